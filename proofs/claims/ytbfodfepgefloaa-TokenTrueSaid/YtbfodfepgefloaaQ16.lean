/- The body of TokenFits. Conditions: those of each law. -/
import Derived.Test.YtbfodfepgefloaaQ15
set_option linter.unusedSimpArgs false
set_option linter.unusedVariables false
namespace Go.Proofs.Ytbfodfepgefloaa
open Go.Proofs

theorem vI_same (l : List Int) (hl : l.length < 1000000000000000000) (h : Heap) : callPure (EW tabX) 20 [vI l, vI l] h = some (.bool true, h) := by
  have := c20 l l (zT 1 l.length) (zT 1 l.length) zT_ne zT_ne hl hl h
  rw [vI, this]; simp
theorem vI_var (l : List Int) : (vI l).var = true := rfl
theorem fitsAV_shape (d : Dr) (c e : Int) : ∃ l r, fitsAV d c e = .tup [vI l, .int .i64 r] ∧ l.length < 1000000000000000000 := by
  unfold fitsAV
  split
  · rename_i h
    split
    · refine ⟨_, _, rfl, ?_⟩
      have hc : (checkT d).2.2 = 0 := by
        unfold askedE at h
        split at h
        · assumption
        · rename_i hx; exact absurd h hx
      have := (ok_of_check hc).1.s6
      have := fitsL_len d (d.cards.getD c.toNat ⟨default, []⟩) (d.halves.getD e.toNat ⟨default, []⟩) d.steps.toNat
      omega
    · exact ⟨[], _, rfl, by decide⟩
  · exact ⟨[], _, rfl, by decide⟩
theorem ne_same (x : Int) : (x != x) = false := by simp
theorem l3 (d : Dr) (hd : d.fits) (c : Int) (_ : -9223372036854775808 ≤ c ∧ c ≤ 9223372036854775807) (e : Int) (_ : -9223372036854775808 ≤ e ∧ e ≤ 9223372036854775807) : ∃ h', (EW tabX).call 3 [eD d, .int .i64 c, .int .i64 e] noHeap = some (.bool true, h') := by
  have h16 := c16 d hd
  have h17 := c17 d hd
  have h18 := c18 d hd c e
  have h19 : ∀ h, callPure (EW tabX) 19 [eD d, .int .i64 c, .int .i64 e] h = some (fitsAV d c e, h) := c19 d hd c e
  obtain ⟨l, r, hs, hl⟩ := fitsAV_shape d c e
  rw [hs] at h18 h19
  have h20 := vI_same l hl
  have hcl := eD_clean d
  have h21 := c21
  rw [noHeap, w_call _ fn_3 rfl]
  refine ⟨?_, ?_⟩
  rotate_left
  · simp only [go_sem, ↓reduceIte, Nat.reduceBEq, Nat.reduceEqDiff, Nat.reduceLT, Nat.reduceLeDiff, Nat.reduceAdd, Nat.reduceMul, Nat.reduceSub, reduceCtorEq, Int.reduceLT, Int.reduceLE, Int.reduceEq, Int.reduceBEq, Int.reduceBNe, Int.reduceToNat, Int.reduceAdd, Int.reduceNeg, Int.reduceSub, eD, eDc, eC_under, tup3] at hcl h16 h17 h18 h19 ⊢
    simp only [go_sem, ↓reduceIte, Nat.reduceBEq, Nat.reduceEqDiff, Nat.reduceLT, Nat.reduceLeDiff, Nat.reduceAdd, Nat.reduceMul, Nat.reduceSub, reduceCtorEq, Int.reduceLT, Int.reduceLE, Int.reduceEq, Int.reduceBEq, Int.reduceBNe, Int.reduceToNat, Int.reduceAdd, Int.reduceNeg, Int.reduceSub, eC_clean, h16, h17, h18, h19, ne_same, vI_clean, h20, h21]
    rfl
end Go.Proofs.Ytbfodfepgefloaa
