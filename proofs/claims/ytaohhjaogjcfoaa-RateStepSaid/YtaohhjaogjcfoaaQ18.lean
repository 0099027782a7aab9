/- The body of RateFirsts. Conditions: those of each law. -/
import Derived.Test.YtaohhjaogjcfoaaQ17
set_option linter.unusedSimpArgs false
set_option linter.unusedVariables false
namespace Go.Proofs.Ytaohhjaogjcfoaa
open Go.Proofs

theorem vI_same (l : List Int) (hl : l.length < 1000000000000000000) (h : Heap) : callPure (EW tabX) 20 [vI l, vI l] h = some (.bool true, h) := by
  have := c20 l l (zT 1 l.length) (zT 1 l.length) (fun h => zT_pos (List.length_pos_iff.2 h)) (fun h => zT_pos (List.length_pos_iff.2 h)) hl hl h
  rw [vI, this]; simp
theorem ne_same (x : Int) : (x != x) = false := by simp
theorem firstV_len (d : Ho) : (firstV d).1.length < 1000000000000000000 := by
  unfold firstV
  split
  · rename_i h
    obtain ⟨k1, k2⟩ := knownE_zero h
    have ho := ok_of_E k1
    obtain ⟨t, ts, ht, hm⟩ := truths_cons ho k2
    have := (hm t (by simp)).1
    have := ho.rd
    have := ho.d3
    rw [ht]
    show t.length < _
    omega
  · show 0 < _; decide
theorem l3 (d : Ho) (hd : d.fits) (day : Int) (_ : -9223372036854775808 ≤ day ∧ day ≤ 9223372036854775807) : ∃ h', (EW tabX).call 3 [eH d, .int .i64 day] noHeap = some (.bool true, h') := by
  have h16 := c16 d hd
  have h17 := c17 d hd
  have h18 := c18 d hd
  have h19 := c19 d hd
  have h21 := c21 d hd day
  have h22 := c22 d hd day
  have hlen := firstV_len d
  have h20 := vI_same (firstV d).1 hlen
  have hcl := eH_clean d
  have h23 := c23
  generalize firstV d = fv at *
  generalize rateV d day = rv at *
  generalize checkH d = cv at *
  rw [noHeap, w_call _ fn_3 rfl]
  simp only [eH, eHc, tup3, v3, vS, eSp] at hcl h16 h17 h18 h19 h21 h22 ⊢
  refine ⟨?_, ?_⟩
  rotate_left
  · simp only [go_sem, ↓reduceIte, Nat.reduceBEq, Nat.reduceEqDiff, Nat.reduceLT, Nat.reduceLeDiff, Nat.reduceAdd, Nat.reduceMul, Nat.reduceSub, reduceCtorEq, Int.reduceLT, Int.reduceLE, Int.reduceEq, Int.reduceBEq, Int.reduceBNe, Int.reduceToNat, Int.reduceAdd, Int.reduceNeg, Int.reduceSub, h16, h17, h18, h19, h20, h21, h22, h23, ne_same, vI_clean, vI_under, aggBin, eqCells2, decide_true]
    rfl
end Go.Proofs.Ytaohhjaogjcfoaa
