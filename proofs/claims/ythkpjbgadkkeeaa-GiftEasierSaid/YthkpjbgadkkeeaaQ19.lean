/- The body of GiftFees. Conditions: those of each law. -/
import Derived.Test.YthkpjbgadkkeeaaQ18
set_option linter.unusedSimpArgs false
set_option linter.unusedVariables false
namespace Go.Proofs.Ythkpjbgadkkeeaa
open Go.Proofs

theorem vI_same (l : List Int) (hl : l.length < 1000000000000000000) (h : Heap) : callPure (EW tabX) 13 [vI l, vI l] h = some (.bool true, h) := by
  have := c13 l l (zT 1 l.length) (zT 1 l.length) (fun h => zT_pos (List.length_pos_iff.2 h)) (fun h => zT_pos (List.length_pos_iff.2 h)) hl hl h
  rw [vI, this]; simp
theorem ne_same (x : Int) : (x != x) = false := by simp
theorem fees_ref (d : Fu) (n : Int) : refFees d n = feesP d n := by
  unfold refFees feesP visitE enterE askE idxE
  by_cases h0 : checkE d = 0
  · have ho := ok_of_check h0
    rw [if_pos h0, if_pos h0]
    cases h1 : out 0 ((d.visits.length : Int) - 1) n with
    | true => simp
    | false =>
      simp only [Bool.false_eq_true, if_false, if_true]
      rw [someR_nil ho, costs_ref ho (same_nil d)]
  · simp only [if_neg h0]
theorem feesP_len (d : Fu) (n : Int) : (feesP d n).1.length < 1000000000000000000 := by
  unfold feesP
  split
  · rename_i h
    obtain ⟨k1, k2, k3⟩ := enterE_zero h
    obtain ⟨k4, k5⟩ := idxE_zero (by decide) k2
    have := costs_len (ok_of_check k1) (but := 0) (k := n.toNat) (by omega)
    show (costs d 0 n.toNat).length < _
    omega
  · show 0 < _; decide
theorem l3 (d : Fu) (hd : d.fits) (n : Int) (_ : -9223372036854775808 ≤ n ∧ n ≤ 9223372036854775807) : ∃ h', (EW tabX).call 3 [eF d, .int .i64 n] noHeap = some (.bool true, h') := by
  have h9 := c9 d hd
  have h10 := c10 d hd
  have h11 := c11 d hd n
  have h12 := c12 d hd n
  have h13 := vI_same (feesP d n).1 (feesP_len d n)
  have hcl := eF_clean d
  have h14 := c14
  rw [fees_ref] at h12
  generalize feesP d n = fv at *
  generalize checkF d = cv at *
  rw [noHeap, w_call _ fn_3 rfl]
  simp only [eF, eFc, tup3, vP] at hcl h9 h10 h11 h12 ⊢
  refine ⟨?_, ?_⟩
  rotate_left
  · simp only [go_sem, ↓reduceIte, Nat.reduceBEq, Nat.reduceEqDiff, Nat.reduceLT, Nat.reduceLeDiff, Nat.reduceAdd, Nat.reduceMul, Nat.reduceSub, reduceCtorEq, Int.reduceLT, Int.reduceLE, Int.reduceEq, Int.reduceBEq, Int.reduceBNe, Int.reduceToNat, Int.reduceAdd, Int.reduceNeg, Int.reduceSub, h9, h10, h11, h12, h13, h14, ne_same, vI_clean, vI_under]
    rfl
end Go.Proofs.Ythkpjbgadkkeeaa
