/- The bodies of TokenFirsts, TokenReads and TokenAlikes. Conditions: those of each law. -/
import Derived.Test.YtbfodfepgefloaaQ16
set_option linter.unusedSimpArgs false
set_option linter.unusedVariables false
namespace Go.Proofs.Ytbfodfepgefloaa
open Go.Proofs

theorem forged_len (d : Dr) (h4 : d.halves.length ≤ 4) : (forged d).length ≤ 4 := by
  refine bestL_len 4 _ _ ?_ ?_
  · have := lostN_le (first d); have := (fairL_mem (first_mem d)).2; unfold lostN at *; unfold lostT; omega
  · intro t ht
    have := (fairL_mem (List.mem_of_mem_drop ht)).2; omega
theorem l4 (d : Dr) (hd : d.fits) : ∃ h', (EW tabX).call 4 [eD d] noHeap = some (.bool true, h') := by
  have hcl := eD_clean d
  have h21 := c21
  rw [noHeap, w_call _ fn_4 rfl]
  by_cases hc : (checkT d).2.2 = 0
  · obtain ⟨ho, hk⟩ := ok_of_check hc
    have h4 := ho.h4
    have h22 := c22_yes d hd hc
    obtain ⟨z, hz, h23⟩ := c23_yes d hd hc
    have h24 := c24_yes d hd hc
    have h25 := c25_yes d hd hc
    have hl := (fairL_mem (first_mem d)).2
    have h20a := c20 (first d) (first d) 1 z (fun _ => rfl) hz (by omega) (by omega)
    have h20b := vI_same (forged d) (by have := forged_len d h4; omega)
    rw [decide_eq_true rfl] at h20a
    refine ⟨?_, ?_⟩
    rotate_left
    · simp only [go_sem, ↓reduceIte, Nat.reduceBEq, Nat.reduceEqDiff, Nat.reduceLT, Nat.reduceLeDiff, Nat.reduceAdd, Nat.reduceMul, Nat.reduceSub, reduceCtorEq, Int.reduceLT, Int.reduceLE, Int.reduceEq, Int.reduceBEq, Int.reduceBNe, Int.reduceToNat, Int.reduceAdd, Int.reduceNeg, Int.reduceSub, eD, eDc, eC_under] at hcl h22 h23 h24 h25 ⊢
      simp only [go_sem, ↓reduceIte, Nat.reduceBEq, Nat.reduceEqDiff, Nat.reduceLT, Nat.reduceLeDiff, Nat.reduceAdd, Nat.reduceMul, Nat.reduceSub, reduceCtorEq, Int.reduceLT, Int.reduceLE, Int.reduceEq, Int.reduceBEq, Int.reduceBNe, Int.reduceToNat, Int.reduceAdd, Int.reduceNeg, Int.reduceSub, eC_clean, h22, h23, h24, h25, ne_same, vI_clean, h20a, h20b, h21]
      rfl
  · have h22 := c22_no d hd hc
    have h23 := c23_no d hd hc
    have h24 := c24_no d hd hc
    have h25 := c25_no d hd hc
    have h20b := vI_same [] (by decide)
    refine ⟨?_, ?_⟩
    rotate_left
    · simp only [go_sem, ↓reduceIte, Nat.reduceBEq, Nat.reduceEqDiff, Nat.reduceLT, Nat.reduceLeDiff, Nat.reduceAdd, Nat.reduceMul, Nat.reduceSub, reduceCtorEq, Int.reduceLT, Int.reduceLE, Int.reduceEq, Int.reduceBEq, Int.reduceBNe, Int.reduceToNat, Int.reduceAdd, Int.reduceNeg, Int.reduceSub, eD, eDc, eC_under] at hcl h22 h23 h24 h25 ⊢
      simp only [go_sem, ↓reduceIte, Nat.reduceBEq, Nat.reduceEqDiff, Nat.reduceLT, Nat.reduceLeDiff, Nat.reduceAdd, Nat.reduceMul, Nat.reduceSub, reduceCtorEq, Int.reduceLT, Int.reduceLE, Int.reduceEq, Int.reduceBEq, Int.reduceBNe, Int.reduceToNat, Int.reduceAdd, Int.reduceNeg, Int.reduceSub, eC_clean, h22, h23, h24, h25, ne_same, vI_clean, h20b, h21]
      rfl
theorem l5 (d : Dr) (hd : d.fits) (e : Int) (_ : -9223372036854775808 ≤ e ∧ e ≤ 9223372036854775807) : ∃ h', (EW tabX).call 5 [eD d, .int .i64 e] noHeap = some (.bool true, h') := by
  have hcl := eD_clean d
  have h21 := c21
  rw [noHeap, w_call _ fn_5 rfl]
  by_cases hc : askedE d e d.halves.length = 0
  · obtain ⟨hc0, a0, a1⟩ := asked_yes hc
    obtain ⟨ho, hk⟩ := ok_of_check hc0
    obtain ⟨e, rfl⟩ : ∃ n : Nat, e = n := ⟨e.toNat, by omega⟩
    have hc4 := ho.c4
    have h26 := c26_yes d hd e hc
    have h27 := c27_yes d hd e hc
    have h28 := c28_yes d hd e hc
    have h29 := c29_yes d hd e hc
    have h20b := vI_same (whoseL d e d.cards.length) (by have := whoseL_len d e d.cards.length; omega)
    generalize (if cardV d e = -1 then (0 : Int) else cardV d e) = x at h28 h29
    generalize (if cardV d e = -1 then (9 : Int) else 0) = y at h28 h29
    refine ⟨?_, ?_⟩
    rotate_left
    · simp only [go_sem, ↓reduceIte, Nat.reduceBEq, Nat.reduceEqDiff, Nat.reduceLT, Nat.reduceLeDiff, Nat.reduceAdd, Nat.reduceMul, Nat.reduceSub, reduceCtorEq, Int.reduceLT, Int.reduceLE, Int.reduceEq, Int.reduceBEq, Int.reduceBNe, Int.reduceToNat, Int.reduceAdd, Int.reduceNeg, Int.reduceSub, eD, eDc, eC_under] at hcl h26 h27 h28 h29 ⊢
      simp only [go_sem, ↓reduceIte, Nat.reduceBEq, Nat.reduceEqDiff, Nat.reduceLT, Nat.reduceLeDiff, Nat.reduceAdd, Nat.reduceMul, Nat.reduceSub, reduceCtorEq, Int.reduceLT, Int.reduceLE, Int.reduceEq, Int.reduceBEq, Int.reduceBNe, Int.reduceToNat, Int.reduceAdd, Int.reduceNeg, Int.reduceSub, eC_clean, h26, h27, h28, h29, ne_same, vI_clean, h20b, h21]
      rfl
  · have h26 := c26_no d hd e hc
    have h27 := c27_no d hd e hc
    have h28 := c28_no d hd e hc
    have h29 := c29_no d hd e hc
    have h20b := vI_same [] (by decide)
    refine ⟨?_, ?_⟩
    rotate_left
    · simp only [go_sem, ↓reduceIte, Nat.reduceBEq, Nat.reduceEqDiff, Nat.reduceLT, Nat.reduceLeDiff, Nat.reduceAdd, Nat.reduceMul, Nat.reduceSub, reduceCtorEq, Int.reduceLT, Int.reduceLE, Int.reduceEq, Int.reduceBEq, Int.reduceBNe, Int.reduceToNat, Int.reduceAdd, Int.reduceNeg, Int.reduceSub, eD, eDc, eC_under] at hcl h26 h27 h28 h29 ⊢
      simp only [go_sem, ↓reduceIte, Nat.reduceBEq, Nat.reduceEqDiff, Nat.reduceLT, Nat.reduceLeDiff, Nat.reduceAdd, Nat.reduceMul, Nat.reduceSub, reduceCtorEq, Int.reduceLT, Int.reduceLE, Int.reduceEq, Int.reduceBEq, Int.reduceBNe, Int.reduceToNat, Int.reduceAdd, Int.reduceNeg, Int.reduceSub, eC_clean, h26, h27, h28, h29, ne_same, vI_clean, h20b, h21]
      rfl
end Go.Proofs.Ytbfodfepgefloaa
