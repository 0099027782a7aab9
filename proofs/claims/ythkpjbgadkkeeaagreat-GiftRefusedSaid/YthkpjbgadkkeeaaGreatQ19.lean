/- Z-numbers. The fewest visits that are refused, and the fewest entries that are wrong: by the reference. Conditions: those of each law. -/
import Derived.Test.YthkpjbgadkkeeaaGreatQ18
set_option linter.unusedSimpArgs false
set_option linter.unusedVariables false
namespace Go.Proofs.YthkpjbgadkkeeaaGreat
open Go.Proofs

theorem choices_at {n : Nat} (hn : n ≤ 5) {k : Nat} (hk : k ≤ n) {i : Nat} (hi : i < (choicesL n k).length) : ∃ t, (choicesL n k)[i]? = some t ∧ (choicesL n k).getD i [] = t ∧ t.length ≤ 5 := by
  have hx := List.getElem?_eq_getElem hi
  obtain ⟨m1, m2⟩ := choicesL_mem _ k _ (List.getElem_mem hi)
  exact ⟨_, hx, by simp [hi], by omega⟩
theorem choices_bd {n : Nat} (hn : n ≤ 5) {k : Nat} (hk : k ≤ n) : (choicesL n k).length ≤ 3125 := by
  have hlen := choicesL_len (b := n) hn k
  have hp : 5 ^ k ≤ 5 ^ 5 := Nat.pow_le_pow_right (by omega) (by omega)
  omega
theorem choices_last {n : Nat} (hn : n ≤ 5) : (choicesL n n)[0]? = some ((choicesL n n).getD 0 []) ∧ 0 < (choicesL n n).length := by
  have h1 : (choicesL n n).length = 1 := by
    have := List.all_eq_true.1 choices_one n (by simp; omega)
    simpa using this
  refine ⟨?_, by omega⟩
  rw [List.getD_eq_getElem?_getD, List.getElem?_eq_getElem (show 0 < (choicesL n n).length by omega)]; rfl
set_option maxHeartbeats 1000000 in
theorem cRefuse (d : Fu) (hd : d.fits) (h : Heap) : callPure (EW tabX) 21 [eF d] h = some (vP (refuseP d), h) := by
  have h53 := c53 d hd 0 1 (by omega)
  have hcl := eF_clean d
  rw [ask_enter] at h53
  rw [callPure_eq, w_call _ fn_21 rfl]
  unfold refuseP
  simp only [eF_eq] at h53 hcl ⊢
  by_cases h0 : enterE d 0 = 0
  rotate_left
  · rw [if_neg h0]
    have hne : (enterE d 0 != 0) = true := by simpa using h0
    simp only [go_sem, ↓reduceIte, Nat.reduceBEq, Nat.reduceEqDiff, Nat.reduceLT, Nat.reduceLeDiff, Nat.reduceAdd, Nat.reduceMul, Nat.reduceSub, reduceCtorEq, Int.reduceLT, Int.reduceLE, Int.reduceEq, Int.reduceBEq, Int.reduceBNe, Int.reduceToNat, Int.reduceAdd, Int.reduceNeg, Int.reduceSub, h53, hne, vP, vI]
  rw [if_pos h0]
  obtain ⟨k1, k2, k3⟩ := enterE_zero h0
  have ho := ok_of_check k1
  have hv5 := ho.visits
  rw [refuse_first ho k3]
  have hmost := fun l hl => cMost d hd ho k3 l hl
  simp only [eF_eq] at hmost
  generalize hQ : (fun l => decide (mostL d l d.visits.length ≤ d.pence)) = Q
  have hq : ∀ l, Q l = decide (mostL d l d.visits.length ≤ d.pence) := fun l => by rw [← hQ]
  clear hQ
  simp only [go_sem, ↓reduceIte, Nat.reduceBEq, Nat.reduceEqDiff, Nat.reduceLT, Nat.reduceLeDiff, Nat.reduceAdd, Nat.reduceMul, Nat.reduceSub, reduceCtorEq, Int.reduceLT, Int.reduceLE, Int.reduceEq, Int.reduceBEq, Int.reduceBNe, Int.reduceToNat, Int.reduceAdd, Int.reduceNeg, Int.reduceSub, h53, h0]
  rw [w_first (fun k => [(5, .int .i64 (k : Int))]) (fun _ => ⟨[.cells (eFc d)], []⟩) (hitK Q d.visits.length) d.visits.length .ret
    (fun k => match firstBad (hitC Q (choicesL d.visits.length k)) 0 (choicesL d.visits.length k).length with
      | some i => [(2, vI ((choicesL d.visits.length k).getD i [])), (3, .int .i64 0), (5, .int .i64 (k : Int)), (6, vC (choicesL d.visits.length k)), (7, .int .i64 (i : Int))]
      | none => [])
    (fun _ => ⟨[.cells (eFc d)], []⟩) (.exit 0) [(5, .int .i64 (d.visits.length : Int))] ⟨[.cells (eFc d)], []⟩ ?_ ?_ ?_ ?_ ?_ rfl rfl]
  · unfold firstW firstL atK
    cases h1 : firstBad (hitK Q d.visits.length) 0 d.visits.length with
    | some k =>
      have hne := (firstBad_some h1).2.2.1
      unfold hitK at hne
      cases h2 : firstBad (hitC Q (choicesL d.visits.length k)) 0 (choicesL d.visits.length k).length with
      | some i => simp only [go_sem, ↓reduceIte, Nat.reduceBEq, Nat.reduceEqDiff, Nat.reduceLT, Nat.reduceLeDiff, Nat.reduceAdd, Nat.reduceMul, Nat.reduceSub, reduceCtorEq, Int.reduceLT, Int.reduceLE, Int.reduceEq, Int.reduceBEq, Int.reduceBNe, Int.reduceToNat, Int.reduceAdd, Int.reduceNeg, Int.reduceSub, eFc, h2, vP, vI]
      | none => rw [h2] at hne; exact absurd rfl hne
    | none =>
      have hch := cChoices d.visits.length d.visits.length hv5 hv5
      obtain ⟨g1, g2⟩ := choices_last hv5
      have hz1 : zT 1 (choicesL d.visits.length d.visits.length).length = 1 := zT_pos g2
      have g3 : (0 : Int) < (choicesL d.visits.length d.visits.length).length := by omega
      generalize choicesL d.visits.length d.visits.length = l at *
      simp only [vC] at hch
      simp only [go_sem, ↓reduceIte, Nat.reduceBEq, Nat.reduceEqDiff, Nat.reduceLT, Nat.reduceLeDiff, Nat.reduceAdd, Nat.reduceMul, Nat.reduceSub, reduceCtorEq, Int.reduceLT, Int.reduceLE, Int.reduceEq, Int.reduceBEq, Int.reduceBNe, Int.reduceToNat, Int.reduceAdd, Int.reduceNeg, Int.reduceSub, eFc, hch, g1, g2, g3, hz1, vP, vI]
  · simp only [go_sem, ↓reduceIte, Nat.reduceBEq, Nat.reduceEqDiff, Nat.reduceLT, Nat.reduceLeDiff, Nat.reduceAdd, Nat.reduceMul, Nat.reduceSub, reduceCtorEq, Int.reduceLT, Int.reduceLE, Int.reduceEq, Int.reduceBEq, Int.reduceBNe, Int.reduceToNat, Int.reduceAdd, Int.reduceNeg, Int.reduceSub, eFc]
  · rfl
  · intro k hk hz
    have hki : (k : Int) < d.visits.length := by omega
    have hw : IntKind.i64.wrap ((k : Int) + 1) = (k : Int) + 1 := wrap_i64 (by omega)
    have hch := cChoices d.visits.length k hv5 (by omega)
    have hin := fun i hi => choices_at hv5 (show k ≤ d.visits.length by omega) (i := i) hi
    have hlen := choices_bd hv5 (show k ≤ d.visits.length by omega)
    unfold hitK at hz
    generalize choicesL d.visits.length k = l at hch hin hz hlen ⊢
    simp only [vC] at hch
    simp only [go_sem, ↓reduceIte, Nat.reduceBEq, Nat.reduceEqDiff, Nat.reduceLT, Nat.reduceLeDiff, Nat.reduceAdd, Nat.reduceMul, Nat.reduceSub, reduceCtorEq, Int.reduceLT, Int.reduceLE, Int.reduceEq, Int.reduceBEq, Int.reduceBNe, Int.reduceToNat, Int.reduceAdd, Int.reduceNeg, Int.reduceSub, eFc, hki, hch]
    rw [w_first (fun i => [(7, .int .i64 (i : Int))]) (fun _ => ⟨[.cells (eFc d)], []⟩) (hitC Q l) l.length .ret (fun i => [(2, vI (l.getD i [])), (3, .int .i64 0), (7, .int .i64 (i : Int))]) (fun _ => ⟨[.cells (eFc d)], []⟩) (.exit 2) [(7, .int .i64 (l.length : Int))] ⟨[.cells (eFc d)], []⟩ ?_ ?_ ?_ ?_ ?_ rfl rfl]
    · unfold firstW
      cases h2 : firstBad (hitC Q l) 0 l.length with
      | some i => rw [h2] at hz; cases hz
      | none => simp only [go_sem, ↓reduceIte, Nat.reduceBEq, Nat.reduceEqDiff, Nat.reduceLT, Nat.reduceLeDiff, Nat.reduceAdd, Nat.reduceMul, Nat.reduceSub, reduceCtorEq, Int.reduceLT, Int.reduceLE, Int.reduceEq, Int.reduceBEq, Int.reduceBNe, Int.reduceToNat, Int.reduceAdd, Int.reduceNeg, Int.reduceSub, eFc, hw]
    · simp only [go_sem, ↓reduceIte, Nat.reduceBEq, Nat.reduceEqDiff, Nat.reduceLT, Nat.reduceLeDiff, Nat.reduceAdd, Nat.reduceMul, Nat.reduceSub, reduceCtorEq, Int.reduceLT, Int.reduceLE, Int.reduceEq, Int.reduceBEq, Int.reduceBNe, Int.reduceToNat, Int.reduceAdd, Int.reduceNeg, Int.reduceSub, eFc]
    · rfl
    · intro i hi hiz
      have hii : (i : Int) < l.length := by omega
      have hwi : IntKind.i64.wrap ((i : Int) + 1) = (i : Int) + 1 := wrap_i64 (by omega)
      obtain ⟨t, t1, t2, t3⟩ := hin i hi
      have hzt : zT 1 l.length = 1 := zT_pos (by omega)
      unfold hitC at hiz
      rw [t2, hq] at hiz
      have hsb : ¬ mostL d t d.visits.length ≤ d.pence := fun hle => by rw [decide_eq_true hle] at hiz; cases hiz
      have hm := hmost t (by omega)
      simp only [vI] at hm
      simp only [go_sem, ↓reduceIte, Nat.reduceBEq, Nat.reduceEqDiff, Nat.reduceLT, Nat.reduceLeDiff, Nat.reduceAdd, Nat.reduceMul, Nat.reduceSub, reduceCtorEq, Int.reduceLT, Int.reduceLE, Int.reduceEq, Int.reduceBEq, Int.reduceBNe, Int.reduceToNat, Int.reduceAdd, Int.reduceNeg, Int.reduceSub, eFc, hii, t1, hzt, vI, hm, hsb, hwi]
    · intro i hi hiz
      have hii : (i : Int) < l.length := by omega
      obtain ⟨t, t1, t2, t3⟩ := hin i hi
      have hzt : zT 1 l.length = 1 := zT_pos (by omega)
      unfold hitC at hiz
      rw [t2, hq] at hiz
      rw [t2]
      have hsb : mostL d t d.visits.length ≤ d.pence := Decidable.byContradiction fun hle => by rw [decide_eq_false hle] at hiz; exact hiz rfl
      have hm := hmost t (by omega)
      simp only [vI] at hm
      simp only [go_sem, ↓reduceIte, Nat.reduceBEq, Nat.reduceEqDiff, Nat.reduceLT, Nat.reduceLeDiff, Nat.reduceAdd, Nat.reduceMul, Nat.reduceSub, reduceCtorEq, Int.reduceLT, Int.reduceLE, Int.reduceEq, Int.reduceBEq, Int.reduceBNe, Int.reduceToNat, Int.reduceAdd, Int.reduceNeg, Int.reduceSub, eFc, hii, t1, hzt, vI, hm, hsb]
    · simp only [go_sem, ↓reduceIte, Nat.reduceBEq, Nat.reduceEqDiff, Nat.reduceLT, Nat.reduceLeDiff, Nat.reduceAdd, Nat.reduceMul, Nat.reduceSub, reduceCtorEq, Int.reduceLT, Int.reduceLE, Int.reduceEq, Int.reduceBEq, Int.reduceBNe, Int.reduceToNat, Int.reduceAdd, Int.reduceNeg, Int.reduceSub, eFc, Int.lt_irrefl]
  · intro k hk hz
    have hki : (k : Int) < d.visits.length := by omega
    have hch := cChoices d.visits.length k hv5 (by omega)
    have hin := fun i hi => choices_at hv5 (show k ≤ d.visits.length by omega) (i := i) hi
    have hlen := choices_bd hv5 (show k ≤ d.visits.length by omega)
    unfold hitK at hz
    generalize choicesL d.visits.length k = l at hch hin hz hlen ⊢
    simp only [vC] at hch
    simp only [go_sem, ↓reduceIte, Nat.reduceBEq, Nat.reduceEqDiff, Nat.reduceLT, Nat.reduceLeDiff, Nat.reduceAdd, Nat.reduceMul, Nat.reduceSub, reduceCtorEq, Int.reduceLT, Int.reduceLE, Int.reduceEq, Int.reduceBEq, Int.reduceBNe, Int.reduceToNat, Int.reduceAdd, Int.reduceNeg, Int.reduceSub, eFc, hki, hch]
    rw [w_first (fun i => [(7, .int .i64 (i : Int))]) (fun _ => ⟨[.cells (eFc d)], []⟩) (hitC Q l) l.length .ret (fun i => [(2, vI (l.getD i [])), (3, .int .i64 0), (7, .int .i64 (i : Int))]) (fun _ => ⟨[.cells (eFc d)], []⟩) (.exit 2) [(7, .int .i64 (l.length : Int))] ⟨[.cells (eFc d)], []⟩ ?_ ?_ ?_ ?_ ?_ rfl rfl]
    · unfold firstW
      cases h2 : firstBad (hitC Q l) 0 l.length with
      | some i => simp only [go_sem, ↓reduceIte, Nat.reduceBEq, Nat.reduceEqDiff, Nat.reduceLT, Nat.reduceLeDiff, Nat.reduceAdd, Nat.reduceMul, Nat.reduceSub, reduceCtorEq, Int.reduceLT, Int.reduceLE, Int.reduceEq, Int.reduceBEq, Int.reduceBNe, Int.reduceToNat, Int.reduceAdd, Int.reduceNeg, Int.reduceSub, eFc, vC]
      | none => rw [h2] at hz; exact absurd rfl hz
    · simp only [go_sem, ↓reduceIte, Nat.reduceBEq, Nat.reduceEqDiff, Nat.reduceLT, Nat.reduceLeDiff, Nat.reduceAdd, Nat.reduceMul, Nat.reduceSub, reduceCtorEq, Int.reduceLT, Int.reduceLE, Int.reduceEq, Int.reduceBEq, Int.reduceBNe, Int.reduceToNat, Int.reduceAdd, Int.reduceNeg, Int.reduceSub, eFc]
    · rfl
    · intro i hi hiz
      have hii : (i : Int) < l.length := by omega
      have hwi : IntKind.i64.wrap ((i : Int) + 1) = (i : Int) + 1 := wrap_i64 (by omega)
      obtain ⟨t, t1, t2, t3⟩ := hin i hi
      have hzt : zT 1 l.length = 1 := zT_pos (by omega)
      unfold hitC at hiz
      rw [t2, hq] at hiz
      have hsb : ¬ mostL d t d.visits.length ≤ d.pence := fun hle => by rw [decide_eq_true hle] at hiz; cases hiz
      have hm := hmost t (by omega)
      simp only [vI] at hm
      simp only [go_sem, ↓reduceIte, Nat.reduceBEq, Nat.reduceEqDiff, Nat.reduceLT, Nat.reduceLeDiff, Nat.reduceAdd, Nat.reduceMul, Nat.reduceSub, reduceCtorEq, Int.reduceLT, Int.reduceLE, Int.reduceEq, Int.reduceBEq, Int.reduceBNe, Int.reduceToNat, Int.reduceAdd, Int.reduceNeg, Int.reduceSub, eFc, hii, t1, hzt, vI, hm, hsb, hwi]
    · intro i hi hiz
      have hii : (i : Int) < l.length := by omega
      obtain ⟨t, t1, t2, t3⟩ := hin i hi
      have hzt : zT 1 l.length = 1 := zT_pos (by omega)
      unfold hitC at hiz
      rw [t2, hq] at hiz
      rw [t2]
      have hsb : mostL d t d.visits.length ≤ d.pence := Decidable.byContradiction fun hle => by rw [decide_eq_false hle] at hiz; exact hiz rfl
      have hm := hmost t (by omega)
      simp only [vI] at hm
      simp only [go_sem, ↓reduceIte, Nat.reduceBEq, Nat.reduceEqDiff, Nat.reduceLT, Nat.reduceLeDiff, Nat.reduceAdd, Nat.reduceMul, Nat.reduceSub, reduceCtorEq, Int.reduceLT, Int.reduceLE, Int.reduceEq, Int.reduceBEq, Int.reduceBNe, Int.reduceToNat, Int.reduceAdd, Int.reduceNeg, Int.reduceSub, eFc, hii, t1, hzt, vI, hm, hsb]
    · simp only [go_sem, ↓reduceIte, Nat.reduceBEq, Nat.reduceEqDiff, Nat.reduceLT, Nat.reduceLeDiff, Nat.reduceAdd, Nat.reduceMul, Nat.reduceSub, reduceCtorEq, Int.reduceLT, Int.reduceLE, Int.reduceEq, Int.reduceBEq, Int.reduceBNe, Int.reduceToNat, Int.reduceAdd, Int.reduceNeg, Int.reduceSub, eFc, Int.lt_irrefl]
  · simp only [go_sem, ↓reduceIte, Nat.reduceBEq, Nat.reduceEqDiff, Nat.reduceLT, Nat.reduceLeDiff, Nat.reduceAdd, Nat.reduceMul, Nat.reduceSub, reduceCtorEq, Int.reduceLT, Int.reduceLE, Int.reduceEq, Int.reduceBEq, Int.reduceBNe, Int.reduceToNat, Int.reduceAdd, Int.reduceNeg, Int.reduceSub, eFc, Int.lt_irrefl]
end Go.Proofs.YthkpjbgadkkeeaaGreat
