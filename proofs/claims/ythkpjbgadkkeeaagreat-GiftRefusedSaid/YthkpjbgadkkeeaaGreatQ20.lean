/- Z-numbers. The fewest entries that are wrong, by the reference. Conditions: those of each law. -/
import Derived.Test.YthkpjbgadkkeeaaGreatQ19
set_option linter.unusedSimpArgs false
set_option linter.unusedVariables false
namespace Go.Proofs.YthkpjbgadkkeeaaGreat
open Go.Proofs

set_option maxHeartbeats 1000000 in
theorem cWrong (d : Fu) (hd : d.fits) (h : Heap) : callPure (EW tabX) 24 [eF d] h = some (vP (wrongP d), h) := by
  have h10 := c10 d hd
  have hce : (checkF d).2.2 = checkE d := rfl
  have hcl := eF_clean d
  rw [callPure_eq, w_call _ fn_24 rfl]
  unfold wrongP
  simp only [eF_eq, tup3, hce] at h10 hcl ⊢
  by_cases h0 : checkE d = 0
  rotate_left
  · rw [if_neg h0]
    have hne : (checkE d != 0) = true := by simpa using h0
    simp only [go_sem, ↓reduceIte, Nat.reduceBEq, Nat.reduceEqDiff, Nat.reduceLT, Nat.reduceLeDiff, Nat.reduceAdd, Nat.reduceMul, Nat.reduceSub, reduceCtorEq, Int.reduceLT, Int.reduceLE, Int.reduceEq, Int.reduceBEq, Int.reduceBNe, Int.reduceToNat, Int.reduceAdd, Int.reduceNeg, Int.reduceSub, h10, hne, vP, vI]
  rw [if_pos h0]
  have ho := ok_of_check h0
  have hv5 : d.entries.length ≤ 5 := by have := ho.entries; omega
  rw [wrong_first ho]
  have hmost := fun l hl => c26 d hd ho l hl
  simp only [eF_eq] at hmost
  generalize hQ : (fun l => someR d l d.visits.length) = Q
  have hq : ∀ l, Q l = someR d l d.visits.length := fun l => by rw [← hQ]
  clear hQ
  simp only [go_sem, ↓reduceIte, Nat.reduceBEq, Nat.reduceEqDiff, Nat.reduceLT, Nat.reduceLeDiff, Nat.reduceAdd, Nat.reduceMul, Nat.reduceSub, reduceCtorEq, Int.reduceLT, Int.reduceLE, Int.reduceEq, Int.reduceBEq, Int.reduceBNe, Int.reduceToNat, Int.reduceAdd, Int.reduceNeg, Int.reduceSub, h10, h0]
  rw [w_first (fun k => [(7, .int .i64 (k : Int))]) (fun _ => ⟨[.cells (eFc d)], []⟩) (hitK Q d.entries.length) d.entries.length .ret
    (fun k => match firstBad (hitC Q (choicesL d.entries.length k)) 0 (choicesL d.entries.length k).length with
      | some i => [(2, vI ((choicesL d.entries.length k).getD i [])), (3, .int .i64 0), (7, .int .i64 (k : Int)), (8, vC (choicesL d.entries.length k)), (9, .int .i64 (i : Int))]
      | none => [])
    (fun _ => ⟨[.cells (eFc d)], []⟩) (.exit 0) [(7, .int .i64 (d.entries.length : Int))] ⟨[.cells (eFc d)], []⟩ ?_ ?_ ?_ ?_ ?_ rfl rfl]
  · unfold firstW firstL atK
    cases h1 : firstBad (hitK Q d.entries.length) 0 d.entries.length with
    | some k =>
      have hne := (firstBad_some h1).2.2.1
      unfold hitK at hne
      cases h2 : firstBad (hitC Q (choicesL d.entries.length k)) 0 (choicesL d.entries.length k).length with
      | some i => simp only [go_sem, ↓reduceIte, Nat.reduceBEq, Nat.reduceEqDiff, Nat.reduceLT, Nat.reduceLeDiff, Nat.reduceAdd, Nat.reduceMul, Nat.reduceSub, reduceCtorEq, Int.reduceLT, Int.reduceLE, Int.reduceEq, Int.reduceBEq, Int.reduceBNe, Int.reduceToNat, Int.reduceAdd, Int.reduceNeg, Int.reduceSub, eFc, h2, vP, vI]
      | none => rw [h2] at hne; exact absurd rfl hne
    | none =>
      have hch := cChoices d.entries.length d.entries.length hv5 hv5
      obtain ⟨g1, g2⟩ := choices_last hv5
      have hz1 : zT 1 (choicesL d.entries.length d.entries.length).length = 1 := zT_pos g2
      have g3 : (0 : Int) < (choicesL d.entries.length d.entries.length).length := by omega
      generalize choicesL d.entries.length d.entries.length = l at *
      simp only [vC] at hch
      simp only [go_sem, ↓reduceIte, Nat.reduceBEq, Nat.reduceEqDiff, Nat.reduceLT, Nat.reduceLeDiff, Nat.reduceAdd, Nat.reduceMul, Nat.reduceSub, reduceCtorEq, Int.reduceLT, Int.reduceLE, Int.reduceEq, Int.reduceBEq, Int.reduceBNe, Int.reduceToNat, Int.reduceAdd, Int.reduceNeg, Int.reduceSub, eFc, hch, g1, g2, g3, hz1, vP, vI]
  · simp only [go_sem, ↓reduceIte, Nat.reduceBEq, Nat.reduceEqDiff, Nat.reduceLT, Nat.reduceLeDiff, Nat.reduceAdd, Nat.reduceMul, Nat.reduceSub, reduceCtorEq, Int.reduceLT, Int.reduceLE, Int.reduceEq, Int.reduceBEq, Int.reduceBNe, Int.reduceToNat, Int.reduceAdd, Int.reduceNeg, Int.reduceSub, eFc]
  · rfl
  · intro k hk hz
    have hki : (k : Int) < d.entries.length := by omega
    have hw : IntKind.i64.wrap ((k : Int) + 1) = (k : Int) + 1 := wrap_i64 (by omega)
    have hch := cChoices d.entries.length k hv5 (by omega)
    have hin := fun i hi => choices_at hv5 (show k ≤ d.entries.length by omega) (i := i) hi
    have hlen := choices_bd hv5 (show k ≤ d.entries.length by omega)
    unfold hitK at hz
    generalize choicesL d.entries.length k = l at hch hin hz hlen ⊢
    simp only [vC] at hch
    simp only [go_sem, ↓reduceIte, Nat.reduceBEq, Nat.reduceEqDiff, Nat.reduceLT, Nat.reduceLeDiff, Nat.reduceAdd, Nat.reduceMul, Nat.reduceSub, reduceCtorEq, Int.reduceLT, Int.reduceLE, Int.reduceEq, Int.reduceBEq, Int.reduceBNe, Int.reduceToNat, Int.reduceAdd, Int.reduceNeg, Int.reduceSub, eFc, hki, hch]
    rw [w_first (fun i => [(9, .int .i64 (i : Int))]) (fun _ => ⟨[.cells (eFc d)], []⟩) (hitC Q l) l.length .ret (fun i => [(2, vI (l.getD i [])), (3, .int .i64 0), (9, .int .i64 (i : Int))]) (fun _ => ⟨[.cells (eFc d)], []⟩) (.exit 2) [(9, .int .i64 (l.length : Int))] ⟨[.cells (eFc d)], []⟩ ?_ ?_ ?_ ?_ ?_ rfl rfl]
    · unfold firstW
      cases h2 : firstBad (hitC Q l) 0 l.length with
      | some i => rw [h2] at hz; cases hz
      | none => simp only [go_sem, ↓reduceIte, Nat.reduceBEq, Nat.reduceEqDiff, Nat.reduceLT, Nat.reduceLeDiff, Nat.reduceAdd, Nat.reduceMul, Nat.reduceSub, reduceCtorEq, Int.reduceLT, Int.reduceLE, Int.reduceEq, Int.reduceBEq, Int.reduceBNe, Int.reduceToNat, Int.reduceAdd, Int.reduceNeg, Int.reduceSub, eFc, hw]
    · simp only [go_sem, ↓reduceIte, Nat.reduceBEq, Nat.reduceEqDiff, Nat.reduceLT, Nat.reduceLeDiff, Nat.reduceAdd, Nat.reduceMul, Nat.reduceSub, reduceCtorEq, Int.reduceLT, Int.reduceLE, Int.reduceEq, Int.reduceBEq, Int.reduceBNe, Int.reduceToNat, Int.reduceAdd, Int.reduceNeg, Int.reduceSub, eFc]
    · rfl
    · intro i hi hiz
      have hii : (i : Int) < l.length := by omega
      have hwi : IntKind.i64.wrap ((i : Int) + 1) = (i : Int) + 1 := wrap_i64 (by omega)
      obtain ⟨t, t1, t2, t3⟩ := hin i hi
      have hzt : zT 1 l.length = 1 := zT_pos (by omega)
      unfold hitC at hiz
      rw [t2, hq] at hiz
      have hsb : someR d t d.visits.length = false := by cases hs : someR d t d.visits.length with | false => rfl | true => rw [hs] at hiz; cases hiz
      have hm := hmost t (by omega)
      rw [hsb] at hm
      simp only [vI] at hm
      simp only [go_sem, ↓reduceIte, Nat.reduceBEq, Nat.reduceEqDiff, Nat.reduceLT, Nat.reduceLeDiff, Nat.reduceAdd, Nat.reduceMul, Nat.reduceSub, reduceCtorEq, Int.reduceLT, Int.reduceLE, Int.reduceEq, Int.reduceBEq, Int.reduceBNe, Int.reduceToNat, Int.reduceAdd, Int.reduceNeg, Int.reduceSub, eFc, hii, t1, hzt, vI, hm, hwi]
    · intro i hi hiz
      have hii : (i : Int) < l.length := by omega
      obtain ⟨t, t1, t2, t3⟩ := hin i hi
      have hzt : zT 1 l.length = 1 := zT_pos (by omega)
      unfold hitC at hiz
      rw [t2, hq] at hiz
      rw [t2]
      have hsb : someR d t d.visits.length = true := by cases hs : someR d t d.visits.length with | true => rfl | false => rw [hs] at hiz; exact absurd rfl hiz
      have hm := hmost t (by omega)
      rw [hsb] at hm
      simp only [vI] at hm
      simp only [go_sem, ↓reduceIte, Nat.reduceBEq, Nat.reduceEqDiff, Nat.reduceLT, Nat.reduceLeDiff, Nat.reduceAdd, Nat.reduceMul, Nat.reduceSub, reduceCtorEq, Int.reduceLT, Int.reduceLE, Int.reduceEq, Int.reduceBEq, Int.reduceBNe, Int.reduceToNat, Int.reduceAdd, Int.reduceNeg, Int.reduceSub, eFc, hii, t1, hzt, vI, hm]
    · simp only [go_sem, ↓reduceIte, Nat.reduceBEq, Nat.reduceEqDiff, Nat.reduceLT, Nat.reduceLeDiff, Nat.reduceAdd, Nat.reduceMul, Nat.reduceSub, reduceCtorEq, Int.reduceLT, Int.reduceLE, Int.reduceEq, Int.reduceBEq, Int.reduceBNe, Int.reduceToNat, Int.reduceAdd, Int.reduceNeg, Int.reduceSub, eFc, Int.lt_irrefl]
  · intro k hk hz
    have hki : (k : Int) < d.entries.length := by omega
    have hch := cChoices d.entries.length k hv5 (by omega)
    have hin := fun i hi => choices_at hv5 (show k ≤ d.entries.length by omega) (i := i) hi
    have hlen := choices_bd hv5 (show k ≤ d.entries.length by omega)
    unfold hitK at hz
    generalize choicesL d.entries.length k = l at hch hin hz hlen ⊢
    simp only [vC] at hch
    simp only [go_sem, ↓reduceIte, Nat.reduceBEq, Nat.reduceEqDiff, Nat.reduceLT, Nat.reduceLeDiff, Nat.reduceAdd, Nat.reduceMul, Nat.reduceSub, reduceCtorEq, Int.reduceLT, Int.reduceLE, Int.reduceEq, Int.reduceBEq, Int.reduceBNe, Int.reduceToNat, Int.reduceAdd, Int.reduceNeg, Int.reduceSub, eFc, hki, hch]
    rw [w_first (fun i => [(9, .int .i64 (i : Int))]) (fun _ => ⟨[.cells (eFc d)], []⟩) (hitC Q l) l.length .ret (fun i => [(2, vI (l.getD i [])), (3, .int .i64 0), (9, .int .i64 (i : Int))]) (fun _ => ⟨[.cells (eFc d)], []⟩) (.exit 2) [(9, .int .i64 (l.length : Int))] ⟨[.cells (eFc d)], []⟩ ?_ ?_ ?_ ?_ ?_ rfl rfl]
    · unfold firstW
      cases h2 : firstBad (hitC Q l) 0 l.length with
      | some i => simp only [go_sem, ↓reduceIte, Nat.reduceBEq, Nat.reduceEqDiff, Nat.reduceLT, Nat.reduceLeDiff, Nat.reduceAdd, Nat.reduceMul, Nat.reduceSub, reduceCtorEq, Int.reduceLT, Int.reduceLE, Int.reduceEq, Int.reduceBEq, Int.reduceBNe, Int.reduceToNat, Int.reduceAdd, Int.reduceNeg, Int.reduceSub, eFc, vC]
      | none => rw [h2] at hz; exact absurd rfl hz
    · simp only [go_sem, ↓reduceIte, Nat.reduceBEq, Nat.reduceEqDiff, Nat.reduceLT, Nat.reduceLeDiff, Nat.reduceAdd, Nat.reduceMul, Nat.reduceSub, reduceCtorEq, Int.reduceLT, Int.reduceLE, Int.reduceEq, Int.reduceBEq, Int.reduceBNe, Int.reduceToNat, Int.reduceAdd, Int.reduceNeg, Int.reduceSub, eFc]
    · rfl
    · intro i hi hiz
      have hii : (i : Int) < l.length := by omega
      have hwi : IntKind.i64.wrap ((i : Int) + 1) = (i : Int) + 1 := wrap_i64 (by omega)
      obtain ⟨t, t1, t2, t3⟩ := hin i hi
      have hzt : zT 1 l.length = 1 := zT_pos (by omega)
      unfold hitC at hiz
      rw [t2, hq] at hiz
      have hsb : someR d t d.visits.length = false := by cases hs : someR d t d.visits.length with | false => rfl | true => rw [hs] at hiz; cases hiz
      have hm := hmost t (by omega)
      rw [hsb] at hm
      simp only [vI] at hm
      simp only [go_sem, ↓reduceIte, Nat.reduceBEq, Nat.reduceEqDiff, Nat.reduceLT, Nat.reduceLeDiff, Nat.reduceAdd, Nat.reduceMul, Nat.reduceSub, reduceCtorEq, Int.reduceLT, Int.reduceLE, Int.reduceEq, Int.reduceBEq, Int.reduceBNe, Int.reduceToNat, Int.reduceAdd, Int.reduceNeg, Int.reduceSub, eFc, hii, t1, hzt, vI, hm, hwi]
    · intro i hi hiz
      have hii : (i : Int) < l.length := by omega
      obtain ⟨t, t1, t2, t3⟩ := hin i hi
      have hzt : zT 1 l.length = 1 := zT_pos (by omega)
      unfold hitC at hiz
      rw [t2, hq] at hiz
      rw [t2]
      have hsb : someR d t d.visits.length = true := by cases hs : someR d t d.visits.length with | true => rfl | false => rw [hs] at hiz; exact absurd rfl hiz
      have hm := hmost t (by omega)
      rw [hsb] at hm
      simp only [vI] at hm
      simp only [go_sem, ↓reduceIte, Nat.reduceBEq, Nat.reduceEqDiff, Nat.reduceLT, Nat.reduceLeDiff, Nat.reduceAdd, Nat.reduceMul, Nat.reduceSub, reduceCtorEq, Int.reduceLT, Int.reduceLE, Int.reduceEq, Int.reduceBEq, Int.reduceBNe, Int.reduceToNat, Int.reduceAdd, Int.reduceNeg, Int.reduceSub, eFc, hii, t1, hzt, vI, hm]
    · simp only [go_sem, ↓reduceIte, Nat.reduceBEq, Nat.reduceEqDiff, Nat.reduceLT, Nat.reduceLeDiff, Nat.reduceAdd, Nat.reduceMul, Nat.reduceSub, reduceCtorEq, Int.reduceLT, Int.reduceLE, Int.reduceEq, Int.reduceBEq, Int.reduceBNe, Int.reduceToNat, Int.reduceAdd, Int.reduceNeg, Int.reduceSub, eFc, Int.lt_irrefl]
  · simp only [go_sem, ↓reduceIte, Nat.reduceBEq, Nat.reduceEqDiff, Nat.reduceLT, Nat.reduceLeDiff, Nat.reduceAdd, Nat.reduceMul, Nat.reduceSub, reduceCtorEq, Int.reduceLT, Int.reduceLE, Int.reduceEq, Int.reduceBEq, Int.reduceBNe, Int.reduceToNat, Int.reduceAdd, Int.reduceNeg, Int.reduceSub, eFc, Int.lt_irrefl]
end Go.Proofs.YthkpjbgadkkeeaaGreat
