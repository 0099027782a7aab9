/- Z-numbers. Who surely comes; what all letters cost at most; what the gift needs: by the reference. Conditions: those of each law. -/
import Derived.Test.YthkpjbgadkkeeaaGreatQ17
set_option linter.unusedSimpArgs false
set_option linter.unusedVariables false
namespace Go.Proofs.YthkpjbgadkkeeaaGreat
open Go.Proofs

theorem cComes (d : Fu) (hd : d.fits) (ho : d.Ok) (k : Nat) (hk : k < d.visits.length) (h : Heap) : callPure (EW tabX) 36 [eF d, .int .i64 (k : Int)] h = some (.bool (comesB d k), h) := by
  have hki : (k : Int) < d.visits.length := by omega
  have hx := List.getElem?_eq_getElem hk
  have hzv := hd.zv (by intro e; rw [e] at hk; simp at hk)
  have hle := ho.entries
  rw [callPure_eq, w_call _ fn_36 rfl]
  unfold comesB
  rw [hx]
  simp only [go_sem, ↓reduceIte, Nat.reduceBEq, Nat.reduceEqDiff, Nat.reduceLT, Nat.reduceLeDiff, Nat.reduceAdd, Nat.reduceMul, Nat.reduceSub, reduceCtorEq, Int.reduceLT, Int.reduceLE, Int.reduceEq, Int.reduceBEq, Int.reduceBNe, Int.reduceToNat, Int.reduceAdd, Int.reduceNeg, Int.reduceSub, eF, eFc, eVi, hki, hx, hzv]
  generalize d.visits[k].sure = b
  rw [w_rounds_u (fun i => [(5, .bool (b || (d.entries.take i).any fun x => x.visit == (k : Int))), (6, .int .i64 (i : Int))]) d.entries.length (.exit 0) [(5, .bool (b || d.entries.any fun x => x.visit == (k : Int))), (6, .int .i64 (d.entries.length : Int))] ?_ ?_ ?_ rfl]
  · simp only [go_sem, ↓reduceIte, Nat.reduceBEq, Nat.reduceEqDiff, Nat.reduceLT, Nat.reduceLeDiff, Nat.reduceAdd, Nat.reduceMul, Nat.reduceSub, reduceCtorEq, Int.reduceLT, Int.reduceLE, Int.reduceEq, Int.reduceBEq, Int.reduceBNe, Int.reduceToNat, Int.reduceAdd, Int.reduceNeg, Int.reduceSub]
  · simp only [go_sem, ↓reduceIte, Nat.reduceBEq, Nat.reduceEqDiff, Nat.reduceLT, Nat.reduceLeDiff, Nat.reduceAdd, Nat.reduceMul, Nat.reduceSub, reduceCtorEq, Int.reduceLT, Int.reduceLE, Int.reduceEq, Int.reduceBEq, Int.reduceBNe, Int.reduceToNat, Int.reduceAdd, Int.reduceNeg, Int.reduceSub, List.any_nil]
  · intro i hi
    have hii : (i : Int) < d.entries.length := by omega
    have hy := List.getElem?_eq_getElem hi
    have hze := hd.ze (by intro e; rw [e] at hi; simp at hi)
    have hw : IntKind.i64.wrap ((i : Int) + 1) = (i : Int) + 1 := wrap_i64 (by omega)
    rw [any_succ _ hy]
    cases hb : (b || (d.entries.take i).any fun x => x.visit == (k : Int)) with
    | true =>
      have : (b || ((d.entries.take i).any (fun x => x.visit == (k : Int)) || d.entries[i].visit == (k : Int))) = true := by rw [← Bool.or_assoc, hb]; rfl
      rw [this]
      simp only [go_sem, ↓reduceIte, Nat.reduceBEq, Nat.reduceEqDiff, Nat.reduceLT, Nat.reduceLeDiff, Nat.reduceAdd, Nat.reduceMul, Nat.reduceSub, reduceCtorEq, Int.reduceLT, Int.reduceLE, Int.reduceEq, Int.reduceBEq, Int.reduceBNe, Int.reduceToNat, Int.reduceAdd, Int.reduceNeg, Int.reduceSub, hii, hy, eEt, hze, hw]
    | false =>
      have : (b || ((d.entries.take i).any (fun x => x.visit == (k : Int)) || d.entries[i].visit == (k : Int))) = (d.entries[i].visit == (k : Int)) := by rw [← Bool.or_assoc, hb]; rfl
      rw [this]
      simp only [go_sem, ↓reduceIte, Nat.reduceBEq, Nat.reduceEqDiff, Nat.reduceLT, Nat.reduceLeDiff, Nat.reduceAdd, Nat.reduceMul, Nat.reduceSub, reduceCtorEq, Int.reduceLT, Int.reduceLE, Int.reduceEq, Int.reduceBEq, Int.reduceBNe, Int.reduceToNat, Int.reduceAdd, Int.reduceNeg, Int.reduceSub, hii, hy, eEt, hze, hw]
  · simp only [go_sem, ↓reduceIte, Nat.reduceBEq, Nat.reduceEqDiff, Nat.reduceLT, Nat.reduceLeDiff, Nat.reduceAdd, Nat.reduceMul, Nat.reduceSub, reduceCtorEq, Int.reduceLT, Int.reduceLE, Int.reduceEq, Int.reduceBEq, Int.reduceBNe, Int.reduceToNat, Int.reduceAdd, Int.reduceNeg, Int.reduceSub, Int.lt_irrefl]
theorem asc_last {l : List Int} (h : Asc l) (hne : l ≠ []) : l.getD (l.length - 1) 0 = maxL l := by
  have hpos := List.length_pos_iff.2 hne
  have hlt : l.length - 1 < l.length := by omega
  have hx := List.getElem?_eq_getElem hlt
  have e : l.getD (l.length - 1) 0 = l[l.length - 1] := by rw [List.getD_eq_getElem?_getD, hx]; rfl
  have h1 := le_maxL (List.getElem_mem hlt)
  obtain ⟨i, hi, hm⟩ := List.mem_iff_getElem.1 (maxL_mem hne)
  have h2 : l[i] ≤ l[l.length - 1] := by
    rcases Nat.lt_or_ge i (l.length - 1) with h' | h'
    · have := List.pairwise_iff_getElem.1 h i (l.length - 1) hi hlt h'; omega
    · have : i = l.length - 1 := by omega
      subst this; exact Int.le_refl _
  rw [e]; omega
theorem costs_last {d : Fu} {k : Nat} (hne : costs d 0 k ≠ []) : (costs d 0 k).getD ((costs d 0 k).length - 1) 0 = maxL (costs d 0 k) := asc_last (sortD_asc _) hne
theorem cost_ref {d : Fu} (hd : d.fits) (ho : d.Ok) {k : Nat} (hk : k < d.visits.length) (h : Heap) : callPure (EW tabX) 72 [eF d, .int .i64 (k : Int), .lst 0 0 []] h = some (vI (costs d 0 k), h) := by
  have := c54 d hd ho [] (by simp) k hk h
  rw [costs_ref ho (same_nil d)] at this
  exact this
theorem mostL_bd {d : Fu} (ho : d.Ok) (hs : someB d 0 = true) (l : List Int) : ∀ k, k ≤ d.visits.length → 0 ≤ mostL d l k ∧ mostL d l k ≤ 90 * k
  | 0, _ => by simp [mostL]
  | k + 1, hk => by
    have := mostL_bd ho hs l k (by omega)
    have := mostAt_bd ho hs (show k < d.visits.length by omega)
    unfold mostL
    split <;> omega
theorem cMost (d : Fu) (hd : d.fits) (ho : d.Ok) (hs : someB d 0 = true) (l : List Int) (hl : l.length ≤ 1000) (h : Heap) : callPure (EW tabX) 32 [eF d, vI l] h = some (.int .i64 (mostL d l d.visits.length), h) := by
  have hv5 := ho.visits
  have hcl := eF_clean d
  rw [callPure_eq, w_call _ fn_32 rfl]
  simp only [eF_eq, vI] at hcl ⊢
  simp only [go_sem, ↓reduceIte, Nat.reduceBEq, Nat.reduceEqDiff, Nat.reduceLT, Nat.reduceLeDiff, Nat.reduceAdd, Nat.reduceMul, Nat.reduceSub, reduceCtorEq, Int.reduceLT, Int.reduceLE, Int.reduceEq, Int.reduceBEq, Int.reduceBNe, Int.reduceToNat, Int.reduceAdd, Int.reduceNeg, Int.reduceSub]
  rw [w_rounds_u (fun k => [(5, .int .i64 (mostL d l k)), (6, .int .i64 (k : Int))]) d.visits.length (.exit 0) [(5, .int .i64 (mostL d l d.visits.length)), (6, .int .i64 (d.visits.length : Int))] ?_ ?_ ?_ rfl]
  · simp only [go_sem, ↓reduceIte, Nat.reduceBEq, Nat.reduceEqDiff, Nat.reduceLT, Nat.reduceLeDiff, Nat.reduceAdd, Nat.reduceMul, Nat.reduceSub, reduceCtorEq, Int.reduceLT, Int.reduceLE, Int.reduceEq, Int.reduceBEq, Int.reduceBNe, Int.reduceToNat, Int.reduceAdd, Int.reduceNeg, Int.reduceSub]
  · simp only [go_sem, ↓reduceIte, Nat.reduceBEq, Nat.reduceEqDiff, Nat.reduceLT, Nat.reduceLeDiff, Nat.reduceAdd, Nat.reduceMul, Nat.reduceSub, reduceCtorEq, Int.reduceLT, Int.reduceLE, Int.reduceEq, Int.reduceBEq, Int.reduceBNe, Int.reduceToNat, Int.reduceAdd, Int.reduceNeg, Int.reduceSub, mostL]
  · intro k hk
    have hki : (k : Int) < d.visits.length := by omega
    have hx := List.getElem?_eq_getElem hk
    have hzv := hd.zv (by intro e; rw [e] at hk; simp at hk)
    have hvo := ho.visit _ (List.getElem_mem hk)
    have hpb := hvo.person
    have hzp := hd.zp (by intro e; rw [e] at hpb; simp at hpb; omega)
    have hpl : d.visits[k].person.toNat < d.people.length := by omega
    have hpx := List.getElem?_eq_getElem hpl
    have hnn : ¬ d.visits[k].person < 0 := by omega
    have hw : IntKind.i64.wrap ((k : Int) + 1) = (k : Int) + 1 := wrap_i64 (by omega)
    have hm := mostL_bd ho hs l k (by omega)
    have hma := mostAt_bd ho hs hk
    have hne := some_pos hs hk
    have hpos := List.length_pos_iff.2 hne
    have h28 := c28 l (k : Int) (zT 1 l.length) (fun h => zT_pos (List.length_pos_iff.2 h)) (by omega)
    have hcost := cost_ref hd ho hk
    have hla := costs_last hne
    have hat : mostAt d k = if (d.people[d.visits[k].person.toNat]).widow ≠ 0 then maxL (costs d 0 k) else 0 := by unfold mostAt; rw [hx]; simp only; unfold widowOf; rw [hpx]
    have hcl16 := costs_len ho (but := 0) hk
    have hst : mostL d l (k + 1) = mostL d l k + if (l.any fun x => x == (k : Int)) = true then 0 else mostAt d k := rfl
    rw [hst]
    simp only [eF_eq, hzp, hzv] at hcost
    have hzz : zT 1 (costs d 0 k).length = 1 := zT_pos hpos
    have hwl : IntKind.i64.wrap (((costs d 0 k).length : Int) - 1) = ((costs d 0 k).length : Int) - 1 := wrap_i64 (by omega)
    have hlx : (costs d 0 k)[(((costs d 0 k).length : Int) - 1).toNat]? = some (maxL (costs d 0 k)) := by
      have : (((costs d 0 k).length : Int) - 1).toNat = (costs d 0 k).length - 1 := by omega
      rw [this, ← hla, List.getD_eq_getElem?_getD, List.getElem?_eq_getElem (show (costs d 0 k).length - 1 < (costs d 0 k).length by omega)]; rfl
    have hn1 : ¬ ((costs d 0 k).length : Int) - 1 < 0 := by omega
    have hn2 : ((costs d 0 k).length : Int) - 1 < (costs d 0 k).length := by omega
    cases hwd : ((d.people[d.visits[k].person.toNat]).widow != 0) with
    | true =>
      have hwd' : (d.people[d.visits[k].person.toNat]).widow ≠ 0 := by simpa using hwd
      rw [if_pos hwd'] at hat
      rw [hat] at hma ⊢
      cases ha : l.any (fun x => x == (k : Int)) with
      | true =>
        rw [ha] at h28
        rw [if_pos rfl, Int.add_zero]
        simp only [go_sem, ↓reduceIte, Nat.reduceBEq, Nat.reduceEqDiff, Nat.reduceLT, Nat.reduceLeDiff, Nat.reduceAdd, Nat.reduceMul, Nat.reduceSub, reduceCtorEq, Int.reduceLT, Int.reduceLE, Int.reduceEq, Int.reduceBEq, Int.reduceBNe, Int.reduceToNat, Int.reduceAdd, Int.reduceNeg, Int.reduceSub, hki, hx, eVi, hzv, hpb, hnn, hpx, ePe, hzp, hwd, h28, hw]
      | false =>
        rw [ha] at h28
        rw [if_neg Bool.false_ne_true]
        have hws : IntKind.i64.wrap (mostL d l k + maxL (costs d 0 k)) = mostL d l k + maxL (costs d 0 k) := wrap_i64 (by omega)
        generalize costs d 0 k = cs at *
        simp only [vI] at hcost
        simp only [go_sem, ↓reduceIte, Nat.reduceBEq, Nat.reduceEqDiff, Nat.reduceLT, Nat.reduceLeDiff, Nat.reduceAdd, Nat.reduceMul, Nat.reduceSub, reduceCtorEq, Int.reduceLT, Int.reduceLE, Int.reduceEq, Int.reduceBEq, Int.reduceBNe, Int.reduceToNat, Int.reduceAdd, Int.reduceNeg, Int.reduceSub, hki, hx, eVi, hzv, hpb, hnn, hpx, ePe, hzp, hwd, h28, hcost, hzz, hwl, hlx, hn1, hn2, hws, hw]
    | false =>
      have hwd' : ¬ (d.people[d.visits[k].person.toNat]).widow ≠ 0 := by simpa using hwd
      rw [if_neg hwd'] at hat
      have e0 : (if (l.any fun x => x == (k : Int)) = true then (0 : Int) else mostAt d k) = 0 := by rw [hat]; split <;> rfl
      rw [e0, Int.add_zero]
      simp only [go_sem, ↓reduceIte, Nat.reduceBEq, Nat.reduceEqDiff, Nat.reduceLT, Nat.reduceLeDiff, Nat.reduceAdd, Nat.reduceMul, Nat.reduceSub, reduceCtorEq, Int.reduceLT, Int.reduceLE, Int.reduceEq, Int.reduceBEq, Int.reduceBNe, Int.reduceToNat, Int.reduceAdd, Int.reduceNeg, Int.reduceSub, hki, hx, eVi, hzv, hpb, hnn, hpx, ePe, hzp, hwd, hw]
  · simp only [go_sem, ↓reduceIte, Nat.reduceBEq, Nat.reduceEqDiff, Nat.reduceLT, Nat.reduceLeDiff, Nat.reduceAdd, Nat.reduceMul, Nat.reduceSub, reduceCtorEq, Int.reduceLT, Int.reduceLE, Int.reduceEq, Int.reduceBEq, Int.reduceBNe, Int.reduceToNat, Int.reduceAdd, Int.reduceNeg, Int.reduceSub, Int.lt_irrefl]
theorem ask_enter (d : Fu) : askE d 0 1 = enterE d 0 := by
  unfold askE enterE
  by_cases h0 : checkE d = 0
  · rw [if_pos h0, if_pos h0, if_pos rfl, someR_nil (ok_of_check h0)]
    have : out 0 (1 - 1) 0 = false := by decide
    rw [this, if_neg Bool.false_ne_true]
  · rw [if_neg h0, if_neg h0]
theorem mostL_nil (d : Fu) : ∀ k, mostL d [] k = mostTo d k
  | 0 => rfl
  | k + 1 => by unfold mostL mostTo; rw [mostL_nil d k]; simp
theorem cNeed (d : Fu) (hd : d.fits) (h : Heap) : callPure (EW tabX) 19 [eF d] h = some (vQ (needP d), h) := by
  have h53 := c53 d hd 0 1 (by omega)
  have hcl := eF_clean d
  rw [ask_enter] at h53
  rw [callPure_eq, w_call _ fn_19 rfl]
  unfold needP
  simp only [eF_eq] at h53 hcl ⊢
  by_cases h0 : enterE d 0 = 0
  · rw [if_pos h0]
    obtain ⟨k1, k2, k3⟩ := enterE_zero h0
    have ho := ok_of_check k1
    have hm := cMost d hd ho k3 [] (by simp)
    rw [mostL_nil] at hm
    simp only [eF_eq, vI] at hm
    have hbd := mostTo_bd ho k3 _ (Nat.le_refl _)
    have hv5 := ho.visits
    have hpn := ho.pence
    have hw : IntKind.i64.wrap (mostTo d d.visits.length - d.pence) = mostTo d d.visits.length - d.pence := wrap_i64 (by omega)
    simp only [go_sem, ↓reduceIte, Nat.reduceBEq, Nat.reduceEqDiff, Nat.reduceLT, Nat.reduceLeDiff, Nat.reduceAdd, Nat.reduceMul, Nat.reduceSub, reduceCtorEq, Int.reduceLT, Int.reduceLE, Int.reduceEq, Int.reduceBEq, Int.reduceBNe, Int.reduceToNat, Int.reduceAdd, Int.reduceNeg, Int.reduceSub, List.map_nil] at hm
    simp only [go_sem, ↓reduceIte, Nat.reduceBEq, Nat.reduceEqDiff, Nat.reduceLT, Nat.reduceLeDiff, Nat.reduceAdd, Nat.reduceMul, Nat.reduceSub, reduceCtorEq, Int.reduceLT, Int.reduceLE, Int.reduceEq, Int.reduceBEq, Int.reduceBNe, Int.reduceToNat, Int.reduceAdd, Int.reduceNeg, Int.reduceSub, h53, h0, hm, hw, vQ]
  · rw [if_neg h0]
    have hne : (enterE d 0 != 0) = true := by simpa using h0
    simp only [go_sem, ↓reduceIte, Nat.reduceBEq, Nat.reduceEqDiff, Nat.reduceLT, Nat.reduceLeDiff, Nat.reduceAdd, Nat.reduceMul, Nat.reduceSub, reduceCtorEq, Int.reduceLT, Int.reduceLE, Int.reduceEq, Int.reduceBEq, Int.reduceBNe, Int.reduceToNat, Int.reduceAdd, Int.reduceNeg, Int.reduceSub, h53, hne, vQ]
end Go.Proofs.YthkpjbgadkkeeaaGreat
