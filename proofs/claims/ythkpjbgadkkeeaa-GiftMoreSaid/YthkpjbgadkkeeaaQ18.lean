/- The body of GiftMore. Conditions: those of each law. -/
import Derived.Test.YthkpjbgadkkeeaaQ17
set_option linter.unusedSimpArgs false
set_option linter.unusedVariables false
namespace Go.Proofs.Ythkpjbgadkkeeaa
open Go.Proofs

theorem t25 : trow tabX 25 = .slice 52 := by simp only [go_sem, ↓reduceIte, Nat.reduceBEq, Nat.reduceEqDiff, Nat.reduceLT, Nat.reduceLeDiff, Nat.reduceAdd, Nat.reduceMul, Nat.reduceSub, reduceCtorEq, Int.reduceLT, Int.reduceLE, Int.reduceEq, Int.reduceBEq, Int.reduceBNe, Int.reduceToNat, Int.reduceAdd, Int.reduceNeg, Int.reduceSub]
theorem s52 : tsz tabX 52 = 2 := by simp only [go_sem, ↓reduceIte, Nat.reduceBEq, Nat.reduceEqDiff, Nat.reduceLT, Nat.reduceLeDiff, Nat.reduceAdd, Nat.reduceMul, Nat.reduceSub, reduceCtorEq, Int.reduceLT, Int.reduceLE, Int.reduceEq, Int.reduceBEq, Int.reduceBNe, Int.reduceToNat, Int.reduceAdd, Int.reduceNeg, Int.reduceSub]
theorem b52 : tbytes tabX 52 = 16 := by simp only [go_sem, ↓reduceIte, Nat.reduceBEq, Nat.reduceEqDiff, Nat.reduceLT, Nat.reduceLeDiff, Nat.reduceAdd, Nat.reduceMul, Nat.reduceSub, reduceCtorEq, Int.reduceLT, Int.reduceLE, Int.reduceEq, Int.reduceBEq, Int.reduceBNe, Int.reduceToNat, Int.reduceAdd, Int.reduceNeg, Int.reduceSub]
theorem z52 : zeroFits tabX 52 = true := by simp only [go_sem, ↓reduceIte, Nat.reduceBEq, Nat.reduceEqDiff, Nat.reduceLT, Nat.reduceLeDiff, Nat.reduceAdd, Nat.reduceMul, Nat.reduceSub, reduceCtorEq, Int.reduceLT, Int.reduceLE, Int.reduceEq, Int.reduceBEq, Int.reduceBNe, Int.reduceToNat, Int.reduceAdd, Int.reduceNeg, Int.reduceSub]
theorem app1 (p u z : Nat) (B : List ABlk) (t : List Bool) (xs ys : List AV) (h0 : xs.length = 0) (hz : z = 2 ∨ ys.length = 0) (hl : xs.length + ys.length ≤ 8796093022208) (hv : ys.all AV.var = true) :
    appendAV tabX 25 p ⟨B, t⟩ (.lst 1 2 xs) (.lst u z ys) = some (.lst (p + 2) 2 (xs ++ ys), ⟨B, lset t p true⟩) := by
  have hc : (z = 2 ∨ ys.length = 0) ∧ 0 < 2 ∧ (xs.length + ys.length) * 16 ≤ appLimit ∧ xs.length + ys.length ≤ appLimit ∧ zeroFits tabX 52 = true ∧ ys.all AV.var = true := ⟨hz, by decide, by unfold appLimit; omega, by unfold appLimit; omega, z52, hv⟩
  unfold appendAV
  simp only [t25, s52, b52]
  rw [if_pos hc]
  simp only [true_or, if_true, h0, and_self]
theorem app2 (p u z k : Nat) (B : List ABlk) (t : List Bool) (xs ys : List AV) (hk : t[k]? = some true) (hz : z = 2 ∨ ys.length = 0) (hl : xs.length + ys.length ≤ 8796093022208) (hv : ys.all AV.var = true) :
    appendAV tabX 25 p ⟨B, t⟩ (.lst (k + 2) 2 xs) (.lst u z ys) = some (.lst (p + 2) 2 (xs ++ ys), ⟨B, lset (t.set k false) p true⟩) := by
  have hc : (z = 2 ∨ ys.length = 0) ∧ 0 < 2 ∧ (xs.length + ys.length) * 16 ≤ appLimit ∧ xs.length + ys.length ≤ appLimit ∧ zeroFits tabX 52 = true ∧ ys.all AV.var = true := ⟨hz, by decide, by unfold appLimit; omega, by unfold appLimit; omega, z52, hv⟩
  unfold appendAV
  simp only [t25, s52, b52]
  rw [if_pos hc]
  simp only [if_true, hk]
theorem fees_yes {d : Fu} (h : someE d = true) {k : Nat} (hk : k < d.visits.length) : feesP d k = (costs d 0 k, 0) := by
  obtain ⟨h1, h2⟩ := someE_yes h
  unfold feesP
  rw [if_pos (visitE_eq h1 (by unfold idxE; rw [out_of (by omega)]; rfl) h2)]; rfl
theorem pays_yes {d : Fu} (h : someE d = true) {k : Nat} (hk : k < d.visits.length) : paysP d k = (payOf d (k + 1), 0) := by
  obtain ⟨h1, h2⟩ := someE_yes h
  unfold paysP
  rw [if_pos (visitE_eq h1 (by unfold idxE; rw [out_of (by omega)]; rfl) h2)]; rfl
theorem left_yes {d : Fu} (h : someE d = true) {k : Int} (h0 : 0 ≤ k) (hk : k < d.days) : leftP d k = (spanOf d k, 0) := by
  obtain ⟨h1, h2⟩ := someE_yes h
  rw [leftP_eq, if_pos (dayE_eq h1 (by unfold idxE; rw [out_of (by omega)]; rfl) h2)]
theorem l7 (d : Fu) (hd2 : d.fits ∧ d.entries.length < 8796093022208) (x : Et) {Q : Prop} (_ : Q) : ∃ h', (EW tabX).call 7 [eF d, eEt x] noHeap = some (.bool true, h') := by
  obtain ⟨hd, hsm⟩ := hd2
  have hfm := fits_more hd x hsm
  have h21 := c21 d hd
  have h21m := c21 (d.more x) hfm
  have h11 := c11 d hd
  have h11m := c11 (d.more x) hfm
  have h17 := c17 d hd
  have h17m := c17 (d.more x) hfm
  have h16 := c16 d hd
  have h16m := c16 (d.more x) hfm
  have h20 := c20 d hd
  have h20m := c20 (d.more x) hfm
  have h14 := c14
  have hcl := eF_clean d
  have eM : eF (d.more x) = .agg [.int .i64 d.pence, .int .i64 d.days, .int .i64 d.opn, .int .i64 d.late, .int .i64 d.frm, .lst 0 d.zl (I d.lines), .lst 0 d.zp (d.people.map ePe), .lst 0 d.zv (d.visits.map eVi), .lst 0 2 (d.entries.map eEt ++ [eEt x])] := by
    show AV.agg [_, _, _, _, _, _, _, _, .lst 0 2 ((d.entries ++ [x]).map eEt)] = _
    simp [Fu.more]
  rw [noHeap, w_call _ fn_7 rfl]
  simp only [eF_eq d, eM] at h21 h21m h11 h11m h17 h17m h16 h16m h20 h20m hcl ⊢
  simp only [go_sem, ↓reduceIte, Nat.reduceBEq, Nat.reduceEqDiff, Nat.reduceLT, Nat.reduceLeDiff, Nat.reduceAdd, Nat.reduceMul, Nat.reduceSub, reduceCtorEq, Int.reduceLT, Int.reduceLE, Int.reduceEq, Int.reduceBEq, Int.reduceBNe, Int.reduceToNat, Int.reduceAdd, Int.reduceNeg, Int.reduceSub, eEt]
  generalize hcf : drawT _ _ _ = cf
  obtain rfl : cf = true := by rw [← hcf]; kernel_rfl
  generalize hN : List.replicate _ ABlk.none = N
  generalize hM : List.replicate _ false = M
  obtain rfl : M = [false, false, false, false, false, false, false, false, false] := by rw [← hM]; rfl
  have hze : d.ze = 2 ∨ (d.entries.map eEt).length = 0 := by
    by_cases he : d.entries = []
    · right; rw [he]; rfl
    · left; exact hd.ze he
  have a1 := fun B => app1 3 0 d.ze B (List.replicate 9 false) [] (d.entries.map eEt) rfl hze (by simp; omega) (eEt_var _)
  have a2 := fun B => app2 6 1 2 3 B (lset (List.replicate 9 false) 3 true) (d.entries.map eEt) [eEt x] rfl (.inl rfl) (by simp; omega) rfl
  have u1 := fun n => eEt_under n d.entries
  have u2 := eEt_clean d.entries
  have u3 := eEt_var d.entries
  have p1 := fun n => eEt_under n (d.entries ++ [x])
  have p2 := eEt_clean (d.entries ++ [x])
  have p3 := eEt_var (d.entries ++ [x])
  rw [List.map_append, List.map_cons, List.map_nil] at p2 p3
  simp only [List.map_append, List.map_cons, List.map_nil] at p1
  simp only [go_sem, ↓reduceIte, Nat.reduceBEq, Nat.reduceEqDiff, Nat.reduceLT, Nat.reduceLeDiff, Nat.reduceAdd, Nat.reduceMul, Nat.reduceSub, reduceCtorEq, Int.reduceLT, Int.reduceLE, Int.reduceEq, Int.reduceBEq, Int.reduceBNe, Int.reduceToNat, Int.reduceAdd, Int.reduceNeg, Int.reduceSub] at a1 a2
  simp only [eEt] at a2 p1 p2 p3 h21m h11m h17m h16m h20m ⊢
  generalize List.map eEt d.entries ++ [AV.agg [.int .i64 x.visit, .int .i64 x.pence]] = em at *
  generalize List.map eEt d.entries = es at *
  cases hs : someE d with
  | false =>
    rw [hs] at h21
    refine ⟨?_, ?_⟩
    rotate_left
    · simp only [go_sem, ↓reduceIte, Nat.reduceBEq, Nat.reduceEqDiff, Nat.reduceLT, Nat.reduceLeDiff, Nat.reduceAdd, Nat.reduceMul, Nat.reduceSub, reduceCtorEq, Int.reduceLT, Int.reduceLE, Int.reduceEq, Int.reduceBEq, Int.reduceBNe, Int.reduceToNat, Int.reduceAdd, Int.reduceNeg, Int.reduceSub, eEt, a1, a2, u1, u2, u3, p1, p2, p3, h21, h14]
      rfl
  | true =>
  rw [hs] at h21
  cases hm : someE (d.more x) with
  | false =>
    rw [hm] at h21m
    refine ⟨?_, ?_⟩
    rotate_left
    · simp only [go_sem, ↓reduceIte, Nat.reduceBEq, Nat.reduceEqDiff, Nat.reduceLT, Nat.reduceLeDiff, Nat.reduceAdd, Nat.reduceMul, Nat.reduceSub, reduceCtorEq, Int.reduceLT, Int.reduceLE, Int.reduceEq, Int.reduceBEq, Int.reduceBNe, Int.reduceToNat, Int.reduceAdd, Int.reduceNeg, Int.reduceSub, eEt, a1, a2, u1, u2, u3, p1, p2, p3, h21, h21m, h14]
      rfl
  | true =>
  rw [hm] at h21m
  obtain ⟨k1, k2⟩ := someE_yes hs
  obtain ⟨m1, m2⟩ := someE_yes hm
  have ho := ok_of_check k1
  have hom := ok_of_check m1
  have hv5 := ho.visits
  have hdays := ho.days
  have hnl : needV (d.more x) ≤ needV d := by
    have e : (d.more x).visits.length = d.visits.length := rfl
    have e2 : (d.more x).pence = d.pence := rfl
    have := most_more m2 d.visits.length (Nat.le_refl _)
    unfold needV
    rw [e, e2]
    split <;> split <;> omega
  rw [need_yes hs] at h20
  rw [need_yes hm] at h20m
  simp only [vQ] at h20 h20m
  generalize needV d = nd at *
  generalize needV (d.more x) = nm at *
  simp only [go_sem, ↓reduceIte, Nat.reduceBEq, Nat.reduceEqDiff, Nat.reduceLT, Nat.reduceLeDiff, Nat.reduceAdd, Nat.reduceMul, Nat.reduceSub, reduceCtorEq, Int.reduceLT, Int.reduceLE, Int.reduceEq, Int.reduceBEq, Int.reduceBNe, Int.reduceToNat, Int.reduceAdd, Int.reduceNeg, Int.reduceSub, eEt, a1, a2, u1, u2, u3, p1, p2, p3, h21, h21m]
  rw [w_rounds_u (fun k => [(6, .int .i64 (k : Int))]) d.visits.length (.exit 0) [(6, .int .i64 (d.visits.length : Int))] ?_ ?_ ?_ rfl]
  rotate_left
  · simp only [go_sem, ↓reduceIte, Nat.reduceBEq, Nat.reduceEqDiff, Nat.reduceLT, Nat.reduceLeDiff, Nat.reduceAdd, Nat.reduceMul, Nat.reduceSub, reduceCtorEq, Int.reduceLT, Int.reduceLE, Int.reduceEq, Int.reduceBEq, Int.reduceBNe, Int.reduceToNat, Int.reduceAdd, Int.reduceNeg, Int.reduceSub]
  · intro k hk
    have hki : (k : Int) < d.visits.length := by omega
    have hw : IntKind.i64.wrap ((k : Int) + 1) = (k : Int) + 1 := wrap_i64 (by omega)
    have q1 := h11 k
    have q2 := h11m k
    have q3 := h17 k
    have q4 := h17m k
    rw [fees_yes hs hk] at q1
    rw [fees_yes hm (show k < (d.more x).visits.length from hk)] at q2
    rw [pays_yes hs hk] at q3
    rw [pays_yes hm (show k < (d.more x).visits.length from hk)] at q4
    have hpay : payOf d (k + 1) ≠ 0 → payOf (d.more x) (k + 1) = payOf d (k + 1) := fun h => pay_more m2 hom (by omega) h
    have hsub : ∀ n ∈ costs (d.more x) 0 k, n ∈ costs d 0 k := fun n h => costs_more h
    have hl1 := costs_len ho (but := 0) hk
    have hl2 := costs_len hom (but := 0) (show k < (d.more x).visits.length from hk)
    generalize costs d 0 k = l at *
    generalize costs (d.more x) 0 k = c at *
    generalize payOf d (k + 1) = pd at *
    generalize payOf (d.more x) (k + 1) = pm at *
    simp only [vP, vI, vQ] at q1 q2 q3 q4
    have hcond : (pd != 0) = false ∨ (pd != 0) = true ∧ (pd != pm) = false := by
      by_cases h : pd = 0
      · left; simp [h]
      · right; exact ⟨by simpa using h, by rw [hpay h]; simp⟩
    have inner : ∀ j, j < c.length → c[j]? = some (c.getD j 0) ∧ (j : Int) < c.length ∧ zT 1 c.length = 1 ∧ ∀ h, callPure (EW tabX) 28 [.lst 0 (zT 1 l.length) (I l), .int .i64 (c.getD j 0)] h = some (.bool true, h) := fun j hj => by
      have hx := List.getElem?_eq_getElem hj
      have e : c.getD j 0 = c[j] := by rw [List.getD_eq_getElem?_getD, hx]; rfl
      refine ⟨by rw [hx, e], by omega, zT_pos (by omega), fun h => ?_⟩
      rw [c28 l (c.getD j 0) (zT 1 l.length) (fun h => zT_pos (List.length_pos_iff.2 h)) (by omega) h, e]
      have : (l.any fun y => y == c[j]) = true := List.any_eq_true.2 ⟨c[j], hsub _ (List.getElem_mem hj), by simp⟩
      rw [this]
    rcases hcond with hc | ⟨hc, hc2⟩
    · simp only [go_sem, ↓reduceIte, Nat.reduceBEq, Nat.reduceEqDiff, Nat.reduceLT, Nat.reduceLeDiff, Nat.reduceAdd, Nat.reduceMul, Nat.reduceSub, reduceCtorEq, Int.reduceLT, Int.reduceLE, Int.reduceEq, Int.reduceBEq, Int.reduceBNe, Int.reduceToNat, Int.reduceAdd, Int.reduceNeg, Int.reduceSub, hki, u1, u2, u3, p1, p2, p3, q1, q2, q3, q4, hc, hw]
      rw [w_rounds_u (fun j => [(15, .int .i64 (j : Int))]) c.length (.exit 2) [(15, .int .i64 (c.length : Int))] ?_ ?_ ?_ rfl]
      · simp only [go_sem, ↓reduceIte, Nat.reduceBEq, Nat.reduceEqDiff, Nat.reduceLT, Nat.reduceLeDiff, Nat.reduceAdd, Nat.reduceMul, Nat.reduceSub, reduceCtorEq, Int.reduceLT, Int.reduceLE, Int.reduceEq, Int.reduceBEq, Int.reduceBNe, Int.reduceToNat, Int.reduceAdd, Int.reduceNeg, Int.reduceSub, hw]
      · simp only [go_sem, ↓reduceIte, Nat.reduceBEq, Nat.reduceEqDiff, Nat.reduceLT, Nat.reduceLeDiff, Nat.reduceAdd, Nat.reduceMul, Nat.reduceSub, reduceCtorEq, Int.reduceLT, Int.reduceLE, Int.reduceEq, Int.reduceBEq, Int.reduceBNe, Int.reduceToNat, Int.reduceAdd, Int.reduceNeg, Int.reduceSub]
      · intro j hj
        obtain ⟨j1, j2, j3, j4⟩ := inner j hj
        have hwj : IntKind.i64.wrap ((j : Int) + 1) = (j : Int) + 1 := wrap_i64 (by omega)
        simp only [go_sem, ↓reduceIte, Nat.reduceBEq, Nat.reduceEqDiff, Nat.reduceLT, Nat.reduceLeDiff, Nat.reduceAdd, Nat.reduceMul, Nat.reduceSub, reduceCtorEq, Int.reduceLT, Int.reduceLE, Int.reduceEq, Int.reduceBEq, Int.reduceBNe, Int.reduceToNat, Int.reduceAdd, Int.reduceNeg, Int.reduceSub, j1, j2, j3, j4, hwj]
      · simp only [go_sem, ↓reduceIte, Nat.reduceBEq, Nat.reduceEqDiff, Nat.reduceLT, Nat.reduceLeDiff, Nat.reduceAdd, Nat.reduceMul, Nat.reduceSub, reduceCtorEq, Int.reduceLT, Int.reduceLE, Int.reduceEq, Int.reduceBEq, Int.reduceBNe, Int.reduceToNat, Int.reduceAdd, Int.reduceNeg, Int.reduceSub, Int.lt_irrefl]
    · simp only [go_sem, ↓reduceIte, Nat.reduceBEq, Nat.reduceEqDiff, Nat.reduceLT, Nat.reduceLeDiff, Nat.reduceAdd, Nat.reduceMul, Nat.reduceSub, reduceCtorEq, Int.reduceLT, Int.reduceLE, Int.reduceEq, Int.reduceBEq, Int.reduceBNe, Int.reduceToNat, Int.reduceAdd, Int.reduceNeg, Int.reduceSub, hki, u1, u2, u3, p1, p2, p3, q1, q2, q3, q4, hc, hc2, hw]
      rw [w_rounds_u (fun j => [(15, .int .i64 (j : Int))]) c.length (.exit 2) [(15, .int .i64 (c.length : Int))] ?_ ?_ ?_ rfl]
      · simp only [go_sem, ↓reduceIte, Nat.reduceBEq, Nat.reduceEqDiff, Nat.reduceLT, Nat.reduceLeDiff, Nat.reduceAdd, Nat.reduceMul, Nat.reduceSub, reduceCtorEq, Int.reduceLT, Int.reduceLE, Int.reduceEq, Int.reduceBEq, Int.reduceBNe, Int.reduceToNat, Int.reduceAdd, Int.reduceNeg, Int.reduceSub, hw]
      · simp only [go_sem, ↓reduceIte, Nat.reduceBEq, Nat.reduceEqDiff, Nat.reduceLT, Nat.reduceLeDiff, Nat.reduceAdd, Nat.reduceMul, Nat.reduceSub, reduceCtorEq, Int.reduceLT, Int.reduceLE, Int.reduceEq, Int.reduceBEq, Int.reduceBNe, Int.reduceToNat, Int.reduceAdd, Int.reduceNeg, Int.reduceSub]
      · intro j hj
        obtain ⟨j1, j2, j3, j4⟩ := inner j hj
        have hwj : IntKind.i64.wrap ((j : Int) + 1) = (j : Int) + 1 := wrap_i64 (by omega)
        simp only [go_sem, ↓reduceIte, Nat.reduceBEq, Nat.reduceEqDiff, Nat.reduceLT, Nat.reduceLeDiff, Nat.reduceAdd, Nat.reduceMul, Nat.reduceSub, reduceCtorEq, Int.reduceLT, Int.reduceLE, Int.reduceEq, Int.reduceBEq, Int.reduceBNe, Int.reduceToNat, Int.reduceAdd, Int.reduceNeg, Int.reduceSub, j1, j2, j3, j4, hwj]
      · simp only [go_sem, ↓reduceIte, Nat.reduceBEq, Nat.reduceEqDiff, Nat.reduceLT, Nat.reduceLeDiff, Nat.reduceAdd, Nat.reduceMul, Nat.reduceSub, reduceCtorEq, Int.reduceLT, Int.reduceLE, Int.reduceEq, Int.reduceBEq, Int.reduceBNe, Int.reduceToNat, Int.reduceAdd, Int.reduceNeg, Int.reduceSub, Int.lt_irrefl]
  · simp only [go_sem, ↓reduceIte, Nat.reduceBEq, Nat.reduceEqDiff, Nat.reduceLT, Nat.reduceLeDiff, Nat.reduceAdd, Nat.reduceMul, Nat.reduceSub, reduceCtorEq, Int.reduceLT, Int.reduceLE, Int.reduceEq, Int.reduceBEq, Int.reduceBNe, Int.reduceToNat, Int.reduceAdd, Int.reduceNeg, Int.reduceSub, Int.lt_irrefl]
  simp only [go_sem, ↓reduceIte, Nat.reduceBEq, Nat.reduceEqDiff, Nat.reduceLT, Nat.reduceLeDiff, Nat.reduceAdd, Nat.reduceMul, Nat.reduceSub, reduceCtorEq, Int.reduceLT, Int.reduceLE, Int.reduceEq, Int.reduceBEq, Int.reduceBNe, Int.reduceToNat, Int.reduceAdd, Int.reduceNeg, Int.reduceSub]
  generalize hy : (EW tabX).code 7 none (Code.loop _) _ = y
  obtain ⟨dn, hdn⟩ := Int.eq_ofNat_of_zero_le (show 0 ≤ d.days by omega)
  refine w_rounds_sk hy (fun k (s : List ABlk) => [(16, .int .i64 (k : Int))]) (fun s => ⟨.cells [.int .i64 d.pence, .int .i64 d.days, .int .i64 d.opn, .int .i64 d.late, .int .i64 d.frm, .lst 0 d.zl (I d.lines), .lst 0 d.zp (d.people.map ePe), .lst 0 d.zv (d.visits.map eVi), .lst 0 d.ze es] :: .cells [.int .i64 x.visit, .int .i64 x.pence] ::
    .cells [.int .i64 d.pence, .int .i64 d.days, .int .i64 d.opn, .int .i64 d.late, .int .i64 d.frm, .lst 0 d.zl (I d.lines), .lst 0 d.zp (d.people.map ePe), .lst 0 d.zv (d.visits.map eVi), .lst 8 2 em] :: (N ++ s), [false, false, false, false, false, false, true, false, false]⟩) (fun _ _ => True) dn (.exit 4) (fun _ => [(16, .int .i64 d.days)]) rfl [] ?_ ?_ trivial ?_ ?_ ?_
  · simp only [go_sem, ↓reduceIte, Nat.reduceBEq, Nat.reduceEqDiff, Nat.reduceLT, Nat.reduceLeDiff, Nat.reduceAdd, Nat.reduceMul, Nat.reduceSub, reduceCtorEq, Int.reduceLT, Int.reduceLE, Int.reduceEq, Int.reduceBEq, Int.reduceBNe, Int.reduceToNat, Int.reduceAdd, Int.reduceNeg, Int.reduceSub]
  · simp only [go_sem, ↓reduceIte, Nat.reduceBEq, Nat.reduceEqDiff, Nat.reduceLT, Nat.reduceLeDiff, Nat.reduceAdd, Nat.reduceMul, Nat.reduceSub, reduceCtorEq, Int.reduceLT, Int.reduceLE, Int.reduceEq, Int.reduceBEq, Int.reduceBNe, Int.reduceToNat, Int.reduceAdd, Int.reduceNeg, Int.reduceSub]
  · intro k s hk _
    have hkd : (k : Int) < d.days := by rw [hdn]; exact Int.ofNat_lt.2 hk
    have hw : IntKind.i64.wrap ((k : Int) + 1) = (k : Int) + 1 := wrap_i64 (by omega)
    have q1 := h16 k
    have q2 := h16m k
    rw [left_yes hs (by omega) hkd] at q1
    rw [left_yes hm (by omega) (show (k : Int) < (d.more x).days from hkd)] at q2
    obtain ⟨g1, g2⟩ := left_more ho hom k2 m2 (k : Int)
    generalize spanOf (d.more x) k = sm at q2 g1 g2
    generalize spanOf d k = sd at q1 g1 g2
    obtain ⟨sm1, sm2⟩ := sm
    obtain ⟨sd1, sd2⟩ := sd
    simp only at g1 g2
    have b1 : ¬ sm1 < sd1 := by omega
    have b2 : ¬ sd2 < sm2 := by omega
    simp only [vT, eSp] at q1 q2
    refine ⟨s ++ [.cells [.int .i64 sd1, .int .i64 sd2], .cells [.int .i64 sm1, .int .i64 sm2]], ?_, trivial⟩
    simp only [go_sem, ↓reduceIte, Nat.reduceBEq, Nat.reduceEqDiff, Nat.reduceLT, Nat.reduceLeDiff, Nat.reduceAdd, Nat.reduceMul, Nat.reduceSub, reduceCtorEq, Int.reduceLT, Int.reduceLE, Int.reduceEq, Int.reduceBEq, Int.reduceBNe, Int.reduceToNat, Int.reduceAdd, Int.reduceNeg, Int.reduceSub, hkd, u1, u2, u3, p1, p2, p3, q1, q2, b1, b2, hw]
    skip
  · intro s _
    have e : ((dn : Nat) : Int) = d.days := hdn.symm
    simp only [go_sem, ↓reduceIte, Nat.reduceBEq, Nat.reduceEqDiff, Nat.reduceLT, Nat.reduceLeDiff, Nat.reduceAdd, Nat.reduceMul, Nat.reduceSub, reduceCtorEq, Int.reduceLT, Int.reduceLE, Int.reduceEq, Int.reduceBEq, Int.reduceBNe, Int.reduceToNat, Int.reduceAdd, Int.reduceNeg, Int.reduceSub, e, Int.lt_irrefl]
  · intro s hs _
    subst hs
    refine ⟨?_, ?_⟩
    rotate_left
    · simp only [go_sem, ↓reduceIte, Nat.reduceBEq, Nat.reduceEqDiff, Nat.reduceLT, Nat.reduceLeDiff, Nat.reduceAdd, Nat.reduceMul, Nat.reduceSub, reduceCtorEq, Int.reduceLT, Int.reduceLE, Int.reduceEq, Int.reduceBEq, Int.reduceBNe, Int.reduceToNat, Int.reduceAdd, Int.reduceNeg, Int.reduceSub, u1, u2, u3, p1, p2, p3, h20, h20m, hnl, h14]
      rfl
end Go.Proofs.Ythkpjbgadkkeeaa
