/- Parts of the proof, joined: Z-numbers. The body of GiftLasts. Z-numbers. The body of GiftLeft. Z-numbers. GiftLeft: the statement, whole. Conditions: those of each law. -/
import Derived.Test.YthkpjbgadkkeeaaGreatQ19
import Derived.Test.YthkpjbgadkkeeaaGreatRows
import Derived.ProofKit
import Derived.OpenShut
set_option linter.unusedSimpArgs false
set_option linter.unusedVariables false
section
namespace Go.Proofs.YthkpjbgadkkeeaaGreat
open Go.Proofs

theorem ends_no {d : Fu} (h : someE d = false) : endsP d = (0, enterE d 0) := by unfold endsP; rw [if_neg (enter_no h)]
theorem mapT_get {α : Type} (f : Nat → α) {n i : Nat} (h : i < n) : ((List.range n).map f)[i]? = some (f i) := by
  rw [List.getElem?_map, List.getElem?_range h]; rfl
theorem comesT_get (d : Fu) (x : List Int) {n i : Nat} (h : i < n) : ((comesT d x n).map AV.bool)[i]? = some (.bool (comeT d x i)) := by
  unfold comesT; rw [List.getElem?_map, mapT_get _ h]; rfl
theorem paidsT_get (d : Fu) (x : List Int) {n i : Nat} (h : i < n) : ((paidsT d x n).map AV.bool)[i]? = some (.bool (paidT d x i)) := by
  unfold paidsT; rw [List.getElem?_map, mapT_get _ h]; rfl
theorem costsT_get (d : Fu) (x : List Int) {n i : Nat} (h : i < n) : (costsT d x n)[i]? = some (costT d x i) := by unfold costsT; rw [mapT_get _ h]
theorem leftsT_get (d : Fu) (x : List Int) {n i : Nat} (h : i < n) : (leftsT d x n)[i]? = some (leftT d x (i + 1)).1 := by unfold leftsT; rw [mapT_get _ h]
theorem comesT_len (d : Fu) (x : List Int) (n : Nat) : (comesT d x n).length = n := by simp [comesT]
theorem paidsT_len (d : Fu) (x : List Int) (n : Nat) : (paidsT d x n).length = n := by simp [paidsT]
theorem costsT_len (d : Fu) (x : List Int) (n : Nat) : (costsT d x n).length = n := by simp [costsT]
theorem leftsT_len (d : Fu) (x : List Int) (n : Nat) : (leftsT d x n).length = n := by simp [leftsT]
set_option maxHeartbeats 1000000 in
theorem z6 (d : Fu) (hd : d.fits) (x : List Int) (hx : x.length < 1000000000000000000 ∧ ∀ n ∈ x, 0 ≤ n ∧ n ≤ 255) : ∃ h', (EW tabX).call 6 [eF d, .lst 0 1 (x.map (AV.int .u8))] noHeap = some (.bool true, h') := by
  have h18 := c20 d hd
  have h16 := c22 d hd
  have h25 := c21 d hd
  have h15 := c14
  have hcl := eF_clean d
  have hxc : cleanL (x.map (AV.int .u8)) = some (x.map (AV.int .u8)) := cleanL_map (fun n => clean_int _ n) x
  have hT := cTruly d hd
  rw [noHeap, w_call _ fn_6 rfl]
  cases hs : someE d with
  | false =>
    have hne : (enterE d 0 != 0) = true := by simpa using enter_no hs
    rw [need_no hs] at h18
    rw [ends_no hs] at h16
    rw [hs] at h25
    simp only [eF_eq, vQ] at h18 h16 h25 hcl ⊢
    refine ⟨?_, ?_⟩
    rotate_left
    · simp only [go_sem, ↓reduceIte, Nat.reduceBEq, Nat.reduceEqDiff, Nat.reduceLT, Nat.reduceLeDiff, Nat.reduceAdd, Nat.reduceMul, Nat.reduceSub, reduceCtorEq, Int.reduceLT, Int.reduceLE, Int.reduceEq, Int.reduceBEq, Int.reduceBNe, Int.reduceToNat, Int.reduceAdd, Int.reduceNeg, Int.reduceSub, h18, h16, h25, h15, hne]
      rfl
  | true =>
  obtain ⟨k1, k2⟩ := someE_yes hs
  have ho := ok_of_check k1
  have hT := hT ho k2 x hx
  have hv5 := ho.visits
  have hdays := ho.days
  obtain ⟨n1, n2, n3, n4, n5⟩ := needV_bd hs
  have hn0 : ¬ needV d < 0 := by omega
  have y1 := fun n l => underL_map (e := AV.bool) (n := n) (fun x => by simp only [go_sem, ↓reduceIte, Nat.reduceBEq, Nat.reduceEqDiff, Nat.reduceLT, Nat.reduceLeDiff, Nat.reduceAdd, Nat.reduceMul, Nat.reduceSub, reduceCtorEq, Int.reduceLT, Int.reduceLE, Int.reduceEq, Int.reduceBEq, Int.reduceBNe, Int.reduceToNat, Int.reduceAdd, Int.reduceNeg, Int.reduceSub]) l
  have y2 := cleanL_map (e := AV.bool) (fun x => clean_bool x)
  rw [need_yes hs] at h18
  rw [ends_yes hs] at h16
  rw [hs] at h25
  have c1 := comesT_len d x d.visits.length
  have c2 := paidsT_len d x d.visits.length
  simp only [eF_eq, vQ, eCo, vBs, vI, c1, c2] at h18 h16 h25 hcl hT ⊢
  by_cases hz : needV d = 0
  · have hm := n3.1 hz
    obtain ⟨e1, e2⟩ := lasts ho k2 x hm
    rw [if_pos hm] at h16
    have hE := e1 d.visits.length (Nat.le_refl _)
    rw [hz] at h18
    simp only [hE] at hT
    simp only [go_sem, ↓reduceIte, Nat.reduceBEq, Nat.reduceEqDiff, Nat.reduceLT, Nat.reduceLeDiff, Nat.reduceAdd, Nat.reduceMul, Nat.reduceSub, reduceCtorEq, Int.reduceLT, Int.reduceLE, Int.reduceEq, Int.reduceBEq, Int.reduceBNe, Int.reduceToNat, Int.reduceAdd, Int.reduceNeg, Int.reduceSub, h18, h16, h25, h15, hT, hxc, y1, y2]
    rw [w_rounds_u (fun k => [(10, .int .i64 (k : Int))]) d.visits.length (.exit 0) [(10, .int .i64 (d.visits.length : Int))] ?_ ?_ ?_ rfl]
    rotate_left
    · simp only [go_sem, ↓reduceIte, Nat.reduceBEq, Nat.reduceEqDiff, Nat.reduceLT, Nat.reduceLeDiff, Nat.reduceAdd, Nat.reduceMul, Nat.reduceSub, reduceCtorEq, Int.reduceLT, Int.reduceLE, Int.reduceEq, Int.reduceBEq, Int.reduceBNe, Int.reduceToNat, Int.reduceAdd, Int.reduceNeg, Int.reduceSub]
    · intro k hk
      have hki : (k : Int) < d.visits.length := by omega
      have hw : IntKind.i64.wrap ((k : Int) + 1) = (k : Int) + 1 := wrap_i64 (by omega)
      have g1 := comesT_get d x hk
      have g2 := paidsT_get d x hk
      rw [e2 k hk] at g2
      have hz1 : zT 1 d.visits.length = 1 := zT_pos (by omega)
      have hself : (comeT d x k != comeT d x k) = false := by simp
      simp only [go_sem, ↓reduceIte, Nat.reduceBEq, Nat.reduceEqDiff, Nat.reduceLT, Nat.reduceLeDiff, Nat.reduceAdd, Nat.reduceMul, Nat.reduceSub, reduceCtorEq, Int.reduceLT, Int.reduceLE, Int.reduceEq, Int.reduceBEq, Int.reduceBNe, Int.reduceToNat, Int.reduceAdd, Int.reduceNeg, Int.reduceSub, hki, c1, c2, g1, g2, hz1, hself, hw]
      skip
    · simp only [go_sem, ↓reduceIte, Nat.reduceBEq, Nat.reduceEqDiff, Nat.reduceLT, Nat.reduceLeDiff, Nat.reduceAdd, Nat.reduceMul, Nat.reduceSub, reduceCtorEq, Int.reduceLT, Int.reduceLE, Int.reduceEq, Int.reduceBEq, Int.reduceBNe, Int.reduceToNat, Int.reduceAdd, Int.reduceNeg, Int.reduceSub, c1, Int.lt_irrefl]
      skip
    refine ⟨?_, ?_⟩
    rotate_left
    · simp only [go_sem, ↓reduceIte, Nat.reduceBEq, Nat.reduceEqDiff, Nat.reduceLT, Nat.reduceLeDiff, Nat.reduceAdd, Nat.reduceMul, Nat.reduceSub, reduceCtorEq, Int.reduceLT, Int.reduceLE, Int.reduceEq, Int.reduceBEq, Int.reduceBNe, Int.reduceToNat, Int.reduceAdd, Int.reduceNeg, Int.reduceSub, h15]
      rfl
  · have hm : ¬ mostTo d d.visits.length ≤ d.pence := fun h => hz (n3.2 h)
    rw [if_neg hm] at h16
    obtain ⟨d1, d2⟩ := ends_day ho k2 hm
    have hin := c47 (endsV d 0 0) 0 (d.days - 1)
    have hinr : inR (endsV d 0 0) 0 (d.days - 1) = true := by unfold inR; simp; omega
    rw [hinr] at hin
    have hwd : IntKind.i64.wrap (d.days - 1) = d.days - 1 := wrap_i64 (by omega)
    have hzb : (needV d == 0) = false := by simpa using hz
    simp only [go_sem, ↓reduceIte, Nat.reduceBEq, Nat.reduceEqDiff, Nat.reduceLT, Nat.reduceLeDiff, Nat.reduceAdd, Nat.reduceMul, Nat.reduceSub, reduceCtorEq, Int.reduceLT, Int.reduceLE, Int.reduceEq, Int.reduceBEq, Int.reduceBNe, Int.reduceToNat, Int.reduceAdd, Int.reduceNeg, Int.reduceSub, h18, h16, h25, h15, hxc, hn0, hzb, hin, hwd]
    rcases endT d x d.visits.length with hE | ⟨i, i1, i2, i3⟩
    · simp only [hE] at hT
      refine ⟨?_, ?_⟩
      rotate_left
      · simp only [go_sem, ↓reduceIte, Nat.reduceBEq, Nat.reduceEqDiff, Nat.reduceLT, Nat.reduceLeDiff, Nat.reduceAdd, Nat.reduceMul, Nat.reduceSub, reduceCtorEq, Int.reduceLT, Int.reduceLE, Int.reduceEq, Int.reduceBEq, Int.reduceBNe, Int.reduceToNat, Int.reduceAdd, Int.reduceNeg, Int.reduceSub, h18, h16, h25, h15, hT, hxc, y1, y2, hn0, hzb, hin, hwd]
        rfl
    · obtain ⟨_, f2⟩ := ends_first ho k2 x (Nat.le_refl _) i2
      have hv := List.getElem?_eq_getElem i1
      have hzv := hd.zv (by intro e; rw [e] at i1; simp at i1)
      have hday : dayAt d i = d.visits[i].day := by unfold dayAt; rw [hv]
      rw [hday] at f2
      have hii : (i : Int) < d.visits.length := by omega
      have hi0 : ¬ (i : Int) < 0 := by omega
      simp only [i2, hzv] at hT
      refine ⟨?_, ?_⟩
      rotate_left
      · simp only [go_sem, ↓reduceIte, Nat.reduceBEq, Nat.reduceEqDiff, Nat.reduceLT, Nat.reduceLeDiff, Nat.reduceAdd, Nat.reduceMul, Nat.reduceSub, reduceCtorEq, Int.reduceLT, Int.reduceLE, Int.reduceEq, Int.reduceBEq, Int.reduceBNe, Int.reduceToNat, Int.reduceAdd, Int.reduceNeg, Int.reduceSub, h18, h16, h25, h15, hT, hxc, y1, y2, hn0, hzb, hin, hwd, hii, hi0, hv, eVi, hzv, f2]
        rfl
end Go.Proofs.YthkpjbgadkkeeaaGreat
end
section
namespace Go.Proofs.YthkpjbgadkkeeaaGreat
open Go.Proofs

theorem enter_bad {d : Fu} (h : someE d = false) (e : Int) : enterE d e ≠ 0 := fun h0 => by
  obtain ⟨k1, _, k3⟩ := enterE_zero h0
  unfold someE at h
  rw [k1, k3] at h
  cases h
theorem left_no {d : Fu} (h : someE d = false) (day : Int) : leftP d day = ((0, 0), dayE d day) := by rw [leftP_eq]; exact if_neg (enter_bad h _)
theorem cInside (n : Int) (s : Int × Int) (h : Heap) : callPure (EW tabX) 29 [.int .i64 n, eSp s] h = some (.bool (inR n s.1 s.2), h) := by
  have h26 := c47 n s.1 s.2
  rw [callPure_eq, w_call _ fn_29 rfl]
  simp only [go_sem, ↓reduceIte, Nat.reduceBEq, Nat.reduceEqDiff, Nat.reduceLT, Nat.reduceLeDiff, Nat.reduceAdd, Nat.reduceMul, Nat.reduceSub, reduceCtorEq, Int.reduceLT, Int.reduceLE, Int.reduceEq, Int.reduceBEq, Int.reduceBNe, Int.reduceToNat, Int.reduceAdd, Int.reduceNeg, Int.reduceSub, eSp, h26]
def lastS (d : Fu) (k : Nat) : Int × Int := if k = 0 then (d.pence, d.pence) else spanOf d ((k : Int) - 1)
def atT (d : Fu) (k : Nat) : Nat := lastTo d ((k : Int) - 1) d.visits.length
theorem last_bd {d : Fu} (ho : d.Ok) (hs : someB d 0 = true) (k : Nat) : (spanOf d (k : Int)).1 ≤ (lastS d k).1 ∧ (spanOf d (k : Int)).2 ≤ (lastS d k).2 := by
  unfold lastS
  by_cases h : k = 0
  · rw [if_pos h]
    have := span_bd ho hs (k : Int)
    simp only; omega
  · rw [if_neg h]
    exact left_mono ho hs (lastTo_mono ho (by omega))
set_option maxHeartbeats 2000000 in
theorem z7 (d : Fu) (hd : d.fits) (x : List Int) (hx : x.length < 1000000000000000000 ∧ ∀ n ∈ x, 0 ≤ n ∧ n ≤ 255) : ∃ h', (EW tabX).call 7 [eF d, .lst 0 1 (x.map (AV.int .u8))] noHeap = some (.bool true, h') := by
  have h11 := c16 d hd
  have h25 := c21 d hd
  have h15 := c14
  have hcl := eF_clean d
  have hxc : cleanL (x.map (AV.int .u8)) = some (x.map (AV.int .u8)) := cleanL_map (fun n => clean_int _ n) x
  have hT := cTruly d hd
  rw [noHeap, w_call _ fn_7 rfl]
  cases hs : someE d with
  | false =>
    have hne : (dayE d 0 != 0) = true := bne_iff_ne.2 (enter_bad hs _)
    have q1 := h11 0
    rw [left_no hs] at q1
    rw [hs] at h25
    simp only [eF_eq, vT, eSp] at q1 h25 hcl ⊢
    refine ⟨?_, ?_⟩
    rotate_left
    · simp only [go_sem, ↓reduceIte, Nat.reduceBEq, Nat.reduceEqDiff, Nat.reduceLT, Nat.reduceLeDiff, Nat.reduceAdd, Nat.reduceMul, Nat.reduceSub, reduceCtorEq, Int.reduceLT, Int.reduceLE, Int.reduceEq, Int.reduceBEq, Int.reduceBNe, Int.reduceToNat, Int.reduceAdd, Int.reduceNeg, Int.reduceSub, q1, h25, h15, hne]
      rfl
  | true =>
  obtain ⟨k1, k2⟩ := someE_yes hs
  have ho := ok_of_check k1
  have hT := hT ho k2 x hx
  have hv5 := ho.visits
  have hdays := ho.days
  have hpn := ho.pence
  have h28 := c19 d.pence d.pence
  have y1 := fun n l => underL_map (e := AV.bool) (n := n) (fun x => by simp only [go_sem, ↓reduceIte, Nat.reduceBEq, Nat.reduceEqDiff, Nat.reduceLT, Nat.reduceLeDiff, Nat.reduceAdd, Nat.reduceMul, Nat.reduceSub, reduceCtorEq, Int.reduceLT, Int.reduceLE, Int.reduceEq, Int.reduceBEq, Int.reduceBNe, Int.reduceToNat, Int.reduceAdd, Int.reduceNeg, Int.reduceSub]) l
  have y2 := cleanL_map (e := AV.bool) (fun x => clean_bool x)
  rw [hs] at h25
  have c1 := comesT_len d x d.visits.length
  have c2 := paidsT_len d x d.visits.length
  have c3 := costsT_len d x d.visits.length
  have c4 := leftsT_len d x d.visits.length
  have hleft : ∀ k : Nat, (k : Int) < d.days → ∀ h, callPure (EW tabX) 11 [eF d, .int .i64 (k : Int)] h = some (.tup [eSp (spanOf d k), .int .i64 0], h) := fun k hk h => by
    have := h11 k h
    rw [left_yes hs (by omega) hk] at this
    exact this
  clear h11
  simp only [eF_eq, eSp, eCo, vBs, vI, c1, c2, c3, c4] at h25 hcl hT h28 hleft ⊢
  simp only [go_sem, ↓reduceIte, Nat.reduceBEq, Nat.reduceEqDiff, Nat.reduceLT, Nat.reduceLeDiff, Nat.reduceAdd, Nat.reduceMul, Nat.reduceSub, reduceCtorEq, Int.reduceLT, Int.reduceLE, Int.reduceEq, Int.reduceBEq, Int.reduceBNe, Int.reduceToNat, Int.reduceAdd, Int.reduceNeg, Int.reduceSub, h25, h15, hT, h28, hxc, y1, y2]
  generalize hy : (EW tabX).code 7 none (Code.loop _) _ = y
  obtain ⟨dn, hdn⟩ := Int.eq_ofNat_of_zero_le (show 0 ≤ d.days by omega)
  refine w_rounds_sk hy (fun k (s : Nat × List ABlk) => [(8, .int .i64 (leftT d x (atT d k)).1), (9, .int .i64 (atT d k : Nat)), (11, .int .i64 (k : Int))])
    (fun s => ⟨.cells (eFc d) :: .cells [.lst 0 (zT 1 d.visits.length) ((comesT d x d.visits.length).map AV.bool), .lst 0 (zT 1 d.visits.length) ((paidsT d x d.visits.length).map AV.bool), .lst 0 (zT 1 d.visits.length) (I (costsT d x d.visits.length)), .lst 0 (zT 1 d.visits.length) (I (leftsT d x d.visits.length)), .int .i64 (leftT d x d.visits.length).2] ::
      .cells [.int .i64 (lastS d s.1).1, .int .i64 (lastS d s.1).2] :: s.2, []⟩)
    (fun k s => s.1 = k) dn (.exit 0) (fun s => [(8, .int .i64 (leftT d x (atT d dn)).1), (9, .int .i64 (atT d dn : Nat)), (11, .int .i64 (dn : Int))]) rfl (0, []) ?_ ?_ rfl ?_ ?_ ?_
  · have e0 : atT d 0 = 0 := lastTo_none ho
    simp only [go_sem, ↓reduceIte, Nat.reduceBEq, Nat.reduceEqDiff, Nat.reduceLT, Nat.reduceLeDiff, Nat.reduceAdd, Nat.reduceMul, Nat.reduceSub, reduceCtorEq, Int.reduceLT, Int.reduceLE, Int.reduceEq, Int.reduceBEq, Int.reduceBNe, Int.reduceToNat, Int.reduceAdd, Int.reduceNeg, Int.reduceSub, e0, leftT]
    skip
  · simp only [go_sem, ↓reduceIte, Nat.reduceBEq, Nat.reduceEqDiff, Nat.reduceLT, Nat.reduceLeDiff, Nat.reduceAdd, Nat.reduceMul, Nat.reduceSub, reduceCtorEq, Int.reduceLT, Int.reduceLE, Int.reduceEq, Int.reduceBEq, Int.reduceBNe, Int.reduceToNat, Int.reduceAdd, Int.reduceNeg, Int.reduceSub, eFc, lastS]
    skip
  · rintro k ⟨k', s⟩ hk hR
    obtain rfl : k' = k := hR
    have hkd : (k' : Int) < d.days := by rw [hdn]; exact Int.ofNat_lt.2 hk
    have hw : IntKind.i64.wrap ((k' : Int) + 1) = (k' : Int) + 1 := wrap_i64 (by omega)
    have q1 := hleft k' hkd
    obtain ⟨b1, b2⟩ := last_bd ho k2 k'
    have hsb := span_bd ho k2 (k' : Int)
    have hle : atT d k' ≤ atT d (k' + 1) := lastTo_mono ho (by omega)
    have hn : atT d (k' + 1) ≤ d.visits.length := lastTo_le _ _ _
    have hat1 : atT d (k' + 1) = lastTo d (k' : Int) d.visits.length := by unfold atT; congr 1; omega
    have hin := left_in ho k2 x (k' : Int)
    rw [← hat1] at hin
    have hls : lastS d (k' + 1) = spanOf d (k' : Int) := by unfold lastS; rw [if_neg (by omega)]; congr 1; omega
    have hinr : inR (leftT d x (atT d (k' + 1))).1 (spanOf d (k' : Int)).1 (spanOf d (k' : Int)).2 = true := by unfold inR; simp; omega
    have hid := cInside (leftT d x (atT d (k' + 1))).1 (spanOf d (k' : Int))
    rw [hinr] at hid
    simp only [eSp] at hid
    have lsp := fun i hi => lastTo_spec ho (k' : Int) d.visits.length (Nat.le_refl _) i hi
    rw [← hat1] at lsp
    generalize hA : atT d k' = A at *
    generalize hB : atT d (k' + 1) = Bn at *
    have n1 : ¬ (spanOf d (k' : Int)).1 < 0 := by omega
    have n2 : ¬ (lastS d k').1 < (spanOf d (k' : Int)).1 := by omega
    have n3 : ¬ (lastS d k').2 < (spanOf d (k' : Int)).2 := by omega
    refine ⟨(k' + 1, s ++ [.cells [.int .i64 (spanOf d (k' : Int)).1, .int .i64 (spanOf d (k' : Int)).2]]), ?_, rfl⟩
    simp only [go_sem, ↓reduceIte, Nat.reduceBEq, Nat.reduceEqDiff, Nat.reduceLT, Nat.reduceLeDiff, Nat.reduceAdd, Nat.reduceMul, Nat.reduceSub, reduceCtorEq, Int.reduceLT, Int.reduceLE, Int.reduceEq, Int.reduceBEq, Int.reduceBNe, Int.reduceToNat, Int.reduceAdd, Int.reduceNeg, Int.reduceSub, eFc, hkd]
    rw [w_rounds_u (fun j => [(8, .int .i64 (leftT d x (A + j)).1), (9, .int .i64 ((A + j : Nat) : Int))]) (Bn - A) (.exit 2) [(8, .int .i64 (leftT d x Bn).1), (9, .int .i64 (Bn : Int))] ?_ ?_ ?_ rfl]
    · have hzA : (Bn : Int) ≤ 0 ∨ 0 < (Bn : Int) := by omega
      rcases hzA with hz | hz
      · have hz0 : ¬ 0 < (Bn : Int) := by omega
        simp only [go_sem, ↓reduceIte, Nat.reduceBEq, Nat.reduceEqDiff, Nat.reduceLT, Nat.reduceLeDiff, Nat.reduceAdd, Nat.reduceMul, Nat.reduceSub, reduceCtorEq, Int.reduceLT, Int.reduceLE, Int.reduceEq, Int.reduceBEq, Int.reduceBNe, Int.reduceToNat, Int.reduceAdd, Int.reduceNeg, Int.reduceSub, eFc, q1, hid, n1, n2, n3, hz0, hls, hw]
        skip
      · have hw1 : IntKind.i64.wrap ((Bn : Int) - 1) = (Bn : Int) - 1 := wrap_i64 (by omega)
        have i1 : ¬ (Bn : Int) - 1 < 0 := by omega
        have i2 : (Bn : Int) - 1 < d.visits.length := by omega
        have i3 : ((Bn : Int) - 1).toNat = Bn - 1 := by omega
        have hg := leftsT_get d x (show Bn - 1 < d.visits.length by omega)
        have e1 : Bn - 1 + 1 = Bn := by omega
        rw [e1] at hg
        have hz1 : zT 1 d.visits.length = 1 := zT_pos (by omega)
        have hself : ((leftT d x Bn).1 != (leftT d x Bn).1) = false := by simp
        simp only [go_sem, ↓reduceIte, Nat.reduceBEq, Nat.reduceEqDiff, Nat.reduceLT, Nat.reduceLeDiff, Nat.reduceAdd, Nat.reduceMul, Nat.reduceSub, reduceCtorEq, Int.reduceLT, Int.reduceLE, Int.reduceEq, Int.reduceBEq, Int.reduceBNe, Int.reduceToNat, Int.reduceAdd, Int.reduceNeg, Int.reduceSub, eFc, q1, hid, n1, n2, n3, hz, hls, hw, hw1, i1, i2, i3, hg, hz1, hself, c4]
        skip
    · simp only [go_sem, ↓reduceIte, Nat.reduceBEq, Nat.reduceEqDiff, Nat.reduceLT, Nat.reduceLeDiff, Nat.reduceAdd, Nat.reduceMul, Nat.reduceSub, reduceCtorEq, Int.reduceLT, Int.reduceLE, Int.reduceEq, Int.reduceBEq, Int.reduceBNe, Int.reduceToNat, Int.reduceAdd, Int.reduceNeg, Int.reduceSub, Nat.add_zero]
    · intro j hj
      have hjl : A + j < d.visits.length := by omega
      have hji : ((A + j : Nat) : Int) < d.visits.length := by omega
      have hv := List.getElem?_eq_getElem hjl
      have hzv := hd.zv (by intro e; rw [e] at hjl; simp at hjl)
      have hdy : dayAt d (A + j) = d.visits[A + j].day := by unfold dayAt; rw [hv]
      have hle2 := (lsp (A + j) hjl).2 (by omega)
      rw [hdy] at hle2
      have hwj : IntKind.i64.wrap (((A + j : Nat) : Int) + 1) = ((A + (j + 1) : Nat) : Int) := by rw [wrap_i64 (by omega)]; omega
      have g2 := paidsT_get d x hjl
      have g3 := costsT_get d x hjl
      have hz1 : zT 1 d.visits.length = 1 := zT_pos (by omega)
      have hnext := leftT_paid d x (A + j)
      have e1 : A + j + 1 = A + (j + 1) := by omega
      rw [e1] at hnext
      have lb1 := leftT_bd ho k2 x (show A + j ≤ d.visits.length by omega)
      have cb := costs_bd ho (costT_mem k2 x hjl)
      have hws : IntKind.i64.wrap ((leftT d x (A + j)).1 - costT d x (A + j)) = (leftT d x (A + j)).1 - costT d x (A + j) := wrap_i64 (by omega)
      have hJ0 : ¬ ((A + j : Nat) : Int) < 0 := by omega
      have hJn : ((A + j : Nat) : Int).toNat = A + j := by omega
      generalize ((A + j : Nat) : Int) = J at *
      cases hp : paidT d x (A + j) with
      | true =>
        rw [hp, if_pos rfl] at hnext
        rw [hp] at g2
        simp only [go_sem, ↓reduceIte, Nat.reduceBEq, Nat.reduceEqDiff, Nat.reduceLT, Nat.reduceLeDiff, Nat.reduceAdd, Nat.reduceMul, Nat.reduceSub, reduceCtorEq, Int.reduceLT, Int.reduceLE, Int.reduceEq, Int.reduceBEq, Int.reduceBNe, Int.reduceToNat, Int.reduceAdd, Int.reduceNeg, Int.reduceSub, eFc, hji, hJ0, hJn, hv, eVi, hzv, hle2, c2, c3, g2, g3, hz1, hwj, hws, hnext]
        skip
      | false =>
        rw [hp, if_neg Bool.false_ne_true] at hnext
        rw [hp] at g2
        simp only [go_sem, ↓reduceIte, Nat.reduceBEq, Nat.reduceEqDiff, Nat.reduceLT, Nat.reduceLeDiff, Nat.reduceAdd, Nat.reduceMul, Nat.reduceSub, reduceCtorEq, Int.reduceLT, Int.reduceLE, Int.reduceEq, Int.reduceBEq, Int.reduceBNe, Int.reduceToNat, Int.reduceAdd, Int.reduceNeg, Int.reduceSub, eFc, hji, hJ0, hJn, hv, eVi, hzv, hle2, c2, c3, g2, g3, hz1, hwj, hnext]
        skip
    · have e1 : A + (Bn - A) = Bn := by omega
      rcases Nat.lt_or_ge Bn d.visits.length with hjl | hge
      · have hji : (Bn : Int) < d.visits.length := by omega
        have hv := List.getElem?_eq_getElem hjl
        have hzv := hd.zv (by intro e; rw [e] at hjl; simp at hjl)
        have hdy : dayAt d Bn = d.visits[Bn].day := by unfold dayAt; rw [hv]
        have hgt : ¬ d.visits[Bn].day ≤ (k' : Int) := fun h => by have := (lsp Bn hjl).1 (by omega); omega
        simp only [go_sem, ↓reduceIte, Nat.reduceBEq, Nat.reduceEqDiff, Nat.reduceLT, Nat.reduceLeDiff, Nat.reduceAdd, Nat.reduceMul, Nat.reduceSub, reduceCtorEq, Int.reduceLT, Int.reduceLE, Int.reduceEq, Int.reduceBEq, Int.reduceBNe, Int.reduceToNat, Int.reduceAdd, Int.reduceNeg, Int.reduceSub, eFc, e1, hji, hv, eVi, hzv, hgt]
        skip
      · have hji : ¬ (Bn : Int) < d.visits.length := by omega
        simp only [go_sem, ↓reduceIte, Nat.reduceBEq, Nat.reduceEqDiff, Nat.reduceLT, Nat.reduceLeDiff, Nat.reduceAdd, Nat.reduceMul, Nat.reduceSub, reduceCtorEq, Int.reduceLT, Int.reduceLE, Int.reduceEq, Int.reduceBEq, Int.reduceBNe, Int.reduceToNat, Int.reduceAdd, Int.reduceNeg, Int.reduceSub, eFc, e1, hji]
        skip
  · rintro ⟨k', s⟩ hR
    obtain rfl : k' = dn := hR
    have hkd : ¬ (k' : Int) < d.days := by rw [hdn]; exact Int.lt_irrefl _
    simp only [go_sem, ↓reduceIte, Nat.reduceBEq, Nat.reduceEqDiff, Nat.reduceLT, Nat.reduceLeDiff, Nat.reduceAdd, Nat.reduceMul, Nat.reduceSub, reduceCtorEq, Int.reduceLT, Int.reduceLE, Int.reduceEq, Int.reduceBEq, Int.reduceBNe, Int.reduceToNat, Int.reduceAdd, Int.reduceNeg, Int.reduceSub, eFc, hkd]
  · rintro ⟨k', s⟩ hys hR
    subst hys
    refine ⟨?_, ?_⟩
    rotate_left
    · simp only [go_sem, ↓reduceIte, Nat.reduceBEq, Nat.reduceEqDiff, Nat.reduceLT, Nat.reduceLeDiff, Nat.reduceAdd, Nat.reduceMul, Nat.reduceSub, reduceCtorEq, Int.reduceLT, Int.reduceLE, Int.reduceEq, Int.reduceBEq, Int.reduceBNe, Int.reduceToNat, Int.reduceAdd, Int.reduceNeg, Int.reduceSub, h15]
      rfl
end Go.Proofs.YthkpjbgadkkeeaaGreat
end
section
namespace Go.Proofs.YthkpjbgadkkeeaaGreat.giftLeft
open Go.ChangeShapes Go.WideShapes Go.ChangeAt Go.RowKit Go.Proofs

theorem own : ownKnob Tryz.prog.godebug = none := by kernel_rfl
theorem laid : laidOutB Tryz.prog = true := by kernel_rfl
theorem row27 : Tryz.prog.readableRec 27 = true ∧ 27 < Tryz.prog.types.size := ⟨by kernel_rfl, of_decide_eq_true (by kernel_rfl)⟩
theorem row42 : Tryz.prog.readableRec 42 = true ∧ 42 < Tryz.prog.types.size := ⟨by kernel_rfl, of_decide_eq_true (by kernel_rfl)⟩
set_option maxRecDepth 100000 in
theorem lifted (os : Os) (started : os.Started) (H : Type) (enc : TypeId × Value → H) :
    ReturnsInHanded {} Tryz.checked os 7 .any (Rows.giftLeftSpec.pre6 enc Tryz.prog Tryz.f7 Rows.giftLeftRow.domain false) (Rows.giftLeftSpec.post enc Tryz.prog Tryz.f7 false true false false) := by
  refine returnsInHanded_of_change_sized (C := Tryz.checked) own started (by kernel_rfl) Tryz.func7
    (ChangeSpec.witness6 (enc := enc) (C := Tryz.checked) false ⟨#[], #[.agg #[.int .i64 0, .int .i64 0, .int .i64 0, .int .i64 0, .int .i64 0, .slice none 0 0, .slice none 0 0, .slice none 0 0, .slice none 0 0], .slice none 0 0], []⟩ 8 (by kernel_rfl) (by kernel_rfl) (by kernel_rfl) (by kernel_rfl)) ?_
  intro W base args ds gs before hval0 hW hcnd hsz _
  have hval : ∀ (j : Nat) t v, Tryz.f7.params[j]? = some t → args[j]? = some v → Value.okWide Tryz.prog W .any base t v := hval0
  have hW' := hW
  obtain ⟨p, q, hA0, hV, rfl, hfz, hnd⟩ := hW
  have hA : DataW.TrodAll enc Tryz.prog W 0 (fun _ => true) true Tryz.f7.params.toList args.toList ds p := hA0
  rw [Tryz.params7] at hA hval
  obtain ⟨v0, vs0, d0, ds0, p0, q0, hargs, rfl, rfl, h0, r0⟩ := trodAll_cons hA
  obtain ⟨v1, vs1, d1, ds1, p1, q1, rfl, rfl, rfl, h1, r1⟩ := trodAll_cons r0
  obtain ⟨rfl, rfl, rfl⟩ := trodAll_nil r1
  obtain rfl : args = #[v0, v1] := by cases args; simp_all
  obtain ⟨rfl, rfl⟩ := trodVars_none hV
  have lt0 : ∀ x ∈ p0, x.block < W.heap.size := by obtain ⟨m, hm⟩ := h0; exact DataW.trod_lt m _ _ _ hm
  obtain ⟨y0, g0, rv0⟩ := rd_fu (hval 0 27 v0 rfl rfl) h0 (light_each (ts := [27, 42]) hsz (j := 0) rfl rfl)
  have lt1 : ∀ x ∈ p1, x.block < W.heap.size := by obtain ⟨m, hm⟩ := h1; exact DataW.trod_lt m _ _ _ hm
  obtain ⟨y1, g1, rv1⟩ := rd_u8s (hval 1 42 v1 rfl rfl) h1 (light_each (ts := [27, 42]) hsz (j := 1) rfl rfl)
  clear hA0 hval0
  simp only [List.append_nil] at hW'
  have hwalk : Calls Tryz.prog 7 #[v0, v1] W fun e w' => e = .returned (.bool true) ∧ Below W.heap.size W w' := by
    obtain ⟨h', hc⟩ := z7 y0 g0 y1 g1
    refine ew_bool fitsX (args := [eF y0, .lst 0 1 (y1.map (AV.int .u8))]) (vs := [v0, v1]) hc ⟨rfl, fun i x hx => ?_⟩
    match i, hx with
    | 0, hx => obtain rfl : eF y0 = x := Option.some.inj hx; exact rv0
    | 1, hx => obtain rfl : AV.lst 0 1 (y1.map (AV.int .u8)) = x := Option.some.inj hx; exact rv1
  refine hwalk.mono fun e W' ⟨he, bel⟩ => ?_
  subst he
  exact ⟨_, rfl, _, _, _, [], _, [], hW', trodAll_mk1 (shut_bool Tryz.underlying4 _), (trodAll_cons_mk (Below.trod laid row27.1 row27.2 h0 bel lt0) (trodAll_cons_mk (Below.trod laid row42.1 row42.2 h1 bel lt1) trodAll_mk0)), rfl, bel.frame _, fun h => by cases h⟩

theorem over : Rows.giftLeftRow.holds Tryz.pinned (OpenSpec.ofChange Rows.giftLeftSpec) :=
  OpenClaim.holds_of_wide 7 Tryz.f7 rfl rfl rfl rfl rfl rfl rfl ⟨rfl, rfl, rfl, rfl, rfl⟩ rfl rfl rfl rfl rfl (by kernel_rfl) Tryz.func7 (by kernel_rfl)
    (of_decide_eq_true (by kernel_rfl)) (by unfold Func.isWrapper; first | (rw [if_pos (by decide +kernel)]; kernel_rfl) | (rw [if_neg (by decide +kernel)]; exact ⟨rfl, rfl⟩))
    (fun os started H enc _ => lifted os started H enc)

theorem proved : Rows.GiftLeftSaid := over
#print axioms proved
end Go.Proofs.YthkpjbgadkkeeaaGreat.giftLeft
end
