/- The body of TokenEnds. Conditions: those of each law. -/
import Derived.Test.YtbfodfepgefloaaQ26
set_option linter.unusedSimpArgs false
set_option linter.unusedVariables false
namespace Go.Proofs.Ytbfodfepgefloaa
open Go.Proofs

def bkD (d : Dr) (k : Nat) : Dr := ⟨d.steps, d.least, d.wear, (d.cards.take k).map revC, [], zT 2 k, 0⟩
theorem bkD_succ (d : Dr) {k : Nat} (hk : k < d.cards.length) : bkD d (k + 1) = { bkD d k with cards := (bkD d k).cards ++ [⟨(d.cards.getD k ⟨default, []⟩).name, (cardE d k).reverse⟩], zc := 2 } := by
  unfold bkD
  rw [List.take_add_one, card_at d k hk, List.map_append]
  rfl
theorem hush_15_8 : tabX.hush 15 8 = false := id rfl
theorem revD_fits {d : Dr} (hd : d.fits) : (revD d).fits := by
  refine ⟨fun h => zT_pos (List.length_pos_iff.2 fun e => h ?_), fun h => zT_pos (List.length_pos_iff.2 fun e => h ?_), ?_, ?_, fun c hc => ?_, fun c hc => ?_⟩
  · show d.cards.map revC = []; rw [e]; rfl
  · show d.halves.map revC = []; rw [e]; rfl
  · show (d.cards.map revC).length < _; rw [List.length_map]; exact hd.lc
  · show (d.halves.map revC).length < _; rw [List.length_map]; exact hd.lh
  · obtain ⟨x, hx, rfl⟩ := List.mem_map.1 hc
    exact ⟨(hd.nc x hx).1, by show x.edge.reverse.length < _; rw [List.length_reverse]; exact (hd.nc x hx).2⟩
  · obtain ⟨x, hx, rfl⟩ := List.mem_map.1 hc
    exact ⟨(hd.nh x hx).1, by show x.edge.reverse.length < _; rw [List.length_reverse]; exact (hd.nh x hx).2⟩
theorem hush_15_14 : tabX.hush 15 14 = false := id rfl
set_option maxHeartbeats 4000000 in
theorem l15 (d : Dr) (hd2 : d.fits ∧ d.zc = 2 ∧ d.zh = 2) : ∃ h', (EW tabX).call 15 [eD d] noHeap = some (.bool true, h') := by
  obtain ⟨hd, hz2, hz3⟩ := hd2
  have hcl := eD_clean d
  have h21 := c21
  have h37 := c37 d hd
  rw [noHeap, w_call _ fn_15 rfl]
  by_cases hc : (checkT d).2.2 = 0
  · obtain ⟨ho, hk⟩ := ok_of_check hc
    have s1 := ho.s1
    have s6 := ho.s6
    have hc4 := ho.c4
    have hh4 := ho.h4
    rw [hc] at h37
    simp only [go_sem, ↓reduceIte, Nat.reduceBEq, Nat.reduceEqDiff, Nat.reduceLT, Nat.reduceLeDiff, Nat.reduceAdd, Nat.reduceMul, Nat.reduceSub, reduceCtorEq, Int.reduceLT, Int.reduceLE, Int.reduceEq, Int.reduceBEq, Int.reduceBNe, Int.reduceToNat, Int.reduceAdd, Int.reduceNeg, Int.reduceSub, eD, eDc, eC_under, hz2, hz3] at hcl h37 ⊢
    simp (disch := omega) only [go_sem, ↓reduceIte, Nat.reduceBEq, Nat.reduceEqDiff, Nat.reduceLT, Nat.reduceLeDiff, Nat.reduceAdd, Nat.reduceMul, Nat.reduceSub, reduceCtorEq, Int.reduceLT, Int.reduceLE, Int.reduceEq, Int.reduceBEq, Int.reduceBNe, Int.reduceToNat, Int.reduceAdd, Int.reduceNeg, Int.reduceSub, eC_clean, eC_under, h37]
    generalize hX : (EW tabX).code 15 none (.loop _) _ = X
    refine w_rounds_sk hX (fun k _ => [(4, .int .i64 k)]) (fun s : (Nat × Nat) × (List ABlk × List Bool) × Nat => ⟨.cells (eDc d) :: .cells [.int .i64 d.steps, .int .i64 d.least, .int .i64 d.wear, .lst s.1.1 (zT 2 s.2.2) ((bkD d s.2.2).cards.map eC), .lst s.1.2 0 []] :: s.2.1.1, s.2.1.2⟩)
      (fun k s => s.2.2 = k) d.cards.length (.exit 0) (fun _ => [(4, .int .i64 d.cards.length)]) rfl ((1, 1), ([], []), 0) ?_ ?_ rfl ?_ ?_ ?_
    · simp only [go_sem, ↓reduceIte, Nat.reduceBEq, Nat.reduceEqDiff, Nat.reduceLT, Nat.reduceLeDiff, Nat.reduceAdd, Nat.reduceMul, Nat.reduceSub, reduceCtorEq, Int.reduceLT, Int.reduceLE, Int.reduceEq, Int.reduceBEq, Int.reduceBNe, Int.reduceToNat, Int.reduceAdd, Int.reduceNeg, Int.reduceSub]
    · simp only [go_sem, ↓reduceIte, Nat.reduceBEq, Nat.reduceEqDiff, Nat.reduceLT, Nat.reduceLeDiff, Nat.reduceAdd, Nat.reduceMul, Nat.reduceSub, reduceCtorEq, Int.reduceLT, Int.reduceLE, Int.reduceEq, Int.reduceBEq, Int.reduceBNe, Int.reduceToNat, Int.reduceAdd, Int.reduceNeg, Int.reduceSub, eDc, hz2, hz3]
      rfl
    · rintro k ⟨⟨u1, u2⟩, ⟨E, M⟩, k'⟩ hk hR
      obtain rfl : k' = k := hR
      have hki : (k' : Int) < d.cards.length := by omega
      have h49 := c49 (bkD d k') (by unfold bkD; simp; omega) (by unfold bkD; intro h; simp at h; exact zT_pos (by omega)) (d.cards.getD k' ⟨default, []⟩).name (cardE d k').reverse
      rw [← bkD_succ d hk] at h49
      have h50 := c50 (cardE d k') 1 (fun _ => rfl) (by rw [card_len ho hk]; omega)
      have ca := card_at d k' hk
      have hvI : vI (cardE d k').reverse = .lst 0 1 (I (cardE d k').reverse) := by rw [vI, zT_pos (by rw [List.length_reverse, card_len ho hk]; omega)]
      have hvc : ∀ l, (vI l).clean = some (vI l) := vI_clean
      have hlc := hvc (cardE d k').reverse
      rw [hvI] at h50 hlc
      have e1 : eD (bkD d (k' + 1)) = .agg [.int .i64 d.steps, .int .i64 d.least, .int .i64 d.wear, .lst 0 (zT 2 (k' + 1)) ((bkD d (k' + 1)).cards.map eC), .lst 0 0 []] := rfl
      have ek : eD (bkD d k') = .agg [.int .i64 d.steps, .int .i64 d.least, .int .i64 d.wear, .lst 0 (zT 2 k') ((bkD d k').cards.map eC), .lst 0 0 []] := rfl
      rw [e1, ek] at h49
      simp only [cardE] at h49 h50 hlc
      simp (disch := omega) only [go_sem, ↓reduceIte, Nat.reduceBEq, Nat.reduceEqDiff, Nat.reduceLT, Nat.reduceLeDiff, Nat.reduceAdd, Nat.reduceMul, Nat.reduceSub, reduceCtorEq, Int.reduceLT, Int.reduceLE, Int.reduceEq, Int.reduceBEq, Int.reduceBNe, Int.reduceToNat, Int.reduceAdd, Int.reduceNeg, Int.reduceSub, eDc, hz2, hz3, eC_clean, eC_under, eC_get, eC, hki, ca, h50, hlc, wrap_i64, hush_15_8]
      generalize hcf : List.all (conflicts _ _) _ = cf
      obtain rfl : cf = true := by rw [← hcf]; kernel_rfl
      generalize List.replicate _ ABlk.none = N
      generalize List.replicate _ false = M2
      simp (disch := omega) only [go_sem, ↓reduceIte, Nat.reduceBEq, Nat.reduceEqDiff, Nat.reduceLT, Nat.reduceLeDiff, Nat.reduceAdd, Nat.reduceMul, Nat.reduceSub, reduceCtorEq, Int.reduceLT, Int.reduceLE, Int.reduceEq, Int.reduceBEq, Int.reduceBNe, Int.reduceToNat, Int.reduceAdd, Int.reduceNeg, Int.reduceSub, eDc, hz2, hz3, eC_clean, eC_under, h49, wrap_i64]
      exact ⟨((0, 0), (E ++ N, M ++ M2), k' + 1), rfl, rfl⟩
    · rintro ⟨⟨u1, u2⟩, ⟨E, M⟩, k'⟩ hR
      obtain rfl : k' = d.cards.length := hR
      simp only [go_sem, ↓reduceIte, Nat.reduceBEq, Nat.reduceEqDiff, Nat.reduceLT, Nat.reduceLeDiff, Nat.reduceAdd, Nat.reduceMul, Nat.reduceSub, reduceCtorEq, Int.reduceLT, Int.reduceLE, Int.reduceEq, Int.reduceBEq, Int.reduceBNe, Int.reduceToNat, Int.reduceAdd, Int.reduceNeg, Int.reduceSub, eDc, hz2, hz3]
    · rintro ⟨⟨u1, u2⟩, ⟨E, M⟩, k'⟩ hx hR
      obtain rfl : k' = d.cards.length := hR
      rw [hx]
      have hbk : (bkD d d.cards.length).cards = (revD d).cards := by show (d.cards.take _).map revC = _; rw [List.take_length]; rfl
      rw [hbk]
      clear hx hX
      simp (disch := omega) only [go_sem, ↓reduceIte, Nat.reduceBEq, Nat.reduceEqDiff, Nat.reduceLT, Nat.reduceLeDiff, Nat.reduceAdd, Nat.reduceMul, Nat.reduceSub, reduceCtorEq, Int.reduceLT, Int.reduceLE, Int.reduceEq, Int.reduceBEq, Int.reduceBNe, Int.reduceToNat, Int.reduceAdd, Int.reduceNeg, Int.reduceSub, eDc, hz2, hz3]
      generalize hX : (EW tabX).code 15 none (.loop _) _ = X
      refine w_rounds_sk hX (fun k _ => [(5, .int .i64 k)]) (fun s : Nat × (List ABlk × List Bool) × Nat => ⟨.cells (eDc d) :: .cells [.int .i64 d.steps, .int .i64 d.least, .int .i64 d.wear, .lst u1 (zT 2 d.cards.length) ((revD d).cards.map eC), .lst s.1 (zT 2 s.2.2) (((d.halves.take s.2.2).map revC).map eC)] :: s.2.1.1, s.2.1.2⟩)
        (fun k s => s.2.2 = k) d.halves.length (.exit 2) (fun _ => [(5, .int .i64 d.halves.length)]) rfl (u2, (E, M), 0) ?_ ?_ rfl ?_ ?_ ?_
      · simp only [go_sem, ↓reduceIte, Nat.reduceBEq, Nat.reduceEqDiff, Nat.reduceLT, Nat.reduceLeDiff, Nat.reduceAdd, Nat.reduceMul, Nat.reduceSub, reduceCtorEq, Int.reduceLT, Int.reduceLE, Int.reduceEq, Int.reduceBEq, Int.reduceBNe, Int.reduceToNat, Int.reduceAdd, Int.reduceNeg, Int.reduceSub]
      · simp only [go_sem, ↓reduceIte, Nat.reduceBEq, Nat.reduceEqDiff, Nat.reduceLT, Nat.reduceLeDiff, Nat.reduceAdd, Nat.reduceMul, Nat.reduceSub, reduceCtorEq, Int.reduceLT, Int.reduceLE, Int.reduceEq, Int.reduceBEq, Int.reduceBNe, Int.reduceToNat, Int.reduceAdd, Int.reduceNeg, Int.reduceSub, eDc, hz2, hz3]
      · rintro k ⟨u3, ⟨E, M⟩, k'⟩ hk hR
        obtain rfl : k' = k := hR
        have hki : (k' : Int) < d.halves.length := by omega
        have ca := half_at hk
        have hhl := half_len ho hk
        have h50 := c50 (halfE d k') 1 (fun _ => rfl) (by omega)
        have hvI : vI (halfE d k').reverse = .lst 0 1 (I (halfE d k').reverse) := by rw [vI, zT_pos (by rw [List.length_reverse]; omega)]
        have hlc := vI_clean (halfE d k').reverse
        rw [hvI] at h50 hlc
        simp only [halfE] at h50 hlc
        simp (disch := omega) only [go_sem, ↓reduceIte, Nat.reduceBEq, Nat.reduceEqDiff, Nat.reduceLT, Nat.reduceLeDiff, Nat.reduceAdd, Nat.reduceMul, Nat.reduceSub, reduceCtorEq, Int.reduceLT, Int.reduceLE, Int.reduceEq, Int.reduceBEq, Int.reduceBNe, Int.reduceToNat, Int.reduceAdd, Int.reduceNeg, Int.reduceSub, eDc, hz2, hz3, eC_clean, eC_under, eC_get, eC, hki, ca, h50, hlc, wrap_i64, hush_15_14]
        generalize hcf : List.all (conflicts _ _) _ = cf
        obtain rfl : cf = true := by rw [← hcf]; kernel_rfl
        generalize hTT : M ++ List.replicate _ false = TT
        have hTl : TT.length = M.length + 9 := by rw [← hTT, List.length_append, List.length_replicate]; rfl
        generalize M.length = q at hTl
        generalize List.replicate _ ABlk.none = N
        have hlt : (d.halves.take k').length = k' := by rw [List.length_take]; omega
        have hzk : zT 2 k' = 2 ∨ ((((d.halves.take k').map revC).map eC).length = 0) := by
          by_cases h0 : k' = 0
          · exact .inr (by simp [h0])
          · exact .inl (zT_pos (by omega))
        obtain ⟨ta, p1, p2, p3⟩ := app_at (X := tabX) (ty := 23) (e := 65) (sz := 2) (tag := 1) (z := 2) (t := TT) (xs := []) (.inl ⟨rfl, .inl rfl⟩) (q + 3) (by omega) u3 (zT 2 k') (((d.halves.take k').map revC).map eC) (by simp only [go_sem, ↓reduceIte, Nat.reduceBEq, Nat.reduceEqDiff, Nat.reduceLT, Nat.reduceLeDiff, Nat.reduceAdd, Nat.reduceMul, Nat.reduceSub, reduceCtorEq, Int.reduceLT, Int.reduceLE, Int.reduceEq, Int.reduceBEq, Int.reduceBNe, Int.reduceToNat, Int.reduceAdd, Int.reduceNeg, Int.reduceSub]) (by simp only [go_sem, ↓reduceIte, Nat.reduceBEq, Nat.reduceEqDiff, Nat.reduceLT, Nat.reduceLeDiff, Nat.reduceAdd, Nat.reduceMul, Nat.reduceSub, reduceCtorEq, Int.reduceLT, Int.reduceLE, Int.reduceEq, Int.reduceBEq, Int.reduceBNe, Int.reduceToNat, Int.reduceAdd, Int.reduceNeg, Int.reduceSub]) (by omega)
          hzk (by simp only [go_sem, ↓reduceIte, Nat.reduceBEq, Nat.reduceEqDiff, Nat.reduceLT, Nat.reduceLeDiff, Nat.reduceAdd, Nat.reduceMul, Nat.reduceSub, reduceCtorEq, Int.reduceLT, Int.reduceLE, Int.reduceEq, Int.reduceBEq, Int.reduceBNe, Int.reduceToNat, Int.reduceAdd, Int.reduceNeg, Int.reduceSub, List.length_map, hlt]; omega) (by simp only [go_sem, ↓reduceIte, Nat.reduceBEq, Nat.reduceEqDiff, Nat.reduceLT, Nat.reduceLeDiff, Nat.reduceAdd, Nat.reduceMul, Nat.reduceSub, reduceCtorEq, Int.reduceLT, Int.reduceLE, Int.reduceEq, Int.reduceBEq, Int.reduceBNe, Int.reduceToNat, Int.reduceAdd, Int.reduceNeg, Int.reduceSub, List.length_map, hlt]; omega) (by simp only [go_sem, ↓reduceIte, Nat.reduceBEq, Nat.reduceEqDiff, Nat.reduceLT, Nat.reduceLeDiff, Nat.reduceAdd, Nat.reduceMul, Nat.reduceSub, reduceCtorEq, Int.reduceLT, Int.reduceLE, Int.reduceEq, Int.reduceBEq, Int.reduceBNe, Int.reduceToNat, Int.reduceAdd, Int.reduceNeg, Int.reduceSub]) (all_map (fun x => by simp only [eC, go_sem, ↓reduceIte, Nat.reduceBEq, Nat.reduceEqDiff, Nat.reduceLT, Nat.reduceLeDiff, Nat.reduceAdd, Nat.reduceMul, Nat.reduceSub, reduceCtorEq, Int.reduceLT, Int.reduceLE, Int.reduceEq, Int.reduceBEq, Int.reduceBNe, Int.reduceToNat, Int.reduceAdd, Int.reduceNeg, Int.reduceSub]) _)
        simp only [List.nil_append] at p1
        simp (disch := omega) only [go_sem, ↓reduceIte, Nat.reduceBEq, Nat.reduceEqDiff, Nat.reduceLT, Nat.reduceLeDiff, Nat.reduceAdd, Nat.reduceMul, Nat.reduceSub, reduceCtorEq, Int.reduceLT, Int.reduceLE, Int.reduceEq, Int.reduceBEq, Int.reduceBNe, Int.reduceToNat, Int.reduceAdd, Int.reduceNeg, Int.reduceSub, eDc, hz2, hz3, eC_clean, eC_under, p1, wrap_i64]
        obtain ⟨tb, p4, p5, p6⟩ := app_at (X := tabX) (ty := 23) (e := 65) (sz := 2) (tag := q + 3 + 2) (z := 2) (t := ta) (xs := ((d.halves.take k').map revC).map eC) (.inr ⟨q + 3, rfl, rfl, p2⟩) (q + 6) (by omega) 1 2 [.agg [.str (d.halves.getD k' ⟨default, []⟩).name, .lst 0 1 (I (d.halves.getD k' ⟨default, []⟩).edge.reverse)]] (by simp only [go_sem, ↓reduceIte, Nat.reduceBEq, Nat.reduceEqDiff, Nat.reduceLT, Nat.reduceLeDiff, Nat.reduceAdd, Nat.reduceMul, Nat.reduceSub, reduceCtorEq, Int.reduceLT, Int.reduceLE, Int.reduceEq, Int.reduceBEq, Int.reduceBNe, Int.reduceToNat, Int.reduceAdd, Int.reduceNeg, Int.reduceSub]) (by simp only [go_sem, ↓reduceIte, Nat.reduceBEq, Nat.reduceEqDiff, Nat.reduceLT, Nat.reduceLeDiff, Nat.reduceAdd, Nat.reduceMul, Nat.reduceSub, reduceCtorEq, Int.reduceLT, Int.reduceLE, Int.reduceEq, Int.reduceBEq, Int.reduceBNe, Int.reduceToNat, Int.reduceAdd, Int.reduceNeg, Int.reduceSub]) (by omega)
          (.inl rfl) (by simp only [go_sem, ↓reduceIte, Nat.reduceBEq, Nat.reduceEqDiff, Nat.reduceLT, Nat.reduceLeDiff, Nat.reduceAdd, Nat.reduceMul, Nat.reduceSub, reduceCtorEq, Int.reduceLT, Int.reduceLE, Int.reduceEq, Int.reduceBEq, Int.reduceBNe, Int.reduceToNat, Int.reduceAdd, Int.reduceNeg, Int.reduceSub, List.length_map, hlt]; omega) (by simp only [go_sem, ↓reduceIte, Nat.reduceBEq, Nat.reduceEqDiff, Nat.reduceLT, Nat.reduceLeDiff, Nat.reduceAdd, Nat.reduceMul, Nat.reduceSub, reduceCtorEq, Int.reduceLT, Int.reduceLE, Int.reduceEq, Int.reduceBEq, Int.reduceBNe, Int.reduceToNat, Int.reduceAdd, Int.reduceNeg, Int.reduceSub, List.length_map, hlt]; omega) (by simp only [go_sem, ↓reduceIte, Nat.reduceBEq, Nat.reduceEqDiff, Nat.reduceLT, Nat.reduceLeDiff, Nat.reduceAdd, Nat.reduceMul, Nat.reduceSub, reduceCtorEq, Int.reduceLT, Int.reduceLE, Int.reduceEq, Int.reduceBEq, Int.reduceBNe, Int.reduceToNat, Int.reduceAdd, Int.reduceNeg, Int.reduceSub]) (by simp only [go_sem, ↓reduceIte, Nat.reduceBEq, Nat.reduceEqDiff, Nat.reduceLT, Nat.reduceLeDiff, Nat.reduceAdd, Nat.reduceMul, Nat.reduceSub, reduceCtorEq, Int.reduceLT, Int.reduceLE, Int.reduceEq, Int.reduceBEq, Int.reduceBNe, Int.reduceToNat, Int.reduceAdd, Int.reduceNeg, Int.reduceSub])
        have hnew : ((d.halves.take k').map revC).map eC ++ [.agg [.str (d.halves.getD k' ⟨default, []⟩).name, .lst 0 1 (I (d.halves.getD k' ⟨default, []⟩).edge.reverse)]] = ((d.halves.take (k' + 1)).map revC).map eC := by
          rw [List.take_add_one, ca, List.map_append, List.map_append]; rfl
        rw [hnew] at p4
        have hz2' : zT 2 (k' + 1) = 2 := zT_pos (by omega)
        simp (disch := omega) only [go_sem, ↓reduceIte, Nat.reduceBEq, Nat.reduceEqDiff, Nat.reduceLT, Nat.reduceLeDiff, Nat.reduceAdd, Nat.reduceMul, Nat.reduceSub, reduceCtorEq, Int.reduceLT, Int.reduceLE, Int.reduceEq, Int.reduceBEq, Int.reduceBNe, Int.reduceToNat, Int.reduceAdd, Int.reduceNeg, Int.reduceSub, eDc, hz2, hz3, eC_clean, eC_under, p4, wrap_i64]
        refine ⟨(q + 6 + 2, (E ++ .cells [.str (d.halves.getD k' ⟨default, []⟩).name, .lst 0 1 (I (d.halves.getD k' ⟨default, []⟩).edge.reverse)] :: N, tb), k' + 1), ?_, rfl⟩
        simp only [hz2']
      · rintro ⟨u3, ⟨E, M⟩, k'⟩ hR
        obtain rfl : k' = d.halves.length := hR
        simp only [go_sem, ↓reduceIte, Nat.reduceBEq, Nat.reduceEqDiff, Nat.reduceLT, Nat.reduceLeDiff, Nat.reduceAdd, Nat.reduceMul, Nat.reduceSub, reduceCtorEq, Int.reduceLT, Int.reduceLE, Int.reduceEq, Int.reduceBEq, Int.reduceBNe, Int.reduceToNat, Int.reduceAdd, Int.reduceNeg, Int.reduceSub, eDc, hz2, hz3]
      · rintro ⟨u3, ⟨E, M⟩, k'⟩ hx hR
        obtain rfl : k' = d.halves.length := hR
        rw [hx]
        have hbk : (d.halves.take d.halves.length).map revC = (revD d).halves := by rw [List.take_length]; rfl
        simp only [hbk]
        clear hx hX
        have ho' := revD_ok ho
        have hd' := revD_fits hd
        have hc' := checked ho'
        have h22 := c22_yes d hd hc
        have h22' := c22_yes (revD d) hd' hc'
        have h32 := c32 d hd
        have h32' := c32 (revD d) hd'
        have hfe : first (revD d) = first d := by unfold first; rw [first_rev ho]
        rw [hfe] at h22'
        rw [enough_rev ho] at h32'
        have hfl : (first d).length ≤ 4 := by have := (fair_truth (first_mem d)).1; omega
        have h20 := c20 (first d) (first d) 1 1 (fun _ => rfl) (fun _ => rfl) (by omega) (by omega)
        rw [show decide (first d = first d) = true by simp] at h20
        have h30 := c30_in d hd hc
        have h30' := c30_in (revD d) hd' hc'
        have h18 := c18_in d hd hc
        have h18' := c18_in (revD d) hd' hc'
        have hh2 : (revD d).halves.length = d.halves.length := List.length_map _
        have hcl2 : (revD d).cards.length = d.cards.length := List.length_map _
        rw [hcl2] at h18' h30'
        rw [hh2] at h18'
        have hclr := eD_clean (revD d)
        have e1 : eD (revD d) = .agg [.int .i64 d.steps, .int .i64 d.least, .int .i64 d.wear, .lst 0 (zT 2 d.cards.length) ((revD d).cards.map eC), .lst 0 (zT 2 d.halves.length) ((revD d).halves.map eC)] := rfl
        rw [e1] at h22' h32' h30' h18'
        have hx2 : ∀ l : List Int, cleanL (I l) = some (I l) := I_clean
        have hnx : ∀ x : Bool, (x != x) = false := fun x => by simp
        simp only [go_sem, ↓reduceIte, Nat.reduceBEq, Nat.reduceEqDiff, Nat.reduceLT, Nat.reduceLeDiff, Nat.reduceAdd, Nat.reduceMul, Nat.reduceSub, reduceCtorEq, Int.reduceLT, Int.reduceLE, Int.reduceEq, Int.reduceBEq, Int.reduceBNe, Int.reduceToNat, Int.reduceAdd, Int.reduceNeg, Int.reduceSub, eD, eDc, eC_under, hz2, hz3] at h22 h32 h30 h18 ⊢
        simp (disch := omega) only [go_sem, ↓reduceIte, Nat.reduceBEq, Nat.reduceEqDiff, Nat.reduceLT, Nat.reduceLeDiff, Nat.reduceAdd, Nat.reduceMul, Nat.reduceSub, reduceCtorEq, Int.reduceLT, Int.reduceLE, Int.reduceEq, Int.reduceBEq, Int.reduceBNe, Int.reduceToNat, Int.reduceAdd, Int.reduceNeg, Int.reduceSub, eC_clean, eC_under, h22, h22', h32, h32', h20]
        rw [w_rounds_u (fun k => [(17, .int .i64 k)]) d.cards.length (.exit 4) [(17, .int .i64 d.cards.length)] ?_ ?_ ?_ rfl]
        · simp only [go_sem, ↓reduceIte, Nat.reduceBEq, Nat.reduceEqDiff, Nat.reduceLT, Nat.reduceLeDiff, Nat.reduceAdd, Nat.reduceMul, Nat.reduceSub, reduceCtorEq, Int.reduceLT, Int.reduceLE, Int.reduceEq, Int.reduceBEq, Int.reduceBNe, Int.reduceToNat, Int.reduceAdd, Int.reduceNeg, Int.reduceSub, h21]
          exact ⟨_, rfl⟩
        · simp only [go_sem, ↓reduceIte, Nat.reduceBEq, Nat.reduceEqDiff, Nat.reduceLT, Nat.reduceLeDiff, Nat.reduceAdd, Nat.reduceMul, Nat.reduceSub, reduceCtorEq, Int.reduceLT, Int.reduceLE, Int.reduceEq, Int.reduceBEq, Int.reduceBNe, Int.reduceToNat, Int.reduceAdd, Int.reduceNeg, Int.reduceSub]
        · intro c hcc
          have hci : (c : Int) < d.cards.length := by omega
          simp (disch := omega) only [go_sem, ↓reduceIte, Nat.reduceBEq, Nat.reduceEqDiff, Nat.reduceLT, Nat.reduceLeDiff, Nat.reduceAdd, Nat.reduceMul, Nat.reduceSub, reduceCtorEq, Int.reduceLT, Int.reduceLE, Int.reduceEq, Int.reduceBEq, Int.reduceBNe, Int.reduceToNat, Int.reduceAdd, Int.reduceNeg, Int.reduceSub, hci, wrap_i64]
          rw [w_rounds_u (fun k => [(18, .int .i64 k)]) d.halves.length (.exit 6) [(18, .int .i64 d.halves.length)] ?_ ?_ ?_ rfl]
          · simp (disch := omega) only [go_sem, ↓reduceIte, Nat.reduceBEq, Nat.reduceEqDiff, Nat.reduceLT, Nat.reduceLeDiff, Nat.reduceAdd, Nat.reduceMul, Nat.reduceSub, reduceCtorEq, Int.reduceLT, Int.reduceLE, Int.reduceEq, Int.reduceBEq, Int.reduceBNe, Int.reduceToNat, Int.reduceAdd, Int.reduceNeg, Int.reduceSub, wrap_i64]
            rw [w_rounds_u (fun k => [(24, .int .i64 k)]) c (.exit 10) [(24, .int .i64 c)] ?_ ?_ ?_ rfl]
            · simp (disch := omega) only [go_sem, ↓reduceIte, Nat.reduceBEq, Nat.reduceEqDiff, Nat.reduceLT, Nat.reduceLeDiff, Nat.reduceAdd, Nat.reduceMul, Nat.reduceSub, reduceCtorEq, Int.reduceLT, Int.reduceLE, Int.reduceEq, Int.reduceBEq, Int.reduceBNe, Int.reduceToNat, Int.reduceAdd, Int.reduceNeg, Int.reduceSub, wrap_i64]
            · simp only [go_sem, ↓reduceIte, Nat.reduceBEq, Nat.reduceEqDiff, Nat.reduceLT, Nat.reduceLeDiff, Nat.reduceAdd, Nat.reduceMul, Nat.reduceSub, reduceCtorEq, Int.reduceLT, Int.reduceLE, Int.reduceEq, Int.reduceBEq, Int.reduceBNe, Int.reduceToNat, Int.reduceAdd, Int.reduceNeg, Int.reduceSub]
            · intro b hb
              have hbi : (b : Int) < c := by omega
              have q1 := h30 c b hcc (by omega) (by omega)
              have q2 := h30' c b hcc (by omega) (by omega)
              rw [alike_rev] at q2
              simp (disch := omega) only [go_sem, ↓reduceIte, Nat.reduceBEq, Nat.reduceEqDiff, Nat.reduceLT, Nat.reduceLeDiff, Nat.reduceAdd, Nat.reduceMul, Nat.reduceSub, reduceCtorEq, Int.reduceLT, Int.reduceLE, Int.reduceEq, Int.reduceBEq, Int.reduceBNe, Int.reduceToNat, Int.reduceAdd, Int.reduceNeg, Int.reduceSub, eC_clean, eC_under, hbi, q1, q2, hnx, wrap_i64]
            · simp only [go_sem, ↓reduceIte, Nat.reduceBEq, Nat.reduceEqDiff, Nat.reduceLT, Nat.reduceLeDiff, Nat.reduceAdd, Nat.reduceMul, Nat.reduceSub, reduceCtorEq, Int.reduceLT, Int.reduceLE, Int.reduceEq, Int.reduceBEq, Int.reduceBNe, Int.reduceToNat, Int.reduceAdd, Int.reduceNeg, Int.reduceSub]
          · simp only [go_sem, ↓reduceIte, Nat.reduceBEq, Nat.reduceEqDiff, Nat.reduceLT, Nat.reduceLeDiff, Nat.reduceAdd, Nat.reduceMul, Nat.reduceSub, reduceCtorEq, Int.reduceLT, Int.reduceLE, Int.reduceEq, Int.reduceBEq, Int.reduceBNe, Int.reduceToNat, Int.reduceAdd, Int.reduceNeg, Int.reduceSub]
          · intro e he
            have hei : (e : Int) < d.halves.length := by omega
            have p1 := h18 c e hcc he
            have p2 := h18' c e hcc he
            have hll := fit_rev_len ho hcc he
            have hfx := fit_rev ho hcc he
            have hlc1 := vI_clean (fitN d c e)
            have hlc2 := vI_clean (fitN (revD d) c e)
            have hre := half_at he
            have hhl := half_len ho he
            have hfN : ∀ x ∈ fitN d c e, 0 ≤ x ∧ x < d.steps := fun x hx => by
              obtain ⟨s, h1, rfl, _⟩ := mem_fitN.1 hx
              omega
            have hzz2 : ∀ l : List Int, l ≠ [] → zT 1 l.length = 1 := fun l h => zT_pos (List.length_pos_iff.2 h)
            have hle : (fitN d c e).length ≤ 6 := by have := fitsL_len d (d.cards.getD c ⟨default, []⟩) (d.halves.getD e ⟨default, []⟩) d.steps.toNat; unfold fitN; omega
            have h39 := fun x : Int => c39 (fitN (revD d) c e) x _ (hzz2 _) (by omega)
            simp only [vI] at p1 p2 hlc1 hlc2
            rw [hll] at p2 h39
            simp (disch := omega) only [go_sem, ↓reduceIte, Nat.reduceBEq, Nat.reduceEqDiff, Nat.reduceLT, Nat.reduceLeDiff, Nat.reduceAdd, Nat.reduceMul, Nat.reduceSub, reduceCtorEq, Int.reduceLT, Int.reduceLE, Int.reduceEq, Int.reduceBEq, Int.reduceBNe, Int.reduceToNat, Int.reduceAdd, Int.reduceNeg, Int.reduceSub, eC_clean, eC_under, hei, p1, p2, hll, wrap_i64]
            rw [w_rounds_u (fun k => [(23, .int .i64 k)]) (fitN d c e).length (.exit 8) [(23, .int .i64 (fitN d c e).length)] ?_ ?_ ?_ rfl]
            · simp (disch := omega) only [go_sem, ↓reduceIte, Nat.reduceBEq, Nat.reduceEqDiff, Nat.reduceLT, Nat.reduceLeDiff, Nat.reduceAdd, Nat.reduceMul, Nat.reduceSub, reduceCtorEq, Int.reduceLT, Int.reduceLE, Int.reduceEq, Int.reduceBEq, Int.reduceBNe, Int.reduceToNat, Int.reduceAdd, Int.reduceNeg, Int.reduceSub, wrap_i64]
            · simp only [go_sem, ↓reduceIte, Nat.reduceBEq, Nat.reduceEqDiff, Nat.reduceLT, Nat.reduceLeDiff, Nat.reduceAdd, Nat.reduceMul, Nat.reduceSub, reduceCtorEq, Int.reduceLT, Int.reduceLE, Int.reduceEq, Int.reduceBEq, Int.reduceBNe, Int.reduceToNat, Int.reduceAdd, Int.reduceNeg, Int.reduceSub]
            · intro n hn
              have hni : (n : Int) < (fitN d c e).length := by omega
              obtain ⟨x, hxm, hxg⟩ : ∃ x, x ∈ fitN d c e ∧ (fitN d c e)[n]? = some x := ⟨_, List.getElem_mem hn, List.getElem?_eq_getElem hn⟩
              have hxr := hfN x hxm
              have hany : ((fitN (revD d) c e).any fun y => y == d.steps - (halfE d e).length - x) = true := List.any_eq_true.2 ⟨_, hfx x hxm, by simp⟩
              have h39x := h39 (d.steps - (halfE d e).length - x)
              rw [hany] at h39x
              have hz1 : zT 1 (fitN d c e).length = 1 := zT_pos (by omega)
              simp only [halfE, hz1] at h39x hhl
              simp (disch := omega) only [go_sem, ↓reduceIte, Nat.reduceBEq, Nat.reduceEqDiff, Nat.reduceLT, Nat.reduceLeDiff, Nat.reduceAdd, Nat.reduceMul, Nat.reduceSub, reduceCtorEq, Int.reduceLT, Int.reduceLE, Int.reduceEq, Int.reduceBEq, Int.reduceBNe, Int.reduceToNat, Int.reduceAdd, Int.reduceNeg, Int.reduceSub, eDc, hz2, hz3, eC_clean, eC_under, eC_get, eC, hni, hxg, hre, hz1, h39x, wrap_i64, hush_15_34]
            · simp only [go_sem, ↓reduceIte, Nat.reduceBEq, Nat.reduceEqDiff, Nat.reduceLT, Nat.reduceLeDiff, Nat.reduceAdd, Nat.reduceMul, Nat.reduceSub, reduceCtorEq, Int.reduceLT, Int.reduceLE, Int.reduceEq, Int.reduceBEq, Int.reduceBNe, Int.reduceToNat, Int.reduceAdd, Int.reduceNeg, Int.reduceSub]
          · simp only [go_sem, ↓reduceIte, Nat.reduceBEq, Nat.reduceEqDiff, Nat.reduceLT, Nat.reduceLeDiff, Nat.reduceAdd, Nat.reduceMul, Nat.reduceSub, reduceCtorEq, Int.reduceLT, Int.reduceLE, Int.reduceEq, Int.reduceBEq, Int.reduceBNe, Int.reduceToNat, Int.reduceAdd, Int.reduceNeg, Int.reduceSub]
        · simp only [go_sem, ↓reduceIte, Nat.reduceBEq, Nat.reduceEqDiff, Nat.reduceLT, Nat.reduceLeDiff, Nat.reduceAdd, Nat.reduceMul, Nat.reduceSub, reduceCtorEq, Int.reduceLT, Int.reduceLE, Int.reduceEq, Int.reduceBEq, Int.reduceBNe, Int.reduceToNat, Int.reduceAdd, Int.reduceNeg, Int.reduceSub]
  · have hcf : ((checkT d).2.2 == 0) = false := by simpa using hc
    rw [hcf] at h37
    simp only [go_sem, ↓reduceIte, Nat.reduceBEq, Nat.reduceEqDiff, Nat.reduceLT, Nat.reduceLeDiff, Nat.reduceAdd, Nat.reduceMul, Nat.reduceSub, reduceCtorEq, Int.reduceLT, Int.reduceLE, Int.reduceEq, Int.reduceBEq, Int.reduceBNe, Int.reduceToNat, Int.reduceAdd, Int.reduceNeg, Int.reduceSub, eD, eDc, eC_under] at hcl h37 ⊢
    simp (disch := omega) only [go_sem, ↓reduceIte, Nat.reduceBEq, Nat.reduceEqDiff, Nat.reduceLT, Nat.reduceLeDiff, Nat.reduceAdd, Nat.reduceMul, Nat.reduceSub, reduceCtorEq, Int.reduceLT, Int.reduceLE, Int.reduceEq, Int.reduceBEq, Int.reduceBNe, Int.reduceToNat, Int.reduceAdd, Int.reduceNeg, Int.reduceSub, eC_clean, eC_under, h37, h21]
    exact ⟨_, rfl⟩
end Go.Proofs.Ytbfodfepgefloaa
