/- Z-numbers. Whether it pays, by the reference. Conditions: those of each law. -/
import Derived.Test.YthkpjbgadkkeeaaGreatQ24
set_option linter.unusedSimpArgs false
set_option linter.unusedVariables false
namespace Go.Proofs.YthkpjbgadkkeeaaGreat
open Go.Proofs

theorem ask_visit (d : Fu) (n : Int) : askE d n d.visits.length = visitE d n := by
  unfold visitE enterE askE idxE
  by_cases h0 : checkE d = 0
  · have ho := ok_of_check h0
    rw [if_pos h0, if_pos h0]
    cases h1 : out 0 ((d.visits.length : Int) - 1) n with
    | true => simp
    | false =>
      simp only [Bool.false_eq_true, if_false, if_true]
      rw [someR_nil ho]
  · simp only [if_neg h0]
set_option maxHeartbeats 2000000 in
set_option maxRecDepth 100000 in
theorem cPays (d : Fu) (hd : d.fits) (n : Int) (h : Heap) : callPure (EW tabX) 14 [eF d, .int .i64 n] h = some (vQ (paysP d n), h) := by
  have h50 := c53 d hd n d.visits.length (by have := hd.lv; omega)
  have hcl := eF_clean d
  rw [ask_visit] at h50
  rw [callPure_eq, w_call _ fn_14 rfl]
  unfold paysP
  by_cases h0 : visitE d n = 0
  rotate_left
  · rw [if_neg h0]
    have hne : (visitE d n != 0) = true := by simpa using h0
    simp only [eF_eq, vQ] at h50 ⊢
    simp only [go_sem, ↓reduceIte, Nat.reduceBEq, Nat.reduceEqDiff, Nat.reduceLT, Nat.reduceLeDiff, Nat.reduceAdd, Nat.reduceMul, Nat.reduceSub, reduceCtorEq, Int.reduceLT, Int.reduceLE, Int.reduceEq, Int.reduceBEq, Int.reduceBNe, Int.reduceToNat, Int.reduceAdd, Int.reduceNeg, Int.reduceSub, h50, hne]
    skip
  rw [if_pos h0]
  obtain ⟨k1, k2, k3⟩ := enterE_zero h0
  have ho := ok_of_check k1
  obtain ⟨k4, k5⟩ := idxE_zero (by decide) k2
  have hv5 := ho.visits
  obtain ⟨at', rfl⟩ := Int.eq_ofNat_of_zero_le k4
  have hatl : at' < d.visits.length := by omega
  have h51 := cWidows d hd ho
  have h52 := fun ws (hw : ws.length = d.people.length) => cRun d hd ho k3 ws hw
  have h54 := cSettled
  have hper := pay_ref ho k3 (show at' + 1 ≤ d.visits.length by omega)
  have hcb := fun i => cn_bd d (at' + 1) (widL d d.people.length) i
  have hL := fun i (hi : i < (widL d d.people.length).length) => getD_wid hi
  have hLl := widL_len d d.people.length
  have hp4 := ho.people
  have hpow : 2 ^ d.people.length ≤ 16 := by
    have : 2 ^ d.people.length ≤ 2 ^ 4 := Nat.pow_le_pow_right (by omega) (by omega)
    omega
  have hpay : payV ((allM d 0 0 (ways d)).foldl (payF (((at' : Int)).toNat + 1)) (false, false)) = payOf d (at' + 1) := rfl
  have hwa : IntKind.i64.wrap ((at' : Int) + 1) = (at' : Int) + 1 := wrap_i64 (by omega)
  rw [hpay, ← hper]
  clear hper hpay
  generalize widL d d.people.length = L at *
  simp only [eF_eq, vQ, vW, vBs', vR] at h50 h51 h52 hcl ⊢
  simp only [go_sem, ↓reduceIte, Nat.reduceBEq, Nat.reduceEqDiff, Nat.reduceLT, Nat.reduceLeDiff, Nat.reduceAdd, Nat.reduceMul, Nat.reduceSub, reduceCtorEq, Int.reduceLT, Int.reduceLE, Int.reduceEq, Int.reduceBEq, Int.reduceBNe, Int.reduceToNat, Int.reduceAdd, Int.reduceNeg, Int.reduceSub, h50, h0, h51, wid_cleanL, wid_underL]
  generalize hy : (EW tabX).code 14 none (Code.loop _) _ = y
  refine w_rounds_sk hy (fun i s => [(7, .int .i64 (cnN d (at' + 1) L i).1), (8, .int .i64 (cnN d (at' + 1) L i).2), (10, .int .i64 (i : Int))]) (fun s : Nat × List ABlk × List Bool => ⟨.cells (eFc d) :: s.2.1, s.2.2⟩)
    (fun i s => s.1 = i) L.length (.exit 0) (fun _ => [(7, .int .i64 (cnN d (at' + 1) L L.length).1), (8, .int .i64 (cnN d (at' + 1) L L.length).2), (10, .int .i64 (L.length : Int))]) rfl (0, [], []) ?_ ?_ rfl ?_ ?_ ?_
  · simp only [go_sem, ↓reduceIte, Nat.reduceBEq, Nat.reduceEqDiff, Nat.reduceLT, Nat.reduceLeDiff, Nat.reduceAdd, Nat.reduceMul, Nat.reduceSub, reduceCtorEq, Int.reduceLT, Int.reduceLE, Int.reduceEq, Int.reduceBEq, Int.reduceBNe, Int.reduceToNat, Int.reduceAdd, Int.reduceNeg, Int.reduceSub, cnN]
    skip
  · simp only [go_sem, ↓reduceIte, Nat.reduceBEq, Nat.reduceEqDiff, Nat.reduceLT, Nat.reduceLeDiff, Nat.reduceAdd, Nat.reduceMul, Nat.reduceSub, reduceCtorEq, Int.reduceLT, Int.reduceLE, Int.reduceEq, Int.reduceBEq, Int.reduceBNe, Int.reduceToNat, Int.reduceAdd, Int.reduceNeg, Int.reduceSub, eFc]
    skip
  · rintro i ⟨i', E, M⟩ hi hR
    obtain rfl : i' = i := hR
    have hii : (i' : Int) < L.length := by omega
    have hwi : IntKind.i64.wrap ((i' : Int) + 1) = (i' : Int) + 1 := wrap_i64 (by omega)
    have hg := vW_get hi
    have hz1 : zT 1 L.length = 1 := zT_pos (by omega)
    have hrun := h52 _ (hL i' hi)
    simp only [vBs'] at hg
    have hstep : cnN d (at' + 1) L (i' + 1) = cnTo (refX d (L.getD i' []) (at' + 1)) (cnN d (at' + 1) L i') 1204 := rfl
    have hcbi := hcb i'
    generalize L.getD i' [] = ws at *
    have hrc := rowX_clean d ws (d.visits.length + 1)
    have hru := fun n => rowX_under d ws (d.visits.length + 1) n
    have hrx := rowX_get d ws (show at' + 1 < d.visits.length + 1 by omega)
    have hrl := rowX_len d ws (d.visits.length + 1)
    have hlai : (at' : Int) + 1 < ((d.visits.length + 1 : Nat) : Int) := by omega
    have hlan : ¬ (at' : Int) + 1 < 0 := by omega
    have hlat : ((at' : Int) + 1).toNat = at' + 1 := by omega
    have hxl := refX_len d ws (at' + 1)
    have hbl : (Bs (refX d ws (at' + 1))).length = 1204 := by rw [Bs_len, hxl]
    have hbt := Bs_take hxl
    have hfl : (Bs falses).length = 1204 := by rw [Bs_len, falses_len]
    have hsp : splice (Bs falses) 0 (Bs (refX d ws (at' + 1))) = Bs (refX d ws (at' + 1)) := splice_full (by rw [hfl, hbl])
    have hL : ∀ (a0 v : ABlk) (R : List ABlk), (a0 :: (E ++ (ABlk.none :: v :: R)))[E.length + 2]? = some v := fun a0 v R => by
      rw [show E.length + 2 = (E.length + 1) + 1 by omega]
      simp only [List.getElem?_cons_succ]
      rw [List.getElem?_append_right (by omega), show E.length + 1 - E.length = 1 by omega]; rfl
    have hS : ∀ (a0 v u : ABlk) (R : List ABlk), (a0 :: (E ++ (ABlk.none :: v :: R))).set (E.length + 2) u = a0 :: (E ++ (ABlk.none :: u :: R)) := fun a0 v u R => by
      rw [show E.length + 2 = (E.length + 1) + 1 by omega]
      simp only [List.set_cons_succ]
      rw [List.set_append_right _ _ (by omega), show E.length + 1 - E.length = 1 by omega]; rfl
    simp only [go_sem, ↓reduceIte, Nat.reduceBEq, Nat.reduceEqDiff, Nat.reduceLT, Nat.reduceLeDiff, Nat.reduceAdd, Nat.reduceMul, Nat.reduceSub, reduceCtorEq, Int.reduceLT, Int.reduceLE, Int.reduceEq, Int.reduceBEq, Int.reduceBNe, Int.reduceToNat, Int.reduceAdd, Int.reduceNeg, Int.reduceSub, Bs_one, Bs_under, Bs_clean, ↓tsz106, ↓tbytes106, ↓tagg106, ↓trow106, ↓tint106, ↓tmap106, ↓teq106, ↓tbool106, ↓tref106, ↓tfok106, ↓known106, ↓tzero106, ↓tsz104, ↓tbytes104, ↓tagg104, ↓trow104, ↓tint104, ↓tmap104, ↓teq104, ↓tbool104, ↓tref104, ↓tfok104, ↓known104, ↓tzero104, ↓tfield106, eFc, hii, hg, hz1, hrun, hrc, hru, hwa, hrx, hrl, hlai, hlan, hlat]
    generalize hcf : okFam _ _ _ = cf
    obtain rfl : cf = true := by rw [← hcf]; kernel_rfl
    simp only [go_sem, ↓reduceIte, Nat.reduceBEq, Nat.reduceEqDiff, Nat.reduceLT, Nat.reduceLeDiff, Nat.reduceAdd, Nat.reduceMul, Nat.reduceSub, reduceCtorEq, Int.reduceLT, Int.reduceLE, Int.reduceEq, Int.reduceBEq, Int.reduceBNe, Int.reduceToNat, Int.reduceAdd, Int.reduceNeg, Int.reduceSub, Bs_one, Bs_under, Bs_clean, ↓tsz106, ↓tbytes106, ↓tagg106, ↓trow106, ↓tint106, ↓tmap106, ↓teq106, ↓tbool106, ↓tref106, ↓tfok106, ↓known106, ↓tzero106, ↓tsz104, ↓tbytes104, ↓tagg104, ↓trow104, ↓tint104, ↓tmap104, ↓teq104, ↓tbool104, ↓tref104, ↓tfok104, ↓known104, ↓tzero104, ↓tfield106, eFc, hii, hg, hz1, hrun, hrc, hru, hwa, hrx, hrl, hlai, hlan, hlat, hbl, hbt, hfl, hsp, List.size_toArray, Nat.add_lt_add_iff_left, Nat.add_assoc, hL, hS]
    have hGl := fun a0 => hL a0 (.cells (Bs (refX d ws (at' + 1)))) [.none, .none, .none, .none, .none, .none, .none, .none, .none, .none]
    generalize hG : E ++ [ABlk.none, .cells (Bs (refX d ws (at' + 1))), .none, .none, .none, .none, .none, .none, .none, .none, .none, .none] = G at hGl
    generalize hM : M ++ [false, false, false, false, false, false, false, false, false, false, false, false] = M2
    refine ⟨(i' + 1, G, M2), ?_, rfl⟩
    simp only [hG, hM, hstep]
    clear hG hM hL hS
    generalize refX d ws (at' + 1) = x at *
    generalize cnN d (at' + 1) L i' = r0 at *
    rw [w_rounds_u (fun l => [(7, .int .i64 (cnTo x r0 (4 * l)).1), (8, .int .i64 (cnTo x r0 (4 * l)).2), (12, .int .i64 (l : Int))]) 301 (.exit 2) [(7, .int .i64 (cnTo x r0 1204).1), (8, .int .i64 (cnTo x r0 1204).2), (12, .int .i64 301)] ?_ ?_ ?_ rfl]
    · simp only [go_sem, ↓reduceIte, Nat.reduceBEq, Nat.reduceEqDiff, Nat.reduceLT, Nat.reduceLeDiff, Nat.reduceAdd, Nat.reduceMul, Nat.reduceSub, reduceCtorEq, Int.reduceLT, Int.reduceLE, Int.reduceEq, Int.reduceBEq, Int.reduceBNe, Int.reduceToNat, Int.reduceAdd, Int.reduceNeg, Int.reduceSub, eFc, hwi]
      skip
    · simp only [go_sem, ↓reduceIte, Nat.reduceBEq, Nat.reduceEqDiff, Nat.reduceLT, Nat.reduceLeDiff, Nat.reduceAdd, Nat.reduceMul, Nat.reduceSub, reduceCtorEq, Int.reduceLT, Int.reduceLE, Int.reduceEq, Int.reduceBEq, Int.reduceBNe, Int.reduceToNat, Int.reduceAdd, Int.reduceNeg, Int.reduceSub, cnTo]
      skip
    · intro l hl
      have hli : (l : Int) ≤ 300 := by omega
      have hwl : IntKind.i64.wrap ((l : Int) + 1) = (l : Int) + 1 := wrap_i64 (by omega)
      simp only [go_sem, ↓reduceIte, Nat.reduceBEq, Nat.reduceEqDiff, Nat.reduceLT, Nat.reduceLeDiff, Nat.reduceAdd, Nat.reduceMul, Nat.reduceSub, reduceCtorEq, Int.reduceLT, Int.reduceLE, Int.reduceEq, Int.reduceBEq, Int.reduceBNe, Int.reduceToNat, Int.reduceAdd, Int.reduceNeg, Int.reduceSub, eFc, hli]
      rw [w_rounds_u (fun j => [(7, .int .i64 (cnTo x r0 (4 * l + j)).1), (8, .int .i64 (cnTo x r0 (4 * l + j)).2), (13, .int .i64 (j : Int))]) 4 (.exit 4) [(7, .int .i64 (cnTo x r0 (4 * l + 4)).1), (8, .int .i64 (cnTo x r0 (4 * l + 4)).2), (13, .int .i64 4)] ?_ ?_ ?_ rfl]
      · have e1 : 4 * (l + 1) = 4 * l + 4 := by omega
        simp only [go_sem, ↓reduceIte, Nat.reduceBEq, Nat.reduceEqDiff, Nat.reduceLT, Nat.reduceLeDiff, Nat.reduceAdd, Nat.reduceMul, Nat.reduceSub, reduceCtorEq, Int.reduceLT, Int.reduceLE, Int.reduceEq, Int.reduceBEq, Int.reduceBNe, Int.reduceToNat, Int.reduceAdd, Int.reduceNeg, Int.reduceSub, eFc, hwl, e1]
        skip
      · simp only [go_sem, ↓reduceIte, Nat.reduceBEq, Nat.reduceEqDiff, Nat.reduceLT, Nat.reduceLeDiff, Nat.reduceAdd, Nat.reduceMul, Nat.reduceSub, reduceCtorEq, Int.reduceLT, Int.reduceLE, Int.reduceEq, Int.reduceBEq, Int.reduceBNe, Int.reduceToNat, Int.reduceAdd, Int.reduceNeg, Int.reduceSub, Nat.add_zero]
        skip
      · intro j hj
        have hji : (j : Int) < 4 := by omega
        have hwj : IntKind.i64.wrap ((j : Int) + 1) = (j : Int) + 1 := wrap_i64 (by omega)
        have t1 : (j : Int).tdiv 2 = ((j / 2 : Nat) : Int) := rfl
        have t2 : (j : Int).tmod 2 = ((j % 2 : Nat) : Int) := rfl
        have w2 : IntKind.i64.wrap ((j / 2 : Nat) : Int) = ((j / 2 : Nat) : Int) := wrap_i64 (by omega)
        have hj2 : j / 2 < 2 := by omega
        have hj3 : j % 2 < 2 := Nat.mod_lt _ (by decide)
        have eix : l * 4 + j / 2 * 2 + j % 2 = 4 * l + j := by omega
        have eix2 : l * 4 + (j / 2 * 2 + j % 2) = 4 * l + j := by omega
        have hget := Bs_get (x := x) (i := 4 * l + j) (by omega)
        have hq1 : (4 * l + j) % 2 = j % 2 := by omega
        have hst : cnTo x r0 (4 * l + (j + 1)) = cnStep x (cnTo x r0 (4 * l + j)) (4 * l + j) := rfl
        have hbd := cnTo_bd (x := x) hcbi.1 (4 * l + j)
        rw [hst]
        unfold cnStep
        rw [hq1]
        generalize cnTo x r0 (4 * l + j) = q at *
        obtain ⟨q1, q2⟩ := q
        have wa : IntKind.i64.wrap (q1 + ((j % 2 : Nat) : Int)) = q1 + ((j % 2 : Nat) : Int) := wrap_i64 (by simp only at hbd; omega)
        have wb : IntKind.i64.wrap (q2 + 1) = q2 + 1 := wrap_i64 (by simp only at hbd; omega)
        have wc : IntKind.i64.wrap (q2 + 1 - ((j % 2 : Nat) : Int)) = q2 + 1 - ((j % 2 : Nat) : Int) := wrap_i64 (by simp only at hbd; omega)
        cases hxm : x.getD (4 * l + j) false with
        | false =>
          rw [hxm] at hget
          rw [if_neg Bool.false_ne_true]
          simp only [go_sem, ↓reduceIte, Nat.reduceBEq, Nat.reduceEqDiff, Nat.reduceLT, Nat.reduceLeDiff, Nat.reduceAdd, Nat.reduceMul, Nat.reduceSub, reduceCtorEq, Int.reduceLT, Int.reduceLE, Int.reduceEq, Int.reduceBEq, Int.reduceBNe, Int.reduceToNat, Int.reduceAdd, Int.reduceNeg, Int.reduceSub, Bs_one, Bs_under, Bs_clean, ↓tsz106, ↓tbytes106, ↓tagg106, ↓trow106, ↓tint106, ↓tmap106, ↓teq106, ↓tbool106, ↓tref106, ↓tfok106, ↓known106, ↓tzero106, ↓tsz104, ↓tbytes104, ↓tagg104, ↓trow104, ↓tint104, ↓tmap104, ↓teq104, ↓tbool104, ↓tref104, ↓tfok104, ↓known104, ↓tzero104, ↓tfield106, eFc, hji, t1, t2, w2, hl, hj2, hj3, Nat.mul_one, List.getElem?_drop, Nat.add_zero, hGl, eix, eix2, hget, hwj, hbl]
          skip
        | true =>
          rw [hxm] at hget
          rw [if_pos rfl]
          simp only [go_sem, ↓reduceIte, Nat.reduceBEq, Nat.reduceEqDiff, Nat.reduceLT, Nat.reduceLeDiff, Nat.reduceAdd, Nat.reduceMul, Nat.reduceSub, reduceCtorEq, Int.reduceLT, Int.reduceLE, Int.reduceEq, Int.reduceBEq, Int.reduceBNe, Int.reduceToNat, Int.reduceAdd, Int.reduceNeg, Int.reduceSub, Bs_one, Bs_under, Bs_clean, ↓tsz106, ↓tbytes106, ↓tagg106, ↓trow106, ↓tint106, ↓tmap106, ↓teq106, ↓tbool106, ↓tref106, ↓tfok106, ↓known106, ↓tzero106, ↓tsz104, ↓tbytes104, ↓tagg104, ↓trow104, ↓tint104, ↓tmap104, ↓teq104, ↓tbool104, ↓tref104, ↓tfok104, ↓known104, ↓tzero104, ↓tfield106, eFc, hji, t1, t2, w2, hl, hj2, hj3, Nat.mul_one, List.getElem?_drop, Nat.add_zero, hGl, eix, eix2, hget, hwj, hbl, wa, wb, wc]
          skip
      · simp only [go_sem, ↓reduceIte, Nat.reduceBEq, Nat.reduceEqDiff, Nat.reduceLT, Nat.reduceLeDiff, Nat.reduceAdd, Nat.reduceMul, Nat.reduceSub, reduceCtorEq, Int.reduceLT, Int.reduceLE, Int.reduceEq, Int.reduceBEq, Int.reduceBNe, Int.reduceToNat, Int.reduceAdd, Int.reduceNeg, Int.reduceSub, eFc]
        skip
    · simp only [go_sem, ↓reduceIte, Nat.reduceBEq, Nat.reduceEqDiff, Nat.reduceLT, Nat.reduceLeDiff, Nat.reduceAdd, Nat.reduceMul, Nat.reduceSub, reduceCtorEq, Int.reduceLT, Int.reduceLE, Int.reduceEq, Int.reduceBEq, Int.reduceBNe, Int.reduceToNat, Int.reduceAdd, Int.reduceNeg, Int.reduceSub, eFc]
      skip
  · rintro ⟨i', E, M⟩ hR
    simp only [go_sem, ↓reduceIte, Nat.reduceBEq, Nat.reduceEqDiff, Nat.reduceLT, Nat.reduceLeDiff, Nat.reduceAdd, Nat.reduceMul, Nat.reduceSub, reduceCtorEq, Int.reduceLT, Int.reduceLE, Int.reduceEq, Int.reduceBEq, Int.reduceBNe, Int.reduceToNat, Int.reduceAdd, Int.reduceNeg, Int.reduceSub, Int.lt_irrefl]
    skip
  · rintro ⟨i', E, M⟩ hys hR
    obtain rfl : i' = L.length := hR
    subst hys
    have hcbi := hcb L.length
    generalize cnN d (at' + 1) L L.length = q at *
    obtain ⟨q1, q2⟩ := q
    have wa : IntKind.i64.wrap (q1 + q2) = q1 + q2 := wrap_i64 (by simp only at hcbi; omega)
    simp only [go_sem, ↓reduceIte, Nat.reduceBEq, Nat.reduceEqDiff, Nat.reduceLT, Nat.reduceLeDiff, Nat.reduceAdd, Nat.reduceMul, Nat.reduceSub, reduceCtorEq, Int.reduceLT, Int.reduceLE, Int.reduceEq, Int.reduceBEq, Int.reduceBNe, Int.reduceToNat, Int.reduceAdd, Int.reduceNeg, Int.reduceSub, eFc, wa, h54]
    skip
end Go.Proofs.YthkpjbgadkkeeaaGreat
