/- Z-numbers. What is left, and whether it pays, by the reference. Conditions: those of each law. -/
import Derived.Test.YthkpjbgadkkeeaaGreatQ23
set_option linter.unusedSimpArgs false
set_option linter.unusedVariables false
namespace Go.Proofs.YthkpjbgadkkeeaaGreat
open Go.Proofs

theorem ite_ne8 {c : Prop} [Decidable c] {a b : Int} (ha : a ≠ 8) (hb : b ≠ 8) : (if c then a else b) ≠ 8 := by split <;> assumption
theorem failP_ne8 {lo hi : Int} {e : Nat → Int} {n : Nat} (h : ∀ i, e i ≠ 8) : (failP lo hi e n).2 ≠ 8 := by
  unfold failP
  split
  · decide
  · cases firstBad e 0 n with
    | some k => exact h k
    | none => show (0 : Int) ≠ 8; decide
theorem check_ne8 (d : Fu) : checkE d ≠ 8 := by
  have h0 : headE d ≠ 8 := ite_ne8 (by decide) (by decide)
  have h1 : (partP d 1).2 ≠ 8 := failP_ne8 fun i => by
    unfold lineE
    cases d.lines[i]? with
    | none => show (0 : Int) ≠ 8; decide
    | some n => exact ite_ne8 (by decide) (by decide)
  have h2 : (partP d 2).2 ≠ 8 := failP_ne8 fun i => by
    unfold persE
    cases d.people[i]? with
    | none => show (0 : Int) ≠ 8; decide
    | some p => exact ite_ne8 (ite_ne8 (by decide) (ite_ne8 (by decide) (by decide))) (by decide)
  have h3 : (partP d 3).2 ≠ 8 := failP_ne8 fun i => by
    unfold visE
    cases d.visits[i]? with
    | none => show (0 : Int) ≠ 8; decide
    | some v => exact ite_ne8 (by decide) (ite_ne8 (by decide) (ite_ne8 (by decide) (by decide)))
  have h4 : (partP d 4).2 ≠ 8 := failP_ne8 fun i => by
    unfold entE
    cases d.entries[i]? with
    | none => show (0 : Int) ≠ 8; decide
    | some x => exact ite_ne8 (by decide) (ite_ne8 (by decide) (by decide))
  unfold checkE
  rw [checkF_eq]
  repeat' split
  all_goals first | exact h0 | exact h1 | exact h2 | exact h3 | exact h4 | decide
set_option maxHeartbeats 2000000 in
set_option maxRecDepth 100000 in
theorem cLeft (d : Fu) (hd : d.fits) (day : Int) (h : Heap) : callPure (EW tabX) 12 [eF d, .int .i64 day] h = some (vT (leftP d day), h) := by
  have h50 := c53 d hd 0 1 (by omega)
  have hcl := eF_clean d
  have h26 := c47 day 0 (d.days - 1)
  rw [ask_enter] at h50
  rw [callPure_eq, w_call _ fn_12 rfl, leftP_eq]
  by_cases hce : checkE d = 0
  rotate_left
  · have e1 : enterE d 0 = checkE d := by unfold enterE; rw [if_neg hce]
    have e2 : dayE d day = checkE d := by unfold dayE enterE; rw [if_neg hce]
    rw [e1] at h50
    rw [e2, if_neg hce]
    have b0 : (checkE d == 0) = false := by simpa using hce
    have b8 : (checkE d == 8) = false := by simpa using check_ne8 d
    have hne : (checkE d != 0) = true := by simpa using hce
    simp only [eF_eq, vT, eSp] at h50 ⊢
    simp only [go_sem, ↓reduceIte, Nat.reduceBEq, Nat.reduceEqDiff, Nat.reduceLT, Nat.reduceLeDiff, Nat.reduceAdd, Nat.reduceMul, Nat.reduceSub, reduceCtorEq, Int.reduceLT, Int.reduceLE, Int.reduceEq, Int.reduceBEq, Int.reduceBNe, Int.reduceToNat, Int.reduceAdd, Int.reduceNeg, Int.reduceSub, h50, b0, b8, hne]
    skip
  have ho := ok_of_check hce
  have hdays := ho.days
  have hwd : IntKind.i64.wrap (d.days - 1) = d.days - 1 := wrap_i64 (by omega)
  cases hout : out 0 (d.days - 1) day with
  | true =>
    have hin : inR day 0 (d.days - 1) = false := by
      unfold inR
      unfold out at hout
      simp at hout ⊢
      omega
    rw [hin] at h26
    have e2 : dayE d day = 7 := by unfold dayE enterE idxE; rw [if_pos hce, hout]; rfl
    rw [e2, if_neg (by decide)]
    have e1 : enterE d 0 = 0 ∨ enterE d 0 = 8 := by
      unfold enterE
      rw [if_pos hce, if_pos rfl]
      split <;> simp
    simp only [eF_eq, vT, eSp] at h50 ⊢
    rcases e1 with e1 | e1
    · simp only [go_sem, ↓reduceIte, Nat.reduceBEq, Nat.reduceEqDiff, Nat.reduceLT, Nat.reduceLeDiff, Nat.reduceAdd, Nat.reduceMul, Nat.reduceSub, reduceCtorEq, Int.reduceLT, Int.reduceLE, Int.reduceEq, Int.reduceBEq, Int.reduceBNe, Int.reduceToNat, Int.reduceAdd, Int.reduceNeg, Int.reduceSub, h50, e1, hwd, h26]
      skip
    · simp only [go_sem, ↓reduceIte, Nat.reduceBEq, Nat.reduceEqDiff, Nat.reduceLT, Nat.reduceLeDiff, Nat.reduceAdd, Nat.reduceMul, Nat.reduceSub, reduceCtorEq, Int.reduceLT, Int.reduceLE, Int.reduceEq, Int.reduceBEq, Int.reduceBNe, Int.reduceToNat, Int.reduceAdd, Int.reduceNeg, Int.reduceSub, h50, e1, hwd, h26]
      skip
  | false =>
    have hin : inR day 0 (d.days - 1) = true := by
      unfold inR
      unfold out at hout
      simp at hout ⊢
      omega
    rw [hin] at h26
    have e2 : dayE d day = enterE d 0 := by unfold dayE enterE idxE; rw [hout]; rfl
    rw [e2]
    by_cases h0 : enterE d 0 = 0
    rotate_left
    · have e8 : enterE d 0 = 8 := by
        unfold enterE at h0 ⊢
        rw [if_pos hce, if_pos rfl] at h0 ⊢
        split
        · rename_i hx; rw [if_pos hx] at h0; exact absurd rfl h0
        · rfl
      rw [e8, if_neg (by decide)]
      simp only [eF_eq, vT, eSp] at h50 ⊢
      simp only [go_sem, ↓reduceIte, Nat.reduceBEq, Nat.reduceEqDiff, Nat.reduceLT, Nat.reduceLeDiff, Nat.reduceAdd, Nat.reduceMul, Nat.reduceSub, reduceCtorEq, Int.reduceLT, Int.reduceLE, Int.reduceEq, Int.reduceBEq, Int.reduceBNe, Int.reduceToNat, Int.reduceAdd, Int.reduceNeg, Int.reduceSub, h50, e8, hwd, h26]
      skip
    rw [if_pos h0]
    obtain ⟨_, _, k3⟩ := enterE_zero h0
    have hv5 := ho.visits
    have h51 := cWidows d hd ho
    have h52 := fun ws (hw : ws.length = d.people.length) => cRun d hd ho k3 ws hw
    have h53 := cLast d hd ho day
    have hper := left_ref ho k3 day
    have hL := fun i (hi : i < (widL d d.people.length).length) => getD_wid hi
    have hLl := widL_len d d.people.length
    have hp4 := ho.people
    have hpow : 2 ^ d.people.length ≤ 16 := by
      have : 2 ^ d.people.length ≤ 2 ^ 4 := Nat.pow_le_pow_right (by omega) (by omega)
      omega
    have hla := lastTo_le d day d.visits.length
    generalize lastTo d day d.visits.length = la at *
    rw [← hper]
    clear hper
    generalize widL d d.people.length = L at *
    simp only [eF_eq, vT, eSp, vW, vBs', vR] at h50 h51 h52 h53 hcl ⊢
    simp only [go_sem, ↓reduceIte, Nat.reduceBEq, Nat.reduceEqDiff, Nat.reduceLT, Nat.reduceLeDiff, Nat.reduceAdd, Nat.reduceMul, Nat.reduceSub, reduceCtorEq, Int.reduceLT, Int.reduceLE, Int.reduceEq, Int.reduceBEq, Int.reduceBNe, Int.reduceToNat, Int.reduceAdd, Int.reduceNeg, Int.reduceSub, h50, h0, h51, wid_cleanL, wid_underL, hwd, h26]
    generalize hy : (EW tabX).code 12 none (Code.loop _) _ = y
    refine w_rounds_sk hy (fun i s => [(9, .int .i64 (i : Int))]) (fun s : Nat × List ABlk × List Bool => ⟨.cells (eFc d) :: .cells [.int .i64 0, .int .i64 0] :: .cells [.int .i64 (mmN d la L s.1).1, .int .i64 (mmN d la L s.1).2] :: s.2.1, s.2.2⟩)
      (fun i s => s.1 = i) L.length (.exit 0) (fun _ => [(9, .int .i64 (L.length : Int))]) rfl (0, [], []) ?_ ?_ rfl ?_ ?_ ?_
    · simp only [go_sem, ↓reduceIte, Nat.reduceBEq, Nat.reduceEqDiff, Nat.reduceLT, Nat.reduceLeDiff, Nat.reduceAdd, Nat.reduceMul, Nat.reduceSub, reduceCtorEq, Int.reduceLT, Int.reduceLE, Int.reduceEq, Int.reduceBEq, Int.reduceBNe, Int.reduceToNat, Int.reduceAdd, Int.reduceNeg, Int.reduceSub]
      skip
    · simp only [go_sem, ↓reduceIte, Nat.reduceBEq, Nat.reduceEqDiff, Nat.reduceLT, Nat.reduceLeDiff, Nat.reduceAdd, Nat.reduceMul, Nat.reduceSub, reduceCtorEq, Int.reduceLT, Int.reduceLE, Int.reduceEq, Int.reduceBEq, Int.reduceBNe, Int.reduceToNat, Int.reduceAdd, Int.reduceNeg, Int.reduceSub, eFc, mmN]
      skip
    · rintro i ⟨i', E, M⟩ hi hR
      obtain rfl : i' = i := hR
      have hii : (i' : Int) < L.length := by omega
      have hwi : IntKind.i64.wrap ((i' : Int) + 1) = (i' : Int) + 1 := wrap_i64 (by omega)
      have hg := vW_get hi
      have hz1 : zT 1 L.length = 1 := zT_pos (by omega)
      have hrun := h52 _ (hL i' hi)
      simp only [vBs'] at hg
      have hstep : mmN d la L (i' + 1) = mmTo (refX d (L.getD i' []) la) (mmN d la L i') 1204 := rfl
      generalize L.getD i' [] = ws at *
      have hrc := rowX_clean d ws (d.visits.length + 1)
      have hru := fun n => rowX_under d ws (d.visits.length + 1) n
      have hrx := rowX_get d ws (show la < d.visits.length + 1 by omega)
      have hrl := rowX_len d ws (d.visits.length + 1)
      have hlai : (la : Int) < ((d.visits.length + 1 : Nat) : Int) := by omega
      have hxl := refX_len d ws la
      simp only [go_sem, ↓reduceIte, Nat.reduceBEq, Nat.reduceEqDiff, Nat.reduceLT, Nat.reduceLeDiff, Nat.reduceAdd, Nat.reduceMul, Nat.reduceSub, reduceCtorEq, Int.reduceLT, Int.reduceLE, Int.reduceEq, Int.reduceBEq, Int.reduceBNe, Int.reduceToNat, Int.reduceAdd, Int.reduceNeg, Int.reduceSub, Bs_one, Bs_under, Bs_clean, ↓tsz106, ↓tbytes106, ↓tagg106, ↓trow106, ↓tint106, ↓tmap106, ↓teq106, ↓tbool106, ↓tref106, ↓tfok106, ↓known106, ↓tzero106, ↓tsz104, ↓tbytes104, ↓tagg104, ↓trow104, ↓tint104, ↓tmap104, ↓teq104, ↓tbool104, ↓tref104, ↓tfok104, ↓known104, ↓tzero104, ↓tfield106, eFc, hii, hg, hz1, hrun, hrc, hru, h53, hrx, hrl, hlai]
      have hbl : (Bs (refX d ws la)).length = 1204 := by rw [Bs_len, hxl]
      have hbt := Bs_take hxl
      have hfl : (Bs falses).length = 1204 := by rw [Bs_len, falses_len]
      have hsp : splice (Bs falses) 0 (Bs (refX d ws la)) = Bs (refX d ws la) := splice_full (by rw [hfl, hbl])
      have hL : ∀ (a0 a1 a2 v : ABlk) (R : List ABlk), (a0 :: a1 :: a2 :: (E ++ (ABlk.none :: v :: R)))[E.length + 4]? = some v := fun a0 a1 a2 v R => by
        rw [show E.length + 4 = (E.length + 1) + 1 + 1 + 1 by omega]
        simp only [List.getElem?_cons_succ]
        rw [List.getElem?_append_right (by omega), show E.length + 1 - E.length = 1 by omega]; rfl
      have hS : ∀ (a0 a1 a2 v u : ABlk) (R : List ABlk), (a0 :: a1 :: a2 :: (E ++ (ABlk.none :: v :: R))).set (E.length + 4) u = a0 :: a1 :: a2 :: (E ++ (ABlk.none :: u :: R)) := fun a0 a1 a2 v u R => by
        rw [show E.length + 4 = (E.length + 1) + 1 + 1 + 1 by omega]
        simp only [List.set_cons_succ]
        rw [List.set_append_right _ _ (by omega), show E.length + 1 - E.length = 1 by omega]; rfl
      generalize hcf : okFam _ _ _ = cf
      obtain rfl : cf = true := by rw [← hcf]; kernel_rfl
      simp only [go_sem, ↓reduceIte, Nat.reduceBEq, Nat.reduceEqDiff, Nat.reduceLT, Nat.reduceLeDiff, Nat.reduceAdd, Nat.reduceMul, Nat.reduceSub, reduceCtorEq, Int.reduceLT, Int.reduceLE, Int.reduceEq, Int.reduceBEq, Int.reduceBNe, Int.reduceToNat, Int.reduceAdd, Int.reduceNeg, Int.reduceSub, Bs_one, Bs_under, Bs_clean, ↓tsz106, ↓tbytes106, ↓tagg106, ↓trow106, ↓tint106, ↓tmap106, ↓teq106, ↓tbool106, ↓tref106, ↓tfok106, ↓known106, ↓tzero106, ↓tsz104, ↓tbytes104, ↓tagg104, ↓trow104, ↓tint104, ↓tmap104, ↓teq104, ↓tbool104, ↓tref104, ↓tfok104, ↓known104, ↓tzero104, ↓tfield106, eFc, hii, hg, hz1, hrun, hrc, hru, h53, hrx, hrl, hlai, hbl, hbt, hfl, hsp, List.size_toArray, Nat.add_lt_add_iff_left, Nat.add_assoc, hL, hS]
      have hGl := fun a0 a1 a2 => hL a0 a1 a2 (.cells (Bs (refX d ws la))) [.none, .none, .none, .none, .none, .none, .none, .none, .none, .none, .none]
      generalize hG : E ++ [ABlk.none, .cells (Bs (refX d ws la)), .none, .none, .none, .none, .none, .none, .none, .none, .none, .none, .none] = G at hGl
      generalize hM : M ++ [false, false, false, false, false, false, false, false, false, false, false, false, false] = M2
      refine ⟨(i' + 1, G, M2), ?_, rfl⟩
      simp only [hG, hM, hstep]
      clear hG hM hL hS
      generalize refX d ws la = x at *
      generalize mmN d la L i' = r0 at *
      rw [w_rounds_h (fun l => [(11, .int .i64 (l : Int))]) (fun l => ⟨.cells (eFc d) :: .cells [.int .i64 0, .int .i64 0] :: .cells [.int .i64 (mmTo x r0 (4 * l)).1, .int .i64 (mmTo x r0 (4 * l)).2] :: G, M2⟩) 301 (.exit 2) [(11, .int .i64 301)]
        ⟨.cells (eFc d) :: .cells [.int .i64 0, .int .i64 0] :: .cells [.int .i64 (mmTo x r0 1204).1, .int .i64 (mmTo x r0 1204).2] :: G, M2⟩ ?_ ?_ ?_ ?_ rfl]
      · simp only [go_sem, ↓reduceIte, Nat.reduceBEq, Nat.reduceEqDiff, Nat.reduceLT, Nat.reduceLeDiff, Nat.reduceAdd, Nat.reduceMul, Nat.reduceSub, reduceCtorEq, Int.reduceLT, Int.reduceLE, Int.reduceEq, Int.reduceBEq, Int.reduceBNe, Int.reduceToNat, Int.reduceAdd, Int.reduceNeg, Int.reduceSub, eFc, hwi]
        skip
      · simp only [go_sem, ↓reduceIte, Nat.reduceBEq, Nat.reduceEqDiff, Nat.reduceLT, Nat.reduceLeDiff, Nat.reduceAdd, Nat.reduceMul, Nat.reduceSub, reduceCtorEq, Int.reduceLT, Int.reduceLE, Int.reduceEq, Int.reduceBEq, Int.reduceBNe, Int.reduceToNat, Int.reduceAdd, Int.reduceNeg, Int.reduceSub]
        skip
      · simp only [eFc, mmTo]
        skip
      · intro l hl
        have hli : (l : Int) ≤ 300 := by omega
        have hwl : IntKind.i64.wrap ((l : Int) + 1) = (l : Int) + 1 := wrap_i64 (by omega)
        simp only [go_sem, ↓reduceIte, Nat.reduceBEq, Nat.reduceEqDiff, Nat.reduceLT, Nat.reduceLeDiff, Nat.reduceAdd, Nat.reduceMul, Nat.reduceSub, reduceCtorEq, Int.reduceLT, Int.reduceLE, Int.reduceEq, Int.reduceBEq, Int.reduceBNe, Int.reduceToNat, Int.reduceAdd, Int.reduceNeg, Int.reduceSub, eFc, hli]
        rw [w_rounds_h (fun j => [(12, .int .i64 (j : Int))]) (fun j => ⟨.cells (eFc d) :: .cells [.int .i64 0, .int .i64 0] :: .cells [.int .i64 (mmTo x r0 (4 * l + j)).1, .int .i64 (mmTo x r0 (4 * l + j)).2] :: G, M2⟩) 4 (.exit 4) [(12, .int .i64 4)]
          ⟨.cells (eFc d) :: .cells [.int .i64 0, .int .i64 0] :: .cells [.int .i64 (mmTo x r0 (4 * l + 4)).1, .int .i64 (mmTo x r0 (4 * l + 4)).2] :: G, M2⟩ ?_ ?_ ?_ ?_ rfl]
        · have e1 : 4 * (l + 1) = 4 * l + 4 := by omega
          simp only [go_sem, ↓reduceIte, Nat.reduceBEq, Nat.reduceEqDiff, Nat.reduceLT, Nat.reduceLeDiff, Nat.reduceAdd, Nat.reduceMul, Nat.reduceSub, reduceCtorEq, Int.reduceLT, Int.reduceLE, Int.reduceEq, Int.reduceBEq, Int.reduceBNe, Int.reduceToNat, Int.reduceAdd, Int.reduceNeg, Int.reduceSub, eFc, hwl, e1]
          skip
        · simp only [go_sem, ↓reduceIte, Nat.reduceBEq, Nat.reduceEqDiff, Nat.reduceLT, Nat.reduceLeDiff, Nat.reduceAdd, Nat.reduceMul, Nat.reduceSub, reduceCtorEq, Int.reduceLT, Int.reduceLE, Int.reduceEq, Int.reduceBEq, Int.reduceBNe, Int.reduceToNat, Int.reduceAdd, Int.reduceNeg, Int.reduceSub]
          skip
        · simp only [eFc, Nat.add_zero]
          skip
        · intro j hj
          have hji : (j : Int) < 4 := by omega
          have hwj : IntKind.i64.wrap ((j : Int) + 1) = (j : Int) + 1 := wrap_i64 (by omega)
          have t1 : (j : Int).tdiv 2 = ((j / 2 : Nat) : Int) := rfl
          have t2 : (j : Int).tmod 2 = ((j % 2 : Nat) : Int) := rfl
          have w2 : IntKind.i64.wrap ((j / 2 : Nat) : Int) = ((j / 2 : Nat) : Int) := wrap_i64 (by omega)
          have hj2 : j / 2 < 2 := by omega
          have hj3 : j % 2 < 2 := Nat.mod_lt _ (by decide)
          have eix : l * 4 + j / 2 * 2 + j % 2 = 4 * l + j := by omega
          have eix2 : l * 4 + (j / 2 * 2 + j % 2) = 4 * l + j := by omega
          have hget := Bs_get (x := x) (i := 4 * l + j) (by omega)
          have hq1 : (4 * l + j) / 4 = l := by omega
          have hst : mmTo x r0 (4 * l + (j + 1)) = mmStep x (mmTo x r0 (4 * l + j)) (4 * l + j) := rfl
          rw [hst]
          unfold mmStep
          rw [hq1]
          generalize mmTo x r0 (4 * l + j) = q at *
          cases hxm : x.getD (4 * l + j) false with
          | false =>
            rw [hxm] at hget
            rw [if_neg Bool.false_ne_true]
            simp only [go_sem, ↓reduceIte, Nat.reduceBEq, Nat.reduceEqDiff, Nat.reduceLT, Nat.reduceLeDiff, Nat.reduceAdd, Nat.reduceMul, Nat.reduceSub, reduceCtorEq, Int.reduceLT, Int.reduceLE, Int.reduceEq, Int.reduceBEq, Int.reduceBNe, Int.reduceToNat, Int.reduceAdd, Int.reduceNeg, Int.reduceSub, Bs_one, Bs_under, Bs_clean, ↓tsz106, ↓tbytes106, ↓tagg106, ↓trow106, ↓tint106, ↓tmap106, ↓teq106, ↓tbool106, ↓tref106, ↓tfok106, ↓known106, ↓tzero106, ↓tsz104, ↓tbytes104, ↓tagg104, ↓trow104, ↓tint104, ↓tmap104, ↓teq104, ↓tbool104, ↓tref104, ↓tfok104, ↓known104, ↓tzero104, ↓tfield106, eFc, hji, t1, t2, w2, hl, hj2, hj3, Nat.mul_one, List.getElem?_drop, Nat.add_zero, hGl, eix, eix2, hget, hwj, hbl]
            skip
          | true =>
            rw [hxm] at hget
            rw [if_pos rfl]
            simp only [go_sem, ↓reduceIte, Nat.reduceBEq, Nat.reduceEqDiff, Nat.reduceLT, Nat.reduceLeDiff, Nat.reduceAdd, Nat.reduceMul, Nat.reduceSub, reduceCtorEq, Int.reduceLT, Int.reduceLE, Int.reduceEq, Int.reduceBEq, Int.reduceBNe, Int.reduceToNat, Int.reduceAdd, Int.reduceNeg, Int.reduceSub, Bs_one, Bs_under, Bs_clean, ↓tsz106, ↓tbytes106, ↓tagg106, ↓trow106, ↓tint106, ↓tmap106, ↓teq106, ↓tbool106, ↓tref106, ↓tfok106, ↓known106, ↓tzero106, ↓tsz104, ↓tbytes104, ↓tagg104, ↓trow104, ↓tint104, ↓tmap104, ↓teq104, ↓tbool104, ↓tref104, ↓tfok104, ↓known104, ↓tzero104, ↓tfield106, eFc, hji, t1, t2, w2, hl, hj2, hj3, Nat.mul_one, List.getElem?_drop, Nat.add_zero, hGl, eix, eix2, hget, hwj, hbl]
            skip
        · simp only [go_sem, ↓reduceIte, Nat.reduceBEq, Nat.reduceEqDiff, Nat.reduceLT, Nat.reduceLeDiff, Nat.reduceAdd, Nat.reduceMul, Nat.reduceSub, reduceCtorEq, Int.reduceLT, Int.reduceLE, Int.reduceEq, Int.reduceBEq, Int.reduceBNe, Int.reduceToNat, Int.reduceAdd, Int.reduceNeg, Int.reduceSub, eFc]
          skip
      · simp only [go_sem, ↓reduceIte, Nat.reduceBEq, Nat.reduceEqDiff, Nat.reduceLT, Nat.reduceLeDiff, Nat.reduceAdd, Nat.reduceMul, Nat.reduceSub, reduceCtorEq, Int.reduceLT, Int.reduceLE, Int.reduceEq, Int.reduceBEq, Int.reduceBNe, Int.reduceToNat, Int.reduceAdd, Int.reduceNeg, Int.reduceSub, eFc]
        skip
    · rintro ⟨i', E, M⟩ hR
      simp only [go_sem, ↓reduceIte, Nat.reduceBEq, Nat.reduceEqDiff, Nat.reduceLT, Nat.reduceLeDiff, Nat.reduceAdd, Nat.reduceMul, Nat.reduceSub, reduceCtorEq, Int.reduceLT, Int.reduceLE, Int.reduceEq, Int.reduceBEq, Int.reduceBNe, Int.reduceToNat, Int.reduceAdd, Int.reduceNeg, Int.reduceSub, Int.lt_irrefl]
      skip
    · rintro ⟨i', E, M⟩ hys hR
      obtain rfl : i' = L.length := hR
      subst hys
      simp only [go_sem, ↓reduceIte, Nat.reduceBEq, Nat.reduceEqDiff, Nat.reduceLT, Nat.reduceLeDiff, Nat.reduceAdd, Nat.reduceMul, Nat.reduceSub, reduceCtorEq, Int.reduceLT, Int.reduceLE, Int.reduceEq, Int.reduceBEq, Int.reduceBNe, Int.reduceToNat, Int.reduceAdd, Int.reduceNeg, Int.reduceSub, eFc]
      skip
end Go.Proofs.YthkpjbgadkkeeaaGreat
