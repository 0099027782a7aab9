/- Z-numbers. When the gift ends, by the reference. Conditions: those of each law. -/
import Derived.Test.YthkpjbgadkkeeaaGreatQ22
set_option linter.unusedSimpArgs false
set_option linter.unusedVariables false
namespace Go.Proofs.YthkpjbgadkkeeaaGreat
open Go.Proofs

theorem vW_get {L : List (List Bool)} {i : Nat} (h : i < L.length) : (L.map vBs')[i]? = some (vBs' (L.getD i [])) := by
  rw [List.getElem?_map, List.getD_eq_getElem?_getD, List.getElem?_eq_getElem h]; rfl
theorem getD_wid {d : Fu} {i : Nat} (h : i < (widL d d.people.length).length) : ((widL d d.people.length).getD i []).length = d.people.length := widL_mem_len d _ (getD_mem h)
theorem vBs_clean (l : List Bool) : (vBs' l).clean = some (vBs' l) := by have := Bs_clean l; simp only [vBs', go_sem, ↓reduceIte, Nat.reduceBEq, Nat.reduceEqDiff, Nat.reduceLT, Nat.reduceLeDiff, Nat.reduceAdd, Nat.reduceMul, Nat.reduceSub, reduceCtorEq, Int.reduceLT, Int.reduceLE, Int.reduceEq, Int.reduceBEq, Int.reduceBNe, Int.reduceToNat, Int.reduceAdd, Int.reduceNeg, Int.reduceSub, this]
theorem vBs_under (n : Nat) (l : List Bool) : (vBs' l).under n = true := by have := Bs_under n l; simp only [vBs', go_sem, ↓reduceIte, Nat.reduceBEq, Nat.reduceEqDiff, Nat.reduceLT, Nat.reduceLeDiff, Nat.reduceAdd, Nat.reduceMul, Nat.reduceSub, reduceCtorEq, Int.reduceLT, Int.reduceLE, Int.reduceEq, Int.reduceBEq, Int.reduceBNe, Int.reduceToNat, Int.reduceAdd, Int.reduceNeg, Int.reduceSub, this]
theorem wid_cleanL (L : List (List Bool)) : cleanL (L.map vBs') = some (L.map vBs') := cleanL_map vBs_clean L
theorem wid_underL (n : Nat) (L : List (List Bool)) : underL n (L.map vBs') = true := underL_map (vBs_under n) L
set_option maxHeartbeats 1000000 in
set_option maxRecDepth 100000 in
theorem cEnds (d : Fu) (hd : d.fits) (h : Heap) : callPure (EW tabX) 17 [eF d] h = some (vQ (endsP d), h) := by
  have h50 := c53 d hd 0 1 (by omega)
  have hcl := eF_clean d
  rw [ask_enter] at h50
  rw [callPure_eq, w_call _ fn_17 rfl]
  unfold endsP
  by_cases h0 : enterE d 0 = 0
  rotate_left
  · rw [if_neg h0]
    have hne : (enterE d 0 != 0) = true := by simpa using h0
    simp only [eF_eq, vQ] at h50 ⊢
    simp only [go_sem, ↓reduceIte, Nat.reduceBEq, Nat.reduceEqDiff, Nat.reduceLT, Nat.reduceLeDiff, Nat.reduceAdd, Nat.reduceMul, Nat.reduceSub, reduceCtorEq, Int.reduceLT, Int.reduceLE, Int.reduceEq, Int.reduceBEq, Int.reduceBNe, Int.reduceToNat, Int.reduceAdd, Int.reduceNeg, Int.reduceSub, h50, hne]
    skip
  rw [if_pos h0]
  obtain ⟨k1, k2, k3⟩ := enterE_zero h0
  have ho := ok_of_check k1
  have hv5 := ho.visits
  have h51 := cWidows d hd ho
  have h52 := fun ws (hw : ws.length = d.people.length) => cRun d hd ho k3 ws hw
  have hper := ends_ref ho k3
  have hL := fun i (hi : i < (widL d d.people.length).length) => getD_wid hi
  have hLl := widL_len d d.people.length
  have hp4 := ho.people
  have hpow : 2 ^ d.people.length ≤ 16 := by
    have : 2 ^ d.people.length ≤ 2 ^ 4 := Nat.pow_le_pow_right (by omega) (by omega)
    omega
  generalize widL d d.people.length = L at *
  simp only [eF_eq, vQ, vW, vBs', vR] at h50 h51 h52 hcl ⊢
  simp only [go_sem, ↓reduceIte, Nat.reduceBEq, Nat.reduceEqDiff, Nat.reduceLT, Nat.reduceLeDiff, Nat.reduceAdd, Nat.reduceMul, Nat.reduceSub, reduceCtorEq, Int.reduceLT, Int.reduceLE, Int.reduceEq, Int.reduceBEq, Int.reduceBNe, Int.reduceToNat, Int.reduceAdd, Int.reduceNeg, Int.reduceSub, h50, h0, h51, wid_cleanL, wid_underL]
  rw [w_rounds_u (fun i => [(5, .int .i64 (enN d L i)), (7, .int .i64 (i : Int))]) L.length (.exit 0) [(5, .int .i64 (enN d L L.length)), (7, .int .i64 (L.length : Int))] ?_ ?_ ?_ rfl]
  · rcases hper with ⟨e1, e2⟩ | ⟨e1, e2⟩
    · simp only [go_sem, ↓reduceIte, Nat.reduceBEq, Nat.reduceEqDiff, Nat.reduceLT, Nat.reduceLeDiff, Nat.reduceAdd, Nat.reduceMul, Nat.reduceSub, reduceCtorEq, Int.reduceLT, Int.reduceLE, Int.reduceEq, Int.reduceBEq, Int.reduceBNe, Int.reduceToNat, Int.reduceAdd, Int.reduceNeg, Int.reduceSub, e1, e2]
      skip
    · have e3 : ¬ endsV d 0 0 < 0 := by omega
      rw [e2]
      simp only [go_sem, ↓reduceIte, Nat.reduceBEq, Nat.reduceEqDiff, Nat.reduceLT, Nat.reduceLeDiff, Nat.reduceAdd, Nat.reduceMul, Nat.reduceSub, reduceCtorEq, Int.reduceLT, Int.reduceLE, Int.reduceEq, Int.reduceBEq, Int.reduceBNe, Int.reduceToNat, Int.reduceAdd, Int.reduceNeg, Int.reduceSub, e3]
      skip
  · simp only [go_sem, ↓reduceIte, Nat.reduceBEq, Nat.reduceEqDiff, Nat.reduceLT, Nat.reduceLeDiff, Nat.reduceAdd, Nat.reduceMul, Nat.reduceSub, reduceCtorEq, Int.reduceLT, Int.reduceLE, Int.reduceEq, Int.reduceBEq, Int.reduceBNe, Int.reduceToNat, Int.reduceAdd, Int.reduceNeg, Int.reduceSub, enN]
    skip
  · intro i hi
    have hii : (i : Int) < L.length := by omega
    have hwi : IntKind.i64.wrap ((i : Int) + 1) = (i : Int) + 1 := wrap_i64 (by omega)
    have hg := vW_get hi
    have hz1 : zT 1 L.length = 1 := zT_pos (by omega)
    have hrun := h52 _ (hL i hi)
    simp only [vBs'] at hg
    have hstep : enN d L (i + 1) = enVis d (L.getD i []) (enN d L i) d.visits.length := rfl
    rw [hstep]
    generalize L.getD i [] = ws at *
    generalize enN d L i = r0 at *
    have hrc := rowX_clean d ws (d.visits.length + 1)
    have hru := fun n => rowX_under d ws (d.visits.length + 1) n
    simp only [go_sem, ↓reduceIte, Nat.reduceBEq, Nat.reduceEqDiff, Nat.reduceLT, Nat.reduceLeDiff, Nat.reduceAdd, Nat.reduceMul, Nat.reduceSub, reduceCtorEq, Int.reduceLT, Int.reduceLE, Int.reduceEq, Int.reduceBEq, Int.reduceBNe, Int.reduceToNat, Int.reduceAdd, Int.reduceNeg, Int.reduceSub, Bs_one, Bs_under, Bs_clean, ↓tsz106, ↓tbytes106, ↓tagg106, ↓trow106, ↓tint106, ↓tmap106, ↓teq106, ↓tbool106, ↓tref106, ↓tfok106, ↓known106, ↓tzero106, ↓tsz104, ↓tbytes104, ↓tagg104, ↓trow104, ↓tint104, ↓tmap104, ↓teq104, ↓tbool104, ↓tref104, ↓tfok104, ↓known104, ↓tzero104, ↓tfield106, hii, hg, hz1, hrun, hrc, hru]
    rw [w_rounds_u (fun v => [(5, .int .i64 (enVis d ws r0 v)), (9, .int .i64 (v : Int))]) d.visits.length (.exit 2) [(5, .int .i64 (enVis d ws r0 d.visits.length)), (9, .int .i64 (d.visits.length : Int))] ?_ ?_ ?_ rfl]
    · simp only [go_sem, ↓reduceIte, Nat.reduceBEq, Nat.reduceEqDiff, Nat.reduceLT, Nat.reduceLeDiff, Nat.reduceAdd, Nat.reduceMul, Nat.reduceSub, reduceCtorEq, Int.reduceLT, Int.reduceLE, Int.reduceEq, Int.reduceBEq, Int.reduceBNe, Int.reduceToNat, Int.reduceAdd, Int.reduceNeg, Int.reduceSub, hwi]
      skip
    · simp only [go_sem, ↓reduceIte, Nat.reduceBEq, Nat.reduceEqDiff, Nat.reduceLT, Nat.reduceLeDiff, Nat.reduceAdd, Nat.reduceMul, Nat.reduceSub, reduceCtorEq, Int.reduceLT, Int.reduceLE, Int.reduceEq, Int.reduceBEq, Int.reduceBNe, Int.reduceToNat, Int.reduceAdd, Int.reduceNeg, Int.reduceSub, enVis]
      skip
    · intro v hv
      have hvi : (v : Int) < d.visits.length := by omega
      have hwv : IntKind.i64.wrap ((v : Int) + 1) = (v : Int) + 1 := wrap_i64 (by omega)
      have hvx := List.getElem?_eq_getElem hv
      have hzv := hd.zv (by intro e; rw [e] at hv; simp at hv)
      have hday : dayAt d v = d.visits[v].day := by unfold dayAt; rw [hvx]
      have hrx := rowX_get d ws (show v + 1 < d.visits.length + 1 by omega)
      have hvl : (v : Int) + 1 < ((d.visits.length + 1 : Nat) : Int) := by omega
      have hvn : ¬ (v : Int) + 1 < 0 := by omega
      have hvt : ((v : Int) + 1).toNat = v + 1 := by omega
      have hrl := rowX_len d ws (d.visits.length + 1)
      have hxl := refX_len d ws (v + 1)
      have hst : enVis d ws r0 (v + 1) = enRow (refX d ws (v + 1)) (dayAt d v) (enVis d ws r0 v) 301 := rfl
      rw [hst, hday]
      generalize refX d ws (v + 1) = x at *
      generalize enVis d ws r0 v = r at *
      simp only [go_sem, ↓reduceIte, Nat.reduceBEq, Nat.reduceEqDiff, Nat.reduceLT, Nat.reduceLeDiff, Nat.reduceAdd, Nat.reduceMul, Nat.reduceSub, reduceCtorEq, Int.reduceLT, Int.reduceLE, Int.reduceEq, Int.reduceBEq, Int.reduceBNe, Int.reduceToNat, Int.reduceAdd, Int.reduceNeg, Int.reduceSub, hvi]
      rw [w_rounds_u (fun l => [(5, .int .i64 (enRow x d.visits[v].day r l)), (10, .int .i64 (l : Int))]) 301 (.exit 4) [(5, .int .i64 (enRow x d.visits[v].day r 301)), (10, .int .i64 301)] ?_ ?_ ?_ rfl]
      · simp only [go_sem, ↓reduceIte, Nat.reduceBEq, Nat.reduceEqDiff, Nat.reduceLT, Nat.reduceLeDiff, Nat.reduceAdd, Nat.reduceMul, Nat.reduceSub, reduceCtorEq, Int.reduceLT, Int.reduceLE, Int.reduceEq, Int.reduceBEq, Int.reduceBNe, Int.reduceToNat, Int.reduceAdd, Int.reduceNeg, Int.reduceSub, hwv]
        skip
      · simp only [go_sem, ↓reduceIte, Nat.reduceBEq, Nat.reduceEqDiff, Nat.reduceLT, Nat.reduceLeDiff, Nat.reduceAdd, Nat.reduceMul, Nat.reduceSub, reduceCtorEq, Int.reduceLT, Int.reduceLE, Int.reduceEq, Int.reduceBEq, Int.reduceBNe, Int.reduceToNat, Int.reduceAdd, Int.reduceNeg, Int.reduceSub, enRow]
        skip
      · intro l hl
        have hli : (l : Int) ≤ 300 := by omega
        have hwl : IntKind.i64.wrap ((l : Int) + 1) = (l : Int) + 1 := wrap_i64 (by omega)
        have e2 : l * 4 + 2 = 4 * l + 2 := by omega
        have e3 : l * 4 + 3 = 4 * l + 3 := by omega
        have g2 := Bs_get (x := x) (i := 4 * l + 2) (by omega)
        have g3 := Bs_get (x := x) (i := 4 * l + 3) (by omega)
        have hbl : (Bs x).length = 1204 := by rw [Bs_len, hxl]
        have hst : enRow x d.visits[v].day r (l + 1) = enStep d.visits[v].day (hitE x l) (enRow x d.visits[v].day r l) := rfl
        rw [hst]
        unfold hitE enStep
        generalize enRow x d.visits[v].day r l = q at *
        generalize x.getD (4 * l + 2) false = b2 at *
        generalize x.getD (4 * l + 3) false = b3 at *
        have hcond : (b2 || b3) = false ∨ ((b2 || b3) = true ∧ ((q < 0) ∨ (¬ q < 0 ∧ d.visits[v].day < q) ∨ (¬ q < 0 ∧ ¬ d.visits[v].day < q))) := by
          cases (b2 || b3)
          · exact .inl rfl
          · right; refine ⟨rfl, ?_⟩; omega
        rcases hcond with hb | ⟨hb, h1 | ⟨h1, h2⟩ | ⟨h1, h2⟩⟩
        · rw [hb, if_neg (fun h => by cases h.1)]
          obtain ⟨rfl, rfl⟩ := Bool.or_eq_false_iff.1 hb
          simp only [go_sem, ↓reduceIte, Nat.reduceBEq, Nat.reduceEqDiff, Nat.reduceLT, Nat.reduceLeDiff, Nat.reduceAdd, Nat.reduceMul, Nat.reduceSub, reduceCtorEq, Int.reduceLT, Int.reduceLE, Int.reduceEq, Int.reduceBEq, Int.reduceBNe, Int.reduceToNat, Int.reduceAdd, Int.reduceNeg, Int.reduceSub, Bs_one, Bs_under, Bs_clean, ↓tsz106, ↓tbytes106, ↓tagg106, ↓trow106, ↓tint106, ↓tmap106, ↓teq106, ↓tbool106, ↓tref106, ↓tfok106, ↓known106, ↓tzero106, ↓tsz104, ↓tbytes104, ↓tagg104, ↓trow104, ↓tint104, ↓tmap104, ↓teq104, ↓tbool104, ↓tref104, ↓tfok104, ↓known104, ↓tzero104, ↓tfield106, hli, hvi, hwv, hwl, hrx, hvl, hvn, hvt, hrl, hl, hbl, List.getElem?_drop, Nat.add_zero, e2, e3, g2, g3, hvx, eVi, hzv]
          skip
        · rw [hb, if_pos ⟨rfl, .inl h1⟩]
          cases b2
          · obtain rfl : b3 = true := hb
            simp only [go_sem, ↓reduceIte, Nat.reduceBEq, Nat.reduceEqDiff, Nat.reduceLT, Nat.reduceLeDiff, Nat.reduceAdd, Nat.reduceMul, Nat.reduceSub, reduceCtorEq, Int.reduceLT, Int.reduceLE, Int.reduceEq, Int.reduceBEq, Int.reduceBNe, Int.reduceToNat, Int.reduceAdd, Int.reduceNeg, Int.reduceSub, Bs_one, Bs_under, Bs_clean, ↓tsz106, ↓tbytes106, ↓tagg106, ↓trow106, ↓tint106, ↓tmap106, ↓teq106, ↓tbool106, ↓tref106, ↓tfok106, ↓known106, ↓tzero106, ↓tsz104, ↓tbytes104, ↓tagg104, ↓trow104, ↓tint104, ↓tmap104, ↓teq104, ↓tbool104, ↓tref104, ↓tfok104, ↓known104, ↓tzero104, ↓tfield106, hli, hvi, hwv, hwl, hrx, hvl, hvn, hvt, hrl, hl, hbl, List.getElem?_drop, Nat.add_zero, e2, e3, g2, g3, hvx, eVi, hzv, h1]
            skip
          · simp only [go_sem, ↓reduceIte, Nat.reduceBEq, Nat.reduceEqDiff, Nat.reduceLT, Nat.reduceLeDiff, Nat.reduceAdd, Nat.reduceMul, Nat.reduceSub, reduceCtorEq, Int.reduceLT, Int.reduceLE, Int.reduceEq, Int.reduceBEq, Int.reduceBNe, Int.reduceToNat, Int.reduceAdd, Int.reduceNeg, Int.reduceSub, Bs_one, Bs_under, Bs_clean, ↓tsz106, ↓tbytes106, ↓tagg106, ↓trow106, ↓tint106, ↓tmap106, ↓teq106, ↓tbool106, ↓tref106, ↓tfok106, ↓known106, ↓tzero106, ↓tsz104, ↓tbytes104, ↓tagg104, ↓trow104, ↓tint104, ↓tmap104, ↓teq104, ↓tbool104, ↓tref104, ↓tfok104, ↓known104, ↓tzero104, ↓tfield106, hli, hvi, hwv, hwl, hrx, hvl, hvn, hvt, hrl, hl, hbl, List.getElem?_drop, Nat.add_zero, e2, e3, g2, g3, hvx, eVi, hzv, h1]
            skip
        · rw [hb, if_pos ⟨rfl, .inr h2⟩]
          cases b2
          · obtain rfl : b3 = true := hb
            simp only [go_sem, ↓reduceIte, Nat.reduceBEq, Nat.reduceEqDiff, Nat.reduceLT, Nat.reduceLeDiff, Nat.reduceAdd, Nat.reduceMul, Nat.reduceSub, reduceCtorEq, Int.reduceLT, Int.reduceLE, Int.reduceEq, Int.reduceBEq, Int.reduceBNe, Int.reduceToNat, Int.reduceAdd, Int.reduceNeg, Int.reduceSub, Bs_one, Bs_under, Bs_clean, ↓tsz106, ↓tbytes106, ↓tagg106, ↓trow106, ↓tint106, ↓tmap106, ↓teq106, ↓tbool106, ↓tref106, ↓tfok106, ↓known106, ↓tzero106, ↓tsz104, ↓tbytes104, ↓tagg104, ↓trow104, ↓tint104, ↓tmap104, ↓teq104, ↓tbool104, ↓tref104, ↓tfok104, ↓known104, ↓tzero104, ↓tfield106, hli, hvi, hwv, hwl, hrx, hvl, hvn, hvt, hrl, hl, hbl, List.getElem?_drop, Nat.add_zero, e2, e3, g2, g3, hvx, eVi, hzv, h1, h2]
            skip
          · simp only [go_sem, ↓reduceIte, Nat.reduceBEq, Nat.reduceEqDiff, Nat.reduceLT, Nat.reduceLeDiff, Nat.reduceAdd, Nat.reduceMul, Nat.reduceSub, reduceCtorEq, Int.reduceLT, Int.reduceLE, Int.reduceEq, Int.reduceBEq, Int.reduceBNe, Int.reduceToNat, Int.reduceAdd, Int.reduceNeg, Int.reduceSub, Bs_one, Bs_under, Bs_clean, ↓tsz106, ↓tbytes106, ↓tagg106, ↓trow106, ↓tint106, ↓tmap106, ↓teq106, ↓tbool106, ↓tref106, ↓tfok106, ↓known106, ↓tzero106, ↓tsz104, ↓tbytes104, ↓tagg104, ↓trow104, ↓tint104, ↓tmap104, ↓teq104, ↓tbool104, ↓tref104, ↓tfok104, ↓known104, ↓tzero104, ↓tfield106, hli, hvi, hwv, hwl, hrx, hvl, hvn, hvt, hrl, hl, hbl, List.getElem?_drop, Nat.add_zero, e2, e3, g2, g3, hvx, eVi, hzv, h1, h2]
            skip
        · rw [hb, if_neg (fun h => h.2.elim h1 h2)]
          cases b2
          · obtain rfl : b3 = true := hb
            simp only [go_sem, ↓reduceIte, Nat.reduceBEq, Nat.reduceEqDiff, Nat.reduceLT, Nat.reduceLeDiff, Nat.reduceAdd, Nat.reduceMul, Nat.reduceSub, reduceCtorEq, Int.reduceLT, Int.reduceLE, Int.reduceEq, Int.reduceBEq, Int.reduceBNe, Int.reduceToNat, Int.reduceAdd, Int.reduceNeg, Int.reduceSub, Bs_one, Bs_under, Bs_clean, ↓tsz106, ↓tbytes106, ↓tagg106, ↓trow106, ↓tint106, ↓tmap106, ↓teq106, ↓tbool106, ↓tref106, ↓tfok106, ↓known106, ↓tzero106, ↓tsz104, ↓tbytes104, ↓tagg104, ↓trow104, ↓tint104, ↓tmap104, ↓teq104, ↓tbool104, ↓tref104, ↓tfok104, ↓known104, ↓tzero104, ↓tfield106, hli, hvi, hwv, hwl, hrx, hvl, hvn, hvt, hrl, hl, hbl, List.getElem?_drop, Nat.add_zero, e2, e3, g2, g3, hvx, eVi, hzv, h1, h2]
            skip
          · simp only [go_sem, ↓reduceIte, Nat.reduceBEq, Nat.reduceEqDiff, Nat.reduceLT, Nat.reduceLeDiff, Nat.reduceAdd, Nat.reduceMul, Nat.reduceSub, reduceCtorEq, Int.reduceLT, Int.reduceLE, Int.reduceEq, Int.reduceBEq, Int.reduceBNe, Int.reduceToNat, Int.reduceAdd, Int.reduceNeg, Int.reduceSub, Bs_one, Bs_under, Bs_clean, ↓tsz106, ↓tbytes106, ↓tagg106, ↓trow106, ↓tint106, ↓tmap106, ↓teq106, ↓tbool106, ↓tref106, ↓tfok106, ↓known106, ↓tzero106, ↓tsz104, ↓tbytes104, ↓tagg104, ↓trow104, ↓tint104, ↓tmap104, ↓teq104, ↓tbool104, ↓tref104, ↓tfok104, ↓known104, ↓tzero104, ↓tfield106, hli, hvi, hwv, hwl, hrx, hvl, hvn, hvt, hrl, hl, hbl, List.getElem?_drop, Nat.add_zero, e2, e3, g2, g3, hvx, eVi, hzv, h1, h2]
            skip
      · simp only [go_sem, ↓reduceIte, Nat.reduceBEq, Nat.reduceEqDiff, Nat.reduceLT, Nat.reduceLeDiff, Nat.reduceAdd, Nat.reduceMul, Nat.reduceSub, reduceCtorEq, Int.reduceLT, Int.reduceLE, Int.reduceEq, Int.reduceBEq, Int.reduceBNe, Int.reduceToNat, Int.reduceAdd, Int.reduceNeg, Int.reduceSub]
        skip
    · simp only [go_sem, ↓reduceIte, Nat.reduceBEq, Nat.reduceEqDiff, Nat.reduceLT, Nat.reduceLeDiff, Nat.reduceAdd, Nat.reduceMul, Nat.reduceSub, reduceCtorEq, Int.reduceLT, Int.reduceLE, Int.reduceEq, Int.reduceBEq, Int.reduceBNe, Int.reduceToNat, Int.reduceAdd, Int.reduceNeg, Int.reduceSub, Int.lt_irrefl]
      skip
  · simp only [go_sem, ↓reduceIte, Nat.reduceBEq, Nat.reduceEqDiff, Nat.reduceLT, Nat.reduceLeDiff, Nat.reduceAdd, Nat.reduceMul, Nat.reduceSub, reduceCtorEq, Int.reduceLT, Int.reduceLE, Int.reduceEq, Int.reduceBEq, Int.reduceBNe, Int.reduceToNat, Int.reduceAdd, Int.reduceNeg, Int.reduceSub, Int.lt_irrefl]
    skip
end Go.Proofs.YthkpjbgadkkeeaaGreat
