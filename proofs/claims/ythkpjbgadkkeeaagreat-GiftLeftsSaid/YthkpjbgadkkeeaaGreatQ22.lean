/- Z-numbers. The stands behind each visit, by the reference. Conditions: those of each law. -/
import Derived.Test.YthkpjbgadkkeeaaGreatQ21
set_option linter.unusedSimpArgs false
set_option linter.unusedVariables false
namespace Go.Proofs.YthkpjbgadkkeeaaGreat
open Go.Proofs

theorem cLast (d : Fu) (hd : d.fits) (ho : d.Ok) (day : Int) (h : Heap) : callPure (EW tabX) 53 [eF d, .int .i64 day] h = some (.int .i64 (lastTo d day d.visits.length : Nat), h) := by
  have hv5 := ho.visits
  rw [callPure_eq, w_call _ fn_53 rfl]
  simp only [eF_eq]
  simp only [go_sem, ↓reduceIte, Nat.reduceBEq, Nat.reduceEqDiff, Nat.reduceLT, Nat.reduceLeDiff, Nat.reduceAdd, Nat.reduceMul, Nat.reduceSub, reduceCtorEq, Int.reduceLT, Int.reduceLE, Int.reduceEq, Int.reduceBEq, Int.reduceBNe, Int.reduceToNat, Int.reduceAdd, Int.reduceNeg, Int.reduceSub]
  rw [w_rounds_u (fun k => [(5, .int .i64 (lastTo d day k : Nat)), (6, .int .i64 (k : Int))]) d.visits.length (.exit 0) [(5, .int .i64 (lastTo d day d.visits.length : Nat)), (6, .int .i64 (d.visits.length : Int))] ?_ ?_ ?_ rfl]
  · simp only [go_sem, ↓reduceIte, Nat.reduceBEq, Nat.reduceEqDiff, Nat.reduceLT, Nat.reduceLeDiff, Nat.reduceAdd, Nat.reduceMul, Nat.reduceSub, reduceCtorEq, Int.reduceLT, Int.reduceLE, Int.reduceEq, Int.reduceBEq, Int.reduceBNe, Int.reduceToNat, Int.reduceAdd, Int.reduceNeg, Int.reduceSub]
  · simp only [go_sem, ↓reduceIte, Nat.reduceBEq, Nat.reduceEqDiff, Nat.reduceLT, Nat.reduceLeDiff, Nat.reduceAdd, Nat.reduceMul, Nat.reduceSub, reduceCtorEq, Int.reduceLT, Int.reduceLE, Int.reduceEq, Int.reduceBEq, Int.reduceBNe, Int.reduceToNat, Int.reduceAdd, Int.reduceNeg, Int.reduceSub, lastTo]
    skip
  · intro k hk
    have hki : (k : Int) < d.visits.length := by omega
    have hx := List.getElem?_eq_getElem hk
    have hzv := hd.zv (by intro e; rw [e] at hk; simp at hk)
    have hw : IntKind.i64.wrap ((k : Int) + 1) = (k : Int) + 1 := wrap_i64 (by omega)
    have hdy : dayAt d k = d.visits[k].day := by unfold dayAt; rw [hx]
    have hst : lastTo d day (k + 1) = if d.visits[k].day ≤ day then k + 1 else lastTo d day k := by show (if dayAt d k ≤ day then k + 1 else lastTo d day k) = _; rw [hdy]
    rw [hst]
    by_cases hle : d.visits[k].day ≤ day
    · simp only [go_sem, ↓reduceIte, Nat.reduceBEq, Nat.reduceEqDiff, Nat.reduceLT, Nat.reduceLeDiff, Nat.reduceAdd, Nat.reduceMul, Nat.reduceSub, reduceCtorEq, Int.reduceLT, Int.reduceLE, Int.reduceEq, Int.reduceBEq, Int.reduceBNe, Int.reduceToNat, Int.reduceAdd, Int.reduceNeg, Int.reduceSub, hki, hx, eVi, hzv, hle, hw]
      skip
    · simp only [go_sem, ↓reduceIte, Nat.reduceBEq, Nat.reduceEqDiff, Nat.reduceLT, Nat.reduceLeDiff, Nat.reduceAdd, Nat.reduceMul, Nat.reduceSub, reduceCtorEq, Int.reduceLT, Int.reduceLE, Int.reduceEq, Int.reduceBEq, Int.reduceBNe, Int.reduceToNat, Int.reduceAdd, Int.reduceNeg, Int.reduceSub, hki, hx, eVi, hzv, hle, hw]
      skip
  · simp only [go_sem, ↓reduceIte, Nat.reduceBEq, Nat.reduceEqDiff, Nat.reduceLT, Nat.reduceLeDiff, Nat.reduceAdd, Nat.reduceMul, Nat.reduceSub, reduceCtorEq, Int.reduceLT, Int.reduceLE, Int.reduceEq, Int.reduceBEq, Int.reduceBNe, Int.reduceToNat, Int.reduceAdd, Int.reduceNeg, Int.reduceSub, Int.lt_irrefl]
theorem cSettled (n all : Int) (h : Heap) : callPure (EW tabX) 54 [.int .i64 n, .int .i64 all] h = some (.int .i64 (setV n all), h) := by
  rw [callPure_eq, w_call _ fn_54 rfl]
  unfold setV
  by_cases h1 : n = all
  · subst h1
    simp only [go_sem, ↓reduceIte, Nat.reduceBEq, Nat.reduceEqDiff, Nat.reduceLT, Nat.reduceLeDiff, Nat.reduceAdd, Nat.reduceMul, Nat.reduceSub, reduceCtorEq, Int.reduceLT, Int.reduceLE, Int.reduceEq, Int.reduceBEq, Int.reduceBNe, Int.reduceToNat, Int.reduceAdd, Int.reduceNeg, Int.reduceSub, if_true]
  · rw [if_neg h1]
    have hb : (n == all) = false := by simpa using h1
    by_cases h2 : n = 0
    · subst h2
      simp only [go_sem, ↓reduceIte, Nat.reduceBEq, Nat.reduceEqDiff, Nat.reduceLT, Nat.reduceLeDiff, Nat.reduceAdd, Nat.reduceMul, Nat.reduceSub, reduceCtorEq, Int.reduceLT, Int.reduceLE, Int.reduceEq, Int.reduceBEq, Int.reduceBNe, Int.reduceToNat, Int.reduceAdd, Int.reduceNeg, Int.reduceSub, hb, if_true]
    · rw [if_neg h2]
      have hb2 : (n == 0) = false := by simpa using h2
      simp only [go_sem, ↓reduceIte, Nat.reduceBEq, Nat.reduceEqDiff, Nat.reduceLT, Nat.reduceLeDiff, Nat.reduceAdd, Nat.reduceMul, Nat.reduceSub, reduceCtorEq, Int.reduceLT, Int.reduceLE, Int.reduceEq, Int.reduceBEq, Int.reduceBNe, Int.reduceToNat, Int.reduceAdd, Int.reduceNeg, Int.reduceSub, hb, hb2]
def rowX (d : Fu) (ws : List Bool) (n : Nat) : List AV := (List.range n).map fun k => .agg (Bs (refX d ws k))
def vR (d : Fu) (ws : List Bool) : AV := .lst 0 1204 (rowX d ws (d.visits.length + 1))
theorem rowX_succ (d : Fu) (ws : List Bool) (n : Nat) : rowX d ws (n + 1) = rowX d ws n ++ [.agg (Bs (refX d ws n))] := by unfold rowX; rw [List.range_succ, List.map_append]; rfl
theorem rowX_len (d : Fu) (ws : List Bool) (n : Nat) : (rowX d ws n).length = n := by simp [rowX]
theorem rowX_get (d : Fu) (ws : List Bool) {n k : Nat} (h : k < n) : (rowX d ws n)[k]? = some (.agg (Bs (refX d ws k))) := by
  unfold rowX; rw [List.getElem?_map, List.getElem?_range h]; rfl
theorem rowX_clean (d : Fu) (ws : List Bool) (n : Nat) : cleanL (rowX d ws n) = some (rowX d ws n) := cleanL_map (fun k => by have := Bs_clean (refX d ws k); simp only [go_sem, ↓reduceIte, Nat.reduceBEq, Nat.reduceEqDiff, Nat.reduceLT, Nat.reduceLeDiff, Nat.reduceAdd, Nat.reduceMul, Nat.reduceSub, reduceCtorEq, Int.reduceLT, Int.reduceLE, Int.reduceEq, Int.reduceBEq, Int.reduceBNe, Int.reduceToNat, Int.reduceAdd, Int.reduceNeg, Int.reduceSub, this]) _
theorem rowX_under (d : Fu) (ws : List Bool) (n m : Nat) : underL m (rowX d ws n) = true := underL_map (fun k => by have := Bs_under m (refX d ws k); simp only [go_sem, ↓reduceIte, Nat.reduceBEq, Nat.reduceEqDiff, Nat.reduceLT, Nat.reduceLeDiff, Nat.reduceAdd, Nat.reduceMul, Nat.reduceSub, reduceCtorEq, Int.reduceLT, Int.reduceLE, Int.reduceEq, Int.reduceBEq, Int.reduceBNe, Int.reduceToNat, Int.reduceAdd, Int.reduceNeg, Int.reduceSub, this]) _
theorem zf106 : zeroFits tabX 106 = true := by
  unfold zeroFits
  rw [tzero106, tsz106]
  have := Bs_one falses
  have h2 := Bs_len falses
  have h3 := falses_len
  simp only [go_sem, ↓reduceIte, Nat.reduceBEq, Nat.reduceEqDiff, Nat.reduceLT, Nat.reduceLeDiff, Nat.reduceAdd, Nat.reduceMul, Nat.reduceSub, reduceCtorEq, Int.reduceLT, Int.reduceLE, Int.reduceEq, Int.reduceBEq, Int.reduceBNe, Int.reduceToNat, Int.reduceAdd, Int.reduceNeg, Int.reduceSub, this, h2, h3]
theorem app_row {tg : Nat} {M : List Bool} {xs v : List AV} (ho : tg = 1 ∨ ∃ q, tg = q + 2 ∧ M[q]? = some true) (hv : (AV.agg v).var = true) (hl : xs.length ≤ 1000) :
    ∃ M', (∀ B, appendAV tabX 107 M.length ⟨B, M⟩ (.lst tg 1204 xs) (.lst 1 1204 [.agg v]) = some (.lst (M.length + 2) 1204 (xs ++ [.agg v]), ⟨B, M'⟩)) ∧ M'[M.length]? = some true := by
  have ht : trow tabX 107 = .slice 106 := by simp only [go_sem, ↓reduceIte, Nat.reduceBEq, Nat.reduceEqDiff, Nat.reduceLT, Nat.reduceLeDiff, Nat.reduceAdd, Nat.reduceMul, Nat.reduceSub, reduceCtorEq, Int.reduceLT, Int.reduceLE, Int.reduceEq, Int.reduceBEq, Int.reduceBNe, Int.reduceToNat, Int.reduceAdd, Int.reduceNeg, Int.reduceSub]
  have hc : ((1204 : Nat) = tsz tabX 106 ∨ [AV.agg v].length = 0) ∧ 0 < tsz tabX 106 ∧ (xs.length + [AV.agg v].length) * tbytes tabX 106 ≤ appLimit ∧ xs.length + [AV.agg v].length ≤ appLimit ∧ zeroFits tabX 106 = true ∧ [AV.agg v].all AV.var = true := by
    rw [tsz106, tbytes106, zf106]
    refine ⟨.inl rfl, by decide, ?_, ?_, rfl, ?_⟩
    · unfold appLimit; simp only [List.length_cons, List.length_nil]; omega
    · unfold appLimit; simp only [List.length_cons, List.length_nil]; omega
    · rw [List.all_cons, hv]; rfl
  unfold appendAV
  simp only [ht, if_pos hc]
  rcases ho with rfl | ⟨q, rfl, hq⟩
  · have hx : ((1204 : Nat) = tsz tabX 106 ∨ xs.length = 0) ∧ (xs.length = 0 ∨ 0 < [AV.agg v].length) := ⟨.inl tsz106.symm, .inr (by simp)⟩
    refine ⟨M ++ [true], fun B => ?_, by simp⟩
    rw [if_pos hx]
    simp only [tsz106, lset, Nat.lt_irrefl, if_false]
  · refine ⟨M.set q false ++ [true], fun B => ?_, by simp⟩
    simp only [hq]
    rw [if_pos tsz106.symm]
    simp only [tsz106, lset, List.length_set, Nat.lt_irrefl, if_false]
set_option maxHeartbeats 1000000 in
set_option maxRecDepth 100000 in
theorem cRun (d : Fu) (hd : d.fits) (ho : d.Ok) (hs : someB d 0 = true) (ws : List Bool) (hws : ws.length = d.people.length) (h : Heap) : callPure (EW tabX) 52 [eF d, vBs' ws] h = some (vR d ws, h) := by
  have hv5 := ho.visits
  have hpn := ho.pence
  have hcl := eF_clean d
  have hbc := Bs_clean ws
  have hfl : (Bs falses).length = 1204 := by rw [Bs_len, falses_len]
  have hset := Bs_set falses (d.pence.toNat * 4) true
  have hpi : d.pence.toNat < 301 := by omega
  have hpt : d.pence.toNat * 4 ≤ 1203 := by omega
  have hn0 : ¬ d.pence < 0 := by omega
  have hr0 : falses.set (d.pence.toNat * 4) true = refX d ws 0 := by show _ = falses.set (4 * d.pence.toNat) true; rw [Nat.mul_comm]
  have hr0l := loadB (refX_len d ws 0)
  have hr0c := Bs_clean (refX d ws 0)
  rw [callPure_eq, w_call _ fn_52 rfl]
  simp only [eF_eq, vBs'] at hcl ⊢
  have hr0n : (Bs (refX d ws 0)).length = 1204 := by rw [Bs_len, refX_len]
  have hr0t := Bs_take (refX_len d ws 0)
  have hr0v := Bs_one (refX d ws 0)
  have hr0u := fun n => Bs_under n (refX d ws 0)
  simp only [go_sem, ↓reduceIte, Nat.reduceBEq, Nat.reduceEqDiff, Nat.reduceLT, Nat.reduceLeDiff, Nat.reduceAdd, Nat.reduceMul, Nat.reduceSub, reduceCtorEq, Int.reduceLT, Int.reduceLE, Int.reduceEq, Int.reduceBEq, Int.reduceBNe, Int.reduceToNat, Int.reduceAdd, Int.reduceNeg, Int.reduceSub, Bs_one, Bs_under, Bs_clean, ↓tsz106, ↓tbytes106, ↓tagg106, ↓trow106, ↓tint106, ↓tmap106, ↓teq106, ↓tbool106, ↓tref106, ↓tfok106, ↓known106, ↓tzero106, ↓tsz104, ↓tbytes104, ↓tagg104, ↓trow104, ↓tint104, ↓tmap104, ↓teq104, ↓tbool104, ↓tref104, ↓tfok104, ↓known104, ↓tzero104, ↓tfield106, hbc, hfl, hset, hpi, hpt, hn0, hr0, hr0n, hr0t, hr0c, hr0v, hr0u]
  generalize hy : (EW tabX).code 52 none (Code.loop _) _ = y
  refine w_rounds_sk hy (fun k s => [(6, .lst s.2.1 1204 (rowX d ws (k + 1))), (7, .int .i64 (k : Int))]) (fun s : Nat × Nat × List ABlk × List Bool => ⟨.cells (eFc d) :: .cells (Bs (refX d ws s.1)) :: s.2.2.1, s.2.2.2⟩)
    (fun k s => s.1 = k ∧ (s.2.1 = 1 ∨ ∃ q, s.2.1 = q + 2 ∧ s.2.2.2[q]? = some true)) d.visits.length (.exit 0) (fun s => [(6, .lst s.2.1 1204 (rowX d ws (d.visits.length + 1))), (7, .int .i64 (d.visits.length : Int))]) rfl (0, 1, [], []) ?_ ?_ ⟨rfl, .inl rfl⟩ ?_ ?_ ?_
  · simp only [go_sem, ↓reduceIte, Nat.reduceBEq, Nat.reduceEqDiff, Nat.reduceLT, Nat.reduceLeDiff, Nat.reduceAdd, Nat.reduceMul, Nat.reduceSub, reduceCtorEq, Int.reduceLT, Int.reduceLE, Int.reduceEq, Int.reduceBEq, Int.reduceBNe, Int.reduceToNat, Int.reduceAdd, Int.reduceNeg, Int.reduceSub, rowX_succ]
    rfl
  · rfl
  · rintro k ⟨k', tg, E, M⟩ hk ⟨hR, hown⟩
    obtain rfl : k' = k := hR
    have hown : tg = 1 ∨ ∃ q, tg = q + 2 ∧ M[q]? = some true := hown
    have hki : (k' : Int) < d.visits.length := by omega
    have hv := List.getElem?_eq_getElem hk
    have hzv := hd.zv (by intro e; rw [e] at hk; simp at hk)
    have hw : IntKind.i64.wrap ((k' : Int) + 1) = (k' : Int) + 1 := wrap_i64 (by omega)
    have hvo := ho.visit _ (List.getElem_mem hk)
    have hpb := hvo.person
    have hpl : d.visits[k'].person.toNat < ws.length := by omega
    have hpi2 : d.visits[k'].person < ws.length := by omega
    have hnn : ¬ d.visits[k'].person < 0 := by omega
    have hwx := Bs_get hpl
    have hwz : zT 1 ws.length = 1 := zT_pos (by omega)
    have hwho : whoAt d k' = d.visits[k'].person.toNat := by unfold whoAt; rw [hv]
    have hxl := refX_len d ws k'
    have hof := cOf d hd ho hs k' hk (ws.getD d.visits[k'].person.toNat false) (refX d ws k') hxl
    have hnx : ofTo d k' (ws.getD d.visits[k'].person.toNat false) (refX d ws k') 1204 = refX d ws (k' + 1) := by rw [← hwho]; rfl
    rw [hnx] at hof
    simp only [eF_eq, hzv] at hof
    have g1 : (Bs (refX d ws k')).length = 1204 := by rw [Bs_len, hxl]
    have g2 := Bs_take hxl
    have g3 := Bs_clean (refX d ws k')
    have g4 := Bs_one (refX d ws k')
    have g5 := fun n => Bs_under n (refX d ws k')
    have n0 := refX_len d ws (k' + 1)
    have n1 : (Bs (refX d ws (k' + 1))).length = 1204 := by rw [Bs_len, n0]
    have n2 := Bs_take n0
    have n3 := Bs_clean (refX d ws (k' + 1))
    have n4 := Bs_one (refX d ws (k' + 1))
    have n5 := fun n => Bs_under n (refX d ws (k' + 1))
    have hsp : splice (Bs (refX d ws k')) 0 (Bs (refX d ws (k' + 1))) = Bs (refX d ws (k' + 1)) := splice_full (by rw [g1, n1])
    have hru := fun n => rowX_under d ws (k' + 1) n
    have hsn := rowX_succ d ws (k' + 1)
    have hrl := rowX_len d ws (k' + 1)
    have happ := fun (tg : Nat) (M : List Bool) (ho : tg = 1 ∨ ∃ q, tg = q + 2 ∧ M[q]? = some true) => app_row (xs := rowX d ws (k' + 1)) (v := Bs (refX d ws (k' + 1))) ho n4 (by rw [hrl]; omega)
    rw [← hsn] at happ
    generalize hr1 : Bs (refX d ws (k' + 1)) = r1 at happ hof n1 n2 n3 n4 n5 hsp hsn
    generalize Bs (refX d ws k') = r0 at *
    generalize rowX d ws (k' + 1) = R at *
    simp only [go_sem, ↓reduceIte, Nat.reduceBEq, Nat.reduceEqDiff, Nat.reduceLT, Nat.reduceLeDiff, Nat.reduceAdd, Nat.reduceMul, Nat.reduceSub, reduceCtorEq, Int.reduceLT, Int.reduceLE, Int.reduceEq, Int.reduceBEq, Int.reduceBNe, Int.reduceToNat, Int.reduceAdd, Int.reduceNeg, Int.reduceSub, Bs_one, Bs_under, Bs_clean, ↓tsz106, ↓tbytes106, ↓tagg106, ↓trow106, ↓tint106, ↓tmap106, ↓teq106, ↓tbool106, ↓tref106, ↓tfok106, ↓known106, ↓tzero106, ↓tsz104, ↓tbytes104, ↓tagg104, ↓trow104, ↓tint104, ↓tmap104, ↓teq104, ↓tbool104, ↓tref104, ↓tfok104, ↓known104, ↓tzero104, ↓tfield106, eFc, hki, hv, eVi, hzv, hpb, hpi2, hnn, hwx, hwz, hof, g1, g2, g3, g4, g5, n1, n2, n3, n4, n5, hsp, hfl]
    generalize hcf : drawT _ _ _ = cf
    obtain rfl : cf = true := by rw [← hcf]; kernel_rfl
    generalize List.replicate _ ABlk.none = N
    generalize List.replicate _ false = Q
    have ho2 : tg = 1 ∨ ∃ q, tg = q + 2 ∧ (M ++ Q)[q]? = some true := hown.imp_right fun ⟨q, q1, q2⟩ => ⟨q, q1, by rw [List.getElem?_append_left (List.getElem?_eq_some_iff.1 q2).1]; exact q2⟩
    obtain ⟨M3, a1, a2⟩ := happ tg (M ++ Q) ho2
    rw [List.length_append] at a1 a2
    refine ⟨(k' + 1, M.length + Q.length + 2, E ++ N, M3), ?_, rfl, .inr ⟨M.length + Q.length, rfl, a2⟩⟩
    simp only [go_sem, ↓reduceIte, Nat.reduceBEq, Nat.reduceEqDiff, Nat.reduceLT, Nat.reduceLeDiff, Nat.reduceAdd, Nat.reduceMul, Nat.reduceSub, reduceCtorEq, Int.reduceLT, Int.reduceLE, Int.reduceEq, Int.reduceBEq, Int.reduceBNe, Int.reduceToNat, Int.reduceAdd, Int.reduceNeg, Int.reduceSub, Bs_one, Bs_under, Bs_clean, ↓tsz106, ↓tbytes106, ↓tagg106, ↓trow106, ↓tint106, ↓tmap106, ↓teq106, ↓tbool106, ↓tref106, ↓tfok106, ↓known106, ↓tzero106, ↓tsz104, ↓tbytes104, ↓tagg104, ↓trow104, ↓tint104, ↓tmap104, ↓teq104, ↓tbool104, ↓tref104, ↓tfok104, ↓known104, ↓tzero104, ↓tfield106, eFc, a1, hw, hru, hsn, hr1]
    skip
  · rintro ⟨k', tg, E, M⟩ ⟨hR, hown⟩
    simp only [go_sem, ↓reduceIte, Nat.reduceBEq, Nat.reduceEqDiff, Nat.reduceLT, Nat.reduceLeDiff, Nat.reduceAdd, Nat.reduceMul, Nat.reduceSub, reduceCtorEq, Int.reduceLT, Int.reduceLE, Int.reduceEq, Int.reduceBEq, Int.reduceBNe, Int.reduceToNat, Int.reduceAdd, Int.reduceNeg, Int.reduceSub, eFc, Int.lt_irrefl]
    skip
  · rintro ⟨k', tg, E, M⟩ hys ⟨hR, hown⟩
    subst hys
    have g1 := rowX_clean d ws (d.visits.length + 1)
    have g2 := fun n => rowX_under d ws (d.visits.length + 1) n
    simp only [go_sem, ↓reduceIte, Nat.reduceBEq, Nat.reduceEqDiff, Nat.reduceLT, Nat.reduceLeDiff, Nat.reduceAdd, Nat.reduceMul, Nat.reduceSub, reduceCtorEq, Int.reduceLT, Int.reduceLE, Int.reduceEq, Int.reduceBEq, Int.reduceBNe, Int.reduceToNat, Int.reduceAdd, Int.reduceNeg, Int.reduceSub, Bs_one, Bs_under, Bs_clean, ↓tsz106, ↓tbytes106, ↓tagg106, ↓trow106, ↓tint106, ↓tmap106, ↓teq106, ↓tbool106, ↓tref106, ↓tfok106, ↓known106, ↓tzero106, ↓tsz104, ↓tbytes104, ↓tagg104, ↓trow104, ↓tint104, ↓tmap104, ↓teq104, ↓tbool104, ↓tref104, ↓tfok104, ↓known104, ↓tzero104, ↓tfield106, eFc, vR, g1, g2]
    skip
end Go.Proofs.YthkpjbgadkkeeaaGreat
