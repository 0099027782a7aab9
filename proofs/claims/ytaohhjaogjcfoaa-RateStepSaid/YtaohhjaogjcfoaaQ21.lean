/- The body of RateStep. Conditions: those of each law. -/
import Derived.Test.YtaohhjaogjcfoaaQ20
set_option linter.unusedSimpArgs false
set_option linter.unusedVariables false
namespace Go.Proofs.Ytaohhjaogjcfoaa
open Go.Proofs

def cS (s : Int × Int) : List AV := [.int .i64 s.1, .int .i64 s.2]
theorem cS_len (s : Int × Int) : (cS s).length = 2 := rfl
theorem flat_eSp (l : List (Int × Int)) : (l.map eSp).flatMap AV.cells = l.flatMap cS := by rw [List.flatMap_map]; rfl
set_option maxRecDepth 100000 in
theorem l14 (d : Ho) (hd : d.fits) (x : Int × Int) (hx : (0 ≤ x.1 ∧ x.1 ≤ 255) ∧ (0 ≤ x.2 ∧ x.2 ≤ 255)) : ∃ h', (EW tabX).call 14 [eH d, .agg [.int .u8 x.1, .int .u8 x.2]] noHeap = some (.bool true, h') := by
  obtain ⟨a, b⟩ := x
  obtain ⟨ha, hb⟩ := hx
  simp only at ha hb
  have eD : eH d = .agg [.int .i64 d.days, .lst 0 d.zr (d.rates.map eSp), .int .i64 d.step, .lst 0 d.za (d.agents.map eAg), .lst 0 d.ze (d.entries.map eEn)] := rfl
  have hcl := eH_clean d
  have h36 := c36 d hd
  have h23 := c23
  rw [noHeap, w_call0 _ fn_14 rfl]
  simp only [eD] at h36 hcl ⊢
  by_cases h0 : checkE d = 0
  rotate_left
  · have hb : (checkE d == 0) = false := by simpa using h0
    rw [hb] at h36
    refine ⟨?_, ?_⟩
    rotate_left
    · simp only [go_sem, ↓reduceIte, Nat.reduceBEq, Nat.reduceEqDiff, Nat.reduceLT, Nat.reduceLeDiff, Nat.reduceAdd, Nat.reduceMul, Nat.reduceSub, reduceCtorEq, Int.reduceLT, Int.reduceLE, Int.reduceEq, Int.reduceBEq, Int.reduceBNe, Int.reduceToNat, Int.reduceAdd, Int.reduceNeg, Int.reduceSub, h36, h23]
      rfl
  have hb0 : (checkE d == 0) = true := by simpa using h0
  rw [hb0] at h36
  have ho := ok_of_E h0
  have hd1 : 1 ≤ d.days := ho.d1
  have hd3 : d.days ≤ 3 := ho.d3
  have hrd : (d.rates.length : Int) = d.days := ho.rd
  have hst := ho.st
  have hzr := hd.zr (by intro e; rw [e] at hrd; simp at hrd; omega)
  have hzt : (d.zr = 2) = True := eq_true hzr
  have t1 : a.tmod 3 = a % 3 := Int.tmod_eq_emod_of_nonneg ha.1
  have t2 : b.tmod 3 = b % 3 := Int.tmod_eq_emod_of_nonneg hb.1
  have hu3 : 0 ≤ a % 3 ∧ a % 3 ≤ 2 := by omega
  have hw3 : 0 ≤ b % 3 ∧ b % 3 ≤ 2 := by omega
  generalize a % 3 = u at t1 hu3
  generalize b % 3 = w at t2 hw3
  have hb1 : (d.rates.length * 16 ≤ 140737488355328 ∧ d.rates.length ≤ 140737488355328) = True := eq_true ⟨by omega, by omega⟩
  have hm : (d.rates.length = 0) = False := eq_false (by omega)
  simp (disch := omega) only [go_sem, ↓reduceIte, Nat.reduceBEq, Nat.reduceEqDiff, Nat.reduceLT, Nat.reduceLeDiff, Nat.reduceAdd, Nat.reduceMul, Nat.reduceSub, reduceCtorEq, Int.reduceLT, Int.reduceLE, Int.reduceEq, Int.reduceBEq, Int.reduceBNe, Int.reduceToNat, Int.reduceAdd, Int.reduceNeg, Int.reduceSub, h36, t1, t2, wrap_i64]
  generalize hcf : okFam _ _ _ = cf
  obtain rfl : cf = true := by rw [← hcf]; kernel_rfl
  generalize hN : List.replicate _ ABlk.none = N
  obtain rfl : N = [.none, .none, .none, .none, .none, .none] := by rw [← hN]; rfl
  generalize hM : List.replicate _ false = M
  obtain rfl : M = [false, false, false, false, false, false] := by rw [← hM]; rfl
  simp (disch := omega) only [go_sem, ↓reduceIte, Nat.reduceBEq, Nat.reduceEqDiff, Nat.reduceLT, Nat.reduceLeDiff, Nat.reduceAdd, Nat.reduceMul, Nat.reduceSub, reduceCtorEq, Int.reduceLT, Int.reduceLE, Int.reduceEq, Int.reduceBEq, Int.reduceBNe, Int.reduceToNat, Int.reduceAdd, Int.reduceNeg, Int.reduceSub, h36, t1, t2, hb1, hm, hzt, flat_eSp, wrap_i64, List.size_toArray]
  generalize hst2 : (if d.step + u < 20 then d.step + u else 20) = step2
  generalize hy : (EW tabX).code 14 none (Code.loop _) _ = y
  refine w_rounds_sk hy (fun k (s : List ABlk × List Bool × List AV) => [(7, .int .i64 k)])
    (fun s => ⟨.cells [.int .i64 d.days, .lst 0 d.zr (d.rates.map eSp), .int .i64 d.step, .lst 0 d.za (d.agents.map eAg), .lst 0 d.ze (d.entries.map eEn)] :: .cells [.int .u8 a, .int .u8 b] :: .none :: .none ::
      .cells [.int .i64 d.days, .lst 0 d.zr (d.rates.map eSp), .int .i64 0, .lst 0 d.za (d.agents.map eAg), .lst 0 d.ze (d.entries.map eEn)] :: 
      .cells [.int .i64 d.days, .bsl 8 0 d.rates.length 2, .int .i64 step2, .lst 0 d.za (d.agents.map eAg), .lst 0 d.ze (d.entries.map eEn)] :: .none :: .none :: .cells s.2.2 :: s.1, s.2.1⟩)
    (fun k s => s.2.2 = ((d.rates.take k).map (wideS w) ++ d.rates.drop k).flatMap cS) d.rates.length (.exit 0) (fun _ => [(7, .int .i64 d.rates.length)]) rfl ([], [false, false, false, false, false, false], d.rates.flatMap cS) ?_ ?_ (by simp) ?_ ?_ ?_
  · simp only [go_sem, ↓reduceIte, Nat.reduceBEq, Nat.reduceEqDiff, Nat.reduceLT, Nat.reduceLeDiff, Nat.reduceAdd, Nat.reduceMul, Nat.reduceSub, reduceCtorEq, Int.reduceLT, Int.reduceLE, Int.reduceEq, Int.reduceBEq, Int.reduceBNe, Int.reduceToNat, Int.reduceAdd, Int.reduceNeg, Int.reduceSub]
  · simp only [go_sem, ↓reduceIte, Nat.reduceBEq, Nat.reduceEqDiff, Nat.reduceLT, Nat.reduceLeDiff, Nat.reduceAdd, Nat.reduceMul, Nat.reduceSub, reduceCtorEq, Int.reduceLT, Int.reduceLE, Int.reduceEq, Int.reduceBEq, Int.reduceBNe, Int.reduceToNat, Int.reduceAdd, Int.reduceNeg, Int.reduceSub]
  · rintro k ⟨E, t, F⟩ hk h1
    simp only at h1
    subst h1
    obtain ⟨e, he⟩ : ∃ e, d.rates[k]? = some e := ⟨_, List.getElem?_eq_getElem hk⟩
    obtain ⟨b1, b2, b3⟩ := ho.sp e (List.mem_of_getElem? he)
    obtain ⟨L, hL⟩ : ∃ L, L = (d.rates.take k).map (wideS w) ++ d.rates.drop k := ⟨_, rfl⟩
    have hLk : L[k]? = some e := by
      rw [hL, List.getElem?_append_right (by simp; omega)]
      simp only [List.length_map, List.length_take, Nat.min_eq_left (Nat.le_of_lt hk), Nat.sub_self]
      rw [List.getElem?_drop]; simpa using he
    have hLn : (d.rates.take (k + 1)).map (wideS w) ++ d.rates.drop (k + 1) = L.set k (wideS w e) := by
      rw [hL, List.set_append_right _ _ (by simp; omega)]
      simp only [List.length_map, List.length_take, Nat.min_eq_left (Nat.le_of_lt hk), Nat.sub_self]
      rw [List.take_add_one, he, List.map_append, List.append_assoc]
      congr 1
      rw [List.drop_eq_getElem_cons hk, List.set_cons_zero]
      rfl
    rw [hLn, ← hL]
    obtain ⟨q1, q2⟩ := fm_at cS_len hLk
    have hLl : k < L.length := (List.getElem?_eq_some_iff.1 hLk).1
    have q3 := fm_set cS_len hLl (wideS w e)
    have q4 := fm_len cS_len L
    have q5 : k * 2 + 2 ≤ (L.flatMap cS).length := by rw [q4]; omega
    have q1 : List.take 2 (List.drop (k * 2) (List.flatMap cS L)) = [.int .i64 e.1, .int .i64 e.2] := q1
    have g0 : (List.drop (k * 2) (List.flatMap cS L))[0]? = some (.int .i64 e.1) := by
      have := congrArg (fun l : List AV => l[0]?) q1
      simpa [List.getElem?_take] using this
    have g1 : (List.drop (k * 2 + 1) (List.flatMap cS L))[0]? = some (.int .i64 e.2) := by
      have := congrArg (fun l : List AV => l[1]?) q1
      simpa [List.getElem?_take, List.getElem?_drop] using this
    have hkl : (k : Int) < d.rates.length := by omega
    have hw1 : IntKind.i64.wrap ((k : Int) + 1) = (k : Int) + 1 := wrap_i64 ⟨by omega, by omega⟩
    have hw2 : IntKind.i64.wrap (e.1 - w) = e.1 - w := wrap_i64 ⟨by omega, by omega⟩
    have hw4 : IntKind.i64.wrap (e.2 + w) = e.2 + w := wrap_i64 ⟨by omega, by omega⟩
    have hw5 : IntKind.i64.wrap b = b := wrap_i64 ⟨by omega, by omega⟩
    have hwe : wideS w e = (if 1 < e.1 - w then e.1 - w else 1, if e.2 + w < 20 then e.2 + w else 20) := rfl
    rw [hwe] at q3 ⊢
    generalize hp : (if 1 < e.1 - w then e.1 - w else 1) = p at *
    generalize hq : (if e.2 + w < 20 then e.2 + w else 20) = q at *
    have q3 : splice (L.flatMap cS) (k * 2) [.int .i64 p, .int .i64 q] = (L.set k (p, q)).flatMap cS := q3
    have h35 := c35 p q
    simp only [eSp] at h35
    obtain ⟨N30, hN30⟩ : ∃ N, N = List.replicate 30 ABlk.none := ⟨_, rfl⟩
    obtain ⟨M30, hM30⟩ : ∃ M, M = List.replicate 30 false := ⟨_, rfl⟩
    refine ⟨(E ++ N30, t ++ M30, (L.set k (p, q)).flatMap cS), ?_, rfl⟩
    simp only [go_sem, ↓reduceIte, Nat.reduceBEq, Nat.reduceEqDiff, Nat.reduceLT, Nat.reduceLeDiff, Nat.reduceAdd, Nat.reduceMul, Nat.reduceSub, reduceCtorEq, Int.reduceLT, Int.reduceLE, Int.reduceEq, Int.reduceBEq, Int.reduceBNe, Int.reduceToNat, Int.reduceAdd, Int.reduceNeg, Int.reduceSub, hkl, hk]
    generalize hcf : drawT _ _ _ = cf
    obtain rfl : cf = true := by rw [← hcf]; kernel_rfl
    generalize hN : List.replicate _ ABlk.none = N
    obtain rfl : N = N30 := by rw [← hN, hN30]; rfl
    generalize hM : List.replicate _ false = M
    obtain rfl : M = M30 := by rw [← hM, hM30]; rfl
    simp only [go_sem, ↓reduceIte, Nat.reduceBEq, Nat.reduceEqDiff, Nat.reduceLT, Nat.reduceLeDiff, Nat.reduceAdd, Nat.reduceMul, Nat.reduceSub, reduceCtorEq, Int.reduceLT, Int.reduceLE, Int.reduceEq, Int.reduceBEq, Int.reduceBNe, Int.reduceToNat, Int.reduceAdd, Int.reduceNeg, Int.reduceSub, hkl, hk, q1, q2, q3, q5, hw1, hw2, hw4, hp, hq, t2, hw5, h35, g0, g1]
  · rintro ⟨E, t, F⟩ h1
    simp only [go_sem, ↓reduceIte, Nat.reduceBEq, Nat.reduceEqDiff, Nat.reduceLT, Nat.reduceLeDiff, Nat.reduceAdd, Nat.reduceMul, Nat.reduceSub, reduceCtorEq, Int.reduceLT, Int.reduceLE, Int.reduceEq, Int.reduceBEq, Int.reduceBNe, Int.reduceToNat, Int.reduceAdd, Int.reduceNeg, Int.reduceSub, Int.lt_irrefl]
  · rintro ⟨E, t, F⟩ hs h1
    simp only at h1
    subst h1
    subst hs
    rw [List.take_length, List.drop_length, List.append_nil]
    have hrows : rowsOf 2 ((d.rates.map (wideS w)).flatMap cS) 0 d.rates.length = some ((d.rates.map (wideS w)).map eSp) := by
      have := rows_fm cS_len (by decide) (d.rates.map (wideS w)) [] []
      simp only [List.nil_append, List.append_nil, List.length_nil, List.length_map] at this
      exact this
    have ez : eH (d.wider u w) = .agg [.int .i64 d.days, .lst 0 2 ((d.rates.map (wideS w)).map eSp), .int .i64 (if d.step + u < 20 then d.step + u else 20), .lst 0 d.za (d.agents.map eAg), .lst 0 d.ze (d.entries.map eEn)] := rfl
    have es : eH d.still = .agg [.int .i64 d.days, .lst 0 d.zr (d.rates.map eSp), .int .i64 0, .lst 0 d.za (d.agents.map eAg), .lst 0 d.ze (d.entries.map eEn)] := rfl
    rw [hst2] at ez
    have w1 : wrongV d = wrongR d := by unfold wrongV; rw [if_pos h0]
    have w2 : wrongV (d.wider u w) = wrongR (d.wider u w) := by unfold wrongV; rw [if_pos (checkE_ok (ho.wider hu3.1 hw3.1))]
    have q1 := c30 d hd
    have q2 := c30 _ (fits_wider hd u w)
    rw [w1] at q1
    rw [w2] at q2
    have q3 := fun k => c21 d hd k
    have q4 := fun k => c21 _ (fits_wider hd u w) k
    have q5 := c44 d hd
    have q6 := c18 _ (fits_still hd)
    have q7 := c44 _ (fits_still hd)
    have k1 := eSp_clean (d.rates.map (wideS w))
    have k2 := eSp_clean d.rates
    have k3 := eEn_clean d.entries
    have k4 := cleanL_map (e := eAg) (fun x => by simp only [eAg, go_sem, ↓reduceIte, Nat.reduceBEq, Nat.reduceEqDiff, Nat.reduceLT, Nat.reduceLeDiff, Nat.reduceAdd, Nat.reduceMul, Nat.reduceSub, reduceCtorEq, Int.reduceLT, Int.reduceLE, Int.reduceEq, Int.reduceBEq, Int.reduceBNe, Int.reduceToNat, Int.reduceAdd, Int.reduceNeg, Int.reduceSub]) d.agents
    have p1 := fun (k : Nat) (hne : truthsL d [] ≠ []) (hk : (k : Int) < d.days) => wider_rate ho hu3.1 hw3.1 hne hk
    have p2 := wider_wrong ho hu3.1 hw3.1
    have p3 := still_first ho
    have hcz := eH_clean (d.wider u w)
    have hcs := eH_clean d.still
    generalize hws : d.rates.map (wideS w) = ws at *
    have hsn : someE d = true → truthsL d [] ≠ [] := fun hh => by
      unfold someE at hh
      simp only [Bool.and_eq_true, decide_eq_true_eq] at hh
      exact List.length_pos_iff.1 hh.2
    simp only [eD, ez, es, vL, vS, v3, eSp] at q1 q2 q3 q4 q5 q6 q7 hcz hcs
    generalize wrongR d = wd at *
    generalize wrongR (d.wider u w) = wz at *
    obtain ⟨l, e⟩ := wd
    obtain ⟨k, f⟩ := wz
    simp only at p2
    have hC : ((e == 0) = true ∧ (f != 0) = false ∧ ((l.length : Int) < k.length) = False) ∨ ((e == 0) = false ∧ (f != 0) = (f != 0) ∧ True) := by
      by_cases he : e = 0
      · obtain ⟨g1, g2⟩ := p2 he
        exact .inl ⟨by simpa using he, by simpa using g1, eq_false (by omega)⟩
      · exact .inr ⟨by simpa using he, rfl, trivial⟩
    obtain ⟨n, hn⟩ : ∃ n, (someE d = true ∧ n = d.rates.length) ∨ (someE d = false ∧ n = 0) := by
      cases hse : someE d with
      | true => exact ⟨_, .inl ⟨rfl, rfl⟩⟩
      | false => exact ⟨0, .inr ⟨rfl, rfl⟩⟩
    rcases hC with ⟨c1, c2, c3⟩ | ⟨c1, c2, c3⟩
    all_goals
      simp (disch := omega) only [go_sem, ↓reduceIte, Nat.reduceBEq, Nat.reduceEqDiff, Nat.reduceLT, Nat.reduceLeDiff, Nat.reduceAdd, Nat.reduceMul, Nat.reduceSub, reduceCtorEq, Int.reduceLT, Int.reduceLE, Int.reduceEq, Int.reduceBEq, Int.reduceBNe, Int.reduceToNat, Int.reduceAdd, Int.reduceNeg, Int.reduceSub, hrows, q1, q2, k1, k2, k3, k4, vI_clean, vI_under, vI, wrap_i64, c1, c2, c3]
      generalize hy : (EW tabX).code 14 none (Code.loop _) _ = y
      refine w_rounds_sk hy (fun k (s : List ABlk) => [(12, .int .i64 k)])
        (fun s => ⟨.cells [.int .i64 d.days, .lst 0 d.zr (d.rates.map eSp), .int .i64 d.step, .lst 0 d.za (d.agents.map eAg), .lst 0 d.ze (d.entries.map eEn)] :: .cells [.int .u8 a, .int .u8 b] :: .none :: .none ::
          .cells [.int .i64 d.days, .lst 0 d.zr (d.rates.map eSp), .int .i64 0, .lst 0 d.za (d.agents.map eAg), .lst 0 d.ze (d.entries.map eEn)] ::
          .cells [.int .i64 d.days, .lst 0 2 (ws.map eSp), .int .i64 step2, .lst 0 d.za (d.agents.map eAg), .lst 0 d.ze (d.entries.map eEn)] :: .none :: .none :: .none :: s, t⟩)
        (fun _ _ => True) n (.exit 2) (fun _ => [(12, .int .i64 n)]) rfl E ?_ ?_ trivial ?_ ?_ ?_
      · simp only [go_sem, ↓reduceIte, Nat.reduceBEq, Nat.reduceEqDiff, Nat.reduceLT, Nat.reduceLeDiff, Nat.reduceAdd, Nat.reduceMul, Nat.reduceSub, reduceCtorEq, Int.reduceLT, Int.reduceLE, Int.reduceEq, Int.reduceBEq, Int.reduceBNe, Int.reduceToNat, Int.reduceAdd, Int.reduceNeg, Int.reduceSub]
      · simp only [go_sem, ↓reduceIte, Nat.reduceBEq, Nat.reduceEqDiff, Nat.reduceLT, Nat.reduceLeDiff, Nat.reduceAdd, Nat.reduceMul, Nat.reduceSub, reduceCtorEq, Int.reduceLT, Int.reduceLE, Int.reduceEq, Int.reduceBEq, Int.reduceBNe, Int.reduceToNat, Int.reduceAdd, Int.reduceNeg, Int.reduceSub]
      · intro k E hk _
        obtain ⟨hse, rfl⟩ : someE d = true ∧ n = d.rates.length := by
          rcases hn with h | ⟨_, h⟩
          · exact h
          · omega
        rw [hse] at q5
        have hkd : (k : Int) < d.days := by omega
        obtain ⟨s, t, e1, e2, e3⟩ := p1 k (hsn hse) hkd
        have r1 := q3 k
        have r2 := q4 k
        rw [e1] at r1
        rw [e2] at r2
        have r3 := c43 s t
        rw [e3] at r3
        simp only [eSp] at r3
        have hw : IntKind.i64.wrap ((k : Int) + 1) = (k : Int) + 1 := wrap_i64 ⟨by omega, by omega⟩
        refine ⟨E ++ [.cells [.int .i64 s.1, .int .i64 s.2], .cells [.int .i64 t.1, .int .i64 t.2]], ?_, trivial⟩
        simp only [go_sem, ↓reduceIte, Nat.reduceBEq, Nat.reduceEqDiff, Nat.reduceLT, Nat.reduceLeDiff, Nat.reduceAdd, Nat.reduceMul, Nat.reduceSub, reduceCtorEq, Int.reduceLT, Int.reduceLE, Int.reduceEq, Int.reduceBEq, Int.reduceBNe, Int.reduceToNat, Int.reduceAdd, Int.reduceNeg, Int.reduceSub, hkd, q5, r1, r2, r3, k1, k2, k3, k4, hw, ne_same]
      · intro E _
        rcases hn with ⟨hse, rfl⟩ | ⟨hse, rfl⟩
        · simp only [go_sem, ↓reduceIte, Nat.reduceBEq, Nat.reduceEqDiff, Nat.reduceLT, Nat.reduceLeDiff, Nat.reduceAdd, Nat.reduceMul, Nat.reduceSub, reduceCtorEq, Int.reduceLT, Int.reduceLE, Int.reduceEq, Int.reduceBEq, Int.reduceBNe, Int.reduceToNat, Int.reduceAdd, Int.reduceNeg, Int.reduceSub, hrd, Int.lt_irrefl]
        · rw [hse] at q5
          have hdp : (0 : Int) < d.days := by omega
          simp only [go_sem, ↓reduceIte, Nat.reduceBEq, Nat.reduceEqDiff, Nat.reduceLT, Nat.reduceLeDiff, Nat.reduceAdd, Nat.reduceMul, Nat.reduceSub, reduceCtorEq, Int.reduceLT, Int.reduceLE, Int.reduceEq, Int.reduceBEq, Int.reduceBNe, Int.reduceToNat, Int.reduceAdd, Int.reduceNeg, Int.reduceSub, hdp, q5, k1, k2, k3, k4]
      · intro E hs _
        subst hs
        rcases p3 with ⟨g1, g2⟩ | ⟨g1, g2, g3⟩
        · generalize firstV d.still = fv at *
          obtain ⟨f1, f2, f3⟩ := fv
          simp only at g1
          subst g1
          rw [g2] at q7
          simp only [vI] at q6
          refine ⟨?_, ?_⟩
          rotate_left
          · simp only [go_sem, ↓reduceIte, Nat.reduceBEq, Nat.reduceEqDiff, Nat.reduceLT, Nat.reduceLeDiff, Nat.reduceAdd, Nat.reduceMul, Nat.reduceSub, reduceCtorEq, Int.reduceLT, Int.reduceLE, Int.reduceEq, Int.reduceBEq, Int.reduceBNe, Int.reduceToNat, Int.reduceAdd, Int.reduceNeg, Int.reduceSub, q6, q7, k1, k2, k3, k4, h23]
            rfl
        · generalize firstV d.still = fv at *
          obtain ⟨f1, f2, f3⟩ := fv
          simp only at g1 g2 g3
          subst g1
          have hz1 : zT 1 f1.length = 1 := zT_pos (by omega)
          simp only [vI, hz1] at q6
          have hfin : ((d.rates.length : Int) == d.days) = true := by simpa using hrd
          have i1 : ∀ k : Nat, k < d.rates.length → (I f1)[k]? = some (.int .i64 (f1.getD 0 0)) := fun k hk => by
            rw [← g3 k hk, I_get, List.getElem?_eq_getElem (by omega)]
            simp [show k < f1.length by omega]
          have i0 := i1 0 (by omega)
          simp only [go_sem, ↓reduceIte, Nat.reduceBEq, Nat.reduceEqDiff, Nat.reduceLT, Nat.reduceLeDiff, Nat.reduceAdd, Nat.reduceMul, Nat.reduceSub, reduceCtorEq, Int.reduceLT, Int.reduceLE, Int.reduceEq, Int.reduceBEq, Int.reduceBNe, Int.reduceToNat, Int.reduceAdd, Int.reduceNeg, Int.reduceSub, q6, k1, k2, k3, k4]
          rw [w_rounds_u (fun k : Nat => [(20, .int .i64 k)]) d.rates.length (.exit 4) [(20, .int .i64 d.rates.length)] ?_ ?_ ?_ rfl]
          · refine ⟨?_, ?_⟩
            rotate_left
            · simp only [go_sem, ↓reduceIte, Nat.reduceBEq, Nat.reduceEqDiff, Nat.reduceLT, Nat.reduceLeDiff, Nat.reduceAdd, Nat.reduceMul, Nat.reduceSub, reduceCtorEq, Int.reduceLT, Int.reduceLE, Int.reduceEq, Int.reduceBEq, Int.reduceBNe, Int.reduceToNat, Int.reduceAdd, Int.reduceNeg, Int.reduceSub, h23, g2, hfin]
              rfl
          · simp only [go_sem, ↓reduceIte, Nat.reduceBEq, Nat.reduceEqDiff, Nat.reduceLT, Nat.reduceLeDiff, Nat.reduceAdd, Nat.reduceMul, Nat.reduceSub, reduceCtorEq, Int.reduceLT, Int.reduceLE, Int.reduceEq, Int.reduceBEq, Int.reduceBNe, Int.reduceToNat, Int.reduceAdd, Int.reduceNeg, Int.reduceSub]
          · intro k hk
            have hkl : (k : Int) < d.rates.length := by omega
            have hw : IntKind.i64.wrap ((k : Int) + 1) = (k : Int) + 1 := wrap_i64 ⟨by omega, by omega⟩
            have ik := i1 k hk
            simp only [go_sem, ↓reduceIte, Nat.reduceBEq, Nat.reduceEqDiff, Nat.reduceLT, Nat.reduceLeDiff, Nat.reduceAdd, Nat.reduceMul, Nat.reduceSub, reduceCtorEq, Int.reduceLT, Int.reduceLE, Int.reduceEq, Int.reduceBEq, Int.reduceBNe, Int.reduceToNat, Int.reduceAdd, Int.reduceNeg, Int.reduceSub, g2, hkl, ik, i0, hw, ne_same]
          · simp only [go_sem, ↓reduceIte, Nat.reduceBEq, Nat.reduceEqDiff, Nat.reduceLT, Nat.reduceLeDiff, Nat.reduceAdd, Nat.reduceMul, Nat.reduceSub, reduceCtorEq, Int.reduceLT, Int.reduceLE, Int.reduceEq, Int.reduceBEq, Int.reduceBNe, Int.reduceToNat, Int.reduceAdd, Int.reduceNeg, Int.reduceSub, g2, Int.lt_irrefl]
end Go.Proofs.Ytaohhjaogjcfoaa
