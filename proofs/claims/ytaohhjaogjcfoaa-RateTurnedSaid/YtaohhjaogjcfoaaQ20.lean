/- The body of RateTurned. Conditions: those of each law. -/
import Derived.Test.YtaohhjaogjcfoaaQ19
set_option linter.unusedSimpArgs false
set_option linter.unusedVariables false
namespace Go.Proofs.Ytaohhjaogjcfoaa
open Go.Proofs

theorem apA {t e sz : Nat} (ht : trow tabX t = .slice e) (hs : tsz tabX e = sz) (hb : tbytes tabX e ≤ 64) (hz : zeroFits tabX e = true) (h0 : 0 < sz) (B : List ABlk) (t0 M : List Bool) (i u z : Nat) (ys : List AV) (hz' : z = sz ∨ ys.length = 0) (hl : ys.length ≤ 1000000) (hv : ys.all AV.var = true) :
    appendAV tabX t (t0.length + i) ⟨B, t0 ++ M⟩ (.lst 1 sz []) (.lst u z ys) = some (.lst (t0.length + i + 2) sz ys, ⟨B, lset (t0 ++ M) (t0.length + i) true⟩) := by
  have hm : ys.length * tbytes tabX e ≤ 1000000 * 64 := Nat.mul_le_mul hl hb
  have hc : (z = sz ∨ ys.length = 0) ∧ 0 < sz ∧ (([] : List AV).length + ys.length) * tbytes tabX e ≤ appLimit ∧ ([] : List AV).length + ys.length ≤ appLimit ∧ zeroFits tabX e = true ∧ ys.all AV.var = true :=
    ⟨hz', h0, by unfold appLimit; simp; omega, by unfold appLimit; simp; omega, hz, hv⟩
  unfold appendAV
  simp only [ht, hs]
  rw [if_pos hc]
  simp only [true_or, if_true, List.nil_append]
theorem apB {t e sz : Nat} (ht : trow tabX t = .slice e) (hs : tsz tabX e = sz) (hb : tbytes tabX e ≤ 64) (hz : zeroFits tabX e = true) (h0 : 0 < sz) (B : List ABlk) (t0 M : List Bool) (i j u : Nat) (xs ys : List AV) (hi : i < M.length) (hl : xs.length + ys.length ≤ 1000000) (hv : ys.all AV.var = true) :
    appendAV tabX t (t0.length + j) ⟨B, lset (t0 ++ M) (t0.length + i) true⟩ (.lst (t0.length + i + 2) sz xs) (.lst u sz ys) = some (.lst (t0.length + j + 2) sz (xs ++ ys), ⟨B, lset ((lset (t0 ++ M) (t0.length + i) true).set (t0.length + i) false) (t0.length + j) true⟩) := by
  have hm : (xs.length + ys.length) * tbytes tabX e ≤ 1000000 * 64 := Nat.mul_le_mul hl hb
  have hc : (True ∨ ys.length = 0) ∧ 0 < sz ∧ (xs.length + ys.length) * tbytes tabX e ≤ appLimit ∧ xs.length + ys.length ≤ appLimit ∧ zeroFits tabX e = true ∧ ys.all AV.var = true :=
    ⟨.inl trivial, h0, by unfold appLimit; omega, by unfold appLimit; omega, hz, hv⟩
  have hg : (lset (t0 ++ M) (t0.length + i) true)[t0.length + i]? = some true := by
    rw [lset_get (by simp; omega), if_pos rfl]
  unfold appendAV
  simp only [ht, hs]
  rw [if_pos hc]
  simp only [if_true, hg]
theorem u22 : trow tabX 22 = .slice 35 := by simp only [go_sem, ↓reduceIte, Nat.reduceBEq, Nat.reduceEqDiff, Nat.reduceLT, Nat.reduceLeDiff, Nat.reduceAdd, Nat.reduceMul, Nat.reduceSub, reduceCtorEq, Int.reduceLT, Int.reduceLE, Int.reduceEq, Int.reduceBEq, Int.reduceBNe, Int.reduceToNat, Int.reduceAdd, Int.reduceNeg, Int.reduceSub]
theorem u35 : tsz tabX 35 = 2 := by simp only [go_sem, ↓reduceIte, Nat.reduceBEq, Nat.reduceEqDiff, Nat.reduceLT, Nat.reduceLeDiff, Nat.reduceAdd, Nat.reduceMul, Nat.reduceSub, reduceCtorEq, Int.reduceLT, Int.reduceLE, Int.reduceEq, Int.reduceBEq, Int.reduceBNe, Int.reduceToNat, Int.reduceAdd, Int.reduceNeg, Int.reduceSub]
theorem ub35 : tbytes tabX 35 ≤ 64 := by simp only [go_sem, ↓reduceIte, Nat.reduceBEq, Nat.reduceEqDiff, Nat.reduceLT, Nat.reduceLeDiff, Nat.reduceAdd, Nat.reduceMul, Nat.reduceSub, reduceCtorEq, Int.reduceLT, Int.reduceLE, Int.reduceEq, Int.reduceBEq, Int.reduceBNe, Int.reduceToNat, Int.reduceAdd, Int.reduceNeg, Int.reduceSub]
theorem uz35 : zeroFits tabX 35 = true := by simp only [go_sem, ↓reduceIte, Nat.reduceBEq, Nat.reduceEqDiff, Nat.reduceLT, Nat.reduceLeDiff, Nat.reduceAdd, Nat.reduceMul, Nat.reduceSub, reduceCtorEq, Int.reduceLT, Int.reduceLE, Int.reduceEq, Int.reduceBEq, Int.reduceBNe, Int.reduceToNat, Int.reduceAdd, Int.reduceNeg, Int.reduceSub]
theorem u24 : trow tabX 24 = .slice 58 := by simp only [go_sem, ↓reduceIte, Nat.reduceBEq, Nat.reduceEqDiff, Nat.reduceLT, Nat.reduceLeDiff, Nat.reduceAdd, Nat.reduceMul, Nat.reduceSub, reduceCtorEq, Int.reduceLT, Int.reduceLE, Int.reduceEq, Int.reduceBEq, Int.reduceBNe, Int.reduceToNat, Int.reduceAdd, Int.reduceNeg, Int.reduceSub]
theorem u58 : tsz tabX 58 = 4 := by simp only [go_sem, ↓reduceIte, Nat.reduceBEq, Nat.reduceEqDiff, Nat.reduceLT, Nat.reduceLeDiff, Nat.reduceAdd, Nat.reduceMul, Nat.reduceSub, reduceCtorEq, Int.reduceLT, Int.reduceLE, Int.reduceEq, Int.reduceBEq, Int.reduceBNe, Int.reduceToNat, Int.reduceAdd, Int.reduceNeg, Int.reduceSub]
theorem ub58 : tbytes tabX 58 ≤ 64 := by simp only [go_sem, ↓reduceIte, Nat.reduceBEq, Nat.reduceEqDiff, Nat.reduceLT, Nat.reduceLeDiff, Nat.reduceAdd, Nat.reduceMul, Nat.reduceSub, reduceCtorEq, Int.reduceLT, Int.reduceLE, Int.reduceEq, Int.reduceBEq, Int.reduceBNe, Int.reduceToNat, Int.reduceAdd, Int.reduceNeg, Int.reduceSub]
theorem uz58 : zeroFits tabX 58 = true := by simp only [go_sem, ↓reduceIte, Nat.reduceBEq, Nat.reduceEqDiff, Nat.reduceLT, Nat.reduceLeDiff, Nat.reduceAdd, Nat.reduceMul, Nat.reduceSub, reduceCtorEq, Int.reduceLT, Int.reduceLE, Int.reduceEq, Int.reduceBEq, Int.reduceBNe, Int.reduceToNat, Int.reduceAdd, Int.reduceNeg, Int.reduceSub]
theorem eSp_all (l : List (Int × Int)) : (l.map eSp).all AV.var = true := by rw [List.all_map]; exact List.all_eq_true.2 fun x _ => rfl
set_option maxRecDepth 100000 in
theorem l15 (d : Ho) (hd : d.fits) (x : Int × Int) (hx : (0 ≤ x.1 ∧ x.1 ≤ 255) ∧ (0 ≤ x.2 ∧ x.2 ≤ 255)) : ∃ h', (EW tabX).call 15 [eH d, .agg [.int .u8 x.1, .int .u8 x.2]] noHeap = some (.bool true, h') := by
  obtain ⟨a, b⟩ := x
  obtain ⟨ha, hb⟩ := hx
  simp only at ha hb
  have eD : eH d = .agg [.int .i64 d.days, .lst 0 d.zr (d.rates.map eSp), .int .i64 d.step, .lst 0 d.za (d.agents.map eAg), .lst 0 d.ze (d.entries.map eEn)] := rfl
  have hcl := eH_clean d
  have h36 := c36 d hd
  have h23 := c23
  rw [noHeap, w_call _ fn_15 rfl]
  simp only [eD] at h36 hcl ⊢
  by_cases h0 : checkE d = 0
  rotate_left
  · have hb : (checkE d == 0) = false := by simpa using h0
    rw [hb] at h36
    refine ⟨?_, ?_⟩
    rotate_left
    · simp only [go_sem, ↓reduceIte, Nat.reduceBEq, Nat.reduceEqDiff, Nat.reduceLT, Nat.reduceLeDiff, Nat.reduceAdd, Nat.reduceMul, Nat.reduceSub, reduceCtorEq, Int.reduceLT, Int.reduceLE, Int.reduceEq, Int.reduceBEq, Int.reduceBNe, Int.reduceToNat, Int.reduceAdd, Int.reduceNeg, Int.reduceSub, h36, h23]
      rfl
  have hb0 : (checkE d == 0) = true := by simpa using h0
  rw [hb0] at h36
  have ho := ok_of_E h0
  have hd1 : 1 ≤ d.days := ho.d1
  have hd3 : d.days ≤ 3 := ho.d3
  have hrd : (d.rates.length : Int) = d.days := ho.rd
  have he5 := ho.e5
  simp (disch := omega) only [go_sem, ↓reduceIte, Nat.reduceBEq, Nat.reduceEqDiff, Nat.reduceLT, Nat.reduceLeDiff, Nat.reduceAdd, Nat.reduceMul, Nat.reduceSub, reduceCtorEq, Int.reduceLT, Int.reduceLE, Int.reduceEq, Int.reduceBEq, Int.reduceBNe, Int.reduceToNat, Int.reduceAdd, Int.reduceNeg, Int.reduceSub, h36, wrap_i64]
  generalize hy : (EW tabX).code 15 none (Code.loop _) _ = y
  refine w_rounds_sk hy (fun k (s : List ABlk × List Bool × Nat × Nat × List AV) => [(6, .int .i64 (d.days - 1 - k))])
    (fun s => ⟨.cells [.int .i64 d.days, .lst 0 d.zr (d.rates.map eSp), .int .i64 d.step, .lst 0 d.za (d.agents.map eAg), .lst 0 d.ze (d.entries.map eEn)] :: .cells [.int .u8 a, .int .u8 b] ::
      .cells [.int .i64 d.days, .lst s.2.2.1 s.2.2.2.1 s.2.2.2.2, .int .i64 d.step, .lst 0 d.za (d.agents.map eAg), .lst 1 0 []] :: s.1, s.2.1⟩)
    (fun k s => s.2.2.2.1 = zT 2 k ∧ s.2.2.2.2 = (d.rates.reverse.take k).map eSp) d.rates.length (.exit 0) (fun _ => [(6, .int .i64 (-1))]) rfl ([], [], 1, 0, []) ?_ ?_ ⟨rfl, rfl⟩ ?_ ?_ ?_
  · simp only [go_sem, ↓reduceIte, Nat.reduceBEq, Nat.reduceEqDiff, Nat.reduceLT, Nat.reduceLeDiff, Nat.reduceAdd, Nat.reduceMul, Nat.reduceSub, reduceCtorEq, Int.reduceLT, Int.reduceLE, Int.reduceEq, Int.reduceBEq, Int.reduceBNe, Int.reduceToNat, Int.reduceAdd, Int.reduceNeg, Int.reduceSub, Int.sub_zero]
  · simp only [go_sem, ↓reduceIte, Nat.reduceBEq, Nat.reduceEqDiff, Nat.reduceLT, Nat.reduceLeDiff, Nat.reduceAdd, Nat.reduceMul, Nat.reduceSub, reduceCtorEq, Int.reduceLT, Int.reduceLE, Int.reduceEq, Int.reduceBEq, Int.reduceBNe, Int.reduceToNat, Int.reduceAdd, Int.reduceNeg, Int.reduceSub]
  · rintro k ⟨E, t, tg, zz, xs⟩ hk ⟨h1, h2⟩
    simp only at h1 h2
    subst h1 h2
    have hk0 : 0 ≤ d.days - 1 - (k : Int) := by omega
    have hkn : ¬ (d.days - 1 - (k : Int) < 0) := by omega
    have hkr : (d.days - 1 - (k : Int)).toNat = d.rates.length - 1 - k := by omega
    obtain ⟨r, hr⟩ : ∃ r, d.rates[d.rates.length - 1 - k]? = some r := ⟨_, List.getElem?_eq_getElem (by omega)⟩
    have hr2 : (d.rates.map eSp)[d.rates.length - 1 - k]? = some (.agg [.int .i64 r.1, .int .i64 r.2]) := by rw [List.getElem?_map, hr]; rfl
    have hzr := hd.zr (by intro e; rw [e] at hk; simp at hk)
    have hrev : d.rates.reverse[k]? = some r := by rw [List.getElem?_reverse hk]; exact hr
    have htk : (d.rates.reverse.take (k + 1)).map eSp = (d.rates.reverse.take k).map eSp ++ [.agg [.int .i64 r.1, .int .i64 r.2]] := by
      rw [List.take_add_one, hrev, List.map_append]; rfl
    have hlen : ((d.rates.reverse.take k).map eSp).length ≤ 3 := by simp; omega
    have hz2 : zT 2 k = 2 ∨ ((d.rates.reverse.take k).map eSp).length = 0 := by
      cases k with
      | zero => right; simp
      | succ k => left; rfl
    have hval := eSp_all (d.rates.reverse.take k)
    have hun := fun n => eSp_under n (d.rates.reverse.take k)
    have hk1 : d.days - 1 - (k : Int) - 1 = d.days - 1 - ((k : Int) + 1) := by omega
    have hw1 : IntKind.i64.wrap (d.days - 1 - ((k : Int) + 1)) = d.days - 1 - ((k : Int) + 1) := wrap_i64 ⟨by omega, by omega⟩
    rw [htk]
    generalize (d.rates.reverse.take k).map eSp = xs at *
    have a1 := fun B M => apA u22 u35 ub35 uz35 (by decide) B t M 3 tg (zT 2 k) xs hz2 (by omega) hval
    have a2 := fun B M h => apB u22 u35 ub35 uz35 (by decide) B t M 3 10 1 xs [.agg [.int .i64 r.1, .int .i64 r.2]] h (by simp; omega) rfl
    obtain ⟨N13, hN13⟩ : ∃ N, N = List.replicate 13 ABlk.none := ⟨_, rfl⟩
    refine ⟨(E ++ N13, t ++ [false, false, false, false, false, false, false, false, false, false, true, false, false], t.length + 10 + 2, 2, xs ++ [.agg [.int .i64 r.1, .int .i64 r.2]]), ?_, rfl, rfl⟩
    simp (disch := omega) only [go_sem, ↓reduceIte, Nat.reduceBEq, Nat.reduceEqDiff, Nat.reduceLT, Nat.reduceLeDiff, Nat.reduceAdd, Nat.reduceMul, Nat.reduceSub, reduceCtorEq, Int.reduceLT, Int.reduceLE, Int.reduceEq, Int.reduceBEq, Int.reduceBNe, Int.reduceToNat, Int.reduceAdd, Int.reduceNeg, Int.reduceSub, hk0, hkn]
    generalize hcf : drawT _ _ _ = cf
    obtain rfl : cf = true := by rw [← hcf]; kernel_rfl
    generalize hN : List.replicate _ ABlk.none = N
    obtain rfl : N = N13 := by rw [← hN, hN13]; rfl
    generalize hM : List.replicate _ false = M
    obtain rfl : M = [false, false, false, false, false, false, false, false, false, false, false, false, false] := by rw [← hM]; rfl
    have a1 := fun B => a1 B [false, false, false, false, false, false, false, false, false, false, false, false, false]
    have a2 := fun B => a2 B [false, false, false, false, false, false, false, false, false, false, false, false, false] (by decide)
    simp only [go_sem, ↓reduceIte, Nat.reduceBEq, Nat.reduceEqDiff, Nat.reduceLT, Nat.reduceLeDiff, Nat.reduceAdd, Nat.reduceMul, Nat.reduceSub, reduceCtorEq, Int.reduceLT, Int.reduceLE, Int.reduceEq, Int.reduceBEq, Int.reduceBNe, Int.reduceToNat, Int.reduceAdd, Int.reduceNeg, Int.reduceSub, Nat.add_lt_add_iff_left, Nat.reduceLT] at a1 a2
    simp (disch := omega) only [go_sem, ↓reduceIte, Nat.reduceBEq, Nat.reduceEqDiff, Nat.reduceLT, Nat.reduceLeDiff, Nat.reduceAdd, Nat.reduceMul, Nat.reduceSub, reduceCtorEq, Int.reduceLT, Int.reduceLE, Int.reduceEq, Int.reduceBEq, Int.reduceBNe, Int.reduceToNat, Int.reduceAdd, Int.reduceNeg, Int.reduceSub, hk0, hkn, hkr, hr2, hzr, a1, a2, hun, hk1, hw1, Nat.add_lt_add_iff_left, Nat.reduceLT]
  · rintro ⟨E, t, tg, zz, xs⟩ ⟨h1, h2⟩
    have hkn : ¬ (0 ≤ d.days - 1 - (d.rates.length : Int)) := by omega
    have e1 : d.days - 1 - (d.rates.length : Int) = -1 := by omega
    simp only [go_sem, ↓reduceIte, Nat.reduceBEq, Nat.reduceEqDiff, Nat.reduceLT, Nat.reduceLeDiff, Nat.reduceAdd, Nat.reduceMul, Nat.reduceSub, reduceCtorEq, Int.reduceLT, Int.reduceLE, Int.reduceEq, Int.reduceBEq, Int.reduceBNe, Int.reduceToNat, Int.reduceAdd, Int.reduceNeg, Int.reduceSub, e1]
  · rintro ⟨E, t, tg, zz, xs⟩ hs ⟨h1, h2⟩
    simp only at h1 h2
    subst h1 h2
    subst hs
    rw [List.take_of_length_le (by simp)]
    simp (disch := omega) only [go_sem, ↓reduceIte, Nat.reduceBEq, Nat.reduceEqDiff, Nat.reduceLT, Nat.reduceLeDiff, Nat.reduceAdd, Nat.reduceMul, Nat.reduceSub, reduceCtorEq, Int.reduceLT, Int.reduceLE, Int.reduceEq, Int.reduceBEq, Int.reduceBNe, Int.reduceToNat, Int.reduceAdd, Int.reduceNeg, Int.reduceSub, wrap_i64]
    generalize hy : (EW tabX).code 15 none (Code.loop _) _ = y
    refine w_rounds_sk hy (fun k (s : List ABlk × List Bool × Nat × Nat × List AV) => [(7, .int .i64 k)])
      (fun s => ⟨.cells [.int .i64 d.days, .lst 0 d.zr (d.rates.map eSp), .int .i64 d.step, .lst 0 d.za (d.agents.map eAg), .lst 0 d.ze (d.entries.map eEn)] :: .cells [.int .u8 a, .int .u8 b] ::
        .cells [.int .i64 d.days, .lst tg (zT 2 d.rates.length) (d.rates.reverse.map eSp), .int .i64 d.step, .lst 0 d.za (d.agents.map eAg), .lst s.2.2.1 s.2.2.2.1 s.2.2.2.2] :: s.1, s.2.1⟩)
      (fun k s => s.2.2.2.1 = zT 4 k ∧ s.2.2.2.2 = ((d.entries.take k).map (turnE d)).map eEn) d.entries.length (.exit 2) (fun _ => [(7, .int .i64 d.entries.length)]) rfl (E, t, 1, 0, []) ?_ ?_ ⟨rfl, rfl⟩ ?_ ?_ ?_
    · simp only [go_sem, ↓reduceIte, Nat.reduceBEq, Nat.reduceEqDiff, Nat.reduceLT, Nat.reduceLeDiff, Nat.reduceAdd, Nat.reduceMul, Nat.reduceSub, reduceCtorEq, Int.reduceLT, Int.reduceLE, Int.reduceEq, Int.reduceBEq, Int.reduceBNe, Int.reduceToNat, Int.reduceAdd, Int.reduceNeg, Int.reduceSub]
    · simp only [go_sem, ↓reduceIte, Nat.reduceBEq, Nat.reduceEqDiff, Nat.reduceLT, Nat.reduceLeDiff, Nat.reduceAdd, Nat.reduceMul, Nat.reduceSub, reduceCtorEq, Int.reduceLT, Int.reduceLE, Int.reduceEq, Int.reduceBEq, Int.reduceBNe, Int.reduceToNat, Int.reduceAdd, Int.reduceNeg, Int.reduceSub]
    · rintro k ⟨E, t, tg2, zz, xs⟩ hk ⟨h1, h2⟩
      simp only at h1 h2
      subst h1 h2
      obtain ⟨r, hr⟩ : ∃ r, d.entries[k]? = some r := ⟨_, List.getElem?_eq_getElem hk⟩
      have hr2 : (d.entries.map eEn)[k]? = some (.agg [.int .i64 r.agent, .int .i64 r.day, .int .i64 r.near, .int .i64 r.far]) := by rw [List.getElem?_map, hr]; rfl
      obtain ⟨a1, a2, a3, a4, a5, a6, a7, a8⟩ := ho.en r (List.mem_of_getElem? hr)
      have hze := hd.ze (by intro e; rw [e] at hk; simp at hk)
      have htk : ((d.entries.take (k + 1)).map (turnE d)).map eEn = ((d.entries.take k).map (turnE d)).map eEn ++ [.agg [.int .i64 r.agent, .int .i64 (d.days - 1 - r.day), .int .i64 r.near, .int .i64 r.far]] := by
        rw [List.take_add_one, hr, List.map_append, List.map_append]; rfl
      have hlen : (((d.entries.take k).map (turnE d)).map eEn).length ≤ 5 := by simp; omega
      have hz2 : zT 4 k = 4 ∨ (((d.entries.take k).map (turnE d)).map eEn).length = 0 := by
        cases k with
        | zero => right; simp
        | succ k => left; rfl
      have hval := eEn_var ((d.entries.take k).map (turnE d))
      have hun := fun n => eEn_under n ((d.entries.take k).map (turnE d))
      have hw1 : IntKind.i64.wrap (d.days - 1 - r.day) = d.days - 1 - r.day := wrap_i64 ⟨by omega, by omega⟩
      have hw2 : IntKind.i64.wrap (d.days - 1) = d.days - 1 := wrap_i64 ⟨by omega, by omega⟩
      have hw3 : IntKind.i64.wrap ((k : Int) + 1) = (k : Int) + 1 := wrap_i64 ⟨by omega, by omega⟩
      have hkl : (k : Int) < d.entries.length := by omega
      rw [htk]
      generalize ((d.entries.take k).map (turnE d)).map eEn = xs at *
      have a1 := fun B M => apA u24 u58 ub58 uz58 (by decide) B t M 3 tg2 (zT 4 k) xs hz2 (by omega) hval
      have a2 := fun B M h => apB u24 u58 ub58 uz58 (by decide) B t M 3 6 1 xs [.agg [.int .i64 r.agent, .int .i64 (d.days - 1 - r.day), .int .i64 r.near, .int .i64 r.far]] h (by simp; omega) rfl
      obtain ⟨N9, hN9⟩ : ∃ N, N = List.replicate 9 ABlk.none := ⟨_, rfl⟩
      refine ⟨(E ++ (.cells [.int .i64 r.agent, .int .i64 (d.days - 1 - r.day), .int .i64 r.near, .int .i64 r.far] :: N9), t ++ [false, false, false, false, false, false, true, false, false], t.length + 6 + 2, 4, xs ++ [.agg [.int .i64 r.agent, .int .i64 (d.days - 1 - r.day), .int .i64 r.near, .int .i64 r.far]]), ?_, rfl, rfl⟩
      simp only [go_sem, ↓reduceIte, Nat.reduceBEq, Nat.reduceEqDiff, Nat.reduceLT, Nat.reduceLeDiff, Nat.reduceAdd, Nat.reduceMul, Nat.reduceSub, reduceCtorEq, Int.reduceLT, Int.reduceLE, Int.reduceEq, Int.reduceBEq, Int.reduceBNe, Int.reduceToNat, Int.reduceAdd, Int.reduceNeg, Int.reduceSub, hkl, hr2, hze, hw1, hw2, hw3]
      generalize hcf : drawT _ _ _ = cf
      obtain rfl : cf = true := by rw [← hcf]; kernel_rfl
      generalize hN : List.replicate _ ABlk.none = N
      obtain rfl : N = N9 := by rw [← hN, hN9]; rfl
      generalize hM : List.replicate _ false = M
      obtain rfl : M = [false, false, false, false, false, false, false, false, false] := by rw [← hM]; rfl
      have a1 := fun B => a1 B [false, false, false, false, false, false, false, false, false]
      have a2 := fun B => a2 B [false, false, false, false, false, false, false, false, false] (by decide)
      simp only [go_sem, ↓reduceIte, Nat.reduceBEq, Nat.reduceEqDiff, Nat.reduceLT, Nat.reduceLeDiff, Nat.reduceAdd, Nat.reduceMul, Nat.reduceSub, reduceCtorEq, Int.reduceLT, Int.reduceLE, Int.reduceEq, Int.reduceBEq, Int.reduceBNe, Int.reduceToNat, Int.reduceAdd, Int.reduceNeg, Int.reduceSub, Nat.add_lt_add_iff_left, Nat.reduceLT] at a1 a2
      simp only [go_sem, ↓reduceIte, Nat.reduceBEq, Nat.reduceEqDiff, Nat.reduceLT, Nat.reduceLeDiff, Nat.reduceAdd, Nat.reduceMul, Nat.reduceSub, reduceCtorEq, Int.reduceLT, Int.reduceLE, Int.reduceEq, Int.reduceBEq, Int.reduceBNe, Int.reduceToNat, Int.reduceAdd, Int.reduceNeg, Int.reduceSub, hkl, hr2, hze, hw1, hw2, hw3, a1, a2, hun, Nat.add_lt_add_iff_left, Nat.reduceLT]
    · rintro ⟨E, t, tg, zz, xs⟩ ⟨h1, h2⟩
      simp only [go_sem, ↓reduceIte, Nat.reduceBEq, Nat.reduceEqDiff, Nat.reduceLT, Nat.reduceLeDiff, Nat.reduceAdd, Nat.reduceMul, Nat.reduceSub, reduceCtorEq, Int.reduceLT, Int.reduceLE, Int.reduceEq, Int.reduceBEq, Int.reduceBNe, Int.reduceToNat, Int.reduceAdd, Int.reduceNeg, Int.reduceSub]
    · rintro ⟨E2, t2, tg2, zz, xs⟩ hs ⟨h1, h2⟩
      simp only at h1 h2
      subst h1 h2
      subst hs
      rw [List.take_length]
      have hdz : d.days ≠ 0 := by omega
      have t3 : a.tmod d.days = a % d.days := Int.tmod_eq_emod_of_nonneg ha.1
      have hdy : 0 ≤ a % d.days ∧ a % d.days < d.days := ⟨Int.emod_nonneg _ (by omega), Int.emod_lt_of_pos _ (by omega)⟩
      generalize a % d.days = day at t3 hdy
      have eZ : eH d.turned = .agg [.int .i64 d.days, .lst 0 (zT 2 d.rates.length) (d.rates.reverse.map eSp), .int .i64 d.step, .lst 0 d.za (d.agents.map eAg), .lst 0 (zT 4 d.entries.length) ((d.entries.map (turnE d)).map eEn)] := rfl
      have q1 := c21 d hd day
      have q2 := c21 d.turned (fits_turned hd) (d.days - 1 - day)
      rw [rate_rev ho hdy] at q2
      have q3 := c30 d hd
      have q4 := c30 d.turned (fits_turned hd)
      have hw : wrongV d.turned = wrongV d := by
        unfold wrongV
        rw [if_pos (checkE_ok ho.turned), if_pos h0, wrong_rev ho]
      rw [hw] at q4
      have q5 := c18 d hd
      have q6 := c18 d.turned (fits_turned hd)
      have hf := first_rev ho
      have q7 := vI_same (wrongV d).1 (wrongV_len d)
      have k1 := eSp_clean d.rates.reverse
      have k2 := eEn_clean (d.entries.map (turnE d))
      have k3 := eSp_clean d.rates
      have k4 := eEn_clean d.entries
      have k5 := cleanL_map (e := eAg) (fun x => by simp only [eAg, go_sem, ↓reduceIte, Nat.reduceBEq, Nat.reduceEqDiff, Nat.reduceLT, Nat.reduceLeDiff, Nat.reduceAdd, Nat.reduceMul, Nat.reduceSub, reduceCtorEq, Int.reduceLT, Int.reduceLE, Int.reduceEq, Int.reduceBEq, Int.reduceBNe, Int.reduceToNat, Int.reduceAdd, Int.reduceNeg, Int.reduceSub]) d.agents
      have hw2 : IntKind.i64.wrap (d.days - 1) = d.days - 1 := wrap_i64 ⟨by omega, by omega⟩
      have hw3 : IntKind.i64.wrap (d.days - 1 - day) = d.days - 1 - day := wrap_i64 ⟨by omega, by omega⟩
      have q8 := fun who => c26 d hd who
      have q9 := fun who => c26 d.turned (fits_turned hd) who
      simp only [paid_rev ho] at q9
      generalize rateV d day = rv at *
      generalize wrongV d = wv at *
      generalize firstV d = fd at *
      generalize firstV d.turned = fz at *
      obtain ⟨fz1, fz2⟩ := fz
      obtain ⟨fd1, fd2⟩ := fd
      simp only at hf
      subst hf
      simp only [eD, eZ, vS, eSp, vL, v3] at q1 q2 q3 q4 q5 q6 q8 q9
      by_cases hag : d.agents.length = 0
      · have hal : ((d.agents.length : Int) == 0) = true := by rw [hag]; rfl
        refine ⟨?_, ?_⟩
        rotate_left
        · simp (disch := omega) only [go_sem, ↓reduceIte, Nat.reduceBEq, Nat.reduceEqDiff, Nat.reduceLT, Nat.reduceLeDiff, Nat.reduceAdd, Nat.reduceMul, Nat.reduceSub, reduceCtorEq, Int.reduceLT, Int.reduceLE, Int.reduceEq, Int.reduceBEq, Int.reduceBNe, Int.reduceToNat, Int.reduceAdd, Int.reduceNeg, Int.reduceSub, t3, hdz, hw2, hw3, q1, q2, q3, q4, q5, q6, q7, h23, ne_same, vI_clean, vI_under, k1, k2, k3, k4, k5, hal, aggBin, eqCells2, decide_true, Bool.not_true, wrap_i64]
          rfl
      · have hal : ((d.agents.length : Int) == 0) = false := by simpa using hag
        have hla := ho.a3
        have hlz : (d.agents.length : Int) ≠ 0 := by omega
        have t4 : b.tmod d.agents.length = b % d.agents.length := Int.tmod_eq_emod_of_nonneg hb.1
        have hwr := Int.emod_lt_of_pos b (show 0 < (d.agents.length : Int) by omega)
        have hwl := Int.emod_nonneg b hlz
        generalize b % (d.agents.length : Int) = who at t4 hwr hwl
        have q8 := q8 who
        have q9 := q9 who
        generalize paidV d who = pv at *
        refine ⟨?_, ?_⟩
        rotate_left
        · simp (disch := omega) only [go_sem, ↓reduceIte, Nat.reduceBEq, Nat.reduceEqDiff, Nat.reduceLT, Nat.reduceLeDiff, Nat.reduceAdd, Nat.reduceMul, Nat.reduceSub, reduceCtorEq, Int.reduceLT, Int.reduceLE, Int.reduceEq, Int.reduceBEq, Int.reduceBNe, Int.reduceToNat, Int.reduceAdd, Int.reduceNeg, Int.reduceSub, t3, t4, hdz, hlz, hw2, hw3, q1, q2, q3, q4, q5, q6, q7, q8, q9, h23, ne_same, vI_clean, vI_under, k1, k2, k3, k4, k5, hal, aggBin, eqCells2, decide_true, Bool.not_true, wrap_i64]
          rfl
end Go.Proofs.Ytaohhjaogjcfoaa
