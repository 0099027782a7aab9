/- The body of RateMore. Conditions: those of each law. -/
import Derived.Test.YtaohhjaogjcfoaaQ19
set_option linter.unusedSimpArgs false
set_option linter.unusedVariables false
namespace Go.Proofs.Ytaohhjaogjcfoaa
open Go.Proofs

theorem t24 : trow tabX 24 = .slice 58 := by simp only [go_sem, ↓reduceIte, Nat.reduceBEq, Nat.reduceEqDiff, Nat.reduceLT, Nat.reduceLeDiff, Nat.reduceAdd, Nat.reduceMul, Nat.reduceSub, reduceCtorEq, Int.reduceLT, Int.reduceLE, Int.reduceEq, Int.reduceBEq, Int.reduceBNe, Int.reduceToNat, Int.reduceAdd, Int.reduceNeg, Int.reduceSub]
theorem s58 : tsz tabX 58 = 4 := by simp only [go_sem, ↓reduceIte, Nat.reduceBEq, Nat.reduceEqDiff, Nat.reduceLT, Nat.reduceLeDiff, Nat.reduceAdd, Nat.reduceMul, Nat.reduceSub, reduceCtorEq, Int.reduceLT, Int.reduceLE, Int.reduceEq, Int.reduceBEq, Int.reduceBNe, Int.reduceToNat, Int.reduceAdd, Int.reduceNeg, Int.reduceSub]
theorem b58 : tbytes tabX 58 = 32 := by simp only [go_sem, ↓reduceIte, Nat.reduceBEq, Nat.reduceEqDiff, Nat.reduceLT, Nat.reduceLeDiff, Nat.reduceAdd, Nat.reduceMul, Nat.reduceSub, reduceCtorEq, Int.reduceLT, Int.reduceLE, Int.reduceEq, Int.reduceBEq, Int.reduceBNe, Int.reduceToNat, Int.reduceAdd, Int.reduceNeg, Int.reduceSub]
theorem z58 : zeroFits tabX 58 = true := by simp only [go_sem, ↓reduceIte, Nat.reduceBEq, Nat.reduceEqDiff, Nat.reduceLT, Nat.reduceLeDiff, Nat.reduceAdd, Nat.reduceMul, Nat.reduceSub, reduceCtorEq, Int.reduceLT, Int.reduceLE, Int.reduceEq, Int.reduceBEq, Int.reduceBNe, Int.reduceToNat, Int.reduceAdd, Int.reduceNeg, Int.reduceSub]
theorem app1 (p u z : Nat) (B : List ABlk) (t : List Bool) (xs ys : List AV) (hz : z = 4 ∨ ys.length = 0) (hl : xs.length + ys.length ≤ 4398046511104) (hv : ys.all AV.var = true) :
    appendAV tabX 24 p ⟨B, t⟩ (.lst 1 4 xs) (.lst u z ys) = some (.lst (p + 2) 4 (xs ++ ys), ⟨B, lset t p true⟩) := by
  have hc : (z = 4 ∨ ys.length = 0) ∧ 0 < 4 ∧ (xs.length + ys.length) * 32 ≤ appLimit ∧ xs.length + ys.length ≤ appLimit ∧ zeroFits tabX 58 = true ∧ ys.all AV.var = true := ⟨hz, by decide, by unfold appLimit; omega, by unfold appLimit; omega, z58, hv⟩
  unfold appendAV
  simp only [t24, s58, b58]
  rw [if_pos hc]
  simp only [true_or, if_true]
theorem app2 (p u z k : Nat) (B : List ABlk) (t : List Bool) (xs ys : List AV) (hk : t[k]? = some true) (hz : z = 4 ∨ ys.length = 0) (hl : xs.length + ys.length ≤ 4398046511104) (hv : ys.all AV.var = true) :
    appendAV tabX 24 p ⟨B, t⟩ (.lst (k + 2) 4 xs) (.lst u z ys) = some (.lst (p + 2) 4 (xs ++ ys), ⟨B, lset (t.set k false) p true⟩) := by
  have hc : (z = 4 ∨ ys.length = 0) ∧ 0 < 4 ∧ (xs.length + ys.length) * 32 ≤ appLimit ∧ xs.length + ys.length ≤ appLimit ∧ zeroFits tabX 58 = true ∧ ys.all AV.var = true := ⟨hz, by decide, by unfold appLimit; omega, by unfold appLimit; omega, z58, hv⟩
  unfold appendAV
  simp only [t24, s58, b58]
  rw [if_pos hc]
  simp only [if_true, hk]
theorem firstV_ok {d : Ho} (ho : d.Ok) : (firstV d).2 = (((truthsL d []).length : Int), if truthsL d [] = [] then 8 else 0) := by
  unfold firstV knownE
  rw [checkE_ok ho, if_pos rfl]
  by_cases h : truthsL d [] = []
  · rw [if_pos h, if_neg (by decide), h]; rfl
  · rw [if_neg h, if_pos rfl]
theorem rateV_ok {d : Ho} (ho : d.Ok) (hne : truthsL d [] ≠ []) {k : Nat} (hk : (k : Int) < d.days) : rateV d k = (foldS (fun r => r.getD k 0) (truthsL d []), 0) := by
  unfold rateV knownE indexE
  have : inR (k : Int) 0 (d.days - 1) = true := by simp [inR]; omega
  rw [if_pos (checkE_ok ho), if_pos this, if_pos rfl, if_neg hne, if_pos rfl]
  rfl
theorem l10 (d : Ho) (hd2 : d.fits ∧ d.entries.length < 4398046511104) (x : En) {Q : Prop} (_ : Q) : ∃ h', (EW tabX).call 10 [eH d, eEn x] noHeap = some (.bool true, h') := by
  obtain ⟨hd, hsm⟩ := hd2
  have hfm := fits_more hd x hsm
  have h36 := c36 d hd
  have h36m := c36 (d.more x) hfm
  have h18 := c18 d hd
  have h18m := c18 (d.more x) hfm
  have h30 := c30 d hd
  have h30m := c30 (d.more x) hfm
  have h21 := c21 d hd
  have h21m := c21 (d.more x) hfm
  have h23 := c23
  have hcl := eH_clean d
  have eD : eH d = .agg [.int .i64 d.days, .lst 0 d.zr (d.rates.map eSp), .int .i64 d.step, .lst 0 d.za (d.agents.map eAg), .lst 0 d.ze (d.entries.map eEn)] := rfl
  have eM : eH (d.more x) = .agg [.int .i64 d.days, .lst 0 d.zr (d.rates.map eSp), .int .i64 d.step, .lst 0 d.za (d.agents.map eAg), .lst 0 4 (d.entries.map eEn ++ [eEn x])] := by
    show AV.agg [_, _, _, _, .lst 0 4 ((d.entries ++ [x]).map eEn)] = _
    simp [Ho.more]
  rw [noHeap, w_call _ fn_10 rfl]
  simp only [eD, eM] at h36 h36m h18 h18m h30 h30m h21 h21m hcl ⊢
  simp only [go_sem, ↓reduceIte, Nat.reduceBEq, Nat.reduceEqDiff, Nat.reduceLT, Nat.reduceLeDiff, Nat.reduceAdd, Nat.reduceMul, Nat.reduceSub, reduceCtorEq, Int.reduceLT, Int.reduceLE, Int.reduceEq, Int.reduceBEq, Int.reduceBNe, Int.reduceToNat, Int.reduceAdd, Int.reduceNeg, Int.reduceSub, eEn]
  generalize hcf : drawT _ _ _ = cf
  obtain rfl : cf = true := by rw [← hcf]; kernel_rfl
  generalize hN : List.replicate _ ABlk.none = N
  generalize hM : List.replicate _ false = M
  obtain rfl : M = [false, false, false, false, false, false, false, false, false] := by rw [← hM]; rfl
  have hze : d.ze = 4 ∨ (d.entries.map eEn).length = 0 := by
    by_cases he : d.entries = []
    · right; rw [he]; rfl
    · left; exact hd.ze he
  have a1 := fun B => app1 3 0 d.ze B (List.replicate 9 false) [] (d.entries.map eEn) hze (by simp; omega) (eEn_var _)
  have a2 := fun B => app2 6 1 4 3 B (lset (List.replicate 9 false) 3 true) (d.entries.map eEn) [eEn x] rfl (.inl rfl) (by simp; omega) rfl
  have u1 := fun n => eEn_under n d.entries
  have u2 := eEn_clean d.entries
  have u3 := eEn_var d.entries
  have p1 := fun n => eEn_under n (d.entries ++ [x])
  have p2 := eEn_clean (d.entries ++ [x])
  have p3 := eEn_var (d.entries ++ [x])
  rw [List.map_append, List.map_cons, List.map_nil] at p2 p3
  simp only [List.map_append, List.map_cons, List.map_nil] at p1
  simp only [go_sem, ↓reduceIte, Nat.reduceBEq, Nat.reduceEqDiff, Nat.reduceLT, Nat.reduceLeDiff, Nat.reduceAdd, Nat.reduceMul, Nat.reduceSub, reduceCtorEq, Int.reduceLT, Int.reduceLE, Int.reduceEq, Int.reduceBEq, Int.reduceBNe, Int.reduceToNat, Int.reduceAdd, Int.reduceNeg, Int.reduceSub] at a1 a2
  simp only [eEn] at a2 p1 p2 p3 h36m h18m h30m h21m ⊢
  generalize List.map eEn d.entries ++ [AV.agg [.int .i64 x.agent, .int .i64 x.day, .int .i64 x.near, .int .i64 x.far]] = em at *
  generalize List.map eEn d.entries = es at *
  by_cases h0 : checkE d = 0
  rotate_left
  · have hb : (checkE d == 0) = false := by simpa using h0
    rw [hb] at h36
    refine ⟨?_, ?_⟩
    rotate_left
    · simp only [go_sem, ↓reduceIte, Nat.reduceBEq, Nat.reduceEqDiff, Nat.reduceLT, Nat.reduceLeDiff, Nat.reduceAdd, Nat.reduceMul, Nat.reduceSub, reduceCtorEq, Int.reduceLT, Int.reduceLE, Int.reduceEq, Int.reduceBEq, Int.reduceBNe, Int.reduceToNat, Int.reduceAdd, Int.reduceNeg, Int.reduceSub, eEn, a1, a2, u1, u2, u3, p1, p2, p3, h36, h23]
      rfl
  have hb : (checkE d == 0) = true := by simpa using h0
  rw [hb] at h36
  by_cases h1 : checkE (d.more x) = 0
  rotate_left
  · have hb1 : (checkE (d.more x) == 0) = false := by simpa using h1
    rw [hb1] at h36m
    refine ⟨?_, ?_⟩
    rotate_left
    · simp only [go_sem, ↓reduceIte, Nat.reduceBEq, Nat.reduceEqDiff, Nat.reduceLT, Nat.reduceLeDiff, Nat.reduceAdd, Nat.reduceMul, Nat.reduceSub, reduceCtorEq, Int.reduceLT, Int.reduceLE, Int.reduceEq, Int.reduceBEq, Int.reduceBNe, Int.reduceToNat, Int.reduceAdd, Int.reduceNeg, Int.reduceSub, eEn, a1, a2, u1, u2, u3, p1, p2, p3, h36, h36m, h23]
      rfl
  have hb1 : (checkE (d.more x) == 0) = true := by simpa using h1
  rw [hb1] at h36m
  have ho := ok_of_E h0
  have hm := ok_of_E h1
  have hrd := ho.rd
  have hd3 := ho.d3
  obtain ⟨w1, w2⟩ := wrong_more ho hm
  unfold wrongV at h30 h30m
  rw [if_pos h0] at h30
  rw [if_pos h1] at h30m
  have f1 := firstV_ok ho
  have f2 := firstV_ok hm
  have hsub : ∀ r ∈ truthsL (d.more x) [], r ∈ truthsL d [] := fun r hr => by
    rw [more_nil] at hr; exact (List.mem_filter.1 hr).1
  have hlen : (truthsL (d.more x) []).length ≤ (truthsL d []).length := by rw [more_nil]; exact List.length_filter_le _ _
  have r1 := fun (k : Nat) (hne : truthsL d [] ≠ []) (hk : (k : Int) < d.days) => rateV_ok ho hne hk
  have r2 := fun (k : Nat) (hne : truthsL (d.more x) [] ≠ []) (hk : (k : Int) < d.days) => rateV_ok hm hne hk
  generalize wrongR d = wd at *
  generalize wrongR (d.more x) = wm at *
  obtain ⟨l, g⟩ := wd
  obtain ⟨k, i⟩ := wm
  simp only at w1 w2
  subst w1
  have w2' : ¬ ((k.length : Int) < l.length) := by omega
  generalize firstV d = fd at *
  generalize firstV (d.more x) = fm at *
  obtain ⟨fd1, fd2, fd3⟩ := fd
  obtain ⟨fm1, fm2, fm3⟩ := fm
  obtain ⟨rfl, rfl⟩ := Prod.mk.inj f1
  obtain ⟨rfl, rfl⟩ := Prod.mk.inj f2
  have hlen' : ¬ ((truthsL (d.more x) []).length : Int) > (truthsL d []).length := by omega
  have hlen2 : ¬ ((truthsL d []).length : Int) < (truthsL (d.more x) []).length := by omega
  simp only [vL, vI, v3] at h18 h18m h30 h30m
  by_cases t1 : truthsL d [] = []
  · have t2 : truthsL (d.more x) [] = [] := List.eq_nil_iff_forall_not_mem.2 fun r hr => by have := hsub r hr; rw [t1] at this; cases this
    rw [if_pos t1] at h18
    rw [if_pos t2] at h18m
    refine ⟨?_, ?_⟩
    rotate_left
    · simp only [go_sem, ↓reduceIte, Nat.reduceBEq, Nat.reduceEqDiff, Nat.reduceLT, Nat.reduceLeDiff, Nat.reduceAdd, Nat.reduceMul, Nat.reduceSub, reduceCtorEq, Int.reduceLT, Int.reduceLE, Int.reduceEq, Int.reduceBEq, Int.reduceBNe, Int.reduceToNat, Int.reduceAdd, Int.reduceNeg, Int.reduceSub, eEn, a1, a2, u1, u2, u3, p1, p2, p3, h36, h36m, h18, h18m, h30, h30m, h23, ne_same, w2', hlen', hlen2]
      rfl
  rw [if_neg t1] at h18
  by_cases t2 : truthsL (d.more x) [] = []
  · rw [if_pos t2] at h18m
    refine ⟨?_, ?_⟩
    rotate_left
    · simp only [go_sem, ↓reduceIte, Nat.reduceBEq, Nat.reduceEqDiff, Nat.reduceLT, Nat.reduceLeDiff, Nat.reduceAdd, Nat.reduceMul, Nat.reduceSub, reduceCtorEq, Int.reduceLT, Int.reduceLE, Int.reduceEq, Int.reduceBEq, Int.reduceBNe, Int.reduceToNat, Int.reduceAdd, Int.reduceNeg, Int.reduceSub, eEn, a1, a2, u1, u2, u3, p1, p2, p3, h36, h36m, h18, h18m, h30, h30m, h23, ne_same, w2', hlen', hlen2]
      rfl
  rw [if_neg t2] at h18m
  simp only [go_sem, ↓reduceIte, Nat.reduceBEq, Nat.reduceEqDiff, Nat.reduceLT, Nat.reduceLeDiff, Nat.reduceAdd, Nat.reduceMul, Nat.reduceSub, reduceCtorEq, Int.reduceLT, Int.reduceLE, Int.reduceEq, Int.reduceBEq, Int.reduceBNe, Int.reduceToNat, Int.reduceAdd, Int.reduceNeg, Int.reduceSub, eEn, a1, a2, u1, u2, u3, p1, p2, p3, h36, h36m, h18, h18m, h30, h30m, h23, ne_same, w2', hlen', hlen2]
  generalize hy : (EW tabX).code 10 none (Code.loop _) _ = y
  refine w_rounds_sk hy (fun k (s : List ABlk) => [(16, .int .i64 k)]) (fun s => ⟨.cells [.int .i64 d.days, .lst 0 d.zr (d.rates.map eSp), .int .i64 d.step, .lst 0 d.za (d.agents.map eAg), .lst 0 d.ze es] :: .cells [.int .i64 x.agent, .int .i64 x.day, .int .i64 x.near, .int .i64 x.far] ::
    .cells [.int .i64 d.days, .lst 0 d.zr (d.rates.map eSp), .int .i64 d.step, .lst 0 d.za (d.agents.map eAg), .lst 8 4 em] :: (N ++ s), [false, false, false, false, false, false, true, false, false]⟩) (fun _ _ => True) d.rates.length (.exit 0) (fun _ => [(16, .int .i64 d.days)]) rfl [] ?_ ?_ trivial ?_ ?_ ?_
  · simp only [go_sem, ↓reduceIte, Nat.reduceBEq, Nat.reduceEqDiff, Nat.reduceLT, Nat.reduceLeDiff, Nat.reduceAdd, Nat.reduceMul, Nat.reduceSub, reduceCtorEq, Int.reduceLT, Int.reduceLE, Int.reduceEq, Int.reduceBEq, Int.reduceBNe, Int.reduceToNat, Int.reduceAdd, Int.reduceNeg, Int.reduceSub]
  · simp only [go_sem, ↓reduceIte, Nat.reduceBEq, Nat.reduceEqDiff, Nat.reduceLT, Nat.reduceLeDiff, Nat.reduceAdd, Nat.reduceMul, Nat.reduceSub, reduceCtorEq, Int.reduceLT, Int.reduceLE, Int.reduceEq, Int.reduceBEq, Int.reduceBNe, Int.reduceToNat, Int.reduceAdd, Int.reduceNeg, Int.reduceSub]
  · intro k s hk _
    have hkd : (k : Int) < d.days := by omega
    have q1 := h21 k
    have q2 := h21m k
    rw [r1 k t1 hkd] at q1
    rw [r2 k t2 hkd] at q2
    have q3 := c43 (foldS (fun r => r.getD k 0) (truthsL (d.more x) [])) (foldS (fun r => r.getD k 0) (truthsL d []))
    rw [foldS_sub _ t2 hsub] at q3
    generalize foldS (fun r => r.getD k 0) (truthsL (d.more x) []) = sm at q2 q3
    generalize foldS (fun r => r.getD k 0) (truthsL d []) = sd at q1 q3
    obtain ⟨sm1, sm2⟩ := sm
    obtain ⟨sd1, sd2⟩ := sd
    simp only [vS, eSp] at q1 q2 q3
    refine ⟨s ++ [.cells [.int .i64 sd1, .int .i64 sd2], .cells [.int .i64 sm1, .int .i64 sm2]], ?_, trivial⟩
    simp (disch := omega) only [go_sem, ↓reduceIte, Nat.reduceBEq, Nat.reduceEqDiff, Nat.reduceLT, Nat.reduceLeDiff, Nat.reduceAdd, Nat.reduceMul, Nat.reduceSub, reduceCtorEq, Int.reduceLT, Int.reduceLE, Int.reduceEq, Int.reduceBEq, Int.reduceBNe, Int.reduceToNat, Int.reduceAdd, Int.reduceNeg, Int.reduceSub, hkd, u1, u2, u3, p1, p2, p3, q1, q2, q3, wrap_i64]
    skip
  · intro s _
    simp only [go_sem, ↓reduceIte, Nat.reduceBEq, Nat.reduceEqDiff, Nat.reduceLT, Nat.reduceLeDiff, Nat.reduceAdd, Nat.reduceMul, Nat.reduceSub, reduceCtorEq, Int.reduceLT, Int.reduceLE, Int.reduceEq, Int.reduceBEq, Int.reduceBNe, Int.reduceToNat, Int.reduceAdd, Int.reduceNeg, Int.reduceSub, hrd, Int.lt_irrefl]
  · intro s hs _
    subst hs
    refine ⟨?_, ?_⟩
    rotate_left
    · simp only [go_sem, ↓reduceIte, Nat.reduceBEq, Nat.reduceEqDiff, Nat.reduceLT, Nat.reduceLeDiff, Nat.reduceAdd, Nat.reduceMul, Nat.reduceSub, reduceCtorEq, Int.reduceLT, Int.reduceLE, Int.reduceEq, Int.reduceBEq, Int.reduceBNe, Int.reduceToNat, Int.reduceAdd, Int.reduceNeg, Int.reduceSub, h23]
      rfl
end Go.Proofs.Ytaohhjaogjcfoaa
