/- Whether an entry agrees in all truths, by the program. Conditions: those of each law. -/
import Derived.Test.YtaohhjaogjcfoaaQ15
set_option linter.unusedSimpArgs false
set_option linter.unusedVariables false
namespace Go.Proofs.Ytaohhjaogjcfoaa
open Go.Proofs

theorem bitsL_one : ∀ n, n ≤ 5 → ∀ i, i < n → bitsL (2 ^ i) n = [(i : Int)] := by decide
def agF (d : Ho) (x : En) (s : Nat × Nat) (t : List Int) : Nat × Nat := (if (payR (d.ag0 x.agent) x.near (t.getD x.day.toNat 0) == x.far) = true then s.1 + 1 else s.1, s.2 + 1)
theorem agF_all (d : Ho) (x : En) : ∀ (l : List (List Int)) (a b : Nat), l.foldl (agF d x) (a, b) = (a + (l.filter fun r => payR (d.ag0 x.agent) x.near (r.getD x.day.toNat 0) == x.far).length, b + l.length)
  | [], a, b => rfl
  | t :: l, a, b => by
    have e : (t :: l).foldl (agF d x) (a, b) = l.foldl (agF d x) (if (payR (d.ag0 x.agent) x.near (t.getD x.day.toNat 0) == x.far) = true then a + 1 else a, b + 1) := rfl
    rw [e, agF_all d x l]
    cases h : (payR (d.ag0 x.agent) x.near (t.getD x.day.toNat 0) == x.far) with
    | true => simp only [List.filter_cons, h, if_true, List.length_cons, Prod.mk.injEq]; omega
    | false => simp only [List.filter_cons, h, Bool.false_eq_true, if_false, List.length_cons, Prod.mk.injEq]; exact ⟨trivial, by omega⟩
def FA (d : Ho) (x : En) (but : Int) (es : List (Key × Int)) (s : Nat × Nat) : List ABlk :=
  [.cells (eHc d), bEn x, .none, .none, .cells [.ref 15 0], .none, .none, .none, .none, .none, .none, .none, .cells (eHc d), .cells (eHc d), .map (esS es), .cells (eHs d but 14), .cells [.int .i64 s.1], .cells [.int .i64 s.2]]
theorem shl_one {i : Nat} (hi : i < 5) : IntKind.i64.wrap (1 * 2 ^ min i 64) = ((2 ^ i : Nat) : Int) := by
  match i, hi with
  | 0, _ => rfl
  | 1, _ => rfl
  | 2, _ => rfl
  | 3, _ => rfl
  | 4, _ => rfl
theorem c28 (d : Ho) (hd : d.fits) (n : Int) (h : Heap) : callPure (EW tabX) 28 [eH d, .int .i64 n] h = some (v2 (agreeV d n), h) := by
  have hcl := eH_clean d
  have hle := hd.le
  have h16 := c16 d hd
  have hce : (checkH d).2.2 = checkE d := rfl
  rw [callPure_eq, w_call _ fn_28 rfl]
  unfold agreeV agreeE indexE
  simp only [eH, eHc, tup3, hce] at h16 hcl
  by_cases h0 : checkE d = 0
  rotate_left
  · have hne : (checkE d != 0) = true := by simpa using h0
    simp (disch := omega) only [go_sem, ↓reduceIte, Nat.reduceBEq, Nat.reduceEqDiff, Nat.reduceLT, Nat.reduceLeDiff, Nat.reduceAdd, Nat.reduceMul, Nat.reduceSub, reduceCtorEq, Int.reduceLT, Int.reduceLE, Int.reduceEq, Int.reduceBEq, Int.reduceBNe, Int.reduceToNat, Int.reduceAdd, Int.reduceNeg, Int.reduceSub, eH, eHc, h16, h0, hne, v2]
  have ho := ok_of_E h0
  have he5 := ho.e5
  have hw1 : IntKind.i64.wrap ((d.entries.length : Int) - 1) = (d.entries.length : Int) - 1 := wrap_i64 (by omega)
  cases hin : inR n 0 ((d.entries.length : Int) - 1) with
  | false =>
    have hout : out 0 ((d.entries.length : Int) - 1) n = true := by rw [← notin, hin]; rfl
    simp only [go_sem, ↓reduceIte, Nat.reduceBEq, Nat.reduceEqDiff, Nat.reduceLT, Nat.reduceLeDiff, Nat.reduceAdd, Nat.reduceMul, Nat.reduceSub, reduceCtorEq, Int.reduceLT, Int.reduceLE, Int.reduceEq, Int.reduceBEq, Int.reduceBNe, Int.reduceToNat, Int.reduceAdd, Int.reduceNeg, Int.reduceSub, eH, eHc, h16, h0, hw1, c49_1, hout, v2]
    skip
  | true =>
  have hout : out 0 ((d.entries.length : Int) - 1) n = false := by rw [← notin, hin]; rfl
  have hin2 : 0 ≤ n ∧ n < d.entries.length := by simp [inR] at hin; omega
  obtain ⟨j, rfl⟩ := Int.eq_ofNat_of_zero_le hin2.1
  have hjl : j < d.entries.length := by omega
  have hx := List.getElem?_eq_getElem hjl
  have e0 : d.en0 j = d.entries[j] := en0_at d hjl
  have hze := hd.ze (by intro e; rw [e] at hjl; simp at hjl)
  have hxm := List.getElem_mem hjl
  rw [cast_toNat, e0]
  simp only [hze] at h16 hcl
  have e0' := e0
  generalize d.entries[j] = x at hx hxm e0' ⊢
  by_cases h1 : x.far = -1
  · simp only [go_sem, ↓reduceIte, Nat.reduceBEq, Nat.reduceEqDiff, Nat.reduceLT, Nat.reduceLeDiff, Nat.reduceAdd, Nat.reduceMul, Nat.reduceSub, reduceCtorEq, Int.reduceLT, Int.reduceLE, Int.reduceEq, Int.reduceBEq, Int.reduceBNe, Int.reduceToNat, Int.reduceAdd, Int.reduceNeg, Int.reduceSub, eH, eHc, h16, h0, hw1, c49_1, hout, v2, hx, hze, eEn, h1]
    skip
  have h1b : (x.far == -1) = false := by simpa using h1
  have hoc : ∀ h, callAV tabX (EW tabX) false (.clo 63 [] []) [] h = some (.int .i64 0, h) := fun h => by simp only [go_sem, ↓reduceIte, Nat.reduceBEq, Nat.reduceEqDiff, Nat.reduceLT, Nat.reduceLeDiff, Nat.reduceAdd, Nat.reduceMul, Nat.reduceSub, reduceCtorEq, Int.reduceLT, Int.reduceLE, Int.reduceEq, Int.reduceBEq, Int.reduceBNe, Int.reduceToNat, Int.reduceAdd, Int.reduceNeg, Int.reduceSub, c63]
  have h2j : 2 ^ j < 32 := Nat.lt_of_le_of_lt (Nat.pow_le_pow_right (by omega) (show j ≤ 4 by omega)) (by decide)
  obtain ⟨hno, hyes⟩ := c62 d hd (2 ^ j) h2j 0 (.clo 63 [] []) [.cells (eHc d), bEn x, .none, .none, .none, .none, .none, .none, .none, .none, .none, .none] (List.replicate 10 false) (fun _ => hoc _)
  have hen : enterE d (2 ^ j) 0 = if truthsL d [(j : Int)] = [] then 8 else 0 := by
    unfold enterE
    rw [if_pos h0, if_pos rfl, dfs_all ho, bitsL_one _ he5 j hjl]
  rw [hen] at hno hyes
  by_cases h2 : truthsL d [(j : Int)] = []
  · rw [if_pos h2] at hno
    obtain ⟨F, hc⟩ := hno (by decide)
    simp only [go_sem, ↓reduceIte, Nat.reduceBEq, Nat.reduceEqDiff, Nat.reduceLT, Nat.reduceLeDiff, Nat.reduceAdd, Nat.reduceMul, Nat.reduceSub, reduceCtorEq, Int.reduceLT, Int.reduceLE, Int.reduceEq, Int.reduceBEq, Int.reduceBNe, Int.reduceToNat, Int.reduceAdd, Int.reduceNeg, Int.reduceSub, eH, eHc, bEn, hze] at hc
    simp only [go_sem, ↓reduceIte, Nat.reduceBEq, Nat.reduceEqDiff, Nat.reduceLT, Nat.reduceLeDiff, Nat.reduceAdd, Nat.reduceMul, Nat.reduceSub, reduceCtorEq, Int.reduceLT, Int.reduceLE, Int.reduceEq, Int.reduceBEq, Int.reduceBNe, Int.reduceToNat, Int.reduceAdd, Int.reduceNeg, Int.reduceSub, eH, eHc, h16, h0, hw1, c49_1, hout, v2, hx, hze, eEn, h1, h1b, h2, shl_one (show j < 5 by omega), hc, List.size_toArray]
    generalize hcf : okFam _ _ _ = cf
    obtain rfl : cf = true := by rw [← hcf]; kernel_rfl
    simp only [go_sem, ↓reduceIte, Nat.reduceBEq, Nat.reduceEqDiff, Nat.reduceLT, Nat.reduceLeDiff, Nat.reduceAdd, Nat.reduceMul, Nat.reduceSub, reduceCtorEq, Int.reduceLT, Int.reduceLE, Int.reduceEq, Int.reduceBEq, Int.reduceBNe, Int.reduceToNat, Int.reduceAdd, Int.reduceNeg, Int.reduceSub]
    skip
  rw [if_neg h2] at hyes
  obtain ⟨es, F, hke, hc⟩ := hyes rfl
  simp only [go_sem, ↓reduceIte, Nat.reduceBEq, Nat.reduceEqDiff, Nat.reduceLT, Nat.reduceLeDiff, Nat.reduceAdd, Nat.reduceMul, Nat.reduceSub, reduceCtorEq, Int.reduceLT, Int.reduceLE, Int.reduceEq, Int.reduceBEq, Int.reduceBNe, Int.reduceToNat, Int.reduceAdd, Int.reduceNeg, Int.reduceSub, eH, eHc, bEn, hze, HE, eHs] at hc
  simp only [go_sem, ↓reduceIte, Nat.reduceBEq, Nat.reduceEqDiff, Nat.reduceLT, Nat.reduceLeDiff, Nat.reduceAdd, Nat.reduceMul, Nat.reduceSub, reduceCtorEq, Int.reduceLT, Int.reduceLE, Int.reduceEq, Int.reduceBEq, Int.reduceBNe, Int.reduceToNat, Int.reduceAdd, Int.reduceNeg, Int.reduceSub, eH, eHc, h16, h0, hw1, c49_1, hout, v2, hx, hze, eEn, h1, h1b, h2, shl_one (show j < 5 by omega), hc, List.size_toArray]
  generalize hcf : okFam _ _ _ = cf
  obtain rfl : cf = true := by rw [← hcf]; kernel_rfl
  have h64 := c64 15 (FA d x (2 ^ j : Nat) es (0, 0)) (List.replicate 10 false ++ F) (by simp [FA])
  simp only [go_sem, ↓reduceIte, Nat.reduceBEq, Nat.reduceEqDiff, Nat.reduceLT, Nat.reduceLeDiff, Nat.reduceAdd, Nat.reduceMul, Nat.reduceSub, reduceCtorEq, Int.reduceLT, Int.reduceLE, Int.reduceEq, Int.reduceBEq, Int.reduceBNe, Int.reduceToNat, Int.reduceAdd, Int.reduceNeg, Int.reduceSub, FA, eHc, eHs, bEn, hze] at h64
  simp only [go_sem, ↓reduceIte, Nat.reduceBEq, Nat.reduceEqDiff, Nat.reduceLT, Nat.reduceLeDiff, Nat.reduceAdd, Nat.reduceMul, Nat.reduceSub, reduceCtorEq, Int.reduceLT, Int.reduceLE, Int.reduceEq, Int.reduceBEq, Int.reduceBNe, Int.reduceToNat, Int.reduceAdd, Int.reduceNeg, Int.reduceSub, h64]
  rw [w_range (gf := 96) (fst := []) (cap := [.ref 18 0])]
  rotate_left
  · simp only [go_sem, ↓reduceIte, Nat.reduceBEq, Nat.reduceEqDiff, Nat.reduceLT, Nat.reduceLeDiff, Nat.reduceAdd, Nat.reduceMul, Nat.reduceSub, reduceCtorEq, Int.reduceLT, Int.reduceLE, Int.reduceEq, Int.reduceBEq, Int.reduceBNe, Int.reduceToNat, Int.reduceAdd, Int.reduceNeg, Int.reduceSub]
  generalize hLB : ABlk.loop false AExit.normal false 28 _ _ _ _ = LB
  obtain ⟨LB', b1, b2⟩ : ∃ LB', beginBlk LB = some LB' ∧ endBlk .normal LB' = some LB := by rw [← hLB]; exact ⟨_, rfl, rfl⟩
  have b4 : ∀ h : Heap, h.b[20]? = some LB → ∀ fr ms, afterRange 20 fr ms h = some (.normal, ⟨fr, h.put 20 .none, ms⟩) := fun h hh fr ms => by
    rw [← hLB] at hh; unfold afterRange; rw [hh]
  have hset : ∀ (s : Nat × Nat) es X, PM (FA d x (2 ^ j : Nat) [] s ++ X) 14 es = FA d x (2 ^ j : Nat) es s ++ X := fun s es X => rfl
  obtain ⟨a1, a2, a3, a4, a5, a6, a7, a8⟩ := ho.en x hxm
  have hrd := ho.rd
  have hd3 := ho.d3
  let C : Con d (2 ^ j) 15 14 18 21 20 (Nat × Nat) := {
    PF := fun s => FA d x (2 ^ j : Nat) [] s ++ [.cells [.ref 15 0], .mark, LB]
    stp := fun s t => (agF d x s t, true)
    Inv := fun k s => s.2 = k ∧ s.1 ≤ k
    len := fun s => by simp [FA]
    hat := fun s => ⟨rfl, by simp [FA], by omega⟩
    bx := fun s => rfl
    ne := by omega
    rnd := by
      intro k s t E tb es hinv hk8 hl hv hke
      obtain ⟨cnt, all⟩ := s
      obtain ⟨i1, i2⟩ := hinv
      have i1 : all = k := i1
      have i2 : cnt ≤ k := i2
      rw [hset]
      have hat : (⟨FA d x (2 ^ j : Nat) es (cnt, all) ++ [.cells [.ref 15 0], .mark, LB] ++ NB 21 20 18 15 (arrOf t) E, tb⟩ : Heap).b[20]? = some LB := rfl
      have hat2 := hat.trans (congrArg some hLB.symm)
      rw [stepRound_eq tabX hat2]
      clear hat hat2
      obtain ⟨i, hi⟩ := Int.eq_ofNat_of_zero_le a3
      have hil : i < t.length := by omega
      have hgi := List.getElem?_eq_getElem hil
      have hbv := hv _ (List.getElem_mem hil)
      have hgd : t.getD x.day.toNat 0 = t[i] := by rw [hi]; simp [hil]
      have hai : (arrOf t)[x.day.toNat]? = some t[i] := by
        rw [hi, cast_toNat, arrOf_get hil]; simp [hil]
      have hP : HAt d (2 ^ j : Nat) 15 14 (FA d x (2 ^ j : Nat) [] (cnt, all + 1)) := ⟨rfl, by simp [FA], by omega⟩
      obtain ⟨es', F, k1, hc⟩ := c78x d hd ho (2 ^ j : Nat) hP x hxm (arrOf t) (arrOf_len (by omega)) t[i] hai (by omega) ([.cells [.ref 15 0], .mark, LB'] ++ NB 21 20 18 15 (arrOf t) (E ++ (.cells (I (arrOf t)) :: List.replicate 7 .none))) (tb ++ List.replicate 7 false) es hke
      have hstp : agF d x (cnt, all) t = (if (payR (d.ag0 x.agent) x.near t[i] == x.far) = true then cnt + 1 else cnt, all + 1) := by unfold agF; rw [hgd]
      obtain ⟨x0, x1, x2, ha⟩ := list3 (arrOf_len (t := t) (by omega))
      rw [ha] at hc
      simp only [hstp]
      generalize payR (d.ag0 x.agent) x.near t[i] = pv at hc ⊢
      have hw : IntKind.i64.wrap ((all : Int) + 1) = (all : Int) + 1 := wrap_i64 (by omega)
      have hwc : IntKind.i64.wrap ((cnt : Int) + 1) = (cnt : Int) + 1 := wrap_i64 (by omega)
      refine ⟨es', .cells (I (arrOf t)) :: List.replicate 7 .none, List.replicate 7 false ++ F, k1, fun _ => ⟨by omega, by split <;> omega⟩, ?_⟩
      rw [hset]
      simp only [ha]
      simp only [go_sem, ↓reduceIte, Nat.reduceBEq, Nat.reduceEqDiff, Nat.reduceLT, Nat.reduceLeDiff, Nat.reduceAdd, Nat.reduceMul, Nat.reduceSub, reduceCtorEq, Int.reduceLT, Int.reduceLE, Int.reduceEq, Int.reduceBEq, Int.reduceBNe, Int.reduceToNat, Int.reduceAdd, Int.reduceNeg, Int.reduceSub, NB, FA, I_c, I_nil, eEn, bEn, eHc, eHs, hze] at hc
      cases hq : (pv == x.far) with
      | true =>
        simp only [y1, Option.bind_some, roundK, NB, FA]
        simp only [go_sem, ↓reduceIte, Nat.reduceBEq, Nat.reduceEqDiff, Nat.reduceLT, Nat.reduceLeDiff, Nat.reduceAdd, Nat.reduceMul, Nat.reduceSub, reduceCtorEq, Int.reduceLT, Int.reduceLE, Int.reduceEq, Int.reduceBEq, Int.reduceBNe, Int.reduceToNat, Int.reduceAdd, Int.reduceNeg, Int.reduceSub, turnBlk, b1, b2, isNormal, hw, hwc, hq, hc, eHc, eHs, bEn, hze, I_c, I_nil, List.size_toArray]
        generalize hcf : okFam _ _ _ = cf
        obtain rfl : cf = true := by rw [← hcf]; kernel_rfl
        simp only [go_sem, ↓reduceIte, Nat.reduceBEq, Nat.reduceEqDiff, Nat.reduceLT, Nat.reduceLeDiff, Nat.reduceAdd, Nat.reduceMul, Nat.reduceSub, reduceCtorEq, Int.reduceLT, Int.reduceLE, Int.reduceEq, Int.reduceBEq, Int.reduceBNe, Int.reduceToNat, Int.reduceAdd, Int.reduceNeg, Int.reduceSub, turnBlk, b1, b2, isNormal, hw, hwc, hq]
        skip
      | false =>
        simp only [y1, Option.bind_some, roundK, NB, FA]
        simp only [go_sem, ↓reduceIte, Nat.reduceBEq, Nat.reduceEqDiff, Nat.reduceLT, Nat.reduceLeDiff, Nat.reduceAdd, Nat.reduceMul, Nat.reduceSub, reduceCtorEq, Int.reduceLT, Int.reduceLE, Int.reduceEq, Int.reduceBEq, Int.reduceBNe, Int.reduceToNat, Int.reduceAdd, Int.reduceNeg, Int.reduceSub, turnBlk, b1, b2, isNormal, hw, hwc, hq, hc, eHc, eHs, bEn, hze, I_c, I_nil, List.size_toArray]
        generalize hcf : okFam _ _ _ = cf
        obtain rfl : cf = true := by rw [← hcf]; kernel_rfl
        simp only [go_sem, ↓reduceIte, Nat.reduceBEq, Nat.reduceEqDiff, Nat.reduceLT, Nat.reduceLeDiff, Nat.reduceAdd, Nat.reduceMul, Nat.reduceSub, reduceCtorEq, Int.reduceLT, Int.reduceLE, Int.reduceEq, Int.reduceBEq, Int.reduceBNe, Int.reduceToNat, Int.reduceAdd, Int.reduceNeg, Int.reduceSub, turnBlk, b1, b2, isNormal, hw, hwc, hq]
        skip }
  have hdfs : dfs d (2 ^ j) d.rates.length [] = truthsL d [(j : Int)] := by rw [dfs_all ho, bitsL_one _ he5 j hjl]
  obtain ⟨es', F', k, x1, x2, x3, x4⟩ := c96 hd ho h2j C (0, 0) ⟨rfl, by omega⟩ (ho.dfs_len _) (by omega) (by omega) (by omega) es hke (List.replicate 10 false ++ F)
  simp only [C] at x4
  rw [hset, hset, hdfs, runC_all, agF_all] at x4
  have hpos := List.length_pos_iff.2 h2
  unfold agreeN
  rw [cast_toNat, e0']
  have hfil : (truthsL d [(j : Int)]).filter (fun r => agreesB d x r) = (truthsL d [(j : Int)]).filter fun r => payR (d.ag0 x.agent) x.near (r.getD x.day.toNat 0) == x.far := by
    apply List.filter_congr
    intro r _
    unfold agreesB; rw [h1b, Bool.false_or]
  rw [hfil]
  generalize ((truthsL d [(j : Int)]).filter fun r => payR (d.ag0 x.agent) x.near (r.getD x.day.toNat 0) == x.far).length = p at x4 ⊢
  generalize (truthsL d [(j : Int)]).length = q at x4 hpos ⊢
  simp only [FA, eHc, eHs, bEn, hze, Nat.zero_add] at x4
  simp only [go_sem, ↓reduceIte, Nat.reduceBEq, Nat.reduceEqDiff, Nat.reduceLT, Nat.reduceLeDiff, Nat.reduceAdd, Nat.reduceMul, Nat.reduceSub, reduceCtorEq, Int.reduceLT, Int.reduceLE, Int.reduceEq, Int.reduceBEq, Int.reduceBNe, Int.reduceToNat, Int.reduceAdd, Int.reduceNeg, Int.reduceSub] at x4
  simp only [go_sem, ↓reduceIte, Nat.reduceBEq, Nat.reduceEqDiff, Nat.reduceLT, Nat.reduceLeDiff, Nat.reduceAdd, Nat.reduceMul, Nat.reduceSub, reduceCtorEq, Int.reduceLT, Int.reduceLE, Int.reduceEq, Int.reduceBEq, Int.reduceBNe, Int.reduceToNat, Int.reduceAdd, Int.reduceNeg, Int.reduceSub, x4]
  rw [b4 _ rfl]
  unfold settled
  by_cases hpq : (p : Int) = q
  · simp only [go_sem, ↓reduceIte, Nat.reduceBEq, Nat.reduceEqDiff, Nat.reduceLT, Nat.reduceLeDiff, Nat.reduceAdd, Nat.reduceMul, Nat.reduceSub, reduceCtorEq, Int.reduceLT, Int.reduceLE, Int.reduceEq, Int.reduceBEq, Int.reduceBNe, Int.reduceToNat, Int.reduceAdd, Int.reduceNeg, Int.reduceSub, hpq, v2]
    skip
  · have hpq' : ((p : Int) == q) = false := by simpa using hpq
    by_cases hp0 : (p : Int) = 0
    · rw [hp0] at hpq hpq'
      simp only [go_sem, ↓reduceIte, Nat.reduceBEq, Nat.reduceEqDiff, Nat.reduceLT, Nat.reduceLeDiff, Nat.reduceAdd, Nat.reduceMul, Nat.reduceSub, reduceCtorEq, Int.reduceLT, Int.reduceLE, Int.reduceEq, Int.reduceBEq, Int.reduceBNe, Int.reduceToNat, Int.reduceAdd, Int.reduceNeg, Int.reduceSub, hpq, hpq', hp0, v2]
      skip
    · have hp0' : ((p : Int) == 0) = false := by simpa using hp0
      simp only [go_sem, ↓reduceIte, Nat.reduceBEq, Nat.reduceEqDiff, Nat.reduceLT, Nat.reduceLeDiff, Nat.reduceAdd, Nat.reduceMul, Nat.reduceSub, reduceCtorEq, Int.reduceLT, Int.reduceLE, Int.reduceEq, Int.reduceBEq, Int.reduceBNe, Int.reduceToNat, Int.reduceAdd, Int.reduceNeg, Int.reduceSub, hpq, hpq', hp0, hp0', v2]
      skip
end Go.Proofs.Ytaohhjaogjcfoaa
