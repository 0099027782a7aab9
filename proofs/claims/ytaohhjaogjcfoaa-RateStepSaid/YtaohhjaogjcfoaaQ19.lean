/- Told and Inside. Conditions: those of each law. -/
import Derived.Test.YtaohhjaogjcfoaaQ18
set_option linter.unusedSimpArgs false
set_option linter.unusedVariables false
namespace Go.Proofs.Ytaohhjaogjcfoaa
open Go.Proofs

def cE (x : En) : List AV := [.int .i64 x.agent, .int .i64 x.day, .int .i64 x.near, .int .i64 x.far]
theorem cE_len (x : En) : (cE x).length = 4 := rfl
theorem flat_eEn (l : List En) : (l.map eEn).flatMap AV.cells = l.flatMap cE := by rw [List.flatMap_map]; rfl
theorem frz_map {α : Type} (e : α → AV) (h : Heap) (k : Nat) (he : ∀ x, frz h k (e x) = some (e x)) : ∀ l : List α, optL ((l.map e).map (frz h k)) = some (l.map e)
  | [] => rfl
  | x :: l => by
    have ih := frz_map e h k he l
    simp only [List.map_cons, optL, he, ih]
theorem frz_sp (h : Heap) (k : Nat) (s : Int × Int) : frz h (k + 2) (eSp s) = some (eSp s) := by simp [frz, eSp, optL, AV.clean]
theorem frz_ag (h : Heap) (k : Nat) (a : Ag) : frz h (k + 2) (eAg a) = some (eAg a) := by simp [frz, eAg, optL, AV.clean]
theorem frz_en (h : Heap) (k : Nat) (a : En) : frz h (k + 2) (.agg (cE a)) = some (eEn a) := by simp [frz, eEn, cE, optL, AV.clean]
theorem frz_i (h : Heap) (k : Nat) (a : Int) : frz h (k + 1) (.int .i64 a) = some (.int .i64 a) := by simp [frz, AV.clean]
theorem frz_es {h : Heap} {k b n : Nat} {l : List En} (hb : h.b[b]? = some (.cells (l.flatMap cE))) (hn : n = l.length) : frz h (k + 3) (.bsl b 0 n 4) = some (.lst 0 4 (l.map eEn)) := by
  have hr := rows_fm cE_len (by decide) l [] []
  simp only [List.nil_append, List.append_nil, List.length_nil] at hr
  have hm := frz_map (fun x : En => eEn x) h (k + 2) (fun x => frz_en h k x) l
  have e : frz h (k + 3) (.bsl b 0 n 4) = if 4 = 0 then none else match h.b[b]? with
    | some (.cells c) => match rowsOf 4 c 0 n with
      | some xs => match optL (xs.map (frz h (k + 2))) with
        | some ys => some (.lst 0 4 ys)
        | none => none
      | none => none
    | _ => none := rfl
  have e2 : optL (List.map (frz h (k + 2)) (List.map (fun x => AV.agg (cE x)) l)) = some (l.map eEn) := hm
  rw [e, if_neg (by decide), hb, hn]
  simp only [hr, e2]
theorem frz_lst {α : Type} (e : α → AV) {h : Heap} {k tg z : Nat} (l : List α) (he : ∀ x, frz h k (e x) = some (e x)) : frz h (k + 1) (.lst tg z (l.map e)) = some (.lst 0 z (l.map e)) := by
  have e1 : frz h (k + 1) (.lst tg z (l.map e)) = match optL ((l.map e).map (frz h k)) with | some ys => some (.lst 0 z ys) | none => none := rfl
  rw [e1, frz_map e h k he l]
theorem frz_told (d : Ho) (r : List Int) (n : Nat) (h : Heap) (hb : h.b[2]? = some (.cells ((d.told r).entries.flatMap cE))) (hn : n = d.entries.length) :
    frz h 6 (.tup [.agg [.int .i64 d.days, .lst 0 d.zr (d.rates.map eSp), .int .i64 d.step, .lst 0 d.za (d.agents.map eAg), .bsl 2 0 n 4], .lst 0 1 (I r)]) = some (.tup [eH (d.told r), .lst 0 1 (I r)]) := by
  have e1 := frz_lst eSp (h := h) (k := 3) (tg := 0) (z := d.zr) d.rates (fun x => frz_sp h 1 x)
  have e2 := frz_lst eAg (h := h) (k := 3) (tg := 0) (z := d.za) d.agents (fun x => frz_ag h 1 x)
  have e3 := frz_es (k := 1) (n := n) hb (by rw [told_len]; exact hn)
  have e4 : frz h 5 (.lst 0 1 (I r)) = some (.lst 0 1 (I r)) := frz_lst (AV.int .i64) (h := h) (k := 4) (tg := 0) (z := 1) r (fun x => frz_i h 3 x)
  have e5 : frz h 5 (.agg [.int .i64 d.days, .lst 0 d.zr (d.rates.map eSp), .int .i64 d.step, .lst 0 d.za (d.agents.map eAg), .bsl 2 0 n 4]) = some (eH (d.told r)) := by
    have e : ∀ xs, frz h 5 (.agg xs) = match optL (xs.map (frz h 4)) with | some ys => some (.agg ys) | none => none := fun _ => rfl
    rw [e]
    simp only [List.map_cons, List.map_nil, optL, frz_i h 3, e1, e2, e3]
    rfl
  have e : ∀ xs, frz h 6 (.tup xs) = match optL (xs.map (frz h 5)) with | some ys => some (.tup ys) | none => none := fun _ => rfl
  rw [e]
  simp only [List.map_cons, List.map_nil, optL, e4, e5]
theorem c38 (n : Int) (s : Int × Int) (h : Heap) : callPure (EW tabX) 38 [.int .i64 n, eSp s] h = some (.bool (inR n s.1 s.2), h) := by
  rw [callPure_eq, w_call _ fn_38 rfl]
  simp only [go_sem, ↓reduceIte, Nat.reduceBEq, Nat.reduceEqDiff, Nat.reduceLT, Nat.reduceLeDiff, Nat.reduceAdd, Nat.reduceMul, Nat.reduceSub, reduceCtorEq, Int.reduceLT, Int.reduceLE, Int.reduceEq, Int.reduceBEq, Int.reduceBNe, Int.reduceToNat, Int.reduceAdd, Int.reduceNeg, Int.reduceSub, eSp, c46]
def rateX (d : Ho) (x : Int) : List Int := (ratesL d d.rates.length).getD (x % (ratesL d d.rates.length).length).toNat []
def toldV (d : Ho) (x : Int) : AV := if ratesL d d.rates.length = [] then .tup [eH d, .lst 0 0 []] else .tup [eH (d.told (rateX d x)), .lst 0 1 (I (rateX d x))]
set_option maxRecDepth 100000 in
theorem c37 (d : Ho) (hd : d.fits) (ho : d.Ok) (x : Int) (hx : 0 ≤ x ∧ x ≤ 65535) (h : Heap) : callPure (EW tabX) 37 [eH d, .int .u16 x] h = some (toldV d x, h) := by
  have h88 := c88 d hd ho
  have hcl := eH_clean d
  have hlen := ho.len
  have eD : eH d = .agg [.int .i64 d.days, .lst 0 d.zr (d.rates.map eSp), .int .i64 d.step, .lst 0 d.za (d.agents.map eAg), .lst 0 d.ze (d.entries.map eEn)] := rfl
  rw [callPure_eq, w_call0 _ fn_37 rfl]
  unfold toldV
  simp only [eD, vR] at h88 hcl ⊢
  by_cases h0 : ratesL d d.rates.length = []
  · rw [if_pos h0]
    rw [h0] at h88
    simp only [go_sem, ↓reduceIte, Nat.reduceBEq, Nat.reduceEqDiff, Nat.reduceLT, Nat.reduceLeDiff, Nat.reduceAdd, Nat.reduceMul, Nat.reduceSub, reduceCtorEq, Int.reduceLT, Int.reduceLE, Int.reduceEq, Int.reduceBEq, Int.reduceBNe, Int.reduceToNat, Int.reduceAdd, Int.reduceNeg, Int.reduceSub, h88]
  rw [if_neg h0]
  have hpos := List.length_pos_iff.2 h0
  have hz : zT 1 (ratesL d d.rates.length).length = 1 := zT_pos hpos
  have hl0 : (((ratesL d d.rates.length).length : Int) == 0) = false := by simp; exact h0
  have hlz : ((ratesL d d.rates.length).length : Int) ≠ 0 := by omega
  have t1 : x.tmod (ratesL d d.rates.length).length = x % (ratesL d d.rates.length).length := Int.tmod_eq_emod_of_nonneg hx.1
  have hi0 := Int.emod_nonneg x hlz
  have hi1 := Int.emod_lt_of_pos x (show 0 < ((ratesL d d.rates.length).length : Int) by omega)
  have hrx : rateX d x = (ratesL d d.rates.length).getD (x % (ratesL d d.rates.length).length).toNat [] := rfl
  generalize x % ((ratesL d d.rates.length).length : Int) = i at t1 hi0 hi1 hrx
  have hget : ((ratesL d d.rates.length).map eR)[i.toNat]? = some (eR (rateX d x)) := by
    have hlt : i.toNat < (ratesL d d.rates.length).length := by omega
    rw [List.getElem?_map, List.getElem?_eq_getElem hlt, hrx]
    simp [hlt]
  have hmem : rateX d x ∈ ratesL d d.rates.length := by
    have hlt : i.toNat < (ratesL d d.rates.length).length := by omega
    rw [hrx]
    simp [hlt]
  generalize rateX d x = r at *
  have hin : ¬ (i < 0) := by omega
  have hle := ho.e5
  have hb1 : (d.entries.length * 32 ≤ 140737488355328 ∧ d.entries.length ≤ 140737488355328) = True := eq_true ⟨by omega, by omega⟩
  by_cases hm : d.entries.length = 0
  · have hel : d.entries = [] := List.eq_nil_of_length_eq_zero hm
    have et : eH (d.told r) = .agg [.int .i64 d.days, .lst 0 d.zr (d.rates.map eSp), .int .i64 d.step, .lst 0 d.za (d.agents.map eAg), .lst 0 4 []] := by
      show AV.agg [_, _, _, _, .lst 0 4 ((d.entries.map (toldE d r)).map eEn)] = _
      rw [hel]; rfl
    rw [et]
    simp (disch := omega) only [go_sem, ↓reduceIte, Nat.reduceBEq, Nat.reduceEqDiff, Nat.reduceLT, Nat.reduceLeDiff, Nat.reduceAdd, Nat.reduceMul, Nat.reduceSub, reduceCtorEq, Int.reduceLT, Int.reduceLE, Int.reduceEq, Int.reduceBEq, Int.reduceBNe, Int.reduceToNat, Int.reduceAdd, Int.reduceNeg, Int.reduceSub, h88, hz, hl0, hlz, t1, hget, hin, eR, hb1, hm, wrap_i64]
    rw [w_rounds_u (fun _ => [(8, .int .i64 0)]) 0 (.exit 0) [(8, .int .i64 0)] ?_ ?_ ?_ rfl]
    · simp only [go_sem, ↓reduceIte, Nat.reduceBEq, Nat.reduceEqDiff, Nat.reduceLT, Nat.reduceLeDiff, Nat.reduceAdd, Nat.reduceMul, Nat.reduceSub, reduceCtorEq, Int.reduceLT, Int.reduceLE, Int.reduceEq, Int.reduceBEq, Int.reduceBNe, Int.reduceToNat, Int.reduceAdd, Int.reduceNeg, Int.reduceSub]
    · simp only [go_sem, ↓reduceIte, Nat.reduceBEq, Nat.reduceEqDiff, Nat.reduceLT, Nat.reduceLeDiff, Nat.reduceAdd, Nat.reduceMul, Nat.reduceSub, reduceCtorEq, Int.reduceLT, Int.reduceLE, Int.reduceEq, Int.reduceBEq, Int.reduceBNe, Int.reduceToNat, Int.reduceAdd, Int.reduceNeg, Int.reduceSub]
    · intro k hk; omega
    · simp only [go_sem, ↓reduceIte, Nat.reduceBEq, Nat.reduceEqDiff, Nat.reduceLT, Nat.reduceLeDiff, Nat.reduceAdd, Nat.reduceMul, Nat.reduceSub, reduceCtorEq, Int.reduceLT, Int.reduceLE, Int.reduceEq, Int.reduceBEq, Int.reduceBNe, Int.reduceToNat, Int.reduceAdd, Int.reduceNeg, Int.reduceSub]
  have hze := hd.ze (by intro e; rw [e] at hm; exact hm rfl)
  have hzt : (d.ze = 4) = True := eq_true hze
  have hrl := ratesL_mem d _ r hmem
  have hrb := ratesL_bd ho _ (Nat.le_refl _) r hmem
  have hrd := ho.rd
  simp (disch := omega) only [go_sem, ↓reduceIte, Nat.reduceBEq, Nat.reduceEqDiff, Nat.reduceLT, Nat.reduceLeDiff, Nat.reduceAdd, Nat.reduceMul, Nat.reduceSub, reduceCtorEq, Int.reduceLT, Int.reduceLE, Int.reduceEq, Int.reduceBEq, Int.reduceBNe, Int.reduceToNat, Int.reduceAdd, Int.reduceNeg, Int.reduceSub, h88, hz, hl0, hlz, t1, hget, hin, eR, hb1, hm, hzt, flat_eEn, wrap_i64]
  generalize hy : (EW tabX).code 37 none (Code.loop _) _ = y
  refine w_rounds_sk hy (fun k (s : List ABlk × List Bool × List AV) => [(8, .int .i64 k)])
    (fun s => ⟨.cells [.int .i64 d.days, .lst 0 d.zr (d.rates.map eSp), .int .i64 d.step, .lst 0 d.za (d.agents.map eAg), .bsl 2 0 d.entries.length 4] :: .cells [.int .i64 0, .lst 1 0 [], .int .i64 0, .lst 1 0 [], .lst 1 0 []] :: .cells s.2.2 :: s.1, s.2.1⟩)
    (fun k s => s.2.2 = ((d.entries.take k).map (toldE d r) ++ d.entries.drop k).flatMap cE) d.entries.length (.exit 0) (fun _ => [(8, .int .i64 d.entries.length)]) rfl ([], [], d.entries.flatMap cE) ?_ ?_ (by simp) ?_ ?_ ?_
  · simp only [go_sem, ↓reduceIte, Nat.reduceBEq, Nat.reduceEqDiff, Nat.reduceLT, Nat.reduceLeDiff, Nat.reduceAdd, Nat.reduceMul, Nat.reduceSub, reduceCtorEq, Int.reduceLT, Int.reduceLE, Int.reduceEq, Int.reduceBEq, Int.reduceBNe, Int.reduceToNat, Int.reduceAdd, Int.reduceNeg, Int.reduceSub]
  · simp only [go_sem, ↓reduceIte, Nat.reduceBEq, Nat.reduceEqDiff, Nat.reduceLT, Nat.reduceLeDiff, Nat.reduceAdd, Nat.reduceMul, Nat.reduceSub, reduceCtorEq, Int.reduceLT, Int.reduceLE, Int.reduceEq, Int.reduceBEq, Int.reduceBNe, Int.reduceToNat, Int.reduceAdd, Int.reduceNeg, Int.reduceSub]
  · rintro k ⟨E, t, F⟩ hk h1
    simp only at h1
    subst h1
    obtain ⟨e, he⟩ : ∃ e, d.entries[k]? = some e := ⟨_, List.getElem?_eq_getElem hk⟩
    obtain ⟨a1, a2, a3, a4, a5, a6, a7, a8⟩ := ho.en e (List.mem_of_getElem? he)
    obtain ⟨L, hL⟩ : ∃ L, L = (d.entries.take k).map (toldE d r) ++ d.entries.drop k := ⟨_, rfl⟩
    have hLk : L[k]? = some e := by
      rw [hL, List.getElem?_append_right (by simp; omega)]
      simp only [List.length_map, List.length_take, Nat.min_eq_left (Nat.le_of_lt hk), Nat.sub_self]
      rw [List.getElem?_drop]; simpa using he
    have hLn : (d.entries.take (k + 1)).map (toldE d r) ++ d.entries.drop (k + 1) = L.set k (toldE d r e) := by
      rw [hL, List.set_append_right _ _ (by simp; omega)]
      simp only [List.length_map, List.length_take, Nat.min_eq_left (Nat.le_of_lt hk), Nat.sub_self]
      rw [List.take_add_one, he, List.map_append, List.append_assoc]
      congr 1
      rw [List.drop_eq_getElem_cons hk, List.set_cons_zero]
      rfl
    rw [hLn, ← hL]
    obtain ⟨q1, q2⟩ := fm_at cE_len hLk
    have hLl : k < L.length := (List.getElem?_eq_some_iff.1 hLk).1
    have q3 := fm_set cE_len hLl (toldE d r e)
    have q4 := fm_len cE_len L
    have q5 : k * 4 + 4 ≤ (L.flatMap cE).length := by rw [q4]; omega
    have hkl : (k : Int) < d.entries.length := by omega
    have hw3 : IntKind.i64.wrap ((k : Int) + 1) = (k : Int) + 1 := wrap_i64 ⟨by omega, by omega⟩
    have hkc : ((k : Int)).toNat = k := rfl
    have q1 : List.take 4 (List.drop (k * 4) (List.flatMap cE L)) = [.int .i64 e.agent, .int .i64 e.day, .int .i64 e.near, .int .i64 e.far] := q1
    by_cases hf : e.far = -1
    · have ht : toldE d r e = e := by unfold toldE; rw [if_pos hf]
      rw [ht] at q3 ⊢
      have q3 : splice (L.flatMap cE) (k * 4) [.int .i64 e.agent, .int .i64 e.day, .int .i64 e.near, .int .i64 e.far] = (L.set k e).flatMap cE := q3
      have hfb : (e.far != -1) = false := by simp [hf]
      refine ⟨(E ++ [.cells [.int .i64 e.agent, .int .i64 e.day, .int .i64 e.near, .int .i64 e.far]], t, (L.set k e).flatMap cE), ?_, rfl⟩
      simp only [go_sem, ↓reduceIte, Nat.reduceBEq, Nat.reduceEqDiff, Nat.reduceLT, Nat.reduceLeDiff, Nat.reduceAdd, Nat.reduceMul, Nat.reduceSub, reduceCtorEq, Int.reduceLT, Int.reduceLE, Int.reduceEq, Int.reduceBEq, Int.reduceBNe, Int.reduceToNat, Int.reduceAdd, Int.reduceNeg, Int.reduceSub, hkl, hk, q1, q2, q3, q5, hfb, hw3]
    · have hfb : (e.far != -1) = true := by simpa using hf
      obtain ⟨ai, hai⟩ := Int.eq_ofNat_of_zero_le a1
      obtain ⟨di, hdi⟩ := Int.eq_ofNat_of_zero_le a3
      have hal : ai < d.agents.length := by omega
      have hdl : di < r.length := by omega
      have hza := hd.za (by intro e; rw [e] at hal; simp at hal)
      have hzat : (d.za = 3) = True := eq_true hza
      have hza0 : (0 < d.za) = True := eq_true (by omega)
      obtain ⟨ag, hag⟩ : ∃ ag, d.agents[ai]? = some ag := ⟨_, List.getElem?_eq_getElem hal⟩
      have hag2 : (d.agents.map eAg)[ai]? = some (.agg [.str ag.name, .int .i64 ag.fee, .int .i64 ag.round]) := by rw [List.getElem?_map, hag]; rfl
      have hrv : (I r)[di]? = some (.int .i64 (r.getD di 0)) := by
        rw [I_get, List.getElem?_eq_getElem hdl]; simp [hdl]
      have hag0 : d.ag0 e.agent = ag := by
        rw [hai]; show d.agents.getD ai _ = ag
        rw [List.getD_eq_getElem?_getD, hag]; rfl
      have hrg : 0 ≤ r.getD di 0 ∧ r.getD di 0 ≤ 20 := by
        have e1 : r.getD di 0 = r[di] := by simp [hdl]
        have := hrb _ (List.getElem_mem hdl)
        omega
      obtain ⟨g1, g2, _⟩ := ho.ag ag (List.mem_of_getElem? hag)
      have h47 := c47 ag ⟨g1, g2⟩ e.near (r.getD di 0) ⟨a5, a6⟩ hrg
      have ht : toldE d r e = ⟨e.agent, e.day, e.near, payR ag e.near (r.getD di 0)⟩ := by
        unfold toldE
        rw [if_neg hf, hag0, hdi]
        rfl
      rw [ht] at q3 ⊢
      generalize payR ag e.near (r.getD di 0) = pay at *
      have q3 : splice (L.flatMap cE) (k * 4) [.int .i64 e.agent, .int .i64 e.day, .int .i64 e.near, .int .i64 pay] = (L.set k ⟨e.agent, e.day, e.near, pay⟩).flatMap cE := q3
      simp only [hai, hdi] at q3
      obtain ⟨N16, hN16⟩ : ∃ N, N = List.replicate 16 ABlk.none := ⟨_, rfl⟩
      refine ⟨(E ++ (.cells [.int .i64 e.agent, .int .i64 e.day, .int .i64 e.near, .int .i64 pay] :: N16), t ++ [false, false, false, false, false, false, false, false, false, false, false, false, false, false, false, false], (L.set k ⟨e.agent, e.day, e.near, pay⟩).flatMap cE), ?_, rfl⟩
      simp only [eAg] at h47
      simp only [go_sem, ↓reduceIte, Nat.reduceBEq, Nat.reduceEqDiff, Nat.reduceLT, Nat.reduceLeDiff, Nat.reduceAdd, Nat.reduceMul, Nat.reduceSub, reduceCtorEq, Int.reduceLT, Int.reduceLE, Int.reduceEq, Int.reduceBEq, Int.reduceBNe, Int.reduceToNat, Int.reduceAdd, Int.reduceNeg, Int.reduceSub, hkl, hk, q1, q2, q5, hfb, hw3]
      generalize hcf : drawT _ _ _ = cf
      obtain rfl : cf = true := by rw [← hcf]; kernel_rfl
      generalize hN : List.replicate _ ABlk.none = N
      obtain rfl : N = N16 := by rw [← hN, hN16]; rfl
      generalize hM : List.replicate _ false = M
      obtain rfl : M = [false, false, false, false, false, false, false, false, false, false, false, false, false, false, false, false] := by rw [← hM]; rfl
      simp only [go_sem, ↓reduceIte, Nat.reduceBEq, Nat.reduceEqDiff, Nat.reduceLT, Nat.reduceLeDiff, Nat.reduceAdd, Nat.reduceMul, Nat.reduceSub, reduceCtorEq, Int.reduceLT, Int.reduceLE, Int.reduceEq, Int.reduceBEq, Int.reduceBNe, Int.reduceToNat, Int.reduceAdd, Int.reduceNeg, Int.reduceSub, hkl, hk, q1, q2, q3, q5, hfb, hw3, hai, hdi, hag, eAg, hrv, hzat, hza0, h47]
  · rintro ⟨E, t, F⟩ h1
    simp only [go_sem, ↓reduceIte, Nat.reduceBEq, Nat.reduceEqDiff, Nat.reduceLT, Nat.reduceLeDiff, Nat.reduceAdd, Nat.reduceMul, Nat.reduceSub, reduceCtorEq, Int.reduceLT, Int.reduceLE, Int.reduceEq, Int.reduceBEq, Int.reduceBNe, Int.reduceToNat, Int.reduceAdd, Int.reduceNeg, Int.reduceSub]
  · rintro ⟨E, t, F⟩ hs h1
    simp only at h1
    subst h1
    subst hs
    rw [List.take_length, List.drop_length, List.append_nil]
    have hfz := fun E => frz_told d r d.entries.length ⟨.cells [.int .i64 d.days, .lst 0 d.zr (d.rates.map eSp), .int .i64 d.step, .lst 0 d.za (d.agents.map eAg), .bsl 2 0 d.entries.length 4] :: .cells [.int .i64 d.days, .lst 0 d.zr (d.rates.map eSp), .int .i64 d.step, .lst 0 d.za (d.agents.map eAg), .bsl 2 0 d.entries.length 4] :: .cells ((d.entries.map (toldE d r)).flatMap cE) :: E, t⟩ rfl rfl
    simp only [go_sem, ↓reduceIte, Nat.reduceBEq, Nat.reduceEqDiff, Nat.reduceLT, Nat.reduceLeDiff, Nat.reduceAdd, Nat.reduceMul, Nat.reduceSub, reduceCtorEq, Int.reduceLT, Int.reduceLE, Int.reduceEq, Int.reduceBEq, Int.reduceBNe, Int.reduceToNat, Int.reduceAdd, Int.reduceNeg, Int.reduceSub]
    exact congrArg (Option.map fun u => (u, h)) (hfz E)
end Go.Proofs.Ytaohhjaogjcfoaa
