/- The body of RateTrue. Conditions: those of each law. -/
import Derived.Test.YtaohhjaogjcfoaaQ19
set_option linter.unusedSimpArgs false
set_option linter.unusedVariables false
namespace Go.Proofs.Ytaohhjaogjcfoaa
open Go.Proofs

theorem rateX_mem {d : Ho} (x : Int) (hx : 0 ≤ x) (h : ratesL d d.rates.length ≠ []) : rateX d x ∈ ratesL d d.rates.length := by
  have hp := List.length_pos_iff.2 h
  have h1 := Int.emod_nonneg x (show ((ratesL d d.rates.length).length : Int) ≠ 0 by omega)
  have h2 := Int.emod_lt_of_pos x (show 0 < ((ratesL d d.rates.length).length : Int) by omega)
  have hlt : (x % ((ratesL d d.rates.length).length : Int)).toNat < (ratesL d d.rates.length).length := by omega
  unfold rateX
  simp [hlt]
set_option maxRecDepth 100000 in
theorem l8 (d : Ho) (hd : d.fits) (x : Int) (hx : 0 ≤ x ∧ x ≤ 65535) : ∃ h', (EW tabX).call 8 [eH d, .int .u16 x] noHeap = some (.bool true, h') := by
  have eD : eH d = .agg [.int .i64 d.days, .lst 0 d.zr (d.rates.map eSp), .int .i64 d.step, .lst 0 d.za (d.agents.map eAg), .lst 0 d.ze (d.entries.map eEn)] := rfl
  have hcl := eH_clean d
  have h36 := c36 d hd
  have h23 := c23
  rw [noHeap, w_call _ fn_8 rfl]
  by_cases h0 : checkE d = 0
  rotate_left
  · have hb : (checkE d == 0) = false := by simpa using h0
    rw [hb] at h36
    have h18 := c18 d hd
    have hk : (firstV d).2.2 = checkE d := by
      unfold firstV knownE
      rw [if_neg h0, if_neg h0]
    have hne : (checkE d != 0) = true := by simpa using h0
    generalize firstV d = fd at *
    obtain ⟨f1, f2, f3⟩ := fd
    simp only at hk
    subst hk
    simp only [eD, v3] at h36 h18 hcl ⊢
    refine ⟨?_, ?_⟩
    rotate_left
    · simp only [go_sem, ↓reduceIte, Nat.reduceBEq, Nat.reduceEqDiff, Nat.reduceLT, Nat.reduceLeDiff, Nat.reduceAdd, Nat.reduceMul, Nat.reduceSub, reduceCtorEq, Int.reduceLT, Int.reduceLE, Int.reduceEq, Int.reduceBEq, Int.reduceBNe, Int.reduceToNat, Int.reduceAdd, Int.reduceNeg, Int.reduceSub, h36, h18, h23, hne, vI_clean, vI_under]
      rfl
  have hb : (checkE d == 0) = true := by simpa using h0
  rw [hb] at h36
  have ho := ok_of_E h0
  have h37 := c37 d hd ho x hx
  unfold toldV at h37
  by_cases h1 : ratesL d d.rates.length = []
  · rw [if_pos h1] at h37
    have h30 := c30 d hd
    have hw : wrongV d = ([], 9) := by unfold wrongV; rw [if_pos h0, wrong_down ho h1]
    rw [hw] at h30
    simp only [eD, vL] at h36 h37 h30 hcl ⊢
    refine ⟨?_, ?_⟩
    rotate_left
    · simp only [go_sem, ↓reduceIte, Nat.reduceBEq, Nat.reduceEqDiff, Nat.reduceLT, Nat.reduceLeDiff, Nat.reduceAdd, Nat.reduceMul, Nat.reduceSub, reduceCtorEq, Int.reduceLT, Int.reduceLE, Int.reduceEq, Int.reduceBEq, Int.reduceBNe, Int.reduceToNat, Int.reduceAdd, Int.reduceNeg, Int.reduceSub, h36, h37, h30, h23, vI_clean, vI_under]
      rfl
  rw [if_neg h1] at h37
  have hmem := rateX_mem x hx.1 h1
  generalize rateX d x = r at *
  have hrl := ratesL_mem d _ r hmem
  have hrb := ratesL_bd ho _ (Nat.le_refl _) r hmem
  have hrd := ho.rd
  have hd1 := ho.d1
  have hd3 := ho.d3
  have he5 := ho.e5
  have ha3 := ho.a3
  have hoT := ho.told hmem
  have hdT := fits_told hd r
  have h30 := c30 _ hdT
  rw [told_wrong ho hmem] at h30
  have h18 := c18 _ hdT
  obtain ⟨hf1, hf2⟩ := told_first ho hmem
  have h21 := fun k => c21 _ hdT k
  have h28 := fun k => c28 _ hdT k
  have h26 := fun k => c26 _ hdT k
  have h39 := fun k => c39 _ hdT hoT k r ⟨hrl, hrb⟩
  rw [told_len] at h39
  have q21 := fun (k : Nat) (hk : (k : Int) < d.days) => told_rate ho hmem hk
  have q28 := fun (k : Nat) (hk : k < d.entries.length) => told_agree ho hmem hk
  have q26 := fun (k : Nat) (hk : k < d.agents.length) => told_paid ho hmem hk
  have hrp : (0 < r.length) = True := eq_true (by omega)
  have eT : eH (d.told r) = .agg [.int .i64 d.days, .lst 0 d.zr (d.rates.map eSp), .int .i64 d.step, .lst 0 d.za (d.agents.map eAg), .lst 0 4 ((d.entries.map (toldE d r)).map eEn)] := rfl
  have k1 := eEn_clean (d.entries.map (toldE d r))
  have k2 := fun n => eEn_under n (d.entries.map (toldE d r))
  have hcT := eH_clean (d.told r)
  have hlT : ((d.entries.map (toldE d r)).map eEn).length = d.entries.length := by simp
  have hgT : ∀ k, ((d.entries.map (toldE d r)).map eEn)[k]? = (d.entries[k]?).map fun e => eEn (toldE d r e) := fun k => by rw [List.map_map, List.getElem?_map]; rfl
  generalize firstV (d.told r) = fd at *
  obtain ⟨f1, f2, f3⟩ := fd
  obtain ⟨rfl, rfl⟩ := Prod.mk.inj hf1
  have hf3 : (((truthsL (d.told r) []).length : Int) < 1) = False := eq_false (by omega)
  have hf4 : (((truthsL (d.told r) []).length : Int) < 1) = False := hf3
  generalize ((truthsL (d.told r) []).length : Int) = many at *
  simp only [eD, eT, vL, v3, vS, v2, eSp] at h36 h37 h30 h18 h21 h28 h26 h39 hcl hcT ⊢
  generalize hes : (d.entries.map (toldE d r)).map eEn = es at *
  simp (disch := omega) only [go_sem, ↓reduceIte, Nat.reduceBEq, Nat.reduceEqDiff, Nat.reduceLT, Nat.reduceLeDiff, Nat.reduceAdd, Nat.reduceMul, Nat.reduceSub, reduceCtorEq, Int.reduceLT, Int.reduceLE, Int.reduceEq, Int.reduceBEq, Int.reduceBNe, Int.reduceToNat, Int.reduceAdd, Int.reduceNeg, Int.reduceSub, h36, h37, h30, h18, hrp, hf3, k1, k2, vI_clean, vI_under, vI_nil, wrap_i64]
  generalize hy : (EW tabX).code 8 none (Code.loop _) _ = y
  have hir : ∀ k : Nat, k < r.length → (I r)[k]? = some (.int .i64 (r.getD k 0)) := fun k hk => by
    rw [I_get, List.getElem?_eq_getElem hk]; simp [hk]
  refine w_rounds_sk hy (fun k (s : List ABlk) => [(17, .int .i64 k)])
    (fun s => ⟨.cells [.int .i64 d.days, .lst 0 d.zr (d.rates.map eSp), .int .i64 d.step, .lst 0 d.za (d.agents.map eAg), .lst 0 d.ze (d.entries.map eEn)] :: .cells [.int .i64 d.days, .lst 0 d.zr (d.rates.map eSp), .int .i64 d.step, .lst 0 d.za (d.agents.map eAg), .lst 0 4 es] :: s, []⟩)
    (fun _ _ => True) d.rates.length (.exit 0) (fun _ => [(17, .int .i64 d.days)]) rfl [] ?_ ?_ trivial ?_ ?_ ?_
  · simp only [go_sem, ↓reduceIte, Nat.reduceBEq, Nat.reduceEqDiff, Nat.reduceLT, Nat.reduceLeDiff, Nat.reduceAdd, Nat.reduceMul, Nat.reduceSub, reduceCtorEq, Int.reduceLT, Int.reduceLE, Int.reduceEq, Int.reduceBEq, Int.reduceBNe, Int.reduceToNat, Int.reduceAdd, Int.reduceNeg, Int.reduceSub]
  · simp only [go_sem, ↓reduceIte, Nat.reduceBEq, Nat.reduceEqDiff, Nat.reduceLT, Nat.reduceLeDiff, Nat.reduceAdd, Nat.reduceMul, Nat.reduceSub, reduceCtorEq, Int.reduceLT, Int.reduceLE, Int.reduceEq, Int.reduceBEq, Int.reduceBNe, Int.reduceToNat, Int.reduceAdd, Int.reduceNeg, Int.reduceSub]
  · intro k E hk _
    have hkd : (k : Int) < d.days := by omega
    obtain ⟨s, e1, b1, b2⟩ := q21 k hkd
    have p1 := h21 k
    rw [e1] at p1
    have p2 := hir k (by omega)
    have p3 := c38 (r.getD k 0) s
    have p4 : inR (r.getD k 0) s.1 s.2 = true := by unfold inR; rw [decide_eq_true b1, decide_eq_true b2]; rfl
    rw [p4] at p3
    simp only [eSp] at p3
    have hw : IntKind.i64.wrap ((k : Int) + 1) = (k : Int) + 1 := wrap_i64 ⟨by omega, by omega⟩
    refine ⟨E ++ [.cells [.int .i64 s.1, .int .i64 s.2]], ?_, trivial⟩
    simp only [go_sem, ↓reduceIte, Nat.reduceBEq, Nat.reduceEqDiff, Nat.reduceLT, Nat.reduceLeDiff, Nat.reduceAdd, Nat.reduceMul, Nat.reduceSub, reduceCtorEq, Int.reduceLT, Int.reduceLE, Int.reduceEq, Int.reduceBEq, Int.reduceBNe, Int.reduceToNat, Int.reduceAdd, Int.reduceNeg, Int.reduceSub, hkd, p1, p2, p3, k1, k2, hw, ne_same]
  · intro E _
    simp only [go_sem, ↓reduceIte, Nat.reduceBEq, Nat.reduceEqDiff, Nat.reduceLT, Nat.reduceLeDiff, Nat.reduceAdd, Nat.reduceMul, Nat.reduceSub, reduceCtorEq, Int.reduceLT, Int.reduceLE, Int.reduceEq, Int.reduceBEq, Int.reduceBNe, Int.reduceToNat, Int.reduceAdd, Int.reduceNeg, Int.reduceSub, hrd, Int.lt_irrefl]
  · intro E hs _
    subst hs
    simp only [go_sem, ↓reduceIte, Nat.reduceBEq, Nat.reduceEqDiff, Nat.reduceLT, Nat.reduceLeDiff, Nat.reduceAdd, Nat.reduceMul, Nat.reduceSub, reduceCtorEq, Int.reduceLT, Int.reduceLE, Int.reduceEq, Int.reduceBEq, Int.reduceBNe, Int.reduceToNat, Int.reduceAdd, Int.reduceNeg, Int.reduceSub]
    generalize hy : (EW tabX).code 8 none (Code.loop _) _ = y
    refine w_rounds_sk hy (fun k (s : List ABlk) => [(20, .int .i64 k)])
      (fun s => ⟨.cells [.int .i64 d.days, .lst 0 d.zr (d.rates.map eSp), .int .i64 d.step, .lst 0 d.za (d.agents.map eAg), .lst 0 d.ze (d.entries.map eEn)] :: .cells [.int .i64 d.days, .lst 0 d.zr (d.rates.map eSp), .int .i64 d.step, .lst 0 d.za (d.agents.map eAg), .lst 0 4 es] :: s, []⟩)
      (fun _ s => s = E) d.entries.length (.exit 2) (fun _ => [(20, .int .i64 d.entries.length)]) rfl E ?_ ?_ rfl ?_ ?_ ?_
    · simp only [go_sem, ↓reduceIte, Nat.reduceBEq, Nat.reduceEqDiff, Nat.reduceLT, Nat.reduceLeDiff, Nat.reduceAdd, Nat.reduceMul, Nat.reduceSub, reduceCtorEq, Int.reduceLT, Int.reduceLE, Int.reduceEq, Int.reduceBEq, Int.reduceBNe, Int.reduceToNat, Int.reduceAdd, Int.reduceNeg, Int.reduceSub]
    · simp only [go_sem, ↓reduceIte, Nat.reduceBEq, Nat.reduceEqDiff, Nat.reduceLT, Nat.reduceLeDiff, Nat.reduceAdd, Nat.reduceMul, Nat.reduceSub, reduceCtorEq, Int.reduceLT, Int.reduceLE, Int.reduceEq, Int.reduceBEq, Int.reduceBNe, Int.reduceToNat, Int.reduceAdd, Int.reduceNeg, Int.reduceSub]
    · rintro k s hk rfl
      have hkl : (k : Int) < d.entries.length := by omega
      have hw : IntKind.i64.wrap ((k : Int) + 1) = (k : Int) + 1 := wrap_i64 ⟨by omega, by omega⟩
      obtain ⟨e, he⟩ : ∃ e, d.entries[k]? = some e := ⟨_, List.getElem?_eq_getElem hk⟩
      have hek : d.en0 k = e := by unfold Ho.en0; rw [List.getD_eq_getElem?_getD, he]; rfl
      have p1 : es[k]? = some (eEn (toldE d r e)) := by rw [hgT k, he]; rfl
      have p2 := h28 k
      have p3 := q28 k hk
      rw [hek] at p3
      generalize toldE d r e = te at *
      have p1 : es[k]? = some (.agg [.int .i64 te.agent, .int .i64 te.day, .int .i64 te.near, .int .i64 te.far]) := p1
      refine ⟨s, ?_, rfl⟩
      by_cases hf : te.far = -1
      · rw [if_pos hf] at p3
        rw [p3] at p2
        have hfb : (te.far == -1) = true := by simp [hf]
        simp only [go_sem, ↓reduceIte, Nat.reduceBEq, Nat.reduceEqDiff, Nat.reduceLT, Nat.reduceLeDiff, Nat.reduceAdd, Nat.reduceMul, Nat.reduceSub, reduceCtorEq, Int.reduceLT, Int.reduceLE, Int.reduceEq, Int.reduceBEq, Int.reduceBNe, Int.reduceToNat, Int.reduceAdd, Int.reduceNeg, Int.reduceSub, hlT, hkl, p1, p2, k1, k2, hfb, hw, ne_same]
      · rw [if_neg hf] at p3
        obtain ⟨n, e1, hn⟩ := p3
        rw [e1] at p2
        have hfb : (te.far == -1) = false := by simpa using hf
        have hnb : (n == 2) = false := by simpa using hn
        simp only [go_sem, ↓reduceIte, Nat.reduceBEq, Nat.reduceEqDiff, Nat.reduceLT, Nat.reduceLeDiff, Nat.reduceAdd, Nat.reduceMul, Nat.reduceSub, reduceCtorEq, Int.reduceLT, Int.reduceLE, Int.reduceEq, Int.reduceBEq, Int.reduceBNe, Int.reduceToNat, Int.reduceAdd, Int.reduceNeg, Int.reduceSub, hlT, hkl, p1, p2, k1, k2, hfb, hnb, hw, ne_same]
    · rintro s rfl
      simp only [go_sem, ↓reduceIte, Nat.reduceBEq, Nat.reduceEqDiff, Nat.reduceLT, Nat.reduceLeDiff, Nat.reduceAdd, Nat.reduceMul, Nat.reduceSub, reduceCtorEq, Int.reduceLT, Int.reduceLE, Int.reduceEq, Int.reduceBEq, Int.reduceBNe, Int.reduceToNat, Int.reduceAdd, Int.reduceNeg, Int.reduceSub, hlT, Int.lt_irrefl]
    · rintro s hs rfl
      subst hs
      simp only [go_sem, ↓reduceIte, Nat.reduceBEq, Nat.reduceEqDiff, Nat.reduceLT, Nat.reduceLeDiff, Nat.reduceAdd, Nat.reduceMul, Nat.reduceSub, reduceCtorEq, Int.reduceLT, Int.reduceLE, Int.reduceEq, Int.reduceBEq, Int.reduceBNe, Int.reduceToNat, Int.reduceAdd, Int.reduceNeg, Int.reduceSub]
      generalize hy : (EW tabX).code 8 none (Code.loop _) _ = y
      refine w_rounds_sk hy (fun k (s : List ABlk) => [(23, .int .i64 k)])
        (fun s => ⟨.cells [.int .i64 d.days, .lst 0 d.zr (d.rates.map eSp), .int .i64 d.step, .lst 0 d.za (d.agents.map eAg), .lst 0 d.ze (d.entries.map eEn)] :: .cells [.int .i64 d.days, .lst 0 d.zr (d.rates.map eSp), .int .i64 d.step, .lst 0 d.za (d.agents.map eAg), .lst 0 4 es] :: s, []⟩)
        (fun _ _ => True) d.agents.length (.exit 4) (fun _ => [(23, .int .i64 d.agents.length)]) rfl s ?_ ?_ trivial ?_ ?_ ?_
      · simp only [go_sem, ↓reduceIte, Nat.reduceBEq, Nat.reduceEqDiff, Nat.reduceLT, Nat.reduceLeDiff, Nat.reduceAdd, Nat.reduceMul, Nat.reduceSub, reduceCtorEq, Int.reduceLT, Int.reduceLE, Int.reduceEq, Int.reduceBEq, Int.reduceBNe, Int.reduceToNat, Int.reduceAdd, Int.reduceNeg, Int.reduceSub]
      · simp only [go_sem, ↓reduceIte, Nat.reduceBEq, Nat.reduceEqDiff, Nat.reduceLT, Nat.reduceLeDiff, Nat.reduceAdd, Nat.reduceMul, Nat.reduceSub, reduceCtorEq, Int.reduceLT, Int.reduceLE, Int.reduceEq, Int.reduceBEq, Int.reduceBNe, Int.reduceToNat, Int.reduceAdd, Int.reduceNeg, Int.reduceSub]
      · intro k E hk _
        have hkd : (k : Int) < d.agents.length := by omega
        obtain ⟨s, e1, b1, b2⟩ := q26 k hk
        have p1 := h26 k
        rw [e1] at p1
        have p2 := h39 k
        generalize sumTo (d.told r) k r d.entries.length = sm at *
        have p3 := c38 sm s
        have p4 : inR sm s.1 s.2 = true := by unfold inR; rw [decide_eq_true b1, decide_eq_true b2]; rfl
        rw [p4] at p3
        simp only [eSp] at p3
        have hw : IntKind.i64.wrap ((k : Int) + 1) = (k : Int) + 1 := wrap_i64 ⟨by omega, by omega⟩
        refine ⟨E ++ [.cells [.int .i64 s.1, .int .i64 s.2]], ?_, trivial⟩
        simp only [go_sem, ↓reduceIte, Nat.reduceBEq, Nat.reduceEqDiff, Nat.reduceLT, Nat.reduceLeDiff, Nat.reduceAdd, Nat.reduceMul, Nat.reduceSub, reduceCtorEq, Int.reduceLT, Int.reduceLE, Int.reduceEq, Int.reduceBEq, Int.reduceBNe, Int.reduceToNat, Int.reduceAdd, Int.reduceNeg, Int.reduceSub, hkd, p1, p2, p3, k1, k2, hw, ne_same]
      · intro E _
        simp only [go_sem, ↓reduceIte, Nat.reduceBEq, Nat.reduceEqDiff, Nat.reduceLT, Nat.reduceLeDiff, Nat.reduceAdd, Nat.reduceMul, Nat.reduceSub, reduceCtorEq, Int.reduceLT, Int.reduceLE, Int.reduceEq, Int.reduceBEq, Int.reduceBNe, Int.reduceToNat, Int.reduceAdd, Int.reduceNeg, Int.reduceSub, Int.lt_irrefl]
      · intro E hs _
        subst hs
        refine ⟨?_, ?_⟩
        rotate_left
        · simp only [go_sem, ↓reduceIte, Nat.reduceBEq, Nat.reduceEqDiff, Nat.reduceLT, Nat.reduceLeDiff, Nat.reduceAdd, Nat.reduceMul, Nat.reduceSub, reduceCtorEq, Int.reduceLT, Int.reduceLE, Int.reduceEq, Int.reduceBEq, Int.reduceBNe, Int.reduceToNat, Int.reduceAdd, Int.reduceNeg, Int.reduceSub, h23]
          rfl
end Go.Proofs.Ytaohhjaogjcfoaa
