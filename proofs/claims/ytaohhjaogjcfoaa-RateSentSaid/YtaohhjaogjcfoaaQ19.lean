/- The body of RateSent. Conditions: those of each law. -/
import Derived.Test.YtaohhjaogjcfoaaQ18
set_option linter.unusedSimpArgs false
set_option linter.unusedVariables false
namespace Go.Proofs.Ytaohhjaogjcfoaa
open Go.Proofs

theorem send_none {d : Ho} {day far : Int} (h : firstBad (hitN d day far) 0 100 = none) {w : Nat} (hw : w < d.agents.length) : ¬ far ≤ lowP d w day 99 := by
  have h1 := firstBad_none h 99 (by omega) (by omega)
  unfold hitN at h1
  cases h2 : firstBad (hitW d day far 99) 0 d.agents.length with
  | some i => rw [h2] at h1; cases h1
  | none =>
    have h3 := firstBad_none h2 w (by omega) (by omega)
    have e : hitW d day far 99 w = if far ≤ lowP d w day 99 then 1 else 0 := rfl
    rw [e] at h3
    intro hc
    rw [if_pos hc] at h3; cases h3
theorem send_some {d : Ho} {day far : Int} {n : Nat} (h : firstBad (hitN d day far) 0 100 = some n) : ∃ w, firstBad (hitW d day far n) 0 d.agents.length = some w ∧ w < d.agents.length ∧ n < 100 ∧ far ≤ lowP d w day n ∧ (∀ a, a < w → ¬ far ≤ lowP d a day n) ∧ ∀ a, a < d.agents.length → ∀ m, m < n → ¬ far ≤ lowP d a day m := by
  obtain ⟨_, h2, h3, h4⟩ := firstBad_some h
  unfold hitN at h3
  cases h5 : firstBad (hitW d day far n) 0 d.agents.length with
  | none => rw [h5] at h3; exact absurd rfl h3
  | some w =>
    obtain ⟨_, g2, g3, g4⟩ := firstBad_some h5
    refine ⟨w, rfl, by omega, by omega, ?_, fun a ha => ?_, fun a ha m hm => ?_⟩
    · unfold hitW at g3
      by_cases hc : far ≤ lowP d w day n
      · exact hc
      · rw [if_neg hc] at g3; exact absurd rfl g3
    · have := g4 a (by omega) ha
      unfold hitW at this
      intro hc
      rw [if_pos hc] at this; cases this
    · have h6 := h4 m (by omega) hm
      unfold hitN at h6
      cases h7 : firstBad (hitW d day far m) 0 d.agents.length with
      | some i => rw [h7] at h6; cases h6
      | none =>
        have := firstBad_none h7 a (by omega) (by omega)
        unfold hitW at this
        intro hc
        rw [if_pos hc] at this; cases this
theorem low_le {d : Ho} {w day n : Int} {t : List Int} (ht : t ∈ truthsL d []) : lowP d w day n ≤ payAt d w day n t := (foldS_bd (payAt d w day n) ht).1
theorem send_bad {d : Ho} (h : someE d = false) : ∃ e, e ≠ 0 ∧ sendV d 0 0 = (0, 0, e) := by
  have he : sendE d 0 0 ≠ 0 := fun e => by
    obtain ⟨k1, k2⟩ := knownE_zero e
    obtain ⟨k3, _⟩ := penceE_zero k1
    obtain ⟨k5, _⟩ := indexE_zero k3
    unfold someE at h
    have : (checkE d == 0) = true := by simpa using k5
    rw [this, Bool.true_and] at h
    have := of_decide_eq_false h
    exact k2 (List.eq_nil_of_length_eq_zero (by omega))
  exact ⟨_, he, by unfold sendV; rw [if_neg he]⟩
theorem sendV_ok {d : Ho} (ho : d.Ok) (hne : truthsL d [] ≠ []) {day far : Int} (hy : 0 ≤ day ∧ day < d.days) (hn : 0 ≤ far ∧ far ≤ 198) : sendV d day far = sendR d day far := by
  have e : sendE d day far = 0 := by
    unfold sendE knownE penceE indexE
    have h2 : inR day 0 (d.days - 1) = true := by simp [inR]; omega
    have h3 : inR far 0 198 = true := by simp [inR]; omega
    simp only [checkE_ok ho, h2, h3, if_true, if_neg hne]
  unfold sendV
  rw [if_pos e]
def HB11 (d : Ho) (x : Int × Int) : List ABlk := [.cells (eHc d), .cells [.int .u8 x.1, .int .u8 x.2]]
set_option maxRecDepth 100000 in
theorem l11 (d : Ho) (hd : d.fits) (x : Int × Int) (hx : (0 ≤ x.1 ∧ x.1 ≤ 255) ∧ (0 ≤ x.2 ∧ x.2 ≤ 255)) (y : Int) (hy : 0 ≤ y ∧ y ≤ 65535) : ∃ h', (EW tabX).call 11 [eH d, .agg [.int .u8 x.1, .int .u8 x.2], .int .u16 y] noHeap = some (.bool true, h') := by
  obtain ⟨a, b⟩ := x
  obtain ⟨ha, hb⟩ := hx
  simp only at ha hb
  have hcl := eH_clean d
  have h44 := c44 d hd
  have h32 := c32 d hd
  have h24 := c24 d hd
  have h23 := c23
  rw [noHeap, w_call _ fn_11 rfl]
  simp only [eH, eHc] at hcl h44 h32 h24 ⊢
  cases hs : someE d with
  | false =>
    obtain ⟨er, e1, e2⟩ := send_bad hs
    have q := h32 0 0
    rw [e2] at q
    rw [hs] at h44
    have hne : (er != 0) = true := by simpa using e1
    simp only [tup3] at q
    refine ⟨?_, ?_⟩
    rotate_left
    · simp only [go_sem, ↓reduceIte, Nat.reduceBEq, Nat.reduceEqDiff, Nat.reduceLT, Nat.reduceLeDiff, Nat.reduceAdd, Nat.reduceMul, Nat.reduceSub, reduceCtorEq, Int.reduceLT, Int.reduceLE, Int.reduceEq, Int.reduceBEq, Int.reduceBNe, Int.reduceToNat, Int.reduceAdd, Int.reduceNeg, Int.reduceSub, h44, q, h23, hne]
      rfl
  | true =>
    rw [hs] at h44
    unfold someE at hs
    rw [Bool.and_eq_true, decide_eq_true_eq, beq_iff_eq, List.length_pos_iff] at hs
    obtain ⟨k0, k1⟩ := hs
    have ho := ok_of_E k0
    have hd1 := ho.d1
    have hd3 := ho.d3
    have hrd := ho.rd
    have ha3 := ho.a3
    have h45 := c45 d hd ho [] 0 (fun h => absurd rfl h) (by decide)
    have hlp := List.length_pos_iff.2 k1
    have hln := truthsL_len ho []
    have t0 : y.tmod ((truthsL d []).length : Int) = y % (truthsL d []).length := Int.tmod_eq_emod_of_nonneg hy.1
    have hj : 0 ≤ y % ((truthsL d []).length : Int) ∧ y % ((truthsL d []).length : Int) < (truthsL d []).length := ⟨Int.emod_nonneg _ (by omega), Int.emod_lt_of_pos _ (by omega)⟩
    have hlz : ((truthsL d []).length : Int) ≠ 0 := by omega
    generalize y % ((truthsL d []).length : Int) = j at t0 hj
    obtain ⟨j, rfl⟩ := Int.eq_ofNat_of_zero_le hj.1
    have hjl : j < (truthsL d []).length := by omega
    have hgt := List.getElem?_eq_getElem hjl
    have htm := List.getElem_mem hjl
    have htl := truthsL_mem htm
    have hzt : zT 1 (truthsL d []).length = 1 := zT_pos hlp
    generalize (truthsL d [])[j] = t at hgt htm htl
    have t1 : a.tmod d.days = a % d.days := Int.tmod_eq_emod_of_nonneg ha.1
    have t2 : b.tmod 199 = b % 199 := Int.tmod_eq_emod_of_nonneg hb.1
    have hdy : 0 ≤ a % d.days ∧ a % d.days < d.days := ⟨Int.emod_nonneg _ (by omega), Int.emod_lt_of_pos _ (by omega)⟩
    have hfr : 0 ≤ b % 199 ∧ b % 199 ≤ 198 := by omega
    have hdz : d.days ≠ 0 := by omega
    generalize a % d.days = day at t1 hdy
    generalize b % 199 = far at t2 hfr
    have q := h32 day far
    rw [sendV_ok ho k1 hdy hfr] at q
    have wv : ∀ (w n : Nat), w < d.agents.length → n < 100 → ∃ hi, worthV d w day n = ((lowP d w day n, hi), 0) := fun w n hw hn => ⟨_, worthV_ok ho k1 ⟨by omega, by omega⟩ hdy ⟨by omega, by omega⟩⟩
    simp only [eH, eHc, vR, I_nil] at h45
    cases hf : firstBad (hitN d day far) 0 100 with
    | none =>
      have e9 : sendR d day far = (0, 0, 9) := by unfold sendR; rw [hf]
      rw [e9] at q
      simp only [tup3] at q
      simp (disch := omega) only [go_sem, ↓reduceIte, Nat.reduceBEq, Nat.reduceEqDiff, Nat.reduceLT, Nat.reduceLeDiff, Nat.reduceAdd, Nat.reduceMul, Nat.reduceSub, reduceCtorEq, Int.reduceLT, Int.reduceLE, Int.reduceEq, Int.reduceBEq, Int.reduceBNe, Int.reduceToNat, Int.reduceAdd, Int.reduceNeg, Int.reduceSub, h44, h45, q, hlz, t0, t1, t2, hdz, hzt, hgt, eR, wrap_i64]
      generalize hz : (EW tabX).code 11 none (Code.loop _) _ = z
      refine w_rounds_sk hz (fun k (s : List ABlk) => [(17, .int .i64 k)]) (fun s => ⟨HB11 d (a, b) ++ s, []⟩) (fun _ _ => True) d.agents.length (.exit 0) (fun _ => [(17, .int .i64 d.agents.length)]) rfl [] ?_ ?_ trivial ?_ ?_ ?_
      · simp only [go_sem, ↓reduceIte, Nat.reduceBEq, Nat.reduceEqDiff, Nat.reduceLT, Nat.reduceLeDiff, Nat.reduceAdd, Nat.reduceMul, Nat.reduceSub, reduceCtorEq, Int.reduceLT, Int.reduceLE, Int.reduceEq, Int.reduceBEq, Int.reduceBNe, Int.reduceToNat, Int.reduceAdd, Int.reduceNeg, Int.reduceSub]
      · simp only [go_sem, ↓reduceIte, Nat.reduceBEq, Nat.reduceEqDiff, Nat.reduceLT, Nat.reduceLeDiff, Nat.reduceAdd, Nat.reduceMul, Nat.reduceSub, reduceCtorEq, Int.reduceLT, Int.reduceLE, Int.reduceEq, Int.reduceBEq, Int.reduceBNe, Int.reduceToNat, Int.reduceAdd, Int.reduceNeg, Int.reduceSub, HB11, eHc]
      · intro k s hk _
        have hki : (k : Int) < d.agents.length := by omega
        obtain ⟨hi, hw⟩ := wv k 99 hk (by omega)
        have h24 := h24 k day 99
        rw [show worthV d k day 99 = ((lowP d k day 99, hi), 0) from hw] at h24
        have hno := send_none hf hk
        generalize lowP d k day 99 = lw at h24 hno
        simp only [vS, eSp] at h24
        refine ⟨s ++ [.cells [.int .i64 lw, .int .i64 hi]], ?_, trivial⟩
        simp (disch := omega) only [go_sem, ↓reduceIte, Nat.reduceBEq, Nat.reduceEqDiff, Nat.reduceLT, Nat.reduceLeDiff, Nat.reduceAdd, Nat.reduceMul, Nat.reduceSub, reduceCtorEq, Int.reduceLT, Int.reduceLE, Int.reduceEq, Int.reduceBEq, Int.reduceBNe, Int.reduceToNat, Int.reduceAdd, Int.reduceNeg, Int.reduceSub, HB11, eHc, hki, h24, hno, wrap_i64]
        skip
      · intro s _
        simp only [go_sem, ↓reduceIte, Nat.reduceBEq, Nat.reduceEqDiff, Nat.reduceLT, Nat.reduceLeDiff, Nat.reduceAdd, Nat.reduceMul, Nat.reduceSub, reduceCtorEq, Int.reduceLT, Int.reduceLE, Int.reduceEq, Int.reduceBEq, Int.reduceBNe, Int.reduceToNat, Int.reduceAdd, Int.reduceNeg, Int.reduceSub, HB11, eHc, Int.lt_irrefl]
      · intro s hs _
        subst hs
        refine ⟨?_, ?_⟩
        rotate_left
        · simp only [go_sem, ↓reduceIte, Nat.reduceBEq, Nat.reduceEqDiff, Nat.reduceLT, Nat.reduceLeDiff, Nat.reduceAdd, Nat.reduceMul, Nat.reduceSub, reduceCtorEq, Int.reduceLT, Int.reduceLE, Int.reduceEq, Int.reduceBEq, Int.reduceBNe, Int.reduceToNat, Int.reduceAdd, Int.reduceNeg, Int.reduceSub, h23]
          rfl
    | some n =>
      obtain ⟨w, f1, f2, f3, f4, f5, f6⟩ := send_some hf
      have en : sendR d day far = ((w : Int), (n : Int), 0) := by unfold sendR; rw [hf]; simp only [f1]
      rw [en] at q
      simp only [tup3] at q
      have hag := ho.ag _ (List.getElem_mem f2)
      have hga := List.getElem?_eq_getElem f2
      have hza := hd.za (by intro e; rw [e] at f2; simp at f2)
      obtain ⟨dj, rfl⟩ := Int.eq_ofNat_of_zero_le hdy.1
      have hdl : dj < t.length := by omega
      have hgr := List.getElem?_eq_getElem hdl
      have hrb := ratesL_bd ho _ (Nat.le_refl _) t (List.mem_filter.1 htm).1 _ (List.getElem_mem hdl)
      have h47 := c47 d.agents[w] ⟨hag.1, hag.2.1⟩ n t[dj] (by omega) (by omega)
      have hpay : far ≤ payR d.agents[w] n t[dj] := by
        have h1 := low_le (w := (w : Int)) (day := (dj : Int)) (n := (n : Int)) htm
        have h2 : payAt d w dj n t = payR d.agents[w] n t[dj] := by
          unfold payAt Ho.ag0
          simp [f2, hdl]
        omega
      have hnp : ¬ payR d.agents[w] n t[dj] < far := by omega
      have i1 : inR (w : Int) 0 ((d.agents.length : Int) - 1) = true := by simp [inR]; omega
      have i2 : inR (n : Int) 0 99 = true := by simp [inR]; omega
      have g1 := c46 w 0 ((d.agents.length : Int) - 1)
      have g2 := c46 n 0 99
      rw [i1] at g1
      rw [i2] at g2
      generalize payR d.agents[w] n t[dj] = pv at h47 hnp
      generalize t[dj] = rt at hgr h47
      generalize d.agents[w] = ag at hga h47
      simp only [eAg] at h47
      simp only [hza] at h44 h45 q hcl h24
      simp (disch := omega) only [go_sem, ↓reduceIte, Nat.reduceBEq, Nat.reduceEqDiff, Nat.reduceLT, Nat.reduceLeDiff, Nat.reduceAdd, Nat.reduceMul, Nat.reduceSub, reduceCtorEq, Int.reduceLT, Int.reduceLE, Int.reduceEq, Int.reduceBEq, Int.reduceBNe, Int.reduceToNat, Int.reduceAdd, Int.reduceNeg, Int.reduceSub, h44, h45, q, hlz, t0, t1, t2, hdz, hzt, hgt, eR, wrap_i64, g1, g2, hga, hgr, hza, eAg, h47, hnp]
      generalize hz : (EW tabX).code 11 none (Code.loop _) _ = z
      refine w_rounds_sk hz (fun k (s : List ABlk) => [(20, .int .i64 k)]) (fun s => ⟨HB11 d (a, b) ++ s, []⟩) (fun _ _ => True) d.agents.length (.exit 2) (fun _ => [(20, .int .i64 d.agents.length)]) rfl [] ?_ ?_ trivial ?_ ?_ ?_
      · simp only [go_sem, ↓reduceIte, Nat.reduceBEq, Nat.reduceEqDiff, Nat.reduceLT, Nat.reduceLeDiff, Nat.reduceAdd, Nat.reduceMul, Nat.reduceSub, reduceCtorEq, Int.reduceLT, Int.reduceLE, Int.reduceEq, Int.reduceBEq, Int.reduceBNe, Int.reduceToNat, Int.reduceAdd, Int.reduceNeg, Int.reduceSub]
      · simp only [go_sem, ↓reduceIte, Nat.reduceBEq, Nat.reduceEqDiff, Nat.reduceLT, Nat.reduceLeDiff, Nat.reduceAdd, Nat.reduceMul, Nat.reduceSub, reduceCtorEq, Int.reduceLT, Int.reduceLE, Int.reduceEq, Int.reduceBEq, Int.reduceBNe, Int.reduceToNat, Int.reduceAdd, Int.reduceNeg, Int.reduceSub, HB11, eHc, hza]
      · intro k s hk _
        have hki : (k : Int) < d.agents.length := by omega
        have span : ∀ m : Nat, m < 100 → ∃ (lw hi : Int), (¬ far ≤ lw ↔ ¬ far ≤ lowP d k dj m) ∧ ∀ h, callPure (EW tabX) 24 [.agg [.int .i64 d.days, .lst 0 d.zr (d.rates.map eSp), .int .i64 d.step, .lst 0 3 (d.agents.map eAg), .lst 0 d.ze (d.entries.map eEn)], .int .i64 k, .int .i64 dj, .int .i64 m] h = some (.tup [.agg [.int .i64 lw, .int .i64 hi], .int .i64 0], h) := fun m hm => by
          obtain ⟨hi, hw⟩ := wv k m hk hm
          refine ⟨lowP d k dj m, hi, Iff.rfl, fun h => ?_⟩
          have := h24 k dj m h
          rw [hw] at this
          simpa only [vS, eSp] using this
        have p2 : k < w → ∃ (lw hi : Int), ¬ far ≤ lw ∧ ∀ h, callPure (EW tabX) 24 [.agg [.int .i64 d.days, .lst 0 d.zr (d.rates.map eSp), .int .i64 d.step, .lst 0 3 (d.agents.map eAg), .lst 0 d.ze (d.entries.map eEn)], .int .i64 k, .int .i64 dj, .int .i64 n] h = some (.tup [.agg [.int .i64 lw, .int .i64 hi], .int .i64 0], h) := fun hkw => by
          obtain ⟨lw, hi, e1, e2⟩ := span n f3
          exact ⟨lw, hi, e1.2 (f5 k hkw), e2⟩
        cases n with
        | zero =>
          have hn0 : ¬ (0 : Int) < ((0 : Nat) : Int) := by decide
          by_cases hkw : k < w
          · obtain ⟨lw, hi, e1, e2⟩ := p2 hkw
            have hkwi : (k : Int) < w := by omega
            refine ⟨s ++ [.cells [.int .i64 lw, .int .i64 hi]], ?_, trivial⟩
            simp only [cast_zero] at e2
            simp (disch := omega) only [go_sem, ↓reduceIte, Nat.reduceBEq, Nat.reduceEqDiff, Nat.reduceLT, Nat.reduceLeDiff, Nat.reduceAdd, Nat.reduceMul, Nat.reduceSub, reduceCtorEq, Int.reduceLT, Int.reduceLE, Int.reduceEq, Int.reduceBEq, Int.reduceBNe, Int.reduceToNat, Int.reduceAdd, Int.reduceNeg, Int.reduceSub, HB11, eHc, hza, hki, hkwi, e1, e2, wrap_i64]
            skip
          · have hkwi : ¬ (k : Int) < w := by omega
            refine ⟨s, ?_, trivial⟩
            simp (disch := omega) only [go_sem, ↓reduceIte, Nat.reduceBEq, Nat.reduceEqDiff, Nat.reduceLT, Nat.reduceLeDiff, Nat.reduceAdd, Nat.reduceMul, Nat.reduceSub, reduceCtorEq, Int.reduceLT, Int.reduceLE, Int.reduceEq, Int.reduceBEq, Int.reduceBNe, Int.reduceToNat, Int.reduceAdd, Int.reduceNeg, Int.reduceSub, HB11, eHc, hza, hki, hkwi, wrap_i64]
            skip
        | succ m =>
          have hn0 : (0 : Int) < ((m + 1 : Nat) : Int) := by omega
          have hn1 : IntKind.i64.wrap (((m + 1 : Nat) : Int) - 1) = (m : Int) := by rw [wrap_i64 (by omega)]; omega
          obtain ⟨lw1, hi1, e1, e2⟩ := span m (by omega)
          have e1 := e1.2 (f6 k hk m (by omega))
          by_cases hkw : k < w
          · obtain ⟨lw, hi, e3, e4⟩ := p2 hkw
            have hkwi : (k : Int) < w := by omega
            refine ⟨s ++ [.cells [.int .i64 lw1, .int .i64 hi1], .cells [.int .i64 lw, .int .i64 hi]], ?_, trivial⟩
            generalize ((m + 1 : Nat) : Int) = nn at hn0 hn1 e4 ⊢
            simp (disch := omega) only [go_sem, ↓reduceIte, Nat.reduceBEq, Nat.reduceEqDiff, Nat.reduceLT, Nat.reduceLeDiff, Nat.reduceAdd, Nat.reduceMul, Nat.reduceSub, reduceCtorEq, Int.reduceLT, Int.reduceLE, Int.reduceEq, Int.reduceBEq, Int.reduceBNe, Int.reduceToNat, Int.reduceAdd, Int.reduceNeg, Int.reduceSub, HB11, eHc, hza, hki, hkwi, hn0, hn1, e1, e2, e3, e4, wrap_i64]
            skip
          · have hkwi : ¬ (k : Int) < w := by omega
            refine ⟨s ++ [.cells [.int .i64 lw1, .int .i64 hi1]], ?_, trivial⟩
            generalize ((m + 1 : Nat) : Int) = nn at hn0 hn1 ⊢
            simp (disch := omega) only [go_sem, ↓reduceIte, Nat.reduceBEq, Nat.reduceEqDiff, Nat.reduceLT, Nat.reduceLeDiff, Nat.reduceAdd, Nat.reduceMul, Nat.reduceSub, reduceCtorEq, Int.reduceLT, Int.reduceLE, Int.reduceEq, Int.reduceBEq, Int.reduceBNe, Int.reduceToNat, Int.reduceAdd, Int.reduceNeg, Int.reduceSub, HB11, eHc, hza, hki, hkwi, hn0, hn1, e1, e2, wrap_i64]
            skip
      · intro s _
        simp only [go_sem, ↓reduceIte, Nat.reduceBEq, Nat.reduceEqDiff, Nat.reduceLT, Nat.reduceLeDiff, Nat.reduceAdd, Nat.reduceMul, Nat.reduceSub, reduceCtorEq, Int.reduceLT, Int.reduceLE, Int.reduceEq, Int.reduceBEq, Int.reduceBNe, Int.reduceToNat, Int.reduceAdd, Int.reduceNeg, Int.reduceSub, HB11, eHc, hza, Int.lt_irrefl]
      · intro s hs _
        subst hs
        refine ⟨?_, ?_⟩
        rotate_left
        · simp only [go_sem, ↓reduceIte, Nat.reduceBEq, Nat.reduceEqDiff, Nat.reduceLT, Nat.reduceLeDiff, Nat.reduceAdd, Nat.reduceMul, Nat.reduceSub, reduceCtorEq, Int.reduceLT, Int.reduceLE, Int.reduceEq, Int.reduceBEq, Int.reduceBNe, Int.reduceToNat, Int.reduceAdd, Int.reduceNeg, Int.reduceSub, h23]
          rfl
end Go.Proofs.Ytaohhjaogjcfoaa
