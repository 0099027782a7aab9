/- The body of RateRound. Conditions: those of each law. -/
import Derived.Test.YtaohhjaogjcfoaaQ18
set_option linter.unusedSimpArgs false
set_option linter.unusedVariables false
namespace Go.Proofs.Ytaohhjaogjcfoaa
open Go.Proofs

theorem someE_alike {d : Ho} {f r : Int} : someE (d.alike f r) = true ↔ checkE (d.alike f r) = 0 ∧ truthsL (d.alike f r) [] ≠ [] := by
  unfold someE
  rw [Bool.and_eq_true, decide_eq_true_eq, beq_iff_eq, List.length_pos_iff]
theorem worth_bad {d : Ho} {f r near : Int} (h : someE (d.alike f r) = false) (hn : 0 ≤ near ∧ near ≤ 99) : ∃ e, e ≠ 0 ∧ worthV (d.alike f r) 0 0 near = ((0, 0), e) := by
  have he : worthE (d.alike f r) 0 0 near ≠ 0 := fun e => by
    obtain ⟨k0, _, _, _, k4⟩ := worthE_zero e
    have := someE_alike.2 ⟨k0, k4⟩
    rw [h] at this; cases this
  exact ⟨_, he, by unfold worthV; rw [if_neg he]⟩
set_option maxRecDepth 100000 in
theorem l12 (d : Ho) (hd : d.fits) (x : Int × Int × Int × Int) (hx : (0 ≤ x.1 ∧ x.1 ≤ 255) ∧ (0 ≤ x.2.1 ∧ x.2.1 ≤ 255) ∧ (0 ≤ x.2.2.1 ∧ x.2.2.1 ≤ 255) ∧ (0 ≤ x.2.2.2 ∧ x.2.2.2 ≤ 255)) :
    ∃ h', (EW tabX).call 12 [eH d, .agg [.int .u8 x.1, .int .u8 x.2.1, .int .u8 x.2.2.1, .int .u8 x.2.2.2]] noHeap = some (.bool true, h') := by
  obtain ⟨a, b, c, e⟩ := x
  obtain ⟨ha, hb, hc, he⟩ := hx
  simp only at ha hb hc he
  have eD : eH d = .agg [.int .i64 d.days, .lst 0 d.zr (d.rates.map eSp), .int .i64 d.step, .lst 0 d.za (d.agents.map eAg), .lst 0 d.ze (d.entries.map eEn)] := rfl
  have hcl := eH_clean d
  have h48 := c48 d
  have h23 := c23
  have t1 : a.tmod 21 = a % 21 := Int.tmod_eq_emod_of_nonneg ha.1
  have t2 : b.tmod 100 = b % 100 := Int.tmod_eq_emod_of_nonneg hb.1
  generalize hf : a % 21 = fee at t1
  generalize hn : b % 100 = near at t2
  have hfee : 0 ≤ fee ∧ fee ≤ 20 := by omega
  have hnear : 0 ≤ near ∧ near ≤ 99 := by omega
  have h44 := c44 (d.alike fee 0) (fits_alike hd fee 0)
  have h24 := fun (day near : Int) => c24 (d.alike fee 0) (fits_alike hd fee 0) 0 day near
  rw [noHeap, w_call _ fn_12 rfl]
  simp only [eD] at h48 hcl ⊢
  have ez : ∀ f r, eH (d.alike f r) = .agg [.int .i64 d.days, .lst 0 d.zr (d.rates.map eSp), .int .i64 d.step, .lst 0 3 [.agg [.str nameA, .int .i64 f, .int .i64 r]], .lst 0 0 []] := fun f r => rfl
  simp only [ez] at h48 h44 h24
  cases hs : someE (d.alike fee 0) with
  | false =>
    rw [hs] at h44
    obtain ⟨er, e1, e2⟩ := worth_bad hs hnear
    have q := h24 0 near
    rw [e2] at q
    have hne : (er != 0) = true := by simpa using e1
    simp only [vS, eSp] at q
    refine ⟨?_, ?_⟩
    rotate_left
    · simp (disch := omega) only [go_sem, ↓reduceIte, Nat.reduceBEq, Nat.reduceEqDiff, Nat.reduceLT, Nat.reduceLeDiff, Nat.reduceAdd, Nat.reduceMul, Nat.reduceSub, reduceCtorEq, Int.reduceLT, Int.reduceLE, Int.reduceEq, Int.reduceBEq, Int.reduceBNe, Int.reduceToNat, Int.reduceAdd, Int.reduceNeg, Int.reduceSub, h48, h44, q, h23, t1, t2, hne, wrap_i64]
      rfl
  | true =>
    rw [hs] at h44
    obtain ⟨k0, k1⟩ := someE_alike.1 hs
    have ho := ok_of_E k0
    have hd1 : 1 ≤ d.days := ho.d1
    have hd3 : d.days ≤ 3 := ho.d3
    have hrd : (d.rates.length : Int) = d.days := ho.rd
    have t3 : c.tmod d.days = c % d.days := Int.tmod_eq_emod_of_nonneg hc.1
    have hdy : 0 ≤ c % d.days ∧ c % d.days < d.days := ⟨Int.emod_nonneg _ (by omega), Int.emod_lt_of_pos _ (by omega)⟩
    have hdz : d.days ≠ 0 := by omega
    generalize c % d.days = day at t3 hdy
    have t4 : e.tmod 5 = e % 5 := Int.tmod_eq_emod_of_nonneg he.1
    have t5 : e.tmod 9 = e % 9 := Int.tmod_eq_emod_of_nonneg he.1
    have e5 : 0 ≤ e % 5 ∧ e % 5 < 5 := by omega
    have e9 : 0 ≤ e % 9 ∧ e % 9 < 9 := by omega
    generalize e % 5 = c5 at t4 e5
    generalize e % 9 = c9 at t5 e9
    -- the least and the greatest rate
    have hL := alike_truths d
    have hne : ratesL d d.rates.length ≠ [] := by rw [← hL fee 0]; exact k1
    have wp : ∀ (f r n : Int), 0 ≤ f ∧ f ≤ 20 → 0 ≤ r ∧ r ≤ 2 → 0 ≤ n ∧ n ≤ 99 → worthV (d.alike f r) 0 day n = ((payR ⟨nameA, f, r⟩ n (foldS (fun r => r.getD day.toNat 0) (ratesL d d.rates.length)).1, payR ⟨nameA, f, r⟩ n (foldS (fun r => r.getD day.toNat 0) (ratesL d d.rates.length)).2), 0) := fun f r n h1 h2 h3 => by
      have := worth_pay (alike_ok ho h1 h2) (by rw [hL]; exact hne) (who := 0) (day := day) (near := n) (by show (0 : Int) ≤ 0 ∧ (0 : Int) < ((1 : Nat) : Int); decide) hdy h3
      rw [hL] at this
      exact this
    have hbd : ∀ v, ((∃ r ∈ ratesL d d.rates.length, v = r.getD day.toNat 0)) → 0 ≤ v ∧ v ≤ 20 := fun v ⟨r, hr, hv⟩ => by
      have h1 := ratesL_mem d _ r hr
      have h2 := ratesL_bd ho _ (Nat.le_refl _) r (by rw [ratesL_congr (h := d.alike fee 0) (k := d) rfl rfl]; exact hr)
      have hl : day.toNat < r.length := by omega
      have e1 : r.getD day.toNat 0 = r[day.toNat] := by simp [hl]
      have := h2 _ (List.getElem_mem hl)
      omega
    obtain ⟨a1, a2⟩ := foldS_at (fun r => r.getD day.toNat 0) hne
    have hlo := hbd _ a1
    have hhi := hbd _ a2
    generalize foldS (fun r => r.getD day.toNat 0) (ratesL d d.rates.length) = S at wp hlo hhi
    obtain ⟨lo, hi⟩ := S
    simp only at wp hlo hhi
    have fl : 0 ≤ (if fee - c5 > 0 then fee - c5 else 0) ∧ (if fee - c5 > 0 then fee - c5 else 0) ≤ 20 ∧ (if fee - c5 > 0 then fee - c5 else 0) ≤ fee := by split <;> omega
    have nm : 0 ≤ (if near + c9 < 99 then near + c9 else 99) ∧ (if near + c9 < 99 then near + c9 else 99) ≤ 99 ∧ near ≤ (if near + c9 < 99 then near + c9 else 99) := by split <;> omega
    generalize hfl : (if fee - c5 > 0 then fee - c5 else 0) = fee2 at fl
    generalize hnm : (if near + c9 < 99 then near + c9 else 99) = near2 at nm
    have w1 := c24 (d.alike fee 0) (fits_alike hd fee 0) 0 day near
    have w2 := c24 (d.alike fee 2) (fits_alike hd fee 2) 0 day near
    have w3 := c24 (d.alike fee 1) (fits_alike hd fee 1) 0 day near
    have w4 := c24 (d.alike fee2 0) (fits_alike hd fee2 0) 0 day near
    have w5 := c24 (d.alike fee 0) (fits_alike hd fee 0) 0 day near2
    rw [wp fee 0 near hfee (by omega) hnear] at w1
    rw [wp fee 2 near hfee (by omega) hnear] at w2
    rw [wp fee 1 near hfee (by omega) hnear] at w3
    rw [wp fee2 0 near (by omega) (by omega) hnear] at w4
    rw [wp fee 0 near2 hfee (by omega) (by omega)] at w5
    have p1 := round_le nameA fee near lo
    have p2 := round_le nameA fee near hi
    have p3 := pay_fee nameA (near := near) (near' := near) (rate := lo) fl.2.2 (Int.le_refl _) hlo.1
    have p4 := pay_fee nameA (near := near) (near' := near) (rate := hi) fl.2.2 (Int.le_refl _) hhi.1
    have p5 := pay_fee nameA (fee := fee) (fee' := fee) (rate := lo) (Int.le_refl _) nm.2.2 hlo.1
    have p6 := pay_fee nameA (fee := fee) (fee' := fee) (rate := hi) (Int.le_refl _) nm.2.2 hhi.1
    have b1 := payR_bd (a := ⟨nameA, fee, 0⟩) hfee hnear hlo
    have b2 := payR_bd (a := ⟨nameA, fee, 0⟩) hfee hnear hhi
    have h48b := c48 (d.alike fee 0)
    have eq2 : ∀ f r, (d.alike fee 0).alike f r = d.alike f r := fun f r => rfl
    simp only [eq2, ez] at h48b
    simp only [ez, vS, eSp] at w1 w2 w3 w4 w5
    generalize payR ⟨nameA, fee, 0⟩ near lo = x1 at *
    generalize payR ⟨nameA, fee, 0⟩ near hi = y1 at *
    generalize payR ⟨nameA, fee, 2⟩ near lo = x2 at *
    generalize payR ⟨nameA, fee, 2⟩ near hi = y2 at *
    generalize payR ⟨nameA, fee, 1⟩ near lo = x3 at *
    generalize payR ⟨nameA, fee, 1⟩ near hi = y3 at *
    generalize payR ⟨nameA, fee2, 0⟩ near lo = x4 at *
    generalize payR ⟨nameA, fee2, 0⟩ near hi = y4 at *
    generalize payR ⟨nameA, fee, 0⟩ near2 lo = x5 at *
    generalize payR ⟨nameA, fee, 0⟩ near2 hi = y5 at *
    obtain ⟨p11, p12, p13⟩ := p1
    obtain ⟨p21, p22, p23⟩ := p2
    refine ⟨?_, ?_⟩
    rotate_left
    · simp (disch := omega) only [go_sem, ↓reduceIte, Nat.reduceBEq, Nat.reduceEqDiff, Nat.reduceLT, Nat.reduceLeDiff, Nat.reduceAdd, Nat.reduceMul, Nat.reduceSub, reduceCtorEq, Int.reduceLT, Int.reduceLE, Int.reduceEq, Int.reduceBEq, Int.reduceBNe, Int.reduceToNat, Int.reduceAdd, Int.reduceNeg, Int.reduceSub, h48, h48b, h44, w1, w2, w3, w4, w5, h23, t1, t2, t3, t4, t5, hdz, hfl, hnm, wrap_i64, p11, p12, p13, p21, p22, p23, p3, p4, p5, p6, List.append_eq]
      rfl
end Go.Proofs.Ytaohhjaogjcfoaa
