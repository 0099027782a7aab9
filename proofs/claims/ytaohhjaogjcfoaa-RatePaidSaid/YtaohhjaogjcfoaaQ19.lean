/- The body of RatePaid. Conditions: those of each law. -/
import Derived.Test.YtaohhjaogjcfoaaQ18
set_option linter.unusedSimpArgs false
set_option linter.unusedVariables false
namespace Go.Proofs.Ytaohhjaogjcfoaa
open Go.Proofs

/-- What an agent is paid for its entries up to one, at the least and at the most. -/
def spanE (d : Ho) (who : Int) (k : Nat) : Int × Int := foldS (payAt d who (d.en0 k).day (d.en0 k).near) (truthsL d [])
def lmTo (d : Ho) (who : Int) : Nat → Int × Int
  | 0 => (0, 0)
  | k + 1 => if (d.en0 k).agent = who then ((lmTo d who k).1 + (spanE d who k).1, (lmTo d who k).2 + (spanE d who k).2) else lmTo d who k
theorem lm_sum (d : Ho) (who : Int) {r : List Int} (hr : r ∈ truthsL d []) : ∀ k, (lmTo d who k).1 ≤ sumTo d who r k ∧ sumTo d who r k ≤ (lmTo d who k).2
  | 0 => ⟨Int.le_refl _, Int.le_refl _⟩
  | k + 1 => by
    have ih := lm_sum d who hr k
    have hb := foldS_bd (payAt d who (d.en0 k).day (d.en0 k).near) hr
    unfold lmTo sumTo spanE
    by_cases h : (d.en0 k).agent = who
    · rw [if_pos h, if_pos h]; simp only; omega
    · rw [if_neg h, if_neg h]; omega
theorem span_bd {d : Ho} (ho : d.Ok) (hne : truthsL d [] ≠ []) {x : En} (hx : x ∈ d.entries) : 0 ≤ (foldS (payAt d x.agent x.day x.near) (truthsL d [])).1 ∧ (foldS (payAt d x.agent x.day x.near) (truthsL d [])).2 ≤ 198 ∧ (foldS (payAt d x.agent x.day x.near) (truthsL d [])).1 ≤ (foldS (payAt d x.agent x.day x.near) (truthsL d [])).2 := by
  obtain ⟨t, ts, ht, hm⟩ := truths_cons ho hne
  obtain ⟨⟨r, hr, e1⟩, ⟨u, hu, e2⟩⟩ := foldS_at (payAt d x.agent x.day x.near) hne
  have b := foldS_bd (payAt d x.agent x.day x.near) hr
  have key : ∀ r ∈ truthsL d [], 0 ≤ payAt d x.agent x.day x.near r ∧ payAt d x.agent x.day x.near r ≤ 198 := fun r hr => by
    rw [ht] at hr
    obtain ⟨i, j, a, v, _, _, _, _, e, b, _⟩ := pay_at ho hx (hm r hr)
    rw [e]; exact b
  have := key r hr
  have := key u hu
  omega
theorem lm_bd {d : Ho} (ho : d.Ok) (hne : truthsL d [] ≠ []) (who : Int) : ∀ k, k ≤ d.entries.length → 0 ≤ (lmTo d who k).1 ∧ (lmTo d who k).1 ≤ 198 * k ∧ 0 ≤ (lmTo d who k).2 ∧ (lmTo d who k).2 ≤ 198 * k
  | 0, _ => ⟨Int.le_refl _, Int.le_refl _, Int.le_refl _, Int.le_refl _⟩
  | k + 1, hk => by
    have ih := lm_bd ho hne who k (by omega)
    have hk' : k < d.entries.length := by omega
    unfold lmTo
    by_cases h : (d.en0 k).agent = who
    · rw [if_pos h]
      have b := span_bd ho hne (List.getElem_mem hk')
      unfold spanE
      rw [en0_at d hk'] at h ⊢
      rw [h] at b
      simp only
      omega
    · rw [if_neg h]; omega
theorem span_told {d : Ho} (hne : truthsL d [] ≠ []) {x : En} (hx : x ∈ d.entries) (hf : x.far ≠ -1) : foldS (payAt d x.agent x.day x.near) (truthsL d []) = (x.far, x.far) := by
  obtain ⟨⟨r, hr, e1⟩, ⟨u, hu, e2⟩⟩ := foldS_at (payAt d x.agent x.day x.near) hne
  have key : ∀ r ∈ truthsL d [], payAt d x.agent x.day x.near r = x.far := fun r hr => by
    rw [truthsL_nil] at hr
    have := List.all_eq_true.1 (List.mem_filter.1 hr).2 x hx
    unfold agreesB at this
    have hb : (x.far == -1) = false := by simpa using hf
    rw [hb, Bool.false_or] at this
    exact eq_of_beq this
  rw [key r hr] at e1
  rw [key u hu] at e2
  exact Prod.ext e1 e2
theorem paidV_ok {d : Ho} (ho : d.Ok) (hne : truthsL d [] ≠ []) {who : Int} (hw : 0 ≤ who ∧ who < d.agents.length) : paidV d who = (foldS (sumAll d who) (truthsL d []), 0) := by
  unfold paidV knownE indexE
  have h1 : inR who 0 ((d.agents.length : Int) - 1) = true := by simp [inR]; omega
  simp only [checkE_ok ho, h1, if_true, if_neg hne]
theorem paid_bad {d : Ho} (h : someE d = false ∨ d.agents.length = 0) : ∃ e, e ≠ 0 ∧ paidV d 0 = ((0, 0), e) := by
  have he : knownE d (indexE d 0 d.agents.length) ≠ 0 := fun e => by
    obtain ⟨k1, k2⟩ := knownE_zero e
    obtain ⟨k3, k4, k5⟩ := indexE_zero k1
    rcases h with h | h
    · unfold someE at h
      have : (checkE d == 0) = true := by simpa using k3
      rw [this, Bool.true_and] at h
      have := of_decide_eq_false h
      exact k2 (List.eq_nil_of_length_eq_zero (by omega))
    · omega
  exact ⟨_, he, by unfold paidV; rw [if_neg he]⟩
theorem l13 (d : Ho) (hd : d.fits) (x : Int) (hx : 0 ≤ x ∧ x ≤ 255) : ∃ h', (EW tabX).call 13 [eH d, .int .u8 x] noHeap = some (.bool true, h') := by
  have hcl := eH_clean d
  have h44 := c44 d hd
  have h26 := c26 d hd
  have h23 := c23
  rw [noHeap, w_call _ fn_13 rfl]
  simp only [eH, eHc] at hcl h44 h26 ⊢
  by_cases hs : someE d = false ∨ d.agents.length = 0
  · obtain ⟨er, e1, e2⟩ := paid_bad hs
    have q := h26 0
    rw [e2] at q
    have hne : (er != 0) = true := by simpa using e1
    simp only [vS, eSp] at q
    refine ⟨?_, ?_⟩
    rotate_left
    · rcases hs with hs | hs
      · rw [hs] at h44
        simp only [go_sem, ↓reduceIte, Nat.reduceBEq, Nat.reduceEqDiff, Nat.reduceLT, Nat.reduceLeDiff, Nat.reduceAdd, Nat.reduceMul, Nat.reduceSub, reduceCtorEq, Int.reduceLT, Int.reduceLE, Int.reduceEq, Int.reduceBEq, Int.reduceBNe, Int.reduceToNat, Int.reduceAdd, Int.reduceNeg, Int.reduceSub, h44, q, h23, hne]
        rfl
      · have ha : ((d.agents.length : Int) == 0) = true := by simpa using hs
        cases hq : someE d with
        | true =>
          rw [hq] at h44
          simp only [go_sem, ↓reduceIte, Nat.reduceBEq, Nat.reduceEqDiff, Nat.reduceLT, Nat.reduceLeDiff, Nat.reduceAdd, Nat.reduceMul, Nat.reduceSub, reduceCtorEq, Int.reduceLT, Int.reduceLE, Int.reduceEq, Int.reduceBEq, Int.reduceBNe, Int.reduceToNat, Int.reduceAdd, Int.reduceNeg, Int.reduceSub, h44, q, h23, hne, ha]
        | false =>
          rw [hq] at h44
          simp only [go_sem, ↓reduceIte, Nat.reduceBEq, Nat.reduceEqDiff, Nat.reduceLT, Nat.reduceLeDiff, Nat.reduceAdd, Nat.reduceMul, Nat.reduceSub, reduceCtorEq, Int.reduceLT, Int.reduceLE, Int.reduceEq, Int.reduceBEq, Int.reduceBNe, Int.reduceToNat, Int.reduceAdd, Int.reduceNeg, Int.reduceSub, h44, q, h23, hne, ha]
  have hs1 : someE d = true := by cases h : someE d with | true => rfl | false => exact absurd (.inl h) hs
  have ha0 : d.agents.length ≠ 0 := fun h => hs (.inr h)
  have hab : ((d.agents.length : Int) == 0) = false := by simpa using ha0
  rw [hs1] at h44
  unfold someE at hs1
  rw [Bool.and_eq_true, decide_eq_true_eq, beq_iff_eq, List.length_pos_iff] at hs1
  obtain ⟨k0, k1⟩ := hs1
  have ho := ok_of_E k0
  have he5 := ho.e5
  have ha3 := ho.a3
  have t1 : x.tmod (d.agents.length : Int) = x % d.agents.length := Int.tmod_eq_emod_of_nonneg hx.1
  have hw : 0 ≤ x % (d.agents.length : Int) ∧ x % (d.agents.length : Int) < d.agents.length := ⟨Int.emod_nonneg _ (by omega), Int.emod_lt_of_pos _ (by omega)⟩
  have hnz : (d.agents.length : Int) ≠ 0 := by omega
  generalize x % (d.agents.length : Int) = who at t1 hw
  have q := h26 who
  rw [paidV_ok ho k1 hw] at q
  -- what is paid in all is within what is told, or can be
  have hin : (lmTo d who d.entries.length).1 ≤ (foldS (sumAll d who) (truthsL d [])).1 ∧ (foldS (sumAll d who) (truthsL d [])).2 ≤ (lmTo d who d.entries.length).2 ∧ (foldS (sumAll d who) (truthsL d [])).1 ≤ (foldS (sumAll d who) (truthsL d [])).2 := by
    obtain ⟨⟨r, hr, e1⟩, ⟨u, hu, e2⟩⟩ := foldS_at (sumAll d who) k1
    have b1 := lm_sum d who hr d.entries.length
    have b2 := lm_sum d who hu d.entries.length
    have b3 := foldS_bd (sumAll d who) hr
    rw [e1, e2] at *
    unfold sumAll at *
    omega
  have hbd := lm_bd ho k1 who
  generalize foldS (sumAll d who) (truthsL d []) = S at q hin
  obtain ⟨s1, s2⟩ := S
  simp only at hin
  obtain ⟨i1, i2, i3⟩ := hin
  simp only [vS, eSp] at q
  simp (disch := omega) only [go_sem, ↓reduceIte, Nat.reduceBEq, Nat.reduceEqDiff, Nat.reduceLT, Nat.reduceLeDiff, Nat.reduceAdd, Nat.reduceMul, Nat.reduceSub, reduceCtorEq, Int.reduceLT, Int.reduceLE, Int.reduceEq, Int.reduceBEq, Int.reduceBNe, Int.reduceToNat, Int.reduceAdd, Int.reduceNeg, Int.reduceSub, h44, q, h23, hab, t1, hnz, wrap_i64]
  generalize hy : (EW tabX).code 13 none (Code.loop _) _ = y
  refine w_rounds_sk hy (fun k (s : List ABlk) => [(10, .int .i64 (lmTo d who k).1), (11, .int .i64 (lmTo d who k).2), (12, .int .i64 k)]) (fun s => ⟨.cells (eHc d) :: .cells [.int .i64 s1, .int .i64 s2] :: s, []⟩) (fun _ _ => True) d.entries.length (.exit 0)
    (fun _ => [(10, .int .i64 (lmTo d who d.entries.length).1), (11, .int .i64 (lmTo d who d.entries.length).2), (12, .int .i64 d.entries.length)]) rfl [] ?_ ?_ trivial ?_ ?_ ?_
  · simp only [go_sem, ↓reduceIte, Nat.reduceBEq, Nat.reduceEqDiff, Nat.reduceLT, Nat.reduceLeDiff, Nat.reduceAdd, Nat.reduceMul, Nat.reduceSub, reduceCtorEq, Int.reduceLT, Int.reduceLE, Int.reduceEq, Int.reduceBEq, Int.reduceBNe, Int.reduceToNat, Int.reduceAdd, Int.reduceNeg, Int.reduceSub, lmTo]
  · simp only [go_sem, ↓reduceIte, Nat.reduceBEq, Nat.reduceEqDiff, Nat.reduceLT, Nat.reduceLeDiff, Nat.reduceAdd, Nat.reduceMul, Nat.reduceSub, reduceCtorEq, Int.reduceLT, Int.reduceLE, Int.reduceEq, Int.reduceBEq, Int.reduceBNe, Int.reduceToNat, Int.reduceAdd, Int.reduceNeg, Int.reduceSub, eHc]
  · intro k s hk _
    have hki : (k : Int) < d.entries.length := by omega
    have hx := List.getElem?_eq_getElem hk
    have hze := hd.ze (by intro e; rw [e] at hk; simp at hk)
    have e0 := en0_at d hk
    have hxm := List.getElem_mem hk
    have hb0 := hbd k (by omega)
    have hst : lmTo d who (k + 1) = if d.entries[k].agent = who then ((lmTo d who k).1 + (spanE d who k).1, (lmTo d who k).2 + (spanE d who k).2) else lmTo d who k := by rw [← e0]; rfl
    have hsp : spanE d who k = foldS (payAt d who d.entries[k].day d.entries[k].near) (truthsL d []) := by unfold spanE; rw [e0]
    rw [hst]
    generalize d.entries[k] = x at *
    by_cases hag : x.agent = who
    · rw [if_pos hag]
      have hne : (x.agent != who) = false := by simp [hag]
      have sb := span_bd ho k1 hxm
      have tl := span_told k1 hxm
      rw [hag, ← hsp] at sb tl
      obtain ⟨a1, a2, a3, a4, a5, a6, a7, a8⟩ := ho.en x hxm
      have h24 := c24 d hd who x.day x.near
      rw [worthV_ok ho k1 hw ⟨a3, a4⟩ ⟨a5, a6⟩, ← hsp] at h24
      generalize spanE d who k = w at *
      obtain ⟨wl, wh⟩ := w
      simp only at sb tl
      have g35 := c35 x.far x.far
      refine ⟨s ++ [bEn x, .cells [.int .i64 wl, .int .i64 wh]], ?_, trivial⟩
      simp only [vS, eSp, eH, eHc, hze] at h24 g35 hcl
      by_cases hf : x.far = -1
      · simp (disch := omega) only [go_sem, ↓reduceIte, Nat.reduceBEq, Nat.reduceEqDiff, Nat.reduceLT, Nat.reduceLeDiff, Nat.reduceAdd, Nat.reduceMul, Nat.reduceSub, reduceCtorEq, Int.reduceLT, Int.reduceLE, Int.reduceEq, Int.reduceBEq, Int.reduceBNe, Int.reduceToNat, Int.reduceAdd, Int.reduceNeg, Int.reduceSub, eHc, hki, hze, hx, eEn, bEn, hag, bne_self_eq_false, h24, hf, wrap_i64]
        skip
      · obtain ⟨rfl, rfl⟩ := Prod.mk.inj (tl hf)
        have hfb : (x.far != -1) = true := by simpa using hf
        simp (disch := omega) only [go_sem, ↓reduceIte, Nat.reduceBEq, Nat.reduceEqDiff, Nat.reduceLT, Nat.reduceLeDiff, Nat.reduceAdd, Nat.reduceMul, Nat.reduceSub, reduceCtorEq, Int.reduceLT, Int.reduceLE, Int.reduceEq, Int.reduceBEq, Int.reduceBNe, Int.reduceToNat, Int.reduceAdd, Int.reduceNeg, Int.reduceSub, eHc, hki, hze, hx, eEn, bEn, hag, bne_self_eq_false, h24, g35, hfb, aggBin, eqCells2, decide_true, wrap_i64]
        skip
    · rw [if_neg hag]
      have hne : (x.agent != who) = true := by simpa using hag
      refine ⟨s ++ [bEn x], ?_, trivial⟩
      simp (disch := omega) only [go_sem, ↓reduceIte, Nat.reduceBEq, Nat.reduceEqDiff, Nat.reduceLT, Nat.reduceLeDiff, Nat.reduceAdd, Nat.reduceMul, Nat.reduceSub, reduceCtorEq, Int.reduceLT, Int.reduceLE, Int.reduceEq, Int.reduceBEq, Int.reduceBNe, Int.reduceToNat, Int.reduceAdd, Int.reduceNeg, Int.reduceSub, eHc, hki, hze, hx, eEn, bEn, hne, wrap_i64]
      skip
  · intro s _
    simp only [go_sem, ↓reduceIte, Nat.reduceBEq, Nat.reduceEqDiff, Nat.reduceLT, Nat.reduceLeDiff, Nat.reduceAdd, Nat.reduceMul, Nat.reduceSub, reduceCtorEq, Int.reduceLT, Int.reduceLE, Int.reduceEq, Int.reduceBEq, Int.reduceBNe, Int.reduceToNat, Int.reduceAdd, Int.reduceNeg, Int.reduceSub, eHc, Int.lt_irrefl]
  · intro s hs _
    subst hs
    refine ⟨?_, ?_⟩
    rotate_left
    · simp only [go_sem, ↓reduceIte, Nat.reduceBEq, Nat.reduceEqDiff, Nat.reduceLT, Nat.reduceLeDiff, Nat.reduceAdd, Nat.reduceMul, Nat.reduceSub, reduceCtorEq, Int.reduceLT, Int.reduceLE, Int.reduceEq, Int.reduceBEq, Int.reduceBNe, Int.reduceToNat, Int.reduceAdd, Int.reduceNeg, Int.reduceSub, i1, i2, i3, h23]
      rfl
end Go.Proofs.Ytaohhjaogjcfoaa
