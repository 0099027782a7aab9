/- When a drawer is valid; more wear. Conditions: those of each law. -/
import Derived.Test.YtbfodfepgefloaaQ21
set_option linter.unusedSimpArgs false
set_option linter.unusedVariables false
namespace Go.Proofs.Ytbfodfepgefloaa
open Go.Proofs

theorem tmod_rng {x m : Int} (hx : 0 ≤ x) (hm : 0 < m) : 0 ≤ x.tmod m ∧ x.tmod m < m := by
  rw [Int.tmod_eq_emod_of_nonneg hx]
  exact ⟨Int.emod_nonneg _ (by omega), Int.emod_lt_of_pos _ hm⟩
theorem flawE_ok {l : List Card} {i : Nat} {x : Card} (hx : l[i]? = some x) (long : Int → Bool) (least : Int) (h1 : nameOk x.name = true) (h2 : ∀ j y, l[j]? = some y → j < i → y.name ≠ x.name) (h3 : long x.edge.length = false) (h4 : ∀ n ∈ x.edge, least ≤ n ∧ n ≤ 9) : flawE l i long least = 0 := by
  rcases flawE_cases hx long least with ⟨a, _⟩ | ⟨_, a, _⟩ | ⟨_, _, a, _⟩ | ⟨_, _, _, a, _⟩ | ⟨_, _, _, _, e⟩
  · rw [h1] at a; cases a
  · rw [List.any_eq_true] at a
    obtain ⟨y, hy, he⟩ := a
    obtain ⟨j, hj, e⟩ := List.mem_iff_getElem.1 hy
    rw [List.length_take] at hj
    rw [List.getElem_take] at e
    exact absurd ((ba_beq _ _).1 he) (h2 j y (by rw [List.getElem?_eq_getElem (by omega), e]) (by omega))
  · rw [h3] at a; cases a
  · have : (x.edge.all fun n => inR n least 9) = true := by
      rw [List.all_eq_true]
      intro n hn
      have := h4 n hn
      simp only [inR, Bool.and_eq_true, decide_eq_true_eq]; exact this
    rw [this] at a; cases a
  · exact e
theorem noneBad {e : Nat → Int} {n : Nat} (h : ∀ i, i < n → e i = 0) : firstBad e 0 n = none := by
  cases hf : firstBad e 0 n with
  | none => rfl
  | some j =>
    obtain ⟨_, h1, h2, _⟩ := firstBad_some hf
    exact absurd (h j (by omega)) h2
/-- A drawer that is as a valid one is, is valid. -/
theorem check_of_ok {d : Dr} (ho : d.Ok) : checkT d = (0, 0, 0) := by
  refine checkT6 ?_ (by have := ho.c4; omega) (noneBad fun i hi => ?_) (by have := ho.h4; omega) (noneBad fun i hi => ?_)
  · have := ho.s1; have := ho.s6; have := ho.l1; have := ho.ls; have := ho.w0; have := ho.w9
    simp only [out, Bool.or_eq_false_iff, decide_eq_false_iff_not]; omega
  · have hx := List.getElem?_eq_getElem hi
    have hm := List.getElem_mem hi
    refine flawE_ok hx _ _ (ho.ck _ hm) (fun j y hy hj => ho.cn i j _ y hx hy hj) ?_ (ho.ce _ hm).2
    have := (ho.ce _ hm).1
    simp [this]
  · have hx := List.getElem?_eq_getElem hi
    have hm := List.getElem_mem hi
    refine flawE_ok hx _ _ (ho.hk _ hm) (fun j y hy hj => ho.hn i j _ y hx hy hj) ?_ (ho.he _ hm).2.2
    have := ho.he _ hm
    simp only [out, Bool.or_eq_false_iff, decide_eq_false_iff_not]; omega
theorem checked {d : Dr} (ho : d.Ok) : (checkT d).2.2 = 0 := by rw [check_of_ok ho]

/-- A drawer with more wear and a lesser length that is asked for. -/
structure Wider (d e : Dr) : Prop where
  st : e.steps = d.steps
  cs : e.cards = d.cards
  hs : e.halves = d.halves
  w : d.wear ≤ e.wear
  l : e.least ≤ d.least
theorem fit1_more {w v c h : Int} (hw : w ≤ v) (hf : fit1 w c h = true) : fit1 v c h = true := by
  unfold fit1 at hf ⊢
  simp only [inR, Bool.or_eq_true, beq_iff_eq, Bool.and_eq_true, decide_eq_true_eq] at hf ⊢
  omega
theorem beside_more {w v : Int} (hw : w ≤ v) {a b : List Int} {s : Nat} (h : besideB w a b s = true) : besideB v a b s = true := by
  unfold besideB at h ⊢
  simp only [Bool.and_eq_true] at h ⊢
  exact ⟨h.1, allTo_iff.2 fun k hk => fit1_more hw (allTo_iff.1 h.2 k hk)⟩
theorem mem_fitN {d : Dr} {c e : Nat} {x : Int} : x ∈ fitN d c e ↔ ∃ s : Nat, s < d.steps.toNat ∧ x = s ∧ besideB d.wear (cardE d c) (d.halves.getD e ⟨default, []⟩).edge s = true := by
  unfold fitN fitsL
  rw [List.mem_map]
  constructor
  · rintro ⟨s, hs, rfl⟩
    obtain ⟨h1, h2⟩ := List.mem_filter.1 hs
    exact ⟨s, by simpa using h1, rfl, h2⟩
  · rintro ⟨s, h1, rfl, h2⟩
    exact ⟨s, List.mem_filter.2 ⟨by simpa using h1, h2⟩, rfl⟩
theorem okHC_iff {d : Dr} {e c : Nat} : okHC d e c = true ↔ ∃ s : Nat, s < d.steps.toNat ∧ besideB d.wear (cardE d c) (d.halves.getD e ⟨default, []⟩).edge s = true := by
  have h : okHC d e c = true ↔ fitN d c e ≠ [] := by
    unfold okHC
    rw [decide_eq_true_eq, List.length_pos_iff]
    rfl
  rw [h]
  constructor
  · intro h
    obtain ⟨x, hx⟩ := List.exists_mem_of_ne_nil _ h
    obtain ⟨s, h1, _, h2⟩ := mem_fitN.1 hx
    exact ⟨s, h1, h2⟩
  · rintro ⟨s, h1, h2⟩ h
    have := (mem_fitN (x := (s : Int))).2 ⟨s, h1, rfl, h2⟩
    rw [h] at this; cases this
theorem Wider.fit {d e : Dr} (hw : Wider d e) {c i : Nat} {x : Int} (h : x ∈ fitN d c i) : x ∈ fitN e c i := by
  obtain ⟨s, h1, h2, h3⟩ := mem_fitN.1 h
  refine mem_fitN.2 ⟨s, by rw [hw.st]; exact h1, h2, ?_⟩
  unfold cardE
  rw [hw.cs, hw.hs]
  exact beside_more hw.w h3
theorem Wider.ok {d e : Dr} (hw : Wider d e) {c i : Nat} (h : okHC d i c = true) : okHC e i c = true := by
  obtain ⟨s, h1, h2⟩ := okHC_iff.1 h
  have := hw.fit (mem_fitN.2 ⟨s, h1, rfl, h2⟩)
  obtain ⟨s', h1', _, h2'⟩ := mem_fitN.1 this
  exact okHC_iff.2 ⟨s', h1', h2'⟩
/-- A truth stays one where more fits. -/
theorem truth_more {d e : Dr} {n : Nat} {t : List Int} (hc : d.cards.length ≤ e.cards.length) (hok : ∀ i c, i < n → c < d.cards.length → okHC d i c = true → okHC e i c = true) (h : IsTruth d n t) : IsTruth e n t :=
  ⟨h.1, fun i hi => by
    rcases h.2 i hi with h1 | ⟨c, h1, h2, h3, h4⟩
    · exact .inl h1
    · exact .inr ⟨c, by omega, h2, hok i c hi h1 h3, h4⟩⟩
theorem first_le {d e : Dr} (hh : e.halves.length = d.halves.length) (hc : d.cards.length ≤ e.cards.length) (hok : ∀ i c, i < d.halves.length → c < d.cards.length → okHC d i c = true → okHC e i c = true) : lostN (first e) ≤ lostN (first d) := by
  have h1 := truth_more hc hok (fair_truth (first_mem d))
  rw [← hh] at h1
  have h2 := least_le h1
  have h3 := (mem_fair.1 (first_mem e)).2
  omega
theorem Wider.lost {d e : Dr} (hw : Wider d e) : (forged e).length ≤ (forged d).length := by
  rw [forged_many, forged_many]
  exact first_le (by rw [hw.hs]) (by rw [hw.cs]; exact Nat.le_refl _) fun i c _ _ h => hw.ok h
theorem near_more {w v : Int} (hw : w ≤ v) {a b : List Int} {m : Nat} (h : nearB w a b m = true) : nearB v a b m = true := by
  obtain ⟨i, k, h1, h2, h3⟩ := nearB_iff.1 h
  refine nearB_iff.2 ⟨i, k, h1, h2, fun n hn => ?_⟩
  have := h3 n hn
  simp only [inR, Bool.and_eq_true, decide_eq_true_eq] at this ⊢
  omega
theorem Wider.alike {d e : Dr} (hw : Wider d e) {a b : Nat} (h : alikeB d a b = true) : alikeB e a b = true := by
  unfold alikeB cardE at h ⊢
  rw [hw.cs]
  have := hw.l
  exact near_more hw.w (nearB_less h (by omega))
theorem Wider.met {d e : Dr} (hw : Wider d e) {m : Nat} (h : metB d m = true) : metB e m = true := by
  obtain ⟨i, h1, h2⟩ := anyTo_iff.1 h
  obtain ⟨k, h3, h4⟩ := anyTo_iff.1 h2
  refine anyTo_iff.2 ⟨i, by rw [hw.cs]; exact h1, anyTo_iff.2 ⟨k, h3, ?_⟩⟩
  unfold cardE at h4 ⊢
  rw [hw.cs]; exact near_more hw.w h4
theorem enough_none {d : Dr} (hc : (checkT d).2.2 = 0) : (enoughR d).2 = 9 ↔ ∀ k, k < d.steps.toNat → metB d (k + 1) = true := by
  unfold enoughR
  rw [if_pos hc]
  rcases find_range (fun k => !metB d (k + 1)) d.steps.toNat with ⟨f1, f2⟩ | ⟨n, f1, f2, f3, f4⟩
  · rw [f1]
    constructor
    · intro _ k hk
      have := allTo_at f2 hk
      simpa using this
    · intro _; rfl
  · rw [f1]
    constructor
    · intro h; cases h
    · intro h
      have := h n f2
      rw [this] at f3; cases f3
theorem enough_before {d : Dr} (hc : (checkT d).2.2 = 0) {m : Nat} (h : enoughR d = ((m : Int), 0)) : ∀ k, 1 ≤ k → k < m → metB d k = true := by
  unfold enoughR at h
  rw [if_pos hc] at h
  rcases find_range (fun k => !metB d (k + 1)) d.steps.toNat with ⟨f1, f2⟩ | ⟨n, f1, f2, f3, f4⟩
  · rw [f1] at h; simp at h
  · rw [f1] at h
    simp at h
    intro k h1 h2
    have := allTo_at f4 (show k - 1 < n by omega)
    rw [show k - 1 + 1 = k by omega] at this
    simpa using this
theorem Wider.enough {d e : Dr} (hw : Wider d e) (hc : (checkT d).2.2 = 0) (he : (checkT e).2.2 = 0) : ((enoughR d).2 = 9 ∧ (enoughR e).2 = 9) ∨ ((enoughR d).2 = 0 ∧ ((enoughR e).2 = 9 ∨ (enoughR e).2 = 0 ∧ (enoughR d).1 ≤ (enoughR e).1)) := by
  rcases enough_two hc with h0 | ⟨_, h9⟩
  · refine .inr ⟨h0, ?_⟩
    rcases enough_two he with g0 | ⟨_, g9⟩
    · refine .inr ⟨g0, ?_⟩
      obtain ⟨m, m1, m2, m3, m4⟩ := enough_some hc h0
      obtain ⟨n, n1, n2, n3, n4⟩ := enough_some he g0
      rw [m1, n1]
      have hb := enough_before hc (m := m) (Prod.ext m1 h0)
      by_cases hlt : n < m
      · have := hw.met (hb n n2 hlt)
        rw [n4] at this; cases this
      · omega
    · exact .inl g9
  · refine .inl ⟨h9, (enough_none he).2 fun k hk => hw.met ((enough_none hc).1 h9 k (by rw [← hw.st]; exact hk))⟩
end Go.Proofs.Ytbfodfepgefloaa
