/- What truths are, in plain words. Conditions: those of each law. -/
import Derived.Test.YtbfodfepgefloaaQ19
set_option linter.unusedSimpArgs false
set_option linter.unusedVariables false
namespace Go.Proofs.Ytbfodfepgefloaa
open Go.Proofs

/-- What it is for a row to be a truth of so many halves. -/
def IsTruth (d : Dr) (e : Nat) (t : List Int) : Prop := t.length = e ∧ ∀ i, i < e → t.getD i 0 = -1 ∨ ∃ c : Nat, c < d.cards.length ∧ t.getD i 0 = (c : Int) ∧ okHC d i c = true ∧ ∀ j, j < i → t.getD j 0 ≠ (c : Int)
theorem getD_app_lt {t : List Int} {x : Int} {i : Nat} (h : i < t.length) : (t ++ [x]).getD i 0 = t.getD i 0 := by
  rw [List.getD_eq_getElem?_getD, List.getElem?_append_left h, ← List.getD_eq_getElem?_getD]
theorem getD_app_eq (t : List Int) (x : Int) : (t ++ [x]).getD t.length 0 = x := by simp
theorem any_getD (t : List Int) (c : Int) : (t.any fun x => x == c) = true ↔ ∃ j, j < t.length ∧ t.getD j 0 = c := by
  rw [List.any_eq_true]
  constructor
  · rintro ⟨x, hx, h⟩
    obtain ⟨i, hi, e⟩ := List.mem_iff_getElem.1 hx
    refine ⟨i, hi, ?_⟩
    rw [List.getD_eq_getElem?_getD, List.getElem?_eq_getElem hi, e]
    simpa using h
  · rintro ⟨j, hj, h⟩
    rw [List.getD_eq_getElem?_getD, List.getElem?_eq_getElem hj] at h
    exact ⟨_, List.getElem_mem hj, by simpa using h⟩
theorem mem_extK {d : Dr} {e : Nat} {u t : List Int} {n : Nat} : t ∈ extK d e u n ↔ ∃ k, k < n ∧ may d e u k = true ∧ t = u ++ [(k : Int) - 1] := by
  unfold extK
  rw [List.mem_map]
  constructor
  · rintro ⟨k, hk, rfl⟩
    obtain ⟨h1, h2⟩ := List.mem_filter.1 hk
    exact ⟨k, by simpa using h1, h2, rfl⟩
  · rintro ⟨k, h1, h2, rfl⟩
    exact ⟨k, List.mem_filter.2 ⟨by simpa using h1, h2⟩, rfl⟩
theorem mem_truths (d : Dr) : ∀ (e : Nat) (t : List Int), t ∈ truthsL d e ↔ IsTruth d e t
  | 0, t => by
    simp only [truthsL, List.mem_singleton, IsTruth]
    constructor
    · rintro rfl; exact ⟨rfl, fun i hi => absurd hi (Nat.not_lt_zero _)⟩
    · rintro ⟨h, _⟩; exact List.eq_nil_of_length_eq_zero h
  | e + 1, t => by
    unfold truthsL
    rw [List.mem_flatMap]
    constructor
    · rintro ⟨u, hu, ht⟩
      obtain ⟨k, hk, hm, rfl⟩ := mem_extK.1 ht
      obtain ⟨hl, hi⟩ := (mem_truths d e u).1 hu
      subst hl
      refine ⟨by simp, fun i hi' => ?_⟩
      by_cases h : i < u.length
      · rw [getD_app_lt h]
        rcases hi i h with h1 | ⟨c, h1, h2, h3, h4⟩
        · exact .inl h1
        · exact .inr ⟨c, h1, h2, h3, fun j hj => by rw [getD_app_lt (by omega)]; exact h4 j hj⟩
      · obtain rfl : i = u.length := by omega
        rw [getD_app_eq]
        cases k with
        | zero => exact .inl (by simp)
        | succ c =>
          unfold may at hm
          simp only [Bool.and_eq_true, Bool.not_eq_true'] at hm
          refine .inr ⟨c, by omega, by omega, hm.2, fun j hj => ?_⟩
          rw [getD_app_lt hj]
          intro h
          have := (any_getD u c).2 ⟨j, hj, h⟩
          rw [hm.1] at this; cases this
    · rintro ⟨hl, hi⟩
      have hne : t ≠ [] := by intro h; rw [h] at hl; simp at hl
      obtain ⟨u, x, rfl⟩ : ∃ u x, t = u ++ [x] := ⟨t.dropLast, t.getLast hne, (List.dropLast_concat_getLast hne).symm⟩
      have hul : u.length = e := by simpa using hl
      subst hul
      have hx := hi u.length (by omega)
      rw [getD_app_eq] at hx
      refine ⟨u, (mem_truths d u.length u).2 ⟨rfl, fun i h => ?_⟩, mem_extK.2 ?_⟩
      · have := hi i (by omega)
        rw [getD_app_lt h] at this
        rcases this with h1 | ⟨c, h1, h2, h3, h4⟩
        · exact .inl h1
        · refine .inr ⟨c, h1, h2, h3, fun j hj => ?_⟩
          have := h4 j hj
          rwa [getD_app_lt (by omega)] at this
      · rcases hx with h1 | ⟨c, h1, h2, h3, h4⟩
        · exact ⟨0, by omega, rfl, by rw [h1]; simp⟩
        · refine ⟨c + 1, by omega, ?_, by rw [h2]; simp⟩
          unfold may
          simp only [Bool.and_eq_true, Bool.not_eq_true']
          refine ⟨?_, h3⟩
          cases ha : u.any fun x => x == (c : Int) with
          | false => rfl
          | true =>
            obtain ⟨j, hj, he⟩ := (any_getD u c).1 ha
            have := h4 j hj
            rw [getD_app_lt hj] at this
            exact absurd he this
theorem fair_truth {d : Dr} {t : List Int} (h : t ∈ fairL d) : IsTruth d d.halves.length t := (mem_truths d _ t).1 (fairL_mem h).1
theorem IsTruth.apart {d : Dr} {e : Nat} {t : List Int} (h : IsTruth d e t) {i j : Nat} (hi : i < e) (hj : j < i) (he : t.getD i 0 = t.getD j 0) : t.getD i 0 = -1 := by
  rcases h.2 i hi with h1 | ⟨c, h1, h2, h3, h4⟩
  · exact h1
  · exact absurd (he.symm.trans h2) (h4 j hj)
theorem IsTruth.rng {d : Dr} {e : Nat} {t : List Int} (h : IsTruth d e t) {i : Nat} (hi : i < e) : -1 ≤ t.getD i 0 ∧ t.getD i 0 < d.cards.length := by
  rcases h.2 i hi with h1 | ⟨c, h1, h2, h3, h4⟩ <;> omega
theorem mem_fair {d : Dr} {t : List Int} : t ∈ fairL d ↔ IsTruth d d.halves.length t ∧ lostN t = leastN (truthsL d d.halves.length) d.halves.length := by
  unfold fairL
  rw [List.mem_filter, mem_truths, decide_eq_true_eq]
/-- No truth has fewer halves forged than the fair ones. -/
theorem least_le {d : Dr} {t : List Int} (h : IsTruth d d.halves.length t) : leastN (truthsL d d.halves.length) d.halves.length ≤ lostN t :=
  (leastN_le (truthsL d d.halves.length) d.halves.length).2 t ((mem_truths d _ t).2 h)

theorem mem_whose {d : Dr} {e n : Nat} {x : Int} : x ∈ whoseL d e n ↔ ∃ c : Nat, c < n ∧ x = c ∧ ∃ t ∈ fairL d, t.getD e 0 = (c : Int) := by
  unfold whoseL
  rw [List.mem_map]
  constructor
  · rintro ⟨c, hc, rfl⟩
    obtain ⟨h1, h2⟩ := List.mem_filter.1 hc
    rw [List.any_eq_true] at h2
    obtain ⟨t, ht, h⟩ := h2
    exact ⟨c, by simpa using h1, rfl, t, ht, by simpa using h⟩
  · rintro ⟨c, h1, rfl, t, ht, h⟩
    exact ⟨c, List.mem_filter.2 ⟨by simpa using h1, List.any_eq_true.2 ⟨t, ht, by simpa using h⟩⟩, rfl⟩
theorem card_all {d : Dr} {e : Nat} (h : cardV d e ≠ -1) : ∀ t ∈ fairL d, t.getD e 0 = cardV d e := by
  have hk : allTo (okK d e) (fairL d).length = true := by
    cases ha : allTo (okK d e) (fairL d).length with
    | true => rfl
    | false => exact absurd (card_no ha) h
  obtain ⟨q1, q2⟩ := card_yes hk
  intro t ht
  obtain ⟨i, hi, e1⟩ := List.mem_iff_getElem.1 ht
  have := allTo_at hk hi
  unfold okK at this
  simp only [Bool.and_eq_true, beq_iff_eq] at this
  rw [q1, ← this.1, List.getD_eq_getElem?_getD (l := fairL d), List.getElem?_eq_getElem hi, e1]; rfl
/-- A row of ascending numbers, said by pairs. -/
theorem ris_of {l : List Int} {n : Int} (h0 : ∀ x ∈ l, 0 ≤ x ∧ x < n) (hp : l.Pairwise (· < ·)) : risB l n = true := by
  unfold risB
  rw [allTo_iff]
  intro k hk
  have e : l.getD k 0 = l[k] := by rw [List.getD_eq_getElem?_getD, List.getElem?_eq_getElem hk]; rfl
  have := h0 l[k] (List.getElem_mem hk)
  have hl : lastAt l k < l.getD k 0 := by
    cases k with
    | zero => rw [lastAt_zero, e]; omega
    | succ k =>
      rw [lastAt_succ, e]
      have e2 : l.getD k 0 = l[k] := by rw [List.getD_eq_getElem?_getD, List.getElem?_eq_getElem (by omega)]; rfl
      rw [e2]
      exact List.pairwise_iff_getElem.1 hp k (k + 1) (by omega) hk (by omega)
  unfold risAt
  simp only [Bool.not_eq_true', Bool.or_eq_false_iff, decide_eq_false_iff_not]
  rw [e] at hl ⊢
  omega
theorem pairs_of (p : Nat → Bool) (n : Nat) : (((List.range n).filter p).map fun (c : Nat) => (c : Int)).Pairwise (· < ·) := by
  rw [List.pairwise_map]
  refine List.Pairwise.imp ?_ (List.Pairwise.filter _ List.pairwise_lt_range)
  intro a b h; omega
theorem whose_ris (d : Dr) (e : Nat) : risB (whoseL d e d.cards.length) d.cards.length = true := by
  refine ris_of (fun x hx => ?_) (pairs_of _ _)
  obtain ⟨c, h1, rfl, _⟩ := mem_whose.1 hx
  omega
theorem whose_one {d : Dr} {e : Nat} (he : e < d.halves.length) (h : cardV d e ≠ -1) : whoseL d e d.cards.length = [cardV d e] := by
  have hall := card_all h
  have hf := first_mem d
  have hr := (fair_truth hf).rng he
  rw [hall _ hf] at hr
  obtain ⟨c, hc⟩ : ∃ c : Nat, cardV d e = c := ⟨(cardV d e).toNat, by omega⟩
  have e1 : whoseL d e d.cards.length = ((List.range d.cards.length).filter fun x => decide (x = c)).map fun (c : Nat) => (c : Int) := by
    unfold whoseL
    congr 1
    apply List.filter_congr
    intro x hx
    rw [Bool.eq_iff_iff, List.any_eq_true, decide_eq_true_eq]
    constructor
    · rintro ⟨t, ht, h⟩
      have := hall t ht
      have h : t.getD e 0 = (x : Int) := by simpa using h
      omega
    · rintro rfl
      exact ⟨first d, hf, by rw [hall _ hf, hc]; simp⟩
  rw [e1, hc]
  have : ∀ n, c < n → (List.range n).filter (fun x => decide (x = c)) = [c] := by
    intro n
    induction n with
    | zero => intro h; omega
    | succ n ih =>
      intro h
      rw [List.range_succ, List.filter_append]
      by_cases hn : c = n
      · subst hn
        have : (List.range c).filter (fun x => decide (x = c)) = [] := by
          rw [List.filter_eq_nil_iff]; intro x hx; have := List.mem_range.1 hx; simp; omega
        rw [this]; simp
      · rw [ih (by omega)]
        have : ¬ n = c := fun h => hn h.symm
        simp [this]
  rw [this _ (by omega)]
  rfl
end Go.Proofs.Ytbfodfepgefloaa
