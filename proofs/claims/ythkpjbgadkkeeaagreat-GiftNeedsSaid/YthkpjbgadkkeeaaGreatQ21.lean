/- Z-numbers. What the reference counts over all marks is what the program answers. Conditions: those of each law. -/
import Derived.Test.YthkpjbgadkkeeaaGreatQ20
set_option linter.unusedSimpArgs false
set_option linter.unusedVariables false
namespace Go.Proofs.YthkpjbgadkkeeaaGreat
open Go.Proofs

def mmStep (x : List Bool) (s : Int × Int) (m : Nat) : Int × Int :=
  if x.getD m false = true then (if ((m / 4 : Nat) : Int) < s.1 then ((m / 4 : Nat) : Int) else s.1, if s.2 < ((m / 4 : Nat) : Int) then ((m / 4 : Nat) : Int) else s.2) else s
def mmTo (x : List Bool) (s : Int × Int) : Nat → Int × Int
  | 0 => s
  | m + 1 => mmStep x (mmTo x s m) m
structure MM (S : Int → Prop) (r : Int × Int) : Prop where
  a : r.1 ≤ 300 ∧ 0 ≤ r.2
  b : ∀ n, S n → r.1 ≤ n ∧ n ≤ r.2
  c : r.1 = 300 ∨ S r.1
  d : r.2 = 0 ∨ S r.2
theorem MM.to {S : Int → Prop} {s : Int × Int} (h : MM S s) (x : List Bool) : ∀ n, n ≤ 1204 → MM (fun t => S t ∨ ∃ m, m < n ∧ x.getD m false = true ∧ t = ((m / 4 : Nat) : Int)) (mmTo x s n)
  | 0, _ => ⟨h.a, fun n hn => by rcases hn with hn | ⟨m, hm, _⟩; exact h.b n hn; omega, h.c.imp_right .inl, h.d.imp_right .inl⟩
  | n + 1, hn => by
    have ih := MM.to h x n (by omega)
    show MM _ (mmStep x (mmTo x s n) n)
    generalize mmTo x s n = r at ih ⊢
    obtain ⟨a, b, c, e⟩ := ih
    have up : ∀ t, (S t ∨ ∃ m, m < n ∧ x.getD m false = true ∧ t = ((m / 4 : Nat) : Int)) → (S t ∨ ∃ m, m < n + 1 ∧ x.getD m false = true ∧ t = ((m / 4 : Nat) : Int)) := fun t ht => by
      rcases ht with ht | ⟨m, h1, h2⟩
      · exact .inl ht
      · exact .inr ⟨m, by omega, h2⟩
    unfold mmStep
    by_cases hx : x.getD n false = true
    · rw [if_pos hx]
      have new : (S ((n / 4 : Nat) : Int) ∨ ∃ m, m < n + 1 ∧ x.getD m false = true ∧ ((n / 4 : Nat) : Int) = ((m / 4 : Nat) : Int)) := .inr ⟨n, by omega, hx, rfl⟩
      have hq : n / 4 ≤ 300 := by omega
      refine ⟨⟨?_, ?_⟩, fun t ht => ?_, ?_, ?_⟩
      · simp only; split <;> omega
      · simp only; split <;> omega
      · rcases ht with ht | ⟨m, h1, h2, h3⟩
        · have := b t (.inl ht)
          constructor <;> simp only <;> split <;> omega
        · by_cases e : m = n
          · subst e
            constructor <;> simp only <;> split <;> omega
          · have := b t (.inr ⟨m, by omega, h2, h3⟩)
            constructor <;> simp only <;> split <;> omega
      · simp only
        split
        · exact .inr new
        · exact c.imp_right (up _)
      · simp only
        split
        · exact .inr new
        · exact e.imp_right (up _)
    · rw [if_neg hx]
      refine ⟨a, fun t ht => ?_, c.imp_right (up _), e.imp_right (up _)⟩
      rcases ht with ht | ⟨m, h1, h2, h3⟩
      · exact b t (.inl ht)
      · have e : m ≠ n := fun e => hx (e ▸ h2)
        exact b t (.inr ⟨m, by omega, h2, h3⟩)
theorem MM.congr {S Q : Int → Prop} {r : Int × Int} (h : MM S r) (e : ∀ t, S t ↔ Q t) : MM Q r := by
  have : S = Q := funext fun t => propext (e t)
  rw [← this]; exact h
theorem getD_mem {L : List (List Bool)} {i : Nat} (h : i < L.length) : L.getD i [] ∈ L := by
  rw [List.getD_eq_getElem?_getD, List.getElem?_eq_getElem h]; exact List.getElem_mem _
theorem mem_getD {L : List (List Bool)} {ws : List Bool} (h : ws ∈ L) : ∃ i, i < L.length ∧ L.getD i [] = ws := by
  obtain ⟨i, hi, e⟩ := List.mem_iff_getElem.1 h
  exact ⟨i, hi, by rw [List.getD_eq_getElem?_getD, List.getElem?_eq_getElem hi]; exact e⟩
theorem hit_at {d : Fu} (ho : d.Ok) (hs : someB d 0 = true) {k : Nat} (hk : k ≤ d.visits.length) {j : Nat} (hj : j < 1204) :
    (∃ i, i < (widL d d.people.length).length ∧ (refX d ((widL d d.people.length).getD i []) k).getD j false = true) ↔ ∃ s, Reach d 0 0 s ∧ s.k = k ∧ mkOf s = j := by
  rw [← hit_iff ho hs hk hj]
  constructor
  · rintro ⟨i, h1, h2⟩; exact ⟨_, getD_mem h1, h2⟩
  · rintro ⟨ws, h1, h2⟩
    obtain ⟨i, hi, rfl⟩ := mem_getD h1
    exact ⟨i, hi, h2⟩
def enStep (day : Int) (hit : Bool) (r : Int) : Int := if hit = true ∧ (r < 0 ∨ day < r) then day else r
def hitE (x : List Bool) (n : Nat) : Bool := x.getD (4 * n + 2) false || x.getD (4 * n + 3) false
def enRow (x : List Bool) (day r : Int) : Nat → Int
  | 0 => r
  | n + 1 => enStep day (hitE x n) (enRow x day r n)
def enVis (d : Fu) (ws : List Bool) (r : Int) : Nat → Int
  | 0 => r
  | v + 1 => enRow (refX d ws (v + 1)) (dayAt d v) (enVis d ws r v) 301
def enN (d : Fu) (L : List (List Bool)) : Nat → Int
  | 0 => -1
  | i + 1 => enVis d (L.getD i []) (enN d L i) d.visits.length
def IsMin (S : Int → Prop) (r : Int) : Prop := (r < 0 ∧ ∀ t, ¬ S t) ∨ (0 ≤ r ∧ S r ∧ ∀ t, S t → r ≤ t)
theorem IsMin.congr {S Q : Int → Prop} {r : Int} (h : IsMin S r) (e : ∀ t, S t ↔ Q t) : IsMin Q r := by
  have : S = Q := funext fun t => propext (e t)
  rw [← this]; exact h
theorem IsMin.step {S : Int → Prop} {r : Int} (h : IsMin S r) {day : Int} (hd : 0 ≤ day) (hit : Bool) : IsMin (fun t => S t ∨ (hit = true ∧ t = day)) (enStep day hit r) := by
  unfold enStep
  cases hit with
  | false =>
    rw [if_neg (fun h => by cases h.1)]
    exact h.congr fun t => by simp
  | true =>
    rcases h with ⟨h1, h2⟩ | ⟨h1, h2, h3⟩
    · rw [if_pos ⟨rfl, .inl h1⟩]
      exact .inr ⟨hd, .inr ⟨rfl, rfl⟩, fun t ht => by rcases ht with ht | ht; exact absurd ht (h2 t); omega⟩
    · by_cases hlt : day < r
      · rw [if_pos ⟨rfl, .inr hlt⟩]
        exact .inr ⟨hd, .inr ⟨rfl, rfl⟩, fun t ht => by rcases ht with ht | ht; have := h3 t ht; omega; omega⟩
      · rw [if_neg (fun h => by rcases h.2 with h | h <;> omega)]
        exact .inr ⟨h1, .inl h2, fun t ht => by rcases ht with ht | ht; exact h3 t ht; omega⟩
theorem IsMin.row {S : Int → Prop} {r : Int} (h : IsMin S r) {day : Int} (hd : 0 ≤ day) (x : List Bool) : ∀ n, IsMin (fun t => S t ∨ (t = day ∧ ∃ m, m < n ∧ hitE x m = true)) (enRow x day r n)
  | 0 => h.congr fun t => by simp
  | n + 1 => by
    refine ((IsMin.row h hd x n).step hd (hitE x n)).congr fun t => ?_
    constructor
    · rintro ((h | ⟨h1, m, h2, h3⟩) | ⟨h1, h2⟩)
      · exact .inl h
      · exact .inr ⟨h1, m, by omega, h3⟩
      · exact .inr ⟨h2, n, by omega, h1⟩
    · rintro (h | ⟨h1, m, h2, h3⟩)
      · exact .inl (.inl h)
      · by_cases e : m = n
        · subst e; exact .inr ⟨h3, h1⟩
        · exact .inl (.inr ⟨h1, m, by omega, h3⟩)
theorem IsMin.vis {S : Int → Prop} {r : Int} (h : IsMin S r) {d : Fu} (ho : d.Ok) (ws : List Bool) : ∀ n, IsMin (fun t => S t ∨ ∃ v, v < n ∧ t = dayAt d v ∧ ∃ m, m < 301 ∧ hitE (refX d ws (v + 1)) m = true) (enVis d ws r n)
  | 0 => h.congr fun t => by simp
  | n + 1 => by
    refine ((IsMin.vis h ho ws n).row (dayAt_pos ho n) (refX d ws (n + 1)) 301).congr fun t => ?_
    constructor
    · rintro ((h | ⟨v, h1, h2⟩) | ⟨h1, h2⟩)
      · exact .inl h
      · exact .inr ⟨v, by omega, h2⟩
      · exact .inr ⟨n, by omega, h1, h2⟩
    · rintro (h | ⟨v, h1, h2, h3⟩)
      · exact .inl (.inl h)
      · by_cases e : v = n
        · subst e; exact .inr ⟨h2, h3⟩
        · exact .inl (.inr ⟨v, by omega, h2, h3⟩)
theorem en_all {d : Fu} (ho : d.Ok) (L : List (List Bool)) : ∀ n, IsMin (fun t => ∃ i, i < n ∧ ∃ v, v < d.visits.length ∧ t = dayAt d v ∧ ∃ m, m < 301 ∧ hitE (refX d (L.getD i []) (v + 1)) m = true) (enN d L n)
  | 0 => .inl ⟨by show (-1 : Int) < 0; decide, fun t ⟨i, hi, _⟩ => by omega⟩
  | n + 1 => by
    refine ((en_all ho L n).vis ho (L.getD n []) d.visits.length).congr fun t => ?_
    constructor
    · rintro (⟨i, h1, h2⟩ | h)
      · exact ⟨i, by omega, h2⟩
      · exact ⟨n, by omega, h⟩
    · rintro ⟨i, h1, h2⟩
      by_cases e : i = n
      · subst e; exact .inr h2
      · exact .inl ⟨i, by omega, h2⟩
theorem ended_k {d : Fu} {s : Sd} (h : Reach d 0 0 s) (he : s.ended = true) : 1 ≤ s.k := by
  cases h with
  | beg hw => cases he
  | step hr hc => have := (kids_k hc).1; omega
theorem hitE_iff {x : List Bool} {m : Nat} : hitE x m = true ↔ ∃ j, x.getD j false = true ∧ j / 4 = m ∧ j % 4 / 2 = 1 := by
  unfold hitE
  rw [Bool.or_eq_true]
  constructor
  · rintro (h | h)
    · exact ⟨_, h, by omega, by omega⟩
    · exact ⟨_, h, by omega, by omega⟩
  · rintro ⟨j, h1, h2, h3⟩
    have : j = 4 * m + 2 ∨ j = 4 * m + 3 := by omega
    rcases this with rfl | rfl
    · exact .inl h1
    · exact .inr h1
theorem ends_ref {d : Fu} (ho : d.Ok) (hs : someB d 0 = true) : (enN d (widL d d.people.length) (widL d d.people.length).length < 0 ∧ endsV d 0 0 < 0) ∨ (0 ≤ endsV d 0 0 ∧ enN d (widL d d.people.length) (widL d d.people.length).length = endsV d 0 0) := by
  have hm := (en_all ho (widL d d.people.length) (widL d d.people.length).length).congr (Q := fun t => ∃ s, Reach d 0 0 s ∧ s.ended = true ∧ t = dayAt d (s.k - 1)) fun t => by
    constructor
    · rintro ⟨i, i1, v, v1, rfl, m, m1, m2⟩
      obtain ⟨j, j1, j2, j3⟩ := hitE_iff.1 m2
      obtain ⟨s, s1, s2, rfl⟩ := (hit_at ho hs (show v + 1 ≤ d.visits.length by omega) (show j < 1204 by omega)).1 ⟨i, i1, j1⟩
      have hin := (s1.inv ho hs).1
      have hp := ho.pence
      have hq : mkOf s % 4 / 2 = if s.ended then 1 else 0 := (mark_parts s.left s.ended s.paid ⟨hin.1, by omega⟩).2.2.1
      rw [j3] at hq
      refine ⟨s, s1, ?_, by rw [s2]; rfl⟩
      cases he : s.ended with
      | true => rfl
      | false => rw [he] at hq; cases hq
    · rintro ⟨s, s1, s2, rfl⟩
      have hk := ended_k s1 s2
      have hkl := s1.w.2
      have hin := (s1.inv ho hs).1
      have hp := ho.pence
      obtain ⟨q1, q2, q3, _⟩ := mark_parts s.left s.ended s.paid ⟨hin.1, by omega⟩
      have q1 : mkOf s < 1204 := q1
      have q2 : mkOf s / 4 = s.left.toNat := q2
      have q3 : mkOf s % 4 / 2 = if s.ended then 1 else 0 := q3
      rw [s2, if_pos rfl] at q3
      obtain ⟨i, i1, i2⟩ := (hit_at ho hs hkl q1).2 ⟨s, s1, rfl, rfl⟩
      have e : s.k - 1 + 1 = s.k := by omega
      exact ⟨i, i1, s.k - 1, by omega, rfl, s.left.toNat, by omega, hitE_iff.2 ⟨mkOf s, by rw [e]; exact i2, q2, q3⟩⟩
  obtain ⟨f1, f2, _, f4⟩ := endF_fold ho (allM d 0 0 (ways d)) (-1)
  have hE : (allM d 0 0 (ways d)).foldl (endF d) (-1) = endsV d 0 0 := rfl
  rw [hE] at f1 f2 f4
  rcases hm with ⟨h1, h2⟩ | ⟨h1, ⟨s, s1, s2, s3⟩, h3⟩
  · left
    refine ⟨h1, f1.2 ⟨by decide, fun x hx => ?_⟩⟩
    cases he : x.ended with
    | false => rfl
    | true => exact absurd ⟨x, mem_allM.1 hx, he, rfl⟩ (h2 _)
  · right
    have g1 := f2 s (mem_allM.2 s1) s2
    have g0 : ¬ endsV d 0 0 < 0 := fun h => by have := (f1.1 h).2 s (mem_allM.2 s1); rw [s2] at this; cases this
    rcases f4 with f4 | ⟨x, x1, x2, x3⟩
    · omega
    · have := h3 _ ⟨x, mem_allM.1 x1, x2, rfl⟩
      omega
end Go.Proofs.YthkpjbgadkkeeaaGreat
