/- Z-numbers. What the reference counts over all marks is what the program answers. Conditions: those of each law. -/
import Derived.Test.YthkpjbgadkkeeaaGreatQ20
set_option linter.unusedSimpArgs false
set_option linter.unusedVariables false
namespace Go.Proofs.YthkpjbgadkkeeaaGreat
open Go.Proofs

def mmStep (x : List Bool) (s : Int × Int) (m : Nat) : Int × Int :=
  if x.getD m false = true then (if ((m / 4 : Nat) : Int) < s.1 then ((m / 4 : Nat) : Int) else s.1, if s.2 < ((m / 4 : Nat) : Int) then ((m / 4 : Nat) : Int) else s.2) else s
def mmTo (x : List Bool) (s : Int × Int) : Nat → Int × Int
  | 0 => s
  | m + 1 => mmStep x (mmTo x s m) m
def mmN (d : Fu) (k : Nat) (L : List (List Bool)) : Nat → Int × Int
  | 0 => (300, 0)
  | i + 1 => mmTo (refX d (L.getD i []) k) (mmN d k L i) 1204
structure MM (S : Int → Prop) (r : Int × Int) : Prop where
  a : r.1 ≤ 300 ∧ 0 ≤ r.2
  b : ∀ n, S n → r.1 ≤ n ∧ n ≤ r.2
  c : r.1 = 300 ∨ S r.1
  d : r.2 = 0 ∨ S r.2
theorem MM.to {S : Int → Prop} {s : Int × Int} (h : MM S s) (x : List Bool) : ∀ n, n ≤ 1204 → MM (fun t => S t ∨ ∃ m, m < n ∧ x.getD m false = true ∧ t = ((m / 4 : Nat) : Int)) (mmTo x s n)
  | 0, _ => ⟨h.a, fun n hn => by rcases hn with hn | ⟨m, hm, _⟩; exact h.b n hn; omega, h.c.imp_right .inl, h.d.imp_right .inl⟩
  | n + 1, hn => by
    have ih := MM.to h x n (by omega)
    show MM _ (mmStep x (mmTo x s n) n)
    generalize mmTo x s n = r at ih ⊢
    obtain ⟨a, b, c, e⟩ := ih
    have up : ∀ t, (S t ∨ ∃ m, m < n ∧ x.getD m false = true ∧ t = ((m / 4 : Nat) : Int)) → (S t ∨ ∃ m, m < n + 1 ∧ x.getD m false = true ∧ t = ((m / 4 : Nat) : Int)) := fun t ht => by
      rcases ht with ht | ⟨m, h1, h2⟩
      · exact .inl ht
      · exact .inr ⟨m, by omega, h2⟩
    unfold mmStep
    by_cases hx : x.getD n false = true
    · rw [if_pos hx]
      have new : (S ((n / 4 : Nat) : Int) ∨ ∃ m, m < n + 1 ∧ x.getD m false = true ∧ ((n / 4 : Nat) : Int) = ((m / 4 : Nat) : Int)) := .inr ⟨n, by omega, hx, rfl⟩
      have hq : n / 4 ≤ 300 := by omega
      refine ⟨⟨?_, ?_⟩, fun t ht => ?_, ?_, ?_⟩
      · simp only; split <;> omega
      · simp only; split <;> omega
      · rcases ht with ht | ⟨m, h1, h2, h3⟩
        · have := b t (.inl ht)
          constructor <;> simp only <;> split <;> omega
        · by_cases e : m = n
          · subst e
            constructor <;> simp only <;> split <;> omega
          · have := b t (.inr ⟨m, by omega, h2, h3⟩)
            constructor <;> simp only <;> split <;> omega
      · simp only
        split
        · exact .inr new
        · exact c.imp_right (up _)
      · simp only
        split
        · exact .inr new
        · exact e.imp_right (up _)
    · rw [if_neg hx]
      refine ⟨a, fun t ht => ?_, c.imp_right (up _), e.imp_right (up _)⟩
      rcases ht with ht | ⟨m, h1, h2, h3⟩
      · exact b t (.inl ht)
      · have e : m ≠ n := fun e => hx (e ▸ h2)
        exact b t (.inr ⟨m, by omega, h2, h3⟩)
theorem MM.congr {S Q : Int → Prop} {r : Int × Int} (h : MM S r) (e : ∀ t, S t ↔ Q t) : MM Q r := by
  have : S = Q := funext fun t => propext (e t)
  rw [← this]; exact h
theorem mm_all (d : Fu) (k : Nat) (L : List (List Bool)) : ∀ n, n ≤ L.length → MM (fun t => ∃ i, i < n ∧ ∃ m, m < 1204 ∧ (refX d (L.getD i []) k).getD m false = true ∧ t = ((m / 4 : Nat) : Int)) (mmN d k L n)
  | 0, _ => ⟨⟨Int.le_refl _, Int.le_refl _⟩, fun n ⟨i, hi, _⟩ => by omega, .inl rfl, .inl rfl⟩
  | n + 1, hn => by
    refine ((mm_all d k L n (by omega)).to (refX d (L.getD n []) k) 1204 (Nat.le_refl _)).congr fun t => ?_
    constructor
    · rintro (⟨i, h1, h2⟩ | h)
      · exact ⟨i, by omega, h2⟩
      · exact ⟨n, by omega, h⟩
    · rintro ⟨i, h1, h2⟩
      by_cases e : i = n
      · subst e; exact .inr h2
      · exact .inl ⟨i, by omega, h2⟩
theorem getD_mem {L : List (List Bool)} {i : Nat} (h : i < L.length) : L.getD i [] ∈ L := by
  rw [List.getD_eq_getElem?_getD, List.getElem?_eq_getElem h]; exact List.getElem_mem _
theorem mem_getD {L : List (List Bool)} {ws : List Bool} (h : ws ∈ L) : ∃ i, i < L.length ∧ L.getD i [] = ws := by
  obtain ⟨i, hi, e⟩ := List.mem_iff_getElem.1 h
  exact ⟨i, hi, by rw [List.getD_eq_getElem?_getD, List.getElem?_eq_getElem hi]; exact e⟩
theorem hit_at {d : Fu} (ho : d.Ok) (hs : someB d 0 = true) {k : Nat} (hk : k ≤ d.visits.length) {j : Nat} (hj : j < 1204) :
    (∃ i, i < (widL d d.people.length).length ∧ (refX d ((widL d d.people.length).getD i []) k).getD j false = true) ↔ ∃ s, Reach d 0 0 s ∧ s.k = k ∧ mkOf s = j := by
  rw [← hit_iff ho hs hk hj]
  constructor
  · rintro ⟨i, h1, h2⟩; exact ⟨_, getD_mem h1, h2⟩
  · rintro ⟨ws, h1, h2⟩
    obtain ⟨i, hi, rfl⟩ := mem_getD h1
    exact ⟨i, hi, h2⟩
theorem left_ref {d : Fu} (ho : d.Ok) (hs : someB d 0 = true) (day : Int) : mmN d (lastTo d day d.visits.length) (widL d d.people.length) (widL d d.people.length).length = spanOf d day := by
  obtain ⟨a1, a2, a3⟩ := left_spec ho hs day
  have hk := lastTo_le d day d.visits.length
  have hm := (mm_all d (lastTo d day d.visits.length) (widL d d.people.length) _ (Nat.le_refl _)).congr (Q := IsLeft d (lastTo d day d.visits.length)) fun t => by
    constructor
    · rintro ⟨i, h1, m, h2, h3, rfl⟩
      obtain ⟨s, s1, s2, rfl⟩ := (hit_at ho hs hk h2).1 ⟨i, h1, h3⟩
      have hin := (s1.inv ho hs).1
      have hp := ho.pence
      have hq := (mark_parts s.left s.ended s.paid ⟨hin.1, by omega⟩).2.1
      have hq : mkOf s / 4 = s.left.toNat := hq
      exact ⟨s, s1, s2, by rw [hq]; omega⟩
    · rintro ⟨s, s1, s2, rfl⟩
      have hin := (s1.inv ho hs).1
      have hp := ho.pence
      obtain ⟨q1, q2, _⟩ := mark_parts s.left s.ended s.paid ⟨hin.1, by omega⟩
      have q1 : mkOf s < 1204 := q1
      have q2 : mkOf s / 4 = s.left.toNat := q2
      obtain ⟨i, i1, i2⟩ := (hit_at ho hs hk q1).2 ⟨s, s1, s2, rfl⟩
      exact ⟨i, i1, mkOf s, q1, i2, by rw [q2]; omega⟩
  generalize mmN d (lastTo d day d.visits.length) (widL d d.people.length) (widL d d.people.length).length = r at hm ⊢
  generalize spanOf d day = q at a1 a2 a3 ⊢
  obtain ⟨m1, m2, m3, m4⟩ := hm
  have bd : ∀ n, IsLeft d (lastTo d day d.visits.length) n → 0 ≤ n ∧ n ≤ 300 := fun n ⟨x, hr, _, e⟩ => by
    have := (hr.inv ho hs).1
    have := ho.pence
    omega
  have p1 := m2 _ a1
  have p2 := m2 _ a2
  have p3 := bd _ a1
  have p4 := bd _ a2
  have r1 : IsLeft d (lastTo d day d.visits.length) r.1 := by
    rcases m3 with e | h
    · have : q.1 = r.1 := by omega
      rw [← this]; exact a1
    · exact h
  have r2 : IsLeft d (lastTo d day d.visits.length) r.2 := by
    rcases m4 with e | h
    · have : q.2 = r.2 := by omega
      rw [← this]; exact a2
    · exact h
  have g1 := a3 _ r1
  have g2 := a3 _ r2
  obtain ⟨x, y⟩ := r
  obtain ⟨u, v⟩ := q
  simp only at *
  have e1 : x = u := by omega
  have e2 : y = v := by omega
  rw [e1, e2]
def cnStep (x : List Bool) (s : Int × Int) (m : Nat) : Int × Int := if x.getD m false = true then (s.1 + ((m % 2 : Nat) : Int), s.2 + 1 - ((m % 2 : Nat) : Int)) else s
def cnTo (x : List Bool) (s : Int × Int) : Nat → Int × Int
  | 0 => s
  | m + 1 => cnStep x (cnTo x s m) m
def cnN (d : Fu) (k : Nat) (L : List (List Bool)) : Nat → Int × Int
  | 0 => (0, 0)
  | i + 1 => cnTo (refX d (L.getD i []) k) (cnN d k L i) 1204
theorem cnTo_bd {x : List Bool} {s : Int × Int} (h : 0 ≤ s.1 ∧ 0 ≤ s.2) : ∀ n, (0 ≤ (cnTo x s n).1 ∧ 0 ≤ (cnTo x s n).2) ∧ (cnTo x s n).1 ≤ s.1 + n ∧ (cnTo x s n).2 ≤ s.2 + n
  | 0 => ⟨h, by show s.1 ≤ s.1 + 0; omega, by show s.2 ≤ s.2 + 0; omega⟩
  | n + 1 => by
    have ih := cnTo_bd (x := x) h n
    have e : cnTo x s (n + 1) = cnStep x (cnTo x s n) n := rfl
    rw [e]
    unfold cnStep
    have : n % 2 < 2 := Nat.mod_lt _ (by decide)
    split
    · simp only; omega
    · omega
theorem cnTo_iff {x : List Bool} {s : Int × Int} (h : 0 ≤ s.1 ∧ 0 ≤ s.2) : ∀ n, (0 < (cnTo x s n).1 ↔ 0 < s.1 ∨ ∃ m, m < n ∧ x.getD m false = true ∧ m % 2 = 1) ∧ (0 < (cnTo x s n).2 ↔ 0 < s.2 ∨ ∃ m, m < n ∧ x.getD m false = true ∧ m % 2 = 0)
  | 0 => by
    refine ⟨⟨.inl, fun h => ?_⟩, ⟨.inl, fun h => ?_⟩⟩
    · rcases h with h | ⟨m, hm, _⟩; exact h; omega
    · rcases h with h | ⟨m, hm, _⟩; exact h; omega
  | n + 1 => by
    have ih := cnTo_iff (x := x) h n
    have hb := (cnTo_bd (x := x) h n).1
    have ext : ∀ b, (∃ m, m < n + 1 ∧ x.getD m false = true ∧ m % 2 = b) ↔ (∃ m, m < n ∧ x.getD m false = true ∧ m % 2 = b) ∨ (x.getD n false = true ∧ n % 2 = b) := fun b => by
      constructor
      · rintro ⟨m, h1, h2⟩
        by_cases e : m = n
        · subst e; exact .inr h2
        · exact .inl ⟨m, by omega, h2⟩
      · rintro (⟨m, h1, h2⟩ | h2)
        · exact ⟨m, by omega, h2⟩
        · exact ⟨n, by omega, h2⟩
    have e : cnTo x s (n + 1) = cnStep x (cnTo x s n) n := rfl
    rw [e, ext, ext, ← or_assoc, ← or_assoc, ← ih.1, ← ih.2]
    unfold cnStep
    have : n % 2 < 2 := Nat.mod_lt _ (by decide)
    by_cases hx : x.getD n false = true
    · rw [if_pos hx]
      simp only [hx, true_and]
      constructor <;> constructor
      · intro h; omega
      · rintro (h | h) <;> omega
      · intro h; omega
      · rintro (h | h) <;> omega
    · rw [if_neg hx]
      exact ⟨⟨.inl, fun h => h.elim id fun g => absurd g.1 hx⟩, ⟨.inl, fun h => h.elim id fun g => absurd g.1 hx⟩⟩
theorem cn_bd (d : Fu) (k : Nat) (L : List (List Bool)) : ∀ n, (0 ≤ (cnN d k L n).1 ∧ 0 ≤ (cnN d k L n).2) ∧ (cnN d k L n).1 ≤ 1204 * n ∧ (cnN d k L n).2 ≤ 1204 * n
  | 0 => by show ((0 : Int) ≤ 0 ∧ (0 : Int) ≤ 0) ∧ (0 : Int) ≤ 1204 * 0 ∧ (0 : Int) ≤ 1204 * 0; omega
  | n + 1 => by
    have ih := cn_bd d k L n
    have := cnTo_bd (x := refX d (L.getD n []) k) ih.1 1204
    have e : cnN d k L (n + 1) = cnTo (refX d (L.getD n []) k) (cnN d k L n) 1204 := rfl
    rw [e]
    omega
theorem cn_iff (d : Fu) (k : Nat) (L : List (List Bool)) : ∀ n, (0 < (cnN d k L n).1 ↔ ∃ i, i < n ∧ ∃ m, m < 1204 ∧ (refX d (L.getD i []) k).getD m false = true ∧ m % 2 = 1) ∧ (0 < (cnN d k L n).2 ↔ ∃ i, i < n ∧ ∃ m, m < 1204 ∧ (refX d (L.getD i []) k).getD m false = true ∧ m % 2 = 0)
  | 0 => by
    refine ⟨⟨fun h => ?_, fun ⟨i, hi, _⟩ => by omega⟩, ⟨fun h => ?_, fun ⟨i, hi, _⟩ => by omega⟩⟩
    · have h : (0 : Int) < 0 := h; omega
    · have h : (0 : Int) < 0 := h; omega
  | n + 1 => by
    have ih := cn_iff d k L n
    have hb := (cn_bd d k L n).1
    have hs := cnTo_iff (x := refX d (L.getD n []) k) hb 1204
    have e : cnN d k L (n + 1) = cnTo (refX d (L.getD n []) k) (cnN d k L n) 1204 := rfl
    rw [e, hs.1, hs.2, ih.1, ih.2]
    have ext : ∀ b, ((∃ i, i < n ∧ ∃ m, m < 1204 ∧ (refX d (L.getD i []) k).getD m false = true ∧ m % 2 = b) ∨ ∃ m, m < 1204 ∧ (refX d (L.getD n []) k).getD m false = true ∧ m % 2 = b) ↔ ∃ i, i < n + 1 ∧ ∃ m, m < 1204 ∧ (refX d (L.getD i []) k).getD m false = true ∧ m % 2 = b := fun b => by
      constructor
      · rintro (⟨i, h1, h2⟩ | h)
        · exact ⟨i, by omega, h2⟩
        · exact ⟨n, by omega, h⟩
      · rintro ⟨i, h1, h2⟩
        by_cases e : i = n
        · subst e; exact .inr h2
        · exact .inl ⟨i, by omega, h2⟩
    exact ⟨ext 1, ext 0⟩
def setV (n all : Int) : Int := if n = all then 1 else if n = 0 then 2 else 0
theorem pay_ref {d : Fu} (ho : d.Ok) (hs : someB d 0 = true) {k : Nat} (hk : k ≤ d.visits.length) :
    setV (cnN d k (widL d d.people.length) (widL d d.people.length).length).1 ((cnN d k (widL d d.people.length) (widL d d.people.length).length).1 + (cnN d k (widL d d.people.length) (widL d d.people.length).length).2) = payOf d k := by
  have hb := (cn_bd d k (widL d d.people.length) (widL d d.people.length).length).1
  have hi := cn_iff d k (widL d d.people.length) (widL d d.people.length).length
  have key : ∀ (b : Nat) (p : Bool), (b = if p then 1 else 0) → ((∃ i, i < (widL d d.people.length).length ∧ ∃ m, m < 1204 ∧ (refX d ((widL d d.people.length).getD i []) k).getD m false = true ∧ m % 2 = b) ↔ ∃ x, Reach d 0 0 x ∧ x.k = k ∧ x.paid = p) := fun b p e => by
    constructor
    · rintro ⟨i, h1, m, h2, h3, h4⟩
      obtain ⟨s, s1, s2, rfl⟩ := (hit_at ho hs hk h2).1 ⟨i, h1, h3⟩
      have hin := (s1.inv ho hs).1
      have hp := ho.pence
      have hq : mkOf s % 2 = if s.paid then 1 else 0 := (mark_parts s.left s.ended s.paid ⟨hin.1, by omega⟩).2.2.2
      refine ⟨s, s1, s2, ?_⟩
      rw [h4, e] at hq
      cases hx : s.paid <;> cases p <;> rw [hx] at hq <;> first | rfl | cases hq
    · rintro ⟨s, s1, s2, rfl⟩
      have hin := (s1.inv ho hs).1
      have hp := ho.pence
      obtain ⟨q1, _, _, q2⟩ := mark_parts s.left s.ended s.paid ⟨hin.1, by omega⟩
      have q1 : mkOf s < 1204 := q1
      have q2 : mkOf s % 2 = if s.paid then 1 else 0 := q2
      obtain ⟨i, i1, i2⟩ := (hit_at ho hs hk q1).2 ⟨s, s1, s2, rfl⟩
      exact ⟨i, i1, mkOf s, q1, i2, by rw [q2, e]⟩
  rw [key 1 true rfl, key 0 false rfl] at hi
  generalize cnN d k (widL d d.people.length) (widL d d.people.length).length = r at hb hi ⊢
  obtain ⟨h1, h2⟩ := hi
  have h1 : 0 < r.1 ↔ PaidAt d k := h1
  have h2 : 0 < r.2 ↔ NotAt d k := h2
  unfold setV
  rcases pay_cases d k with ⟨e, hn⟩ | ⟨e, hn, hp⟩ | ⟨e, hn, hp⟩
  · have : ¬ 0 < r.2 := fun h => hn (h2.1 h)
    rw [if_pos (by omega), e]
  · have := h2.2 hn
    have : ¬ 0 < r.1 := fun h => hp (h1.1 h)
    rw [if_neg (by omega), if_pos (by omega), e]
  · have := h2.2 hn
    have := h1.2 hp
    rw [if_neg (by omega), if_neg (by omega), e]
def enStep (day : Int) (hit : Bool) (r : Int) : Int := if hit = true ∧ (r < 0 ∨ day < r) then day else r
def hitE (x : List Bool) (n : Nat) : Bool := x.getD (4 * n + 2) false || x.getD (4 * n + 3) false
def enRow (x : List Bool) (day r : Int) : Nat → Int
  | 0 => r
  | n + 1 => enStep day (hitE x n) (enRow x day r n)
def IsMin (S : Int → Prop) (r : Int) : Prop := (r < 0 ∧ ∀ t, ¬ S t) ∨ (0 ≤ r ∧ S r ∧ ∀ t, S t → r ≤ t)
theorem IsMin.congr {S Q : Int → Prop} {r : Int} (h : IsMin S r) (e : ∀ t, S t ↔ Q t) : IsMin Q r := by
  have : S = Q := funext fun t => propext (e t)
  rw [← this]; exact h
theorem IsMin.step {S : Int → Prop} {r : Int} (h : IsMin S r) {day : Int} (hd : 0 ≤ day) (hit : Bool) : IsMin (fun t => S t ∨ (hit = true ∧ t = day)) (enStep day hit r) := by
  unfold enStep
  cases hit with
  | false =>
    rw [if_neg (fun h => by cases h.1)]
    exact h.congr fun t => by simp
  | true =>
    rcases h with ⟨h1, h2⟩ | ⟨h1, h2, h3⟩
    · rw [if_pos ⟨rfl, .inl h1⟩]
      exact .inr ⟨hd, .inr ⟨rfl, rfl⟩, fun t ht => by rcases ht with ht | ht; exact absurd ht (h2 t); omega⟩
    · by_cases hlt : day < r
      · rw [if_pos ⟨rfl, .inr hlt⟩]
        exact .inr ⟨hd, .inr ⟨rfl, rfl⟩, fun t ht => by rcases ht with ht | ht; have := h3 t ht; omega; omega⟩
      · rw [if_neg (fun h => by rcases h.2 with h | h <;> omega)]
        exact .inr ⟨h1, .inl h2, fun t ht => by rcases ht with ht | ht; exact h3 t ht; omega⟩
theorem IsMin.row {S : Int → Prop} {r : Int} (h : IsMin S r) {day : Int} (hd : 0 ≤ day) (x : List Bool) : ∀ n, IsMin (fun t => S t ∨ (t = day ∧ ∃ m, m < n ∧ hitE x m = true)) (enRow x day r n)
  | 0 => h.congr fun t => by simp
  | n + 1 => by
    refine ((IsMin.row h hd x n).step hd (hitE x n)).congr fun t => ?_
    constructor
    · rintro ((h | ⟨h1, m, h2, h3⟩) | ⟨h1, h2⟩)
      · exact .inl h
      · exact .inr ⟨h1, m, by omega, h3⟩
      · exact .inr ⟨h2, n, by omega, h1⟩
    · rintro (h | ⟨h1, m, h2, h3⟩)
      · exact .inl (.inl h)
      · by_cases e : m = n
        · subst e; exact .inr ⟨h3, h1⟩
        · exact .inl (.inr ⟨h1, m, by omega, h3⟩)
end Go.Proofs.YthkpjbgadkkeeaaGreat
