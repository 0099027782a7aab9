/- The fewest entries that are false, as the program finds them: sets in the order of their numbers. Conditions: those of each law. -/
import Derived.Test.YtaohhjaogjcfoaaQ12
set_option linter.unusedSimpArgs false
set_option linter.unusedVariables false
namespace Go.Proofs.Ytaohhjaogjcfoaa
open Go.Proofs

def skipW (w b : List Int) : Bool := decide ((w.length : Int) > b.length) || (decide ((w.length : Int) = b.length) && decide (cmpL w b > 0))
def rkW (n s : Nat) : Nat × Nat := ((bitsL s n).length, (choicesL n (bitsL s n).length).idxOf (bitsL s n))
def lexB (a b : Nat × Nat) : Bool := decide (a.1 < b.1) || (decide (a.1 = b.1) && decide (a.2 < b.2))
def chkW (n : Nat) : Bool :=
  ((List.range (2 ^ n)).all fun s => decide ((rkW n s).1 ≤ n) && decide ((choicesL n (rkW n s).1)[(rkW n s).2]? = some (bitsL s n))) &&
  ((List.range (n + 1)).all fun k => (List.range (choicesL n k).length).all fun i => (List.range (2 ^ n)).any fun s => decide (rkW n s = (k, i))) &&
  ((List.range (2 ^ n)).all fun s => (List.range (2 ^ n)).all fun t => skipW (bitsL s n) (bitsL t n) == lexB (rkW n t) (rkW n s))
theorem chkW_all : (List.range 6).all chkW = true := by kernel_rfl
theorem chkW_of {n : Nat} (hn : n ≤ 5) : chkW n = true := List.all_eq_true.1 chkW_all n (by simp; omega)
theorem rkW_get {n : Nat} (hn : n ≤ 5) {s : Nat} (hs : s < 2 ^ n) : (rkW n s).1 ≤ n ∧ (choicesL n (rkW n s).1)[(rkW n s).2]? = some (bitsL s n) := by
  have h := chkW_of hn
  unfold chkW at h
  simp only [Bool.and_eq_true] at h
  have := List.all_eq_true.1 h.1.1 s (by simpa using hs)
  simp only [Bool.and_eq_true, decide_eq_true_eq] at this
  exact this
theorem rkW_on {n : Nat} (hn : n ≤ 5) {k i : Nat} (hk : k ≤ n) (hi : i < (choicesL n k).length) : ∃ s, s < 2 ^ n ∧ rkW n s = (k, i) := by
  have h := chkW_of hn
  unfold chkW at h
  simp only [Bool.and_eq_true] at h
  have := List.all_eq_true.1 (List.all_eq_true.1 h.1.2 k (by simp; omega)) i (by simpa using hi)
  obtain ⟨s, h1, h2⟩ := List.any_eq_true.1 this
  exact ⟨s, by simpa using h1, by simpa using h2⟩
theorem skip_rk {n : Nat} (hn : n ≤ 5) {s t : Nat} (hs : s < 2 ^ n) (ht : t < 2 ^ n) : skipW (bitsL s n) (bitsL t n) = lexB (rkW n t) (rkW n s) := by
  have h := chkW_of hn
  unfold chkW at h
  simp only [Bool.and_eq_true] at h
  have := List.all_eq_true.1 (List.all_eq_true.1 h.2 s (by simpa using hs)) t (by simpa using ht)
  simpa using this
theorem lexB_no {a b : Nat × Nat} : lexB a b = false ↔ (b.1 < a.1 ∨ (b.1 = a.1 ∧ b.2 ≤ a.2)) := by
  unfold lexB
  simp only [Bool.or_eq_false_iff, Bool.and_eq_false_iff, decide_eq_false_iff_not]
  omega
theorem lexB_yes {a b : Nat × Nat} : lexB a b = true ↔ (a.1 < b.1 ∨ (a.1 = b.1 ∧ a.2 < b.2)) := by
  unfold lexB
  simp only [Bool.or_eq_true, Bool.and_eq_true, decide_eq_true_eq]

def stepW (d : Ho) (n : Nat) (st : Option Nat) (s : Nat) : Option Nat := match st with
  | some t => if skipW (bitsL s n) (bitsL t n) = true then some t else if someB d (bitsL s n) = true then some s else some t
  | none => if someB d (bitsL s n) = true then some s else none
def bestW (d : Ho) (n : Nat) : Nat → Option Nat
  | 0 => none
  | k + 1 => stepW d n (bestW d n k) k
theorem best_inv (d : Ho) {n : Nat} (hn : n ≤ 5) : ∀ k, k ≤ 2 ^ n → (bestW d n k = none → ∀ s, s < k → someB d (bitsL s n) = false) ∧
    ∀ t, bestW d n k = some t → t < k ∧ someB d (bitsL t n) = true ∧ ∀ s, s < k → someB d (bitsL s n) = true → lexB (rkW n s) (rkW n t) = false
  | 0, _ => ⟨fun _ s hs => by omega, fun t h => by cases h⟩
  | k + 1, hk => by
    obtain ⟨h1, h2⟩ := best_inv d hn k (by omega)
    cases hb : bestW d n k with
    | none =>
      have h1 := h1 hb
      cases hp : someB d (bitsL k n) with
      | true =>
        have e : bestW d n (k + 1) = some k := by simp only [bestW, stepW, hb, hp, if_true]
        rw [e]
        refine ⟨fun h => (by cases h), fun t ht => ?_⟩
        cases ht
        refine ⟨by omega, hp, fun s hs hps => ?_⟩
        rcases Nat.lt_or_ge s k with h | h
        · rw [h1 s h] at hps; cases hps
        · rw [show s = k by omega, lexB_no]; omega
      | false =>
        have e : bestW d n (k + 1) = none := by simp only [bestW, stepW, hb, hp, Bool.false_eq_true, if_false]
        rw [e]
        refine ⟨fun _ s hs => ?_, fun t ht => (by cases ht)⟩
        rcases Nat.lt_or_ge s k with h | h
        · exact h1 s h
        · rw [show s = k by omega]; exact hp
    | some t =>
      obtain ⟨t1, t2, t3⟩ := h2 t hb
      have hsk := skip_rk hn (show k < 2 ^ n by omega) (show t < 2 ^ n by omega)
      cases hs : skipW (bitsL k n) (bitsL t n) with
      | true =>
        have e : bestW d n (k + 1) = some t := by simp only [bestW, stepW, hb, hs, if_true]
        rw [e]
        refine ⟨fun h => (by cases h), fun u hu => ?_⟩
        cases hu
        refine ⟨by omega, t2, fun s h hps => ?_⟩
        rcases Nat.lt_or_ge s k with h' | h'
        · exact t3 s h' hps
        · rw [show s = k by omega]
          rw [hs] at hsk
          have := lexB_yes.1 hsk.symm
          rw [lexB_no]; omega
      | false =>
        cases hp : someB d (bitsL k n) with
        | true =>
          have e : bestW d n (k + 1) = some k := by simp only [bestW, stepW, hb, hs, hp, Bool.false_eq_true, if_false, if_true]
          rw [e]
          refine ⟨fun h => (by cases h), fun u hu => ?_⟩
          cases hu
          refine ⟨by omega, hp, fun s h hps => ?_⟩
          rcases Nat.lt_or_ge s k with h' | h'
          · have a := lexB_no.1 (t3 s h' hps)
            rw [hs] at hsk
            have b := lexB_no.1 hsk.symm
            rw [lexB_no]; omega
          · rw [show s = k by omega, lexB_no]; omega
        | false =>
          have e : bestW d n (k + 1) = some t := by simp only [bestW, stepW, hb, hs, hp, Bool.false_eq_true, if_false]
          rw [e]
          refine ⟨fun h => (by cases h), fun u hu => ?_⟩
          cases hu
          refine ⟨by omega, t2, fun s h hps => ?_⟩
          rcases Nat.lt_or_ge s k with h' | h'
          · exact t3 s h' hps
          · rw [show s = k by omega, hp] at hps; cases hps
theorem hitC_one {d : Ho} {l : List (List Int)} {i : Nat} {x : List Int} (hx : l[i]? = some x) : hitC d l i = if someB d x = true then 1 else 0 := by
  unfold hitC
  rw [List.getD_eq_getElem?_getD, hx]; rfl
theorem hitK_zero {d : Ho} {k : Nat} (h : hitK d k = 0) {i : Nat} {x : List Int} (hx : (choicesL d.entries.length k)[i]? = some x) : someB d x = false := by
  unfold hitK at h
  cases h3 : firstBad (hitC d (choicesL d.entries.length k)) 0 (choicesL d.entries.length k).length with
  | some j => rw [h3] at h; cases h
  | none =>
    have hl := (List.getElem?_eq_some_iff.1 hx).1
    have := firstBad_none h3 i (by omega) (by omega)
    rw [hitC_one hx] at this
    cases hp : someB d x with
    | false => rfl
    | true => rw [if_pos hp] at this; cases this
theorem wrongR_best (d : Ho) (hn : d.entries.length ≤ 5) : wrongR d = match bestW d d.entries.length (2 ^ d.entries.length) with | some s => (bitsL s d.entries.length, 0) | none => ([], 9) := by
  obtain ⟨b1, b2⟩ := best_inv d hn (2 ^ d.entries.length) (Nat.le_refl _)
  unfold wrongR
  cases h1 : firstBad (hitK d) 0 (d.entries.length + 1) with
  | some k =>
    obtain ⟨_, k2, k3, k4⟩ := firstBad_some h1
    unfold hitK at k3
    cases h2 : firstBad (hitC d (choicesL d.entries.length k)) 0 (choicesL d.entries.length k).length with
    | none => rw [h2] at k3; exact absurd rfl k3
    | some i =>
      obtain ⟨_, i2, i3, i4⟩ := firstBad_some h2
      obtain ⟨s, s1, s2⟩ := rkW_on hn (show k ≤ d.entries.length by omega) (show i < _ by omega)
      have g := (rkW_get hn s1).2
      rw [s2] at g
      simp only at g
      have ps : someB d (bitsL s d.entries.length) = true := by
        rw [hitC_one g] at i3
        cases hp : someB d (bitsL s d.entries.length) with
        | true => rfl
        | false => rw [hp] at i3; exact absurd rfl i3
      have hgd : (choicesL d.entries.length k).getD i [] = bitsL s d.entries.length := by rw [List.getD_eq_getElem?_getD, g]; rfl
      simp only [h2, hgd]
      cases hb : bestW d d.entries.length (2 ^ d.entries.length) with
      | none => have := b1 hb s s1; rw [ps] at this; cases this
      | some t =>
        obtain ⟨t1, t2, t3⟩ := b2 t hb
        have a := lexB_no.1 (t3 s s1 ps)
        rw [s2] at a
        simp only at a
        obtain ⟨g1, g2⟩ := rkW_get hn t1
        have hk : ¬ (rkW d.entries.length t).1 < k := fun hlt => by
          have := hitK_zero (k4 _ (by omega) hlt) g2
          rw [t2] at this; cases this
        have hk1 : (rkW d.entries.length t).1 = k := by omega
        rw [hk1] at g2
        have hi : ¬ (rkW d.entries.length t).2 < i := fun hlt => by
          have := i4 _ (by omega) hlt
          rw [hitC_one g2, if_pos t2] at this; cases this
        have hi1 : (rkW d.entries.length t).2 = i := by omega
        rw [hi1, g] at g2
        rw [Option.some.inj g2]
  | none =>
    cases hb : bestW d d.entries.length (2 ^ d.entries.length) with
    | none => rfl
    | some t =>
      obtain ⟨t1, t2, t3⟩ := b2 t hb
      obtain ⟨g1, g2⟩ := rkW_get hn t1
      have := hitK_zero (firstBad_none h1 (rkW d.entries.length t).1 (by omega) (by omega)) g2
      rw [t2] at this; cases this
end Go.Proofs.Ytaohhjaogjcfoaa
