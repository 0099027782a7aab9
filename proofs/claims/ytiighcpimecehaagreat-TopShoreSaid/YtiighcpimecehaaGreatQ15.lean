/- Parts of the proof, joined: The fewest entries that are false, as the program finds them: sets in the order of their numbers. The fewest entries that are false, by the program. Whether an entry agrees in all truths, by the program. The examples of layer 8: their houses, and what is said of them. Z-numbers. The body of TopShore. Z-numbers. TopShore: the statement, whole. Conditions: those of each law. -/
import Derived.Test.YtiighcpimecehaaGreatQ14
import Derived.KernelRfl
import Derived.Test.YtiighcpimecehaaGreatRows
import Derived.ProofKit
import Derived.OpenShut
set_option linter.unusedSimpArgs false
set_option linter.unusedVariables false
section
namespace Go.Proofs.YtiighcpimecehaaGreat.R8
open Go.Proofs

def rkW (n s : Nat) : Nat × Nat := ((bitsL s n).length, (choicesL n (bitsL s n).length).idxOf (bitsL s n))
def lexB (a b : Nat × Nat) : Bool := decide (a.1 < b.1) || (decide (a.1 = b.1) && decide (a.2 < b.2))
def chkW (n : Nat) : Bool :=
  ((List.range (2 ^ n)).all fun s => decide ((rkW n s).1 ≤ n) && decide ((choicesL n (rkW n s).1)[(rkW n s).2]? = some (bitsL s n))) &&
  ((List.range (n + 1)).all fun k => (List.range (choicesL n k).length).all fun i => (List.range (2 ^ n)).any fun s => decide (rkW n s = (k, i))) &&
  ((List.range (2 ^ n)).all fun s => (List.range (2 ^ n)).all fun t => skipW (bitsL s n) (bitsL t n) == lexB (rkW n t) (rkW n s))
theorem chkW_all : (List.range 6).all chkW = true := by kernel_rfl
theorem chkW_of {n : Nat} (hn : n ≤ 5) : chkW n = true := List.all_eq_true.1 chkW_all n (by simp; omega)
theorem rkW_get {n : Nat} (hn : n ≤ 5) {s : Nat} (hs : s < 2 ^ n) : (rkW n s).1 ≤ n ∧ (choicesL n (rkW n s).1)[(rkW n s).2]? = some (bitsL s n) := by
  have h := chkW_of hn
  unfold chkW at h
  simp only [Bool.and_eq_true] at h
  have := List.all_eq_true.1 h.1.1 s (by simpa using hs)
  simp only [Bool.and_eq_true, decide_eq_true_eq] at this
  exact this
theorem rkW_on {n : Nat} (hn : n ≤ 5) {k i : Nat} (hk : k ≤ n) (hi : i < (choicesL n k).length) : ∃ s, s < 2 ^ n ∧ rkW n s = (k, i) := by
  have h := chkW_of hn
  unfold chkW at h
  simp only [Bool.and_eq_true] at h
  have := List.all_eq_true.1 (List.all_eq_true.1 h.1.2 k (by simp; omega)) i (by simpa using hi)
  obtain ⟨s, h1, h2⟩ := List.any_eq_true.1 this
  exact ⟨s, by simpa using h1, by simpa using h2⟩
theorem skip_rk {n : Nat} (hn : n ≤ 5) {s t : Nat} (hs : s < 2 ^ n) (ht : t < 2 ^ n) : skipW (bitsL s n) (bitsL t n) = lexB (rkW n t) (rkW n s) := by
  have h := chkW_of hn
  unfold chkW at h
  simp only [Bool.and_eq_true] at h
  have := List.all_eq_true.1 (List.all_eq_true.1 h.2 s (by simpa using hs)) t (by simpa using ht)
  simpa using this
theorem lexB_no {a b : Nat × Nat} : lexB a b = false ↔ (b.1 < a.1 ∨ (b.1 = a.1 ∧ b.2 ≤ a.2)) := by
  unfold lexB
  simp only [Bool.or_eq_false_iff, Bool.and_eq_false_iff, decide_eq_false_iff_not]
  omega
theorem lexB_yes {a b : Nat × Nat} : lexB a b = true ↔ (a.1 < b.1 ∨ (a.1 = b.1 ∧ a.2 < b.2)) := by
  unfold lexB
  simp only [Bool.or_eq_true, Bool.and_eq_true, decide_eq_true_eq]

def stepW (d : Ho) (n : Nat) (st : Option Nat) (s : Nat) : Option Nat := match st with
  | some t => if skipW (bitsL s n) (bitsL t n) = true then some t else if someB d (bitsL s n) = true then some s else some t
  | none => if someB d (bitsL s n) = true then some s else none
def bestW (d : Ho) (n : Nat) : Nat → Option Nat
  | 0 => none
  | k + 1 => stepW d n (bestW d n k) k
theorem best_inv (d : Ho) {n : Nat} (hn : n ≤ 5) : ∀ k, k ≤ 2 ^ n → (bestW d n k = none → ∀ s, s < k → someB d (bitsL s n) = false) ∧
    ∀ t, bestW d n k = some t → t < k ∧ someB d (bitsL t n) = true ∧ ∀ s, s < k → someB d (bitsL s n) = true → lexB (rkW n s) (rkW n t) = false
  | 0, _ => ⟨fun _ s hs => by omega, fun t h => by cases h⟩
  | k + 1, hk => by
    obtain ⟨h1, h2⟩ := best_inv d hn k (by omega)
    cases hb : bestW d n k with
    | none =>
      have h1 := h1 hb
      cases hp : someB d (bitsL k n) with
      | true =>
        have e : bestW d n (k + 1) = some k := by simp only [bestW, stepW, hb, hp, if_true]
        rw [e]
        refine ⟨fun h => (by cases h), fun t ht => ?_⟩
        cases ht
        refine ⟨by omega, hp, fun s hs hps => ?_⟩
        rcases Nat.lt_or_ge s k with h | h
        · rw [h1 s h] at hps; cases hps
        · rw [show s = k by omega, lexB_no]; omega
      | false =>
        have e : bestW d n (k + 1) = none := by simp only [bestW, stepW, hb, hp, Bool.false_eq_true, if_false]
        rw [e]
        refine ⟨fun _ s hs => ?_, fun t ht => (by cases ht)⟩
        rcases Nat.lt_or_ge s k with h | h
        · exact h1 s h
        · rw [show s = k by omega]; exact hp
    | some t =>
      obtain ⟨t1, t2, t3⟩ := h2 t hb
      have hsk := skip_rk hn (show k < 2 ^ n by omega) (show t < 2 ^ n by omega)
      cases hs : skipW (bitsL k n) (bitsL t n) with
      | true =>
        have e : bestW d n (k + 1) = some t := by simp only [bestW, stepW, hb, hs, if_true]
        rw [e]
        refine ⟨fun h => (by cases h), fun u hu => ?_⟩
        cases hu
        refine ⟨by omega, t2, fun s h hps => ?_⟩
        rcases Nat.lt_or_ge s k with h' | h'
        · exact t3 s h' hps
        · rw [show s = k by omega]
          rw [hs] at hsk
          have := lexB_yes.1 hsk.symm
          rw [lexB_no]; omega
      | false =>
        cases hp : someB d (bitsL k n) with
        | true =>
          have e : bestW d n (k + 1) = some k := by simp only [bestW, stepW, hb, hs, hp, Bool.false_eq_true, if_false, if_true]
          rw [e]
          refine ⟨fun h => (by cases h), fun u hu => ?_⟩
          cases hu
          refine ⟨by omega, hp, fun s h hps => ?_⟩
          rcases Nat.lt_or_ge s k with h' | h'
          · have a := lexB_no.1 (t3 s h' hps)
            rw [hs] at hsk
            have b := lexB_no.1 hsk.symm
            rw [lexB_no]; omega
          · rw [show s = k by omega, lexB_no]; omega
        | false =>
          have e : bestW d n (k + 1) = some t := by simp only [bestW, stepW, hb, hs, hp, Bool.false_eq_true, if_false]
          rw [e]
          refine ⟨fun h => (by cases h), fun u hu => ?_⟩
          cases hu
          refine ⟨by omega, t2, fun s h hps => ?_⟩
          rcases Nat.lt_or_ge s k with h' | h'
          · exact t3 s h' hps
          · rw [show s = k by omega, hp] at hps; cases hps
theorem hitC_one {d : Ho} {l : List (List Int)} {i : Nat} {x : List Int} (hx : l[i]? = some x) : hitC d l i = if someB d x = true then 1 else 0 := by
  unfold hitC
  rw [List.getD_eq_getElem?_getD, hx]; rfl
theorem hitK_zero {d : Ho} {k : Nat} (h : hitK d k = 0) {i : Nat} {x : List Int} (hx : (choicesL d.entries.length k)[i]? = some x) : someB d x = false := by
  unfold hitK at h
  cases h3 : firstBad (hitC d (choicesL d.entries.length k)) 0 (choicesL d.entries.length k).length with
  | some j => rw [h3] at h; cases h
  | none =>
    have hl := (List.getElem?_eq_some_iff.1 hx).1
    have := firstBad_none h3 i (by omega) (by omega)
    rw [hitC_one hx] at this
    cases hp : someB d x with
    | false => rfl
    | true => rw [if_pos hp] at this; cases this
theorem wrongR_best (d : Ho) (hn : d.entries.length ≤ 5) : wrongR d = match bestW d d.entries.length (2 ^ d.entries.length) with | some s => (bitsL s d.entries.length, 0) | none => ([], 9) := by
  obtain ⟨b1, b2⟩ := best_inv d hn (2 ^ d.entries.length) (Nat.le_refl _)
  unfold wrongR
  cases h1 : firstBad (hitK d) 0 (d.entries.length + 1) with
  | some k =>
    obtain ⟨_, k2, k3, k4⟩ := firstBad_some h1
    unfold hitK at k3
    cases h2 : firstBad (hitC d (choicesL d.entries.length k)) 0 (choicesL d.entries.length k).length with
    | none => rw [h2] at k3; exact absurd rfl k3
    | some i =>
      obtain ⟨_, i2, i3, i4⟩ := firstBad_some h2
      obtain ⟨s, s1, s2⟩ := rkW_on hn (show k ≤ d.entries.length by omega) (show i < _ by omega)
      have g := (rkW_get hn s1).2
      rw [s2] at g
      simp only at g
      have ps : someB d (bitsL s d.entries.length) = true := by
        rw [hitC_one g] at i3
        cases hp : someB d (bitsL s d.entries.length) with
        | true => rfl
        | false => rw [hp] at i3; exact absurd rfl i3
      have hgd : (choicesL d.entries.length k).getD i [] = bitsL s d.entries.length := by rw [List.getD_eq_getElem?_getD, g]; rfl
      simp only [h2, hgd]
      cases hb : bestW d d.entries.length (2 ^ d.entries.length) with
      | none => have := b1 hb s s1; rw [ps] at this; cases this
      | some t =>
        obtain ⟨t1, t2, t3⟩ := b2 t hb
        have a := lexB_no.1 (t3 s s1 ps)
        rw [s2] at a
        simp only at a
        obtain ⟨g1, g2⟩ := rkW_get hn t1
        have hk : ¬ (rkW d.entries.length t).1 < k := fun hlt => by
          have := hitK_zero (k4 _ (by omega) hlt) g2
          rw [t2] at this; cases this
        have hk1 : (rkW d.entries.length t).1 = k := by omega
        rw [hk1] at g2
        have hi : ¬ (rkW d.entries.length t).2 < i := fun hlt => by
          have := i4 _ (by omega) hlt
          rw [hitC_one g2, if_pos t2] at this; cases this
        have hi1 : (rkW d.entries.length t).2 = i := by omega
        rw [hi1, g] at g2
        rw [Option.some.inj g2]
  | none =>
    cases hb : bestW d d.entries.length (2 ^ d.entries.length) with
    | none => rfl
    | some t =>
      obtain ⟨t1, t2, t3⟩ := b2 t hb
      obtain ⟨g1, g2⟩ := rkW_get hn t1
      have := hitK_zero (firstBad_none h1 (rkW d.entries.length t).1 (by omega) (by omega)) g2
      rw [t2] at this; cases this
end Go.Proofs.YtiighcpimecehaaGreat.R8
end
section
namespace Go.Proofs.YtiighcpimecehaaGreat.R8
open Go.Proofs

theorem shl_five {i : Nat} (hi : i ≤ 5) : IntKind.i64.wrap (1 * 2 ^ min i 64) = ((2 ^ i : Nat) : Int) := by
  match i, hi with
  | 0, _ => rfl
  | 1, _ => rfl
  | 2, _ => rfl
  | 3, _ => rfl
  | 4, _ => rfl
  | 5, _ => rfl
theorem bitsL_le (s n : Nat) : (bitsL s n).length ≤ n := by
  unfold bitsL
  rw [List.length_map]
  have := List.length_filter_le (fun i => s.testBit i) (List.range n)
  simpa using this
def bv (n : Nat) : Option Nat → AV
  | none => .lst 1 0 []
  | some s => vI (bitsL s n)
theorem bv_none (n : Nat) : bv n none = .lst 1 0 [] := rfl
theorem bv_some (n s : Nat) : bv n (some s) = vI (bitsL s n) := rfl
theorem c30 (d : Ho) (hd : d.fits) (h : Heap) : callPure (EW tabX) 61 [eH d] h = some (vL (wrongV d), h) := by
  have hcl := eH_clean d
  have h16 := c16 d hd
  have hce : (checkH d).2.2 = checkE d := rfl
  rw [callPure_eq, w_call _ fn_61 rfl]
  unfold wrongV
  simp only [eH, eHc, tup3, hce] at h16 hcl
  by_cases h0 : checkE d = 0
  rotate_left
  · have hne : (checkE d != 0) = true := by simpa using h0
    simp (disch := omega) only [go_sem, ↓reduceIte, simprocAttr, eH, eHc, h16, h0, hne, vL, vI]
  have ho := ok_of_E h0
  have he5 := ho.e5
  rw [if_pos h0, wrongR_best d he5]
  have hsh := shl_five he5
  simp only [go_sem, ↓reduceIte, simprocAttr, eH, eHc, h16, h0, hsh]
  have h2n : 2 ^ d.entries.length ≤ 32 := Nat.pow_le_pow_right (by omega) he5
  generalize hnn : d.entries.length = n at he5 h2n
  generalize hx : (EW tabX).code 61 none (Code.loop _) _ = x
  refine w_rounds_sk hx (fun k (s : List ABlk × List Bool) => [(2, bv n (bestW d n k)), (4, .bool (bestW d n k).isSome), (20, .int .i64 k)]) (fun s => ⟨s.1, s.2⟩) (fun k s => s.1[0]? = some (.cells (eHc d))) (2 ^ n) (.exit 0)
    (fun s => [(2, bv n (bestW d n (2 ^ n))), (4, .bool (bestW d n (2 ^ n)).isSome), (20, .int .i64 ((2 ^ n : Nat) : Int))]) rfl ([.cells (eHc d)], []) ?_ ?_ rfl ?_ ?_ ?_
  · simp only [go_sem, ↓reduceIte, simprocAttr, bestW, bv, Option.isSome_none]
  · simp only [eHc, hnn]
  · intro k s hk hR
    obtain ⟨B, F⟩ := s
    have hB : B[0]? = some (.cells (eHc d)) := hR
    have oB := old hB
    have hBl : 0 < B.length := (List.getElem?_eq_some_iff.1 hB).1
    have hki : (k : Int) < ((2 ^ n : Nat) : Int) := by omega
    have hwk : IntKind.i64.wrap ((k : Int) + 1) = (k : Int) + 1 := wrap_i64 (by omega)
    have h81 := c81 k n (by omega) he5
    have h83 := c83 d k B F
    obtain ⟨es', F', k1, k2⟩ := c84 hd ho (but := k) (by omega) (B.length + 2) (B.length + 1) (B ++ [.cells (eHc d), .map [], .cells (eHs d k (B.length + 1))]) ⟨by simp only [go_sem, ↓reduceIte, simprocAttr], by simp, by omega⟩ [] (KOk_nil d) F
    have hsb : decide (dfs d k d.rates.length [] ≠ []) = someB d (bitsL k n) := by
      rw [dfs_all ho, hnn]
      unfold someB
      rw [Bool.eq_iff_iff]
      simp only [decide_eq_true_eq]
      exact ⟨fun h => List.length_pos_iff.2 h, fun h => List.length_pos_iff.1 h⟩
    rw [hsb] at k2
    simp only [eHc] at hB oB
    simp only [go_sem, ↓reduceIte, simprocAttr, eH, eHc, eHs, esS_nil] at h83 k2
    rw [show bestW d n (k + 1) = stepW d n (bestW d n k) k from rfl]
    cases hb : bestW d n k with
    | none =>
      refine ⟨(B ++ [.cells (eHc d), .map (esS es'), .cells (eHs d k (B.length + 1))], F ++ F'), ?_, old hR _⟩
      cases hp : someB d (bitsL k n) with
      | true =>
        rw [hp] at k2
        simp only [go_sem, ↓reduceIte, simprocAttr, eH, eHc, eHs, stepW, hp, bv_none, bv_some, Option.isSome_none, Option.isSome_some, hki, hB, oB, hnn, h81, h83, k2, hwk, vI]
        skip
      | false =>
        rw [hp] at k2
        simp only [go_sem, ↓reduceIte, simprocAttr, eH, eHc, eHs, stepW, hp, bv_none, bv_some, Option.isSome_none, Option.isSome_some, hki, hB, oB, hnn, h81, h83, k2, hwk, vI]
        skip
    | some t =>
      have h82 := c82 (bitsL k n) (bitsL t n) (zT 1 (bitsL k n).length) (zT 1 (bitsL t n).length) (fun h => zT_pos (List.length_pos_iff.2 h)) (fun h => zT_pos (List.length_pos_iff.2 h)) (by have := bitsL_le k n; omega) (by have := bitsL_le t n; omega)
      by_cases g1 : ((bitsL k n).length : Int) > (bitsL t n).length
      · refine ⟨(B, F), ?_, hR⟩
        have hsk : skipW (bitsL k n) (bitsL t n) = true := by unfold skipW; simp only [g1, decide_true, Bool.true_or]
        simp only [go_sem, ↓reduceIte, simprocAttr, eH, eHc, eHs, stepW, hsk, bv_none, bv_some, Option.isSome_none, Option.isSome_some, hki, hB, oB, hnn, h81, hwk, vI, g1]
        skip
      · by_cases g2 : ((bitsL k n).length : Int) = (bitsL t n).length
        · have g2b : (((bitsL k n).length : Int) == (bitsL t n).length) = true := by simpa using g2
          by_cases g3 : cmpL (bitsL k n) (bitsL t n) > 0
          · refine ⟨(B, F), ?_, hR⟩
            have hsk : skipW (bitsL k n) (bitsL t n) = true := by unfold skipW; rw [decide_eq_true g2, decide_eq_true g3]; simp
            simp only [go_sem, ↓reduceIte, simprocAttr, eH, eHc, eHs, stepW, hsk, bv_none, bv_some, Option.isSome_none, Option.isSome_some, hki, hB, oB, hnn, h81, h82, hwk, vI, g1, g2b, g3]
            skip
          · have hsk : skipW (bitsL k n) (bitsL t n) = false := by unfold skipW; rw [decide_eq_false g1, decide_eq_false g3]; simp
            refine ⟨(B ++ [.cells (eHc d), .map (esS es'), .cells (eHs d k (B.length + 1))], F ++ F'), ?_, old hR _⟩
            cases hp : someB d (bitsL k n) with
            | true =>
              rw [hp] at k2
              simp only [go_sem, ↓reduceIte, simprocAttr, eH, eHc, eHs, stepW, hsk, hp, bv_none, bv_some, Option.isSome_none, Option.isSome_some, hki, hB, oB, hnn, h81, h82, h83, k2, hwk, vI, g1, g2b, g3]
              skip
            | false =>
              rw [hp] at k2
              simp only [go_sem, ↓reduceIte, simprocAttr, eH, eHc, eHs, stepW, hsk, hp, bv_none, bv_some, Option.isSome_none, Option.isSome_some, hki, hB, oB, hnn, h81, h82, h83, k2, hwk, vI, g1, g2b, g3]
              skip
        · have g2b : (((bitsL k n).length : Int) == (bitsL t n).length) = false := by simpa using g2
          have hsk : skipW (bitsL k n) (bitsL t n) = false := by unfold skipW; rw [decide_eq_false g1, decide_eq_false g2]; simp
          refine ⟨(B ++ [.cells (eHc d), .map (esS es'), .cells (eHs d k (B.length + 1))], F ++ F'), ?_, old hR _⟩
          cases hp : someB d (bitsL k n) with
          | true =>
            rw [hp] at k2
            simp only [go_sem, ↓reduceIte, simprocAttr, eH, eHc, eHs, stepW, hsk, hp, bv_none, bv_some, Option.isSome_none, Option.isSome_some, hki, hB, oB, hnn, h81, h82, h83, k2, hwk, vI, g1, g2b]
            skip
          | false =>
            rw [hp] at k2
            simp only [go_sem, ↓reduceIte, simprocAttr, eH, eHc, eHs, stepW, hsk, hp, bv_none, bv_some, Option.isSome_none, Option.isSome_some, hki, hB, oB, hnn, h81, h82, h83, k2, hwk, vI, g1, g2b]
            skip
  · intro s hR
    obtain ⟨B, F⟩ := s
    simp only [go_sem, ↓reduceIte, simprocAttr, Int.lt_irrefl]
  · intro s h1 hR
    subst h1
    obtain ⟨B, F⟩ := s
    cases hb : bestW d n (2 ^ n) with
    | none => simp only [go_sem, ↓reduceIte, simprocAttr, bv_none, Option.isSome_none, vL, vI]
    | some t => simp only [go_sem, ↓reduceIte, simprocAttr, bv_some, Option.isSome_some, vL, vI]
end Go.Proofs.YtiighcpimecehaaGreat.R8
end
section
namespace Go.Proofs.YtiighcpimecehaaGreat.R8
open Go.Proofs

theorem bitsL_one : ∀ n, n ≤ 5 → ∀ i, i < n → bitsL (2 ^ i) n = [(i : Int)] := by decide
def agF (d : Ho) (x : En) (s : Nat × Nat) (t : List Int) : Nat × Nat := (if (payR (d.ag0 x.agent) x.near (t.getD x.day.toNat 0) == x.far) = true then s.1 + 1 else s.1, s.2 + 1)
theorem agF_all (d : Ho) (x : En) : ∀ (l : List (List Int)) (a b : Nat), l.foldl (agF d x) (a, b) = (a + (l.filter fun r => payR (d.ag0 x.agent) x.near (r.getD x.day.toNat 0) == x.far).length, b + l.length)
  | [], a, b => rfl
  | t :: l, a, b => by
    have e : (t :: l).foldl (agF d x) (a, b) = l.foldl (agF d x) (if (payR (d.ag0 x.agent) x.near (t.getD x.day.toNat 0) == x.far) = true then a + 1 else a, b + 1) := rfl
    rw [e, agF_all d x l]
    cases h : (payR (d.ag0 x.agent) x.near (t.getD x.day.toNat 0) == x.far) with
    | true => simp only [List.filter_cons, h, if_true, List.length_cons, Prod.mk.injEq]; omega
    | false => simp only [List.filter_cons, h, Bool.false_eq_true, if_false, List.length_cons, Prod.mk.injEq]; exact ⟨trivial, by omega⟩
def FA (d : Ho) (x : En) (but : Int) (es : List (Key × Int)) (s : Nat × Nat) : List ABlk :=
  [.cells (eHc d), bEn x, .none, .none, .cells [.ref 15 0], .none, .none, .none, .none, .none, .none, .none, .cells (eHc d), .cells (eHc d), .map (esS es), .cells (eHs d but 14), .cells [.int .i64 s.1], .cells [.int .i64 s.2]]
theorem shl_one {i : Nat} (hi : i < 5) : IntKind.i64.wrap (1 * 2 ^ min i 64) = ((2 ^ i : Nat) : Int) := by
  match i, hi with
  | 0, _ => rfl
  | 1, _ => rfl
  | 2, _ => rfl
  | 3, _ => rfl
  | 4, _ => rfl
theorem c28 (d : Ho) (hd : d.fits) (n : Int) (h : Heap) : callPure (EW tabX) 60 [eH d, .int .i64 n] h = some (v2 (agreeV d n), h) := by
  have hcl := eH_clean d
  have hle := hd.le
  have h16 := c16 d hd
  have hce : (checkH d).2.2 = checkE d := rfl
  rw [callPure_eq, w_call _ fn_60 rfl]
  unfold agreeV agreeE indexE
  simp only [eH, eHc, tup3, hce] at h16 hcl
  by_cases h0 : checkE d = 0
  rotate_left
  · have hne : (checkE d != 0) = true := by simpa using h0
    simp (disch := omega) only [go_sem, ↓reduceIte, simprocAttr, eH, eHc, h16, h0, hne, v2]
  have ho := ok_of_E h0
  have he5 := ho.e5
  have hw1 : IntKind.i64.wrap ((d.entries.length : Int) - 1) = (d.entries.length : Int) - 1 := wrap_i64 (by omega)
  cases hin : inR n 0 ((d.entries.length : Int) - 1) with
  | false =>
    have hout : out 0 ((d.entries.length : Int) - 1) n = true := by rw [← notin, hin]; rfl
    simp only [go_sem, ↓reduceIte, simprocAttr, eH, eHc, h16, h0, hw1, c49_1, hout, v2]
    skip
  | true =>
  have hout : out 0 ((d.entries.length : Int) - 1) n = false := by rw [← notin, hin]; rfl
  have hin2 : 0 ≤ n ∧ n < d.entries.length := by simp [inR] at hin; omega
  obtain ⟨j, rfl⟩ := Int.eq_ofNat_of_zero_le hin2.1
  have hjl : j < d.entries.length := by omega
  have hx := List.getElem?_eq_getElem hjl
  have e0 : d.en0 j = d.entries[j] := en0_at d hjl
  have hze := hd.ze (by intro e; rw [e] at hjl; simp at hjl)
  have hxm := List.getElem_mem hjl
  rw [cast_toNat, e0]
  simp only [hze] at h16 hcl
  have e0' := e0
  generalize d.entries[j] = x at hx hxm e0' ⊢
  by_cases h1 : x.far = -1
  · simp only [go_sem, ↓reduceIte, simprocAttr, eH, eHc, h16, h0, hw1, c49_1, hout, v2, hx, hze, eEn, h1]
    skip
  have h1b : (x.far == -1) = false := by simpa using h1
  have hoc : ∀ h, callAV tabX (EW tabX) false (.clo 97 [] []) [] h = some (.int .i64 0, h) := fun h => by simp only [go_sem, ↓reduceIte, simprocAttr, c63]
  have h2j : 2 ^ j < 32 := Nat.lt_of_le_of_lt (Nat.pow_le_pow_right (by omega) (show j ≤ 4 by omega)) (by decide)
  obtain ⟨hno, hyes⟩ := c62 d hd (2 ^ j) h2j 0 (.clo 97 [] []) [.cells (eHc d), bEn x, .none, .none, .none, .none, .none, .none, .none, .none, .none, .none] (List.replicate 10 false) (fun _ => hoc _)
  have hen : enterE d (2 ^ j) 0 = if truthsL d [(j : Int)] = [] then 8 else 0 := by
    unfold enterE
    rw [if_pos h0, if_pos rfl, dfs_all ho, bitsL_one _ he5 j hjl]
  rw [hen] at hno hyes
  by_cases h2 : truthsL d [(j : Int)] = []
  · rw [if_pos h2] at hno
    obtain ⟨F, hc⟩ := hno (by decide)
    simp only [go_sem, ↓reduceIte, simprocAttr, eH, eHc, bEn, hze] at hc
    simp only [go_sem, ↓reduceIte, simprocAttr, eH, eHc, h16, h0, hw1, c49_1, hout, v2, hx, hze, eEn, h1, h1b, h2, shl_one (show j < 5 by omega), hc, List.size_toArray]
    generalize hcf : okFam _ _ _ = cf
    obtain rfl : cf = true := by rw [← hcf]; kernel_rfl
    simp only [go_sem, ↓reduceIte, simprocAttr]
    skip
  rw [if_neg h2] at hyes
  obtain ⟨es, F, hke, hc⟩ := hyes rfl
  simp only [go_sem, ↓reduceIte, simprocAttr, eH, eHc, bEn, hze, HE, eHs] at hc
  simp only [go_sem, ↓reduceIte, simprocAttr, eH, eHc, h16, h0, hw1, c49_1, hout, v2, hx, hze, eEn, h1, h1b, h2, shl_one (show j < 5 by omega), hc, List.size_toArray]
  generalize hcf : okFam _ _ _ = cf
  obtain rfl : cf = true := by rw [← hcf]; kernel_rfl
  have h64 := c64 15 (FA d x (2 ^ j : Nat) es (0, 0)) (List.replicate 10 false ++ F) (by simp [FA])
  simp only [go_sem, ↓reduceIte, simprocAttr, FA, eHc, eHs, bEn, hze] at h64
  simp only [go_sem, ↓reduceIte, simprocAttr, h64]
  rw [w_range (gf := 138) (fst := []) (cap := [.ref 18 0])]
  rotate_left
  · simp only [go_sem, ↓reduceIte, simprocAttr]
  generalize hLB : ABlk.loop false AExit.normal false 60 _ _ _ _ = LB
  obtain ⟨LB', b1, b2⟩ : ∃ LB', beginBlk LB = some LB' ∧ endBlk .normal LB' = some LB := by rw [← hLB]; exact ⟨_, rfl, rfl⟩
  have b4 : ∀ h : Heap, h.b[20]? = some LB → ∀ fr ms, afterRange 20 fr ms h = some (.normal, ⟨fr, h.put 20 .none, ms⟩) := fun h hh fr ms => by
    rw [← hLB] at hh; unfold afterRange; rw [hh]
  have hset : ∀ (s : Nat × Nat) es X, PM (FA d x (2 ^ j : Nat) [] s ++ X) 14 es = FA d x (2 ^ j : Nat) es s ++ X := fun s es X => rfl
  obtain ⟨a1, a2, a3, a4, a5, a6, a7, a8⟩ := ho.en x hxm
  have hrd := ho.rd
  have hd3 := ho.d3
  let C : Con d (2 ^ j) 15 14 18 21 20 (Nat × Nat) := {
    PF := fun s => FA d x (2 ^ j : Nat) [] s ++ [.cells [.ref 15 0], .mark, LB]
    stp := fun s t => (agF d x s t, true)
    Inv := fun k s => s.2 = k ∧ s.1 ≤ k
    len := fun s => by simp [FA]
    hat := fun s => ⟨rfl, by simp [FA], by omega⟩
    bx := fun s => rfl
    ne := by omega
    rnd := by
      intro k s t E tb es hinv hk8 hl hv hke
      obtain ⟨cnt, all⟩ := s
      obtain ⟨i1, i2⟩ := hinv
      have i1 : all = k := i1
      have i2 : cnt ≤ k := i2
      rw [hset]
      have hat : (⟨FA d x (2 ^ j : Nat) es (cnt, all) ++ [.cells [.ref 15 0], .mark, LB] ++ NB 21 20 18 15 (arrOf t) E, tb⟩ : Heap).b[20]? = some LB := rfl
      have hat2 := hat.trans (congrArg some hLB.symm)
      rw [stepRound_eq tabX hat2]
      clear hat hat2
      obtain ⟨i, hi⟩ := Int.eq_ofNat_of_zero_le a3
      have hil : i < t.length := by omega
      have hgi := List.getElem?_eq_getElem hil
      have hbv := hv _ (List.getElem_mem hil)
      have hgd : t.getD x.day.toNat 0 = t[i] := by rw [hi]; simp [hil]
      have hai : (arrOf t)[x.day.toNat]? = some t[i] := by
        rw [hi, cast_toNat, arrOf_get hil]; simp [hil]
      have hP : HAt d (2 ^ j : Nat) 15 14 (FA d x (2 ^ j : Nat) [] (cnt, all + 1)) := ⟨rfl, by simp [FA], by omega⟩
      obtain ⟨es', F, k1, hc⟩ := c78x d hd ho (2 ^ j : Nat) hP x hxm (arrOf t) (arrOf_len (by omega)) t[i] hai (by omega) ([.cells [.ref 15 0], .mark, LB'] ++ NB 21 20 18 15 (arrOf t) (E ++ (.cells (I (arrOf t)) :: List.replicate 7 .none))) (tb ++ List.replicate 7 false) es hke
      have hstp : agF d x (cnt, all) t = (if (payR (d.ag0 x.agent) x.near t[i] == x.far) = true then cnt + 1 else cnt, all + 1) := by unfold agF; rw [hgd]
      obtain ⟨x0, x1, x2, ha⟩ := list3 (arrOf_len (t := t) (by omega))
      rw [ha] at hc
      simp only [hstp]
      generalize payR (d.ag0 x.agent) x.near t[i] = pv at hc ⊢
      have hw : IntKind.i64.wrap ((all : Int) + 1) = (all : Int) + 1 := wrap_i64 (by omega)
      have hwc : IntKind.i64.wrap ((cnt : Int) + 1) = (cnt : Int) + 1 := wrap_i64 (by omega)
      refine ⟨es', .cells (I (arrOf t)) :: List.replicate 7 .none, List.replicate 7 false ++ F, k1, fun _ => ⟨by omega, by split <;> omega⟩, ?_⟩
      rw [hset]
      simp only [ha]
      simp only [go_sem, ↓reduceIte, simprocAttr, NB, FA, I_c, I_nil, eEn, bEn, eHc, eHs, hze] at hc
      cases hq : (pv == x.far) with
      | true =>
        simp only [y1, Option.bind_some, roundK, NB, FA]
        simp only [go_sem, ↓reduceIte, simprocAttr, turnBlk, b1, b2, isNormal, hw, hwc, hq, hc, eHc, eHs, bEn, hze, I_c, I_nil, List.size_toArray]
        generalize hcf : okFam _ _ _ = cf
        obtain rfl : cf = true := by rw [← hcf]; kernel_rfl
        simp only [go_sem, ↓reduceIte, simprocAttr, turnBlk, b1, b2, isNormal, hw, hwc, hq]
        skip
      | false =>
        simp only [y1, Option.bind_some, roundK, NB, FA]
        simp only [go_sem, ↓reduceIte, simprocAttr, turnBlk, b1, b2, isNormal, hw, hwc, hq, hc, eHc, eHs, bEn, hze, I_c, I_nil, List.size_toArray]
        generalize hcf : okFam _ _ _ = cf
        obtain rfl : cf = true := by rw [← hcf]; kernel_rfl
        simp only [go_sem, ↓reduceIte, simprocAttr, turnBlk, b1, b2, isNormal, hw, hwc, hq]
        skip }
  have hdfs : dfs d (2 ^ j) d.rates.length [] = truthsL d [(j : Int)] := by rw [dfs_all ho, bitsL_one _ he5 j hjl]
  obtain ⟨es', F', k, x1, x2, x3, x4⟩ := c96 hd ho h2j C (0, 0) ⟨rfl, by omega⟩ (ho.dfs_len _) (by omega) (by omega) (by omega) es hke (List.replicate 10 false ++ F)
  simp only [C] at x4
  rw [hset, hset, hdfs, runC_all, agF_all] at x4
  have hpos := List.length_pos_iff.2 h2
  unfold agreeN
  rw [cast_toNat, e0']
  have hfil : (truthsL d [(j : Int)]).filter (fun r => agreesB d x r) = (truthsL d [(j : Int)]).filter fun r => payR (d.ag0 x.agent) x.near (r.getD x.day.toNat 0) == x.far := by
    apply List.filter_congr
    intro r _
    unfold agreesB; rw [h1b, Bool.false_or]
  rw [hfil]
  generalize ((truthsL d [(j : Int)]).filter fun r => payR (d.ag0 x.agent) x.near (r.getD x.day.toNat 0) == x.far).length = p at x4 ⊢
  generalize (truthsL d [(j : Int)]).length = q at x4 hpos ⊢
  simp only [FA, eHc, eHs, bEn, hze, Nat.zero_add] at x4
  simp only [go_sem, ↓reduceIte, simprocAttr] at x4
  simp only [go_sem, ↓reduceIte, simprocAttr, x4]
  rw [b4 _ rfl]
  unfold settled
  by_cases hpq : (p : Int) = q
  · simp only [go_sem, ↓reduceIte, simprocAttr, hpq, v2]
    skip
  · have hpq' : ((p : Int) == q) = false := by simpa using hpq
    by_cases hp0 : (p : Int) = 0
    · rw [hp0] at hpq hpq'
      simp only [go_sem, ↓reduceIte, simprocAttr, hpq, hpq', hp0, v2]
      skip
    · have hp0' : ((p : Int) == 0) = false := by simpa using hp0
      simp only [go_sem, ↓reduceIte, simprocAttr, hpq, hpq', hp0, hp0', v2]
      skip
end Go.Proofs.YtiighcpimecehaaGreat.R8
end
section
namespace Go.Proofs.YtiighcpimecehaaGreat.R8
open Go.Proofs

def lima : ByteArray := ⟨#[108, 105, 109, 97]⟩
def cadiz : ByteArray := ⟨#[99, 97, 100, 105, 122]⟩
def hX (far : Int) : Ho := ⟨2, [(10, 14), (8, 16)], 2, [⟨lima, 1, 0⟩, ⟨cadiz, 3, 1⟩], [⟨0, 0, 26, 30⟩, ⟨1, 1, 18, far⟩], 2, 3, 4⟩
theorem c35 (a b : Int) (h : Heap) : callPure (EW tabX) 63 [.int .i64 a, .int .i64 b] h = some (eSp (a, b), h) := by
  rw [callPure_eq, w_call _ fn_63 rfl]
  simp only [go_sem, ↓reduceIte, simprocAttr, eSp]
theorem c34 (far : Int) (hf : -1 ≤ far) (h : Heap) : callPure (EW tabX) 57 [.int .i64 far] h = some (eH (hX far), h) := by
  have hm : (if far > -1 then far else -1) = far := by split <;> omega
  rw [callPure_eq, w_call _ fn_57 rfl]
  simp only [go_sem, ↓reduceIte, simprocAttr, c35, eSp, eH, eHc, hX, hm, List.map_cons, List.map_nil, eAg, eEn, lima, cadiz]
  skip
theorem fits_X (far : Int) : (hX far).fits := ⟨fun _ => rfl, fun _ => rfl, fun _ => rfl, by simp [hX], by simp [hX], by simp [hX], by intro c hc; simp only [hX, List.mem_cons, List.mem_nil_iff, or_false] at hc; rcases hc with rfl | rfl <;> decide⟩
theorem k18 (h : Heap) : callPure (EW tabX) 58 [eH (hX (-1))] h = some (v3 ([12, 10], 5, 0), h) := (c18 _ (fits_X _) h).trans (congrArg (fun v => some (v3 v, h)) (by kernel_rfl))
theorem k21 (h : Heap) : callPure (EW tabX) 59 [eH (hX (-1)), .int .i64 1] h = some (vS ((10, 14), 0), h) := (c21 _ (fits_X _) 1 h).trans (congrArg (fun v => some (vS v, h)) (by kernel_rfl))
theorem k21b (h : Heap) : callPure (EW tabX) 59 [eH (hX 24), .int .i64 0] h = some (vS ((0, 0), 8), h) := (c21 _ (fits_X _) 0 h).trans (congrArg (fun v => some (vS v, h)) (by kernel_rfl))
theorem k24 (h : Heap) : callPure (EW tabX) 23 [eH (hX (-1)), .int .i64 0, .int .i64 1, .int .i64 21] h = some (vS ((20, 28), 0), h) := (c24 _ (fits_X _) 0 1 21 h).trans (congrArg (fun v => some (vS v, h)) (by kernel_rfl))
theorem k26 (h : Heap) : callPure (EW tabX) 62 [eH (hX (-1)), .int .i64 1] h = some (vS ((15, 21), 0), h) := (c26 _ (fits_X _) 1 h).trans (congrArg (fun v => some (vS v, h)) (by kernel_rfl))
theorem k28 (h : Heap) : callPure (EW tabX) 60 [eH (hX 17), .int .i64 1] h = some (v2 (0, 0), h) := (c28 _ (fits_X _) 1 h).trans (congrArg (fun v => some (v2 v, h)) (by kernel_rfl))
theorem k28b (h : Heap) : callPure (EW tabX) 60 [eH (hX 24), .int .i64 1] h = some (v2 (2, 0), h) := (c28 _ (fits_X _) 1 h).trans (congrArg (fun v => some (v2 v, h)) (by kernel_rfl))
theorem k28c (h : Heap) : callPure (EW tabX) 60 [eH (hX (-1)), .int .i64 1] h = some (v2 (0, 2), h) := (c28 _ (fits_X _) 1 h).trans (congrArg (fun v => some (v2 v, h)) (by kernel_rfl))
theorem k30 (h : Heap) : callPure (EW tabX) 61 [eH (hX 24)] h = some (vL ([0], 0), h) := (c30 _ (fits_X _) h).trans (congrArg (fun v => some (vL v, h)) (by kernel_rfl))
theorem k30b (h : Heap) : callPure (EW tabX) 61 [eH (hX 17)] h = some (vL ([], 0), h) := (c30 _ (fits_X _) h).trans (congrArg (fun v => some (vL v, h)) (by kernel_rfl))
theorem k32 (h : Heap) : callPure (EW tabX) 27 [eH (hX (-1)), .int .i64 0, .int .i64 30] h = some (tup3 (0, 26, 0), h) := (c32 _ (fits_X _) 0 30 h).trans (congrArg (fun v => some (tup3 v, h)) (by kernel_rfl))
set_option maxRecDepth 100000 in
theorem c23 (h : Heap) : callPure (EW tabX) 19 [] h = some (.bool true, h) := by
  have i1 := c34 (-1) (by omega)
  have i2 := c34 17 (by omega)
  have i3 := c34 24 (by omega)
  have q1 := k18
  have q2 := k21
  have q3 := k21b
  have q4 := k24
  have q5 := k26
  have q6 := k28
  have q7 := k28b
  have q8 := k28c
  have q9 := k30
  have q10 := k30b
  have q11 := k32
  have e1 := c20 [12, 10] [12, 10] 1 1 (fun _ => rfl) (fun _ => rfl) (by decide) (by decide)
  have e2 := c20 [0] [0] 1 1 (fun _ => rfl) (fun _ => rfl) (by decide) (by decide)
  have cl := fun (far : Int) => eH_clean (hX far)
  have un : ∀ (far : Int) n, (eH (hX far)).under n = true := fun far n => by simp only [eH, eHc, go_sem, ↓reduceIte, simprocAttr]
  have eX : ∀ far : Int, eH (hX far) = .agg [.int .i64 2, .lst 0 2 ((hX far).rates.map eSp), .int .i64 2, .lst 0 3 ((hX far).agents.map eAg), .lst 0 4 ((hX far).entries.map eEn)] := fun far => rfl
  rw [callPure_eq, w_call _ fn_19 rfl]
  simp only [eX, v3, vI, vS, v2, vL, tup3, eSp, I_c, I_nil, decide_true] at *
  simp only [go_sem, ↓reduceIte, simprocAttr, zipFrom_nil, List.append_eq, i1, i2, i3, q1, q2, q3, q4, q5, q6, q7, q8, q9, q10, q11, e1, e2, c35, eSp, I_c, I_nil, aggBin, eqCells2, decide_true]
  skip
end Go.Proofs.YtiighcpimecehaaGreat.R8
end
section
namespace Go.Proofs.YtiighcpimecehaaGreat
open Go.Proofs

theorem tmodN (a n : Nat) : ((a : Int)).tmod (n : Int) = ((a % n : Nat) : Int) := rfl
set_option maxHeartbeats 4000000 in
theorem t4 (m : Mo) (hm : m.fits) (d : R8.Ho) (hd : d.fits) (x : X5) (hx : x.a < 256 ∧ x.b < 256 ∧ x.c < 256 ∧ x.d < 256 ∧ x.e < 256) : ∃ h', (EW tabX).call 4 [eM m, R8.eH d, eX5 x] noHeap = some (.bool true, h') := by
  obtain ⟨xa, xb, xc, xd, xe⟩ := x
  simp only at hx
  obtain ⟨xa1, xb1, xc1, xd1, xe1⟩ := hx
  have a7 := m7
  have a8 := R8.c23
  have h17 := m17 m hm
  have h18 := R8.c17 d hd
  have hcm := eM_clean m
  have hch := R8.eH_clean d
  rw [noHeap, w_call _ fn_4 rfl]
  simp only [eM, eMc, R8.eH, R8.eHc, tup3, tup3] at h17 h18 hcm hch
  by_cases h0 : (checkM m).2.2 = 0
  rotate_left
  · have hne : ((checkM m).2.2 != 0) = true := by simpa using h0
    simp (disch := omega) only [go_sem, ↓reduceIte, simprocAttr, eM, eMc, R8.eH, R8.eHc, eX5, h17, h18, hcm, hch, hne, a7, a8]
    exact ⟨_, rfl⟩
  by_cases h1 : (R8.checkH d).2.2 = 0
  rotate_left
  · have hne : ((R8.checkH d).2.2 != 0) = true := by simpa using h1
    simp (disch := omega) only [go_sem, ↓reduceIte, simprocAttr, eM, eMc, R8.eH, R8.eHc, eX5, h17, h18, hcm, hch, h0, hne, a7, a8]
    exact ⟨_, rfl⟩
  by_cases h2 : m.who.length = 0
  · have h2b : ((m.who.length : Int) == 0) = true := by simp [h2]
    simp (disch := omega) only [go_sem, ↓reduceIte, simprocAttr, eM, eMc, R8.eH, R8.eHc, eX5, h17, h18, hcm, hch, h0, h1, h2b, a7, a8]
    exact ⟨_, rfl⟩
  have h2b : ((m.who.length : Int) == 0) = false := beq_false_of_ne (by omega)
  by_cases h3 : d.agents.length = 0
  · have h3b : ((d.agents.length : Int) == 0) = true := by simp [h3]
    simp (disch := omega) only [go_sem, ↓reduceIte, simprocAttr, eM, eMc, R8.eH, R8.eHc, eX5, h17, h18, hcm, hch, h0, h1, h2b, h3b, a7, a8]
    exact ⟨_, rfl⟩
  have h3b : ((d.agents.length : Int) == 0) = false := beq_false_of_ne (by omega)
  have hoM := (ok_of_checkM h0).1
  have hoH := (R8.ok_of_check h1).1
  obtain ⟨ys, z, y1, y2, y3, h20⟩ := m20 m hm hoM
  have h45 := R8.c45 d hd hoH [] 0 (fun h => absurd rfl h) (by decide)
  simp only [eM, eMc, R8.eH, R8.eHc, I_nil] at h20 h45
  have hyl := y1.1
  by_cases h4 : ys.length = 0
  · have h4b : ((ys.length : Int) == 0) = true := by simp [h4]
    simp (disch := omega) only [go_sem, ↓reduceIte, simprocAttr, eM, eMc, R8.eH, R8.eHc, eX5, h17, h18, hcm, hch, h0, h1, h2b, h3b, h20, h45, h4b, a7, a8]
    exact ⟨_, rfl⟩
  have h4b : ((ys.length : Int) == 0) = false := beq_false_of_ne (by omega)
  obtain rfl := y3 (by intro e; rw [e] at h4; exact h4 rfl)
  by_cases h5 : R8.truthsL d [] = []
  · rw [h5] at h45
    simp (disch := omega) only [go_sem, ↓reduceIte, simprocAttr, eM, eMc, R8.eH, R8.eHc, R8.vR, eX5, h17, h18, hcm, hch, h0, h1, h2b, h3b, h20, h45, h4b, y2, a7, a8]
    exact ⟨_, rfl⟩
  have h5l : 0 < (R8.truthsL d []).length := List.length_pos_iff.2 h5
  have h5b : (((R8.truthsL d []).length : Int) == 0) = false := beq_false_of_ne (by omega)
  have hrd := hoH.rd
  have hd1 := hoH.d1
  -- who, which agent, which day
  have hCl : xa % m.who.length < m.who.length := Nat.mod_lt _ (by omega)
  have hAl : xb % d.agents.length < d.agents.length := Nat.mod_lt _ (by omega)
  have hDl : xc % d.rates.length < d.rates.length := Nat.mod_lt _ (by omega)
  have tD : ((xc : Int)).tmod d.days = ((xc % d.rates.length : Nat) : Int) := by rw [← hrd]; rfl
  have hIl : xd % ys.length < ys.length := Nat.mod_lt _ (by omega)
  have hJl : xe % (R8.truthsL d []).length < (R8.truthsL d []).length := Nat.mod_lt _ h5l
  have nw : ((m.who.length : Int) = 0) = False := eq_false (by omega)
  have na : ((d.agents.length : Int) = 0) = False := eq_false (by omega)
  have nd : (d.days = 0) = False := eq_false (by omega)
  have ny : ((ys.length : Int) = 0) = False := eq_false (by omega)
  have nr : (((R8.truthsL d []).length : Int) = 0) = False := eq_false (by omega)
  have tw := tmodN xa m.who.length
  have ta := tmodN xb d.agents.length
  have ty := tmodN xd ys.length
  have tr := tmodN xe (R8.truthsL d []).length
  generalize hC : xa % m.who.length = C at hCl tw
  generalize hA : xb % d.agents.length = A at hAl ta
  generalize hD : xc % d.rates.length = D at hDl tD
  generalize hI : xd % ys.length = I0 at hIl ty
  generalize hJ : xe % (R8.truthsL d []).length = J at hJl tr
  have hIb : I0 < (bfsM m m.sums.length).length := by omega
  obtain ⟨tg, zt, hyt, hzt⟩ := y1.2 I0 _ (List.getElem?_eq_getElem hIb)
  have htr := bfs_truths hoM (List.getElem_mem hIb)
  generalize (bfsM m m.sums.length)[I0] = t0 at hyt hzt htr
  have htn : truthsM m 0 ≠ [] := List.ne_nil_of_mem htr
  have htl := (truthsM_ok htr).2
  have he : enterM m m.who.length [(C : Int)] = 0 := by
    unfold enterM
    rw [if_neg (by simpa using h0), if_neg, if_neg htn]
    simp only [List.any_cons, List.any_nil, Bool.or_false, out, Bool.or_eq_true, decide_eq_true_eq]; omega
  have hdn : duesM m C ≠ [] := by unfold duesM; simpa using htn
  obtain ⟨lo, hlo⟩ := min_ex hdn
  obtain ⟨hi, hhi⟩ := max_ex hdn
  have h22 := m22 m hm C he lo hi hlo hhi
  have hdm : dueC m t0 C t0.length ∈ duesM m C := by
    unfold duesM
    rw [← due_arr htl]
    exact List.mem_map.2 ⟨t0, htr, rfl⟩
  have hlo0 : 0 ≤ lo := by
    obtain ⟨u, _, e⟩ := List.mem_map.1 hlo.1
    rw [← e]; exact (dueC_bd hoM _ _ _).1
  have hle1 := hlo.2 _ hdm
  have hle2 := hhi.2 _ hdm
  have hlh : lo ≤ hi := by omega
  have h25 := m25 m hm hoM t0 zt hzt (by omega) C
  have c1 : ¬ lo < 0 := by omega
  have c2 : ¬ hi < lo := by omega
  have hCi : (C : Int) < m.who.length := by omega
  have hAi : (A : Int) < d.agents.length := by omega
  simp only [eM, eMc] at h22 h25
  generalize dueC m t0 C t0.length = due at *
  by_cases h6 : 99 < hi
  · simp (disch := omega) only [go_sem, ↓reduceIte, simprocAttr, eM, eMc, R8.eH, R8.eHc, R8.vR, eX5, h17, h18, hcm, hch, h0, h1, h2b, h3b, h20, h45, h4b, h5b, y2, tw, ta, tD, nw, na, nd, h22, c1, c2, h6, wrap_i64, a7, a8]
    exact ⟨_, rfl⟩
  have hJx := List.getElem?_eq_getElem hJl
  have hrm : (R8.truthsL d [])[J] ∈ R8.truthsL d [] := List.getElem_mem hJl
  obtain ⟨s1, s2, ⟨s3, s4⟩, s5, s6, w, n, s7, s8⟩ := R8.shore hoH h5 hAl hDl hlo0 hle1 hle2 (by omega) hrm
  obtain ⟨f1, f2⟩ := R8.sh_fine hoH hrm
  have h23a := R8.c24 d hd A D lo
  have h23b := R8.c24 d hd A D hi
  have h27 := R8.c32 d hd D (R8.foldS (R8.payAt d A D hi) (R8.truthsL d [])).1
  rw [s1] at h23a
  rw [s2] at h23b
  rw [s7] at h27
  have hag : d.agents[A]? = some (d.ag0 A) := by
    show _ = some (d.agents.getD (A : Int).toNat ⟨default, 0, 0⟩)
    rw [Int.toNat_natCast, List.getD_eq_getElem?_getD, List.getElem?_eq_getElem hAl]; rfl
  have hfee := hoH.ag _ (List.mem_of_getElem? hag)
  have hDr : D < ((R8.truthsL d [])[J]).length := by omega
  have hpe : R8.payAt d A D due (R8.truthsL d [])[J] = R8.payR (d.ag0 A) due (((R8.truthsL d [])[J])[D]) := by
    unfold R8.payAt
    rw [Int.toNat_natCast, List.getD_eq_getElem?_getD, List.getElem?_eq_getElem hDr]; rfl
  have hDx := List.getElem?_eq_getElem hDr
  have hvb := f2 _ (List.getElem_mem hDr)
  have h26 := R8.c47 (d.ag0 A) ⟨hfee.1, hfee.2.1⟩ due (((R8.truthsL d [])[J])[D]) ⟨by omega, by omega⟩ ⟨by omega, by omega⟩
  rw [← hpe] at h26
  generalize R8.payAt d A D due (R8.truthsL d [])[J] = paid at *
  generalize ((R8.truthsL d [])[J])[D] = v at hDx hvb h26
  generalize (R8.truthsL d [])[J] = r0 at *
  obtain ⟨⟨ll, lh⟩, hle⟩ : ∃ p, p = R8.foldS (R8.payAt d A D lo) (R8.truthsL d []) := ⟨_, rfl⟩
  obtain ⟨⟨ml, mh⟩, hme⟩ : ∃ p, p = R8.foldS (R8.payAt d A D hi) (R8.truthsL d []) := ⟨_, rfl⟩
  rw [← hle] at h23a s5
  rw [← hme] at h23b h27 s3 s4 s6
  simp only at s3 s4 s5 s6 h27
  have hza := hd.za (by intro e; rw [e] at hAl; simp at hAl)
  have hz5 : zT 1 (R8.truthsL d []).length = 1 := zT_pos h5l
  generalize R8.truthsL d [] = rs at *
  generalize d.ag0 A = ag at *
  have hDi : (D : Int) < r0.length := by omega
  have hJi : (J : Int) < rs.length := by omega
  have hIi : (I0 : Int) < ys.length := by omega
  have i1 : inR mh 0 198 = true := by simp [inR]; omega
  have i2 : inR paid ll mh = true := by simp [inR]; omega
  simp only [R8.eH, R8.eHc, R8.vS, R8.eSp, tup3, R8.eAg] at h23a h23b h27 h26
  simp only [hza] at h18 hch h45 h23a h23b h27
  simp (disch := omega) only [go_sem, ↓reduceIte, simprocAttr, eM, eMc, R8.eH, R8.eHc, R8.vR, R8.eR, R8.eR_get, R8.eAg_get, R8.eAg, eX5, h17, h18, hcm, hch, h0, h1, h2b, h3b, h20, h45, h4b, h5b, y2, tw, ta, tD, ty, tr, nw, na, nd, ny, nr, h22, c1, c2, h6, h23a, h23b, h25, h26, h27, c42, i1, i2, hag, hJx, hDx, hyt, hDi, hJi, hIi, hCi, hAi, s8, hza, hz5, wrap_i64, a7, a8]
  exact ⟨_, rfl⟩
end Go.Proofs.YtiighcpimecehaaGreat
end
section
namespace Go.Proofs.YtiighcpimecehaaGreat.topShore
open Go.ChangeShapes Go.WideShapes Go.ChangeAt Go.RowKit Go.Proofs

theorem own : ownKnob Tryz.prog.godebug = none := by kernel_rfl
theorem laid : laidOutB Tryz.prog = true := by kernel_rfl
theorem row38 : Tryz.prog.readableRec 38 = true ∧ 38 < Tryz.prog.types.size := ⟨by kernel_rfl, of_decide_eq_true (by kernel_rfl)⟩
theorem row62 : Tryz.prog.readableRec 62 = true ∧ 62 < Tryz.prog.types.size := ⟨by kernel_rfl, of_decide_eq_true (by kernel_rfl)⟩
theorem row63 : Tryz.prog.readableRec 63 = true ∧ 63 < Tryz.prog.types.size := ⟨by kernel_rfl, of_decide_eq_true (by kernel_rfl)⟩
set_option maxRecDepth 100000 in
theorem lifted (os : Os) (started : os.Started) (H : Type) (enc : TypeId × Value → H) :
    ReturnsInHanded {} Tryz.checked os 4 .any (Rows.topShoreSpec.pre6 enc Tryz.prog Tryz.f4 Rows.topShoreRow.domain false) (Rows.topShoreSpec.post enc Tryz.prog Tryz.f4 false true false false) := by
  refine returnsInHanded_of_change_sized (C := Tryz.checked) own started (by kernel_rfl) Tryz.func4
    (ChangeSpec.witness6 (enc := enc) (C := Tryz.checked) false ⟨#[], #[.agg #[.slice none 0 0, .slice none 0 0, .slice none 0 0, .slice none 0 0], .agg #[.int .i64 0, .slice none 0 0, .int .i64 0, .slice none 0 0, .slice none 0 0], .agg #[.int .u8 0, .int .u8 0, .int .u8 0, .int .u8 0, .int .u8 0]], []⟩ 8 (by kernel_rfl) (by kernel_rfl) (by kernel_rfl) (by kernel_rfl)) ?_
  intro W base args ds gs before hval0 hW hcnd hsz _
  have hval : ∀ (j : Nat) t v, Tryz.f4.params[j]? = some t → args[j]? = some v → Value.okWide Tryz.prog W .any base t v := hval0
  have hW' := hW
  obtain ⟨p, q, hA0, hV, rfl, hfz, hnd⟩ := hW
  have hA : DataW.TrodAll enc Tryz.prog W 0 (fun _ => true) true Tryz.f4.params.toList args.toList ds p := hA0
  rw [Tryz.params4] at hA hval
  obtain ⟨v0, vs0, d0, ds0, p0, q0, hargs, rfl, rfl, h0, r0⟩ := trodAll_cons hA
  obtain ⟨v1, vs1, d1, ds1, p1, q1, rfl, rfl, rfl, h1, r1⟩ := trodAll_cons r0
  obtain ⟨v2, vs2, d2, ds2, p2, q2, rfl, rfl, rfl, h2, r2⟩ := trodAll_cons r1
  obtain ⟨rfl, rfl, rfl⟩ := trodAll_nil r2
  obtain rfl : args = #[v0, v1, v2] := by cases args; simp_all
  obtain ⟨rfl, rfl⟩ := trodVars_none hV
  have lt0 : ∀ x ∈ p0, x.block < W.heap.size := by obtain ⟨m, hm⟩ := h0; exact DataW.trod_lt m _ _ _ hm
  obtain ⟨y0, g0, rv0⟩ := rd_mo (hval 0 38 v0 rfl rfl) h0 (light_each (ts := [38, 62, 63]) hsz (j := 0) rfl rfl)
  have lt1 : ∀ x ∈ p1, x.block < W.heap.size := by obtain ⟨m, hm⟩ := h1; exact DataW.trod_lt m _ _ _ hm
  obtain ⟨y1, g1, rv1⟩ := rd_hoy (hval 1 62 v1 rfl rfl) h1 (light_each (ts := [38, 62, 63]) hsz (j := 1) rfl rfl)
  have lt2 : ∀ x ∈ p2, x.block < W.heap.size := by obtain ⟨m, hm⟩ := h2; exact DataW.trod_lt m _ _ _ hm
  obtain ⟨y2, g2, rv2⟩ := rd_x5 (hval 2 63 v2 rfl rfl) h2 (light_each (ts := [38, 62, 63]) hsz (j := 2) rfl rfl)
  clear hA0 hval0
  simp only [List.append_nil] at hW'
  have hwalk : Calls Tryz.prog 4 #[v0, v1, v2] W fun e w' => e = .returned (.bool true) ∧ Below W.heap.size W w' := by
    obtain ⟨h', hc⟩ := t4 y0 g0 y1 g1 y2 g2
    refine ew_bool fitsX (args := [eM y0, R8.eH y1, eX5 y2]) (vs := [v0, v1, v2]) hc ⟨rfl, fun i x hx => ?_⟩
    match i, hx with
    | 0, hx => obtain rfl : eM y0 = x := Option.some.inj hx; exact rv0
    | 1, hx => obtain rfl : R8.eH y1 = x := Option.some.inj hx; exact rv1
    | 2, hx => obtain rfl : eX5 y2 = x := Option.some.inj hx; exact rv2
  refine hwalk.mono fun e W' ⟨he, bel⟩ => ?_
  subst he
  exact ⟨_, rfl, _, _, _, [], _, [], hW', trodAll_mk1 (shut_bool Tryz.underlying4 _), (trodAll_cons_mk (Below.trod laid row38.1 row38.2 h0 bel lt0) (trodAll_cons_mk (Below.trod laid row62.1 row62.2 h1 bel lt1) (trodAll_cons_mk (Below.trod laid row63.1 row63.2 h2 bel lt2) trodAll_mk0))), rfl, bel.frame _, fun h => by cases h⟩

theorem over : Rows.topShoreRow.holds Tryz.pinned (OpenSpec.ofChange Rows.topShoreSpec) :=
  OpenClaim.holds_of_wide 4 Tryz.f4 rfl rfl rfl rfl rfl rfl rfl ⟨rfl, rfl, rfl, rfl, rfl⟩ rfl rfl rfl rfl rfl (by kernel_rfl) Tryz.func4 (by kernel_rfl)
    (of_decide_eq_true (by kernel_rfl)) (by unfold Func.isWrapper; first | (rw [if_pos (by decide +kernel)]; kernel_rfl) | (rw [if_neg (by decide +kernel)]; exact ⟨rfl, rfl⟩))
    (fun os started H enc _ => lifted os started H enc)

theorem proved : Rows.TopShoreSaid := over
#print axioms proved
end Go.Proofs.YtiighcpimecehaaGreat.topShore
end
