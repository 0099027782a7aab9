/- The fewest of some things, as the program finds them: sets in the order of their numbers. Conditions: those of each law. -/
import Derived.Test.YthkpjbgadkkeeaaGreatQ11
set_option linter.unusedSimpArgs false
set_option linter.unusedVariables false
namespace Go.Proofs.YthkpjbgadkkeeaaGreat
open Go.Proofs
def skipW (w b : List Int) : Bool := decide ((w.length : Int) > b.length) || (decide ((w.length : Int) = b.length) && decide (cmpL w b > 0))
def stepW (P : Nat → Bool) (n : Nat) (st : Option Nat) (s : Nat) : Option Nat := match st with
 | some t => if skipW (bitsL s n) (bitsL t n) = true then some t else if P s = true then some s else some t
 | none => if P s = true then some s else none
def bestW (P : Nat → Bool) (n : Nat) : Nat → Option Nat
 | 0 => none
 | k + 1 => stepW P n (bestW P n k) k
theorem shl_five {i : Nat} (hi : i ≤ 5) : IntKind.i64.wrap (1 * 2 ^ min i 64) = ((2 ^ i : Nat) : Int) := by
 match i, hi with
 | 0, _ => rfl
 | 1, _ => rfl
 | 2, _ => rfl
 | 3, _ => rfl
 | 4, _ => rfl
 | 5, _ => rfl
theorem bitsL_le (s n : Nat) : (bitsL s n).length ≤ n := by
 unfold bitsL
 rw [List.length_map]
 have := List.length_filter_le (fun i => s.testBit i) (List.range n)
 simpa using this
def bv (n : Nat) : Option Nat → AV
 | none => .lst 1 0 []
 | some s => vI (bitsL s n)
theorem bv_none (n : Nat) : bv n none = .lst 1 0 [] := rfl
theorem bv_some (n s : Nat) : bv n (some s) = vI (bitsL s n) := rfl
structure FS where
 s : Nat
 F : List Bool
set_option maxHeartbeats 1000000 in
theorem c61 (n : Nat) (hn : n ≤ 5) (f b : Nat) (P : Nat → Bool) (G : Nat → List ABlk) (L : Nat) (hG : ∀ s, (G s).length = L) (hbL : b < L) (hrr : retRef tabX f = false) (ho : tabX.orc f = none) (s0 : Nat) (tb : List Bool)
  (hp : ∀ (s w : Nat) (tb : List Bool), w < 32 → ∃ F, (EW tabX).call f [.int .i64 (w : Int), .ref b 0] ⟨G s, tb⟩ = some (.bool (P w), ⟨G w, tb ++ F⟩)) :
  ∃ s' F, (EW tabX).call 61 [.int .i64 (n : Int), .clo f [] [.ref b 0]] ⟨G s0, tb⟩ = some (bv n (bestW P n (2 ^ n)), ⟨G s', tb ++ F⟩) := by
 have hQ := hG s0
 have hsh := shl_five hn
 have h2n : 2 ^ n ≤ 32 := Nat.pow_le_pow_right (by omega) hn
 rw [w_call _ fn_61 rfl]
 simp only [go_sem, ↓reduceIte, simprocAttr, hsh]
 generalize hx : (EW tabX).code 61 none (Code.loop _) _ = x
 refine w_rounds_sk hx (fun k (q : FS) => [(4, bv n (bestW P n k)), (5, .bool (bestW P n k).isSome), (10, .int .i64 (k : Int))]) (fun q => ⟨G q.s, tb ++ q.F⟩) (fun _ _ => True) (2 ^ n) (.exit 0)
  (fun q => [(4, bv n (bestW P n (2 ^ n))), (5, .bool (bestW P n (2 ^ n)).isSome), (10, .int .i64 ((2 ^ n : Nat) : Int))]) rfl ⟨s0, []⟩ ?_ ?_ trivial ?_ ?_ ?_
 ·simp only [go_sem, ↓reduceIte, simprocAttr, bestW, bv, Option.isSome_none]
 ·simp only [List.append_nil]
 ·intro k q hk _
  obtain ⟨s, F⟩ := q
  have hki : (k : Int) < ((2 ^ n : Nat) : Int) := by omega
  have hwk : IntKind.i64.wrap ((k : Int) + 1) = (k : Int) + 1 := wrap_i64 (by omega)
  have h84 := c84 k n (by omega) hn
  obtain ⟨F1, h1⟩ := hp s k (tb ++ F) (by omega)
  simp only [go_sem, ↓reduceIte, simprocAttr] at h1
  rw [show bestW P n (k + 1) = stepW P n (bestW P n k) k from rfl]
  cases hb : bestW P n k with
  | none =>
   refine ⟨⟨k, F ++ F1⟩, ?_, trivial⟩
   cases hpk : P k with
   | true =>
    rw [hpk] at h1
    simp only [go_sem, ↓reduceIte, simprocAttr, stepW, hpk, bv_none, bv_some, Option.isSome_none, Option.isSome_some, hki, h84, hrr, ho, h1, hwk, vI]
   | false =>
    rw [hpk] at h1
    simp only [go_sem, ↓reduceIte, simprocAttr, stepW, hpk, bv_none, bv_some, Option.isSome_none, Option.isSome_some, hki, h84, hrr, ho, h1, hwk, vI]
  | some t =>
   have h85 := c85 (bitsL k n) (bitsL t n) (zT 1 (bitsL k n).length) (zT 1 (bitsL t n).length) (fun h => zT_pos (List.length_pos_iff.2 h)) (fun h => zT_pos (List.length_pos_iff.2 h)) (by have := bitsL_le k n; omega) (by have := bitsL_le t n; omega)
   by_cases g1 : ((bitsL k n).length : Int) > (bitsL t n).length
   ·refine ⟨⟨s, F⟩, ?_, trivial⟩
    have hsk : skipW (bitsL k n) (bitsL t n) = true := by unfold skipW; simp only [g1, decide_true, Bool.true_or]
    simp only [go_sem, ↓reduceIte, simprocAttr, stepW, hsk, bv_none, bv_some, Option.isSome_none, Option.isSome_some, hki, h84, hwk, vI, g1]
   ·by_cases g2 : ((bitsL k n).length : Int) = (bitsL t n).length
    ·have g2b : (((bitsL k n).length : Int) == (bitsL t n).length) = true := by simpa using g2
     by_cases g3 : cmpL (bitsL k n) (bitsL t n) > 0
     ·refine ⟨⟨s, F⟩, ?_, trivial⟩
      have hsk : skipW (bitsL k n) (bitsL t n) = true := by unfold skipW; rw [decide_eq_true g2, decide_eq_true g3]; simp
      simp only [go_sem, ↓reduceIte, simprocAttr, stepW, hsk, bv_none, bv_some, Option.isSome_none, Option.isSome_some, hki, h84, h85, hwk, vI, g1, g2b, g3]
     ·have hsk : skipW (bitsL k n) (bitsL t n) = false := by unfold skipW; rw [decide_eq_false g1, decide_eq_false g3]; simp
      refine ⟨⟨k, F ++ F1⟩, ?_, trivial⟩
      cases hpk : P k with
      | true =>
       rw [hpk] at h1
       simp only [go_sem, ↓reduceIte, simprocAttr, stepW, hsk, hpk, bv_none, bv_some, Option.isSome_none, Option.isSome_some, hki, h84, h85, hrr, ho, h1, hwk, vI, g1, g2b, g3]
      | false =>
       rw [hpk] at h1
       simp only [go_sem, ↓reduceIte, simprocAttr, stepW, hsk, hpk, bv_none, bv_some, Option.isSome_none, Option.isSome_some, hki, h84, h85, hrr, ho, h1, hwk, vI, g1, g2b, g3]
    ·have g2b : (((bitsL k n).length : Int) == (bitsL t n).length) = false := by simpa using g2
     have hsk : skipW (bitsL k n) (bitsL t n) = false := by unfold skipW; rw [decide_eq_false g1, decide_eq_false g2]; simp
     refine ⟨⟨k, F ++ F1⟩, ?_, trivial⟩
     cases hpk : P k with
     | true =>
      rw [hpk] at h1
      simp only [go_sem, ↓reduceIte, simprocAttr, stepW, hsk, hpk, bv_none, bv_some, Option.isSome_none, Option.isSome_some, hki, h84, h85, hrr, ho, h1, hwk, vI, g1, g2b]
     | false =>
      rw [hpk] at h1
      simp only [go_sem, ↓reduceIte, simprocAttr, stepW, hsk, hpk, bv_none, bv_some, Option.isSome_none, Option.isSome_some, hki, h84, h85, hrr, ho, h1, hwk, vI, g1, g2b]
 ·intro q _
  simp only [go_sem, ↓reduceIte, simprocAttr, Int.lt_irrefl]
 ·intro q h1 _
  subst h1
  obtain ⟨s, F⟩ := q
  refine ⟨s, F, ?_⟩
  have hQs := hG s
  have htk : (G s).take L = G s := List.take_of_length_le (by omega)
  cases hb : bestW P n (2 ^ n) with
  | none => simp only [go_sem, ↓reduceIte, simprocAttr, bv_none, Option.isSome_none, hQ, htk]
  | some t => simp only [go_sem, ↓reduceIte, simprocAttr, bv_some, Option.isSome_some, vI, hQ, htk]
end Go.Proofs.YthkpjbgadkkeeaaGreat
