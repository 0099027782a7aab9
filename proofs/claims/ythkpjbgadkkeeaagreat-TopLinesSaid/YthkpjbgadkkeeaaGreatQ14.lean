/- Rows of 301 numbers: which pence can be left. Conditions: those of each law. -/
import Derived.Test.YthkpjbgadkkeeaaGreatQ13
set_option linter.unusedSimpArgs false
set_option linter.unusedVariables false
namespace Go.Proofs.YthkpjbgadkkeeaaGreat
open Go.Proofs
set_option maxRecDepth 100000 in
theorem tzero92 : tzero tabX 91 = some (.agg (I (List.replicate 301 0))) := by unfold tzero; rw [ty_91] <;> kernel_rfl
set_option maxRecDepth 100000 in
theorem teq92 : teq tabX 91 = some (List.replicate 301 0) := by unfold teq; rw [ty_91] <;> kernel_rfl
set_option maxRecDepth 100000 in
theorem tsz92 : tsz tabX 91 = 301 := by unfold tsz; rw [ty_91]
set_option maxRecDepth 100000 in
theorem trow92 : trow tabX 91 = .array 301 3 := by unfold trow; rw [ty_91]
theorem eqRep : ∀ (n : Nat) (a b : List Int), a.length = n → b.length = n → eqCells (List.replicate n 0) (I a) (I b) = some (decide (a = b))
 | 0, [], [], _, _ => rfl
 | n + 1, x :: a, y :: b, ha, hb => by
  have ih := eqRep n a b (by simpa using ha) (by simpa using hb)
  rw [List.replicate_succ, I_c, I_c, eqC_0, if_pos rfl, ih]
  simp only [Option.map_some, Option.some.injEq]
  rw [Bool.eq_iff_iff]
  simp
theorem c59 (n : Int) (h : Heap) : callPure (EW tabX) 49 [.int .i64 n] h = some (.bool (decide (0 < n)), h) := by
 rw [callPure_eq, w_call _ fn_49 rfl]
 simp only [go_sem, ↓reduceIte, simprocAttr]
theorem c58b (l : List Int) (b : Nat) (B : List ABlk) (t : List Bool) (hb : B[b]? = some (.cells (I l))) (hl : l.length < 1000) (i : Nat) (hi : i < l.length) (h0 : 0 < l.getD i 0) (hlt : ∀ j, j < i → ¬ 0 < l.getD j 0) :
  (EW tabX).call 48 [.bsl b 0 l.length 1, .clo 49 [] []] ⟨B, t⟩ = some (.int .i64 (i : Int), ⟨B, t⟩) := by
 rw [w_call _ fn_48 rfl]
 simp only [go_sem, ↓reduceIte, simprocAttr]
 rw [w_rounds_u (fun k => [(8, .int .i64 (k : Int))]) i .ret [(4, .int .i64 (i : Int)), (5, .int .i64 (i : Int)), (8, .int .i64 (i : Int))] ?_ ?_ ?_ rfl]
 ·simp only [go_sem, ↓reduceIte, simprocAttr]
 ·simp only [go_sem, ↓reduceIte, simprocAttr]
 ·intro k hk
  have hkl : k < l.length := by omega
  have hki : (k : Int) < l.length := by omega
  have hx := List.getElem?_eq_getElem hkl
  have hn := hlt k hk
  rw [List.getD_eq_getElem?_getD, hx] at hn
  have hn : ¬ 0 < l[k] := hn
  have hw : IntKind.i64.wrap ((k : Int) + 1) = (k : Int) + 1 := wrap_i64 (by omega)
  simp only [go_sem, ↓reduceIte, simprocAttr, hki, hkl, Nat.mul_one, List.getElem?_drop, hb, hx, c59, hn, hw]
 ·have hki : (i : Int) < l.length := by omega
  have hx := List.getElem?_eq_getElem hi
  rw [List.getD_eq_getElem?_getD, hx] at h0
  have h0 : 0 < l[i] := h0
  simp only [go_sem, ↓reduceIte, simprocAttr, hki, hi, Nat.mul_one, List.getElem?_drop, hb, hx, c59, h0]
end Go.Proofs.YthkpjbgadkkeeaaGreat
