/- The examples answer what the document says: Awake. Conditions: none. -/
import Derived.Test.YtiighcpimecehaaGreatQ13
set_option linter.unusedSimpArgs false
set_option linter.unusedVariables false
namespace Go.Proofs.YtiighcpimecehaaGreat
open Go.Proofs

theorem k18F11 (h : Heap) : callPure (EW tabX) 31 [eD dF, .int .i64 1, .int .i64 1] h = some (.tup [vI [2], .int .i64 0], h) := (c18 dF fits_dF 1 1 h).trans (congrArg (fun v => some (v, h)) (by kernel_rfl))
theorem k30A (a b : Nat) (r : Bool) (he : alikeE dA a b = 0) (hr : alikeB dA a b = r) (h : Heap) : callPure (EW tabX) 33 [eD dA, .int .i64 a, .int .i64 b] h = some (.tup [.bool r, .int .i64 0], h) := by rw [← hr]; exact c30_yes dA fits_dA a b he h
theorem k30A02 (h : Heap) : callPure (EW tabX) 33 [eD dA, .int .i64 0, .int .i64 2] h = some (.tup [.bool true, .int .i64 0], h) := k30A 0 2 true (by kernel_rfl) (by kernel_rfl) h
theorem k30A12 (h : Heap) : callPure (EW tabX) 33 [eD dA, .int .i64 1, .int .i64 2] h = some (.tup [.bool false, .int .i64 0], h) := k30A 1 2 false (by kernel_rfl) (by kernel_rfl) h
theorem k34A (l r : List Int) (hl : l.length < 1000) (he : newE dA l = 0) (hr : newL dA l dA.cards.length = r) (h : Heap) : callPure (EW tabX) 35 [eD dA, .lst 0 1 (I l)] h = some (.tup [vI r, .int .i64 0], h) := by rw [← hr]; exact c34_yes dA fits_dA l 1 (fun _ => rfl) (by omega) he h
theorem k34Ay (h : Heap) : callPure (EW tabX) 35 [eD dA, .lst 0 1 [.int .i64 9, .int .i64 0, .int .i64 9, .int .i64 0]] h = some (.tup [vI [2], .int .i64 0], h) := k34A [9, 0, 9, 0] [2] (by decide) (by kernel_rfl) (by kernel_rfl) h
theorem k34An (h : Heap) : callPure (EW tabX) 35 [eD dA, .lst 0 1 [.int .i64 9]] h = some (.tup [vI [], .int .i64 3], h) := by
  have he : newE dA [9] = 3 := by kernel_rfl
  have := c34_no dA fits_dA [9] 1 (fun _ => rfl) (by decide) (by rw [he]; decide) h
  rw [he] at this; exact this
theorem k20 (l : List Int) (hl : l.length < 1000) (h : Heap) (b : List AV) (z : Nat) (hb : b = I l) (hz : z = 1) (hne : l ≠ []) : callPure (EW tabX) 12 [vI l, .lst 0 z b] h = some (.bool true, h) := by
  subst hb; subst hz
  have := c20 l l (zT 1 l.length) 1 zT_ne (fun _ => rfl) (by omega) (by omega) h
  rw [vI, this]; simp
theorem k20' (l : List Int) (hl : l.length < 1000) (h : Heap) (hne : l ≠ []) : callPure (EW tabX) 12 [vI l, .lst 0 1 (I l)] h = some (.bool true, h) := k20 l hl h _ _ rfl rfl hne
set_option maxRecDepth 100000 in
theorem c21 (h : Heap) : callPure (EW tabX) 6 [] h = some (.bool true, h) := by
  have a1 := fun h => k20 [2] (by decide) h [.int .i64 2] 1 rfl rfl (by decide)
  have a2 := fun h => k20 [-1, 1, 0] (by decide) h [.int .i64 (-1), .int .i64 1, .int .i64 0] 1 rfl rfl (by decide)
  have a3 := fun h => k20 [0] (by decide) h [.int .i64 0] 1 rfl rfl (by decide)
  have a4 := fun h => k20 [0, 1] (by decide) h [.int .i64 0, .int .i64 1] 1 rfl rfl (by decide)
  have eA : eD dA = .agg [.int .i64 4, .int .i64 2, .int .i64 1, .lst 0 2 (dA.cards.map eC), .lst 0 2 (dA.halves.map eC)] := rfl
  have eF : eD dF = .agg [.int .i64 4, .int .i64 2, .int .i64 1, .lst 0 2 (dF.cards.map eC), .lst 0 2 (dF.halves.map eC)] := rfl
  have c1 := eC_clean dA.cards
  have c2 := eC_clean dA.halves
  have c3 := eC_clean dF.cards
  have c4 := eC_clean dF.halves
  have u1 := fun n => eC_under n dA.cards
  have u2 := fun n => eC_under n dA.halves
  have u3 := fun n => eC_under n dF.cards
  have u4 := fun n => eC_under n dF.halves
  have iA := c36_false
  have iF := c36_true
  have q1 := k18F11
  have q2 := k22F
  have q3 := k24F
  have q4 := k26F2
  have q5 := k28A0
  have q6 := k28F1
  have q7 := k30A02
  have q8 := k30A12
  have q9 := k32A
  have q10 := k34Ay
  have q11 := k34An
  rw [callPure_eq, w_call _ fn_6 rfl]
  rw [eA] at iA q5 q7 q8 q9 q10 q11
  rw [eF] at iF q1 q2 q3 q4 q6
  generalize dA.cards.map eC = ca at *
  generalize dA.halves.map eC = ha at *
  generalize dF.cards.map eC = cf at *
  generalize dF.halves.map eC = hf at *
  simp only [go_sem, ↓reduceIte, simprocAttr, zipFrom_nil, List.append_eq, iA, iF, c1, c2, c3, c4, u1, u2, u3, u4, q1, q2, q3, q4, q5, q6, q7, q8, q9, q10, q11, vI_clean, a1, a2, a3, a4]
end Go.Proofs.YtiighcpimecehaaGreat

