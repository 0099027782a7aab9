/- The examples of the document, whole: TokenKnown. Conditions: none. -/
import Derived.Test.YtbfodfepgefloaaQ16
set_option linter.unusedSimpArgs false
set_option linter.unusedVariables false
namespace Go.Proofs.Ytbfodfepgefloaa
open Go.Proofs

theorem k18F (c e : Int) (r : List Int) (hr : fitsAV dF c e = .tup [vI r, .int .i64 0]) (h : Heap) : callPure (EW tabX) 18 [eD dF, .int .i64 c, .int .i64 e] h = some (.tup [vI r, .int .i64 0], h) := (c18 dF fits_dF c e h).trans (congrArg (fun v => some (v, h)) hr)
theorem k18F00 (h : Heap) : callPure (EW tabX) 18 [eD dF, .int .i64 0, .int .i64 0] h = some (.tup [vI [0], .int .i64 0], h) := k18F 0 0 [0] (by kernel_rfl) h
theorem k18F02 (h : Heap) : callPure (EW tabX) 18 [eD dF, .int .i64 0, .int .i64 2] h = some (.tup [vI [1], .int .i64 0], h) := k18F 0 2 [1] (by kernel_rfl) h
theorem k18F12 (h : Heap) : callPure (EW tabX) 18 [eD dF, .int .i64 1, .int .i64 2] h = some (.tup [vI [1], .int .i64 0], h) := k18F 1 2 [1] (by kernel_rfl) h
theorem k30A01 (h : Heap) : callPure (EW tabX) 30 [eD dA, .int .i64 0, .int .i64 1] h = some (.tup [.bool true, .int .i64 0], h) := k30A 0 1 true (by kernel_rfl) (by kernel_rfl) h
theorem k34Az (h : Heap) : callPure (EW tabX) 34 [eD dA, .lst 0 1 [.int .i64 0, .int .i64 9, .int .i64 0, .int .i64 9]] h = some (.tup [vI [2], .int .i64 0], h) := k34A [0, 9, 0, 9] [2] (by decide) (by kernel_rfl) (by kernel_rfl) h
set_option maxRecDepth 100000 in
theorem c7 : ∃ h', (EW tabX).call 7 [] noHeap = some (.bool true, h') := by
  have a1 := fun h => k20 [0] (by decide) h [.int .i64 0] 1 rfl rfl (by decide)
  have a2 := fun h => k20 [1] (by decide) h [.int .i64 1] 1 rfl rfl (by decide)
  have a3 := fun h => k20 [0, 1] (by decide) h [.int .i64 0, .int .i64 1] 1 rfl rfl (by decide)
  have a4 := fun h => k20 [2] (by decide) h [.int .i64 2] 1 rfl rfl (by decide)
  have eA : eD dA = .agg [.int .i64 4, .int .i64 2, .int .i64 1, .lst 0 2 (dA.cards.map eC), .lst 0 2 (dA.halves.map eC)] := rfl
  have eF : eD dF = .agg [.int .i64 4, .int .i64 2, .int .i64 1, .lst 0 2 (dF.cards.map eC), .lst 0 2 (dF.halves.map eC)] := rfl
  have c1 := eC_clean dA.cards
  have c2 := eC_clean dA.halves
  have c3 := eC_clean dF.cards
  have c4 := eC_clean dF.halves
  have u1 := fun n => eC_under n dA.cards
  have u2 := fun n => eC_under n dA.halves
  have u3 := fun n => eC_under n dF.cards
  have u4 := fun n => eC_under n dF.halves
  have iA := c36_false
  have iF := c36_true
  have q1 := k18F00
  have q2 := k18F02
  have q3 := k18F12
  have q4 := k22A
  have q5 := k24A
  have q6 := k26F0
  have q7 := k28A1
  have q8 := k30A01
  have q9 := k34Az
  have q10 := c21
  rw [noHeap, w_call _ fn_7 rfl]
  rw [eA] at iA q4 q5 q7 q8 q9
  rw [eF] at iF q1 q2 q3 q6
  generalize dA.cards.map eC = ca at *
  generalize dA.halves.map eC = ha at *
  generalize dF.cards.map eC = cf at *
  generalize dF.halves.map eC = hf at *
  refine ⟨?_, ?_⟩
  rotate_left
  · simp only [go_sem, ↓reduceIte, Nat.reduceBEq, Nat.reduceEqDiff, Nat.reduceLT, Nat.reduceLeDiff, Nat.reduceAdd, Nat.reduceMul, Nat.reduceSub, reduceCtorEq, Int.reduceLT, Int.reduceLE, Int.reduceEq, Int.reduceBEq, Int.reduceBNe, Int.reduceToNat, Int.reduceAdd, Int.reduceNeg, Int.reduceSub, zipFrom_nil, List.append_eq, iA, iF, c1, c2, c3, c4, u1, u2, u3, u4, q1, q2, q3, q4, q5, q6, q7, q8, q9, q10, vI_clean, a1, a2, a3, a4, vI_nil]
    rfl
end Go.Proofs.Ytbfodfepgefloaa
