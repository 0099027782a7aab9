/- The body of RateKnown. Conditions: none. -/
import Derived.Test.YtaohhjaogjcfoaaQ17
set_option linter.unusedSimpArgs false
set_option linter.unusedVariables false
namespace Go.Proofs.Ytaohhjaogjcfoaa
open Go.Proofs

theorem m18 (h : Heap) : callPure (EW tabX) 18 [eH (hX 17)] h = some (v3 ([12, 11], 1, 0), h) := (c18 _ (fits_X _) h).trans (congrArg (fun v => some (v3 v, h)) (by kernel_rfl))
theorem m21 (h : Heap) : callPure (EW tabX) 21 [eH (hX (-1)), .int .i64 0] h = some (vS ((12, 12), 0), h) := (c21 _ (fits_X _) 0 h).trans (congrArg (fun v => some (vS v, h)) (by kernel_rfl))
theorem m24 (h : Heap) : callPure (EW tabX) 24 [eH (hX (-1)), .int .i64 1, .int .i64 1, .int .i64 18] h = some (vS ((15, 21), 0), h) := (c24 _ (fits_X _) 1 1 18 h).trans (congrArg (fun v => some (vS v, h)) (by kernel_rfl))
theorem m24b (h : Heap) : callPure (EW tabX) 24 [eH (hX (-1)), .int .i64 1, .int .i64 0, .int .i64 3] h = some (vS ((0, 0), 0), h) := (c24 _ (fits_X _) 1 0 3 h).trans (congrArg (fun v => some (vS v, h)) (by kernel_rfl))
theorem m26 (h : Heap) : callPure (EW tabX) 26 [eH (hX (-1)), .int .i64 0] h = some (vS ((30, 30), 0), h) := (c26 _ (fits_X _) 0 h).trans (congrArg (fun v => some (vS v, h)) (by kernel_rfl))
theorem m28 (h : Heap) : callPure (EW tabX) 28 [eH (hX 17), .int .i64 0] h = some (v2 (0, 0), h) := (c28 _ (fits_X _) 0 h).trans (congrArg (fun v => some (v2 v, h)) (by kernel_rfl))
theorem m30 (h : Heap) : callPure (EW tabX) 30 [eH (hX 25)] h = some (vL ([1], 0), h) := (c30 _ (fits_X _) h).trans (congrArg (fun v => some (vL v, h)) (by kernel_rfl))
theorem m32 (h : Heap) : callPure (EW tabX) 32 [eH (hX (-1)), .int .i64 1, .int .i64 15] h = some (tup3 (0, 16, 0), h) := (c32 _ (fits_X _) 1 15 h).trans (congrArg (fun v => some (tup3 v, h)) (by kernel_rfl))
set_option maxRecDepth 100000 in
theorem l7 : ∃ h', (EW tabX).call 7 [] noHeap = some (.bool true, h') := by
  have i1 := c34 (-1) (by omega)
  have i2 := c34 17 (by omega)
  have i3 := c34 25 (by omega)
  have q1 := m18
  have q2 := m21
  have q3 := m24
  have q4 := m24b
  have q5 := m26
  have q6 := m28
  have q7 := m30
  have q8 := m32
  have h23 := c23
  have e1 := c20 [12, 11] [12, 11] 1 1 (fun _ => rfl) (fun _ => rfl) (by decide) (by decide)
  have e2 := c20 [1] [1] 1 1 (fun _ => rfl) (fun _ => rfl) (by decide) (by decide)
  have cl := fun (far : Int) => eH_clean (hX far)
  have eX : ∀ far : Int, eH (hX far) = .agg [.int .i64 2, .lst 0 2 ((hX far).rates.map eSp), .int .i64 2, .lst 0 3 ((hX far).agents.map eAg), .lst 0 4 ((hX far).entries.map eEn)] := fun far => rfl
  rw [noHeap, w_call _ fn_7 rfl]
  simp only [eX, v3, vI, vS, v2, vL, tup3, eSp, I_c, I_nil, decide_true] at *
  refine ⟨?_, ?_⟩
  rotate_left
  · simp only [go_sem, ↓reduceIte, Nat.reduceBEq, Nat.reduceEqDiff, Nat.reduceLT, Nat.reduceLeDiff, Nat.reduceAdd, Nat.reduceMul, Nat.reduceSub, reduceCtorEq, Int.reduceLT, Int.reduceLE, Int.reduceEq, Int.reduceBEq, Int.reduceBNe, Int.reduceToNat, Int.reduceAdd, Int.reduceNeg, Int.reduceSub, zipFrom_nil, List.append_eq, i1, i2, i3, q1, q2, q3, q4, q5, q6, q7, q8, h23, e1, e2, c35, eSp, I_c, I_nil, aggBin, eqCells2, decide_true]
    rfl
end Go.Proofs.Ytaohhjaogjcfoaa
