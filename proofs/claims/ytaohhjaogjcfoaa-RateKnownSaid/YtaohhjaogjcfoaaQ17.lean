/- The examples of layer 8: their houses, and what is said of them. Conditions: none. -/
import Derived.Test.YtaohhjaogjcfoaaQ16
import Derived.KernelRfl
set_option linter.unusedSimpArgs false
set_option linter.unusedVariables false
namespace Go.Proofs.Ytaohhjaogjcfoaa
open Go.Proofs

def lima : ByteArray := ⟨#[108, 105, 109, 97]⟩
def cadiz : ByteArray := ⟨#[99, 97, 100, 105, 122]⟩
/-- The house of the examples. -/
def hX (far : Int) : Ho := ⟨2, [(10, 14), (8, 16)], 2, [⟨lima, 1, 0⟩, ⟨cadiz, 3, 1⟩], [⟨0, 0, 26, 30⟩, ⟨1, 1, 18, far⟩], 2, 3, 4⟩
theorem c35 (a b : Int) (h : Heap) : callPure (EW tabX) 35 [.int .i64 a, .int .i64 b] h = some (eSp (a, b), h) := by
  rw [callPure_eq, w_call _ fn_35 rfl]
  simp only [go_sem, ↓reduceIte, Nat.reduceBEq, Nat.reduceEqDiff, Nat.reduceLT, Nat.reduceLeDiff, Nat.reduceAdd, Nat.reduceMul, Nat.reduceSub, reduceCtorEq, Int.reduceLT, Int.reduceLE, Int.reduceEq, Int.reduceBEq, Int.reduceBNe, Int.reduceToNat, Int.reduceAdd, Int.reduceNeg, Int.reduceSub, eSp]
theorem c34 (far : Int) (hf : -1 ≤ far) (h : Heap) : callPure (EW tabX) 34 [.int .i64 far] h = some (eH (hX far), h) := by
  have hm : (if far > -1 then far else -1) = far := by split <;> omega
  rw [callPure_eq, w_call _ fn_34 rfl]
  simp only [go_sem, ↓reduceIte, Nat.reduceBEq, Nat.reduceEqDiff, Nat.reduceLT, Nat.reduceLeDiff, Nat.reduceAdd, Nat.reduceMul, Nat.reduceSub, reduceCtorEq, Int.reduceLT, Int.reduceLE, Int.reduceEq, Int.reduceBEq, Int.reduceBNe, Int.reduceToNat, Int.reduceAdd, Int.reduceNeg, Int.reduceSub, c35, eSp, eH, eHc, hX, hm, List.map_cons, List.map_nil, eAg, eEn, lima, cadiz]
  skip
theorem fits_X (far : Int) : (hX far).fits := ⟨fun _ => rfl, fun _ => rfl, fun _ => rfl, by simp [hX], by simp [hX], by simp [hX], by intro c hc; simp only [hX, List.mem_cons, List.mem_nil_iff, or_false] at hc; rcases hc with rfl | rfl <;> decide⟩
theorem k18 (h : Heap) : callPure (EW tabX) 18 [eH (hX (-1))] h = some (v3 ([12, 10], 5, 0), h) := (c18 _ (fits_X _) h).trans (congrArg (fun v => some (v3 v, h)) (by kernel_rfl))
theorem k21 (h : Heap) : callPure (EW tabX) 21 [eH (hX (-1)), .int .i64 1] h = some (vS ((10, 14), 0), h) := (c21 _ (fits_X _) 1 h).trans (congrArg (fun v => some (vS v, h)) (by kernel_rfl))
theorem k21b (h : Heap) : callPure (EW tabX) 21 [eH (hX 24), .int .i64 0] h = some (vS ((0, 0), 8), h) := (c21 _ (fits_X _) 0 h).trans (congrArg (fun v => some (vS v, h)) (by kernel_rfl))
theorem k24 (h : Heap) : callPure (EW tabX) 24 [eH (hX (-1)), .int .i64 0, .int .i64 1, .int .i64 21] h = some (vS ((20, 28), 0), h) := (c24 _ (fits_X _) 0 1 21 h).trans (congrArg (fun v => some (vS v, h)) (by kernel_rfl))
theorem k26 (h : Heap) : callPure (EW tabX) 26 [eH (hX (-1)), .int .i64 1] h = some (vS ((15, 21), 0), h) := (c26 _ (fits_X _) 1 h).trans (congrArg (fun v => some (vS v, h)) (by kernel_rfl))
theorem k28 (h : Heap) : callPure (EW tabX) 28 [eH (hX 17), .int .i64 1] h = some (v2 (0, 0), h) := (c28 _ (fits_X _) 1 h).trans (congrArg (fun v => some (v2 v, h)) (by kernel_rfl))
theorem k28b (h : Heap) : callPure (EW tabX) 28 [eH (hX 24), .int .i64 1] h = some (v2 (2, 0), h) := (c28 _ (fits_X _) 1 h).trans (congrArg (fun v => some (v2 v, h)) (by kernel_rfl))
theorem k28c (h : Heap) : callPure (EW tabX) 28 [eH (hX (-1)), .int .i64 1] h = some (v2 (0, 2), h) := (c28 _ (fits_X _) 1 h).trans (congrArg (fun v => some (v2 v, h)) (by kernel_rfl))
theorem k30 (h : Heap) : callPure (EW tabX) 30 [eH (hX 24)] h = some (vL ([0], 0), h) := (c30 _ (fits_X _) h).trans (congrArg (fun v => some (vL v, h)) (by kernel_rfl))
theorem k30b (h : Heap) : callPure (EW tabX) 30 [eH (hX 17)] h = some (vL ([], 0), h) := (c30 _ (fits_X _) h).trans (congrArg (fun v => some (vL v, h)) (by kernel_rfl))
theorem k32 (h : Heap) : callPure (EW tabX) 32 [eH (hX (-1)), .int .i64 0, .int .i64 30] h = some (tup3 (0, 26, 0), h) := (c32 _ (fits_X _) 0 30 h).trans (congrArg (fun v => some (tup3 v, h)) (by kernel_rfl))
set_option maxRecDepth 100000 in
theorem c23 (h : Heap) : callPure (EW tabX) 23 [] h = some (.bool true, h) := by
  have i1 := c34 (-1) (by omega)
  have i2 := c34 17 (by omega)
  have i3 := c34 24 (by omega)
  have q1 := k18
  have q2 := k21
  have q3 := k21b
  have q4 := k24
  have q5 := k26
  have q6 := k28
  have q7 := k28b
  have q8 := k28c
  have q9 := k30
  have q10 := k30b
  have q11 := k32
  have e1 := c20 [12, 10] [12, 10] 1 1 (fun _ => rfl) (fun _ => rfl) (by decide) (by decide)
  have e2 := c20 [0] [0] 1 1 (fun _ => rfl) (fun _ => rfl) (by decide) (by decide)
  have cl := fun (far : Int) => eH_clean (hX far)
  have un : ∀ (far : Int) n, (eH (hX far)).under n = true := fun far n => by simp only [eH, eHc, go_sem, ↓reduceIte, Nat.reduceBEq, Nat.reduceEqDiff, Nat.reduceLT, Nat.reduceLeDiff, Nat.reduceAdd, Nat.reduceMul, Nat.reduceSub, reduceCtorEq, Int.reduceLT, Int.reduceLE, Int.reduceEq, Int.reduceBEq, Int.reduceBNe, Int.reduceToNat, Int.reduceAdd, Int.reduceNeg, Int.reduceSub]
  have eX : ∀ far : Int, eH (hX far) = .agg [.int .i64 2, .lst 0 2 ((hX far).rates.map eSp), .int .i64 2, .lst 0 3 ((hX far).agents.map eAg), .lst 0 4 ((hX far).entries.map eEn)] := fun far => rfl
  rw [callPure_eq, w_call _ fn_23 rfl]
  simp only [eX, v3, vI, vS, v2, vL, tup3, eSp, I_c, I_nil, decide_true] at *
  simp only [go_sem, ↓reduceIte, Nat.reduceBEq, Nat.reduceEqDiff, Nat.reduceLT, Nat.reduceLeDiff, Nat.reduceAdd, Nat.reduceMul, Nat.reduceSub, reduceCtorEq, Int.reduceLT, Int.reduceLE, Int.reduceEq, Int.reduceBEq, Int.reduceBNe, Int.reduceToNat, Int.reduceAdd, Int.reduceNeg, Int.reduceSub, zipFrom_nil, List.append_eq, i1, i2, i3, q1, q2, q3, q4, q5, q6, q7, q8, q9, q10, q11, e1, e2, c35, eSp, I_c, I_nil, aggBin, eqCells2, decide_true]
  skip
end Go.Proofs.Ytaohhjaogjcfoaa
