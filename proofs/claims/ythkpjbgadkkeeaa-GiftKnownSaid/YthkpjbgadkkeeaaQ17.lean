/- The body of GiftKnown. Conditions: none. -/
import Derived.Test.YthkpjbgadkkeeaaQ16
set_option linter.unusedSimpArgs false
set_option linter.unusedVariables false
namespace Go.Proofs.Ythkpjbgadkkeeaa
open Go.Proofs

theorem f11 : feesP dA 0 = ([6, 7, 8], 0) := by rw [fees_at chkA (by kernel_rfl) smA]; kernel_rfl
theorem f11b : feesP dA 3 = ([15], 0) := by rw [fees_at chkA (by kernel_rfl) smA]; kernel_rfl
theorem f16 : leftP dA 0 = ((22, 24), 0) := by rw [left_C (ok_of_check chkA) smA hA 0 (dayE_eq chkA (by kernel_rfl) smA)]; kernel_rfl
theorem f16b : leftP dA 2 = ((0, 24), 0) := by rw [left_C (ok_of_check chkA) smA hA 2 (dayE_eq chkA (by kernel_rfl) smA)]; kernel_rfl
theorem f17 : paysP dA 1 = (0, 0) := by rw [pays_at chkA (by kernel_rfl) smA, pay_C hA]; kernel_rfl
theorem f18 : wrongP dA = ([], 0) := by
  unfold wrongP
  rw [if_pos chkA, bestW_congr (Q := fun w => someR dA (bitsL w dA.entries.length) dA.visits.length) fun s => (someR_eq (ok_of_check chkA) (same_bits _ _)).symm]
  kernel_rfl
theorem m11 (h : Heap) : callPure (EW tabX) 11 [eF dA, .int .i64 0] h = some (vP ([6, 7, 8], 0), h) := by rw [c11 _ fitA, f11]
theorem m11b (h : Heap) : callPure (EW tabX) 11 [eF dA, .int .i64 3] h = some (vP ([15], 0), h) := by rw [c11 _ fitA, f11b]
theorem m16 (h : Heap) : callPure (EW tabX) 16 [eF dA, .int .i64 0] h = some (vT ((22, 24), 0), h) := by rw [c16 _ fitA, f16]
theorem m16b (h : Heap) : callPure (EW tabX) 16 [eF dA, .int .i64 2] h = some (vT ((0, 24), 0), h) := by rw [c16 _ fitA, f16b]
theorem m17 (h : Heap) : callPure (EW tabX) 17 [eF dA, .int .i64 1] h = some (vQ (0, 0), h) := by rw [c17 _ fitA, f17]
theorem m18 (h : Heap) : callPure (EW tabX) 18 [eF dA] h = some (vP ([], 0), h) := by rw [c18 _ fitA, f18]
set_option maxRecDepth 100000 in
theorem l4 : ∃ h', (EW tabX).call 4 [] noHeap = some (.bool true, h') := by
  have i1 := c15 [] 0
  have q1 := m11
  have q2 := m11b
  have q3 := m16
  have q4 := m16b
  have q5 := m17
  have q6 := m18
  have h14 := c14
  have e1 := c13 [6, 7, 8] [6, 7, 8] 1 1 (fun _ => rfl) (fun _ => rfl) (by decide) (by decide)
  have e2 := c13 [15] [15] 1 1 (fun _ => rfl) (fun _ => rfl) (by decide) (by decide)
  have eX : ∀ (p : Int) (es : List Et) (z : Nat), eF (fX p es z) = .agg [.int .i64 p, .int .i64 3, .int .i64 2, .int .i64 3, .int .i64 18, .lst 0 1 (I [1, 2]), .lst 0 2 ((fX 0 [] 0).people.map ePe), .lst 0 8 ((fX 0 [] 0).visits.map eVi), .lst 0 z (es.map eEt)] := fun _ _ _ => rfl
  rw [noHeap, w_call _ fn_4 rfl]
  simp only [dA, eX, vP, vI, vT, vQ, eSp, List.map_cons, List.map_nil, eEt, I_c, I_nil, decide_true] at *
  generalize (fX 0 [] 0).people = pe at *
  generalize (fX 0 [] 0).visits = vs at *
  refine ⟨?_, ?_⟩
  rotate_left
  · simp only [go_sem, ↓reduceIte, Nat.reduceBEq, Nat.reduceEqDiff, Nat.reduceLT, Nat.reduceLeDiff, Nat.reduceAdd, Nat.reduceMul, Nat.reduceSub, reduceCtorEq, Int.reduceLT, Int.reduceLE, Int.reduceEq, Int.reduceBEq, Int.reduceBNe, Int.reduceToNat, Int.reduceAdd, Int.reduceNeg, Int.reduceSub, zipFrom_nil, List.append_eq, i1, q1, q2, q3, q4, q5, q6, h14, e1, e2, c19, eSp, eEt, I_c, I_nil, aggBin, decide_true]
    rfl
end Go.Proofs.Ythkpjbgadkkeeaa
