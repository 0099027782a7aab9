/- The body of RateWorths. Conditions: those of each law. -/
import Derived.Test.YtaohhjaogjcfoaaQ18
set_option linter.unusedSimpArgs false
set_option linter.unusedVariables false
namespace Go.Proofs.Ytaohhjaogjcfoaa
open Go.Proofs

theorem l4 (d : Ho) (hd : d.fits) (x : Int × Int × Int) {Q : Prop} (_ : Q) : ∃ h', (EW tabX).call 4 [eH d, .agg [.int .i64 x.1, .int .i64 x.2.1, .int .i64 x.2.2]] noHeap = some (.bool true, h') := by
  obtain ⟨who, day, near⟩ := x
  have h24 := c24 d hd who day near
  have h25 := c25 d hd who day near
  have h26 := c26 d hd who
  have h27 := c27 d hd who
  have hcl := eH_clean d
  have h23 := c23
  generalize worthV d who day near = wv at *
  generalize paidV d who = pv at *
  rw [noHeap, w_call _ fn_4 rfl]
  simp only [eH, eHc, tup3, v3, vS, eSp] at hcl h24 h25 h26 h27 ⊢
  refine ⟨?_, ?_⟩
  rotate_left
  · simp only [go_sem, ↓reduceIte, Nat.reduceBEq, Nat.reduceEqDiff, Nat.reduceLT, Nat.reduceLeDiff, Nat.reduceAdd, Nat.reduceMul, Nat.reduceSub, reduceCtorEq, Int.reduceLT, Int.reduceLE, Int.reduceEq, Int.reduceBEq, Int.reduceBNe, Int.reduceToNat, Int.reduceAdd, Int.reduceNeg, Int.reduceSub, h24, h25, h26, h27, h23, ne_same, vI_clean, vI_under, aggBin, eqCells2, decide_true, Bool.not_true]
    rfl
end Go.Proofs.Ytaohhjaogjcfoaa
