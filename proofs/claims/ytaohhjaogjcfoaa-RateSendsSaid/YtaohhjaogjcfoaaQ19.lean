/- The body of RateSends. Conditions: those of each law. -/
import Derived.Test.YtaohhjaogjcfoaaQ18
set_option linter.unusedSimpArgs false
set_option linter.unusedVariables false
namespace Go.Proofs.Ytaohhjaogjcfoaa
open Go.Proofs

theorem l6 (d : Ho) (hd : d.fits) (x : Int × Int) {Q : Prop} (_ : Q) : ∃ h', (EW tabX).call 6 [eH d, .agg [.int .i64 x.1, .int .i64 x.2]] noHeap = some (.bool true, h') := by
  obtain ⟨day, far⟩ := x
  have h32 := c32 d hd day far
  have h33 := c33 d hd day far
  have hcl := eH_clean d
  have h23 := c23
  generalize sendV d day far = sv at *
  rw [noHeap, w_call _ fn_6 rfl]
  simp only [eH, eHc, tup3] at hcl h32 h33 ⊢
  refine ⟨?_, ?_⟩
  rotate_left
  · simp only [go_sem, ↓reduceIte, Nat.reduceBEq, Nat.reduceEqDiff, Nat.reduceLT, Nat.reduceLeDiff, Nat.reduceAdd, Nat.reduceMul, Nat.reduceSub, reduceCtorEq, Int.reduceLT, Int.reduceLE, Int.reduceEq, Int.reduceBEq, Int.reduceBNe, Int.reduceToNat, Int.reduceAdd, Int.reduceNeg, Int.reduceSub, h32, h33, h23, ne_same]
    rfl
end Go.Proofs.Ytaohhjaogjcfoaa
