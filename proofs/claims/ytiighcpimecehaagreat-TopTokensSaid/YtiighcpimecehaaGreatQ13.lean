/- Calls on the examples' drawers. Conditions: none. -/
import Derived.Test.YtiighcpimecehaaGreatQ12
import Derived.KernelRfl
set_option linter.unusedSimpArgs false
set_option linter.unusedVariables false
namespace Go.Proofs.YtiighcpimecehaaGreat
open Go.Proofs

theorem fits_dA : dA.fits := ⟨fun _ => rfl, fun _ => rfl, by decide, by decide, by intro c hc; simp only [dA, List.mem_cons, List.mem_nil_iff, or_false] at hc; rcases hc with rfl | rfl | rfl <;> decide, by intro c hc; simp only [dA, List.mem_cons, List.mem_nil_iff, or_false] at hc; rcases hc with rfl | rfl <;> decide⟩
theorem fits_dF : dF.fits := ⟨fun _ => rfl, fun _ => rfl, by decide, by decide, by intro c hc; simp only [dF, dA, List.mem_cons, List.mem_nil_iff, or_false] at hc; rcases hc with rfl | rfl | rfl <;> decide, by intro c hc; simp only [dF, dA, List.cons_append, List.nil_append, List.mem_cons, List.mem_nil_iff, or_false] at hc; rcases hc with rfl | rfl | rfl <;> decide⟩
theorem ok_dF : (checkT dF).2.2 = 0 := by kernel_rfl
theorem first_dF : first dF = [-1, 1, 0] := by kernel_rfl
theorem forged_dF : forged dF = [0] := by kernel_rfl
theorem k22F (h : Heap) : callPure (EW tabX) 8 [eD dF] h = some (.tup [vI [-1, 1, 0], .int .i64 1, .int .i64 0], h) := by
  have := c22_yes dF fits_dF ok_dF h
  rw [first_dF] at this; exact this
theorem k24F (h : Heap) : callPure (EW tabX) 32 [eD dF] h = some (.tup [vI [0], .int .i64 0], h) := by
  have := c24_yes dF fits_dF ok_dF h
  rw [forged_dF] at this; exact this
theorem k26F2 (h : Heap) : callPure (EW tabX) 9 [eD dF, .int .i64 2] h = some (.tup [vI [0, 1], .int .i64 0], h) := by
  have := c26_yes dF fits_dF 2 (by kernel_rfl) h
  rw [show whoseL dF 2 dF.cards.length = [0, 1] by kernel_rfl] at this; exact this
theorem k28A0 (h : Heap) : callPure (EW tabX) 14 [eD dA, .int .i64 0] h = some (.tup [.int .i64 0, .int .i64 0], h) := by
  have := c28_yes dA fits_dA 0 (by kernel_rfl) h
  rw [show cardV dA 0 = 0 by kernel_rfl] at this; exact this
theorem k28F1 (h : Heap) : callPure (EW tabX) 14 [eD dF, .int .i64 1] h = some (.tup [.int .i64 0, .int .i64 9], h) := by
  have := c28_yes dF fits_dF 1 (by kernel_rfl) h
  rw [show cardV dF 1 = -1 by kernel_rfl] at this; exact this
theorem k32A (h : Heap) : callPure (EW tabX) 34 [eD dA] h = some (.tup [.int .i64 4, .int .i64 0], h) := by
  have := c32 dA fits_dA h
  rw [show enoughR dA = (4, 0) by kernel_rfl] at this; exact this
end Go.Proofs.YtiighcpimecehaaGreat

