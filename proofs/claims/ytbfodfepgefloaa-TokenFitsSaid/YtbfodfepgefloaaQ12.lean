/- Calls on the examples' drawers, evaluated. Conditions: none. -/
import Derived.Test.YtbfodfepgefloaaQ11
set_option linter.unusedSimpArgs false
set_option linter.unusedVariables false
namespace Go.Proofs.Ytbfodfepgefloaa
open Go.Proofs

theorem k26F2 (h : Heap) : callPure (EW tabX) 26 [eD dF, .int .i64 2] h = some (.tup [vI [0, 1], .int .i64 0], h) := pure_eng (n := 300) (by kernel_rfl) h
theorem k28A0 (h : Heap) : callPure (EW tabX) 28 [eD dA, .int .i64 0] h = some (.tup [.int .i64 0, .int .i64 0], h) := pure_eng (n := 300) (by kernel_rfl) h
end Go.Proofs.Ytbfodfepgefloaa
