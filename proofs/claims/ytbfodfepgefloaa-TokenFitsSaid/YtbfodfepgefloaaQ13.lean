/- Calls on the examples' drawers, evaluated. Conditions: none. -/
import Derived.Test.YtbfodfepgefloaaQ12
set_option linter.unusedSimpArgs false
set_option linter.unusedVariables false
namespace Go.Proofs.Ytbfodfepgefloaa
open Go.Proofs

theorem k28F1 (h : Heap) : callPure (EW tabX) 28 [eD dF, .int .i64 1] h = some (.tup [.int .i64 0, .int .i64 9], h) := pure_eng (n := 300) (by kernel_rfl) h
theorem k32A (h : Heap) : callPure (EW tabX) 32 [eD dA] h = some (.tup [.int .i64 4, .int .i64 0], h) := pure_eng (n := 300) (by kernel_rfl) h
end Go.Proofs.Ytbfodfepgefloaa
