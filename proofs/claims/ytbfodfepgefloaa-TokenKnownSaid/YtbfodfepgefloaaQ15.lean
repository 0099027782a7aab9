/- Calls on the examples' drawers, evaluated. Conditions: none. -/
import Derived.Test.YtbfodfepgefloaaQ14
set_option linter.unusedSimpArgs false
set_option linter.unusedVariables false
namespace Go.Proofs.Ytbfodfepgefloaa
open Go.Proofs

theorem k22A (h : Heap) : callPure (EW tabX) 22 [eD dA] h = some (.tup [vI [0, 1], .int .i64 0, .int .i64 0], h) := pure_eng (n := 300) (by kernel_rfl) h
theorem k24A (h : Heap) : callPure (EW tabX) 24 [eD dA] h = some (.tup [vI [], .int .i64 0], h) := pure_eng (n := 300) (by kernel_rfl) h
end Go.Proofs.Ytbfodfepgefloaa
