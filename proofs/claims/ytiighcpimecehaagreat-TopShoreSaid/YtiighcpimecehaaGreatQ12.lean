/- Calls on the examples' drawers. Conditions: none. -/
import Derived.Test.YtiighcpimecehaaGreatQ11
import Derived.KernelRfl
set_option linter.unusedSimpArgs false
set_option linter.unusedVariables false
namespace Go.Proofs.YtiighcpimecehaaGreat
open Go.Proofs

end Go.Proofs.YtiighcpimecehaaGreat

