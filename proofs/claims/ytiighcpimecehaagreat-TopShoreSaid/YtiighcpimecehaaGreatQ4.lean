/- The tables of the abstract interpreter are the program's. Conditions: none. -/
import Derived.Test.YtiighcpimecehaaGreatQ3
import Derived.Test.YtiighcpimecehaaGreatProg
import Derived.KernelRfl
set_option linter.unusedSimpArgs false
set_option linter.unusedVariables false
namespace Go.Proofs.YtiighcpimecehaaGreat
noncomputable def tabX : Tab := Tab.of Go.Proofs.Tryz.prog keepTab hushTab soloTab growTab iceTab
theorem fitsX : Fits Go.Proofs.Tryz.prog tabX :=
  fits_of _ _ _ _ _ _ (of_decide_eq_true (by kernel_rfl)) (of_decide_eq_true (by kernel_rfl)) (by kernel_rfl) (by kernel_rfl)
end Go.Proofs.YtiighcpimecehaaGreat
