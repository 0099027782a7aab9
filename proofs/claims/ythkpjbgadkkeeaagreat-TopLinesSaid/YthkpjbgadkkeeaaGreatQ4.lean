/- The tables of the abstract interpreter are the program's. Conditions: none. -/
import Derived.Test.YthkpjbgadkkeeaaGreatQ3
import Derived.Test.YthkpjbgadkkeeaaGreatProg
import Derived.KernelRfl
set_option linter.unusedSimpArgs false
set_option linter.unusedVariables false
namespace Go.Proofs.YthkpjbgadkkeeaaGreat
noncomputable def tab0 : Tab := Tab.of Go.Proofs.Tryz.prog keepTab hushTab soloTab growTab iceTab
theorem fits0 : Fits Go.Proofs.Tryz.prog tab0 :=
 fits_of _ _ _ _ _ _ (of_decide_eq_true (by kernel_rfl)) (of_decide_eq_true (by kernel_rfl)) (by kernel_rfl) (by kernel_rfl)
end Go.Proofs.YthkpjbgadkkeeaaGreat
