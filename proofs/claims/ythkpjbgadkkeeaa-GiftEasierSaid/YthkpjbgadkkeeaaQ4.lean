/- The tables of the abstract interpreter are the program's. Conditions: none. -/
import Derived.Test.YthkpjbgadkkeeaaQ3
import Derived.Test.YthkpjbgadkkeeaaProg
import Derived.KernelRfl
set_option linter.unusedSimpArgs false
set_option linter.unusedVariables false
namespace Go.Proofs.Ythkpjbgadkkeeaa
noncomputable def tab0 : Tab := Tab.of Go.Proofs.Try.prog keepTab hushTab soloTab growTab iceTab
theorem fits0 : Fits Go.Proofs.Try.prog tab0 :=
  fits_of _ _ _ _ _ _ (of_decide_eq_true (by kernel_rfl)) (of_decide_eq_true (by kernel_rfl)) (by kernel_rfl) (by kernel_rfl)
end Go.Proofs.Ythkpjbgadkkeeaa
