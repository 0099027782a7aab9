/- The examples answer what the document says: Awake. Conditions: none. -/
import Derived.Test.YtiighcpimecehaaGreatQ12
set_option linter.unusedSimpArgs false
set_option linter.unusedVariables false
namespace Go.Proofs.YtiighcpimecehaaGreat
open Go.Proofs

theorem k20 (l : List Int) (hl : l.length < 1000) (h : Heap) (b : List AV) (z : Nat) (hb : b = I l) (hz : z = 1) (hne : l ≠ []) : callPure (EW tabX) 12 [vI l, .lst 0 z b] h = some (.bool true, h) := by
  subst hb; subst hz
  have := c20 l l (zT 1 l.length) 1 zT_ne (fun _ => rfl) (by omega) (by omega) h
  rw [vI, this]; simp
theorem k20' (l : List Int) (hl : l.length < 1000) (h : Heap) (hne : l ≠ []) : callPure (EW tabX) 12 [vI l, .lst 0 1 (I l)] h = some (.bool true, h) := k20 l hl h _ _ rfl rfl hne
end Go.Proofs.YtiighcpimecehaaGreat

