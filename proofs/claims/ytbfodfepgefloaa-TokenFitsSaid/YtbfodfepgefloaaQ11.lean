/- Calls on the examples' drawers, evaluated. Conditions: none. -/
import Derived.Test.YtbfodfepgefloaaQ10
set_option linter.unusedSimpArgs false
set_option linter.unusedVariables false
namespace Go.Proofs.Ytbfodfepgefloaa
open Go.Proofs

theorem pure_eng {X : Tab} {n f : Nat} {xs : List AV} {u : AV} (he : callPure (eng X n) f xs ⟨[], []⟩ = some (u, ⟨[], []⟩)) (h : Heap) : callPure (EW X) f xs h = some (u, h) := by
  rw [callPure_eq] at he ⊢
  cases hc : (eng X n).call f xs ⟨[], []⟩ with
  | none => rw [hc] at he; cases he
  | some r =>
    have := (Good.call f xs ⟨[], []⟩).mono (eng_ew X n) hc
    rw [this]
    rw [hc] at he
    simp only [Option.bind_some, Option.map_eq_some_iff, Prod.mk.injEq] at he ⊢
    obtain ⟨a, h1, h2, _⟩ := he
    exact ⟨a, h1, h2, trivial⟩
theorem k22F (h : Heap) : callPure (EW tabX) 22 [eD dF] h = some (.tup [vI [-1, 1, 0], .int .i64 1, .int .i64 0], h) := pure_eng (n := 300) (by kernel_rfl) h
theorem k24F (h : Heap) : callPure (EW tabX) 24 [eD dF] h = some (.tup [vI [0], .int .i64 0], h) := pure_eng (n := 300) (by kernel_rfl) h
end Go.Proofs.Ytbfodfepgefloaa
