/- Z-numbers. All lists of so many of some things, by the reference. Conditions: those of each law. -/
import Derived.Test.YthkpjbgadkkeeaaGreatQ16
set_option linter.unusedSimpArgs false
set_option linter.unusedVariables false
namespace Go.Proofs.YthkpjbgadkkeeaaGreat
open Go.Proofs

structure RC where
  tg : Nat
  z : Nat
  xs : List AV
  t : List Bool
def RC.v (s : RC) : AV := .lst s.tg s.z s.xs
def RC.is (s : RC) (ts : List (List Int)) : Prop := Rows s.xs ts ∧ OwnS 1 s.tg s.z s.xs.length s.t ∧ (s.xs = [] → s.z = 0)
theorem vI_cleanL (l : List (List Int)) : cleanL (l.map vI) = some (l.map vI) := cleanL_map (fun x => vI_clean x) l
theorem vI_get (l : List (List Int)) (k : Nat) : (l.map vI)[k]? = (l[k]?).map vI := by simp
theorem vI_underL (n : Nat) (l : List (List Int)) : underL n (l.map vI) = true := underL_map (fun x => vI_under n x) l
theorem vI_var (l : List (List Int)) : (l.map vI).all AV.var = true := all_map (fun _ => rfl) l
attribute [go_sem] vI_cleanL vI_get vI_underL vI_var
end Go.Proofs.YthkpjbgadkkeeaaGreat
