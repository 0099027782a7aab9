/- Z-numbers. All lists of so many of some things, by the reference. Conditions: those of each law. -/
import Derived.Test.YthkpjbgadkkeeaaGreatQ16
set_option linter.unusedSimpArgs false
set_option linter.unusedVariables false
namespace Go.Proofs.YthkpjbgadkkeeaaGreat
open Go.Proofs

structure RC where
  tg : Nat
  z : Nat
  xs : List AV
  t : List Bool
def RC.v (s : RC) : AV := .lst s.tg s.z s.xs
def RC.is (s : RC) (ts : List (List Int)) : Prop := Rows s.xs ts ∧ OwnS 1 s.tg s.z s.xs.length s.t ∧ (s.xs = [] → s.z = 0)
theorem flat_len {α β : Type} (f : α → List β) (m : Nat) : ∀ l : List α, (∀ x ∈ l, (f x).length ≤ m) → (l.flatMap f).length ≤ l.length * m
  | [], _ => by simp
  | x :: l, h => by
    have a := h x (by simp)
    have b := flat_len f m l fun y hy => h y (by simp [hy])
    rw [List.flatMap_cons, List.length_append, List.length_cons, Nat.succ_mul]
    omega

def eR (t : List Int) : AV := .lst 0 1 (I t)
theorem Rows.clean_eq : ∀ {xs : List AV} {ts : List (List Int)}, Rows xs ts → (∀ t ∈ ts, t ≠ []) → cleanL xs = some (ts.map eR)
  | [], ts, h, _ => by
    have := h.1
    cases ts with
    | nil => exact cleanL_nil
    | cons t ts => simp at this
  | x :: xs, [], h, _ => by have := h.1; simp at this
  | x :: xs, t :: ts, h, hn => by
    have h' : Rows xs ts := ⟨by have := h.1; simpa using this, fun i u hu => by simpa using h.2 (i + 1) u (by simpa using hu)⟩
    have ih := Rows.clean_eq h' fun u hu => hn u (by simp [hu])
    obtain ⟨a, z, h4, h5⟩ := h.2 0 t rfl
    simp only [List.getElem?_cons_zero, Option.some.injEq] at h4
    subst h4
    have := h5 (hn t (by simp))
    subst this
    simp only [go_sem, ↓reduceIte, Nat.reduceBEq, Nat.reduceEqDiff, Nat.reduceLT, Nat.reduceLeDiff, Nat.reduceAdd, Nat.reduceMul, Nat.reduceSub, reduceCtorEq, Int.reduceLT, Int.reduceLE, Int.reduceEq, Int.reduceBEq, Int.reduceBNe, Int.reduceToNat, Int.reduceAdd, Int.reduceNeg, Int.reduceSub, ih, List.map_cons, eR]

theorem vI_cleanL (l : List (List Int)) : cleanL (l.map vI) = some (l.map vI) := cleanL_map (fun x => vI_clean x) l
theorem vI_get (l : List (List Int)) (k : Nat) : (l.map vI)[k]? = (l[k]?).map vI := by simp
theorem vI_underL (n : Nat) (l : List (List Int)) : underL n (l.map vI) = true := underL_map (fun x => vI_under n x) l
theorem vI_var (l : List (List Int)) : (l.map vI).all AV.var = true := all_map (fun _ => rfl) l
attribute [go_sem] vI_cleanL vI_get vI_underL vI_var
end Go.Proofs.YthkpjbgadkkeeaaGreat
