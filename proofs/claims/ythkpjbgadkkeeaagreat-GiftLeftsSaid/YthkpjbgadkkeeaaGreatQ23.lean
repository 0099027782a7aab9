/- Z-numbers. When the gift ends, by the reference. Conditions: those of each law. -/
import Derived.Test.YthkpjbgadkkeeaaGreatQ22
set_option linter.unusedSimpArgs false
set_option linter.unusedVariables false
namespace Go.Proofs.YthkpjbgadkkeeaaGreat
open Go.Proofs

theorem vW_get {L : List (List Bool)} {i : Nat} (h : i < L.length) : (L.map vBs')[i]? = some (vBs' (L.getD i [])) := by
  rw [List.getElem?_map, List.getD_eq_getElem?_getD, List.getElem?_eq_getElem h]; rfl
theorem getD_wid {d : Fu} {i : Nat} (h : i < (widL d d.people.length).length) : ((widL d d.people.length).getD i []).length = d.people.length := widL_mem_len d _ (getD_mem h)
theorem vBs_clean (l : List Bool) : (vBs' l).clean = some (vBs' l) := by have := Bs_clean l; simp only [vBs', go_sem, ↓reduceIte, Nat.reduceBEq, Nat.reduceEqDiff, Nat.reduceLT, Nat.reduceLeDiff, Nat.reduceAdd, Nat.reduceMul, Nat.reduceSub, reduceCtorEq, Int.reduceLT, Int.reduceLE, Int.reduceEq, Int.reduceBEq, Int.reduceBNe, Int.reduceToNat, Int.reduceAdd, Int.reduceNeg, Int.reduceSub, this]
theorem vBs_under (n : Nat) (l : List Bool) : (vBs' l).under n = true := by have := Bs_under n l; simp only [vBs', go_sem, ↓reduceIte, Nat.reduceBEq, Nat.reduceEqDiff, Nat.reduceLT, Nat.reduceLeDiff, Nat.reduceAdd, Nat.reduceMul, Nat.reduceSub, reduceCtorEq, Int.reduceLT, Int.reduceLE, Int.reduceEq, Int.reduceBEq, Int.reduceBNe, Int.reduceToNat, Int.reduceAdd, Int.reduceNeg, Int.reduceSub, this]
theorem wid_cleanL (L : List (List Bool)) : cleanL (L.map vBs') = some (L.map vBs') := cleanL_map vBs_clean L
theorem wid_underL (n : Nat) (L : List (List Bool)) : underL n (L.map vBs') = true := underL_map (vBs_under n) L
end Go.Proofs.YthkpjbgadkkeeaaGreat
