/- Z-numbers. Who surely comes; what all letters cost at most; what the gift needs: by the reference. Conditions: those of each law. -/
import Derived.Test.YthkpjbgadkkeeaaGreatQ17
set_option linter.unusedSimpArgs false
set_option linter.unusedVariables false
namespace Go.Proofs.YthkpjbgadkkeeaaGreat
open Go.Proofs

theorem cComes (d : Fu) (hd : d.fits) (ho : d.Ok) (k : Nat) (hk : k < d.visits.length) (h : Heap) : callPure (EW tabX) 36 [eF d, .int .i64 (k : Int)] h = some (.bool (comesB d k), h) := by
  have hki : (k : Int) < d.visits.length := by omega
  have hx := List.getElem?_eq_getElem hk
  have hzv := hd.zv (by intro e; rw [e] at hk; simp at hk)
  have hle := ho.entries
  rw [callPure_eq, w_call _ fn_36 rfl]
  unfold comesB
  rw [hx]
  simp only [go_sem, ↓reduceIte, Nat.reduceBEq, Nat.reduceEqDiff, Nat.reduceLT, Nat.reduceLeDiff, Nat.reduceAdd, Nat.reduceMul, Nat.reduceSub, reduceCtorEq, Int.reduceLT, Int.reduceLE, Int.reduceEq, Int.reduceBEq, Int.reduceBNe, Int.reduceToNat, Int.reduceAdd, Int.reduceNeg, Int.reduceSub, eF, eFc, eVi, hki, hx, hzv]
  generalize d.visits[k].sure = b
  rw [w_rounds_u (fun i => [(5, .bool (b || (d.entries.take i).any fun x => x.visit == (k : Int))), (6, .int .i64 (i : Int))]) d.entries.length (.exit 0) [(5, .bool (b || d.entries.any fun x => x.visit == (k : Int))), (6, .int .i64 (d.entries.length : Int))] ?_ ?_ ?_ rfl]
  · simp only [go_sem, ↓reduceIte, Nat.reduceBEq, Nat.reduceEqDiff, Nat.reduceLT, Nat.reduceLeDiff, Nat.reduceAdd, Nat.reduceMul, Nat.reduceSub, reduceCtorEq, Int.reduceLT, Int.reduceLE, Int.reduceEq, Int.reduceBEq, Int.reduceBNe, Int.reduceToNat, Int.reduceAdd, Int.reduceNeg, Int.reduceSub]
  · simp only [go_sem, ↓reduceIte, Nat.reduceBEq, Nat.reduceEqDiff, Nat.reduceLT, Nat.reduceLeDiff, Nat.reduceAdd, Nat.reduceMul, Nat.reduceSub, reduceCtorEq, Int.reduceLT, Int.reduceLE, Int.reduceEq, Int.reduceBEq, Int.reduceBNe, Int.reduceToNat, Int.reduceAdd, Int.reduceNeg, Int.reduceSub, List.any_nil]
  · intro i hi
    have hii : (i : Int) < d.entries.length := by omega
    have hy := List.getElem?_eq_getElem hi
    have hze := hd.ze (by intro e; rw [e] at hi; simp at hi)
    have hw : IntKind.i64.wrap ((i : Int) + 1) = (i : Int) + 1 := wrap_i64 (by omega)
    rw [any_succ _ hy]
    cases hb : (b || (d.entries.take i).any fun x => x.visit == (k : Int)) with
    | true =>
      have : (b || ((d.entries.take i).any (fun x => x.visit == (k : Int)) || d.entries[i].visit == (k : Int))) = true := by rw [← Bool.or_assoc, hb]; rfl
      rw [this]
      simp only [go_sem, ↓reduceIte, Nat.reduceBEq, Nat.reduceEqDiff, Nat.reduceLT, Nat.reduceLeDiff, Nat.reduceAdd, Nat.reduceMul, Nat.reduceSub, reduceCtorEq, Int.reduceLT, Int.reduceLE, Int.reduceEq, Int.reduceBEq, Int.reduceBNe, Int.reduceToNat, Int.reduceAdd, Int.reduceNeg, Int.reduceSub, hii, hy, eEt, hze, hw]
    | false =>
      have : (b || ((d.entries.take i).any (fun x => x.visit == (k : Int)) || d.entries[i].visit == (k : Int))) = (d.entries[i].visit == (k : Int)) := by rw [← Bool.or_assoc, hb]; rfl
      rw [this]
      simp only [go_sem, ↓reduceIte, Nat.reduceBEq, Nat.reduceEqDiff, Nat.reduceLT, Nat.reduceLeDiff, Nat.reduceAdd, Nat.reduceMul, Nat.reduceSub, reduceCtorEq, Int.reduceLT, Int.reduceLE, Int.reduceEq, Int.reduceBEq, Int.reduceBNe, Int.reduceToNat, Int.reduceAdd, Int.reduceNeg, Int.reduceSub, hii, hy, eEt, hze, hw]
  · simp only [go_sem, ↓reduceIte, Nat.reduceBEq, Nat.reduceEqDiff, Nat.reduceLT, Nat.reduceLeDiff, Nat.reduceAdd, Nat.reduceMul, Nat.reduceSub, reduceCtorEq, Int.reduceLT, Int.reduceLE, Int.reduceEq, Int.reduceBEq, Int.reduceBNe, Int.reduceToNat, Int.reduceAdd, Int.reduceNeg, Int.reduceSub, Int.lt_irrefl]
theorem cost_ref {d : Fu} (hd : d.fits) (ho : d.Ok) {k : Nat} (hk : k < d.visits.length) (h : Heap) : callPure (EW tabX) 72 [eF d, .int .i64 (k : Int), .lst 0 0 []] h = some (vI (costs d 0 k), h) := by
  have := c54 d hd ho [] (by simp) k hk h
  rw [costs_ref ho (same_nil d)] at this
  exact this
theorem ask_enter (d : Fu) : askE d 0 1 = enterE d 0 := by
  unfold askE enterE
  by_cases h0 : checkE d = 0
  · rw [if_pos h0, if_pos h0, if_pos rfl, someR_nil (ok_of_check h0)]
    have : out 0 (1 - 1) 0 = false := by decide
    rw [this, if_neg Bool.false_ne_true]
  · rw [if_neg h0, if_neg h0]
end Go.Proofs.YthkpjbgadkkeeaaGreat
