/- Z-numbers. Who surely comes; what all letters cost at most; what the gift needs: by the reference. Conditions: those of each law. -/
import Derived.Test.YthkpjbgadkkeeaaGreatQ17
set_option linter.unusedSimpArgs false
set_option linter.unusedVariables false
namespace Go.Proofs.YthkpjbgadkkeeaaGreat
open Go.Proofs

theorem cComes (d : Fu) (hd : d.fits) (ho : d.Ok) (k : Nat) (hk : k < d.visits.length) (h : Heap) : callPure (EW tabX) 36 [eF d, .int .i64 (k : Int)] h = some (.bool (comesB d k), h) := by
  have hki : (k : Int) < d.visits.length := by omega
  have hx := List.getElem?_eq_getElem hk
  have hzv := hd.zv (by intro e; rw [e] at hk; simp at hk)
  have hle := ho.entries
  rw [callPure_eq, w_call _ fn_36 rfl]
  unfold comesB
  rw [hx]
  simp only [go_sem, ↓reduceIte, Nat.reduceBEq, Nat.reduceEqDiff, Nat.reduceLT, Nat.reduceLeDiff, Nat.reduceAdd, Nat.reduceMul, Nat.reduceSub, reduceCtorEq, Int.reduceLT, Int.reduceLE, Int.reduceEq, Int.reduceBEq, Int.reduceBNe, Int.reduceToNat, Int.reduceAdd, Int.reduceNeg, Int.reduceSub, eF, eFc, eVi, hki, hx, hzv]
  generalize d.visits[k].sure = b
  rw [w_rounds_u (fun i => [(5, .bool (b || (d.entries.take i).any fun x => x.visit == (k : Int))), (6, .int .i64 (i : Int))]) d.entries.length (.exit 0) [(5, .bool (b || d.entries.any fun x => x.visit == (k : Int))), (6, .int .i64 (d.entries.length : Int))] ?_ ?_ ?_ rfl]
  · simp only [go_sem, ↓reduceIte, Nat.reduceBEq, Nat.reduceEqDiff, Nat.reduceLT, Nat.reduceLeDiff, Nat.reduceAdd, Nat.reduceMul, Nat.reduceSub, reduceCtorEq, Int.reduceLT, Int.reduceLE, Int.reduceEq, Int.reduceBEq, Int.reduceBNe, Int.reduceToNat, Int.reduceAdd, Int.reduceNeg, Int.reduceSub]
  · simp only [go_sem, ↓reduceIte, Nat.reduceBEq, Nat.reduceEqDiff, Nat.reduceLT, Nat.reduceLeDiff, Nat.reduceAdd, Nat.reduceMul, Nat.reduceSub, reduceCtorEq, Int.reduceLT, Int.reduceLE, Int.reduceEq, Int.reduceBEq, Int.reduceBNe, Int.reduceToNat, Int.reduceAdd, Int.reduceNeg, Int.reduceSub, List.any_nil]
  · intro i hi
    have hii : (i : Int) < d.entries.length := by omega
    have hy := List.getElem?_eq_getElem hi
    have hze := hd.ze (by intro e; rw [e] at hi; simp at hi)
    have hw : IntKind.i64.wrap ((i : Int) + 1) = (i : Int) + 1 := wrap_i64 (by omega)
    rw [any_succ _ hy]
    cases hb : (b || (d.entries.take i).any fun x => x.visit == (k : Int)) with
    | true =>
      have : (b || ((d.entries.take i).any (fun x => x.visit == (k : Int)) || d.entries[i].visit == (k : Int))) = true := by rw [← Bool.or_assoc, hb]; rfl
      rw [this]
      simp only [go_sem, ↓reduceIte, Nat.reduceBEq, Nat.reduceEqDiff, Nat.reduceLT, Nat.reduceLeDiff, Nat.reduceAdd, Nat.reduceMul, Nat.reduceSub, reduceCtorEq, Int.reduceLT, Int.reduceLE, Int.reduceEq, Int.reduceBEq, Int.reduceBNe, Int.reduceToNat, Int.reduceAdd, Int.reduceNeg, Int.reduceSub, hii, hy, eEt, hze, hw]
    | false =>
      have : (b || ((d.entries.take i).any (fun x => x.visit == (k : Int)) || d.entries[i].visit == (k : Int))) = (d.entries[i].visit == (k : Int)) := by rw [← Bool.or_assoc, hb]; rfl
      rw [this]
      simp only [go_sem, ↓reduceIte, Nat.reduceBEq, Nat.reduceEqDiff, Nat.reduceLT, Nat.reduceLeDiff, Nat.reduceAdd, Nat.reduceMul, Nat.reduceSub, reduceCtorEq, Int.reduceLT, Int.reduceLE, Int.reduceEq, Int.reduceBEq, Int.reduceBNe, Int.reduceToNat, Int.reduceAdd, Int.reduceNeg, Int.reduceSub, hii, hy, eEt, hze, hw]
  · simp only [go_sem, ↓reduceIte, Nat.reduceBEq, Nat.reduceEqDiff, Nat.reduceLT, Nat.reduceLeDiff, Nat.reduceAdd, Nat.reduceMul, Nat.reduceSub, reduceCtorEq, Int.reduceLT, Int.reduceLE, Int.reduceEq, Int.reduceBEq, Int.reduceBNe, Int.reduceToNat, Int.reduceAdd, Int.reduceNeg, Int.reduceSub, Int.lt_irrefl]
theorem asc_last {l : List Int} (h : Asc l) (hne : l ≠ []) : l.getD (l.length - 1) 0 = maxL l := by
  have hpos := List.length_pos_iff.2 hne
  have hlt : l.length - 1 < l.length := by omega
  have hx := List.getElem?_eq_getElem hlt
  have e : l.getD (l.length - 1) 0 = l[l.length - 1] := by rw [List.getD_eq_getElem?_getD, hx]; rfl
  have h1 := le_maxL (List.getElem_mem hlt)
  obtain ⟨i, hi, hm⟩ := List.mem_iff_getElem.1 (maxL_mem hne)
  have h2 : l[i] ≤ l[l.length - 1] := by
    rcases Nat.lt_or_ge i (l.length - 1) with h' | h'
    · have := List.pairwise_iff_getElem.1 h i (l.length - 1) hi hlt h'; omega
    · have : i = l.length - 1 := by omega
      subst this; exact Int.le_refl _
  rw [e]; omega
theorem costs_last {d : Fu} {k : Nat} (hne : costs d 0 k ≠ []) : (costs d 0 k).getD ((costs d 0 k).length - 1) 0 = maxL (costs d 0 k) := asc_last (sortD_asc _) hne
theorem cost_ref {d : Fu} (hd : d.fits) (ho : d.Ok) {k : Nat} (hk : k < d.visits.length) (h : Heap) : callPure (EW tabX) 72 [eF d, .int .i64 (k : Int), .lst 0 0 []] h = some (vI (costs d 0 k), h) := by
  have := c54 d hd ho [] (by simp) k hk h
  rw [costs_ref ho (same_nil d)] at this
  exact this
end Go.Proofs.YthkpjbgadkkeeaaGreat
