/- The body of RateAgrees. Conditions: those of each law. -/
import Derived.Test.YtaohhjaogjcfoaaQ19
set_option linter.unusedSimpArgs false
set_option linter.unusedVariables false
namespace Go.Proofs.Ytaohhjaogjcfoaa
open Go.Proofs

theorem wrongV_len (d : Ho) : (wrongV d).1.length < 1000000000000000000 := by
  unfold wrongV
  split
  · rename_i h
    have he5 := (ok_of_E h).e5
    rw [wrongR_best d he5]
    cases bestW d d.entries.length (2 ^ d.entries.length) with
    | none => show 0 < _; decide
    | some s => have := bitsL_le s d.entries.length; show (bitsL s d.entries.length).length < _; omega
  · show 0 < _; decide
theorem l5 (d : Ho) (hd : d.fits) (n : Int) (_ : -9223372036854775808 ≤ n ∧ n ≤ 9223372036854775807) : ∃ h', (EW tabX).call 5 [eH d, .int .i64 n] noHeap = some (.bool true, h') := by
  have h28 := c28 d hd n
  have h29 := c29 d hd n
  have h30 := c30 d hd
  have h31 := c31 d hd
  have h20 := vI_same (wrongV d).1 (wrongV_len d)
  have hcl := eH_clean d
  have h23 := c23
  generalize wrongV d = wv at *
  generalize agreeV d n = av at *
  rw [noHeap, w_call _ fn_5 rfl]
  simp only [eH, eHc, v2, vL] at hcl h28 h29 h30 h31 ⊢
  refine ⟨?_, ?_⟩
  rotate_left
  · simp only [go_sem, ↓reduceIte, Nat.reduceBEq, Nat.reduceEqDiff, Nat.reduceLT, Nat.reduceLeDiff, Nat.reduceAdd, Nat.reduceMul, Nat.reduceSub, reduceCtorEq, Int.reduceLT, Int.reduceLE, Int.reduceEq, Int.reduceBEq, Int.reduceBNe, Int.reduceToNat, Int.reduceAdd, Int.reduceNeg, Int.reduceSub, h28, h29, h30, h31, h20, h23, ne_same, vI_clean, vI_under]
    rfl
end Go.Proofs.Ytaohhjaogjcfoaa
