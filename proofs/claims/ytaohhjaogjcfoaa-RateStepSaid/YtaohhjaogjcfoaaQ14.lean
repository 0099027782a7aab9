/- The fewest entries that are false, by the program. Conditions: those of each law. -/
import Derived.Test.YtaohhjaogjcfoaaQ13
set_option linter.unusedSimpArgs false
set_option linter.unusedVariables false
namespace Go.Proofs.Ytaohhjaogjcfoaa
open Go.Proofs

theorem shl_five {i : Nat} (hi : i ≤ 5) : IntKind.i64.wrap (1 * 2 ^ min i 64) = ((2 ^ i : Nat) : Int) := by
  match i, hi with
  | 0, _ => rfl
  | 1, _ => rfl
  | 2, _ => rfl
  | 3, _ => rfl
  | 4, _ => rfl
  | 5, _ => rfl
theorem cmpL_pos (a b : List Int) : (cmpL a b > 0) ∨ ¬ (cmpL a b > 0) := by omega
theorem bitsL_le (s n : Nat) : (bitsL s n).length ≤ n := by
  unfold bitsL
  rw [List.length_map]
  have := List.length_filter_le (fun i => s.testBit i) (List.range n)
  simpa using this
def bv (n : Nat) : Option Nat → AV
  | none => .lst 1 0 []
  | some s => vI (bitsL s n)
theorem bv_none (n : Nat) : bv n none = .lst 1 0 [] := rfl
theorem bv_some (n s : Nat) : bv n (some s) = vI (bitsL s n) := rfl
theorem c30 (d : Ho) (hd : d.fits) (h : Heap) : callPure (EW tabX) 30 [eH d] h = some (vL (wrongV d), h) := by
  have hcl := eH_clean d
  have h16 := c16 d hd
  have hce : (checkH d).2.2 = checkE d := rfl
  rw [callPure_eq, w_call _ fn_30 rfl]
  unfold wrongV
  simp only [eH, eHc, tup3, hce] at h16 hcl
  by_cases h0 : checkE d = 0
  rotate_left
  · have hne : (checkE d != 0) = true := by simpa using h0
    simp (disch := omega) only [go_sem, ↓reduceIte, Nat.reduceBEq, Nat.reduceEqDiff, Nat.reduceLT, Nat.reduceLeDiff, Nat.reduceAdd, Nat.reduceMul, Nat.reduceSub, reduceCtorEq, Int.reduceLT, Int.reduceLE, Int.reduceEq, Int.reduceBEq, Int.reduceBNe, Int.reduceToNat, Int.reduceAdd, Int.reduceNeg, Int.reduceSub, eH, eHc, h16, h0, hne, vL, vI]
  have ho := ok_of_E h0
  have he5 := ho.e5
  rw [if_pos h0, wrongR_best d he5]
  have hsh := shl_five he5
  simp only [go_sem, ↓reduceIte, Nat.reduceBEq, Nat.reduceEqDiff, Nat.reduceLT, Nat.reduceLeDiff, Nat.reduceAdd, Nat.reduceMul, Nat.reduceSub, reduceCtorEq, Int.reduceLT, Int.reduceLE, Int.reduceEq, Int.reduceBEq, Int.reduceBNe, Int.reduceToNat, Int.reduceAdd, Int.reduceNeg, Int.reduceSub, eH, eHc, h16, h0, hsh]
  have h2n : 2 ^ d.entries.length ≤ 32 := Nat.pow_le_pow_right (by omega) he5
  generalize hnn : d.entries.length = n at he5 h2n
  generalize hx : (EW tabX).code 30 none (Code.loop _) _ = x
  refine w_rounds_sk hx (fun k (s : List ABlk × List Bool) => [(2, bv n (bestW d n k)), (4, .bool (bestW d n k).isSome), (20, .int .i64 k)]) (fun s => ⟨s.1, s.2⟩) (fun k s => s.1[0]? = some (.cells (eHc d))) (2 ^ n) (.exit 0)
    (fun s => [(2, bv n (bestW d n (2 ^ n))), (4, .bool (bestW d n (2 ^ n)).isSome), (20, .int .i64 ((2 ^ n : Nat) : Int))]) rfl ([.cells (eHc d)], []) ?_ ?_ rfl ?_ ?_ ?_
  · simp only [go_sem, ↓reduceIte, Nat.reduceBEq, Nat.reduceEqDiff, Nat.reduceLT, Nat.reduceLeDiff, Nat.reduceAdd, Nat.reduceMul, Nat.reduceSub, reduceCtorEq, Int.reduceLT, Int.reduceLE, Int.reduceEq, Int.reduceBEq, Int.reduceBNe, Int.reduceToNat, Int.reduceAdd, Int.reduceNeg, Int.reduceSub, bestW, bv, Option.isSome_none]
  · simp only [eHc, hnn]
  · intro k s hk hR
    obtain ⟨B, F⟩ := s
    have hB : B[0]? = some (.cells (eHc d)) := hR
    have oB := old hB
    have hBl : 0 < B.length := (List.getElem?_eq_some_iff.1 hB).1
    have hki : (k : Int) < ((2 ^ n : Nat) : Int) := by omega
    have hwk : IntKind.i64.wrap ((k : Int) + 1) = (k : Int) + 1 := wrap_i64 (by omega)
    have h81 := c81 k n (by omega) he5
    have h83 := c83 d k B F
    obtain ⟨es', F', k1, k2⟩ := c84 hd ho (but := k) (by omega) (B.length + 2) (B.length + 1) (B ++ [.cells (eHc d), .map [], .cells (eHs d k (B.length + 1))]) ⟨by simp only [go_sem, ↓reduceIte, Nat.reduceBEq, Nat.reduceEqDiff, Nat.reduceLT, Nat.reduceLeDiff, Nat.reduceAdd, Nat.reduceMul, Nat.reduceSub, reduceCtorEq, Int.reduceLT, Int.reduceLE, Int.reduceEq, Int.reduceBEq, Int.reduceBNe, Int.reduceToNat, Int.reduceAdd, Int.reduceNeg, Int.reduceSub], by simp, by omega⟩ [] (KOk_nil d) F
    have hsb : decide (dfs d k d.rates.length [] ≠ []) = someB d (bitsL k n) := by
      rw [dfs_all ho, hnn]
      unfold someB
      rw [Bool.eq_iff_iff]
      simp only [decide_eq_true_eq]
      exact ⟨fun h => List.length_pos_iff.2 h, fun h => List.length_pos_iff.1 h⟩
    rw [hsb] at k2
    simp only [eHc] at hB oB
    simp only [go_sem, ↓reduceIte, Nat.reduceBEq, Nat.reduceEqDiff, Nat.reduceLT, Nat.reduceLeDiff, Nat.reduceAdd, Nat.reduceMul, Nat.reduceSub, reduceCtorEq, Int.reduceLT, Int.reduceLE, Int.reduceEq, Int.reduceBEq, Int.reduceBNe, Int.reduceToNat, Int.reduceAdd, Int.reduceNeg, Int.reduceSub, eH, eHc, eHs, esS_nil] at h83 k2
    rw [show bestW d n (k + 1) = stepW d n (bestW d n k) k from rfl]
    cases hb : bestW d n k with
    | none =>
      refine ⟨(B ++ [.cells (eHc d), .map (esS es'), .cells (eHs d k (B.length + 1))], F ++ F'), ?_, old hR _⟩
      cases hp : someB d (bitsL k n) with
      | true =>
        rw [hp] at k2
        simp only [go_sem, ↓reduceIte, Nat.reduceBEq, Nat.reduceEqDiff, Nat.reduceLT, Nat.reduceLeDiff, Nat.reduceAdd, Nat.reduceMul, Nat.reduceSub, reduceCtorEq, Int.reduceLT, Int.reduceLE, Int.reduceEq, Int.reduceBEq, Int.reduceBNe, Int.reduceToNat, Int.reduceAdd, Int.reduceNeg, Int.reduceSub, eH, eHc, eHs, stepW, hp, bv_none, bv_some, Option.isSome_none, Option.isSome_some, hki, hB, oB, hnn, h81, h83, k2, hwk, vI]
        skip
      | false =>
        rw [hp] at k2
        simp only [go_sem, ↓reduceIte, Nat.reduceBEq, Nat.reduceEqDiff, Nat.reduceLT, Nat.reduceLeDiff, Nat.reduceAdd, Nat.reduceMul, Nat.reduceSub, reduceCtorEq, Int.reduceLT, Int.reduceLE, Int.reduceEq, Int.reduceBEq, Int.reduceBNe, Int.reduceToNat, Int.reduceAdd, Int.reduceNeg, Int.reduceSub, eH, eHc, eHs, stepW, hp, bv_none, bv_some, Option.isSome_none, Option.isSome_some, hki, hB, oB, hnn, h81, h83, k2, hwk, vI]
        skip
    | some t =>
      have h82 := c82 (bitsL k n) (bitsL t n) (zT 1 (bitsL k n).length) (zT 1 (bitsL t n).length) (fun h => zT_pos (List.length_pos_iff.2 h)) (fun h => zT_pos (List.length_pos_iff.2 h)) (by have := bitsL_le k n; omega) (by have := bitsL_le t n; omega)
      by_cases g1 : ((bitsL k n).length : Int) > (bitsL t n).length
      · refine ⟨(B, F), ?_, hR⟩
        have hsk : skipW (bitsL k n) (bitsL t n) = true := by unfold skipW; simp only [g1, decide_true, Bool.true_or]
        simp only [go_sem, ↓reduceIte, Nat.reduceBEq, Nat.reduceEqDiff, Nat.reduceLT, Nat.reduceLeDiff, Nat.reduceAdd, Nat.reduceMul, Nat.reduceSub, reduceCtorEq, Int.reduceLT, Int.reduceLE, Int.reduceEq, Int.reduceBEq, Int.reduceBNe, Int.reduceToNat, Int.reduceAdd, Int.reduceNeg, Int.reduceSub, eH, eHc, eHs, stepW, hsk, bv_none, bv_some, Option.isSome_none, Option.isSome_some, hki, hB, oB, hnn, h81, hwk, vI, g1]
        skip
      · by_cases g2 : ((bitsL k n).length : Int) = (bitsL t n).length
        · have g2b : (((bitsL k n).length : Int) == (bitsL t n).length) = true := by simpa using g2
          by_cases g3 : cmpL (bitsL k n) (bitsL t n) > 0
          · refine ⟨(B, F), ?_, hR⟩
            have hsk : skipW (bitsL k n) (bitsL t n) = true := by unfold skipW; rw [decide_eq_true g2, decide_eq_true g3]; simp
            simp only [go_sem, ↓reduceIte, Nat.reduceBEq, Nat.reduceEqDiff, Nat.reduceLT, Nat.reduceLeDiff, Nat.reduceAdd, Nat.reduceMul, Nat.reduceSub, reduceCtorEq, Int.reduceLT, Int.reduceLE, Int.reduceEq, Int.reduceBEq, Int.reduceBNe, Int.reduceToNat, Int.reduceAdd, Int.reduceNeg, Int.reduceSub, eH, eHc, eHs, stepW, hsk, bv_none, bv_some, Option.isSome_none, Option.isSome_some, hki, hB, oB, hnn, h81, h82, hwk, vI, g1, g2b, g3]
            skip
          · have hsk : skipW (bitsL k n) (bitsL t n) = false := by unfold skipW; rw [decide_eq_false g1, decide_eq_false g3]; simp
            refine ⟨(B ++ [.cells (eHc d), .map (esS es'), .cells (eHs d k (B.length + 1))], F ++ F'), ?_, old hR _⟩
            cases hp : someB d (bitsL k n) with
            | true =>
              rw [hp] at k2
              simp only [go_sem, ↓reduceIte, Nat.reduceBEq, Nat.reduceEqDiff, Nat.reduceLT, Nat.reduceLeDiff, Nat.reduceAdd, Nat.reduceMul, Nat.reduceSub, reduceCtorEq, Int.reduceLT, Int.reduceLE, Int.reduceEq, Int.reduceBEq, Int.reduceBNe, Int.reduceToNat, Int.reduceAdd, Int.reduceNeg, Int.reduceSub, eH, eHc, eHs, stepW, hsk, hp, bv_none, bv_some, Option.isSome_none, Option.isSome_some, hki, hB, oB, hnn, h81, h82, h83, k2, hwk, vI, g1, g2b, g3]
              skip
            | false =>
              rw [hp] at k2
              simp only [go_sem, ↓reduceIte, Nat.reduceBEq, Nat.reduceEqDiff, Nat.reduceLT, Nat.reduceLeDiff, Nat.reduceAdd, Nat.reduceMul, Nat.reduceSub, reduceCtorEq, Int.reduceLT, Int.reduceLE, Int.reduceEq, Int.reduceBEq, Int.reduceBNe, Int.reduceToNat, Int.reduceAdd, Int.reduceNeg, Int.reduceSub, eH, eHc, eHs, stepW, hsk, hp, bv_none, bv_some, Option.isSome_none, Option.isSome_some, hki, hB, oB, hnn, h81, h82, h83, k2, hwk, vI, g1, g2b, g3]
              skip
        · have g2b : (((bitsL k n).length : Int) == (bitsL t n).length) = false := by simpa using g2
          have hsk : skipW (bitsL k n) (bitsL t n) = false := by unfold skipW; rw [decide_eq_false g1, decide_eq_false g2]; simp
          refine ⟨(B ++ [.cells (eHc d), .map (esS es'), .cells (eHs d k (B.length + 1))], F ++ F'), ?_, old hR _⟩
          cases hp : someB d (bitsL k n) with
          | true =>
            rw [hp] at k2
            simp only [go_sem, ↓reduceIte, Nat.reduceBEq, Nat.reduceEqDiff, Nat.reduceLT, Nat.reduceLeDiff, Nat.reduceAdd, Nat.reduceMul, Nat.reduceSub, reduceCtorEq, Int.reduceLT, Int.reduceLE, Int.reduceEq, Int.reduceBEq, Int.reduceBNe, Int.reduceToNat, Int.reduceAdd, Int.reduceNeg, Int.reduceSub, eH, eHc, eHs, stepW, hsk, hp, bv_none, bv_some, Option.isSome_none, Option.isSome_some, hki, hB, oB, hnn, h81, h82, h83, k2, hwk, vI, g1, g2b]
            skip
          | false =>
            rw [hp] at k2
            simp only [go_sem, ↓reduceIte, Nat.reduceBEq, Nat.reduceEqDiff, Nat.reduceLT, Nat.reduceLeDiff, Nat.reduceAdd, Nat.reduceMul, Nat.reduceSub, reduceCtorEq, Int.reduceLT, Int.reduceLE, Int.reduceEq, Int.reduceBEq, Int.reduceBNe, Int.reduceToNat, Int.reduceAdd, Int.reduceNeg, Int.reduceSub, eH, eHc, eHs, stepW, hsk, hp, bv_none, bv_some, Option.isSome_none, Option.isSome_some, hki, hB, oB, hnn, h81, h82, h83, k2, hwk, vI, g1, g2b]
            skip
  · intro s hR
    obtain ⟨B, F⟩ := s
    simp only [go_sem, ↓reduceIte, Nat.reduceBEq, Nat.reduceEqDiff, Nat.reduceLT, Nat.reduceLeDiff, Nat.reduceAdd, Nat.reduceMul, Nat.reduceSub, reduceCtorEq, Int.reduceLT, Int.reduceLE, Int.reduceEq, Int.reduceBEq, Int.reduceBNe, Int.reduceToNat, Int.reduceAdd, Int.reduceNeg, Int.reduceSub, Int.lt_irrefl]
  · intro s h1 hR
    subst h1
    obtain ⟨B, F⟩ := s
    cases hb : bestW d n (2 ^ n) with
    | none => simp only [go_sem, ↓reduceIte, Nat.reduceBEq, Nat.reduceEqDiff, Nat.reduceLT, Nat.reduceLeDiff, Nat.reduceAdd, Nat.reduceMul, Nat.reduceSub, reduceCtorEq, Int.reduceLT, Int.reduceLE, Int.reduceEq, Int.reduceBEq, Int.reduceBNe, Int.reduceToNat, Int.reduceAdd, Int.reduceNeg, Int.reduceSub, bv_none, Option.isSome_none, vL, vI]
    | some t => simp only [go_sem, ↓reduceIte, Nat.reduceBEq, Nat.reduceEqDiff, Nat.reduceLT, Nat.reduceLeDiff, Nat.reduceAdd, Nat.reduceMul, Nat.reduceSub, reduceCtorEq, Int.reduceLT, Int.reduceLE, Int.reduceEq, Int.reduceBEq, Int.reduceBNe, Int.reduceToNat, Int.reduceAdd, Int.reduceNeg, Int.reduceSub, bv_some, Option.isSome_some, vL, vI]
end Go.Proofs.Ytaohhjaogjcfoaa
