/- The body of GiftEntries. Conditions: those of each law. -/
import Derived.Test.YthkpjbgadkkeeaaQ16
set_option linter.unusedSimpArgs false
set_option linter.unusedVariables false
namespace Go.Proofs.Ythkpjbgadkkeeaa
open Go.Proofs

theorem l6 (d : Fu) (hd : d.fits) (bits : Int) (hb : 0 ≤ bits ∧ bits ≤ 255) : ∃ h', (EW tabX).call 6 [eF d, .int .u8 bits] noHeap = some (.bool true, h') := by
  have h18 := c18 d hd
  have h23 := c23 d hd
  have h14 := c14
  have hcl := eF_clean d
  obtain ⟨b, rfl⟩ := Int.eq_ofNat_of_zero_le hb.1
  have hb2 : b < 256 := by omega
  have hwb : IntKind.i64.wrap (b : Int) = (b : Int) := wrap_i64 (by omega)
  have eD : eF d = .agg [.int .i64 d.pence, .int .i64 d.days, .int .i64 d.opn, .int .i64 d.late, .int .i64 d.frm, .lst 0 d.zl (I d.lines), .lst 0 d.zp (d.people.map ePe), .lst 0 d.zv (d.visits.map eVi), .lst 0 d.ze (d.entries.map eEt)] := rfl
  rw [noHeap, w_call _ fn_6 rfl]
  unfold wrongP at h18
  simp only [eD] at h18 h23 hcl ⊢
  by_cases h0 : checkE d = 0
  rotate_left
  · rw [if_neg h0] at h18
    have hb0 : (checkE d == 0) = false := by simpa using h0
    have hne : (checkE d != 0) = true := by simpa using h0
    rw [hb0] at h23
    simp only [vP, vI] at h18
    refine ⟨?_, ?_⟩
    rotate_left
    · simp only [go_sem, ↓reduceIte, Nat.reduceBEq, Nat.reduceEqDiff, Nat.reduceLT, Nat.reduceLeDiff, Nat.reduceAdd, Nat.reduceMul, Nat.reduceSub, reduceCtorEq, Int.reduceLT, Int.reduceLE, Int.reduceEq, Int.reduceBEq, Int.reduceBNe, Int.reduceToNat, Int.reduceAdd, Int.reduceNeg, Int.reduceSub, h18, h23, h14, hne]
      rfl
  have ho := ok_of_check h0
  have he4 := ho.entries
  rw [if_pos h0] at h18
  have hb0 : (checkE d == 0) = true := by simpa using h0
  rw [hb0] at h23
  obtain ⟨t, w1, w2, w3, w4⟩ := wrong_spec ho
  rw [w1] at h18
  have hris := ris_bits (n := d.entries.length) (by omega) w2
  have hso := w4 b
  have e1 := someR_eq ho (same_bits d t)
  have e2 := someR_eq ho (same_bits d b)
  rw [w3] at e1
  have hll : (bitsL t d.entries.length).length < 1000000000000000000 := by have := bitsL_le t d.entries.length; omega
  have hol : (bitsL b d.entries.length).length < 1000000000000000000 := by have := bitsL_le b d.entries.length; omega
  have h26l := c26 d hd ho (bitsL t d.entries.length) (by have := bitsL_le t d.entries.length; omega)
  have h26o := c26 d hd ho (bitsL b d.entries.length) (by have := bitsL_le b d.entries.length; omega)
  rw [e1] at h26l
  rw [e2] at h26o
  have z1 : ∀ m : List Int, m ≠ [] → zT 1 m.length = 1 := fun m h => zT_pos (List.length_pos_iff.2 h)
  have h25 := c25 (bitsL t d.entries.length) d.entries.length (zT 1 (bitsL t d.entries.length).length) (z1 _) hll
  have h27 := c27 (bitsL b d.entries.length) (bitsL t d.entries.length) (zT 1 (bitsL b d.entries.length).length) (zT 1 (bitsL t d.entries.length).length) (z1 _) (z1 _) hol hll
  rw [hris] at h25
  generalize hO : bitsL b d.entries.length = other at *
  generalize bitsL t d.entries.length = l at *
  simp only [vP, vI, eD] at h18 h26l h26o
  simp only [go_sem, ↓reduceIte, Nat.reduceBEq, Nat.reduceEqDiff, Nat.reduceLT, Nat.reduceLeDiff, Nat.reduceAdd, Nat.reduceMul, Nat.reduceSub, reduceCtorEq, Int.reduceLT, Int.reduceLE, Int.reduceEq, Int.reduceBEq, Int.reduceBNe, Int.reduceToNat, Int.reduceAdd, Int.reduceNeg, Int.reduceSub, h18, h23]
  rw [w_rounds_h (fun k => [(7, ownT [] (bitsL b k)), (8, .int .i64 (k : Int))]) (fun k => ⟨[.cells (eFc d)], T [] (bitsL b k).length⟩) d.entries.length (.exit 0) [(7, ownT [] other), (8, .int .i64 (d.entries.length : Int))] ⟨[.cells (eFc d)], T [] other.length⟩ ?_ ?_ ?_ ?_ rfl]
  rotate_left
  · simp only [go_sem, ↓reduceIte, Nat.reduceBEq, Nat.reduceEqDiff, Nat.reduceLT, Nat.reduceLeDiff, Nat.reduceAdd, Nat.reduceMul, Nat.reduceSub, reduceCtorEq, Int.reduceLT, Int.reduceLE, Int.reduceEq, Int.reduceBEq, Int.reduceBNe, Int.reduceToNat, Int.reduceAdd, Int.reduceNeg, Int.reduceSub]; rfl
  · simp only [eFc]; rfl
  · intro k hk
    have hki : (k : Int) < d.entries.length := by omega
    have hx := List.getElem?_eq_getElem hk
    have h24 := c24 b k (by omega) (by omega)
    have hap := ownT_app [] (bitsL b k) k (by have := bitsL_le b k; omega)
    have hw : IntKind.i64.wrap ((k : Int) + 1) = (k : Int) + 1 := wrap_i64 (by omega)
    rw [bitsL_succ]
    cases hq : b.testBit k with
    | true =>
      rw [hq] at h24
      simp only [go_sem, ↓reduceIte, Nat.reduceBEq, Nat.reduceEqDiff, Nat.reduceLT, Nat.reduceLeDiff, Nat.reduceAdd, Nat.reduceMul, Nat.reduceSub, reduceCtorEq, Int.reduceLT, Int.reduceLE, Int.reduceEq, Int.reduceBEq, Int.reduceBNe, Int.reduceToNat, Int.reduceAdd, Int.reduceNeg, Int.reduceSub, eFc, hki, hwb, h24, hap, hw]
      skip
    | false =>
      rw [hq] at h24
      simp only [go_sem, ↓reduceIte, Nat.reduceBEq, Nat.reduceEqDiff, Nat.reduceLT, Nat.reduceLeDiff, Nat.reduceAdd, Nat.reduceMul, Nat.reduceSub, reduceCtorEq, Int.reduceLT, Int.reduceLE, Int.reduceEq, Int.reduceBEq, Int.reduceBNe, Int.reduceToNat, Int.reduceAdd, Int.reduceNeg, Int.reduceSub, eFc, hki, hwb, h24, hw]
      skip
  · simp only [go_sem, ↓reduceIte, Nat.reduceBEq, Nat.reduceEqDiff, Nat.reduceLT, Nat.reduceLeDiff, Nat.reduceAdd, Nat.reduceMul, Nat.reduceSub, reduceCtorEq, Int.reduceLT, Int.reduceLE, Int.reduceEq, Int.reduceBEq, Int.reduceBNe, Int.reduceToNat, Int.reduceAdd, Int.reduceNeg, Int.reduceSub, eFc, Int.lt_irrefl, hO]
    skip
  cases hsb : someB d b with
  | true =>
    rw [hsb] at h26o
    rw [hso hsb] at h27
    refine ⟨?_, ?_⟩
    rotate_left
    · simp only [go_sem, ↓reduceIte, Nat.reduceBEq, Nat.reduceEqDiff, Nat.reduceLT, Nat.reduceLeDiff, Nat.reduceAdd, Nat.reduceMul, Nat.reduceSub, reduceCtorEq, Int.reduceLT, Int.reduceLE, Int.reduceEq, Int.reduceBEq, Int.reduceBNe, Int.reduceToNat, Int.reduceAdd, Int.reduceNeg, Int.reduceSub, eFc, h25, h26l, h26o, h27, h14, ownT]
      rfl
  | false =>
    rw [hsb] at h26o
    refine ⟨?_, ?_⟩
    rotate_left
    · simp only [go_sem, ↓reduceIte, Nat.reduceBEq, Nat.reduceEqDiff, Nat.reduceLT, Nat.reduceLeDiff, Nat.reduceAdd, Nat.reduceMul, Nat.reduceSub, reduceCtorEq, Int.reduceLT, Int.reduceLE, Int.reduceEq, Int.reduceBEq, Int.reduceBNe, Int.reduceToNat, Int.reduceAdd, Int.reduceNeg, Int.reduceSub, eFc, h25, h26l, h26o, h14, ownT]
      rfl
end Go.Proofs.Ythkpjbgadkkeeaa
