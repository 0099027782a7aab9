/- The body of RateFewest. Conditions: those of each law. -/
import Derived.Test.YtaohhjaogjcfoaaQ19
set_option linter.unusedSimpArgs false
set_option linter.unusedVariables false
namespace Go.Proofs.Ytaohhjaogjcfoaa
open Go.Proofs

theorem bit_all : (List.range 256).all (fun b => (List.range 5).all fun k => (((b : Int).fdiv (2 ^ min k 64)).tmod 2 == 1) == b.testBit k) = true := by kernel_rfl
theorem bit_of {b k : Nat} (hb : b < 256) (hk : k < 5) : (((b : Int).fdiv (2 ^ min k 64)).tmod 2 == 1) = b.testBit k := by
  have := List.all_eq_true.1 (List.all_eq_true.1 bit_all b (by simpa using hb)) k (by simpa using hk)
  simpa using this
theorem l9 (d : Ho) (hd : d.fits) (bits : Int) (hb : 0 ≤ bits ∧ bits ≤ 255) : ∃ h', (EW tabX).call 9 [eH d, .int .u8 bits] noHeap = some (.bool true, h') := by
  have h30 := c30 d hd
  have h36 := c36 d hd
  have h23 := c23
  have hcl := eH_clean d
  obtain ⟨b, rfl⟩ := Int.eq_ofNat_of_zero_le hb.1
  have hb2 : b < 256 := by omega
  have eD : eH d = .agg [.int .i64 d.days, .lst 0 d.zr (d.rates.map eSp), .int .i64 d.step, .lst 0 d.za (d.agents.map eAg), .lst 0 d.ze (d.entries.map eEn)] := rfl
  have hun : ∀ l n, (eH (d.but l)).under n = true := fun l n => by simp only [eH, eHc, go_sem, ↓reduceIte, Nat.reduceBEq, Nat.reduceEqDiff, Nat.reduceLT, Nat.reduceLeDiff, Nat.reduceAdd, Nat.reduceMul, Nat.reduceSub, reduceCtorEq, Int.reduceLT, Int.reduceLE, Int.reduceEq, Int.reduceBEq, Int.reduceBNe, Int.reduceToNat, Int.reduceAdd, Int.reduceNeg, Int.reduceSub]
  have hcb := fun l => eH_clean (d.but l)
  rw [noHeap, w_call _ fn_9 rfl]
  unfold wrongV at h30
  simp only [eD] at h30 h36 hcl ⊢
  by_cases h0 : checkE d = 0
  rotate_left
  · rw [if_neg h0] at h30
    have hb0 : (checkE d == 0) = false := by simpa using h0
    have hne : (checkE d != 0) = true := by simpa using h0
    rw [hb0] at h36
    simp only [vL, vI] at h30
    refine ⟨?_, ?_⟩
    rotate_left
    · simp only [go_sem, ↓reduceIte, Nat.reduceBEq, Nat.reduceEqDiff, Nat.reduceLT, Nat.reduceLeDiff, Nat.reduceAdd, Nat.reduceMul, Nat.reduceSub, reduceCtorEq, Int.reduceLT, Int.reduceLE, Int.reduceEq, Int.reduceBEq, Int.reduceBNe, Int.reduceToNat, Int.reduceAdd, Int.reduceNeg, Int.reduceSub, h30, h36, h23, hne]
      rfl
  have ho := ok_of_E h0
  have he5 := ho.e5
  rw [if_pos h0] at h30
  have hb0 : (checkE d == 0) = true := by simpa using h0
  rw [hb0] at h36
  simp only [vL, vI] at h30
  generalize hO : bitsL b d.entries.length = other
  have hol : other.length < 1000000000000000000 := by rw [← hO]; have := bitsL_le b d.entries.length; omega
  obtain ⟨l, e, hw⟩ : ∃ l e, wrongR d = (l, e) := ⟨_, _, rfl⟩
  have hlaw := wrong_few ho
  rw [hw] at h30 hlaw
  have hll : l.length < 1000000000000000000 := by
    rcases hlaw with ⟨_, t, _, h, _⟩ | ⟨h, _⟩
    · have h : l = _ := h
      rw [h]; have := bitsL_le t d.entries.length; omega
    · cases h; decide
  have z1 : ∀ m : List Int, m ≠ [] → zT 1 m.length = 1 := fun m h => zT_pos (List.length_pos_iff.2 h)
  have h40o := c40 d hd (by omega) other (zT 1 other.length) (z1 _) hol
  have h18o := c18 (d.but other) (fits_but hd other)
  have h40l := c40 d hd (by omega) l (zT 1 l.length) (z1 _) hll
  have h18l := c18 (d.but l) (fits_but hd l)
  have h41 := c41 l d.entries.length (zT 1 l.length) (z1 _) hll
  have h42 := c42 other l (zT 1 other.length) (zT 1 l.length) (z1 _) (z1 _) hol hll
  have f1 := firstV_but ho other
  have f2 := firstV_but ho l
  generalize firstV (d.but other) = fo at h18o f1
  generalize firstV (d.but l) = fl at h18l f2
  obtain ⟨fo1, fo2, fo3⟩ := fo
  obtain ⟨fl1, fl2, fl3⟩ := fl
  simp only at f1 f2
  subst f1; subst f2
  simp only [eD] at h40o h40l
  simp only [v3, vI] at h18o h18l
  simp only [go_sem, ↓reduceIte, Nat.reduceBEq, Nat.reduceEqDiff, Nat.reduceLT, Nat.reduceLeDiff, Nat.reduceAdd, Nat.reduceMul, Nat.reduceSub, reduceCtorEq, Int.reduceLT, Int.reduceLE, Int.reduceEq, Int.reduceBEq, Int.reduceBNe, Int.reduceToNat, Int.reduceAdd, Int.reduceNeg, Int.reduceSub, h30, h36]
  rw [w_rounds_h (fun k => [(7, ownT [] (bitsL b k)), (8, .int .i64 k)]) (fun k => ⟨[.cells (eHc d)], T [] (bitsL b k).length⟩) d.entries.length (.exit 0) [(7, ownT [] other), (8, .int .i64 d.entries.length)] ⟨[.cells (eHc d)], T [] other.length⟩ ?_ ?_ ?_ ?_ rfl]
  rotate_left
  · simp only [go_sem, ↓reduceIte, Nat.reduceBEq, Nat.reduceEqDiff, Nat.reduceLT, Nat.reduceLeDiff, Nat.reduceAdd, Nat.reduceMul, Nat.reduceSub, reduceCtorEq, Int.reduceLT, Int.reduceLE, Int.reduceEq, Int.reduceBEq, Int.reduceBNe, Int.reduceToNat, Int.reduceAdd, Int.reduceNeg, Int.reduceSub]; rfl
  · simp only [eHc]; rfl
  · intro k hk
    have hki : (k : Int) < d.entries.length := by omega
    have hx := List.getElem?_eq_getElem hk
    have hbt := bit_of hb2 (show k < 5 by omega)
    have hap := ownT_app [] (bitsL b k) k (by have := bitsL_le b k; omega)
    rw [bitsL_succ]
    cases hq : b.testBit k with
    | true =>
      rw [hq] at hbt
      simp (disch := omega) only [go_sem, ↓reduceIte, Nat.reduceBEq, Nat.reduceEqDiff, Nat.reduceLT, Nat.reduceLeDiff, Nat.reduceAdd, Nat.reduceMul, Nat.reduceSub, reduceCtorEq, Int.reduceLT, Int.reduceLE, Int.reduceEq, Int.reduceBEq, Int.reduceBNe, Int.reduceToNat, Int.reduceAdd, Int.reduceNeg, Int.reduceSub, eHc, hki, hbt, hap, wrap_i64]
      skip
    | false =>
      rw [hq] at hbt
      simp (disch := omega) only [go_sem, ↓reduceIte, Nat.reduceBEq, Nat.reduceEqDiff, Nat.reduceLT, Nat.reduceLeDiff, Nat.reduceAdd, Nat.reduceMul, Nat.reduceSub, reduceCtorEq, Int.reduceLT, Int.reduceLE, Int.reduceEq, Int.reduceBEq, Int.reduceBNe, Int.reduceToNat, Int.reduceAdd, Int.reduceNeg, Int.reduceSub, eHc, hki, hbt, wrap_i64]
      skip
  · simp only [go_sem, ↓reduceIte, Nat.reduceBEq, Nat.reduceEqDiff, Nat.reduceLT, Nat.reduceLeDiff, Nat.reduceAdd, Nat.reduceMul, Nat.reduceSub, reduceCtorEq, Int.reduceLT, Int.reduceLE, Int.reduceEq, Int.reduceBEq, Int.reduceBNe, Int.reduceToNat, Int.reduceAdd, Int.reduceNeg, Int.reduceSub, eHc, Int.lt_irrefl, hO]
    skip
  rcases hlaw with ⟨he0, t, ht, hlt, hsl, hmin⟩ | ⟨hlt, hno⟩
  · have he0 : e = 0 := he0
    have hlt : l = bitsL t d.entries.length := hlt
    have hsl : someB d l = true := hsl
    have hris : risB l d.entries.length = true := by rw [hlt]; exact ris_bits he5 ht
    subst he0
    rw [hris] at h41
    rw [hsl, if_pos rfl] at h18l
    cases hso : someB d other with
    | true =>
      have hfe : fewB other l = false := by rw [← hO]; exact hmin b (by rw [hO]; exact hso)
      rw [hfe] at h42
      rw [hso, if_pos rfl] at h18o
      refine ⟨?_, ?_⟩
      rotate_left
      · simp only [go_sem, ↓reduceIte, Nat.reduceBEq, Nat.reduceEqDiff, Nat.reduceLT, Nat.reduceLeDiff, Nat.reduceAdd, Nat.reduceMul, Nat.reduceSub, reduceCtorEq, Int.reduceLT, Int.reduceLE, Int.reduceEq, Int.reduceBEq, Int.reduceBNe, Int.reduceToNat, Int.reduceAdd, Int.reduceNeg, Int.reduceSub, eHc, h40o, h40l, h18o, h18l, h41, h42, h23, ownT, hcb, hun]
        rfl
    | false =>
      rw [hso, if_neg (by decide)] at h18o
      refine ⟨?_, ?_⟩
      rotate_left
      · simp only [go_sem, ↓reduceIte, Nat.reduceBEq, Nat.reduceEqDiff, Nat.reduceLT, Nat.reduceLeDiff, Nat.reduceAdd, Nat.reduceMul, Nat.reduceSub, reduceCtorEq, Int.reduceLT, Int.reduceLE, Int.reduceEq, Int.reduceBEq, Int.reduceBNe, Int.reduceToNat, Int.reduceAdd, Int.reduceNeg, Int.reduceSub, eHc, h40o, h40l, h18o, h18l, h41, h42, h23, ownT, hcb, hun]
        rfl
  · obtain ⟨rfl, rfl⟩ := Prod.mk.inj hlt
    have hso : someB d other = false := by rw [← hO]; exact hno b
    rw [hso, if_neg (by decide)] at h18o
    refine ⟨?_, ?_⟩
    rotate_left
    · simp only [go_sem, ↓reduceIte, Nat.reduceBEq, Nat.reduceEqDiff, Nat.reduceLT, Nat.reduceLeDiff, Nat.reduceAdd, Nat.reduceMul, Nat.reduceSub, reduceCtorEq, Int.reduceLT, Int.reduceLE, Int.reduceEq, Int.reduceBEq, Int.reduceBNe, Int.reduceToNat, Int.reduceAdd, Int.reduceNeg, Int.reduceSub, eHc, h40o, h40l, h18o, h18l, h41, h42, h23, ownT, hcb, hun]
      rfl
end Go.Proofs.Ytaohhjaogjcfoaa
