/- The body of GiftEnough. Conditions: those of each law. -/
import Derived.Test.YthkpjbgadkkeeaaQ16
set_option linter.unusedSimpArgs false
set_option linter.unusedVariables false
namespace Go.Proofs.Ythkpjbgadkkeeaa
open Go.Proofs

theorem enter_no {d : Fu} (h : someE d = false) : enterE d 0 ≠ 0 := by
  unfold enterE
  by_cases h0 : checkE d = 0
  · rw [if_pos h0, if_pos rfl, someE_no h h0]; decide
  · rw [if_neg h0]; exact h0
theorem enter_yes {d : Fu} (h : someE d = true) : enterE d 0 = 0 := enter_eq (someE_yes h).1 (someE_yes h).2
theorem need_no {d : Fu} (h : someE d = false) : needP d = (0, enterE d 0) := by unfold needP; rw [if_neg (enter_no h)]
def needV (d : Fu) : Int := if 0 < mostTo d d.visits.length - d.pence then mostTo d d.visits.length - d.pence else 0
theorem need_yes {d : Fu} (h : someE d = true) : needP d = (needV d, 0) := by unfold needP; rw [if_pos (enter_yes h)]; rfl
theorem ends_yes {d : Fu} (h : someE d = true) : endsP d = if mostTo d d.visits.length ≤ d.pence then (0, 9) else (endsV d 0 0, 0) := by
  obtain ⟨h1, h2⟩ := someE_yes h
  have hi := ends_iff (ok_of_check h1) h2 0
  rw [mostR_zero] at hi
  unfold endsP
  rw [if_pos (enter_yes h)]
  by_cases hm : mostTo d d.visits.length ≤ d.pence
  · rw [if_pos hm, if_pos (hi.2 hm)]
  · rw [if_neg hm, if_neg (fun hh => hm (hi.1 hh))]
theorem needV_bd {d : Fu} (h : someE d = true) : 0 ≤ needV d ∧ needV d ≤ 450 ∧ (needV d = 0 ↔ mostTo d d.visits.length ≤ d.pence) ∧ (needV d ≠ 0 → needV d = mostTo d d.visits.length - d.pence) ∧ mostTo d d.visits.length ≤ d.pence + needV d := by
  obtain ⟨h1, h2⟩ := someE_yes h
  have ho := ok_of_check h1
  have := mostTo_bd ho h2 _ (Nat.le_refl _)
  have := ho.visits
  have := ho.pence
  unfold needV
  split <;> omega
theorem some_rich' {d : Fu} (h : someE d = true) {p : Int} (hp : 0 ≤ p ∧ p ≤ 300) : someE (d.rich p) = true := by
  obtain ⟨h1, h2⟩ := someE_yes h
  unfold someE
  rw [check_rich h1 hp, some_rich, h2]; rfl
theorem needV_rich (d : Fu) (p : Int) : needV (d.rich p) = if 0 < mostTo d d.visits.length - p then mostTo d d.visits.length - p else 0 := by
  have e : mostTo (d.rich p) (d.rich p).visits.length = mostTo d d.visits.length := most_rich d p _
  unfold needV
  rw [e]; rfl
theorem l5 (d : Fu) (hd : d.fits) : ∃ h', (EW tabX).call 5 [eF d] noHeap = some (.bool true, h') := by
  have h20 := c20 d hd
  have h21 := c21 d hd
  have hcl := eF_clean d
  have h14 := c14
  rw [noHeap, w_call _ fn_5 rfl]
  simp only [eF_eq] at h20 h21 hcl ⊢
  cases hs : someE d with
  | false =>
    rw [need_no hs] at h20
    rw [hs] at h21
    have hne : (enterE d 0 != 0) = true := by simpa using enter_no hs
    simp only [vQ] at h20
    refine ⟨?_, ?_⟩
    rotate_left
    · simp only [go_sem, ↓reduceIte, Nat.reduceBEq, Nat.reduceEqDiff, Nat.reduceLT, Nat.reduceLeDiff, Nat.reduceAdd, Nat.reduceMul, Nat.reduceSub, reduceCtorEq, Int.reduceLT, Int.reduceLE, Int.reduceEq, Int.reduceBEq, Int.reduceBNe, Int.reduceToNat, Int.reduceAdd, Int.reduceNeg, Int.reduceSub, h20, h21, h14, hne]
      rfl
  | true =>
    rw [need_yes hs] at h20
    rw [hs] at h21
    simp only [vQ] at h20
    obtain ⟨k1, k2⟩ := someE_yes hs
    have hp := (ok_of_check k1).pence
    obtain ⟨n1, n2, n3, n4, n5⟩ := needV_bd hs
    have hrn := fun p => needV_rich d p
    have hey := fun p (hp : 0 ≤ p ∧ p ≤ 300) => ends_yes (some_rich' hs hp)
    have e : ∀ p, mostTo (d.rich p) (d.rich p).visits.length = mostTo d d.visits.length := fun p => most_rich d p _
    generalize needV d = n at *
    have hn0 : ¬ n < 0 := by omega
    have hw1 : IntKind.i64.wrap (d.pence + n) = d.pence + n := wrap_i64 (by omega)
    by_cases hbig : 300 < d.pence + n
    · refine ⟨?_, ?_⟩
      rotate_left
      · simp only [go_sem, ↓reduceIte, Nat.reduceBEq, Nat.reduceEqDiff, Nat.reduceLT, Nat.reduceLeDiff, Nat.reduceAdd, Nat.reduceMul, Nat.reduceSub, reduceCtorEq, Int.reduceLT, Int.reduceLE, Int.reduceEq, Int.reduceBEq, Int.reduceBNe, Int.reduceToNat, Int.reduceAdd, Int.reduceNeg, Int.reduceSub, h20, h21, h14, hn0, hw1, hbig, n1]
        rfl
    · have hb1 : 0 ≤ d.pence + n ∧ d.pence + n ≤ 300 := by omega
      have s1 := some_rich' hs hb1
      have r20 := c20 (d.rich (d.pence + n)) (fits_rich hd _)
      have r22 := c22 (d.rich (d.pence + n)) (fits_rich hd _)
      rw [need_yes s1, hrn, if_neg (by omega), eF_rich] at r20
      rw [hey _ hb1, e, if_pos (show mostTo d d.visits.length ≤ (d.rich (d.pence + n)).pence by show _ ≤ d.pence + n; omega), eF_rich] at r22
      simp only [vQ] at r20 r22
      by_cases hz : n = 0
      · have hzb : (n == 0) = true := by simpa using hz
        refine ⟨?_, ?_⟩
        rotate_left
        · simp only [go_sem, ↓reduceIte, Nat.reduceBEq, Nat.reduceEqDiff, Nat.reduceLT, Nat.reduceLeDiff, Nat.reduceAdd, Nat.reduceMul, Nat.reduceSub, reduceCtorEq, Int.reduceLT, Int.reduceLE, Int.reduceEq, Int.reduceBEq, Int.reduceBNe, Int.reduceToNat, Int.reduceAdd, Int.reduceNeg, Int.reduceSub, h20, h21, h14, hn0, hw1, hbig, r20, r22, hzb]
          rfl
      · have hzb : (n == 0) = false := by simpa using hz
        have hb2 : 0 ≤ d.pence + n - 1 ∧ d.pence + n - 1 ≤ 300 := by omega
        have s2 := some_rich' hs hb2
        have u20 := c20 (d.rich (d.pence + n - 1)) (fits_rich hd _)
        have u22 := c22 (d.rich (d.pence + n - 1)) (fits_rich hd _)
        have hm := n4 hz
        have one : (if 0 < mostTo d d.visits.length - (d.pence + n - 1) then mostTo d d.visits.length - (d.pence + n - 1) else 0) = 1 := by rw [if_pos (by omega)]; omega
        rw [need_yes s2, hrn, one, eF_rich] at u20
        rw [hey _ hb2, e, if_neg (show ¬ mostTo d d.visits.length ≤ (d.rich (d.pence + n - 1)).pence by show ¬ _ ≤ d.pence + n - 1; omega), eF_rich] at u22
        simp only [vQ] at u20 u22
        have hw2 : IntKind.i64.wrap (d.pence + n - 1) = d.pence + n - 1 := wrap_i64 (by omega)
        refine ⟨?_, ?_⟩
        rotate_left
        · simp only [go_sem, ↓reduceIte, Nat.reduceBEq, Nat.reduceEqDiff, Nat.reduceLT, Nat.reduceLeDiff, Nat.reduceAdd, Nat.reduceMul, Nat.reduceSub, reduceCtorEq, Int.reduceLT, Int.reduceLE, Int.reduceEq, Int.reduceBEq, Int.reduceBNe, Int.reduceToNat, Int.reduceAdd, Int.reduceNeg, Int.reduceSub, h20, h21, h14, hn0, hw1, hw2, hbig, r20, r22, u20, u22, hzb]
          rfl
end Go.Proofs.Ythkpjbgadkkeeaa
