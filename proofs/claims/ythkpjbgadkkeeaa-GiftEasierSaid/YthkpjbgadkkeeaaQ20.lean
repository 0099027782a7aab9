/- The body of GiftEasier. Conditions: those of each law. -/
import Derived.Test.YthkpjbgadkkeeaaQ19
set_option linter.unusedSimpArgs false
set_option linter.unusedVariables false
namespace Go.Proofs.Ythkpjbgadkkeeaa
open Go.Proofs

theorem I_cells (l : List Int) : (I l).flatMap AV.cells = I l := by
  induction l with
  | nil => rfl
  | cons x l ih => rw [I_c, List.flatMap_cons, ih]; rfl
theorem rowsI : ∀ (l : List Int) (pre : List AV), rowsOf 1 (pre ++ I l) pre.length l.length = some (I l)
  | [], _ => rfl
  | x :: l, pre => by
    have ih := rowsI l (pre ++ [.int .i64 x])
    have e : pre ++ I (x :: l) = (pre ++ [.int .i64 x]) ++ I l := by rw [I_c, List.append_assoc]; rfl
    have e2 : (pre ++ [AV.int .i64 x]).length = pre.length + 1 := by simp
    rw [e2, ← e] at ih
    have e3 : rowAt 1 (pre ++ I (x :: l)) pre.length = some (.int .i64 x) := by
      unfold rowAt
      rw [if_pos rfl, List.getElem?_append_right (Nat.le_refl _), Nat.sub_self]
      rfl
    show rowsOf 1 _ pre.length (l.length + 1) = _
    unfold rowsOf
    rw [e3, ih]; rfl
theorem rowsI0 {l : List Int} {n : Nat} (h : l.length = n) : rowsOf 1 (I l) 0 n = some (I l) := by subst h; exact rowsI l []
theorem I_set (l : List Int) (k : Nat) (x : Int) : (I l).set k (.int .i64 x) = I (l.set k x) := by unfold I; rw [List.map_set]
set_option maxRecDepth 100000 in
theorem l8 (d : Fu) (hd : d.fits) (x : Ea) (hx : x.ok) : ∃ h', (EW tabX).call 8 [eF d, eEa x] noHeap = some (.bool true, h') := by
  have h21 := c21 d hd
  have h20 := c20 d hd
  have h29 := c29 d hd
  have h14 := c14
  have hcl := eF_clean d
  rw [noHeap, w_call0 _ fn_8 rfl]
  simp only [eF_eq d] at h21 h20 h29 hcl ⊢
  cases hs : someE d with
  | false =>
    rw [hs] at h21
    refine ⟨?_, ?_⟩
    rotate_left
    · simp only [go_sem, ↓reduceIte, Nat.reduceBEq, Nat.reduceEqDiff, Nat.reduceLT, Nat.reduceLeDiff, Nat.reduceAdd, Nat.reduceMul, Nat.reduceSub, reduceCtorEq, Int.reduceLT, Int.reduceLE, Int.reduceEq, Int.reduceBEq, Int.reduceBNe, Int.reduceToNat, Int.reduceAdd, Int.reduceNeg, Int.reduceSub, eEa, h21, h14]
      rfl
  | true =>
  rw [hs] at h21
  obtain ⟨k1, k2⟩ := someE_yes hs
  have ho := ok_of_check k1
  have hp := ho.pence
  obtain ⟨x1, x2, x3, x4, x5⟩ := hx
  have hwp : IntKind.i64.wrap x.pence = x.pence := wrap_i64 (by omega)
  have ht1 : x.pence.tmod 100 = x.pence % 100 := Int.tmod_eq_emod_of_nonneg x1.1
  have hm1 := Int.emod_nonneg x.pence (show (100 : Int) ≠ 0 by omega)
  have hm2 := Int.emod_lt_of_pos x.pence (show (0 : Int) < 100 by omega)
  generalize x.pence % 100 = m at ht1 hm1 hm2
  have hwm : IntKind.i64.wrap m = m := wrap_i64 (by omega)
  have hw1 : IntKind.i64.wrap (d.pence + m) = d.pence + m := wrap_i64 (by omega)
  obtain ⟨p, hpe⟩ : ∃ p, p = if d.pence + m < 300 then d.pence + m else 300 := ⟨_, rfl⟩
  have hpb : 0 ≤ p ∧ p ≤ 300 ∧ d.pence ≤ p := by rw [hpe]; split <;> omega
  have s1 := some_rich' hs (p := p) ⟨hpb.1, hpb.2.1⟩
  have r20 := c20 (d.rich p) (fits_rich hd _)
  have r29 := c29 (d.rich p) (fits_rich hd _)
  have hrn := refN_rich hs (p := p) ⟨hpb.1, hpb.2.1⟩ hpb.2.2
  have hnr := needV_rich d p
  obtain ⟨n1, n2, n3, n4, n5⟩ := needV_bd hs
  have hnd : needV d = if 0 < mostTo d d.visits.length - d.pence then mostTo d d.visits.length - d.pence else 0 := rfl
  rw [need_yes hs] at h20
  rw [refuse_yes hs] at h29
  rw [need_yes s1, eF_rich] at r20
  rw [refuse_yes s1, eF_rich] at r29
  have hneed : needV (d.rich p) = if needV d - (p - d.pence) > 0 then needV d - (p - d.pence) else 0 := by
    rw [hnr, hnd]
    split <;> split <;> split <;> omega
  have hwa : IntKind.i64.wrap (p - d.pence) = p - d.pence := wrap_i64 (by omega)
  have hwb : IntKind.i64.wrap (needV d - (p - d.pence)) = needV d - (p - d.pence) := wrap_i64 (by omega)
  generalize needV (d.rich p) = nr at *
  generalize needV d = nd at *
  generalize refN (d.rich p) = rr at *
  generalize refN d = rd at *
  have hlen : ¬ ((rr.length : Int) > rd.length) := by omega
  simp only [vQ, vP, vI] at h20 h29 r20 r29
  have f20 := c20 d.free (fits_free hd)
  rw [need_yes (some_of_free (check_free k1) rfl), eF_free] at f20
  simp only [vQ] at f20
  have hwo : IntKind.i64.wrap x.opn = x.opn := wrap_i64 (by omega)
  have hwl : IntKind.i64.wrap x.late = x.late := wrap_i64 (by omega)
  have hwk : IntKind.i64.wrap x.kind = x.kind := wrap_i64 (by omega)
  have hwi : IntKind.i64.wrap x.line = x.line := wrap_i64 (by omega)
  have hopn := ho.opn
  have hlate := ho.late
  have hlines := ho.lines
  have hzl := hd.zl (by intro e; rw [e] at hlines; simp at hlines)
  have hwo2 : IntKind.i64.wrap (d.opn - x.opn) = d.opn - x.opn := wrap_i64 (by omega)
  have hwl2 : IntKind.i64.wrap (d.late - x.late) = d.late - x.late := wrap_i64 (by omega)
  obtain ⟨o, hoe⟩ : ∃ o, o = low d.opn x.opn := ⟨_, rfl⟩
  obtain ⟨la, hla⟩ : ∃ la, la = low d.late x.late := ⟨_, rfl⟩
  have hob := low_bd hopn x2.1
  have hlb := low_bd hlate x3.1
  rw [← hoe] at hob
  rw [← hla] at hlb
  unfold low at hoe hla
  have hb1 : (d.lines.length * 8 ≤ 140737488355328 ∧ d.lines.length ≤ 140737488355328) = True := eq_true ⟨by omega, by omega⟩
  have hm0 : ¬ d.lines.length = 0 := by omega
  have hl0 : (((d.lines.length) : Int) == 0) = false := beq_eq_false_iff_ne.2 (by omega)
  have hlz : (d.lines.length : Int) ≠ 0 := by omega
  have htk : x.kind.tmod d.lines.length = x.kind % d.lines.length := Int.tmod_eq_emod_of_nonneg x5.1
  have hi0 := Int.emod_nonneg x.kind hlz
  have hi1 := Int.emod_lt_of_pos x.kind (show 0 < (d.lines.length : Int) by omega)
  generalize x.kind % (d.lines.length : Int) = i at htk hi0 hi1
  obtain ⟨kd, rfl⟩ := Int.eq_ofNat_of_zero_le hi0
  have hkl : kd < d.lines.length := by omega
  have hkx := List.getElem?_eq_getElem hkl
  have hln := ho.line _ (List.getElem_mem hkl)
  have hwi2 : IntKind.i64.wrap (d.lines[kd] - x.line) = d.lines[kd] - x.line := wrap_i64 ⟨by omega, by omega⟩
  have hwkd : IntKind.i64.wrap (kd : Int) = (kd : Int) := wrap_i64 (by omega)
  obtain ⟨li, hli⟩ : ∃ li, li = low d.lines[kd] x.line := ⟨_, rfl⟩
  have hlib := low_bd hln x4.1
  rw [← hli] at hlib
  unfold low at hli
  have hgd : d.lines.getD kd 0 = d.lines[kd] := by rw [List.getD_eq_getElem?_getD, hkx]; rfl
  have hnc := need_cheap k1 (opn := o) (late := la) (kind := kd) (line := li) ⟨⟨hob.1, hob.2.1⟩, hob.2.2⟩ ⟨⟨hlb.1, hlb.2.1⟩, hlb.2.2⟩ ⟨⟨hlib.1, hlib.2.1⟩, by rw [hgd]; exact hlib.2.2⟩
  have g20 := c20 (d.cheap o la kd li) (fits_cheap hd _ _ _ _)
  rw [need_yes (some_of_free (check_cheap k1 ⟨hob.1, hob.2.1⟩ ⟨hlb.1, hlb.2.1⟩ ⟨hlib.1, hlib.2.1⟩ kd) rfl), eF_cheap] at g20
  simp only [vQ] at g20
  generalize needV (d.cheap o la kd li) = nc at *
  generalize needV d.free = nf at *
  generalize d.lines[kd] = lk at *
  simp only [go_sem, ↓reduceIte, Nat.reduceBEq, Nat.reduceEqDiff, Nat.reduceLT, Nat.reduceLeDiff, Nat.reduceAdd, Nat.reduceMul, Nat.reduceSub, reduceCtorEq, Int.reduceLT, Int.reduceLE, Int.reduceEq, Int.reduceBEq, Int.reduceBNe, Int.reduceToNat, Int.reduceAdd, Int.reduceNeg, Int.reduceSub, eEa, h21, hwp, ht1, hwm, hw1, ← hpe, h20, h29, r20, r29, hwa, hwb, ← hneed, hlen, ne_same, f20]
  generalize hcf : okFam _ _ _ = cf
  obtain rfl : cf = true := by rw [← hcf]; kernel_rfl
  simp only [go_sem, ↓reduceIte, Nat.reduceBEq, Nat.reduceEqDiff, Nat.reduceLT, Nat.reduceLeDiff, Nat.reduceAdd, Nat.reduceMul, Nat.reduceSub, reduceCtorEq, Int.reduceLT, Int.reduceLE, Int.reduceEq, Int.reduceBEq, Int.reduceBNe, Int.reduceToNat, Int.reduceAdd, Int.reduceNeg, Int.reduceSub, eEa, hwo, hwl, hwo2, hwl2, ← hoe, ← hla, hb1, hm0, hl0, hlz, hzl, I_cells, htk, hwk]
  generalize hcf : drawT _ _ _ = cf
  obtain rfl : cf = true := by rw [← hcf]; kernel_rfl
  generalize hN : List.replicate _ ABlk.none = N
  generalize hM : List.replicate _ false = M
  have hk1 : kd + 1 ≤ d.lines.length := by omega
  have hrw := rowsI0 (l := d.lines.set kd li) (n := d.lines.length) (by rw [List.length_set])
  have hnl : ¬ (N.length + 1 + 1 + 1 + 1 = 3) := by omega
  simp only [go_sem, ↓reduceIte, Nat.reduceBEq, Nat.reduceEqDiff, Nat.reduceLT, Nat.reduceLeDiff, Nat.reduceAdd, Nat.reduceMul, Nat.reduceSub, reduceCtorEq, Int.reduceLT, Int.reduceLE, Int.reduceEq, Int.reduceBEq, Int.reduceBNe, Int.reduceToNat, Int.reduceAdd, Int.reduceNeg, Int.reduceSub, eEa, hkl, hkx, hzl, hwi, hwi2, ← hli, Nat.mul_one, hk1, I_set, hrw, iceSt, hnl]
  generalize List.replicate _ ABlk.none = N2
  generalize List.replicate _ false = M2
  refine ⟨?_, ?_⟩
  rotate_left
  · simp only [go_sem, ↓reduceIte, Nat.reduceBEq, Nat.reduceEqDiff, Nat.reduceLT, Nat.reduceLeDiff, Nat.reduceAdd, Nat.reduceMul, Nat.reduceSub, reduceCtorEq, Int.reduceLT, Int.reduceLE, Int.reduceEq, Int.reduceBEq, Int.reduceBNe, Int.reduceToNat, Int.reduceAdd, Int.reduceNeg, Int.reduceSub, eEa, g20, hnc, h14]
    rfl
end Go.Proofs.Ythkpjbgadkkeeaa
