/- Parts of the proof, joined: Z-numbers. The body of GiftRefuses. Z-numbers. The body of GiftRefused. Z-numbers. GiftRefused: the statement, whole. Conditions: those of each law. -/
import Derived.Test.YthkpjbgadkkeeaaGreatQ20
import Derived.Test.YthkpjbgadkkeeaaGreatRows
import Derived.ProofKit
import Derived.OpenShut
set_option linter.unusedSimpArgs false
set_option linter.unusedVariables false
section
namespace Go.Proofs.YthkpjbgadkkeeaaGreat
open Go.Proofs

theorem bestL_len (n : Nat) (o : Option Nat) : (bestL n o).length ≤ n := by
  unfold bestL
  cases o with
  | none => simp
  | some t => exact bitsL_le t n
theorem refuseP_len (d : Fu) (ho : d.Ok ∨ enterE d 0 ≠ 0) : (refuseP d).1.length < 1000000000000000000 := by
  unfold refuseP
  by_cases h0 : enterE d 0 = 0
  · rw [if_pos h0]
    have := bestL_len d.visits.length (bestW (fun w => decide (endsV d w 0 < 0)) d.visits.length (2 ^ d.visits.length))
    rcases ho with ho | ho
    · have := ho.visits
      show List.length _ < _
      simp only
      omega
    · exact absurd h0 ho
  · rw [if_neg h0]; show (0 : Nat) < _; decide
theorem wrongP_len (d : Fu) : (wrongP d).1.length < 1000000000000000000 := by
  unfold wrongP
  by_cases h0 : checkE d = 0
  · rw [if_pos h0]
    have := bestL_len d.entries.length (bestW (someB d) d.entries.length (2 ^ d.entries.length))
    have := (ok_of_check h0).entries
    show List.length _ < _
    simp only
    omega
  · rw [if_neg h0]; show (0 : Nat) < _; decide
theorem enter_ok {d : Fu} : d.Ok ∨ enterE d 0 ≠ 0 := by
  cases hs : someE d with
  | true => exact .inl (ok_of_check (someE_yes hs).1)
  | false => exact .inr (enter_no hs)
theorem z5 (d : Fu) (hd : d.fits) : ∃ h', (EW tabX).call 5 [eF d] noHeap = some (.bool true, h') := by
  have p1 := c29 d hd
  have r1 := cRefuse d hd
  have p2 := c18 d hd
  have r2 := cWrong d hd
  have i1 := vI_same _ (refuseP_len d enter_ok)
  have i2 := vI_same _ (wrongP_len d)
  have h14 := c14
  have hcl := eF_clean d
  rw [noHeap, w_call _ fn_5 rfl]
  simp only [eF_eq, vP, vI] at p1 r1 p2 r2 i1 i2 hcl ⊢
  generalize refuseP d = p at *
  generalize wrongP d = q at *
  obtain ⟨l, e⟩ := p
  obtain ⟨m, g⟩ := q
  refine ⟨?_, ?_⟩
  rotate_left
  · simp only [go_sem, ↓reduceIte, Nat.reduceBEq, Nat.reduceEqDiff, Nat.reduceLT, Nat.reduceLeDiff, Nat.reduceAdd, Nat.reduceMul, Nat.reduceSub, reduceCtorEq, Int.reduceLT, Int.reduceLE, Int.reduceEq, Int.reduceBEq, Int.reduceBNe, Int.reduceToNat, Int.reduceAdd, Int.reduceNeg, Int.reduceSub, p1, r1, p2, r2, i1, i2, h14, ne_same]
    rfl
end Go.Proofs.YthkpjbgadkkeeaaGreat
end
section
namespace Go.Proofs.YthkpjbgadkkeeaaGreat
open Go.Proofs

theorem refN_spec {d : Fu} (h : someE d = true) : ∃ t, refN d = bitsL t d.visits.length ∧ t < 2 ^ d.visits.length ∧ mostR d t d.visits.length ≤ d.pence ∧ ∀ s, mostR d s d.visits.length ≤ d.pence → fewB (bitsL s d.visits.length) (bitsL t d.visits.length) = false := by
  obtain ⟨k1, k2⟩ := someE_yes h
  exact refuse_spec (ok_of_check k1) k2
theorem bitsL_zero : ∀ n, bitsL 0 n = []
  | 0 => rfl
  | n + 1 => by rw [bitsL_succ, bitsL_zero n, Nat.zero_testBit]; rfl
theorem need_ref {d : Fu} (h : someE d = true) : (needV d == 0) = decide ((refN d).length = 0) := by
  obtain ⟨t, h1, h2, h3, h4⟩ := refN_spec h
  obtain ⟨_, _, n3, _, _⟩ := needV_bd h
  rw [h1, Bool.eq_iff_iff, beq_iff_eq, decide_eq_true_eq, n3]
  constructor
  · intro hm
    have := few_len (h4 0 (by rw [mostR_zero]; exact hm))
    rw [bitsL_zero] at this
    simpa using this
  · intro hl
    rw [← mostL_bits d t _ (Nat.le_refl _), List.length_eq_zero_iff.1 hl, mostL_nil] at h3
    exact h3
theorem z8 (d : Fu) (hd : d.fits) (bits : Int) (hb : 0 ≤ bits ∧ bits ≤ 255) : ∃ h', (EW tabX).call 8 [eF d, .int .u8 bits] noHeap = some (.bool true, h') := by
  have p1 := c29 d hd
  have h25 := c21 d hd
  have h18 := c20 d hd
  have h14 := c14
  have hcl := eF_clean d
  obtain ⟨b, rfl⟩ := Int.eq_ofNat_of_zero_le hb.1
  have hb2 : b < 256 := by omega
  have hwb : IntKind.i64.wrap (b : Int) = (b : Int) := wrap_i64 (by omega)
  rw [noHeap, w_call _ fn_8 rfl]
  cases hs : someE d with
  | false =>
    have q1 : refuseP d = ([], enterE d 0) := by unfold refuseP; rw [if_neg (enter_no hs)]
    have hne : (enterE d 0 != 0) = true := by simpa using enter_no hs
    rw [q1] at p1
    rw [hs] at h25
    simp only [eF_eq, vP, vI] at p1 h25 hcl ⊢
    refine ⟨?_, ?_⟩
    rotate_left
    · simp only [go_sem, ↓reduceIte, Nat.reduceBEq, Nat.reduceEqDiff, Nat.reduceLT, Nat.reduceLeDiff, Nat.reduceAdd, Nat.reduceMul, Nat.reduceSub, reduceCtorEq, Int.reduceLT, Int.reduceLE, Int.reduceEq, Int.reduceBEq, Int.reduceBNe, Int.reduceToNat, Int.reduceAdd, Int.reduceNeg, Int.reduceSub, p1, h25, h14, hne]
      rfl
  | true =>
  obtain ⟨k1, k2⟩ := someE_yes hs
  have ho := ok_of_check k1
  have hv5 := ho.visits
  obtain ⟨t, h1, h2, h3, h4⟩ := refN_spec hs
  have hnr := need_ref hs
  have hris := ris_bits (n := d.visits.length) (by omega) h2
  rw [refuse_yes hs] at p1
  rw [need_yes hs] at h18
  rw [hs] at h25
  rw [h1] at p1 hnr
  have hll : (bitsL t d.visits.length).length ≤ 5 := by have := bitsL_le t d.visits.length; omega
  have hol : (bitsL b d.visits.length).length ≤ 5 := by have := bitsL_le b d.visits.length; omega
  have hll2 : (bitsL t d.visits.length).length < 1000000000000000000 := by omega
  have hol2 : (bitsL b d.visits.length).length < 1000000000000000000 := by omega
  have m1 := cMost d hd ho k2 (bitsL t d.visits.length) (by omega)
  have m2 := cMost d hd ho k2 (bitsL b d.visits.length) (by omega)
  rw [mostL_bits d _ _ (Nat.le_refl _)] at m1 m2
  have z1 : ∀ m : List Int, m ≠ [] → zT 1 m.length = 1 := fun m h => zT_pos (List.length_pos_iff.2 h)
  have c31 := c25 (bitsL t d.visits.length) d.visits.length (zT 1 (bitsL t d.visits.length).length) (z1 _) hll2
  have c33 := c27 (bitsL b d.visits.length) (bitsL t d.visits.length) (zT 1 (bitsL b d.visits.length).length) (zT 1 (bitsL t d.visits.length).length) (z1 _) (z1 _) hol2 hll2
  rw [hris] at c31
  have hso := h4 b
  generalize hO : bitsL b d.visits.length = other at *
  generalize bitsL t d.visits.length = l at *
  generalize mostR d t d.visits.length = x1 at *
  generalize mostR d b d.visits.length = x2 at *
  generalize needV d = nd at *
  simp only [eF_eq, vP, vI, vQ] at p1 h25 h18 m1 m2 hcl ⊢
  have hnr2 : ((nd == 0) == ((l.length : Int) == 0)) = true := by
    rw [hnr, beq_iff_eq, Bool.eq_iff_iff, decide_eq_true_eq, beq_iff_eq]; omega
  simp only [go_sem, ↓reduceIte, Nat.reduceBEq, Nat.reduceEqDiff, Nat.reduceLT, Nat.reduceLeDiff, Nat.reduceAdd, Nat.reduceMul, Nat.reduceSub, reduceCtorEq, Int.reduceLT, Int.reduceLE, Int.reduceEq, Int.reduceBEq, Int.reduceBNe, Int.reduceToNat, Int.reduceAdd, Int.reduceNeg, Int.reduceSub, p1, h25]
  rw [w_rounds_h (fun k => [(7, ownT [] (bitsL b k)), (8, .int .i64 (k : Int))]) (fun k => ⟨[.cells (eFc d)], T [] (bitsL b k).length⟩) d.visits.length (.exit 0) [(7, ownT [] other), (8, .int .i64 (d.visits.length : Int))] ⟨[.cells (eFc d)], T [] other.length⟩ ?_ ?_ ?_ ?_ rfl]
  rotate_left
  · simp only [go_sem, ↓reduceIte, Nat.reduceBEq, Nat.reduceEqDiff, Nat.reduceLT, Nat.reduceLeDiff, Nat.reduceAdd, Nat.reduceMul, Nat.reduceSub, reduceCtorEq, Int.reduceLT, Int.reduceLE, Int.reduceEq, Int.reduceBEq, Int.reduceBNe, Int.reduceToNat, Int.reduceAdd, Int.reduceNeg, Int.reduceSub]; rfl
  · simp only [eFc]; rfl
  · intro k hk
    have hki : (k : Int) < d.visits.length := by omega
    have hx := List.getElem?_eq_getElem hk
    have h24 := c24 b k (by omega) (by omega)
    have hap := ownT_app [] (bitsL b k) k (by have := bitsL_le b k; omega)
    have hw : IntKind.i64.wrap ((k : Int) + 1) = (k : Int) + 1 := wrap_i64 (by omega)
    rw [bitsL_succ]
    cases hq : b.testBit k with
    | true =>
      rw [hq] at h24
      simp only [go_sem, ↓reduceIte, Nat.reduceBEq, Nat.reduceEqDiff, Nat.reduceLT, Nat.reduceLeDiff, Nat.reduceAdd, Nat.reduceMul, Nat.reduceSub, reduceCtorEq, Int.reduceLT, Int.reduceLE, Int.reduceEq, Int.reduceBEq, Int.reduceBNe, Int.reduceToNat, Int.reduceAdd, Int.reduceNeg, Int.reduceSub, eFc, hki, hwb, h24, hap, hw]
      skip
    | false =>
      rw [hq] at h24
      simp only [go_sem, ↓reduceIte, Nat.reduceBEq, Nat.reduceEqDiff, Nat.reduceLT, Nat.reduceLeDiff, Nat.reduceAdd, Nat.reduceMul, Nat.reduceSub, reduceCtorEq, Int.reduceLT, Int.reduceLE, Int.reduceEq, Int.reduceBEq, Int.reduceBNe, Int.reduceToNat, Int.reduceAdd, Int.reduceNeg, Int.reduceSub, eFc, hki, hwb, h24, hw]
      skip
  · simp only [go_sem, ↓reduceIte, Nat.reduceBEq, Nat.reduceEqDiff, Nat.reduceLT, Nat.reduceLeDiff, Nat.reduceAdd, Nat.reduceMul, Nat.reduceSub, reduceCtorEq, Int.reduceLT, Int.reduceLE, Int.reduceEq, Int.reduceBEq, Int.reduceBNe, Int.reduceToNat, Int.reduceAdd, Int.reduceNeg, Int.reduceSub, eFc, Int.lt_irrefl, hO]
    skip
  by_cases hsb : x2 ≤ d.pence
  · rw [hso hsb] at c33
    have hgt : ¬ d.pence < x2 := by omega
    refine ⟨?_, ?_⟩
    rotate_left
    · simp only [go_sem, ↓reduceIte, Nat.reduceBEq, Nat.reduceEqDiff, Nat.reduceLT, Nat.reduceLeDiff, Nat.reduceAdd, Nat.reduceMul, Nat.reduceSub, reduceCtorEq, Int.reduceLT, Int.reduceLE, Int.reduceEq, Int.reduceBEq, Int.reduceBNe, Int.reduceToNat, Int.reduceAdd, Int.reduceNeg, Int.reduceSub, eFc, h18, m1, m2, c31, c33, h14, ownT, h3, hgt, hnr2]
      rfl
  · have hgt : d.pence < x2 := by omega
    refine ⟨?_, ?_⟩
    rotate_left
    · simp only [go_sem, ↓reduceIte, Nat.reduceBEq, Nat.reduceEqDiff, Nat.reduceLT, Nat.reduceLeDiff, Nat.reduceAdd, Nat.reduceMul, Nat.reduceSub, reduceCtorEq, Int.reduceLT, Int.reduceLE, Int.reduceEq, Int.reduceBEq, Int.reduceBNe, Int.reduceToNat, Int.reduceAdd, Int.reduceNeg, Int.reduceSub, eFc, h18, m1, m2, c31, h14, ownT, h3, hgt, hnr2]
      rfl
end Go.Proofs.YthkpjbgadkkeeaaGreat
end
section
namespace Go.Proofs.YthkpjbgadkkeeaaGreat.giftRefused
open Go.ChangeShapes Go.WideShapes Go.ChangeAt Go.RowKit Go.Proofs

theorem own : ownKnob Tryz.prog.godebug = none := by kernel_rfl
theorem laid : laidOutB Tryz.prog = true := by kernel_rfl
theorem row5 : Tryz.prog.readableRec 5 = true ∧ 5 < Tryz.prog.types.size := ⟨by kernel_rfl, of_decide_eq_true (by kernel_rfl)⟩
theorem row27 : Tryz.prog.readableRec 27 = true ∧ 27 < Tryz.prog.types.size := ⟨by kernel_rfl, of_decide_eq_true (by kernel_rfl)⟩
set_option maxRecDepth 100000 in
theorem lifted (os : Os) (started : os.Started) (H : Type) (enc : TypeId × Value → H) :
    ReturnsInHanded {} Tryz.checked os 8 .any (Rows.giftRefusedSpec.pre6 enc Tryz.prog Tryz.f8 Rows.giftRefusedRow.domain false) (Rows.giftRefusedSpec.post enc Tryz.prog Tryz.f8 false true false false) := by
  refine returnsInHanded_of_change_sized (C := Tryz.checked) own started (by kernel_rfl) Tryz.func8
    (ChangeSpec.witness6 (enc := enc) (C := Tryz.checked) false ⟨#[], #[.agg #[.int .i64 0, .int .i64 0, .int .i64 0, .int .i64 0, .int .i64 0, .slice none 0 0, .slice none 0 0, .slice none 0 0, .slice none 0 0], .int .u8 0], []⟩ 8 (by kernel_rfl) (by kernel_rfl) (by kernel_rfl) (by kernel_rfl)) ?_
  intro W base args ds gs before hval0 hW hcnd hsz _
  have hval : ∀ (j : Nat) t v, Tryz.f8.params[j]? = some t → args[j]? = some v → Value.okWide Tryz.prog W .any base t v := hval0
  have hW' := hW
  obtain ⟨p, q, hA0, hV, rfl, hfz, hnd⟩ := hW
  have hA : DataW.TrodAll enc Tryz.prog W 0 (fun _ => true) true Tryz.f8.params.toList args.toList ds p := hA0
  rw [Tryz.params8] at hA hval
  obtain ⟨v0, vs0, d0, ds0, p0, q0, hargs, rfl, rfl, h0, r0⟩ := trodAll_cons hA
  obtain ⟨v1, vs1, d1, ds1, p1, q1, rfl, rfl, rfl, h1, r1⟩ := trodAll_cons r0
  obtain ⟨rfl, rfl, rfl⟩ := trodAll_nil r1
  obtain rfl : args = #[v0, v1] := by cases args; simp_all
  obtain ⟨rfl, rfl⟩ := trodVars_none hV
  have lt0 : ∀ x ∈ p0, x.block < W.heap.size := by obtain ⟨m, hm⟩ := h0; exact DataW.trod_lt m _ _ _ hm
  obtain ⟨y0, g0, rv0⟩ := rd_fu (hval 0 27 v0 rfl rfl) h0 (light_each (ts := [27, 5]) hsz (j := 0) rfl rfl)
  have lt1 : ∀ x ∈ p1, x.block < W.heap.size := by obtain ⟨m, hm⟩ := h1; exact DataW.trod_lt m _ _ _ hm
  obtain ⟨y1, g1, rv1⟩ := rd_u8 (hval 1 5 v1 rfl rfl) h1 (light_each (ts := [27, 5]) hsz (j := 1) rfl rfl)
  clear hA0 hval0
  simp only [List.append_nil] at hW'
  have hwalk : Calls Tryz.prog 8 #[v0, v1] W fun e w' => e = .returned (.bool true) ∧ Below W.heap.size W w' := by
    obtain ⟨h', hc⟩ := z8 y0 g0 y1 g1
    refine ew_bool fitsX (args := [eF y0, .int .u8 y1]) (vs := [v0, v1]) hc ⟨rfl, fun i x hx => ?_⟩
    match i, hx with
    | 0, hx => obtain rfl : eF y0 = x := Option.some.inj hx; exact rv0
    | 1, hx => obtain rfl : AV.int .u8 y1 = x := Option.some.inj hx; exact rv1
  refine hwalk.mono fun e W' ⟨he, bel⟩ => ?_
  subst he
  exact ⟨_, rfl, _, _, _, [], _, [], hW', trodAll_mk1 (shut_bool Tryz.underlying4 _), (trodAll_cons_mk (Below.trod laid row27.1 row27.2 h0 bel lt0) (trodAll_cons_mk (Below.trod laid row5.1 row5.2 h1 bel lt1) trodAll_mk0)), rfl, bel.frame _, fun h => by cases h⟩

theorem over : Rows.giftRefusedRow.holds Tryz.pinned (OpenSpec.ofChange Rows.giftRefusedSpec) :=
  OpenClaim.holds_of_wide 8 Tryz.f8 rfl rfl rfl rfl rfl rfl rfl ⟨rfl, rfl, rfl, rfl, rfl⟩ rfl rfl rfl rfl rfl (by kernel_rfl) Tryz.func8 (by kernel_rfl)
    (of_decide_eq_true (by kernel_rfl)) (by unfold Func.isWrapper; first | (rw [if_pos (by decide +kernel)]; kernel_rfl) | (rw [if_neg (by decide +kernel)]; exact ⟨rfl, rfl⟩))
    (fun os started H enc _ => lifted os started H enc)

theorem proved : Rows.GiftRefusedSaid := over
#print axioms proved
end Go.Proofs.YthkpjbgadkkeeaaGreat.giftRefused
end
