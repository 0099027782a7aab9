/- Parts of the proof, joined: Z-numbers. The body of GiftLefts. Z-numbers. GiftLefts: the statement, whole. Conditions: those of each law. -/
import Derived.Test.YthkpjbgadkkeeaaGreatQ25
import Derived.Test.YthkpjbgadkkeeaaGreatRows
import Derived.ProofKit
import Derived.OpenShut
set_option linter.unusedSimpArgs false
set_option linter.unusedVariables false
section
namespace Go.Proofs.YthkpjbgadkkeeaaGreat
open Go.Proofs

theorem z3 (d : Fu) (hd : d.fits) (day : Int) (_ : -9223372036854775808 ≤ day ∧ day ≤ 9223372036854775807) (n : Int) (_ : -9223372036854775808 ≤ n ∧ n ≤ 9223372036854775807) : ∃ h', (EW tabX).call 3 [eF d, .int .i64 day, .int .i64 n] noHeap = some (.bool true, h') := by
  have h11 := c16 d hd day
  have h12 := cLeft d hd day
  have h13 := c17 d hd n
  have h14 := cPays d hd n
  have h15 := c14
  have hcl := eF_clean d
  rw [noHeap, w_call _ fn_3 rfl]
  simp only [eF_eq, vQ, vT, eSp] at h11 h12 h13 h14 hcl ⊢
  generalize leftP d day = p at *
  generalize paysP d n = q at *
  obtain ⟨⟨a, a2⟩, b⟩ := p
  obtain ⟨m, o⟩ := q
  refine ⟨?_, ?_⟩
  rotate_left
  · simp only [go_sem, ↓reduceIte, Nat.reduceBEq, Nat.reduceEqDiff, Nat.reduceLT, Nat.reduceLeDiff, Nat.reduceAdd, Nat.reduceMul, Nat.reduceSub, reduceCtorEq, Int.reduceLT, Int.reduceLE, Int.reduceEq, Int.reduceBEq, Int.reduceBNe, Int.reduceToNat, Int.reduceAdd, Int.reduceNeg, Int.reduceSub, h11, h12, h13, h14, h15, ne_same, aggBin, decide_true]
    rfl
end Go.Proofs.YthkpjbgadkkeeaaGreat
end
section
namespace Go.Proofs.YthkpjbgadkkeeaaGreat.giftLefts
open Go.ChangeShapes Go.WideShapes Go.ChangeAt Go.RowKit Go.Proofs

theorem own : ownKnob Tryz.prog.godebug = none := by kernel_rfl
theorem laid : laidOutB Tryz.prog = true := by kernel_rfl
theorem row3 : Tryz.prog.readableRec 3 = true ∧ 3 < Tryz.prog.types.size := ⟨by kernel_rfl, of_decide_eq_true (by kernel_rfl)⟩
theorem row27 : Tryz.prog.readableRec 27 = true ∧ 27 < Tryz.prog.types.size := ⟨by kernel_rfl, of_decide_eq_true (by kernel_rfl)⟩
set_option maxRecDepth 100000 in
theorem lifted (os : Os) (started : os.Started) (H : Type) (enc : TypeId × Value → H) :
    ReturnsInHanded {} Tryz.checked os 3 .any (Rows.giftLeftsSpec.pre6 enc Tryz.prog Tryz.f3 Rows.giftLeftsRow.domain false) (Rows.giftLeftsSpec.post enc Tryz.prog Tryz.f3 false true false false) := by
  refine returnsInHanded_of_change_sized (C := Tryz.checked) own started (by kernel_rfl) Tryz.func3
    (ChangeSpec.witness6 (enc := enc) (C := Tryz.checked) false ⟨#[], #[.agg #[.int .i64 0, .int .i64 0, .int .i64 0, .int .i64 0, .int .i64 0, .slice none 0 0, .slice none 0 0, .slice none 0 0, .slice none 0 0], .int .i64 0, .int .i64 0], []⟩ 8 (by kernel_rfl) (by kernel_rfl) (by kernel_rfl) (by kernel_rfl)) ?_
  intro W base args ds gs before hval0 hW hcnd hsz _
  have hval : ∀ (j : Nat) t v, Tryz.f3.params[j]? = some t → args[j]? = some v → Value.okWide Tryz.prog W .any base t v := hval0
  have hW' := hW
  obtain ⟨p, q, hA0, hV, rfl, hfz, hnd⟩ := hW
  have hA : DataW.TrodAll enc Tryz.prog W 0 (fun _ => true) true Tryz.f3.params.toList args.toList ds p := hA0
  rw [Tryz.params3] at hA hval
  obtain ⟨v0, vs0, d0, ds0, p0, q0, hargs, rfl, rfl, h0, r0⟩ := trodAll_cons hA
  obtain ⟨v1, vs1, d1, ds1, p1, q1, rfl, rfl, rfl, h1, r1⟩ := trodAll_cons r0
  obtain ⟨v2, vs2, d2, ds2, p2, q2, rfl, rfl, rfl, h2, r2⟩ := trodAll_cons r1
  obtain ⟨rfl, rfl, rfl⟩ := trodAll_nil r2
  obtain rfl : args = #[v0, v1, v2] := by cases args; simp_all
  obtain ⟨rfl, rfl⟩ := trodVars_none hV
  have lt0 : ∀ x ∈ p0, x.block < W.heap.size := by obtain ⟨m, hm⟩ := h0; exact DataW.trod_lt m _ _ _ hm
  obtain ⟨y0, g0, rv0⟩ := rd_fu (hval 0 27 v0 rfl rfl) h0 (light_each (ts := [27, 3, 3]) hsz (j := 0) rfl rfl)
  have lt1 : ∀ x ∈ p1, x.block < W.heap.size := by obtain ⟨m, hm⟩ := h1; exact DataW.trod_lt m _ _ _ hm
  obtain ⟨y1, g1, rv1⟩ := rd_int0 (hval 1 3 v1 rfl rfl) h1 (light_each (ts := [27, 3, 3]) hsz (j := 1) rfl rfl)
  have lt2 : ∀ x ∈ p2, x.block < W.heap.size := by obtain ⟨m, hm⟩ := h2; exact DataW.trod_lt m _ _ _ hm
  obtain ⟨y2, g2, rv2⟩ := rd_int0 (hval 2 3 v2 rfl rfl) h2 (light_each (ts := [27, 3, 3]) hsz (j := 2) rfl rfl)
  clear hA0 hval0
  simp only [List.append_nil] at hW'
  have hwalk : Calls Tryz.prog 3 #[v0, v1, v2] W fun e w' => e = .returned (.bool true) ∧ Below W.heap.size W w' := by
    obtain ⟨h', hc⟩ := z3 y0 g0 y1 g1 y2 g2
    refine ew_bool fitsX (args := [eF y0, .int .i64 y1, .int .i64 y2]) (vs := [v0, v1, v2]) hc ⟨rfl, fun i x hx => ?_⟩
    match i, hx with
    | 0, hx => obtain rfl : eF y0 = x := Option.some.inj hx; exact rv0
    | 1, hx => obtain rfl : AV.int .i64 y1 = x := Option.some.inj hx; exact rv1
    | 2, hx => obtain rfl : AV.int .i64 y2 = x := Option.some.inj hx; exact rv2
  refine hwalk.mono fun e W' ⟨he, bel⟩ => ?_
  subst he
  exact ⟨_, rfl, _, _, _, [], _, [], hW', trodAll_mk1 (shut_bool Tryz.underlying4 _), (trodAll_cons_mk (Below.trod laid row27.1 row27.2 h0 bel lt0) (trodAll_cons_mk (Below.trod laid row3.1 row3.2 h1 bel lt1) (trodAll_cons_mk (Below.trod laid row3.1 row3.2 h2 bel lt2) trodAll_mk0))), rfl, bel.frame _, fun h => by cases h⟩

theorem over : Rows.giftLeftsRow.holds Tryz.pinned (OpenSpec.ofChange Rows.giftLeftsSpec) :=
  OpenClaim.holds_of_wide 3 Tryz.f3 rfl rfl rfl rfl rfl rfl rfl ⟨rfl, rfl, rfl, rfl, rfl⟩ rfl rfl rfl rfl rfl (by kernel_rfl) Tryz.func3 (by kernel_rfl)
    (of_decide_eq_true (by kernel_rfl)) (by unfold Func.isWrapper; first | (rw [if_pos (by decide +kernel)]; kernel_rfl) | (rw [if_neg (by decide +kernel)]; exact ⟨rfl, rfl⟩))
    (fun os started H enc _ => lifted os started H enc)

theorem proved : Rows.GiftLeftsSaid := over
#print axioms proved
end Go.Proofs.YthkpjbgadkkeeaaGreat.giftLefts
end
