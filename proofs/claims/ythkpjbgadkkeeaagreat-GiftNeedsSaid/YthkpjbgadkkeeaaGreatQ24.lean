/- Parts of the proof, joined: Z-numbers. The body of GiftNeeds. Z-numbers. GiftNeeds: the statement, whole. Conditions: those of each law. -/
import Derived.Test.YthkpjbgadkkeeaaGreatQ23
import Derived.Test.YthkpjbgadkkeeaaGreatRows
import Derived.ProofKit
import Derived.OpenShut
set_option linter.unusedSimpArgs false
set_option linter.unusedVariables false
section
namespace Go.Proofs.YthkpjbgadkkeeaaGreat
open Go.Proofs

theorem z4 (d : Fu) (hd : d.fits) : ∃ h', (EW tabX).call 4 [eF d] noHeap = some (.bool true, h') := by
  have h16 := c22 d hd
  have h17 := cEnds d hd
  have h18 := c20 d hd
  have h19 := cNeed d hd
  have h15 := c14
  have hcl := eF_clean d
  rw [noHeap, w_call _ fn_4 rfl]
  simp only [eF_eq, vQ] at h16 h17 h18 h19 hcl ⊢
  generalize endsP d = p at *
  generalize needP d = q at *
  obtain ⟨a, b⟩ := p
  obtain ⟨m, n⟩ := q
  refine ⟨?_, ?_⟩
  rotate_left
  · simp only [go_sem, ↓reduceIte, Nat.reduceBEq, Nat.reduceEqDiff, Nat.reduceLT, Nat.reduceLeDiff, Nat.reduceAdd, Nat.reduceMul, Nat.reduceSub, reduceCtorEq, Int.reduceLT, Int.reduceLE, Int.reduceEq, Int.reduceBEq, Int.reduceBNe, Int.reduceToNat, Int.reduceAdd, Int.reduceNeg, Int.reduceSub, h16, h17, h18, h19, h15, ne_same]
    rfl
end Go.Proofs.YthkpjbgadkkeeaaGreat
end
section
namespace Go.Proofs.YthkpjbgadkkeeaaGreat.giftNeeds
open Go.ChangeShapes Go.WideShapes Go.ChangeAt Go.RowKit Go.Proofs

theorem own : ownKnob Tryz.prog.godebug = none := by kernel_rfl
theorem laid : laidOutB Tryz.prog = true := by kernel_rfl
theorem row27 : Tryz.prog.readableRec 27 = true ∧ 27 < Tryz.prog.types.size := ⟨by kernel_rfl, of_decide_eq_true (by kernel_rfl)⟩
set_option maxRecDepth 100000 in
theorem lifted (os : Os) (started : os.Started) (H : Type) (enc : TypeId × Value → H) :
    ReturnsInHanded {} Tryz.checked os 4 .any (Rows.giftNeedsSpec.pre6 enc Tryz.prog Tryz.f4 Rows.giftNeedsRow.domain false) (Rows.giftNeedsSpec.post enc Tryz.prog Tryz.f4 false true false false) := by
  refine returnsInHanded_of_change_sized (C := Tryz.checked) own started (by kernel_rfl) Tryz.func4
    (ChangeSpec.witness6 (enc := enc) (C := Tryz.checked) false ⟨#[], #[.agg #[.int .i64 0, .int .i64 0, .int .i64 0, .int .i64 0, .int .i64 0, .slice none 0 0, .slice none 0 0, .slice none 0 0, .slice none 0 0]], []⟩ 8 (by kernel_rfl) (by kernel_rfl) (by kernel_rfl) (by kernel_rfl)) ?_
  intro W base args ds gs before hval0 hW hcnd hsz _
  have hval : ∀ (j : Nat) t v, Tryz.f4.params[j]? = some t → args[j]? = some v → Value.okWide Tryz.prog W .any base t v := hval0
  have hW' := hW
  obtain ⟨p, q, hA0, hV, rfl, hfz, hnd⟩ := hW
  have hA : DataW.TrodAll enc Tryz.prog W 0 (fun _ => true) true Tryz.f4.params.toList args.toList ds p := hA0
  rw [Tryz.params4] at hA hval
  obtain ⟨v0, vs0, d0, ds0, p0, q0, hargs, rfl, rfl, h0, r0⟩ := trodAll_cons hA
  obtain ⟨rfl, rfl, rfl⟩ := trodAll_nil r0
  obtain rfl : args = #[v0] := by cases args; simp_all
  obtain ⟨rfl, rfl⟩ := trodVars_none hV
  have lt0 : ∀ x ∈ p0, x.block < W.heap.size := by obtain ⟨m, hm⟩ := h0; exact DataW.trod_lt m _ _ _ hm
  obtain ⟨y0, g0, rv0⟩ := rd_fu (hval 0 27 v0 rfl rfl) h0 (light_each (ts := [27]) hsz (j := 0) rfl rfl)
  clear hA0 hval0
  simp only [List.append_nil] at hW'
  have hwalk : Calls Tryz.prog 4 #[v0] W fun e w' => e = .returned (.bool true) ∧ Below W.heap.size W w' := by
    obtain ⟨h', hc⟩ := z4 y0 g0
    refine ew_bool fitsX (args := [eF y0]) (vs := [v0]) hc ⟨rfl, fun i x hx => ?_⟩
    match i, hx with
    | 0, hx => obtain rfl : eF y0 = x := Option.some.inj hx; exact rv0
  refine hwalk.mono fun e W' ⟨he, bel⟩ => ?_
  subst he
  exact ⟨_, rfl, _, _, _, [], _, [], hW', trodAll_mk1 (shut_bool Tryz.underlying4 _), (trodAll_cons_mk (Below.trod laid row27.1 row27.2 h0 bel lt0) trodAll_mk0), rfl, bel.frame _, fun h => by cases h⟩

theorem over : Rows.giftNeedsRow.holds Tryz.pinned (OpenSpec.ofChange Rows.giftNeedsSpec) :=
  OpenClaim.holds_of_wide 4 Tryz.f4 rfl rfl rfl rfl rfl rfl rfl ⟨rfl, rfl, rfl, rfl, rfl⟩ rfl rfl rfl rfl rfl (by kernel_rfl) Tryz.func4 (by kernel_rfl)
    (of_decide_eq_true (by kernel_rfl)) (by unfold Func.isWrapper; first | (rw [if_pos (by decide +kernel)]; kernel_rfl) | (rw [if_neg (by decide +kernel)]; exact ⟨rfl, rfl⟩))
    (fun os started H enc _ => lifted os started H enc)

theorem proved : Rows.GiftNeedsSaid := over
#print axioms proved
end Go.Proofs.YthkpjbgadkkeeaaGreat.giftNeeds
end
