/- Parts of the proof, joined: Z-numbers. The body of GiftRefuses. Z-numbers. GiftRefuses: the statement, whole. Conditions: those of each law. -/
import Derived.Test.YthkpjbgadkkeeaaGreatQ20
import Derived.Test.YthkpjbgadkkeeaaGreatRows
import Derived.ProofKit
import Derived.OpenShut
set_option linter.unusedSimpArgs false
set_option linter.unusedVariables false
section
namespace Go.Proofs.YthkpjbgadkkeeaaGreat
open Go.Proofs

theorem bestL_len (n : Nat) (o : Option Nat) : (bestL n o).length ≤ n := by
  unfold bestL
  cases o with
  | none => simp
  | some t => exact bitsL_le t n
theorem refuseP_len (d : Fu) (ho : d.Ok ∨ enterE d 0 ≠ 0) : (refuseP d).1.length < 1000000000000000000 := by
  unfold refuseP
  by_cases h0 : enterE d 0 = 0
  · rw [if_pos h0]
    have := bestL_len d.visits.length (bestW (fun w => decide (endsV d w 0 < 0)) d.visits.length (2 ^ d.visits.length))
    rcases ho with ho | ho
    · have := ho.visits
      show List.length _ < _
      simp only
      omega
    · exact absurd h0 ho
  · rw [if_neg h0]; show (0 : Nat) < _; decide
theorem wrongP_len (d : Fu) : (wrongP d).1.length < 1000000000000000000 := by
  unfold wrongP
  by_cases h0 : checkE d = 0
  · rw [if_pos h0]
    have := bestL_len d.entries.length (bestW (someB d) d.entries.length (2 ^ d.entries.length))
    have := (ok_of_check h0).entries
    show List.length _ < _
    simp only
    omega
  · rw [if_neg h0]; show (0 : Nat) < _; decide
theorem enter_ok {d : Fu} : d.Ok ∨ enterE d 0 ≠ 0 := by
  cases hs : someE d with
  | true => exact .inl (ok_of_check (someE_yes hs).1)
  | false => exact .inr (enter_no hs)
theorem z5 (d : Fu) (hd : d.fits) : ∃ h', (EW tabX).call 5 [eF d] noHeap = some (.bool true, h') := by
  have p1 := c29 d hd
  have r1 := cRefuse d hd
  have p2 := c18 d hd
  have r2 := cWrong d hd
  have i1 := vI_same _ (refuseP_len d enter_ok)
  have i2 := vI_same _ (wrongP_len d)
  have h14 := c14
  have hcl := eF_clean d
  rw [noHeap, w_call _ fn_5 rfl]
  simp only [eF_eq, vP, vI] at p1 r1 p2 r2 i1 i2 hcl ⊢
  generalize refuseP d = p at *
  generalize wrongP d = q at *
  obtain ⟨l, e⟩ := p
  obtain ⟨m, g⟩ := q
  refine ⟨?_, ?_⟩
  rotate_left
  · simp only [go_sem, ↓reduceIte, Nat.reduceBEq, Nat.reduceEqDiff, Nat.reduceLT, Nat.reduceLeDiff, Nat.reduceAdd, Nat.reduceMul, Nat.reduceSub, reduceCtorEq, Int.reduceLT, Int.reduceLE, Int.reduceEq, Int.reduceBEq, Int.reduceBNe, Int.reduceToNat, Int.reduceAdd, Int.reduceNeg, Int.reduceSub, p1, r1, p2, r2, i1, i2, h14, ne_same]
    rfl
end Go.Proofs.YthkpjbgadkkeeaaGreat
end
section
namespace Go.Proofs.YthkpjbgadkkeeaaGreat.giftRefuses
open Go.ChangeShapes Go.WideShapes Go.ChangeAt Go.RowKit Go.Proofs

theorem own : ownKnob Tryz.prog.godebug = none := by kernel_rfl
theorem laid : laidOutB Tryz.prog = true := by kernel_rfl
theorem row27 : Tryz.prog.readableRec 27 = true ∧ 27 < Tryz.prog.types.size := ⟨by kernel_rfl, of_decide_eq_true (by kernel_rfl)⟩
set_option maxRecDepth 100000 in
theorem lifted (os : Os) (started : os.Started) (H : Type) (enc : TypeId × Value → H) :
    ReturnsInHanded {} Tryz.checked os 5 .any (Rows.giftRefusesSpec.pre6 enc Tryz.prog Tryz.f5 Rows.giftRefusesRow.domain false) (Rows.giftRefusesSpec.post enc Tryz.prog Tryz.f5 false true false false) := by
  refine returnsInHanded_of_change_sized (C := Tryz.checked) own started (by kernel_rfl) Tryz.func5
    (ChangeSpec.witness6 (enc := enc) (C := Tryz.checked) false ⟨#[], #[.agg #[.int .i64 0, .int .i64 0, .int .i64 0, .int .i64 0, .int .i64 0, .slice none 0 0, .slice none 0 0, .slice none 0 0, .slice none 0 0]], []⟩ 8 (by kernel_rfl) (by kernel_rfl) (by kernel_rfl) (by kernel_rfl)) ?_
  intro W base args ds gs before hval0 hW hcnd hsz _
  have hval : ∀ (j : Nat) t v, Tryz.f5.params[j]? = some t → args[j]? = some v → Value.okWide Tryz.prog W .any base t v := hval0
  have hW' := hW
  obtain ⟨p, q, hA0, hV, rfl, hfz, hnd⟩ := hW
  have hA : DataW.TrodAll enc Tryz.prog W 0 (fun _ => true) true Tryz.f5.params.toList args.toList ds p := hA0
  rw [Tryz.params5] at hA hval
  obtain ⟨v0, vs0, d0, ds0, p0, q0, hargs, rfl, rfl, h0, r0⟩ := trodAll_cons hA
  obtain ⟨rfl, rfl, rfl⟩ := trodAll_nil r0
  obtain rfl : args = #[v0] := by cases args; simp_all
  obtain ⟨rfl, rfl⟩ := trodVars_none hV
  have lt0 : ∀ x ∈ p0, x.block < W.heap.size := by obtain ⟨m, hm⟩ := h0; exact DataW.trod_lt m _ _ _ hm
  obtain ⟨y0, g0, rv0⟩ := rd_fu (hval 0 27 v0 rfl rfl) h0 (light_each (ts := [27]) hsz (j := 0) rfl rfl)
  clear hA0 hval0
  simp only [List.append_nil] at hW'
  have hwalk : Calls Tryz.prog 5 #[v0] W fun e w' => e = .returned (.bool true) ∧ Below W.heap.size W w' := by
    obtain ⟨h', hc⟩ := z5 y0 g0
    refine ew_bool fitsX (args := [eF y0]) (vs := [v0]) hc ⟨rfl, fun i x hx => ?_⟩
    match i, hx with
    | 0, hx => obtain rfl : eF y0 = x := Option.some.inj hx; exact rv0
  refine hwalk.mono fun e W' ⟨he, bel⟩ => ?_
  subst he
  exact ⟨_, rfl, _, _, _, [], _, [], hW', trodAll_mk1 (shut_bool Tryz.underlying4 _), (trodAll_cons_mk (Below.trod laid row27.1 row27.2 h0 bel lt0) trodAll_mk0), rfl, bel.frame _, fun h => by cases h⟩

theorem over : Rows.giftRefusesRow.holds Tryz.pinned (OpenSpec.ofChange Rows.giftRefusesSpec) :=
  OpenClaim.holds_of_wide 5 Tryz.f5 rfl rfl rfl rfl rfl rfl rfl ⟨rfl, rfl, rfl, rfl, rfl⟩ rfl rfl rfl rfl rfl (by kernel_rfl) Tryz.func5 (by kernel_rfl)
    (of_decide_eq_true (by kernel_rfl)) (by unfold Func.isWrapper; first | (rw [if_pos (by decide +kernel)]; kernel_rfl) | (rw [if_neg (by decide +kernel)]; exact ⟨rfl, rfl⟩))
    (fun os started H enc _ => lifted os started H enc)

theorem proved : Rows.GiftRefusesSaid := over
#print axioms proved
end Go.Proofs.YthkpjbgadkkeeaaGreat.giftRefuses
end
