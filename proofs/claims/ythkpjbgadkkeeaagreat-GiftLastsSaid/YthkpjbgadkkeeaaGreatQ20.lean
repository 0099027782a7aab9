/- Parts of the proof, joined: Z-numbers. The body of GiftLasts. Z-numbers. GiftLasts: the statement, whole. Conditions: those of each law. -/
import Derived.Test.YthkpjbgadkkeeaaGreatQ19
import Derived.Test.YthkpjbgadkkeeaaGreatRows
import Derived.ProofKit
import Derived.OpenShut
set_option linter.unusedSimpArgs false
set_option linter.unusedVariables false
section
namespace Go.Proofs.YthkpjbgadkkeeaaGreat
open Go.Proofs

theorem ends_no {d : Fu} (h : someE d = false) : endsP d = (0, enterE d 0) := by unfold endsP; rw [if_neg (enter_no h)]
theorem mapT_get {α : Type} (f : Nat → α) {n i : Nat} (h : i < n) : ((List.range n).map f)[i]? = some (f i) := by
  rw [List.getElem?_map, List.getElem?_range h]; rfl
theorem comesT_get (d : Fu) (x : List Int) {n i : Nat} (h : i < n) : ((comesT d x n).map AV.bool)[i]? = some (.bool (comeT d x i)) := by
  unfold comesT; rw [List.getElem?_map, mapT_get _ h]; rfl
theorem paidsT_get (d : Fu) (x : List Int) {n i : Nat} (h : i < n) : ((paidsT d x n).map AV.bool)[i]? = some (.bool (paidT d x i)) := by
  unfold paidsT; rw [List.getElem?_map, mapT_get _ h]; rfl
theorem comesT_len (d : Fu) (x : List Int) (n : Nat) : (comesT d x n).length = n := by simp [comesT]
theorem paidsT_len (d : Fu) (x : List Int) (n : Nat) : (paidsT d x n).length = n := by simp [paidsT]
set_option maxHeartbeats 1000000 in
theorem z6 (d : Fu) (hd : d.fits) (x : List Int) (hx : x.length < 1000000000000000000 ∧ ∀ n ∈ x, 0 ≤ n ∧ n ≤ 255) : ∃ h', (EW tabX).call 6 [eF d, .lst 0 1 (x.map (AV.int .u8))] noHeap = some (.bool true, h') := by
  have h18 := c20 d hd
  have h16 := c22 d hd
  have h25 := c21 d hd
  have h15 := c14
  have hcl := eF_clean d
  have hxc : cleanL (x.map (AV.int .u8)) = some (x.map (AV.int .u8)) := cleanL_map (fun n => clean_int _ n) x
  have hT := cTruly d hd
  rw [noHeap, w_call _ fn_6 rfl]
  cases hs : someE d with
  | false =>
    have hne : (enterE d 0 != 0) = true := by simpa using enter_no hs
    rw [need_no hs] at h18
    rw [ends_no hs] at h16
    rw [hs] at h25
    simp only [eF_eq, vQ] at h18 h16 h25 hcl ⊢
    refine ⟨?_, ?_⟩
    rotate_left
    · simp only [go_sem, ↓reduceIte, Nat.reduceBEq, Nat.reduceEqDiff, Nat.reduceLT, Nat.reduceLeDiff, Nat.reduceAdd, Nat.reduceMul, Nat.reduceSub, reduceCtorEq, Int.reduceLT, Int.reduceLE, Int.reduceEq, Int.reduceBEq, Int.reduceBNe, Int.reduceToNat, Int.reduceAdd, Int.reduceNeg, Int.reduceSub, h18, h16, h25, h15, hne]
      rfl
  | true =>
  obtain ⟨k1, k2⟩ := someE_yes hs
  have ho := ok_of_check k1
  have hT := hT ho k2 x hx
  have hv5 := ho.visits
  have hdays := ho.days
  obtain ⟨n1, n2, n3, n4, n5⟩ := needV_bd hs
  have hn0 : ¬ needV d < 0 := by omega
  have y1 := fun n l => underL_map (e := AV.bool) (n := n) (fun x => by simp only [go_sem, ↓reduceIte, Nat.reduceBEq, Nat.reduceEqDiff, Nat.reduceLT, Nat.reduceLeDiff, Nat.reduceAdd, Nat.reduceMul, Nat.reduceSub, reduceCtorEq, Int.reduceLT, Int.reduceLE, Int.reduceEq, Int.reduceBEq, Int.reduceBNe, Int.reduceToNat, Int.reduceAdd, Int.reduceNeg, Int.reduceSub]) l
  have y2 := cleanL_map (e := AV.bool) (fun x => clean_bool x)
  rw [need_yes hs] at h18
  rw [ends_yes hs] at h16
  rw [hs] at h25
  have c1 := comesT_len d x d.visits.length
  have c2 := paidsT_len d x d.visits.length
  simp only [eF_eq, vQ, eCo, vBs, vI, c1, c2] at h18 h16 h25 hcl hT ⊢
  by_cases hz : needV d = 0
  · have hm := n3.1 hz
    obtain ⟨e1, e2⟩ := lasts ho k2 x hm
    rw [if_pos hm] at h16
    have hE := e1 d.visits.length (Nat.le_refl _)
    rw [hz] at h18
    simp only [hE] at hT
    simp only [go_sem, ↓reduceIte, Nat.reduceBEq, Nat.reduceEqDiff, Nat.reduceLT, Nat.reduceLeDiff, Nat.reduceAdd, Nat.reduceMul, Nat.reduceSub, reduceCtorEq, Int.reduceLT, Int.reduceLE, Int.reduceEq, Int.reduceBEq, Int.reduceBNe, Int.reduceToNat, Int.reduceAdd, Int.reduceNeg, Int.reduceSub, h18, h16, h25, h15, hT, hxc, y1, y2]
    rw [w_rounds_u (fun k => [(10, .int .i64 (k : Int))]) d.visits.length (.exit 0) [(10, .int .i64 (d.visits.length : Int))] ?_ ?_ ?_ rfl]
    rotate_left
    · simp only [go_sem, ↓reduceIte, Nat.reduceBEq, Nat.reduceEqDiff, Nat.reduceLT, Nat.reduceLeDiff, Nat.reduceAdd, Nat.reduceMul, Nat.reduceSub, reduceCtorEq, Int.reduceLT, Int.reduceLE, Int.reduceEq, Int.reduceBEq, Int.reduceBNe, Int.reduceToNat, Int.reduceAdd, Int.reduceNeg, Int.reduceSub]
    · intro k hk
      have hki : (k : Int) < d.visits.length := by omega
      have hw : IntKind.i64.wrap ((k : Int) + 1) = (k : Int) + 1 := wrap_i64 (by omega)
      have g1 := comesT_get d x hk
      have g2 := paidsT_get d x hk
      rw [e2 k hk] at g2
      have hz1 : zT 1 d.visits.length = 1 := zT_pos (by omega)
      have hself : (comeT d x k != comeT d x k) = false := by simp
      simp only [go_sem, ↓reduceIte, Nat.reduceBEq, Nat.reduceEqDiff, Nat.reduceLT, Nat.reduceLeDiff, Nat.reduceAdd, Nat.reduceMul, Nat.reduceSub, reduceCtorEq, Int.reduceLT, Int.reduceLE, Int.reduceEq, Int.reduceBEq, Int.reduceBNe, Int.reduceToNat, Int.reduceAdd, Int.reduceNeg, Int.reduceSub, hki, c1, c2, g1, g2, hz1, hself, hw]
      skip
    · simp only [go_sem, ↓reduceIte, Nat.reduceBEq, Nat.reduceEqDiff, Nat.reduceLT, Nat.reduceLeDiff, Nat.reduceAdd, Nat.reduceMul, Nat.reduceSub, reduceCtorEq, Int.reduceLT, Int.reduceLE, Int.reduceEq, Int.reduceBEq, Int.reduceBNe, Int.reduceToNat, Int.reduceAdd, Int.reduceNeg, Int.reduceSub, c1, Int.lt_irrefl]
      skip
    refine ⟨?_, ?_⟩
    rotate_left
    · simp only [go_sem, ↓reduceIte, Nat.reduceBEq, Nat.reduceEqDiff, Nat.reduceLT, Nat.reduceLeDiff, Nat.reduceAdd, Nat.reduceMul, Nat.reduceSub, reduceCtorEq, Int.reduceLT, Int.reduceLE, Int.reduceEq, Int.reduceBEq, Int.reduceBNe, Int.reduceToNat, Int.reduceAdd, Int.reduceNeg, Int.reduceSub, h15]
      rfl
  · have hm : ¬ mostTo d d.visits.length ≤ d.pence := fun h => hz (n3.2 h)
    rw [if_neg hm] at h16
    obtain ⟨d1, d2⟩ := ends_day ho k2 hm
    have hin := c47 (endsV d 0 0) 0 (d.days - 1)
    have hinr : inR (endsV d 0 0) 0 (d.days - 1) = true := by unfold inR; simp; omega
    rw [hinr] at hin
    have hwd : IntKind.i64.wrap (d.days - 1) = d.days - 1 := wrap_i64 (by omega)
    have hzb : (needV d == 0) = false := by simpa using hz
    simp only [go_sem, ↓reduceIte, Nat.reduceBEq, Nat.reduceEqDiff, Nat.reduceLT, Nat.reduceLeDiff, Nat.reduceAdd, Nat.reduceMul, Nat.reduceSub, reduceCtorEq, Int.reduceLT, Int.reduceLE, Int.reduceEq, Int.reduceBEq, Int.reduceBNe, Int.reduceToNat, Int.reduceAdd, Int.reduceNeg, Int.reduceSub, h18, h16, h25, h15, hxc, hn0, hzb, hin, hwd]
    rcases endT d x d.visits.length with hE | ⟨i, i1, i2, i3⟩
    · simp only [hE] at hT
      refine ⟨?_, ?_⟩
      rotate_left
      · simp only [go_sem, ↓reduceIte, Nat.reduceBEq, Nat.reduceEqDiff, Nat.reduceLT, Nat.reduceLeDiff, Nat.reduceAdd, Nat.reduceMul, Nat.reduceSub, reduceCtorEq, Int.reduceLT, Int.reduceLE, Int.reduceEq, Int.reduceBEq, Int.reduceBNe, Int.reduceToNat, Int.reduceAdd, Int.reduceNeg, Int.reduceSub, h18, h16, h25, h15, hT, hxc, y1, y2, hn0, hzb, hin, hwd]
        rfl
    · obtain ⟨_, f2⟩ := ends_first ho k2 x (Nat.le_refl _) i2
      have hv := List.getElem?_eq_getElem i1
      have hzv := hd.zv (by intro e; rw [e] at i1; simp at i1)
      have hday : dayAt d i = d.visits[i].day := by unfold dayAt; rw [hv]
      rw [hday] at f2
      have hii : (i : Int) < d.visits.length := by omega
      have hi0 : ¬ (i : Int) < 0 := by omega
      simp only [i2, hzv] at hT
      refine ⟨?_, ?_⟩
      rotate_left
      · simp only [go_sem, ↓reduceIte, Nat.reduceBEq, Nat.reduceEqDiff, Nat.reduceLT, Nat.reduceLeDiff, Nat.reduceAdd, Nat.reduceMul, Nat.reduceSub, reduceCtorEq, Int.reduceLT, Int.reduceLE, Int.reduceEq, Int.reduceBEq, Int.reduceBNe, Int.reduceToNat, Int.reduceAdd, Int.reduceNeg, Int.reduceSub, h18, h16, h25, h15, hT, hxc, y1, y2, hn0, hzb, hin, hwd, hii, hi0, hv, eVi, hzv, f2]
        rfl
end Go.Proofs.YthkpjbgadkkeeaaGreat
end
section
namespace Go.Proofs.YthkpjbgadkkeeaaGreat.giftLasts
open Go.ChangeShapes Go.WideShapes Go.ChangeAt Go.RowKit Go.Proofs

theorem own : ownKnob Tryz.prog.godebug = none := by kernel_rfl
theorem laid : laidOutB Tryz.prog = true := by kernel_rfl
theorem row27 : Tryz.prog.readableRec 27 = true ∧ 27 < Tryz.prog.types.size := ⟨by kernel_rfl, of_decide_eq_true (by kernel_rfl)⟩
theorem row42 : Tryz.prog.readableRec 42 = true ∧ 42 < Tryz.prog.types.size := ⟨by kernel_rfl, of_decide_eq_true (by kernel_rfl)⟩
set_option maxRecDepth 100000 in
theorem lifted (os : Os) (started : os.Started) (H : Type) (enc : TypeId × Value → H) :
    ReturnsInHanded {} Tryz.checked os 6 .any (Rows.giftLastsSpec.pre6 enc Tryz.prog Tryz.f6 Rows.giftLastsRow.domain false) (Rows.giftLastsSpec.post enc Tryz.prog Tryz.f6 false true false false) := by
  refine returnsInHanded_of_change_sized (C := Tryz.checked) own started (by kernel_rfl) Tryz.func6
    (ChangeSpec.witness6 (enc := enc) (C := Tryz.checked) false ⟨#[], #[.agg #[.int .i64 0, .int .i64 0, .int .i64 0, .int .i64 0, .int .i64 0, .slice none 0 0, .slice none 0 0, .slice none 0 0, .slice none 0 0], .slice none 0 0], []⟩ 8 (by kernel_rfl) (by kernel_rfl) (by kernel_rfl) (by kernel_rfl)) ?_
  intro W base args ds gs before hval0 hW hcnd hsz _
  have hval : ∀ (j : Nat) t v, Tryz.f6.params[j]? = some t → args[j]? = some v → Value.okWide Tryz.prog W .any base t v := hval0
  have hW' := hW
  obtain ⟨p, q, hA0, hV, rfl, hfz, hnd⟩ := hW
  have hA : DataW.TrodAll enc Tryz.prog W 0 (fun _ => true) true Tryz.f6.params.toList args.toList ds p := hA0
  rw [Tryz.params6] at hA hval
  obtain ⟨v0, vs0, d0, ds0, p0, q0, hargs, rfl, rfl, h0, r0⟩ := trodAll_cons hA
  obtain ⟨v1, vs1, d1, ds1, p1, q1, rfl, rfl, rfl, h1, r1⟩ := trodAll_cons r0
  obtain ⟨rfl, rfl, rfl⟩ := trodAll_nil r1
  obtain rfl : args = #[v0, v1] := by cases args; simp_all
  obtain ⟨rfl, rfl⟩ := trodVars_none hV
  have lt0 : ∀ x ∈ p0, x.block < W.heap.size := by obtain ⟨m, hm⟩ := h0; exact DataW.trod_lt m _ _ _ hm
  obtain ⟨y0, g0, rv0⟩ := rd_fu (hval 0 27 v0 rfl rfl) h0 (light_each (ts := [27, 42]) hsz (j := 0) rfl rfl)
  have lt1 : ∀ x ∈ p1, x.block < W.heap.size := by obtain ⟨m, hm⟩ := h1; exact DataW.trod_lt m _ _ _ hm
  obtain ⟨y1, g1, rv1⟩ := rd_u8s (hval 1 42 v1 rfl rfl) h1 (light_each (ts := [27, 42]) hsz (j := 1) rfl rfl)
  clear hA0 hval0
  simp only [List.append_nil] at hW'
  have hwalk : Calls Tryz.prog 6 #[v0, v1] W fun e w' => e = .returned (.bool true) ∧ Below W.heap.size W w' := by
    obtain ⟨h', hc⟩ := z6 y0 g0 y1 g1
    refine ew_bool fitsX (args := [eF y0, .lst 0 1 (y1.map (AV.int .u8))]) (vs := [v0, v1]) hc ⟨rfl, fun i x hx => ?_⟩
    match i, hx with
    | 0, hx => obtain rfl : eF y0 = x := Option.some.inj hx; exact rv0
    | 1, hx => obtain rfl : AV.lst 0 1 (y1.map (AV.int .u8)) = x := Option.some.inj hx; exact rv1
  refine hwalk.mono fun e W' ⟨he, bel⟩ => ?_
  subst he
  exact ⟨_, rfl, _, _, _, [], _, [], hW', trodAll_mk1 (shut_bool Tryz.underlying4 _), (trodAll_cons_mk (Below.trod laid row27.1 row27.2 h0 bel lt0) (trodAll_cons_mk (Below.trod laid row42.1 row42.2 h1 bel lt1) trodAll_mk0)), rfl, bel.frame _, fun h => by cases h⟩

theorem over : Rows.giftLastsRow.holds Tryz.pinned (OpenSpec.ofChange Rows.giftLastsSpec) :=
  OpenClaim.holds_of_wide 6 Tryz.f6 rfl rfl rfl rfl rfl rfl rfl ⟨rfl, rfl, rfl, rfl, rfl⟩ rfl rfl rfl rfl rfl (by kernel_rfl) Tryz.func6 (by kernel_rfl)
    (of_decide_eq_true (by kernel_rfl)) (by unfold Func.isWrapper; first | (rw [if_pos (by decide +kernel)]; kernel_rfl) | (rw [if_neg (by decide +kernel)]; exact ⟨rfl, rfl⟩))
    (fun os started H enc _ => lifted os started H enc)

theorem proved : Rows.GiftLastsSaid := over
#print axioms proved
end Go.Proofs.YthkpjbgadkkeeaaGreat.giftLasts
end
