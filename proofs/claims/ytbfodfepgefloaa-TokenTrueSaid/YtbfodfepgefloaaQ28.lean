/- Torn: the contract. Conditions: those of each law. -/
import Derived.Test.YtbfodfepgefloaaQ27
set_option linter.unusedSimpArgs false
set_option linter.unusedVariables false
namespace Go.Proofs.Ytbfodfepgefloaa
open Go.Proofs

theorem tornE_zero (d : Dr) (x : List Int) (e : Nat) : tornE d x e 0 = [] := rfl
theorem cleanL_snoc : ∀ {l m : List AV} {a b : AV}, cleanL l = some m → a.clean = some b → cleanL (l ++ [a]) = some (m ++ [b])
  | [], m, a, b, h, h2 => by
    obtain rfl : [] = m := Option.some.inj h
    simp only [List.nil_append, go_sem, ↓reduceIte, Nat.reduceBEq, Nat.reduceEqDiff, Nat.reduceLT, Nat.reduceLeDiff, Nat.reduceAdd, Nat.reduceMul, Nat.reduceSub, reduceCtorEq, Int.reduceLT, Int.reduceLE, Int.reduceEq, Int.reduceBEq, Int.reduceBNe, Int.reduceToNat, Int.reduceAdd, Int.reduceNeg, Int.reduceSub, h2]
  | x :: l, m, a, b, h, h2 => by
    rw [List.cons_append]
    simp only [cleanL] at h ⊢
    cases hx : x.clean with
    | none => rw [hx] at h; cases h
    | some y =>
      cases hl : cleanL l with
      | none => rw [hx, hl] at h; cases h
      | some n =>
        rw [hx, hl] at h
        rw [cleanL_snoc hl h2]
        cases h; rfl
theorem app_at2 {X : Tab} {ty e : TypeId} {sz : Nat} {tag z : Nat} {t : List Bool} {xs : List AV} (hn : OwnQ sz tag z xs.length t) (p : Nat) (hp : p < t.length) (u z' : Nat) (ys : List AV) (ht : trow X ty = .slice e) (hs : tsz X e = sz) (h0 : 0 < sz) (hz' : z' = sz ∨ ys.length = 0)
    (hy : (xs.length + ys.length) * tbytes X e ≤ 1048576) (hy2 : xs.length + ys.length ≤ 1048576) (hf : zeroFits X e = true) (hv : ys.all AV.var = true) :
    ∃ t2, (∀ B, appendAV X ty p ⟨B, t⟩ (.lst tag z xs) (.lst u z' ys) = some (.lst (p + 2) sz (xs ++ ys), ⟨B, t2⟩)) ∧ t2[p]? = some true ∧ t2.length = t.length ∧ ∀ j, j ≠ p → tag ≠ j + 2 → t2[j]? = t[j]? := by
  have hc : (z' = tsz X e ∨ ys.length = 0) ∧ 0 < tsz X e ∧ (xs.length + ys.length) * tbytes X e ≤ appLimit ∧ xs.length + ys.length ≤ appLimit ∧ zeroFits X e = true ∧ ys.all AV.var = true := by
    rw [hs]; exact ⟨hz', h0, hy, hy2, hf, hv⟩
  unfold appendAV
  simp only [ht, if_pos hc]
  rcases hn with ⟨rfl, hn0⟩ | ⟨q, rfl, hq, hqt⟩
  · have hx : z = tsz X e ∨ xs.length = 0 := by rw [hs]; exact hn0.symm
    refine ⟨t.set p true, fun B => ?_, by simp [hp], by simp, fun j hj _ => by rw [List.getElem?_set_ne (Ne.symm hj)]⟩
    rw [if_pos hx]
    simp only [hs, lset, if_pos hp]
  · have hx : z = tsz X e := by rw [hs, hq]
    refine ⟨(t.set q false).set p true, fun B => ?_, by simp [hp], by simp, fun j hj h2 => by rw [List.getElem?_set_ne (Ne.symm hj), List.getElem?_set_ne (by omega)]⟩
    simp only [hqt]
    rw [if_pos hx]
    simp only [hs, lset, List.length_set, if_pos hp]
theorem hush_38_21 : tabX.hush 38 21 = false := id rfl
theorem I_snoc' (l : List Int) (f : List Nat) (g : Nat → Int) : I (l ++ f.map g) = I l ++ I (f.map g) := by unfold I; rw [List.map_append]
def tornCs (d : Dr) (x : List Int) (k : Nat) : List Int := (List.range k).map fun e => ((tornC d x e : Nat) : Int)
def tornAs (d : Dr) (x : List Int) (k : Nat) : List Int := (List.range k).map fun e => ((tornA d x e : Nat) : Int)
def tornK (d : Dr) : Nat := min d.halves.length d.cards.length
set_option maxHeartbeats 4000000 in
theorem c38 (d : Dr) (hd : d.fits) (hz2 : d.zc = 2) (hz3 : d.zh = 2) (ho : d.Ok) (x : List Int) (hx : x.length < 1000000000000000000 ∧ ∀ n ∈ x, 0 ≤ n ∧ n ≤ 255) (h : Heap) :
    callPure (EW tabX) 38 [eD d, .lst 0 1 (x.map (AV.int .u8))] h = some (.tup [eD (tornD d x (tornK d)), vI (tornCs d x (tornK d)), vI (tornAs d x (tornK d))], h) := by
  have hcl := eD_clean d
  have hxc : cleanL (x.map (AV.int .u8)) = some (x.map (AV.int .u8)) := cleanL_map (fun n => clean_int _ n) x
  have s1 := ho.s1
  have s6 := ho.s6
  have l1 := ho.l1
  have ls := ho.ls
  have hc4 := ho.c4
  have hh4 := ho.h4
  have h48 := c48 x hx.2 hx.1
  have h480 : ∀ h, callPure (EW tabX) 48 [.lst 0 1 (x.map (AV.int .u8)), .int .i64 0] h = some (.int .i64 (turnL x 0), h) := h48 0
  rw [callPure_eq, w_call _ fn_38 rfl]
  simp only [go_sem, ↓reduceIte, Nat.reduceBEq, Nat.reduceEqDiff, Nat.reduceLT, Nat.reduceLeDiff, Nat.reduceAdd, Nat.reduceMul, Nat.reduceSub, reduceCtorEq, Int.reduceLT, Int.reduceLE, Int.reduceEq, Int.reduceBEq, Int.reduceBNe, Int.reduceToNat, Int.reduceAdd, Int.reduceNeg, Int.reduceSub, eD, eDc, eC_under, hz2, hz3] at hcl ⊢
  simp (disch := omega) only [go_sem, ↓reduceIte, Nat.reduceBEq, Nat.reduceEqDiff, Nat.reduceLT, Nat.reduceLeDiff, Nat.reduceAdd, Nat.reduceMul, Nat.reduceSub, reduceCtorEq, Int.reduceLT, Int.reduceLE, Int.reduceEq, Int.reduceBEq, Int.reduceBNe, Int.reduceToNat, Int.reduceAdd, Int.reduceNeg, Int.reduceSub, eC_clean, eC_under, hxc, h480]
  generalize hX : (EW tabX).code 38 none (.loop _) _ = X
  have hK1 : tornK d ≤ d.halves.length := Nat.min_le_left _ _
  have hK2 : tornK d ≤ d.cards.length := Nat.min_le_right _ _
  refine w_rounds_sk hX (fun k s => [(8, .lst s.2.1.1 (zT 1 k) (I (tornCs d x k))), (9, .lst s.2.1.2 (zT 1 k) (I (tornAs d x k))), (11, .int .i64 k)])
    (fun s : (Nat × List AV) × (Nat × Nat) × (List ABlk × List Bool) × Nat => ⟨.cells (eDc d) :: .cells [.int .i64 0, .int .i64 0, .int .i64 0, .lst 1 0 [], .lst 1 0 []] :: .cells [.int .i64 d.steps, .int .i64 d.least, .int .i64 d.wear, .lst 0 2 (d.cards.map eC), .lst s.1.1 (zT 2 s.2.2.2) s.1.2] :: s.2.2.1.1, s.2.2.1.2⟩)
    (fun k s => s.2.2.2 = k ∧ OwnS 1 s.2.1.1 (zT 1 k) k s.2.2.1.2 ∧ OwnS 1 s.2.1.2 (zT 1 k) k s.2.2.1.2 ∧ (1 < s.2.1.1 → s.2.1.1 ≠ s.2.1.2) ∧ cleanL s.1.2 = some ((tornD d x k).halves.map eC) ∧ s.1.2.length = k ∧ s.1.2.all AV.var = true ∧ ∀ n, underL n s.1.2 = true) (tornK d) (.exit 0)
    (fun s => [(8, .lst s.2.1.1 (zT 1 (tornK d)) (I (tornCs d x (tornK d)))), (9, .lst s.2.1.2 (zT 1 (tornK d)) (I (tornAs d x (tornK d)))), (11, .int .i64 (tornK d))]) rfl ((1, []), (1, 1), ([], []), 0) ?_ ?_ ⟨rfl, .inl ⟨rfl, rfl⟩, .inl ⟨rfl, rfl⟩, fun h => absurd h (by decide), rfl, rfl, rfl, fun _ => rfl⟩ ?_ ?_ ?_
  · simp only [go_sem, ↓reduceIte, Nat.reduceBEq, Nat.reduceEqDiff, Nat.reduceLT, Nat.reduceLeDiff, Nat.reduceAdd, Nat.reduceMul, Nat.reduceSub, reduceCtorEq, Int.reduceLT, Int.reduceLE, Int.reduceEq, Int.reduceBEq, Int.reduceBNe, Int.reduceToNat, Int.reduceAdd, Int.reduceNeg, Int.reduceSub]
    rfl
  · simp only [go_sem, ↓reduceIte, Nat.reduceBEq, Nat.reduceEqDiff, Nat.reduceLT, Nat.reduceLeDiff, Nat.reduceAdd, Nat.reduceMul, Nat.reduceSub, reduceCtorEq, Int.reduceLT, Int.reduceLE, Int.reduceEq, Int.reduceBEq, Int.reduceBNe, Int.reduceToNat, Int.reduceAdd, Int.reduceNeg, Int.reduceSub, eDc, hz2, hz3]
  · rintro k ⟨⟨uh, H⟩, ⟨uc, ua⟩, ⟨E, M⟩, k'⟩ hk ⟨hR, hoc, hoa, hne, hH1, hH2, hH3, hH4⟩
    obtain rfl : k' = k := hR
    have hoc : OwnS 1 uc (zT 1 k') k' M := hoc
    have hoa : OwnS 1 ua (zT 1 k') k' M := hoa
    have hne : 1 < uc → uc ≠ ua := hne
    have hH1 : cleanL H = some ((tornD d x k').halves.map eC) := hH1
    have hH2 : H.length = k' := hH2
    have hH3 : H.all AV.var = true := hH3
    have hH4 : ∀ n, underL n H = true := hH4
    have hk1 : (k' : Int) < d.halves.length := by omega
    have hk2 : (k' : Int) < d.cards.length := by omega
    have hx0 := turnL_rng hx.2 0
    have hx1 := turnL_rng hx.2 (3 * k' + 1)
    have hx2 := turnL_rng hx.2 (3 * k' + 2)
    have hM := tornM_rng ho x k'
    have hA := tornA_rng ho x k'
    have hCl := tornC_lt d x k' (by omega)
    have t1 : (turnL x 0 + (k' : Int)).tmod d.cards.length = ((tornC d x k' : Nat) : Int) := by
      rw [show turnL x 0 + (k' : Int) = (((turnL x 0).toNat + k' : Nat) : Int) by omega]; rfl
    have t2 : d.least + (turnL x (3 * k' + 1)).tmod (d.steps - d.least + 1) = ((tornM d x k' : Nat) : Int) := by
      rw [show turnL x (3 * k' + 1) = (((turnL x (3 * k' + 1)).toNat : Nat) : Int) by omega, show d.steps - d.least + 1 = ((d.steps.toNat - d.least.toNat + 1 : Nat) : Int) by omega]
      have e : (((turnL x (3 * k' + 1)).toNat : Nat) : Int).tmod ((d.steps.toNat - d.least.toNat + 1 : Nat) : Int) = (((turnL x (3 * k' + 1)).toNat % (d.steps.toNat - d.least.toNat + 1) : Nat) : Int) := rfl
      rw [e]
      unfold tornM; omega
    have t3 : (turnL x (3 * k' + 2)).tmod (d.steps - (tornM d x k' : Nat) + 1) = ((tornA d x k' : Nat) : Int) := by
      rw [show turnL x (3 * k' + 2) = (((turnL x (3 * k' + 2)).toNat : Nat) : Int) by omega, show d.steps - ((tornM d x k' : Nat) : Int) + 1 = ((d.steps.toNat - tornM d x k' + 1 : Nat) : Int) by omega]
      rfl
    have b1 := tmod_rng hx1.1 (show (0 : Int) < d.steps - d.least + 1 by omega)
    have hcn0 : ((d.cards.length : Int) == 0) = false := by rw [beq_eq_false_iff_ne]; omega
    have hcn0' : ((d.cards.length : Int) = 0) = False := by simp only [eq_iff_iff, iff_false]; omega
    have n1 : (d.steps - d.least + 1 = 0) = False := by simp only [eq_iff_iff, iff_false]; omega
    have n2 : (d.steps - ((tornM d x k' : Nat) : Int) + 1 = 0) = False := by simp only [eq_iff_iff, iff_false]; omega
    have h481 : ∀ h, callPure (EW tabX) 48 [.lst 0 1 (x.map (AV.int .u8)), .int .i64 (3 * (k' : Int) + 1)] h = some (.int .i64 (turnL x (3 * k' + 1)), h) := fun h => by
      have := h48 (3 * k' + 1) h
      rwa [show ((3 * k' + 1 : Nat) : Int) = 3 * (k' : Int) + 1 by omega] at this
    have h482 : ∀ h, callPure (EW tabX) 48 [.lst 0 1 (x.map (AV.int .u8)), .int .i64 (3 * (k' : Int) + 2)] h = some (.int .i64 (turnL x (3 * k' + 2)), h) := fun h => by
      have := h48 (3 * k' + 2) h
      rwa [show ((3 * k' + 2 : Nat) : Int) = 3 * (k' : Int) + 2 by omega] at this
    simp (disch := omega) only [go_sem, ↓reduceIte, Nat.reduceBEq, Nat.reduceEqDiff, Nat.reduceLT, Nat.reduceLeDiff, Nat.reduceAdd, Nat.reduceMul, Nat.reduceSub, reduceCtorEq, Int.reduceLT, Int.reduceLE, Int.reduceEq, Int.reduceBEq, Int.reduceBNe, Int.reduceToNat, Int.reduceAdd, Int.reduceNeg, Int.reduceSub, eDc, hz2, hz3, hk1, hk2, hxc, h481, h482, t1, t2, t3, n1, n2, hcn0, hcn0', wrap_i64]
    rw [w_rounds_h (fun i => [(15, ownT M (tornE d x k' i)), (16, .int .i64 i)])
      (fun i => ⟨.cells (eDc d) :: .cells [.int .i64 0, .int .i64 0, .int .i64 0, .lst 1 0 [], .lst 1 0 []] :: .cells [.int .i64 d.steps, .int .i64 d.least, .int .i64 d.wear, .lst 0 2 (d.cards.map eC), .lst uh (zT 2 k') H] :: E, T M (tornE d x k' i).length⟩) (tornM d x k') (.exit 2)
      [(15, ownT M (tornE d x k' (tornM d x k'))), (16, .int .i64 (tornM d x k'))]
      ⟨.cells (eDc d) :: .cells [.int .i64 0, .int .i64 0, .int .i64 0, .lst 1 0 [], .lst 1 0 []] :: .cells [.int .i64 d.steps, .int .i64 d.least, .int .i64 d.wear, .lst 0 2 (d.cards.map eC), .lst uh (zT 2 k') H] :: E, T M (tornE d x k' (tornM d x k')).length⟩ ?_ ?_ ?_ ?_ rfl]
    · have hoT := ownT_clean M (tornE d x k' (tornM d x k'))
      have hz1 : zT 1 (tornE d x k' (tornM d x k')).length = 1 := zT_pos (by rw [tornE_len]; omega)
      have hel := tornE_len d x k' (tornM d x k')
      have hpre : ∀ j, M[j]? = some true → (T M (tornE d x k' (tornM d x k')).length)[j]? = some true := fun j hj => by
        have hjl := (List.getElem?_eq_some_iff.1 hj).1
        cases (tornE d x k' (tornM d x k')).length with
        | zero => exact hj
        | succ n => show (M ++ _)[j]? = _; rw [List.getElem?_append_left hjl]; exact hj
      have hcs : (I (tornCs d x k')).length = k' := by rw [I_len]; simp [tornCs]
      have has : (I (tornAs d x k')).length = k' := by rw [I_len]; simp [tornAs]
      have hkt : tornK d ≤ 4 := by omega
      have hcs1 : I (tornCs d x k') ++ [.int .i64 (tornC d x k' : Nat)] = I (tornCs d x (k' + 1)) := by unfold tornCs; rw [List.range_succ, List.map_append, I_snoc']; rfl
      have has1 : I (tornAs d x k') ++ [.int .i64 (tornA d x k' : Nat)] = I (tornAs d x (k' + 1)) := by unfold tornAs; rw [List.range_succ, List.map_append, I_snoc']; rfl
      have hzk1 : zT 1 (k' + 1) = 1 := zT_pos (by omega)
      have hML : M.length ≤ (T M (tornE d x k' (tornM d x k')).length).length := by
        cases (tornE d x k' (tornM d x k')).length with
        | zero => exact Nat.le_refl _
        | succ n => show _ ≤ (M ++ _).length; rw [List.length_append]; omega
      obtain ⟨tg, hoE⟩ : ∃ tg, ownT M (tornE d x k' (tornM d x k')) = .lst tg 1 (I (tornE d x k' (tornM d x k'))) := ⟨_, by rw [ownT, hz1]⟩
      rw [hoE]
      generalize T M (tornE d x k' (tornM d x k')).length = TT at hpre hML ⊢
      have up : ∀ {u}, OwnS 1 u (zT 1 k') k' M → OwnS 1 u (zT 1 k') k' TT ∧ (u = 1 ∨ ∃ q, u = q + 2 ∧ q < M.length) := fun {u} h => by
        rcases h with h | ⟨q, h1, h2, h3⟩
        · exact ⟨.inl h, .inl h.1⟩
        · exact ⟨.inr ⟨q, h1, h2, hpre q h3⟩, .inr ⟨q, h1, (List.getElem?_eq_some_iff.1 h3).1⟩⟩
      obtain ⟨hoc1, hoc2⟩ := up hoc
      obtain ⟨hoa1, hoa2⟩ := up hoa
      have hoc3 : OwnS 1 uc (zT 1 k') (I (tornCs d x k')).length TT := by rw [hcs]; exact hoc1
      obtain ⟨ta, a1, a2, a3, a4⟩ := app_gen (X := tabX) (ty := 29) (e := 3) (sz := 1) (xs := I (tornCs d x k')) hoc3 1 1 [.int .i64 (tornC d x k' : Nat)] (by simp only [go_sem, ↓reduceIte, Nat.reduceBEq, Nat.reduceEqDiff, Nat.reduceLT, Nat.reduceLeDiff, Nat.reduceAdd, Nat.reduceMul, Nat.reduceSub, reduceCtorEq, Int.reduceLT, Int.reduceLE, Int.reduceEq, Int.reduceBEq, Int.reduceBNe, Int.reduceToNat, Int.reduceAdd, Int.reduceNeg, Int.reduceSub]) (by simp only [go_sem, ↓reduceIte, Nat.reduceBEq, Nat.reduceEqDiff, Nat.reduceLT, Nat.reduceLeDiff, Nat.reduceAdd, Nat.reduceMul, Nat.reduceSub, reduceCtorEq, Int.reduceLT, Int.reduceLE, Int.reduceEq, Int.reduceBEq, Int.reduceBNe, Int.reduceToNat, Int.reduceAdd, Int.reduceNeg, Int.reduceSub]) (by omega)
        (.inl rfl) (by simp only [go_sem, ↓reduceIte, Nat.reduceBEq, Nat.reduceEqDiff, Nat.reduceLT, Nat.reduceLeDiff, Nat.reduceAdd, Nat.reduceMul, Nat.reduceSub, reduceCtorEq, Int.reduceLT, Int.reduceLE, Int.reduceEq, Int.reduceBEq, Int.reduceBNe, Int.reduceToNat, Int.reduceAdd, Int.reduceNeg, Int.reduceSub, hcs]; omega) (by simp only [go_sem, ↓reduceIte, Nat.reduceBEq, Nat.reduceEqDiff, Nat.reduceLT, Nat.reduceLeDiff, Nat.reduceAdd, Nat.reduceMul, Nat.reduceSub, reduceCtorEq, Int.reduceLT, Int.reduceLE, Int.reduceEq, Int.reduceBEq, Int.reduceBNe, Int.reduceToNat, Int.reduceAdd, Int.reduceNeg, Int.reduceSub, hcs]; omega) (by simp only [go_sem, ↓reduceIte, Nat.reduceBEq, Nat.reduceEqDiff, Nat.reduceLT, Nat.reduceLeDiff, Nat.reduceAdd, Nat.reduceMul, Nat.reduceSub, reduceCtorEq, Int.reduceLT, Int.reduceLE, Int.reduceEq, Int.reduceBEq, Int.reduceBNe, Int.reduceToNat, Int.reduceAdd, Int.reduceNeg, Int.reduceSub]) (by simp only [go_sem, ↓reduceIte, Nat.reduceBEq, Nat.reduceEqDiff, Nat.reduceLT, Nat.reduceLeDiff, Nat.reduceAdd, Nat.reduceMul, Nat.reduceSub, reduceCtorEq, Int.reduceLT, Int.reduceLE, Int.reduceEq, Int.reduceBEq, Int.reduceBNe, Int.reduceToNat, Int.reduceAdd, Int.reduceNeg, Int.reduceSub])
      have hoa3 : OwnS 1 ua (zT 1 k') (I (tornAs d x k')).length ta := by
        rw [has]
        rcases hoa1 with h | ⟨q, h1, h2, h3⟩
        · exact .inl h
        · refine .inr ⟨q, h1, h2, a4 q ?_ h3⟩
          rcases hoc2 with h | ⟨q2, h4, _⟩
          · omega
          · have := hne (by omega); omega
      obtain ⟨tb, b1', b2, b3, b4⟩ := app_gen (X := tabX) (ty := 29) (e := 3) (sz := 1) (xs := I (tornAs d x k')) hoa3 1 1 [.int .i64 (tornA d x k' : Nat)] (by simp only [go_sem, ↓reduceIte, Nat.reduceBEq, Nat.reduceEqDiff, Nat.reduceLT, Nat.reduceLeDiff, Nat.reduceAdd, Nat.reduceMul, Nat.reduceSub, reduceCtorEq, Int.reduceLT, Int.reduceLE, Int.reduceEq, Int.reduceBEq, Int.reduceBNe, Int.reduceToNat, Int.reduceAdd, Int.reduceNeg, Int.reduceSub]) (by simp only [go_sem, ↓reduceIte, Nat.reduceBEq, Nat.reduceEqDiff, Nat.reduceLT, Nat.reduceLeDiff, Nat.reduceAdd, Nat.reduceMul, Nat.reduceSub, reduceCtorEq, Int.reduceLT, Int.reduceLE, Int.reduceEq, Int.reduceBEq, Int.reduceBNe, Int.reduceToNat, Int.reduceAdd, Int.reduceNeg, Int.reduceSub]) (by omega)
        (.inl rfl) (by simp only [go_sem, ↓reduceIte, Nat.reduceBEq, Nat.reduceEqDiff, Nat.reduceLT, Nat.reduceLeDiff, Nat.reduceAdd, Nat.reduceMul, Nat.reduceSub, reduceCtorEq, Int.reduceLT, Int.reduceLE, Int.reduceEq, Int.reduceBEq, Int.reduceBNe, Int.reduceToNat, Int.reduceAdd, Int.reduceNeg, Int.reduceSub, has]; omega) (by simp only [go_sem, ↓reduceIte, Nat.reduceBEq, Nat.reduceEqDiff, Nat.reduceLT, Nat.reduceLeDiff, Nat.reduceAdd, Nat.reduceMul, Nat.reduceSub, reduceCtorEq, Int.reduceLT, Int.reduceLE, Int.reduceEq, Int.reduceBEq, Int.reduceBNe, Int.reduceToNat, Int.reduceAdd, Int.reduceNeg, Int.reduceSub, has]; omega) (by simp only [go_sem, ↓reduceIte, Nat.reduceBEq, Nat.reduceEqDiff, Nat.reduceLT, Nat.reduceLeDiff, Nat.reduceAdd, Nat.reduceMul, Nat.reduceSub, reduceCtorEq, Int.reduceLT, Int.reduceLE, Int.reduceEq, Int.reduceBEq, Int.reduceBNe, Int.reduceToNat, Int.reduceAdd, Int.reduceNeg, Int.reduceSub]) (by simp only [go_sem, ↓reduceIte, Nat.reduceBEq, Nat.reduceEqDiff, Nat.reduceLT, Nat.reduceLeDiff, Nat.reduceAdd, Nat.reduceMul, Nat.reduceSub, reduceCtorEq, Int.reduceLT, Int.reduceLE, Int.reduceEq, Int.reduceBEq, Int.reduceBNe, Int.reduceToNat, Int.reduceAdd, Int.reduceNeg, Int.reduceSub])
      have b5 : tb[TT.length]? = some true := b4 TT.length (by rcases hoa2 with h | ⟨q, h, h2⟩ <;> omega) a3
      have ch := half_at (show k' < d.halves.length by omega)
      rw [hcs1] at a1
      rw [has1] at b1'
      simp (disch := omega) only [go_sem, ↓reduceIte, Nat.reduceBEq, Nat.reduceEqDiff, Nat.reduceLT, Nat.reduceLeDiff, Nat.reduceAdd, Nat.reduceMul, Nat.reduceSub, reduceCtorEq, Int.reduceLT, Int.reduceLE, Int.reduceEq, Int.reduceBEq, Int.reduceBNe, Int.reduceToNat, Int.reduceAdd, Int.reduceNeg, Int.reduceSub, eDc, hz2, hz3, a1, b1', ch, eC, eC_get, hk1, hush_38_21]
      generalize hcf : List.all (conflicts _ _) _ = cf
      obtain rfl : cf = true := by rw [← hcf]; kernel_rfl
      generalize hTX : tb ++ List.replicate _ false = TX
      have hTl : TX.length = tb.length + 16 := by rw [← hTX, List.length_append, List.length_replicate]; rfl
      have hTp : ∀ j, tb[j]? = some true → TX[j]? = some true := fun j hj => by
        rw [← hTX, List.getElem?_append_left (List.getElem?_eq_some_iff.1 hj).1]; exact hj
      have c1 := hTp _ b5
      have c2 := hTp _ b3
      have hl1 : TT.length < tb.length := by omega
      have hl2 : ta.length < tb.length := by omega
      generalize tb.length = q at hTl hl1 hl2
      generalize List.replicate _ ABlk.none = N
      have hlt : (tornD d x k').halves.length = k' := torn_len d x k'
      have hzk : zT 2 k' = 2 ∨ H.length = 0 := by
        by_cases h0 : k' = 0
        · exact .inr (by rw [hH2]; exact h0)
        · exact .inl (zT_pos (by omega))
      obtain ⟨tc, p1, p2, p3, p4⟩ := app_at2 (X := tabX) (ty := 23) (e := 65) (sz := 2) (tag := 1) (z := 2) (t := TX) (xs := []) (.inl ⟨rfl, .inl rfl⟩) (q + 3) (by omega) uh (zT 2 k') H (by simp only [go_sem, ↓reduceIte, Nat.reduceBEq, Nat.reduceEqDiff, Nat.reduceLT, Nat.reduceLeDiff, Nat.reduceAdd, Nat.reduceMul, Nat.reduceSub, reduceCtorEq, Int.reduceLT, Int.reduceLE, Int.reduceEq, Int.reduceBEq, Int.reduceBNe, Int.reduceToNat, Int.reduceAdd, Int.reduceNeg, Int.reduceSub]) (by simp only [go_sem, ↓reduceIte, Nat.reduceBEq, Nat.reduceEqDiff, Nat.reduceLT, Nat.reduceLeDiff, Nat.reduceAdd, Nat.reduceMul, Nat.reduceSub, reduceCtorEq, Int.reduceLT, Int.reduceLE, Int.reduceEq, Int.reduceBEq, Int.reduceBNe, Int.reduceToNat, Int.reduceAdd, Int.reduceNeg, Int.reduceSub]) (by omega)
        hzk (by simp only [go_sem, ↓reduceIte, Nat.reduceBEq, Nat.reduceEqDiff, Nat.reduceLT, Nat.reduceLeDiff, Nat.reduceAdd, Nat.reduceMul, Nat.reduceSub, reduceCtorEq, Int.reduceLT, Int.reduceLE, Int.reduceEq, Int.reduceBEq, Int.reduceBNe, Int.reduceToNat, Int.reduceAdd, Int.reduceNeg, Int.reduceSub, hH2]; omega) (by simp only [go_sem, ↓reduceIte, Nat.reduceBEq, Nat.reduceEqDiff, Nat.reduceLT, Nat.reduceLeDiff, Nat.reduceAdd, Nat.reduceMul, Nat.reduceSub, reduceCtorEq, Int.reduceLT, Int.reduceLE, Int.reduceEq, Int.reduceBEq, Int.reduceBNe, Int.reduceToNat, Int.reduceAdd, Int.reduceNeg, Int.reduceSub, hH2]; omega) (by simp only [go_sem, ↓reduceIte, Nat.reduceBEq, Nat.reduceEqDiff, Nat.reduceLT, Nat.reduceLeDiff, Nat.reduceAdd, Nat.reduceMul, Nat.reduceSub, reduceCtorEq, Int.reduceLT, Int.reduceLE, Int.reduceEq, Int.reduceBEq, Int.reduceBNe, Int.reduceToNat, Int.reduceAdd, Int.reduceNeg, Int.reduceSub]) hH3
      simp only [List.nil_append] at p1
      obtain ⟨te, r1, r2, r3, r4⟩ := app_at2 (X := tabX) (ty := 23) (e := 65) (sz := 2) (tag := q + 3 + 2) (z := 2) (t := tc) (xs := H) (.inr ⟨q + 3, rfl, rfl, p2⟩) (q + 13) (by omega) 1 2 [.agg [.str (d.halves.getD k' ⟨default, []⟩).name, .lst tg 1 (I (tornE d x k' (tornM d x k')))]] (by simp only [go_sem, ↓reduceIte, Nat.reduceBEq, Nat.reduceEqDiff, Nat.reduceLT, Nat.reduceLeDiff, Nat.reduceAdd, Nat.reduceMul, Nat.reduceSub, reduceCtorEq, Int.reduceLT, Int.reduceLE, Int.reduceEq, Int.reduceBEq, Int.reduceBNe, Int.reduceToNat, Int.reduceAdd, Int.reduceNeg, Int.reduceSub]) (by simp only [go_sem, ↓reduceIte, Nat.reduceBEq, Nat.reduceEqDiff, Nat.reduceLT, Nat.reduceLeDiff, Nat.reduceAdd, Nat.reduceMul, Nat.reduceSub, reduceCtorEq, Int.reduceLT, Int.reduceLE, Int.reduceEq, Int.reduceBEq, Int.reduceBNe, Int.reduceToNat, Int.reduceAdd, Int.reduceNeg, Int.reduceSub]) (by omega)
        (.inl rfl) (by simp only [go_sem, ↓reduceIte, Nat.reduceBEq, Nat.reduceEqDiff, Nat.reduceLT, Nat.reduceLeDiff, Nat.reduceAdd, Nat.reduceMul, Nat.reduceSub, reduceCtorEq, Int.reduceLT, Int.reduceLE, Int.reduceEq, Int.reduceBEq, Int.reduceBNe, Int.reduceToNat, Int.reduceAdd, Int.reduceNeg, Int.reduceSub, hH2]; omega) (by simp only [go_sem, ↓reduceIte, Nat.reduceBEq, Nat.reduceEqDiff, Nat.reduceLT, Nat.reduceLeDiff, Nat.reduceAdd, Nat.reduceMul, Nat.reduceSub, reduceCtorEq, Int.reduceLT, Int.reduceLE, Int.reduceEq, Int.reduceBEq, Int.reduceBNe, Int.reduceToNat, Int.reduceAdd, Int.reduceNeg, Int.reduceSub, hH2]; omega) (by simp only [go_sem, ↓reduceIte, Nat.reduceBEq, Nat.reduceEqDiff, Nat.reduceLT, Nat.reduceLeDiff, Nat.reduceAdd, Nat.reduceMul, Nat.reduceSub, reduceCtorEq, Int.reduceLT, Int.reduceLE, Int.reduceEq, Int.reduceBEq, Int.reduceBNe, Int.reduceToNat, Int.reduceAdd, Int.reduceNeg, Int.reduceSub]) rfl
      have hnew : cleanL (H ++ [.agg [.str (d.halves.getD k' ⟨default, []⟩).name, .lst tg 1 (I (tornE d x k' (tornM d x k')))]]) = some ((tornD d x (k' + 1)).halves.map eC) := by
        have hh : (tornD d x (k' + 1)).halves.map eC = (tornD d x k').halves.map eC ++ [eC (tornP d x k')] := by
          show ((List.range (k' + 1)).map (tornP d x)).map eC = ((List.range k').map (tornP d x)).map eC ++ _
          rw [List.range_succ, List.map_append, List.map_append]; rfl
        rw [hh]
        exact cleanL_snoc hH1 (by simp only [go_sem, ↓reduceIte, Nat.reduceBEq, Nat.reduceEqDiff, Nat.reduceLT, Nat.reduceLeDiff, Nat.reduceAdd, Nat.reduceMul, Nat.reduceSub, reduceCtorEq, Int.reduceLT, Int.reduceLE, Int.reduceEq, Int.reduceBEq, Int.reduceBNe, Int.reduceToNat, Int.reduceAdd, Int.reduceNeg, Int.reduceSub, eC, tornP])
      simp (disch := omega) only [go_sem, ↓reduceIte, Nat.reduceBEq, Nat.reduceEqDiff, Nat.reduceLT, Nat.reduceLeDiff, Nat.reduceAdd, Nat.reduceMul, Nat.reduceSub, reduceCtorEq, Int.reduceLT, Int.reduceLE, Int.reduceEq, Int.reduceBEq, Int.reduceBNe, Int.reduceToNat, Int.reduceAdd, Int.reduceNeg, Int.reduceSub, eDc, hz2, hz3, p1, eC_clean, eC_under, ch, eC, eC_get, hk1, r1, hH4, wrap_i64]
      refine ⟨((q + 13 + 2, H ++ [.agg [.str (d.halves.getD k' ⟨default, []⟩).name, .lst tg 1 (I (tornE d x k' (tornM d x k')))]]), (TT.length + 2, ta.length + 2), (E ++ N, te), k' + 1), ?_, rfl, .inr ⟨TT.length, rfl, rfl, ?_⟩, .inr ⟨ta.length, rfl, rfl, ?_⟩, fun _ => ?_, hnew, ?_, ?_, fun n => ?_⟩
      · have hzk2 : zT 2 (k' + 1) = 2 := zT_pos (by omega)
        simp only [hzk2]
      · show te[TT.length]? = some true
        rw [r4 _ (by omega) (by omega), p4 _ (by omega) (by omega)]; exact c1
      · show te[ta.length]? = some true
        rw [r4 _ (by omega) (by omega), p4 _ (by omega) (by omega)]; exact c2
      · show TT.length + 2 ≠ ta.length + 2
        omega
      · show (H ++ [_]).length = k' + 1
        rw [List.length_append, hH2]; rfl
      · show (H ++ [_]).all AV.var = true
        rw [List.all_append, hH3]; rfl
      · show underL n (H ++ [_]) = true
        simp only [go_sem, ↓reduceIte, Nat.reduceBEq, Nat.reduceEqDiff, Nat.reduceLT, Nat.reduceLeDiff, Nat.reduceAdd, Nat.reduceMul, Nat.reduceSub, reduceCtorEq, Int.reduceLT, Int.reduceLE, Int.reduceEq, Int.reduceBEq, Int.reduceBNe, Int.reduceToNat, Int.reduceAdd, Int.reduceNeg, Int.reduceSub, hH4]
    · simp only [go_sem, ↓reduceIte, Nat.reduceBEq, Nat.reduceEqDiff, Nat.reduceLT, Nat.reduceLeDiff, Nat.reduceAdd, Nat.reduceMul, Nat.reduceSub, reduceCtorEq, Int.reduceLT, Int.reduceLE, Int.reduceEq, Int.reduceBEq, Int.reduceBNe, Int.reduceToNat, Int.reduceAdd, Int.reduceNeg, Int.reduceSub, tornE_zero, ownT_nil]
    · simp only [go_sem, ↓reduceIte, Nat.reduceBEq, Nat.reduceEqDiff, Nat.reduceLT, Nat.reduceLeDiff, Nat.reduceAdd, Nat.reduceMul, Nat.reduceSub, reduceCtorEq, Int.reduceLT, Int.reduceLE, Int.reduceEq, Int.reduceBEq, Int.reduceBNe, Int.reduceToNat, Int.reduceAdd, Int.reduceNeg, Int.reduceSub, tornE_zero, eDc, hz2, hz3, List.length_nil]
    · intro i hi
      have hii : (i : Int) < tornM d x k' := by omega
      have hy := turnL_rng hx.2 (3 * k' + i)
      have hwn := torn_worn ho hx.2 (3 * k' + i)
      have w0 := ho.w0
      have w9 := ho.w9
      have n3 : (d.wear + 1 = 0) = False := by simp only [eq_iff_iff, iff_false]; omega
      have h483 : ∀ h, callPure (EW tabX) 48 [.lst 0 1 (x.map (AV.int .u8)), .int .i64 (3 * (k' : Int) + i)] h = some (.int .i64 (turnL x (3 * k' + i)), h) := fun h => by
        have := h48 (3 * k' + i) h
        rwa [show ((3 * k' + i : Nat) : Int) = 3 * (k' : Int) + i by omega] at this
      have ca := card_at d _ hCl
      have hcl := card_len ho hCl
      have hcr := card_rng ho hCl (show tornA d x k' + i < d.steps.toNat by omega)
      have ce : (cardE d (tornC d x k'))[tornA d x k' + i]? = some ((cardE d (tornC d x k')).getD (tornA d x k' + i) 0) := by rw [List.getD_eq_getElem?_getD, List.getElem?_eq_getElem (by omega)]; rfl
      have i1 : (((tornA d x k' : Nat) : Int) + i < 0) = False := by simp only [eq_iff_iff, iff_false]; omega
      have i2 : (((tornA d x k' : Nat) : Int) + i).toNat = tornA d x k' + i := by omega
      have hap := ownT_app M (tornE d x k' i) (tornH d x k' i) (by rw [tornE_len]; omega)
      rw [tornE_succ]
      have td : 0 ≤ (turnL x (3 * k' + i)).tdiv 4 ∧ (turnL x (3 * k' + i)).tdiv 4 ≤ 255 := by
        obtain ⟨y, hy2⟩ : ∃ y : Nat, turnL x (3 * k' + i) = y := ⟨(turnL x (3 * k' + i)).toNat, by omega⟩
        rw [hy2] at hy ⊢
        have : ((y : Int)).tdiv 4 = ((y / 4 : Nat) : Int) := rfl
        rw [this]; omega
      by_cases h5 : (turnL x (3 * k' + i)).tmod 5 = 4
      · have hH : tornH d x k' i = -1 := by unfold tornH; rw [if_pos h5]
        rw [hH] at hap ⊢
        simp only [cardE] at ce hcr hcl
        simp (disch := omega) only [go_sem, ↓reduceIte, Nat.reduceBEq, Nat.reduceEqDiff, Nat.reduceLT, Nat.reduceLeDiff, Nat.reduceAdd, Nat.reduceMul, Nat.reduceSub, reduceCtorEq, Int.reduceLT, Int.reduceLE, Int.reduceEq, Int.reduceBEq, Int.reduceBNe, Int.reduceToNat, Int.reduceAdd, Int.reduceNeg, Int.reduceSub, eDc, hz2, hz3, hii, hxc, h483, ca, ce, i1, i2, n3, h5, eC, eC_get, hap, wrap_i64]
      · have hH : tornH d x k' i = max 0 ((cardE d (tornC d x k')).getD (tornA d x k' + i) 0 - ((turnL x (3 * k' + i)).tdiv 4).tmod (d.wear + 1)) := by unfold tornH; rw [if_neg h5]
        have n5 : ((turnL x (3 * k' + i)).tmod 5 == 4) = false := by rw [beq_eq_false_iff_ne]; exact h5
        by_cases hp : 0 < (cardE d (tornC d x k')).getD (tornA d x k' + i) 0 - ((turnL x (3 * k' + i)).tdiv 4).tmod (d.wear + 1)
        · rw [Int.max_eq_right (by omega)] at hH
          rw [hH] at hap ⊢
          have hp := eq_true hp
          simp only [cardE] at ce hcr hcl hp hap ⊢
          simp (disch := omega) only [go_sem, ↓reduceIte, Nat.reduceBEq, Nat.reduceEqDiff, Nat.reduceLT, Nat.reduceLeDiff, Nat.reduceAdd, Nat.reduceMul, Nat.reduceSub, reduceCtorEq, Int.reduceLT, Int.reduceLE, Int.reduceEq, Int.reduceBEq, Int.reduceBNe, Int.reduceToNat, Int.reduceAdd, Int.reduceNeg, Int.reduceSub, eDc, hz2, hz3, hii, hxc, h483, ca, ce, i1, i2, n3, n5, hp, eC, eC_get, hap, wrap_i64]
        · rw [Int.max_eq_left (by omega)] at hH
          rw [hH] at hap ⊢
          have hp := eq_false hp
          simp only [cardE] at ce hcr hcl hp hap ⊢
          simp (disch := omega) only [go_sem, ↓reduceIte, Nat.reduceBEq, Nat.reduceEqDiff, Nat.reduceLT, Nat.reduceLeDiff, Nat.reduceAdd, Nat.reduceMul, Nat.reduceSub, reduceCtorEq, Int.reduceLT, Int.reduceLE, Int.reduceEq, Int.reduceBEq, Int.reduceBNe, Int.reduceToNat, Int.reduceAdd, Int.reduceNeg, Int.reduceSub, eDc, hz2, hz3, hii, hxc, h483, ca, ce, i1, i2, n3, n5, hp, eC, eC_get, hap, wrap_i64]
    · simp only [go_sem, ↓reduceIte, Nat.reduceBEq, Nat.reduceEqDiff, Nat.reduceLT, Nat.reduceLeDiff, Nat.reduceAdd, Nat.reduceMul, Nat.reduceSub, reduceCtorEq, Int.reduceLT, Int.reduceLE, Int.reduceEq, Int.reduceBEq, Int.reduceBNe, Int.reduceToNat, Int.reduceAdd, Int.reduceNeg, Int.reduceSub, eDc, hz2, hz3]
  · rintro ⟨⟨uh, H⟩, ⟨uc, ua⟩, ⟨E, M⟩, k'⟩ ⟨hR, _⟩
    obtain rfl : k' = tornK d := hR
    by_cases hlt : tornK d < d.halves.length
    · have e1 : ((tornK d : Nat) : Int) < d.halves.length := by omega
      have e2 : (((tornK d : Nat) : Int) < d.cards.length) = False := by simp only [eq_iff_iff, iff_false]; unfold tornK at hlt ⊢; omega
      simp (disch := omega) only [go_sem, ↓reduceIte, Nat.reduceBEq, Nat.reduceEqDiff, Nat.reduceLT, Nat.reduceLeDiff, Nat.reduceAdd, Nat.reduceMul, Nat.reduceSub, reduceCtorEq, Int.reduceLT, Int.reduceLE, Int.reduceEq, Int.reduceBEq, Int.reduceBNe, Int.reduceToNat, Int.reduceAdd, Int.reduceNeg, Int.reduceSub, eDc, hz2, hz3, e1, e2]
    · have e1 : (((tornK d : Nat) : Int) < d.halves.length) = False := by simp only [eq_iff_iff, iff_false]; omega
      simp (disch := omega) only [go_sem, ↓reduceIte, Nat.reduceBEq, Nat.reduceEqDiff, Nat.reduceLT, Nat.reduceLeDiff, Nat.reduceAdd, Nat.reduceMul, Nat.reduceSub, reduceCtorEq, Int.reduceLT, Int.reduceLE, Int.reduceEq, Int.reduceBEq, Int.reduceBNe, Int.reduceToNat, Int.reduceAdd, Int.reduceNeg, Int.reduceSub, eDc, hz2, hz3, e1]
  · rintro ⟨⟨uh, H⟩, ⟨uc, ua⟩, ⟨E, M⟩, k'⟩ hx2 ⟨hR, _, _, _, hH1, _, _, hH4⟩
    obtain rfl : k' = tornK d := hR
    have hH1 : cleanL H = some ((tornD d x (tornK d)).halves.map eC) := hH1
    have hH4 : ∀ n, underL n H = true := hH4
    have hcs : (tornCs d x (tornK d)).length = tornK d := by simp [tornCs]
    have has : (tornAs d x (tornK d)).length = tornK d := by simp [tornAs]
    have hst : (tornD d x (tornK d)).cards = d.cards := rfl
    have hs2 : (tornD d x (tornK d)).steps = d.steps := rfl
    have hs3 : (tornD d x (tornK d)).least = d.least := rfl
    have hs4 : (tornD d x (tornK d)).wear = d.wear := rfl
    have hs5 : (tornD d x (tornK d)).zc = 2 := hz2
    have hs6 : (tornD d x (tornK d)).zh = zT 2 (tornK d) := rfl
    rw [hx2]
    simp (disch := omega) only [go_sem, ↓reduceIte, Nat.reduceBEq, Nat.reduceEqDiff, Nat.reduceLT, Nat.reduceLeDiff, Nat.reduceAdd, Nat.reduceMul, Nat.reduceSub, reduceCtorEq, Int.reduceLT, Int.reduceLE, Int.reduceEq, Int.reduceBEq, Int.reduceBNe, Int.reduceToNat, Int.reduceAdd, Int.reduceNeg, Int.reduceSub, eDc, hz2, hz3, vI, hcs, has, hH1, hH4, hst, hs2, hs3, hs4, hs5, hs6, eC_clean, eC_under]
end Go.Proofs.Ytbfodfepgefloaa
