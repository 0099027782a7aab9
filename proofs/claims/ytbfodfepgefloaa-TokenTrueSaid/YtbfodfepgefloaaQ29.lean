/- The body of TokenTrue. Conditions: those of each law. -/
import Derived.Test.YtbfodfepgefloaaQ28
set_option linter.unusedSimpArgs false
set_option linter.unusedVariables false
namespace Go.Proofs.Ytbfodfepgefloaa
open Go.Proofs

set_option maxHeartbeats 4000000 in
theorem l8 (d : Dr) (hd2 : d.fits ∧ d.zc = 2 ∧ d.zh = 2) (x : List Int) (hx : x.length < 1000000000000000000 ∧ ∀ n ∈ x, 0 ≤ n ∧ n ≤ 255) : ∃ h', (EW tabX).call 8 [eD d, .lst 0 1 (x.map (AV.int .u8))] noHeap = some (.bool true, h') := by
  obtain ⟨hd, hz2, hz3⟩ := hd2
  have hcl := eD_clean d
  have h21 := c21
  have h37 := c37 d hd
  have hxc : cleanL (x.map (AV.int .u8)) = some (x.map (AV.int .u8)) := cleanL_map (fun n => clean_int _ n) x
  rw [noHeap, w_call _ fn_8 rfl]
  by_cases hc : (checkT d).2.2 = 0
  · obtain ⟨ho, hk⟩ := ok_of_check hc
    rw [hc] at h37
    have hc4 := ho.c4
    have hh4 := ho.h4
    have hK1 : tornK d ≤ d.halves.length := Nat.min_le_left _ _
    have hK2 : tornK d ≤ d.cards.length := Nat.min_le_right _ _
    have h38 := c38 d hd hz2 hz3 ho x hx
    have hoT := torn_ok ho hx.2 hK1 hK2
    have hcT := checked hoT
    have hTl := torn_len d x (tornK d)
    have hdT : (tornD d x (tornK d)).fits := by
      refine ⟨hd.zc, fun h => zT_pos (by have := List.length_pos_iff.2 h; omega), hd.lc, by omega, hd.nc, fun c hcm => ?_⟩
      obtain ⟨e, he, rfl⟩ := List.mem_map.1 hcm
      have he := List.mem_range.1 he
      have hm := tornM_rng ho x e
      have s6 := ho.s6
      exact ⟨(hd.nh _ (List.mem_of_getElem? (half_at (show e < d.halves.length by omega)))).1, by show (tornE d x e (tornM d x e)).length < _; rw [tornE_len]; omega⟩
    have h24 := c24_yes _ hdT hcT
    rw [(torn_fair ho hx.2 hK2).2] at h24
    have h18 := c18_in _ hdT hcT
    have h26 := fun e (he : e < tornK d) => c26_yes _ hdT e (askedE_in _ hcT e _ (by omega))
    have h28 := fun e (he : e < tornK d) => c28_yes _ hdT e (askedE_in _ hcT e _ (by omega))
    have hclT := eD_clean (tornD d x (tornK d))
    have eT : eD (tornD d x (tornK d)) = .agg [.int .i64 d.steps, .int .i64 d.least, .int .i64 d.wear, .lst 0 2 (d.cards.map eC), .lst 0 (zT 2 (tornK d)) ((tornD d x (tornK d)).halves.map eC)] := by unfold eD eDc; rw [show (tornD d x (tornK d)).zc = 2 from hz2]; rfl
    have hcs : (tornCs d x (tornK d)).length = tornK d := by simp [tornCs]
    have has : (tornAs d x (tornK d)).length = tornK d := by simp [tornAs]
    have hvc1 := vI_clean (tornCs d x (tornK d))
    have hvc2 := vI_clean (tornAs d x (tornK d))
    rw [eT] at h38 h24 h18 h26 h28
    have hcT2 : cleanL ((tornD d x (tornK d)).halves.map eC) = some ((tornD d x (tornK d)).halves.map eC) := eC_clean _
    simp only [go_sem, ↓reduceIte, Nat.reduceBEq, Nat.reduceEqDiff, Nat.reduceLT, Nat.reduceLeDiff, Nat.reduceAdd, Nat.reduceMul, Nat.reduceSub, reduceCtorEq, Int.reduceLT, Int.reduceLE, Int.reduceEq, Int.reduceBEq, Int.reduceBNe, Int.reduceToNat, Int.reduceAdd, Int.reduceNeg, Int.reduceSub, eD, eDc, eC_under, hz2, hz3, vI, hcs, has, List.length_nil] at hcl h37 h38 h24 h18 h26 h28 hvc1 hvc2 ⊢
    simp (disch := omega) only [go_sem, ↓reduceIte, Nat.reduceBEq, Nat.reduceEqDiff, Nat.reduceLT, Nat.reduceLeDiff, Nat.reduceAdd, Nat.reduceMul, Nat.reduceSub, reduceCtorEq, Int.reduceLT, Int.reduceLE, Int.reduceEq, Int.reduceBEq, Int.reduceBNe, Int.reduceToNat, Int.reduceAdd, Int.reduceNeg, Int.reduceSub, eC_clean, eC_under, h37, hxc, h38, h24, hcs, has]
    rw [w_rounds_u (fun k => [(13, .int .i64 k)]) (tornK d) (.exit 0) [(13, .int .i64 (tornK d))] ?_ ?_ ?_ rfl]
    · simp only [go_sem, ↓reduceIte, Nat.reduceBEq, Nat.reduceEqDiff, Nat.reduceLT, Nat.reduceLeDiff, Nat.reduceAdd, Nat.reduceMul, Nat.reduceSub, reduceCtorEq, Int.reduceLT, Int.reduceLE, Int.reduceEq, Int.reduceBEq, Int.reduceBNe, Int.reduceToNat, Int.reduceAdd, Int.reduceNeg, Int.reduceSub, h21]
      exact ⟨_, rfl⟩
    · simp only [go_sem, ↓reduceIte, Nat.reduceBEq, Nat.reduceEqDiff, Nat.reduceLT, Nat.reduceLeDiff, Nat.reduceAdd, Nat.reduceMul, Nat.reduceSub, reduceCtorEq, Int.reduceLT, Int.reduceLE, Int.reduceEq, Int.reduceBEq, Int.reduceBNe, Int.reduceToNat, Int.reduceAdd, Int.reduceNeg, Int.reduceSub]
    · intro e he
      have hei : (e : Int) < tornK d := by omega
      have hz1 : zT 1 (tornK d) = 1 := zT_pos (by omega)
      have g1 : (tornCs d x (tornK d))[e]? = some ((tornC d x e : Nat) : Int) := by unfold tornCs; rw [List.getElem?_map, List.getElem?_range he]; rfl
      have g2 : (tornAs d x (tornK d))[e]? = some ((tornA d x e : Nat) : Int) := by unfold tornAs; rw [List.getElem?_map, List.getElem?_range he]; rfl
      have q1 := h18 (tornC d x e) e (tornC_lt d x e (by omega)) (by omega)
      have q2 := h26 e he
      have q3 := h28 e he
      have m1 := torn_fit ho hx.2 hK2 he
      have m2 := torn_whose ho hx.2 hK2 he
      have m3 := torn_card ho hx.2 hK2 he
      have hzz2 : ∀ l : List Int, l ≠ [] → zT 1 l.length = 1 := fun l h => zT_pos (List.length_pos_iff.2 h)
      have hle : (fitN (tornD d x (tornK d)) (tornC d x e) e).length ≤ 6 := by
        have := fitsL_len (tornD d x (tornK d)) ((tornD d x (tornK d)).cards.getD (tornC d x e) ⟨default, []⟩) ((tornD d x (tornK d)).halves.getD e ⟨default, []⟩) (tornD d x (tornK d)).steps.toNat
        have := hoT.s6
        unfold fitN; omega
      have hlw : (whoseL (tornD d x (tornK d)) e d.cards.length).length ≤ d.cards.length := by
        unfold whoseL; rw [List.length_map]; have := List.length_filter_le (fun (c : Nat) => (fairL (tornD d x (tornK d))).any fun t => t.getD e 0 == (c : Int)) (List.range d.cards.length); simpa using this
      have r1 := c39 (fitN (tornD d x (tornK d)) (tornC d x e) e) ((tornA d x e : Nat) : Int) _ (hzz2 _) (by omega)
      have r2 := c39 (whoseL (tornD d x (tornK d)) e d.cards.length) ((tornC d x e : Nat) : Int) _ (hzz2 _) (by omega)
      rw [show ((fitN (tornD d x (tornK d)) (tornC d x e) e).any fun y => y == ((tornA d x e : Nat) : Int)) = true from List.any_eq_true.2 ⟨_, m1, by simp⟩] at r1
      rw [show ((whoseL (tornD d x (tornK d)) e d.cards.length).any fun y => y == ((tornC d x e : Nat) : Int)) = true from List.any_eq_true.2 ⟨_, m2, by simp⟩] at r2
      have hvc3 := vI_clean (fitN (tornD d x (tornK d)) (tornC d x e) e)
      have hvc4 := vI_clean (whoseL (tornD d x (tornK d)) e d.cards.length)
      have hcd : (tornD d x (tornK d)).cards = d.cards := rfl
      simp only [vI, hcd] at q2 hvc3 hvc4
      by_cases hv : cardV (tornD d x (tornK d)) e = -1
      · rw [if_pos hv, if_pos hv] at q3
        simp (disch := omega) only [go_sem, ↓reduceIte, Nat.reduceBEq, Nat.reduceEqDiff, Nat.reduceLT, Nat.reduceLeDiff, Nat.reduceAdd, Nat.reduceMul, Nat.reduceSub, reduceCtorEq, Int.reduceLT, Int.reduceLE, Int.reduceEq, Int.reduceBEq, Int.reduceBNe, Int.reduceToNat, Int.reduceAdd, Int.reduceNeg, Int.reduceSub, eC_clean, eC_under, hei, hz1, hcs, has, g1, g2, q1, q2, q3, r1, r2, wrap_i64, vI]
      · rw [if_neg hv, if_neg hv, m3 hv] at q3
        simp (disch := omega) only [go_sem, ↓reduceIte, Nat.reduceBEq, Nat.reduceEqDiff, Nat.reduceLT, Nat.reduceLeDiff, Nat.reduceAdd, Nat.reduceMul, Nat.reduceSub, reduceCtorEq, Int.reduceLT, Int.reduceLE, Int.reduceEq, Int.reduceBEq, Int.reduceBNe, Int.reduceToNat, Int.reduceAdd, Int.reduceNeg, Int.reduceSub, eC_clean, eC_under, hei, hz1, hcs, has, g1, g2, q1, q2, q3, r1, r2, wrap_i64, vI]
    · simp only [go_sem, ↓reduceIte, Nat.reduceBEq, Nat.reduceEqDiff, Nat.reduceLT, Nat.reduceLeDiff, Nat.reduceAdd, Nat.reduceMul, Nat.reduceSub, reduceCtorEq, Int.reduceLT, Int.reduceLE, Int.reduceEq, Int.reduceBEq, Int.reduceBNe, Int.reduceToNat, Int.reduceAdd, Int.reduceNeg, Int.reduceSub, hcs]
  · have hcf : ((checkT d).2.2 == 0) = false := by simpa using hc
    rw [hcf] at h37
    have h22 := c22_no d hd hc
    have hnz : ((checkT d).2.2 != 0) = true := by simpa using hc
    simp only [go_sem, ↓reduceIte, Nat.reduceBEq, Nat.reduceEqDiff, Nat.reduceLT, Nat.reduceLeDiff, Nat.reduceAdd, Nat.reduceMul, Nat.reduceSub, reduceCtorEq, Int.reduceLT, Int.reduceLE, Int.reduceEq, Int.reduceBEq, Int.reduceBNe, Int.reduceToNat, Int.reduceAdd, Int.reduceNeg, Int.reduceSub, eD, eDc, eC_under, vI_nil] at hcl h37 h22 ⊢
    simp (disch := omega) only [go_sem, ↓reduceIte, Nat.reduceBEq, Nat.reduceEqDiff, Nat.reduceLT, Nat.reduceLeDiff, Nat.reduceAdd, Nat.reduceMul, Nat.reduceSub, reduceCtorEq, Int.reduceLT, Int.reduceLE, Int.reduceEq, Int.reduceBEq, Int.reduceBNe, Int.reduceToNat, Int.reduceAdd, Int.reduceNeg, Int.reduceSub, eC_clean, eC_under, h37, h22, h21, hnz]
    exact ⟨_, rfl⟩
end Go.Proofs.Ytbfodfepgefloaa
