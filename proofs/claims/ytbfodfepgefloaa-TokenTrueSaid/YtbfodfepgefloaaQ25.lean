/- The body of TokenNew. Conditions: those of each law. -/
import Derived.Test.YtbfodfepgefloaaQ24
set_option linter.unusedSimpArgs false
set_option linter.unusedVariables false
namespace Go.Proofs.Ytbfodfepgefloaa
open Go.Proofs

/-- At most three cards. -/
def cutD (d : Dr) : Dr := { d with cards := d.cards.take 3 }
theorem cutD_fits {d : Dr} (hd : d.fits) : (cutD d).fits := by
  refine ⟨fun h => hd.zc (fun e => h (by show d.cards.take 3 = []; rw [e]; rfl)), hd.zh, ?_, hd.lh, fun c hc => hd.nc c (List.mem_of_mem_take hc), hd.nh⟩
  have := hd.lc
  show (d.cards.take 3).length < _
  rw [List.length_take]; omega
theorem take_some {α : Type} {l : List α} {n i : Nat} {x : α} (h : (l.take n)[i]? = some x) : l[i]? = some x := by
  rw [List.getElem?_take] at h
  split at h
  · exact h
  · cases h
theorem cutD_ok {d : Dr} (ho : d.Ok) : (cutD d).Ok :=
  ⟨ho.s1, ho.s6, ho.l1, ho.ls, ho.w0, ho.w9, by show (d.cards.take 3).length ≤ 4; rw [List.length_take]; omega, ho.h4, fun c hc => ho.ce c (List.mem_of_mem_take hc), ho.he, fun i j x y hx hy => ho.cn i j x y (take_some hx) (take_some hy), ho.hn, fun c hc => ho.ck c (List.mem_of_mem_take hc), ho.hk⟩
theorem edge_newE {d : Dr} (ho : d.Ok) {x : List Int} (hx : ∀ n ∈ x, 0 ≤ n ∧ n ≤ 255) : newE d (edgeL x d.steps.toNat) = 0 := by
  have s1 := ho.s1
  have hl := edgeL_len x d.steps.toNat
  unfold newE
  rw [if_pos (checked ho), if_neg (by rw [hl]; simp; omega), if_neg]
  have : ((edgeL x d.steps.toNat).all fun n => inR n 0 9) = true := by
    rw [List.all_eq_true]
    intro n hn
    unfold edgeL at hn
    obtain ⟨i, _, rfl⟩ := List.mem_map.1 hn
    have ht := tmod_rng (turnL_rng hx i).1 (show (0 : Int) < 10 by omega)
    simp only [inR, Bool.and_eq_true, decide_eq_true_eq]; omega
  rw [this]; simp
theorem newL_any (d : Dr) (l : List Int) (n c : Nat) (hc : c < n) : ((newL d l n).any fun x => x == (c : Int)) = nearB d.wear l (cardE d c) d.least.toNat := by
  rw [Bool.eq_iff_iff, List.any_eq_true]
  unfold newL
  constructor
  · rintro ⟨x, hx, e⟩
    obtain ⟨k, hk, rfl⟩ := List.mem_map.1 hx
    have e2 : (k : Int) = c := by simpa using e
    have : k = c := by omega
    subst this
    exact (List.mem_filter.1 hk).2
  · intro h
    exact ⟨(c : Int), List.mem_map.2 ⟨c, List.mem_filter.2 ⟨List.mem_range.2 hc, h⟩, rfl⟩, by simp⟩
theorem newL_ris (d : Dr) (l : List Int) : risB (newL d l d.cards.length) d.cards.length = true := by
  unfold newL
  refine ris_of (fun x hx => ?_) ?_
  · obtain ⟨k, hk, rfl⟩ := List.mem_map.1 hx
    have := List.mem_range.1 (List.mem_filter.1 hk).1
    omega
  · rw [List.pairwise_map]
    exact (List.Pairwise.filter _ List.pairwise_lt_range).imp fun h => by omega
theorem withD_last (d : Dr) (name : ByteArray) (edge : List Int) : cardE (withD d name edge) d.cards.length = edge := by
  unfold cardE withD
  rw [List.getD_eq_getElem?_getD]
  simp
theorem withD_alike (d : Dr) (name : ByteArray) (edge : List Int) {c : Nat} (hc : c < d.cards.length) : alikeB (withD d name edge) c d.cards.length = ((newL d edge d.cards.length).any fun x => x == (c : Int)) := by
  rw [newL_any _ _ _ _ hc]
  unfold alikeB
  rw [withD_last, nearB_symm]
  unfold cardE
  rw [withD_card d name edge hc]; rfl
theorem half_at {d : Dr} {e : Nat} (he : e < d.halves.length) : d.halves[e]? = some (d.halves.getD e ⟨default, []⟩) := by rw [List.getD_eq_getElem?_getD, List.getElem?_eq_getElem he]; rfl
set_option maxHeartbeats 4000000 in
theorem l13 (d : Dr) (hd2 : d.fits ∧ d.zc = 2 ∧ d.zh = 2) (x : List Int) (hx : x.length < 1000000000000000000 ∧ ∀ n ∈ x, 0 ≤ n ∧ n ≤ 255) : ∃ h', (EW tabX).call 13 [eD d, .lst 0 1 (x.map (AV.int .u8))] noHeap = some (.bool true, h') := by
  obtain ⟨hd, hz2, hz3⟩ := hd2
  have hcl := eD_clean d
  have h21 := c21
  have h37 := c37 d hd
  have hxc : cleanL (x.map (AV.int .u8)) = some (x.map (AV.int .u8)) := cleanL_map (fun n => clean_int _ n) x
  rw [noHeap, w_call _ fn_13 rfl]
  by_cases hc : (checkT d).2.2 = 0
  · obtain ⟨ho, hk⟩ := ok_of_check hc
    rw [hc] at h37
    have hm3 : (if (3 : Int) < d.cards.length then (3 : Int) else d.cards.length) = ((min d.cards.length 3 : Nat) : Int) := by split <;> omega
    have htk : (d.cards.map eC).take (min d.cards.length 3) = (cutD d).cards.map eC := by
      show _ = (d.cards.take 3).map eC
      rw [List.map_take, Nat.min_comm, List.take_eq_take_iff]; simp
    have hml : min d.cards.length 3 ≤ d.cards.length := Nat.min_le_left _ _
    have h2n : (0 : Nat) < 2 := by omega
    have hd1 := cutD_fits hd
    have ho1 := cutD_ok ho
    have hc1 := checked ho1
    have hn0 := edge_newE ho1 hx.2
    have hed : (edgeL x (cutD d).steps.toNat) = edgeL x d.steps.toNat := rfl
    have s1 := ho.s1
    have s6 := ho.s6
    have hc4 := ho1.c4
    have hh4 := ho.h4
    have h48 := c48 x hx.2 hx.1
    have hel := edgeL_len x d.steps.toNat
    have hsn : ((d.steps.toNat : Nat) : Int) = d.steps := by omega
    simp only [go_sem, ↓reduceIte, Nat.reduceBEq, Nat.reduceEqDiff, Nat.reduceLT, Nat.reduceLeDiff, Nat.reduceAdd, Nat.reduceMul, Nat.reduceSub, reduceCtorEq, Int.reduceLT, Int.reduceLE, Int.reduceEq, Int.reduceBEq, Int.reduceBNe, Int.reduceToNat, Int.reduceAdd, Int.reduceNeg, Int.reduceSub, eD, eDc, eC_under, hz2, hz3] at hcl h37 ⊢
    simp (disch := omega) only [go_sem, ↓reduceIte, Nat.reduceBEq, Nat.reduceEqDiff, Nat.reduceLT, Nat.reduceLeDiff, Nat.reduceAdd, Nat.reduceMul, Nat.reduceSub, reduceCtorEq, Int.reduceLT, Int.reduceLE, Int.reduceEq, Int.reduceBEq, Int.reduceBNe, Int.reduceToNat, Int.reduceAdd, Int.reduceNeg, Int.reduceSub, eC_clean, eC_under, h37, hm3, htk, hml, h2n]
    rw [w_rounds_h (fun k => [(7, ownT [] (edgeL x k)), (8, .int .i64 k)]) (fun k => ⟨[.cells (eDc (cutD d))], T [] (edgeL x k).length⟩) d.steps.toNat (.exit 0) [(7, ownT [] (edgeL x d.steps.toNat)), (8, .int .i64 d.steps.toNat)] ⟨[.cells (eDc (cutD d))], T [] (edgeL x d.steps.toNat).length⟩ ?_ ?_ ?_ ?_ rfl]
    · have hoc := ownT_clean [] (edgeL x d.steps.toNat)
      have hz1 : zT 1 (edgeL x d.steps.toNat).length = 1 := zT_pos (by omega)
      have hvI : vI (edgeL x d.steps.toNat) = .lst 0 1 (I (edgeL x d.steps.toNat)) := by rw [vI, hz1]
      rw [hvI] at hoc
      have hbz : (⟨#[122, 46, 110, 101, 119]⟩ : ByteArray) = zNew := rfl
      rw [hed] at hn0
      have e3 : (cutD d).zc = 2 := hz2
      have e4 : (cutD d).zh = 2 := hz3
      have e5 : (cutD d).cards.length ≤ 3 := by show (d.cards.take 3).length ≤ 3; rw [List.length_take]; omega
      have e6 := ho1.h4
      generalize edgeL x d.steps.toNat = ed at hel hoc hz1 hvI hn0 ⊢
      generalize cutD d = e0 at hd1 ho1 hc1 hn0 e3 e4 e5 e6 ⊢
      have h34 := c34_yes e0 hd1 ed 1 (fun _ => rfl) (by omega) hn0
      have h49 := c49 e0 (by omega) hd1.zc zNew ed
      have hdW := withD_fits hd1 (by omega) zNew ed (by decide) (by omega)
      have h37' := c37 (withD e0 zNew ed) hdW
      have hclW := eD_clean (withD e0 zNew ed)
      have hcl0 := eD_clean e0
      change ∀ h, callPure (EW tabX) 49 [eD e0, .str zNew, .lst 0 1 (I ed)] h = some (eD (withD e0 zNew ed), h) at h49
      have eDW : eD (withD e0 zNew ed) = .agg [.int .i64 e0.steps, .int .i64 e0.least, .int .i64 e0.wear, .lst 0 2 ((e0.cards ++ [(⟨zNew, ed⟩ : Card)]).map eC), .lst 0 e0.zh (e0.halves.map eC)] := rfl
      have hnl : (newL e0 ed e0.cards.length).length ≤ e0.cards.length := newL_len _ _ _
      have hris := newL_ris e0 ed
      have hzz : newL e0 ed e0.cards.length ≠ [] → zT 1 (newL e0 ed e0.cards.length).length = 1 := fun h => zT_pos (List.length_pos_iff.2 h)
      have h41 := c41 (newL e0 ed e0.cards.length) e0.cards.length _ hzz (by omega)
      have h39 := fun c : Nat => c39 (newL e0 ed e0.cards.length) (c : Int) _ hzz (by omega)
      have hal : ∀ {c : Nat}, c < e0.cards.length → alikeB (withD e0 zNew ed) c e0.cards.length = ((newL e0 ed e0.cards.length).any fun x => x == (c : Int)) := fun hc => withD_alike e0 zNew ed hc
      have hlc := vI_clean (newL e0 ed e0.cards.length)
      rw [hris] at h41
      have hc2 : cleanL ((e0.cards ++ [(⟨zNew, ed⟩ : Card)]).map eC) = some ((e0.cards ++ [(⟨zNew, ed⟩ : Card)]).map eC) := eC_clean _
      have hu2 : ∀ n, underL n ((e0.cards ++ [(⟨zNew, ed⟩ : Card)]).map eC) = true := fun n => eC_under n _
      by_cases hv : (checkT (withD e0 zNew ed)).2.2 = 0
      · obtain ⟨hoW, hkW⟩ := ok_of_check hv
        have hWl : (withD e0 zNew ed).cards.length = e0.cards.length + 1 := by unfold withD; simp
        have hWh : (withD e0 zNew ed).halves = e0.halves := rfl
        have h30 := c30_in _ hdW hv
        have h18 := c18_in _ hdW hv
        rw [hv] at h37'
        rw [eDW] at h49 h30 h18 h37' hclW
        generalize (e0.cards ++ [(⟨zNew, ed⟩ : Card)]).map eC = C2 at h49 h30 h18 h37' hclW hc2 hu2
        simp only [go_sem, ↓reduceIte, Nat.reduceBEq, Nat.reduceEqDiff, Nat.reduceLT, Nat.reduceLeDiff, Nat.reduceAdd, Nat.reduceMul, Nat.reduceSub, reduceCtorEq, Int.reduceLT, Int.reduceLE, Int.reduceEq, Int.reduceBEq, Int.reduceBNe, Int.reduceToNat, Int.reduceAdd, Int.reduceNeg, Int.reduceSub, eD, eDc, eC_under, e3, e4, vI] at hcl0 hclW h34 h49 h30 h18 h37' hlc ⊢
        simp (disch := omega) only [go_sem, ↓reduceIte, Nat.reduceBEq, Nat.reduceEqDiff, Nat.reduceLT, Nat.reduceLeDiff, Nat.reduceAdd, Nat.reduceMul, Nat.reduceSub, reduceCtorEq, Int.reduceLT, Int.reduceLE, Int.reduceEq, Int.reduceBEq, Int.reduceBNe, Int.reduceToNat, Int.reduceAdd, Int.reduceNeg, Int.reduceSub, eC_clean, eC_under, hoc, hbz, h49, hc2, hu2, h34, h37', h41, vI, e3, e4, hlc]
        rw [w_rounds_u (fun k => [(13, .int .i64 k)]) e0.cards.length (.exit 2) [(13, .int .i64 e0.cards.length)] ?_ ?_ ?_ rfl]
        · simp (disch := omega) only [go_sem, ↓reduceIte, Nat.reduceBEq, Nat.reduceEqDiff, Nat.reduceLT, Nat.reduceLeDiff, Nat.reduceAdd, Nat.reduceMul, Nat.reduceSub, reduceCtorEq, Int.reduceLT, Int.reduceLE, Int.reduceEq, Int.reduceBEq, Int.reduceBNe, Int.reduceToNat, Int.reduceAdd, Int.reduceNeg, Int.reduceSub, h21]
          exact ⟨_, rfl⟩
        · simp only [go_sem, ↓reduceIte, Nat.reduceBEq, Nat.reduceEqDiff, Nat.reduceLT, Nat.reduceLeDiff, Nat.reduceAdd, Nat.reduceMul, Nat.reduceSub, reduceCtorEq, Int.reduceLT, Int.reduceLE, Int.reduceEq, Int.reduceBEq, Int.reduceBNe, Int.reduceToNat, Int.reduceAdd, Int.reduceNeg, Int.reduceSub]
        · intro c hc'
          have hci : (c : Int) < e0.cards.length := by omega
          have q1 := h30 c e0.cards.length (by omega) (by omega) (by omega)
          rw [hal hc'] at q1
          have q2 := h39 c
          have hal' := hal hc'
          have hnx : ∀ x : Bool, (x != x) = false := fun x => by simp
          have hr : ∀ e, e < e0.halves.length → (e : Int) < e0.halves.length ∧ e0.halves[e]? = some (e0.halves.getD e ⟨default, []⟩) ∧ (∀ h, callPure (EW tabX) 47 [eC (e0.halves.getD e ⟨default, []⟩)] h = some (.bool (!((e0.halves.getD e ⟨default, []⟩).edge.any fun x => x == -1)), h)) := fun e he =>
            ⟨by omega, half_at he, c47 _ (hd1.nh _ (List.mem_of_getElem? (half_at he))).2⟩
          have inner : ∀ e, e < e0.halves.length → ((e0.halves.getD e ⟨default, []⟩).edge.any fun x => x == -1) = true ∨ ((0 : Int) < (fitN (withD e0 zNew ed) c e).length) = False ∨ ((0 : Int) < (fitN (withD e0 zNew ed) e0.cards.length e).length) = False ∨ alikeB (withD e0 zNew ed) c e0.cards.length = true := fun e he => by
            cases hw : ((e0.halves.getD e ⟨default, []⟩).edge.any fun x => x == -1) with
            | true => exact .inl rfl
            | false =>
              by_cases z1 : fitN (withD e0 zNew ed) c e = []
              · exact .inr (.inl (by rw [z1]; simp))
              · by_cases z2 : fitN (withD e0 zNew ed) e0.cards.length e = []
                · exact .inr (.inr (.inl (by rw [z2]; simp)))
                · exact .inr (.inr (.inr (fits_alike hoW (by omega) (by omega) he hw z1 z2)))
          rw [hal'] at inner
          generalize ((newL e0 ed e0.cards.length).any fun x => x == (c : Int)) = AB at q1 q2 inner
          simp (disch := omega) only [go_sem, ↓reduceIte, Nat.reduceBEq, Nat.reduceEqDiff, Nat.reduceLT, Nat.reduceLeDiff, Nat.reduceAdd, Nat.reduceMul, Nat.reduceSub, reduceCtorEq, Int.reduceLT, Int.reduceLE, Int.reduceEq, Int.reduceBEq, Int.reduceBNe, Int.reduceToNat, Int.reduceAdd, Int.reduceNeg, Int.reduceSub, eC_clean, hci, hc2, hu2, q1, q2, hnx, wrap_i64]
          rw [w_rounds_u (fun k => [(16, .int .i64 k)]) e0.halves.length (.exit 4) [(16, .int .i64 e0.halves.length)] ?_ ?_ ?_ rfl]
          · simp (disch := omega) only [go_sem, ↓reduceIte, Nat.reduceBEq, Nat.reduceEqDiff, Nat.reduceLT, Nat.reduceLeDiff, Nat.reduceAdd, Nat.reduceMul, Nat.reduceSub, reduceCtorEq, Int.reduceLT, Int.reduceLE, Int.reduceEq, Int.reduceBEq, Int.reduceBNe, Int.reduceToNat, Int.reduceAdd, Int.reduceNeg, Int.reduceSub, wrap_i64]
          · simp only [go_sem, ↓reduceIte, Nat.reduceBEq, Nat.reduceEqDiff, Nat.reduceLT, Nat.reduceLeDiff, Nat.reduceAdd, Nat.reduceMul, Nat.reduceSub, reduceCtorEq, Int.reduceLT, Int.reduceLE, Int.reduceEq, Int.reduceBEq, Int.reduceBNe, Int.reduceToNat, Int.reduceAdd, Int.reduceNeg, Int.reduceSub]
          · intro e he
            obtain ⟨r1, r2, r3⟩ := hr e he
            have p1 := h18 c e (by omega) he
            have p2 := h18 e0.cards.length e (by omega) he
            simp only [eC] at r3
            rcases inner e he with hw | hl1 | hl2 | hx
            · rw [hw] at r3
              cases AB <;> simp (disch := omega) only [go_sem, ↓reduceIte, Nat.reduceBEq, Nat.reduceEqDiff, Nat.reduceLT, Nat.reduceLeDiff, Nat.reduceAdd, Nat.reduceMul, Nat.reduceSub, reduceCtorEq, Int.reduceLT, Int.reduceLE, Int.reduceEq, Int.reduceBEq, Int.reduceBNe, Int.reduceToNat, Int.reduceAdd, Int.reduceNeg, Int.reduceSub, eC_clean, hc2, hu2, r1, r2, r3, p1, p2, eC, eC_get, wrap_i64]
            · cases hw : ((e0.halves.getD e ⟨default, []⟩).edge.any fun x => x == -1) <;> rw [hw] at r3 <;> cases AB <;> simp (disch := omega) only [go_sem, ↓reduceIte, Nat.reduceBEq, Nat.reduceEqDiff, Nat.reduceLT, Nat.reduceLeDiff, Nat.reduceAdd, Nat.reduceMul, Nat.reduceSub, reduceCtorEq, Int.reduceLT, Int.reduceLE, Int.reduceEq, Int.reduceBEq, Int.reduceBNe, Int.reduceToNat, Int.reduceAdd, Int.reduceNeg, Int.reduceSub, eC_clean, hc2, hu2, r1, r2, r3, p1, p2, eC, eC_get, wrap_i64, vI, hl1]
            · cases hw : ((e0.halves.getD e ⟨default, []⟩).edge.any fun x => x == -1) <;> rw [hw] at r3 <;> cases AB <;> simp (disch := omega) only [go_sem, ↓reduceIte, Nat.reduceBEq, Nat.reduceEqDiff, Nat.reduceLT, Nat.reduceLeDiff, Nat.reduceAdd, Nat.reduceMul, Nat.reduceSub, reduceCtorEq, Int.reduceLT, Int.reduceLE, Int.reduceEq, Int.reduceBEq, Int.reduceBNe, Int.reduceToNat, Int.reduceAdd, Int.reduceNeg, Int.reduceSub, eC_clean, hc2, hu2, r1, r2, r3, p1, p2, eC, eC_get, wrap_i64, vI, hl2]
            · subst hx
              cases hw : ((e0.halves.getD e ⟨default, []⟩).edge.any fun x => x == -1) <;> rw [hw] at r3 <;> simp (disch := omega) only [go_sem, ↓reduceIte, Nat.reduceBEq, Nat.reduceEqDiff, Nat.reduceLT, Nat.reduceLeDiff, Nat.reduceAdd, Nat.reduceMul, Nat.reduceSub, reduceCtorEq, Int.reduceLT, Int.reduceLE, Int.reduceEq, Int.reduceBEq, Int.reduceBNe, Int.reduceToNat, Int.reduceAdd, Int.reduceNeg, Int.reduceSub, eC_clean, hc2, hu2, r1, r2, r3, p1, p2, eC, eC_get, wrap_i64, vI]
          · simp only [go_sem, ↓reduceIte, Nat.reduceBEq, Nat.reduceEqDiff, Nat.reduceLT, Nat.reduceLeDiff, Nat.reduceAdd, Nat.reduceMul, Nat.reduceSub, reduceCtorEq, Int.reduceLT, Int.reduceLE, Int.reduceEq, Int.reduceBEq, Int.reduceBNe, Int.reduceToNat, Int.reduceAdd, Int.reduceNeg, Int.reduceSub]
        · simp only [go_sem, ↓reduceIte, Nat.reduceBEq, Nat.reduceEqDiff, Nat.reduceLT, Nat.reduceLeDiff, Nat.reduceAdd, Nat.reduceMul, Nat.reduceSub, reduceCtorEq, Int.reduceLT, Int.reduceLE, Int.reduceEq, Int.reduceBEq, Int.reduceBNe, Int.reduceToNat, Int.reduceAdd, Int.reduceNeg, Int.reduceSub]
      · have hvf : ((checkT (withD e0 zNew ed)).2.2 == 0) = false := by simpa using hv
        rw [hvf] at h37'
        rw [eDW] at h49 h37' hclW
        generalize (e0.cards ++ [(⟨zNew, ed⟩ : Card)]).map eC = C2 at h49 h37' hclW hc2 hu2
        simp only [go_sem, ↓reduceIte, Nat.reduceBEq, Nat.reduceEqDiff, Nat.reduceLT, Nat.reduceLeDiff, Nat.reduceAdd, Nat.reduceMul, Nat.reduceSub, reduceCtorEq, Int.reduceLT, Int.reduceLE, Int.reduceEq, Int.reduceBEq, Int.reduceBNe, Int.reduceToNat, Int.reduceAdd, Int.reduceNeg, Int.reduceSub, eD, eDc, eC_under, e3, e4, vI] at hcl0 hclW h34 h49 h37' hlc ⊢
        simp (disch := omega) only [go_sem, ↓reduceIte, Nat.reduceBEq, Nat.reduceEqDiff, Nat.reduceLT, Nat.reduceLeDiff, Nat.reduceAdd, Nat.reduceMul, Nat.reduceSub, reduceCtorEq, Int.reduceLT, Int.reduceLE, Int.reduceEq, Int.reduceBEq, Int.reduceBNe, Int.reduceToNat, Int.reduceAdd, Int.reduceNeg, Int.reduceSub, eC_clean, eC_under, hoc, hbz, h49, hc2, hu2, h34, h37', h41, h21, vI, e3, e4, hlc]
        exact ⟨_, rfl⟩
    · simp only [go_sem, ↓reduceIte, Nat.reduceBEq, Nat.reduceEqDiff, Nat.reduceLT, Nat.reduceLeDiff, Nat.reduceAdd, Nat.reduceMul, Nat.reduceSub, reduceCtorEq, Int.reduceLT, Int.reduceLE, Int.reduceEq, Int.reduceBEq, Int.reduceBNe, Int.reduceToNat, Int.reduceAdd, Int.reduceNeg, Int.reduceSub, edgeL_zero, ownT_nil]
    · simp only [go_sem, ↓reduceIte, Nat.reduceBEq, Nat.reduceEqDiff, Nat.reduceLT, Nat.reduceLeDiff, Nat.reduceAdd, Nat.reduceMul, Nat.reduceSub, reduceCtorEq, Int.reduceLT, Int.reduceLE, Int.reduceEq, Int.reduceBEq, Int.reduceBNe, Int.reduceToNat, Int.reduceAdd, Int.reduceNeg, Int.reduceSub, edgeL_zero, eDc, cutD, hz2, hz3]
    · intro k hk
      have hki : (k : Int) < d.steps := by omega
      have hb := turnL_rng hx.2 k
      have ht := tmod_rng hb.1 (show (0 : Int) < 10 by omega)
      have hlk := edgeL_len x k
      have hap := ownT_app [] (edgeL x k) ((turnL x k).tmod 10) (by omega)
      have hst : (cutD d).steps = d.steps := rfl
      rw [edgeL_succ]
      simp (disch := omega) only [go_sem, ↓reduceIte, Nat.reduceBEq, Nat.reduceEqDiff, Nat.reduceLT, Nat.reduceLeDiff, Nat.reduceAdd, Nat.reduceMul, Nat.reduceSub, reduceCtorEq, Int.reduceLT, Int.reduceLE, Int.reduceEq, Int.reduceBEq, Int.reduceBNe, Int.reduceToNat, Int.reduceAdd, Int.reduceNeg, Int.reduceSub, hki, hxc, h48, wrap_i64, hap, eDc, hst]
    · have hst : (cutD d).steps = d.steps := rfl
      simp only [go_sem, ↓reduceIte, Nat.reduceBEq, Nat.reduceEqDiff, Nat.reduceLT, Nat.reduceLeDiff, Nat.reduceAdd, Nat.reduceMul, Nat.reduceSub, reduceCtorEq, Int.reduceLT, Int.reduceLE, Int.reduceEq, Int.reduceBEq, Int.reduceBNe, Int.reduceToNat, Int.reduceAdd, Int.reduceNeg, Int.reduceSub, hsn, eDc, hst]
  · have hcf : ((checkT d).2.2 == 0) = false := by simpa using hc
    rw [hcf] at h37
    have h34 := c34_no d hd [] 0 (by intro h; exact absurd rfl h) (by decide) (by unfold newE; rw [if_neg hc]; exact hc)
    have hne : newE d [] = (checkT d).2.2 := by unfold newE; rw [if_neg hc]
    have hnz : ((checkT d).2.2 != 0) = true := by simpa using hc
    rw [hne] at h34
    simp only [go_sem, ↓reduceIte, Nat.reduceBEq, Nat.reduceEqDiff, Nat.reduceLT, Nat.reduceLeDiff, Nat.reduceAdd, Nat.reduceMul, Nat.reduceSub, reduceCtorEq, Int.reduceLT, Int.reduceLE, Int.reduceEq, Int.reduceBEq, Int.reduceBNe, Int.reduceToNat, Int.reduceAdd, Int.reduceNeg, Int.reduceSub, eD, eDc, eC_under, vI_nil, List.map_nil] at hcl h37 h34 ⊢
    simp (disch := omega) only [go_sem, ↓reduceIte, Nat.reduceBEq, Nat.reduceEqDiff, Nat.reduceLT, Nat.reduceLeDiff, Nat.reduceAdd, Nat.reduceMul, Nat.reduceSub, reduceCtorEq, Int.reduceLT, Int.reduceLE, Int.reduceEq, Int.reduceBEq, Int.reduceBNe, Int.reduceToNat, Int.reduceAdd, Int.reduceNeg, Int.reduceSub, eC_clean, eC_under, h37, h34, h21, hnz]
    exact ⟨_, rfl⟩
end Go.Proofs.Ytbfodfepgefloaa
