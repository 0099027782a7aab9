/- The body of TokenSure. Conditions: those of each law. -/
import Derived.Test.YtbfodfepgefloaaQ20
set_option linter.unusedSimpArgs false
set_option linter.unusedVariables false
namespace Go.Proofs.Ytbfodfepgefloaa
open Go.Proofs

/-- The cards that are read of so many halves. -/
def readL (d : Dr) : Nat → List Int
  | 0 => []
  | k + 1 => if cardV d k = -1 then readL d k else readL d k ++ [cardV d k]
theorem readL_len (d : Dr) : ∀ k, (readL d k).length ≤ k
  | 0 => by simp [readL]
  | k + 1 => by
    have := readL_len d k
    unfold readL
    split
    · omega
    · simp; omega
theorem mem_readL {d : Dr} {x : Int} : ∀ {k : Nat}, x ∈ readL d k → ∃ j, j < k ∧ x = cardV d j ∧ cardV d j ≠ -1
  | 0, h => by simp [readL] at h
  | k + 1, h => by
    unfold readL at h
    split at h
    · obtain ⟨j, h1, h2⟩ := mem_readL h; exact ⟨j, by omega, h2⟩
    · rename_i hc
      rcases List.mem_append.1 h with h | h
      · obtain ⟨j, h1, h2⟩ := mem_readL h; exact ⟨j, by omega, h2⟩
      · simp at h; exact ⟨k, by omega, h, hc⟩
theorem read_new {d : Dr} {k : Nat} (hk : k < d.halves.length) (hc : cardV d k ≠ -1) : ((readL d k).any fun x => x == cardV d k) = false := by
  rw [List.any_eq_false]
  intro x hx he
  obtain ⟨j, hj, rfl, hne⟩ := mem_readL hx
  have he : cardV d j = cardV d k := by simpa using he
  have hf := first_mem d
  have h1 := card_all hc _ hf
  have h2 := card_all hne _ hf
  have := (fair_truth hf).apart hk hj (by rw [h1, h2, he])
  rw [h1] at this
  exact hc this
theorem l9 (d : Dr) (hd : d.fits) (x : Int) (hx : 0 ≤ x ∧ x ≤ 255) : ∃ h', (EW tabX).call 9 [eD d, .int .u8 x] noHeap = some (.bool true, h') := by
  have hcl := eD_clean d
  have h21 := c21
  have h37 := c37 d hd
  rw [noHeap, w_call _ fn_9 rfl]
  by_cases hc : (checkT d).2.2 = 0
  · obtain ⟨ho, hk⟩ := ok_of_check hc
    have hc4 := ho.c4
    have hh4 := ho.h4
    rw [hc] at h37
    obtain ⟨ys, hrow, hyc, h40⟩ := c40 d hd ho
    have hpos : 0 < (fairL d).length := List.length_pos_iff.2 (fairL_ne d)
    have hfl := fairL_len d ho
    have hyl := hrow.1
    obtain ⟨i, hi, hix⟩ : ∃ i : Nat, i < (fairL d).length ∧ x.tmod ys.length = i := by
      obtain ⟨n, rfl⟩ : ∃ n : Nat, x = n := ⟨x.toNat, by omega⟩
      refine ⟨n % (fairL d).length, Nat.mod_lt _ hpos, ?_⟩
      rw [hyl]; rfl
    have hti := List.getElem?_eq_getElem hi
    obtain ⟨tg, z, hy, hz⟩ := hrow.2 i _ hti
    have hm := fairL_mem (List.getElem_mem hi)
    have hmem := List.getElem_mem hi
    generalize (fairL d)[i] = t at hti hy hz hm hmem
    have htl := hm.2
    have hyn : ys ≠ [] := by intro h; rw [h] at hyl; simp at hyl; omega
    have hy0 : ((ys.length : Int) = 0) = False := by simp only [eq_iff_iff, iff_false]; omega
    have hib : (i : Int) < ys.length := by omega
    simp only [go_sem, ↓reduceIte, Nat.reduceBEq, Nat.reduceEqDiff, Nat.reduceLT, Nat.reduceLeDiff, Nat.reduceAdd, Nat.reduceMul, Nat.reduceSub, reduceCtorEq, Int.reduceLT, Int.reduceLE, Int.reduceEq, Int.reduceBEq, Int.reduceBNe, Int.reduceToNat, Int.reduceAdd, Int.reduceNeg, Int.reduceSub, eD, eDc, eC_under] at hcl h37 h40 ⊢
    simp (disch := omega) only [go_sem, ↓reduceIte, Nat.reduceBEq, Nat.reduceEqDiff, Nat.reduceLT, Nat.reduceLeDiff, Nat.reduceAdd, Nat.reduceMul, Nat.reduceSub, reduceCtorEq, Int.reduceLT, Int.reduceLE, Int.reduceEq, Int.reduceBEq, Int.reduceBNe, Int.reduceToNat, Int.reduceAdd, Int.reduceNeg, Int.reduceSub, eC_clean, h37, h40, wrap_i64, hy0, hix, hib, hy]
    rw [w_rounds_h (fun k => [(9, ownT [] (readL d k)), (10, .int .i64 k)]) (fun k => ⟨[.cells (eDc d)], T [] (readL d k).length⟩) d.halves.length (.exit 0) [(9, ownT [] (readL d d.halves.length)), (10, .int .i64 d.halves.length)] ⟨[.cells (eDc d)], T [] (readL d d.halves.length).length⟩ ?_ ?_ ?_ ?_ rfl]
    · simp only [go_sem, ↓reduceIte, Nat.reduceBEq, Nat.reduceEqDiff, Nat.reduceLT, Nat.reduceLeDiff, Nat.reduceAdd, Nat.reduceMul, Nat.reduceSub, reduceCtorEq, Int.reduceLT, Int.reduceLE, Int.reduceEq, Int.reduceBEq, Int.reduceBNe, Int.reduceToNat, Int.reduceAdd, Int.reduceNeg, Int.reduceSub, h21]
      exact ⟨_, rfl⟩
    · simp only [go_sem, ↓reduceIte, Nat.reduceBEq, Nat.reduceEqDiff, Nat.reduceLT, Nat.reduceLeDiff, Nat.reduceAdd, Nat.reduceMul, Nat.reduceSub, reduceCtorEq, Int.reduceLT, Int.reduceLE, Int.reduceEq, Int.reduceBEq, Int.reduceBNe, Int.reduceToNat, Int.reduceAdd, Int.reduceNeg, Int.reduceSub, readL, ownT_nil]
    · simp only [go_sem, ↓reduceIte, Nat.reduceBEq, Nat.reduceEqDiff, Nat.reduceLT, Nat.reduceLeDiff, Nat.reduceAdd, Nat.reduceMul, Nat.reduceSub, reduceCtorEq, Int.reduceLT, Int.reduceLE, Int.reduceEq, Int.reduceBEq, Int.reduceBNe, Int.reduceToNat, Int.reduceAdd, Int.reduceNeg, Int.reduceSub, readL, eDc]
    · intro k hk
      have hki : (k : Int) < d.halves.length := by omega
      have hz1 : z = 1 := hz (by intro h; rw [h] at htl; simp at htl; omega)
      subst hz1
      have htk : t[k]? = some (t.getD k 0) := by rw [List.getD_eq_getElem?_getD, List.getElem?_eq_getElem (by omega)]; rfl
      have hkt : (k : Int) < t.length := by omega
      have h28 := c28_yes d hd k (askedE_in d hc k _ hk)
      have h26 := c26_yes d hd k (askedE_in d hc k _ hk)
      have hwl := whoseL_len d k d.cards.length
      have h41 : ∀ h, callPure (EW tabX) 41 [vI (whoseL d k d.cards.length), .int .i64 d.cards.length] h = some (.bool true, h) := fun h => by
        rw [vI, c41 _ _ _ zT_ne (by omega), whose_ris]
      have hrl := readL_len d k
      have hap := ownT_app [] (readL d k) (cardV d k) (by omega)
      have hoc := ownT_clean [] (readL d k)
      have h39r : ∀ h, callPure (EW tabX) 39 [vI (readL d k), .int .i64 (cardV d k)] h = some (.bool ((readL d k).any fun x => x == cardV d k), h) := fun h => by
        rw [vI, c39 _ _ _ zT_ne (by omega)]
      have h39w : t.getD k 0 ≠ -1 → ∀ h, callPure (EW tabX) 39 [vI (whoseL d k d.cards.length), .int .i64 (t.getD k 0)] h = some (.bool true, h) := fun hne h => by
        rw [vI, c39 _ _ _ zT_ne (by omega)]
        have hr := (fair_truth hmem).rng hk
        have : (whoseL d k d.cards.length).any (fun x => x == t.getD k 0) = true := by
          rw [List.any_eq_true]
          exact ⟨_, mem_whose.2 ⟨(t.getD k 0).toNat, by omega, rfl, t, hmem, by omega⟩, by rw [beq_iff_eq]; omega⟩
        rw [this]
      simp only [go_sem, ↓reduceIte, Nat.reduceBEq, Nat.reduceEqDiff, Nat.reduceLT, Nat.reduceLeDiff, Nat.reduceAdd, Nat.reduceMul, Nat.reduceSub, reduceCtorEq, Int.reduceLT, Int.reduceLE, Int.reduceEq, Int.reduceBEq, Int.reduceBNe, Int.reduceToNat, Int.reduceAdd, Int.reduceNeg, Int.reduceSub, eD, eDc] at h28 h26
      by_cases hcv : cardV d k = -1
      · have hre : readL d (k + 1) = readL d k := by rw [readL, if_pos hcv]
        rw [if_pos hcv, if_pos hcv] at h28
        rw [hre]
        by_cases htn : t.getD k 0 = -1
        · rw [htn] at htk
          simp (disch := omega) only [go_sem, ↓reduceIte, Nat.reduceBEq, Nat.reduceEqDiff, Nat.reduceLT, Nat.reduceLeDiff, Nat.reduceAdd, Nat.reduceMul, Nat.reduceSub, reduceCtorEq, Int.reduceLT, Int.reduceLE, Int.reduceEq, Int.reduceBEq, Int.reduceBNe, Int.reduceToNat, Int.reduceAdd, Int.reduceNeg, Int.reduceSub, eC_clean, hki, hkt, htk, h28, h26, h41, vI_clean, wrap_i64, eDc]
        · have hb : (t.getD k 0 != -1) = true := by rw [bne_iff_ne]; exact htn
          simp (disch := omega) only [go_sem, ↓reduceIte, Nat.reduceBEq, Nat.reduceEqDiff, Nat.reduceLT, Nat.reduceLeDiff, Nat.reduceAdd, Nat.reduceMul, Nat.reduceSub, reduceCtorEq, Int.reduceLT, Int.reduceLE, Int.reduceEq, Int.reduceBEq, Int.reduceBNe, Int.reduceToNat, Int.reduceAdd, Int.reduceNeg, Int.reduceSub, eC_clean, hki, hkt, htk, h28, h26, h41, vI_clean, wrap_i64, eDc, hb, h39w htn]
      · have hre : readL d (k + 1) = readL d k ++ [cardV d k] := by rw [readL, if_neg hcv]
        rw [if_neg hcv, if_neg hcv] at h28
        have htc := card_all hcv t hmem
        have hw1 := whose_one hk hcv
        have hb : (cardV d k != -1) = true := by rw [bne_iff_ne]; exact hcv
        rw [htc] at htk h39w
        have h39' := h39w hcv
        rw [hw1] at h26 h41 h39'
        rw [read_new hk hcv] at h39r
        have h20 := fun h => k20 [cardV d k] (by simp) h [.int .i64 (cardV d k)] 1 rfl rfl (by simp)
        rw [hre]
        simp (disch := omega) only [go_sem, ↓reduceIte, Nat.reduceBEq, Nat.reduceEqDiff, Nat.reduceLT, Nat.reduceLeDiff, Nat.reduceAdd, Nat.reduceMul, Nat.reduceSub, reduceCtorEq, Int.reduceLT, Int.reduceLE, Int.reduceEq, Int.reduceBEq, Int.reduceBNe, Int.reduceToNat, Int.reduceAdd, Int.reduceNeg, Int.reduceSub, eC_clean, hki, hkt, htk, h28, h26, h41, vI_clean, wrap_i64, eDc, hb, h39', ne_same, h20, hoc, h39r, hap]
    · simp only [go_sem, ↓reduceIte, Nat.reduceBEq, Nat.reduceEqDiff, Nat.reduceLT, Nat.reduceLeDiff, Nat.reduceAdd, Nat.reduceMul, Nat.reduceSub, reduceCtorEq, Int.reduceLT, Int.reduceLE, Int.reduceEq, Int.reduceBEq, Int.reduceBNe, Int.reduceToNat, Int.reduceAdd, Int.reduceNeg, Int.reduceSub, eDc]
  · have hcf : ((checkT d).2.2 == 0) = false := by simpa using hc
    rw [hcf] at h37
    have ha : askedE d 0 d.halves.length = (checkT d).2.2 := by unfold askedE; rw [if_neg hc]
    have h28 := c28_no d hd 0 (by rw [ha]; exact hc)
    rw [ha] at h28
    have hne : ((checkT d).2.2 != 0) = true := by simpa using hc
    simp only [go_sem, ↓reduceIte, Nat.reduceBEq, Nat.reduceEqDiff, Nat.reduceLT, Nat.reduceLeDiff, Nat.reduceAdd, Nat.reduceMul, Nat.reduceSub, reduceCtorEq, Int.reduceLT, Int.reduceLE, Int.reduceEq, Int.reduceBEq, Int.reduceBNe, Int.reduceToNat, Int.reduceAdd, Int.reduceNeg, Int.reduceSub, eD, eDc, eC_under] at hcl h28 h37 ⊢
    simp only [go_sem, ↓reduceIte, Nat.reduceBEq, Nat.reduceEqDiff, Nat.reduceLT, Nat.reduceLeDiff, Nat.reduceAdd, Nat.reduceMul, Nat.reduceSub, reduceCtorEq, Int.reduceLT, Int.reduceLE, Int.reduceEq, Int.reduceBEq, Int.reduceBNe, Int.reduceToNat, Int.reduceAdd, Int.reduceNeg, Int.reduceSub, eC_clean, h28, h37, hne, h21]
    exact ⟨_, rfl⟩
end Go.Proofs.Ytbfodfepgefloaa
