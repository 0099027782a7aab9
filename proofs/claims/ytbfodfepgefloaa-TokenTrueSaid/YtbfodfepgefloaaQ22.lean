/- The body of TokenFewest. Conditions: those of each law. -/
import Derived.Test.YtbfodfepgefloaaQ21
set_option linter.unusedSimpArgs false
set_option linter.unusedVariables false
namespace Go.Proofs.Ytbfodfepgefloaa
open Go.Proofs

theorem ltB_of_lt_le : ∀ {a b c : List Int}, ltB a b = true → ltB c b = false → ltB a c = true
  | a, [], c, h, _ => by cases a <;> simp [ltB] at h
  | [], y :: ys, [], _, h2 => by simp [ltB] at h2
  | [], y :: ys, z :: zs, _, _ => rfl
  | x :: xs, y :: ys, [], _, h2 => by simp [ltB] at h2
  | x :: xs, y :: ys, z :: zs, h1, h2 => by
    unfold ltB at h1 h2 ⊢
    by_cases e1 : x = y
    · rw [if_pos e1] at h1
      by_cases e2 : z = y
      · rw [if_pos e2] at h2
        rw [if_pos (by omega)]
        exact ltB_of_lt_le h1 h2
      · rw [if_neg e2] at h2
        rw [if_neg (by omega)]
        simp at h2 ⊢; omega
    · rw [if_neg e1] at h1
      simp at h1
      by_cases e2 : z = y
      · rw [if_neg (by omega)]; simp; omega
      · rw [if_neg e2] at h2
        simp at h2
        rw [if_neg (by omega)]; simp; omega
theorem ltB_asymm : ∀ {a b : List Int}, ltB a b = true → ltB b a = false
  | a, [], h => by cases a <;> simp [ltB] at h
  | [], y :: ys, _ => rfl
  | x :: xs, y :: ys, h => by
    unfold ltB at h ⊢
    by_cases e : x = y
    · rw [if_pos e] at h
      rw [if_pos e.symm]
      exact ltB_asymm h
    · rw [if_neg e] at h
      rw [if_neg (fun h => e h.symm)]
      simp at h ⊢; omega
/-- The best is one of them, and none comes before it. -/
theorem bestL_spec : ∀ (l : List (List Int)) (b : List Int), (bestL b l = b ∨ ∃ t ∈ l, bestL b l = lostT t) ∧ ltB b (bestL b l) = false ∧ ∀ t ∈ l, ltB (lostT t) (bestL b l) = false
  | [], b => ⟨.inl rfl, ltB_irrefl b, fun t h => by cases h⟩
  | u :: l, b => by
    have e : bestL b (u :: l) = bestL (if ltB (lostT u) b then lostT u else b) l := rfl
    rw [e]
    by_cases h : ltB (lostT u) b = true
    · rw [if_pos h]
      obtain ⟨h1, h2, h3⟩ := bestL_spec l (lostT u)
      refine ⟨?_, ?_, fun t ht => ?_⟩
      · rcases h1 with h1 | ⟨t, ht, h1⟩
        · exact .inr ⟨u, by simp, h1⟩
        · exact .inr ⟨t, by simp [ht], h1⟩
      · cases hb : ltB b (bestL (lostT u) l) with
        | false => rfl
        | true =>
          have := ltB_of_lt_le h (ltB_asymm hb)
          rw [h2] at this; cases this
      · rcases List.mem_cons.1 ht with rfl | ht
        · exact h2
        · exact h3 t ht
    · rw [if_neg h]
      obtain ⟨h1, h2, h3⟩ := bestL_spec l b
      refine ⟨?_, h2, fun t ht => ?_⟩
      · rcases h1 with h1 | ⟨t, ht, h1⟩
        · exact .inl h1
        · exact .inr ⟨t, by simp [ht], h1⟩
      · rcases List.mem_cons.1 ht with rfl | ht
        · cases hb : ltB (lostT t) (bestL b l) with
          | false => rfl
          | true =>
            exfalso
            apply h
            exact ltB_of_lt_le hb h2
        · exact h3 t ht
theorem forged_spec (d : Dr) : (∃ t ∈ fairL d, forged d = lostT t) ∧ ∀ t ∈ fairL d, ltB (lostT t) (forged d) = false := by
  obtain ⟨h1, h2, h3⟩ := bestL_spec ((fairL d).drop 1) (lostT (first d))
  constructor
  · rcases h1 with h1 | ⟨t, ht, h1⟩
    · exact ⟨first d, first_mem d, h1⟩
    · exact ⟨t, List.mem_of_mem_drop ht, h1⟩
  · intro t ht
    rw [fairL_cons] at ht
    rcases List.mem_cons.1 ht with rfl | ht
    · exact h2
    · exact h3 t ht
theorem forged_many (d : Dr) : (forged d).length = lostN (first d) := by
  obtain ⟨⟨t, ht, h⟩, _⟩ := forged_spec d
  rw [h]
  have h1 := (mem_fair.1 ht).2
  have h2 := (mem_fair.1 (first_mem d)).2
  show lostN t = _
  omega
theorem lostT_ris (t : List Int) : risB (lostT t) t.length = true := by
  refine ris_of (fun x hx => ?_) (pairs_of _ _)
  unfold lostT lostL at hx
  obtain ⟨i, hi, rfl⟩ := List.mem_map.1 hx
  have := List.mem_range.1 (List.mem_filter.1 hi).1
  omega
theorem forged_ris (d : Dr) : risB (forged d) d.halves.length = true := by
  obtain ⟨⟨t, ht, h⟩, _⟩ := forged_spec d
  have := lostT_ris t
  rw [(fair_truth ht).1] at this
  rw [h]; exact this

theorem fit_in {d : Dr} {t : List Int} (h : IsTruth d d.halves.length t) {i : Nat} (hi : i < d.halves.length) (hne : t.getD i 0 ≠ -1) : ∃ c : Nat, c < d.cards.length ∧ t.getD i 0 = (c : Int) ∧ 0 < (fitN d c i).length ∧ ((t.take i).any fun x => x == (c : Int)) = false := by
  rcases h.2 i hi with h1 | ⟨c, h1, h2, h3, h4⟩
  · exact absurd h1 hne
  · refine ⟨c, h1, h2, by unfold okHC at h3; exact of_decide_eq_true h3, ?_⟩
    rw [List.any_eq_false]
    intro x hx he
    obtain ⟨j, hj, e⟩ := List.mem_iff_getElem.1 hx
    rw [List.length_take] at hj
    have := h4 j (by omega)
    rw [List.getElem_take] at e
    have he : x = (c : Int) := by simpa using he
    apply this
    rw [List.getD_eq_getElem?_getD, List.getElem?_eq_getElem (by omega), e, he]; rfl
set_option maxHeartbeats 2000000 in
theorem l10 (d : Dr) (hd : d.fits) (x : Int) (hx : 0 ≤ x ∧ x ≤ 65535) : ∃ h', (EW tabX).call 10 [eD d, .int .u16 x] noHeap = some (.bool true, h') := by
  have hcl := eD_clean d
  have h21 := c21
  have h37 := c37 d hd
  rw [noHeap, w_call _ fn_10 rfl]
  by_cases hc : (checkT d).2.2 = 0
  · obtain ⟨ho, hk⟩ := ok_of_check hc
    have hc4 := ho.c4
    have hh4 := ho.h4
    rw [hc] at h37
    have h22 := c22_yes d hd hc
    have h24 := c24_yes d hd hc
    obtain ⟨ys, hrow, hyc, h44⟩ := c44 d hd ho
    have hf := first_mem d
    have hft := fair_truth hf
    have hfl := hft.1
    have hne0 := truthsL_ne d d.halves.length
    have hpos : 0 < (truthsL d d.halves.length).length := List.length_pos_iff.2 hne0
    have htl := truthsL_len d hc4 d.halves.length
    have hpw : 5 ^ d.halves.length ≤ 625 := by
      have : 5 ^ d.halves.length ≤ 5 ^ 4 := Nat.pow_le_pow_right (by omega) (by omega)
      omega
    have hyl := hrow.1
    obtain ⟨i, hi, hix⟩ : ∃ i : Nat, i < (truthsL d d.halves.length).length ∧ x.tmod ys.length = i := by
      obtain ⟨n, rfl⟩ : ∃ n : Nat, x = n := ⟨x.toNat, by omega⟩
      refine ⟨n % (truthsL d d.halves.length).length, Nat.mod_lt _ hpos, ?_⟩
      rw [hyl]; rfl
    have hti := List.getElem?_eq_getElem hi
    obtain ⟨tg, z, hy, hz⟩ := hrow.2 i _ hti
    have hmem := List.getElem_mem hi
    generalize (truthsL d d.halves.length)[i] = u at hti hy hz hmem
    have hut := (mem_truths d _ u).1 hmem
    have hul := hut.1
    have hy0 : ((ys.length : Int) = 0) = False := by simp only [eq_iff_iff, iff_false]; omega
    have hib : (i : Int) < ys.length := by omega
    have hfm := forged_many d
    have hfo := forged_len d hh4
    have h41 : ∀ h, callPure (EW tabX) 41 [vI (forged d), .int .i64 d.halves.length] h = some (.bool true, h) := fun h => by
      rw [vI, c41 _ _ _ zT_ne (by omega), forged_ris]
    have h45u := c45 u z hz (by omega)
    have h45f := c45 (first d) 1 (fun _ => rfl) (by omega)
    have h46 : ∀ h, callPure (EW tabX) 46 [vI (lostL u u.length), vI (forged d)] h = some (.bool (ltB (lostT u) (forged d)), h) := fun h => by
      have := lostN_le u
      exact c46 (lostT u) (forged d) _ _ zT_ne zT_ne (by unfold lostN at this; unfold lostT; omega) (by omega) h
    have hll := least_le hut
    have hfl2 := (mem_fair.1 hf).2
    have hlast : lostN u = lostN (first d) → ltB (lostT u) (forged d) = false := fun he => (forged_spec d).2 u (mem_fair.2 ⟨hut, by omega⟩)
    have hnu : lostN (first d) ≤ lostN u := by omega
    have eu : (lostL u u.length).length = lostN u := rfl
    have ef : (lostL (first d) (first d).length).length = lostN (first d) := rfl
    have hnn : ∀ a : Int, (a == a) = true := fun a => by simp
    simp only [go_sem, ↓reduceIte, Nat.reduceBEq, Nat.reduceEqDiff, Nat.reduceLT, Nat.reduceLeDiff, Nat.reduceAdd, Nat.reduceMul, Nat.reduceSub, reduceCtorEq, Int.reduceLT, Int.reduceLE, Int.reduceEq, Int.reduceBEq, Int.reduceBNe, Int.reduceToNat, Int.reduceAdd, Int.reduceNeg, Int.reduceSub, eD, eDc, eC_under] at hcl h37 h44 h22 h24 ⊢
    simp only [vI, hfm, eu, ef] at h41 h45u h45f h46
    simp (disch := omega) only [go_sem, ↓reduceIte, Nat.reduceBEq, Nat.reduceEqDiff, Nat.reduceLT, Nat.reduceLeDiff, Nat.reduceAdd, Nat.reduceMul, Nat.reduceSub, reduceCtorEq, Int.reduceLT, Int.reduceLE, Int.reduceEq, Int.reduceBEq, Int.reduceBNe, Int.reduceToNat, Int.reduceAdd, Int.reduceNeg, Int.reduceSub, eC_clean, h37, h44, h22, h24, wrap_i64, h41, ne_same, vI, hfm, hfl]
    rw [w_rounds_u (fun k => [(10, .int .i64 k)]) d.halves.length (.exit 0) [(10, .int .i64 d.halves.length)] ?_ ?_ ?_ rfl]
    · by_cases hnn2 : lostN u = lostN (first d)
      · have hl1 := hlast hnn2
        rw [hl1] at h46
        have q1 : ((lostN u : Int) < lostN (first d)) = False := by simp only [eq_iff_iff, iff_false]; omega
        have q2 : ((lostN (first d) : Int) < lostN u) = False := by simp only [eq_iff_iff, iff_false]; omega
        have q3 : ((lostN (first d) : Int) ≤ lostN u) = True := by simp only [eq_iff_iff, iff_true]; omega
        simp (disch := omega) only [go_sem, ↓reduceIte, Nat.reduceBEq, Nat.reduceEqDiff, Nat.reduceLT, Nat.reduceLeDiff, Nat.reduceAdd, Nat.reduceMul, Nat.reduceSub, reduceCtorEq, Int.reduceLT, Int.reduceLE, Int.reduceEq, Int.reduceBEq, Int.reduceBNe, Int.reduceToNat, Int.reduceAdd, Int.reduceNeg, Int.reduceSub, eC_clean, h44, hy0, hix, hib, hy, wrap_i64, h45u, h45f, h46, h21, vI, eu, ef, q1, q2, q3]
        exact ⟨_, rfl⟩
      · have q2 : ((lostN (first d) : Int) < lostN u) = True := by simp only [eq_iff_iff, iff_true]; omega
        have q3 : ((lostN (first d) : Int) ≤ lostN u) = True := by simp only [eq_iff_iff, iff_true]; omega
        simp (disch := omega) only [go_sem, ↓reduceIte, Nat.reduceBEq, Nat.reduceEqDiff, Nat.reduceLT, Nat.reduceLeDiff, Nat.reduceAdd, Nat.reduceMul, Nat.reduceSub, reduceCtorEq, Int.reduceLT, Int.reduceLE, Int.reduceEq, Int.reduceBEq, Int.reduceBNe, Int.reduceToNat, Int.reduceAdd, Int.reduceNeg, Int.reduceSub, eC_clean, h44, hy0, hix, hib, hy, wrap_i64, h45u, h45f, h46, h21, vI, eu, ef, q2, q3]
        exact ⟨_, rfl⟩
    · simp only [go_sem, ↓reduceIte, Nat.reduceBEq, Nat.reduceEqDiff, Nat.reduceLT, Nat.reduceLeDiff, Nat.reduceAdd, Nat.reduceMul, Nat.reduceSub, reduceCtorEq, Int.reduceLT, Int.reduceLE, Int.reduceEq, Int.reduceBEq, Int.reduceBNe, Int.reduceToNat, Int.reduceAdd, Int.reduceNeg, Int.reduceSub]
    · intro k hk
      have hki : (k : Int) < d.halves.length := by omega
      have hkf : (k : Int) < (first d).length := by omega
      have hk0 : k ≤ d.halves.length := by omega
      have htk : (first d)[k]? = some ((first d).getD k 0) := by rw [List.getD_eq_getElem?_getD, List.getElem?_eq_getElem (by omega)]; rfl
      have hr := hft.rng hk
      have hin : inR ((first d).getD k 0) (-1) ((d.cards.length : Int) - 1) = true := by simp only [inR, Bool.and_eq_true, decide_eq_true_eq]; omega
      have h42 : ∀ h, callPure (EW tabX) 42 [.int .i64 ((first d).getD k 0), .int .i64 (-1), .int .i64 ((d.cards.length : Int) - 1)] h = some (.bool true, h) := fun h => by rw [c42, hin]
      by_cases hm1 : (first d).getD k 0 = -1
      · rw [hm1] at htk h42
        simp (disch := omega) only [go_sem, ↓reduceIte, Nat.reduceBEq, Nat.reduceEqDiff, Nat.reduceLT, Nat.reduceLeDiff, Nat.reduceAdd, Nat.reduceMul, Nat.reduceSub, reduceCtorEq, Int.reduceLT, Int.reduceLE, Int.reduceEq, Int.reduceBEq, Int.reduceBNe, Int.reduceToNat, Int.reduceAdd, Int.reduceNeg, Int.reduceSub, eC_clean, hki, hkf, htk, h42, wrap_i64, hfl]
      · have hb : ((first d).getD k 0 != -1) = true := by rw [bne_iff_ne]; exact hm1
        obtain ⟨c, e1, e2, e3, e4⟩ := fit_in hft hk hm1
        have hkk : d.halves[k]? = some (d.halves.getD k ⟨default, []⟩) := by rw [List.getD_eq_getElem?_getD, List.getElem?_eq_getElem hk]; rfl
        have h43 := c43 d hd ho c k _ _ (card_at d c e1) hkk
        have h39 := c39 ((first d).take k) c 1 (fun _ => rfl) (by rw [List.length_take]; omega)
        rw [e4] at h39
        have e3' : ((fitsL d (d.cards.getD c ⟨default, []⟩) (d.halves.getD k ⟨default, []⟩) d.steps.toNat).length : Int) ≠ 0 := by unfold fitN at e3; omega
        have e5 : (((fitsL d (d.cards.getD c ⟨default, []⟩) (d.halves.getD k ⟨default, []⟩) d.steps.toNat).length : Int) == 0) = false := by rw [beq_eq_false_iff_ne]; exact e3'
        rw [e2] at htk h42 hb
        simp only [go_sem, ↓reduceIte, Nat.reduceBEq, Nat.reduceEqDiff, Nat.reduceLT, Nat.reduceLeDiff, Nat.reduceAdd, Nat.reduceMul, Nat.reduceSub, reduceCtorEq, Int.reduceLT, Int.reduceLE, Int.reduceEq, Int.reduceBEq, Int.reduceBNe, Int.reduceToNat, Int.reduceAdd, Int.reduceNeg, Int.reduceSub, eD, eDc, vI] at h43
        simp (disch := omega) only [go_sem, ↓reduceIte, Nat.reduceBEq, Nat.reduceEqDiff, Nat.reduceLT, Nat.reduceLeDiff, Nat.reduceAdd, Nat.reduceMul, Nat.reduceSub, reduceCtorEq, Int.reduceLT, Int.reduceLE, Int.reduceEq, Int.reduceBEq, Int.reduceBNe, Int.reduceToNat, Int.reduceAdd, Int.reduceNeg, Int.reduceSub, eC_clean, hki, hkf, hk0, htk, h42, wrap_i64, hfl, hb, h39, h43, e5, vI]
    · simp only [go_sem, ↓reduceIte, Nat.reduceBEq, Nat.reduceEqDiff, Nat.reduceLT, Nat.reduceLeDiff, Nat.reduceAdd, Nat.reduceMul, Nat.reduceSub, reduceCtorEq, Int.reduceLT, Int.reduceLE, Int.reduceEq, Int.reduceBEq, Int.reduceBNe, Int.reduceToNat, Int.reduceAdd, Int.reduceNeg, Int.reduceSub, hfl]
  · have hcf : ((checkT d).2.2 == 0) = false := by simpa using hc
    rw [hcf] at h37
    have h22 := c22_no d hd hc
    have h24 := c24_no d hd hc
    have hne : ((checkT d).2.2 != 0) = true := by simpa using hc
    have hee : ((checkT d).2.2 == (checkT d).2.2) = true := by simp
    simp only [go_sem, ↓reduceIte, Nat.reduceBEq, Nat.reduceEqDiff, Nat.reduceLT, Nat.reduceLeDiff, Nat.reduceAdd, Nat.reduceMul, Nat.reduceSub, reduceCtorEq, Int.reduceLT, Int.reduceLE, Int.reduceEq, Int.reduceBEq, Int.reduceBNe, Int.reduceToNat, Int.reduceAdd, Int.reduceNeg, Int.reduceSub, eD, eDc, eC_under] at hcl h22 h24 h37 ⊢
    simp (disch := omega) only [go_sem, ↓reduceIte, Nat.reduceBEq, Nat.reduceEqDiff, Nat.reduceLT, Nat.reduceLeDiff, Nat.reduceAdd, Nat.reduceMul, Nat.reduceSub, reduceCtorEq, Int.reduceLT, Int.reduceLE, Int.reduceEq, Int.reduceBEq, Int.reduceBNe, Int.reduceToNat, Int.reduceAdd, Int.reduceNeg, Int.reduceSub, eC_clean, h22, h24, h37, hne, h21, hee, vI, wrap_i64]
    exact ⟨_, rfl⟩
end Go.Proofs.Ytbfodfepgefloaa
