/- The body of TokenTaken. Conditions: those of each law. -/
import Derived.Test.YtbfodfepgefloaaQ18
set_option linter.unusedSimpArgs false
set_option linter.unusedVariables false
namespace Go.Proofs.Ytbfodfepgefloaa
open Go.Proofs

theorem c37 (d : Dr) (hd : d.fits) (h : Heap) : callPure (EW tabX) 37 [eD d] h = some (.bool ((checkT d).2.2 == 0), h) := by
  have h17 := c17 d hd
  have hcl := eD_clean d
  rw [callPure_eq, w_call _ fn_37 rfl]
  simp only [go_sem, ↓reduceIte, Nat.reduceBEq, Nat.reduceEqDiff, Nat.reduceLT, Nat.reduceLeDiff, Nat.reduceAdd, Nat.reduceMul, Nat.reduceSub, reduceCtorEq, Int.reduceLT, Int.reduceLE, Int.reduceEq, Int.reduceBEq, Int.reduceBNe, Int.reduceToNat, Int.reduceAdd, Int.reduceNeg, Int.reduceSub, eD, eDc, eC_under, tup3] at hcl h17 ⊢
  simp only [go_sem, ↓reduceIte, Nat.reduceBEq, Nat.reduceEqDiff, Nat.reduceLT, Nat.reduceLeDiff, Nat.reduceAdd, Nat.reduceMul, Nat.reduceSub, reduceCtorEq, Int.reduceLT, Int.reduceLE, Int.reduceEq, Int.reduceBEq, Int.reduceBNe, Int.reduceToNat, Int.reduceAdd, Int.reduceNeg, Int.reduceSub, eC_clean, h17]
theorem c47 (c : Card) (hl : c.edge.length < 1000000000000000000) (h : Heap) : callPure (EW tabX) 47 [eC c] h = some (.bool (!(c.edge.any fun x => x == -1)), h) := by
  have h39 := c39 c.edge (-1) 1 (fun _ => rfl) hl
  rw [callPure_eq, w_call _ fn_47 rfl]
  simp only [go_sem, ↓reduceIte, Nat.reduceBEq, Nat.reduceEqDiff, Nat.reduceLT, Nat.reduceLeDiff, Nat.reduceAdd, Nat.reduceMul, Nat.reduceSub, reduceCtorEq, Int.reduceLT, Int.reduceLE, Int.reduceEq, Int.reduceBEq, Int.reduceBNe, Int.reduceToNat, Int.reduceAdd, Int.reduceNeg, Int.reduceSub, eC]
  simp only [go_sem, ↓reduceIte, Nat.reduceBEq, Nat.reduceEqDiff, Nat.reduceLT, Nat.reduceLeDiff, Nat.reduceAdd, Nat.reduceMul, Nat.reduceSub, reduceCtorEq, Int.reduceLT, Int.reduceLE, Int.reduceEq, Int.reduceBEq, Int.reduceBNe, Int.reduceToNat, Int.reduceAdd, Int.reduceNeg, Int.reduceSub, h39]
theorem askedE_in (d : Dr) (hc : (checkT d).2.2 = 0) (n m : Nat) (h : n < m) : askedE d n m = 0 := by
  unfold askedE
  rw [if_pos hc, if_pos]
  simp only [inR, Bool.and_eq_true, decide_eq_true_eq]; omega
theorem c30_in (d : Dr) (hd : d.fits) (hc : (checkT d).2.2 = 0) (a b : Nat) (ha : a < d.cards.length) (hb : b < d.cards.length) (hab : a ≠ b) (h : Heap) : callPure (EW tabX) 30 [eD d, .int .i64 a, .int .i64 b] h = some (.tup [.bool (alikeB d a b), .int .i64 0], h) := by
  refine c30_yes d hd a b ?_ h
  unfold alikeE
  rw [if_pos (askedE_in d hc a _ ha), if_pos (askedE_in d hc b _ hb), if_neg (by omega)]
def fitN (d : Dr) (c e : Nat) : List Int := fitsL d (d.cards.getD c ⟨default, []⟩) (d.halves.getD e ⟨default, []⟩) d.steps.toNat
theorem c18_in (d : Dr) (hd : d.fits) (hc : (checkT d).2.2 = 0) (c e : Nat) (hcc : c < d.cards.length) (he : e < d.halves.length) (h : Heap) : callPure (EW tabX) 18 [eD d, .int .i64 c, .int .i64 e] h = some (.tup [vI (fitN d c e), .int .i64 0], h) := by
  rw [c18 d hd c e h]
  unfold fitsAV
  rw [if_pos (askedE_in d hc c _ hcc), if_pos (askedE_in d hc e _ he)]
  rfl

/-! ### The plain law -/
theorem nearB_symm (w : Int) (a b : List Int) (m : Nat) : nearB w a b m = nearB w b a m := by
  have key : ∀ a b, nearB w a b m = true → nearB w b a m = true := fun a b h => by
    obtain ⟨i, k, h1, h2, h3⟩ := nearB_iff.1 h
    refine nearB_iff.2 ⟨k, i, h2, h1, fun n hn => ?_⟩
    have := h3 n hn
    simp only [inR, Bool.and_eq_true, decide_eq_true_eq] at this ⊢
    omega
  rw [Bool.eq_iff_iff]
  exact ⟨key a b, key b a⟩
theorem alikeB_symm (d : Dr) (a b : Nat) : alikeB d a b = alikeB d b a := nearB_symm _ _ _ _
theorem enough_some {d : Dr} (hc : (checkT d).2.2 = 0) (h : (enoughR d).2 = 0) : ∃ m : Nat, (enoughR d).1 = m ∧ 1 ≤ m ∧ (m : Int) ≤ d.steps ∧ metB d m = false := by
  unfold enoughR at h ⊢
  rw [if_pos hc] at h ⊢
  rcases find_range (fun k => !metB d (k + 1)) d.steps.toNat with ⟨f1, f2⟩ | ⟨n, f1, f2, f3, f4⟩
  · rw [f1] at h; cases h
  · rw [f1]
    exact ⟨n + 1, by simp, by omega, by omega, by simpa using f3⟩
theorem enough_two {d : Dr} (hc : (checkT d).2.2 = 0) : (enoughR d).2 = 0 ∨ (enoughR d).1 = 0 ∧ (enoughR d).2 = 9 := by
  unfold enoughR
  rw [if_pos hc]
  cases (List.range d.steps.toNat).find? (fun k => !metB d (k + 1)) with
  | none => exact .inr ⟨rfl, rfl⟩
  | some k => exact .inl rfl
theorem enough_alike {d : Dr} (ho : d.Ok) {m a b : Nat} (hm : metB d m = false) (hl : (m : Int) ≤ d.least) (ha : a < d.cards.length) (hb : b < a) : alikeB d a b = false := by
  cases h : alikeB d a b with
  | false => rfl
  | true =>
    have := ho.l1
    have h2 := nearB_less h (show m ≤ d.least.toNat by omega)
    have : metB d m = true := anyTo_iff.2 ⟨a, ha, anyTo_iff.2 ⟨b, hb, h2⟩⟩
    rw [hm] at this; cases this
theorem fits_alike {d : Dr} (ho : d.Ok) {a b e : Nat} (ha : a < d.cards.length) (hb : b < d.cards.length) (he : e < d.halves.length) (hw : ((d.halves.getD e ⟨default, []⟩).edge.any fun x => x == -1) = false) (h1 : fitN d a e ≠ []) (h2 : fitN d b e ≠ []) : alikeB d a b = true := by
  have hin : ∀ c, fitN d c e ≠ [] → ∃ s, besideB d.wear (cardE d c) (d.halves.getD e ⟨default, []⟩).edge s = true := fun c h => by
    obtain ⟨x, hx⟩ := List.exists_mem_of_ne_nil _ h
    unfold fitN fitsL at hx
    obtain ⟨s, hs, _⟩ := List.mem_map.1 hx
    exact ⟨s, (List.mem_filter.1 hs).2⟩
  obtain ⟨s, hs⟩ := hin a h1
  obtain ⟨t, ht⟩ := hin b h2
  have hee : d.halves[e]? = some (d.halves.getD e ⟨default, []⟩) := by rw [List.getD_eq_getElem?_getD, List.getElem?_eq_getElem he]; rfl
  have hl := (ho.he _ (List.mem_of_getElem? hee)).1
  generalize (d.halves.getD e ⟨default, []⟩).edge = ed at hw hs ht hl
  unfold besideB at hs ht
  simp only [Bool.and_eq_true, decide_eq_true_eq] at hs ht
  have hl1 := ho.l1
  refine nearB_iff.2 ⟨s, t, by omega, by omega, fun n hn => ?_⟩
  have hnl : n < ed.length := by omega
  have q1 := allTo_iff.1 hs.2 n hnl
  have q2 := allTo_iff.1 ht.2 n hnl
  have hne : ed.getD n 0 ≠ -1 := by
    rw [List.any_eq_false] at hw
    have hx : ed.getD n 0 ∈ ed := by rw [List.getD_eq_getElem?_getD, List.getElem?_eq_getElem hnl]; exact List.getElem_mem hnl
    have := hw _ hx
    simpa using this
  unfold fit1 at q1 q2
  simp only [inR, Bool.and_eq_true, Bool.or_eq_true, decide_eq_true_eq, beq_iff_eq] at q1 q2 ⊢
  omega

set_option maxHeartbeats 2000000 in
theorem l11 (d : Dr) (hd : d.fits) : ∃ h', (EW tabX).call 11 [eD d] noHeap = some (.bool true, h') := by
  have hcl := eD_clean d
  have h21 := c21
  have h32 := c32 d hd
  have h37 := c37 d hd
  rw [noHeap, w_call _ fn_11 rfl]
  by_cases hc : (checkT d).2.2 = 0
  · obtain ⟨ho, hk⟩ := ok_of_check hc
    have hc4 := ho.c4
    have hh4 := ho.h4
    have h30 := c30_in d hd hc
    have h18 := c18_in d hd hc
    have h42 : ∀ (m : Nat), 1 ≤ m → (m : Int) ≤ d.steps → ∀ h, callPure (EW tabX) 42 [.int .i64 m, .int .i64 1, .int .i64 d.steps] h = some (.bool true, h) := fun m h1 h2 h => by
      rw [c42]
      have : inR m 1 d.steps = true := by simp only [inR, Bool.and_eq_true, decide_eq_true_eq]; omega
      rw [this]
    rw [hc] at h37
    have hnx : ∀ x : Bool, (x != x) = false := fun x => by simp
    rcases enough_two hc with he | ⟨he0, he9⟩
    · obtain ⟨m, hm, m1, m2, m3⟩ := enough_some hc he
      have h42' := h42 m m1 m2
      rw [he, hm] at h32
      simp only [go_sem, ↓reduceIte, Nat.reduceBEq, Nat.reduceEqDiff, Nat.reduceLT, Nat.reduceLeDiff, Nat.reduceAdd, Nat.reduceMul, Nat.reduceSub, reduceCtorEq, Int.reduceLT, Int.reduceLE, Int.reduceEq, Int.reduceBEq, Int.reduceBNe, Int.reduceToNat, Int.reduceAdd, Int.reduceNeg, Int.reduceSub, eD, eDc, eC_under] at hcl h30 h18 h32 h37 ⊢
      simp only [go_sem, ↓reduceIte, Nat.reduceBEq, Nat.reduceEqDiff, Nat.reduceLT, Nat.reduceLeDiff, Nat.reduceAdd, Nat.reduceMul, Nat.reduceSub, reduceCtorEq, Int.reduceLT, Int.reduceLE, Int.reduceEq, Int.reduceBEq, Int.reduceBNe, Int.reduceToNat, Int.reduceAdd, Int.reduceNeg, Int.reduceSub, eC_clean, h32, h37, h42']
      rw [w_rounds_u (fun k => [(5, .int .i64 k)]) d.cards.length (.exit 0) [(5, .int .i64 d.cards.length)] ?_ ?_ ?_ rfl]
      · simp only [go_sem, ↓reduceIte, Nat.reduceBEq, Nat.reduceEqDiff, Nat.reduceLT, Nat.reduceLeDiff, Nat.reduceAdd, Nat.reduceMul, Nat.reduceSub, reduceCtorEq, Int.reduceLT, Int.reduceLE, Int.reduceEq, Int.reduceBEq, Int.reduceBNe, Int.reduceToNat, Int.reduceAdd, Int.reduceNeg, Int.reduceSub, h21]
        exact ⟨_, rfl⟩
      · simp only [go_sem, ↓reduceIte, Nat.reduceBEq, Nat.reduceEqDiff, Nat.reduceLT, Nat.reduceLeDiff, Nat.reduceAdd, Nat.reduceMul, Nat.reduceSub, reduceCtorEq, Int.reduceLT, Int.reduceLE, Int.reduceEq, Int.reduceBEq, Int.reduceBNe, Int.reduceToNat, Int.reduceAdd, Int.reduceNeg, Int.reduceSub]
      · intro a ha
        have hai : (a : Int) < d.cards.length := by omega
        simp (disch := omega) only [go_sem, ↓reduceIte, Nat.reduceBEq, Nat.reduceEqDiff, Nat.reduceLT, Nat.reduceLeDiff, Nat.reduceAdd, Nat.reduceMul, Nat.reduceSub, reduceCtorEq, Int.reduceLT, Int.reduceLE, Int.reduceEq, Int.reduceBEq, Int.reduceBNe, Int.reduceToNat, Int.reduceAdd, Int.reduceNeg, Int.reduceSub, hai, wrap_i64]
        rw [w_rounds_u (fun k => [(6, .int .i64 k)]) a (.exit 2) [(6, .int .i64 a)] ?_ ?_ ?_ rfl]
        · simp (disch := omega) only [go_sem, ↓reduceIte, Nat.reduceBEq, Nat.reduceEqDiff, Nat.reduceLT, Nat.reduceLeDiff, Nat.reduceAdd, Nat.reduceMul, Nat.reduceSub, reduceCtorEq, Int.reduceLT, Int.reduceLE, Int.reduceEq, Int.reduceBEq, Int.reduceBNe, Int.reduceToNat, Int.reduceAdd, Int.reduceNeg, Int.reduceSub, wrap_i64]
        · simp only [go_sem, ↓reduceIte, Nat.reduceBEq, Nat.reduceEqDiff, Nat.reduceLT, Nat.reduceLeDiff, Nat.reduceAdd, Nat.reduceMul, Nat.reduceSub, reduceCtorEq, Int.reduceLT, Int.reduceLE, Int.reduceEq, Int.reduceBEq, Int.reduceBNe, Int.reduceToNat, Int.reduceAdd, Int.reduceNeg, Int.reduceSub]
        · intro b hb
          have hbi : (b : Int) < a := by omega
          have q1 := h30 a b ha (by omega) (by omega)
          have q2 := h30 b a (by omega) ha (by omega)
          rw [alikeB_symm d b a] at q2
          have hno : alikeB d a b = true → ((m : Int) ≤ d.least) = False := fun h => by simp only [eq_iff_iff, iff_false]; intro hle; rw [enough_alike ho m3 hle ha hb] at h; cases h
          have hr : ∀ e, e < d.halves.length → (e : Int) < d.halves.length ∧ d.halves[e]? = some (d.halves.getD e ⟨default, []⟩) ∧ (∀ h, callPure (EW tabX) 47 [eC (d.halves.getD e ⟨default, []⟩)] h = some (.bool (!((d.halves.getD e ⟨default, []⟩).edge.any fun x => x == -1)), h)) := fun e he => by
            have hx : d.halves[e]? = some (d.halves.getD e ⟨default, []⟩) := by rw [List.getD_eq_getElem?_getD, List.getElem?_eq_getElem he]; rfl
            exact ⟨by omega, hx, c47 _ (hd.nh _ (List.mem_of_getElem? hx)).2⟩
          have inner : ∀ e, e < d.halves.length → ((d.halves.getD e ⟨default, []⟩).edge.any fun x => x == -1) = true ∨ ((0 : Int) < (fitN d a e).length) = False ∨ ((0 : Int) < (fitN d b e).length) = False ∨ alikeB d a b = true := fun e he => by
            cases hw : ((d.halves.getD e ⟨default, []⟩).edge.any fun x => x == -1) with
            | true => exact .inl rfl
            | false =>
              by_cases z1 : fitN d a e = []
              · exact .inr (.inl (by rw [z1]; simp))
              · by_cases z2 : fitN d b e = []
                · exact .inr (.inr (.inl (by rw [z2]; simp)))
                · exact .inr (.inr (.inr (fits_alike ho ha (by omega) he hw z1 z2)))
          have hzh : ∀ e, e < d.halves.length → d.zh = 2 := fun e he => hd.zh (by intro h; rw [h] at he; simp at he)
          cases hab : alikeB d a b with
          | true =>
            have hno' := hno hab
            rw [hab] at q1 q2
            simp (disch := omega) only [go_sem, ↓reduceIte, Nat.reduceBEq, Nat.reduceEqDiff, Nat.reduceLT, Nat.reduceLeDiff, Nat.reduceAdd, Nat.reduceMul, Nat.reduceSub, reduceCtorEq, Int.reduceLT, Int.reduceLE, Int.reduceEq, Int.reduceBEq, Int.reduceBNe, Int.reduceToNat, Int.reduceAdd, Int.reduceNeg, Int.reduceSub, eC_clean, hbi, q1, q2, hnx, hno', wrap_i64]
            rw [w_rounds_u (fun k => [(11, .int .i64 k)]) d.halves.length (.exit 4) [(11, .int .i64 d.halves.length)] ?_ ?_ ?_ rfl]
            · simp (disch := omega) only [go_sem, ↓reduceIte, Nat.reduceBEq, Nat.reduceEqDiff, Nat.reduceLT, Nat.reduceLeDiff, Nat.reduceAdd, Nat.reduceMul, Nat.reduceSub, reduceCtorEq, Int.reduceLT, Int.reduceLE, Int.reduceEq, Int.reduceBEq, Int.reduceBNe, Int.reduceToNat, Int.reduceAdd, Int.reduceNeg, Int.reduceSub, wrap_i64]
            · simp only [go_sem, ↓reduceIte, Nat.reduceBEq, Nat.reduceEqDiff, Nat.reduceLT, Nat.reduceLeDiff, Nat.reduceAdd, Nat.reduceMul, Nat.reduceSub, reduceCtorEq, Int.reduceLT, Int.reduceLE, Int.reduceEq, Int.reduceBEq, Int.reduceBNe, Int.reduceToNat, Int.reduceAdd, Int.reduceNeg, Int.reduceSub]
            · intro e he
              obtain ⟨r1, r2, r3⟩ := hr e he
              have p1 := h18 a e ha he
              have p2 := h18 b e (by omega) he
              have hz2 := hzh e he
              simp only [hz2] at p1 p2
              simp only [eC] at r3
              cases hw : ((d.halves.getD e ⟨default, []⟩).edge.any fun x => x == -1) with
              | true =>
                rw [hw] at r3
                simp (disch := omega) only [go_sem, ↓reduceIte, Nat.reduceBEq, Nat.reduceEqDiff, Nat.reduceLT, Nat.reduceLeDiff, Nat.reduceAdd, Nat.reduceMul, Nat.reduceSub, reduceCtorEq, Int.reduceLT, Int.reduceLE, Int.reduceEq, Int.reduceBEq, Int.reduceBNe, Int.reduceToNat, Int.reduceAdd, Int.reduceNeg, Int.reduceSub, eC_clean, r1, r2, r3, p1, p2, hz2, eC, eC_get, wrap_i64]
              | false =>
                rw [hw] at r3
                simp (disch := omega) only [go_sem, ↓reduceIte, Nat.reduceBEq, Nat.reduceEqDiff, Nat.reduceLT, Nat.reduceLeDiff, Nat.reduceAdd, Nat.reduceMul, Nat.reduceSub, reduceCtorEq, Int.reduceLT, Int.reduceLE, Int.reduceEq, Int.reduceBEq, Int.reduceBNe, Int.reduceToNat, Int.reduceAdd, Int.reduceNeg, Int.reduceSub, eC_clean, r1, r2, r3, p1, p2, hz2, eC, eC_get, wrap_i64, vI]
            · simp only [go_sem, ↓reduceIte, Nat.reduceBEq, Nat.reduceEqDiff, Nat.reduceLT, Nat.reduceLeDiff, Nat.reduceAdd, Nat.reduceMul, Nat.reduceSub, reduceCtorEq, Int.reduceLT, Int.reduceLE, Int.reduceEq, Int.reduceBEq, Int.reduceBNe, Int.reduceToNat, Int.reduceAdd, Int.reduceNeg, Int.reduceSub]
          | false =>
            rw [hab] at q1 q2
            simp (disch := omega) only [go_sem, ↓reduceIte, Nat.reduceBEq, Nat.reduceEqDiff, Nat.reduceLT, Nat.reduceLeDiff, Nat.reduceAdd, Nat.reduceMul, Nat.reduceSub, reduceCtorEq, Int.reduceLT, Int.reduceLE, Int.reduceEq, Int.reduceBEq, Int.reduceBNe, Int.reduceToNat, Int.reduceAdd, Int.reduceNeg, Int.reduceSub, eC_clean, hbi, q1, q2, hnx, wrap_i64]
            rw [w_rounds_u (fun k => [(11, .int .i64 k)]) d.halves.length (.exit 4) [(11, .int .i64 d.halves.length)] ?_ ?_ ?_ rfl]
            · simp (disch := omega) only [go_sem, ↓reduceIte, Nat.reduceBEq, Nat.reduceEqDiff, Nat.reduceLT, Nat.reduceLeDiff, Nat.reduceAdd, Nat.reduceMul, Nat.reduceSub, reduceCtorEq, Int.reduceLT, Int.reduceLE, Int.reduceEq, Int.reduceBEq, Int.reduceBNe, Int.reduceToNat, Int.reduceAdd, Int.reduceNeg, Int.reduceSub, wrap_i64]
            · simp only [go_sem, ↓reduceIte, Nat.reduceBEq, Nat.reduceEqDiff, Nat.reduceLT, Nat.reduceLeDiff, Nat.reduceAdd, Nat.reduceMul, Nat.reduceSub, reduceCtorEq, Int.reduceLT, Int.reduceLE, Int.reduceEq, Int.reduceBEq, Int.reduceBNe, Int.reduceToNat, Int.reduceAdd, Int.reduceNeg, Int.reduceSub]
            · intro e he
              obtain ⟨r1, r2, r3⟩ := hr e he
              have p1 := h18 a e ha he
              have p2 := h18 b e (by omega) he
              have hz2 := hzh e he
              simp only [hz2] at p1 p2
              simp only [eC] at r3
              rcases inner e he with hw | hl1 | hl2 | hx
              · rw [hw] at r3
                simp (disch := omega) only [go_sem, ↓reduceIte, Nat.reduceBEq, Nat.reduceEqDiff, Nat.reduceLT, Nat.reduceLeDiff, Nat.reduceAdd, Nat.reduceMul, Nat.reduceSub, reduceCtorEq, Int.reduceLT, Int.reduceLE, Int.reduceEq, Int.reduceBEq, Int.reduceBNe, Int.reduceToNat, Int.reduceAdd, Int.reduceNeg, Int.reduceSub, eC_clean, r1, r2, r3, p1, p2, hz2, eC, eC_get, wrap_i64]
              · cases hw : ((d.halves.getD e ⟨default, []⟩).edge.any fun x => x == -1) <;> rw [hw] at r3 <;> simp (disch := omega) only [go_sem, ↓reduceIte, Nat.reduceBEq, Nat.reduceEqDiff, Nat.reduceLT, Nat.reduceLeDiff, Nat.reduceAdd, Nat.reduceMul, Nat.reduceSub, reduceCtorEq, Int.reduceLT, Int.reduceLE, Int.reduceEq, Int.reduceBEq, Int.reduceBNe, Int.reduceToNat, Int.reduceAdd, Int.reduceNeg, Int.reduceSub, eC_clean, r1, r2, r3, p1, p2, hz2, eC, eC_get, wrap_i64, vI, hl1]
              · cases hw : ((d.halves.getD e ⟨default, []⟩).edge.any fun x => x == -1) <;> rw [hw] at r3 <;> simp (disch := omega) only [go_sem, ↓reduceIte, Nat.reduceBEq, Nat.reduceEqDiff, Nat.reduceLT, Nat.reduceLeDiff, Nat.reduceAdd, Nat.reduceMul, Nat.reduceSub, reduceCtorEq, Int.reduceLT, Int.reduceLE, Int.reduceEq, Int.reduceBEq, Int.reduceBNe, Int.reduceToNat, Int.reduceAdd, Int.reduceNeg, Int.reduceSub, eC_clean, r1, r2, r3, p1, p2, hz2, eC, eC_get, wrap_i64, vI, hl2]
              · rw [hab] at hx; cases hx
            · simp only [go_sem, ↓reduceIte, Nat.reduceBEq, Nat.reduceEqDiff, Nat.reduceLT, Nat.reduceLeDiff, Nat.reduceAdd, Nat.reduceMul, Nat.reduceSub, reduceCtorEq, Int.reduceLT, Int.reduceLE, Int.reduceEq, Int.reduceBEq, Int.reduceBNe, Int.reduceToNat, Int.reduceAdd, Int.reduceNeg, Int.reduceSub]
        · simp only [go_sem, ↓reduceIte, Nat.reduceBEq, Nat.reduceEqDiff, Nat.reduceLT, Nat.reduceLeDiff, Nat.reduceAdd, Nat.reduceMul, Nat.reduceSub, reduceCtorEq, Int.reduceLT, Int.reduceLE, Int.reduceEq, Int.reduceBEq, Int.reduceBNe, Int.reduceToNat, Int.reduceAdd, Int.reduceNeg, Int.reduceSub]
      · simp only [go_sem, ↓reduceIte, Nat.reduceBEq, Nat.reduceEqDiff, Nat.reduceLT, Nat.reduceLeDiff, Nat.reduceAdd, Nat.reduceMul, Nat.reduceSub, reduceCtorEq, Int.reduceLT, Int.reduceLE, Int.reduceEq, Int.reduceBEq, Int.reduceBNe, Int.reduceToNat, Int.reduceAdd, Int.reduceNeg, Int.reduceSub]
    · rw [he0, he9] at h32
      simp only [go_sem, ↓reduceIte, Nat.reduceBEq, Nat.reduceEqDiff, Nat.reduceLT, Nat.reduceLeDiff, Nat.reduceAdd, Nat.reduceMul, Nat.reduceSub, reduceCtorEq, Int.reduceLT, Int.reduceLE, Int.reduceEq, Int.reduceBEq, Int.reduceBNe, Int.reduceToNat, Int.reduceAdd, Int.reduceNeg, Int.reduceSub, eD, eDc, eC_under] at hcl h30 h18 h32 h37 ⊢
      simp only [go_sem, ↓reduceIte, Nat.reduceBEq, Nat.reduceEqDiff, Nat.reduceLT, Nat.reduceLeDiff, Nat.reduceAdd, Nat.reduceMul, Nat.reduceSub, reduceCtorEq, Int.reduceLT, Int.reduceLE, Int.reduceEq, Int.reduceBEq, Int.reduceBNe, Int.reduceToNat, Int.reduceAdd, Int.reduceNeg, Int.reduceSub, eC_clean, h32, h37]
      rw [w_rounds_u (fun k => [(5, .int .i64 k)]) d.cards.length (.exit 0) [(5, .int .i64 d.cards.length)] ?_ ?_ ?_ rfl]
      · simp only [go_sem, ↓reduceIte, Nat.reduceBEq, Nat.reduceEqDiff, Nat.reduceLT, Nat.reduceLeDiff, Nat.reduceAdd, Nat.reduceMul, Nat.reduceSub, reduceCtorEq, Int.reduceLT, Int.reduceLE, Int.reduceEq, Int.reduceBEq, Int.reduceBNe, Int.reduceToNat, Int.reduceAdd, Int.reduceNeg, Int.reduceSub, h21]
        exact ⟨_, rfl⟩
      · simp only [go_sem, ↓reduceIte, Nat.reduceBEq, Nat.reduceEqDiff, Nat.reduceLT, Nat.reduceLeDiff, Nat.reduceAdd, Nat.reduceMul, Nat.reduceSub, reduceCtorEq, Int.reduceLT, Int.reduceLE, Int.reduceEq, Int.reduceBEq, Int.reduceBNe, Int.reduceToNat, Int.reduceAdd, Int.reduceNeg, Int.reduceSub]
      · intro a ha
        have hai : (a : Int) < d.cards.length := by omega
        simp (disch := omega) only [go_sem, ↓reduceIte, Nat.reduceBEq, Nat.reduceEqDiff, Nat.reduceLT, Nat.reduceLeDiff, Nat.reduceAdd, Nat.reduceMul, Nat.reduceSub, reduceCtorEq, Int.reduceLT, Int.reduceLE, Int.reduceEq, Int.reduceBEq, Int.reduceBNe, Int.reduceToNat, Int.reduceAdd, Int.reduceNeg, Int.reduceSub, hai, wrap_i64]
        rw [w_rounds_u (fun k => [(6, .int .i64 k)]) a (.exit 2) [(6, .int .i64 a)] ?_ ?_ ?_ rfl]
        · simp (disch := omega) only [go_sem, ↓reduceIte, Nat.reduceBEq, Nat.reduceEqDiff, Nat.reduceLT, Nat.reduceLeDiff, Nat.reduceAdd, Nat.reduceMul, Nat.reduceSub, reduceCtorEq, Int.reduceLT, Int.reduceLE, Int.reduceEq, Int.reduceBEq, Int.reduceBNe, Int.reduceToNat, Int.reduceAdd, Int.reduceNeg, Int.reduceSub, wrap_i64]
        · simp only [go_sem, ↓reduceIte, Nat.reduceBEq, Nat.reduceEqDiff, Nat.reduceLT, Nat.reduceLeDiff, Nat.reduceAdd, Nat.reduceMul, Nat.reduceSub, reduceCtorEq, Int.reduceLT, Int.reduceLE, Int.reduceEq, Int.reduceBEq, Int.reduceBNe, Int.reduceToNat, Int.reduceAdd, Int.reduceNeg, Int.reduceSub]
        · intro b hb
          have hbi : (b : Int) < a := by omega
          have q1 := h30 a b ha (by omega) (by omega)
          have q2 := h30 b a (by omega) ha (by omega)
          rw [alikeB_symm d b a] at q2
          have hno : alikeB d a b = true → True := fun h => trivial
          have hr : ∀ e, e < d.halves.length → (e : Int) < d.halves.length ∧ d.halves[e]? = some (d.halves.getD e ⟨default, []⟩) ∧ (∀ h, callPure (EW tabX) 47 [eC (d.halves.getD e ⟨default, []⟩)] h = some (.bool (!((d.halves.getD e ⟨default, []⟩).edge.any fun x => x == -1)), h)) := fun e he => by
            have hx : d.halves[e]? = some (d.halves.getD e ⟨default, []⟩) := by rw [List.getD_eq_getElem?_getD, List.getElem?_eq_getElem he]; rfl
            exact ⟨by omega, hx, c47 _ (hd.nh _ (List.mem_of_getElem? hx)).2⟩
          have inner : ∀ e, e < d.halves.length → ((d.halves.getD e ⟨default, []⟩).edge.any fun x => x == -1) = true ∨ ((0 : Int) < (fitN d a e).length) = False ∨ ((0 : Int) < (fitN d b e).length) = False ∨ alikeB d a b = true := fun e he => by
            cases hw : ((d.halves.getD e ⟨default, []⟩).edge.any fun x => x == -1) with
            | true => exact .inl rfl
            | false =>
              by_cases z1 : fitN d a e = []
              · exact .inr (.inl (by rw [z1]; simp))
              · by_cases z2 : fitN d b e = []
                · exact .inr (.inr (.inl (by rw [z2]; simp)))
                · exact .inr (.inr (.inr (fits_alike ho ha (by omega) he hw z1 z2)))
          have hzh : ∀ e, e < d.halves.length → d.zh = 2 := fun e he => hd.zh (by intro h; rw [h] at he; simp at he)
          cases hab : alikeB d a b with
          | true =>
            have hno' := hno hab
            rw [hab] at q1 q2
            simp (disch := omega) only [go_sem, ↓reduceIte, Nat.reduceBEq, Nat.reduceEqDiff, Nat.reduceLT, Nat.reduceLeDiff, Nat.reduceAdd, Nat.reduceMul, Nat.reduceSub, reduceCtorEq, Int.reduceLT, Int.reduceLE, Int.reduceEq, Int.reduceBEq, Int.reduceBNe, Int.reduceToNat, Int.reduceAdd, Int.reduceNeg, Int.reduceSub, eC_clean, hbi, q1, q2, hnx, hno', wrap_i64]
            rw [w_rounds_u (fun k => [(11, .int .i64 k)]) d.halves.length (.exit 4) [(11, .int .i64 d.halves.length)] ?_ ?_ ?_ rfl]
            · simp (disch := omega) only [go_sem, ↓reduceIte, Nat.reduceBEq, Nat.reduceEqDiff, Nat.reduceLT, Nat.reduceLeDiff, Nat.reduceAdd, Nat.reduceMul, Nat.reduceSub, reduceCtorEq, Int.reduceLT, Int.reduceLE, Int.reduceEq, Int.reduceBEq, Int.reduceBNe, Int.reduceToNat, Int.reduceAdd, Int.reduceNeg, Int.reduceSub, wrap_i64]
            · simp only [go_sem, ↓reduceIte, Nat.reduceBEq, Nat.reduceEqDiff, Nat.reduceLT, Nat.reduceLeDiff, Nat.reduceAdd, Nat.reduceMul, Nat.reduceSub, reduceCtorEq, Int.reduceLT, Int.reduceLE, Int.reduceEq, Int.reduceBEq, Int.reduceBNe, Int.reduceToNat, Int.reduceAdd, Int.reduceNeg, Int.reduceSub]
            · intro e he
              obtain ⟨r1, r2, r3⟩ := hr e he
              have p1 := h18 a e ha he
              have p2 := h18 b e (by omega) he
              have hz2 := hzh e he
              simp only [hz2] at p1 p2
              simp only [eC] at r3
              cases hw : ((d.halves.getD e ⟨default, []⟩).edge.any fun x => x == -1) with
              | true =>
                rw [hw] at r3
                simp (disch := omega) only [go_sem, ↓reduceIte, Nat.reduceBEq, Nat.reduceEqDiff, Nat.reduceLT, Nat.reduceLeDiff, Nat.reduceAdd, Nat.reduceMul, Nat.reduceSub, reduceCtorEq, Int.reduceLT, Int.reduceLE, Int.reduceEq, Int.reduceBEq, Int.reduceBNe, Int.reduceToNat, Int.reduceAdd, Int.reduceNeg, Int.reduceSub, eC_clean, r1, r2, r3, p1, p2, hz2, eC, eC_get, wrap_i64]
              | false =>
                rw [hw] at r3
                simp (disch := omega) only [go_sem, ↓reduceIte, Nat.reduceBEq, Nat.reduceEqDiff, Nat.reduceLT, Nat.reduceLeDiff, Nat.reduceAdd, Nat.reduceMul, Nat.reduceSub, reduceCtorEq, Int.reduceLT, Int.reduceLE, Int.reduceEq, Int.reduceBEq, Int.reduceBNe, Int.reduceToNat, Int.reduceAdd, Int.reduceNeg, Int.reduceSub, eC_clean, r1, r2, r3, p1, p2, hz2, eC, eC_get, wrap_i64, vI]
            · simp only [go_sem, ↓reduceIte, Nat.reduceBEq, Nat.reduceEqDiff, Nat.reduceLT, Nat.reduceLeDiff, Nat.reduceAdd, Nat.reduceMul, Nat.reduceSub, reduceCtorEq, Int.reduceLT, Int.reduceLE, Int.reduceEq, Int.reduceBEq, Int.reduceBNe, Int.reduceToNat, Int.reduceAdd, Int.reduceNeg, Int.reduceSub]
          | false =>
            rw [hab] at q1 q2
            simp (disch := omega) only [go_sem, ↓reduceIte, Nat.reduceBEq, Nat.reduceEqDiff, Nat.reduceLT, Nat.reduceLeDiff, Nat.reduceAdd, Nat.reduceMul, Nat.reduceSub, reduceCtorEq, Int.reduceLT, Int.reduceLE, Int.reduceEq, Int.reduceBEq, Int.reduceBNe, Int.reduceToNat, Int.reduceAdd, Int.reduceNeg, Int.reduceSub, eC_clean, hbi, q1, q2, hnx, wrap_i64]
            rw [w_rounds_u (fun k => [(11, .int .i64 k)]) d.halves.length (.exit 4) [(11, .int .i64 d.halves.length)] ?_ ?_ ?_ rfl]
            · simp (disch := omega) only [go_sem, ↓reduceIte, Nat.reduceBEq, Nat.reduceEqDiff, Nat.reduceLT, Nat.reduceLeDiff, Nat.reduceAdd, Nat.reduceMul, Nat.reduceSub, reduceCtorEq, Int.reduceLT, Int.reduceLE, Int.reduceEq, Int.reduceBEq, Int.reduceBNe, Int.reduceToNat, Int.reduceAdd, Int.reduceNeg, Int.reduceSub, wrap_i64]
            · simp only [go_sem, ↓reduceIte, Nat.reduceBEq, Nat.reduceEqDiff, Nat.reduceLT, Nat.reduceLeDiff, Nat.reduceAdd, Nat.reduceMul, Nat.reduceSub, reduceCtorEq, Int.reduceLT, Int.reduceLE, Int.reduceEq, Int.reduceBEq, Int.reduceBNe, Int.reduceToNat, Int.reduceAdd, Int.reduceNeg, Int.reduceSub]
            · intro e he
              obtain ⟨r1, r2, r3⟩ := hr e he
              have p1 := h18 a e ha he
              have p2 := h18 b e (by omega) he
              have hz2 := hzh e he
              simp only [hz2] at p1 p2
              simp only [eC] at r3
              rcases inner e he with hw | hl1 | hl2 | hx
              · rw [hw] at r3
                simp (disch := omega) only [go_sem, ↓reduceIte, Nat.reduceBEq, Nat.reduceEqDiff, Nat.reduceLT, Nat.reduceLeDiff, Nat.reduceAdd, Nat.reduceMul, Nat.reduceSub, reduceCtorEq, Int.reduceLT, Int.reduceLE, Int.reduceEq, Int.reduceBEq, Int.reduceBNe, Int.reduceToNat, Int.reduceAdd, Int.reduceNeg, Int.reduceSub, eC_clean, r1, r2, r3, p1, p2, hz2, eC, eC_get, wrap_i64]
              · cases hw : ((d.halves.getD e ⟨default, []⟩).edge.any fun x => x == -1) <;> rw [hw] at r3 <;> simp (disch := omega) only [go_sem, ↓reduceIte, Nat.reduceBEq, Nat.reduceEqDiff, Nat.reduceLT, Nat.reduceLeDiff, Nat.reduceAdd, Nat.reduceMul, Nat.reduceSub, reduceCtorEq, Int.reduceLT, Int.reduceLE, Int.reduceEq, Int.reduceBEq, Int.reduceBNe, Int.reduceToNat, Int.reduceAdd, Int.reduceNeg, Int.reduceSub, eC_clean, r1, r2, r3, p1, p2, hz2, eC, eC_get, wrap_i64, vI, hl1]
              · cases hw : ((d.halves.getD e ⟨default, []⟩).edge.any fun x => x == -1) <;> rw [hw] at r3 <;> simp (disch := omega) only [go_sem, ↓reduceIte, Nat.reduceBEq, Nat.reduceEqDiff, Nat.reduceLT, Nat.reduceLeDiff, Nat.reduceAdd, Nat.reduceMul, Nat.reduceSub, reduceCtorEq, Int.reduceLT, Int.reduceLE, Int.reduceEq, Int.reduceBEq, Int.reduceBNe, Int.reduceToNat, Int.reduceAdd, Int.reduceNeg, Int.reduceSub, eC_clean, r1, r2, r3, p1, p2, hz2, eC, eC_get, wrap_i64, vI, hl2]
              · rw [hab] at hx; cases hx
            · simp only [go_sem, ↓reduceIte, Nat.reduceBEq, Nat.reduceEqDiff, Nat.reduceLT, Nat.reduceLeDiff, Nat.reduceAdd, Nat.reduceMul, Nat.reduceSub, reduceCtorEq, Int.reduceLT, Int.reduceLE, Int.reduceEq, Int.reduceBEq, Int.reduceBNe, Int.reduceToNat, Int.reduceAdd, Int.reduceNeg, Int.reduceSub]
        · simp only [go_sem, ↓reduceIte, Nat.reduceBEq, Nat.reduceEqDiff, Nat.reduceLT, Nat.reduceLeDiff, Nat.reduceAdd, Nat.reduceMul, Nat.reduceSub, reduceCtorEq, Int.reduceLT, Int.reduceLE, Int.reduceEq, Int.reduceBEq, Int.reduceBNe, Int.reduceToNat, Int.reduceAdd, Int.reduceNeg, Int.reduceSub]
      · simp only [go_sem, ↓reduceIte, Nat.reduceBEq, Nat.reduceEqDiff, Nat.reduceLT, Nat.reduceLeDiff, Nat.reduceAdd, Nat.reduceMul, Nat.reduceSub, reduceCtorEq, Int.reduceLT, Int.reduceLE, Int.reduceEq, Int.reduceBEq, Int.reduceBNe, Int.reduceToNat, Int.reduceAdd, Int.reduceNeg, Int.reduceSub]
  · have hcf : ((checkT d).2.2 == 0) = false := by simpa using hc
    rw [hcf] at h37
    have he : enoughR d = (0, (checkT d).2.2) := by unfold enoughR; rw [if_neg hc]
    rw [he] at h32
    have hne : ((checkT d).2.2 != 0) = true := by simpa using hc
    refine ⟨?_, ?_⟩
    rotate_left
    · simp only [go_sem, ↓reduceIte, Nat.reduceBEq, Nat.reduceEqDiff, Nat.reduceLT, Nat.reduceLeDiff, Nat.reduceAdd, Nat.reduceMul, Nat.reduceSub, reduceCtorEq, Int.reduceLT, Int.reduceLE, Int.reduceEq, Int.reduceBEq, Int.reduceBNe, Int.reduceToNat, Int.reduceAdd, Int.reduceNeg, Int.reduceSub, eD, eDc, eC_under] at hcl h32 h37 ⊢
      simp only [go_sem, ↓reduceIte, Nat.reduceBEq, Nat.reduceEqDiff, Nat.reduceLT, Nat.reduceLeDiff, Nat.reduceAdd, Nat.reduceMul, Nat.reduceSub, reduceCtorEq, Int.reduceLT, Int.reduceLE, Int.reduceEq, Int.reduceBEq, Int.reduceBNe, Int.reduceToNat, Int.reduceAdd, Int.reduceNeg, Int.reduceSub, eC_clean, h32, h37, hne, h21]
      rfl
end Go.Proofs.Ytbfodfepgefloaa
