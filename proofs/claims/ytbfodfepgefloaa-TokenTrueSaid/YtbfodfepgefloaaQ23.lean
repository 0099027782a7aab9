/- Parts of the proof, joined: When a drawer is valid; more wear. Small helpers of the laws: turn, with, turned. One card more; one half less. Conditions: those of each law. -/
import Derived.Test.YtbfodfepgefloaaQ22
set_option linter.unusedSimpArgs false
set_option linter.unusedVariables false
section
namespace Go.Proofs.Ytbfodfepgefloaa
open Go.Proofs

theorem tmod_rng {x m : Int} (hx : 0 ≤ x) (hm : 0 < m) : 0 ≤ x.tmod m ∧ x.tmod m < m := by
  rw [Int.tmod_eq_emod_of_nonneg hx]
  exact ⟨Int.emod_nonneg _ (by omega), Int.emod_lt_of_pos _ hm⟩
theorem flawE_ok {l : List Card} {i : Nat} {x : Card} (hx : l[i]? = some x) (long : Int → Bool) (least : Int) (h1 : nameOk x.name = true) (h2 : ∀ j y, l[j]? = some y → j < i → y.name ≠ x.name) (h3 : long x.edge.length = false) (h4 : ∀ n ∈ x.edge, least ≤ n ∧ n ≤ 9) : flawE l i long least = 0 := by
  rcases flawE_cases hx long least with ⟨a, _⟩ | ⟨_, a, _⟩ | ⟨_, _, a, _⟩ | ⟨_, _, _, a, _⟩ | ⟨_, _, _, _, e⟩
  · rw [h1] at a; cases a
  · rw [List.any_eq_true] at a
    obtain ⟨y, hy, he⟩ := a
    obtain ⟨j, hj, e⟩ := List.mem_iff_getElem.1 hy
    rw [List.length_take] at hj
    rw [List.getElem_take] at e
    exact absurd ((ba_beq _ _).1 he) (h2 j y (by rw [List.getElem?_eq_getElem (by omega), e]) (by omega))
  · rw [h3] at a; cases a
  · have : (x.edge.all fun n => inR n least 9) = true := by
      rw [List.all_eq_true]
      intro n hn
      have := h4 n hn
      simp only [inR, Bool.and_eq_true, decide_eq_true_eq]; exact this
    rw [this] at a; cases a
  · exact e
theorem noneBad {e : Nat → Int} {n : Nat} (h : ∀ i, i < n → e i = 0) : firstBad e 0 n = none := by
  cases hf : firstBad e 0 n with
  | none => rfl
  | some j =>
    obtain ⟨_, h1, h2, _⟩ := firstBad_some hf
    exact absurd (h j (by omega)) h2
/-- A drawer that is as a valid one is, is valid. -/
theorem check_of_ok {d : Dr} (ho : d.Ok) : checkT d = (0, 0, 0) := by
  refine checkT6 ?_ (by have := ho.c4; omega) (noneBad fun i hi => ?_) (by have := ho.h4; omega) (noneBad fun i hi => ?_)
  · have := ho.s1; have := ho.s6; have := ho.l1; have := ho.ls; have := ho.w0; have := ho.w9
    simp only [out, Bool.or_eq_false_iff, decide_eq_false_iff_not]; omega
  · have hx := List.getElem?_eq_getElem hi
    have hm := List.getElem_mem hi
    refine flawE_ok hx _ _ (ho.ck _ hm) (fun j y hy hj => ho.cn i j _ y hx hy hj) ?_ (ho.ce _ hm).2
    have := (ho.ce _ hm).1
    simp [this]
  · have hx := List.getElem?_eq_getElem hi
    have hm := List.getElem_mem hi
    refine flawE_ok hx _ _ (ho.hk _ hm) (fun j y hy hj => ho.hn i j _ y hx hy hj) ?_ (ho.he _ hm).2.2
    have := ho.he _ hm
    simp only [out, Bool.or_eq_false_iff, decide_eq_false_iff_not]; omega
theorem checked {d : Dr} (ho : d.Ok) : (checkT d).2.2 = 0 := by rw [check_of_ok ho]

/-- A drawer with more wear and a lesser length that is asked for. -/
structure Wider (d e : Dr) : Prop where
  st : e.steps = d.steps
  cs : e.cards = d.cards
  hs : e.halves = d.halves
  w : d.wear ≤ e.wear
  l : e.least ≤ d.least
theorem fit1_more {w v c h : Int} (hw : w ≤ v) (hf : fit1 w c h = true) : fit1 v c h = true := by
  unfold fit1 at hf ⊢
  simp only [inR, Bool.or_eq_true, beq_iff_eq, Bool.and_eq_true, decide_eq_true_eq] at hf ⊢
  omega
theorem beside_more {w v : Int} (hw : w ≤ v) {a b : List Int} {s : Nat} (h : besideB w a b s = true) : besideB v a b s = true := by
  unfold besideB at h ⊢
  simp only [Bool.and_eq_true] at h ⊢
  exact ⟨h.1, allTo_iff.2 fun k hk => fit1_more hw (allTo_iff.1 h.2 k hk)⟩
theorem mem_fitN {d : Dr} {c e : Nat} {x : Int} : x ∈ fitN d c e ↔ ∃ s : Nat, s < d.steps.toNat ∧ x = s ∧ besideB d.wear (cardE d c) (d.halves.getD e ⟨default, []⟩).edge s = true := by
  unfold fitN fitsL
  rw [List.mem_map]
  constructor
  · rintro ⟨s, hs, rfl⟩
    obtain ⟨h1, h2⟩ := List.mem_filter.1 hs
    exact ⟨s, by simpa using h1, rfl, h2⟩
  · rintro ⟨s, h1, rfl, h2⟩
    exact ⟨s, List.mem_filter.2 ⟨by simpa using h1, h2⟩, rfl⟩
theorem okHC_iff {d : Dr} {e c : Nat} : okHC d e c = true ↔ ∃ s : Nat, s < d.steps.toNat ∧ besideB d.wear (cardE d c) (d.halves.getD e ⟨default, []⟩).edge s = true := by
  have h : okHC d e c = true ↔ fitN d c e ≠ [] := by
    unfold okHC
    rw [decide_eq_true_eq, List.length_pos_iff]
    rfl
  rw [h]
  constructor
  · intro h
    obtain ⟨x, hx⟩ := List.exists_mem_of_ne_nil _ h
    obtain ⟨s, h1, _, h2⟩ := mem_fitN.1 hx
    exact ⟨s, h1, h2⟩
  · rintro ⟨s, h1, h2⟩ h
    have := (mem_fitN (x := (s : Int))).2 ⟨s, h1, rfl, h2⟩
    rw [h] at this; cases this
theorem Wider.fit {d e : Dr} (hw : Wider d e) {c i : Nat} {x : Int} (h : x ∈ fitN d c i) : x ∈ fitN e c i := by
  obtain ⟨s, h1, h2, h3⟩ := mem_fitN.1 h
  refine mem_fitN.2 ⟨s, by rw [hw.st]; exact h1, h2, ?_⟩
  unfold cardE
  rw [hw.cs, hw.hs]
  exact beside_more hw.w h3
theorem Wider.ok {d e : Dr} (hw : Wider d e) {c i : Nat} (h : okHC d i c = true) : okHC e i c = true := by
  obtain ⟨s, h1, h2⟩ := okHC_iff.1 h
  have := hw.fit (mem_fitN.2 ⟨s, h1, rfl, h2⟩)
  obtain ⟨s', h1', _, h2'⟩ := mem_fitN.1 this
  exact okHC_iff.2 ⟨s', h1', h2'⟩
/-- A truth stays one where more fits. -/
theorem truth_more {d e : Dr} {n : Nat} {t : List Int} (hc : d.cards.length ≤ e.cards.length) (hok : ∀ i c, i < n → c < d.cards.length → okHC d i c = true → okHC e i c = true) (h : IsTruth d n t) : IsTruth e n t :=
  ⟨h.1, fun i hi => by
    rcases h.2 i hi with h1 | ⟨c, h1, h2, h3, h4⟩
    · exact .inl h1
    · exact .inr ⟨c, by omega, h2, hok i c hi h1 h3, h4⟩⟩
theorem first_le {d e : Dr} (hh : e.halves.length = d.halves.length) (hc : d.cards.length ≤ e.cards.length) (hok : ∀ i c, i < d.halves.length → c < d.cards.length → okHC d i c = true → okHC e i c = true) : lostN (first e) ≤ lostN (first d) := by
  have h1 := truth_more hc hok (fair_truth (first_mem d))
  rw [← hh] at h1
  have h2 := least_le h1
  have h3 := (mem_fair.1 (first_mem e)).2
  omega
theorem Wider.lost {d e : Dr} (hw : Wider d e) : (forged e).length ≤ (forged d).length := by
  rw [forged_many, forged_many]
  exact first_le (by rw [hw.hs]) (by rw [hw.cs]; exact Nat.le_refl _) fun i c _ _ h => hw.ok h
theorem near_more {w v : Int} (hw : w ≤ v) {a b : List Int} {m : Nat} (h : nearB w a b m = true) : nearB v a b m = true := by
  obtain ⟨i, k, h1, h2, h3⟩ := nearB_iff.1 h
  refine nearB_iff.2 ⟨i, k, h1, h2, fun n hn => ?_⟩
  have := h3 n hn
  simp only [inR, Bool.and_eq_true, decide_eq_true_eq] at this ⊢
  omega
theorem Wider.alike {d e : Dr} (hw : Wider d e) {a b : Nat} (h : alikeB d a b = true) : alikeB e a b = true := by
  unfold alikeB cardE at h ⊢
  rw [hw.cs]
  have := hw.l
  exact near_more hw.w (nearB_less h (by omega))
theorem Wider.met {d e : Dr} (hw : Wider d e) {m : Nat} (h : metB d m = true) : metB e m = true := by
  obtain ⟨i, h1, h2⟩ := anyTo_iff.1 h
  obtain ⟨k, h3, h4⟩ := anyTo_iff.1 h2
  refine anyTo_iff.2 ⟨i, by rw [hw.cs]; exact h1, anyTo_iff.2 ⟨k, h3, ?_⟩⟩
  unfold cardE at h4 ⊢
  rw [hw.cs]; exact near_more hw.w h4
theorem enough_none {d : Dr} (hc : (checkT d).2.2 = 0) : (enoughR d).2 = 9 ↔ ∀ k, k < d.steps.toNat → metB d (k + 1) = true := by
  unfold enoughR
  rw [if_pos hc]
  rcases find_range (fun k => !metB d (k + 1)) d.steps.toNat with ⟨f1, f2⟩ | ⟨n, f1, f2, f3, f4⟩
  · rw [f1]
    constructor
    · intro _ k hk
      have := allTo_at f2 hk
      simpa using this
    · intro _; rfl
  · rw [f1]
    constructor
    · intro h; cases h
    · intro h
      have := h n f2
      rw [this] at f3; cases f3
theorem enough_before {d : Dr} (hc : (checkT d).2.2 = 0) {m : Nat} (h : enoughR d = ((m : Int), 0)) : ∀ k, 1 ≤ k → k < m → metB d k = true := by
  unfold enoughR at h
  rw [if_pos hc] at h
  rcases find_range (fun k => !metB d (k + 1)) d.steps.toNat with ⟨f1, f2⟩ | ⟨n, f1, f2, f3, f4⟩
  · rw [f1] at h; simp at h
  · rw [f1] at h
    simp at h
    intro k h1 h2
    have := allTo_at f4 (show k - 1 < n by omega)
    rw [show k - 1 + 1 = k by omega] at this
    simpa using this
theorem Wider.enough {d e : Dr} (hw : Wider d e) (hc : (checkT d).2.2 = 0) (he : (checkT e).2.2 = 0) : ((enoughR d).2 = 9 ∧ (enoughR e).2 = 9) ∨ ((enoughR d).2 = 0 ∧ ((enoughR e).2 = 9 ∨ (enoughR e).2 = 0 ∧ (enoughR d).1 ≤ (enoughR e).1)) := by
  rcases enough_two hc with h0 | ⟨_, h9⟩
  · refine .inr ⟨h0, ?_⟩
    rcases enough_two he with g0 | ⟨_, g9⟩
    · refine .inr ⟨g0, ?_⟩
      obtain ⟨m, m1, m2, m3, m4⟩ := enough_some hc h0
      obtain ⟨n, n1, n2, n3, n4⟩ := enough_some he g0
      rw [m1, n1]
      have hb := enough_before hc (m := m) (Prod.ext m1 h0)
      by_cases hlt : n < m
      · have := hw.met (hb n n2 hlt)
        rw [n4] at this; cases this
      · omega
    · exact .inl g9
  · refine .inl ⟨h9, (enough_none he).2 fun k hk => hw.met ((enough_none hc).1 h9 k (by rw [← hw.st]; exact hk))⟩
end Go.Proofs.Ytbfodfepgefloaa
end
section
namespace Go.Proofs.Ytbfodfepgefloaa
open Go.Proofs

/-- The n-th number, by turns. -/
def turnL (l : List Int) (n : Nat) : Int := if l = [] then 0 else l.getD (n % l.length) 0
theorem turnL_rng {l : List Int} (h : ∀ x ∈ l, 0 ≤ x ∧ x ≤ 255) (n : Nat) : 0 ≤ turnL l n ∧ turnL l n ≤ 255 := by
  unfold turnL
  by_cases hl : l = []
  · rw [if_pos hl]; omega
  · rw [if_neg hl]
    have hp : n % l.length < l.length := Nat.mod_lt _ (List.length_pos_iff.2 hl)
    rw [List.getD_eq_getElem?_getD, List.getElem?_eq_getElem hp]
    exact h _ (List.getElem_mem hp)
theorem c48 (l : List Int) (hr : ∀ x ∈ l, 0 ≤ x ∧ x ≤ 255) (hl : l.length < 1000000000000000000) (n : Nat) (h : Heap) : callPure (EW tabX) 48 [.lst 0 1 (l.map (AV.int .u8)), .int .i64 n] h = some (.int .i64 (turnL l n), h) := by
  rw [callPure_eq, w_call _ fn_48 rfl]
  by_cases hn : l = []
  · subst hn
    simp only [go_sem, ↓reduceIte, Nat.reduceBEq, Nat.reduceEqDiff, Nat.reduceLT, Nat.reduceLeDiff, Nat.reduceAdd, Nat.reduceMul, Nat.reduceSub, reduceCtorEq, Int.reduceLT, Int.reduceLE, Int.reduceEq, Int.reduceBEq, Int.reduceBNe, Int.reduceToNat, Int.reduceAdd, Int.reduceNeg, Int.reduceSub, turnL, if_true]
  · have hpos : 0 < l.length := List.length_pos_iff.2 hn
    have h0 : ((l.length : Int) == 0) = false := by rw [beq_eq_false_iff_ne]; omega
    have h0' : ((l.length : Int) = 0) = False := by simp only [eq_iff_iff, iff_false]; omega
    have hp : n % l.length < l.length := Nat.mod_lt _ hpos
    have hm : (n : Int).tmod l.length = ((n % l.length : Nat) : Int) := rfl
    have hpi : ((n % l.length : Nat) : Int) < l.length := by omega
    have hx : (l.map (AV.int .u8))[n % l.length]? = some (.int .u8 (turnL l n)) := by
      rw [List.getElem?_map, List.getElem?_eq_getElem hp, turnL, if_neg hn, List.getD_eq_getElem?_getD, List.getElem?_eq_getElem hp]; rfl
    have hb := turnL_rng hr n
    simp (disch := omega) only [go_sem, ↓reduceIte, Nat.reduceBEq, Nat.reduceEqDiff, Nat.reduceLT, Nat.reduceLeDiff, Nat.reduceAdd, Nat.reduceMul, Nat.reduceSub, reduceCtorEq, Int.reduceLT, Int.reduceLE, Int.reduceEq, Int.reduceBEq, Int.reduceBNe, Int.reduceToNat, Int.reduceAdd, Int.reduceNeg, Int.reduceSub, h0, h0', hm, hpi, hx, wrap_i64]
theorem c49 (d : Dr) (hl : d.cards.length < 1000) (hz : d.cards ≠ [] → d.zc = 2) (name : ByteArray) (edge : List Int) (h : Heap) : callPure (EW tabX) 49 [eD d, .str name, .lst 0 1 (I edge)] h = some (eD { d with cards := d.cards ++ [⟨name, edge⟩], zc := 2 }, h) := by
  have hcl := eD_clean { d with cards := d.cards ++ [⟨name, edge⟩], zc := 2 }
  obtain ⟨t2, a1, b1, c1, d1⟩ := app_gen (X := tabX) (ty := 22) (e := 71) (sz := 2) (tag := 1) (z := 2) (t := []) (xs := []) (.inl ⟨rfl, rfl⟩) 0 d.zc (d.cards.map eC) (by simp only [go_sem, ↓reduceIte, Nat.reduceBEq, Nat.reduceEqDiff, Nat.reduceLT, Nat.reduceLeDiff, Nat.reduceAdd, Nat.reduceMul, Nat.reduceSub, reduceCtorEq, Int.reduceLT, Int.reduceLE, Int.reduceEq, Int.reduceBEq, Int.reduceBNe, Int.reduceToNat, Int.reduceAdd, Int.reduceNeg, Int.reduceSub]) (by simp only [go_sem, ↓reduceIte, Nat.reduceBEq, Nat.reduceEqDiff, Nat.reduceLT, Nat.reduceLeDiff, Nat.reduceAdd, Nat.reduceMul, Nat.reduceSub, reduceCtorEq, Int.reduceLT, Int.reduceLE, Int.reduceEq, Int.reduceBEq, Int.reduceBNe, Int.reduceToNat, Int.reduceAdd, Int.reduceNeg, Int.reduceSub]) (by omega)
    (by by_cases h : d.cards = []; exact .inr (by rw [h]; rfl); exact .inl (hz h)) (by simp only [go_sem, ↓reduceIte, Nat.reduceBEq, Nat.reduceEqDiff, Nat.reduceLT, Nat.reduceLeDiff, Nat.reduceAdd, Nat.reduceMul, Nat.reduceSub, reduceCtorEq, Int.reduceLT, Int.reduceLE, Int.reduceEq, Int.reduceBEq, Int.reduceBNe, Int.reduceToNat, Int.reduceAdd, Int.reduceNeg, Int.reduceSub, List.length_map]; omega) (by simp only [go_sem, ↓reduceIte, Nat.reduceBEq, Nat.reduceEqDiff, Nat.reduceLT, Nat.reduceLeDiff, Nat.reduceAdd, Nat.reduceMul, Nat.reduceSub, reduceCtorEq, Int.reduceLT, Int.reduceLE, Int.reduceEq, Int.reduceBEq, Int.reduceBNe, Int.reduceToNat, Int.reduceAdd, Int.reduceNeg, Int.reduceSub, List.length_map]; omega) (by simp only [go_sem, ↓reduceIte, Nat.reduceBEq, Nat.reduceEqDiff, Nat.reduceLT, Nat.reduceLeDiff, Nat.reduceAdd, Nat.reduceMul, Nat.reduceSub, reduceCtorEq, Int.reduceLT, Int.reduceLE, Int.reduceEq, Int.reduceBEq, Int.reduceBNe, Int.reduceToNat, Int.reduceAdd, Int.reduceNeg, Int.reduceSub]) (all_map (fun x => by simp only [eC, go_sem, ↓reduceIte, Nat.reduceBEq, Nat.reduceEqDiff, Nat.reduceLT, Nat.reduceLeDiff, Nat.reduceAdd, Nat.reduceMul, Nat.reduceSub, reduceCtorEq, Int.reduceLT, Int.reduceLE, Int.reduceEq, Int.reduceBEq, Int.reduceBNe, Int.reduceToNat, Int.reduceAdd, Int.reduceNeg, Int.reduceSub]) _)
  obtain ⟨t3, a2, b2, c2, d2⟩ := app_gen (X := tabX) (ty := 22) (e := 71) (sz := 2) (tag := ([] : List Bool).length + 2) (z := 2) (t := t2) (xs := d.cards.map eC) (.inr ⟨_, rfl, rfl, c1⟩) 1 2 [.agg [.str name, .lst 0 1 (I edge)]] (by simp only [go_sem, ↓reduceIte, Nat.reduceBEq, Nat.reduceEqDiff, Nat.reduceLT, Nat.reduceLeDiff, Nat.reduceAdd, Nat.reduceMul, Nat.reduceSub, reduceCtorEq, Int.reduceLT, Int.reduceLE, Int.reduceEq, Int.reduceBEq, Int.reduceBNe, Int.reduceToNat, Int.reduceAdd, Int.reduceNeg, Int.reduceSub]) (by simp only [go_sem, ↓reduceIte, Nat.reduceBEq, Nat.reduceEqDiff, Nat.reduceLT, Nat.reduceLeDiff, Nat.reduceAdd, Nat.reduceMul, Nat.reduceSub, reduceCtorEq, Int.reduceLT, Int.reduceLE, Int.reduceEq, Int.reduceBEq, Int.reduceBNe, Int.reduceToNat, Int.reduceAdd, Int.reduceNeg, Int.reduceSub]) (by omega)
    (.inl rfl) (by simp only [go_sem, ↓reduceIte, Nat.reduceBEq, Nat.reduceEqDiff, Nat.reduceLT, Nat.reduceLeDiff, Nat.reduceAdd, Nat.reduceMul, Nat.reduceSub, reduceCtorEq, Int.reduceLT, Int.reduceLE, Int.reduceEq, Int.reduceBEq, Int.reduceBNe, Int.reduceToNat, Int.reduceAdd, Int.reduceNeg, Int.reduceSub, List.length_map]; omega) (by simp only [go_sem, ↓reduceIte, Nat.reduceBEq, Nat.reduceEqDiff, Nat.reduceLT, Nat.reduceLeDiff, Nat.reduceAdd, Nat.reduceMul, Nat.reduceSub, reduceCtorEq, Int.reduceLT, Int.reduceLE, Int.reduceEq, Int.reduceBEq, Int.reduceBNe, Int.reduceToNat, Int.reduceAdd, Int.reduceNeg, Int.reduceSub, List.length_map]; omega) (by simp only [go_sem, ↓reduceIte, Nat.reduceBEq, Nat.reduceEqDiff, Nat.reduceLT, Nat.reduceLeDiff, Nat.reduceAdd, Nat.reduceMul, Nat.reduceSub, reduceCtorEq, Int.reduceLT, Int.reduceLE, Int.reduceEq, Int.reduceBEq, Int.reduceBNe, Int.reduceToNat, Int.reduceAdd, Int.reduceNeg, Int.reduceSub]) (by simp only [go_sem, ↓reduceIte, Nat.reduceBEq, Nat.reduceEqDiff, Nat.reduceLT, Nat.reduceLeDiff, Nat.reduceAdd, Nat.reduceMul, Nat.reduceSub, reduceCtorEq, Int.reduceLT, Int.reduceLE, Int.reduceEq, Int.reduceBEq, Int.reduceBNe, Int.reduceToNat, Int.reduceAdd, Int.reduceNeg, Int.reduceSub])
  rw [callPure_eq, w_call _ fn_49 rfl]
  simp only [List.nil_append] at a1
  simp only [go_sem, ↓reduceIte, Nat.reduceBEq, Nat.reduceEqDiff, Nat.reduceLT, Nat.reduceLeDiff, Nat.reduceAdd, Nat.reduceMul, Nat.reduceSub, reduceCtorEq, Int.reduceLT, Int.reduceLE, Int.reduceEq, Int.reduceBEq, Int.reduceBNe, Int.reduceToNat, Int.reduceAdd, Int.reduceNeg, Int.reduceSub, eD, eDc, eC_under, List.map_append, List.map_cons, List.map_nil, eC] at hcl a1 a2 ⊢
  have hca := eC_clean (d.cards ++ [⟨name, edge⟩])
  simp only [List.map_append, List.map_cons, List.map_nil, eC] at hca
  simp only [go_sem, ↓reduceIte, Nat.reduceBEq, Nat.reduceEqDiff, Nat.reduceLT, Nat.reduceLeDiff, Nat.reduceAdd, Nat.reduceMul, Nat.reduceSub, reduceCtorEq, Int.reduceLT, Int.reduceLE, Int.reduceEq, Int.reduceBEq, Int.reduceBNe, Int.reduceToNat, Int.reduceAdd, Int.reduceNeg, Int.reduceSub, eC_under, a1, a2, hca, eC_clean]
theorem c50 (l : List Int) (z : Nat) (hz : l ≠ [] → z = 1) (hl : l.length < 1000) (h : Heap) : callPure (EW tabX) 50 [.lst 0 z (I l)] h = some (vI l.reverse, h) := by
  rw [callPure_eq, w_call _ fn_50 rfl]
  simp (disch := omega) only [go_sem, ↓reduceIte, Nat.reduceBEq, Nat.reduceEqDiff, Nat.reduceLT, Nat.reduceLeDiff, Nat.reduceAdd, Nat.reduceMul, Nat.reduceSub, reduceCtorEq, Int.reduceLT, Int.reduceLE, Int.reduceEq, Int.reduceBEq, Int.reduceBNe, Int.reduceToNat, Int.reduceAdd, Int.reduceNeg, Int.reduceSub, wrap_i64]
  rw [w_rounds_h (fun k => [(3, ownT [] (l.reverse.take k)), (4, .int .i64 ((l.length : Int) - 1 - k))]) (fun k => ⟨[], T [] (l.reverse.take k).length⟩) l.length (.exit 0) [(3, ownT [] l.reverse), (4, .int .i64 (-1))] ⟨[], T [] l.reverse.length⟩ ?_ ?_ ?_ ?_ rfl]
  · simp only [go_sem, ↓reduceIte, Nat.reduceBEq, Nat.reduceEqDiff, Nat.reduceLT, Nat.reduceLeDiff, Nat.reduceAdd, Nat.reduceMul, Nat.reduceSub, reduceCtorEq, Int.reduceLT, Int.reduceLE, Int.reduceEq, Int.reduceBEq, Int.reduceBNe, Int.reduceToNat, Int.reduceAdd, Int.reduceNeg, Int.reduceSub, ownT_clean, ownT_under]
  · simp only [go_sem, ↓reduceIte, Nat.reduceBEq, Nat.reduceEqDiff, Nat.reduceLT, Nat.reduceLeDiff, Nat.reduceAdd, Nat.reduceMul, Nat.reduceSub, reduceCtorEq, Int.reduceLT, Int.reduceLE, Int.reduceEq, Int.reduceBEq, Int.reduceBNe, Int.reduceToNat, Int.reduceAdd, Int.reduceNeg, Int.reduceSub, ownT_nil, Int.sub_zero]
  · simp only [go_sem, ↓reduceIte, Nat.reduceBEq, Nat.reduceEqDiff, Nat.reduceLT, Nat.reduceLeDiff, Nat.reduceAdd, Nat.reduceMul, Nat.reduceSub, reduceCtorEq, Int.reduceLT, Int.reduceLE, Int.reduceEq, Int.reduceBEq, Int.reduceBNe, Int.reduceToNat, Int.reduceAdd, Int.reduceNeg, Int.reduceSub]
  · intro k hk
    have hki : (0 : Int) ≤ (l.length : Int) - 1 - k := by omega
    have hz1 := hz (by intro e; rw [e] at hk; simp at hk)
    have i1 : ((l.length : Int) - 1 - k < 0) = False := by simp only [eq_iff_iff, iff_false]; omega
    have i2 : ((l.length : Int) - 1 - k).toNat = l.length - 1 - k := by omega
    have i3 : (l.length : Int) - 1 - k < l.length := by omega
    have hx : l[l.length - 1 - k]? = some (l.getD (l.length - 1 - k) 0) := by rw [List.getD_eq_getElem?_getD, List.getElem?_eq_getElem (by omega)]; rfl
    have hrev : l.reverse.take (k + 1) = l.reverse.take k ++ [l.getD (l.length - 1 - k) 0] := by
      rw [List.take_add_one, List.getElem?_reverse hk, hx]; rfl
    have hap := ownT_app [] (l.reverse.take k) (l.getD (l.length - 1 - k) 0) (by rw [List.length_take]; omega)
    have hd : (l.length : Int) - 1 - k - 1 = (l.length : Int) - 1 - (k + 1) := by omega
    rw [hrev]
    simp (disch := omega) only [go_sem, ↓reduceIte, Nat.reduceBEq, Nat.reduceEqDiff, Nat.reduceLT, Nat.reduceLeDiff, Nat.reduceAdd, Nat.reduceMul, Nat.reduceSub, reduceCtorEq, Int.reduceLT, Int.reduceLE, Int.reduceEq, Int.reduceBEq, Int.reduceBNe, Int.reduceToNat, Int.reduceAdd, Int.reduceNeg, Int.reduceSub, hki, hz1, i1, i2, i3, hx, hap, wrap_i64, hd]
  · have e1 : (l.length : Int) - 1 - l.length = -1 := by omega
    have e2 : l.reverse.take l.length = l.reverse := List.take_of_length_le (by simp)
    simp only [go_sem, ↓reduceIte, Nat.reduceBEq, Nat.reduceEqDiff, Nat.reduceLT, Nat.reduceLeDiff, Nat.reduceAdd, Nat.reduceMul, Nat.reduceSub, reduceCtorEq, Int.reduceLT, Int.reduceLE, Int.reduceEq, Int.reduceBEq, Int.reduceBNe, Int.reduceToNat, Int.reduceAdd, Int.reduceNeg, Int.reduceSub, e1, e2]
end Go.Proofs.Ytbfodfepgefloaa
end
section
namespace Go.Proofs.Ytbfodfepgefloaa
open Go.Proofs

theorem lostN_count : ∀ (n : Nat) (t : List Int), t.length = n → lostN t = t.count (-1)
  | 0, t, h => by rw [List.eq_nil_of_length_eq_zero h]; rfl
  | n + 1, t, h => by
    have hne : t ≠ [] := by intro e; rw [e] at h; simp at h
    obtain ⟨u, x, rfl⟩ : ∃ u x, t = u ++ [x] := ⟨t.dropLast, t.getLast hne, (List.dropLast_concat_getLast hne).symm⟩
    have hu : u.length = n := by simpa using h
    rw [lostN_snoc, lostN_count n u hu, List.count_append]
    congr 1
    by_cases hx : x = -1
    · subst hx; rfl
    · rw [if_neg hx, List.count_singleton]
      rw [if_neg (by simpa using hx)]
def withD (d : Dr) (name : ByteArray) (edge : List Int) : Dr := { d with cards := d.cards ++ [⟨name, edge⟩], zc := 2 }
theorem withD_card (d : Dr) (name : ByteArray) (edge : List Int) {c : Nat} (hc : c < d.cards.length) : (withD d name edge).cards.getD c ⟨default, []⟩ = d.cards.getD c ⟨default, []⟩ := by
  unfold withD
  rw [List.getD_eq_getElem?_getD, List.getElem?_append_left hc, ← List.getD_eq_getElem?_getD]
theorem withD_okHC (d : Dr) (name : ByteArray) (edge : List Int) {c : Nat} (hc : c < d.cards.length) (i : Nat) : okHC (withD d name edge) i c = okHC d i c := by
  unfold okHC; rw [withD_card d name edge hc]; rfl
theorem withD_lost (d : Dr) (name : ByteArray) (edge : List Int) : (forged (withD d name edge)).length ≤ (forged d).length := by
  rw [forged_many, forged_many]
  refine first_le rfl (by unfold withD; simp) fun i c _ hc h => ?_
  rw [withD_okHC d name edge hc]; exact h
/-- Without one of the halves. -/
def lessD (d : Dr) (h : Nat) : Dr := { d with halves := d.halves.take h ++ d.halves.drop (h + 1), zh := 2 }
theorem skip_get {α : Type} {l : List α} {h i : Nat} (hh : h < l.length) (x : α) : (l.take h ++ l.drop (h + 1)).getD i x = l.getD (if i < h then i else i + 1) x := by
  rw [List.getD_eq_getElem?_getD, List.getD_eq_getElem?_getD]
  have hl : (l.take h).length = h := by rw [List.length_take]; omega
  by_cases hi : i < h
  · rw [if_pos hi, List.getElem?_append_left (by omega), List.getElem?_take_of_lt hi]
  · rw [if_neg hi, List.getElem?_append_right (by omega), hl, List.getElem?_drop]
    congr 2; omega
theorem less_get {l : List Card} {h i : Nat} (hh : h < l.length) : (l.take h ++ l.drop (h + 1))[i]? = l[if i < h then i else i + 1]? := by
  have hl : (l.take h).length = h := by rw [List.length_take]; omega
  by_cases hi : i < h
  · rw [if_pos hi, List.getElem?_append_left (by omega), List.getElem?_take_of_lt hi]
  · rw [if_neg hi, List.getElem?_append_right (by omega), hl, List.getElem?_drop]
    congr 1; omega
theorem lessD_len {d : Dr} {h : Nat} (hh : h < d.halves.length) : (lessD d h).halves.length + 1 = d.halves.length := by
  show (d.halves.take h ++ d.halves.drop (h + 1)).length + 1 = _
  rw [List.length_append, List.length_take, List.length_drop]; omega
theorem lessD_okHC {d : Dr} {h : Nat} (hh : h < d.halves.length) (i c : Nat) : okHC (lessD d h) i c = okHC d (if i < h then i else i + 1) c := by
  have e : (lessD d h).halves.getD i ⟨default, []⟩ = d.halves.getD (if i < h then i else i + 1) ⟨default, []⟩ := skip_get hh _
  unfold okHC
  rw [e]; rfl
theorem lessD_ok {d : Dr} (ho : d.Ok) {h : Nat} (hh : h < d.halves.length) : (lessD d h).Ok := by
  have hsub : ∀ c ∈ (lessD d h).halves, c ∈ d.halves := fun c hc => by
    rcases List.mem_append.1 hc with h1 | h1
    · exact List.mem_of_mem_take h1
    · exact List.mem_of_mem_drop h1
  refine ⟨ho.s1, ho.s6, ho.l1, ho.ls, ho.w0, ho.w9, ho.c4, by have := lessD_len hh; have := ho.h4; omega, ho.ce, fun c hc => ho.he c (hsub c hc), ho.cn, fun i j x y hx hy hj => ?_, ho.ck, fun c hc => ho.hk c (hsub c hc)⟩
  have hx' : d.halves[if i < h then i else i + 1]? = some x := by rw [← less_get hh]; exact hx
  have hy' : d.halves[if j < h then j else j + 1]? = some y := by rw [← less_get hh]; exact hy
  exact ho.hn _ _ x y hx' hy' (by split <;> split <;> omega)
theorem lessD_fits {d : Dr} (hd : d.fits) {h : Nat} : (lessD d h).fits := by
  have hsub : ∀ c ∈ (lessD d h).halves, c ∈ d.halves := fun c hc => by
    rcases List.mem_append.1 hc with h1 | h1
    · exact List.mem_of_mem_take h1
    · exact List.mem_of_mem_drop h1
  refine ⟨hd.zc, fun _ => rfl, hd.lc, ?_, hd.nc, fun c hc => hd.nh c (hsub c hc)⟩
  have := hd.lh
  show (d.halves.take h ++ d.halves.drop (h + 1)).length < _
  rw [List.length_append, List.length_take, List.length_drop]; omega
theorem split_at {t : List Int} {h : Nat} (hh : h < t.length) : t = t.take h ++ t.getD h 0 :: t.drop (h + 1) := by
  have e : t.getD h 0 = t[h] := by rw [List.getD_eq_getElem?_getD, List.getElem?_eq_getElem hh]; rfl
  rw [e, ← List.drop_eq_getElem_cons hh, List.take_append_drop]
theorem lessD_lost {d : Dr} {h : Nat} (hh : h < d.halves.length) : (forged (lessD d h)).length ≤ (forged d).length ∧ (forged d).length ≤ (forged (lessD d h)).length + 1 := by
  have hlen := lessD_len hh
  rw [forged_many, forged_many]
  have f1 := (mem_fair.1 (first_mem d)).2
  have f2 := (mem_fair.1 (first_mem (lessD d h))).2
  constructor
  · -- a truth without the half
    have ht := fair_truth (first_mem d)
    generalize first d = t at ht f1
    have htl := ht.1
    have ht2 : IsTruth (lessD d h) (lessD d h).halves.length (t.take h ++ t.drop (h + 1)) := by
      refine ⟨by rw [List.length_append, List.length_take, List.length_drop]; omega, fun i hi => ?_⟩
      rw [skip_get (by omega)]
      rcases ht.2 (if i < h then i else i + 1) (by split <;> omega) with h1 | ⟨c, h1, h2, h3, h4⟩
      · exact .inl h1
      · refine .inr ⟨c, h1, h2, by rw [lessD_okHC hh]; exact h3, fun j hj => ?_⟩
        rw [skip_get (by omega)]
        exact h4 _ (by split <;> split <;> omega)
    have hle := least_le ht2
    have c1 : lostN (t.take h ++ t.drop (h + 1)) ≤ lostN t := by
      rw [lostN_count _ _ rfl, lostN_count _ t rfl]
      conv => rhs; rw [split_at (show h < t.length by omega)]
      rw [List.count_append, List.count_append]
      have := List.count_le_count_cons (a := (-1 : Int)) (b := t.getD h 0) (l := t.drop (h + 1))
      omega
    omega
  · -- a truth with the half forged
    have ht := fair_truth (first_mem (lessD d h))
    generalize first (lessD d h) = u at ht f2
    have hul := ht.1
    have hul2 : (u.take h).length = h := by rw [List.length_take]; omega
    have g1 : ∀ i, i < h → (u.take h ++ (-1 : Int) :: u.drop h).getD i 0 = u.getD i 0 := fun i hi => by
      rw [List.getD_eq_getElem?_getD, List.getElem?_append_left (by omega), List.getElem?_take_of_lt hi, ← List.getD_eq_getElem?_getD]
    have g2 : (u.take h ++ (-1 : Int) :: u.drop h).getD h 0 = -1 := by
      rw [List.getD_eq_getElem?_getD, List.getElem?_append_right (by omega), hul2, Nat.sub_self]; rfl
    have g3 : ∀ i, h < i → (u.take h ++ (-1 : Int) :: u.drop h).getD i 0 = u.getD (i - 1) 0 := fun i hi => by
      rw [List.getD_eq_getElem?_getD, List.getElem?_append_right (by omega), hul2]
      obtain ⟨k, rfl⟩ : ∃ k, i = h + 1 + k := ⟨i - h - 1, by omega⟩
      rw [show h + 1 + k - h = k + 1 by omega, List.getElem?_cons_succ, List.getElem?_drop, ← List.getD_eq_getElem?_getD, show h + 1 + k - 1 = h + k by omega]
    have ht2 : IsTruth d d.halves.length (u.take h ++ (-1 : Int) :: u.drop h) := by
      refine ⟨by rw [List.length_append, List.length_cons, List.length_take, List.length_drop]; omega, fun i hi => ?_⟩
      by_cases hih : i < h
      · rw [g1 i hih]
        rcases ht.2 i (by omega) with h1 | ⟨c, h1, h2, h3, h4⟩
        · exact .inl h1
        · rw [lessD_okHC hh, if_pos hih] at h3
          exact .inr ⟨c, h1, h2, h3, fun j hj => by rw [g1 j (by omega)]; exact h4 j hj⟩
      · by_cases hie : i = h
        · subst hie; exact .inl g2
        · rw [g3 i (by omega)]
          rcases ht.2 (i - 1) (by omega) with h1 | ⟨c, h1, h2, h3, h4⟩
          · exact .inl h1
          · rw [lessD_okHC hh, if_neg (by omega), show i - 1 + 1 = i by omega] at h3
            refine .inr ⟨c, h1, h2, h3, fun j hj => ?_⟩
            by_cases hjh : j < h
            · rw [g1 j hjh]; exact h4 j (by omega)
            · by_cases hje : j = h
              · subst hje; rw [g2]; omega
              · rw [g3 j (by omega)]; exact h4 (j - 1) (by omega)
    have hle := least_le ht2
    have c1 : lostN (u.take h ++ (-1 : Int) :: u.drop h) = lostN u + 1 := by
      rw [lostN_count _ _ rfl, lostN_count _ u rfl, List.count_append, List.count_cons_self]
      conv => rhs; rw [← List.take_append_drop h u, List.count_append]
      omega
    omega
end Go.Proofs.Ytbfodfepgefloaa
end
