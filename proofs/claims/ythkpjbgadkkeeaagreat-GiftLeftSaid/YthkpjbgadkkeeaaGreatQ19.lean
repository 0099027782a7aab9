/- Z-numbers. How it goes in any truth: the contract. Conditions: those of each law. -/
import Derived.Test.YthkpjbgadkkeeaaGreatQ18
set_option linter.unusedSimpArgs false
set_option linter.unusedVariables false
namespace Go.Proofs.YthkpjbgadkkeeaaGreat
open Go.Proofs

theorem turnV_rng {l : List Int} (h : ∀ x ∈ l, 0 ≤ x ∧ x ≤ 255) (n : Nat) : 0 ≤ turnV l n ∧ turnV l n ≤ 255 := by
  unfold turnV
  by_cases hl : l.length = 0
  · rw [if_pos hl]; omega
  · rw [if_neg hl]
    have hp : n % l.length < l.length := Nat.mod_lt _ (by omega)
    rw [List.getD_eq_getElem?_getD, List.getElem?_eq_getElem hp]
    exact h _ (List.getElem_mem hp)
theorem cTurn (l : List Int) (hr : ∀ x ∈ l, 0 ≤ x ∧ x ≤ 255) (hl : l.length < 1000000000000000000) (n : Nat) (h : Heap) : callPure (EW tabX) 71 [.lst 0 1 (l.map (AV.int .u8)), .int .i64 n] h = some (.int .i64 (turnV l n), h) := by
  rw [callPure_eq, w_call _ fn_71 rfl]
  by_cases hn : l.length = 0
  · have : l = [] := List.length_eq_zero_iff.1 hn
    subst this
    simp only [go_sem, ↓reduceIte, Nat.reduceBEq, Nat.reduceEqDiff, Nat.reduceLT, Nat.reduceLeDiff, Nat.reduceAdd, Nat.reduceMul, Nat.reduceSub, reduceCtorEq, Int.reduceLT, Int.reduceLE, Int.reduceEq, Int.reduceBEq, Int.reduceBNe, Int.reduceToNat, Int.reduceAdd, Int.reduceNeg, Int.reduceSub, turnV, if_true]
  · have hpos : 0 < l.length := by omega
    have h0 : ((l.length : Int) == 0) = false := by rw [beq_eq_false_iff_ne]; omega
    have h0' : ((l.length : Int) = 0) = False := by simp only [eq_iff_iff, iff_false]; omega
    have hp : n % l.length < l.length := Nat.mod_lt _ hpos
    have hm : (n : Int).tmod l.length = ((n % l.length : Nat) : Int) := rfl
    have hpi : ((n % l.length : Nat) : Int) < l.length := by omega
    have hx : (l.map (AV.int .u8))[n % l.length]? = some (.int .u8 (turnV l n)) := by
      rw [List.getElem?_map, List.getElem?_eq_getElem hp, turnV, if_neg hn, List.getD_eq_getElem?_getD, List.getElem?_eq_getElem hp]; rfl
    have hb := turnV_rng hr n
    simp (disch := omega) only [go_sem, ↓reduceIte, Nat.reduceBEq, Nat.reduceEqDiff, Nat.reduceLT, Nat.reduceLeDiff, Nat.reduceAdd, Nat.reduceMul, Nat.reduceSub, reduceCtorEq, Int.reduceLT, Int.reduceLE, Int.reduceEq, Int.reduceBEq, Int.reduceBNe, Int.reduceToNat, Int.reduceAdd, Int.reduceNeg, Int.reduceSub, h0, h0', hm, hpi, hx, wrap_i64]
def vBs (l : List Bool) : AV := .lst 0 (zT 1 l.length) (l.map AV.bool)
def comesT (d : Fu) (x : List Int) (n : Nat) : List Bool := (List.range n).map (comeT d x)
def paidsT (d : Fu) (x : List Int) (n : Nat) : List Bool := (List.range n).map (paidT d x)
def costsT (d : Fu) (x : List Int) (n : Nat) : List Int := (List.range n).map (costT d x)
def leftsT (d : Fu) (x : List Int) (n : Nat) : List Int := (List.range n).map fun k => (leftT d x (k + 1)).1
def eCo (d : Fu) (x : List Int) (n : Nat) : AV := .agg [vBs (comesT d x n), vBs (paidsT d x n), vI (costsT d x n), vI (leftsT d x n), .int .i64 (leftT d x n).2]
def Own4 (u : Nat × Nat × Nat × Nat) (k : Nat) (t : List Bool) : Prop :=
  (k = 0 ∧ u.1 = 1 ∧ u.2.1 = 1 ∧ u.2.2.1 = 1 ∧ u.2.2.2 = 1) ∨ (0 < k ∧ ∃ a b c e, u = (a + 2, b + 2, c + 2, e + 2) ∧ (t[a]? = some true ∧ t[b]? = some true ∧ t[c]? = some true ∧ t[e]? = some true) ∧ a ≠ b ∧ a ≠ c ∧ a ≠ e ∧ b ≠ c ∧ b ≠ e ∧ c ≠ e)
theorem app_at3 {X : Tab} {ty e : TypeId} {sz : Nat} {tag z : Nat} {t : List Bool} {xs : List AV} (hn : OwnS sz tag z xs.length t) (p : Nat) (hp : p < t.length) (u z' : Nat) (ys : List AV) (ht : trow X ty = .slice e) (hs : tsz X e = sz) (h0 : 0 < sz) (hz' : z' = sz ∨ ys.length = 0)
    (hy : (xs.length + ys.length) * tbytes X e ≤ 140737488355328) (hy2 : xs.length + ys.length ≤ 140737488355328) (hf : zeroFits X e = true) (hv : ys.all AV.var = true) :
    ∃ t2, (∀ B, appendAV X ty p ⟨B, t⟩ (.lst tag z xs) (.lst u z' ys) = some (.lst (p + 2) sz (xs ++ ys), ⟨B, t2⟩)) ∧ t2[p]? = some true ∧ t2.length = t.length ∧ ∀ j, j ≠ p → tag ≠ j + 2 → t2[j]? = t[j]? := by
  have hc : (z' = tsz X e ∨ ys.length = 0) ∧ 0 < tsz X e ∧ (xs.length + ys.length) * tbytes X e ≤ appLimit ∧ xs.length + ys.length ≤ appLimit ∧ zeroFits X e = true ∧ ys.all AV.var = true := by
    rw [hs]; exact ⟨hz', h0, hy, hy2, hf, hv⟩
  unfold appendAV
  simp only [ht, if_pos hc]
  rcases hn with ⟨rfl, hn0⟩ | ⟨q, rfl, hq, hqt⟩
  · have hx : (z = tsz X e ∨ xs.length = 0) ∧ (xs.length = 0 ∨ 0 < ys.length) := ⟨.inr hn0, .inl hn0⟩
    refine ⟨t.set p true, fun B => ?_, by simp [hp], by simp, fun j hj _ => by rw [List.getElem?_set_ne (Ne.symm hj)]⟩
    rw [if_pos hx]
    simp only [hs, lset, if_pos hp]
  · have hx : z = tsz X e := by rw [hs, hq]
    refine ⟨(t.set q false).set p true, fun B => ?_, by simp [hp], by simp, fun j hj h2 => by rw [List.getElem?_set_ne (Ne.symm hj), List.getElem?_set_ne (by omega)]⟩
    simp only [hqt]
    rw [if_pos hx]
    simp only [hs, lset, List.length_set, if_pos hp]
theorem own4_step {u0 u1 u2 u3 k : Nat} {M TX : List Bool} (h : Own4 (u0, u1, u2, u3) k M) (hk : k ≤ 5) (hl : TX.length = M.length + 14) (hg : ∀ j : Nat, M[j]? = some true → TX[j]? = some true) (c p : Bool) (l0 l1 : List Bool) (e0 : l0.length = k) (e1 : l1.length = k) :
    ∃ ta tb, (∀ B, appendAV tabX 44 (M.length + 4) ⟨B, TX⟩ (.lst u0 (zT 1 k) (l0.map AV.bool)) (.lst 1 1 [.bool c]) = some (.lst (M.length + 4 + 2) 1 (l0.map AV.bool ++ [AV.bool c]), ⟨B, ta⟩)) ∧
      (∀ B, appendAV tabX 44 (M.length + 9) ⟨B, ta⟩ (.lst u1 (zT 1 k) (l1.map AV.bool)) (.lst 1 1 [.bool p]) = some (.lst (M.length + 9 + 2) 1 (l1.map AV.bool ++ [AV.bool p]), ⟨B, tb⟩)) ∧
      tb.length = M.length + 14 ∧ tb[M.length + 4]? = some true ∧ tb[M.length + 9]? = some true ∧ OwnS 1 u2 (zT 1 k) k tb ∧ OwnS 1 u3 (zT 1 k) k tb ∧ ((u2 = 1 ∧ u3 = 1) ∨ u2 ≠ u3) ∧ u2 ≤ M.length + 1 ∧ u3 ≤ M.length + 1 := by
  have lt : ∀ j : Nat, M[j]? = some true → j < M.length := fun j hj => (List.getElem?_eq_some_iff.1 hj).1
  have o0 : OwnS 1 u0 (zT 1 k) (l0.map AV.bool).length TX := by
    rw [List.length_map, e0]
    rcases h with ⟨h0, h1, _⟩ | ⟨h0, a, b, c, e, he, h1, _⟩
    · exact .inl ⟨h1, h0⟩
    · cases he; exact .inr ⟨a, rfl, zT_pos h0, hg _ h1.1⟩
  obtain ⟨ta, a1, a2, a3, a4⟩ := app_at3 (X := tabX) (ty := 44) (e := 4) (sz := 1) o0 (M.length + 4) (by omega) 1 1 [.bool c] (by simp only [go_sem, ↓reduceIte, Nat.reduceBEq, Nat.reduceEqDiff, Nat.reduceLT, Nat.reduceLeDiff, Nat.reduceAdd, Nat.reduceMul, Nat.reduceSub, reduceCtorEq, Int.reduceLT, Int.reduceLE, Int.reduceEq, Int.reduceBEq, Int.reduceBNe, Int.reduceToNat, Int.reduceAdd, Int.reduceNeg, Int.reduceSub]) (by simp only [go_sem, ↓reduceIte, Nat.reduceBEq, Nat.reduceEqDiff, Nat.reduceLT, Nat.reduceLeDiff, Nat.reduceAdd, Nat.reduceMul, Nat.reduceSub, reduceCtorEq, Int.reduceLT, Int.reduceLE, Int.reduceEq, Int.reduceBEq, Int.reduceBNe, Int.reduceToNat, Int.reduceAdd, Int.reduceNeg, Int.reduceSub]) (by omega) (.inl rfl) (by simp only [go_sem, ↓reduceIte, Nat.reduceBEq, Nat.reduceEqDiff, Nat.reduceLT, Nat.reduceLeDiff, Nat.reduceAdd, Nat.reduceMul, Nat.reduceSub, reduceCtorEq, Int.reduceLT, Int.reduceLE, Int.reduceEq, Int.reduceBEq, Int.reduceBNe, Int.reduceToNat, Int.reduceAdd, Int.reduceNeg, Int.reduceSub, List.length_map]; omega) (by simp only [go_sem, ↓reduceIte, Nat.reduceBEq, Nat.reduceEqDiff, Nat.reduceLT, Nat.reduceLeDiff, Nat.reduceAdd, Nat.reduceMul, Nat.reduceSub, reduceCtorEq, Int.reduceLT, Int.reduceLE, Int.reduceEq, Int.reduceBEq, Int.reduceBNe, Int.reduceToNat, Int.reduceAdd, Int.reduceNeg, Int.reduceSub, List.length_map]; omega) (by simp only [go_sem, ↓reduceIte, Nat.reduceBEq, Nat.reduceEqDiff, Nat.reduceLT, Nat.reduceLeDiff, Nat.reduceAdd, Nat.reduceMul, Nat.reduceSub, reduceCtorEq, Int.reduceLT, Int.reduceLE, Int.reduceEq, Int.reduceBEq, Int.reduceBNe, Int.reduceToNat, Int.reduceAdd, Int.reduceNeg, Int.reduceSub]) (by simp only [go_sem, ↓reduceIte, Nat.reduceBEq, Nat.reduceEqDiff, Nat.reduceLT, Nat.reduceLeDiff, Nat.reduceAdd, Nat.reduceMul, Nat.reduceSub, reduceCtorEq, Int.reduceLT, Int.reduceLE, Int.reduceEq, Int.reduceBEq, Int.reduceBNe, Int.reduceToNat, Int.reduceAdd, Int.reduceNeg, Int.reduceSub])
  have keep : ∀ j : Nat, M[j]? = some true → u0 ≠ j + 2 → ta[j]? = some true := fun j hj hne => by
    have := lt j hj
    rw [a4 j (by omega) hne]; exact hg j hj
  have o1 : OwnS 1 u1 (zT 1 k) (l1.map AV.bool).length ta := by
    rw [List.length_map, e1]
    rcases h with ⟨h0, _, h1, _⟩ | ⟨h0, a, b, c, e, he, h1, h2⟩
    · exact .inl ⟨h1, h0⟩
    · cases he; exact .inr ⟨b, rfl, zT_pos h0, keep _ h1.2.1 (by omega)⟩
  obtain ⟨tb, b1, b2, b3, b4⟩ := app_at3 (X := tabX) (ty := 44) (e := 4) (sz := 1) o1 (M.length + 9) (by omega) 1 1 [.bool p] (by simp only [go_sem, ↓reduceIte, Nat.reduceBEq, Nat.reduceEqDiff, Nat.reduceLT, Nat.reduceLeDiff, Nat.reduceAdd, Nat.reduceMul, Nat.reduceSub, reduceCtorEq, Int.reduceLT, Int.reduceLE, Int.reduceEq, Int.reduceBEq, Int.reduceBNe, Int.reduceToNat, Int.reduceAdd, Int.reduceNeg, Int.reduceSub]) (by simp only [go_sem, ↓reduceIte, Nat.reduceBEq, Nat.reduceEqDiff, Nat.reduceLT, Nat.reduceLeDiff, Nat.reduceAdd, Nat.reduceMul, Nat.reduceSub, reduceCtorEq, Int.reduceLT, Int.reduceLE, Int.reduceEq, Int.reduceBEq, Int.reduceBNe, Int.reduceToNat, Int.reduceAdd, Int.reduceNeg, Int.reduceSub]) (by omega) (.inl rfl) (by simp only [go_sem, ↓reduceIte, Nat.reduceBEq, Nat.reduceEqDiff, Nat.reduceLT, Nat.reduceLeDiff, Nat.reduceAdd, Nat.reduceMul, Nat.reduceSub, reduceCtorEq, Int.reduceLT, Int.reduceLE, Int.reduceEq, Int.reduceBEq, Int.reduceBNe, Int.reduceToNat, Int.reduceAdd, Int.reduceNeg, Int.reduceSub, List.length_map]; omega) (by simp only [go_sem, ↓reduceIte, Nat.reduceBEq, Nat.reduceEqDiff, Nat.reduceLT, Nat.reduceLeDiff, Nat.reduceAdd, Nat.reduceMul, Nat.reduceSub, reduceCtorEq, Int.reduceLT, Int.reduceLE, Int.reduceEq, Int.reduceBEq, Int.reduceBNe, Int.reduceToNat, Int.reduceAdd, Int.reduceNeg, Int.reduceSub, List.length_map]; omega) (by simp only [go_sem, ↓reduceIte, Nat.reduceBEq, Nat.reduceEqDiff, Nat.reduceLT, Nat.reduceLeDiff, Nat.reduceAdd, Nat.reduceMul, Nat.reduceSub, reduceCtorEq, Int.reduceLT, Int.reduceLE, Int.reduceEq, Int.reduceBEq, Int.reduceBNe, Int.reduceToNat, Int.reduceAdd, Int.reduceNeg, Int.reduceSub]) (by simp only [go_sem, ↓reduceIte, Nat.reduceBEq, Nat.reduceEqDiff, Nat.reduceLT, Nat.reduceLeDiff, Nat.reduceAdd, Nat.reduceMul, Nat.reduceSub, reduceCtorEq, Int.reduceLT, Int.reduceLE, Int.reduceEq, Int.reduceBEq, Int.reduceBNe, Int.reduceToNat, Int.reduceAdd, Int.reduceNeg, Int.reduceSub])
  have keep2 : ∀ j : Nat, M[j]? = some true → u0 ≠ j + 2 → u1 ≠ j + 2 → tb[j]? = some true := fun j hj hne hne2 => by
    have := lt j hj
    rw [b4 j (by omega) hne2]; exact keep j hj hne
  refine ⟨ta, tb, a1, b1, by omega, ?_, b2, ?_, ?_, ?_, ?_, ?_⟩
  · rw [b4 _ (by omega) ?_]
    · exact a2
    · rcases h with ⟨h0, _, h1, _⟩ | ⟨h0, a, b, c, e, he, h1, h2⟩
      · have h1 : u1 = 1 := h1
        omega
      · cases he
        have := lt _ h1.2.1
        omega
  · rcases h with ⟨h0, _, _, h1, _⟩ | ⟨h0, a, b, c, e, he, h1, h2⟩
    · exact .inl ⟨h1, h0⟩
    · cases he; exact .inr ⟨c, rfl, zT_pos h0, keep2 _ h1.2.2.1 (by omega) (by omega)⟩
  · rcases h with ⟨h0, _, _, _, h1⟩ | ⟨h0, a, b, c, e, he, h1, h2⟩
    · exact .inl ⟨h1, h0⟩
    · cases he; exact .inr ⟨e, rfl, zT_pos h0, keep2 _ h1.2.2.2 (by omega) (by omega)⟩
  · rcases h with ⟨h0, _, _, h1, h2⟩ | ⟨h0, a, b, c, e, he, h1, h2⟩
    · exact .inl ⟨h1, h2⟩
    · cases he; right; omega
  · rcases h with ⟨h0, _, _, h1, h2⟩ | ⟨h0, a, b, c, e, he, h1, h2⟩
    · have h1 : u2 = 1 := h1
      omega
    · cases he
      have := lt _ h1.2.2.1
      omega
  · rcases h with ⟨h0, _, _, h1, h2⟩ | ⟨h0, a, b, c, e, he, h1, h2⟩
    · have h2 : u3 = 1 := h2
      omega
    · cases he
      have := lt _ h1.2.2.2
      omega
theorem own4_next {u2 u3 k n : Nat} {tb TY : List Bool} (hk : k ≤ 5) (hn : tb.length = n + 14) (o2 : OwnS 1 u2 (zT 1 k) k tb) (o3 : OwnS 1 u3 (zT 1 k) k tb) (hne : (u2 = 1 ∧ u3 = 1) ∨ u2 ≠ u3) (b2 : u2 ≤ n + 1) (b3 : u3 ≤ n + 1) (h4 : tb[n + 4]? = some true) (h9 : tb[n + 9]? = some true)
    (hl : TY.length = tb.length + 14) (hg : ∀ j : Nat, tb[j]? = some true → TY[j]? = some true) (x y : Int) (l0 l1 : List Int) (e0 : l0.length = k) (e1 : l1.length = k) :
    ∃ tc te, (∀ B, appendAV tabX 22 (tb.length + 4) ⟨B, TY⟩ (.lst u2 (zT 1 k) (I l0)) (.lst 1 1 [.int .i64 x]) = some (.lst (tb.length + 4 + 2) 1 (I l0 ++ [AV.int .i64 x]), ⟨B, tc⟩)) ∧
      (∀ B, appendAV tabX 22 (tb.length + 9) ⟨B, tc⟩ (.lst u3 (zT 1 k) (I l1)) (.lst 1 1 [.int .i64 y]) = some (.lst (tb.length + 9 + 2) 1 (I l1 ++ [AV.int .i64 y]), ⟨B, te⟩)) ∧
      Own4 (n + 4 + 2, n + 9 + 2, tb.length + 4 + 2, tb.length + 9 + 2) (k + 1) te := by
  have o0 : OwnS 1 u2 (zT 1 k) (I l0).length TY := by
    rw [I_len, e0]
    rcases o2 with h | ⟨q, h1, h2, h3⟩
    · exact .inl h
    · exact .inr ⟨q, h1, h2, hg _ h3⟩
  obtain ⟨tc, a1, a2, a3, a4⟩ := app_at3 (X := tabX) (ty := 22) (e := 3) (sz := 1) o0 (tb.length + 4) (by omega) 1 1 [.int .i64 x] (by simp only [go_sem, ↓reduceIte, Nat.reduceBEq, Nat.reduceEqDiff, Nat.reduceLT, Nat.reduceLeDiff, Nat.reduceAdd, Nat.reduceMul, Nat.reduceSub, reduceCtorEq, Int.reduceLT, Int.reduceLE, Int.reduceEq, Int.reduceBEq, Int.reduceBNe, Int.reduceToNat, Int.reduceAdd, Int.reduceNeg, Int.reduceSub]) (by simp only [go_sem, ↓reduceIte, Nat.reduceBEq, Nat.reduceEqDiff, Nat.reduceLT, Nat.reduceLeDiff, Nat.reduceAdd, Nat.reduceMul, Nat.reduceSub, reduceCtorEq, Int.reduceLT, Int.reduceLE, Int.reduceEq, Int.reduceBEq, Int.reduceBNe, Int.reduceToNat, Int.reduceAdd, Int.reduceNeg, Int.reduceSub]) (by omega) (.inl rfl) (by simp only [go_sem, ↓reduceIte, Nat.reduceBEq, Nat.reduceEqDiff, Nat.reduceLT, Nat.reduceLeDiff, Nat.reduceAdd, Nat.reduceMul, Nat.reduceSub, reduceCtorEq, Int.reduceLT, Int.reduceLE, Int.reduceEq, Int.reduceBEq, Int.reduceBNe, Int.reduceToNat, Int.reduceAdd, Int.reduceNeg, Int.reduceSub, I_len]; omega) (by simp only [go_sem, ↓reduceIte, Nat.reduceBEq, Nat.reduceEqDiff, Nat.reduceLT, Nat.reduceLeDiff, Nat.reduceAdd, Nat.reduceMul, Nat.reduceSub, reduceCtorEq, Int.reduceLT, Int.reduceLE, Int.reduceEq, Int.reduceBEq, Int.reduceBNe, Int.reduceToNat, Int.reduceAdd, Int.reduceNeg, Int.reduceSub, I_len]; omega) (by simp only [go_sem, ↓reduceIte, Nat.reduceBEq, Nat.reduceEqDiff, Nat.reduceLT, Nat.reduceLeDiff, Nat.reduceAdd, Nat.reduceMul, Nat.reduceSub, reduceCtorEq, Int.reduceLT, Int.reduceLE, Int.reduceEq, Int.reduceBEq, Int.reduceBNe, Int.reduceToNat, Int.reduceAdd, Int.reduceNeg, Int.reduceSub]) (by simp only [go_sem, ↓reduceIte, Nat.reduceBEq, Nat.reduceEqDiff, Nat.reduceLT, Nat.reduceLeDiff, Nat.reduceAdd, Nat.reduceMul, Nat.reduceSub, reduceCtorEq, Int.reduceLT, Int.reduceLE, Int.reduceEq, Int.reduceBEq, Int.reduceBNe, Int.reduceToNat, Int.reduceAdd, Int.reduceNeg, Int.reduceSub])
  have o1 : OwnS 1 u3 (zT 1 k) (I l1).length tc := by
    rw [I_len, e1]
    rcases o3 with h | ⟨q, h1, h2, h3⟩
    · exact .inl h
    · refine .inr ⟨q, h1, h2, ?_⟩
      rw [a4 q (by omega) (by omega)]; exact hg _ h3
  obtain ⟨te, b1, b2', b3', b4⟩ := app_at3 (X := tabX) (ty := 22) (e := 3) (sz := 1) o1 (tb.length + 9) (by omega) 1 1 [.int .i64 y] (by simp only [go_sem, ↓reduceIte, Nat.reduceBEq, Nat.reduceEqDiff, Nat.reduceLT, Nat.reduceLeDiff, Nat.reduceAdd, Nat.reduceMul, Nat.reduceSub, reduceCtorEq, Int.reduceLT, Int.reduceLE, Int.reduceEq, Int.reduceBEq, Int.reduceBNe, Int.reduceToNat, Int.reduceAdd, Int.reduceNeg, Int.reduceSub]) (by simp only [go_sem, ↓reduceIte, Nat.reduceBEq, Nat.reduceEqDiff, Nat.reduceLT, Nat.reduceLeDiff, Nat.reduceAdd, Nat.reduceMul, Nat.reduceSub, reduceCtorEq, Int.reduceLT, Int.reduceLE, Int.reduceEq, Int.reduceBEq, Int.reduceBNe, Int.reduceToNat, Int.reduceAdd, Int.reduceNeg, Int.reduceSub]) (by omega) (.inl rfl) (by simp only [go_sem, ↓reduceIte, Nat.reduceBEq, Nat.reduceEqDiff, Nat.reduceLT, Nat.reduceLeDiff, Nat.reduceAdd, Nat.reduceMul, Nat.reduceSub, reduceCtorEq, Int.reduceLT, Int.reduceLE, Int.reduceEq, Int.reduceBEq, Int.reduceBNe, Int.reduceToNat, Int.reduceAdd, Int.reduceNeg, Int.reduceSub, I_len]; omega) (by simp only [go_sem, ↓reduceIte, Nat.reduceBEq, Nat.reduceEqDiff, Nat.reduceLT, Nat.reduceLeDiff, Nat.reduceAdd, Nat.reduceMul, Nat.reduceSub, reduceCtorEq, Int.reduceLT, Int.reduceLE, Int.reduceEq, Int.reduceBEq, Int.reduceBNe, Int.reduceToNat, Int.reduceAdd, Int.reduceNeg, Int.reduceSub, I_len]; omega) (by simp only [go_sem, ↓reduceIte, Nat.reduceBEq, Nat.reduceEqDiff, Nat.reduceLT, Nat.reduceLeDiff, Nat.reduceAdd, Nat.reduceMul, Nat.reduceSub, reduceCtorEq, Int.reduceLT, Int.reduceLE, Int.reduceEq, Int.reduceBEq, Int.reduceBNe, Int.reduceToNat, Int.reduceAdd, Int.reduceNeg, Int.reduceSub]) (by simp only [go_sem, ↓reduceIte, Nat.reduceBEq, Nat.reduceEqDiff, Nat.reduceLT, Nat.reduceLeDiff, Nat.reduceAdd, Nat.reduceMul, Nat.reduceSub, reduceCtorEq, Int.reduceLT, Int.reduceLE, Int.reduceEq, Int.reduceBEq, Int.reduceBNe, Int.reduceToNat, Int.reduceAdd, Int.reduceNeg, Int.reduceSub])
  refine ⟨tc, te, a1, b1, .inr ⟨by omega, n + 4, n + 9, tb.length + 4, tb.length + 9, rfl, ⟨?_, ?_, ?_, b2'⟩, by omega, by omega, by omega, by omega, by omega, by omega⟩⟩
  · rw [b4 _ (by omega) (by omega), a4 _ (by omega) (by omega)]; exact hg _ h4
  · rw [b4 _ (by omega) (by omega), a4 _ (by omega) (by omega)]; exact hg _ h9
  · rw [b4 _ (by omega) (by omega)]; exact a2
set_option maxHeartbeats 2000000 in
theorem cTruly (d : Fu) (hd : d.fits) (ho : d.Ok) (hs : someB d 0 = true) (x : List Int) (hx : x.length < 1000000000000000000 ∧ ∀ n ∈ x, 0 ≤ n ∧ n ≤ 255) (h : Heap) :
    callPure (EW tabX) 27 [eF d, .lst 0 1 (x.map (AV.int .u8))] h = some (eCo d x d.visits.length, h) := by
  have hcl := eF_clean d
  have hxc : cleanL (x.map (AV.int .u8)) = some (x.map (AV.int .u8)) := cleanL_map (fun n => clean_int _ n) x
  rw [callPure_eq, w_call _ fn_27 rfl]
  simp only [eF_eq] at hcl ⊢
  simp only [go_sem, ↓reduceIte, Nat.reduceBEq, Nat.reduceEqDiff, Nat.reduceLT, Nat.reduceLeDiff, Nat.reduceAdd, Nat.reduceMul, Nat.reduceSub, reduceCtorEq, Int.reduceLT, Int.reduceLE, Int.reduceEq, Int.reduceBEq, Int.reduceBNe, Int.reduceToNat, Int.reduceAdd, Int.reduceNeg, Int.reduceSub]
  generalize hy : (EW tabX).code 27 none (Code.loop _) _ = y
  refine w_rounds_sk hy (fun k s => [(6, .int .i64 (leftT d x k).1), (7, .int .i64 (k : Int))]) (fun s : (Nat × Nat × Nat × Nat) × (List ABlk × List Bool) × Nat => ⟨.cells (eFc d) :: .cells [.lst 1 0 [], .lst 1 0 [], .lst 1 0 [], .lst 1 0 [], .int .i64 0] ::
      .cells [.lst s.1.1 (zT 1 s.2.2) ((comesT d x s.2.2).map AV.bool), .lst s.1.2.1 (zT 1 s.2.2) ((paidsT d x s.2.2).map AV.bool), .lst s.1.2.2.1 (zT 1 s.2.2) (I (costsT d x s.2.2)), .lst s.1.2.2.2 (zT 1 s.2.2) (I (leftsT d x s.2.2)), .int .i64 (leftT d x s.2.2).2] :: s.2.1.1, s.2.1.2⟩)
    (fun k s => s.2.2 = k ∧ Own4 s.1 k s.2.1.2) d.visits.length (.exit 0) (fun s => [(6, .int .i64 (leftT d x d.visits.length).1), (7, .int .i64 (d.visits.length : Int))]) rfl ((1, 1, 1, 1), ([], []), 0) ?_ ?_ ⟨rfl, .inl ⟨rfl, rfl, rfl, rfl, rfl⟩⟩ ?_ ?_ ?_
  · simp only [go_sem, ↓reduceIte, Nat.reduceBEq, Nat.reduceEqDiff, Nat.reduceLT, Nat.reduceLeDiff, Nat.reduceAdd, Nat.reduceMul, Nat.reduceSub, reduceCtorEq, Int.reduceLT, Int.reduceLE, Int.reduceEq, Int.reduceBEq, Int.reduceBNe, Int.reduceToNat, Int.reduceAdd, Int.reduceNeg, Int.reduceSub, leftT]
  · rfl
  · rintro k ⟨⟨u0, u1, u2, u3⟩, ⟨E, M⟩, k'⟩ hk ⟨hR, hown⟩
    obtain rfl : k' = k := hR
    have hown : Own4 (u0, u1, u2, u3) k' M := hown
    have hki : (k' : Int) < d.visits.length := by omega
    have hv := List.getElem?_eq_getElem hk
    have hv5 := ho.visits
    have hzv := hd.zv (by intro e; rw [e] at hk; simp at hk)
    have hvo := ho.visit _ (List.getElem_mem hk)
    have hpb := hvo.person
    have hzp := hd.zp (by intro e; rw [e] at hpb; simp at hpb; omega)
    have hpl : d.visits[k'].person.toNat < d.people.length := by omega
    have hpx := List.getElem?_eq_getElem hpl
    have hnn : ¬ d.visits[k'].person < 0 := by omega
    have hw : IntKind.i64.wrap ((k' : Int) + 1) = (k' : Int) + 1 := wrap_i64 (by omega)
    have hcom := cComes d hd ho k' hk
    have hcost := cost_ref hd ho hk
    have hcl16 := costs_len ho (but := 0) hk
    have hpos := List.length_pos_iff.2 (some_pos hs hk)
    have t1 := cTurn x hx.2 hx.1 d.visits[k'].person.toNat
    have t2 := cTurn x hx.2 hx.1 (4 + k')
    have t3 := cTurn x hx.2 hx.1 (9 + k')
    have e1 : ((d.visits[k'].person.toNat : Nat) : Int) = d.visits[k'].person := by omega
    have e2 : ((4 + k' : Nat) : Int) = 4 + (k' : Int) := by omega
    have e3 : ((9 + k' : Nat) : Int) = 9 + (k' : Int) := by omega
    rw [e1] at t1
    rw [e2] at t2
    rw [e3] at t3
    simp only [eF_eq, hzv, hzp, vI] at hcom hcost
    have y1 := fun n l => underL_map (e := AV.bool) (n := n) (fun x => by simp only [go_sem, ↓reduceIte, Nat.reduceBEq, Nat.reduceEqDiff, Nat.reduceLT, Nat.reduceLeDiff, Nat.reduceAdd, Nat.reduceMul, Nat.reduceSub, reduceCtorEq, Int.reduceLT, Int.reduceLE, Int.reduceEq, Int.reduceBEq, Int.reduceBNe, Int.reduceToNat, Int.reduceAdd, Int.reduceNeg, Int.reduceSub]) l
    have w4 : IntKind.i64.wrap (4 + (k' : Int)) = 4 + (k' : Int) := wrap_i64 (by omega)
    have w9 : IntKind.i64.wrap (9 + (k' : Int)) = 9 + (k' : Int) := wrap_i64 (by omega)
    have r9 := turnV_rng hx.2 (9 + k')
    have hct : costT d x k' = (costs d 0 k').getD ((turnV x (9 + k')).toNat % (costs d 0 k').length) 0 := rfl
    have hmlt : (turnV x (9 + k')).toNat % (costs d 0 k').length < (costs d 0 k').length := Nat.mod_lt _ hpos
    have hl0 : (((costs d 0 k').length : Int) = 0) = False := by simp only [eq_iff_iff, iff_false]; omega
    have hl0' : (((costs d 0 k').length : Int) == 0) = false := by rw [beq_eq_false_iff_ne]; omega
    have hm : (turnV x (9 + k')).tmod (costs d 0 k').length = (((turnV x (9 + k')).toNat % (costs d 0 k').length : Nat) : Int) := by
      rw [show turnV x (9 + k') = (((turnV x (9 + k')).toNat : Nat) : Int) by omega]; rfl
    have hcx : (costs d 0 k')[(turnV x (9 + k')).toNat % (costs d 0 k').length]? = some (costT d x k') := by rw [hct, List.getD_eq_getElem?_getD, List.getElem?_eq_getElem hmlt]; rfl
    have hzz : zT 1 (costs d 0 k').length = 1 := zT_pos hpos
    have hcb := costs_bd ho (costT_mem hs x hk)
    have hlb := leftT_bd ho hs x (Nat.le_of_lt hk)
    have hpn := ho.pence
    have hstep := leftT_succ d x k'
    have hpd : paidT d x k' = (comeT d x k' && decide ((leftT d x k').2 < 0) && !decide ((leftT d x k').1 < costT d x k')) := rfl
    generalize (turnV x (9 + k')).toNat % (costs d 0 k').length = m at hmlt hm hcx
    have hmi : (m : Int) < (costs d 0 k').length := by omega
    have hcosS : costsT d x (k' + 1) = costsT d x k' ++ [costT d x k'] := by unfold costsT; rw [List.range_succ, List.map_append]; rfl
    generalize costs d 0 k' = cs at *
    generalize costT d x k' = ct at *
    have hwx : IntKind.i64.wrap (m : Int) = (m : Int) := wrap_i64 (by omega)
    have hws : IntKind.i64.wrap ((leftT d x k').1 - ct) = (leftT d x k').1 - ct := wrap_i64 (by omega)
    have hcomS : comesT d x (k' + 1) = comesT d x k' ++ [comeT d x k'] := by unfold comesT; rw [List.range_succ, List.map_append]; rfl
    have hcv : comeT d x k' = (widT d x (whoAt d k') && (comesB d k' || turnV x (4 + k') % 2 == 1)) := rfl
    have hwb' : widT d x (whoAt d k') = (d.people[d.visits[k'].person.toNat].widow == 1 || d.people[d.visits[k'].person.toNat].widow == 2 && (turnV x d.visits[k'].person.toNat).tmod 2 == 1) := by
      unfold whoAt widT widowOf
      rw [hv]
      simp only [hpx]
      rw [Int.tmod_eq_emod_of_nonneg (turnV_rng hx.2 _).1]
    have hb2 : ((turnV x (4 + k')).tmod 2 == 1) = (turnV x (4 + k') % 2 == 1) := by rw [Int.tmod_eq_emod_of_nonneg (turnV_rng hx.2 _).1]
    rw [← hb2] at hcv
    generalize hwb : (d.people[d.visits[k'].person.toNat].widow == 1 || d.people[d.visits[k'].person.toNat].widow == 2 && (turnV x d.visits[k'].person.toNat).tmod 2 == 1) = wb
    have hpdS : paidsT d x (k' + 1) = paidsT d x k' ++ [paidT d x k'] := by unfold paidsT; rw [List.range_succ, List.map_append]; rfl
    have x2 : I (costsT d x k') ++ [AV.int .i64 ct] = I (costsT d x (k' + 1)) := by rw [I_snoc, hcosS]
    have hlfS : leftsT d x (k' + 1) = leftsT d x k' ++ [(leftT d x (k' + 1)).1] := by unfold leftsT; rw [List.range_succ, List.map_append]; rfl
    have hzk : zT 1 (k' + 1) = 1 := zT_pos (by omega)
    rw [hwb', hwb] at hcv
    have cases4 : (wb = false ∧ comeT d x k' = false) ∨ (wb = true ∧ comesB d k' = false ∧ ((turnV x (4 + k')).tmod 2 == 1) = false ∧ comeT d x k' = false) ∨ (wb = true ∧ comesB d k' = true ∧ comeT d x k' = true) ∨ (wb = true ∧ comesB d k' = false ∧ ((turnV x (4 + k')).tmod 2 == 1) = true ∧ comeT d x k' = true) := by
      rw [hcv]
      cases wb <;> cases comesB d k' <;> cases ((turnV x (4 + k')).tmod 2 == 1) <;> simp
    rcases cases4 with hp | hp | hp | hp
    · obtain ⟨h1, hc⟩ := hp
      subst h1
      have hnext : leftT d x (k' + 1) = leftT d x k' := by rw [hstep, hc, if_neg (fun h => by cases h.1)]
      have hpv : paidT d x k' = false := by rw [hpd, hc]; rfl
      have x0 : (comesT d x k').map AV.bool ++ [AV.bool false] = (comesT d x (k' + 1)).map AV.bool := by rw [hcomS, hc]; simp
      have x1 : (paidsT d x k').map AV.bool ++ [AV.bool false] = (paidsT d x (k' + 1)).map AV.bool := by rw [hpdS, hpv]; simp
      have x3 : I (leftsT d x k') ++ [AV.int .i64 (leftT d x k').1] = I (leftsT d x (k' + 1)) := by rw [I_snoc, hlfS, hnext]
      simp only [go_sem, ↓reduceIte, Nat.reduceBEq, Nat.reduceEqDiff, Nat.reduceLT, Nat.reduceLeDiff, Nat.reduceAdd, Nat.reduceMul, Nat.reduceSub, reduceCtorEq, Int.reduceLT, Int.reduceLE, Int.reduceEq, Int.reduceBEq, Int.reduceBNe, Int.reduceToNat, Int.reduceAdd, Int.reduceNeg, Int.reduceSub, eFc, hki, hv, eVi, hzv, hpb, hnn, hpx, ePe, hzp, hw, hcom, hcost, t1, t2, t3, hxc, hwb, w4, w9, hl0, hl0', hm, hcx, hzz, hmi, hwx, hws]
      generalize hcf : drawT _ _ _ = cf
      obtain rfl : cf = true := by rw [← hcf]; kernel_rfl
      generalize hTX : M ++ List.replicate _ false = TX
      have l1 : TX.length = M.length + 14 := by rw [← hTX, List.length_append, List.length_replicate]; rfl
      have g1 : ∀ j : Nat, M[j]? = some true → TX[j]? = some true := fun j hj => by rw [← hTX, List.getElem?_append_left (List.getElem?_eq_some_iff.1 hj).1]; exact hj
      generalize List.replicate _ ABlk.none = N1
      obtain ⟨ta, tb, a1, b1, q1, q2, q3, q4, q5, q6, q7, q8⟩ := own4_step hown (by omega) l1 g1 false false (comesT d x k') (paidsT d x k') (by simp [comesT]) (by simp [paidsT])
      rw [x0] at a1
      rw [x1] at b1
      simp only [go_sem, ↓reduceIte, Nat.reduceBEq, Nat.reduceEqDiff, Nat.reduceLT, Nat.reduceLeDiff, Nat.reduceAdd, Nat.reduceMul, Nat.reduceSub, reduceCtorEq, Int.reduceLT, Int.reduceLE, Int.reduceEq, Int.reduceBEq, Int.reduceBNe, Int.reduceToNat, Int.reduceAdd, Int.reduceNeg, Int.reduceSub, a1, b1, y1]
      generalize hcf : drawT _ _ _ = cf
      obtain rfl : cf = true := by rw [← hcf]; kernel_rfl
      generalize hTY : tb ++ List.replicate _ false = TY
      have l2 : TY.length = tb.length + 14 := by rw [← hTY, List.length_append, List.length_replicate] <;> rfl
      have g2 : ∀ j : Nat, tb[j]? = some true → TY[j]? = some true := fun j hj => by rw [← hTY, List.getElem?_append_left (List.getElem?_eq_some_iff.1 hj).1]; exact hj
      generalize List.replicate _ ABlk.none = N2
      obtain ⟨tc, te, c1, d1, hown2⟩ := own4_next (by omega) q1 q4 q5 q6 q7 q8 q2 q3 l2 g2 ct (leftT d x k').1 (costsT d x k') (leftsT d x k') (by simp [costsT]) (by simp [leftsT])
      rw [x2] at c1
      rw [x3] at d1
      simp only [go_sem, ↓reduceIte, Nat.reduceBEq, Nat.reduceEqDiff, Nat.reduceLT, Nat.reduceLeDiff, Nat.reduceAdd, Nat.reduceMul, Nat.reduceSub, reduceCtorEq, Int.reduceLT, Int.reduceLE, Int.reduceEq, Int.reduceBEq, Int.reduceBNe, Int.reduceToNat, Int.reduceAdd, Int.reduceNeg, Int.reduceSub, c1, d1, hw, y1]
      refine ⟨((M.length + 4 + 2, M.length + 9 + 2, tb.length + 4 + 2, tb.length + 9 + 2), (E ++ (N1 ++ N2), te), k' + 1), ?_, rfl, hown2⟩
      simp only [hzk, hnext]
    · obtain ⟨h1, h2, h3, hc⟩ := hp
      subst h1
      have hnext : leftT d x (k' + 1) = leftT d x k' := by rw [hstep, hc, if_neg (fun h => by cases h.1)]
      have hpv : paidT d x k' = false := by rw [hpd, hc]; rfl
      have x0 : (comesT d x k').map AV.bool ++ [AV.bool false] = (comesT d x (k' + 1)).map AV.bool := by rw [hcomS, hc]; simp
      have x1 : (paidsT d x k').map AV.bool ++ [AV.bool false] = (paidsT d x (k' + 1)).map AV.bool := by rw [hpdS, hpv]; simp
      have x3 : I (leftsT d x k') ++ [AV.int .i64 (leftT d x k').1] = I (leftsT d x (k' + 1)) := by rw [I_snoc, hlfS, hnext]
      simp only [go_sem, ↓reduceIte, Nat.reduceBEq, Nat.reduceEqDiff, Nat.reduceLT, Nat.reduceLeDiff, Nat.reduceAdd, Nat.reduceMul, Nat.reduceSub, reduceCtorEq, Int.reduceLT, Int.reduceLE, Int.reduceEq, Int.reduceBEq, Int.reduceBNe, Int.reduceToNat, Int.reduceAdd, Int.reduceNeg, Int.reduceSub, eFc, hki, hv, eVi, hzv, hpb, hnn, hpx, ePe, hzp, hw, hcom, hcost, t1, t2, t3, hxc, hwb, w4, w9, hl0, hl0', hm, hcx, hzz, hmi, hwx, hws, h2, h3]
      generalize hcf : drawT _ _ _ = cf
      obtain rfl : cf = true := by rw [← hcf]; kernel_rfl
      generalize hTX : M ++ List.replicate _ false = TX
      have l1 : TX.length = M.length + 14 := by rw [← hTX, List.length_append, List.length_replicate]; rfl
      have g1 : ∀ j : Nat, M[j]? = some true → TX[j]? = some true := fun j hj => by rw [← hTX, List.getElem?_append_left (List.getElem?_eq_some_iff.1 hj).1]; exact hj
      generalize List.replicate _ ABlk.none = N1
      obtain ⟨ta, tb, a1, b1, q1, q2, q3, q4, q5, q6, q7, q8⟩ := own4_step hown (by omega) l1 g1 false false (comesT d x k') (paidsT d x k') (by simp [comesT]) (by simp [paidsT])
      rw [x0] at a1
      rw [x1] at b1
      simp only [go_sem, ↓reduceIte, Nat.reduceBEq, Nat.reduceEqDiff, Nat.reduceLT, Nat.reduceLeDiff, Nat.reduceAdd, Nat.reduceMul, Nat.reduceSub, reduceCtorEq, Int.reduceLT, Int.reduceLE, Int.reduceEq, Int.reduceBEq, Int.reduceBNe, Int.reduceToNat, Int.reduceAdd, Int.reduceNeg, Int.reduceSub, a1, b1, y1]
      generalize hcf : drawT _ _ _ = cf
      obtain rfl : cf = true := by rw [← hcf]; kernel_rfl
      generalize hTY : tb ++ List.replicate _ false = TY
      have l2 : TY.length = tb.length + 14 := by rw [← hTY, List.length_append, List.length_replicate] <;> rfl
      have g2 : ∀ j : Nat, tb[j]? = some true → TY[j]? = some true := fun j hj => by rw [← hTY, List.getElem?_append_left (List.getElem?_eq_some_iff.1 hj).1]; exact hj
      generalize List.replicate _ ABlk.none = N2
      obtain ⟨tc, te, c1, d1, hown2⟩ := own4_next (by omega) q1 q4 q5 q6 q7 q8 q2 q3 l2 g2 ct (leftT d x k').1 (costsT d x k') (leftsT d x k') (by simp [costsT]) (by simp [leftsT])
      rw [x2] at c1
      rw [x3] at d1
      simp only [go_sem, ↓reduceIte, Nat.reduceBEq, Nat.reduceEqDiff, Nat.reduceLT, Nat.reduceLeDiff, Nat.reduceAdd, Nat.reduceMul, Nat.reduceSub, reduceCtorEq, Int.reduceLT, Int.reduceLE, Int.reduceEq, Int.reduceBEq, Int.reduceBNe, Int.reduceToNat, Int.reduceAdd, Int.reduceNeg, Int.reduceSub, c1, d1, hw, y1]
      refine ⟨((M.length + 4 + 2, M.length + 9 + 2, tb.length + 4 + 2, tb.length + 9 + 2), (E ++ (N1 ++ N2), te), k' + 1), ?_, rfl, hown2⟩
      simp only [hzk, hnext]
    · obtain ⟨h1, h2, hc⟩ := hp
      subst h1
      by_cases hE : (leftT d x k').2 < 0
      · by_cases hL : (leftT d x k').1 < ct
        · have hnext : leftT d x (k' + 1) = ((leftT d x k').1, (k' : Int)) := by rw [hstep, hc, if_pos ⟨rfl, hE⟩, if_pos hL]
          have hpv : paidT d x k' = false := by rw [hpd, hc, decide_eq_true hL]; simp
          have x0 : (comesT d x k').map AV.bool ++ [AV.bool true] = (comesT d x (k' + 1)).map AV.bool := by rw [hcomS, hc]; simp
          have x1 : (paidsT d x k').map AV.bool ++ [AV.bool false] = (paidsT d x (k' + 1)).map AV.bool := by rw [hpdS, hpv]; simp
          have x3 : I (leftsT d x k') ++ [AV.int .i64 (leftT d x k').1] = I (leftsT d x (k' + 1)) := by rw [I_snoc, hlfS, hnext]
          simp only [go_sem, ↓reduceIte, Nat.reduceBEq, Nat.reduceEqDiff, Nat.reduceLT, Nat.reduceLeDiff, Nat.reduceAdd, Nat.reduceMul, Nat.reduceSub, reduceCtorEq, Int.reduceLT, Int.reduceLE, Int.reduceEq, Int.reduceBEq, Int.reduceBNe, Int.reduceToNat, Int.reduceAdd, Int.reduceNeg, Int.reduceSub, eFc, hki, hv, eVi, hzv, hpb, hnn, hpx, ePe, hzp, hw, hcom, hcost, t1, t2, t3, hxc, hwb, w4, w9, hl0, hl0', hm, hcx, hzz, hmi, hwx, hws, h2, hE, hL]
          generalize hcf : drawT _ _ _ = cf
          obtain rfl : cf = true := by rw [← hcf]; kernel_rfl
          generalize hTX : M ++ List.replicate _ false = TX
          have l1 : TX.length = M.length + 14 := by rw [← hTX, List.length_append, List.length_replicate]; rfl
          have g1 : ∀ j : Nat, M[j]? = some true → TX[j]? = some true := fun j hj => by rw [← hTX, List.getElem?_append_left (List.getElem?_eq_some_iff.1 hj).1]; exact hj
          generalize List.replicate _ ABlk.none = N1
          obtain ⟨ta, tb, a1, b1, q1, q2, q3, q4, q5, q6, q7, q8⟩ := own4_step hown (by omega) l1 g1 true false (comesT d x k') (paidsT d x k') (by simp [comesT]) (by simp [paidsT])
          rw [x0] at a1
          rw [x1] at b1
          simp only [go_sem, ↓reduceIte, Nat.reduceBEq, Nat.reduceEqDiff, Nat.reduceLT, Nat.reduceLeDiff, Nat.reduceAdd, Nat.reduceMul, Nat.reduceSub, reduceCtorEq, Int.reduceLT, Int.reduceLE, Int.reduceEq, Int.reduceBEq, Int.reduceBNe, Int.reduceToNat, Int.reduceAdd, Int.reduceNeg, Int.reduceSub, a1, b1, y1]
          generalize hcf : drawT _ _ _ = cf
          obtain rfl : cf = true := by rw [← hcf]; kernel_rfl
          generalize hTY : tb ++ List.replicate _ false = TY
          have l2 : TY.length = tb.length + 14 := by rw [← hTY, List.length_append, List.length_replicate] <;> rfl
          have g2 : ∀ j : Nat, tb[j]? = some true → TY[j]? = some true := fun j hj => by rw [← hTY, List.getElem?_append_left (List.getElem?_eq_some_iff.1 hj).1]; exact hj
          generalize List.replicate _ ABlk.none = N2
          obtain ⟨tc, te, c1, d1, hown2⟩ := own4_next (by omega) q1 q4 q5 q6 q7 q8 q2 q3 l2 g2 ct (leftT d x k').1 (costsT d x k') (leftsT d x k') (by simp [costsT]) (by simp [leftsT])
          rw [x2] at c1
          rw [x3] at d1
          simp only [go_sem, ↓reduceIte, Nat.reduceBEq, Nat.reduceEqDiff, Nat.reduceLT, Nat.reduceLeDiff, Nat.reduceAdd, Nat.reduceMul, Nat.reduceSub, reduceCtorEq, Int.reduceLT, Int.reduceLE, Int.reduceEq, Int.reduceBEq, Int.reduceBNe, Int.reduceToNat, Int.reduceAdd, Int.reduceNeg, Int.reduceSub, c1, d1, hw, y1]
          refine ⟨((M.length + 4 + 2, M.length + 9 + 2, tb.length + 4 + 2, tb.length + 9 + 2), (E ++ (N1 ++ N2), te), k' + 1), ?_, rfl, hown2⟩
          simp only [hzk, hnext]
        · have hnext : leftT d x (k' + 1) = ((leftT d x k').1 - ct, (leftT d x k').2) := by rw [hstep, hc, if_pos ⟨rfl, hE⟩, if_neg hL]
          have hpv : paidT d x k' = true := by rw [hpd, hc, decide_eq_true hE, decide_eq_false hL]; rfl
          have x0 : (comesT d x k').map AV.bool ++ [AV.bool true] = (comesT d x (k' + 1)).map AV.bool := by rw [hcomS, hc]; simp
          have x1 : (paidsT d x k').map AV.bool ++ [AV.bool true] = (paidsT d x (k' + 1)).map AV.bool := by rw [hpdS, hpv]; simp
          have x3 : I (leftsT d x k') ++ [AV.int .i64 ((leftT d x k').1 - ct)] = I (leftsT d x (k' + 1)) := by rw [I_snoc, hlfS, hnext]
          simp only [go_sem, ↓reduceIte, Nat.reduceBEq, Nat.reduceEqDiff, Nat.reduceLT, Nat.reduceLeDiff, Nat.reduceAdd, Nat.reduceMul, Nat.reduceSub, reduceCtorEq, Int.reduceLT, Int.reduceLE, Int.reduceEq, Int.reduceBEq, Int.reduceBNe, Int.reduceToNat, Int.reduceAdd, Int.reduceNeg, Int.reduceSub, eFc, hki, hv, eVi, hzv, hpb, hnn, hpx, ePe, hzp, hw, hcom, hcost, t1, t2, t3, hxc, hwb, w4, w9, hl0, hl0', hm, hcx, hzz, hmi, hwx, hws, h2, hE, hL]
          generalize hcf : drawT _ _ _ = cf
          obtain rfl : cf = true := by rw [← hcf]; kernel_rfl
          generalize hTX : M ++ List.replicate _ false = TX
          have l1 : TX.length = M.length + 14 := by rw [← hTX, List.length_append, List.length_replicate]; rfl
          have g1 : ∀ j : Nat, M[j]? = some true → TX[j]? = some true := fun j hj => by rw [← hTX, List.getElem?_append_left (List.getElem?_eq_some_iff.1 hj).1]; exact hj
          generalize List.replicate _ ABlk.none = N1
          obtain ⟨ta, tb, a1, b1, q1, q2, q3, q4, q5, q6, q7, q8⟩ := own4_step hown (by omega) l1 g1 true true (comesT d x k') (paidsT d x k') (by simp [comesT]) (by simp [paidsT])
          rw [x0] at a1
          rw [x1] at b1
          simp only [go_sem, ↓reduceIte, Nat.reduceBEq, Nat.reduceEqDiff, Nat.reduceLT, Nat.reduceLeDiff, Nat.reduceAdd, Nat.reduceMul, Nat.reduceSub, reduceCtorEq, Int.reduceLT, Int.reduceLE, Int.reduceEq, Int.reduceBEq, Int.reduceBNe, Int.reduceToNat, Int.reduceAdd, Int.reduceNeg, Int.reduceSub, a1, b1, y1]
          generalize hcf : drawT _ _ _ = cf
          obtain rfl : cf = true := by rw [← hcf]; kernel_rfl
          generalize hTY : tb ++ List.replicate _ false = TY
          have l2 : TY.length = tb.length + 14 := by rw [← hTY, List.length_append, List.length_replicate] <;> rfl
          have g2 : ∀ j : Nat, tb[j]? = some true → TY[j]? = some true := fun j hj => by rw [← hTY, List.getElem?_append_left (List.getElem?_eq_some_iff.1 hj).1]; exact hj
          generalize List.replicate _ ABlk.none = N2
          obtain ⟨tc, te, c1, d1, hown2⟩ := own4_next (by omega) q1 q4 q5 q6 q7 q8 q2 q3 l2 g2 ct ((leftT d x k').1 - ct) (costsT d x k') (leftsT d x k') (by simp [costsT]) (by simp [leftsT])
          rw [x2] at c1
          rw [x3] at d1
          simp only [go_sem, ↓reduceIte, Nat.reduceBEq, Nat.reduceEqDiff, Nat.reduceLT, Nat.reduceLeDiff, Nat.reduceAdd, Nat.reduceMul, Nat.reduceSub, reduceCtorEq, Int.reduceLT, Int.reduceLE, Int.reduceEq, Int.reduceBEq, Int.reduceBNe, Int.reduceToNat, Int.reduceAdd, Int.reduceNeg, Int.reduceSub, c1, d1, hw, y1]
          refine ⟨((M.length + 4 + 2, M.length + 9 + 2, tb.length + 4 + 2, tb.length + 9 + 2), (E ++ (N1 ++ N2), te), k' + 1), ?_, rfl, hown2⟩
          simp only [hzk, hnext]
      · have hnext : leftT d x (k' + 1) = leftT d x k' := by rw [hstep, hc, if_neg (fun h => hE h.2)]
        have hpv : paidT d x k' = false := by rw [hpd, hc, decide_eq_false hE]; rfl
        have x0 : (comesT d x k').map AV.bool ++ [AV.bool true] = (comesT d x (k' + 1)).map AV.bool := by rw [hcomS, hc]; simp
        have x1 : (paidsT d x k').map AV.bool ++ [AV.bool false] = (paidsT d x (k' + 1)).map AV.bool := by rw [hpdS, hpv]; simp
        have x3 : I (leftsT d x k') ++ [AV.int .i64 (leftT d x k').1] = I (leftsT d x (k' + 1)) := by rw [I_snoc, hlfS, hnext]
        simp only [go_sem, ↓reduceIte, Nat.reduceBEq, Nat.reduceEqDiff, Nat.reduceLT, Nat.reduceLeDiff, Nat.reduceAdd, Nat.reduceMul, Nat.reduceSub, reduceCtorEq, Int.reduceLT, Int.reduceLE, Int.reduceEq, Int.reduceBEq, Int.reduceBNe, Int.reduceToNat, Int.reduceAdd, Int.reduceNeg, Int.reduceSub, eFc, hki, hv, eVi, hzv, hpb, hnn, hpx, ePe, hzp, hw, hcom, hcost, t1, t2, t3, hxc, hwb, w4, w9, hl0, hl0', hm, hcx, hzz, hmi, hwx, hws, h2, hE]
        generalize hcf : drawT _ _ _ = cf
        obtain rfl : cf = true := by rw [← hcf]; kernel_rfl
        generalize hTX : M ++ List.replicate _ false = TX
        have l1 : TX.length = M.length + 14 := by rw [← hTX, List.length_append, List.length_replicate]; rfl
        have g1 : ∀ j : Nat, M[j]? = some true → TX[j]? = some true := fun j hj => by rw [← hTX, List.getElem?_append_left (List.getElem?_eq_some_iff.1 hj).1]; exact hj
        generalize List.replicate _ ABlk.none = N1
        obtain ⟨ta, tb, a1, b1, q1, q2, q3, q4, q5, q6, q7, q8⟩ := own4_step hown (by omega) l1 g1 true false (comesT d x k') (paidsT d x k') (by simp [comesT]) (by simp [paidsT])
        rw [x0] at a1
        rw [x1] at b1
        simp only [go_sem, ↓reduceIte, Nat.reduceBEq, Nat.reduceEqDiff, Nat.reduceLT, Nat.reduceLeDiff, Nat.reduceAdd, Nat.reduceMul, Nat.reduceSub, reduceCtorEq, Int.reduceLT, Int.reduceLE, Int.reduceEq, Int.reduceBEq, Int.reduceBNe, Int.reduceToNat, Int.reduceAdd, Int.reduceNeg, Int.reduceSub, a1, b1, y1]
        generalize hcf : drawT _ _ _ = cf
        obtain rfl : cf = true := by rw [← hcf]; kernel_rfl
        generalize hTY : tb ++ List.replicate _ false = TY
        have l2 : TY.length = tb.length + 14 := by rw [← hTY, List.length_append, List.length_replicate] <;> rfl
        have g2 : ∀ j : Nat, tb[j]? = some true → TY[j]? = some true := fun j hj => by rw [← hTY, List.getElem?_append_left (List.getElem?_eq_some_iff.1 hj).1]; exact hj
        generalize List.replicate _ ABlk.none = N2
        obtain ⟨tc, te, c1, d1, hown2⟩ := own4_next (by omega) q1 q4 q5 q6 q7 q8 q2 q3 l2 g2 ct (leftT d x k').1 (costsT d x k') (leftsT d x k') (by simp [costsT]) (by simp [leftsT])
        rw [x2] at c1
        rw [x3] at d1
        simp only [go_sem, ↓reduceIte, Nat.reduceBEq, Nat.reduceEqDiff, Nat.reduceLT, Nat.reduceLeDiff, Nat.reduceAdd, Nat.reduceMul, Nat.reduceSub, reduceCtorEq, Int.reduceLT, Int.reduceLE, Int.reduceEq, Int.reduceBEq, Int.reduceBNe, Int.reduceToNat, Int.reduceAdd, Int.reduceNeg, Int.reduceSub, c1, d1, hw, y1]
        refine ⟨((M.length + 4 + 2, M.length + 9 + 2, tb.length + 4 + 2, tb.length + 9 + 2), (E ++ (N1 ++ N2), te), k' + 1), ?_, rfl, hown2⟩
        simp only [hzk, hnext]
    · obtain ⟨h1, h2, h3, hc⟩ := hp
      subst h1
      by_cases hE : (leftT d x k').2 < 0
      · by_cases hL : (leftT d x k').1 < ct
        · have hnext : leftT d x (k' + 1) = ((leftT d x k').1, (k' : Int)) := by rw [hstep, hc, if_pos ⟨rfl, hE⟩, if_pos hL]
          have hpv : paidT d x k' = false := by rw [hpd, hc, decide_eq_true hL]; simp
          have x0 : (comesT d x k').map AV.bool ++ [AV.bool true] = (comesT d x (k' + 1)).map AV.bool := by rw [hcomS, hc]; simp
          have x1 : (paidsT d x k').map AV.bool ++ [AV.bool false] = (paidsT d x (k' + 1)).map AV.bool := by rw [hpdS, hpv]; simp
          have x3 : I (leftsT d x k') ++ [AV.int .i64 (leftT d x k').1] = I (leftsT d x (k' + 1)) := by rw [I_snoc, hlfS, hnext]
          simp only [go_sem, ↓reduceIte, Nat.reduceBEq, Nat.reduceEqDiff, Nat.reduceLT, Nat.reduceLeDiff, Nat.reduceAdd, Nat.reduceMul, Nat.reduceSub, reduceCtorEq, Int.reduceLT, Int.reduceLE, Int.reduceEq, Int.reduceBEq, Int.reduceBNe, Int.reduceToNat, Int.reduceAdd, Int.reduceNeg, Int.reduceSub, eFc, hki, hv, eVi, hzv, hpb, hnn, hpx, ePe, hzp, hw, hcom, hcost, t1, t2, t3, hxc, hwb, w4, w9, hl0, hl0', hm, hcx, hzz, hmi, hwx, hws, h2, h3, hE, hL]
          generalize hcf : drawT _ _ _ = cf
          obtain rfl : cf = true := by rw [← hcf]; kernel_rfl
          generalize hTX : M ++ List.replicate _ false = TX
          have l1 : TX.length = M.length + 14 := by rw [← hTX, List.length_append, List.length_replicate]; rfl
          have g1 : ∀ j : Nat, M[j]? = some true → TX[j]? = some true := fun j hj => by rw [← hTX, List.getElem?_append_left (List.getElem?_eq_some_iff.1 hj).1]; exact hj
          generalize List.replicate _ ABlk.none = N1
          obtain ⟨ta, tb, a1, b1, q1, q2, q3, q4, q5, q6, q7, q8⟩ := own4_step hown (by omega) l1 g1 true false (comesT d x k') (paidsT d x k') (by simp [comesT]) (by simp [paidsT])
          rw [x0] at a1
          rw [x1] at b1
          simp only [go_sem, ↓reduceIte, Nat.reduceBEq, Nat.reduceEqDiff, Nat.reduceLT, Nat.reduceLeDiff, Nat.reduceAdd, Nat.reduceMul, Nat.reduceSub, reduceCtorEq, Int.reduceLT, Int.reduceLE, Int.reduceEq, Int.reduceBEq, Int.reduceBNe, Int.reduceToNat, Int.reduceAdd, Int.reduceNeg, Int.reduceSub, a1, b1, y1]
          generalize hcf : drawT _ _ _ = cf
          obtain rfl : cf = true := by rw [← hcf]; kernel_rfl
          generalize hTY : tb ++ List.replicate _ false = TY
          have l2 : TY.length = tb.length + 14 := by rw [← hTY, List.length_append, List.length_replicate] <;> rfl
          have g2 : ∀ j : Nat, tb[j]? = some true → TY[j]? = some true := fun j hj => by rw [← hTY, List.getElem?_append_left (List.getElem?_eq_some_iff.1 hj).1]; exact hj
          generalize List.replicate _ ABlk.none = N2
          obtain ⟨tc, te, c1, d1, hown2⟩ := own4_next (by omega) q1 q4 q5 q6 q7 q8 q2 q3 l2 g2 ct (leftT d x k').1 (costsT d x k') (leftsT d x k') (by simp [costsT]) (by simp [leftsT])
          rw [x2] at c1
          rw [x3] at d1
          simp only [go_sem, ↓reduceIte, Nat.reduceBEq, Nat.reduceEqDiff, Nat.reduceLT, Nat.reduceLeDiff, Nat.reduceAdd, Nat.reduceMul, Nat.reduceSub, reduceCtorEq, Int.reduceLT, Int.reduceLE, Int.reduceEq, Int.reduceBEq, Int.reduceBNe, Int.reduceToNat, Int.reduceAdd, Int.reduceNeg, Int.reduceSub, c1, d1, hw, y1]
          refine ⟨((M.length + 4 + 2, M.length + 9 + 2, tb.length + 4 + 2, tb.length + 9 + 2), (E ++ (N1 ++ N2), te), k' + 1), ?_, rfl, hown2⟩
          simp only [hzk, hnext]
        · have hnext : leftT d x (k' + 1) = ((leftT d x k').1 - ct, (leftT d x k').2) := by rw [hstep, hc, if_pos ⟨rfl, hE⟩, if_neg hL]
          have hpv : paidT d x k' = true := by rw [hpd, hc, decide_eq_true hE, decide_eq_false hL]; rfl
          have x0 : (comesT d x k').map AV.bool ++ [AV.bool true] = (comesT d x (k' + 1)).map AV.bool := by rw [hcomS, hc]; simp
          have x1 : (paidsT d x k').map AV.bool ++ [AV.bool true] = (paidsT d x (k' + 1)).map AV.bool := by rw [hpdS, hpv]; simp
          have x3 : I (leftsT d x k') ++ [AV.int .i64 ((leftT d x k').1 - ct)] = I (leftsT d x (k' + 1)) := by rw [I_snoc, hlfS, hnext]
          simp only [go_sem, ↓reduceIte, Nat.reduceBEq, Nat.reduceEqDiff, Nat.reduceLT, Nat.reduceLeDiff, Nat.reduceAdd, Nat.reduceMul, Nat.reduceSub, reduceCtorEq, Int.reduceLT, Int.reduceLE, Int.reduceEq, Int.reduceBEq, Int.reduceBNe, Int.reduceToNat, Int.reduceAdd, Int.reduceNeg, Int.reduceSub, eFc, hki, hv, eVi, hzv, hpb, hnn, hpx, ePe, hzp, hw, hcom, hcost, t1, t2, t3, hxc, hwb, w4, w9, hl0, hl0', hm, hcx, hzz, hmi, hwx, hws, h2, h3, hE, hL]
          generalize hcf : drawT _ _ _ = cf
          obtain rfl : cf = true := by rw [← hcf]; kernel_rfl
          generalize hTX : M ++ List.replicate _ false = TX
          have l1 : TX.length = M.length + 14 := by rw [← hTX, List.length_append, List.length_replicate]; rfl
          have g1 : ∀ j : Nat, M[j]? = some true → TX[j]? = some true := fun j hj => by rw [← hTX, List.getElem?_append_left (List.getElem?_eq_some_iff.1 hj).1]; exact hj
          generalize List.replicate _ ABlk.none = N1
          obtain ⟨ta, tb, a1, b1, q1, q2, q3, q4, q5, q6, q7, q8⟩ := own4_step hown (by omega) l1 g1 true true (comesT d x k') (paidsT d x k') (by simp [comesT]) (by simp [paidsT])
          rw [x0] at a1
          rw [x1] at b1
          simp only [go_sem, ↓reduceIte, Nat.reduceBEq, Nat.reduceEqDiff, Nat.reduceLT, Nat.reduceLeDiff, Nat.reduceAdd, Nat.reduceMul, Nat.reduceSub, reduceCtorEq, Int.reduceLT, Int.reduceLE, Int.reduceEq, Int.reduceBEq, Int.reduceBNe, Int.reduceToNat, Int.reduceAdd, Int.reduceNeg, Int.reduceSub, a1, b1, y1]
          generalize hcf : drawT _ _ _ = cf
          obtain rfl : cf = true := by rw [← hcf]; kernel_rfl
          generalize hTY : tb ++ List.replicate _ false = TY
          have l2 : TY.length = tb.length + 14 := by rw [← hTY, List.length_append, List.length_replicate] <;> rfl
          have g2 : ∀ j : Nat, tb[j]? = some true → TY[j]? = some true := fun j hj => by rw [← hTY, List.getElem?_append_left (List.getElem?_eq_some_iff.1 hj).1]; exact hj
          generalize List.replicate _ ABlk.none = N2
          obtain ⟨tc, te, c1, d1, hown2⟩ := own4_next (by omega) q1 q4 q5 q6 q7 q8 q2 q3 l2 g2 ct ((leftT d x k').1 - ct) (costsT d x k') (leftsT d x k') (by simp [costsT]) (by simp [leftsT])
          rw [x2] at c1
          rw [x3] at d1
          simp only [go_sem, ↓reduceIte, Nat.reduceBEq, Nat.reduceEqDiff, Nat.reduceLT, Nat.reduceLeDiff, Nat.reduceAdd, Nat.reduceMul, Nat.reduceSub, reduceCtorEq, Int.reduceLT, Int.reduceLE, Int.reduceEq, Int.reduceBEq, Int.reduceBNe, Int.reduceToNat, Int.reduceAdd, Int.reduceNeg, Int.reduceSub, c1, d1, hw, y1]
          refine ⟨((M.length + 4 + 2, M.length + 9 + 2, tb.length + 4 + 2, tb.length + 9 + 2), (E ++ (N1 ++ N2), te), k' + 1), ?_, rfl, hown2⟩
          simp only [hzk, hnext]
      · have hnext : leftT d x (k' + 1) = leftT d x k' := by rw [hstep, hc, if_neg (fun h => hE h.2)]
        have hpv : paidT d x k' = false := by rw [hpd, hc, decide_eq_false hE]; rfl
        have x0 : (comesT d x k').map AV.bool ++ [AV.bool true] = (comesT d x (k' + 1)).map AV.bool := by rw [hcomS, hc]; simp
        have x1 : (paidsT d x k').map AV.bool ++ [AV.bool false] = (paidsT d x (k' + 1)).map AV.bool := by rw [hpdS, hpv]; simp
        have x3 : I (leftsT d x k') ++ [AV.int .i64 (leftT d x k').1] = I (leftsT d x (k' + 1)) := by rw [I_snoc, hlfS, hnext]
        simp only [go_sem, ↓reduceIte, Nat.reduceBEq, Nat.reduceEqDiff, Nat.reduceLT, Nat.reduceLeDiff, Nat.reduceAdd, Nat.reduceMul, Nat.reduceSub, reduceCtorEq, Int.reduceLT, Int.reduceLE, Int.reduceEq, Int.reduceBEq, Int.reduceBNe, Int.reduceToNat, Int.reduceAdd, Int.reduceNeg, Int.reduceSub, eFc, hki, hv, eVi, hzv, hpb, hnn, hpx, ePe, hzp, hw, hcom, hcost, t1, t2, t3, hxc, hwb, w4, w9, hl0, hl0', hm, hcx, hzz, hmi, hwx, hws, h2, h3, hE]
        generalize hcf : drawT _ _ _ = cf
        obtain rfl : cf = true := by rw [← hcf]; kernel_rfl
        generalize hTX : M ++ List.replicate _ false = TX
        have l1 : TX.length = M.length + 14 := by rw [← hTX, List.length_append, List.length_replicate]; rfl
        have g1 : ∀ j : Nat, M[j]? = some true → TX[j]? = some true := fun j hj => by rw [← hTX, List.getElem?_append_left (List.getElem?_eq_some_iff.1 hj).1]; exact hj
        generalize List.replicate _ ABlk.none = N1
        obtain ⟨ta, tb, a1, b1, q1, q2, q3, q4, q5, q6, q7, q8⟩ := own4_step hown (by omega) l1 g1 true false (comesT d x k') (paidsT d x k') (by simp [comesT]) (by simp [paidsT])
        rw [x0] at a1
        rw [x1] at b1
        simp only [go_sem, ↓reduceIte, Nat.reduceBEq, Nat.reduceEqDiff, Nat.reduceLT, Nat.reduceLeDiff, Nat.reduceAdd, Nat.reduceMul, Nat.reduceSub, reduceCtorEq, Int.reduceLT, Int.reduceLE, Int.reduceEq, Int.reduceBEq, Int.reduceBNe, Int.reduceToNat, Int.reduceAdd, Int.reduceNeg, Int.reduceSub, a1, b1, y1]
        generalize hcf : drawT _ _ _ = cf
        obtain rfl : cf = true := by rw [← hcf]; kernel_rfl
        generalize hTY : tb ++ List.replicate _ false = TY
        have l2 : TY.length = tb.length + 14 := by rw [← hTY, List.length_append, List.length_replicate] <;> rfl
        have g2 : ∀ j : Nat, tb[j]? = some true → TY[j]? = some true := fun j hj => by rw [← hTY, List.getElem?_append_left (List.getElem?_eq_some_iff.1 hj).1]; exact hj
        generalize List.replicate _ ABlk.none = N2
        obtain ⟨tc, te, c1, d1, hown2⟩ := own4_next (by omega) q1 q4 q5 q6 q7 q8 q2 q3 l2 g2 ct (leftT d x k').1 (costsT d x k') (leftsT d x k') (by simp [costsT]) (by simp [leftsT])
        rw [x2] at c1
        rw [x3] at d1
        simp only [go_sem, ↓reduceIte, Nat.reduceBEq, Nat.reduceEqDiff, Nat.reduceLT, Nat.reduceLeDiff, Nat.reduceAdd, Nat.reduceMul, Nat.reduceSub, reduceCtorEq, Int.reduceLT, Int.reduceLE, Int.reduceEq, Int.reduceBEq, Int.reduceBNe, Int.reduceToNat, Int.reduceAdd, Int.reduceNeg, Int.reduceSub, c1, d1, hw, y1]
        refine ⟨((M.length + 4 + 2, M.length + 9 + 2, tb.length + 4 + 2, tb.length + 9 + 2), (E ++ (N1 ++ N2), te), k' + 1), ?_, rfl, hown2⟩
        simp only [hzk, hnext]
  · rintro ⟨⟨u0, u1, u2, u3⟩, ⟨E, M⟩, k'⟩ ⟨hR, hown⟩
    obtain rfl : k' = d.visits.length := hR
    simp only [go_sem, ↓reduceIte, Nat.reduceBEq, Nat.reduceEqDiff, Nat.reduceLT, Nat.reduceLeDiff, Nat.reduceAdd, Nat.reduceMul, Nat.reduceSub, reduceCtorEq, Int.reduceLT, Int.reduceLE, Int.reduceEq, Int.reduceBEq, Int.reduceBNe, Int.reduceToNat, Int.reduceAdd, Int.reduceNeg, Int.reduceSub, eFc, Int.lt_irrefl]
  · rintro ⟨⟨u0, u1, u2, u3⟩, ⟨E, M⟩, k'⟩ hys ⟨hR, hown⟩
    obtain rfl : k' = d.visits.length := hR
    subst hys
    have y1 := fun n l => underL_map (e := AV.bool) (n := n) (fun x => by simp only [go_sem, ↓reduceIte, Nat.reduceBEq, Nat.reduceEqDiff, Nat.reduceLT, Nat.reduceLeDiff, Nat.reduceAdd, Nat.reduceMul, Nat.reduceSub, reduceCtorEq, Int.reduceLT, Int.reduceLE, Int.reduceEq, Int.reduceBEq, Int.reduceBNe, Int.reduceToNat, Int.reduceAdd, Int.reduceNeg, Int.reduceSub]) l
    have y2 := cleanL_map (e := AV.bool) (fun x => clean_bool x)
    have z1 : (comesT d x d.visits.length).length = d.visits.length := by simp [comesT]
    have z2 : (paidsT d x d.visits.length).length = d.visits.length := by simp [paidsT]
    have z3 : (costsT d x d.visits.length).length = d.visits.length := by simp [costsT]
    have z4 : (leftsT d x d.visits.length).length = d.visits.length := by simp [leftsT]
    simp only [go_sem, ↓reduceIte, Nat.reduceBEq, Nat.reduceEqDiff, Nat.reduceLT, Nat.reduceLeDiff, Nat.reduceAdd, Nat.reduceMul, Nat.reduceSub, reduceCtorEq, Int.reduceLT, Int.reduceLE, Int.reduceEq, Int.reduceBEq, Int.reduceBNe, Int.reduceToNat, Int.reduceAdd, Int.reduceNeg, Int.reduceSub, eFc, y1, y2, eCo, vBs, vI, z1, z2, z3, z4]
    skip
end Go.Proofs.YthkpjbgadkkeeaaGreat
