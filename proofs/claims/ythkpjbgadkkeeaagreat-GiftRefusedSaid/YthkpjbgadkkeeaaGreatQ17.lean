/- Z-numbers. All lists of so many of some things, by the reference. Conditions: those of each law. -/
import Derived.Test.YthkpjbgadkkeeaaGreatQ16
set_option linter.unusedSimpArgs false
set_option linter.unusedVariables false
namespace Go.Proofs.YthkpjbgadkkeeaaGreat
open Go.Proofs

structure RC where
  tg : Nat
  z : Nat
  xs : List AV
  t : List Bool
def RC.v (s : RC) : AV := .lst s.tg s.z s.xs
def RC.is (s : RC) (ts : List (List Int)) : Prop := Rows s.xs ts ∧ OwnS 1 s.tg s.z s.xs.length s.t ∧ (s.xs = [] → s.z = 0)
theorem flat_len {α β : Type} (f : α → List β) (m : Nat) : ∀ l : List α, (∀ x ∈ l, (f x).length ≤ m) → (l.flatMap f).length ≤ l.length * m
  | [], _ => by simp
  | x :: l, h => by
    have a := h x (by simp)
    have b := flat_len f m l fun y hy => h y (by simp [hy])
    rw [List.flatMap_cons, List.length_append, List.length_cons, Nat.succ_mul]
    omega

def eR (t : List Int) : AV := .lst 0 1 (I t)
theorem extC_succ (i : Nat) (t : List Int) (k : Nat) : extC i t (k + 1) = extC i t k ++ [t ++ [leastC i t + (k : Int)]] := by
  unfold extC; rw [List.range_succ, List.map_append]; rfl
theorem extC_len (i : Nat) (t : List Int) (k : Nat) : (extC i t k).length = k := by unfold extC; simp
theorem choicesL_mem (b : Nat) : ∀ (i : Nat) (t : List Int), t ∈ choicesL b i → t.length = i ∧ ∀ n ∈ t, 0 ≤ n ∧ n < b
  | 0, t, hm => by simp [choicesL] at hm; subst hm; exact ⟨rfl, fun n hn => by cases hn⟩
  | i + 1, t, hm => by
    unfold choicesL at hm
    obtain ⟨u, hu, ht⟩ := List.mem_flatMap.1 hm
    unfold extC at ht
    obtain ⟨j, hj, rfl⟩ := List.mem_map.1 ht
    have hj := List.mem_range.1 hj
    obtain ⟨h1, h2⟩ := choicesL_mem b i u hu
    have hl : 0 ≤ leastC i u := by
      unfold leastC
      split
      · omega
      · rename_i h0
        have hlt : i - 1 < u.length := by omega
        have := (h2 _ (List.getElem_mem hlt)).1
        have e : u.getD (i - 1) 0 = u[i - 1] := by simp [hlt]
        omega
    refine ⟨by simp [h1], fun n hn => ?_⟩
    rcases List.mem_append.1 hn with h | h
    · exact h2 n h
    · simp at h
      unfold widthC at hj
      omega
theorem leastC_nn {b i : Nat} {t : List Int} (hm : t ∈ choicesL b i) : 0 ≤ leastC i t ∧ leastC i t ≤ b := by
  obtain ⟨h1, h2⟩ := choicesL_mem b i t hm
  unfold leastC
  split
  · omega
  · have hlt : i - 1 < t.length := by omega
    have := h2 _ (List.getElem_mem hlt)
    have e : t.getD (i - 1) 0 = t[i - 1] := by simp [hlt]
    omega
theorem choicesL_len {b : Nat} (hb : b ≤ 5) : ∀ i, (choicesL b i).length ≤ 5 ^ i
  | 0 => by simp [choicesL]
  | i + 1 => by
    have a := flat_len (fun t => extC i t (widthC b i t)) 5 (choicesL b i) fun t ht => by
      rw [extC_len]; have := leastC_nn ht; unfold widthC; omega
    have c := choicesL_len hb i
    unfold choicesL
    rw [Nat.pow_succ]
    exact Nat.le_trans a (Nat.mul_le_mul_right 5 c)
theorem Rows.clean_eq : ∀ {xs : List AV} {ts : List (List Int)}, Rows xs ts → (∀ t ∈ ts, t ≠ []) → cleanL xs = some (ts.map eR)
  | [], ts, h, _ => by
    have := h.1
    cases ts with
    | nil => exact cleanL_nil
    | cons t ts => simp at this
  | x :: xs, [], h, _ => by have := h.1; simp at this
  | x :: xs, t :: ts, h, hn => by
    have h' : Rows xs ts := ⟨by have := h.1; simpa using this, fun i u hu => by simpa using h.2 (i + 1) u (by simpa using hu)⟩
    have ih := Rows.clean_eq h' fun u hu => hn u (by simp [hu])
    obtain ⟨a, z, h4, h5⟩ := h.2 0 t rfl
    simp only [List.getElem?_cons_zero, Option.some.injEq] at h4
    subst h4
    have := h5 (hn t (by simp))
    subst this
    simp only [go_sem, ↓reduceIte, Nat.reduceBEq, Nat.reduceEqDiff, Nat.reduceLT, Nat.reduceLeDiff, Nat.reduceAdd, Nat.reduceMul, Nat.reduceSub, reduceCtorEq, Int.reduceLT, Int.reduceLE, Int.reduceEq, Int.reduceBEq, Int.reduceBNe, Int.reduceToNat, Int.reduceAdd, Int.reduceNeg, Int.reduceSub, ih, List.map_cons, eR]

def vC (ts : List (List Int)) : AV := .lst 0 (zT 1 ts.length) (ts.map vI)
theorem vI_cleanL (l : List (List Int)) : cleanL (l.map vI) = some (l.map vI) := cleanL_map (fun x => vI_clean x) l
theorem vI_get (l : List (List Int)) (k : Nat) : (l.map vI)[k]? = (l[k]?).map vI := by simp
theorem vI_underL (n : Nat) (l : List (List Int)) : underL n (l.map vI) = true := underL_map (fun x => vI_under n x) l
theorem vI_var (l : List (List Int)) : (l.map vI).all AV.var = true := all_map (fun _ => rfl) l
attribute [go_sem] vI_cleanL vI_get vI_underL vI_var
theorem rows_vI {xs : List AV} {ts : List (List Int)} (h : Rows xs ts) (hn : ∀ t ∈ ts, t ≠ []) : cleanL xs = some (ts.map vI) := by
  rw [h.clean_eq hn]
  congr 1
  apply List.map_congr_left
  intro t ht
  unfold eR vI
  rw [zT_pos (List.length_pos_iff.2 (hn t ht))]

theorem cChoices (b m : Nat) (hb : b ≤ 5) (hm5 : m ≤ 5) (h : Heap) : callPure (EW tabX) 63 [.int .i64 b, .int .i64 m] h = some (vC (choicesL b m), h) := by
  have key : ∃ s : RC, (Rows s.xs (choicesL b m) ∧ (s.xs ≠ [] → s.z = 1) ∧ (s.xs = [] → s.z = 0) ∧ (m = 0 → s.xs = [.lst 1 0 []])) ∧ ∃ h1, (EW tabX).call 63 [.int .i64 b, .int .i64 m] ⟨[], []⟩ = some (s.v, h1) := by
    rw [w_call _ fn_63 rfl]
    simp only [go_sem, ↓reduceIte, Nat.reduceBEq, Nat.reduceEqDiff, Nat.reduceLT, Nat.reduceLeDiff, Nat.reduceAdd, Nat.reduceMul, Nat.reduceSub, reduceCtorEq, Int.reduceLT, Int.reduceLE, Int.reduceEq, Int.reduceBEq, Int.reduceBNe, Int.reduceToNat, Int.reduceAdd, Int.reduceNeg, Int.reduceSub]
    generalize hx : (EW tabX).code 63 none (Code.loop _) _ = x
    refine w_rounds_sk hx (fun k (s : RC) => [(5, s.v), (6, .int .i64 k)]) (fun s => ⟨[], s.t⟩) (fun k s => Rows s.xs (choicesL b k) ∧ (s.xs ≠ [] → s.z = 1) ∧ (s.xs = [] → s.z = 0) ∧ (k = 0 → s.xs = [.lst 1 0 []])) m (.exit 0) (fun s => [(5, s.v), (6, .int .i64 m)]) rfl ⟨1, 1, [.lst 1 0 []], []⟩ ?_ ?_ ?_ ?_ ?_ ?_
    · simp only [go_sem, ↓reduceIte, Nat.reduceBEq, Nat.reduceEqDiff, Nat.reduceLT, Nat.reduceLeDiff, Nat.reduceAdd, Nat.reduceMul, Nat.reduceSub, reduceCtorEq, Int.reduceLT, Int.reduceLE, Int.reduceEq, Int.reduceBEq, Int.reduceBNe, Int.reduceToNat, Int.reduceAdd, Int.reduceNeg, Int.reduceSub, RC.v]
    · rfl
    · refine ⟨⟨rfl, fun i t hi => ?_⟩, fun _ => rfl, fun h => (by cases h), fun _ => rfl⟩
      cases i with
      | zero => simp [choicesL] at hi; subst hi; exact ⟨1, 0, rfl, fun h => absurd rfl h⟩
      | succ i => simp [choicesL] at hi
    · intro e s he hR
      obtain ⟨hrow, hz, hz0, _⟩ := hR
      obtain ⟨tg, z, xs, t⟩ := s
      have hrow : Rows xs (choicesL b e) := hrow
      have hz : xs ≠ [] → z = 1 := hz
      have hei : (e : Int) < m := by omega
      have hxl := hrow.1
      have hlen := choicesL_len hb e
      have hp : 5 ^ e ≤ 625 := by
        have : 5 ^ e ≤ 5 ^ 4 := Nat.pow_le_pow_right (by omega) (by omega)
        omega
      simp only [go_sem, ↓reduceIte, Nat.reduceBEq, Nat.reduceEqDiff, Nat.reduceLT, Nat.reduceLeDiff, Nat.reduceAdd, Nat.reduceMul, Nat.reduceSub, reduceCtorEq, Int.reduceLT, Int.reduceLE, Int.reduceEq, Int.reduceBEq, Int.reduceBNe, Int.reduceToNat, Int.reduceAdd, Int.reduceNeg, Int.reduceSub, hei, RC.v]
      generalize hy : (EW tabX).code 63 none (Code.loop _) _ = y
      refine w_rounds_sk hy (fun k (s : RC) => [(7, s.v), (8, .int .i64 k)]) (fun s => ⟨[], s.t⟩) (fun k s => s.is (((choicesL b e).take k).flatMap fun t => extC e t (widthC b e t))) (choicesL b e).length (.exit 2) (fun s => [(7, s.v), (8, .int .i64 (choicesL b e).length)]) rfl ⟨1, 0, [], t⟩ ?_ ?_ ?_ ?_ ?_ ?_
      · simp only [go_sem, ↓reduceIte, Nat.reduceBEq, Nat.reduceEqDiff, Nat.reduceLT, Nat.reduceLeDiff, Nat.reduceAdd, Nat.reduceMul, Nat.reduceSub, reduceCtorEq, Int.reduceLT, Int.reduceLE, Int.reduceEq, Int.reduceBEq, Int.reduceBNe, Int.reduceToNat, Int.reduceAdd, Int.reduceNeg, Int.reduceSub, RC.v]
      · rfl
      · exact ⟨⟨rfl, fun i t hi => by simp at hi⟩, .inl ⟨rfl, rfl⟩, fun _ => rfl⟩
      · intro k s hk hR
        obtain ⟨ntg, nz, nxs, nt⟩ := s
        have hki : (k : Int) < xs.length := by omega
        have htk := List.getElem?_eq_getElem hk
        obtain ⟨otg, oz, hox, hoz⟩ := hrow.2 k _ htk
        obtain ⟨htl, htb⟩ := choicesL_mem b e _ (List.getElem_mem hk)
        obtain ⟨hl0, hl1⟩ := leastC_nn (List.getElem_mem hk)
        have hz1 := hz (by intro h; rw [h] at hki; simp at hki; omega)
        subst hz1
        have hflat : ((choicesL b e).take (k + 1)).flatMap (fun t => extC e t (widthC b e t)) = ((choicesL b e).take k).flatMap (fun t => extC e t (widthC b e t)) ++ extC e (choicesL b e)[k] (widthC b e (choicesL b e)[k]) := by
          rw [List.take_add_one, htk, List.flatMap_append]; simp
        have hpl : (((choicesL b e).take k).flatMap fun t => extC e t (widthC b e t)).length ≤ 625 * 5 := by
          have a := flat_len (fun t => extC e t (widthC b e t)) 5 ((choicesL b e).take k) fun t ht => by
            rw [extC_len]; have := leastC_nn (b := b) (List.mem_of_mem_take ht); unfold widthC; omega
          have c : ((choicesL b e).take k).length ≤ 625 := by rw [List.length_take]; omega
          exact Nat.le_trans a (Nat.mul_le_mul_right 5 c)
        rw [hflat]
        generalize (((choicesL b e).take k).flatMap fun t => extC e t (widthC b e t)) = pre at hR hpl ⊢
        generalize (choicesL b e)[k] = tt at hox hoz htl htb hl0 hl1 ⊢
        have hw : (widthC b e tt : Int) = b - leastC e tt := by unfold widthC; omega
        -- the inner loop
        have inner : ∀ (g0 : Slots) (x9 : AV) (w : Option (AExit × St)), True := fun _ _ _ => trivial
        cases e with
        | zero =>
          have hle : leastC 0 tt = 0 := rfl
          simp (disch := omega) only [go_sem, ↓reduceIte, Nat.reduceBEq, Nat.reduceEqDiff, Nat.reduceLT, Nat.reduceLeDiff, Nat.reduceAdd, Nat.reduceMul, Nat.reduceSub, reduceCtorEq, Int.reduceLT, Int.reduceLE, Int.reduceEq, Int.reduceBEq, Int.reduceBNe, Int.reduceToNat, Int.reduceAdd, Int.reduceNeg, Int.reduceSub, hki, RC.v, wrap_i64]
          generalize hz : (EW tabX).code 63 none (Code.loop _) _ = w
          refine w_rounds_sk hz (fun k (s : RC) => [(7, s.v), (10, .int .i64 (leastC 0 tt + (k : Int)))]) (fun s => ⟨[], s.t⟩) (fun j s => s.is (pre ++ extC 0 tt j)) (widthC b 0 tt) (.exit 4) (fun s => [(7, s.v), (10, .int .i64 b)]) rfl ⟨ntg, nz, nxs, nt⟩ ?_ ?_ ?_ ?_ ?_ ?_
          · simp only [go_sem, ↓reduceIte, Nat.reduceBEq, Nat.reduceEqDiff, Nat.reduceLT, Nat.reduceLeDiff, Nat.reduceAdd, Nat.reduceMul, Nat.reduceSub, reduceCtorEq, Int.reduceLT, Int.reduceLE, Int.reduceEq, Int.reduceBEq, Int.reduceBNe, Int.reduceToNat, Int.reduceAdd, Int.reduceNeg, Int.reduceSub, RC.v, Int.add_zero, hle]
          · rfl
          · simpa [extC] using hR
          · intro j s hj hR
            obtain ⟨jtg, jz, jxs, jt⟩ := s
            obtain ⟨hrj, hoj, hj0⟩ := hR
            have hrj : Rows jxs (pre ++ extC 0 tt j) := hrj
            have hoj : OwnS 1 jtg jz jxs.length jt := hoj
            have hji : leastC 0 tt + (j : Int) < b := by omega
            have hjl := hrj.1
            have hel := extC_len 0 tt j
            have hjn : jxs.length ≤ 3200 := by rw [hjl, List.length_append]; omega
            rw [extC_succ]
            have hws : IntKind.i64.wrap (leastC 0 tt + (j : Int) + 1) = leastC 0 tt + ((j : Int) + 1) := by rw [wrap_i64 (by omega)]; omega
            obtain ⟨t2, a1, b1, c1, d1⟩ := app_gen (X := tabX) (ty := 22) (e := 3) (sz := 1) (tag := 1) (z := 1) (t := jt) (xs := []) (.inl ⟨rfl, rfl⟩) otg oz (I tt) (by simp only [go_sem, ↓reduceIte, Nat.reduceBEq, Nat.reduceEqDiff, Nat.reduceLT, Nat.reduceLeDiff, Nat.reduceAdd, Nat.reduceMul, Nat.reduceSub, reduceCtorEq, Int.reduceLT, Int.reduceLE, Int.reduceEq, Int.reduceBEq, Int.reduceBNe, Int.reduceToNat, Int.reduceAdd, Int.reduceNeg, Int.reduceSub]) (by simp only [go_sem, ↓reduceIte, Nat.reduceBEq, Nat.reduceEqDiff, Nat.reduceLT, Nat.reduceLeDiff, Nat.reduceAdd, Nat.reduceMul, Nat.reduceSub, reduceCtorEq, Int.reduceLT, Int.reduceLE, Int.reduceEq, Int.reduceBEq, Int.reduceBNe, Int.reduceToNat, Int.reduceAdd, Int.reduceNeg, Int.reduceSub]) (by omega)
              (by by_cases h : tt = []; exact .inr (by rw [h]; rfl); exact .inl (hoz h)) (by simp only [go_sem, ↓reduceIte, Nat.reduceBEq, Nat.reduceEqDiff, Nat.reduceLT, Nat.reduceLeDiff, Nat.reduceAdd, Nat.reduceMul, Nat.reduceSub, reduceCtorEq, Int.reduceLT, Int.reduceLE, Int.reduceEq, Int.reduceBEq, Int.reduceBNe, Int.reduceToNat, Int.reduceAdd, Int.reduceNeg, Int.reduceSub]; omega) (by simp only [go_sem, ↓reduceIte, Nat.reduceBEq, Nat.reduceEqDiff, Nat.reduceLT, Nat.reduceLeDiff, Nat.reduceAdd, Nat.reduceMul, Nat.reduceSub, reduceCtorEq, Int.reduceLT, Int.reduceLE, Int.reduceEq, Int.reduceBEq, Int.reduceBNe, Int.reduceToNat, Int.reduceAdd, Int.reduceNeg, Int.reduceSub]; omega) (by simp only [go_sem, ↓reduceIte, Nat.reduceBEq, Nat.reduceEqDiff, Nat.reduceLT, Nat.reduceLeDiff, Nat.reduceAdd, Nat.reduceMul, Nat.reduceSub, reduceCtorEq, Int.reduceLT, Int.reduceLE, Int.reduceEq, Int.reduceBEq, Int.reduceBNe, Int.reduceToNat, Int.reduceAdd, Int.reduceNeg, Int.reduceSub]) (by simp only [go_sem, ↓reduceIte, Nat.reduceBEq, Nat.reduceEqDiff, Nat.reduceLT, Nat.reduceLeDiff, Nat.reduceAdd, Nat.reduceMul, Nat.reduceSub, reduceCtorEq, Int.reduceLT, Int.reduceLE, Int.reduceEq, Int.reduceBEq, Int.reduceBNe, Int.reduceToNat, Int.reduceAdd, Int.reduceNeg, Int.reduceSub])
            obtain ⟨t3, a2, b2, c2, d2⟩ := app_gen (X := tabX) (ty := 22) (e := 3) (sz := 1) (tag := jt.length + 2) (z := 1) (t := t2) (xs := I tt) (.inr ⟨jt.length, rfl, rfl, c1⟩) 1 1 [.int .i64 (leastC 0 tt + (j : Int))] (by simp only [go_sem, ↓reduceIte, Nat.reduceBEq, Nat.reduceEqDiff, Nat.reduceLT, Nat.reduceLeDiff, Nat.reduceAdd, Nat.reduceMul, Nat.reduceSub, reduceCtorEq, Int.reduceLT, Int.reduceLE, Int.reduceEq, Int.reduceBEq, Int.reduceBNe, Int.reduceToNat, Int.reduceAdd, Int.reduceNeg, Int.reduceSub]) (by simp only [go_sem, ↓reduceIte, Nat.reduceBEq, Nat.reduceEqDiff, Nat.reduceLT, Nat.reduceLeDiff, Nat.reduceAdd, Nat.reduceMul, Nat.reduceSub, reduceCtorEq, Int.reduceLT, Int.reduceLE, Int.reduceEq, Int.reduceBEq, Int.reduceBNe, Int.reduceToNat, Int.reduceAdd, Int.reduceNeg, Int.reduceSub]) (by omega)
              (.inl rfl) (by simp only [go_sem, ↓reduceIte, Nat.reduceBEq, Nat.reduceEqDiff, Nat.reduceLT, Nat.reduceLeDiff, Nat.reduceAdd, Nat.reduceMul, Nat.reduceSub, reduceCtorEq, Int.reduceLT, Int.reduceLE, Int.reduceEq, Int.reduceBEq, Int.reduceBNe, Int.reduceToNat, Int.reduceAdd, Int.reduceNeg, Int.reduceSub]; omega) (by simp only [go_sem, ↓reduceIte, Nat.reduceBEq, Nat.reduceEqDiff, Nat.reduceLT, Nat.reduceLeDiff, Nat.reduceAdd, Nat.reduceMul, Nat.reduceSub, reduceCtorEq, Int.reduceLT, Int.reduceLE, Int.reduceEq, Int.reduceBEq, Int.reduceBNe, Int.reduceToNat, Int.reduceAdd, Int.reduceNeg, Int.reduceSub]; omega) (by simp only [go_sem, ↓reduceIte, Nat.reduceBEq, Nat.reduceEqDiff, Nat.reduceLT, Nat.reduceLeDiff, Nat.reduceAdd, Nat.reduceMul, Nat.reduceSub, reduceCtorEq, Int.reduceLT, Int.reduceLE, Int.reduceEq, Int.reduceBEq, Int.reduceBNe, Int.reduceToNat, Int.reduceAdd, Int.reduceNeg, Int.reduceSub]) (by simp only [go_sem, ↓reduceIte, Nat.reduceBEq, Nat.reduceEqDiff, Nat.reduceLT, Nat.reduceLeDiff, Nat.reduceAdd, Nat.reduceMul, Nat.reduceSub, reduceCtorEq, Int.reduceLT, Int.reduceLE, Int.reduceEq, Int.reduceBEq, Int.reduceBNe, Int.reduceToNat, Int.reduceAdd, Int.reduceNeg, Int.reduceSub])
            have hown3 : OwnS 1 jtg jz jxs.length t3 := by
              rcases hoj with h | ⟨q, h1, h2, h3⟩
              · exact .inl h
              · have hq : q < jt.length := (List.getElem?_eq_some_iff.1 h3).1
                exact .inr ⟨q, h1, h2, d2 q (by omega) (d1 q (by omega) h3)⟩
            obtain ⟨t4, a3, b3, c3, d3⟩ := app_gen (X := tabX) (ty := 119) (e := 22) (sz := 1) hown3 1 1 [.lst (t2.length + 2) 1 (I (tt ++ [leastC 0 tt + (j : Int)]))] (by simp only [go_sem, ↓reduceIte, Nat.reduceBEq, Nat.reduceEqDiff, Nat.reduceLT, Nat.reduceLeDiff, Nat.reduceAdd, Nat.reduceMul, Nat.reduceSub, reduceCtorEq, Int.reduceLT, Int.reduceLE, Int.reduceEq, Int.reduceBEq, Int.reduceBNe, Int.reduceToNat, Int.reduceAdd, Int.reduceNeg, Int.reduceSub]) (by simp only [go_sem, ↓reduceIte, Nat.reduceBEq, Nat.reduceEqDiff, Nat.reduceLT, Nat.reduceLeDiff, Nat.reduceAdd, Nat.reduceMul, Nat.reduceSub, reduceCtorEq, Int.reduceLT, Int.reduceLE, Int.reduceEq, Int.reduceBEq, Int.reduceBNe, Int.reduceToNat, Int.reduceAdd, Int.reduceNeg, Int.reduceSub]) (by omega)
              (.inl rfl) (by simp only [go_sem, ↓reduceIte, Nat.reduceBEq, Nat.reduceEqDiff, Nat.reduceLT, Nat.reduceLeDiff, Nat.reduceAdd, Nat.reduceMul, Nat.reduceSub, reduceCtorEq, Int.reduceLT, Int.reduceLE, Int.reduceEq, Int.reduceBEq, Int.reduceBNe, Int.reduceToNat, Int.reduceAdd, Int.reduceNeg, Int.reduceSub]; omega) (by simp only [go_sem, ↓reduceIte, Nat.reduceBEq, Nat.reduceEqDiff, Nat.reduceLT, Nat.reduceLeDiff, Nat.reduceAdd, Nat.reduceMul, Nat.reduceSub, reduceCtorEq, Int.reduceLT, Int.reduceLE, Int.reduceEq, Int.reduceBEq, Int.reduceBNe, Int.reduceToNat, Int.reduceAdd, Int.reduceNeg, Int.reduceSub]; omega) (by simp only [go_sem, ↓reduceIte, Nat.reduceBEq, Nat.reduceEqDiff, Nat.reduceLT, Nat.reduceLeDiff, Nat.reduceAdd, Nat.reduceMul, Nat.reduceSub, reduceCtorEq, Int.reduceLT, Int.reduceLE, Int.reduceEq, Int.reduceBEq, Int.reduceBNe, Int.reduceToNat, Int.reduceAdd, Int.reduceNeg, Int.reduceSub]) (by simp only [go_sem, ↓reduceIte, Nat.reduceBEq, Nat.reduceEqDiff, Nat.reduceLT, Nat.reduceLeDiff, Nat.reduceAdd, Nat.reduceMul, Nat.reduceSub, reduceCtorEq, Int.reduceLT, Int.reduceLE, Int.reduceEq, Int.reduceBEq, Int.reduceBNe, Int.reduceToNat, Int.reduceAdd, Int.reduceNeg, Int.reduceSub])
            have hyes : RC.is ⟨t3.length + 2, 1, jxs ++ [.lst (t2.length + 2) 1 (I (tt ++ [leastC 0 tt + (j : Int)]))], t4⟩ (pre ++ (extC 0 tt j ++ [tt ++ [leastC 0 tt + (j : Int)]])) := by
              refine ⟨?_, .inr ⟨t3.length, rfl, rfl, c3⟩, fun h => by simp at h⟩
              rw [← List.append_assoc]
              exact hrj.snoc _ _
            simp only [List.nil_append] at a1
            refine ⟨_, ?_, hyes⟩
            simp (disch := omega) only [go_sem, ↓reduceIte, Nat.reduceBEq, Nat.reduceEqDiff, Nat.reduceLT, Nat.reduceLeDiff, Nat.reduceAdd, Nat.reduceMul, Nat.reduceSub, reduceCtorEq, Int.reduceLT, Int.reduceLE, Int.reduceEq, Int.reduceBEq, Int.reduceBNe, Int.reduceToNat, Int.reduceAdd, Int.reduceNeg, Int.reduceSub, hji, hki, hox, RC.v, hws, a1, a2, a3, I_snoc]
          · intro s hR
            have e1 : leastC 0 tt + (widthC b 0 tt : Int) = b := by omega
            simp only [go_sem, ↓reduceIte, Nat.reduceBEq, Nat.reduceEqDiff, Nat.reduceLT, Nat.reduceLeDiff, Nat.reduceAdd, Nat.reduceMul, Nat.reduceSub, reduceCtorEq, Int.reduceLT, Int.reduceLE, Int.reduceEq, Int.reduceBEq, Int.reduceBNe, Int.reduceToNat, Int.reduceAdd, Int.reduceNeg, Int.reduceSub, RC.v, e1]
          · intro s h1 hR
            subst h1
            exact ⟨s, by simp (disch := omega) only [go_sem, ↓reduceIte, Nat.reduceBEq, Nat.reduceEqDiff, Nat.reduceLT, Nat.reduceLeDiff, Nat.reduceAdd, Nat.reduceMul, Nat.reduceSub, reduceCtorEq, Int.reduceLT, Int.reduceLE, Int.reduceEq, Int.reduceBEq, Int.reduceBNe, Int.reduceToNat, Int.reduceAdd, Int.reduceNeg, Int.reduceSub, RC.v, wrap_i64], hR⟩
        | succ e =>
          have hil : e < tt.length := by omega
          have hg := List.getElem?_eq_getElem hil
          have hoz1 := hoz (by intro h; rw [h] at hil; simp at hil)
          subst hoz1
          have hb1 := htb _ (List.getElem_mem hil)
          have hee : (e : Int) + 1 - 1 = e := by omega
          have hpos : (0 : Int) < (e : Int) + 1 := by omega
          have hle : leastC (e + 1) tt = tt[e] + 1 := by unfold leastC; rw [if_neg (by omega)]; simp [hil]
          simp (disch := omega) only [go_sem, ↓reduceIte, Nat.reduceBEq, Nat.reduceEqDiff, Nat.reduceLT, Nat.reduceLeDiff, Nat.reduceAdd, Nat.reduceMul, Nat.reduceSub, reduceCtorEq, Int.reduceLT, Int.reduceLE, Int.reduceEq, Int.reduceBEq, Int.reduceBNe, Int.reduceToNat, Int.reduceAdd, Int.reduceNeg, Int.reduceSub, hki, RC.v, wrap_i64, hpos, hox, hee, hg]
          generalize hz : (EW tabX).code 63 none (Code.loop _) _ = w
          refine w_rounds_sk hz (fun k (s : RC) => [(7, s.v), (10, .int .i64 (leastC (e + 1) tt + (k : Int)))]) (fun s => ⟨[], s.t⟩) (fun j s => s.is (pre ++ extC (e + 1) tt j)) (widthC b (e + 1) tt) (.exit 4) (fun s => [(7, s.v), (10, .int .i64 b)]) rfl ⟨ntg, nz, nxs, nt⟩ ?_ ?_ ?_ ?_ ?_ ?_
          · simp only [go_sem, ↓reduceIte, Nat.reduceBEq, Nat.reduceEqDiff, Nat.reduceLT, Nat.reduceLeDiff, Nat.reduceAdd, Nat.reduceMul, Nat.reduceSub, reduceCtorEq, Int.reduceLT, Int.reduceLE, Int.reduceEq, Int.reduceBEq, Int.reduceBNe, Int.reduceToNat, Int.reduceAdd, Int.reduceNeg, Int.reduceSub, RC.v, Int.add_zero, hle]
          · rfl
          · simpa [extC] using hR
          · intro j s hj hR
            obtain ⟨jtg, jz, jxs, jt⟩ := s
            obtain ⟨hrj, hoj, hj0⟩ := hR
            have hrj : Rows jxs (pre ++ extC (e + 1) tt j) := hrj
            have hoj : OwnS 1 jtg jz jxs.length jt := hoj
            have hji : leastC (e + 1) tt + (j : Int) < b := by omega
            have hjl := hrj.1
            have hel := extC_len (e + 1) tt j
            have hjn : jxs.length ≤ 3200 := by rw [hjl, List.length_append]; omega
            rw [extC_succ]
            have hws : IntKind.i64.wrap (leastC (e + 1) tt + (j : Int) + 1) = leastC (e + 1) tt + ((j : Int) + 1) := by rw [wrap_i64 (by omega)]; omega
            obtain ⟨t2, a1, b1, c1, d1⟩ := app_gen (X := tabX) (ty := 22) (e := 3) (sz := 1) (tag := 1) (z := 1) (t := jt) (xs := []) (.inl ⟨rfl, rfl⟩) otg 1 (I tt) (by simp only [go_sem, ↓reduceIte, Nat.reduceBEq, Nat.reduceEqDiff, Nat.reduceLT, Nat.reduceLeDiff, Nat.reduceAdd, Nat.reduceMul, Nat.reduceSub, reduceCtorEq, Int.reduceLT, Int.reduceLE, Int.reduceEq, Int.reduceBEq, Int.reduceBNe, Int.reduceToNat, Int.reduceAdd, Int.reduceNeg, Int.reduceSub]) (by simp only [go_sem, ↓reduceIte, Nat.reduceBEq, Nat.reduceEqDiff, Nat.reduceLT, Nat.reduceLeDiff, Nat.reduceAdd, Nat.reduceMul, Nat.reduceSub, reduceCtorEq, Int.reduceLT, Int.reduceLE, Int.reduceEq, Int.reduceBEq, Int.reduceBNe, Int.reduceToNat, Int.reduceAdd, Int.reduceNeg, Int.reduceSub]) (by omega)
              (.inl rfl) (by simp only [go_sem, ↓reduceIte, Nat.reduceBEq, Nat.reduceEqDiff, Nat.reduceLT, Nat.reduceLeDiff, Nat.reduceAdd, Nat.reduceMul, Nat.reduceSub, reduceCtorEq, Int.reduceLT, Int.reduceLE, Int.reduceEq, Int.reduceBEq, Int.reduceBNe, Int.reduceToNat, Int.reduceAdd, Int.reduceNeg, Int.reduceSub]; omega) (by simp only [go_sem, ↓reduceIte, Nat.reduceBEq, Nat.reduceEqDiff, Nat.reduceLT, Nat.reduceLeDiff, Nat.reduceAdd, Nat.reduceMul, Nat.reduceSub, reduceCtorEq, Int.reduceLT, Int.reduceLE, Int.reduceEq, Int.reduceBEq, Int.reduceBNe, Int.reduceToNat, Int.reduceAdd, Int.reduceNeg, Int.reduceSub]; omega) (by simp only [go_sem, ↓reduceIte, Nat.reduceBEq, Nat.reduceEqDiff, Nat.reduceLT, Nat.reduceLeDiff, Nat.reduceAdd, Nat.reduceMul, Nat.reduceSub, reduceCtorEq, Int.reduceLT, Int.reduceLE, Int.reduceEq, Int.reduceBEq, Int.reduceBNe, Int.reduceToNat, Int.reduceAdd, Int.reduceNeg, Int.reduceSub]) (by simp only [go_sem, ↓reduceIte, Nat.reduceBEq, Nat.reduceEqDiff, Nat.reduceLT, Nat.reduceLeDiff, Nat.reduceAdd, Nat.reduceMul, Nat.reduceSub, reduceCtorEq, Int.reduceLT, Int.reduceLE, Int.reduceEq, Int.reduceBEq, Int.reduceBNe, Int.reduceToNat, Int.reduceAdd, Int.reduceNeg, Int.reduceSub])
            obtain ⟨t3, a2, b2, c2, d2⟩ := app_gen (X := tabX) (ty := 22) (e := 3) (sz := 1) (tag := jt.length + 2) (z := 1) (t := t2) (xs := I tt) (.inr ⟨jt.length, rfl, rfl, c1⟩) 1 1 [.int .i64 (leastC (e + 1) tt + (j : Int))] (by simp only [go_sem, ↓reduceIte, Nat.reduceBEq, Nat.reduceEqDiff, Nat.reduceLT, Nat.reduceLeDiff, Nat.reduceAdd, Nat.reduceMul, Nat.reduceSub, reduceCtorEq, Int.reduceLT, Int.reduceLE, Int.reduceEq, Int.reduceBEq, Int.reduceBNe, Int.reduceToNat, Int.reduceAdd, Int.reduceNeg, Int.reduceSub]) (by simp only [go_sem, ↓reduceIte, Nat.reduceBEq, Nat.reduceEqDiff, Nat.reduceLT, Nat.reduceLeDiff, Nat.reduceAdd, Nat.reduceMul, Nat.reduceSub, reduceCtorEq, Int.reduceLT, Int.reduceLE, Int.reduceEq, Int.reduceBEq, Int.reduceBNe, Int.reduceToNat, Int.reduceAdd, Int.reduceNeg, Int.reduceSub]) (by omega)
              (.inl rfl) (by simp only [go_sem, ↓reduceIte, Nat.reduceBEq, Nat.reduceEqDiff, Nat.reduceLT, Nat.reduceLeDiff, Nat.reduceAdd, Nat.reduceMul, Nat.reduceSub, reduceCtorEq, Int.reduceLT, Int.reduceLE, Int.reduceEq, Int.reduceBEq, Int.reduceBNe, Int.reduceToNat, Int.reduceAdd, Int.reduceNeg, Int.reduceSub]; omega) (by simp only [go_sem, ↓reduceIte, Nat.reduceBEq, Nat.reduceEqDiff, Nat.reduceLT, Nat.reduceLeDiff, Nat.reduceAdd, Nat.reduceMul, Nat.reduceSub, reduceCtorEq, Int.reduceLT, Int.reduceLE, Int.reduceEq, Int.reduceBEq, Int.reduceBNe, Int.reduceToNat, Int.reduceAdd, Int.reduceNeg, Int.reduceSub]; omega) (by simp only [go_sem, ↓reduceIte, Nat.reduceBEq, Nat.reduceEqDiff, Nat.reduceLT, Nat.reduceLeDiff, Nat.reduceAdd, Nat.reduceMul, Nat.reduceSub, reduceCtorEq, Int.reduceLT, Int.reduceLE, Int.reduceEq, Int.reduceBEq, Int.reduceBNe, Int.reduceToNat, Int.reduceAdd, Int.reduceNeg, Int.reduceSub]) (by simp only [go_sem, ↓reduceIte, Nat.reduceBEq, Nat.reduceEqDiff, Nat.reduceLT, Nat.reduceLeDiff, Nat.reduceAdd, Nat.reduceMul, Nat.reduceSub, reduceCtorEq, Int.reduceLT, Int.reduceLE, Int.reduceEq, Int.reduceBEq, Int.reduceBNe, Int.reduceToNat, Int.reduceAdd, Int.reduceNeg, Int.reduceSub])
            have hown3 : OwnS 1 jtg jz jxs.length t3 := by
              rcases hoj with h | ⟨q, h1, h2, h3⟩
              · exact .inl h
              · have hq : q < jt.length := (List.getElem?_eq_some_iff.1 h3).1
                exact .inr ⟨q, h1, h2, d2 q (by omega) (d1 q (by omega) h3)⟩
            obtain ⟨t4, a3, b3, c3, d3⟩ := app_gen (X := tabX) (ty := 119) (e := 22) (sz := 1) hown3 1 1 [.lst (t2.length + 2) 1 (I (tt ++ [leastC (e + 1) tt + (j : Int)]))] (by simp only [go_sem, ↓reduceIte, Nat.reduceBEq, Nat.reduceEqDiff, Nat.reduceLT, Nat.reduceLeDiff, Nat.reduceAdd, Nat.reduceMul, Nat.reduceSub, reduceCtorEq, Int.reduceLT, Int.reduceLE, Int.reduceEq, Int.reduceBEq, Int.reduceBNe, Int.reduceToNat, Int.reduceAdd, Int.reduceNeg, Int.reduceSub]) (by simp only [go_sem, ↓reduceIte, Nat.reduceBEq, Nat.reduceEqDiff, Nat.reduceLT, Nat.reduceLeDiff, Nat.reduceAdd, Nat.reduceMul, Nat.reduceSub, reduceCtorEq, Int.reduceLT, Int.reduceLE, Int.reduceEq, Int.reduceBEq, Int.reduceBNe, Int.reduceToNat, Int.reduceAdd, Int.reduceNeg, Int.reduceSub]) (by omega)
              (.inl rfl) (by simp only [go_sem, ↓reduceIte, Nat.reduceBEq, Nat.reduceEqDiff, Nat.reduceLT, Nat.reduceLeDiff, Nat.reduceAdd, Nat.reduceMul, Nat.reduceSub, reduceCtorEq, Int.reduceLT, Int.reduceLE, Int.reduceEq, Int.reduceBEq, Int.reduceBNe, Int.reduceToNat, Int.reduceAdd, Int.reduceNeg, Int.reduceSub]; omega) (by simp only [go_sem, ↓reduceIte, Nat.reduceBEq, Nat.reduceEqDiff, Nat.reduceLT, Nat.reduceLeDiff, Nat.reduceAdd, Nat.reduceMul, Nat.reduceSub, reduceCtorEq, Int.reduceLT, Int.reduceLE, Int.reduceEq, Int.reduceBEq, Int.reduceBNe, Int.reduceToNat, Int.reduceAdd, Int.reduceNeg, Int.reduceSub]; omega) (by simp only [go_sem, ↓reduceIte, Nat.reduceBEq, Nat.reduceEqDiff, Nat.reduceLT, Nat.reduceLeDiff, Nat.reduceAdd, Nat.reduceMul, Nat.reduceSub, reduceCtorEq, Int.reduceLT, Int.reduceLE, Int.reduceEq, Int.reduceBEq, Int.reduceBNe, Int.reduceToNat, Int.reduceAdd, Int.reduceNeg, Int.reduceSub]) (by simp only [go_sem, ↓reduceIte, Nat.reduceBEq, Nat.reduceEqDiff, Nat.reduceLT, Nat.reduceLeDiff, Nat.reduceAdd, Nat.reduceMul, Nat.reduceSub, reduceCtorEq, Int.reduceLT, Int.reduceLE, Int.reduceEq, Int.reduceBEq, Int.reduceBNe, Int.reduceToNat, Int.reduceAdd, Int.reduceNeg, Int.reduceSub])
            have hyes : RC.is ⟨t3.length + 2, 1, jxs ++ [.lst (t2.length + 2) 1 (I (tt ++ [leastC (e + 1) tt + (j : Int)]))], t4⟩ (pre ++ (extC (e + 1) tt j ++ [tt ++ [leastC (e + 1) tt + (j : Int)]])) := by
              refine ⟨?_, .inr ⟨t3.length, rfl, rfl, c3⟩, fun h => by simp at h⟩
              rw [← List.append_assoc]
              exact hrj.snoc _ _
            simp only [List.nil_append] at a1
            refine ⟨_, ?_, hyes⟩
            simp (disch := omega) only [go_sem, ↓reduceIte, Nat.reduceBEq, Nat.reduceEqDiff, Nat.reduceLT, Nat.reduceLeDiff, Nat.reduceAdd, Nat.reduceMul, Nat.reduceSub, reduceCtorEq, Int.reduceLT, Int.reduceLE, Int.reduceEq, Int.reduceBEq, Int.reduceBNe, Int.reduceToNat, Int.reduceAdd, Int.reduceNeg, Int.reduceSub, hji, hki, hox, RC.v, hws, a1, a2, a3, I_snoc]
          · intro s hR
            have e1 : leastC (e + 1) tt + (widthC b (e + 1) tt : Int) = b := by omega
            simp only [go_sem, ↓reduceIte, Nat.reduceBEq, Nat.reduceEqDiff, Nat.reduceLT, Nat.reduceLeDiff, Nat.reduceAdd, Nat.reduceMul, Nat.reduceSub, reduceCtorEq, Int.reduceLT, Int.reduceLE, Int.reduceEq, Int.reduceBEq, Int.reduceBNe, Int.reduceToNat, Int.reduceAdd, Int.reduceNeg, Int.reduceSub, RC.v, e1]
          · intro s h1 hR
            subst h1
            exact ⟨s, by simp (disch := omega) only [go_sem, ↓reduceIte, Nat.reduceBEq, Nat.reduceEqDiff, Nat.reduceLT, Nat.reduceLeDiff, Nat.reduceAdd, Nat.reduceMul, Nat.reduceSub, reduceCtorEq, Int.reduceLT, Int.reduceLE, Int.reduceEq, Int.reduceBEq, Int.reduceBNe, Int.reduceToNat, Int.reduceAdd, Int.reduceNeg, Int.reduceSub, RC.v, wrap_i64], hR⟩
      · intro s hR
        simp only [go_sem, ↓reduceIte, Nat.reduceBEq, Nat.reduceEqDiff, Nat.reduceLT, Nat.reduceLeDiff, Nat.reduceAdd, Nat.reduceMul, Nat.reduceSub, reduceCtorEq, Int.reduceLT, Int.reduceLE, Int.reduceEq, Int.reduceBEq, Int.reduceBNe, Int.reduceToNat, Int.reduceAdd, Int.reduceNeg, Int.reduceSub, RC.v, hxl]
      · intro s h1 hR
        subst h1
        rw [List.take_length] at hR
        refine ⟨s, by simp (disch := omega) only [go_sem, ↓reduceIte, Nat.reduceBEq, Nat.reduceEqDiff, Nat.reduceLT, Nat.reduceLeDiff, Nat.reduceAdd, Nat.reduceMul, Nat.reduceSub, reduceCtorEq, Int.reduceLT, Int.reduceLE, Int.reduceEq, Int.reduceBEq, Int.reduceBNe, Int.reduceToNat, Int.reduceAdd, Int.reduceNeg, Int.reduceSub, RC.v, wrap_i64], hR.1, fun hne => ?_, fun hnil => hR.2.2 hnil, fun h => by cases h⟩
        rcases hR.2.1 with ⟨_, h0⟩ | ⟨_, _, h0, _⟩
        · exact absurd (List.eq_nil_of_length_eq_zero h0) hne
        · exact h0
    · intro s hR
      simp only [go_sem, ↓reduceIte, Nat.reduceBEq, Nat.reduceEqDiff, Nat.reduceLT, Nat.reduceLeDiff, Nat.reduceAdd, Nat.reduceMul, Nat.reduceSub, reduceCtorEq, Int.reduceLT, Int.reduceLE, Int.reduceEq, Int.reduceBEq, Int.reduceBNe, Int.reduceToNat, Int.reduceAdd, Int.reduceNeg, Int.reduceSub, RC.v]
    · intro s h1 hR
      subst h1
      have hun := hR.1.under 0
      exact ⟨s, hR, ⟨[], s.t⟩, by simp only [go_sem, ↓reduceIte, Nat.reduceBEq, Nat.reduceEqDiff, Nat.reduceLT, Nat.reduceLeDiff, Nat.reduceAdd, Nat.reduceMul, Nat.reduceSub, reduceCtorEq, Int.reduceLT, Int.reduceLE, Int.reduceEq, Int.reduceBEq, Int.reduceBNe, Int.reduceToNat, Int.reduceAdd, Int.reduceNeg, Int.reduceSub, RC.v, hun]⟩
  obtain ⟨s, ⟨hrow, hz, hz0, h00⟩, h1, hcall⟩ := key
  have hcl : cleanL s.xs = some ((choicesL b m).map vI) := by
    by_cases hm : m = 0
    · rw [h00 hm, hm]; simp only [go_sem, ↓reduceIte, Nat.reduceBEq, Nat.reduceEqDiff, Nat.reduceLT, Nat.reduceLeDiff, Nat.reduceAdd, Nat.reduceMul, Nat.reduceSub, reduceCtorEq, Int.reduceLT, Int.reduceLE, Int.reduceEq, Int.reduceBEq, Int.reduceBNe, Int.reduceToNat, Int.reduceAdd, Int.reduceNeg, Int.reduceSub, choicesL, vI, List.map_cons]
    · exact rows_vI hrow fun t ht e => by
        have := (choicesL_mem b m t ht).1
        rw [e] at this; simp at this; omega
  refine pure_of hcall ?_
  have hzz : s.z = zT 1 (choicesL b m).length := by
    cases hq : choicesL b m with
    | nil =>
      have : s.xs = [] := List.eq_nil_of_length_eq_zero (by rw [hrow.1, hq]; rfl)
      rw [hz0 this]; rfl
    | cons a b =>
      have : s.xs ≠ [] := fun h => by have := hrow.1; rw [h, hq] at this; simp at this
      rw [hz this]; rfl
  simp only [RC.v, go_sem, ↓reduceIte, Nat.reduceBEq, Nat.reduceEqDiff, Nat.reduceLT, Nat.reduceLeDiff, Nat.reduceAdd, Nat.reduceMul, Nat.reduceSub, reduceCtorEq, Int.reduceLT, Int.reduceLE, Int.reduceEq, Int.reduceBEq, Int.reduceBNe, Int.reduceToNat, Int.reduceAdd, Int.reduceNeg, Int.reduceSub, hcl, vC, hzz]
end Go.Proofs.YthkpjbgadkkeeaaGreat
