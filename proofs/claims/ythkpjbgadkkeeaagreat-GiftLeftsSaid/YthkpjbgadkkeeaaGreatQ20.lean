/- Z-numbers. All ways in which people can be widows, by the reference. Conditions: those of each law. -/
import Derived.Test.YthkpjbgadkkeeaaGreatQ19
set_option linter.unusedSimpArgs false
set_option linter.unusedVariables false
namespace Go.Proofs.YthkpjbgadkkeeaaGreat
open Go.Proofs

def RowsB (xs : List AV) (ts : List (List Bool)) : Prop := xs.length = ts.length ∧ ∀ (i : Nat) (t : List Bool), ts[i]? = some t → ∃ tg z, xs[i]? = some (.lst tg z (Bs t)) ∧ (t ≠ [] → z = 1)
theorem RowsB.snoc {xs : List AV} {ts : List (List Bool)} (h : RowsB xs ts) (tg : Nat) (t : List Bool) : RowsB (xs ++ [.lst tg 1 (Bs t)]) (ts ++ [t]) := by
  refine ⟨by simp [h.1], fun i u hu => ?_⟩
  rw [List.getElem?_append] at hu
  by_cases hi : i < ts.length
  · rw [if_pos hi] at hu
    obtain ⟨a, z, h1, h2⟩ := h.2 i u hu
    exact ⟨a, z, by rw [List.getElem?_append_left (by rw [h.1]; exact hi)]; exact h1, h2⟩
  · rw [if_neg hi] at hu
    have hi0 : i - ts.length = 0 := by
      have := (List.getElem?_eq_some_iff.1 hu).1
      simp at this; omega
    rw [hi0] at hu
    simp only [List.getElem?_cons_zero, Option.some.injEq] at hu
    subst hu
    exact ⟨tg, 1, by rw [List.getElem?_append_right (by rw [h.1]; omega), h.1, hi0]; rfl, fun _ => rfl⟩
def vBs' (l : List Bool) : AV := .lst 0 (zT 1 l.length) (Bs l)
theorem RowsB.clean_eq : ∀ {xs : List AV} {ts : List (List Bool)}, RowsB xs ts → (∀ t ∈ ts, t ≠ []) → cleanL xs = some (ts.map vBs')
  | [], ts, h, _ => by
    have := h.1
    cases ts with
    | nil => exact cleanL_nil
    | cons t ts => simp at this
  | x :: xs, [], h, _ => by have := h.1; simp at this
  | x :: xs, t :: ts, h, hn => by
    have h' : RowsB xs ts := ⟨by have := h.1; simpa using this, fun i u hu => by simpa using h.2 (i + 1) u (by simpa using hu)⟩
    have ih := RowsB.clean_eq h' fun u hu => hn u (by simp [hu])
    obtain ⟨a, z, h4, h5⟩ := h.2 0 t rfl
    simp only [List.getElem?_cons_zero, Option.some.injEq] at h4
    subst h4
    have ht := hn t (by simp)
    have := h5 ht
    subst this
    have hz : zT 1 t.length = 1 := zT_pos (List.length_pos_iff.2 ht)
    have hb := Bs_clean t
    simp only [go_sem, ↓reduceIte, Nat.reduceBEq, Nat.reduceEqDiff, Nat.reduceLT, Nat.reduceLeDiff, Nat.reduceAdd, Nat.reduceMul, Nat.reduceSub, reduceCtorEq, Int.reduceLT, Int.reduceLE, Int.reduceEq, Int.reduceBEq, Int.reduceBNe, Int.reduceToNat, Int.reduceAdd, Int.reduceNeg, Int.reduceSub, ih, List.map_cons, vBs', hb, hz]
theorem RowsB.under {xs : List AV} {ts : List (List Bool)} (h : RowsB xs ts) (n : Nat) : underL n xs = true := by
  induction xs generalizing ts with
  | nil => simp [underL]
  | cons x xs ih =>
    cases ts with
    | nil => have := h.1; simp at this
    | cons t ts =>
      have h' : RowsB xs ts := ⟨by have := h.1; simpa using this, fun i u hu => by simpa using h.2 (i + 1) u (by simpa using hu)⟩
      obtain ⟨a, z, h4, h5⟩ := h.2 0 t rfl
      simp only [List.getElem?_cons_zero, Option.some.injEq] at h4
      subst h4
      have hb := Bs_under n t
      simp only [go_sem, ↓reduceIte, Nat.reduceBEq, Nat.reduceEqDiff, Nat.reduceLT, Nat.reduceLeDiff, Nat.reduceAdd, Nat.reduceMul, Nat.reduceSub, reduceCtorEq, Int.reduceLT, Int.reduceLE, Int.reduceEq, Int.reduceBEq, Int.reduceBNe, Int.reduceToNat, Int.reduceAdd, Int.reduceNeg, Int.reduceSub, hb, ih h']
def RC.isB (s : RC) (ts : List (List Bool)) : Prop := RowsB s.xs ts ∧ OwnS 1 s.tg s.z s.xs.length s.t ∧ (s.xs = [] → s.z = 0)
theorem wid_app {s : RC} {pre : List (List Bool)} (h : s.isB pre) (hl : pre.length ≤ 1000) (otg oz : Nat) (tt : List Bool) (hoz : tt ≠ [] → oz = 1) (htl : tt.length ≤ 1000) (b : Bool) :
    ∃ t2 t3 s', (∀ B, appendAV tabX 44 s.t.length ⟨B, s.t⟩ (.lst 1 1 []) (.lst otg oz (Bs tt)) = some (.lst (s.t.length + 2) 1 (Bs tt), ⟨B, t2⟩)) ∧
      (∀ B, appendAV tabX 44 t2.length ⟨B, t2⟩ (.lst (s.t.length + 2) 1 (Bs tt)) (.lst 1 1 [.bool b]) = some (.lst (t2.length + 2) 1 (Bs (tt ++ [b])), ⟨B, t3⟩)) ∧
      (∀ B, appendAV tabX 100 t3.length ⟨B, t3⟩ (.lst s.tg s.z s.xs) (.lst 1 1 [.lst (t2.length + 2) 1 (Bs (tt ++ [b]))]) = some (RC.v s', ⟨B, s'.t⟩)) ∧ s'.isB (pre ++ [tt ++ [b]]) := by
  obtain ⟨jtg, jz, jxs, jt⟩ := s
  obtain ⟨hrj, hoj, hj0⟩ := h
  have hrj : RowsB jxs pre := hrj
  have hoj : OwnS 1 jtg jz jxs.length jt := hoj
  have hjn : jxs.length ≤ 1000 := by rw [hrj.1]; exact hl
  have hbl := Bs_len tt
  have hbv := Bs_var tt
  obtain ⟨t2, a1, b1, c1, d1⟩ := app_gen (X := tabX) (ty := 44) (e := 4) (sz := 1) (tag := 1) (z := 1) (t := jt) (xs := []) (.inl ⟨rfl, rfl⟩) otg oz (Bs tt) (by simp only [go_sem, ↓reduceIte, Nat.reduceBEq, Nat.reduceEqDiff, Nat.reduceLT, Nat.reduceLeDiff, Nat.reduceAdd, Nat.reduceMul, Nat.reduceSub, reduceCtorEq, Int.reduceLT, Int.reduceLE, Int.reduceEq, Int.reduceBEq, Int.reduceBNe, Int.reduceToNat, Int.reduceAdd, Int.reduceNeg, Int.reduceSub]) (by simp only [go_sem, ↓reduceIte, Nat.reduceBEq, Nat.reduceEqDiff, Nat.reduceLT, Nat.reduceLeDiff, Nat.reduceAdd, Nat.reduceMul, Nat.reduceSub, reduceCtorEq, Int.reduceLT, Int.reduceLE, Int.reduceEq, Int.reduceBEq, Int.reduceBNe, Int.reduceToNat, Int.reduceAdd, Int.reduceNeg, Int.reduceSub]) (by omega)
    (by by_cases h : tt = []; exact .inr (by rw [h]; rfl); exact .inl (hoz h)) (by simp only [go_sem, ↓reduceIte, Nat.reduceBEq, Nat.reduceEqDiff, Nat.reduceLT, Nat.reduceLeDiff, Nat.reduceAdd, Nat.reduceMul, Nat.reduceSub, reduceCtorEq, Int.reduceLT, Int.reduceLE, Int.reduceEq, Int.reduceBEq, Int.reduceBNe, Int.reduceToNat, Int.reduceAdd, Int.reduceNeg, Int.reduceSub, hbl]; omega) (by simp only [go_sem, ↓reduceIte, Nat.reduceBEq, Nat.reduceEqDiff, Nat.reduceLT, Nat.reduceLeDiff, Nat.reduceAdd, Nat.reduceMul, Nat.reduceSub, reduceCtorEq, Int.reduceLT, Int.reduceLE, Int.reduceEq, Int.reduceBEq, Int.reduceBNe, Int.reduceToNat, Int.reduceAdd, Int.reduceNeg, Int.reduceSub, hbl]; omega) (by simp only [go_sem, ↓reduceIte, Nat.reduceBEq, Nat.reduceEqDiff, Nat.reduceLT, Nat.reduceLeDiff, Nat.reduceAdd, Nat.reduceMul, Nat.reduceSub, reduceCtorEq, Int.reduceLT, Int.reduceLE, Int.reduceEq, Int.reduceBEq, Int.reduceBNe, Int.reduceToNat, Int.reduceAdd, Int.reduceNeg, Int.reduceSub]) hbv
  obtain ⟨t3, a2, b2, c2, d2⟩ := app_gen (X := tabX) (ty := 44) (e := 4) (sz := 1) (tag := jt.length + 2) (z := 1) (t := t2) (xs := Bs tt) (.inr ⟨jt.length, rfl, rfl, c1⟩) 1 1 [.bool b] (by simp only [go_sem, ↓reduceIte, Nat.reduceBEq, Nat.reduceEqDiff, Nat.reduceLT, Nat.reduceLeDiff, Nat.reduceAdd, Nat.reduceMul, Nat.reduceSub, reduceCtorEq, Int.reduceLT, Int.reduceLE, Int.reduceEq, Int.reduceBEq, Int.reduceBNe, Int.reduceToNat, Int.reduceAdd, Int.reduceNeg, Int.reduceSub]) (by simp only [go_sem, ↓reduceIte, Nat.reduceBEq, Nat.reduceEqDiff, Nat.reduceLT, Nat.reduceLeDiff, Nat.reduceAdd, Nat.reduceMul, Nat.reduceSub, reduceCtorEq, Int.reduceLT, Int.reduceLE, Int.reduceEq, Int.reduceBEq, Int.reduceBNe, Int.reduceToNat, Int.reduceAdd, Int.reduceNeg, Int.reduceSub]) (by omega)
    (.inl rfl) (by simp only [go_sem, ↓reduceIte, Nat.reduceBEq, Nat.reduceEqDiff, Nat.reduceLT, Nat.reduceLeDiff, Nat.reduceAdd, Nat.reduceMul, Nat.reduceSub, reduceCtorEq, Int.reduceLT, Int.reduceLE, Int.reduceEq, Int.reduceBEq, Int.reduceBNe, Int.reduceToNat, Int.reduceAdd, Int.reduceNeg, Int.reduceSub, hbl]; omega) (by simp only [go_sem, ↓reduceIte, Nat.reduceBEq, Nat.reduceEqDiff, Nat.reduceLT, Nat.reduceLeDiff, Nat.reduceAdd, Nat.reduceMul, Nat.reduceSub, reduceCtorEq, Int.reduceLT, Int.reduceLE, Int.reduceEq, Int.reduceBEq, Int.reduceBNe, Int.reduceToNat, Int.reduceAdd, Int.reduceNeg, Int.reduceSub, hbl]; omega) (by simp only [go_sem, ↓reduceIte, Nat.reduceBEq, Nat.reduceEqDiff, Nat.reduceLT, Nat.reduceLeDiff, Nat.reduceAdd, Nat.reduceMul, Nat.reduceSub, reduceCtorEq, Int.reduceLT, Int.reduceLE, Int.reduceEq, Int.reduceBEq, Int.reduceBNe, Int.reduceToNat, Int.reduceAdd, Int.reduceNeg, Int.reduceSub]) (by simp only [go_sem, ↓reduceIte, Nat.reduceBEq, Nat.reduceEqDiff, Nat.reduceLT, Nat.reduceLeDiff, Nat.reduceAdd, Nat.reduceMul, Nat.reduceSub, reduceCtorEq, Int.reduceLT, Int.reduceLE, Int.reduceEq, Int.reduceBEq, Int.reduceBNe, Int.reduceToNat, Int.reduceAdd, Int.reduceNeg, Int.reduceSub])
  have hown3 : OwnS 1 jtg jz jxs.length t3 := by
    rcases hoj with h | ⟨q, h1, h2, h3⟩
    · exact .inl h
    · have hq : q < jt.length := (List.getElem?_eq_some_iff.1 h3).1
      exact .inr ⟨q, h1, h2, d2 q (by omega) (d1 q (by omega) h3)⟩
  have hsn : Bs tt ++ [AV.bool b] = Bs (tt ++ [b]) := by unfold Bs; simp
  obtain ⟨t4, a3, b3, c3, d3⟩ := app_gen (X := tabX) (ty := 100) (e := 44) (sz := 1) hown3 1 1 [.lst (t2.length + 2) 1 (Bs (tt ++ [b]))] (by simp only [go_sem, ↓reduceIte, Nat.reduceBEq, Nat.reduceEqDiff, Nat.reduceLT, Nat.reduceLeDiff, Nat.reduceAdd, Nat.reduceMul, Nat.reduceSub, reduceCtorEq, Int.reduceLT, Int.reduceLE, Int.reduceEq, Int.reduceBEq, Int.reduceBNe, Int.reduceToNat, Int.reduceAdd, Int.reduceNeg, Int.reduceSub]) (by simp only [go_sem, ↓reduceIte, Nat.reduceBEq, Nat.reduceEqDiff, Nat.reduceLT, Nat.reduceLeDiff, Nat.reduceAdd, Nat.reduceMul, Nat.reduceSub, reduceCtorEq, Int.reduceLT, Int.reduceLE, Int.reduceEq, Int.reduceBEq, Int.reduceBNe, Int.reduceToNat, Int.reduceAdd, Int.reduceNeg, Int.reduceSub]) (by omega)
    (.inl rfl) (by simp only [go_sem, ↓reduceIte, Nat.reduceBEq, Nat.reduceEqDiff, Nat.reduceLT, Nat.reduceLeDiff, Nat.reduceAdd, Nat.reduceMul, Nat.reduceSub, reduceCtorEq, Int.reduceLT, Int.reduceLE, Int.reduceEq, Int.reduceBEq, Int.reduceBNe, Int.reduceToNat, Int.reduceAdd, Int.reduceNeg, Int.reduceSub]; omega) (by simp only [go_sem, ↓reduceIte, Nat.reduceBEq, Nat.reduceEqDiff, Nat.reduceLT, Nat.reduceLeDiff, Nat.reduceAdd, Nat.reduceMul, Nat.reduceSub, reduceCtorEq, Int.reduceLT, Int.reduceLE, Int.reduceEq, Int.reduceBEq, Int.reduceBNe, Int.reduceToNat, Int.reduceAdd, Int.reduceNeg, Int.reduceSub]; omega) (by simp only [go_sem, ↓reduceIte, Nat.reduceBEq, Nat.reduceEqDiff, Nat.reduceLT, Nat.reduceLeDiff, Nat.reduceAdd, Nat.reduceMul, Nat.reduceSub, reduceCtorEq, Int.reduceLT, Int.reduceLE, Int.reduceEq, Int.reduceBEq, Int.reduceBNe, Int.reduceToNat, Int.reduceAdd, Int.reduceNeg, Int.reduceSub]) (by simp only [go_sem, ↓reduceIte, Nat.reduceBEq, Nat.reduceEqDiff, Nat.reduceLT, Nat.reduceLeDiff, Nat.reduceAdd, Nat.reduceMul, Nat.reduceSub, reduceCtorEq, Int.reduceLT, Int.reduceLE, Int.reduceEq, Int.reduceBEq, Int.reduceBNe, Int.reduceToNat, Int.reduceAdd, Int.reduceNeg, Int.reduceSub])
  rw [hsn] at a2
  refine ⟨t2, t3, ⟨t3.length + 2, 1, jxs ++ [.lst (t2.length + 2) 1 (Bs (tt ++ [b]))], t4⟩, fun B => ?_, a2, fun B => by have := a3 B; simpa only [RC.v] using this, ?_, .inr ⟨t3.length, rfl, rfl, c3⟩, fun h => by simp at h⟩
  · have := a1 B
    simpa using this
  · exact hrj.snoc _ _
def widF (d : Fu) (i : Nat) (t : List Bool) : List (List Bool) := (if widowOf d i ≠ 1 then [t ++ [false]] else []) ++ (if widowOf d i ≠ 0 then [t ++ [true]] else [])
def vW (ts : List (List Bool)) : AV := .lst 0 (zT 1 ts.length) (ts.map vBs')
theorem widL_mem_len (d : Fu) (k : Nat) {ws : List Bool} (h : ws ∈ widL d k) : ws.length = k := ((mem_widL d k ws).1 h).1
theorem cWidows (d : Fu) (hd : d.fits) (ho : d.Ok) (h : Heap) : callPure (EW tabX) 51 [eF d] h = some (vW (widL d d.people.length), h) := by
  have hp4 := ho.people
  have key : ∃ s : RC, (RowsB s.xs (widL d d.people.length) ∧ (s.xs ≠ [] → s.z = 1) ∧ (s.xs = [] → s.z = 0) ∧ (d.people.length = 0 → s.xs = [.lst 1 0 []])) ∧ ∃ h1, (EW tabX).call 51 [eF d] ⟨[], []⟩ = some (s.v, h1) := by
    rw [w_call _ fn_51 rfl]
    simp only [eF_eq]
    simp only [go_sem, ↓reduceIte, Nat.reduceBEq, Nat.reduceEqDiff, Nat.reduceLT, Nat.reduceLeDiff, Nat.reduceAdd, Nat.reduceMul, Nat.reduceSub, reduceCtorEq, Int.reduceLT, Int.reduceLE, Int.reduceEq, Int.reduceBEq, Int.reduceBNe, Int.reduceToNat, Int.reduceAdd, Int.reduceNeg, Int.reduceSub]
    generalize hx : (EW tabX).code 51 none (Code.loop _) _ = x
    refine w_rounds_sk hx (fun k (s : RC) => [(3, s.v), (4, .int .i64 k)]) (fun s => ⟨[.cells (eFc d)], s.t⟩) (fun k s => RowsB s.xs (widL d k) ∧ (s.xs ≠ [] → s.z = 1) ∧ (s.xs = [] → s.z = 0) ∧ (k = 0 → s.xs = [.lst 1 0 []])) d.people.length (.exit 0) (fun s => [(3, s.v), (4, .int .i64 (d.people.length : Int))]) rfl ⟨1, 1, [.lst 1 0 []], []⟩ ?_ ?_ ?_ ?_ ?_ ?_
    · simp only [go_sem, ↓reduceIte, Nat.reduceBEq, Nat.reduceEqDiff, Nat.reduceLT, Nat.reduceLeDiff, Nat.reduceAdd, Nat.reduceMul, Nat.reduceSub, reduceCtorEq, Int.reduceLT, Int.reduceLE, Int.reduceEq, Int.reduceBEq, Int.reduceBNe, Int.reduceToNat, Int.reduceAdd, Int.reduceNeg, Int.reduceSub, RC.v]
    · rfl
    · refine ⟨⟨rfl, fun i t hi => ?_⟩, fun _ => rfl, fun h => (by cases h), fun _ => rfl⟩
      cases i with
      | zero => simp [widL] at hi; subst hi; exact ⟨1, 0, rfl, fun h => absurd rfl h⟩
      | succ i => simp [widL] at hi
    · intro e s he hR
      obtain ⟨hrow, hz, hz0, _⟩ := hR
      obtain ⟨tg, z, xs, t⟩ := s
      have hrow : RowsB xs (widL d e) := hrow
      have hz : xs ≠ [] → z = 1 := hz
      have hei : (e : Int) < d.people.length := by omega
      have hwe : IntKind.i64.wrap ((e : Int) + 1) = (e : Int) + 1 := wrap_i64 (by omega)
      have hpx := List.getElem?_eq_getElem he
      have hzp := hd.zp (by intro e0; rw [e0] at he; simp at he)
      have hpw := ho.widow _ (List.getElem_mem he)
      have hwo : widowOf d e = d.people[e].widow := by unfold widowOf; rw [hpx]
      have hxl := hrow.1
      have hlen := widL_len d e
      have hp : 2 ^ e ≤ 16 := by
        have : 2 ^ e ≤ 2 ^ 4 := Nat.pow_le_pow_right (by omega) (by omega)
        omega
      simp only [go_sem, ↓reduceIte, Nat.reduceBEq, Nat.reduceEqDiff, Nat.reduceLT, Nat.reduceLeDiff, Nat.reduceAdd, Nat.reduceMul, Nat.reduceSub, reduceCtorEq, Int.reduceLT, Int.reduceLE, Int.reduceEq, Int.reduceBEq, Int.reduceBNe, Int.reduceToNat, Int.reduceAdd, Int.reduceNeg, Int.reduceSub, hei, RC.v, eFc]
      generalize hy : (EW tabX).code 51 none (Code.loop _) _ = y
      refine w_rounds_sk hy (fun k (s : RC) => [(5, s.v), (6, .int .i64 k)]) (fun s => ⟨[.cells (eFc d)], s.t⟩) (fun k s => s.isB (((widL d e).take k).flatMap (widF d e))) (widL d e).length (.exit 2) (fun s => [(5, s.v), (6, .int .i64 (widL d e).length)]) rfl ⟨1, 0, [], t⟩ ?_ ?_ ?_ ?_ ?_ ?_
      · simp only [go_sem, ↓reduceIte, Nat.reduceBEq, Nat.reduceEqDiff, Nat.reduceLT, Nat.reduceLeDiff, Nat.reduceAdd, Nat.reduceMul, Nat.reduceSub, reduceCtorEq, Int.reduceLT, Int.reduceLE, Int.reduceEq, Int.reduceBEq, Int.reduceBNe, Int.reduceToNat, Int.reduceAdd, Int.reduceNeg, Int.reduceSub, RC.v]
      · rfl
      · exact ⟨⟨rfl, fun i t hi => by simp at hi⟩, .inl ⟨rfl, rfl⟩, fun _ => rfl⟩
      · intro k s hk hR
        have hki : (k : Int) < xs.length := by omega
        have hwk : IntKind.i64.wrap ((k : Int) + 1) = (k : Int) + 1 := wrap_i64 (by omega)
        have htk := List.getElem?_eq_getElem hk
        obtain ⟨otg, oz, hox, hoz⟩ := hrow.2 k _ htk
        have htl := widL_mem_len d e (List.getElem_mem hk)
        have hz1 := hz (by intro h; rw [h] at hki; simp at hki; omega)
        subst hz1
        have hflat : ((widL d e).take (k + 1)).flatMap (widF d e) = ((widL d e).take k).flatMap (widF d e) ++ widF d e (widL d e)[k] := by
          rw [List.take_add_one, htk, List.flatMap_append]; simp
        have hpl : (((widL d e).take k).flatMap (widF d e)).length ≤ 32 := by
          have a := flat_len (widF d e) 2 ((widL d e).take k) fun t ht => by unfold widF; split <;> split <;> simp
          have c : ((widL d e).take k).length ≤ 16 := by rw [List.length_take]; omega
          omega
        rw [hflat]
        generalize ((widL d e).take k).flatMap (widF d e) = pre at hR hpl ⊢
        generalize (widL d e)[k] = tt at hox hoz htl ⊢
        obtain ⟨t2, t3, s1, a1, a2, a3, hs1⟩ := wid_app hR (by omega) otg oz tt hoz (by omega) false
        obtain ⟨u2, u3, s2, g1, g2, g3, hs2⟩ := wid_app hR (by omega) otg oz tt hoz (by omega) true
        obtain ⟨v2, v3, s3, e1, e2, e3, hs3⟩ := wid_app hs1 (by rw [List.length_append]; simp; omega) otg oz tt hoz (by omega) true
        obtain ⟨ntg, nz, nxs, nt⟩ := s
        simp only [RC.v] at a3 g3 e3
        have hwid : d.people[e].widow = 0 ∨ d.people[e].widow = 1 ∨ d.people[e].widow = 2 := by omega
        rcases hwid with hw | hw | hw
        · have hf : widF d e tt = [tt ++ [false]] := by unfold widF; rw [hwo, hw]; rfl
          rw [hf]
          refine ⟨s1, ?_, hs1⟩
          simp only [go_sem, ↓reduceIte, Nat.reduceBEq, Nat.reduceEqDiff, Nat.reduceLT, Nat.reduceLeDiff, Nat.reduceAdd, Nat.reduceMul, Nat.reduceSub, reduceCtorEq, Int.reduceLT, Int.reduceLE, Int.reduceEq, Int.reduceBEq, Int.reduceBNe, Int.reduceToNat, Int.reduceAdd, Int.reduceNeg, Int.reduceSub, hei, hki, hpx, hzp, ePe, eFc, hox, RC.v, hw, a1, a2, a3, hwk]
          skip
        · have hf : widF d e tt = [tt ++ [true]] := by unfold widF; rw [hwo, hw]; rfl
          rw [hf]
          refine ⟨s2, ?_, hs2⟩
          simp only [go_sem, ↓reduceIte, Nat.reduceBEq, Nat.reduceEqDiff, Nat.reduceLT, Nat.reduceLeDiff, Nat.reduceAdd, Nat.reduceMul, Nat.reduceSub, reduceCtorEq, Int.reduceLT, Int.reduceLE, Int.reduceEq, Int.reduceBEq, Int.reduceBNe, Int.reduceToNat, Int.reduceAdd, Int.reduceNeg, Int.reduceSub, hei, hki, hpx, hzp, ePe, eFc, hox, RC.v, hw, g1, g2, g3, hwk]
          skip
        · have hf : widF d e tt = [tt ++ [false]] ++ [tt ++ [true]] := by unfold widF; rw [hwo, hw]; rfl
          rw [hf, ← List.append_assoc]
          refine ⟨s3, ?_, hs3⟩
          simp only [go_sem, ↓reduceIte, Nat.reduceBEq, Nat.reduceEqDiff, Nat.reduceLT, Nat.reduceLeDiff, Nat.reduceAdd, Nat.reduceMul, Nat.reduceSub, reduceCtorEq, Int.reduceLT, Int.reduceLE, Int.reduceEq, Int.reduceBEq, Int.reduceBNe, Int.reduceToNat, Int.reduceAdd, Int.reduceNeg, Int.reduceSub, hei, hki, hpx, hzp, ePe, eFc, hox, RC.v, hw, a1, a2, a3, e1, e2, e3, hwk]
          skip
      · intro s hR
        simp only [go_sem, ↓reduceIte, Nat.reduceBEq, Nat.reduceEqDiff, Nat.reduceLT, Nat.reduceLeDiff, Nat.reduceAdd, Nat.reduceMul, Nat.reduceSub, reduceCtorEq, Int.reduceLT, Int.reduceLE, Int.reduceEq, Int.reduceBEq, Int.reduceBNe, Int.reduceToNat, Int.reduceAdd, Int.reduceNeg, Int.reduceSub, RC.v, hxl, Int.lt_irrefl]
      · intro s h1 hR
        subst h1
        rw [List.take_length] at hR
        refine ⟨s, by simp only [go_sem, ↓reduceIte, Nat.reduceBEq, Nat.reduceEqDiff, Nat.reduceLT, Nat.reduceLeDiff, Nat.reduceAdd, Nat.reduceMul, Nat.reduceSub, reduceCtorEq, Int.reduceLT, Int.reduceLE, Int.reduceEq, Int.reduceBEq, Int.reduceBNe, Int.reduceToNat, Int.reduceAdd, Int.reduceNeg, Int.reduceSub, RC.v, eFc, hwe], hR.1, fun hne => ?_, fun hnil => hR.2.2 hnil, fun h => by cases h⟩
        rcases hR.2.1 with ⟨_, h0⟩ | ⟨_, _, h0, _⟩
        · exact absurd (List.eq_nil_of_length_eq_zero h0) hne
        · exact h0
    · intro s hR
      simp only [go_sem, ↓reduceIte, Nat.reduceBEq, Nat.reduceEqDiff, Nat.reduceLT, Nat.reduceLeDiff, Nat.reduceAdd, Nat.reduceMul, Nat.reduceSub, reduceCtorEq, Int.reduceLT, Int.reduceLE, Int.reduceEq, Int.reduceBEq, Int.reduceBNe, Int.reduceToNat, Int.reduceAdd, Int.reduceNeg, Int.reduceSub, RC.v, eFc, Int.lt_irrefl]
    · intro s h1 hR
      subst h1
      have hun := hR.1.under 0
      exact ⟨s, hR, ⟨[], s.t⟩, by simp only [go_sem, ↓reduceIte, Nat.reduceBEq, Nat.reduceEqDiff, Nat.reduceLT, Nat.reduceLeDiff, Nat.reduceAdd, Nat.reduceMul, Nat.reduceSub, reduceCtorEq, Int.reduceLT, Int.reduceLE, Int.reduceEq, Int.reduceBEq, Int.reduceBNe, Int.reduceToNat, Int.reduceAdd, Int.reduceNeg, Int.reduceSub, RC.v, eFc, hun]⟩
  obtain ⟨s, ⟨hrow, hz, hz0, h00⟩, h1, hcall⟩ := key
  have hcl : cleanL s.xs = some ((widL d d.people.length).map vBs') := by
    by_cases hm : d.people.length = 0
    · rw [h00 hm, hm]; simp only [go_sem, ↓reduceIte, Nat.reduceBEq, Nat.reduceEqDiff, Nat.reduceLT, Nat.reduceLeDiff, Nat.reduceAdd, Nat.reduceMul, Nat.reduceSub, reduceCtorEq, Int.reduceLT, Int.reduceLE, Int.reduceEq, Int.reduceBEq, Int.reduceBNe, Int.reduceToNat, Int.reduceAdd, Int.reduceNeg, Int.reduceSub, widL, vBs', Bs, List.map_cons]
    · exact hrow.clean_eq fun t ht e => by
        have := widL_mem_len d _ ht
        rw [e] at this; exact hm this.symm
  refine pure_of hcall ?_
  have hzz : s.z = zT 1 (widL d d.people.length).length := by
    cases hq : widL d d.people.length with
    | nil =>
      have : s.xs = [] := List.eq_nil_of_length_eq_zero (by rw [hrow.1, hq]; rfl)
      rw [hz0 this]; rfl
    | cons a b =>
      have : s.xs ≠ [] := fun h => by have := hrow.1; rw [h, hq] at this; simp at this
      rw [hz this]; rfl
  simp only [RC.v, go_sem, ↓reduceIte, Nat.reduceBEq, Nat.reduceEqDiff, Nat.reduceLT, Nat.reduceLeDiff, Nat.reduceAdd, Nat.reduceMul, Nat.reduceSub, reduceCtorEq, Int.reduceLT, Int.reduceLE, Int.reduceEq, Int.reduceBEq, Int.reduceBNe, Int.reduceToNat, Int.reduceAdd, Int.reduceNeg, Int.reduceSub, hcl, vW, hzz]
end Go.Proofs.YthkpjbgadkkeeaaGreat
