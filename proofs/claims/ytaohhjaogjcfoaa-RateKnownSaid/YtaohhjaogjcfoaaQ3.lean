/- Parts of the proof, joined: Regions whose order is drawn, run in each of some orders: the abstract interpreter is sound. The abstract interpreter is sound: the whole. Which slots of each function are read in another region than the one that wrote them (nothing rests on it: the others are forgotten), and which regions that draw their order lay nothing. Conditions: those of each law. -/
import Derived.Test.YtaohhjaogjcfoaaQ2
set_option linter.unusedSimpArgs false
set_option linter.unusedVariables false
section
namespace Go.Proofs.Ytaohhjaogjcfoaa
open Go.RowKit

section
variable {X : Tab} {L : List Nat} {E : Eng} {ops : Array Oper} {n0 : Nat × Nat} {q : Nat → Bool}

noncomputable def stepG (X : Tab) (E : Eng) (L : List Nat) (ops : Array Oper) (n0 : Nat × Nat) (q : Nat → Bool) (i : Nat) (s : St) : Option St :=
  match ops.toList[i]? with
  | some o => oneS X E L ops.toList (q i) (posL n0 ops.size i) o s
  | none => some s
noncomputable def runG (X : Tab) (E : Eng) (L : List Nat) (ops : Array Oper) (n0 : Nat × Nat) (q : Nat → Bool) : List Nat → St → Option St
  | [], s => some s
  | i :: is, s => (stepG X E L ops n0 q i s).bind (runG X E L ops n0 q is)

theorem stepG_fi {i : Nat} {s s1 : St} (hi : FI L s.fr) (h : stepG X E L ops n0 q i s = some s1) : FI L s1.fr := by
  unfold stepG at h
  split at h
  · obtain ⟨v, h', _, hb⟩ := does_of hi h; exact hb.fi
  · cases h; exact hi
theorem runG_fi : ∀ (is : List Nat) (s sf : St), FI L s.fr → runG X E L ops n0 q is s = some sf → FI L sf.fr
  | [], s, sf, hi, h => by cases h; exact hi
  | k :: is, s, sf, hi, h => by
    obtain ⟨s', g1, g2⟩ := Option.bind_eq_some_iff.1 h
    exact runG_fi is s' sf (stepG_fi hi g1) g2
theorem stepG_eqv {i : Nat} {s s' s1 : St} (he : Eqv L s s') (h : stepG X E L ops n0 q i s = some s1) : ∃ s1', stepG X E L ops n0 q i s' = some s1' ∧ Eqv L s1 s1' := by
  unfold stepG at h ⊢
  split at h
  · rename_i o ho
    obtain ⟨v, h', hd, hb⟩ := does_of he.fi h
    have hd' := does_congr (fun t _ => he.fr t) hd
    rw [he.h] at hd'
    obtain ⟨s1', h1, h2⟩ := oneS_does he.fi' hd'
    rw [he.ms] at hb
    exact ⟨s1', h1, hb.eqv h2 he.fr⟩
  · cases h; exact ⟨s', rfl, he⟩
theorem runG_eqv : ∀ (is : List Nat) (s s' sf : St), Eqv L s s' → runG X E L ops n0 q is s = some sf → ∃ sf', runG X E L ops n0 q is s' = some sf' ∧ Eqv L sf sf'
  | [], s, s', sf, he, h => by cases h; exact ⟨s', rfl, he⟩
  | i :: is, s, s', sf, he, h => by
    obtain ⟨s1, h1, h2⟩ := Option.bind_eq_some_iff.1 h
    obtain ⟨s1', h3, h4⟩ := stepG_eqv he h1
    obtain ⟨sf', h5, h6⟩ := runG_eqv is s1 s1' sf h4 h2
    exact ⟨sf', Option.bind_eq_some_iff.2 ⟨s1', h3, h5⟩, h6⟩

/-- What the text of a region must bear. -/
structure TextOk (ops : Array Oper) : Prop where
  edge : ∀ (i : Nat) (o : Oper), ops[i]? = some o → ∀ e ∈ o.after, Region.binds .any e = true → e.on < i
  apart : ∀ (i j : Nat) (x y : Oper), i < j → ops[i]? = some x → ops[j]? = some y → earlier (Region.before ops).toList i j = false → Oper.apart ops x y = true
theorem textOk_of (h : drawTxt ops = true) : TextOk ops := by
  unfold drawTxt at h
  simp only [Bool.and_eq_true] at h
  obtain ⟨h1, h2⟩ := h
  refine ⟨fun i o ho e he hb => ?_, fun i j x y hij hx hy hn => ?_⟩
  · have hm : (o, i) ∈ ops.toList.zipIdx := by
      rw [List.mem_iff_getElem?]
      exact ⟨i, by rw [List.getElem?_zipIdx]; simp [ho]⟩
    have := List.all_eq_true.1 h1 _ hm
    simp only at this
    have := List.all_eq_true.1 this e (by simpa using he)
    rw [hb] at this
    simpa using this
  · have hj : j < ops.toList.length := by have := (Array.getElem?_eq_some_iff.1 hy).1; simpa using this
    have := List.all_eq_true.1 h2 _ (mem_pairs hij hj)
    simp only [hn, Bool.false_or] at this
    have hx' : ops.toList[i]? = some x := by simpa using hx
    have hy' : ops.toList[j]? = some y := by simpa using hy
    rw [hx', hy'] at this
    simpa using this
theorem stat_swaps {x y : Op} {qx qy : Bool} {fr : Frm} (h : statOk qx qy x y = true) : Swaps x y qx qy fr fr := by
  unfold statOk at h
  simp only [Bool.or_eq_true] at h
  rcases h with (h | h) | h
  · exact .inl h
  · exact .inr (.inl h)
  · split at h
    · rename_i a b; exact .inr (.inr (.inl ⟨a, b⟩))
    · rename_i a b; exact .inr (.inr (.inr (.inl ⟨a, b⟩)))
    · rename_i a b; exact .inr (.inr (.inr (.inr (.inl ⟨a, b⟩))))
    · cases h

/-- What lays something new may be taken ahead of anything. -/
theorem lay_does (hF : FrE E) {all : List Oper} {x y : Oper} {qx qy : Bool} {px py : Nat × Nat} {fr : Frm} {h h1 h2 : Heap} {u v : AV} (hl : layOp y.op = true) (hb : h.b[py.1]? = some .none) (hne : px.1 ≠ py.1)
    (hx : Does X E all qx px x fr h u h1) (hy : Does X E all qy py y fr h1 v h2) : ∃ h3, Does X E all qy py y fr h v h3 ∧ Does X E all qx px x fr h3 u h2 := by
  have hop : ∀ h, opAt X E qy py y.op fr h = stepOp X py y.op fr h := fun h => by
    unfold opAt
    split
    · rename_i c e; rw [e] at hl; cases hl
    · rfl
  have put_of : ∀ {g : Heap} {w : ABlk}, g.b[py.1]? = some .none → hput g py.1 w = g.put py.1 w := fun {g w} hg => by
    simp only [hput, lset, Heap.put, if_pos (bare_lt hg)]
  rcases hy with ⟨gy, hy⟩ | ⟨gy, rfl, rfl⟩
  · rw [hop] at hy
    obtain ⟨w, rfl, hall⟩ := lay_step hl hy
    refine ⟨_, .inl ⟨gy, by rw [hop]; exact hall h⟩, ?_⟩
    rcases hx with ⟨gx, hx⟩ | ⟨gx, rfl, rfl⟩
    · have := fra_opAt (z := w) hF hb hne _ hx
      refine .inl ⟨gx, ?_⟩
      have hb1 : h1.b[py.1]? = some .none := this.1
      rw [put_of hb, put_of hb1]
      exact this.2
    · exact .inr ⟨gx, rfl, rfl⟩
  · exact ⟨h, .inr ⟨gy, rfl, rfl⟩, hx⟩

/-- Operations that may be swapped. -/
def FreeP (ops : Array Oper) (q : Nat → Bool) (i j : Nat) : Prop := i ≠ j ∧ earlier (Region.before ops).toList i j = false ∧ earlier (Region.before ops).toList j i = false ∧
  ∀ x y, ops[i]? = some x → ops[j]? = some y → statOk (q i) (q j) x.op y.op = true ∨ layOp y.op = true
theorem swapG (hF : FrE E) (hd : TextOk ops) {i j : Nat} (hf : FreeP ops q i j) {s s1 s2 : St} (hi : FI L s.fr) (hbare : s.h.b[n0.1 + (ops.size - 1 - j)]? = some .none)
    (h1 : stepG X E L ops n0 q i s = some s1) (h2 : stepG X E L ops n0 q j s1 = some s2) : ∃ s1' s2', stepG X E L ops n0 q j s = some s1' ∧ stepG X E L ops n0 q i s1' = some s2' ∧ Eqv L s2 s2' := by
  obtain ⟨hne, n1, n2, hst⟩ := hf
  have hi1 := stepG_fi hi h1
  cases hx : ops.toList[i]? with
  | none =>
    simp only [stepG, hx, Option.some.injEq] at h1 ⊢
    subst h1
    exact ⟨s2, s2, h2, rfl, Eqv.refl (stepG_fi hi h2)⟩
  | some x =>
    cases hy : ops.toList[j]? with
    | none =>
      simp only [stepG, hy, Option.some.injEq] at h2 ⊢
      subst h2
      exact ⟨s, s1, rfl, h1, Eqv.refl hi1⟩
    | some y =>
      have hx' : ops[i]? = some x := by simpa using hx
      have hy' : ops[j]? = some y := by simpa using hy
      have hsw := hst x y hx' hy'
      have hap : (∀ t, x.dst = some t → t ∉ y.looksAt ops) ∧ (∀ t, x.dst = some t → y.dst ≠ some t) ∧ (∀ t, y.dst = some t → t ∉ x.looksAt ops) := by
        rcases Nat.lt_or_gt_of_ne hne with h | h
        · obtain ⟨a, b, c⟩ := Oper.apart_spec (hd.apart i j x y h hx' hy' n1)
          exact ⟨a, b, c⟩
        · obtain ⟨a, b, c⟩ := Oper.apart_spec (hd.apart j i y x h hy' hx' n2)
          exact ⟨c, fun t e e2 => b t e2 e, a⟩
      obtain ⟨ap1, ap2, ap3⟩ := hap
      simp only [stepG, hx, hy] at h1 h2 ⊢
      obtain ⟨u, g1, d1, b1⟩ := does_of hi h1
      obtain ⟨v, g2, d2, b2⟩ := does_of hi1 h2
      rw [b1.h] at d2
      have d2' := does_congr (fr' := s.fr) (fun t ht => by
        rw [b1.fr, if_neg]
        intro e; exact ap1 t e ht) d2
      obtain ⟨g3, d3, d4⟩ := hsw.elim (fun h => swap_does (stat_swaps (fr := s.fr) h) d1 d2') (fun h => lay_does hF h hbare (by have := (Array.getElem?_eq_some_iff.1 hx').1; have := (Array.getElem?_eq_some_iff.1 hy').1; show n0.1 + (ops.size - 1 - i) ≠ n0.1 + (ops.size - 1 - j); omega) d1 d2')
      obtain ⟨s1', e1, c1⟩ := oneS_does hi d3
      have d4' := does_congr (fr' := s1'.fr) (fun t ht => by
        rw [c1.fr, if_neg]
        intro e; exact ap3 t e ht) d4
      rw [← c1.h] at d4'
      obtain ⟨s2', e2, c2⟩ := oneS_does c1.fi d4'
      refine ⟨s1', s2', e1, e2, ⟨fun t => ?_, b2.h.trans c2.h.symm, ?_, b2.fi, c2.fi⟩⟩
      · rw [b2.fr, c2.fr, b1.fr, c1.fr]
        by_cases ht : x.dst = some t
        · rw [if_neg (ap2 t ht), if_pos ht, if_pos ht]
        · rw [if_neg ht, if_neg ht]
      · rw [b2.ms, b1.ms, c2.ms, c1.ms]
/-- An operation is taken first. -/
theorem stepG_bare (hF : FrE E) {i j : Nat} (hne : i ≠ j) (hj : j < ops.size) {s s1 : St} (hb : s.h.b[n0.1 + (ops.size - 1 - j)]? = some .none) (h : stepG X E L ops n0 q i s = some s1) : s1.h.b[n0.1 + (ops.size - 1 - j)]? = some .none := by
  unfold stepG at h
  split at h
  · rename_i o ho
    have hil : i < ops.size := by have := (List.getElem?_eq_some_iff.1 ho).1; simpa using this
    exact (fra_one (z := .none) hF hb (by show n0.1 + (ops.size - 1 - i) ≠ n0.1 + (ops.size - 1 - j); omega) _ h).1
  · cases h; exact hb
theorem takeG (hF : FrE E) (hd : TextOk ops) {i : Nat} (hil : i < ops.size) : ∀ (R : List Nat) (s sf : St), i ∈ R → (∀ j ∈ R.takeWhile (· != i), FreeP ops q j i) → FI L s.fr → s.h.b[n0.1 + (ops.size - 1 - i)]? = some .none → runG X E L ops n0 q R s = some sf →
    ∃ s1 sf', stepG X E L ops n0 q i s = some s1 ∧ runG X E L ops n0 q (R.erase i) s1 = some sf' ∧ Eqv L sf sf'
  | [], s, sf, hm, _, _, _, _ => by cases hm
  | r :: R, s, sf, hm, hn, hi, hb0, h => by
    obtain ⟨s1, h1, h2⟩ := Option.bind_eq_some_iff.1 h
    by_cases e : r = i
    · subst e
      refine ⟨s1, sf, h1, ?_, Eqv.refl (runG_fi R s1 sf (stepG_fi hi h1) h2)⟩
      rw [List.erase_cons_head]; exact h2
    · have hm' : i ∈ R := by
        rcases List.mem_cons.1 hm with h | h
        · exact absurd h.symm e
        · exact h
      have hb : (r != i) = true := by simpa using e
      rw [List.takeWhile_cons_of_pos (p := (· != i)) hb] at hn
      obtain ⟨s2, sf', h3, h4, h5⟩ := takeG hF hd hil R s1 sf hm' (fun j hj => hn j (List.mem_cons_of_mem _ hj)) (stepG_fi hi h1) (stepG_bare hF e hil hb0 h1) h2
      obtain ⟨s1', s2', g1, g2, g3⟩ := swapG hF hd (hn r (by simp)) hi hb0 h1 h3
      obtain ⟨sf'', g4, g5⟩ := runG_eqv _ _ _ _ g3 h4
      refine ⟨s1', sf'', g1, ?_, h5.trans g5⟩
      rw [List.erase_cons_tail (by simpa using e)]
      exact Option.bind_eq_some_iff.2 ⟨s2', g2, g4⟩

/-! ### The orders -/
theorem ordered_pw {b : List Nat} : ∀ {l : List Nat}, ordered b l = true ↔ l.Pairwise fun i j => earlier b j i = false
  | [] => by simp [ordered]
  | i :: r => by
    simp only [ordered, Bool.and_eq_true, List.all_eq_true, Bool.not_eq_true', List.pairwise_cons, ordered_pw (l := r)]
theorem before_of {R : Nat → Nat → Prop} {i : Nat} : ∀ {l : List Nat}, l.Pairwise R → i ∈ l → ∀ j ∈ l.takeWhile (· != i), R j i
  | [], _, hm, _, _ => by cases hm
  | r :: l, hp, hm, j, hj => by
    obtain ⟨h1, h2⟩ := List.pairwise_cons.1 hp
    by_cases e : r = i
    · subst e
      rw [List.takeWhile_cons_of_neg (by simp)] at hj; cases hj
    · have hm' : i ∈ l := by
        rcases List.mem_cons.1 hm with h | h
        · exact absurd h.symm e
        · exact h
      rw [List.takeWhile_cons_of_pos (p := (· != i)) (by simpa using e)] at hj
      rcases List.mem_cons.1 hj with h | h
      · subst h; exact h1 i hm'
      · exact before_of h2 hm' j h
theorem covers_ne {b : List Nat} {cf : Nat → Nat → Bool} {n : Nat} {D : List Nat} {F : List (List Nat)} (h : covers b cf n D F = true) : F ≠ [] := by
  intro e; subst e
  cases n <;> simp [covers] at h
theorem filter_takeWhile {p : Nat → Bool} {i : Nat} (hp : p i = true) : ∀ l : List Nat, (l.filter p).takeWhile (· != i) = (l.takeWhile (· != i)).filter p
  | [] => rfl
  | r :: l => by
    by_cases e : r = i
    · subst e
      rw [List.filter_cons_of_pos hp, List.takeWhile_cons_of_neg (by simp), List.takeWhile_cons_of_neg (by simp)]; rfl
    · have hb : (r != i) = true := by simpa using e
      rw [List.takeWhile_cons_of_pos (p := (· != i)) hb]
      cases hr : p r with
      | true => rw [List.filter_cons_of_pos hr, List.filter_cons_of_pos hr, List.takeWhile_cons_of_pos (p := (· != i)) hb, filter_takeWhile hp l]
      | false => rw [List.filter_cons_of_neg (by simp [hr]), List.filter_cons_of_neg (by simp [hr]), filter_takeWhile hp l]
theorem filter_erase {p : Nat → Bool} {i : Nat} : ∀ l : List Nat, (l.erase i).filter p = if p i = true then (l.filter p).erase i else l.filter p
  | [] => by split <;> rfl
  | r :: l => by
    by_cases e : r = i
    · subst e
      rw [List.erase_cons_head]
      split
      · rename_i h; rw [List.filter_cons_of_pos h, List.erase_cons_head]
      · rename_i h; rw [List.filter_cons_of_neg h]
    · rw [List.erase_cons_tail (by simpa using e)]
      have ih := filter_erase (p := p) (i := i) l
      cases hr : p r with
      | true =>
        rw [List.filter_cons_of_pos hr, List.filter_cons_of_pos hr, ih]
        split
        · rw [List.erase_cons_tail (by simpa using e)]
        · rfl
      | false => rw [List.filter_cons_of_neg (by simp [hr]), List.filter_cons_of_neg (by simp [hr]), ih]
theorem front_filter {n : Nat} {cf : Nat → Nat → Bool} {i : Nat} (hi : involved cf n i = true) {l : List Nat} (hl : ∀ k ∈ l, k < n) (hin : i < n) : frontB cf i (l.filter (involved cf n)) = frontB cf i l := by
  unfold frontB
  rw [filter_takeWhile hi, Bool.eq_iff_iff]
  simp only [List.all_eq_true, List.mem_filter, Bool.not_eq_true']
  constructor
  · intro h k hk
    cases hc : cf k i with
    | false => rfl
    | true =>
      have : involved cf n k = true := List.any_eq_true.2 ⟨i, by simpa using hin, by simp [hc]⟩
      rw [h k ⟨hk, this⟩] at hc; cases hc
  · intro h k hk; exact h k hk.1

/-! ### Soundness -/
variable {P : Program} (hX : Fits P X) {base : Nat} {w0 : World} {rd : Option Nat} {F : Fence} {N : Nat} {d : St} {l0 : List (Nat × Bool)}

include hX in
theorem sound_anyF (hE : SoundCall P X E) (hR : SoundRound P X E) (hG : FrE E) (hd : TextOk ops) (hok : okOps N ops.toList = true) {n : Nat} {Q : Exit → Act → World → Prop} {C0 : Ctx} (h0 : ∀ f, C0.fl f = true → f ≤ n0.1) :
    ∀ (fuel : Nat) (listed : Array Bool) (C : Ctx) (s : St) (a : Act) (w : World) (Fm : List (List Nat)), listed.size = ops.size → (unlisted ops.size listed).length ≤ fuel → Down ops listed → At X C base w0 rd F L N s a w →
      (∀ l ∈ Fm, l.Perm (unlisted ops.size listed) ∧ ordered (Region.before ops).toList l = true ∧ ∃ sg sl, runG X E L ops n0 (fun i => !loudIn l0 i) l s = some sg ∧ Eqv L sl sg ∧ dropS sl = d) →
      covers (Region.before ops).toList (confl (Region.before ops).toList ops.toList l0) ((unlisted ops.size listed).filter (involved (confl (Region.before ops).toList ops.toList l0) ops.size)).length
        ((unlisted ops.size listed).filter (involved (confl (Region.before ops).toList ops.toList l0) ops.size)) (Fm.map (List.filter (involved (confl (Region.before ops).toList ops.toList l0) ops.size))) = true →
      C0.le base C → Stab n0 C0 C → n0.1 + ops.size ≤ s.h.b.length → n0.2 + ops.size ≤ s.h.t.length →
      (∀ i ∈ unlisted ops.size listed, C.ok (n0.1 + (ops.size - 1 - i)) = false ∧ C.tk (n0.2 + i) = false) →
      (∀ C' a' w' s' sl, C0.le base C' → Stab n0 C0 C' → At X C' base w0 rd F L N s' a' w' → Eqv L sl s' → dropS sl = d → n0.1 ≤ s'.h.b.length → n0.2 ≤ s'.h.t.length → Q .normal a' w') →
      wpAnyIn F n P .any ops Q fuel listed a w := by
  intro fuel
  have last : ∀ (listed : Array Bool) (C : Ctx) (s : St) (a : Act) (w : World) (Fm : List (List Nat)), unlisted ops.size listed = [] → At X C base w0 rd F L N s a w →
      (∀ l ∈ Fm, l.Perm (unlisted ops.size listed) ∧ ordered (Region.before ops).toList l = true ∧ ∃ sg sl, runG X E L ops n0 (fun i => !loudIn l0 i) l s = some sg ∧ Eqv L sl sg ∧ dropS sl = d) → Fm ≠ [] →
      C0.le base C → Stab n0 C0 C → n0.1 + ops.size ≤ s.h.b.length → n0.2 + ops.size ≤ s.h.t.length →
      (∀ C' a' w' s' sl, C0.le base C' → Stab n0 C0 C' → At X C' base w0 rd F L N s' a' w' → Eqv L sl s' → dropS sl = d → n0.1 ≤ s'.h.b.length → n0.2 ≤ s'.h.t.length → Q .normal a' w') → Q .normal a w := by
    intro listed C s a w Fm hnil hat hF hne hle hst hb ht hQ
    obtain ⟨l, hl⟩ := List.exists_mem_of_ne_nil _ hne
    obtain ⟨h1, _, sg, sl, h3, h4, h5⟩ := hF l hl
    rw [hnil] at h1
    have := h1.eq_nil
    subst this
    simp only [runG, Option.some.injEq] at h3
    subst h3
    exact hQ C a w s sl hle hst hat h4 h5 (by omega) (by omega)
  induction fuel with
  | zero =>
    intro listed C s a w Fm hs hf hdn hat hF hcov hle hst hb ht hfree hQ
    have hnil : unlisted ops.size listed = [] := List.eq_nil_of_length_eq_zero (by omega)
    have hr : Region.ready .any ops listed = [] := by
      cases hr : Region.ready .any ops listed with
      | nil => rfl
      | cons i is =>
        have hm : i ∈ Region.ready .any ops listed := by rw [hr]; simp
        obtain ⟨h1, o, ho, _⟩ := mem_ready.1 hm
        have : i ∈ unlisted ops.size listed := List.mem_filter.2 ⟨List.mem_range.2 (Array.getElem?_eq_some_iff.1 ho).1, by simp only [h1]; rfl⟩
        rw [hnil] at this; cases this
    exact ⟨hr, last listed C s a w Fm hnil hat hF (fun e => by rw [e] at hcov; exact covers_ne hcov rfl) hle hst hb ht hQ⟩
  | succ fuel ih =>
    intro listed C s a w Fm hs hf hdn hat hF hcov hle hst hb ht hfree hQ
    have hne : Fm ≠ [] := fun e => by rw [e] at hcov; exact covers_ne hcov rfl
    refine ⟨fun hr => ?_, fun i hi => ?_⟩
    · cases hun : unlisted ops.size listed with
      | nil => exact last listed C s a w Fm hun hat hF hne hle hst hb ht hQ
      | cons r R =>
        exfalso
        have hsort := unlisted_sorted ops.size listed
        rw [hun] at hsort
        have hmin : ∀ j ∈ unlisted ops.size listed, r ≤ j := fun j hj => by
          rw [hun] at hj
          rcases List.mem_cons.1 hj with e | h
          · omega
          · exact Nat.le_of_lt ((List.pairwise_cons.1 hsort).1 j h)
        have hr0 : r ∈ unlisted ops.size listed := by rw [hun]; simp
        obtain ⟨hr1, hr2⟩ := List.mem_filter.1 hr0
        have hr1 := List.mem_range.1 hr1
        have ho : ops[r]? = some ops[r] := Array.getElem?_eq_getElem hr1
        have hready : r ∈ Region.ready .any ops listed := by
          refine mem_ready.2 ⟨by simpa using hr2, ops[r], ho, fun e he hbd => ?_⟩
          have hlt := hd.edge r _ ho e he hbd
          have hlt2 : e.on < listed.size := by omega
          cases hl : listed.getD e.on true with
          | true =>
            rw [Array.getD_eq_getD_getElem?, Array.getElem?_eq_getElem hlt2] at hl ⊢
            simpa using hl
          | false =>
            have := hmin e.on (List.mem_filter.2 ⟨List.mem_range.2 (by omega), by simp only [hl]; rfl⟩)
            omega
        rw [hr] at hready; cases hready
    · obtain ⟨h1, o, ho, hedges⟩ := mem_ready.1 hi
      have hilt := (Array.getElem?_eq_some_iff.1 ho).1
      have him : i ∈ unlisted ops.size listed := List.mem_filter.2 ⟨List.mem_range.2 hilt, by simp only [h1]; rfl⟩
      have hdown := ready_down hdn hs hi
      have hnb : ∀ j ∈ unlisted ops.size listed, earlier (Region.before ops).toList j i = false := fun j hj => by
        cases hh : earlier (Region.before ops).toList j i with
        | false => rfl
        | true =>
          have hl := hdown j hh
          obtain ⟨hj1, hj2⟩ := List.mem_filter.1 hj
          have hj1 := List.mem_range.1 hj1
          rw [Array.getD_eq_getD_getElem?, Array.getElem?_eq_getElem (by omega)] at hl hj2
          simp at hl hj2
          rw [hl] at hj2; cases hj2
      have hltu : ∀ j ∈ unlisted ops.size listed, j < ops.size := fun j hj => List.mem_range.1 (List.mem_filter.1 hj).1
      have hset := unlisted_set hs i hilt
      generalize hcf : confl (Region.before ops).toList ops.toList l0 = cf at hcov
      -- what covers the rest
      have hcov' : covers (Region.before ops).toList cf ((unlisted ops.size (listed.setIfInBounds i true)).filter (involved cf ops.size)).length
          ((unlisted ops.size (listed.setIfInBounds i true)).filter (involved cf ops.size)) (((Fm.filter (frontB cf i)).map (·.erase i)).map (List.filter (involved cf ops.size))) = true := by
        rw [hset]
        cases hinv : involved cf ops.size i with
        | false =>
          have hall : ∀ l ∈ Fm, frontB cf i l = true := fun l hl => by
            unfold frontB
            rw [List.all_eq_true]
            intro k hk
            have hkl : k ∈ l := (List.takeWhile_sublist _).subset hk
            have hk2 := hltu k ((hF l hl).1.mem_iff.1 hkl)
            cases hc : cf k i with
            | false => rfl
            | true =>
              have : involved cf ops.size i = true := List.any_eq_true.2 ⟨k, by simpa using hk2, by simp [hc]⟩
              rw [hinv] at this; cases this
          have e1 : Fm.filter (frontB cf i) = Fm := List.filter_eq_self.2 hall
          have e2 : (Fm.map (·.erase i)).map (List.filter (involved cf ops.size)) = Fm.map (List.filter (involved cf ops.size)) := by
            rw [List.map_map]
            apply List.map_congr_left
            intro l _
            simp only [Function.comp, filter_erase, hinv, Bool.false_eq_true, if_false]
          rw [e1, e2, filter_erase, hinv]
          simpa using hcov
        | true =>
          have hiD : i ∈ (unlisted ops.size listed).filter (involved cf ops.size) := List.mem_filter.2 ⟨him, hinv⟩
          obtain ⟨m, hm⟩ : ∃ m, ((unlisted ops.size listed).filter (involved cf ops.size)).length = m + 1 := ⟨_, (Nat.succ_pred_eq_of_pos (List.length_pos_of_mem hiD)).symm⟩
          rw [hm] at hcov
          simp only [covers, Bool.and_eq_true] at hcov
          have h3 := List.all_eq_true.1 hcov.2 i hiD
          rw [Bool.or_eq_true] at h3
          have h4 : ¬ ((unlisted ops.size listed).filter (involved cf ops.size)).any (fun j => earlier (Region.before ops).toList j i) = true := by
            rw [List.any_eq_true]
            rintro ⟨j, hj, he⟩
            rw [hnb j (List.mem_filter.1 hj).1] at he; cases he
          have h5 := h3.resolve_left h4
          have e1 : ((Fm.filter (frontB cf i)).map (·.erase i)).map (List.filter (involved cf ops.size)) = ((Fm.map (List.filter (involved cf ops.size))).filter (frontB cf i)).map (·.erase i) := by
            rw [List.filter_map, List.map_map, List.map_map]
            have e0 : Fm.filter (frontB cf i) = Fm.filter (frontB cf i ∘ List.filter (involved cf ops.size)) := by
              apply List.filter_congr
              intro l hl
              exact (front_filter hinv (fun k hk => hltu k ((hF l hl).1.mem_iff.1 hk)) hilt).symm
            rw [e0]
            apply List.map_congr_left
            intro l _
            simp only [Function.comp, filter_erase, hinv, if_true]
          rw [e1, filter_erase, hinv, if_pos rfl, List.length_erase_of_mem hiD, hm]
          exact h5
      have hne' : (Fm.filter (frontB cf i)) ≠ [] := fun e => by
        rw [e] at hcov'; exact covers_ne hcov' rfl
      have hbare : s.h.b[n0.1 + (ops.size - 1 - i)]? = some .none := by
        have hlt : n0.1 + (ops.size - 1 - i) < s.h.b.length := by omega
        have e := List.getElem?_eq_getElem hlt
        by_cases hx : s.h.b[n0.1 + (ops.size - 1 - i)] = .none
        · rw [e, hx]
        · have := (hat.rel.has _ _ e hx).1
          rw [(hfree i him).1] at this; cases this
      have htake : ∀ l ∈ Fm.filter (frontB cf i), ∃ s1 sg' sl, stepG X E L ops n0 (fun i => !loudIn l0 i) i s = some s1 ∧ runG X E L ops n0 (fun i => !loudIn l0 i) (l.erase i) s1 = some sg' ∧ Eqv L sl sg' ∧ dropS sl = d := fun l hl => by
        obtain ⟨hl1, hl2⟩ := List.mem_filter.1 hl
        obtain ⟨hp, hor, sg, sl, hrun, heq, hdr⟩ := hF l hl1
        have hil : i ∈ l := hp.mem_iff.2 him
        obtain ⟨s1, sg', g1, g2, g3⟩ := takeG hG hd hilt l s sg hil (fun j hj => by
          have hjl : j ∈ l := (List.takeWhile_sublist _).subset hj
          have hju := hp.mem_iff.1 hjl
          have hji : j ≠ i := by
            have := List.all_eq_true.1 (List.all_takeWhile (p := (· != i)) (l := l)) j hj
            simpa using this
          have hor2 := before_of (ordered_pw.1 hor) hil j hj
          refine ⟨hji, hnb j hju, hor2, fun x y hx hy => ?_⟩
          have hc := List.all_eq_true.1 hl2 j hj
          rw [← hcf] at hc
          simp only [confl, hnb j hju, hor2, Bool.not_false, Bool.true_and, Bool.not_eq_true'] at hc
          have hx' : ops.toList[j]? = some x := by simpa using hx
          have hy' : ops.toList[i]? = some y := by simpa using hy
          have hb : (j != i) = true := by simpa using hji
          rw [hx', hy', hb, Bool.true_and] at hc
          cases hly : layOp y.op with
          | true => exact .inr rfl
          | false => left; simpa [hly] using hc) hat.fi hbare hrun
        exact ⟨s1, sg', sl, g1, g2, heq.trans g3, hdr⟩
      obtain ⟨la, hla⟩ := List.exists_mem_of_ne_nil _ hne'
      obtain ⟨s1, _, _, g1, _⟩ := htake la hla
      have hstep := g1
      have ho' : ops.toList[i]? = some o := by simpa using ho
      simp only [stepG, ho', posL] at g1
      obtain ⟨f1, f2⟩ := hfree i him
      refine sound_one hX hE hR hat (p := (n0.1 + (ops.size - 1 - i), n0.2 + i)) (fun f hf => by rw [hle.fl] at hf; have := h0 f hf; show f ≤ n0.1 + (ops.size - 1 - i); omega) ⟨f1, by show n0.1 + (ops.size - 1 - i) ≤ _; omega⟩ ⟨f2, by show n0.2 + i ≤ _; omega⟩ ho (okOps_get hok i o ho) g1 fun C' a' w' hl hstay hlen hat' => ?_
      refine ih (listed.setIfInBounds i true) C' s1 a' w' ((Fm.filter (frontB cf i)).map (·.erase i)) (by simp [hs]) ?_ (hdn.set hs hi) hat' ?_ (by rw [hcf]; exact hcov') (hle.trans hl) ?_ (Nat.le_trans hb hlen.1) (Nat.le_trans ht hlen.2) ?_ hQ
      · rw [hset, List.length_erase_of_mem him]; omega
      · intro l' hl'
        obtain ⟨l, hl, rfl⟩ := List.mem_map.1 hl'
        obtain ⟨s1', sg', sl, k1, k2, k3, k4⟩ := htake l hl
        rw [hstep] at k1
        cases k1
        obtain ⟨hp, hor, _⟩ := hF l (List.mem_filter.1 hl).1
        refine ⟨by rw [hset]; exact hp.erase i, ordered_pw.2 ((ordered_pw.1 hor).sublist List.erase_sublist), sg', sl, k2, k3, k4⟩
      · exact hst.trans ⟨fun k hk => hstay.ok k (by omega) (by show k ≠ n0.1 + (ops.size - 1 - i); omega), fun k hk => hstay.tk k (by omega) (by show k ≠ n0.2 + i; omega)⟩
      · intro k hk
        rw [hset] at hk
        have hnd : (unlisted ops.size listed).Nodup := List.Pairwise.filter _ List.nodup_range
        have hkm := (hnd.mem_erase_iff.1 hk)
        obtain ⟨k1, k2⟩ := hfree k hkm.2
        have hklt := List.mem_range.1 (List.mem_filter.1 hkm.2).1
        have hne := hkm.1
        exact ⟨(hstay.ok (n0.1 + (ops.size - 1 - k)) (by omega) (by show n0.1 + (ops.size - 1 - k) ≠ n0.1 + (ops.size - 1 - i); omega)).trans k1, (hstay.tk (n0.2 + k) (by omega) (by show n0.2 + k ≠ n0.2 + i; omega)).trans k2⟩

theorem runL_G (s : St) : ∀ (l : List (Nat × Bool)), (∀ p ∈ l, p.2 = loudIn l0 p.1) → ∀ s sl, runL X E L ops.toList n0 l s = some sl → runG X E L ops n0 (fun i => !loudIn l0 i) (l.map (·.1)) s = some sl
  | [], _, s, sl, h => by
    rw [runL] at h; exact h
  | (i, c) :: l, hl, s, sl, h => by
    have hc : c = loudIn l0 i := hl (i, c) (by simp)
    rw [runL] at h
    split at h
    · rename_i o ho
      rw [oneOp_eq] at h
      obtain ⟨s1, h1, h2⟩ := Option.bind_eq_some_iff.1 h
      rw [List.map_cons]
      unfold runG
      refine Option.bind_eq_some_iff.2 ⟨s1, ?_, runL_G s l (fun p hp => hl p (List.mem_cons_of_mem _ hp)) s1 sl h2⟩
      unfold stepG
      rw [ho]
      simp only [← hc]
      exact h1
    · cases h
theorem runFam_inv {s d : St} {all : List Oper} : ∀ (F : List (List (Nat × Bool))), runFam X E L all n0 s F = some d → ∀ l ∈ F, ∃ sl, runL X E L all n0 l s = some sl ∧ dropS sl = d
  | [], _, l, hl => by cases hl
  | [m], h, l, hl => by
    rw [runFam] at h
    obtain ⟨s1, h1, h2⟩ := Option.bind_eq_some_iff.1 h
    obtain rfl : l = m := by simpa using hl
    exact ⟨s1, h1, Option.some.inj h2⟩
  | m :: k :: ls, h, l, hl => by
    rw [runFam] at h
    obtain ⟨s1, h1, h2⟩ := Option.bind_eq_some_iff.1 h
    obtain ⟨d1, h3, h4⟩ := Option.bind_eq_some_iff.1 h2
    split at h4
    · rename_i he
      cases h4
      rcases List.mem_cons.1 hl with rfl | hl
      · exact ⟨s1, h1, he⟩
      · exact runFam_inv (k :: ls) h3 l hl
    · cases h4

include hX in
theorem sound_fam (hE : SoundCall P X E) (hR : SoundRound P X E) (hF : FrE E) : SoundFam P X E := by
  intro f id ops rd s d C base w0 w a N F Fa hfam hrun hat hok hdr n
  have hd := textOk_of hdr
  refine wpIn_region_any hX.mixed ?_
  have hun : unlisted ops.size (Array.replicate ops.size false) = List.range ops.size := by
    unfold unlisted
    rw [List.filter_eq_self.2]
    intro i hi
    have := List.mem_range.1 hi
    rw [Array.getD_eq_getD_getElem?]
    simp [this]
  have hbel : Below w.heap.size w { w with drawn := w.drawn + 1 } := (Below.refl _ w).drew
  have hdown0 : Down ops (Array.replicate ops.size false) := by
    intro i o ho hl
    rw [Array.getD_eq_getD_getElem?, Array.getElem?_replicate] at hl
    split at hl <;> simp at hl
  have hat1 : At X C base w0 rd F (X.keep f) N ⟨s.fr, ⟨s.h.b ++ List.replicate ops.size .none, s.h.t ++ List.replicate ops.size false⟩, s.ms⟩ a { w with drawn := w.drawn + 1 } :=
    hat.heap ((hat.rel.world hbel).reserve ops.size ops.size)
  have hnot : ∀ i, C.ok (s.h.b.length + i) = false := fun i => by
    cases hh : C.ok (s.h.b.length + i) with
    | false => rfl
    | true => have := hat.rel.ok _ hh; omega
  have hnot2 : ∀ i, C.tk (s.h.t.length + i) = false := fun i => by
    cases hh : C.tk (s.h.t.length + i) with
    | false => rfl
    | true => have := hat.rel.tk _ hh; omega
  cases Fa with
  | nil => simp [okFam] at hfam
  | cons l0 ls =>
    simp only [okFam, Bool.and_eq_true] at hfam
    obtain ⟨hall, hcov⟩ := hfam
    have hsz : ops.toList.length = ops.size := by simp
    rw [hsz] at hall hcov
    have hinv := runFam_inv _ hrun
    refine sound_anyF (n0 := (s.h.b.length, s.h.t.length)) (C0 := C) (d := d) (l0 := l0) hX hE hR hF hd hok (fun f hf => hat.rel.fle f hf) ops.size (Array.replicate ops.size false) C _ a _ ((l0 :: ls).map fun l => l.map (·.1)) (by simp) ?_ hdown0 hat1 ?_ ?_ (Ctx.le.refl base C) (Stab.refl _ _) (by simp) (by simp) (fun i _ => ⟨hnot _, hnot2 i⟩) ?_
    · rw [hun]; simp
    · intro l' hl'
      obtain ⟨l, hl, rfl⟩ := List.mem_map.1 hl'
      have h1 := List.all_eq_true.1 hall l hl
      simp only [Bool.and_eq_true] at h1
      obtain ⟨⟨h2, h3⟩, h4⟩ := h1
      obtain ⟨sl, k1, k2⟩ := hinv l hl
      have hr := runL_G (l0 := l0) s l (fun p hp => by have := List.all_eq_true.1 h4 p hp; simpa using this) _ _ k1
      rw [hun]
      exact ⟨List.isPerm_iff.1 h2, h3, sl, sl, hr, Eqv.refl (runG_fi _ _ _ hat1.fi hr), k2⟩
    · rw [hun, List.map_map]; exact hcov
    · intro C' a' w' t sl hle hst hat' heq hdr hb ht
      subst hdr
      refine ⟨rfl, C', hle, hst, ⟨by show s.h.b.length ≤ sl.h.b.length; rw [heq.h]; exact hb, by show s.h.t.length ≤ sl.h.t.length; rw [heq.h]; exact ht⟩, ?_⟩
      refine ⟨hat'.kp, by show Rel C' base sl.h w0 w'; rw [heq.h]; exact hat'.rel, ⟨hat'.rf.1, fun u => ?_⟩, heq.fi.drop, by have e : (dropS sl).ms = t.ms := heq.ms; rw [e]; exact hat'.ms, hat'.fence⟩
      have := getF_drop_eq heq.fi u
      show Rv C' (getF ⟨sl.fr.g, []⟩ u) _
      rw [this]
      split
      · rw [heq.fr u]; exact hat'.rf.2 u
      · exact .junk _
end
end Go.Proofs.Ytaohhjaogjcfoaa
end
section
namespace Go.Proofs.Ytaohhjaogjcfoaa
open Go.RowKit

section
variable {P : Program} {X : Tab} (hX : Fits P X)

include hX in
theorem sound_eng : ∀ (n : Nat), SoundCode P X (eng X n) ∧ SoundLoop P X (eng X n) ∧ SoundCall P X (eng X n)
  | 0 => ⟨fun f rd c s e s' C base w0 w a N F ho => (by cases ho), fun f rd c s e s' C base w0 w a N F ho => (by cases ho), fun g args h v h' C base w0 w vs ho => (by cases ho)⟩
  | n + 1 => by
    obtain ⟨h1, h2, h3⟩ := sound_eng n
    have hR := sound_round h1
    have hD := sound_draw hX h3 hR
    have hM := sound_fam hX h3 hR (fra_eng X n)
    obtain ⟨g1, g2⟩ := sound_code hX h1 h3 hR h2 hD hM
    exact ⟨g1, g2, sound_call hX h1⟩

/-- Nothing has been laid; all cells of the world are known. -/
def Ctx.start (X : Tab) (W : World) : Ctx :=
  { ok := fun _ => false, tk := fun _ => false, mu := fun _ => 0, lv := fun _ => false, tau := fun _ => none, fr := fun _ => 0, top := fun _ => 0, K := fun b o => W.cell? ⟨b, o, none⟩, kp := X.keep, fl := fun _ => false }
theorem Rel.start (X : Tab) (W : World) : Rel (Ctx.start X W) W.heap.size noHeap W W where
  ok := fun i hi => by cases hi
  tk := fun i hi => by cases hi
  lv := fun i hi => by cases hi
  lt := fun i hi => by simp [noHeap] at hi
  below := Below.refl _ _
  size := Nat.le_refl _
  box := fun i x hx => by simp [noHeap] at hx
  has := fun i x hx => by simp [noHeap] at hx
  und := fun i x hx => by simp [noHeap] at hx
  inj := fun i j x y hx => by simp [noHeap] at hx
  known := fun b o v hv => hv
  tag := fun k blk hk => by cases hk
  taginj := fun j k blk hk => by cases hk
  fle := fun f hf => by cases hf

include hX in
/-- A call, by the abstract interpreter's word. -/
theorem calls_of_eng {n g : Nat} {args : List AV} {v : AV} {h' : Heap} {W : World} {vs : List Value} (ho : (eng X n).call g args noHeap = some (v, h')) (hv : RvL (Ctx.start X W) args vs) :
    Calls P g vs.toArray W fun e W' => ∃ u C', e = .returned u ∧ Rv C' v u ∧ Below W.heap.size W W' := by
  obtain ⟨_, _, h3⟩ := sound_eng hX n
  obtain ⟨_, hc⟩ := h3 g args noHeap v h' (Ctx.start X W) W.heap.size W W vs ho rfl (Rel.start X W) hv
  refine callsIn_wide.1 ((hc 0).mono ?_)
  rintro e w' ⟨u, C', rfl, hrv, _, hr, _, _⟩
  exact ⟨u, C', rfl, hrv, hr.below⟩

include hX in
/-- A call that answers a bool. -/
theorem calls_bool {n g : Nat} {args : List AV} {b : Bool} {h' : Heap} {W : World} {vs : List Value} (ho : (eng X n).call g args noHeap = some (.bool b, h')) (hv : RvL (Ctx.start X W) args vs) :
    Calls P g vs.toArray W fun e W' => e = .returned (.bool b) ∧ Below W.heap.size W W' := by
  have := calls_of_eng hX ho hv
  intro cs
  obtain ⟨e, w', fr, ⟨u, C', rfl, hrv, hb⟩, hrest⟩ := this cs
  have hu := hrv.bool_inv
  subst hu
  exact ⟨.returned (.bool b), w', fr, ⟨rfl, hb⟩, hrest⟩
end
end Go.Proofs.Ytaohhjaogjcfoaa
end
section
namespace Go.Proofs.Ytaohhjaogjcfoaa
def keepTab (n : Nat) : List Nat :=
  bif Nat.blt n 54 then (bif Nat.blt n 28 then (bif Nat.blt n 15 then (bif Nat.blt n 8 then (bif Nat.blt n 5 then (bif Nat.blt n 3 then ([]) else (bif Nat.blt n 4 then ([0, 1, 2, 4, 5, 6, 7, 8, 9, 10, 11, 12, 13, 14, 39, 65]) else ([0, 1, 2, 3, 4, 5, 6, 7, 8, 38]))) else (bif Nat.blt n 6 then ([0, 1, 2, 4, 5, 6, 7, 8, 9, 10, 30]) else (bif Nat.blt n 7 then ([0, 1, 2, 3, 4, 5, 6, 7, 8, 9, 10]) else ([0, 1, 2, 3, 4, 5, 6, 7, 8, 9, 10, 11, 12, 13, 14, 15, 16, 17, 18, 19, 20, 21])))) else (bif Nat.blt n 11 then (bif Nat.blt n 9 then ([0, 1, 2, 4, 7, 8, 9, 11, 12, 13, 15, 16, 17, 18, 19, 20, 21, 22, 23, 24, 25, 28, 47, 83, 87, 106, 111, 126, 128, 134, 139, 158]) else (bif Nat.blt n 10 then ([0, 1, 2, 4, 5, 6, 7, 8, 11, 14, 22, 37, 45, 59]) else ([0, 1, 2, 3, 4, 5, 7, 8, 10, 11, 12, 13, 14, 15, 16, 17, 18, 19, 20, 37, 84, 86, 95, 121]))) else (bif Nat.blt n 13 then (bif Nat.blt n 12 then ([0, 1, 2, 3, 4, 6, 9, 10, 11, 12, 13, 14, 15, 16, 17, 18, 19, 20, 21, 22, 23, 24, 27, 68, 70, 75, 92, 120, 125, 129, 146, 149, 165]) else ([0, 1, 2, 3, 4, 5, 6, 8, 9, 10, 11, 12, 13, 14, 15, 16, 17, 18, 19, 33, 121])) else (bif Nat.blt n 14 then ([0, 1, 2, 4, 6, 7, 8, 9, 10, 11, 12, 13, 14, 15, 24, 51, 62, 88]) else ([0, 1, 2, 3, 4, 5, 6, 7, 8, 9, 10, 11, 12, 13, 14, 15, 16, 17, 19, 20, 23, 46, 100, 108, 134, 142, 152, 162]))))) else (bif Nat.blt n 21 then (bif Nat.blt n 18 then (bif Nat.blt n 16 then ([0, 1, 2, 3, 4, 5, 6, 7, 8, 9, 10, 11, 12, 13, 14, 15, 16, 17, 19, 22, 24, 25, 26, 27, 28, 31, 40, 59, 149, 153]) else (bif Nat.blt n 17 then ([0, 1, 2, 3, 4, 5, 10, 23, 28, 33, 45, 50, 63]) else ([0, 1, 2, 3, 4, 5, 6, 7, 8, 9, 10, 11, 15, 21, 26, 36, 42, 46, 51, 72, 80, 86, 91, 115, 126]))) else (bif Nat.blt n 19 then ([0, 1, 2, 3, 4, 5, 6, 7, 14, 17, 18, 25]) else (bif Nat.blt n 20 then ([0, 1, 2, 3, 4, 7, 8, 22]) else ([0, 1, 4])))) else (bif Nat.blt n 24 then (bif Nat.blt n 22 then ([0, 1, 2, 3, 4, 5, 6, 7, 19]) else (bif Nat.blt n 23 then ([0, 1, 2, 4, 5, 6, 7, 8, 9, 21, 40]) else ([0, 1, 2, 3, 4, 5, 6, 7, 8, 9, 10, 11, 12, 13, 14, 15, 16, 17, 18, 19, 20, 21, 22, 23, 25, 27]))) else (bif Nat.blt n 26 then (bif Nat.blt n 25 then ([0, 1, 2, 3, 4, 5, 6, 7, 8, 9, 10, 11, 19]) else ([0, 1, 2, 3, 4, 8, 9, 10, 11, 19, 34])) else (bif Nat.blt n 27 then ([0, 1, 2, 3, 4, 5, 6, 7, 20]) else ([0, 1, 2, 4, 5, 6, 7, 8, 9, 10, 23, 38])))))) else (bif Nat.blt n 41 then (bif Nat.blt n 34 then (bif Nat.blt n 31 then (bif Nat.blt n 29 then ([0, 1, 2, 4, 5, 8, 9, 10, 11, 12, 13, 14, 22, 30, 38, 47, 50, 51, 60, 63, 64, 67]) else (bif Nat.blt n 30 then ([0, 1, 2, 4, 5, 6, 7, 8, 9, 26, 28, 36, 40, 53]) else ([0, 1, 2, 3, 4, 5, 6, 14, 19, 20, 21, 48, 52, 56]))) else (bif Nat.blt n 32 then ([0, 1, 2, 3, 6, 7, 8, 9, 17, 23, 34, 44]) else (bif Nat.blt n 33 then ([0, 1, 2, 3, 4, 5, 6, 7, 8, 9, 10, 11, 12, 20, 26, 27, 31, 32, 33, 42]) else ([0, 1, 2, 3, 6, 7, 8, 9, 10, 11, 12, 26, 29, 36, 47])))) else (bif Nat.blt n 37 then (bif Nat.blt n 35 then ([0, 2]) else (bif Nat.blt n 36 then ([0, 1, 4]) else ([0, 1, 2, 5]))) else (bif Nat.blt n 39 then (bif Nat.blt n 38 then ([0, 1, 2, 4, 5, 6, 7, 8, 9, 14, 33, 43]) else ([0, 1, 3, 4])) else (bif Nat.blt n 40 then ([0, 1, 2, 3, 6, 7, 8, 9, 14, 25]) else ([0, 1, 2, 4, 5, 6, 11, 17]))))) else (bif Nat.blt n 47 then (bif Nat.blt n 44 then (bif Nat.blt n 42 then ([0, 1, 4, 5, 6, 10, 26]) else (bif Nat.blt n 43 then ([0, 1, 4, 9]) else ([0, 1, 2, 3, 4]))) else (bif Nat.blt n 45 then ([0, 1, 2]) else (bif Nat.blt n 46 then ([0, 1, 2, 4, 5, 6, 7, 8, 9, 15, 22, 44]) else ([0, 1, 2, 6])))) else (bif Nat.blt n 50 then (bif Nat.blt n 48 then ([0, 1, 2, 3, 6, 7, 17, 24]) else (bif Nat.blt n 49 then ([0, 1, 2, 3, 6]) else ([0, 1, 2, 3, 4, 6]))) else (bif Nat.blt n 52 then (bif Nat.blt n 51 then ([0, 1, 4, 5, 6, 7, 8, 9, 10, 11, 12, 21]) else ([1, 3, 4, 5, 12])) else (bif Nat.blt n 53 then ([0, 1, 4, 5, 6, 7, 8, 9, 10, 11, 12, 21]) else ([0, 1, 2, 4, 5, 6, 11, 18]))))))) else (bif Nat.blt n 80 then (bif Nat.blt n 67 then (bif Nat.blt n 60 then (bif Nat.blt n 57 then (bif Nat.blt n 55 then ([0, 2, 3, 4, 5, 7, 8, 9, 35]) else (bif Nat.blt n 56 then ([0, 1, 4]) else ([0, 1, 2, 3]))) else (bif Nat.blt n 58 then ([0, 1, 4, 5, 6, 7, 8, 9, 10, 11, 12, 21]) else (bif Nat.blt n 59 then ([1, 2, 4, 5, 6, 24]) else ([0, 1, 2, 3, 6, 20, 25])))) else (bif Nat.blt n 63 then (bif Nat.blt n 61 then ([0, 1, 4, 5, 9, 12]) else (bif Nat.blt n 62 then ([0, 1, 2, 12]) else ([0, 1, 2, 3, 6, 7, 10, 11, 12, 20, 25, 32]))) else (bif Nat.blt n 65 then (bif Nat.blt n 64 then ([0]) else ([0, 1, 2])) else (bif Nat.blt n 66 then ([0, 1, 2, 4, 5, 6, 8, 14]) else ([0, 1, 4, 5, 26, 32]))))) else (bif Nat.blt n 73 then (bif Nat.blt n 70 then (bif Nat.blt n 68 then ([0, 1, 2]) else (bif Nat.blt n 69 then ([0, 1, 3, 4, 5, 6, 7, 8, 10, 11, 15, 30]) else ([0, 1, 2, 3]))) else (bif Nat.blt n 71 then ([0, 1, 2, 3, 6, 9, 24]) else (bif Nat.blt n 72 then ([0, 1, 2, 4]) else ([0, 1, 2, 3, 4, 5, 22])))) else (bif Nat.blt n 76 then (bif Nat.blt n 74 then ([0, 1, 2, 3, 4, 5, 6]) else (bif Nat.blt n 75 then ([0, 1, 3, 4, 5, 6, 7, 8, 22, 32]) else ([0, 1, 2, 6, 14]))) else (bif Nat.blt n 78 then (bif Nat.blt n 77 then ([0, 1, 2, 3, 4, 5, 10, 11, 12, 13, 33]) else ([0, 1, 2, 3, 4, 5, 7, 9, 10, 11, 12, 18])) else (bif Nat.blt n 79 then ([0, 1, 2, 4, 5, 6]) else ([0, 1, 2, 3, 4, 6])))))) else (bif Nat.blt n 93 then (bif Nat.blt n 86 then (bif Nat.blt n 83 then (bif Nat.blt n 81 then ([0, 1, 4, 5, 6, 9]) else (bif Nat.blt n 82 then ([0, 1, 4, 5, 6, 7, 8, 14]) else ([0, 1, 4, 5, 6, 7, 8, 9, 10, 11, 12, 19, 28, 35]))) else (bif Nat.blt n 84 then ([0, 1, 2, 4, 5]) else (bif Nat.blt n 85 then ([0, 2, 4]) else ([0, 1, 4, 5, 6, 7, 8, 9, 10, 14, 20, 24, 37])))) else (bif Nat.blt n 89 then (bif Nat.blt n 87 then ([0, 1, 2, 3, 4, 17]) else (bif Nat.blt n 88 then ([0, 1, 2, 3]) else ([0, 1, 2, 3, 4, 5, 6, 7, 12, 18, 34, 57]))) else (bif Nat.blt n 91 then (bif Nat.blt n 90 then ([0, 1, 4, 5, 6, 10]) else ([0, 1, 4])) else (bif Nat.blt n 92 then ([0, 1, 2, 4]) else ([0, 1, 2, 3, 4, 6]))))) else (bif Nat.blt n 99 then (bif Nat.blt n 96 then (bif Nat.blt n 94 then ([0, 1, 4, 5, 7, 8, 9, 16]) else (bif Nat.blt n 95 then ([0, 1, 4, 5, 17, 23]) else ([0, 2, 3, 4, 5, 12]))) else (bif Nat.blt n 97 then ([0, 1, 2, 3, 4, 5]) else (bif Nat.blt n 98 then ([0, 1, 2, 3, 4, 5, 7, 8, 9, 10, 11, 18, 31, 64, 74, 75, 76, 77, 99, 106, 112]) else ([0, 1, 2, 7, 21])))) else (bif Nat.blt n 102 then (bif Nat.blt n 100 then ([0, 1, 4, 5, 6, 11, 12, 13, 16, 19]) else (bif Nat.blt n 101 then ([0, 2]) else ([0, 2]))) else (bif Nat.blt n 104 then (bif Nat.blt n 103 then ([0, 2]) else ([0, 1, 4, 5, 7, 8, 9, 16])) else (bif Nat.blt n 105 then ([0, 1, 2, 4]) else ([0, 2])))))))
def hushTab (f r : Nat) : Bool := (Nat.beq f 7 && Nat.beq r 10) || (Nat.beq f 8 && Nat.beq r 16) || (Nat.beq f 8 && Nat.beq r 31) || (Nat.beq f 11 && Nat.beq r 6) || (Nat.beq f 11 && Nat.beq r 18) || (Nat.beq f 12 && Nat.beq r 1) || (Nat.beq f 13 && Nat.beq r 13) || (Nat.beq f 13 && Nat.beq r 15) || (Nat.beq f 14 && Nat.beq r 28) || (Nat.beq f 22 && Nat.beq r 1) || (Nat.beq f 23 && Nat.beq r 13) || (Nat.beq f 25 && Nat.beq r 4) || (Nat.beq f 27 && Nat.beq r 1) || (Nat.beq f 27 && Nat.beq r 4) || (Nat.beq f 29 && Nat.beq r 13) || (Nat.beq f 31 && Nat.beq r 11) || (Nat.beq f 33 && Nat.beq r 1) || (Nat.beq f 39 && Nat.beq r 7) || (Nat.beq f 45 && Nat.beq r 10) || (Nat.beq f 66 && Nat.beq r 2) || (Nat.beq f 66 && Nat.beq r 6) || (Nat.beq f 74 && Nat.beq r 4) || (Nat.beq f 74 && Nat.beq r 7) || (Nat.beq f 76 && Nat.beq r 1) || (Nat.beq f 79 && Nat.beq r 1) || (Nat.beq f 88 && Nat.beq r 12) || (Nat.beq f 98 && Nat.beq r 4)
def soloTab (f r : Nat) : List (List (Nat × Bool)) :=
  bif (Nat.beq f 14 && Nat.beq r 3) then [[(0, false), (1, false), (2, false), (3, false), (4, false), (5, false)],
    [(0, false), (2, false), (3, false), (4, false), (1, false), (5, false)]] else (bif (Nat.beq f 21 && Nat.beq r 1) then [[(0, false), (1, false), (2, false), (3, false), (4, false), (5, true), (6, true), (7, false), (8, false), (9, false), (10, false), (11, false)],
    [(1, false), (2, false), (3, false), (4, false), (5, true), (0, false), (6, true), (7, false), (8, false), (9, false), (10, false), (11, false)]] else (bif (Nat.beq f 22 && Nat.beq r 4) then [[(0, false), (1, false), (2, false), (3, false), (4, false), (5, false), (6, false), (7, false), (8, false), (9, false), (10, false), (11, false), (12, false), (13, false), (14, false)]] else (bif (Nat.beq f 26 && Nat.beq r 1) then [[(0, false), (1, false), (2, false), (3, false), (4, false), (5, false), (6, true), (7, true), (8, false), (9, false), (10, false), (11, false), (12, false), (13, false)],
    [(1, false), (2, false), (3, false), (4, false), (5, false), (6, true), (0, false), (7, true), (8, false), (9, false), (10, false), (11, false), (12, false), (13, false)]] else (bif (Nat.beq f 28 && Nat.beq r 9) then [[(0, false), (1, false), (2, false), (3, true), (4, false), (5, false), (6, false), (7, false), (8, false), (9, false)]] else (bif (Nat.beq f 28 && Nat.beq r 16) then [[(0, false), (1, false), (2, false), (3, true), (4, false), (5, false), (6, false)],
    [(0, false), (1, false), (2, false), (4, false), (5, false), (3, true), (6, false)]] else (bif (Nat.beq f 32 && Nat.beq r 11) then [[(0, false), (1, false), (2, false), (3, false), (4, false), (5, true), (6, false), (7, false)],
    [(0, false), (1, false), (2, false), (3, false), (4, false), (6, false), (5, true), (7, false)]] else (bif (Nat.beq f 74 && Nat.beq r 1) then [[(0, false), (1, false), (2, false), (3, false), (4, false), (5, false), (6, false), (7, false), (8, false), (9, false), (10, false)]] else (bif (Nat.beq f 97 && Nat.beq r 14) then [[(0, false), (1, false), (2, false), (3, true), (4, false), (5, false), (6, false)],
    [(0, false), (1, false), (2, false), (4, false), (5, false), (3, true), (6, false)]] else ([])))))))))
end Go.Proofs.Ytaohhjaogjcfoaa
end
