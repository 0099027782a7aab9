/- Parts of the proof, joined: Regions whose order is drawn: whatever order is drawn, it comes to the same. Regions whose order is drawn: the abstract interpreter is sound. A call or a text that does its work leaves a free place of the small heap alone: whatever lies there, it answers the same. Regions whose order is drawn, run in each of some orders: the abstract interpreter is sound. The abstract interpreter is sound: the whole. The abstract interpreter in the limit: what it answers with enough rounds, as one engine that answers its own step. Equations by which the engine in the limit is followed step by step on values that are not known. Plain data as values of the abstract interpreter, and the calls of plain data. What comes in, read as data of the abstract interpreter: integers, strings, rows, structs. Equations of single operations, for following code on values that are not known. Loops by relations, the first error of several things, slices that grow, ranges over functions. A gift as plain data, and what letters can cost before it is put in order. Which slots of each function are read in another region than the one that wrote them (nothing rests on it: the others are forgotten), and which regions that draw their order lay nothing. Conditions: those of each law. -/
import Derived.Test.YthkpjbgadkkeeaaGreatQ2
import Derived.SizedLaws
import Derived.Deep.Slices
import Derived.OpenShut
import Derived.Carry
set_option linter.unusedSimpArgs false
set_option linter.unusedVariables false
namespace Go.Proofs.YthkpjbgadkkeeaaGreat
section
open Go.RowKit
section
variable {X : Tab} {L : List Nat} {E : Eng}
def Does (X : Tab) (E : Eng) (all : List Oper) (q : Bool) (p : Nat × Nat) (o : Oper) (fr : Frm) (h : Heap) (v : AV) (h' : Heap) : Prop :=
 (gval all o fr = some true ∧ opAt X E q p o.op fr h = some (v, h')) ∨ (gval all o fr = some false ∧ v = .und ∧ h' = h)
theorem does_of {all : List Oper} {q : Bool} {p : Nat × Nat} {o : Oper} {s s1 : St} (hi : FI L s.fr) (h : oneS X E L all q p o s = some s1) : ∃ v h', Does X E all q p o s.fr s.h v h' ∧ Behind L o.dst v s.fr h' s.ms s1 := by
 rcases stepE_of hi h with ⟨hg, v, h', ho, hb⟩ | ⟨hg, hb⟩
 ·exact ⟨v, h', .inl ⟨hg, ho⟩, hb⟩
 ·exact ⟨_, _, .inr ⟨hg, rfl, rfl⟩, hb⟩
theorem oneS_does {all : List Oper} {q : Bool} {p : Nat × Nat} {o : Oper} {s : St} (hi : FI L s.fr) {v : AV} {h' : Heap} (h : Does X E all q p o s.fr s.h v h') : ∃ s1, oneS X E L all q p o s = some s1 ∧ Behind L o.dst v s.fr h' s.ms s1 := by
 rcases h with ⟨hg, ho⟩ | ⟨hg, rfl, rfl⟩
 ·exact oneS_true hi hg ho
 ·exact oneS_false hi hg
theorem looks_guard {ops : Array Oper} {o : Oper} {g : Nat × Bool} {t : Tmp} {want : Bool} (hg : o.guard = some g) (hgo : guardOf ops.toList g = some (t, want)) : t ∈ o.looksAt ops := by
 unfold guardOf at hgo
 cases ho : ops.toList[g.1]? with
 | none => rw [ho] at hgo; cases hgo
 | some oo =>
  rw [ho] at hgo
  simp only at hgo
  cases hd : oo.dst with
  | none => rw [hd] at hgo; cases hgo
  | some tt =>
   rw [hd] at hgo; cases hgo
   have ho' : ops[g.1]? = some oo := by simpa using ho
   refine List.mem_append_right _ ?_
   rw [hg]
   simp [ho', hd]
theorem gval_congr {ops : Array Oper} {o : Oper} {fr fr' : Frm} (he : ∀ t ∈ o.looksAt ops, getF fr t = getF fr' t) : gval ops.toList o fr = gval ops.toList o fr' := by
 unfold gval
 cases hg : o.guard with
 | none => rfl
 | some g =>
  simp only
  cases hgo : guardOf ops.toList g with
  | none => rfl
  | some tw =>
   obtain ⟨t, want⟩ := tw
   simp only [he t (looks_guard hg hgo)]
theorem does_congr {ops : Array Oper} {q : Bool} {p : Nat × Nat} {o : Oper} {fr fr' : Frm} (he : ∀ t ∈ o.looksAt ops, getF fr t = getF fr' t) {h h' : Heap} {v : AV} (hd : Does X E ops.toList q p o fr h v h') : Does X E ops.toList q p o fr' h v h' := by
 have hop : opAt X E q p o.op fr h = opAt X E q p o.op fr' h := opAt_congr fun x hx => by
  cases x with
  | tmp t => exact he t (List.mem_append_left _ (List.mem_filterMap.2 ⟨.tmp t, by simpa using hx, rfl⟩))
  | const v => rfl
  | func f => rfl
  | global g => rfl
 unfold Does at hd ⊢
 rw [← gval_congr he, ← hop]; exact hd
theorem swap_does {all : List Oper} {x y : Oper} {qx qy : Bool} {px py : Nat × Nat} {fr : Frm} {h h1 h2 : Heap} {u v : AV} (hs : Swaps x.op y.op qx qy fr fr)
  (hx : Does X E all qx px x fr h u h1) (hy : Does X E all qy py y fr h1 v h2) : ∃ h3, Does X E all qy py y fr h v h3 ∧ Does X E all qx px x fr h3 u h2 := by
 rcases hx with ⟨gx, hx⟩ | ⟨gx, rfl, rfl⟩
 ·rcases hy with ⟨gy, hy⟩ | ⟨gy, rfl, rfl⟩
  ·obtain ⟨h3, a, b⟩ := swap_opAt hs hx hy
   exact ⟨h3, .inl ⟨gy, a⟩, .inl ⟨gx, b⟩⟩
  ·exact ⟨h, .inr ⟨gy, rfl, rfl⟩, .inl ⟨gx, hx⟩⟩
 ·exact ⟨h2, hy, .inr ⟨gx, rfl, rfl⟩⟩
structure Eqv (L : List Nat) (s s' : St) : Prop where
 fr : ∀ t, getF s.fr t = getF s'.fr t
 h : s.h = s'.h
 ms : s.ms = s'.ms
 fi : FI L s.fr
 fi' : FI L s'.fr
theorem Eqv.refl {s : St} (hi : FI L s.fr) : Eqv L s s := ⟨fun _ => rfl, rfl, rfl, hi, hi⟩
theorem Eqv.trans {a b c : St} (h : Eqv L a b) (k : Eqv L b c) : Eqv L a c := ⟨fun t => (h.fr t).trans (k.fr t), h.h.trans k.h, h.ms.trans k.ms, h.fi, k.fi'⟩
theorem Behind.eqv {d : Option Tmp} {v : AV} {fr fr' : Frm} {h' : Heap} {ms : List Nat} {s1 s2 : St} (h1 : Behind L d v fr h' ms s1) (h2 : Behind L d v fr' h' ms s2) (he : ∀ t, getF fr t = getF fr' t) : Eqv L s1 s2 :=
 ⟨fun t => by rw [h1.fr, h2.fr, he], h1.h.trans h2.h.symm, h1.ms.trans h2.ms.symm, h1.fi, h2.fi⟩
noncomputable def stepI (X : Tab) (E : Eng) (L : List Nat) (ops : Array Oper) (n0 : Nat × Nat) (md : Bool) (i : Nat) (s : St) : Option St :=
 match ops.toList[i]? with
 | some o => oneS X E L ops.toList (md || !boundAll (Region.before ops).toList ops.toList i) (posAt n0 md i) o s
 | none => some s
noncomputable def runI (X : Tab) (E : Eng) (L : List Nat) (ops : Array Oper) (n0 : Nat × Nat) (md : Bool) : List Nat → St → Option St
 | [], s => some s
 | i :: is, s => (stepI X E L ops n0 md i s).bind (runI X E L ops n0 md is)
variable {ops : Array Oper} {n0 : Nat × Nat} {md : Bool}
theorem runDraw_eq : ∀ (os : List Oper) (k : Nat) (s : St), (∀ j, os[j]? = ops.toList[k + j]?) → runDraw X E L (Region.before ops).toList ops.toList n0 md os k s = runI X E L ops n0 md (List.range' k os.length) s
 | [], k, s, _ => rfl
 | o :: os, k, s, hk => by
  have e1 : runDraw X E L (Region.before ops).toList ops.toList n0 md (o :: os) k s = oneOp X E L ops.toList (md || !boundAll (Region.before ops).toList ops.toList k) (posAt n0 md k) o s (runDraw X E L (Region.before ops).toList ops.toList n0 md os (k + 1)) := rfl
  have ho : ops.toList[k]? = some o := by have := hk 0; simpa using this.symm
  rw [e1, oneOp_eq, List.length_cons, List.range'_succ, runI]
  have e2 : stepI X E L ops n0 md k s = oneS X E L ops.toList (md || !boundAll (Region.before ops).toList ops.toList k) (posAt n0 md k) o s := by simp only [stepI, ho]
  rw [e2]
  congr 1
  funext s1
  exact runDraw_eq os (k + 1) s1 fun j => by have := hk (j + 1); simp only [List.getElem?_cons_succ] at this; rw [this]; congr 1; omega
theorem stepI_fi {i : Nat} {s s1 : St} (hi : FI L s.fr) (h : stepI X E L ops n0 md i s = some s1) : FI L s1.fr := by
 unfold stepI at h
 split at h
 ·obtain ⟨v, h', _, hb⟩ := does_of hi h; exact hb.fi
 ·cases h; exact hi
theorem stepI_eqv {i : Nat} {s s' s1 : St} (he : Eqv L s s') (h : stepI X E L ops n0 md i s = some s1) : ∃ s1', stepI X E L ops n0 md i s' = some s1' ∧ Eqv L s1 s1' := by
 unfold stepI at h ⊢
 split at h
 ·rename_i o ho
  obtain ⟨v, h', hd, hb⟩ := does_of he.fi h
  have hd' := does_congr (fun t _ => he.fr t) hd
  rw [he.h] at hd'
  obtain ⟨s1', h1, h2⟩ := oneS_does he.fi' hd'
  rw [he.ms] at hb
  exact ⟨s1', h1, hb.eqv h2 he.fr⟩
 ·cases h; exact ⟨s', rfl, he⟩
theorem runI_eqv : ∀ (is : List Nat) (s s' sf : St), Eqv L s s' → runI X E L ops n0 md is s = some sf → ∃ sf', runI X E L ops n0 md is s' = some sf' ∧ Eqv L sf sf'
 | [], s, s', sf, he, h => by cases h; exact ⟨s', rfl, he⟩
 | i :: is, s, s', sf, he, h => by
  obtain ⟨s1, h1, h2⟩ := Option.bind_eq_some_iff.1 h
  obtain ⟨s1', h3, h4⟩ := stepI_eqv he h1
  obtain ⟨sf', h5, h6⟩ := runI_eqv is s1 s1' sf h4 h2
  exact ⟨sf', Option.bind_eq_some_iff.2 ⟨s1', h3, h5⟩, h6⟩
def Kept (ops : Array Oper) (fr0 fr : Frm) : Prop := ∀ t, unwritten ops.toList t = true → getF fr t = getF fr0 t
theorem stepI_kept {fr0 : Frm} {i : Nat} {s s1 : St} (hi : FI L s.fr) (hu : Kept ops fr0 s.fr) (h : stepI X E L ops n0 md i s = some s1) : Kept ops fr0 s1.fr := by
 unfold stepI at h
 split at h
 ·rename_i o ho
  obtain ⟨v, h', _, hb⟩ := does_of hi h
  intro t ht
  have hne : ¬ o.dst = some t := by
   have := List.all_eq_true.1 ht o (List.mem_of_getElem? ho)
   simpa using this
  rw [hb.fr, if_neg hne]; exact hu t ht
 ·cases h; exact hu
structure DrawOk (ops : Array Oper) (fr0 : Frm) : Prop where
 edge : ∀ (i : Nat) (o : Oper), ops[i]? = some o → ∀ e ∈ o.after, Region.binds .any e = true → e.on < i
 pair : ∀ (i j : Nat) (x y : Oper), i < j → ops[i]? = some x → ops[j]? = some y → earlier (Region.before ops).toList i j = false → pairOk ops.toList x.op y.op = true ∧ Oper.apart ops x y = true
 refs : ∀ (i j : Nat) (x y : Oper) (a b : Tmp), i < j → ops[i]? = some x → ops[j]? = some y → earlier (Region.before ops).toList i j = false → rwPair x.op y.op = some (a, b) → refsApart fr0 (a, b) = true
theorem mem_pairs {ops : List Oper} {i j : Nat} (hij : i < j) (hj : j < ops.length) : (i, j) ∈ pairsOf ops := by
 unfold pairsOf
 rw [List.mem_flatMap]
 exact ⟨j, by simpa using hj, by rw [List.mem_map]; exact ⟨i, by simpa using hij, rfl⟩⟩
theorem drawOk_spec {fr0 : Frm} (h : drawOk ops = true) (hc : (conflicts (Region.before ops).toList ops.toList).all (refsApart fr0) = true) : DrawOk ops fr0 := by
 unfold drawOk at h
 simp only [Bool.and_eq_true] at h
 obtain ⟨h1, h2⟩ := h
 refine ⟨fun i o ho e he hb => ?_, fun i j x y hij hx hy hn => ?_, fun i j x y a b hij hx hy hn hrw => ?_⟩
 ·have hm : (o, i) ∈ ops.toList.zipIdx := by
   rw [List.mem_iff_getElem?]
   exact ⟨i, by rw [List.getElem?_zipIdx]; simp [ho]⟩
  have := List.all_eq_true.1 h1 _ hm
  simp only at this
  have := List.all_eq_true.1 this e (by simpa using he)
  rw [hb] at this
  simpa using this
 ·have hj : j < ops.toList.length := by have := (Array.getElem?_eq_some_iff.1 hy).1; simpa using this
  have := List.all_eq_true.1 h2 _ (mem_pairs hij hj)
  simp only [hn, Bool.false_or] at this
  have hx' : ops.toList[i]? = some x := by simpa using hx
  have hy' : ops.toList[j]? = some y := by simpa using hy
  rw [hx', hy'] at this
  simpa using this
 ·have hj : j < ops.toList.length := by have := (Array.getElem?_eq_some_iff.1 hy).1; simpa using this
  refine List.all_eq_true.1 hc (a, b) ?_
  unfold conflicts
  rw [List.mem_filterMap]
  refine ⟨(i, j), mem_pairs hij hj, ?_⟩
  have hx' : ops.toList[i]? = some x := by simpa using hx
  have hy' : ops.toList[j]? = some y := by simpa using hy
  simp only [hn, Bool.false_eq_true, if_false, hx', hy', hrw]
theorem earlier_lt {fr0 : Frm} (hd : DrawOk ops fr0) : ∀ (i : Nat), i < ops.size → ∀ j, earlier (Region.before ops).toList j i = true → j < i := by
 intro i
 induction i using Nat.strongRecOn with
 | _ i ih =>
  intro hi j hj
  have ho : ops[i]? = some ops[i] := Array.getElem?_eq_getElem hi
  obtain ⟨e, he, hb, h3⟩ := earlier_spec ho hj
  have hlt := hd.edge i _ ho e he hb
  rcases h3 with rfl | h3
  ·exact hlt
  ·exact Nat.lt_trans (ih e.on hlt (by omega) j h3) hlt
theorem call_lone {fr0 : Frm} (hd : DrawOk ops fr0) {i j : Nat} {x y : Oper} (hne : i ≠ j) (hx : ops[i]? = some x) (hy : ops[j]? = some y) (h1 : earlier (Region.before ops).toList i j = false) (h2 : earlier (Region.before ops).toList j i = false)
  (hk : opKind x.op = .call) (hl : opKind y.op ≠ .pure) : lone1 (!boundAll (Region.before ops).toList ops.toList i) x.op = true := by
 unfold lone1
 rw [hk]
 simp only [Bool.not_eq_true']
 cases hb : boundAll (Region.before ops).toList ops.toList i with
 | false => rfl
 | true =>
  exfalso
  unfold boundAll at hb
  have hj : j < ops.toList.length := by have := (Array.getElem?_eq_some_iff.1 hy).1; simpa using this
  have := List.all_eq_true.1 hb j (by simpa using hj)
  have hy' : ops.toList[j]? = some y := by simpa using hy
  have hloud : loudAt ops.toList j = true := by
   unfold loudAt; rw [hy']
   show (opKind y.op).loud = true
   cases hky : opKind y.op <;> first | exact absurd hky hl | rfl
  rw [hloud, h1, h2] at this
  simp at this
  exact hne this.symm
theorem lone1_or {md q : Bool} {o : Op} (h : lone1 q o = true) : lone1 (md || q) o = true := by
 unfold lone1 at h ⊢
 split <;> simp_all
theorem swaps_of {fr0 fr : Frm} (hd : DrawOk ops fr0) (hu : Kept ops fr0 fr) {i j : Nat} {x y : Oper} (hij : i < j) (hx : ops[i]? = some x) (hy : ops[j]? = some y) (hn : earlier (Region.before ops).toList i j = false) :
  Swaps x.op y.op (md || !boundAll (Region.before ops).toList ops.toList i) (md || !boundAll (Region.before ops).toList ops.toList j) fr fr := by
 have hn2 : earlier (Region.before ops).toList j i = false := by
  cases hh : earlier (Region.before ops).toList j i with
  | false => rfl
  | true => have := earlier_lt hd i (Array.getElem?_eq_some_iff.1 hx).1 j hh; omega
 have hp := (hd.pair i j x y hij hx hy hn).1
 by_cases kx : opKind x.op = .pure
 ·left; unfold lone1; rw [kx]
 ·by_cases ky : opKind y.op = .pure
  ·right; left; unfold lone1; rw [ky]
  ·by_cases cx : opKind x.op = .call
   ·left; exact lone1_or (call_lone hd (by omega) hx hy hn hn2 cx ky)
   ·by_cases cy : opKind y.op = .call
    ·right; left; exact lone1_or (call_lone hd (by omega) hy hx hn2 hn cy kx)
    ·have rw : (∃ a b, rwPair x.op y.op = some (a, b) ∧ unwritten ops.toList a = true ∧ unwritten ops.toList b = true) →
      Swaps x.op y.op (md || !boundAll (Region.before ops).toList ops.toList i) (md || !boundAll (Region.before ops).toList ops.toList j) fr fr := by
      rintro ⟨a, b, hrw, ua, ub⟩
      have hr := hd.refs i j x y a b hij hx hy hn hrw
      unfold refsApart at hr
      simp only [← hu a ua, ← hu b ub] at hr
      split at hr
      ·rename_i i1 o1 i2 o2 e1 e2
       have hne : i1 ≠ i2 := by simpa using hr
       unfold rwPair at hrw
       split at hrw
       ·rename_i t a' t' b' z ex ey
        cases hrw
        exact .inr (.inr (.inr (.inr (.inr (.inl ⟨t, t', a, b, z, i1, o1, i2, o2, ex, ey, e1, e2, hne⟩)))))
       ·rename_i t' b' z t a' ex ey
        cases hrw
        exact .inr (.inr (.inr (.inr (.inr (.inr ⟨t, t', a, b, z, i1, o1, i2, o2, ey, ex, e1, e2, hne⟩)))))
       ·cases hrw
      ·cases hr
     have fin : (match rwPair x.op y.op with | some (a, b) => unwritten ops.toList a && unwritten ops.toList b | none => false) = true → ∃ a b, rwPair x.op y.op = some (a, b) ∧ unwritten ops.toList a = true ∧ unwritten ops.toList b = true := fun hp => by
      split at hp
      ·rename_i a b e
       simp only [Bool.and_eq_true] at hp
       exact ⟨a, b, e, hp.1, hp.2⟩
      ·cases hp
     unfold pairOk at hp
     cases hkx : opKind x.op <;> cases hky : opKind y.op <;> rw [hkx, hky] at hp <;> first | exact absurd hkx kx | exact absurd hky ky | exact absurd hkx cx | exact absurd hky cy | skip
     ·exact .inr (.inr (.inl ⟨hkx, hky⟩))
     ·exact .inr (.inr (.inr (.inl ⟨hkx, hky⟩)))
     ·exact rw (fin hp)
     ·exact .inr (.inr (.inr (.inr (.inl ⟨hkx, hky⟩))))
     all_goals exact rw (fin hp)
end
end
section
open Go.RowKit
section
variable {X : Tab} {L : List Nat} {E : Eng} {ops : Array Oper} {n0 : Nat × Nat} {md : Bool} {fr0 : Frm}
theorem swapI (hd : DrawOk ops fr0) {i j : Nat} (hij : i < j) (hn : earlier (Region.before ops).toList i j = false) {s s1 s2 : St} (hi : FI L s.fr) (hu : Kept ops fr0 s.fr)
  (h1 : stepI X E L ops n0 md i s = some s1) (h2 : stepI X E L ops n0 md j s1 = some s2) : ∃ s1' s2', stepI X E L ops n0 md j s = some s1' ∧ stepI X E L ops n0 md i s1' = some s2' ∧ Eqv L s2 s2' := by
 have hi1 := stepI_fi hi h1
 cases hx : ops.toList[i]? with
 | none =>
  simp only [stepI, hx, Option.some.injEq] at h1 ⊢
  subst h1
  exact ⟨s2, s2, h2, rfl, Eqv.refl (stepI_fi hi h2)⟩
 | some x =>
  cases hy : ops.toList[j]? with
  | none =>
   simp only [stepI, hy, Option.some.injEq] at h2 ⊢
   subst h2
   exact ⟨s, s1, rfl, h1, Eqv.refl hi1⟩
  | some y =>
   have hx' : ops[i]? = some x := by simpa using hx
   have hy' : ops[j]? = some y := by simpa using hy
   have hsw := swaps_of (md := md) hd hu hij hx' hy' hn
   have hap := (hd.pair i j x y hij hx' hy' hn).2
   obtain ⟨ap1, ap2, ap3⟩ := Oper.apart_spec hap
   simp only [stepI, hx, hy] at h1 h2 ⊢
   obtain ⟨u, g1, d1, b1⟩ := does_of hi h1
   obtain ⟨v, g2, d2, b2⟩ := does_of hi1 h2
   rw [b1.h] at d2
   have d2' := does_congr (fr' := s.fr) (fun t ht => by
    rw [b1.fr, if_neg]
    intro e; exact ap1 t e ht) d2
   obtain ⟨g3, d3, d4⟩ := swap_does hsw d1 d2'
   obtain ⟨s1', e1, c1⟩ := oneS_does hi d3
   have d4' := does_congr (fr' := s1'.fr) (fun t ht => by
    rw [c1.fr, if_neg]
    intro e; exact ap3 t e ht) d4
   rw [← c1.h] at d4'
   obtain ⟨s2', e2, c2⟩ := oneS_does c1.fi d4'
   refine ⟨s1', s2', e1, e2, ⟨fun t => ?_, b2.h.trans c2.h.symm, ?_, b2.fi, c2.fi⟩⟩
   ·rw [b2.fr, c2.fr, b1.fr, c1.fr]
    by_cases ht : x.dst = some t
    ·rw [if_neg (ap2 t ht), if_pos ht, if_pos ht]
    ·rw [if_neg ht, if_neg ht]
   ·rw [b2.ms, b1.ms, c2.ms, c1.ms]
theorem runI_fi : ∀ (is : List Nat) (s sf : St), FI L s.fr → runI X E L ops n0 md is s = some sf → FI L sf.fr
 | [], s, sf, hi, h => by cases h; exact hi
 | k :: is, s, sf, hi, h => by
  obtain ⟨s', g1, g2⟩ := Option.bind_eq_some_iff.1 h
  exact runI_fi is s' sf (stepI_fi hi g1) g2
theorem takeI (hd : DrawOk ops fr0) {i : Nat} : ∀ (R : List Nat) (s sf : St), R.Pairwise (· < ·) → i ∈ R → (∀ j ∈ R, j < i → earlier (Region.before ops).toList j i = false) → FI L s.fr → Kept ops fr0 s.fr → runI X E L ops n0 md R s = some sf →
  ∃ s1 sf', stepI X E L ops n0 md i s = some s1 ∧ runI X E L ops n0 md (R.erase i) s1 = some sf' ∧ Eqv L sf sf'
 | [], s, sf, _, hm, _, _, _, _ => by cases hm
 | r :: R, s, sf, hs, hm, hn, hi, hu, h => by
  obtain ⟨s1, h1, h2⟩ := Option.bind_eq_some_iff.1 h
  by_cases e : r = i
  ·subst e
   refine ⟨s1, sf, h1, ?_, Eqv.refl (runI_fi R s1 sf (stepI_fi hi h1) h2)⟩
   rw [List.erase_cons_head]; exact h2
  ·have hm' : i ∈ R := by
    rcases List.mem_cons.1 hm with h | h
    ·exact absurd h.symm e
    ·exact h
   obtain ⟨hlt, hs'⟩ := List.pairwise_cons.1 hs
   have hri := hlt i hm'
   obtain ⟨s2, sf', h3, h4, h5⟩ := takeI hd R s1 sf hs' hm' (fun j hj => hn j (List.mem_cons_of_mem _ hj)) (stepI_fi hi h1) (stepI_kept hi hu h1) h2
   obtain ⟨s1', s2', g1, g2, g3⟩ := swapI hd hri (hn r (by simp) hri) hi hu h1 h3
   obtain ⟨sf'', g4, g5⟩ := runI_eqv _ _ _ _ g3 h4
   refine ⟨s1', sf'', g1, ?_, h5.trans g5⟩
   rw [List.erase_cons_tail (by simpa using e)]
   exact Option.bind_eq_some_iff.2 ⟨s2', g2, g4⟩
theorem Rel.reserve {C : Ctx} {base : Nat} {h : Heap} {w0 w : World} (r : Rel C base h w0 w) (k m : Nat) : Rel C base ⟨h.b ++ List.replicate k .none, h.t ++ List.replicate m false⟩ w0 w := by
 have hget : ∀ (i : Nat) (x : ABlk), (h.b ++ List.replicate k .none)[i]? = some x → x ≠ .none → h.b[i]? = some x := fun i x hx hn => by
  rw [List.getElem?_append] at hx
  split at hx
  ·exact hx
  ·rw [List.getElem?_replicate] at hx
   split at hx
   ·cases hx; exact absurd rfl hn
   ·cases hx
 refine ⟨fun i hi => ?_, fun k hk => ?_, r.lv, fun k hk => ?_, r.below, r.size, fun i x hx => ?_, fun i x hx hn => r.has i x (hget i x hx hn) hn, fun i x hx => ?_, fun i j x y hx hy hn hn' => r.inj i j x y (hget i x hx hn) (hget j y hy hn') hn hn', r.known, fun k blk hl ht => ?_, r.taginj, fun f hf => by have := r.fle f hf; simp; omega, r.bs⟩
 ·have := r.ok i hi; simp; omega
 ·have := r.tk k hk; simp; omega
 ·simp only [List.getElem?_append] at hk
  split at hk
  ·exact r.lt k hk
  ·rw [List.getElem?_replicate] at hk
   split at hk <;> cases hk
 ·by_cases hn : x = .none
  ·exact RBlk.none_of hn
  ·exact r.box i x (hget i x hx hn)
 ·by_cases hn : x = .none
  ·subst hn; exact fun _ _ _ => trivial
  ·exact r.und i x (hget i x hx hn)
 ·obtain ⟨a, b, c, d⟩ := r.tag k blk hl ht
  exact ⟨a, b, c, fun i x hx hn => d i x (hget i x hx hn) hn⟩
def unlisted (n : Nat) (listed : Array Bool) : List Nat := (List.range n).filter fun i => !listed.getD i true
theorem unlisted_sorted (n : Nat) (listed : Array Bool) : (unlisted n listed).Pairwise (· < ·) := List.Pairwise.filter _ List.pairwise_lt_range
theorem unlisted_set {n : Nat} {listed : Array Bool} (hs : listed.size = n) (i : Nat) (hi : i < n) : unlisted n (listed.setIfInBounds i true) = (unlisted n listed).erase i := by
 have hnd : (unlisted n listed).Nodup := List.Pairwise.filter _ List.nodup_range
 rw [hnd.erase_eq_filter]
 unfold unlisted
 rw [List.filter_filter]
 apply List.filter_congr
 intro k hk
 by_cases e : k = i
 ·subst e
  have : (listed.setIfInBounds k true).getD k true = true := by
   rw [Array.getD_eq_getD_getElem?, Array.getElem?_setIfInBounds]
   simp [hs, hi]
  simp [this]
 ·have hne : i ≠ k := fun h => e h.symm
  rw [getD_set_ne _ hne]
  simp [e]
variable {P : Program} (hX : Fits P X) {base : Nat} {w0 : World} {rd : Option Nat} {F : Fence} {N : Nat}
include hX in
theorem sound_any (hE : SoundCall P X E) (hR : SoundRound P X E) (hd : DrawOk ops fr0) (hok : okOps N ops.toList = true) {n : Nat} {Q : Exit → Act → World → Prop} {sf : St} {C0 : Ctx} (h0 : ∀ f, C0.fl f = true → f ≤ n0.1) :
  ∀ (fuel : Nat) (listed : Array Bool) (C : Ctx) (s sg : St) (a : Act) (w : World), listed.size = ops.size → (unlisted ops.size listed).length ≤ fuel → Down ops listed → At X C base w0 rd F L N s a w → Kept ops fr0 s.fr →
   runI X E L ops n0 false (unlisted ops.size listed) s = some sg → Eqv L sf sg → C0.le base C → Stab n0 C0 C → n0.1 + ops.size ≤ s.h.b.length → n0.2 + ops.size ≤ s.h.t.length →
   (∀ i ∈ unlisted ops.size listed, C.ok (n0.1 + i) = false ∧ C.tk (n0.2 + i) = false) →
   (∀ C' a' w' s', C0.le base C' → Stab n0 C0 C' → At X C' base w0 rd F L N s' a' w' → Eqv L sf s' → n0.1 ≤ s'.h.b.length → n0.2 ≤ s'.h.t.length → Q .normal a' w') →
   wpAnyIn F n P .any ops Q fuel listed a w := by
 intro fuel
 induction fuel with
 | zero =>
  intro listed C s sg a w hs hf hdn hat hu hrun heq hle hst hb ht hfree hQ
  have hnil : unlisted ops.size listed = [] := List.eq_nil_of_length_eq_zero (by omega)
  rw [hnil] at hrun
  simp only [runI, Option.some.injEq] at hrun
  subst hrun
  have hr : Region.ready .any ops listed = [] := by
   cases hr : Region.ready .any ops listed with
   | nil => rfl
   | cons i is =>
    have hm : i ∈ Region.ready .any ops listed := by rw [hr]; simp
    obtain ⟨h1, o, ho, _⟩ := mem_ready.1 hm
    have : i ∈ unlisted ops.size listed := List.mem_filter.2 ⟨List.mem_range.2 (Array.getElem?_eq_some_iff.1 ho).1, by simp only [h1]; rfl⟩
    rw [hnil] at this; cases this
  exact ⟨hr, hQ C a w s hle hst hat heq (by omega) (by omega)⟩
 | succ fuel ih =>
  intro listed C s sg a w hs hf hdn hat hu hrun heq hle hst hb ht hfree hQ
  refine ⟨fun hr => ?_, fun i hi => ?_⟩
  ·cases hun : unlisted ops.size listed with
   | nil =>
    rw [hun] at hrun
    simp only [runI, Option.some.injEq] at hrun
    subst hrun
    exact hQ C a w s hle hst hat heq (by omega) (by omega)
   | cons r R =>
    exfalso
    have hsort := unlisted_sorted ops.size listed
    rw [hun] at hsort
    have hmin : ∀ j ∈ unlisted ops.size listed, r ≤ j := fun j hj => by
     rw [hun] at hj
     rcases List.mem_cons.1 hj with e | h
     ·omega
     ·exact Nat.le_of_lt ((List.pairwise_cons.1 hsort).1 j h)
    have hr0 : r ∈ unlisted ops.size listed := by rw [hun]; simp
    obtain ⟨hr1, hr2⟩ := List.mem_filter.1 hr0
    have hr1 := List.mem_range.1 hr1
    have ho : ops[r]? = some ops[r] := Array.getElem?_eq_getElem hr1
    have hready : r ∈ Region.ready .any ops listed := by
     refine mem_ready.2 ⟨by simpa using hr2, ops[r], ho, fun e he hbd => ?_⟩
     have hlt := hd.edge r _ ho e he hbd
     have hlt2 : e.on < listed.size := by omega
     cases hl : listed.getD e.on true with
     | true =>
      rw [Array.getD_eq_getD_getElem?, Array.getElem?_eq_getElem hlt2] at hl ⊢
      simpa using hl
     | false =>
      have := hmin e.on (List.mem_filter.2 ⟨List.mem_range.2 (by omega), by simp only [hl]; rfl⟩)
      omega
    rw [hr] at hready; cases hready
  ·obtain ⟨h1, o, ho, hedges⟩ := mem_ready.1 hi
   have hilt := (Array.getElem?_eq_some_iff.1 ho).1
   have him : i ∈ unlisted ops.size listed := List.mem_filter.2 ⟨List.mem_range.2 hilt, by simp only [h1]; rfl⟩
   have hdown := ready_down hdn hs hi
   obtain ⟨s1, sg', g1, g2, g3⟩ := takeI hd (unlisted ops.size listed) s sg (unlisted_sorted _ _) him (fun j hj _ => by
    cases hh : earlier (Region.before ops).toList j i with
    | false => rfl
    | true =>
     have hl := hdown j hh
     obtain ⟨hj1, hj2⟩ := List.mem_filter.1 hj
     have hj1 := List.mem_range.1 hj1
     rw [Array.getD_eq_getD_getElem?, Array.getElem?_eq_getElem (by omega)] at hl hj2
     simp at hl hj2
     rw [hl] at hj2; cases hj2) hat.fi hu hrun
   have ho' : ops.toList[i]? = some o := by simpa using ho
   have hstep := g1
   simp only [stepI, ho', Bool.false_or, posAt, Bool.false_eq_true, if_false] at g1
   obtain ⟨f1, f2⟩ := hfree i him
   refine sound_one hX hE hR hat (p := (n0.1 + i, n0.2 + i)) (fun f hf => by rw [hle.fl] at hf; have := h0 f hf; show f ≤ n0.1 + i; omega) ⟨f1, by show n0.1 + i ≤ _; omega⟩ ⟨f2, by show n0.2 + i ≤ _; omega⟩ ho (okOps_get hok i o ho) g1 fun C' a' w' hl hstay hlen hat' => ?_
   refine ih (listed.setIfInBounds i true) C' s1 sg' a' w' (by simp [hs]) ?_ (hdn.set hs hi) hat' (stepI_kept hat.fi hu hstep) (by rw [unlisted_set hs i hilt]; exact g2) (heq.trans g3) (hle.trans hl) ?_ (Nat.le_trans hb hlen.1) (Nat.le_trans ht hlen.2) ?_ hQ
   ·rw [unlisted_set hs i hilt, List.length_erase_of_mem him]; omega
   ·exact hst.trans ⟨fun k hk => hstay.ok k (by omega) (by show k ≠ n0.1 + i; omega), fun k hk => hstay.tk k (by omega) (by show k ≠ n0.2 + i; omega)⟩
   ·intro k hk
    rw [unlisted_set hs i hilt] at hk
    have hnd : (unlisted ops.size listed).Nodup := List.Pairwise.filter _ List.nodup_range
    have hkm := (hnd.mem_erase_iff.1 hk)
    obtain ⟨k1, k2⟩ := hfree k hkm.2
    have hklt := List.mem_range.1 (List.mem_filter.1 hkm.2).1
    have hne := hkm.1
    exact ⟨(hstay.ok (n0.1 + k) (by omega) (by show n0.1 + k ≠ n0.1 + i; omega)).trans k1, (hstay.tk (n0.2 + k) (by omega) (by show n0.2 + k ≠ n0.2 + i; omega)).trans k2⟩
theorem oneS_hush {all : List Oper} {p : Nat × Nat} {o : Oper} {s s1 : St} (hi : FI L s.fr) (hq : (match opKind o.op with | .pure | .read | .call => true | _ => false) = true) (h : oneS X E L all true p o s = some s1) : s1.h = s.h := by
 obtain ⟨fr0, b, hg, hrest⟩ := oneS_inv h
 rcases hrest with ⟨rfl, v, h', hop, rfl⟩ | ⟨rfl, rfl⟩
 ·show h' = s.h
  cases hk : opKind o.op with
  | pure => exact (alone_inv (q := true) (by unfold lone1; rw [hk]) hop).1
  | call => exact (alone_inv (q := true) (by unfold lone1; rw [hk]) hop).1
  | read => exact (read_opAt hk hop).1
  | app => rw [hk] at hq; cases hq
  | write => rw [hk] at hq; cases hq
 ·rfl
theorem stepI_hush (hh : hushed ops.toList = true) {i : Nat} {s s1 : St} (hi : FI L s.fr) (h : stepI X E L ops n0 true i s = some s1) : s1.h = s.h := by
 unfold stepI at h
 split at h
 ·rename_i o ho
  exact oneS_hush hi (List.all_eq_true.1 hh o (List.mem_of_getElem? ho)) h
 ·cases h; rfl
include hX in
theorem sound_any0 (hE : SoundCall P X E) (hR : SoundRound P X E) (hd : DrawOk ops fr0) (hok : okOps N ops.toList = true) (hh : hushed ops.toList = true) {n : Nat} {Q : Exit → Act → World → Prop} {sf : St} {C0 : Ctx} :
  ∀ (fuel : Nat) (listed : Array Bool) (C : Ctx) (s sg : St) (a : Act) (w : World), listed.size = ops.size → (unlisted ops.size listed).length ≤ fuel → Down ops listed → At X C base w0 rd F L N s a w → Kept ops fr0 s.fr →
   runI X E L ops n0 true (unlisted ops.size listed) s = some sg → Eqv L sf sg → C0.le base C → Stab n0 C0 C → n0 = (s.h.b.length, s.h.t.length) →
   (∀ C' a' w' s', C0.le base C' → Stab n0 C0 C' → At X C' base w0 rd F L N s' a' w' → Eqv L sf s' → n0 = (s'.h.b.length, s'.h.t.length) → Q .normal a' w') →
   wpAnyIn F n P .any ops Q fuel listed a w := by
 intro fuel
 induction fuel with
 | zero =>
  intro listed C s sg a w hs hf hdn hat hu hrun heq hle hst hn hQ
  have hnil : unlisted ops.size listed = [] := List.eq_nil_of_length_eq_zero (by omega)
  rw [hnil] at hrun
  simp only [runI, Option.some.injEq] at hrun
  subst hrun
  have hr : Region.ready .any ops listed = [] := by
   cases hr : Region.ready .any ops listed with
   | nil => rfl
   | cons i is =>
    have hm : i ∈ Region.ready .any ops listed := by rw [hr]; simp
    obtain ⟨h1, o, ho, _⟩ := mem_ready.1 hm
    have : i ∈ unlisted ops.size listed := List.mem_filter.2 ⟨List.mem_range.2 (Array.getElem?_eq_some_iff.1 ho).1, by simp only [h1]; rfl⟩
    rw [hnil] at this; cases this
  exact ⟨hr, hQ C a w s hle hst hat heq hn⟩
 | succ fuel ih =>
  intro listed C s sg a w hs hf hdn hat hu hrun heq hle hst hn hQ
  refine ⟨fun hr => ?_, fun i hi => ?_⟩
  ·cases hun : unlisted ops.size listed with
   | nil =>
    rw [hun] at hrun
    simp only [runI, Option.some.injEq] at hrun
    subst hrun
    exact hQ C a w s hle hst hat heq hn
   | cons r R =>
    exfalso
    have hsort := unlisted_sorted ops.size listed
    rw [hun] at hsort
    have hmin : ∀ j ∈ unlisted ops.size listed, r ≤ j := fun j hj => by
     rw [hun] at hj
     rcases List.mem_cons.1 hj with e | h
     ·omega
     ·exact Nat.le_of_lt ((List.pairwise_cons.1 hsort).1 j h)
    have hr0 : r ∈ unlisted ops.size listed := by rw [hun]; simp
    obtain ⟨hr1, hr2⟩ := List.mem_filter.1 hr0
    have hr1 := List.mem_range.1 hr1
    have ho : ops[r]? = some ops[r] := Array.getElem?_eq_getElem hr1
    have hready : r ∈ Region.ready .any ops listed := by
     refine mem_ready.2 ⟨by simpa using hr2, ops[r], ho, fun e he hbd => ?_⟩
     have hlt := hd.edge r _ ho e he hbd
     have hlt2 : e.on < listed.size := by omega
     cases hl : listed.getD e.on true with
     | true =>
      rw [Array.getD_eq_getD_getElem?, Array.getElem?_eq_getElem hlt2] at hl ⊢
      simpa using hl
     | false =>
      have := hmin e.on (List.mem_filter.2 ⟨List.mem_range.2 (by omega), by simp only [hl]; rfl⟩)
      omega
    rw [hr] at hready; cases hready
  ·obtain ⟨h1, o, ho, hedges⟩ := mem_ready.1 hi
   have hilt := (Array.getElem?_eq_some_iff.1 ho).1
   have him : i ∈ unlisted ops.size listed := List.mem_filter.2 ⟨List.mem_range.2 hilt, by simp only [h1]; rfl⟩
   have hdown := ready_down hdn hs hi
   obtain ⟨s1, sg', g1, g2, g3⟩ := takeI hd (unlisted ops.size listed) s sg (unlisted_sorted _ _) him (fun j hj _ => by
    cases hh : earlier (Region.before ops).toList j i with
    | false => rfl
    | true =>
     have hl := hdown j hh
     obtain ⟨hj1, hj2⟩ := List.mem_filter.1 hj
     have hj1 := List.mem_range.1 hj1
     rw [Array.getD_eq_getD_getElem?, Array.getElem?_eq_getElem (by omega)] at hl hj2
     simp at hl hj2
     rw [hl] at hj2; cases hj2) hat.fi hu hrun
   have ho' : ops.toList[i]? = some o := by simpa using ho
   have hstep := g1
   simp only [stepI, ho', Bool.true_or, posAt, if_true] at g1
   have hheap := stepI_hush hh hat.fi hstep
   have e1 : n0.1 = s.h.b.length := by rw [hn]
   have e2 : n0.2 = s.h.t.length := by rw [hn]
   have f1 : C.ok n0.1 = false := by
    cases hc : C.ok n0.1 with
    | false => rfl
    | true => have := hat.rel.ok _ hc; omega
   have f2 : C.tk n0.2 = false := by
    cases hc : C.tk n0.2 with
    | false => rfl
    | true => have := hat.rel.tk _ hc; omega
   refine sound_one hX hE hR hat (p := n0) (fun f hf => by have := hat.rel.fle f hf; rw [hn]; exact this) ⟨f1, by omega⟩ ⟨f2, by omega⟩ ho (okOps_get hok i o ho) g1 fun C' a' w' hl hstay hlen hat' => ?_
   refine ih (listed.setIfInBounds i true) C' s1 sg' a' w' (by simp [hs]) ?_ (hdn.set hs hi) hat' (stepI_kept hat.fi hu hstep) (by rw [unlisted_set hs i hilt]; exact g2) (heq.trans g3) (hle.trans hl) ?_ (by rw [hheap]; exact hn) hQ
   ·rw [unlisted_set hs i hilt, List.length_erase_of_mem him]; omega
   ·exact hst.trans ⟨fun k hk => hstay.ok k (by omega) (by omega), fun k hk => hstay.tk k (by omega) (by omega)⟩
include hX in
theorem sound_draw (hE : SoundCall P X E) (hR : SoundRound P X E) : SoundDraw P X E := by
 intro f id ops rd s s' C base w0 w a N F hcf hrun hat hok hdr n
 have hd := drawOk_spec (fr0 := s.fr) hdr hcf
 rw [runDraw_eq ops.toList 0 _ (fun j => by simp), runDraw_eq ops.toList 0 _ (fun j => by simp)] at hrun
 refine wpIn_region_any hX.mixed ?_
 have hun : unlisted ops.size (Array.replicate ops.size false) = List.range' 0 ops.toList.length := by
  unfold unlisted
  rw [List.filter_eq_self.2, List.range_eq_range']
  ·simp
  ·intro i hi
   have := List.mem_range.1 hi
   rw [Array.getD_eq_getD_getElem?]
   simp [this]
 have hbel : Below w.heap.size w { w with drawn := w.drawn + 1 } := (Below.refl _ w).drew
 have hdown0 : Down ops (Array.replicate ops.size false) := by
  intro i o ho hl
  rw [Array.getD_eq_getD_getElem?, Array.getElem?_replicate] at hl
  split at hl <;> simp at hl
 rcases hrun with hrun | ⟨hh, hrun⟩
 ·have hat1 : At X C base w0 rd F (X.keep f) N ⟨s.fr, ⟨s.h.b ++ List.replicate ops.size .none, s.h.t ++ List.replicate ops.size false⟩, s.ms⟩ a { w with drawn := w.drawn + 1 } :=
   hat.heap ((hat.rel.world hbel).reserve ops.size ops.size)
  have hfi' := runI_fi _ _ _ hat1.fi hrun
  rw [← hun] at hrun
  have hnot : ∀ i, C.ok (s.h.b.length + i) = false := fun i => by
   cases hh : C.ok (s.h.b.length + i) with
   | false => rfl
   | true => have := hat.rel.ok _ hh; omega
  have hnot2 : ∀ i, C.tk (s.h.t.length + i) = false := fun i => by
   cases hh : C.tk (s.h.t.length + i) with
   | false => rfl
   | true => have := hat.rel.tk _ hh; omega
  refine sound_any (n0 := (s.h.b.length, s.h.t.length)) (C0 := C) (sf := s') (fr0 := s.fr) hX hE hR hd hok (fun f hf => hat.rel.fle f hf) ops.size (Array.replicate ops.size false) C _ s' a _ (by simp) ?_ hdown0 hat1 (fun t _ => rfl) hrun (Eqv.refl hfi') (Ctx.le.refl base C) (Stab.refl _ _) (by simp) (by simp) (fun i _ => ⟨hnot i, hnot2 i⟩) ?_
  ·rw [hun]; simp
  ·intro C' a' w' t hle hst hat' heq hb ht
   refine ⟨rfl, C', hle, hst, ⟨by show s.h.b.length ≤ s'.h.b.length; rw [heq.h]; exact hb, by show s.h.t.length ≤ s'.h.t.length; rw [heq.h]; exact ht⟩, ?_⟩
   refine ⟨hat'.kp, by rw [heq.h]; exact hat'.rel, ⟨hat'.rf.1, fun u => ?_⟩, heq.fi.drop, by rw [heq.ms]; exact hat'.ms, hat'.fence, hat'.deep⟩
   have := getF_drop_eq heq.fi u
   show Rv C' (getF ⟨s'.fr.g, []⟩ u) _
   rw [this]
   split
   ·rw [heq.fr u]; exact hat'.rf.2 u
   ·exact .junk _
 ·have hat1 : At X C base w0 rd F (X.keep f) N s a { w with drawn := w.drawn + 1 } := hat.heap (hat.rel.world hbel)
  have hfi' := runI_fi _ _ _ hat1.fi hrun
  rw [← hun] at hrun
  refine sound_any0 (n0 := (s.h.b.length, s.h.t.length)) (C0 := C) (sf := s') (fr0 := s.fr) hX hE hR hd hok hh ops.size (Array.replicate ops.size false) C _ s' a _ (by simp) ?_ hdown0 hat1 (fun t _ => rfl) hrun (Eqv.refl hfi') (Ctx.le.refl base C) (Stab.refl _ _) rfl ?_
  ·rw [hun]; simp
  ·intro C' a' w' t hle hst hat' heq hn
   have e1 : s'.h.b.length = s.h.b.length := by rw [heq.h]; have := congrArg Prod.fst hn; exact this.symm
   have e2 : s'.h.t.length = s.h.t.length := by rw [heq.h]; have := congrArg Prod.snd hn; exact this.symm
   refine ⟨rfl, C', hle, hst, ⟨by show s.h.b.length ≤ s'.h.b.length; omega, by show s.h.t.length ≤ s'.h.t.length; omega⟩, ?_⟩
   refine ⟨hat'.kp, by rw [heq.h]; exact hat'.rel, ⟨hat'.rf.1, fun u => ?_⟩, heq.fi.drop, by rw [heq.ms]; exact hat'.ms, hat'.fence, hat'.deep⟩
   have := getF_drop_eq heq.fi u
   show Rv C' (getF ⟨s'.fr.g, []⟩ u) _
   rw [this]
   split
   ·rw [heq.fr u]; exact hat'.rf.2 u
   ·exact .junk _
end
end
section
open Go.RowKit
section
variable (X : Tab)
theorem callPure_eq (E : Eng) (f : Nat) (az : List AV) (h : Heap) : callPure E f az h = (E.call f az ⟨[], []⟩).bind fun r => (settle r.2 r.1).map fun u => (u, h) := by
 unfold callPure
 rw [forceL_eq]
 cases E.call f az ⟨[], []⟩ with
 | none => rfl
 | some r =>
  obtain ⟨v, q⟩ := r
  simp only [Option.bind_some]
  cases settle q v <;> simp [forceAV_eq]
noncomputable def roundK (E : Eng) (l f : Nat) (asg body : Code) (fr1 : Frm) (h : Heap) : Option (AV × Heap) :=
 (E.code f (some l) asg ⟨fr1, h, []⟩).bind fun r => match r with
  | (.normal, s1) => (turnBlk s1.h l beginBlk).bind fun h1 => (E.code f (some l) body ⟨s1.fr, h1, s1.ms⟩).bind fun q =>
   (turnBlk q.2.h l (endBlk q.1)).map fun h2 => (.bool (isNormal q.1), h2)
  | _ => none
theorem stepRound_eq {E : Eng} {l : Nat} {args : List AV} {h : Heap} {bu pe dn f fr ps asg body} (hb : h.b[l]? = some (.loop bu pe dn f fr ps asg body)) :
  stepRound X E l args h = (yieldFr (X.keep f) fr ps args).bind fun fr1 => roundK E l f asg body fr1 h := by
 unfold stepRound
 rw [hb]
 simp only
 cases yieldFr (X.keep f) fr ps args with
 | none => rfl
 | some fr1 =>
  simp only [Option.bind_some, roundK]
  cases E.code f (some l) asg ⟨fr1, h, []⟩ with
  | none => rfl
  | some r =>
   obtain ⟨e, s1⟩ := r
   cases e with
   | normal =>
    simp only [Option.bind_some]
    cases turnBlk s1.h l beginBlk with
    | none => rfl
    | some h1 =>
     simp only [Option.bind_some]
     cases E.code f (some l) body ⟨s1.fr, h1, s1.ms⟩ with
     | none => rfl
     | some q =>
      obtain ⟨e2, s2⟩ := q
      simp only [Option.bind_some]
      cases turnBlk s2.h l (endBlk e2) <;> rfl
   | exit i => rfl
   | ret => rfl
def afterRange (l : Nat) (fr : Frm) (ms : List Nat) (h2 : Heap) : Option (AExit × St) :=
 match h2.b[l]? with
 | some (.loop false p _ _ _ _ _ _) => some (p, ⟨fr, h2.put l .none, ms⟩)
 | _ => none
theorem enterRange_eq {E : Eng} {f gf : Nat} {fst cap : List AV} {ps : List Tmp} {asg body : Code} {fr : Frm} {h : Heap} {ms : List Nat} :
  enterRange E f (.clo gf fst cap) ps asg body fr h ms = (E.call gf (fst ++ [.yld h.b.length] ++ cap) ⟨h.b ++ [.loop false .normal false f fr ps asg body], h.t⟩).bind fun r => afterRange h.b.length fr ms r.2 := by
 unfold enterRange
 simp only
 cases E.call gf (fst ++ [.yld h.b.length] ++ cap) ⟨h.b ++ [.loop false .normal false f fr ps asg body], h.t⟩ with
 | none => rfl
 | some r => obtain ⟨v, h2⟩ := r; rfl
def thenN (r : Option (AExit × St)) (k : St → Option (AExit × St)) : Option (AExit × St) := r.bind fun r => match r with
 | (.normal, s) => k s
 | r => some r
def catchB (id : Nat) (r : Option (AExit × St)) : Option (AExit × St) := r.bind fun r => match r with
 | (.exit i, s) => if i = id then some (.normal, s) else some (.exit i, s)
 | r => some r
def endR (r : Option St) : Option (AExit × St) := r.bind fun s => some (.normal, ⟨⟨s.fr.g, []⟩, s.h, s.ms⟩)
theorem step_seq (E : Eng) (f rd a b s) : stepCode X E f rd (.seq a b) s = thenN (E.code f rd a s) fun s => E.code f rd b s := by
 cases h : E.code f rd a s with
 | none => simp only [stepCode, thenN, h, Option.bind_none]
 | some r => obtain ⟨e, s'⟩ := r; cases e <;> simp only [stepCode, thenN, h, Option.bind_some]
noncomputable def cutS (s : St) (r : Option (AExit × St)) : Option (AExit × St) := r.map fun q => (q.1, match q.1 with | .normal => ⟨⟨restr s.fr.g q.2.fr.g, []⟩, q.2.h, q.2.ms⟩ | _ => q.2)
theorem step_map (E : Eng) (f rd b s) {m : Tmp × Tmp × Tmp × Nat × Code} (hm : mapLoop b = some m) : stepCode X E f rd (.loop b) s = mapRounds E f rd b m s := by simp only [stepCode, hm]
theorem step_loop (E : Eng) (f rd b s) (hm : mapLoop b = none) : stepCode X E f rd (.loop b) s = thenN (cutS s (E.code f rd b s)) fun s => E.code f rd (.loop b) s := by
 cases h : E.code f rd b s with
 | none => simp only [stepCode, hm, thenN, cutS, h, Option.bind_none, Option.map_none]
 | some r => obtain ⟨e, s'⟩ := r; cases e <;> simp only [stepCode, hm, thenN, cutS, h, Option.bind_some, Option.map_some, restrK_eq]
theorem step_block (E : Eng) (f rd id b s) : stepCode X E f rd (.block id b) s = catchB id (E.code f rd b s) := by
 cases h : E.code f rd b s with
 | none => simp only [stepCode, catchB, h, Option.bind_none]
 | some r => obtain ⟨e, s'⟩ := r; cases e <;> simp only [stepCode, catchB, h, Option.bind_some]
theorem step_region (E : Eng) (f rd id ops s) : stepCode X E f rd (.region id ops false) s = endR (match isIn deepMark (X.keep f) with | false => runN X E f id ops.toList s | true => runR X E f rd id ops.toList s) := by
 unfold stepCode endR
 simp only [Bool.false_eq_true, if_false]
 cases isIn deepMark (X.keep f) with
 | false => simp only; cases runN X E f id ops.toList s <;> rfl
 | true => simp only; cases runR X E f rd id ops.toList s <;> rfl
theorem step_draw (E : Eng) (f rd id ops s) : stepCode X E f rd (.region id ops true) s =
  if (!(X.solo f id).isEmpty) = true then
   if okFam (Region.before ops).toList ops.toList (X.solo f id) = true then
    (runFam X E (X.keep f) ops.toList (s.h.b.length, s.h.t.length) ⟨s.fr, ⟨s.h.b ++ List.replicate ops.size .none, s.h.t ++ List.replicate ops.size false⟩, s.ms⟩ (X.solo f id)).bind fun d => some (.normal, d)
   else none
  else if (X.hush f id && hushed ops.toList) = true then
   if drawT (Region.before ops).toList ops.toList s.fr = true then
    endR (runDraw X E (X.keep f) (Region.before ops).toList ops.toList (s.h.b.length, s.h.t.length) true ops.toList 0 s)
   else none
  else
   if drawT (Region.before ops).toList ops.toList s.fr = true then
    endR (runDraw X E (X.keep f) (Region.before ops).toList ops.toList (s.h.b.length, s.h.t.length) false ops.toList 0 ⟨s.fr, ⟨s.h.b ++ List.replicate ops.size .none, s.h.t ++ List.replicate ops.size false⟩, s.ms⟩)
   else none := by
 unfold stepCode endR
 simp only [if_true]
 split
 ·split
  ·cases runFam X E (X.keep f) ops.toList (s.h.b.length, s.h.t.length) ⟨s.fr, ⟨s.h.b ++ List.replicate ops.size .none, s.h.t ++ List.replicate ops.size false⟩, s.ms⟩ (X.solo f id) <;> rfl
  ·rfl
 split
 ·split
  ·cases runDraw X E (X.keep f) (Region.before ops).toList ops.toList (s.h.b.length, s.h.t.length) true ops.toList 0 s <;> rfl
  ·rfl
 ·split
  ·cases runDraw X E (X.keep f) (Region.before ops).toList ops.toList (s.h.b.length, s.h.t.length) false ops.toList 0 ⟨s.fr, ⟨s.h.b ++ List.replicate ops.size .none, s.h.t ++ List.replicate ops.size false⟩, s.ms⟩ <;> rfl
  ·rfl
noncomputable def afterCall (fn : Func) (n : Nat) (r : AExit × St) : Option (AV × Heap) :=
 match r.1 with
 | .exit _ => none
 | _ => (unmark r.2.h r.2.ms).bind fun h' => (resAV X r.2.fr h' fn.results.toList).map fun vs => leave n (resOne vs) h'
theorem step_call (E : Eng) {g : Nat} {args : List AV} {h : Heap} {fn : Func} {c : Code} (hf : X.fn.get g = some fn) (hc : fn.body = some c) :
  stepCall X E g args h = if (isIn deepMark (X.keep g) && !h.b.isEmpty) = true then none else (E.code g none c ⟨⟨zipFrom (X.keep g) 0 args, []⟩, h, []⟩).bind (afterCall X fn h.b.length) := by
 unfold stepCall
 rw [hf]
 simp only [hc]
 split
 ·rfl
 cases E.code g none c ⟨⟨zipFrom (X.keep g) 0 args, []⟩, h, []⟩ with
 | none => rfl
 | some r =>
  obtain ⟨e, s⟩ := r
  simp only [Option.bind_some, afterCall]
  cases e with
  | exit i => rfl
  | normal =>
   simp only
   cases unmark s.h s.ms with
   | none => rfl
   | some h' => simp only [Option.bind_some]; cases resAV X s.fr h' fn.results.toList <;> rfl
  | ret =>
   simp only
   cases unmark s.h s.ms with
   | none => rfl
   | some h' => simp only [Option.bind_some]; cases resAV X s.fr h' fn.results.toList <;> rfl
end
class HasH (α : Type) where
 get : α → Heap
 set : α → Heap → α
instance : HasH Heap := ⟨id, fun _ h => h⟩
instance : HasH (AV × Heap) := ⟨Prod.snd, fun x h => (x.1, h)⟩
instance : HasH St := ⟨St.h, fun s h => ⟨s.fr, h, s.ms⟩⟩
instance : HasH (AExit × St) := ⟨fun x => x.2.h, fun x h => (x.1, ⟨x.2.fr, h, x.2.ms⟩)⟩
def upd {α : Type} [HasH α] (p : Nat) (z : ABlk) (a : α) : α := HasH.set a ((HasH.get a).put p z)
def Bare {α : Type} [HasH α] (p : Nat) (a : α) : Prop := (HasH.get a).b[p]? = some .none
def Fra {α : Type} [HasH α] (p : Nat) (z : ABlk) (A A' : Option α) : Prop := ∀ a, A = some a → Bare p a ∧ A' = some (upd p z a)
section
variable {X : Tab} {p : Nat} {z : ABlk}
theorem Fra.none {α : Type} [HasH α] {A' : Option α} : Fra p z Option.none A' := fun a h => by cases h
theorem Fra.some {α : Type} [HasH α] {a : α} (h : Bare p a) : Fra p z (some a) (some (upd p z a)) := fun b hb => by cases hb; exact ⟨h, rfl⟩
theorem Fra.bind {α β : Type} [HasH α] [HasH β] {A A' : Option α} {B B' : α → Option β} (hA : Fra p z A A') (hB : ∀ a, Bare p a → Fra p z (B a) (B' (upd p z a))) : Fra p z (A.bind B) (A'.bind B') := by
 intro b hb
 obtain ⟨a, h1, h2⟩ := Option.bind_eq_some_iff.1 hb
 obtain ⟨h3, h4⟩ := hA a h1
 obtain ⟨h5, h6⟩ := hB a h3 b h2
 exact ⟨h5, by rw [h4]; exact h6⟩
theorem Fra.of_eq {α : Type} [HasH α] {A A' B B' : Option α} (h : A = B) (h' : A' = B') (hB : Fra p z B B') : Fra p z A A' := by rw [h, h']; exact hB
theorem bare_lt {h : Heap} (hp : h.b[p]? = some .none) : p < h.b.length := (List.getElem?_eq_some_iff.1 hp).1
theorem put_get {h : Heap} {j : Nat} (hne : j ≠ p) : (h.put p z).b[j]? = h.b[j]? := put_other h z hne
theorem put_len {h : Heap} : (h.put p z).b.length = h.b.length := by simp [Heap.put]
theorem put_put {h : Heap} {j : Nat} {y : ABlk} (hne : j ≠ p) : (h.put p z).put j y = (h.put j y).put p z := by
 simp only [Heap.put]
 rw [List.set_comm _ _ (Ne.symm hne)]
theorem bare_put {h : Heap} {j : Nat} {y : ABlk} (hp : h.b[p]? = some .none) (hne : j ≠ p) : (h.put j y).b[p]? = some .none := by rw [put_other h y (Ne.symm hne)]; exact hp
theorem hput_put {h : Heap} {j : Nat} {y : ABlk} (hp : h.b[p]? = some .none) (hne : j ≠ p) : hput (h.put p z) j y = (hput h j y).put p z := by
 have hl := bare_lt hp
 simp only [hput, lset, Heap.put, List.length_set]
 split
 ·rw [List.set_comm _ _ (Ne.symm hne)]
 ·rw [List.set_append_left _ _ hl]
theorem bare_hput {h : Heap} {j : Nat} {y : ABlk} (hp : h.b[p]? = some .none) (hne : j ≠ p) : (hput h j y).b[p]? = some .none := by
 have hl := bare_lt hp
 simp only [hput, lset]
 split
 ·rw [List.getElem?_set_ne hne]; exact hp
 ·rw [List.getElem?_append_left hl]; exact hp
theorem app_put {h : Heap} (hp : h.b[p]? = some .none) (x : List ABlk) (t : List Bool) : (⟨(h.put p z).b ++ x, t⟩ : Heap) = Heap.put ⟨h.b ++ x, t⟩ p z := by
 simp only [Heap.put]
 rw [List.set_append_left _ _ (bare_lt hp)]
theorem bare_app {h : Heap} (hp : h.b[p]? = some .none) (x : List ABlk) : (h.b ++ x)[p]? = some .none := by
 rw [List.getElem?_append_left (bare_lt hp)]; exact hp
theorem ne_of {h : Heap} {j : Nat} {y : ABlk} (hp : h.b[p]? = some .none) (hj : h.b[j]? = some y) (hy : y ≠ .none) : j ≠ p := by
 intro e; subst e; rw [hp] at hj; cases hj; exact hy rfl
theorem fra_load {t : TypeId} {a : AV} {h : Heap} (hp : h.b[p]? = some .none) : Fra p z (opLoad X t a h) (opLoad X t a (h.put p z)) := by
 rintro ⟨v, h1⟩ ho
 unfold opLoad at ho ⊢
 split at ho
 ·rename_i b off
  split at ho
  ·rename_i c hb
   obtain ⟨h2, rfl⟩ := pair_map ho
   have hne := ne_of hp hb (by intro e; cases e)
   simp only [put_get hne, hb, h2]
   exact ⟨hp, rfl⟩
  ·cases ho
 ·obtain ⟨h2, rfl⟩ := pair_map ho
  simp only [h2]
  exact ⟨hp, rfl⟩
 ·cases ho
theorem fra_lookup {t : TypeId} {m k : AV} {ok : Bool} {h : Heap} (hp : h.b[p]? = some .none) : Fra p z (opLookup X t m k ok h) (opLookup X t m k ok (h.put p z)) := by
 rintro ⟨v, h1⟩ ho
 unfold opLookup at ho ⊢
 split at ho
 ·split at ho
  ·rename_i hm hb
   have hne := ne_of hp hb (by intro e; cases e)
   split at ho
   ·rename_i ks hks
    split at ho
    ·rename_i heq
     split at ho
     ·rename_i v0 hl
      cases ho
      exact ⟨hp, by simp only [put_get hne, hm, hb, hks, heq, hl, if_true]; rfl⟩
     ·rename_i z0 hl hz
      cases ho
      exact ⟨hp, by simp only [put_get hne, hm, hb, hks, heq, hl, hz, if_true]; rfl⟩
     ·cases ho
    ·cases ho
   ·cases ho
  ·cases ho
 ·cases ho
theorem fra_len {ts : List TypeId} {vs : List AV} {h : Heap} (hp : h.b[p]? = some .none) : Fra p z (opLen X ts vs h) (opLen X ts vs (h.put p z)) := by
 rintro ⟨v, h1⟩ ho
 unfold opLen at ho ⊢
 split at ho
 ·split at ho
  all_goals first | (cases ho; exact ⟨hp, rfl⟩) | skip
  ·split at ho
   ·rename_i hm hb
    have hne := ne_of hp hb (by intro e; cases e)
    cases ho
    exact ⟨hp, by simp only [put_get hne, hm, hb]; rfl⟩
   ·cases ho
  ·cases ho
 ·cases ho
theorem fra_store {q : Nat} {t : TypeId} {a v : AV} {h : Heap} (hp : h.b[p]? = some .none) : Fra p z (opStore X q t a v h) (opStore X q t a v (h.put p z)) := by
 rintro ⟨u, h1⟩ ho
 unfold opStore at ho ⊢
 split at ho
 ·split at ho
  ·rename_i c hb
   have hne := ne_of hp hb (by intro e; cases e)
   split at ho
   ·rename_i hc
    cases ho
    simp only [put_get hne, hb, if_pos hc, put_put hne]
    exact ⟨bare_put hp hne, rfl⟩
   ·cases ho
  ·cases ho
 ·cases ho
theorem fra_mapUpdate {t : TypeId} {m k v : AV} {h : Heap} (hp : h.b[p]? = some .none) : Fra p z (opMapUpdate X t m k v h) (opMapUpdate X t m k v (h.put p z)) := by
 rintro ⟨u, h1⟩ ho
 unfold opMapUpdate at ho ⊢
 split at ho
 ·split at ho
  ·rename_i hm hb
   have hne := ne_of hp hb (by intro e; cases e)
   split at ho
   ·rename_i ks hks
    split at ho
    ·rename_i hc
     split at ho
     ·rename_i es' he
      cases ho
      simp only [put_get hne, hm, hb, hks, if_pos hc, he, put_put hne]
      exact ⟨bare_put hp hne, rfl⟩
     ·cases ho
    ·cases ho
   ·cases ho
  ·cases ho
 ·cases ho
theorem fra_mapEntry {t : TypeId} {m k : AV} {h : Heap} (hp : h.b[p]? = some .none) : Fra p z (opMapEntry X t m k h) (opMapEntry X t m k (h.put p z)) := by
 rintro ⟨u, h1⟩ ho
 unfold opMapEntry at ho ⊢
 split at ho
 ·split at ho
  ·rename_i hm hb
   have hne := ne_of hp hb (by intro e; cases e)
   split at ho
   ·rename_i ks hks
    split at ho
    ·rename_i hc
     split at ho
     ·rename_i j hj
      split at ho
      ·rename_i e he
       cases ho
       simp only [put_get hne, hm, hb, hks, if_pos hc, hj, he, put_put hne]
       exact ⟨bare_put hp hne, rfl⟩
      ·cases ho
     ·rename_i hj
      split at ho
      ·rename_i z0 hz
       cases ho
       simp only [put_get hne, hm, hb, hks, if_pos hc, hj, hz, put_put hne]
       exact ⟨bare_put hp hne, rfl⟩
      ·cases ho
     ·cases ho
    ·cases ho
   ·cases ho
  ·cases ho
 ·cases ho
theorem fra_entryStore {m s v : AV} {h : Heap} (hp : h.b[p]? = some .none) : Fra p z (opEntryStore m s v h) (opEntryStore m s v (h.put p z)) := by
 rintro ⟨u, h1⟩ ho
 unfold opEntryStore at ho ⊢
 split at ho
 ·split at ho
  ·rename_i es hb
   have hne := ne_of hp hb (by intro e; cases e)
   split at ho
   ·rename_i hc
    split at ho
    ·rename_i e he
     cases ho
     simp only [put_get hne, hb, if_pos hc, he, put_put hne]
     exact ⟨bare_put hp hne, rfl⟩
    ·cases ho
   ·cases ho
  ·cases ho
 ·cases ho
theorem fra_next {it : AV} {h : Heap} (hp : h.b[p]? = some .none) : Fra p z (opNext it h) (opNext it (h.put p z)) := by
 rintro ⟨u, h1⟩ ho
 unfold opNext at ho ⊢
 split at ho
 ·split at ho
  ·rename_i s pos hb
   have hne := ne_of hp hb (by intro e; cases e)
   split at ho
   ·rename_i hc
    cases ho
    simp only [put_get hne, hb, if_pos hc, put_put hne]
    exact ⟨bare_put hp hne, rfl⟩
   ·rename_i hc
    cases ho
    simp only [put_get hne, hb, if_neg hc]
    exact ⟨hp, rfl⟩
  ·cases ho
 ·cases ho
theorem fra_entry {it : AV} {h : Heap} (hp : h.b[p]? = some .none) : Fra p z (opEntry it h) (opEntry it (h.put p z)) := by
 rintro ⟨u, h1⟩ ho
 unfold opEntry at ho ⊢
 split at ho
 ·split at ho
  ·rename_i hj
   have hne := ne_of hp hj (by intro e; cases e)
   split at ho
   ·rename_i hb
    have hne2 := ne_of hp hb (by intro e; cases e)
    split at ho
    ·rename_i hc
     split at ho
     ·rename_i he
      cases ho
      simp only [put_get hne, hj, put_get hne2, hb, if_pos hc, he]
      exact ⟨hp, rfl⟩
     ·cases ho
    ·cases ho
   ·cases ho
  ·cases ho
 ·cases ho
theorem fra_range {t : TypeId} {q : Nat} {v : AV} {h : Heap} (hp : h.b[p]? = some .none) (hq : q ≠ p) : Fra p z (opRange X q t v h) (opRange X q t v (h.put p z)) := by
 rintro ⟨u, h1⟩ ho
 unfold opRange at ho ⊢
 split at ho
 ·rename_i s hr
  cases ho
  refine ⟨bare_hput hp hq, ?_⟩
  simp only [hr, hput_put hp hq]
  rfl
 ·rename_i hns
  split at ho
  ·rename_i htm hb
   have hne := ne_of hp hb (by intro e; cases e)
   split at ho
   ·rename_i hc
    cases ho
    refine ⟨bare_hput hp hq, ?_⟩
    simp only [put_get hne, htm, hb, if_pos hc, hput_put hp hq]
    rfl
   ·cases ho
  ·cases ho
 ·cases ho
theorem fra_copy {ts : List TypeId} {vs : List AV} {h : Heap} (hp : h.b[p]? = some .none) : Fra p z (opCopy X ts vs h) (opCopy X ts vs (h.put p z)) := by
 rintro ⟨u, h1⟩ ho
 unfold opCopy at ho ⊢
 split at ho
 ·split at ho
  ·rename_i hr hb
   have hne := ne_of hp hb (by intro e; cases e)
   split at ho
   ·rename_i hc
    cases ho
    simp only [put_get hne, hr, hb, if_pos hc, put_put hne]
    exact ⟨bare_put hp hne, rfl⟩
   ·rename_i hc
    split at ho
    ·rename_i hc2
     cases ho
     simp only [put_get hne, hr, hb, if_neg hc, if_pos hc2]
     exact ⟨hp, rfl⟩
    ·cases ho
  ·cases ho
 ·split at ho
  ·rename_i hr hb hb2
   have hne := ne_of hp hb (by intro e; cases e)
   have hne2 := ne_of hp hb2 (by intro e; cases e)
   split at ho
   ·rename_i hc
    cases ho
    simp only [put_get hne, put_get hne2, hr, hb, hb2, if_pos hc, put_put hne]
    exact ⟨bare_put hp hne, rfl⟩
   ·rename_i hc
    split at ho
    ·rename_i hc2
     cases ho
     simp only [put_get hne, put_get hne2, hr, hb, hb2, if_neg hc, if_pos hc2]
     exact ⟨hp, rfl⟩
    ·cases ho
  ·cases ho
 ·cases ho
theorem lay_step {q : Nat × Nat} {o : Op} (hl : layOp o = true) {fr : Frm} {h h1 : Heap} {v : AV} (ho : stepOp X q o fr h = some (v, h1)) : ∃ y, h1 = hput h q.1 y ∧ ∀ h2, stepOp X q o fr h2 = some (v, hput h2 q.1 y) := by
 cases o <;> simp only [layOp] at hl <;> first | (cases hl; done) | skip
 case alloc t =>
  simp only [stepOp, opAlloc] at ho ⊢
  split at ho
  ·rename_i z hz
   cases ho
   exact ⟨_, rfl, fun h2 => by simp only [hz]⟩
  ·cases ho
 case box t x =>
  simp only [stepOp, opBox] at ho ⊢
  split at ho
  ·rename_i hc
   cases ho
   exact ⟨_, rfl, fun h2 => by rw [if_pos hc]⟩
  ·cases ho
 case makeMap t r =>
  simp only [stepOp] at ho ⊢
  split at ho
  ·cases ho; exact ⟨_, rfl, fun h2 => rfl⟩
  ·cases ho
 case makeSlice t l c =>
  simp only [stepOp, opMakeSlice] at ho ⊢
  split at ho
  ·rename_i e n m hr hl2 hc2
   split at ho
   ·rename_i z hz
    split at ho
    ·rename_i hc
     cases ho
     exact ⟨_, rfl, fun h2 => by rw [if_pos hc]⟩
    ·cases ho
   ·cases ho
  ·cases ho
theorem fra_step {q : Nat × Nat} {o : Op} {fr : Frm} {h : Heap} (hp : h.b[p]? = some .none) (hq : q.1 ≠ p) : Fra p z (stepOp X q o fr h) (stepOp X q o fr (h.put p z)) := by
 by_cases hl : layOp o = true
 ·rintro ⟨v, h1⟩ ho
  obtain ⟨y, rfl, hall⟩ := lay_step hl ho
  rw [hall, hput_put hp hq]
  exact ⟨bare_hput hp hq, rfl⟩
 cases hk : opKind o with
 | pure =>
  rintro ⟨v, h1⟩ ho
  rw [alone_step hk] at ho ⊢
  obtain ⟨rfl, hall⟩ := onHeap_some ho
  exact ⟨hp, hall _⟩
 | read =>
  cases o <;> simp only [opKind] at hk <;> first | (cases hk; done) | skip
  ·exact fra_load hp
  ·exact fra_lookup hp
  ·rename_i c
   have hc : c.callee = .builtin .len := by
    unfold callKind at hk
    split at hk <;> first | (cases hk; done) | assumption
   simp only [stepOp, hc, opCallee, opBuiltin]
   exact fra_len hp
 | app =>
  rintro ⟨v, h1⟩ ho
  cases o <;> simp only [opKind] at hk <;> first | (cases hk; done) | skip
  rename_i c
  have hc : c.callee = .builtin .append := by
   unfold callKind at hk
   split at hk <;> first | (cases hk; done) | assumption
  have e : ∀ h, opAt X ⟨fun _ _ _ _ => none, fun _ _ _ => none⟩ false q (.call c) fr h = stepOp X q (.call c) fr h := fun h => by
   unfold opAt; simp only [hc]
  rw [← e] at ho
  obtain ⟨e1, e2⟩ := app_step (show opKind (.call c) = .app from hk) ho
  have := e2 (h.put p z).b
  rw [e] at this
  refine ⟨by show h1.b[p]? = _; rw [e1]; exact hp, ?_⟩
  show stepOp X q (.call c) fr (h.put p z) = some (v, h1.put p z)
  have e3 : h1.put p z = ⟨(h.put p z).b, h1.t⟩ := by simp only [Heap.put, e1]
  rw [e3]; exact this
 | call =>
  cases o <;> simp only [opKind] at hk <;> first | (cases hk; done) | skip
  rename_i c
  have hc : ∃ g, c.callee = .value g := by
   unfold callKind at hk
   split at hk <;> first | (cases hk; done) | exact ⟨_, by assumption⟩
  obtain ⟨g, hc⟩ := hc
  simp only [stepOp, hc, opCallee]
  exact Fra.none
 | write =>
  cases o <;> simp only [opKind] at hk <;> first | (cases hk; done) | (exact absurd rfl hl) | skip
  case store => exact fra_store hp
  case mapUpdate => exact fra_mapUpdate hp
  case mapEntry => exact fra_mapEntry hp
  case entryStore => exact fra_entryStore hp
  case entry it => exact fra_entry hp
  case range t x => exact fra_range hp hq
  case next it s =>
   simp only [stepOp]
   cases s with
   | true => simp only [if_true]; exact fra_next hp
   | false => simp only [Bool.false_eq_true, if_false]; exact Fra.none
  case call c =>
   have hc : c.callee = .builtin .copy := by
    unfold callKind at hk
    split at hk <;> first | (cases hk; done) | assumption
   simp only [stepOp, hc, opCallee, opBuiltin]
   exact fra_copy hp
end
structure FrE (E : Eng) : Prop where
 call : ∀ (p : Nat) (z : ABlk) f as (h : Heap), h.b[p]? = some .none → Fra p z (E.call f as h) (E.call f as (h.put p z))
 code : ∀ (p : Nat) (z : ABlk) f rd c (s : St), s.h.b[p]? = some .none → Fra p z (E.code f rd c s) (E.code f rd c (upd p z s))
section
variable {X : Tab} {E : Eng} (hE : FrE E) {p : Nat} {z : ABlk}
theorem fra_pure {f : Nat} {as : List AV} {h : Heap} (hp : h.b[p]? = some .none) : Fra p z (callPure E f as h) (callPure E f as (h.put p z)) := by
 rw [callPure_eq, callPure_eq]
 rintro ⟨v, h1⟩ ho
 obtain ⟨r, h2, h3⟩ := Option.bind_eq_some_iff.1 ho
 obtain ⟨u, h4, h5⟩ := Option.map_eq_some_iff.1 h3
 cases h5
 rw [h2]
 simp only [Option.bind_some, h4, Option.map_some]
 exact ⟨hp, rfl⟩
theorem fra_turn {h : Heap} {l : Nat} {g : ABlk → Option ABlk} (hg : g .none = Option.none) (hp : h.b[p]? = some .none) : Fra p z (turnBlk h l g) (turnBlk (h.put p z) l g) := by
 intro h1 ho
 unfold turnBlk at ho ⊢
 split at ho
 ·rename_i x hx
  split at ho
  ·rename_i y hy
   cases ho
   have hne := ne_of hp hx (by rintro rfl; rw [hg] at hy; cases hy)
   simp only [put_get hne, hx, hy, put_put hne]
   exact ⟨bare_put hp hne, rfl⟩
  ·cases ho
 ·cases ho
include hE in
theorem fra_round {l : Nat} {args : List AV} {h : Heap} (hp : h.b[p]? = some .none) : Fra p z (stepRound X E l args h) (stepRound X E l args (h.put p z)) := by
 cases hb : h.b[l]? with
 | none => unfold stepRound; rw [hb]; exact Fra.none
 | some x =>
  cases x with
  | loop bu pe dn f fr ps asg body =>
   have hne := ne_of hp hb (by intro e; cases e)
   rw [stepRound_eq X hb, stepRound_eq X ((put_get hne).trans hb)]
   cases yieldFr (X.keep f) fr ps args with
   | none => exact Fra.none
   | some fr1 =>
    simp only [Option.bind_some]
    unfold roundK
    refine Fra.bind (hE.code p z f (some l) asg ⟨fr1, h, []⟩ hp) fun r hr => ?_
    obtain ⟨e, s1⟩ := r
    cases e with
    | normal =>
     refine Fra.bind (fra_turn rfl hr) fun h1 hh => ?_
     refine Fra.bind (hE.code p z f (some l) body ⟨s1.fr, h1, s1.ms⟩ hh) fun r2 hr2 => ?_
     obtain ⟨e2, s2⟩ := r2
     rintro ⟨v, h3⟩ ho
     obtain ⟨h4, h5, h6⟩ := Option.map_eq_some_iff.1 ho
     cases h6
     have := fra_turn (z := z) (g := endBlk e2) rfl hr2 _ h5
     refine ⟨this.1, ?_⟩
     have e2' := this.2
     show (turnBlk (s2.h.put p z) l (endBlk e2)).map _ = _
     rw [show turnBlk (s2.h.put p z) l (endBlk e2) = some (upd p z h3) from e2']
     rfl
    | exit i => exact Fra.none
    | ret => exact Fra.none
  | none => unfold stepRound; rw [hb]; exact Fra.none
  | cells c => unfold stepRound; rw [hb]; exact Fra.none
  | map es => unfold stepRound; rw [hb]; exact Fra.none
  | siter s p => unfold stepRound; rw [hb]; exact Fra.none
  | mit b n l c => unfold stepRound; rw [hb]; exact Fra.none
  | mark => unfold stepRound; rw [hb]; exact Fra.none
theorem view_put {h : Heap} {x y : AV} (hp : h.b[p]? = some .none) (hv : viewV h x = some y) : viewV (h.put p z) x = some y := by
 unfold viewV at hv ⊢
 split at hv
 ·split at hv
  ·rename_i c hb
   have hne := ne_of hp hb (by intro e; cases e)
   simp only [put_get hne, hb]
   exact hv
  ·cases hv
 ·exact hv
theorem viewL_put {h : Heap} (hp : h.b[p]? = some .none) : ∀ {xs ys : List AV}, viewL h xs = some ys → viewL (h.put p z) xs = some ys
 | [], ys, hv => hv
 | x :: xs, ys, hv => by
  simp only [viewL] at hv ⊢
  split at hv
  ·rename_i y ys' h1 h2
   rw [view_put hp h1, viewL_put hp h2]
   exact hv
  ·cases hv
theorem fra_orc {O : List AV → Option AV} {as : List AV} {h : Heap} (hp : h.b[p]? = some .none) : Fra p z (callOrc O as h) (callOrc O as (h.put p z)) := by
 rintro ⟨v, h1⟩ ho
 unfold callOrc at ho ⊢
 split at ho
 ·rename_i ys hys
  rw [viewL_put hp hys]
  split at ho
  ·rename_i v0 hv0
   split at ho
   ·rename_i u hu
    cases ho
    simp only [hv0, hu]
    exact ⟨hp, rfl⟩
   ·cases ho
  ·cases ho
 ·cases ho
include hE in
theorem fra_callAV {q : Bool} {g : AV} {args : List AV} {h : Heap} (hp : h.b[p]? = some .none) : Fra p z (callAV X E q g args h) (callAV X E q g args (h.put p z)) := by
 unfold callAV
 cases g with
 | clo f fst cap =>
  simp only
  split
  ·split
   ·exact Fra.none
   ·exact fra_orc hp
  split
  ·split
   ·exact Fra.none
   ·exact hE.call _ _ _ _ _ hp
  ·split
   ·exact fra_pure hp
   ·split
    ·exact Fra.none
    ·exact hE.call _ _ _ _ _ hp
 | yld l =>
  simp only
  split
  ·exact Fra.none
  ·exact fra_round hE hp
 | _ => exact Fra.none
include hE in
theorem fra_opAt {b : Bool} {q : Nat × Nat} {o : Op} {fr : Frm} {h : Heap} (hp : h.b[p]? = some .none) (hq : q.1 ≠ p) : Fra p z (opAt X E b q o fr h) (opAt X E b q o fr (h.put p z)) := by
 unfold opAt
 split
 ·split
  ·exact fra_callAV hE hp
  ·exact fra_step hp hq
 ·exact fra_step hp hq
include hE in
theorem fra_one {L : List Nat} {all : List Oper} {b : Bool} {q : Nat × Nat} {o : Oper} {s : St} (hp : s.h.b[p]? = some .none) (hq : q.1 ≠ p) : Fra p z (oneS X E L all b q o s) (oneS X E L all b q o (upd p z s)) := by
 have key : ∀ (fr : Frm) (d : Option Tmp), Fra p z ((opAt X E b q o.op fr s.h).bind fun x => some (⟨setD L fr d x.1, x.2, s.ms⟩ : St)) ((opAt X E b q o.op fr (s.h.put p z)).bind fun x => some (⟨setD L fr d x.1, x.2, s.ms⟩ : St)) := fun fr d =>
  Fra.bind (fra_opAt hE hp hq) fun x hx => Fra.some (a := (⟨setD L fr d x.1, x.2, s.ms⟩ : St)) hx
 unfold oneS oneOp
 cases o.guard with
 | none => simp only [thenK_eq]; exact key _ _
 | some g =>
  simp only [thenK_eq, setFK_eq, setDstK_eq]
  cases guardOf all g with
  | none => exact Fra.none
  | some tw =>
   obtain ⟨t, want⟩ := tw
   show Fra p z (match getF s.fr t with | .bool c => _ | .und => _ | _ => _) (match getF s.fr t with | .bool c => _ | .und => _ | _ => _)
   cases getF s.fr t with
   | bool c =>
    simp only
    split
    ·exact key _ _
    ·exact Fra.some (a := (⟨_, s.h, s.ms⟩ : St)) hp
   | und => exact Fra.some (a := (⟨_, s.h, s.ms⟩ : St)) hp
   | _ => exact Fra.none
include hE in
theorem fra_ops {L : List Nat} {all : List Oper} : ∀ (os : List Oper) (s : St), s.h.b[p]? = some .none → Fra p z (runOps X E L all os s) (runOps X E L all os (upd p z s))
 | [], s, hp => Fra.some (a := s) hp
 | o :: os, s, hp => by
  refine Fra.of_eq (oneOp_eq (X := X)) (oneOp_eq (X := X)) (Fra.bind ?_ fun s' hs' => fra_ops os s' hs')
  have := fra_one (X := X) (L := L) (all := all) (b := false) (q := (s.h.b.length, s.h.t.length)) (o := o) hE (z := z) hp (by have := bare_lt hp; show s.h.b.length ≠ p; omega)
  show Fra p z _ (oneS X E L all false ((s.h.put p z).b.length, s.h.t.length) o (upd p z s))
  rw [put_len]
  exact this
theorem fra_grow {t : TypeId} {x y : AV} {h : Heap} (hp : h.b[p]? = some .none) : Fra p z (growAV X t h x y) (growAV X t (h.put p z) x y) := by
 have hne : h.b.length ≠ p := by have := bare_lt hp; omega
 have hl : (h.put p z).b.length = h.b.length := put_len
 rintro ⟨u, h1⟩ ho
 unfold growAV at ho ⊢
 rw [hl]
 split at ho
 ·rename_i hr
  split at ho
  ·split at ho
   ·rename_i hc
    split at ho
    ·rename_i h0
     cases ho
     simp only [hr, if_pos hc, if_pos h0]
     exact ⟨hp, rfl⟩
    ·rename_i h0
     split at ho
     ·rename_i hs
      cases ho
      simp only [hr, if_pos hc, if_neg h0, if_pos hs, hput_put hp hne]
      exact ⟨bare_hput hp hne, rfl⟩
     ·cases ho
   ·cases ho
  ·cases ho
 ·cases ho
theorem fra_appendAV {ty : TypeId} {q : Nat} {x y : AV} {h : Heap} (hp : h.b[p]? = some .none) : Fra p z (appendAV X ty q h x y) (appendAV X ty q (h.put p z) x y) := by
 rintro ⟨v, h1⟩ ho
 unfold appendAV at ho ⊢
 split at ho
 ·split at ho
  ·split at ho
   ·rename_i hc2
    split at ho
    ·cases ho
    ·split at ho
     ·rename_i h3
      cases ho
      exact ⟨hp, by simp only [hc2, h3, if_true, and_self]; rfl⟩
     ·cases ho
    ·split at ho
     ·rename_i h3
      split at ho
      ·rename_i h4
       cases ho
       have h4' : (h.put p z).t[_]? = some true := h4
       exact ⟨hp, by simp only [hc2, h3, h4', if_true, and_self]; rfl⟩
      ·cases ho
     ·cases ho
   ·cases ho
  ·cases ho
 ·cases ho
theorem fra_makeSlice {q : Nat × Nat} {ty : TypeId} {l c : AV} {h : Heap} (hp : h.b[p]? = some .none) (hq : q.1 ≠ p) : Fra p z (opMakeSlice X q.1 ty l c h) (opMakeSlice X q.1 ty l c (h.put p z)) := by
 unfold opMakeSlice
 split
 ·split
  ·split
   ·rintro ⟨v, h1⟩ ho
    cases ho
    rw [hput_put hp hq]
    exact ⟨bare_hput hp hq, rfl⟩
   ·exact Fra.none
  ·exact Fra.none
 ·exact Fra.none
theorem fra_litAV {ty : TypeId} {q : Nat} {x : AV} {b off n sz : Nat} {h : Heap} (hp : h.b[p]? = some .none) : Fra p z (litAV X ty q h x b off n sz) (litAV X ty q (h.put p z) x b off n sz) := by
 unfold litAV
 split
 ·rename_i e c hrow hb
  have hne : b ≠ p := fun e => by rw [e, hp] at hb; cases hb
  rw [hrow, put_get hne, hb]
  simp only
  split
  ·exact fra_appendAV hp
  ·exact Fra.none
 ·exact Fra.none
theorem fra_zeros {ty : TypeId} {q : Nat} {x : AV} {n : Int} {h : Heap} (hp : h.b[p]? = some .none) : Fra p z (zerosAV X ty q h x n) (zerosAV X ty q (h.put p z) x n) := by
 unfold zerosAV
 split
 ·split
  ·split
   ·exact fra_appendAV hp
   ·exact Fra.none
  ·exact Fra.none
 ·exact Fra.none
theorem fra_make0 {q : Nat × Nat} {ty : TypeId} {l c : AV} {h : Heap} (hp : h.b[p]? = some .none) (hq : q.1 ≠ p) : Fra p z (opMake0 X q ty l c h) (opMake0 X q ty l c (h.put p z)) := by
 unfold opMake0
 split
 ·split
  ·exact Fra.some (a := (_, (⟨h.b, _⟩ : Heap))) hp
  ·exact fra_makeSlice hp hq
 ·exact fra_makeSlice hp hq
include hE in
theorem fra_opG {d : Bool} {q : Nat × Nat} {o : Op} {fr : Frm} {h : Heap} (hp : h.b[p]? = some .none) (hq : q.1 ≠ p) : Fra p z (opBx X d E q o fr h) (opBx X d E q o fr (h.put p z)) := by
 unfold opBx
 split
 ·cases d with
  | true => exact fra_store hp
  | false => exact fra_opAt hE hp hq
 ·exact fra_make0 hp hq
 ·split
  ·unfold growApp
   split
   ·split
    ·split
     ·exact fra_litAV hp
     ·cases d with
      | true => exact fra_grow hp
      | false => exact fra_appendAV hp
    ·split
     ·exact fra_zeros hp
     ·exact Fra.none
   ·exact Fra.none
  ·exact fra_opAt hE hp hq
 ·exact fra_opAt hE hp hq
include hE in
theorem fra_oneG {d : Bool} {L : List Nat} {all : List Oper} {o : Oper} {s : St} (hp : s.h.b[p]? = some .none) : Fra p z (oneBx X d E L all o s some) (oneBx X d E L all o (upd p z s) some) := by
 have hne : s.h.b.length ≠ p := by have := bare_lt hp; omega
 have el : (upd p z s).h.b.length = s.h.b.length := put_len
 have et : (upd p z s).h.t = s.h.t := rfl
 unfold oneBx
 rw [el, et]
 cases o.guard with
 | none =>
  simp only [thenK_eq]
  exact Fra.bind (fra_opG hE hp hne) fun x hx => Fra.some (a := (⟨setD L s.fr o.dst x.1, x.2, s.ms⟩ : St)) hx
 | some g => exact fra_one hE hp hne
include hE in
theorem fra_opsG {d : Bool} {L : List Nat} {all : List Oper} : ∀ (os : List Oper) (s : St), s.h.b[p]? = some .none → Fra p z (runBx X d E L all os s) (runBx X d E L all os (upd p z s))
 | [], s, hp => Fra.some (a := s) hp
 | o :: os, s, hp => Fra.of_eq (oneBx_eq (X := X)) (oneBx_eq (X := X)) (Fra.bind (fra_oneG hE hp) fun s' hs' => fra_opsG os s' hs')
include hE in
theorem fra_runN {f id : Nat} {ops : List Oper} {s : St} (hp : s.h.b[p]? = some .none) : Fra p z (runN X E f id ops s) (runN X E f id ops (upd p z s)) := by
 unfold runN
 split
 ·split
  ·exact fra_opsG hE _ _ hp
  ·exact fra_ops hE _ _ hp
 ·exact fra_ops hE _ _ hp
theorem fra_ice {y : Option (Nat × Nat)} {s : St} (hp : s.h.b[p]? = some .none) : Fra p z (iceSt y s) (iceSt y (upd p z s)) := by
 intro s' ho
 have same : s' = s → Bare p s' ∧ some (upd p z s) = some (upd p z s') := fun e => by subst e; exact ⟨hp, rfl⟩
 unfold iceSt at ho ⊢
 split at ho
 ·cases ho; exact same rfl
 ·have ef : (upd p z s).fr = s.fr := rfl
  rw [ef]
  split at ho
  ·rename_i bz hv
   split at ho
   ·rename_i c hbz
    have hne := ne_of hp hbz (by intro e; cases e)
    have eb : (upd p z s).h.b[bz]? = s.h.b[bz]? := put_get hne
    simp only [hv, eb, hbz]
    split at ho
    ·rename_i v hco
     try simp only [hco]
     split at ho
     ·rename_i b off n sz
      split at ho
      ·rename_i d hb
       have hne2 := ne_of hp hb (by intro e; cases e)
       have eb2 : (upd p z s).h.b[b]? = s.h.b[b]? := put_get hne2
       simp only [eb2, hb]
       split at ho
       ·rename_i xs hrows
        try simp only [hrows]
        split at ho
        ·cases ho
        ·rename_i hbb
         cases ho
         rw [if_neg hbb]
         refine ⟨bare_put (bare_put hp hne2) hne, ?_⟩
         show some (⟨s.fr, ((s.h.put p z).put b .none).put bz _, s.ms⟩ : St) = some ⟨s.fr, _, s.ms⟩
         rw [put_put hne2, put_put hne]
         rfl
       ·cases ho
      ·cases ho
     ·rename_i hnb
      cases ho
      exact same rfl
    ·cases ho
   ·cases ho
  ·cases ho
include hE in
theorem fra_runR {f : Nat} {rd : Option Nat} {id : Nat} {ops : List Oper} {s : St} (hp : s.h.b[p]? = some .none) : Fra p z (runR X E f rd id ops s) (runR X E f rd id ops (upd p z s)) := by
 unfold runR
 cases rd with
 | some l => exact fra_ops hE _ _ hp
 | none =>
  refine Fra.bind (fra_ice hp) fun s1 hs1 => ?_
  cases X.grow f id with
  | true => exact fra_opsG hE _ _ hs1
  | false => exact fra_ops hE _ _ hs1
include hE in
theorem fra_draw {L b : List Nat} {all : List Oper} {n0 : Nat × Nat} {md : Bool} (hn : p < n0.1) : ∀ (os : List Oper) (i : Nat) (s : St), s.h.b[p]? = some .none → Fra p z (runDraw X E L b all n0 md os i s) (runDraw X E L b all n0 md os i (upd p z s))
 | [], i, s, hp => Fra.some (a := s) hp
 | o :: os, i, s, hp => by
  refine Fra.of_eq (oneOp_eq (X := X)) (oneOp_eq (X := X)) (Fra.bind (fra_one hE hp ?_) fun s' hs' => fra_draw hn os (i + 1) s' hs')
  unfold posAt; split
  ·omega
  ·show n0.1 + i ≠ p; omega
include hE in
theorem fra_runL {L : List Nat} {all : List Oper} {n0 : Nat × Nat} (hn : p < n0.1) : ∀ (l : List (Nat × Bool)) (s : St), s.h.b[p]? = some .none → Fra p z (runL X E L all n0 l s) (runL X E L all n0 l (upd p z s))
 | [], s, hp => Fra.some (a := s) hp
 | (i, c) :: l, s, hp => by
  cases ho : all[i]? with
  | none => exact Fra.of_eq (A' := runL X E L all n0 ((i, c) :: l) (upd p z s)) (B' := none) (by rw [runL, ho]) (by rw [runL, ho]) Fra.none
  | some o =>
   refine Fra.of_eq (by rw [runL, ho]; exact oneOp_eq (X := X)) (by rw [runL, ho]; exact oneOp_eq (X := X)) (Fra.bind (fra_one hE hp ?_) fun s' hs' => fra_runL hn l s' hs')
   show n0.1 + (all.length - 1 - i) ≠ p; omega
include hE in
theorem fra_runFam {L : List Nat} {all : List Oper} {n0 : Nat × Nat} (hn : p < n0.1) {s : St} (hp : s.h.b[p]? = some .none) : ∀ (ls : List (List (Nat × Bool))), Fra p z (runFam X E L all n0 s ls) (runFam X E L all n0 (upd p z s) ls)
 | [] => Fra.none
 | [l] => by
  rw [runFam, runFam]
  exact Fra.bind (fra_runL hE hn l s hp) fun s1 h1 => Fra.some (a := dropS s1) h1
 | l :: m :: ls => by
  rw [runFam, runFam]
  refine Fra.bind (fra_runL hE hn l s hp) fun s1 h1 => ?_
  refine Fra.bind (fra_runFam hn hp (m :: ls)) fun d hd => ?_
  intro a ha
  split at ha
  ·rename_i he
   cases ha
   refine ⟨hd, if_pos ?_⟩
   rw [← he]; rfl
  ·cases ha
theorem agree_all {α : Type} {l : List (Option α)} {r : α} (h : agree l = some r) : l ≠ [] ∧ ∀ y ∈ l, y = some r := by
 exact ⟨fun e => (by rw [e] at h; exact nomatch h), agree_inv h⟩
theorem agree_some {α : Type} {l : List (Option α)} {r : α} (hn : l ≠ []) (h : ∀ y ∈ l, y = some r) : agree l = some r := by
 cases l with
 | nil => exact absurd rfl hn
 | cons x xs =>
  have hx := h x (by simp)
  simp only [agree]
  rw [if_pos (fun y hy => by rw [hx]; exact h y (by simp [hy])), hx]
theorem mapRound_eq {f : Nat} {rd : Option Nat} {c body : Code} {j : Nat} {g : Slots} {h : Heap} {ms : List Nat} {blk : ABlk} : mapRound E f rd c body j g h ms blk =
  (E.code f rd body ⟨⟨g, []⟩, h.put j blk, ms⟩).bind fun r => open Classical in if tidy (restr g r.2.fr.g) h ms r.2 then match r.1 with
  | .normal => E.code f rd (.loop c) ⟨⟨restr g r.2.fr.g, []⟩, ⟨r.2.h.b.take h.b.length, r.2.h.t⟩, ms⟩
  | x => match r.2.h.b[j]? with
   | some (.mit _ _ _ _) => some (x, ⟨⟨restr g r.2.fr.g, []⟩, ⟨(r.2.h.b.take h.b.length).set j .none, r.2.h.t⟩, ms⟩)
   | _ => none
  else none := by
 unfold mapRound
 cases E.code f rd body ⟨⟨g, []⟩, h.put j blk, ms⟩ with
 | none => rfl
 | some r =>
  obtain ⟨x, s'⟩ := r
  simp only [restrK_eq, Option.bind_some]
  by_cases ht : tidy (restr g s'.fr.g) h ms s'
  ·rw [if_pos ht, if_pos ht]; cases x <;> rfl
  ·rw [if_neg ht, if_neg ht]
include hE in
theorem fra_mapRound {f : Nat} {rd : Option Nat} {c body : Code} {j : Nat} {g : Slots} {h : Heap} {ms : List Nat} {blk : ABlk} (hp : h.b[p]? = some .none) (hne : j ≠ p) :
  Fra p z (mapRound E f rd c body j g h ms blk) (mapRound E f rd c body j g (h.put p z) ms blk) := by
 have hlt := bare_lt hp
 have hl : (h.put p z).b.length = h.b.length := put_len
 rw [mapRound_eq, mapRound_eq, put_put hne]
 rintro ⟨e, s'⟩ ho
 obtain ⟨⟨x, s1⟩, h1, h2⟩ := Option.bind_eq_some_iff.1 ho
 obtain ⟨h3, h4⟩ := hE.code p z f rd body ⟨⟨g, []⟩, h.put j blk, ms⟩ (bare_put hp hne) _ h1
 have h3 : s1.h.b[p]? = some .none := h3
 have h4 : E.code f rd body ⟨⟨g, []⟩, (h.put j blk).put p z, ms⟩ = some (x, ⟨s1.fr, s1.h.put p z, s1.ms⟩) := h4
 rw [h4]
 simp only [Option.bind_some] at h2 ⊢
 split at h2
 rotate_left
 ·cases h2
 rename_i htidy
 obtain ⟨t1, t2, t3⟩ := htidy
 have ht2 : tidy (restr g s1.fr.g) (h.put p z) ms ⟨s1.fr, s1.h.put p z, s1.ms⟩ := by
  refine ⟨by rw [hl]; exact t1, fun i y hi hy => ?_, t3⟩
  rw [hl] at hi ⊢
  by_cases e : i = p
  ·subst e
   have e1 : (h.put i z).b[i]? = some z := by simp [Heap.put, hlt]
   have e2 : (s1.h.put i z).b[i]? = some z := by simp [Heap.put, (List.getElem?_eq_some_iff.1 h3).1]
   rw [e1]; left
   have hy : (s1.h.put i z).b[i]? = some y := hy
   rw [e2] at hy; exact hy
  ·rw [put_get e]
   have hy : (s1.h.put p z).b[i]? = some y := hy
   rw [put_get e] at hy
   exact t2 i y hi hy
 rw [if_pos ht2, hl]
 have htake : (s1.h.put p z).b.take h.b.length = (s1.h.b.take h.b.length).set p z := by simp [Heap.put, List.take_set]
 have hpt : (s1.h.b.take h.b.length)[p]? = some .none := by rw [List.getElem?_take, if_pos hlt]; exact h3
 cases x with
 | normal =>
  have := hE.code p z f rd (.loop c) ⟨⟨restr g s1.fr.g, []⟩, ⟨s1.h.b.take h.b.length, s1.h.t⟩, ms⟩ hpt _ h2
  refine ⟨this.1, ?_⟩
  rw [htake]
  exact this.2
 | exit q =>
  simp only at h2 ⊢
  split at h2
  rotate_left
  ·cases h2
  rename_i hj2
  cases h2
  have e1 : (s1.h.put p z).b[j]? = s1.h.b[j]? := put_get hne
  rw [e1, hj2]
  simp only
  refine ⟨by show ((s1.h.b.take h.b.length).set j .none)[p]? = _; rw [List.getElem?_set_ne hne]; exact hpt, ?_⟩
  rw [htake, List.set_comm _ _ (Ne.symm hne)]
  rfl
 | ret =>
  simp only at h2 ⊢
  split at h2
  rotate_left
  ·cases h2
  rename_i hj2
  cases h2
  have e1 : (s1.h.put p z).b[j]? = s1.h.b[j]? := put_get hne
  rw [e1, hj2]
  simp only
  refine ⟨by show ((s1.h.b.take h.b.length).set j .none)[p]? = _; rw [List.getElem?_set_ne hne]; exact hpt, ?_⟩
  rw [htake, List.set_comm _ _ (Ne.symm hne)]
  rfl
include hE in
theorem fra_mapRounds {f : Nat} {rd : Option Nat} {c : Code} {m : Tmp × Tmp × Tmp × Nat × Code} {s : St} (hp : s.h.b[p]? = some .none) : Fra p z (mapRounds E f rd c m s) (mapRounds E f rd c m (upd p z s)) := by
 have efr : (upd p z s).fr = s.fr := rfl
 have eh : (upd p z s).h = s.h.put p z := rfl
 have ems : (upd p z s).ms = s.ms := rfl
 intro r ho
 unfold mapRounds at ho ⊢
 rw [efr, eh, ems]
 split at ho
 rotate_left
 ·cases ho
 rename_i j hit
 split at ho
 rotate_left
 ·cases ho
 rename_i b n left cur hj
 have hne := ne_of hp hj (by intro e; cases e)
 split at ho
 rotate_left
 ·cases ho
 rename_i es hb
 have hne2 := ne_of hp hb (by intro e; cases e)
 split at ho
 rotate_left
 ·cases ho
 rename_i hc
 simp only [hit, put_get hne, hj, put_get hne2, hb]
 rw [if_pos (by rw [put_len]; exact hc)]
 cases left with
 | nil =>
  simp only at ho ⊢
  cases ho
  exact ⟨bare_put hp hne, by rw [put_put hne]; rfl⟩
 | cons x xs =>
  simp only at ho ⊢
  obtain ⟨hn, hall⟩ := agree_all ho
  have key : ∀ i ∈ x :: xs, Bare p r ∧ mapRound E f rd c m.2.2.2.2 j (adelK (adelK s.fr.g m.2.1 id) m.2.2.1 id) (s.h.put p z) s.ms (.mit b n ((x :: xs).erase i) (some i)) = some (upd p z r) := fun i hi =>
   fra_mapRound hE hp hne r (hall _ (List.mem_map.2 ⟨i, hi, rfl⟩))
  refine ⟨(key x (by simp)).1, agree_some (by simp) fun y hy => ?_⟩
  obtain ⟨i, hi, rfl⟩ := List.mem_map.1 hy
  exact (key i hi).2
include hE in
theorem fra_enter {f : Nat} {g : AV} {ps : List Tmp} {asg body : Code} {fr : Frm} {h : Heap} {ms : List Nat} (hp : h.b[p]? = some .none) : Fra p z (enterRange E f g ps asg body fr h ms) (enterRange E f g ps asg body fr (h.put p z) ms) := by
 cases g with
 | clo gf fst cap =>
  rw [enterRange_eq, enterRange_eq, put_len]
  have e : (⟨(h.put p z).b ++ [.loop false .normal false f fr ps asg body], (h.put p z).t⟩ : Heap) = Heap.put ⟨h.b ++ [.loop false .normal false f fr ps asg body], h.t⟩ p z := app_put hp _ _
  rw [e]
  refine Fra.bind (hE.call p z _ _ _ (bare_app hp _)) fun r hr => ?_
  obtain ⟨v, h2⟩ := r
  intro a ha
  unfold afterRange at ha
  split at ha
  ·rename_i hb
   cases ha
   have hne : h.b.length ≠ p := by have := bare_lt hp; omega
   have hr : h2.b[p]? = some .none := hr
   refine ⟨bare_put hr hne, ?_⟩
   show afterRange h.b.length fr ms (h2.put p z) = _
   unfold afterRange
   rw [put_get hne]
   simp only at hb
   rw [hb]
   simp only [put_put hne]
   rfl
  ·cases ha
 | _ => exact Fra.none
theorem fra_endR {A A' : Option St} (h : Fra p z A A') : Fra p z (endR A) (endR A') := Fra.bind h fun s hs => Fra.some (a := ((.normal, ⟨⟨s.fr.g, []⟩, s.h, s.ms⟩) : AExit × St)) hs
theorem fra_thenN {A A' : Option (AExit × St)} {B B' : St → Option (AExit × St)} (hA : Fra p z A A') (hB : ∀ s : St, s.h.b[p]? = some .none → Fra p z (B s) (B' (upd p z s))) : Fra p z (thenN A B) (thenN A' B') := by
 refine Fra.bind hA fun r hr => ?_
 obtain ⟨e, s⟩ := r
 cases e with
 | normal => exact hB s hr
 | exit i => exact Fra.some (a := ((.exit i, s) : AExit × St)) hr
 | ret => exact Fra.some (a := ((.ret, s) : AExit × St)) hr
include hE in
theorem fra_code {f : Nat} {rd : Option Nat} {c : Code} {s : St} (hp : s.h.b[p]? = some .none) : Fra p z (stepCode X E f rd c s) (stepCode X E f rd c (upd p z s)) := by
 cases c with
 | seq a b => rw [step_seq, step_seq]; exact fra_thenN (hE.code _ _ _ _ _ _ hp) fun s' hs' => hE.code _ _ _ _ _ _ hs'
 | loop b =>
  cases hm : mapLoop b with
  | some m =>
   rw [step_map X E f rd b s hm, step_map X E f rd b _ hm]
   exact fra_mapRounds hE hp
  | none =>
  rw [step_loop X E f rd b s hm, step_loop X E f rd b _ hm]
  refine fra_thenN ?_ fun s' hs' => hE.code _ _ _ _ _ _ hs'
  rintro ⟨e, s1⟩ ho
  obtain ⟨r, h1, h2⟩ := Option.map_eq_some_iff.1 ho
  obtain ⟨e2, s2⟩ := r
  obtain ⟨h3, h4⟩ := hE.code p z f rd b s hp _ h1
  rw [h4]
  cases e2 <;> cases h2 <;> exact ⟨h3, rfl⟩
 | block id b =>
  rw [step_block, step_block]
  refine Fra.bind (hE.code _ _ _ _ _ _ hp) fun r hr => ?_
  obtain ⟨e, s1⟩ := r
  cases e with
  | normal => exact Fra.some (a := ((.normal, s1) : AExit × St)) hr
  | ret => exact Fra.some (a := ((.ret, s1) : AExit × St)) hr
  | exit i =>
   show Fra p z (if i = id then _ else _) (if i = id then _ else _)
   split
   ·exact Fra.some (a := ((.normal, s1) : AExit × St)) hr
   ·exact Fra.some (a := ((.exit i, s1) : AExit × St)) hr
 | scope b => exact hE.code _ _ _ _ _ _ hp
 | cond c a b =>
  unfold stepCode
  show Fra p z (match evo s.fr c with | .bool t => _ | _ => _) (match evo s.fr c with | .bool t => _ | _ => _)
  cases evo s.fr c with
  | bool t =>
   simp only
   cases c with
   | tmp u =>
    simp only [condK, adelK_eq]
    split
    ·exact hE.code p z f rd a ⟨_, s.h, s.ms⟩ hp
    ·exact hE.code p z f rd b ⟨_, s.h, s.ms⟩ hp
   | _ =>
    simp only [condK]
    split
    ·exact hE.code p z f rd a s hp
    ·exact hE.code p z f rd b s hp
  | _ => exact Fra.none
 | region id ops draw =>
  have hlt := bare_lt hp
  cases draw with
  | false =>
   rw [step_region, step_region]
   cases isIn deepMark (X.keep f) with
   | false => exact fra_endR (fra_runN hE hp)
   | true => exact fra_endR (fra_runR hE hp)
  | true =>
   have el : (upd p z s).h.b.length = s.h.b.length := put_len
   have et : (upd p z s).h.t = s.h.t := rfl
   have ef : (upd p z s).fr = s.fr := rfl
   have em : (upd p z s).ms = s.ms := rfl
   have eb : (⟨s.fr, ⟨(upd p z s).h.b ++ List.replicate ops.size .none, s.h.t ++ List.replicate ops.size false⟩, s.ms⟩ : St) = upd p z ⟨s.fr, ⟨s.h.b ++ List.replicate ops.size .none, s.h.t ++ List.replicate ops.size false⟩, s.ms⟩ :=
    congrArg (St.mk s.fr · s.ms) (app_put hp _ _)
   rw [step_draw, step_draw, el, et, ef, em, eb]
   split
   ·split
    ·exact Fra.bind (fra_runFam hE hlt (bare_app hp _) _) fun d hd => Fra.some (a := ((.normal, d) : AExit × St)) hd
    ·exact Fra.none
   split
   ·split
    ·exact fra_endR (fra_draw hE hlt _ _ _ hp)
    ·exact Fra.none
   ·split
    ·exact fra_endR (fra_draw hE hlt _ _ _ (bare_app hp _))
    ·exact Fra.none
 | rangeFunc g ps asg body =>
  unfold stepCode
  simp only
  cases rd with
  | none =>
   have e : (⟨(upd p z s).h.b ++ [.mark], (upd p z s).h.t⟩ : Heap) = Heap.put ⟨s.h.b ++ [.mark], s.h.t⟩ p z := app_put hp _ _
   have el : (upd p z s).h.b.length = s.h.b.length := put_len
   simp only [e, el]
   exact fra_enter hE (bare_app hp _)
  | some l =>
   simp only
   intro a ha
   split at ha
   ·rename_i hb
    have hne := ne_of hp hb (by intro e; cases e)
    have e : (upd p z s).h.b[l]? = s.h.b[l]? := put_get hne
    rw [e, hb]
    exact fra_enter hE hp a ha
   ·cases ha
 | skip => exact Fra.some (a := ((.normal, s) : AExit × St)) hp
 | label i => exact Fra.some (a := ((.normal, s) : AExit × St)) hp
 | exit i => exact Fra.some (a := ((.exit i, s) : AExit × St)) hp
 | ret => exact Fra.some (a := ((.ret, s) : AExit × St)) hp
 | _ => exact Fra.none
theorem fra_unmark : ∀ (ms : List Nat) (h : Heap), h.b[p]? = some .none → Fra p z (unmark h ms) (unmark (h.put p z) ms)
 | [], h, hp => Fra.some hp
 | i :: ms, h, hp => by
  intro a ha
  unfold unmark at ha ⊢
  split at ha
  ·rename_i hb
   have hne := ne_of hp hb (by intro e; cases e)
   rw [put_get hne, hb]
   simp only [put_put hne]
   exact fra_unmark ms _ (bare_put hp hne) a ha
  ·cases ha
theorem res_put {fr : Frm} {h : Heap} (hp : h.b[p]? = some .none) : ∀ (rs : List ResultVar) (vs : List AV), resAV X fr h rs = some vs → resAV X fr (h.put p z) rs = some vs
 | [], vs, h => h
 | .tmp t :: r, vs, ho => by
  rw [resAV] at ho ⊢
  obtain ⟨us, h1, h2⟩ := Option.map_eq_some_iff.1 ho
  rw [res_put hp r us h1]; exact congrArg some h2
 | .cell a t :: r, vs, ho => by
  rw [resAV] at ho ⊢
  split at ho
  ·rename_i v h1 us e1 e2
   cases ho
   have := (fra_load hp _ e1 : _ ∧ opLoad X t (getF fr a) (h.put p z) = _)
   rw [this.2, res_put hp r us e2]
   rfl
  ·cases ho
theorem fra_after {fn : Func} {n : Nat} {r : AExit × St} (hn : p < n) (hp : r.2.h.b[p]? = some .none) : Fra p z (afterCall X fn n r) (afterCall X fn n (upd p z r)) := by
 obtain ⟨e, s⟩ := r
 have main : Fra p z ((unmark s.h s.ms).bind fun h' => (resAV X s.fr h' fn.results.toList).map fun vs => leave n (resOne vs) h') ((unmark (s.h.put p z) s.ms).bind fun h' => (resAV X s.fr h' fn.results.toList).map fun vs => leave n (resOne vs) h') := by
  refine Fra.bind (fra_unmark _ _ hp) fun h1 hh => ?_
  intro a ha
  obtain ⟨vs, h2, rfl⟩ := Option.map_eq_some_iff.1 ha
  have hh : h1.b[p]? = some .none := hh
  show _ ∧ (resAV X s.fr (h1.put p z) fn.results.toList).map _ = _
  rw [res_put hh _ _ h2]
  unfold leave
  simp only [Option.map_some]
  split
  ·refine ⟨?_, ?_⟩
   ·show (h1.b.take n)[p]? = _
    rw [List.getElem?_take_of_lt hn]; exact hh
   ·show some (_, (⟨(h1.b.set p z).take n, h1.t⟩ : Heap)) = some (_, (⟨(h1.b.take n).set p z, h1.t⟩ : Heap))
    rw [List.take_set]
  ·exact ⟨hh, rfl⟩
 cases e with
 | normal => exact main
 | ret => exact main
 | exit i => exact Fra.none
include hE in
theorem fra_call {g : Nat} {args : List AV} {h : Heap} (hp : h.b[p]? = some .none) : Fra p z (stepCall X E g args h) (stepCall X E g args (h.put p z)) := by
 cases hf : X.fn.get g with
 | none => unfold stepCall; rw [hf]; exact Fra.none
 | some fn =>
  cases hc : fn.body with
  | none => unfold stepCall; rw [hf]; simp only [hc]; exact Fra.none
  | some c =>
   rw [step_call X E hf hc, step_call X E hf hc, put_len]
   have he : (h.put p z).b.isEmpty = h.b.isEmpty := by
    have : (h.put p z).b.length = h.b.length := put_len
    cases h1 : (h.put p z).b <;> cases h2 : h.b <;> simp [h1, h2] at this ⊢
   rw [he]
   split
   ·exact Fra.none
   exact Fra.bind (hE.code p z g none c ⟨⟨zipFrom (X.keep g) 0 args, []⟩, h, []⟩ hp) fun r hr => fra_after (bare_lt hp) hr
end
theorem fra_eng (X : Tab) : ∀ n, FrE (eng X n)
 | 0 => ⟨fun _ _ _ _ _ _ => Fra.none, fun _ _ _ _ _ _ _ => Fra.none⟩
 | n + 1 => ⟨fun _ _ _ _ _ hp => fra_call (fra_eng X n) hp, fun _ _ _ _ _ _ hp => fra_code (fra_eng X n) hp⟩
end
section
open Go.RowKit
section
variable {X : Tab} {L : List Nat} {E : Eng} {ops : Array Oper} {n0 : Nat × Nat} {q : Nat → Bool}
noncomputable def stepG (X : Tab) (E : Eng) (L : List Nat) (ops : Array Oper) (n0 : Nat × Nat) (q : Nat → Bool) (i : Nat) (s : St) : Option St :=
 match ops.toList[i]? with
 | some o => oneS X E L ops.toList (q i) (posL n0 ops.size i) o s
 | none => some s
noncomputable def runG (X : Tab) (E : Eng) (L : List Nat) (ops : Array Oper) (n0 : Nat × Nat) (q : Nat → Bool) : List Nat → St → Option St
 | [], s => some s
 | i :: is, s => (stepG X E L ops n0 q i s).bind (runG X E L ops n0 q is)
theorem stepG_fi {i : Nat} {s s1 : St} (hi : FI L s.fr) (h : stepG X E L ops n0 q i s = some s1) : FI L s1.fr := by
 unfold stepG at h
 split at h
 ·obtain ⟨v, h', _, hb⟩ := does_of hi h; exact hb.fi
 ·cases h; exact hi
theorem runG_fi : ∀ (is : List Nat) (s sf : St), FI L s.fr → runG X E L ops n0 q is s = some sf → FI L sf.fr
 | [], s, sf, hi, h => by cases h; exact hi
 | k :: is, s, sf, hi, h => by
  obtain ⟨s', g1, g2⟩ := Option.bind_eq_some_iff.1 h
  exact runG_fi is s' sf (stepG_fi hi g1) g2
theorem stepG_eqv {i : Nat} {s s' s1 : St} (he : Eqv L s s') (h : stepG X E L ops n0 q i s = some s1) : ∃ s1', stepG X E L ops n0 q i s' = some s1' ∧ Eqv L s1 s1' := by
 unfold stepG at h ⊢
 split at h
 ·rename_i o ho
  obtain ⟨v, h', hd, hb⟩ := does_of he.fi h
  have hd' := does_congr (fun t _ => he.fr t) hd
  rw [he.h] at hd'
  obtain ⟨s1', h1, h2⟩ := oneS_does he.fi' hd'
  rw [he.ms] at hb
  exact ⟨s1', h1, hb.eqv h2 he.fr⟩
 ·cases h; exact ⟨s', rfl, he⟩
theorem runG_eqv : ∀ (is : List Nat) (s s' sf : St), Eqv L s s' → runG X E L ops n0 q is s = some sf → ∃ sf', runG X E L ops n0 q is s' = some sf' ∧ Eqv L sf sf'
 | [], s, s', sf, he, h => by cases h; exact ⟨s', rfl, he⟩
 | i :: is, s, s', sf, he, h => by
  obtain ⟨s1, h1, h2⟩ := Option.bind_eq_some_iff.1 h
  obtain ⟨s1', h3, h4⟩ := stepG_eqv he h1
  obtain ⟨sf', h5, h6⟩ := runG_eqv is s1 s1' sf h4 h2
  exact ⟨sf', Option.bind_eq_some_iff.2 ⟨s1', h3, h5⟩, h6⟩
structure TextOk (ops : Array Oper) : Prop where
 edge : ∀ (i : Nat) (o : Oper), ops[i]? = some o → ∀ e ∈ o.after, Region.binds .any e = true → e.on < i
 apart : ∀ (i j : Nat) (x y : Oper), i < j → ops[i]? = some x → ops[j]? = some y → earlier (Region.before ops).toList i j = false → Oper.apart ops x y = true
theorem textOk_of (h : drawTxt ops = true) : TextOk ops := by
 unfold drawTxt at h
 simp only [Bool.and_eq_true] at h
 obtain ⟨h1, h2⟩ := h
 refine ⟨fun i o ho e he hb => ?_, fun i j x y hij hx hy hn => ?_⟩
 ·have hm : (o, i) ∈ ops.toList.zipIdx := by
   rw [List.mem_iff_getElem?]
   exact ⟨i, by rw [List.getElem?_zipIdx]; simp [ho]⟩
  have := List.all_eq_true.1 h1 _ hm
  simp only at this
  have := List.all_eq_true.1 this e (by simpa using he)
  rw [hb] at this
  simpa using this
 ·have hj : j < ops.toList.length := by have := (Array.getElem?_eq_some_iff.1 hy).1; simpa using this
  have := List.all_eq_true.1 h2 _ (mem_pairs hij hj)
  simp only [hn, Bool.false_or] at this
  have hx' : ops.toList[i]? = some x := by simpa using hx
  have hy' : ops.toList[j]? = some y := by simpa using hy
  rw [hx', hy'] at this
  simpa using this
theorem stat_swaps {x y : Op} {qx qy : Bool} {fr : Frm} (h : statOk qx qy x y = true) : Swaps x y qx qy fr fr := by
 unfold statOk at h
 simp only [Bool.or_eq_true] at h
 rcases h with (h | h) | h
 ·exact .inl h
 ·exact .inr (.inl h)
 ·split at h
  ·rename_i a b; exact .inr (.inr (.inl ⟨a, b⟩))
  ·rename_i a b; exact .inr (.inr (.inr (.inl ⟨a, b⟩)))
  ·rename_i a b; exact .inr (.inr (.inr (.inr (.inl ⟨a, b⟩))))
  ·cases h
theorem lay_does (hF : FrE E) {all : List Oper} {x y : Oper} {qx qy : Bool} {px py : Nat × Nat} {fr : Frm} {h h1 h2 : Heap} {u v : AV} (hl : layOp y.op = true) (hb : h.b[py.1]? = some .none) (hne : px.1 ≠ py.1)
  (hx : Does X E all qx px x fr h u h1) (hy : Does X E all qy py y fr h1 v h2) : ∃ h3, Does X E all qy py y fr h v h3 ∧ Does X E all qx px x fr h3 u h2 := by
 have hop : ∀ h, opAt X E qy py y.op fr h = stepOp X py y.op fr h := fun h => by
  unfold opAt
  split
  ·rename_i c e; rw [e] at hl; cases hl
  ·rfl
 have put_of : ∀ {g : Heap} {w : ABlk}, g.b[py.1]? = some .none → hput g py.1 w = g.put py.1 w := fun {g w} hg => by
  simp only [hput, lset, Heap.put, if_pos (bare_lt hg)]
 rcases hy with ⟨gy, hy⟩ | ⟨gy, rfl, rfl⟩
 ·rw [hop] at hy
  obtain ⟨w, rfl, hall⟩ := lay_step hl hy
  refine ⟨_, .inl ⟨gy, by rw [hop]; exact hall h⟩, ?_⟩
  rcases hx with ⟨gx, hx⟩ | ⟨gx, rfl, rfl⟩
  ·have := fra_opAt (z := w) hF hb hne _ hx
   refine .inl ⟨gx, ?_⟩
   have hb1 : h1.b[py.1]? = some .none := this.1
   rw [put_of hb, put_of hb1]
   exact this.2
  ·exact .inr ⟨gx, rfl, rfl⟩
 ·exact ⟨h, .inr ⟨gy, rfl, rfl⟩, hx⟩
def FreeP (ops : Array Oper) (q : Nat → Bool) (i j : Nat) : Prop := i ≠ j ∧ earlier (Region.before ops).toList i j = false ∧ earlier (Region.before ops).toList j i = false ∧
 ∀ x y, ops[i]? = some x → ops[j]? = some y → statOk (q i) (q j) x.op y.op = true ∨ layOp y.op = true
theorem swapG (hF : FrE E) (hd : TextOk ops) {i j : Nat} (hf : FreeP ops q i j) {s s1 s2 : St} (hi : FI L s.fr) (hbare : s.h.b[n0.1 + (ops.size - 1 - j)]? = some .none)
  (h1 : stepG X E L ops n0 q i s = some s1) (h2 : stepG X E L ops n0 q j s1 = some s2) : ∃ s1' s2', stepG X E L ops n0 q j s = some s1' ∧ stepG X E L ops n0 q i s1' = some s2' ∧ Eqv L s2 s2' := by
 obtain ⟨hne, n1, n2, hst⟩ := hf
 have hi1 := stepG_fi hi h1
 cases hx : ops.toList[i]? with
 | none =>
  simp only [stepG, hx, Option.some.injEq] at h1 ⊢
  subst h1
  exact ⟨s2, s2, h2, rfl, Eqv.refl (stepG_fi hi h2)⟩
 | some x =>
  cases hy : ops.toList[j]? with
  | none =>
   simp only [stepG, hy, Option.some.injEq] at h2 ⊢
   subst h2
   exact ⟨s, s1, rfl, h1, Eqv.refl hi1⟩
  | some y =>
   have hx' : ops[i]? = some x := by simpa using hx
   have hy' : ops[j]? = some y := by simpa using hy
   have hsw := hst x y hx' hy'
   have hap : (∀ t, x.dst = some t → t ∉ y.looksAt ops) ∧ (∀ t, x.dst = some t → y.dst ≠ some t) ∧ (∀ t, y.dst = some t → t ∉ x.looksAt ops) := by
    rcases Nat.lt_or_gt_of_ne hne with h | h
    ·obtain ⟨a, b, c⟩ := Oper.apart_spec (hd.apart i j x y h hx' hy' n1)
     exact ⟨a, b, c⟩
    ·obtain ⟨a, b, c⟩ := Oper.apart_spec (hd.apart j i y x h hy' hx' n2)
     exact ⟨c, fun t e e2 => b t e2 e, a⟩
   obtain ⟨ap1, ap2, ap3⟩ := hap
   simp only [stepG, hx, hy] at h1 h2 ⊢
   obtain ⟨u, g1, d1, b1⟩ := does_of hi h1
   obtain ⟨v, g2, d2, b2⟩ := does_of hi1 h2
   rw [b1.h] at d2
   have d2' := does_congr (fr' := s.fr) (fun t ht => by
    rw [b1.fr, if_neg]
    intro e; exact ap1 t e ht) d2
   obtain ⟨g3, d3, d4⟩ := hsw.elim (fun h => swap_does (stat_swaps (fr := s.fr) h) d1 d2') (fun h => lay_does hF h hbare (by have := (Array.getElem?_eq_some_iff.1 hx').1; have := (Array.getElem?_eq_some_iff.1 hy').1; show n0.1 + (ops.size - 1 - i) ≠ n0.1 + (ops.size - 1 - j); omega) d1 d2')
   obtain ⟨s1', e1, c1⟩ := oneS_does hi d3
   have d4' := does_congr (fr' := s1'.fr) (fun t ht => by
    rw [c1.fr, if_neg]
    intro e; exact ap3 t e ht) d4
   rw [← c1.h] at d4'
   obtain ⟨s2', e2, c2⟩ := oneS_does c1.fi d4'
   refine ⟨s1', s2', e1, e2, ⟨fun t => ?_, b2.h.trans c2.h.symm, ?_, b2.fi, c2.fi⟩⟩
   ·rw [b2.fr, c2.fr, b1.fr, c1.fr]
    by_cases ht : x.dst = some t
    ·rw [if_neg (ap2 t ht), if_pos ht, if_pos ht]
    ·rw [if_neg ht, if_neg ht]
   ·rw [b2.ms, b1.ms, c2.ms, c1.ms]
theorem stepG_bare (hF : FrE E) {i j : Nat} (hne : i ≠ j) (hj : j < ops.size) {s s1 : St} (hb : s.h.b[n0.1 + (ops.size - 1 - j)]? = some .none) (h : stepG X E L ops n0 q i s = some s1) : s1.h.b[n0.1 + (ops.size - 1 - j)]? = some .none := by
 unfold stepG at h
 split at h
 ·rename_i o ho
  have hil : i < ops.size := by have := (List.getElem?_eq_some_iff.1 ho).1; simpa using this
  exact (fra_one (z := .none) hF hb (by show n0.1 + (ops.size - 1 - i) ≠ n0.1 + (ops.size - 1 - j); omega) _ h).1
 ·cases h; exact hb
theorem takeG (hF : FrE E) (hd : TextOk ops) {i : Nat} (hil : i < ops.size) : ∀ (R : List Nat) (s sf : St), i ∈ R → (∀ j ∈ R.takeWhile (· != i), FreeP ops q j i) → FI L s.fr → s.h.b[n0.1 + (ops.size - 1 - i)]? = some .none → runG X E L ops n0 q R s = some sf →
  ∃ s1 sf', stepG X E L ops n0 q i s = some s1 ∧ runG X E L ops n0 q (R.erase i) s1 = some sf' ∧ Eqv L sf sf'
 | [], s, sf, hm, _, _, _, _ => by cases hm
 | r :: R, s, sf, hm, hn, hi, hb0, h => by
  obtain ⟨s1, h1, h2⟩ := Option.bind_eq_some_iff.1 h
  by_cases e : r = i
  ·subst e
   refine ⟨s1, sf, h1, ?_, Eqv.refl (runG_fi R s1 sf (stepG_fi hi h1) h2)⟩
   rw [List.erase_cons_head]; exact h2
  ·have hm' : i ∈ R := by
    rcases List.mem_cons.1 hm with h | h
    ·exact absurd h.symm e
    ·exact h
   have hb : (r != i) = true := by simpa using e
   rw [List.takeWhile_cons_of_pos (p := (· != i)) hb] at hn
   obtain ⟨s2, sf', h3, h4, h5⟩ := takeG hF hd hil R s1 sf hm' (fun j hj => hn j (List.mem_cons_of_mem _ hj)) (stepG_fi hi h1) (stepG_bare hF e hil hb0 h1) h2
   obtain ⟨s1', s2', g1, g2, g3⟩ := swapG hF hd (hn r (by simp)) hi hb0 h1 h3
   obtain ⟨sf'', g4, g5⟩ := runG_eqv _ _ _ _ g3 h4
   refine ⟨s1', sf'', g1, ?_, h5.trans g5⟩
   rw [List.erase_cons_tail (by simpa using e)]
   exact Option.bind_eq_some_iff.2 ⟨s2', g2, g4⟩
theorem ordered_pw {b : List Nat} : ∀ {l : List Nat}, ordered b l = true ↔ l.Pairwise fun i j => earlier b j i = false
 | [] => by simp [ordered]
 | i :: r => by
  simp only [ordered, Bool.and_eq_true, List.all_eq_true, Bool.not_eq_true', List.pairwise_cons, ordered_pw (l := r)]
theorem before_of {R : Nat → Nat → Prop} {i : Nat} : ∀ {l : List Nat}, l.Pairwise R → i ∈ l → ∀ j ∈ l.takeWhile (· != i), R j i
 | [], _, hm, _, _ => by cases hm
 | r :: l, hp, hm, j, hj => by
  obtain ⟨h1, h2⟩ := List.pairwise_cons.1 hp
  by_cases e : r = i
  ·subst e
   rw [List.takeWhile_cons_of_neg (by simp)] at hj; cases hj
  ·have hm' : i ∈ l := by
    rcases List.mem_cons.1 hm with h | h
    ·exact absurd h.symm e
    ·exact h
   rw [List.takeWhile_cons_of_pos (p := (· != i)) (by simpa using e)] at hj
   rcases List.mem_cons.1 hj with h | h
   ·subst h; exact h1 i hm'
   ·exact before_of h2 hm' j h
theorem covers_ne {b : List Nat} {cf : Nat → Nat → Bool} {n : Nat} {D : List Nat} {F : List (List Nat)} (h : covers b cf n D F = true) : F ≠ [] := by
 intro e; subst e
 cases n <;> simp [covers] at h
theorem filter_takeWhile {p : Nat → Bool} {i : Nat} (hp : p i = true) : ∀ l : List Nat, (l.filter p).takeWhile (· != i) = (l.takeWhile (· != i)).filter p
 | [] => rfl
 | r :: l => by
  by_cases e : r = i
  ·subst e
   rw [List.filter_cons_of_pos hp, List.takeWhile_cons_of_neg (by simp), List.takeWhile_cons_of_neg (by simp)]; rfl
  ·have hb : (r != i) = true := by simpa using e
   rw [List.takeWhile_cons_of_pos (p := (· != i)) hb]
   cases hr : p r with
   | true => rw [List.filter_cons_of_pos hr, List.filter_cons_of_pos hr, List.takeWhile_cons_of_pos (p := (· != i)) hb, filter_takeWhile hp l]
   | false => rw [List.filter_cons_of_neg (by simp [hr]), List.filter_cons_of_neg (by simp [hr]), filter_takeWhile hp l]
theorem filter_erase {p : Nat → Bool} {i : Nat} : ∀ l : List Nat, (l.erase i).filter p = if p i = true then (l.filter p).erase i else l.filter p
 | [] => by split <;> rfl
 | r :: l => by
  by_cases e : r = i
  ·subst e
   rw [List.erase_cons_head]
   split
   ·rename_i h; rw [List.filter_cons_of_pos h, List.erase_cons_head]
   ·rename_i h; rw [List.filter_cons_of_neg h]
  ·rw [List.erase_cons_tail (by simpa using e)]
   have ih := filter_erase (p := p) (i := i) l
   cases hr : p r with
   | true =>
    rw [List.filter_cons_of_pos hr, List.filter_cons_of_pos hr, ih]
    split
    ·rw [List.erase_cons_tail (by simpa using e)]
    ·rfl
   | false => rw [List.filter_cons_of_neg (by simp [hr]), List.filter_cons_of_neg (by simp [hr]), ih]
theorem front_filter {n : Nat} {cf : Nat → Nat → Bool} {i : Nat} (hi : involved cf n i = true) {l : List Nat} (hl : ∀ k ∈ l, k < n) (hin : i < n) : frontB cf i (l.filter (involved cf n)) = frontB cf i l := by
 unfold frontB
 rw [filter_takeWhile hi, Bool.eq_iff_iff]
 simp only [List.all_eq_true, List.mem_filter, Bool.not_eq_true']
 constructor
 ·intro h k hk
  cases hc : cf k i with
  | false => rfl
  | true =>
   have : involved cf n k = true := List.any_eq_true.2 ⟨i, by simpa using hin, by simp [hc]⟩
   rw [h k ⟨hk, this⟩] at hc; cases hc
 ·intro h k hk; exact h k hk.1
variable {P : Program} (hX : Fits P X) {base : Nat} {w0 : World} {rd : Option Nat} {F : Fence} {N : Nat} {d : St} {l0 : List (Nat × Bool)}
include hX in
theorem sound_anyF (hE : SoundCall P X E) (hR : SoundRound P X E) (hG : FrE E) (hd : TextOk ops) (hok : okOps N ops.toList = true) {n : Nat} {Q : Exit → Act → World → Prop} {C0 : Ctx} (h0 : ∀ f, C0.fl f = true → f ≤ n0.1) :
  ∀ (fuel : Nat) (listed : Array Bool) (C : Ctx) (s : St) (a : Act) (w : World) (Fm : List (List Nat)), listed.size = ops.size → (unlisted ops.size listed).length ≤ fuel → Down ops listed → At X C base w0 rd F L N s a w →
   (∀ l ∈ Fm, l.Perm (unlisted ops.size listed) ∧ ordered (Region.before ops).toList l = true ∧ ∃ sg sl, runG X E L ops n0 (fun i => !loudIn l0 i) l s = some sg ∧ Eqv L sl sg ∧ dropS sl = d) →
   covers (Region.before ops).toList (confl (Region.before ops).toList ops.toList l0) ((unlisted ops.size listed).filter (involved (confl (Region.before ops).toList ops.toList l0) ops.size)).length
    ((unlisted ops.size listed).filter (involved (confl (Region.before ops).toList ops.toList l0) ops.size)) (Fm.map (List.filter (involved (confl (Region.before ops).toList ops.toList l0) ops.size))) = true →
   C0.le base C → Stab n0 C0 C → n0.1 + ops.size ≤ s.h.b.length → n0.2 + ops.size ≤ s.h.t.length →
   (∀ i ∈ unlisted ops.size listed, C.ok (n0.1 + (ops.size - 1 - i)) = false ∧ C.tk (n0.2 + i) = false) →
   (∀ C' a' w' s' sl, C0.le base C' → Stab n0 C0 C' → At X C' base w0 rd F L N s' a' w' → Eqv L sl s' → dropS sl = d → n0.1 ≤ s'.h.b.length → n0.2 ≤ s'.h.t.length → Q .normal a' w') →
   wpAnyIn F n P .any ops Q fuel listed a w := by
 intro fuel
 have last : ∀ (listed : Array Bool) (C : Ctx) (s : St) (a : Act) (w : World) (Fm : List (List Nat)), unlisted ops.size listed = [] → At X C base w0 rd F L N s a w →
   (∀ l ∈ Fm, l.Perm (unlisted ops.size listed) ∧ ordered (Region.before ops).toList l = true ∧ ∃ sg sl, runG X E L ops n0 (fun i => !loudIn l0 i) l s = some sg ∧ Eqv L sl sg ∧ dropS sl = d) → Fm ≠ [] →
   C0.le base C → Stab n0 C0 C → n0.1 + ops.size ≤ s.h.b.length → n0.2 + ops.size ≤ s.h.t.length →
   (∀ C' a' w' s' sl, C0.le base C' → Stab n0 C0 C' → At X C' base w0 rd F L N s' a' w' → Eqv L sl s' → dropS sl = d → n0.1 ≤ s'.h.b.length → n0.2 ≤ s'.h.t.length → Q .normal a' w') → Q .normal a w := by
  intro listed C s a w Fm hnil hat hF hne hle hst hb ht hQ
  obtain ⟨l, hl⟩ := List.exists_mem_of_ne_nil _ hne
  obtain ⟨h1, _, sg, sl, h3, h4, h5⟩ := hF l hl
  rw [hnil] at h1
  have := h1.eq_nil
  subst this
  simp only [runG, Option.some.injEq] at h3
  subst h3
  exact hQ C a w s sl hle hst hat h4 h5 (by omega) (by omega)
 induction fuel with
 | zero =>
  intro listed C s a w Fm hs hf hdn hat hF hcov hle hst hb ht hfree hQ
  have hnil : unlisted ops.size listed = [] := List.eq_nil_of_length_eq_zero (by omega)
  have hr : Region.ready .any ops listed = [] := by
   cases hr : Region.ready .any ops listed with
   | nil => rfl
   | cons i is =>
    have hm : i ∈ Region.ready .any ops listed := by rw [hr]; simp
    obtain ⟨h1, o, ho, _⟩ := mem_ready.1 hm
    have : i ∈ unlisted ops.size listed := List.mem_filter.2 ⟨List.mem_range.2 (Array.getElem?_eq_some_iff.1 ho).1, by simp only [h1]; rfl⟩
    rw [hnil] at this; cases this
  exact ⟨hr, last listed C s a w Fm hnil hat hF (fun e => by rw [e] at hcov; exact covers_ne hcov rfl) hle hst hb ht hQ⟩
 | succ fuel ih =>
  intro listed C s a w Fm hs hf hdn hat hF hcov hle hst hb ht hfree hQ
  have hne : Fm ≠ [] := fun e => by rw [e] at hcov; exact covers_ne hcov rfl
  refine ⟨fun hr => ?_, fun i hi => ?_⟩
  ·cases hun : unlisted ops.size listed with
   | nil => exact last listed C s a w Fm hun hat hF hne hle hst hb ht hQ
   | cons r R =>
    exfalso
    have hsort := unlisted_sorted ops.size listed
    rw [hun] at hsort
    have hmin : ∀ j ∈ unlisted ops.size listed, r ≤ j := fun j hj => by
     rw [hun] at hj
     rcases List.mem_cons.1 hj with e | h
     ·omega
     ·exact Nat.le_of_lt ((List.pairwise_cons.1 hsort).1 j h)
    have hr0 : r ∈ unlisted ops.size listed := by rw [hun]; simp
    obtain ⟨hr1, hr2⟩ := List.mem_filter.1 hr0
    have hr1 := List.mem_range.1 hr1
    have ho : ops[r]? = some ops[r] := Array.getElem?_eq_getElem hr1
    have hready : r ∈ Region.ready .any ops listed := by
     refine mem_ready.2 ⟨by simpa using hr2, ops[r], ho, fun e he hbd => ?_⟩
     have hlt := hd.edge r _ ho e he hbd
     have hlt2 : e.on < listed.size := by omega
     cases hl : listed.getD e.on true with
     | true =>
      rw [Array.getD_eq_getD_getElem?, Array.getElem?_eq_getElem hlt2] at hl ⊢
      simpa using hl
     | false =>
      have := hmin e.on (List.mem_filter.2 ⟨List.mem_range.2 (by omega), by simp only [hl]; rfl⟩)
      omega
    rw [hr] at hready; cases hready
  ·obtain ⟨h1, o, ho, hedges⟩ := mem_ready.1 hi
   have hilt := (Array.getElem?_eq_some_iff.1 ho).1
   have him : i ∈ unlisted ops.size listed := List.mem_filter.2 ⟨List.mem_range.2 hilt, by simp only [h1]; rfl⟩
   have hdown := ready_down hdn hs hi
   have hnb : ∀ j ∈ unlisted ops.size listed, earlier (Region.before ops).toList j i = false := fun j hj => by
    cases hh : earlier (Region.before ops).toList j i with
    | false => rfl
    | true =>
     have hl := hdown j hh
     obtain ⟨hj1, hj2⟩ := List.mem_filter.1 hj
     have hj1 := List.mem_range.1 hj1
     rw [Array.getD_eq_getD_getElem?, Array.getElem?_eq_getElem (by omega)] at hl hj2
     simp at hl hj2
     rw [hl] at hj2; cases hj2
   have hltu : ∀ j ∈ unlisted ops.size listed, j < ops.size := fun j hj => List.mem_range.1 (List.mem_filter.1 hj).1
   have hset := unlisted_set hs i hilt
   generalize hcf : confl (Region.before ops).toList ops.toList l0 = cf at hcov
   -- what covers the rest
   have hcov' : covers (Region.before ops).toList cf ((unlisted ops.size (listed.setIfInBounds i true)).filter (involved cf ops.size)).length
     ((unlisted ops.size (listed.setIfInBounds i true)).filter (involved cf ops.size)) (((Fm.filter (frontB cf i)).map (·.erase i)).map (List.filter (involved cf ops.size))) = true := by
    rw [hset]
    cases hinv : involved cf ops.size i with
    | false =>
     have hall : ∀ l ∈ Fm, frontB cf i l = true := fun l hl => by
      unfold frontB
      rw [List.all_eq_true]
      intro k hk
      have hkl : k ∈ l := (List.takeWhile_sublist _).subset hk
      have hk2 := hltu k ((hF l hl).1.mem_iff.1 hkl)
      cases hc : cf k i with
      | false => rfl
      | true =>
       have : involved cf ops.size i = true := List.any_eq_true.2 ⟨k, by simpa using hk2, by simp [hc]⟩
       rw [hinv] at this; cases this
     have e1 : Fm.filter (frontB cf i) = Fm := List.filter_eq_self.2 hall
     have e2 : (Fm.map (·.erase i)).map (List.filter (involved cf ops.size)) = Fm.map (List.filter (involved cf ops.size)) := by
      rw [List.map_map]
      apply List.map_congr_left
      intro l _
      simp only [Function.comp, filter_erase, hinv, Bool.false_eq_true, if_false]
     rw [e1, e2, filter_erase, hinv]
     simpa using hcov
    | true =>
     have hiD : i ∈ (unlisted ops.size listed).filter (involved cf ops.size) := List.mem_filter.2 ⟨him, hinv⟩
     obtain ⟨m, hm⟩ : ∃ m, ((unlisted ops.size listed).filter (involved cf ops.size)).length = m + 1 := ⟨_, (Nat.succ_pred_eq_of_pos (List.length_pos_of_mem hiD)).symm⟩
     rw [hm] at hcov
     simp only [covers, Bool.and_eq_true] at hcov
     have h3 := List.all_eq_true.1 hcov.2 i hiD
     rw [Bool.or_eq_true] at h3
     have h4 : ¬ ((unlisted ops.size listed).filter (involved cf ops.size)).any (fun j => earlier (Region.before ops).toList j i) = true := by
      rw [List.any_eq_true]
      rintro ⟨j, hj, he⟩
      rw [hnb j (List.mem_filter.1 hj).1] at he; cases he
     have h5 := h3.resolve_left h4
     have e1 : ((Fm.filter (frontB cf i)).map (·.erase i)).map (List.filter (involved cf ops.size)) = ((Fm.map (List.filter (involved cf ops.size))).filter (frontB cf i)).map (·.erase i) := by
      rw [List.filter_map, List.map_map, List.map_map]
      have e0 : Fm.filter (frontB cf i) = Fm.filter (frontB cf i ∘ List.filter (involved cf ops.size)) := by
       apply List.filter_congr
       intro l hl
       exact (front_filter hinv (fun k hk => hltu k ((hF l hl).1.mem_iff.1 hk)) hilt).symm
      rw [e0]
      apply List.map_congr_left
      intro l _
      simp only [Function.comp, filter_erase, hinv, if_true]
     rw [e1, filter_erase, hinv, if_pos rfl, List.length_erase_of_mem hiD, hm]
     exact h5
   have hne' : (Fm.filter (frontB cf i)) ≠ [] := fun e => by
    rw [e] at hcov'; exact covers_ne hcov' rfl
   have hbare : s.h.b[n0.1 + (ops.size - 1 - i)]? = some .none := by
    have hlt : n0.1 + (ops.size - 1 - i) < s.h.b.length := by omega
    have e := List.getElem?_eq_getElem hlt
    by_cases hx : s.h.b[n0.1 + (ops.size - 1 - i)] = .none
    ·rw [e, hx]
    ·have := (hat.rel.has _ _ e hx).1
     rw [(hfree i him).1] at this; cases this
   have htake : ∀ l ∈ Fm.filter (frontB cf i), ∃ s1 sg' sl, stepG X E L ops n0 (fun i => !loudIn l0 i) i s = some s1 ∧ runG X E L ops n0 (fun i => !loudIn l0 i) (l.erase i) s1 = some sg' ∧ Eqv L sl sg' ∧ dropS sl = d := fun l hl => by
    obtain ⟨hl1, hl2⟩ := List.mem_filter.1 hl
    obtain ⟨hp, hor, sg, sl, hrun, heq, hdr⟩ := hF l hl1
    have hil : i ∈ l := hp.mem_iff.2 him
    obtain ⟨s1, sg', g1, g2, g3⟩ := takeG hG hd hilt l s sg hil (fun j hj => by
     have hjl : j ∈ l := (List.takeWhile_sublist _).subset hj
     have hju := hp.mem_iff.1 hjl
     have hji : j ≠ i := by
      have := List.all_eq_true.1 (List.all_takeWhile (p := (· != i)) (l := l)) j hj
      simpa using this
     have hor2 := before_of (ordered_pw.1 hor) hil j hj
     refine ⟨hji, hnb j hju, hor2, fun x y hx hy => ?_⟩
     have hc := List.all_eq_true.1 hl2 j hj
     rw [← hcf] at hc
     simp only [confl, hnb j hju, hor2, Bool.not_false, Bool.true_and, Bool.not_eq_true'] at hc
     have hx' : ops.toList[j]? = some x := by simpa using hx
     have hy' : ops.toList[i]? = some y := by simpa using hy
     have hb : (j != i) = true := by simpa using hji
     rw [hx', hy', hb, Bool.true_and] at hc
     cases hly : layOp y.op with
     | true => exact .inr rfl
     | false => left; simpa [hly] using hc) hat.fi hbare hrun
    exact ⟨s1, sg', sl, g1, g2, heq.trans g3, hdr⟩
   obtain ⟨la, hla⟩ := List.exists_mem_of_ne_nil _ hne'
   obtain ⟨s1, _, _, g1, _⟩ := htake la hla
   have hstep := g1
   have ho' : ops.toList[i]? = some o := by simpa using ho
   simp only [stepG, ho', posL] at g1
   obtain ⟨f1, f2⟩ := hfree i him
   refine sound_one hX hE hR hat (p := (n0.1 + (ops.size - 1 - i), n0.2 + i)) (fun f hf => by rw [hle.fl] at hf; have := h0 f hf; show f ≤ n0.1 + (ops.size - 1 - i); omega) ⟨f1, by show n0.1 + (ops.size - 1 - i) ≤ _; omega⟩ ⟨f2, by show n0.2 + i ≤ _; omega⟩ ho (okOps_get hok i o ho) g1 fun C' a' w' hl hstay hlen hat' => ?_
   refine ih (listed.setIfInBounds i true) C' s1 a' w' ((Fm.filter (frontB cf i)).map (·.erase i)) (by simp [hs]) ?_ (hdn.set hs hi) hat' ?_ (by rw [hcf]; exact hcov') (hle.trans hl) ?_ (Nat.le_trans hb hlen.1) (Nat.le_trans ht hlen.2) ?_ hQ
   ·rw [hset, List.length_erase_of_mem him]; omega
   ·intro l' hl'
    obtain ⟨l, hl, rfl⟩ := List.mem_map.1 hl'
    obtain ⟨s1', sg', sl, k1, k2, k3, k4⟩ := htake l hl
    rw [hstep] at k1
    cases k1
    obtain ⟨hp, hor, _⟩ := hF l (List.mem_filter.1 hl).1
    refine ⟨by rw [hset]; exact hp.erase i, ordered_pw.2 ((ordered_pw.1 hor).sublist List.erase_sublist), sg', sl, k2, k3, k4⟩
   ·exact hst.trans ⟨fun k hk => hstay.ok k (by omega) (by show k ≠ n0.1 + (ops.size - 1 - i); omega), fun k hk => hstay.tk k (by omega) (by show k ≠ n0.2 + i; omega)⟩
   ·intro k hk
    rw [hset] at hk
    have hnd : (unlisted ops.size listed).Nodup := List.Pairwise.filter _ List.nodup_range
    have hkm := (hnd.mem_erase_iff.1 hk)
    obtain ⟨k1, k2⟩ := hfree k hkm.2
    have hklt := List.mem_range.1 (List.mem_filter.1 hkm.2).1
    have hne := hkm.1
    exact ⟨(hstay.ok (n0.1 + (ops.size - 1 - k)) (by omega) (by show n0.1 + (ops.size - 1 - k) ≠ n0.1 + (ops.size - 1 - i); omega)).trans k1, (hstay.tk (n0.2 + k) (by omega) (by show n0.2 + k ≠ n0.2 + i; omega)).trans k2⟩
theorem runL_G (s : St) : ∀ (l : List (Nat × Bool)), (∀ p ∈ l, p.2 = loudIn l0 p.1) → ∀ s sl, runL X E L ops.toList n0 l s = some sl → runG X E L ops n0 (fun i => !loudIn l0 i) (l.map (·.1)) s = some sl
 | [], _, s, sl, h => by
  rw [runL] at h; exact h
 | (i, c) :: l, hl, s, sl, h => by
  have hc : c = loudIn l0 i := hl (i, c) (by simp)
  rw [runL] at h
  split at h
  ·rename_i o ho
   rw [oneOp_eq] at h
   obtain ⟨s1, h1, h2⟩ := Option.bind_eq_some_iff.1 h
   rw [List.map_cons]
   unfold runG
   refine Option.bind_eq_some_iff.2 ⟨s1, ?_, runL_G s l (fun p hp => hl p (List.mem_cons_of_mem _ hp)) s1 sl h2⟩
   unfold stepG
   rw [ho]
   simp only [← hc]
   exact h1
  ·cases h
theorem runFam_inv {s d : St} {all : List Oper} : ∀ (F : List (List (Nat × Bool))), runFam X E L all n0 s F = some d → ∀ l ∈ F, ∃ sl, runL X E L all n0 l s = some sl ∧ dropS sl = d
 | [], _, l, hl => by cases hl
 | [m], h, l, hl => by
  rw [runFam] at h
  obtain ⟨s1, h1, h2⟩ := Option.bind_eq_some_iff.1 h
  obtain rfl : l = m := by simpa using hl
  exact ⟨s1, h1, Option.some.inj h2⟩
 | m :: k :: ls, h, l, hl => by
  rw [runFam] at h
  obtain ⟨s1, h1, h2⟩ := Option.bind_eq_some_iff.1 h
  obtain ⟨d1, h3, h4⟩ := Option.bind_eq_some_iff.1 h2
  split at h4
  ·rename_i he
   cases h4
   rcases List.mem_cons.1 hl with rfl | hl
   ·exact ⟨s1, h1, he⟩
   ·exact runFam_inv (k :: ls) h3 l hl
  ·cases h4
include hX in
theorem sound_fam (hE : SoundCall P X E) (hR : SoundRound P X E) (hF : FrE E) : SoundFam P X E := by
 intro f id ops rd s d C base w0 w a N F Fa hfam hrun hat hok hdr n
 have hd := textOk_of hdr
 refine wpIn_region_any hX.mixed ?_
 have hun : unlisted ops.size (Array.replicate ops.size false) = List.range ops.size := by
  unfold unlisted
  rw [List.filter_eq_self.2]
  intro i hi
  have := List.mem_range.1 hi
  rw [Array.getD_eq_getD_getElem?]
  simp [this]
 have hbel : Below w.heap.size w { w with drawn := w.drawn + 1 } := (Below.refl _ w).drew
 have hdown0 : Down ops (Array.replicate ops.size false) := by
  intro i o ho hl
  rw [Array.getD_eq_getD_getElem?, Array.getElem?_replicate] at hl
  split at hl <;> simp at hl
 have hat1 : At X C base w0 rd F (X.keep f) N ⟨s.fr, ⟨s.h.b ++ List.replicate ops.size .none, s.h.t ++ List.replicate ops.size false⟩, s.ms⟩ a { w with drawn := w.drawn + 1 } :=
  hat.heap ((hat.rel.world hbel).reserve ops.size ops.size)
 have hnot : ∀ i, C.ok (s.h.b.length + i) = false := fun i => by
  cases hh : C.ok (s.h.b.length + i) with
  | false => rfl
  | true => have := hat.rel.ok _ hh; omega
 have hnot2 : ∀ i, C.tk (s.h.t.length + i) = false := fun i => by
  cases hh : C.tk (s.h.t.length + i) with
  | false => rfl
  | true => have := hat.rel.tk _ hh; omega
 cases Fa with
 | nil => simp [okFam] at hfam
 | cons l0 ls =>
  simp only [okFam, Bool.and_eq_true] at hfam
  obtain ⟨hall, hcov⟩ := hfam
  have hsz : ops.toList.length = ops.size := by simp
  rw [hsz] at hall hcov
  have hinv := runFam_inv _ hrun
  refine sound_anyF (n0 := (s.h.b.length, s.h.t.length)) (C0 := C) (d := d) (l0 := l0) hX hE hR hF hd hok (fun f hf => hat.rel.fle f hf) ops.size (Array.replicate ops.size false) C _ a _ ((l0 :: ls).map fun l => l.map (·.1)) (by simp) ?_ hdown0 hat1 ?_ ?_ (Ctx.le.refl base C) (Stab.refl _ _) (by simp) (by simp) (fun i _ => ⟨hnot _, hnot2 i⟩) ?_
  ·rw [hun]; simp
  ·intro l' hl'
   obtain ⟨l, hl, rfl⟩ := List.mem_map.1 hl'
   have h1 := List.all_eq_true.1 hall l hl
   simp only [Bool.and_eq_true] at h1
   obtain ⟨⟨h2, h3⟩, h4⟩ := h1
   obtain ⟨sl, k1, k2⟩ := hinv l hl
   have hr := runL_G (l0 := l0) s l (fun p hp => by have := List.all_eq_true.1 h4 p hp; simpa using this) _ _ k1
   rw [hun]
   exact ⟨List.isPerm_iff.1 h2, h3, sl, sl, hr, Eqv.refl (runG_fi _ _ _ hat1.fi hr), k2⟩
  ·rw [hun, List.map_map]; exact hcov
  ·intro C' a' w' t sl hle hst hat' heq hdr hb ht
   subst hdr
   refine ⟨rfl, C', hle, hst, ⟨by show s.h.b.length ≤ sl.h.b.length; rw [heq.h]; exact hb, by show s.h.t.length ≤ sl.h.t.length; rw [heq.h]; exact ht⟩, ?_⟩
   refine ⟨hat'.kp, by show Rel C' base sl.h w0 w'; rw [heq.h]; exact hat'.rel, ⟨hat'.rf.1, fun u => ?_⟩, heq.fi.drop, by have e : (dropS sl).ms = t.ms := heq.ms; rw [e]; exact hat'.ms, hat'.fence, hat'.deep⟩
   have := getF_drop_eq heq.fi u
   show Rv C' (getF ⟨sl.fr.g, []⟩ u) _
   rw [this]
   split
   ·rw [heq.fr u]; exact hat'.rf.2 u
   ·exact .junk _
end
end
section
open Go.RowKit
section
variable {P : Program} {X : Tab} (hX : Fits P X)
include hX in
theorem sound_eng : ∀ (n : Nat), SoundCode P X (eng X n) ∧ SoundLoop P X (eng X n) ∧ SoundCall P X (eng X n)
 | 0 => ⟨fun f rd c s e s' C base w0 w a N F ho => (by cases ho), fun f rd c s e s' C base w0 w a N F ho => (by cases ho), fun g args h v h' C base w0 w vs ho => (by cases ho)⟩
 | n + 1 => by
  obtain ⟨h1, h2, h3⟩ := sound_eng n
  have hR := sound_round h1
  have hD := sound_draw hX h3 hR
  have hM := sound_fam hX h3 hR (fra_eng X n)
  obtain ⟨g1, g2⟩ := sound_code hX h1 h3 hR h2 hD hM
  exact ⟨g1, g2, sound_call hX h1⟩
def Ctx.start (X : Tab) (W : World) : Ctx :=
 { ok := fun _ => false, tk := fun _ => false, mu := fun _ => 0, lv := fun _ => false, tau := fun _ => none, fr := fun _ => 0, top := fun _ => 0, K := fun b o => W.cell? ⟨b, o, none⟩, kp := X.keep, fl := fun _ => false, bs := 0 }
theorem Rel.start (X : Tab) (W : World) : Rel (Ctx.start X W) W.heap.size noHeap W W where
 ok := fun i hi => by cases hi
 tk := fun i hi => by cases hi
 lv := fun i hi => by cases hi
 lt := fun i hi => by simp [noHeap] at hi
 below := Below.refl _ _
 size := Nat.le_refl _
 box := fun i x hx => by simp [noHeap] at hx
 has := fun i x hx => by simp [noHeap] at hx
 und := fun i x hx => by simp [noHeap] at hx
 inj := fun i j x y hx => by simp [noHeap] at hx
 known := fun b o v hv => hv
 tag := fun k blk hk => by cases hk
 taginj := fun j k blk hk => by cases hk
 fle := fun f hf => by cases hf
 bs := Nat.zero_le _
include hX in
theorem calls_of_eng {n g : Nat} {args : List AV} {v : AV} {h' : Heap} {W : World} {vs : List Value} (ho : (eng X n).call g args noHeap = some (v, h')) (hv : RvL (Ctx.start X W) args vs) :
  Calls P g vs.toArray W fun e W' => ∃ u C', e = .returned u ∧ Rv C' v u ∧ Below W.heap.size W W' := by
 obtain ⟨_, _, h3⟩ := sound_eng hX n
 obtain ⟨_, hc⟩ := h3 g args noHeap v h' (Ctx.start X W) W.heap.size W W vs ho rfl (Rel.start X W) hv
 refine callsIn_wide.1 ((hc 0).mono ?_)
 rintro e w' ⟨u, C', rfl, hrv, _, hr, _, _⟩
 exact ⟨u, C', rfl, hrv, hr.below⟩
include hX in
theorem calls_bool {n g : Nat} {args : List AV} {b : Bool} {h' : Heap} {W : World} {vs : List Value} (ho : (eng X n).call g args noHeap = some (.bool b, h')) (hv : RvL (Ctx.start X W) args vs) :
  Calls P g vs.toArray W fun e W' => e = .returned (.bool b) ∧ Below W.heap.size W W' := by
 have := calls_of_eng hX ho hv
 intro cs
 obtain ⟨e, w', fr, ⟨u, C', rfl, hrv, hb⟩, hrest⟩ := this cs
 have hu := hrv.bool_inv
 subst hu
 exact ⟨.returned (.bool b), w', fr, ⟨rfl, hb⟩, hrest⟩
end
end
section
open Go.RowKit
def Ev {α : Type} (g : Nat → Option α) (r : α) : Prop := ∃ n, ∀ m, n ≤ m → g m = some r
theorem Ev.unique {α : Type} {g : Nat → Option α} {r r' : α} (h : Ev g r) (h' : Ev g r') : r = r' := by
 obtain ⟨n, h⟩ := h
 obtain ⟨n', h'⟩ := h'
 have a := h (max n n') (by omega)
 have b := h' (max n n') (by omega)
 rw [a] at b
 exact Option.some.inj b
structure Lim (E : Eng) (c : Nat → Eng) : Prop where
 code : ∀ f rd x s r, E.code f rd x s = some r → Ev (fun m => (c m).code f rd x s) r
 call : ∀ f a h r, E.call f a h = some r → Ev (fun m => (c m).call f a h) r
def Good {α : Type} (G : Eng → Option α) : Prop := ∀ E c, Lim E c → ∀ r, G E = some r → Ev (fun m => G (c m)) r
theorem Good.const {α : Type} (o : Option α) : Good fun _ => o := fun _ _ _ _ h => ⟨0, fun _ _ => h⟩
theorem Good.bind {α β : Type} {A : Eng → Option α} {B : α → Eng → Option β} (hA : Good A) (hB : ∀ x, Good (B x)) : Good fun E => (A E).bind fun x => B x E := by
 intro E c hl r h
 cases ha : A E with
 | none => simp [ha] at h
 | some x =>
  simp only [ha, Option.bind_some] at h
  obtain ⟨n1, h1⟩ := hA E c hl x ha
  obtain ⟨n2, h2⟩ := hB x E c hl r h
  exact ⟨max n1 n2, fun m hm => by simp only [h1 m (by omega), Option.bind_some]; exact h2 m (by omega)⟩
theorem Good.code (f rd x s) : Good fun E => E.code f rd x s := fun _ _ hl _ h => hl.code _ _ _ _ _ h
theorem Good.call (f a h) : Good fun E => E.call f a h := fun _ _ hl _ h => hl.call _ _ _ _ h
theorem Good.of_eq {α : Type} {A B : Eng → Option α} (h : ∀ E, A E = B E) (hB : Good B) : Good A := by
 have : A = B := funext h
 rw [this]; exact hB
section
variable (X : Tab)
theorem good_callPure (f az h) : Good fun E => callPure E f az h :=
 .of_eq (fun E => callPure_eq E f az h) (.bind (.call _ _ _) fun _ => .const _)
theorem good_round (l args h) : Good fun E => stepRound X E l args h := by
 cases hb : h.b[l]? with
 | none => exact .of_eq (fun E => by unfold stepRound; rw [hb]) (.const none)
 | some x =>
  cases x with
  | loop bu pe dn f fr ps asg body =>
   refine .of_eq (fun E => stepRound_eq X hb) (.bind (.const _) fun fr1 => ?_)
   unfold roundK
   refine .bind (.code _ _ _ _) fun r => ?_
   obtain ⟨e, s1⟩ := r
   cases e with
   | normal => exact .bind (.const _) fun h1 => .bind (.code _ _ _ _) fun q => .const _
   | exit i => exact .const none
   | ret => exact .const none
  | none => exact .of_eq (fun E => by unfold stepRound; rw [hb]) (.const none)
  | cells c => exact .of_eq (fun E => by unfold stepRound; rw [hb]) (.const none)
  | map es => exact .of_eq (fun E => by unfold stepRound; rw [hb]) (.const none)
  | siter s p => exact .of_eq (fun E => by unfold stepRound; rw [hb]) (.const none)
  | mit b n left cur => exact .of_eq (fun E => by unfold stepRound; rw [hb]) (.const none)
  | mark => exact .of_eq (fun E => by unfold stepRound; rw [hb]) (.const none)
theorem good_callAV (q g args h) : Good fun E => callAV X E q g args h := by
 unfold callAV
 cases g with
 | clo f fst cap =>
  simp only
  cases X.orc f with
  | some O => cases q with
   | true => exact .const none
   | false => exact .const _
  | none =>
  simp only
  cases retRef X f with
  | true => simp only [if_true]; cases q with
   | true => exact .const none
   | false => exact .call _ _ _
  | false =>
   simp only [Bool.false_eq_true, if_false]
   cases cleanL (fst ++ args ++ cap) with
   | some az => exact good_callPure _ _ _
   | none => cases q with
    | true => exact .const none
    | false => exact .call _ _ _
 | yld l => cases q with
  | true => exact .const none
  | false => exact good_round X _ _ _
 | _ => exact .const none
theorem good_opAt (q p o fr h) : Good fun E => opAt X E q p o fr h := by
 unfold opAt
 cases o with
 | call c =>
  simp only
  cases c.callee with
  | value g => exact good_callAV X _ _ _ _
  | _ => exact .const _
 | _ => exact .const _
theorem good_oneS (L all q p o s) : Good fun E => oneS X E L all q p o s := by
 unfold oneS oneOp
 cases o.guard with
 | none => simp only [thenK_eq]; exact .bind (good_opAt X _ _ _ _ _) fun _ => .const _
 | some g =>
  simp only [thenK_eq, setFK_eq, setDstK_eq]
  cases guardOf all g with
  | none => exact .const _
  | some tw =>
   obtain ⟨t, want⟩ := tw
   simp only
   cases getF s.fr t with
   | bool c =>
    simp only
    split
    ·exact .bind (good_opAt X _ _ _ _ _) fun _ => .const _
    ·exact .const _
   | _ => exact .const _
theorem good_runOps (L all) : ∀ (os : List Oper) (s : St), Good fun E => runOps X E L all os s
 | [], s => .const _
 | o :: os, s => .of_eq (fun E => oneOp_eq (X := X)) (.bind (good_oneS X _ _ _ _ _ _) fun s' => good_runOps L all os s')
theorem good_opG (d p o fr h) : Good fun E => opBx X d E p o fr h := by
 unfold opBx
 split
 ·cases d with
  | true => exact .const _
  | false => exact good_opAt X _ _ _ _ _
 ·exact .const _
 ·split
  ·exact .const _
  ·exact good_opAt X _ _ _ _ _
 ·exact good_opAt X _ _ _ _ _
theorem good_oneG (d L all o s) : Good fun E => oneBx X d E L all o s some := by
 unfold oneBx
 cases o.guard with
 | none => simp only [thenK_eq]; exact .bind (good_opG X _ _ _ _ _) fun _ => .const _
 | some g => exact good_oneS X _ _ _ _ _ _
theorem good_runG (d L all) : ∀ (os : List Oper) (s : St), Good fun E => runBx X d E L all os s
 | [], s => .const _
 | o :: os, s => .of_eq (fun E => oneBx_eq (X := X)) (.bind (good_oneG X _ _ _ _ _) fun s' => good_runG d L all os s')
theorem good_runN (f id ops s) : Good fun E => runN X E f id ops s := by
 unfold runN
 split
 ·split
  ·exact good_runG X _ _ _ _ _
  ·exact good_runOps X _ _ _ _
 ·exact good_runOps X _ _ _ _
theorem good_runR (f rd id ops s) : Good fun E => runR X E f rd id ops s := by
 unfold runR
 cases rd with
 | some l => exact good_runOps X _ _ _ _
 | none =>
  refine .bind (.const _) fun s1 => ?_
  cases X.grow f id with
  | true => exact good_runG X _ _ _ _ _
  | false => exact good_runOps X _ _ _ _
theorem good_runDraw (L b all n0 md) : ∀ (os : List Oper) (i : Nat) (s : St), Good fun E => runDraw X E L b all n0 md os i s
 | [], i, s => .const _
 | o :: os, i, s => .of_eq (fun E => oneOp_eq (X := X)) (.bind (good_oneS X _ _ _ _ _ _) fun s' => good_runDraw L b all n0 md os (i + 1) s')
theorem good_enterRange (f g ps asg body fr h ms) : Good fun E => enterRange E f g ps asg body fr h ms := by
 cases g with
 | clo gf fst cap => exact .of_eq (fun E => enterRange_eq) (.bind (.call _ _ _) fun _ => .const _)
 | _ => exact .const none
theorem good_runL (L all n0) : ∀ (l : List (Nat × Bool)) (s : St), Good fun E => runL X E L all n0 l s
 | [], s => .const _
 | (i, c) :: l, s => by
  cases ho : all[i]? with
  | none => exact .of_eq (fun E => by rw [runL, ho]) (.const none)
  | some o => exact .of_eq (fun E => by rw [runL, ho]; exact oneOp_eq (X := X)) (.bind (good_oneS X _ _ _ _ _ _) fun s' => good_runL L all n0 l s')
theorem good_runFam (L all n0 s) : ∀ (ls : List (List (Nat × Bool))), Good fun E => runFam X E L all n0 s ls
 | [] => .const _
 | [l] => .of_eq (fun E => by rw [runFam]) (.bind (good_runL X _ _ _ _ _) fun _ => .const _)
 | l :: m :: ls => .of_eq (fun E => by rw [runFam]) (.bind (good_runL X _ _ _ _ _) fun s1 => .bind (good_runFam L all n0 s (m :: ls)) fun d => .const _)
theorem good_thenN {A : Eng → Option (AExit × St)} {B : St → Eng → Option (AExit × St)} (hA : Good A) (hB : ∀ s, Good (B s)) : Good fun E => thenN (A E) fun s => B s E := by
 refine .bind hA fun r => ?_
 obtain ⟨e, s⟩ := r
 cases e with
 | normal => exact hB s
 | exit i => exact .const _
 | ret => exact .const _
theorem good_agree {α ι : Type} {F : ι → Eng → Option α} (l : List ι) (hF : ∀ i, Good (F i)) : Good fun E => agree (l.map fun i => F i E) := by
 intro E c hl r h
 obtain ⟨hn, ha⟩ := agree_all h
 have hn' : l ≠ [] := fun e => hn (by rw [e]; rfl)
 have hev : ∃ n, ∀ m, n ≤ m → ∀ i ∈ l, F i (c m) = some r := by
  have ha' : ∀ i ∈ l, F i E = some r := fun i hi => ha _ (List.mem_map.2 ⟨i, hi, rfl⟩)
  clear ha h hn hn'
  induction l with
  | nil => exact ⟨0, fun _ _ _ hi => by cases hi⟩
  | cons x xs ih =>
   obtain ⟨n1, h1⟩ := hF x E c hl r (ha' x (by simp))
   obtain ⟨n2, h2⟩ := ih fun i hi => ha' i (List.mem_cons_of_mem _ hi)
   refine ⟨max n1 n2, fun m hm i hi => ?_⟩
   rcases List.mem_cons.1 hi with rfl | hi
   ·exact h1 m (by omega)
   ·exact h2 m (by omega) i hi
 obtain ⟨n, hn2⟩ := hev
 refine ⟨n, fun m hm => agree_some (by simpa using hn') fun y hy => ?_⟩
 obtain ⟨i, hi, rfl⟩ := List.mem_map.1 hy
 exact hn2 m hm i hi
theorem good_mapRound (f rd c body j g h ms blk) : Good fun E => mapRound E f rd c body j g h ms blk := by
 refine .of_eq (fun E => mapRound_eq) (.bind (.code _ _ _ _) fun r => ?_)
 obtain ⟨x, s'⟩ := r
 simp only
 split
 ·cases x with
  | normal => exact .code _ _ _ _
  | exit i => exact .const _
  | ret => exact .const _
 ·exact .const none
theorem good_mapRounds (f rd c m s) : Good fun E => mapRounds E f rd c m s := by
 unfold mapRounds
 split
 ·split
  ·split
   ·split
    ·split
     ·exact .const _
     ·exact good_agree _ fun i => good_mapRound _ _ _ _ _ _ _ _ _
    ·exact .const none
   ·exact .const none
  ·exact .const none
 ·exact .const none
theorem good_step (f rd c s) : Good fun E => stepCode X E f rd c s := by
 cases c with
 | seq a b => exact .of_eq (fun E => step_seq X E f rd a b s) (good_thenN (.code _ _ _ _) fun s => .code _ _ _ _)
 | loop b => cases hm : mapLoop b with
  | some m => exact .of_eq (fun E => step_map X E f rd b s hm) (good_mapRounds _ _ _ _ _)
  | none => exact .of_eq (fun E => step_loop X E f rd b s hm) (good_thenN (.of_eq (fun E => (by cases E.code f rd b s <;> rfl : cutS s (E.code f rd b s) = (E.code f rd b s).bind fun q => some (q.1, match q.1 with | .normal => ⟨⟨restr s.fr.g q.2.fr.g, []⟩, q.2.h, q.2.ms⟩ | _ => q.2))) (.bind (.code _ _ _ _) fun _ => .const _)) fun s => .code _ _ _ _)
 | block id b => exact .of_eq (fun E => step_block X E f rd id b s) (.bind (.code _ _ _ _) fun _ => .const _)
 | scope b => exact .code _ _ _ _
 | cond c a b =>
  unfold stepCode
  simp only
  cases evo s.fr c with
  | bool t =>
   simp only
   cases c with
   | tmp u => simp only [condK, adelK_eq]; split; exact .code _ _ _ _; exact .code _ _ _ _
   | _ => simp only [condK]; split; exact .code _ _ _ _; exact .code _ _ _ _
  | _ => exact .const none
 | region id ops draw =>
  cases draw with
  | false =>
   cases hm : isIn deepMark (X.keep f) with
   | false => exact .of_eq (B := fun E => (runN X E f id ops.toList s).bind fun s => some (.normal, ⟨⟨s.fr.g, []⟩, s.h, s.ms⟩)) (fun E => by rw [step_region X E f rd id ops s, hm]; rfl) (.bind (good_runN X _ _ _ _) fun _ => .const _)
   | true => exact .of_eq (B := fun E => (runR X E f rd id ops.toList s).bind fun s => some (.normal, ⟨⟨s.fr.g, []⟩, s.h, s.ms⟩)) (fun E => by rw [step_region X E f rd id ops s, hm]; rfl) (.bind (good_runR X _ _ _ _ _) fun _ => .const _)
  | true =>
   refine .of_eq (fun E => step_draw X E f rd id ops s) ?_
   split
   ·split
    ·exact .bind (good_runFam X _ _ _ _ _) fun _ => .const _
    ·exact .const none
   split
   ·split
    ·exact .bind (good_runDraw X _ _ _ _ _ _ _ _) fun _ => .const _
    ·exact .const none
   ·split
    ·exact .bind (good_runDraw X _ _ _ _ _ _ _ _) fun _ => .const _
    ·exact .const none
 | rangeFunc g ps asg body =>
  unfold stepCode
  simp only
  cases rd with
  | none => exact good_enterRange _ _ _ _ _ _ _ _
  | some l =>
   simp only
   split
   ·exact good_enterRange _ _ _ _ _ _ _ _
   ·exact .const none
 | _ => exact .const _
theorem good_stepCall (g args h) : Good fun E => stepCall X E g args h := by
 cases hf : X.fn.get g with
 | none => exact .of_eq (fun E => by unfold stepCall; rw [hf]) (.const none)
 | some fn =>
  cases hc : fn.body with
  | none => exact .of_eq (fun E => by unfold stepCall; rw [hf]; simp only [hc]) (.const none)
  | some c =>
   refine .of_eq (fun E => step_call X E hf hc) ?_
   split
   ·exact .const none
   ·exact .bind (.code _ _ _ _) fun _ => .const _
open Classical in
noncomputable def EW : Eng :=
  ⟨fun f rd x s => if h : ∃ r, Ev (fun m => (eng X m).code f rd x s) r then some h.choose else none,
   fun f a q => if h : ∃ r, Ev (fun m => (eng X m).call f a q) r then some h.choose else none⟩
theorem lim_ew : Lim (EW X) (eng X) where
 code := fun f rd x s r h => by
  simp only [EW] at h
  split at h
  ·rename_i hx; simp only [Option.some.injEq] at h; rw [← h]; exact hx.choose_spec
  ·cases h
 call := fun f a q r h => by
  simp only [EW] at h
  split at h
  ·rename_i hx; simp only [Option.some.injEq] at h; rw [← h]; exact hx.choose_spec
  ·cases h
theorem ew_code_of {f rd x s r} (h : Ev (fun m => (eng X m).code f rd x s) r) : (EW X).code f rd x s = some r := by
 simp only [EW]
 have hx : ∃ r, Ev (fun m => (eng X m).code f rd x s) r := ⟨r, h⟩
 rw [dif_pos hx]
 exact congrArg some (hx.choose_spec.unique h)
theorem ew_call_of {f a q r} (h : Ev (fun m => (eng X m).call f a q) r) : (EW X).call f a q = some r := by
 simp only [EW]
 have hx : ∃ r, Ev (fun m => (eng X m).call f a q) r := ⟨r, h⟩
 rw [dif_pos hx]
 exact congrArg some (hx.choose_spec.unique h)
def Eng.le (E E' : Eng) : Prop := Lim E fun _ => E'
theorem Good.mono {α : Type} {G : Eng → Option α} (hG : Good G) {E E' : Eng} (hl : E.le E') {r : α} (h : G E = some r) : G E' = some r := by
 obtain ⟨n, hn⟩ := hG E _ hl r h
 exact hn n (Nat.le_refl _)
theorem eng_chain : ∀ n, (eng X n).le (eng X (n + 1))
 | 0 => ⟨fun f rd x s r h => (by cases h), fun f a q r h => (by cases h)⟩
 | n + 1 => ⟨fun f rd x s r h => ⟨0, fun _ _ => (good_step X f rd x s).mono (eng_chain n) h⟩, fun f a q r h => ⟨0, fun _ _ => (good_stepCall X f a q).mono (eng_chain n) h⟩⟩
theorem eng_le (n : Nat) : ∀ k, (eng X n).le (eng X (n + k))
 | 0 => ⟨fun f rd x s r h => ⟨0, fun _ _ => h⟩, fun f a q r h => ⟨0, fun _ _ => h⟩⟩
 | k + 1 => ⟨fun f rd x s r h => ⟨0, fun _ _ => (Good.code f rd x s).mono (eng_chain X (n + k)) ((Good.code f rd x s).mono (eng_le n k) h)⟩,
  fun f a q r h => ⟨0, fun _ _ => (Good.call f a q).mono (eng_chain X (n + k)) ((Good.call f a q).mono (eng_le n k) h)⟩⟩
theorem eng_ew (n : Nat) : (eng X n).le (EW X) where
 code := fun f rd x s r h => ⟨0, fun _ _ => ew_code_of X ⟨n, fun m hm => by
  have := (Good.code f rd x s).mono (eng_le X n (m - n)) h
  rwa [Nat.add_sub_cancel' hm] at this⟩⟩
 call := fun f a q r h => ⟨0, fun _ _ => ew_call_of X ⟨n, fun m hm => by
  have := (Good.call f a q).mono (eng_le X n (m - n)) h
  rwa [Nat.add_sub_cancel' hm] at this⟩⟩
theorem ew_code (f rd c s) : (EW X).code f rd c s = stepCode X (EW X) f rd c s := by
 apply Option.ext
 intro r
 constructor
 ·intro h
  obtain ⟨n, hn⟩ := (lim_ew X).code _ _ _ _ _ h
  exact (good_step X f rd c s).mono (eng_ew X n) (hn (n + 1) (by omega))
 ·intro h
  obtain ⟨n, hn⟩ := good_step X f rd c s _ _ (lim_ew X) r h
  exact ew_code_of X ⟨n + 1, fun m hm => by
   obtain ⟨m, rfl⟩ : ∃ k, m = k + 1 := ⟨m - 1, by omega⟩
   exact hn m (by omega)⟩
theorem ew_call (g args h) : (EW X).call g args h = stepCall X (EW X) g args h := by
 apply Option.ext
 intro r
 constructor
 ·intro h'
  obtain ⟨n, hn⟩ := (lim_ew X).call _ _ _ _ h'
  exact (good_stepCall X g args h).mono (eng_ew X n) (hn (n + 1) (by omega))
 ·intro h'
  obtain ⟨n, hn⟩ := good_stepCall X g args h _ _ (lim_ew X) r h'
  exact ew_call_of X ⟨n + 1, fun m hm => by
   obtain ⟨m, rfl⟩ : ∃ k, m = k + 1 := ⟨m - 1, by omega⟩
   exact hn m (by omega)⟩
end
section
variable {P : Program} {X : Tab} (hX : Fits P X)
include hX in
theorem ew_bool {g : Nat} {args : List AV} {b : Bool} {h' : Heap} {W : World} {vs : List Value} (ho : (EW X).call g args noHeap = some (.bool b, h')) (hv : RvL (Ctx.start X W) args vs) :
  Calls P g vs.toArray W fun e W' => e = .returned (.bool b) ∧ Below W.heap.size W W' := by
 obtain ⟨n, hn⟩ := (lim_ew X).call _ _ _ _ ho
 exact calls_bool hX (hn n (Nat.le_refl _)) hv
end
end
section
theorem setF_mk (L : List Nat) (g l : Slots) (t : Nat) (v : AV) : setF L ⟨g, l⟩ t v = if isIn t L = true then ⟨aset g t v, l⟩ else ⟨g, (t, v) :: l⟩ := by
 cases h : isIn t L with
 | true => rw [setF_in h]; rfl
 | false => rw [setF_out h]; rfl
theorem setD_some (L : List Nat) (fr : Frm) (t : Nat) (v : AV) : setD L fr (some t) v = setF L fr t v := _root_.id rfl
theorem setD_none (L : List Nat) (fr : Frm) (v : AV) : setD L fr none v = fr := _root_.id rfl
theorem getF_mk (g l : Slots) (t : Nat) : getF ⟨g, l⟩ t = agetOr l t (agetOr g t .junk) := _root_.id rfl
theorem adel_nil (t : Nat) : adel [] t = [] := _root_.id rfl
theorem aget_c (t u : Nat) (v : AV) (r : Slots) (d : AV) : agetOr ((u, v) :: r) t d = if t = u then v else agetOr r t d := agetOr_cons _ _ _ _
theorem aset_c (u : Nat) (x : AV) (r : Slots) (t : Nat) (v : AV) : aset ((u, x) :: r) t v = if t = u then (t, v) :: r else if t < u then (t, v) :: (u, x) :: r else (u, x) :: aset r t v := aset_cons _ _ _ _
theorem adel_c (u : Nat) (x : AV) (r : Slots) (t : Nat) : adel ((u, x) :: r) t = if t = u then adel r t else (u, x) :: adel r t := adel_cons _ _ _
theorem zipFrom_nil (L : List Nat) (i : Nat) : zipFrom L i [] = [] := _root_.id rfl
theorem evo_tmp (fr : Frm) (t : Nat) : evo fr (.tmp t) = getF fr t := _root_.id rfl
theorem evo_func (fr : Frm) (f : Nat) : evo fr (.func f) = .clo f [] [] := _root_.id rfl
theorem evo_int (fr : Frm) (k : IntKind) (n : Int) : evo fr (.const (.int k n)) = .int k n := _root_.id rfl
theorem evo_bool (fr : Frm) (b : Bool) : evo fr (.const (.bool b)) = .bool b := _root_.id rfl
theorem evo_string (fr : Frm) (s : ByteArray) : evo fr (.const (.string s)) = .str s := _root_.id rfl
theorem evo_nilp (fr : Frm) : evo fr (.const (.pointer none)) = .nilp := _root_.id rfl
theorem evo_nilf (fr : Frm) : evo fr (.const .nilFunc) = .nilf := _root_.id rfl
theorem evo_nils (fr : Frm) : evo fr (.const (.slice none 0 0)) = .lst 1 0 [] := _root_.id rfl
theorem evoL_nil (fr : Frm) : evoL fr [] = [] := _root_.id rfl
theorem evoL_c (fr : Frm) (x : Operand) (xs : List Operand) : evoL fr (x :: xs) = evo fr x :: evoL fr xs := _root_.id rfl
structure Tag {α : Type} (x : α) : Type where
 mk ::
def bindW {α β : Type} (a : Option α) (f : α → Option β) (_ : Tag f) : Option β := a.bind f
theorem bindW_some {α β : Type} (x : α) (f : α → Option β) (d : Tag f) : bindW (some x) f d = f x := _root_.id rfl
def nextW (r : Option (AExit × St)) (k : St → Option (AExit × St)) (_ : Tag k) : Option (AExit × St) := thenN r k
section
variable (X : Tab)
theorem next_normal (s : St) (k : St → Option (AExit × St)) (d : Tag k) : nextW (some (.normal, s)) k d = k s := _root_.id rfl
theorem next_exit (i : Nat) (s : St) (k : St → Option (AExit × St)) (d : Tag k) : nextW (some (.exit i, s)) k d = some (.exit i, s) := _root_.id rfl
theorem next_ret (s : St) (k : St → Option (AExit × St)) (d : Tag k) : nextW (some (.ret, s)) k d = some (.ret, s) := _root_.id rfl
theorem next_ite (c : Prop) [Decidable c] (a b : Option (AExit × St)) (k : St → Option (AExit × St)) (d : Tag k) : nextW (if c then a else b) k d = if c then nextW a k d else nextW b k d := by split <;> rfl
theorem thenN_normal (s : St) (k : St → Option (AExit × St)) : thenN (some (.normal, s)) k = k s := _root_.id rfl
theorem catchB_normal (id : Nat) (s : St) : catchB id (some (.normal, s)) = some (.normal, s) := _root_.id rfl
theorem catchB_ret (id : Nat) (s : St) : catchB id (some (.ret, s)) = some (.ret, s) := _root_.id rfl
theorem catchB_exit (id i : Nat) (s : St) : catchB id (some (.exit i, s)) = if i = id then some (.normal, s) else some (.exit i, s) := _root_.id rfl
theorem catchB_ite (id : Nat) (c : Prop) [Decidable c] (a b : Option (AExit × St)) : catchB id (if c then a else b) = if c then catchB id a else catchB id b := by split <;> rfl
theorem endR_some (s : St) : endR (some s) = some (.normal, ⟨⟨s.fr.g, []⟩, s.h, s.ms⟩) := _root_.id rfl
theorem w_seq (f rd a b s) : (EW X).code f rd (.seq a b) s = nextW ((EW X).code f rd a s) (fun s => (EW X).code f rd b s) .mk := by rw [ew_code, step_seq]; rfl
theorem cut_normal (g0 l0 : Slots) (h0 : Heap) (m0 : List Nat) (g l : Slots) (h : Heap) (m : List Nat) : cutS ⟨⟨g0, l0⟩, h0, m0⟩ (some (.normal, ⟨⟨g, l⟩, h, m⟩)) = some (.normal, ⟨⟨restr g0 g, []⟩, h, m⟩) := _root_.id rfl
theorem cut_exit (s : St) (i : Nat) (s1 : St) : cutS s (some (.exit i, s1)) = some (.exit i, s1) := _root_.id rfl
theorem cut_ret (s s1 : St) : cutS s (some (.ret, s1)) = some (.ret, s1) := _root_.id rfl
theorem restr_nil (g : Slots) : restr [] g = [] := _root_.id rfl
theorem restr_c (t : Nat) (v : AV) (r g : Slots) : restr ((t, v) :: r) g = (t, agetOr g t .junk) :: restr r g := _root_.id rfl
theorem w_loop (f rd b s) (hm : mapLoop b = none := by rfl) : (EW X).code f rd (.loop b) s = thenN (cutS s ((EW X).code f rd b s)) fun s => (EW X).code f rd (.loop b) s := by rw [ew_code, step_loop _ _ _ _ _ _ hm]
theorem w_block (f rd id b s) : (EW X).code f rd (.block id b) s = catchB id ((EW X).code f rd b s) := by rw [ew_code, step_block]
theorem w_scope (f rd b s) : (EW X).code f rd (.scope b) s = (EW X).code f rd b s := by rw [ew_code]; rfl
theorem w_skip (f rd s) : (EW X).code f rd .skip s = some (.normal, s) := by rw [ew_code]; rfl
theorem w_label (f rd l s) : (EW X).code f rd (.label l) s = some (.normal, s) := by rw [ew_code]; rfl
theorem w_exit (f rd id s) : (EW X).code f rd (.exit id) s = some (.exit id, s) := by rw [ew_code]; rfl
theorem w_ret (f rd s) : (EW X).code f rd .ret s = some (.ret, s) := by rw [ew_code]; rfl
noncomputable def deepW (b : Bool) (x y : Unit → Option St) (_ : Tag x) (_ : Tag y) : Option St := match b with | false => x () | true => y ()
theorem deepW_f (x y : Unit → Option St) (d e) : deepW false x y d e = x () := _root_.id rfl
theorem deepW_t (x y : Unit → Option St) (d e) : deepW true x y d e = y () := _root_.id rfl
noncomputable def kindK (L : List Nat) : Nat := if isIn 999999 L = true then 1 else if isIn 999998 L = true then 2 else 0
noncomputable def kindW (k : Nat) (x y z : Unit → Option St) (_ : Tag x) (_ : Tag y) (_ : Tag z) : Option St := match k with | 0 => x () | 1 => y () | _ => z ()
theorem kindW_0 (x y z : Unit → Option St) (d e f) : kindW 0 x y z d e f = x () := _root_.id rfl
theorem kindW_1 (x y z : Unit → Option St) (d e f) : kindW 1 x y z d e f = y () := _root_.id rfl
theorem kindW_2 (x y z : Unit → Option St) (d e f) : kindW 2 x y z d e f = z () := _root_.id rfl
theorem w_region (f rd id ops s) : (EW X).code f rd (.region id ops false) s = endR (kindW (kindK (X.keep f)) (fun _ => runOps X (EW X) (X.keep f) ops.toList ops.toList s) (fun _ => runR X (EW X) f rd id ops.toList s)
  (fun _ => deepW (X.grow f id) (fun _ => runOps X (EW X) (X.keep f) ops.toList ops.toList s) (fun _ => runBx X false (EW X) (X.keep f) ops.toList ops.toList s) .mk .mk) .mk .mk .mk) := by
 rw [ew_code, step_region]
 unfold kindW kindK deepW runN
 show endR (match isIn 999999 (X.keep f) with | false => (match isIn 999998 (X.keep f) with | true => _ | false => _) | true => _) = _
 cases isIn 999999 (X.keep f) with
 | true => rfl
 | false =>
  cases isIn 999998 (X.keep f) with
  | false => rfl
  | true => simp only; cases X.grow f id <;> rfl
theorem w_draw (f rd id ops s) : (EW X).code f rd (.region id ops true) s =
 if (!(X.solo f id).isEmpty) = true then
  if okFam (Region.before ops).toList ops.toList (X.solo f id) = true then
   (runFam X (EW X) (X.keep f) ops.toList (s.h.b.length, s.h.t.length) ⟨s.fr, ⟨s.h.b ++ List.replicate ops.size .none, s.h.t ++ List.replicate ops.size false⟩, s.ms⟩ (X.solo f id)).bind fun d => some (.normal, d)
  else none
 else if (X.hush f id && hushed ops.toList) = true then
  if drawT (Region.before ops).toList ops.toList s.fr = true then
   endR (runDraw X (EW X) (X.keep f) (Region.before ops).toList ops.toList (s.h.b.length, s.h.t.length) true ops.toList 0 s)
  else none
 else
  if drawT (Region.before ops).toList ops.toList s.fr = true then
   endR (runDraw X (EW X) (X.keep f) (Region.before ops).toList ops.toList (s.h.b.length, s.h.t.length) false ops.toList 0 ⟨s.fr, ⟨s.h.b ++ List.replicate ops.size .none, s.h.t ++ List.replicate ops.size false⟩, s.ms⟩)
  else none := by rw [ew_code, step_draw]
noncomputable def condW (v : AV) (k : Bool → Option (AExit × St)) (_ : Tag k) : Option (AExit × St) := match v with | .bool t => k t | _ => none
theorem condW_bool (t : Bool) (k) (d : Tag k) : condW (.bool t) k d = k t := _root_.id rfl
theorem w_cond (f rd t a b g l h ms) : (EW X).code f rd (.cond (.tmp t) a b) ⟨⟨g, l⟩, h, ms⟩ =
  condW (getF ⟨g, l⟩ t) (fun q => if q = true then (EW X).code f rd a ⟨⟨adel g t, l⟩, h, ms⟩ else (EW X).code f rd b ⟨⟨adel g t, l⟩, h, ms⟩) .mk := by
 rw [ew_code]
 show (match getF ⟨g, l⟩ t with | .bool q => _ | _ => none) = _
 unfold condW
 cases getF ⟨g, l⟩ t <;> simp only [condK, adelK_eq]
theorem w_call {g : Nat} {args : List AV} {h : Heap} {fn : Func} {c : Code} (hf : X.fn.get g = some fn) (hc : fn.body = some c)
  (hd : isIn 999999 (X.keep g) = false := by rfl) : (EW X).call g args h = bindW ((EW X).code g none c ⟨⟨zipFrom (X.keep g) 0 args, []⟩, h, []⟩) (afterCall X fn h.b.length) .mk := by
 rw [ew_call, step_call X _ hf hc, if_neg (by rw [hd]; simp)]; rfl
theorem w_call0 {g : Nat} {args : List AV} {fn : Func} {c : Code} (hf : X.fn.get g = some fn) (hc : fn.body = some c) (t : List Bool) :
  (EW X).call g args ⟨[], t⟩ = bindW ((EW X).code g none c ⟨⟨zipFrom (X.keep g) 0 args, []⟩, ⟨[], t⟩, []⟩) (afterCall X fn 0) .mk := by
 rw [ew_call, step_call X _ hf hc, if_neg (by simp)]; rfl
variable {E : Eng} {L : List Nat} {all : List Oper}
theorem run_nil (s : St) : runOps X E L all [] s = some s := _root_.id rfl
theorem run_c (d : Option Tmp) (op : Op) (ty : TypeId) (po : String) (af : Array Edge) (os : List Oper) (s : St) :
  runOps X E L all (⟨d, op, ty, po, af, none⟩ :: os) s = bindW (opAt X E false (s.h.b.length, s.h.t.length) op s.fr s.h) (fun r => runOps X E L all os ⟨setD L s.fr d r.1, r.2, s.ms⟩) .mk := by
 have e : runOps X E L all (⟨d, op, ty, po, af, none⟩ :: os) s = oneOp X E L all false (s.h.b.length, s.h.t.length) ⟨d, op, ty, po, af, none⟩ s (runOps X E L all os) := _root_.id rfl
 rw [e]
 simp only [oneOp, thenK_eq]
 rfl
theorem run_c0 (d : Option Tmp) (op : Op) (ty : TypeId) (po : String) (af : Array Edge) (os : List Oper) (fr : Frm) (hb : List ABlk) (ht : List Bool) (ms : List Nat) :
 runOps X E L all (⟨d, op, ty, po, af, none⟩ :: os) ⟨fr, ⟨hb, ht⟩, ms⟩ = bindW (opAt X E false (hb.length, ht.length) op fr ⟨hb, ht⟩) (fun r => runOps X E L all os ⟨setD L fr d r.1, r.2, ms⟩) .mk := run_c X _ _ _ _ _ _ _
theorem runR_none (f id : Nat) (ops : List Oper) (s : St) : runR X E f none id ops s = bindW (iceSt (X.ice f id) s) (fun s => deepW (X.grow f id) (fun _ => runOps X E (X.keep f) ops ops s) (fun _ => runBx X true E (X.keep f) ops ops s) .mk .mk) .mk := by
 unfold runR bindW deepW
 simp only
 congr 1
 funext s
 cases X.grow f id <;> rfl
theorem runBx_nil (d : Bool) (s : St) : runBx X d E L all [] s = some s := _root_.id rfl
theorem runBx_g (b : Bool) (d : Option Tmp) (op : Op) (ty : TypeId) (po : String) (af : Array Edge) (os : List Oper) (fr : Frm) (hb : List ABlk) (ht : List Bool) (ms : List Nat) :
  runBx X b E L all (⟨d, op, ty, po, af, none⟩ :: os) ⟨fr, ⟨hb, ht⟩, ms⟩ = bindW (opBx X b E (hb.length, ht.length) op fr ⟨hb, ht⟩) (fun r => runBx X b E L all os ⟨setD L fr d r.1, r.2, ms⟩) .mk := by
 have e : runBx X b E L all (⟨d, op, ty, po, af, none⟩ :: os) ⟨fr, ⟨hb, ht⟩, ms⟩ = oneBx X b E L all ⟨d, op, ty, po, af, none⟩ ⟨fr, ⟨hb, ht⟩, ms⟩ (runBx X b E L all os) := _root_.id rfl
 rw [e]
 simp only [oneBx, thenK_eq]
 rfl
section
variable (d : Bool) (p : Nat × Nat) (fr : Frm) (h : Heap)
theorem o_st (t a x) : opBx X true E p (.store t a x) fr h = opStore X 0 t (evo fr a) (evo fr x) h := _root_.id rfl
theorem o_ap (az ts) : opBx X d E p (.call ⟨.builtin .append, az, ts⟩) fr h = growApp X d p.2 ts.toList (evoL fr az.toList) h := _root_.id rfl
theorem o_mv (x) : opBx X d E p (.move x) fr h = opAt X E false p (.move x) fr h := _root_.id rfl
theorem o_as (x) : opBx X d E p (.assign x) fr h = opAt X E false p (.assign x) fr h := _root_.id rfl
theorem o_ld (t a) : opBx X d E p (.load t a) fr h = opAt X E false p (.load t a) fr h := _root_.id rfl
theorem o_fa (t x f) : opBx X d E p (.fieldAddr t x f) fr h = opAt X E false p (.fieldAddr t x f) fr h := _root_.id rfl
theorem o_ix (t x i) : opBx X d E p (.indexAddr t x i) fr h = opAt X E false p (.indexAddr t x i) fr h := _root_.id rfl
theorem o_bs (t n ps) : opBx X d E p (.buildSlice t n ps) fr h = opAt X E false p (.buildSlice t n ps) fr h := _root_.id rfl
end
def guardW (v : AV) (k : Option Bool → Option St) (_ : Tag k) : Option St := match v with
 | .bool c => k (some c)
 | .und => k none
 | _ => none
theorem guardW_bool (c : Bool) (k) (d : Tag k) : guardW (.bool c) k d = k (some c) := _root_.id rfl
theorem guardW_und (k) (d : Tag k) : guardW .und k d = k none := _root_.id rfl
noncomputable def guardK (E : Eng) (L : List Nat) (all : List Oper) (d : Option Tmp) (op : Op) (os : List Oper) (t : Tmp) (want : Bool) (s : St) (c : Option Bool) : Option St := match c with
 | some c => if c = want then
   bindW (opAt X E false (s.h.b.length, s.h.t.length) op (setF L s.fr t (.bool want)) s.h) (fun r => runOps X E L all os ⟨setD L (setF L s.fr t (.bool want)) d r.1, r.2, s.ms⟩) .mk
  else runOps X E L all os ⟨setD L (setF L s.fr t (.bool !want)) d .und, s.h, s.ms⟩
 | none => runOps X E L all os ⟨setD L s.fr d .und, s.h, s.ms⟩
theorem guardK_some (d op os t want s c) : guardK X E L all d op os t want s (some c) = if c = want then
      bindW (opAt X E false (s.h.b.length, s.h.t.length) op (setF L s.fr t (.bool want)) s.h) (fun r => runOps X E L all os ⟨setD L (setF L s.fr t (.bool want)) d r.1, r.2, s.ms⟩) .mk
    else runOps X E L all os ⟨setD L (setF L s.fr t (.bool !want)) d .und, s.h, s.ms⟩ := _root_.id rfl
theorem guardK_none (d op os t want s) : guardK X E L all d op os t want s none = runOps X E L all os ⟨setD L s.fr d .und, s.h, s.ms⟩ := _root_.id rfl
theorem run_g (d : Option Tmp) (op : Op) (ty : TypeId) (po : String) (af : Array Edge) (gi : Nat) (want : Bool) (os : List Oper) (s : St) :
  runOps X E L all (⟨d, op, ty, po, af, some (gi, want)⟩ :: os) s = bindW (guardOf all (gi, want)) (fun g => guardW (getF s.fr g.1) (guardK X E L all d op os g.1 g.2 s) .mk) .mk := by
 have e : runOps X E L all (⟨d, op, ty, po, af, some (gi, want)⟩ :: os) s = oneOp X E L all false (s.h.b.length, s.h.t.length) ⟨d, op, ty, po, af, some (gi, want)⟩ s (runOps X E L all os) := _root_.id rfl
 rw [e]
 simp only [oneOp, thenK_eq, setFK_eq, setDstK_eq]
 cases guardOf all (gi, want) with
 | none => rfl
 | some tw =>
  obtain ⟨t, w⟩ := tw
  simp only [bindW, Option.bind_some, guardW, guardK]
  cases getF s.fr t <;> rfl
def hushK : Kind → Bool
 | .pure | .read | .call => true
 | _ => false
theorem hushed_nil : hushed [] = true := _root_.id rfl
theorem hushed_c (o : Oper) (os : List Oper) : hushed (o :: os) = (hushK (opKind o.op) && hushed os) := by
 show List.all (o :: os) _ = _
 rw [List.all_cons]
 cases opKind o.op <;> rfl
theorem conflicts_hush {b : List Nat} {ops : List Oper} (h : hushed ops = true) : conflicts b ops = [] := by
 have key : ∀ x ∈ ops, ∀ t a v, x.op ≠ .store t a v := fun x hx t a v e => by
  have := List.all_eq_true.1 h x hx
  rw [e] at this
  simp [opKind] at this
 unfold conflicts
 rw [List.filterMap_eq_nil_iff]
 rintro ⟨i, j⟩ _
 simp only
 split
 ·rfl
 ·split
  ·rename_i x y hx hy
   have kx := key x (List.mem_of_getElem? hx)
   have ky := key y (List.mem_of_getElem? hy)
   unfold rwPair
   split
   ·rename_i e1 e2; exact absurd e2 (ky _ _ _)
   ·rename_i e1 e2; exact absurd e1 (kx _ _ _)
   ·rfl
  ·rfl
theorem fine_hush {b : List Nat} {ops : List Oper} (h : hushed ops = true) : pairsFine b ops = true := by
 unfold pairsFine
 rw [List.all_eq_true]
 rintro ⟨i, j⟩ _
 simp only [Bool.or_eq_true]
 right
 split
 ·rename_i x y hx hy
  have kx := List.all_eq_true.1 h x (List.mem_of_getElem? hx)
  have ky := List.all_eq_true.1 h y (List.mem_of_getElem? hy)
  unfold pairOk
  cases hkx : opKind x.op <;> rw [hkx] at kx <;> first | (cases kx; done) | skip
  all_goals cases hky : opKind y.op <;> rw [hky] at ky <;> first | (cases ky; done) | rfl
 ·rfl
theorem drawT_hush {b : List Nat} {ops : List Oper} {fr : Frm} (h : hushed ops = true) : drawT b ops fr = true := by
 unfold drawT; rw [fine_hush h, conflicts_hush h]; rfl
noncomputable def runQ (E : Eng) (L : List Nat) (all : List Oper) (n0 : Nat × Nat) : List Oper → St → Option St
 | [], s => some s
 | o :: os, s => oneOp X E L all true n0 o s (runQ E L all n0 os)
theorem runDraw_Q (b : List Nat) (n0 : Nat × Nat) : ∀ (os : List Oper) (i : Nat) (s : St), runDraw X E L b all n0 true os i s = runQ X E L all n0 os s
 | [], i, s => rfl
 | o :: os, i, s => by
  have e : runDraw X E L b all n0 true (o :: os) i s = oneOp X E L all (true || !boundAll b all i) (posAt n0 true i) o s (runDraw X E L b all n0 true os (i + 1)) := rfl
  have e2 : runDraw X E L b all n0 true os (i + 1) = runQ X E L all n0 os := funext fun s => runDraw_Q b n0 os (i + 1) s
  rw [e, e2, Bool.true_or]
  first | rfl | skip
theorem w_hush (f rd id ops s) (hs : X.solo f id = []) (hh : X.hush f id = true) (hq : hushed ops.toList = true) : (EW X).code f rd (.region id ops true) s = endR (runQ X (EW X) (X.keep f) ops.toList (s.h.b.length, s.h.t.length) ops.toList s) := by
 rw [w_draw, hs, hh, hq, drawT_hush hq, runDraw_Q]
 simp
noncomputable def soloW (F : List (List (Nat × Bool))) (k : List (List (Nat × Bool)) → Option (AExit × St)) (z : Unit → Option (AExit × St)) (_ : Tag (k, z)) : Option (AExit × St) := match F with
 | [] => z ()
 | l :: ls => k (l :: ls)
theorem soloW_nil (k z) (d : Tag (k, z)) : soloW [] k z d = z () := _root_.id rfl
theorem soloW_c (l ls k z) (d : Tag (k, z)) : soloW (l :: ls) k z d = k (l :: ls) := _root_.id rfl
noncomputable def famC (b : Bool) (r : Option St) : Option (AExit × St) := if b = true then r.bind fun d => some (.normal, d) else none
theorem famC_true (d : St) : famC true (some d) = some (.normal, d) := _root_.id rfl
theorem w_drawn (f rd id ops s) : (EW X).code f rd (.region id ops true) s = soloW (X.solo f id)
  (fun F => famC (okFam (Region.before ops).toList ops.toList F) (runFam X (EW X) (X.keep f) ops.toList (s.h.b.length, s.h.t.length) ⟨s.fr, ⟨s.h.b ++ List.replicate ops.size .none, s.h.t ++ List.replicate ops.size false⟩, s.ms⟩ F))
  (fun _ => condW (.bool (X.hush f id && hushed ops.toList)) (fun q => if q = true then endR (runQ X (EW X) (X.keep f) ops.toList (s.h.b.length, s.h.t.length) ops.toList s) else
   if drawT (Region.before ops).toList ops.toList s.fr = true then
    endR (runDraw X (EW X) (X.keep f) (Region.before ops).toList ops.toList (s.h.b.length, s.h.t.length) false ops.toList 0 ⟨s.fr, ⟨s.h.b ++ List.replicate ops.size .none, s.h.t ++ List.replicate ops.size false⟩, s.ms⟩)
   else none) .mk) .mk := by
 cases hs : X.solo f id with
 | cons l ls => rw [w_draw, hs]; rfl
 | nil =>
  rw [soloW_nil]
  cases hc : (X.hush f id && hushed ops.toList) with
  | true =>
   simp only [Bool.and_eq_true] at hc
   rw [w_hush X f rd id ops s hs hc.1 hc.2]; rfl
  | false => rw [w_draw, hs, hc]; rfl
noncomputable def oneM (E : Eng) (L : List Nat) (all : List Oper) (n0 : Nat × Nat) (c : Bool) (i : Nat) (o : Oper) (r : List (Nat × Bool)) (s : St) : Option St := oneOp X E L all (!c) (posL n0 all.length i) o s (runL X E L all n0 r)
theorem m_nil (n0 : Nat × Nat) (s : St) : runL X E L all n0 [] s = some s := by rw [runL]
theorem m_c (n0 : Nat × Nat) (i : Nat) (c : Bool) (r : List (Nat × Bool)) (s : St) : runL X E L all n0 ((i, c) :: r) s = bindW all[i]? (fun o => oneM X E L all n0 c i o r s) .mk := by
 rw [runL]
 cases all[i]? <;> rfl
theorem m_one (n0 : Nat × Nat) (c : Bool) (i : Nat) (d : Option Tmp) (op : Op) (ty : TypeId) (po : String) (af : Array Edge) (r : List (Nat × Bool)) (fr : Frm) (h : Heap) (ms : List Nat) :
  oneM X E L all n0 c i ⟨d, op, ty, po, af, none⟩ r ⟨fr, h, ms⟩ = bindW (opAt X E (!c) (n0.1 + (all.length - 1 - i), n0.2 + i) op fr h) (fun x => runL X E L all n0 r ⟨setD L fr d x.1, x.2, ms⟩) .mk := by
 simp only [oneM, oneOp, thenK_eq, bindW]
 rfl
noncomputable def sameW (a d : St) : Option St := open Classical in if a = d then some d else none
theorem sameW_self (d : St) : sameW d d = some d := by unfold sameW; rw [if_pos rfl]
theorem drop_mk (g l : Slots) (h : Heap) (ms : List Nat) : dropS ⟨⟨g, l⟩, h, ms⟩ = ⟨⟨g, []⟩, h, ms⟩ := _root_.id rfl
theorem fam_one (n0 : Nat × Nat) (s : St) (l) : runFam X E L all n0 s [l] = bindW (runL X E L all n0 l s) (fun s1 => some (dropS s1)) .mk := by rw [runFam]; rfl
theorem fam_more (n0 : Nat × Nat) (s : St) (l m ls) : runFam X E L all n0 s (l :: m :: ls) = bindW (runL X E L all n0 l s) (fun s1 => bindW (runFam X E L all n0 s (m :: ls)) (fun d => sameW (dropS s1) d) .mk) .mk := by
 rw [runFam]
 unfold bindW sameW
 rfl
theorem q_nil (n0 : Nat × Nat) (s : St) : runQ X E L all n0 [] s = some s := _root_.id rfl
theorem q_c (n0 : Nat × Nat) (d : Option Tmp) (op : Op) (ty : TypeId) (po : String) (af : Array Edge) (os : List Oper) (fr : Frm) (h : Heap) (ms : List Nat) :
  runQ X E L all n0 (⟨d, op, ty, po, af, none⟩ :: os) ⟨fr, h, ms⟩ = bindW (opAt X E true n0 op fr h) (fun r => runQ X E L all n0 os ⟨setD L fr d r.1, r.2, ms⟩) .mk := by
 simp only [runQ, oneOp, thenK_eq, bindW]
noncomputable def guardQ (E : Eng) (L : List Nat) (all : List Oper) (n0 : Nat × Nat) (d : Option Tmp) (op : Op) (os : List Oper) (t : Tmp) (want : Bool) (s : St) (c : Option Bool) : Option St := match c with
 | some c => if c = want then
   bindW (opAt X E true n0 op (setF L s.fr t (.bool want)) s.h) (fun r => runQ X E L all n0 os ⟨setD L (setF L s.fr t (.bool want)) d r.1, r.2, s.ms⟩) .mk
  else runQ X E L all n0 os ⟨setD L (setF L s.fr t (.bool !want)) d .und, s.h, s.ms⟩
 | none => runQ X E L all n0 os ⟨setD L s.fr d .und, s.h, s.ms⟩
theorem guardQ_some (n0 d op os t want fr h ms c) : guardQ X E L all n0 d op os t want ⟨fr, h, ms⟩ (some c) = if c = want then
      bindW (opAt X E true n0 op (setF L fr t (.bool want)) h) (fun r => runQ X E L all n0 os ⟨setD L (setF L fr t (.bool want)) d r.1, r.2, ms⟩) .mk
    else runQ X E L all n0 os ⟨setD L (setF L fr t (.bool !want)) d .und, h, ms⟩ := _root_.id rfl
theorem guardQ_none (n0 d op os t want fr h ms) : guardQ X E L all n0 d op os t want ⟨fr, h, ms⟩ none = runQ X E L all n0 os ⟨setD L fr d .und, h, ms⟩ := _root_.id rfl
theorem q_g (n0 : Nat × Nat) (d : Option Tmp) (op : Op) (ty : TypeId) (po : String) (af : Array Edge) (gi : Nat) (want : Bool) (os : List Oper) (s : St) :
  runQ X E L all n0 (⟨d, op, ty, po, af, some (gi, want)⟩ :: os) s = bindW (guardOf all (gi, want)) (fun g => guardW (getF s.fr g.1) (guardQ X E L all n0 d op os g.1 g.2 s) .mk) .mk := by
 simp only [runQ, oneOp, thenK_eq, setFK_eq, setDstK_eq]
 cases guardOf all (gi, want) with
 | none => rfl
 | some tw =>
  obtain ⟨t, w⟩ := tw
  simp only [bindW, Option.bind_some, guardW, guardQ]
  cases getF s.fr t <;> rfl
variable {q : Bool} {p : Nat × Nat} {fr : Frm} {h : Heap}
theorem o_move (x) : opAt X E q p (.move x) fr h = some (evo fr x, h) := _root_.id rfl
theorem o_assign (x) : opAt X E q p (.assign x) fr h = some (evo fr x, h) := _root_.id rfl
theorem o_pick (c a b) : opAt X E q p (.pick c a b) fr h = opPick (evo fr c) (evo fr a) (evo fr b) h := _root_.id rfl
theorem o_alloc (t) : opAt X E q p (.alloc t) fr h = opAlloc X p.1 t h := _root_.id rfl
theorem o_box (t x) : opAt X E q p (.box t x) fr h = opBox p.1 (evo fr x) h := _root_.id rfl
theorem o_build (t ps) : opAt X E q p (.build t ps) fr h = (buildAV X t fr ps.toList).bind fun v => some (v, h) := by
 show (buildAV X t fr ps.toList).map (·, h) = _
 cases buildAV X t fr ps.toList <;> rfl
theorem o_buildSlice (t n ps) : opAt X E q p (.buildSlice t n ps) fr h = opBuildSlice X t n fr ps.toList h := _root_.id rfl
theorem o_load (t a) : opAt X E q p (.load t a) fr h = opLoad X t (evo fr a) h := _root_.id rfl
theorem o_store (t a x) : opAt X E q p (.store t a x) fr h = opStore X p.1 t (evo fr a) (evo fr x) h := _root_.id rfl
theorem o_nilCheck (x) : opAt X E q p (.nilCheck x) fr h = opNil (evo fr x) h := _root_.id rfl
theorem o_binOp (o t x y u) : opAt X E q p (.binOp o t x y u) fr h = (binAV X o t (evo fr x) (evo fr y)).bind fun v => some (v, h) := by
 show (binAV X o t (evo fr x) (evo fr y)).map (·, h) = _
 cases binAV X o t (evo fr x) (evo fr y) <;> rfl
theorem o_unOp (o t x) : opAt X E q p (.unOp o t x) fr h = (unAV o (evo fr x)).bind fun v => some (v, h) := by
 show (unAV o (evo fr x)).map (·, h) = _
 cases unAV o (evo fr x) <;> rfl
theorem o_convert (s t x) : opAt X E q p (.convert s t x) fr h = opConvert X s t (evo fr x) h := _root_.id rfl
theorem o_makeFunc (f a b) : opAt X E q p (.makeFunc f a b) fr h = opFunc f (evoL fr a.toList) (evoL fr b.toList) h := _root_.id rfl
theorem o_makeMap (t) : opAt X E q p (.makeMap t none) fr h = some (.mapr p.1, hput h p.1 (.map [])) := _root_.id rfl
theorem o_slice (t x lo hi) : opAt X E q p (.slice t x lo hi none) fr h = (sliceAV X t (evo fr x) fr lo hi).bind fun v => some (v, h) := by
 show (sliceAV X t (evo fr x) fr lo hi).map (·, h) = _
 cases sliceAV X t (evo fr x) fr lo hi <;> rfl
theorem o_fieldAddr (t x f) : opAt X E q p (.fieldAddr t x f) fr h = opFieldAddr X t (evo fr x) f h := _root_.id rfl
theorem o_field (t x f) : opAt X E q p (.field t x f) fr h = opField X t (evo fr x) f h := _root_.id rfl
theorem o_indexAddr (t x i) : opAt X E q p (.indexAddr t x i) fr h = (idxAV X t (evo fr x) (evo fr i)).bind fun v => some (v, h) := by
 show (idxAV X t (evo fr x) (evo fr i)).map (·, h) = _
 cases idxAV X t (evo fr x) (evo fr i) <;> rfl
theorem o_index (t x i) : opAt X E q p (.index t x i) fr h = opIndex X t (evo fr x) (evo fr i) h := _root_.id rfl
theorem o_lookup (t m k ok) : opAt X E q p (.lookup t m k ok) fr h = opLookup X t (evo fr m) (evo fr k) ok h := _root_.id rfl
theorem o_mapUpdate (t m k v) : opAt X E q p (.mapUpdate t m k v) fr h = opMapUpdate X t (evo fr m) (evo fr k) (evo fr v) h := _root_.id rfl
theorem o_mapEntry (t m k) : opAt X E q p (.mapEntry t m k) fr h = opMapEntry X t (evo fr m) (evo fr k) h := _root_.id rfl
theorem o_entryStore (t m s v) : opAt X E q p (.entryStore t m s v) fr h = opEntryStore (evo fr m) (evo fr s) (evo fr v) h := _root_.id rfl
theorem o_range (t x) : opAt X E q p (.range t x) fr h = opRange X p.1 t (evo fr x) h := _root_.id rfl
theorem o_next (it) : opAt X E q p (.next it true) fr h = opNext (evo fr it) h := _root_.id rfl
theorem o_extract (t i) : opAt X E q p (.extract t i) fr h = opExtract (evo fr t) i h := _root_.id rfl
theorem o_makeSlice (t l c) : opAt X E q p (.makeSlice t l c) fr h = opMakeSlice X p.1 t (evo fr l) (evo fr c) h := _root_.id rfl
theorem o_call (g az ts) : opAt X E q p (.call ⟨.value g, az, ts⟩) fr h = callAV X E q (evo fr g) (evoL fr az.toList) h := _root_.id rfl
theorem o_builtin (b az ts) : opAt X E q p (.call ⟨.builtin b, az, ts⟩) fr h = opBuiltin X p b ts.toList (evoL fr az.toList) h := _root_.id rfl
end
end
section
theorem clean_int (k n) : (AV.int k n).clean = some (.int k n) := by simp [AV.clean]
theorem clean_bool (b) : (AV.bool b).clean = some (.bool b) := by simp [AV.clean]
theorem clean_str (s) : (AV.str s).clean = some (.str s) := by simp [AV.clean]
theorem clean_ref (b o) : (AV.ref b o).clean = none := by simp [AV.clean]
theorem clean_bsl (b o n z) : (AV.bsl b o n z).clean = none := by simp [AV.clean]
theorem clean_clo (f) : (AV.clo f [] []).clean = some (.clo f [] []) := by simp [AV.clean]
theorem clean_clo2 (f a x xs) : (AV.clo f a (x :: xs)).clean = none := by cases a <;> simp [AV.clean]
theorem cleanL_nil : cleanL [] = some [] := by simp [cleanL]
theorem cleanL_c {x y xs ys} (h : x.clean = some y) (k : cleanL xs = some ys) : cleanL (x :: xs) = some (y :: ys) := by simp [cleanL, h, k]
theorem cleanL_map {α : Type} {e : α → AV} (h : ∀ x, (e x).clean = some (e x)) : ∀ l : List α, cleanL (l.map e) = some (l.map e)
 | [] => cleanL_nil
 | x :: l => cleanL_c (h x) (cleanL_map h l)
theorem underL_map {α : Type} {e : α → AV} {n : Nat} (h : ∀ x, (e x).under n = true) : ∀ l : List α, underL n (l.map e) = true
 | [] => by simp [underL]
 | x :: l => by simp [underL, h x, underL_map h l]
theorem all_map {α : Type} {e : α → AV} {p : AV → Bool} (h : ∀ x, p (e x) = true) : ∀ l : List α, (l.map e).all p = true
 | [] => rfl
 | x :: l => by rw [List.map_cons, List.all_cons, h x, all_map h l]; rfl
def orW (a : Option AV) (h : Heap) (v : AV) : Option AV := match a with | some u => some u | none => frz h 6 v
theorem orW_some (u : AV) (h : Heap) (v : AV) : orW (some u) h v = some u := id rfl
theorem orW_none (h : Heap) (v : AV) : orW none h v = frz h 6 v := id rfl
theorem settle_eq (h : Heap) (v : AV) : settle h v = orW v.clean h v := id rfl
section
variable (X : Tab)
theorem pure_of {E : Eng} {f : Nat} {az : List AV} {v u : AV} {h h1 : Heap} (hE : E.call f az ⟨[], []⟩ = some (v, h1)) (hv : v.clean = some u) : callPure E f az h = some (u, h) := by
 rw [callPure_eq, hE]; simp [settle, hv]
end
section
variable {X : Tab} {f : Nat} {rd : Option Nat} {b : Code}
theorem w_rounds (S : Nat → St) (n : Nat) (r : Option (AExit × St)) (hs : ∀ k, k < n → cutS (S k) ((EW X).code f rd b (S k)) = some (.normal, S (k + 1)))
  (he : cutS (S n) ((EW X).code f rd b (S n)) = r) (hr : ∀ s, r ≠ some (.normal, s)) (hm : mapLoop b = none := by rfl) : (EW X).code f rd (.loop b) (S 0) = r := by
 have aux : ∀ m k, m + k = n → (EW X).code f rd (.loop b) (S k) = r := by
  intro m
  induction m with
  | zero =>
   intro k hk
   obtain rfl : k = n := by omega
   rw [w_loop _ _ _ _ _ hm, he]
   cases r with
   | none => rfl
   | some r =>
    obtain ⟨e, s⟩ := r
    cases e with
    | normal => exact absurd rfl (hr s)
    | exit i => rfl
    | ret => rfl
  | succ m ih =>
   intro k hk
   rw [w_loop _ _ _ _ _ hm, hs k (by omega), thenN_normal]
   exact ih (k + 1) (by omega)
 exact aux n 0 (by omega)
theorem w_rounds_rel (R : Nat → St → Prop) (n : Nat) (Q : AExit → St → Prop) (hs : ∀ k s, k < n → R k s → ∃ s', cutS s ((EW X).code f rd b s) = some (.normal, s') ∧ R (k + 1) s')
  (he : ∀ s, R n s → ∃ e s', cutS s ((EW X).code f rd b s) = some (e, s') ∧ isNormal e = false ∧ Q e s') (s : St) (h0 : R 0 s) (hm : mapLoop b = none := by rfl) : ∃ e s', (EW X).code f rd (.loop b) s = some (e, s') ∧ Q e s' := by
 have aux : ∀ m k s, m + k = n → R k s → ∃ e s', (EW X).code f rd (.loop b) s = some (e, s') ∧ Q e s' := by
  intro m
  induction m with
  | zero =>
   intro k s hk hR
   obtain rfl : k = n := by omega
   obtain ⟨e, s', h1, h2, h3⟩ := he s hR
   refine ⟨e, s', ?_, h3⟩
   rw [w_loop _ _ _ _ _ hm, h1]
   cases e with
   | normal => cases h2
   | exit i => rfl
   | ret => rfl
  | succ m ih =>
   intro k s hk hR
   obtain ⟨s1, h1, h2⟩ := hs k s (by omega) hR
   rw [w_loop _ _ _ _ _ hm, h1, thenN_normal]
   exact ih (k + 1) s1 (by omega) h2
 exact aux n 0 s (by omega) h0
theorem w_rounds_at {s : St} (S : Nat → St) (n : Nat) (r : Option (AExit × St)) (h0 : s = S 0) (hs : ∀ k, k < n → cutS (S k) ((EW X).code f rd b (S k)) = some (.normal, S (k + 1)))
  (he : cutS (S n) ((EW X).code f rd b (S n)) = r) (hr : ∀ s, r ≠ some (.normal, s)) (hm : mapLoop b = none := by rfl) : (EW X).code f rd (.loop b) s = r := by
 rw [h0]; exact w_rounds S n r hs he hr hm
theorem w_rounds_ex {s : St} {x : Option (AExit × St)} (hx : (EW X).code f rd (.loop b) s = x) (R : Nat → St → Prop) (n : Nat) (Q : AExit → St → Prop) (h0 : R 0 s)
  (hs : ∀ k s, k < n → R k s → ∃ s', cutS s ((EW X).code f rd b s) = some (.normal, s') ∧ R (k + 1) s')
  (he : ∀ s, R n s → ∃ e s', cutS s ((EW X).code f rd b s) = some (e, s') ∧ isNormal e = false ∧ Q e s') (hm : mapLoop b = none := by rfl) : ∃ e s', x = some (e, s') ∧ Q e s' := by
 obtain ⟨e, s', h1, h2⟩ := w_rounds_rel R n Q hs he s h0 hm
 exact ⟨e, s', hx.symm.trans h1, h2⟩
noncomputable def puts (g : Slots) : Slots → Slots
 | [] => g
 | (t, v) :: r => puts (aset g t v) r
theorem puts_nil (g : Slots) : puts g [] = g := id rfl
theorem puts_c (g : Slots) (t : Nat) (v : AV) (r : Slots) : puts g ((t, v) :: r) = puts (aset g t v) r := id rfl
theorem w_rounds_u {g : Slots} {h : Heap} {ms : List Nat} (U : Nat → Slots) (n : Nat) (e : AExit) (V : Slots) (h0 : puts g (U 0) = g)
  (hs : ∀ k, k < n → cutS ⟨⟨puts g (U k), []⟩, h, ms⟩ ((EW X).code f rd b ⟨⟨puts g (U k), []⟩, h, ms⟩) = some (.normal, ⟨⟨puts g (U (k + 1)), []⟩, h, ms⟩))
  (he : cutS ⟨⟨puts g (U n), []⟩, h, ms⟩ ((EW X).code f rd b ⟨⟨puts g (U n), []⟩, h, ms⟩) = some (e, ⟨⟨puts g V, []⟩, h, ms⟩)) (hr : isNormal e = false) (hm : mapLoop b = none := by rfl) :
  (EW X).code f rd (.loop b) ⟨⟨g, []⟩, h, ms⟩ = some (e, ⟨⟨puts g V, []⟩, h, ms⟩) := by
 refine w_rounds_at (fun k => ⟨⟨puts g (U k), []⟩, h, ms⟩) n _ (by rw [h0]) hs he (fun s hh => ?_) hm
 simp only [Option.some.injEq, Prod.mk.injEq] at hh
 rw [hh.1] at hr; cases hr
theorem w_rounds_h {g : Slots} {h : Heap} {ms : List Nat} (U : Nat → Slots) (H : Nat → Heap) (n : Nat) (e : AExit) (V : Slots) (hV : Heap) (h0 : puts g (U 0) = g) (hh : H 0 = h)
  (hs : ∀ k, k < n → cutS ⟨⟨puts g (U k), []⟩, H k, ms⟩ ((EW X).code f rd b ⟨⟨puts g (U k), []⟩, H k, ms⟩) = some (.normal, ⟨⟨puts g (U (k + 1)), []⟩, H (k + 1), ms⟩))
  (he : cutS ⟨⟨puts g (U n), []⟩, H n, ms⟩ ((EW X).code f rd b ⟨⟨puts g (U n), []⟩, H n, ms⟩) = some (e, ⟨⟨puts g V, []⟩, hV, ms⟩)) (hr : isNormal e = false) (hm : mapLoop b = none := by rfl) :
  (EW X).code f rd (.loop b) ⟨⟨g, []⟩, h, ms⟩ = some (e, ⟨⟨puts g V, []⟩, hV, ms⟩) := by
 refine w_rounds_at (fun k => ⟨⟨puts g (U k), []⟩, H k, ms⟩) n _ (by rw [h0, hh]) hs he (fun s hh => ?_) hm
 simp only [Option.some.injEq, Prod.mk.injEq] at hh
 rw [hh.1] at hr; cases hr
end
end
section
open Go.ChangeShapes Go.WideShapes Go.RowKit
def Light {H : Type} (P : Program) (t : TypeId) (d : DataW H) : Prop := ∀ n ∈ d.weights P t, n ≤ reachBytes
section
variable {H : Type} {enc : TypeId × Value → H} {P : Program}
theorem light_each {ts : List TypeId} {ds : List (DataW H)} (h : (DataW.weightsEach P ts ds).all (· ≤ reachBytes) = true) {j : Nat} {t : TypeId} {d : DataW H} (ht : ts[j]? = some t) (hd : ds[j]? = some d) : Light P t d := fun n hn => by
 have := List.all_eq_true.1 h n (DataW.weights_mem_each ht hd n hn)
 simpa using this
theorem light_struct {t : TypeId} {fs : Array Field} {parts : List (DataW H)} (ht : P.underlying t = some (.struct fs)) (h : Light P t (.agg parts)) {i : Nat} {f : Field} {d : DataW H} (hf : fs[i]? = some f) (hd : parts[i]? = some d) : Light P f.type d := fun n hn => by
 refine h n ?_
 simp only [DataW.weights, ht]
 exact DataW.weights_mem_each (j := i) (by rw [List.getElem?_map, Array.getElem?_toList, hf]; rfl) hd n hn
theorem weightsAll_mem {e : TypeId} : ∀ {l : List (DataW H)} {d : DataW H}, d ∈ l → ∀ n ∈ d.weights P e, n ∈ DataW.weightsAll P e l
 | x :: l, d, hd, n, hn => by
  simp only [DataW.weightsAll, List.mem_append]
  rcases List.mem_cons.1 hd with rfl | h
  ·exact .inl hn
  ·exact .inr (weightsAll_mem h n hn)
theorem light_slice {t e : TypeId} {elems spare : List (DataW H)} (ht : P.underlying t = some (.slice e)) (h : Light P t (.slice elems spare)) : elems.length * P.bytesOf e ≤ reachBytes ∧ ∀ d ∈ elems, Light P e d := by
 constructor
 ·have := h ((elems.length + spare.length) * P.bytesOf e) (by simp only [DataW.weights, ht]; exact List.mem_cons_self)
  rw [Nat.add_mul] at this; omega
 ·intro d hd n hn
  refine h n ?_
  simp only [DataW.weights, ht]
  exact List.mem_cons_of_mem _ (List.mem_append.2 (.inl (weightsAll_mem hd n hn)))
def eVal (ag : Bool) (cs : List Value) : Value := if ag then .agg cs.toArray else cs.headD undef
variable {W : World} {X : Tab}
theorem rd_slice {α : Type} {t e : TypeId} (en : α → AV) (Q : α → Prop) (ag : Bool) (sz : Nat) (hsz : P.cellsOf e = sz) (hs0 : 0 < sz) (h1 : ag = true ∨ sz = 1) (ht : P.underlying t = some (.slice e))
  (he : ∀ (n : Nat) (cs : List Value) (d : DataW H) (ps : List MemPlace), cs.length = sz → DataW.trod enc P W 0 (fun _ => true) true n e cs = some (d, ps) → Light P e d → ∃ y, Q y ∧ Rv (Ctx.start X W) (en y) (eVal ag cs) ∧ (eVal ag cs).cells = cs.toArray)
  {n : Nat} {cs : List Value} {d : DataW H} {ps : List MemPlace} (h : DataW.trod enc P W 0 (fun _ => true) true n t cs = some (d, ps)) (hl : Light P t d) :
  ∃ (l : List α) (z : Nat) (v : Value), cs = [v] ∧ Rv (Ctx.start X W) (.lst 0 z (l.map en)) v ∧ (l ≠ [] → z = sz) ∧ l.length * P.bytesOf e ≤ reachBytes ∧ ∀ y ∈ l, Q y := by
 rcases Go.Deep.open_slice ht h with ⟨rfl, hx⟩ | ⟨a, len, cap, m, k, D, Pl, rfl, hb, hlc, hcm, hm, hx, hel⟩
 ·exact ⟨[], 0, _, rfl, .lst 0 0 [] none 0 (fun _ => undef) (Nat.le_refl _) trivial (fun i x h => by simp at h) (fun i h => absurd h (Nat.not_lt_zero _)) (fun h => absurd h (Nat.lt_irrefl _)) (fun _ => rfl), fun h => absurd rfl h, by simp, fun y hy => by cases hy⟩
 ·simp only [Prod.mk.injEq] at hx
  obtain ⟨rfl, _⟩ := hx
  obtain ⟨l1, l2⟩ := light_slice ht hl
  have hm' : len ≤ m := by rw [hm]; simpa using hlc
  have each : ∀ i, i < len → ∃ (p : α × List Value), Q p.1 ∧ Rv (Ctx.start X W) (en p.1) (eVal ag p.2) ∧ (eVal ag p.2).cells = p.2.toArray ∧ p.2.length = sz ∧ ∀ j, j < sz → W.cell? ((a.add (i * sz)).add j) = p.2[j]? := fun i hi => by
   obtain ⟨cs', h2, h3⟩ := hel i (by omega)
   rw [hsz] at h2
   obtain ⟨_, c1, c2⟩ := World.cells?_some h2
   obtain ⟨y, q1, q2, q3⟩ := he k cs' (D i) (Pl i) c1 h3 (l2 _ (by simp; exact ⟨i, hi, rfl⟩))
   exact ⟨(y, cs'), q1, q2, q3, c1, c2⟩
  have each2 : ∃ f : Nat → Option (α × List Value), ∀ i, i < len → ∃ p : α × List Value, f i = some p ∧ Q p.1 ∧ Rv (Ctx.start X W) (en p.1) (eVal ag p.2) ∧ (eVal ag p.2).cells = p.2.toArray ∧ p.2.length = sz ∧ ∀ j, j < sz → W.cell? ((a.add (i * sz)).add j) = p.2[j]? :=
   Go.Deep.choose_lt (p := fun i (x : Option (α × List Value)) => ∃ p : α × List Value, x = some p ∧ Q p.1 ∧ Rv (Ctx.start X W) (en p.1) (eVal ag p.2) ∧ (eVal ag p.2).cells = p.2.toArray ∧ p.2.length = sz ∧ ∀ j, j < sz → W.cell? ((a.add (i * sz)).add j) = p.2[j]?) fun i hi => by obtain ⟨p, hp⟩ := each i hi; exact ⟨some p, p, rfl, hp⟩
  obtain ⟨f, hf⟩ := each2
  have gl : ∀ k, k ≤ len → ∃ l : List α, l.length = k ∧ (∀ i y, l[i]? = some y → ∃ c, f i = some (y, c)) := fun k hk => by
   induction k with
   | zero => exact ⟨[], rfl, fun i y h => by simp at h⟩
   | succ k ih =>
    obtain ⟨l, h2, h3⟩ := ih (by omega)
    obtain ⟨⟨y, c⟩, hp, _⟩ := hf k (by omega)
    refine ⟨l ++ [y], by simp [h2], fun i z hz => ?_⟩
    rw [List.getElem?_append] at hz
    split at hz
    ·exact h3 i z hz
    ·rename_i hi
     have : i = k := by
      by_cases e0 : i - l.length = 0
      ·omega
      ·rw [List.getElem?_eq_none (by simp; omega)] at hz; cases hz
     subst this
     rw [h2, Nat.sub_self] at hz
     simp at hz; subst hz
     exact ⟨c, hp⟩
  obtain ⟨l, g1, g2⟩ := gl len (Nat.le_refl _)
  have hlen : (l.map en).length = len := by simp [g1]
  have hv := Rv.lst (C := Ctx.start X W) 0 sz (l.map en) (some a) cap (fun i => match f i with | some p => eVal ag p.2 | none => undef) (by rw [hlen]; exact hlc) trivial
   (fun i x hx => by
    rw [List.getElem?_map] at hx
    cases hy : l[i]? with
    | none => rw [hy] at hx; cases hx
    | some y =>
     rw [hy] at hx
     simp only [Option.map_some, Option.some.injEq] at hx
     subst hx
     have hi : i < len := by rw [← g1]; exact (List.getElem?_eq_some_iff.1 hy).1
     obtain ⟨c, hc⟩ := g2 i y hy
     obtain ⟨p, hp, _, r, _⟩ := hf i hi
     rw [hc] at hp
     simp only [Option.some.injEq] at hp
     subst hp
     simp only [hc]; exact r)
   (fun i hi => by
    obtain ⟨p, hp, _, _, r, r2, _⟩ := hf i (by omega)
    simp only [hp]; rw [r]; simpa using r2)
   (fun hn => by
    have hsp : a.spot = none := by
     obtain ⟨p, hp, _, _, _, r2, r3⟩ := hf 0 (by omega)
     have := r3 0 hs0
     rw [List.getElem?_eq_getElem (by omega)] at this
     have := World.cell?_spot (a := (a.add (0 * sz)).add 0) this
     simpa [Addr.add] using this
    refine ⟨a.block, a.off, by rw [← hsp], fun i hi j hj => ?_⟩
    obtain ⟨p, hp, _, _, r, r2, r3⟩ := hf i (by omega)
    simp only [hp]
    rw [r]
    have := r3 j hj
    simp only [Ctx.start, List.getElem?_toArray]
    rw [← this]
    have e0 : ∀ k, a.add k = ⟨a.block, a.off + k, none⟩ := fun k => by
     unfold Addr.add
     by_cases hk : k = 0
     ·subst hk; simp only [if_true, Nat.add_zero]; rw [← hsp]
     ·rw [if_neg hk]
    have e1 : ∀ (b o k : Nat), (⟨b, o, none⟩ : Addr).add k = ⟨b, o + k, none⟩ := fun b o k => by
     unfold Addr.add
     by_cases hk : k = 0
     ·subst hk; rfl
     ·rw [if_neg hk]
    rw [e0, e1]) (fun e => by omega)
  rw [hlen] at hv
  refine ⟨l, sz, _, rfl, hv, fun _ => rfl, by rw [g1]; simpa using l1, fun y hy => ?_⟩
  obtain ⟨i, hi, e⟩ := List.mem_iff_getElem.1 hy
  have hy' : l[i]? = some y := by rw [List.getElem?_eq_getElem hi, e]
  obtain ⟨c, hc⟩ := g2 i y hy'
  obtain ⟨p, hp, q, _⟩ := hf i (by omega)
  rw [hc] at hp
  simp only [Option.some.injEq] at hp
  subst hp
  exact q
theorem rd_int {e : TypeId} (hu : P.underlying e = some (.int .i64)) (n : Nat) (cs : List Value) (d : DataW H) (ps : List MemPlace) (_ : cs.length = 1) (h : DataW.trod enc P W 0 (fun _ => true) true n e cs = some (d, ps)) (_ : Light P e d) :
  ∃ y : Int, (-9223372036854775808 ≤ y ∧ y ≤ 9223372036854775807) ∧ Rv (Ctx.start X W) (.int .i64 y) (eVal false cs) ∧ (eVal false cs).cells = cs.toArray := by
 obtain ⟨y, rfl, hx, hw⟩ := DataW.trod_int hu h
 refine ⟨y, ?_, .int _ _, rfl⟩
 exact bounds_i64 hw
theorem rv_nil {C : Ctx} {z : Nat} (z' : Nat) (hz : z' ≠ 0) {v : Value} (h : Rv C (.lst 0 z []) v) : Rv C (.lst 0 z' []) v := by
 cases h with
 | lst _ _ _ a cap vs hc ht hx hs hr _ => exact .lst 0 z' [] a cap vs hc trivial (fun i x h => by simp at h) (fun i h => absurd h (Nat.not_lt_zero _)) (fun h => absurd h (Nat.lt_irrefl _)) (fun e => absurd e hz)
theorem rv_sz {C : Ctx} {α : Type} {en : α → AV} {l : List α} {z sz : Nat} {v : Value} (h : Rv C (.lst 0 z (l.map en)) v) (hz : l ≠ [] → z = sz) (hs : sz ≠ 0 := by omega) : Rv C (.lst 0 sz (l.map en)) v := by
 cases l with
 | nil => exact rv_nil sz hs h
 | cons x l => rw [hz (by simp)] at h; exact h
end
end
section
theorem pick_t (a b : AV) : pickAV true a b = a := by cases a <;> cases b <;> rfl
theorem pick_f (a b : AV) : pickAV false a b = b := by cases a <;> cases b <;> rfl
theorem pick_bb (c x y : Bool) : pickAV c (.bool x) (.bool y) = .bool (if c = true then x else y) := _root_.id rfl
theorem cast_neg (k : Nat) : ((k : Int) < 0) = False := by simp
theorem cast_toNat (k : Nat) : ((k : Int)).toNat = k := Int.toNat_natCast k
theorem heap_put (hb : List ABlk) (ht : List Bool) (b : Nat) (x : ABlk) : Heap.put ⟨hb, ht⟩ b x = ⟨hb.set b x, ht⟩ := _root_.id rfl
theorem get_at0 {α : Type} (a t : List α) : (a ++ t)[a.length]? = t[0]? := by rw [List.getElem?_append_right (Nat.le_refl _), Nat.sub_self]
theorem get_at {α : Type} (a t : List α) (i : Nat) : (a ++ t)[a.length + i]? = t[i]? := by rw [List.getElem?_append_right (by omega), Nat.add_sub_cancel_left]
theorem set_at0 {α : Type} (a t : List α) (x : α) : (a ++ t).set a.length x = a ++ t.set 0 x := by rw [List.set_append_right _ _ (Nat.le_refl _), Nat.sub_self]
theorem set_at {α : Type} (a t : List α) (i : Nat) (x : α) : (a ++ t).set (a.length + i) x = a ++ t.set i x := by rw [List.set_append_right _ _ (by omega), Nat.add_sub_cancel_left]
theorem old {α : Type} {a : List α} {i : Nat} {y : α} (h : a[i]? = some y) : ∀ b, (a ++ b)[i]? = some y := fun b => by
 rw [List.getElem?_append_left (List.getElem?_eq_some_iff.1 h).1]; exact h
theorem map_succ {α β : Type} (g : α → β) {l : List α} {k : Nat} {x : α} (h : l[k]? = some x) : (l.take (k + 1)).map g = (l.take k).map g ++ [g x] := by
 rw [List.take_add_one, h]; simp
theorem cast_zero : ((0 : Nat) : Int) = 0 := _root_.id rfl
theorem cast_succ (k : Nat) : ((k + 1 : Nat) : Int) = (k : Int) + 1 := by omega
theorem some_ite (c : Prop) [Decidable c] (g1 l1 g2 l2 : Slots) (h1 h2 : Heap) (m1 m2 : List Nat) : (if c then some (⟨⟨g1, l1⟩, h1, m1⟩ : St) else some ⟨⟨g2, l2⟩, h2, m2⟩) = some ⟨⟨if c then g1 else g2, if c then l1 else l2⟩, if c then h1 else h2, if c then m1 else m2⟩ := by split <;> rfl
theorem cut_ite (s : St) (c : Prop) [Decidable c] (a b : Option (AExit × St)) : cutS s (if c then a else b) = if c then cutS s a else cutS s b := by split <;> rfl
theorem slot_ite (c : Prop) [Decidable c] (t : Nat) (v w : AV) (r r' : Slots) : (if c then (t, v) :: r else (t, w) :: r') = (t, if c then v else w) :: (if c then r else r') := by split <;> rfl
theorem same_ite {α : Type} (c : Prop) [Decidable c] (a : α) : (if c then a else a) = a := by split <;> rfl
theorem bool_ite (c : Prop) [Decidable c] (a b : Bool) : (if c then AV.bool a else AV.bool b) = AV.bool (if c then a else b) := by split <;> rfl
theorem ite_and (c : Prop) [Decidable c] (b : Bool) : (if c then b else false) = (decide c && b) := by split <;> simp_all
theorem ite_nor (c : Prop) [Decidable c] (b : Bool) : (if c then b else true) = (!decide c || b) := by split <;> simp_all
theorem dec_true (b : Bool) : decide (b = true) = b := by cases b <;> rfl
theorem dec_false (b : Bool) : decide (b = false) = !b := by cases b <;> rfl
def I (l : List Int) : List AV := l.map (AV.int .i64)
theorem I_get (l : List Int) (k : Nat) : (I l)[k]? = (l[k]?).map (AV.int .i64) := by simp [I]
theorem I_len (l : List Int) : (I l).length = l.length := by simp [I]
theorem I_clean (l : List Int) : cleanL (I l) = some (I l) := cleanL_map (fun x => clean_int _ x) l
theorem I_under (n : Nat) (l : List Int) : underL n (I l) = true := underL_map (fun x => by simp [AV.under]) l
theorem I_one (l : List Int) : (I l).all AV.one = true := all_map (fun _ => rfl) l
theorem I_take (n : Nat) (l : List Int) : (I l).take n = I (l.take n) := by simp [I]
theorem I_drop (n : Nat) (l : List Int) : (I l).drop n = I (l.drop n) := by simp [I]
theorem I_nil : I [] = [] := _root_.id rfl
theorem I_c (x : Int) (l : List Int) : I (x :: l) = .int .i64 x :: I l := _root_.id rfl
def S (l : List ByteArray) : List AV := l.map AV.str
theorem S_get (l : List ByteArray) (k : Nat) : (S l)[k]? = (l[k]?).map AV.str := by simp [S]
theorem S_len (l : List ByteArray) : (S l).length = l.length := by simp [S]
theorem S_clean (l : List ByteArray) : cleanL (S l) = some (S l) := cleanL_map (fun x => clean_str x) l
theorem S_under (n : Nat) (l : List ByteArray) : underL n (S l) = true := underL_map (fun x => by simp [AV.under]) l
theorem S_var (l : List ByteArray) : (S l).all AV.var = true := all_map (fun _ => rfl) l
theorem S_nil : S [] = [] := _root_.id rfl
theorem S_snoc (l : List ByteArray) (x : ByteArray) : S l ++ [.str x] = S (l ++ [x]) := by simp [S]
theorem I_snoc (l : List Int) (x : Int) : I l ++ [.int .i64 x] = I (l ++ [x]) := by simp [I]
def T (T0 : List Bool) : Nat → List Bool
 | 0 => T0
 | k + 1 => T0 ++ (List.replicate k false ++ [true])
def tagT (T0 : List Bool) : Nat → Nat
 | 0 => 1
 | k + 1 => T0.length + k + 2
def zT (sz : Nat) : Nat → Nat
 | 0 => 0
 | _ + 1 => sz
theorem T_zero (T0 : List Bool) : T T0 0 = T0 := _root_.id rfl
theorem tagT_zero (T0 : List Bool) : tagT T0 0 = 1 := _root_.id rfl
theorem zT_zero (z : Nat) : zT z 0 = 0 := _root_.id rfl
theorem zT_succ (z k : Nat) : zT z (k + 1) = z := _root_.id rfl
theorem zT_pos {z k : Nat} (h : 0 < k) : zT z k = z := by cases k with | zero => omega | succ k => rfl
theorem append_step {X : Tab} {t e : TypeId} {sz : Nat} (T0 : List Bool) (k : Nat) (hb : List ABlk) (z u z' : Nat) (xs ys : List AV) (ht : trow X t = .slice e) (hs : tsz X e = sz) (hz : (k = 0 ∧ xs.length = 0) ∨ z = sz) (hz' : z' = sz ∨ ys.length = 0)
  (h0 : 0 < sz) (hy : (xs.length + ys.length) * tbytes X e ≤ 140737488355328) (hl : xs.length + ys.length ≤ 140737488355328) (hf : zeroFits X e = true) (hv : ys.all AV.var = true) (hp : xs.length = 0 ∨ 0 < ys.length := by exact .inr (Nat.succ_pos _)) :
  appendAV X t (T T0 k).length ⟨hb, T T0 k⟩ (.lst (tagT T0 k) z xs) (.lst u z' ys) = some (.lst (tagT T0 (k + 1)) sz (xs ++ ys), ⟨hb, T T0 (k + 1)⟩) := by
 have hc : (z' = tsz X e ∨ ys.length = 0) ∧ 0 < tsz X e ∧ (xs.length + ys.length) * tbytes X e ≤ appLimit ∧ xs.length + ys.length ≤ appLimit ∧ zeroFits X e = true ∧ ys.all AV.var = true := by
  rw [hs]; exact ⟨hz', h0, hy, hl, hf, hv⟩
 cases k with
 | zero =>
  have hx : (z = tsz X e ∨ xs.length = 0) ∧ (xs.length = 0 ∨ 0 < ys.length) := ⟨by rcases hz with h | h; exact .inr h.2; exact .inl (by rw [hs]; exact h), hp⟩
  unfold appendAV
  rw [ht]
  simp only [tagT, T]
  rw [if_pos hc, if_pos hx, hs]
  simp only [lset, Nat.lt_irrefl, if_false, List.replicate, List.nil_append, Nat.add_zero]
 | succ k =>
  have hx : z = tsz X e := by rcases hz with h | h; exact absurd h.1 (by omega); rw [hs]; exact h
  have hg : (T0 ++ (List.replicate k false ++ [true]))[T0.length + k]? = some true := by
   rw [List.getElem?_append_right (by omega), Nat.add_sub_cancel_left, List.getElem?_append_right (by simp), List.length_replicate, Nat.sub_self]; rfl
  have hset : (T0 ++ (List.replicate k false ++ [true])).set (T0.length + k) false = T0 ++ List.replicate (k + 1) false := by
   rw [List.set_append_right _ _ (by omega), Nat.add_sub_cancel_left, List.set_append_right _ _ (by simp), List.length_replicate, Nat.sub_self, List.replicate_succ']; rfl
  show appendAV X t (T0 ++ (List.replicate k false ++ [true])).length ⟨hb, T0 ++ (List.replicate k false ++ [true])⟩ (.lst (T0.length + k + 2) z xs) (.lst u z' ys) = some (.lst (T0.length + (k + 1) + 2) sz (xs ++ ys), ⟨hb, T0 ++ (List.replicate (k + 1) false ++ [true])⟩)
  unfold appendAV
  rw [ht]
  simp only [if_pos hc]
  rw [if_pos hx, hg]
  simp only
  rw [hset, hs]
  simp only [lset]
  rw [if_neg (by simp)]
  have e1 : (T0 ++ (List.replicate k false ++ [true])).length = T0.length + (k + 1) := by simp
  rw [e1, List.append_assoc]
def consO (a : Option AV) (b : Option (List AV)) : Option (List AV) := match a, b with | some y, some ys => some (y :: ys) | _, _ => none
theorem consO_some (y : AV) (ys : List AV) : consO (some y) (some ys) = some (y :: ys) := _root_.id rfl
theorem consO_none (b : Option (List AV)) : consO none b = none := _root_.id rfl
theorem consO_none2 (a : Option AV) : consO a none = none := by cases a <;> rfl
theorem cleanL_cc (x : AV) (xs : List AV) : cleanL (x :: xs) = consO x.clean (cleanL xs) := by simp only [cleanL, consO]; cases x.clean <;> cases cleanL xs <;> rfl
theorem cl_lst (t z : Nat) (xs : List AV) : (AV.lst t z xs).clean = (cleanL xs).bind fun ys => some (.lst 0 z ys) := by simp only [AV.clean]; cases cleanL xs <;> rfl
theorem cl_agg (xs : List AV) : (AV.agg xs).clean = (cleanL xs).bind fun ys => some (.agg ys) := by simp only [AV.clean]; cases cleanL xs <;> rfl
theorem cl_tup (xs : List AV) : (AV.tup xs).clean = (cleanL xs).bind fun ys => some (.tup ys) := by simp only [AV.clean]; cases cleanL xs <;> rfl
noncomputable def callC (E : Eng) (q : Bool) (f : Nat) (o : Option (List AV → Option AV)) (r : Bool) (c : Option (List AV)) (raw : List AV) (h : Heap) : Option (AV × Heap) :=
 match o with
 | some O => if q then none else callOrc O raw h
 | none => if r then (if q then none else E.call f raw h) else match c with
  | some az => callPure E f az h
  | none => if q then none else E.call f raw h
theorem callAV_clo (X : Tab) (E : Eng) (q : Bool) (f : Nat) (fst cap args : List AV) (h : Heap) : callAV X E q (.clo f fst cap) args h = callC E q f (X.orc f) (retRef X f) (cleanL (fst ++ args ++ cap)) (fst ++ args ++ cap) h := _root_.id rfl
theorem callC_pure (E : Eng) (q : Bool) (f : Nat) (az raw : List AV) (h : Heap) : callC E q f none false (some az) raw h = callPure E f az h := _root_.id rfl
theorem callC_heap (E : Eng) (f : Nat) (raw : List AV) (h : Heap) : callC E false f none false none raw h = E.call f raw h := _root_.id rfl
theorem callC_ref (E : Eng) (f : Nat) (c : Option (List AV)) (raw : List AV) (h : Heap) : callC E false f none true c raw h = E.call f raw h := _root_.id rfl
theorem callC_orc (E : Eng) (f : Nat) (O : List AV → Option AV) (r : Bool) (c : Option (List AV)) (raw : List AV) (h : Heap) : callC E false f (some O) r c raw h = callOrc O raw h := _root_.id rfl
theorem wrap_i64 {n : Int} (h : -9223372036854775808 ≤ n ∧ n ≤ 9223372036854775807) : IntKind.i64.wrap n = n := by
 have := Go.IntWalk.i64_in n
 first | exact this h | exact this h.1 h.2 | exact this ⟨h.1, h.2⟩ | exact this (by omega) | exact this (by omega) (by omega)
theorem underL_app (n : Nat) (a b : List AV) : underL n (a ++ b) = (underL n a && underL n b) := by
 induction a with
 | nil => simp [underL]
 | cons x a ih => simp only [List.cons_append, underL, ih, Bool.and_assoc]
theorem take_app {α : Type} (a b : List α) : (a ++ b).take a.length = a := by simp
attribute [go_sem ↓] w_block w_cond w_exit w_region w_ret w_scope w_seq w_skip
attribute [go_sem] true_or or_true false_or or_false Nat.add_le_add_iff_left settle_eq orW_some Nat.le_refl Int.le_refl Int.lt_irrefl bne_self_eq_false S_get S_len S_clean S_under S_var S_nil w_drawn soloW_nil soloW_c famC_true m_nil m_c m_one sameW_self drop_mk fam_one fam_more hushed_nil hushed_c hushK opKind callKind q_nil q_c q_g guardQ_some guardQ_none underL_app List.all_append Option.isNone_none Option.isNone_some T_zero tagT_zero zT_zero zT_succ List.map_nil Nat.zero_le get_at0 get_at set_at0 set_at take_app List.append_assoc List.set_cons_zero List.set_cons_succ heap_put beq_self_eq_true some_ite cut_ite slot_ite same_ite bool_ite ite_and ite_nor dec_true dec_false Bool.not_not Bool.or_false Bool.false_or Bool.or_true Bool.true_or Bool.and_false Bool.false_and opNext opRange clean_int clean_bool clean_str clean_ref clean_bsl clean_clo clean_clo2 cl_lst cl_agg cl_tup cleanL_nil cleanL_cc consO_some consO_none consO_none2 callAV_clo callC_pure callC_heap callC_ref callC_orc callOrc viewL viewV deepW_f deepW_t kindW_0 kindW_1 kindW_2 litAV zerosAV opMake0 runR_none iceSt runBx_nil runBx_g o_st o_ap o_mv o_ld o_fa o_bs o_ix o_as growApp growAV nilAV puts_nil puts_c cast_zero cast_succ Bool.and_assoc gt_iff_lt ge_iff_le I_get I_len I_clean I_under I_one I_take I_drop I_nil run_g run_c0 setF_mk setD_some setD_none getF_mk adel_nil aget_c agetOr_nil aset_nil aset_c adel_c evo_tmp evo_func evo_int evo_bool evo_string evo_nilp evo_nilf evo_nils evoL_nil evoL_c next_normal next_exit next_ret next_ite catchB_normal catchB_ret catchB_exit catchB_ite endR_some cut_normal cut_exit cut_ret restr_nil restr_c w_label condW_bool run_nil guardW_bool guardW_und guardK_some guardK_none o_move o_assign o_pick o_alloc o_box o_build o_buildSlice o_load o_store o_nilCheck o_binOp o_unOp o_convert o_makeFunc o_makeMap o_slice o_fieldAddr o_field o_indexAddr o_index o_lookup o_mapUpdate o_mapEntry o_entryStore o_range o_next opEntry o_extract o_makeSlice o_call o_builtin bindW_some Option.bind_some Option.bind_none Option.map_some Option.map_none List.toList_toArray guardOf List.getElem?_cons_zero List.getElem?_cons_succ List.getElem?_nil afterCall unmark resAV resOne leave opPick pick_t pick_f pick_bb opAlloc opBox opLoad opStore opNil opConvert opFieldAddr opField opIndex opExtract opBuiltin opLen opAppend opMin opMax opFunc idxAV sliceAV bound opBuildSlice litParts buildAV fillAV fieldParts rowParts binAV intBin cmpInt shiftAV isShift boolBin strBin unAV loadAV splice tsz tbytes tfield trow tint tzero tmap teq tbool tref tfok known zeroFits appLimit AV.cells AV.var AV.one AV.under underL hput lset List.length_append cast_neg cast_toNat List.drop_zero List.drop_succ_cons List.drop_nil List.take_zero List.take_succ_cons List.take_nil List.length_cons List.length_nil List.set_cons_zero List.set_cons_succ List.append_nil List.take_length List.nil_append List.cons_append List.all_cons List.all_nil List.length_map List.replicate Bool.not_true Bool.not_false Bool.and_true Bool.true_and Bool.and_self and_true true_and and_self Bool.false_eq_true decide_true decide_false decide_eq_true_eq Nat.zero_add Nat.add_zero Nat.lt_irrefl Nat.zero_lt_one
end
section
open Go.Proofs
def firstBad (e : Nat → Int) : Nat → Nat → Option Nat
 | _, 0 => none
 | k, n + 1 => if e k ≠ 0 then some k else firstBad e (k + 1) n
theorem firstBad_none {e : Nat → Int} : ∀ {n k : Nat}, firstBad e k n = none → ∀ i, k ≤ i → i < k + n → e i = 0
 | 0, k, _, i, h1, h2 => by omega
 | n + 1, k, h, i, h1, h2 => by
  unfold firstBad at h
  split at h
  ·cases h
  ·rename_i h0
   by_cases hi : i = k
   ·subst hi; simpa using h0
   ·exact firstBad_none h i (by omega) (by omega)
theorem firstBad_some {e : Nat → Int} : ∀ {n k j : Nat}, firstBad e k n = some j → k ≤ j ∧ j < k + n ∧ e j ≠ 0 ∧ ∀ i, k ≤ i → i < j → e i = 0
 | 0, k, j, h => by cases h
 | n + 1, k, j, h => by
  unfold firstBad at h
  split at h
  ·rename_i h0
   cases h
   exact ⟨Nat.le_refl _, by omega, h0, fun i h1 h2 => by omega⟩
  ·rename_i h0
   obtain ⟨a, b, c, d⟩ := firstBad_some h
   refine ⟨by omega, by omega, c, fun i h1 h2 => ?_⟩
   by_cases hi : i = k
   ·subst hi; simpa using h0
   ·exact d i (by omega) h2
theorem firstBad_zero {e : Nat → Int} : ∀ {n k : Nat}, (∀ i, k ≤ i → i < k + n → e i = 0) → firstBad e k n = none
 | 0, k, _ => rfl
 | n + 1, k, h => by
  unfold firstBad
  rw [if_neg (by simpa using h k (by omega) (by omega))]
  exact firstBad_zero fun i h1 h2 => h i (by omega) (by omega)
def atE (e : Nat → Int) (n : Nat) : AV := match firstBad e 0 n with | some k => .tup [.int .i64 k, .int .i64 (e k)] | none => .tup [.int .i64 0, .int .i64 0]
noncomputable def firstW (e : Nat → Int) (n : Nat) (b : Nat → Option (AExit × St)) (z : Option (AExit × St)) : Option (AExit × St) := match firstBad e 0 n with | some k => b k | none => z
theorem w_first {X : Tab} {f : Nat} {rd : Option Nat} {b : Code} {g : Slots} {h : Heap} {ms : List Nat} (U : Nat → Slots) (H : Nat → Heap) (e : Nat → Int) (n : Nat) (xb : AExit) (Vb : Nat → Slots) (Hb : Nat → Heap) (x : AExit) (V : Slots) (hV : Heap) (h0 : puts g (U 0) = g) (hh : H 0 = h)
  (hs : ∀ k, k < n → e k = 0 → cutS ⟨⟨puts g (U k), []⟩, H k, ms⟩ ((EW X).code f rd b ⟨⟨puts g (U k), []⟩, H k, ms⟩) = some (.normal, ⟨⟨puts g (U (k + 1)), []⟩, H (k + 1), ms⟩))
  (hb : ∀ k, k < n → e k ≠ 0 → cutS ⟨⟨puts g (U k), []⟩, H k, ms⟩ ((EW X).code f rd b ⟨⟨puts g (U k), []⟩, H k, ms⟩) = some (xb, ⟨⟨puts g (Vb k), []⟩, Hb k, ms⟩))
  (he : cutS ⟨⟨puts g (U n), []⟩, H n, ms⟩ ((EW X).code f rd b ⟨⟨puts g (U n), []⟩, H n, ms⟩) = some (x, ⟨⟨puts g V, []⟩, hV, ms⟩)) (hrb : isNormal xb = false) (hr : isNormal x = false) (hm : mapLoop b = none := by rfl) :
  (EW X).code f rd (.loop b) ⟨⟨g, []⟩, h, ms⟩ = firstW e n (fun k => some (xb, ⟨⟨puts g (Vb k), []⟩, Hb k, ms⟩)) (some (x, ⟨⟨puts g V, []⟩, hV, ms⟩)) := by
 unfold firstW
 cases hf : firstBad e 0 n with
 | some k =>
  obtain ⟨_, h1, h2, h3⟩ := firstBad_some hf
  exact w_rounds_h U H k xb (Vb k) (Hb k) h0 hh (fun j hj => hs j (by omega) (h3 j (by omega) hj)) (hb k (by omega) h2) hrb hm
 | none => exact w_rounds_h U H n x V hV h0 hh (fun j hj => hs j hj (firstBad_none hf j (by omega) (by omega))) he hr hm
section
variable {X : Tab} {f : Nat} {rd : Option Nat} {b : Code}
theorem w_rounds_sk {σ : Type} {G : Prop} {g : Slots} {h : Heap} {ms : List Nat} {x : Option (AExit × St)} (hx : (EW X).code f rd (.loop b) ⟨⟨g, []⟩, h, ms⟩ = x)
  (U : Nat → σ → Slots) (Hp : σ → Heap) (R : Nat → σ → Prop) (n : Nat) (e : AExit) (V : σ → Slots) (hr : isNormal e = false) (s0 : σ) (h0 : puts g (U 0 s0) = g) (hh : Hp s0 = h) (hR : R 0 s0)
  (hs : ∀ k s, k < n → R k s → ∃ s', cutS ⟨⟨puts g (U k s), []⟩, Hp s, ms⟩ ((EW X).code f rd b ⟨⟨puts g (U k s), []⟩, Hp s, ms⟩) = some (.normal, ⟨⟨puts g (U (k + 1) s'), []⟩, Hp s', ms⟩) ∧ R (k + 1) s')
  (he : ∀ s, R n s → cutS ⟨⟨puts g (U n s), []⟩, Hp s, ms⟩ ((EW X).code f rd b ⟨⟨puts g (U n s), []⟩, Hp s, ms⟩) = some (e, ⟨⟨puts g (V s), []⟩, Hp s, ms⟩))
  (hG : ∀ s, x = some (e, ⟨⟨puts g (V s), []⟩, Hp s, ms⟩) → R n s → G) (hm : mapLoop b = none := by rfl) : G := by
 obtain ⟨e', s', h1, s, rfl, rfl, h2⟩ := w_rounds_ex hx (fun k q => ∃ s, q = ⟨⟨puts g (U k s), []⟩, Hp s, ms⟩ ∧ R k s) n (fun e' q => ∃ s, e' = e ∧ q = ⟨⟨puts g (V s), []⟩, Hp s, ms⟩ ∧ R n s)
  ⟨s0, by rw [h0, hh], hR⟩ (fun k q hk ⟨s, hq1, hq2⟩ => by
   subst hq1
   obtain ⟨s', a, c⟩ := hs k s hk hq2
   exact ⟨_, a, s', rfl, c⟩)
  (fun q ⟨s, hq1, hq2⟩ => by
   subst hq1
   exact ⟨e, _, he s hq2, hr, s, rfl, rfl, hq2⟩) hm
 exact hG s h1 h2
end
def OwnS (sz tag z n : Nat) (t : List Bool) : Prop := (tag = 1 ∧ n = 0) ∨ ∃ q, tag = q + 2 ∧ z = sz ∧ t[q]? = some true
theorem app_gen {X : Tab} {ty e : TypeId} {sz : Nat} {tag z : Nat} {t : List Bool} {xs : List AV} (hn : OwnS sz tag z xs.length t) (u z' : Nat) (ys : List AV) (ht : trow X ty = .slice e) (hs : tsz X e = sz) (h0 : 0 < sz) (hz' : z' = sz ∨ ys.length = 0)
  (hy : (xs.length + ys.length) * tbytes X e ≤ 140737488355328) (hy2 : xs.length + ys.length ≤ 140737488355328) (hf : zeroFits X e = true) (hv : ys.all AV.var = true) :
  ∃ t2, (∀ B, appendAV X ty t.length ⟨B, t⟩ (.lst tag z xs) (.lst u z' ys) = some (.lst (t.length + 2) sz (xs ++ ys), ⟨B, t2⟩)) ∧ t2.length = t.length + 1 ∧ t2[t.length]? = some true ∧ ∀ k, tag ≠ k + 2 → t[k]? = some true → t2[k]? = some true := by
 have hc : (z' = tsz X e ∨ ys.length = 0) ∧ 0 < tsz X e ∧ (xs.length + ys.length) * tbytes X e ≤ appLimit ∧ xs.length + ys.length ≤ appLimit ∧ zeroFits X e = true ∧ ys.all AV.var = true := by
  rw [hs]; exact ⟨hz', h0, hy, hy2, hf, hv⟩
 unfold appendAV
 simp only [ht, if_pos hc]
 rcases hn with ⟨rfl, hn0⟩ | ⟨q, rfl, hq, hqt⟩
 ·have hx : (z = tsz X e ∨ xs.length = 0) ∧ (xs.length = 0 ∨ 0 < ys.length) := ⟨.inr hn0, .inl hn0⟩
  refine ⟨t ++ [true], fun B => ?_, by simp, by simp, fun k _ hk => old hk _⟩
  rw [if_pos hx]
  simp only [hs, lset, Nat.lt_irrefl, if_false]
 ·have hx : z = tsz X e := by rw [hs, hq]
  refine ⟨t.set q false ++ [true], fun B => ?_, by simp, by simp, fun k hne hk => ?_⟩
  ·simp only [hqt]
   rw [if_pos hx]
   simp only [hs, lset, List.length_set, Nat.lt_irrefl, if_false]
  ·refine old ?_ _
   rw [List.getElem?_set_ne (by omega)]; exact hk
def Rows (xs : List AV) (ts : List (List Int)) : Prop := xs.length = ts.length ∧ ∀ (i : Nat) (t : List Int), ts[i]? = some t → ∃ tg z, xs[i]? = some (.lst tg z (I t)) ∧ (t ≠ [] → z = 1)
theorem Rows.snoc {xs : List AV} {ts : List (List Int)} (h : Rows xs ts) (tg : Nat) (t : List Int) : Rows (xs ++ [.lst tg 1 (I t)]) (ts ++ [t]) := by
 refine ⟨by simp [h.1], fun i u hu => ?_⟩
 rw [List.getElem?_append] at hu
 split at hu
 ·obtain ⟨a, z, h1, h2⟩ := h.2 i u hu
  exact ⟨a, z, old h1 _, h2⟩
 ·rename_i hi
  have : i = ts.length := by
   by_cases e : i - ts.length = 0
   ·omega
   ·rw [List.getElem?_eq_none (by simp; omega)] at hu; cases hu
  subst this
  simp at hu; subst hu
  refine ⟨tg, 1, ?_, fun _ => rfl⟩
  rw [← h.1]; simp
theorem Rows.under {xs : List AV} {ts : List (List Int)} (h : Rows xs ts) (n : Nat) : underL n xs = true := by
 refine underL_of fun x hx => ?_
 obtain ⟨i, hi, e⟩ := List.mem_iff_getElem.1 hx
 have hi2 : i < ts.length := by rw [← h.1]; exact hi
 obtain ⟨a, z, h1, _⟩ := h.2 i ts[i] (List.getElem?_eq_getElem hi2)
 rw [List.getElem?_eq_getElem hi, e] at h1
 simp only [Option.some.injEq] at h1
 rw [h1]; simp only [go_sem, ↓reduceIte, simprocAttr]
theorem Rows.var {xs : List AV} {ts : List (List Int)} (h : Rows xs ts) : xs.all AV.var = true := by
 rw [List.all_eq_true]
 intro x hx
 obtain ⟨i, hi, e⟩ := List.mem_iff_getElem.1 hx
 have hi2 : i < ts.length := by rw [← h.1]; exact hi
 obtain ⟨a, z, h1, _⟩ := h.2 i ts[i] (List.getElem?_eq_getElem hi2)
 rw [List.getElem?_eq_getElem hi, e] at h1
 simp only [Option.some.injEq] at h1
 rw [h1]; rfl
theorem Rows.clean : ∀ {xs : List AV} {ts : List (List Int)}, Rows xs ts → ∃ ys, cleanL xs = some ys ∧ Rows ys ts ∧ cleanL ys = some ys
 | [], ts, h => ⟨[], cleanL_nil, h, cleanL_nil⟩
 | x :: xs, [], h => by have := h.1; simp at this
 | x :: xs, t :: ts, h => by
  have h' : Rows xs ts := ⟨by have := h.1; simpa using this, fun i u hu => by simpa using h.2 (i + 1) u (by simpa using hu)⟩
  obtain ⟨ys, h1, h2, h3⟩ := h'.clean
  obtain ⟨a, z, h4, h5⟩ := h.2 0 t rfl
  simp only [List.getElem?_cons_zero, Option.some.injEq] at h4
  subst h4
  refine ⟨.lst 0 z (I t) :: ys, by simp only [go_sem, ↓reduceIte, simprocAttr, h1], ⟨by have := h2.1; simp [this], fun i u hu => ?_⟩, by simp only [go_sem, ↓reduceIte, simprocAttr, h3]⟩
  cases i with
  | zero => simp at hu; subst hu; exact ⟨0, z, rfl, h5⟩
  | succ i => simpa using h2.2 i u (by simpa using hu)
section
variable (X : Tab) {E : Eng} {L : List Nat} {all : List Oper}
theorem d_nil (b : List Nat) (n0 : Nat × Nat) (i : Nat) (s : St) : runDraw X E L b all n0 false [] i s = some s := _root_.id rfl
theorem d_c (b : List Nat) (n0 : Nat × Nat) (i : Nat) (d : Option Tmp) (op : Op) (ty : TypeId) (po : String) (af : Array Edge) (os : List Oper) (fr : Frm) (h : Heap) (ms : List Nat) :
  runDraw X E L b all n0 false (⟨d, op, ty, po, af, none⟩ :: os) i ⟨fr, h, ms⟩ = bindW (opAt X E (!boundAll b all i) (n0.1 + i, n0.2 + i) op fr h) (fun r => runDraw X E L b all n0 false os (i + 1) ⟨setD L fr d r.1, r.2, ms⟩) .mk := by
 have e : runDraw X E L b all n0 false (⟨d, op, ty, po, af, none⟩ :: os) i ⟨fr, h, ms⟩ = oneOp X E L all (false || !boundAll b all i) (posAt n0 false i) ⟨d, op, ty, po, af, none⟩ ⟨fr, h, ms⟩ (runDraw X E L b all n0 false os (i + 1)) := rfl
 rw [e]
 simp only [oneOp, thenK_eq, Bool.false_or, bindW]
 rfl
end
section
variable {X : Tab} {f : Nat} {rd : Option Nat} {b : Code}
end
attribute [go_sem] d_nil d_c opMapUpdate opLookup
theorem sux_neg (k : Nat) : ((k : Int) + 1 < 0) = False := by simp; omega
theorem sux_nat (k : Nat) : ((k : Int) + 1).toNat = k + 1 := by omega
attribute [go_sem] sux_neg sux_nat
section
variable {X : Tab} {f : Nat} {rd : Option Nat} {b : Code}
end
section
variable {X : Tab} {f : Nat} {rd : Option Nat} {b : Code}
end
theorem callAV_yld2 (X : Tab) (E : Eng) (l : Nat) (args : List AV) (h : Heap) : callAV X E false (.yld l) args h = stepRound X E l args h := id rfl
section
variable {α : Type} {Q : List α} {n : Nat} (h : Q.length = n)
include h
theorem q_get (t : List α) (i : Nat) : (Q ++ t)[n + i]? = t[i]? := by subst h; exact get_at Q t i
theorem q_get0 (t : List α) : (Q ++ t)[n]? = t[0]? := by subst h; exact get_at0 Q t
theorem q_set (t : List α) (i : Nat) (y : α) : (Q ++ t).set (n + i) y = Q ++ t.set i y := by subst h; exact set_at Q t i y
theorem q_set0 (t : List α) (y : α) : (Q ++ t).set n y = Q ++ t.set 0 y := by subst h; exact set_at0 Q t y
theorem q_take (t : List α) (i : Nat) : (Q ++ t).take (n + i) = Q ++ t.take i := by subst h; rw [List.take_length_add_append]
theorem q_take0 (t : List α) : (Q ++ t).take n = Q := by subst h; exact take_app Q t
end
theorem eqC_nil : eqCells [] [] [] = some true := _root_.id rfl
theorem eqC_0 (ks : List Nat) (k j : IntKind) (a b : Int) (xs ys : List AV) : eqCells (0 :: ks) (.int k a :: xs) (.int j b :: ys) = if k = j then (eqCells ks xs ys).map (a == b && ·) else none := _root_.id rfl
theorem eqC_1 (ks : List Nat) (a b : Bool) (xs ys : List AV) : eqCells (1 :: ks) (.bool a :: xs) (.bool b :: ys) = (eqCells ks xs ys).map (a == b && ·) := _root_.id rfl
attribute [go_sem] eqC_nil eqC_0 eqC_1 aggBin
theorem w_range (X : Tab) (f : Nat) (g : Operand) (ps : Array Tmp) (asg body : Code) (fr : Frm) (hb : List ABlk) (ht : List Bool) (ms : List Nat) {gf : Nat} {fst cap : List AV} (hg : evo fr g = .clo gf fst cap) :
  (EW X).code f none (.rangeFunc g ps asg body) ⟨fr, ⟨hb, ht⟩, ms⟩ = ((EW X).call gf (fst ++ [.yld (hb.length + 1)] ++ cap) ⟨hb ++ [.mark] ++ [.loop false .normal false f fr ps.toList asg body], ht⟩).bind fun r => afterRange (hb.length + 1) fr (hb.length :: ms) r.2 := by
 rw [ew_code]
 show enterRange (EW X) f (evo fr g) ps.toList asg body fr ⟨hb ++ [.mark], ht⟩ (hb.length :: ms) = _
 rw [hg, enterRange_eq]
 simp
theorem y1 (L : List Nat) (fr : Frm) (a : Tmp) (x : AV) : yieldFr L fr [a] [x] = some (setF L fr a x) := by
 simp only [yieldFr, setFK_eq]
end
section
open Go.Proofs
structure Pe where
 name : ByteArray
 widow : Int
structure Vi where
 person : Int
 day : Int
 kind : Int
 llo : Int
 lhi : Int
 hlo : Int
 hhi : Int
 sure : Bool
structure Et where
 visit : Int
 pence : Int
structure Fu where
 pence : Int
 days : Int
 opn : Int
 late : Int
 frm : Int
 lines : List Int
 people : List Pe
 visits : List Vi
 entries : List Et
 zl : Nat
 zp : Nat
 zv : Nat
 ze : Nat
def ePe (p : Pe) : AV := .agg [.str p.name, .int .i64 p.widow]
def eVi (v : Vi) : AV := .agg [.int .i64 v.person, .int .i64 v.day, .int .i64 v.kind, .int .i64 v.llo, .int .i64 v.lhi, .int .i64 v.hlo, .int .i64 v.hhi, .bool v.sure]
def eEt (x : Et) : AV := .agg [.int .i64 x.visit, .int .i64 x.pence]
def eFc (f : Fu) : List AV := [.int .i64 f.pence, .int .i64 f.days, .int .i64 f.opn, .int .i64 f.late, .int .i64 f.frm, .lst 0 f.zl (I f.lines), .lst 0 f.zp (f.people.map ePe), .lst 0 f.zv (f.visits.map eVi), .lst 0 f.ze (f.entries.map eEt)]
def eF (f : Fu) : AV := .agg (eFc f)
def eFs (f : Fu) (refused but : Nat) : List AV := [.int .i64 f.pence, .int .i64 f.days, .int .i64 f.opn, .int .i64 f.late, .int .i64 f.frm, .lst 0 f.zl (I f.lines), .lst 0 f.zp (f.people.map ePe), .lst 0 f.zv (f.visits.map eVi), .lst 0 f.ze (f.entries.map eEt), .int .i64 (refused : Int), .int .i64 (but : Int)]
def bPe (p : Pe) : ABlk := .cells [.str p.name, .int .i64 p.widow]
def bVi (v : Vi) : ABlk := .cells [.int .i64 v.person, .int .i64 v.day, .int .i64 v.kind, .int .i64 v.llo, .int .i64 v.lhi, .int .i64 v.hlo, .int .i64 v.hhi, .bool v.sure]
def bEt (x : Et) : ABlk := .cells [.int .i64 x.visit, .int .i64 x.pence]
theorem ePe_get (l : List Pe) (k : Nat) : (l.map ePe)[k]? = (l[k]?).map ePe := by simp
theorem eVi_get (l : List Vi) (k : Nat) : (l.map eVi)[k]? = (l[k]?).map eVi := by simp
theorem eEt_get (l : List Et) (k : Nat) : (l.map eEt)[k]? = (l[k]?).map eEt := by simp
theorem ePe_clean (l : List Pe) : cleanL (l.map ePe) = some (l.map ePe) := cleanL_map (fun x => by simp only [ePe, go_sem, ↓reduceIte, simprocAttr]) l
theorem eVi_clean (l : List Vi) : cleanL (l.map eVi) = some (l.map eVi) := cleanL_map (fun x => by simp only [eVi, go_sem, ↓reduceIte, simprocAttr]) l
theorem eEt_clean (l : List Et) : cleanL (l.map eEt) = some (l.map eEt) := cleanL_map (fun x => by simp only [eEt, go_sem, ↓reduceIte, simprocAttr]) l
theorem ePe_under (n : Nat) (l : List Pe) : underL n (l.map ePe) = true := underL_map (fun x => by simp only [ePe, go_sem, ↓reduceIte, simprocAttr]) l
theorem eVi_under (n : Nat) (l : List Vi) : underL n (l.map eVi) = true := underL_map (fun x => by simp only [eVi, go_sem, ↓reduceIte, simprocAttr]) l
theorem eEt_under (n : Nat) (l : List Et) : underL n (l.map eEt) = true := underL_map (fun x => by simp only [eEt, go_sem, ↓reduceIte, simprocAttr]) l
theorem eVi_var (l : List Vi) : (l.map eVi).all AV.var = true := all_map (fun _ => rfl) l
attribute [go_sem] ePe_get eVi_get eEt_get ePe_clean eVi_clean eEt_clean ePe_under eVi_under eEt_under eVi_var
theorem eF_clean (f : Fu) : (eF f).clean = some (eF f) := by simp only [eF, eFc, go_sem, ↓reduceIte, simprocAttr]
structure Fu.fits (f : Fu) : Prop where
 zl : f.lines ≠ [] → f.zl = 1
 zp : f.people ≠ [] → f.zp = 2
 zv : f.visits ≠ [] → f.zv = 8
 ze : f.entries ≠ [] → f.ze = 2
 ll : f.lines.length < 1000000000000000000
 lp : f.people.length < 1000000000000000000
 lv : f.visits.length < 1000000000000000000
 le : f.entries.length < 1000000000000000000
 np : ∀ p ∈ f.people, p.name.size < 1000000000000000000
structure Vi.Ok (f : Fu) (v : Vi) : Prop where
 person : 0 ≤ v.person ∧ v.person < f.people.length
 kind : 0 ≤ v.kind ∧ v.kind < f.lines.length
 day : 0 ≤ v.day ∧ v.day < f.days
 line : 1 ≤ v.llo ∧ v.llo ≤ v.lhi ∧ v.lhi ≤ 8
 hour : 0 ≤ v.hlo ∧ v.hlo ≤ v.hhi ∧ v.hhi ≤ 23
structure Fu.Ok (f : Fu) : Prop where
 pence : 0 ≤ f.pence ∧ f.pence ≤ 300
 days : 1 ≤ f.days ∧ f.days ≤ 7
 opn : 0 ≤ f.opn ∧ f.opn ≤ 9
 late : 0 ≤ f.late ∧ f.late ≤ 9
 frm : 0 ≤ f.frm ∧ f.frm ≤ 23
 lines : 1 ≤ f.lines.length ∧ f.lines.length ≤ 3
 line : ∀ n ∈ f.lines, 0 ≤ n ∧ n ≤ 9
 people : f.people.length ≤ 4
 widow : ∀ p ∈ f.people, 0 ≤ p.widow ∧ p.widow ≤ 2
 visits : f.visits.length ≤ 5
 visit : ∀ v ∈ f.visits, v.Ok f
 rise : ∀ (i : Nat) (v w : Vi), f.visits[i]? = some v → f.visits[i + 1]? = some w → v.day ≤ w.day
 entries : f.entries.length ≤ 4
 entry : ∀ x ∈ f.entries, (0 ≤ x.visit ∧ x.visit < f.visits.length) ∧ 0 ≤ x.pence ∧ x.pence ≤ 999
def costN (f : Fu) (v : Vi) (lines late : Int) : Int := f.opn + lines * f.lines.getD v.kind.toNat 0 + late * f.late
def noHour (f : Fu) (v : Vi) (late : Int) : Bool := decide (late = 0) && decide (f.frm ≤ v.hlo) || decide (late = 1) && decide (v.hhi < f.frm)
def noEntry (but at' : Nat) (n : Int) (i : Nat) (x : Et) : Bool := !but.testBit i && (x.visit == (at' : Int) && x.pence != n)
def noE (f : Fu) (but at' : Nat) (n : Int) (i : Nat) : Int := match f.entries[i]? with | some x => if noEntry but at' n i x then 1 else 0 | none => 0
def okN (f : Fu) (but at' : Nat) (n : Int) : List Int := if firstBad (noE f but at' n) 0 f.entries.length = none then [n] else []
def costL1 (f : Fu) (but at' : Nat) (v : Vi) (lines late : Int) : List Int := if noHour f v late = true then [] else okN f but at' (costN f v lines late)
def costL2 (f : Fu) (but at' : Nat) (v : Vi) (lines : Int) : List Int := costL1 f but at' v lines 0 ++ costL1 f but at' v lines 1
def rawTo (f : Fu) (but at' : Nat) (v : Vi) (k : Nat) : List Int := (List.range k).flatMap fun (i : Nat) => costL2 f but at' v (v.llo + (i : Int))
def linesN (v : Vi) : Nat := (v.lhi + 1 - v.llo).toNat
def rawCosts (f : Fu) (but at' : Nat) : List Int := match f.visits[at']? with | some v => rawTo f but at' v (linesN v) | none => []
theorem costL1_len (f : Fu) (but at' : Nat) (v : Vi) (lines late : Int) : (costL1 f but at' v lines late).length ≤ 1 := by
 unfold costL1 okN; split; simp; split <;> simp
theorem rawTo_succ (f : Fu) (but at' : Nat) (v : Vi) (k : Nat) : rawTo f but at' v (k + 1) = rawTo f but at' v k ++ costL2 f but at' v (v.llo + (k : Int)) := by
 unfold rawTo; rw [List.range_succ]; simp
theorem rawTo_len (f : Fu) (but at' : Nat) (v : Vi) : ∀ k, (rawTo f but at' v k).length ≤ 2 * k
 | 0 => by simp [rawTo]
 | k + 1 => by
  rw [rawTo_succ, List.length_append]
  have := rawTo_len f but at' v k
  unfold costL2
  have := costL1_len f but at' v (v.llo + (k : Int)) 0
  have := costL1_len f but at' v (v.llo + (k : Int)) 1
  simp; omega
theorem shr_and : ∀ s : Fin 32, ∀ i : Fin 5, (IntKind.i64.wrap (BitVec.ofInt 64 (((s.1 : Nat) : Int).fdiv (2 ^ (min i.1 64))) &&& BitVec.ofInt 64 1).toNat == 1) = s.1.testBit i.1 := by decide
theorem shr_and0 : ∀ s : Fin 32, ∀ i : Fin 5, (IntKind.i64.wrap (BitVec.ofInt 64 (((s.1 : Nat) : Int).fdiv (2 ^ (min i.1 64))) &&& BitVec.ofInt 64 1).toNat == 0) = !s.1.testBit i.1 := by decide
end
section
def keepTab (n : Nat) : List Nat :=
 bif Nat.blt n 90 then (bif Nat.blt n 46 then (bif Nat.blt n 24 then (bif Nat.blt n 13 then (bif Nat.blt n 8 then (bif Nat.blt n 5 then (bif Nat.blt n 4 then ([0, 1, 2, 3, 6, 7, 8, 9, 10, 11, 12, 32]) else ([0, 1, 2, 3, 4, 5, 6, 24])) else (bif Nat.blt n 6 then ([0, 1, 2, 3, 4, 5, 6, 25]) else (bif Nat.blt n 7 then ([0, 1, 2, 4, 5, 6, 7, 8, 9, 10, 23, 66, 71, 76, 89]) else ([0, 1, 2, 4, 6, 7, 8, 9, 10, 11, 12, 13, 16, 40, 57, 62, 118])))) else (bif Nat.blt n 10 then (bif Nat.blt n 9 then ([0, 1, 2, 4, 5, 6, 7, 8, 9, 10, 18, 33, 39]) else ([0, 1, 2, 4, 6, 7, 8, 9, 10, 11, 12, 13, 16, 34, 116, 140])) else (bif Nat.blt n 11 then ([0, 1, 2, 3, 4, 5, 6, 9, 12, 13, 14, 15, 16, 17, 18, 19, 20, 21, 22, 23, 24, 25, 26, 27, 28, 29, 30, 31, 32, 33, 34, 64, 91, 121, 150, 182, 186, 255, 999999]) else (bif Nat.blt n 12 then ([0, 1, 2, 4, 5, 6, 7, 8, 9, 10, 11, 12, 13, 24, 28, 29, 30, 31, 38, 43, 44, 48, 57, 62, 63, 64, 68]) else ([0, 1, 2, 4, 5, 6, 7, 8, 9, 10, 11, 12, 20, 26, 28, 37, 52, 56, 68]))))) else (bif Nat.blt n 18 then (bif Nat.blt n 15 then (bif Nat.blt n 14 then ([0, 1, 2, 3, 4, 5, 6, 7, 8, 9, 10, 22, 25, 26, 31, 43, 46]) else ([0, 1, 2, 4, 5, 6, 7, 8, 9, 10, 11, 12, 13, 21, 28, 42, 46, 58])) else (bif Nat.blt n 16 then ([0, 1, 2, 3, 4, 5, 6, 7, 8, 9, 10, 11, 12, 13, 14, 15, 16, 17, 18, 19, 20, 21, 22, 23, 25, 27]) else (bif Nat.blt n 17 then ([0, 1, 2, 3, 4, 5, 6, 13, 18]) else ([0, 1, 2, 3, 4, 5, 6, 7, 8, 9, 10, 11, 15, 22, 35, 39, 78, 86])))) else (bif Nat.blt n 21 then (bif Nat.blt n 19 then ([0, 1, 2, 3, 4, 5, 6, 7, 8, 15, 18, 19, 20, 21, 32]) else (bif Nat.blt n 20 then ([0, 1, 2, 3, 4, 8]) else ([0, 1, 2, 3, 4, 5, 12]))) else (bif Nat.blt n 22 then ([0, 1, 2, 3, 4, 5, 6, 7, 11, 17, 28, 39]) else (bif Nat.blt n 23 then ([0, 1, 4]) else ([0, 1, 2, 3, 6, 7, 15])))))) else (bif Nat.blt n 35 then (bif Nat.blt n 29 then (bif Nat.blt n 26 then (bif Nat.blt n 25 then ([0, 1, 2, 3, 6, 7, 8, 9, 17, 23, 34, 42]) else ([0, 1, 2])) else (bif Nat.blt n 27 then ([0, 1, 2, 6]) else (bif Nat.blt n 28 then ([0, 1, 2, 4, 5, 6, 7, 8, 9, 10, 11, 12, 13, 21, 85, 88]) else ([0, 1, 4])))) else (bif Nat.blt n 32 then (bif Nat.blt n 30 then ([0, 1, 3, 4]) else (bif Nat.blt n 31 then ([0, 1, 4, 5, 8]) else ([0, 1, 4, 5, 6, 10, 26]))) else (bif Nat.blt n 33 then ([0, 1, 2, 4, 5, 6, 7, 12, 32]) else (bif Nat.blt n 34 then ([0, 1, 4, 9]) else ([0, 1, 2, 4, 5, 6, 7, 8, 9, 21]))))) else (bif Nat.blt n 40 then (bif Nat.blt n 37 then (bif Nat.blt n 36 then ([0, 1, 4, 5, 6, 10]) else ([0, 1, 2, 4, 5, 6, 17])) else (bif Nat.blt n 38 then ([0, 1, 2, 3, 4, 5, 6, 7, 8, 9, 13, 17, 22, 46, 55, 65]) else (bif Nat.blt n 39 then ([0, 1, 2, 3, 4, 5, 6, 7, 8, 9, 10, 11, 39, 44, 49, 58, 63, 68, 99, 101, 107, 112, 119, 125, 130, 144, 153]) else ([0, 1, 2, 3, 4, 5, 6, 7, 8, 9, 10, 11, 12, 13, 14, 15, 16, 17, 18, 19, 20, 21, 22, 23, 24, 26, 28, 30])))) else (bif Nat.blt n 43 then (bif Nat.blt n 41 then ([0, 1, 2, 3, 6, 7, 8, 9, 10, 11, 13, 20, 24, 33, 34, 35, 36, 59, 63, 70, 71, 72, 73, 79]) else (bif Nat.blt n 42 then ([0, 1, 2, 4, 5, 6, 7, 8, 9, 10, 11, 17, 46]) else ([0, 1, 2, 4, 5, 8, 16, 20]))) else (bif Nat.blt n 44 then ([0, 1, 4, 5, 6, 7, 11, 18]) else (bif Nat.blt n 45 then ([0, 1, 2, 3, 4, 5, 8, 9, 24]) else ([0, 1, 2, 4, 5, 8, 9, 10, 18, 23, 29]))))))) else (bif Nat.blt n 68 then (bif Nat.blt n 57 then (bif Nat.blt n 51 then (bif Nat.blt n 48 then (bif Nat.blt n 47 then ([0, 1, 2, 3, 4, 5, 6]) else ([0, 1, 2])) else (bif Nat.blt n 49 then ([0, 1, 4, 5, 7, 8, 9, 16]) else (bif Nat.blt n 50 then ([0, 2]) else ([0, 1, 2, 3, 6, 9, 16, 20, 26])))) else (bif Nat.blt n 54 then (bif Nat.blt n 52 then ([0, 1, 2, 3, 4, 5, 6, 12, 18, 27, 45]) else (bif Nat.blt n 53 then ([0, 1, 2, 4, 5, 6, 7, 20]) else ([0, 1, 2, 4, 5, 6, 11, 21]))) else (bif Nat.blt n 55 then ([0, 1, 4, 5, 6, 9]) else (bif Nat.blt n 56 then ([0, 2]) else ([0, 1, 4]))))) else (bif Nat.blt n 62 then (bif Nat.blt n 59 then (bif Nat.blt n 58 then ([0]) else ([0, 1, 2, 3, 4, 6, 7, 28])) else (bif Nat.blt n 60 then ([0, 2, 3, 4, 7, 15]) else (bif Nat.blt n 61 then ([0, 1, 4, 5, 6, 7, 8, 9, 10, 26, 29, 30, 59, 89, 90, 91, 92, 117]) else ([0, 1, 4, 5, 6, 7, 9, 10, 11, 36, 39])))) else (bif Nat.blt n 65 then (bif Nat.blt n 63 then ([0, 1, 3]) else (bif Nat.blt n 64 then ([0, 1, 4, 5, 6, 7, 8, 9, 10, 14, 20, 24, 37]) else ([0, 1, 4, 5, 26, 32]))) else (bif Nat.blt n 66 then ([0, 1, 2, 3, 4, 5, 6, 7, 19, 20, 21, 22, 33]) else (bif Nat.blt n 67 then ([0, 1, 2]) else ([0, 1, 3])))))) else (bif Nat.blt n 79 then (bif Nat.blt n 73 then (bif Nat.blt n 70 then (bif Nat.blt n 69 then ([0, 2, 3, 9, 10, 11, 17]) else ([0, 1, 2, 4, 5, 6, 11])) else (bif Nat.blt n 71 then ([0, 1, 2, 5]) else (bif Nat.blt n 72 then ([0, 1, 4, 7]) else ([0, 1, 2, 3, 6, 7, 8, 9, 10, 11, 12, 13, 14, 27, 37, 49, 75])))) else (bif Nat.blt n 76 then (bif Nat.blt n 74 then ([0, 1, 4, 5, 9, 12]) else (bif Nat.blt n 75 then ([0, 1, 2, 6, 10, 13, 17, 29, 36]) else ([0, 1, 2, 4, 5, 6, 7, 30, 51, 73]))) else (bif Nat.blt n 77 then ([0]) else (bif Nat.blt n 78 then ([0, 2]) else ([0, 1, 2, 4, 5, 6, 7, 9, 17, 21, 24, 25, 26, 27, 39]))))) else (bif Nat.blt n 84 then (bif Nat.blt n 81 then (bif Nat.blt n 80 then ([0, 1, 2, 3, 6, 7, 8, 9, 10, 11, 13, 14, 22, 26, 35, 40, 41, 42, 43, 49]) else ([0, 1, 2, 4, 5, 8, 9, 16, 20, 36])) else (bif Nat.blt n 82 then ([0, 1, 4, 5, 6, 8, 9, 10, 12, 13, 16, 17, 18, 19, 25, 38, 48]) else (bif Nat.blt n 83 then ([0, 1, 4, 5, 6, 8, 9, 10, 13, 17, 21, 22, 23, 24, 30, 42, 47, 66, 75, 85, 99, 104]) else ([0])))) else (bif Nat.blt n 87 then (bif Nat.blt n 85 then ([0, 1, 2, 3, 6, 7, 8, 9, 17, 21]) else (bif Nat.blt n 86 then ([0, 1, 2, 3, 4, 5, 6, 7, 8, 16, 19, 23, 34, 35, 36]) else ([0, 1, 4, 5, 10, 14, 25]))) else (bif Nat.blt n 88 then ([0, 1, 4, 5, 10, 14, 26]) else (bif Nat.blt n 89 then ([0, 1, 4, 5, 10, 14, 25]) else ([0, 1, 2, 4, 5, 8, 16, 24])))))))) else (bif Nat.blt n 137 then (bif Nat.blt n 115 then (bif Nat.blt n 102 then (bif Nat.blt n 95 then (bif Nat.blt n 92 then (bif Nat.blt n 91 then ([0, 1, 2, 3, 4, 6]) else ([0, 2, 4])) else (bif Nat.blt n 93 then ([0, 1, 2, 3, 4, 9, 17]) else (bif Nat.blt n 94 then ([0, 1, 4, 7]) else ([0])))) else (bif Nat.blt n 99 then (bif Nat.blt n 96 then ([0, 1, 2, 3, 4, 5, 6, 8, 9, 14, 20, 21, 22, 23, 27, 33, 41, 48, 49, 50, 51, 57]) else (bif Nat.blt n 98 then ([0, 2, 5]) else ([0, 1, 2, 3, 8]))) else (bif Nat.blt n 100 then ([0, 1, 2, 3, 4, 6]) else (bif Nat.blt n 101 then ([0, 1, 2, 3, 4, 5, 6, 12, 13, 23]) else ([0, 1, 2, 3, 4, 5, 6, 7, 8, 9, 10, 11, 13, 14, 24, 28, 37, 80, 84, 89, 93, 94, 95, 96, 111, 121]))))) else (bif Nat.blt n 109 then (bif Nat.blt n 104 then (bif Nat.blt n 103 then ([0, 1, 3, 4]) else ([0, 1, 2])) else (bif Nat.blt n 107 then ([0, 1, 2, 3, 4, 5, 8, 9, 10, 11, 12, 13, 14, 15, 20, 24, 37, 50, 64]) else (bif Nat.blt n 108 then ([0, 1, 4, 5, 6, 7, 8, 14]) else ([0, 1, 4, 5, 6, 7, 8, 9, 10, 11, 12, 19, 28, 35])))) else (bif Nat.blt n 112 then (bif Nat.blt n 110 then ([0, 1, 2, 26]) else (bif Nat.blt n 111 then ([0, 1, 2]) else ([0, 1, 2, 3, 8, 9, 10, 11, 12, 18, 19, 20, 21, 22, 31]))) else (bif Nat.blt n 113 then ([1, 4, 7]) else (bif Nat.blt n 114 then ([0, 1, 2]) else ([0, 1, 2, 3, 8, 9, 10, 11, 12, 18, 19, 20, 21, 22, 31])))))) else (bif Nat.blt n 126 then (bif Nat.blt n 120 then (bif Nat.blt n 117 then (bif Nat.blt n 116 then ([0, 1, 2, 4, 5, 6, 11, 18]) else ([0, 2, 3, 4, 5, 7, 8, 9, 35])) else (bif Nat.blt n 118 then ([0, 1, 4]) else (bif Nat.blt n 119 then ([0, 1, 2, 3]) else ([0, 1, 2])))) else (bif Nat.blt n 123 then (bif Nat.blt n 121 then ([0, 1, 2, 3, 8, 9, 10, 11, 12, 18, 19, 20, 21, 22, 31]) else (bif Nat.blt n 122 then ([0, 1, 2, 4, 5, 6, 25, 53]) else ([0, 1, 2]))) else (bif Nat.blt n 124 then ([0, 1, 2, 3, 8, 9, 10, 11, 12, 18, 19, 20, 21, 22, 31]) else (bif Nat.blt n 125 then ([1, 2, 4, 5, 6, 15]) else ([0, 1, 4, 5, 6, 7, 10, 15, 23, 38, 46]))))) else (bif Nat.blt n 131 then (bif Nat.blt n 128 then (bif Nat.blt n 127 then ([0, 1, 4, 5, 17, 23]) else ([0, 2, 3, 4, 5, 12])) else (bif Nat.blt n 129 then ([0, 2, 3, 4, 8]) else (bif Nat.blt n 130 then ([0, 1, 2]) else ([0, 1, 2, 3, 6, 20, 25])))) else (bif Nat.blt n 134 then (bif Nat.blt n 132 then ([0, 2]) else (bif Nat.blt n 133 then ([0, 1, 4]) else ([0, 1, 2, 3, 5, 10, 11, 12, 13, 19]))) else (bif Nat.blt n 135 then ([0, 1, 2, 3, 4, 5, 6, 7, 10, 11, 14, 21, 25]) else (bif Nat.blt n 136 then ([0, 1, 4, 5, 6, 7, 8, 9, 10, 11, 14, 15, 16, 21, 23, 33, 36, 47, 48, 49, 50, 999998]) else ([0, 2]))))))) else (bif Nat.blt n 164 then (bif Nat.blt n 148 then (bif Nat.blt n 142 then (bif Nat.blt n 139 then (bif Nat.blt n 138 then ([0, 1, 4]) else ([0, 1, 2, 3, 4, 5, 6, 19])) else (bif Nat.blt n 140 then ([0, 1, 3, 4, 5, 6, 7, 18]) else (bif Nat.blt n 141 then ([0]) else ([0, 1, 2, 5, 6, 7, 8, 9, 10, 15, 21, 43, 50, 56])))) else (bif Nat.blt n 145 then (bif Nat.blt n 143 then ([0, 2, 4, 6, 7, 8, 15]) else (bif Nat.blt n 144 then ([0, 1, 2, 3, 4, 5, 6, 7, 9, 10, 24]) else ([0, 1, 4, 5, 7, 8, 9, 10, 11, 12, 28]))) else (bif Nat.blt n 146 then ([0, 1, 2, 4]) else (bif Nat.blt n 147 then ([0, 1, 4]) else ([0, 1, 2, 4]))))) else (bif Nat.blt n 156 then (bif Nat.blt n 150 then (bif Nat.blt n 149 then ([0, 1, 4]) else ([0, 2])) else (bif Nat.blt n 151 then ([0, 1, 4]) else (bif Nat.blt n 152 then ([0, 1, 2, 3]) else ([0, 1, 2, 3, 7, 12, 16, 27, 32, 47])))) else (bif Nat.blt n 159 then (bif Nat.blt n 157 then ([0, 1, 2, 4]) else (bif Nat.blt n 158 then ([0, 1, 4]) else ([0, 1, 2, 3]))) else (bif Nat.blt n 160 then ([0, 1, 3, 4, 5, 12, 13, 14, 20, 21, 22, 23, 38, 43]) else (bif Nat.blt n 161 then ([0, 1, 2, 4, 12]) else ([0, 2, 3])))))) else (bif Nat.blt n 175 then (bif Nat.blt n 169 then (bif Nat.blt n 166 then (bif Nat.blt n 165 then ([0, 1, 4, 5, 6, 11, 12, 13, 16, 19]) else ([0, 1, 2, 3, 4, 6])) else (bif Nat.blt n 167 then ([0, 1, 4, 5, 7, 8, 9, 16]) else (bif Nat.blt n 168 then ([0, 2, 3, 7, 11, 23]) else ([0, 1, 4])))) else (bif Nat.blt n 172 then (bif Nat.blt n 170 then ([0, 1, 2]) else (bif Nat.blt n 171 then ([0, 1, 2, 6, 7, 8, 9, 14, 15, 16, 17, 18, 30]) else ([0, 1, 3, 4, 5, 7, 12, 13, 14, 15, 21, 999998]))) else (bif Nat.blt n 173 then ([0, 1, 4]) else (bif Nat.blt n 174 then ([0, 1, 2, 4, 5, 6, 15]) else ([0, 4]))))) else (bif Nat.blt n 180 then (bif Nat.blt n 177 then (bif Nat.blt n 176 then ([1, 4]) else ([4])) else (bif Nat.blt n 178 then ([1, 4]) else (bif Nat.blt n 179 then ([0, 1, 3, 4]) else ([0, 1, 4, 5, 7, 8, 9, 16])))) else (bif Nat.blt n 195 then (bif Nat.blt n 182 then ([0, 1, 4, 5, 7, 8, 9, 16]) else (bif Nat.blt n 194 then ([0, 1, 4, 5, 7, 8, 9, 16]) else ([0, 2]))) else (bif Nat.blt n 196 then ([0, 1, 2, 4]) else (bif Nat.blt n 197 then ([0, 1, 2, 3, 4]) else ([0, 1, 2, 3, 4, 6, 7, 14, 35, 45]))))))))
def hushTab (f r : Nat) : Bool := (Nat.beq f 6 && Nat.beq r 12) || (Nat.beq f 8 && Nat.beq r 11) || (Nat.beq f 9 && Nat.beq r 10) || (Nat.beq f 9 && Nat.beq r 13) || (Nat.beq f 10 && Nat.beq r 5) || (Nat.beq f 10 && Nat.beq r 11) || (Nat.beq f 10 && Nat.beq r 16) || (Nat.beq f 10 && Nat.beq r 30) || (Nat.beq f 15 && Nat.beq r 15) || (Nat.beq f 17 && Nat.beq r 9) || (Nat.beq f 19 && Nat.beq r 4) || (Nat.beq f 21 && Nat.beq r 11) || (Nat.beq f 24 && Nat.beq r 11) || (Nat.beq f 32 && Nat.beq r 5) || (Nat.beq f 38 && Nat.beq r 35) || (Nat.beq f 39 && Nat.beq r 3) || (Nat.beq f 39 && Nat.beq r 4) || (Nat.beq f 39 && Nat.beq r 5) || (Nat.beq f 40 && Nat.beq r 9) || (Nat.beq f 41 && Nat.beq r 7) || (Nat.beq f 44 && Nat.beq r 1) || (Nat.beq f 58 && Nat.beq r 4) || (Nat.beq f 60 && Nat.beq r 8) || (Nat.beq f 60 && Nat.beq r 9) || (Nat.beq f 64 && Nat.beq r 2) || (Nat.beq f 64 && Nat.beq r 6) || (Nat.beq f 75 && Nat.beq r 4) || (Nat.beq f 75 && Nat.beq r 7) || (Nat.beq f 86 && Nat.beq r 6) || (Nat.beq f 87 && Nat.beq r 6) || (Nat.beq f 88 && Nat.beq r 6) || (Nat.beq f 101 && Nat.beq r 1) || (Nat.beq f 101 && Nat.beq r 6) || (Nat.beq f 101 && Nat.beq r 13) || (Nat.beq f 121 && Nat.beq r 5) || (Nat.beq f 138 && Nat.beq r 1) || (Nat.beq f 139 && Nat.beq r 1) || (Nat.beq f 141 && Nat.beq r 7) || (Nat.beq f 159 && Nat.beq r 6) || (Nat.beq f 178 && Nat.beq r 1)
def soloTab (f r : Nat) : List (List (Nat × Bool)) :=
 bif (Nat.beq f 34 && Nat.beq r 1) then [[(0, false), (1, false), (2, false), (3, false), (4, false), (5, true), (6, true), (7, false), (8, false), (9, false), (10, false), (11, false)],
  [(1, false), (2, false), (3, false), (4, false), (5, true), (0, false), (6, true), (7, false), (8, false), (9, false), (10, false), (11, false)]] else (bif (Nat.beq f 11 && Nat.beq r 1) then [[(0, false), (1, false), (2, false), (3, false), (4, true), (5, true), (6, false), (7, false), (8, false), (9, false), (10, false)],
  [(1, false), (2, false), (3, false), (4, true), (0, false), (5, true), (6, false), (7, false), (8, false), (9, false), (10, false)]] else (bif (Nat.beq f 13 && Nat.beq r 1) then [[(0, false), (1, false), (2, false), (3, false), (4, false), (5, true), (6, true), (7, false), (8, false), (9, false), (10, false), (11, false)],
  [(1, false), (2, false), (3, false), (4, false), (5, true), (0, false), (6, true), (7, false), (8, false), (9, false), (10, false), (11, false)]] else (bif (Nat.beq f 101 && Nat.beq r 1) then [[(0, false), (1, false), (2, false), (3, false), (4, false), (5, false), (6, false)],
  [(0, false), (1, false), (4, false), (2, false), (3, false), (5, false), (6, false)]] else (bif (Nat.beq f 101 && Nat.beq r 8) then [[(0, false), (1, false), (2, false), (3, false), (4, false), (5, false), (6, false), (7, false), (8, false), (9, false), (10, false)]] else (bif (Nat.beq f 102 && Nat.beq r 1) then [[(0, false), (1, false), (2, false), (3, false), (4, false), (5, false), (6, false), (7, false), (8, false), (9, false), (10, false), (11, false), (12, false), (13, false), (14, false), (15, false), (16, true), (17, false), (18, false)]] else (bif (Nat.beq f 104 && Nat.beq r 16) then [[(0, false), (1, false), (2, false), (3, false), (4, false), (5, false), (6, false), (7, false)]] else (bif (Nat.beq f 12 && Nat.beq r 12) then [[(0, false), (1, false), (2, false), (3, false), (4, false), (5, false), (6, false), (7, false), (8, false), (9, false), (10, false), (11, false), (12, false)]] else (bif (Nat.beq f 14 && Nat.beq r 9) then [[(0, false), (1, false), (2, false), (3, false), (4, false), (5, false), (6, false), (7, false), (8, false), (9, false), (10, false), (11, false)]] else (bif (Nat.beq f 82 && Nat.beq r 12) then [[(0, false), (1, false), (2, false), (3, false), (4, false), (5, false), (6, false)]] else (bif (Nat.beq f 143 && Nat.beq r 4) then [[(0, false), (1, false), (2, false), (3, true), (4, true), (5, false), (6, true), (7, false)],
  [(1, false), (2, false), (3, true), (0, false), (4, true), (5, false), (6, true), (7, false)]] else (bif (Nat.beq f 145 && Nat.beq r 1) then [[(0, false), (1, false), (2, false), (3, false), (4, false), (5, true), (6, false), (7, true), (8, false)],
  [(0, false), (1, false), (2, false), (3, false), (4, false), (6, false), (5, true), (7, true), (8, false)]] else (bif (Nat.beq f 134 && Nat.beq r 6) then [[(0, false), (1, false), (2, true), (3, false), (4, false), (5, false)],
  [(0, false), (1, false), (3, false), (2, true), (4, false), (5, false)]] else ([])))))))))))))
def growTab (f r : Nat) : Bool := (Nat.beq f 10 && Nat.beq r 19) || (Nat.beq f 135 && Nat.beq r 1) || (Nat.beq f 171 && Nat.beq r 7)
def iceTab (f r : Nat) : Option (Nat × Nat) := bif Nat.beq f 10 && Nat.beq r 24 then some (4, 7) else none
end
end Go.Proofs.YthkpjbgadkkeeaaGreat
