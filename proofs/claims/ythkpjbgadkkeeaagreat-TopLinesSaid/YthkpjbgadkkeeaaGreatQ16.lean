/- Parts of the proof, joined: Whether there is a truth; fees, by the reference. When the reference finds no error. What the letter can cost is the same by program and reference: both rise, and have the same members. The program's row rises. The program's row of costs rises. What the letter of a visit can cost is the same by program and reference. The stands that the search meets are those that can be reached. What a gift must pay at most, and whether it can end. What is left of a gift, and whether it pays, by the stands that can be reached. A gift with one entry more. A gift that is easier to pay: more pence, no entries, letters that cost less. Lists of some things, the fewest first; the best set that a program finds. The fewest entries that are wrong, and the fewest visits that are refused: what is said of them. All that is said of a gift, with the costs of the reference: so that it can be computed. A valid gift that is changed a little is valid. Z-numbers. A gift to whose visit other letters are told: what its letter can cost, in plain words. Z-numbers. What is said of a gift to whose visit other letters are told, and an entry of it. Z-numbers. The calls on a gift to whose visit other letters are told. Z-numbers. Any letter of a form is one that can be written, in plain words. The examples of layer 11: their gifts, and what is said of them. What the laws' own tests compute: valid, some, bits, rows of numbers. The examples of layer 11: what Awake looks at. Z-numbers. Visits that lie in cells. Z-numbers. The body of TopLines. Z-numbers. TopLines: the statement, whole. Conditions: those of each law. -/
import Derived.Test.YthkpjbgadkkeeaaGreatQ15
import Derived.KernelRfl
import Derived.Test.YthkpjbgadkkeeaaGreatRows
import Derived.ProofKit
import Derived.OpenShut
set_option linter.unusedSimpArgs false
set_option linter.unusedVariables false
namespace Go.Proofs.YthkpjbgadkkeeaaGreat
section
open Go.Proofs
def someR (d : Fu) (butL : List Int) (k : Nat) : Bool := (List.range k).all fun i => decide (refCosts d butL i ≠ [])
end
section
open Go.Proofs
end
section
open Go.Proofs
def Asc (l : List Int) : Prop := l.Pairwise (· < ·)
theorem Asc.eq : ∀ {a b : List Int}, Asc a → Asc b → (∀ x, x ∈ a ↔ x ∈ b) → a = b
 | [], [], _, _, _ => rfl
 | [], y :: b, _, _, h => by have := (h y).2 (by simp); cases this
 | x :: a, [], _, _, h => by have := (h x).1 (by simp); cases this
 | x :: a, y :: b, ha, hb, h => by
  obtain ⟨a1, a2⟩ := List.pairwise_cons.1 ha
  obtain ⟨b1, b2⟩ := List.pairwise_cons.1 hb
  have hxy : x = y := by
   rcases List.mem_cons.1 ((h x).1 (by simp)) with e | e
   ·exact e
   ·rcases List.mem_cons.1 ((h y).2 (by simp)) with e' | e'
    ·exact e'.symm
    ·have := b1 x e; have := a1 y e'; omega
  subst hxy
  congr 1
  refine Asc.eq a2 b2 fun z => ⟨fun hz => ?_, fun hz => ?_⟩
  ·rcases List.mem_cons.1 ((h z).1 (by simp [hz])) with e | e
   ·have := a1 z hz; omega
   ·exact e
  ·rcases List.mem_cons.1 ((h z).2 (by simp [hz])) with e | e
   ·have := b1 z hz; omega
   ·exact e
theorem putL_mem {l : List Int} {n x : Int} : x ∈ putL l n ↔ x = n ∨ x ∈ l := by
 unfold putL
 split
 ·rename_i h
  exact ⟨.inr, fun h' => by rcases h' with rfl | h'; exact h; exact h'⟩
 ·simp only [loL, hiL, List.mem_append, List.mem_filter, List.mem_singleton, decide_eq_true_eq]
  constructor
  ·rintro ((⟨h, _⟩ | h) | ⟨h, _⟩)
   ·exact .inr h
   ·exact .inl h
   ·exact .inr h
  ·rintro (h | h)
   ·exact .inl (.inr h)
   ·by_cases h1 : x < n
    ·exact .inl (.inl ⟨h, h1⟩)
    ·by_cases h2 : n < x
     ·exact .inr ⟨h, h2⟩
     ·exact .inl (.inr (by omega))
theorem putL_asc {l : List Int} (n : Int) (h : Asc l) : Asc (putL l n) := by
 unfold putL
 split
 ·exact h
 ·unfold Asc loL hiL
  rw [List.pairwise_append, List.pairwise_append]
  refine ⟨⟨h.filter _, List.pairwise_singleton _ _, ?_⟩, h.filter _, ?_⟩
  ·intro a ha b hb
   simp at ha hb; omega
  ·intro a ha b hb
   simp at ha hb; omega
end
section
open Go.Proofs
theorem hourTo_asc (d : Fu) (butL : List Int) (at' : Nat) (v : Vi) (lines : Int) {l : List Int} (h : Asc l) : ∀ k, Asc (hourTo d butL at' v lines l k)
 | 0 => h
 | k + 1 => by
  have := hourTo_asc d butL at' v lines h k
  unfold hourTo
  split
  ·exact putL_asc _ this
  ·exact this
theorem lineTo_asc (d : Fu) (butL : List Int) (at' : Nat) (v : Vi) : ∀ k, Asc (lineTo d butL at' v k)
 | 0 => List.Pairwise.nil
 | k + 1 => by unfold lineTo; exact hourTo_asc _ _ _ _ _ (lineTo_asc d butL at' v k) _
theorem refCosts_asc (d : Fu) (butL : List Int) (at' : Nat) : Asc (refCosts d butL at') := by
 unfold refCosts
 split
 ·exact lineTo_asc _ _ _ _ _
 ·exact List.Pairwise.nil
end
section
open Go.Proofs
theorem sorted_le (l : List Int) : (l.mergeSort fun x y => decide (x ≤ y)).Pairwise (· ≤ ·) := by
 have := List.pairwise_mergeSort (le := fun x y : Int => decide (x ≤ y)) (fun a b c h1 h2 => by simp at *; omega) (fun a b => by simp; omega) l
 exact this.imp fun h => by simpa using h
theorem sortD_asc (l : List Int) : Asc (sortD l) := by
 unfold sortD
 have hs := sorted_le l
 generalize (l.mergeSort fun x y => decide (x ≤ y)) = zs at hs ⊢
 unfold Lib.compact Lib.compactUpTo Asc
 rw [List.pairwise_map]
 have h1 : (List.filter (Lib.keeps zs.toArray) (List.range zs.length)).Pairwise (· < ·) := List.Pairwise.filter _ List.pairwise_lt_range
 refine h1.imp_of_mem fun {a b} ha hb hab => ?_
 obtain ⟨hb1, hb2⟩ := List.mem_filter.1 hb
 have hbl : b < zs.length := List.mem_range.1 hb1
 have hle : ∀ i j, i ≤ j → j < zs.length → zs.toArray[i]! ≤ zs.toArray[j]! := fun i j hij hj => by
  rw [getElem!_pos _ i (by simp; omega), getElem!_pos _ j (by simpa using hj)]
  simp only [List.getElem_toArray]
  rcases Nat.lt_or_ge i j with h | h
  ·exact List.pairwise_iff_getElem.1 hs i j (by omega) hj h
  ·have : i = j := by omega
   subst this; exact Int.le_refl _
 have e1 := hle a (b - 1) (by omega) (by omega)
 have e2 := hle (b - 1) b (by omega) hbl
 have hne : zs.toArray[b]! ≠ zs.toArray[b - 1]! := by
  unfold Lib.keeps at hb2
  rcases of_decide_eq_true hb2 with h | h
  ·omega
  ·exact h
 omega
theorem mem_compact_of {zs : List Int} {x : Int} (h : x ∈ zs) : x ∈ Lib.compact zs := by
 have hil := List.findIdx_lt_length_of_exists (p := fun y => y == x) (xs := zs) ⟨x, h, by simp⟩
 have he := List.findIdx_getElem (p := fun y => y == x) (xs := zs) (w := hil)
 have hn : ∀ j, j < zs.findIdx (fun y => y == x) → ∀ hj : j < zs.length, zs[j] ≠ x := fun j hj hjl => by
  have := List.not_of_lt_findIdx hj
  simpa using this
 generalize zs.findIdx (fun y => y == x) = i at hil he hn
 have he : zs[i] = x := by simpa using he
 unfold Lib.compact Lib.compactUpTo
 refine List.mem_map.2 ⟨i, List.mem_filter.2 ⟨List.mem_range.2 hil, ?_⟩, ?_⟩
 ·unfold Lib.keeps
  refine decide_eq_true ?_
  by_cases h0 : i = 0
  ·exact .inl h0
  ·refine .inr ?_
   rw [getElem!_pos _ i (by simpa using hil), getElem!_pos _ (i - 1) (by simp; omega)]
   simp only [List.getElem_toArray]
   rw [he]
   exact fun e => hn (i - 1) (by omega) (by omega) e.symm
 ·rw [getElem!_pos _ i (by simpa using hil)]
  simpa using he
theorem mem_sortD_iff {l : List Int} {x : Int} : x ∈ sortD l ↔ x ∈ l :=
 ⟨mem_sortD, fun h => mem_compact_of ((List.mergeSort_perm l _).symm.subset h)⟩
end
section
open Go.Proofs
theorem mem_rawTo_iff {d : Fu} {but at' : Nat} {v : Vi} {k : Nat} {x : Int} : x ∈ rawTo d but at' v k ↔ ∃ (i : Nat) (late : Int), i < k ∧ (late = 0 ∨ late = 1) ∧ noHour d v late = false ∧ x = costN d v (v.llo + (i : Int)) late ∧ firstBad (noE d but at' x) 0 d.entries.length = none := by
 have h1 : ∀ lines late, x ∈ costL1 d but at' v lines late ↔ noHour d v late = false ∧ x = costN d v lines late ∧ firstBad (noE d but at' x) 0 d.entries.length = none := fun lines late => by
  unfold costL1 okN
  cases noHour d v late with
  | true => simp
  | false =>
   simp only [Bool.false_eq_true, if_false, true_and]
   constructor
   ·intro h
    split at h
    ·rename_i hf
     have : x = costN d v lines late := by simpa using h
     subst this
     exact ⟨rfl, hf⟩
    ·cases h
   ·rintro ⟨rfl, hf⟩
    rw [if_pos hf]; simp
 unfold rawTo costL2
 simp only [List.mem_flatMap, List.mem_append, List.mem_range, h1]
 constructor
 ·rintro ⟨i, hi, h | h⟩
  ·exact ⟨i, 0, hi, .inl rfl, h⟩
  ·exact ⟨i, 1, hi, .inr rfl, h⟩
 ·rintro ⟨i, late, hi, rfl | rfl, h⟩
  ·exact ⟨i, hi, .inl h⟩
  ·exact ⟨i, hi, .inr h⟩
theorem mem_hourTo {d : Fu} {butL : List Int} {at' : Nat} {v : Vi} {lines : Int} {l : List Int} {x : Int} : ∀ {k : Nat}, x ∈ hourTo d butL at' v lines l k ↔ x ∈ l ∨ ∃ j, j < k ∧ x = costN d v lines (lateI d (v.hlo + (j : Int))) ∧ okTill d butL at' x d.entries.length = true
 | 0 => by simp [hourTo]
 | k + 1 => by
  have ih := mem_hourTo (d := d) (butL := butL) (at' := at') (v := v) (lines := lines) (l := l) (x := x) (k := k)
  unfold hourTo
  constructor
  ·intro h
   split at h
   ·rename_i hok
    rcases putL_mem.1 h with rfl | h
    ·exact .inr ⟨k, by omega, rfl, hok⟩
    ·rcases ih.1 h with h | ⟨j, hj, h⟩
     ·exact .inl h
     ·exact .inr ⟨j, by omega, h⟩
   ·rcases ih.1 h with h | ⟨j, hj, h⟩
    ·exact .inl h
    ·exact .inr ⟨j, by omega, h⟩
  ·intro h
   have old : (x ∈ l ∨ ∃ j, j < k ∧ x = costN d v lines (lateI d (v.hlo + (j : Int))) ∧ okTill d butL at' x d.entries.length = true) → x ∈ (if okTill d butL at' (costN d v lines (lateI d (v.hlo + (k : Int)))) d.entries.length = true then putL (hourTo d butL at' v lines l k) (costN d v lines (lateI d (v.hlo + (k : Int)))) else hourTo d butL at' v lines l k) := fun h => by
    have := ih.2 h
    split
    ·exact putL_mem.2 (.inr this)
    ·exact this
   rcases h with h | ⟨j, hj, hx, hok⟩
   ·exact old (.inl h)
   ·by_cases hjk : j = k
    ·subst hjk
     rw [← hx, if_pos hok]
     exact putL_mem.2 (.inl rfl)
    ·exact old (.inr ⟨j, by omega, hx, hok⟩)
theorem mem_lineTo {d : Fu} {butL : List Int} {at' : Nat} {v : Vi} {x : Int} : ∀ {k : Nat}, x ∈ lineTo d butL at' v k ↔ ∃ i j, i < k ∧ j < hoursN v ∧ x = costN d v (v.llo + (i : Int)) (lateI d (v.hlo + (j : Int))) ∧ okTill d butL at' x d.entries.length = true
 | 0 => by simp [lineTo]
 | k + 1 => by
  have ih := mem_lineTo (d := d) (butL := butL) (at' := at') (v := v) (x := x) (k := k)
  unfold lineTo
  rw [mem_hourTo, ih]
  constructor
  ·rintro (⟨i, j, hi, h⟩ | ⟨j, hj, h⟩)
   ·exact ⟨i, j, by omega, h⟩
   ·exact ⟨k, j, by omega, hj, h⟩
  ·rintro ⟨i, j, hi, hj, h⟩
   by_cases hik : i = k
   ·subst hik; exact .inr ⟨j, hj, h⟩
   ·exact .inl ⟨i, j, by omega, hj, h⟩
def SameBut (d : Fu) (butL : List Int) (but : Nat) : Prop := ∀ i, i < d.entries.length → butL.any (fun y => y == (i : Int)) = but.testBit i
theorem okTill_iff {d : Fu} {butL : List Int} {but at' : Nat} (hs : SameBut d butL but) (x : Int) : okTill d butL at' x d.entries.length = true ↔ firstBad (noE d but at' x) 0 d.entries.length = none := by
 have key : ∀ i (hi : i < d.entries.length), okEn butL at' x i d.entries[i] = !noEntry but at' x i d.entries[i] := fun i hi => by
  unfold okEn noEntry
  rw [hs i hi]
  cases but.testBit i <;> cases h1 : (d.entries[i].visit == (at' : Int)) <;> cases h2 : (d.entries[i].pence == x) <;> simp [bne, h1, h2]
 constructor
 ·intro h
  refine firstBad_zero fun i _ hi => ?_
  have hi : i < d.entries.length := by omega
  have h := List.all_eq_true.1 h i (List.mem_range.2 hi)
  rw [List.getElem?_eq_getElem hi] at h
  simp only at h
  rw [key i hi] at h
  unfold noE
  rw [List.getElem?_eq_getElem hi]
  simp only
  rw [if_neg (by simpa using h)]
 ·intro h
  refine List.all_eq_true.2 fun i hi => ?_
  have hi := List.mem_range.1 hi
  rw [List.getElem?_eq_getElem hi]
  simp only
  rw [key i hi]
  have := firstBad_none h i (Nat.zero_le _) (by omega)
  unfold noE at this
  rw [List.getElem?_eq_getElem hi] at this
  simp only at this
  cases hq : noEntry but at' x i d.entries[i] with
  | true => rw [hq] at this; cases this
  | false => rfl
theorem costs_ref {d : Fu} (ho : d.Ok) {butL : List Int} {but : Nat} (hs : SameBut d butL but) (at' : Nat) : refCosts d butL at' = costs d but at' := by
 refine Asc.eq (refCosts_asc _ _ _) (sortD_asc _) fun x => ?_
 unfold costs
 rw [mem_sortD_iff]
 unfold refCosts rawCosts
 cases hv : d.visits[at']? with
 | none => simp
 | some v =>
  have hvo := ho.visit v (List.mem_of_getElem? hv)
  have hh := hvo.hour
  simp only
  rw [mem_lineTo, mem_rawTo_iff]
  constructor
  ·rintro ⟨i, j, hi, hj, hx, hok⟩
   have hjb : v.hlo + (j : Int) ≤ v.hhi := by unfold hoursN at hj; omega
   refine ⟨i, lateI d (v.hlo + (j : Int)), hi, ?_, ?_, hx, (okTill_iff hs x).1 hok⟩
   ·unfold lateI; split <;> simp
   ·unfold lateI noHour
    split
    ·simp; omega
    ·simp; omega
  ·rintro ⟨i, late, hi, hl, hno, hx, hf⟩
   have hok := (okTill_iff hs x).2 hf
   unfold noHour at hno
   rcases hl with rfl | rfl
   ·have h1 : v.hlo < d.frm := by simpa using hno
    refine ⟨i, 0, hi, by unfold hoursN; omega, ?_, hok⟩
    rw [hx]; unfold lateI; rw [if_neg (by omega)]
   ·have h1 : d.frm ≤ v.hhi := by simpa using hno
    refine ⟨i, hoursN v - 1, hi, by unfold hoursN; omega, ?_, hok⟩
    rw [hx]; unfold lateI; rw [if_pos (by unfold hoursN; omega)]
end
section
open Go.Proofs
inductive Reach (d : Fu) (refused but : Nat) : Sd → Prop
 | beg {w : Nat} : w ∈ ways d → Reach d refused but (start d w)
 | step {s c : Sd} : Reach d refused but s → c ∈ kids d refused but s → Reach d refused but c
theorem stepSd_k (s : Sd) (n : Int) : (stepSd s n).k = s.k + 1 ∧ (stepSd s n).w = s.w := by unfold stepSd; split <;> exact ⟨rfl, rfl⟩
theorem kids_k {d : Fu} {refused but : Nat} {s c : Sd} (h : c ∈ kids d refused but s) : c.k = s.k + 1 ∧ c.w = s.w ∧ s.k < d.visits.length := by
 unfold kids at h
 cases hv : d.visits[s.k]? with
 | none => rw [hv] at h; cases h
 | some v =>
  have hl := (List.getElem?_eq_some_iff.1 hv).1
  rw [hv] at h
  rcases List.mem_append.1 h with h | h
  ·split at h
   ·obtain rfl := List.mem_singleton.1 h; exact ⟨rfl, rfl, hl⟩
   ·cases h
  ·split at h
   ·cases h
   ·obtain ⟨n, _, rfl⟩ := List.mem_map.1 h
    have := stepSd_k s n
    exact ⟨this.1, this.2, hl⟩
structure DfsOk (d : Fu) (refused but : Nat) (M R cs : List Sd) : Prop where
 sub : ∀ x ∈ M, x ∈ R
 has : ∀ c ∈ cs, c ∈ R
 inv : ∀ Q : Sd → Prop, (∀ x c, Q x → c ∈ kids d refused but x → Q c) → (∀ c ∈ cs, Q c) → (∀ x ∈ M, Q x) → ∀ x ∈ R, Q x
 clo : ∀ x ∈ R, x ∉ M → ∀ c ∈ kids d refused but x, c ∈ R
theorem DfsOk.nil (d : Fu) (refused but : Nat) (M : List Sd) : DfsOk d refused but M M [] :=
 ⟨fun _ h => h, fun _ h => (by cases h), fun _ _ _ h => h, fun x h1 h2 => absurd h1 h2⟩
theorem DfsOk.cons {d : Fu} {refused but : Nat} {M R1 R cs : List Sd} {c : Sd} (h1 : DfsOk d refused but M R1 [c]) (h2 : DfsOk d refused but R1 R cs) : DfsOk d refused but M R (c :: cs) where
 sub := fun x hx => h2.sub x (h1.sub x hx)
 has := fun x hx => by
  rcases List.mem_cons.1 hx with rfl | hx
  ·exact h2.sub _ (h1.has _ (by simp))
  ·exact h2.has x hx
 inv := fun Q hQ hc hM => h2.inv Q hQ (fun x hx => hc x (by simp [hx])) (h1.inv Q hQ (fun x hx => hc x (by simp at hx; simp [hx])) hM)
 clo := fun x hx hn => by
  by_cases h : x ∈ R1
  ·intro c hc; exact h2.sub c (h1.clo x h hn c hc)
  ·exact h2.clo x hx h
theorem dfsM_z (d : Fu) (refused but : Nat) (s : Sd) (M : List Sd) : dfsM d refused but 0 s M = if s ∈ M then M else M ++ [s] := rfl
theorem dfsM_s (d : Fu) (refused but n : Nat) (s : Sd) (M : List Sd) : dfsM d refused but (n + 1) s M = if s ∈ M then M else (kids d refused but s).foldl (fun M c => dfsM d refused but n c M) (M ++ [s]) := rfl
theorem DfsOk.self {d : Fu} {refused but : Nat} {M : List Sd} {s : Sd} (h : s ∈ M) : DfsOk d refused but M M [s] :=
 ⟨fun _ h => h, fun c hc => (by simp at hc; rw [hc]; exact h), fun _ _ _ h => h, fun x h1 h2 => absurd h1 h2⟩
theorem dfsM_ok (d : Fu) (refused but : Nat) : ∀ (n : Nat) (s : Sd) (M : List Sd), s.k + n = d.visits.length → DfsOk d refused but M (dfsM d refused but n s M) [s]
 | 0, s, M, hk => by
  rw [dfsM_z]
  by_cases h : s ∈ M
  ·rw [if_pos h]; exact .self h
  ·rw [if_neg h]
   have hno : kids d refused but s = [] := by unfold kids; rw [List.getElem?_eq_none (by omega)]
   refine ⟨fun x hx => by simp [hx], fun c hc => by simp at hc; simp [hc], fun Q hQ hc hM x hx => ?_, fun x hx hn c hc => ?_⟩
   ·rcases List.mem_append.1 hx with hx | hx
    ·exact hM x hx
    ·exact hc x hx
   ·rcases List.mem_append.1 hx with hx | hx
    ·exact absurd hx hn
    ·obtain rfl := List.mem_singleton.1 hx
     rw [hno] at hc; cases hc
 | n + 1, s, M, hk => by
  rw [dfsM_s]
  by_cases h : s ∈ M
  ·rw [if_pos h]; exact .self h
  ·rw [if_neg h]
   have fold : ∀ (cs M : List Sd), (∀ c ∈ cs, c.k + n = d.visits.length) → DfsOk d refused but M (cs.foldl (fun M c => dfsM d refused but n c M) M) cs := by
    intro cs
    induction cs with
    | nil => intro M _; exact .nil _ _ _ _
    | cons c cs ih =>
     intro M hc
     rw [List.foldl_cons]
     exact .cons (dfsM_ok d refused but n c M (hc c (by simp))) (ih _ fun x hx => hc x (by simp [hx]))
   have hf := fold (kids d refused but s) (M ++ [s]) fun c hc => by have := (kids_k hc).1; omega
   refine ⟨fun x hx => hf.sub x (by simp [hx]), fun c hc => hf.sub c (by simp at hc; simp [hc]), fun Q hQ hc hM => ?_, fun x hx hn => ?_⟩
   ·refine hf.inv Q hQ (fun c hc' => hQ s c (hc s (by simp)) hc') fun x hx => ?_
    rcases List.mem_append.1 hx with hx | hx
    ·exact hM x hx
    ·exact hc x hx
   ·by_cases hs : x = s
    ·subst hs; exact hf.has
    ·exact hf.clo x hx (by simp [hn, hs])
theorem allM_ok (d : Fu) (refused but : Nat) : ∀ (ws : List Nat) (M : List Sd), DfsOk d refused but M (ws.foldl (fun M w => dfsM d refused but d.visits.length (start d w) M) M) (ws.map (start d))
 | [], M => .nil _ _ _ _
 | w :: ws, M => by
  rw [List.foldl_cons, List.map_cons]
  exact .cons (dfsM_ok d refused but d.visits.length (start d w) M (by show 0 + _ = _; omega)) (allM_ok d refused but ws _)
theorem mem_allM {d : Fu} {refused but : Nat} {x : Sd} : x ∈ allM d refused but (ways d) ↔ Reach d refused but x := by
 have h := allM_ok d refused but (ways d) []
 constructor
 ·intro hx
  refine h.inv (Reach d refused but) (fun x c hx hc => .step hx hc) (fun c hc => ?_) (fun x hx => by cases hx) x hx
  obtain ⟨w, hw, rfl⟩ := List.mem_map.1 hc
  exact .beg hw
 ·intro hx
  induction hx with
  | beg hw => exact h.has _ (List.mem_map.2 ⟨_, hw, rfl⟩)
  | step _ hc ih => exact h.clo _ ih (by simp) _ hc
theorem Reach.w {d : Fu} {refused but : Nat} {x : Sd} (h : Reach d refused but x) : x.w ∈ ways d ∧ x.k ≤ d.visits.length := by
 induction h with
 | beg hw => exact ⟨hw, Nat.zero_le _⟩
 | step _ hc ih =>
  obtain ⟨h1, h2, h3⟩ := kids_k hc
  exact ⟨by rw [h2]; exact ih.1, by omega⟩
end
section
open Go.Proofs
theorem exists_bits (p : Nat → Bool) : ∀ n, ∃ w, w < 2 ^ n ∧ ∀ i, i < n → w.testBit i = p i
 | 0 => ⟨0, by decide, fun i hi => by omega⟩
 | n + 1 => by
  obtain ⟨w, h1, h2⟩ := exists_bits p n
  have hp : 2 ^ n < 2 ^ (n + 1) := Nat.pow_lt_pow_right (by decide) (by omega)
  have hn : w.testBit n = false := Nat.testBit_lt_two_pow h1
  cases hpn : p n with
  | false =>
   refine ⟨w, by omega, fun i hi => ?_⟩
   by_cases e : i = n
   ·subst e; rw [hpn, hn]
   ·exact h2 i (by omega)
  | true =>
   refine ⟨w ||| 2 ^ n, Nat.or_lt_two_pow (by omega) hp, fun i hi => ?_⟩
   rw [Nat.testBit_or, Nat.testBit_two_pow]
   by_cases e : i = n
   ·subst e; rw [hpn]; simp
   ·have : ¬ n = i := fun h => e h.symm
    rw [h2 i (by omega)]; simp [this]
theorem mem_ways {d : Fu} {w : Nat} : w ∈ ways d ↔ w < 2 ^ d.people.length ∧ ∀ (i : Nat) (p : Pe), d.people[i]? = some p → p.widow ≠ 2 → (if w.testBit i then (1 : Int) else 0) = p.widow := by
 unfold ways waysTo okW
 rw [List.mem_filter, List.mem_range, decide_eq_true_eq]
 constructor
 ·rintro ⟨h1, h2⟩
  refine ⟨h1, fun i p hp hw => ?_⟩
  have hi := (List.getElem?_eq_some_iff.1 hp).1
  have := firstBad_none h2 i (Nat.zero_le _) (by omega)
  unfold noW at this
  rw [hp] at this
  simp only at this
  by_cases e : (if w.testBit i then (1 : Int) else 0) = p.widow
  ·exact e
  ·rw [if_pos ⟨hw, e⟩] at this; cases this
 ·rintro ⟨h1, h2⟩
  refine ⟨h1, firstBad_zero fun i _ hi => ?_⟩
  unfold noW
  cases hp : d.people[i]? with
  | none => rfl
  | some p =>
   simp only
   rw [if_neg]
   rintro ⟨a, b⟩
   exact b (h2 i p hp a)
theorem fold_max_le : ∀ (l : List Int) (a : Int), a ≤ l.foldl (fun a b => if a < b then b else a) a ∧ ∀ x ∈ l, x ≤ l.foldl (fun a b => if a < b then b else a) a
 | [], a => ⟨Int.le_refl _, fun x hx => by cases hx⟩
 | y :: l, a => by
  rw [List.foldl_cons]
  obtain ⟨h1, h2⟩ := fold_max_le l (if a < y then y else a)
  have : a ≤ (if a < y then y else a) ∧ y ≤ (if a < y then y else a) := by split <;> omega
  refine ⟨by omega, fun x hx => ?_⟩
  rcases List.mem_cons.1 hx with rfl | hx
  ·omega
  ·exact h2 x hx
theorem le_maxL {l : List Int} {x : Int} (h : x ∈ l) : x ≤ maxL l := by
 cases l with
 | nil => cases h
 | cons y l =>
  obtain ⟨h1, h2⟩ := fold_max_le l y
  rcases List.mem_cons.1 h with rfl | h
  ·exact h1
  ·exact h2 x h
theorem maxL_mem {l : List Int} (h : l ≠ []) : maxL l ∈ l := maxL_mem_bd (P := fun n => n ∈ l) h fun _ h => h
theorem mem_kids {d : Fu} {refused but : Nat} {s c : Sd} {v : Vi} (hv : d.visits[s.k]? = some v) : c ∈ kids d refused but s ↔
  ((refused.testBit s.k = true ∨ s.w.testBit v.person.toNat = false ∨ comesB d s.k = false) ∧ c = stay s) ∨
  (refused.testBit s.k = false ∧ s.w.testBit v.person.toNat = true ∧ ∃ n ∈ costs d but s.k, c = stepSd s n) := by
 unfold kids
 rw [hv]
 simp only [List.mem_append]
 cases h1 : refused.testBit s.k <;> cases h2 : s.w.testBit v.person.toNat <;> cases h3 : comesB d s.k <;> simp [eq_comm]
def mostR (d : Fu) (refused : Nat) : Nat → Int
 | 0 => 0
 | k + 1 => mostR d refused k + if refused.testBit k = true then 0 else mostAt d k
theorem mostR_zero (d : Fu) : ∀ k, mostR d 0 k = mostTo d k
 | 0 => rfl
 | k + 1 => by
  unfold mostR mostTo
  rw [mostR_zero d k, Nat.zero_testBit, if_neg Bool.false_ne_true]
theorem mostR_up {d : Fu} (ho : d.Ok) (hs : someB d 0 = true) (refused : Nat) {k : Nat} (hk : k < d.visits.length) : mostR d refused k ≤ mostR d refused (k + 1) := by
 have := mostAt_bd ho hs hk
 have e : mostR d refused (k + 1) = mostR d refused k + if refused.testBit k = true then 0 else mostAt d k := rfl
 rw [e]
 split <;> omega
theorem mostR_mono {d : Fu} (ho : d.Ok) (hs : someB d 0 = true) (refused : Nat) {k : Nat} : ∀ {n : Nat}, k ≤ n → n ≤ d.visits.length → mostR d refused k ≤ mostR d refused n
 | 0, h, _ => by obtain rfl : k = 0 := (by omega); exact Int.le_refl _
 | n + 1, h, hn => by
  by_cases e : k = n + 1
  ·subst e; exact Int.le_refl _
  ·have := mostR_mono ho hs refused (k := k) (n := n) (by omega) (by omega)
   have := mostR_up ho hs refused (k := n) (by omega)
   omega
theorem widow_ne {d : Fu} (ho : d.Ok) {w : Nat} (hw : w ∈ ways d) {v : Vi} {k : Nat} (hv : d.visits[k]? = some v) (hb : w.testBit v.person.toNat = true) : widowOf d v.person.toNat ≠ 0 := by
 have hp := (ho.visit v (List.mem_of_getElem? hv)).person
 have hpl : v.person.toNat < d.people.length := by omega
 have hx := List.getElem?_eq_getElem hpl
 have := (mem_ways.1 hw).2 _ _ hx
 rw [hb] at this
 unfold widowOf
 rw [hx]
 simp only
 intro h0
 have := this (by omega)
 rw [if_pos rfl] at this
 omega
theorem mostAt_eq {d : Fu} {k : Nat} {v : Vi} (hv : d.visits[k]? = some v) : mostAt d k = if widowOf d v.person.toNat ≠ 0 then maxL (costs d 0 k) else 0 := by unfold mostAt; rw [hv]
theorem Reach.inv {d : Fu} (ho : d.Ok) (hs : someB d 0 = true) {refused : Nat} {x : Sd} (h : Reach d refused 0 x) :
  (0 ≤ x.left ∧ x.left ≤ d.pence) ∧ (x.ended = false → d.pence - mostR d refused x.k ≤ x.left) ∧ (x.ended = true → d.pence < mostR d refused x.k) := by
 have hp := ho.pence
 induction h with
 | beg hw => exact ⟨⟨hp.1, Int.le_refl _⟩, fun _ => by show d.pence - 0 ≤ d.pence; omega, fun h => by cases h⟩
 | @step s c hr hc ih =>
  obtain ⟨hk, hw, hl⟩ := kids_k hc
  have hv := List.getElem?_eq_getElem hl
  have hup := mostR_up ho hs refused hl
  obtain ⟨i1, i2, i3⟩ := ih
  rcases (mem_kids hv).1 hc with ⟨_, rfl⟩ | ⟨hrf, hwb, n, hn, rfl⟩
  ·refine ⟨i1, fun he => ?_, fun he => ?_⟩
   ·have := i2 he
    show d.pence - mostR d refused (s.k + 1) ≤ s.left
    omega
   ·have := i3 he
    show d.pence < mostR d refused (s.k + 1)
    omega
  ·have hne := widow_ne ho hr.w.1 hv hwb
   have hm := mostAt_eq hv
   rw [if_pos hne] at hm
   have hle := le_maxL hn
   have hb := costs_bd ho hn
   have e : mostR d refused (s.k + 1) = mostR d refused s.k + mostAt d s.k := by
    show mostR d refused s.k + (if refused.testBit s.k = true then 0 else mostAt d s.k) = _
    rw [hrf, if_neg Bool.false_ne_true]
   unfold stepSd
   cases he : s.ended with
   | true =>
    have := i3 he
    rw [Bool.true_or, if_pos rfl]
    refine ⟨i1, fun h => (by cases h), fun _ => ?_⟩
    show d.pence < mostR d refused (s.k + 1)
    omega
   | false =>
    have := i2 he
    by_cases hlt : s.left < n
    ·rw [decide_eq_true hlt, Bool.or_true, if_pos rfl]
     refine ⟨i1, fun h => (by cases h), fun _ => ?_⟩
     show d.pence < mostR d refused (s.k + 1)
     omega
    ·rw [decide_eq_false hlt, Bool.or_false, if_neg Bool.false_ne_true]
     refine ⟨⟨by show 0 ≤ s.left - n; omega, by show s.left - n ≤ d.pence; omega⟩, fun _ => ?_, fun h => by cases h⟩
     show d.pence - mostR d refused (s.k + 1) ≤ s.left - n
     omega
theorem ways_all {d : Fu} (ho : d.Ok) : ∃ w ∈ ways d, ∀ i, i < d.people.length → w.testBit i = decide (widowOf d i ≠ 0) := by
 obtain ⟨w, h1, h2⟩ := exists_bits (fun i => decide (widowOf d i ≠ 0)) d.people.length
 refine ⟨w, mem_ways.2 ⟨h1, fun i p hp hw => ?_⟩, h2⟩
 have hi := (List.getElem?_eq_some_iff.1 hp).1
 have hb := ho.widow p (List.mem_of_getElem? hp)
 rw [h2 i hi]
 unfold widowOf
 rw [hp]
 simp only
 by_cases e : p.widow = 0
 ·simp [e]
 ·simp [e]; omega
theorem reach_most {d : Fu} (ho : d.Ok) (hs : someB d 0 = true) (refused : Nat) {w : Nat} (hw : w ∈ ways d) (hb : ∀ i, i < d.people.length → w.testBit i = decide (widowOf d i ≠ 0)) :
  ∀ k, k ≤ d.visits.length → ∃ x, Reach d refused 0 x ∧ x.k = k ∧ x.w = w ∧ (x.ended = true ∨ x.left = d.pence - mostR d refused k)
 | 0, _ => ⟨start d w, .beg hw, rfl, rfl, .inr (by show d.pence = d.pence - 0; omega)⟩
 | k + 1, hk => by
  obtain ⟨s, hr, rfl, rfl, hd⟩ := reach_most ho hs refused hw hb k (by omega)
  have hl : s.k < d.visits.length := by omega
  have hv := List.getElem?_eq_getElem hl
  have hp := (ho.visit _ (List.getElem_mem hl)).person
  have hbp := hb d.visits[s.k].person.toNat (by omega)
  have hm := mostAt_eq hv
  have e : mostR d refused (s.k + 1) = mostR d refused s.k + if refused.testBit s.k = true then 0 else mostAt d s.k := rfl
  by_cases h : refused.testBit s.k = true ∨ s.w.testBit d.visits[s.k].person.toNat = false
  ·refine ⟨stay s, .step hr ((mem_kids hv).2 (.inl ⟨?_, rfl⟩)), rfl, rfl, ?_⟩
   ·rcases h with h | h
    ·exact .inl h
    ·exact .inr (.inl h)
   ·rcases hd with hd | hd
    ·exact .inl hd
    ·refine .inr ?_
     show s.left = _
     rw [e]
     rcases h with h | h
     ·rw [if_pos h]; omega
     ·rw [h] at hbp
      have h0 : ¬ widowOf d d.visits[s.k].person.toNat ≠ 0 := of_decide_eq_false hbp.symm
      rw [if_neg h0] at hm
      rw [hm]
      split <;> omega
  ·have h1 : refused.testBit s.k = false := by cases hh : refused.testBit s.k with | false => rfl | true => exact absurd (.inl hh) h
   have h2 : s.w.testBit d.visits[s.k].person.toNat = true := by cases hh : s.w.testBit d.visits[s.k].person.toNat with | true => rfl | false => exact absurd (.inr hh) h
   rw [h2] at hbp
   have h0 : widowOf d d.visits[s.k].person.toNat ≠ 0 := of_decide_eq_true hbp.symm
   rw [if_pos h0] at hm
   refine ⟨stepSd s (maxL (costs d 0 s.k)), .step hr ((mem_kids hv).2 (.inr ⟨h1, h2, _, maxL_mem (some_pos hs hl), rfl⟩)), (stepSd_k _ _).1, (stepSd_k _ _).2, ?_⟩
   rw [e, h1, if_neg Bool.false_ne_true, hm]
   unfold stepSd
   cases he : s.ended with
   | true => exact .inl rfl
   | false =>
    rcases hd with hd | hd
    ·rw [he] at hd; cases hd
    by_cases hlt : s.left < maxL (costs d 0 s.k)
    ·rw [decide_eq_true hlt]; exact .inl rfl
    ·rw [decide_eq_false hlt]
     refine .inr ?_
     show s.left - _ = _
     omega
theorem ended_iff {d : Fu} (ho : d.Ok) (hs : someB d 0 = true) (refused : Nat) : (∃ x, Reach d refused 0 x ∧ x.ended = true) ↔ d.pence < mostR d refused d.visits.length := by
 constructor
 ·rintro ⟨x, hr, he⟩
  have h1 := (hr.inv ho hs).2.2 he
  have h2 := mostR_mono ho hs refused hr.w.2 (Nat.le_refl _)
  omega
 ·intro hlt
  obtain ⟨w, hw, hb⟩ := ways_all ho
  obtain ⟨x, hr, hk, _, hd⟩ := reach_most ho hs refused hw hb d.visits.length (Nat.le_refl _)
  rcases hd with hd | hd
  ·exact ⟨x, hr, hd⟩
  ·have := (hr.inv ho hs).1.1
   omega
theorem dayAt_pos {d : Fu} (ho : d.Ok) (k : Nat) : 0 ≤ dayAt d k := by
 unfold dayAt
 cases hv : d.visits[k]? with
 | none => exact Int.le_refl _
 | some v => exact (ho.visit v (List.mem_of_getElem? hv)).day.1
theorem endF_fold {d : Fu} (ho : d.Ok) : ∀ (l : List Sd) (s : Int), ((l.foldl (endF d) s < 0 ↔ s < 0 ∧ ∀ x ∈ l, x.ended = false)) ∧ (∀ x ∈ l, x.ended = true → l.foldl (endF d) s ≤ dayAt d (x.k - 1)) ∧ (0 ≤ s → l.foldl (endF d) s ≤ s) ∧
  (l.foldl (endF d) s = s ∨ ∃ x ∈ l, x.ended = true ∧ l.foldl (endF d) s = dayAt d (x.k - 1))
 | [], s => ⟨⟨fun h => ⟨h, fun x hx => by cases hx⟩, fun h => h.1⟩, fun x hx => (by cases hx), fun _ => Int.le_refl _, .inl rfl⟩
 | y :: l, s => by
  obtain ⟨h1, h2, h3, h4⟩ := endF_fold ho l (endF d s y)
  have hy := dayAt_pos ho (y.k - 1)
  rw [List.foldl_cons]
  generalize l.foldl (endF d) (endF d s y) = r at h1 h2 h3 h4 ⊢
  by_cases hc : y.ended = true ∧ (s < 0 ∨ dayAt d (y.k - 1) < s)
  ·have e : endF d s y = dayAt d (y.k - 1) := by unfold endF; rw [if_pos hc]
   rw [e] at h1 h3 h4
   have hr := h3 hy
   refine ⟨⟨fun h => absurd (h1.1 h).1 (by omega), fun h => ?_⟩, fun x hx he => ?_, fun h0 => ?_, ?_⟩
   ·have := h.2 y (by simp); rw [hc.1] at this; cases this
   ·rcases List.mem_cons.1 hx with rfl | hx
    ·exact hr
    ·exact h2 x hx he
   ·rcases hc.2 with h | h <;> omega
   ·rcases h4 with h4 | ⟨x, hx, h5, h6⟩
    ·exact .inr ⟨y, by simp, hc.1, h4⟩
    ·exact .inr ⟨x, by simp [hx], h5, h6⟩
  ·have e : endF d s y = s := by unfold endF; rw [if_neg hc]
   rw [e] at h1 h3 h4
   refine ⟨⟨fun h => ⟨(h1.1 h).1, fun x hx => ?_⟩, fun h => h1.2 ⟨h.1, fun x hx => h.2 x (by simp [hx])⟩⟩, fun x hx he => ?_, h3, ?_⟩
   ·rcases List.mem_cons.1 hx with rfl | hx
    ·cases he : x.ended with
     | false => rfl
     | true => exact absurd ⟨he, .inl (h1.1 h).1⟩ hc
    ·exact (h1.1 h).2 x hx
   ·rcases List.mem_cons.1 hx with rfl | hx
    ·have : ¬ (s < 0 ∨ dayAt d (x.k - 1) < s) := fun h => hc ⟨he, h⟩
     have := h3 (by omega)
     omega
    ·exact h2 x hx he
   ·rcases h4 with h4 | ⟨x, hx, h5, h6⟩
    ·exact .inl h4
    ·exact .inr ⟨x, by simp [hx], h5, h6⟩
theorem ends_iff {d : Fu} (ho : d.Ok) (hs : someB d 0 = true) (refused : Nat) : endsV d refused 0 < 0 ↔ mostR d refused d.visits.length ≤ d.pence := by
 have h := (endF_fold ho (allM d refused 0 (ways d)) (-1)).1
 have hi := ended_iff ho hs refused
 unfold endsV
 rw [h]
 constructor
 ·rintro ⟨_, h⟩
  by_cases hlt : d.pence < mostR d refused d.visits.length
  ·obtain ⟨x, h1, h2⟩ := hi.2 hlt
   have := h x (mem_allM.2 h1)
   rw [h2] at this; cases this
  ·omega
 ·intro hle
  refine ⟨by omega, fun x hx => ?_⟩
  cases he : x.ended with
  | false => rfl
  | true => have := hi.1 ⟨x, mem_allM.1 hx, he⟩; omega
end
section
open Go.Proofs
theorem ways_some {d : Fu} (ho : d.Ok) : ∃ w, w ∈ ways d := by
 obtain ⟨w, hw, _⟩ := ways_all ho
 exact ⟨w, hw⟩
theorem reach_some {d : Fu} (hs : someB d 0 = true) (refused : Nat) {w : Nat} (hw : w ∈ ways d) : ∀ k, k ≤ d.visits.length → ∃ x, Reach d refused 0 x ∧ x.k = k ∧ x.w = w
 | 0, _ => ⟨start d w, .beg hw, rfl, rfl⟩
 | k + 1, hk => by
  obtain ⟨s, hr, rfl, rfl⟩ := reach_some hs refused hw k (by omega)
  have hl : s.k < d.visits.length := by omega
  have hv := List.getElem?_eq_getElem hl
  by_cases h : refused.testBit s.k = true ∨ s.w.testBit d.visits[s.k].person.toNat = false
  ·refine ⟨stay s, .step hr ((mem_kids hv).2 (.inl ⟨?_, rfl⟩)), rfl, rfl⟩
   rcases h with h | h
   ·exact .inl h
   ·exact .inr (.inl h)
  ·have h1 : refused.testBit s.k = false := by cases hh : refused.testBit s.k with | false => rfl | true => exact absurd (.inl hh) h
   have h2 : s.w.testBit d.visits[s.k].person.toNat = true := by cases hh : s.w.testBit d.visits[s.k].person.toNat with | true => rfl | false => exact absurd (.inr hh) h
   exact ⟨stepSd s (maxL (costs d 0 s.k)), .step hr ((mem_kids hv).2 (.inr ⟨h1, h2, _, maxL_mem (some_pos hs hl), rfl⟩)), (stepSd_k _ _).1, (stepSd_k _ _).2⟩
def payOf (d : Fu) (k : Nat) : Int := payV ((allM d 0 0 (ways d)).foldl (payF k) (false, false))
def IsLeft (d : Fu) (k : Nat) (n : Int) : Prop := ∃ x, Reach d 0 0 x ∧ x.k = k ∧ x.left = n
theorem leftF_len (many : Nat) (row : List Int) (x : Sd) : (leftF many row x).length = row.length := by unfold leftF; split <;> simp
theorem leftF_get {many : Nat} {row : List Int} {x : Sd} {i : Nat} (h0 : ∀ i, 0 ≤ row.getD i 0) (hi : i < row.length) (hx : x.k = many → 0 ≤ x.left ∧ x.left.toNat < row.length) :
  (∀ i, 0 ≤ (leftF many row x).getD i 0) ∧ (0 < (leftF many row x).getD i 0 ↔ 0 < row.getD i 0 ∨ (x.k = many ∧ x.left = (i : Int))) := by
 unfold leftF
 by_cases hk : x.k = many
 ·rw [if_pos hk]
  obtain ⟨h1, h2⟩ := hx hk
  have hg : ∀ j, (row.set x.left.toNat (row.getD x.left.toNat 0 + 1)).getD j 0 = if x.left.toNat = j then row.getD x.left.toNat 0 + 1 else row.getD j 0 := fun j => by
   rw [List.getD_eq_getElem?_getD, List.getElem?_set]
   by_cases e : x.left.toNat = j
   ·rw [if_pos e, if_pos e]
    subst e
    rw [if_pos h2]; rfl
   ·rw [if_neg e, if_neg e, List.getD_eq_getElem?_getD]
  refine ⟨fun j => ?_, ?_⟩
  ·rw [hg]
   have := h0 x.left.toNat
   have := h0 j
   split <;> omega
  ·rw [hg]
   have := h0 x.left.toNat
   by_cases e : x.left.toNat = i
   ·rw [if_pos e]
    constructor
    ·intro _; exact .inr ⟨hk, by omega⟩
    ·intro _; omega
   ·rw [if_neg e]
    constructor
    ·intro h; exact .inl h
    ·rintro (h | ⟨_, h⟩)
     ·exact h
     ·omega
 ·rw [if_neg hk]
  exact ⟨h0, ⟨fun h => .inl h, fun h => by rcases h with h | ⟨h, _⟩; exact h; exact absurd h hk⟩⟩
theorem leftF_fold {many : Nat} : ∀ (l : List Sd) (row : List Int), (∀ i, 0 ≤ row.getD i 0) → (∀ x ∈ l, x.k = many → 0 ≤ x.left ∧ x.left.toNat < row.length) →
  (l.foldl (leftF many) row).length = row.length ∧ (∀ i, 0 ≤ (l.foldl (leftF many) row).getD i 0) ∧ ∀ i, i < row.length → (0 < (l.foldl (leftF many) row).getD i 0 ↔ 0 < row.getD i 0 ∨ ∃ x ∈ l, x.k = many ∧ x.left = (i : Int))
 | [], row, h0, _ => ⟨rfl, h0, fun i _ => by simp⟩
 | y :: l, row, h0, hb => by
  rw [List.foldl_cons]
  have hy := hb y (by simp)
  have hlen := leftF_len many row y
  rcases Nat.eq_zero_or_pos row.length with hz | hpos
  ·obtain ⟨h1, h2, h3⟩ := leftF_fold l (leftF many row y) (fun i => by rw [List.getD_eq_getElem?_getD, List.getElem?_eq_none (by omega)]; exact Int.le_refl _) (fun x hx hk => by rw [hlen]; exact hb x (by simp [hx]) hk)
   exact ⟨by omega, h2, fun i hi => by omega⟩
  ·obtain ⟨h1, h2, h3⟩ := leftF_fold l (leftF many row y) (leftF_get h0 hpos hy).1 (fun x hx hk => by rw [hlen]; exact hb x (by simp [hx]) hk)
   refine ⟨by omega, h2, fun i hi => ?_⟩
   rw [h3 i (by omega), (leftF_get h0 hi hy).2]
   simp only [List.mem_cons, exists_eq_or_imp]
   exact or_assoc
theorem rowV_len {d : Fu} (ho : d.Ok) (hs : someB d 0 = true) (day : Int) : (rowV d day).length = 301 ∧ ∀ i, i < 301 → (0 < (rowV d day).getD i 0 ↔ IsLeft d (lastTo d day d.visits.length) (i : Int)) := by
 have hp := ho.pence
 have hz : ∀ i, zeros.getD i 0 = 0 := fun i => by
  unfold zeros
  rw [List.getD_eq_getElem?_getD, List.getElem?_replicate]
  split <;> rfl
 obtain ⟨h1, h2, h3⟩ := leftF_fold (many := lastTo d day d.visits.length) (allM d 0 0 (ways d)) zeros (fun i => by rw [hz]; exact Int.le_refl _) (fun x hx _ => by
  have := ((mem_allM.1 hx).inv ho hs).1
  rw [zeros_len]
  omega)
 rw [zeros_len] at h1 h3
 refine ⟨h1, fun i hi => ?_⟩
 unfold rowV
 rw [h3 i hi, hz]
 simp only [Int.lt_irrefl, false_or, mem_allM]
 rfl
theorem lastPos_spec (l : List Int) : ∀ k, (∃ i, i < k ∧ 0 < l.getD i 0) → ∃ i, i < k ∧ lastPos l k = (i : Int) ∧ 0 < l.getD i 0 ∧ ∀ j, j < k → 0 < l.getD j 0 → j ≤ i
 | 0, ⟨i, hi, _⟩ => by omega
 | k + 1, ⟨i, hi, h⟩ => by
  unfold lastPos
  by_cases hk : 0 < l.getD k 0
  ·rw [if_pos hk]
   exact ⟨k, by omega, rfl, hk, fun j hj _ => by omega⟩
  ·rw [if_neg hk]
   have hne : i ≠ k := fun e => hk (e ▸ h)
   obtain ⟨m, m1, m2, m3, m4⟩ := lastPos_spec l k ⟨i, by omega, h⟩
   refine ⟨m, by omega, m2, m3, fun j hj hp => ?_⟩
   by_cases e : j = k
   ·subst e; exact absurd hp hk
   ·exact m4 j (by omega) hp
theorem firstPos_spec (l : List Int) (h : ∃ i, i < l.length ∧ 0 < l.getD i 0) : ∃ i, i < l.length ∧ firstPos l = (i : Int) ∧ 0 < l.getD i 0 ∧ ∀ j, 0 < l.getD j 0 → j < l.length → i ≤ j := by
 obtain ⟨i, hi, hp⟩ := h
 have hx := List.getElem?_eq_getElem hi
 rw [List.getD_eq_getElem?_getD, hx] at hp
 have hf : l.findIdx (fun n => decide (0 < n)) < l.length := List.findIdx_lt_length_of_exists ⟨l[i], List.getElem_mem _, decide_eq_true hp⟩
 refine ⟨l.findIdx (fun n => decide (0 < n)), hf, ?_, ?_, fun j hj hjl => ?_⟩
 ·unfold firstPos; rw [if_pos hf]
 ·have := List.findIdx_getElem (p := fun n => decide ((0 : Int) < n)) (xs := l) (w := hf)
  rw [List.getD_eq_getElem?_getD, List.getElem?_eq_getElem hf]
  exact of_decide_eq_true this
 ·rcases Nat.lt_or_ge j (l.findIdx (fun n => decide (0 < n))) with h | h
  ·have := List.not_of_lt_findIdx h
   rw [List.getD_eq_getElem?_getD, List.getElem?_eq_getElem hjl] at hj
   have hj : 0 < l[j] := hj
   exact absurd hj (of_decide_eq_false (by simpa using this))
  ·exact h
def spanOf (d : Fu) (day : Int) : Int × Int := if rowV d day = zeros then (0, 0) else (firstPos (rowV d day), lastPos (rowV d day) 301)
theorem leftP_eq (d : Fu) (day : Int) : leftP d day = if dayE d day = 0 then (spanOf d day, 0) else ((0, 0), dayE d day) := rfl
theorem left_spec {d : Fu} (ho : d.Ok) (hs : someB d 0 = true) (day : Int) :
  IsLeft d (lastTo d day d.visits.length) (spanOf d day).1 ∧ IsLeft d (lastTo d day d.visits.length) (spanOf d day).2 ∧ ∀ n, IsLeft d (lastTo d day d.visits.length) n → (spanOf d day).1 ≤ n ∧ n ≤ (spanOf d day).2 := by
 have hp := ho.pence
 obtain ⟨h1, h2⟩ := rowV_len ho hs day
 have bd : ∀ n, IsLeft d (lastTo d day d.visits.length) n → ∃ i : Nat, i < 301 ∧ n = (i : Int) ∧ 0 < (rowV d day).getD i 0 := fun n hn => by
  obtain ⟨x, hr, hk, rfl⟩ := hn
  have := (hr.inv ho hs).1
  refine ⟨x.left.toNat, by omega, by omega, (h2 _ (by omega)).2 ⟨x, hr, hk, by omega⟩⟩
 obtain ⟨w, hw⟩ := ways_some ho
 obtain ⟨x, hr, hk, _⟩ := reach_some hs 0 hw (lastTo d day d.visits.length) (lastTo_le _ _ _)
 obtain ⟨i0, b1, b2, b3⟩ := bd x.left ⟨x, hr, hk, rfl⟩
 have hne : rowV d day ≠ zeros := fun e => by
  rw [e] at b3
  unfold zeros at b3
  rw [List.getD_eq_getElem?_getD, List.getElem?_replicate, if_pos b1] at b3
  exact absurd b3 (by simp)
 obtain ⟨i, f1, f2, f3, f4⟩ := firstPos_spec (rowV d day) ⟨i0, by omega, b3⟩
 obtain ⟨j, l1, l2, l3, l4⟩ := lastPos_spec (rowV d day) 301 ⟨i0, b1, b3⟩
 unfold spanOf
 rw [if_neg hne]
 simp only
 rw [f2, l2]
 refine ⟨(h2 i (by omega)).1 f3, (h2 j l1).1 l3, fun n hn => ?_⟩
 obtain ⟨m, m1, rfl, m3⟩ := bd n hn
 have := f4 m m3 (by omega)
 have := l4 m m1 m3
 omega
end
section
open Go.Proofs
theorem mem_costs {d : Fu} {but k : Nat} {n : Int} : n ∈ costs d but k ↔ ∃ v, d.visits[k]? = some v ∧ ∃ (i : Nat) (late : Int), i < linesN v ∧ (late = 0 ∨ late = 1) ∧ noHour d v late = false ∧ n = costN d v (v.llo + (i : Int)) late ∧ firstBad (noE d but k n) 0 d.entries.length = none := by
 unfold costs
 rw [mem_sortD_iff]
 unfold rawCosts
 cases hv : d.visits[k]? with
 | none => simp
 | some v =>
  simp only
  rw [mem_rawTo_iff]
  constructor
  ·intro h; exact ⟨v, rfl, h⟩
  ·rintro ⟨w, hw, h⟩
   cases hw
   exact h
def Fu.more (d : Fu) (x : Et) : Fu := { d with entries := d.entries ++ [x], ze := 2 }
theorem fits_more {d : Fu} (hd : d.fits) (x : Et) (hl : d.entries.length < 8796093022208) : (d.more x).fits :=
 ⟨hd.zl, hd.zp, hd.zv, fun _ => rfl, hd.ll, hd.lp, hd.lv, by show (d.entries ++ [x]).length < _; simp; omega, hd.np⟩
end
section
open Go.Proofs
theorem costs_free {d : Fu} (ho : d.Ok) {but k : Nat} (hk : k < d.visits.length) (hz : ∀ n, firstBad (noE d but k n) 0 d.entries.length = none) : costs d but k ≠ [] := by
 intro e
 have hv := List.getElem?_eq_getElem hk
 have hvo := ho.visit _ (List.getElem_mem hk)
 have hl := hvo.line
 have hh := hvo.hour
 by_cases hf : d.visits[k].hlo < d.frm
 ·have : costN d d.visits[k] (d.visits[k].llo + ((0 : Nat) : Int)) 0 ∈ costs d but k := mem_costs.2 ⟨_, hv, 0, 0, by unfold linesN; omega, .inl rfl, by unfold noHour; simp; omega, rfl, hz _⟩
  rw [e] at this; cases this
 ·have : costN d d.visits[k] (d.visits[k].llo + ((0 : Nat) : Int)) 1 ∈ costs d but k := mem_costs.2 ⟨_, hv, 0, 1, by unfold linesN; omega, .inr rfl, by unfold noHour; simp; omega, rfl, hz _⟩
  rw [e] at this; cases this
theorem some_of {d : Fu} {but : Nat} (h : ∀ k, k < d.visits.length → costs d but k ≠ []) : someB d but = true :=
 decide_eq_true (firstBad_zero fun k _ hk => by unfold noCost; rw [if_neg (h k (by omega))])
theorem some_free {d : Fu} (ho : d.Ok) (hn : d.entries = []) : someB d 0 = true :=
 some_of fun k hk => costs_free ho hk fun n => by rw [hn]; rfl
end
section
open Go.Proofs
def allTo (p : Nat → Bool) (n : Nat) : Bool := (List.range n).all p
def lastAt (l : List Int) : Nat → Int
 | 0 => -1
 | k + 1 => l.getD k 0
def risAt (l : List Int) (below : Int) (k : Nat) : Bool := !(decide (l.getD k 0 ≤ lastAt l k) || decide (below ≤ l.getD k 0))
def risB (l : List Int) (below : Int) : Bool := allTo (risAt l below) l.length
def fewB (a b : List Int) : Bool := if a.length = b.length then ltB a b else decide (a.length < b.length)
def leastC (i : Nat) (t : List Int) : Int := if i = 0 then 0 else t.getD (i - 1) 0 + 1
def extC (i : Nat) (t : List Int) (k : Nat) : List (List Int) := (List.range k).map fun (j : Nat) => t ++ [leastC i t + (j : Int)]
def widthC (b i : Nat) (t : List Int) : Nat := ((b : Int) - leastC i t).toNat
def choicesL (b : Nat) : Nat → List (List Int)
 | 0 => [[]]
 | i + 1 => (choicesL b i).flatMap fun t => extC i t (widthC b i t)
def rkW (n s : Nat) : Nat × Nat := ((bitsL s n).length, (choicesL n (bitsL s n).length).idxOf (bitsL s n))
def lexB (a b : Nat × Nat) : Bool := decide (a.1 < b.1) || (decide (a.1 = b.1) && decide (a.2 < b.2))
def chkW (n : Nat) : Bool :=
 ((List.range (2 ^ n)).all fun s => decide ((rkW n s).1 ≤ n) && decide ((choicesL n (rkW n s).1)[(rkW n s).2]? = some (bitsL s n))) &&
 ((List.range (n + 1)).all fun k => (List.range (choicesL n k).length).all fun i => (List.range (2 ^ n)).any fun s => decide (rkW n s = (k, i))) &&
 ((List.range (2 ^ n)).all fun s => (List.range (2 ^ n)).all fun t => skipW (bitsL s n) (bitsL t n) == lexB (rkW n t) (rkW n s))
theorem chkW_all : (List.range 6).all chkW = true := by kernel_rfl
theorem chkW_of {n : Nat} (hn : n ≤ 5) : chkW n = true := List.all_eq_true.1 chkW_all n (by simp; omega)
theorem skip_rk {n : Nat} (hn : n ≤ 5) {s t : Nat} (hs : s < 2 ^ n) (ht : t < 2 ^ n) : skipW (bitsL s n) (bitsL t n) = lexB (rkW n t) (rkW n s) := by
 have h := chkW_of hn
 unfold chkW at h
 simp only [Bool.and_eq_true] at h
 have := List.all_eq_true.1 (List.all_eq_true.1 h.2 s (by simpa using hs)) t (by simpa using ht)
 simpa using this
theorem lexB_no {a b : Nat × Nat} : lexB a b = false ↔ (b.1 < a.1 ∨ (b.1 = a.1 ∧ b.2 ≤ a.2)) := by
 unfold lexB
 simp only [Bool.or_eq_false_iff, Bool.and_eq_false_iff, decide_eq_false_iff_not]
 omega
theorem lexB_yes {a b : Nat × Nat} : lexB a b = true ↔ (a.1 < b.1 ∨ (a.1 = b.1 ∧ a.2 < b.2)) := by
 unfold lexB
 simp only [Bool.or_eq_true, Bool.and_eq_true, decide_eq_true_eq]
theorem best_inv (P : Nat → Bool) {n : Nat} (hn : n ≤ 5) : ∀ k, k ≤ 2 ^ n → (bestW P n k = none → ∀ s, s < k → P s = false) ∧
  ∀ t, bestW P n k = some t → t < k ∧ P t = true ∧ ∀ s, s < k → P s = true → lexB (rkW n s) (rkW n t) = false
 | 0, _ => ⟨fun _ s hs => by omega, fun t h => by cases h⟩
 | k + 1, hk => by
  obtain ⟨h1, h2⟩ := best_inv P hn k (by omega)
  cases hb : bestW P n k with
  | none =>
   have h1 := h1 hb
   cases hp : P k with
   | true =>
    have e : bestW P n (k + 1) = some k := by simp only [bestW, stepW, hb, hp, if_true]
    rw [e]
    refine ⟨fun h => (by cases h), fun t ht => ?_⟩
    cases ht
    refine ⟨by omega, hp, fun s hs hps => ?_⟩
    rcases Nat.lt_or_ge s k with h | h
    ·rw [h1 s h] at hps; cases hps
    ·rw [show s = k by omega, lexB_no]; omega
   | false =>
    have e : bestW P n (k + 1) = none := by simp only [bestW, stepW, hb, hp, Bool.false_eq_true, if_false]
    rw [e]
    refine ⟨fun _ s hs => ?_, fun t ht => (by cases ht)⟩
    rcases Nat.lt_or_ge s k with h | h
    ·exact h1 s h
    ·rw [show s = k by omega]; exact hp
  | some t =>
   obtain ⟨t1, t2, t3⟩ := h2 t hb
   have hsk := skip_rk hn (show k < 2 ^ n by omega) (show t < 2 ^ n by omega)
   cases hs : skipW (bitsL k n) (bitsL t n) with
   | true =>
    have e : bestW P n (k + 1) = some t := by simp only [bestW, stepW, hb, hs, if_true]
    rw [e]
    refine ⟨fun h => (by cases h), fun u hu => ?_⟩
    cases hu
    refine ⟨by omega, t2, fun s h hps => ?_⟩
    rcases Nat.lt_or_ge s k with h' | h'
    ·exact t3 s h' hps
    ·rw [show s = k by omega]
     rw [hs] at hsk
     have := lexB_yes.1 hsk.symm
     rw [lexB_no]; omega
   | false =>
    cases hp : P k with
    | true =>
     have e : bestW P n (k + 1) = some k := by simp only [bestW, stepW, hb, hs, hp, Bool.false_eq_true, if_false, if_true]
     rw [e]
     refine ⟨fun h => (by cases h), fun u hu => ?_⟩
     cases hu
     refine ⟨by omega, hp, fun s h hps => ?_⟩
     rcases Nat.lt_or_ge s k with h' | h'
     ·have a := lexB_no.1 (t3 s h' hps)
      rw [hs] at hsk
      have b := lexB_no.1 hsk.symm
      rw [lexB_no]; omega
     ·rw [show s = k by omega, lexB_no]; omega
    | false =>
     have e : bestW P n (k + 1) = some t := by simp only [bestW, stepW, hb, hs, hp, Bool.false_eq_true, if_false]
     rw [e]
     refine ⟨fun h => (by cases h), fun u hu => ?_⟩
     cases hu
     refine ⟨by omega, t2, fun s h hps => ?_⟩
     rcases Nat.lt_or_ge s k with h' | h'
     ·exact t3 s h' hps
     ·rw [show s = k by omega, hp] at hps; cases hps
def chkF (n : Nat) : Bool :=
 ((List.range (2 ^ n)).all fun s => (List.range (2 ^ n)).all fun t => fewB (bitsL s n) (bitsL t n) == lexB (rkW n s) (rkW n t)) && (List.range (2 ^ n)).all fun s => risB (bitsL s n) n
theorem chkF_all : (List.range 6).all chkF = true := by kernel_rfl
theorem chkF_of {n : Nat} (hn : n ≤ 5) : chkF n = true := List.all_eq_true.1 chkF_all n (by simp; omega)
theorem few_rk {n : Nat} (hn : n ≤ 5) {s t : Nat} (hs : s < 2 ^ n) (ht : t < 2 ^ n) : fewB (bitsL s n) (bitsL t n) = lexB (rkW n s) (rkW n t) := by
 have h := chkF_of hn
 unfold chkF at h
 simp only [Bool.and_eq_true] at h
 have := List.all_eq_true.1 (List.all_eq_true.1 h.1 s (by simpa using hs)) t (by simpa using ht)
 simpa using this
theorem bitsL_mod (s n : Nat) : bitsL (s % 2 ^ n) n = bitsL s n := by
 unfold bitsL
 congr 1
 apply List.filter_congr
 intro i hi
 have := List.mem_range.1 hi
 rw [Nat.testBit_mod_two_pow]
 simp [this]
end
section
open Go.Proofs
theorem best_spec (P : Nat → Bool) {n : Nat} (hn : n ≤ 5) (hex : ∃ s, s < 2 ^ n ∧ P s = true) : ∃ t, bestW P n (2 ^ n) = some t ∧ t < 2 ^ n ∧ P t = true ∧ ∀ s, s < 2 ^ n → P s = true → fewB (bitsL s n) (bitsL t n) = false := by
 obtain ⟨b1, b2⟩ := best_inv P hn (2 ^ n) (Nat.le_refl _)
 cases hb : bestW P n (2 ^ n) with
 | none =>
  obtain ⟨s, h1, h2⟩ := hex
  have := b1 hb s h1
  rw [h2] at this; cases this
 | some t =>
  obtain ⟨t1, t2, t3⟩ := b2 t hb
  exact ⟨t, rfl, t1, t2, fun s hs hp => by rw [few_rk hn hs t1]; exact t3 s hs hp⟩
theorem bitsL_any (s n : Nat) (k : Nat) (hk : k < n) : ((bitsL s n).any fun x => x == (k : Int)) = s.testBit k := by
 unfold bitsL
 rw [List.any_map, Bool.eq_iff_iff, List.any_eq_true]
 constructor
 ·rintro ⟨x, hx, he⟩
  have : x = k := by
   have he : ((x : Int) == (k : Int)) = true := he
   rw [beq_iff_eq] at he
   omega
  subst this
  exact (List.mem_filter.1 hx).2
 ·intro h
  exact ⟨k, List.mem_filter.2 ⟨List.mem_range.2 hk, h⟩, by simp⟩
theorem few_len {a b : List Int} (h : fewB a b = false) : b.length ≤ a.length := by
 unfold fewB at h
 split at h
 ·omega
 ·have := of_decide_eq_false h; omega
theorem bit_last (n i : Nat) (h : i < n) : (2 ^ n - 1).testBit i = true := by rw [Nat.testBit_two_pow_sub_one]; simpa using h
theorem pow_pos2 (n : Nat) : 0 < 2 ^ n := Nat.pow_pos (by decide)
theorem some_last {d : Fu} (ho : d.Ok) : someB d (2 ^ d.entries.length - 1) = true :=
 some_of fun k hk => costs_free ho hk fun n => firstBad_zero fun i _ hi => by
  unfold noE
  cases hx : d.entries[i]? with
  | none => rfl
  | some x =>
   simp only
   unfold noEntry
   rw [bit_last _ _ (by omega)]
   rfl
theorem same_bits (d : Fu) (t : Nat) : SameBut d (bitsL t d.entries.length) t := fun i hi => bitsL_any t _ i hi
theorem someR_eq {d : Fu} (ho : d.Ok) {butL : List Int} {but : Nat} (hs : SameBut d butL but) : someR d butL d.visits.length = someB d but := by
 unfold someR
 rw [Bool.eq_iff_iff, List.all_eq_true]
 constructor
 ·intro h
  refine some_of fun k hk => ?_
  have := h k (List.mem_range.2 hk)
  rw [costs_ref ho hs] at this
  exact of_decide_eq_true this
 ·intro h k hk
  rw [costs_ref ho hs]
  exact decide_eq_true (some_pos h (List.mem_range.1 hk))
theorem same_nil (d : Fu) : SameBut d [] 0 := fun i _ => by simp
theorem someR_nil {d : Fu} (ho : d.Ok) : someR d [] d.visits.length = someB d 0 := someR_eq ho (same_nil d)
theorem someB_bits {d : Fu} (s : Nat) : someB d (s % 2 ^ d.entries.length) = someB d s := by
 have hb : ∀ i, i < d.entries.length → (s % 2 ^ d.entries.length).testBit i = s.testBit i := fun i hi => by
  rw [Nat.testBit_mod_two_pow]; simp [hi]
 have hc : ∀ k, (∀ n, n ∈ costs d (s % 2 ^ d.entries.length) k ↔ n ∈ costs d s k) := fun k n => by
  have hf : firstBad (noE d (s % 2 ^ d.entries.length) k n) 0 d.entries.length = none ↔ firstBad (noE d s k n) 0 d.entries.length = none := by
   have he : ∀ i, i < d.entries.length → noE d (s % 2 ^ d.entries.length) k n i = noE d s k n i := fun i hi => by
    unfold noE
    cases d.entries[i]? with
    | none => rfl
    | some x => simp only; unfold noEntry; rw [hb i hi]
   constructor
   ·intro h; exact firstBad_zero fun i _ hi => by rw [← he i (by omega)]; exact firstBad_none h i (Nat.zero_le _) (by omega)
   ·intro h; exact firstBad_zero fun i _ hi => by rw [he i (by omega)]; exact firstBad_none h i (Nat.zero_le _) (by omega)
  rw [mem_costs, mem_costs, hf]
 rw [Bool.eq_iff_iff]
 constructor
 ·intro h
  refine some_of fun k hk e => ?_
  obtain ⟨n, hn⟩ := List.exists_mem_of_ne_nil _ (some_pos h hk)
  have := (hc k n).1 hn
  rw [e] at this; cases this
 ·intro h
  refine some_of fun k hk e => ?_
  obtain ⟨n, hn⟩ := List.exists_mem_of_ne_nil _ (some_pos h hk)
  have := (hc k n).2 hn
  rw [e] at this; cases this
theorem wrong_spec {d : Fu} (ho : d.Ok) : ∃ t, bestL d.entries.length (bestW (someB d) d.entries.length (2 ^ d.entries.length)) = bitsL t d.entries.length ∧ t < 2 ^ d.entries.length ∧ someB d t = true ∧
  ∀ s, someB d s = true → fewB (bitsL s d.entries.length) (bitsL t d.entries.length) = false := by
 have hp := pow_pos2 d.entries.length
 have he := ho.entries
 obtain ⟨t, h1, h2, h3, h4⟩ := best_spec (someB d) (n := d.entries.length) (by omega) ⟨2 ^ d.entries.length - 1, by omega, some_last ho⟩
 refine ⟨t, by rw [h1]; rfl, h2, h3, fun s hs => ?_⟩
 rw [← bitsL_mod s]
 exact h4 _ (Nat.mod_lt _ hp) (by rw [someB_bits]; exact hs)
end
section
open Go.Proofs
def kidsC (d : Fu) (C : Nat → List Int) (refused : Nat) (s : Sd) : List Sd := match d.visits[s.k]? with
 | none => []
 | some v =>
  (if refused.testBit s.k || !s.w.testBit v.person.toNat || !comesB d s.k then [stay s] else []) ++
  (if refused.testBit s.k || !s.w.testBit v.person.toNat then [] else (C s.k).map (stepSd s))
def dfsC (d : Fu) (C : Nat → List Int) (refused : Nat) : Nat → Sd → List Sd → List Sd
 | 0, s, M => if s ∈ M then M else M ++ [s]
 | n + 1, s, M => if s ∈ M then M else (kidsC d C refused s).foldl (fun M c => dfsC d C refused n c M) (M ++ [s])
def allC (d : Fu) (C : Nat → List Int) (refused : Nat) (ws : List Nat) : List Sd := ws.foldl (fun M w => dfsC d C refused d.visits.length (start d w) M) []
theorem kids_C {d : Fu} {C : Nat → List Int} (h : ∀ k, costs d 0 k = C k) (refused : Nat) (s : Sd) : kids d refused 0 s = kidsC d C refused s := by
 unfold kids kidsC
 rw [h]
 cases d.visits[s.k]? <;> rfl
theorem dfs_C {d : Fu} {C : Nat → List Int} (h : ∀ k, costs d 0 k = C k) (refused : Nat) : ∀ (n : Nat) (s : Sd) (M : List Sd), dfsM d refused 0 n s M = dfsC d C refused n s M
 | 0, _, _ => rfl
 | n + 1, s, M => by
  unfold dfsM dfsC
  rw [kids_C h]
  have : (fun M c => dfsM d refused 0 n c M) = fun M c => dfsC d C refused n c M := by funext M c; exact dfs_C h refused n c M
  rw [this]
theorem all_C {d : Fu} {C : Nat → List Int} (h : ∀ k, costs d 0 k = C k) (refused : Nat) (ws : List Nat) : allM d refused 0 ws = allC d C refused ws := by
 unfold allM allC
 congr 1
 funext M w
 exact dfs_C h refused _ _ _
def rowC (d : Fu) (C : Nat → List Int) (many : Nat) : List Int := (allC d C 0 (ways d)).filterMap fun x => if x.k = many then some x.left else none
def minC : List Int → Int
 | [] => 0
 | x :: xs => xs.foldl (fun a b => if b < a then b else a) x
theorem fold_min_le : ∀ (l : List Int) (a : Int), l.foldl (fun a b => if b < a then b else a) a ≤ a ∧ (∀ x ∈ l, l.foldl (fun a b => if b < a then b else a) a ≤ x) ∧ (l.foldl (fun a b => if b < a then b else a) a = a ∨ l.foldl (fun a b => if b < a then b else a) a ∈ l)
 | [], a => ⟨Int.le_refl _, fun x hx => (by cases hx), .inl rfl⟩
 | y :: l, a => by
  rw [List.foldl_cons]
  obtain ⟨h1, h2, h3⟩ := fold_min_le l (if y < a then y else a)
  have : (if y < a then y else a) ≤ a ∧ (if y < a then y else a) ≤ y := by split <;> omega
  refine ⟨by omega, fun x hx => ?_, ?_⟩
  ·rcases List.mem_cons.1 hx with rfl | hx
   ·omega
   ·exact h2 x hx
  ·rcases h3 with h3 | h3
   ·rw [h3]
    split
    ·exact .inr (by simp)
    ·exact .inl rfl
   ·exact .inr (by simp [h3])
theorem minC_le {l : List Int} {x : Int} (h : x ∈ l) : minC l ≤ x := by
 cases l with
 | nil => cases h
 | cons y l =>
  obtain ⟨h1, h2, _⟩ := fold_min_le l y
  rcases List.mem_cons.1 h with rfl | h
  ·exact h1
  ·exact h2 x h
theorem minC_mem {l : List Int} (h : l ≠ []) : minC l ∈ l := by
 cases l with
 | nil => exact absurd rfl h
 | cons y l =>
  obtain ⟨_, _, h3⟩ := fold_min_le l y
  have e : minC (y :: l) = l.foldl (fun a b => if b < a then b else a) y := rfl
  rw [e]
  rcases h3 with h3 | h3
  ·rw [h3]; simp
  ·simp [h3]
theorem row_C {d : Fu} {C : Nat → List Int} (h : ∀ k, costs d 0 k = C k) (many : Nat) (n : Int) : n ∈ rowC d C many ↔ IsLeft d many n := by
 unfold rowC
 rw [← all_C h, List.mem_filterMap]
 constructor
 ·rintro ⟨x, hx, he⟩
  by_cases hk : x.k = many
  ·rw [if_pos hk] at he
   exact ⟨x, mem_allM.1 hx, hk, Option.some.inj he⟩
  ·rw [if_neg hk] at he; cases he
 ·rintro ⟨x, hx, hk, he⟩
  exact ⟨x, mem_allM.2 hx, by rw [if_pos hk, he]⟩
theorem span_C {d : Fu} (ho : d.Ok) (hs : someB d 0 = true) {C : Nat → List Int} (h : ∀ k, costs d 0 k = C k) (day : Int) : spanOf d day = (minC (rowC d C (lastTo d day d.visits.length)), maxL (rowC d C (lastTo d day d.visits.length))) := by
 obtain ⟨h1, h2, h3⟩ := left_spec ho hs day
 have r := row_C h (lastTo d day d.visits.length)
 have hne : rowC d C (lastTo d day d.visits.length) ≠ [] := fun e => by
  have := (r _).2 h1
  rw [e] at this; cases this
 have a1 := minC_le ((r _).2 h1)
 have a2 := le_maxL ((r _).2 h2)
 have a3 := h3 _ ((r _).1 (minC_mem hne))
 have a4 := h3 _ ((r _).1 (maxL_mem hne))
 exact Prod.ext (by show (spanOf d day).1 = minC _; omega) (by show (spanOf d day).2 = maxL _; omega)
theorem left_C {d : Fu} (ho : d.Ok) (hs : someB d 0 = true) {C : Nat → List Int} (h : ∀ k, costs d 0 k = C k) (day : Int) (hd : dayE d day = 0) : leftP d day = ((minC (rowC d C (lastTo d day d.visits.length)), maxL (rowC d C (lastTo d day d.visits.length))), 0) := by
 rw [leftP_eq, if_pos hd, span_C ho hs h]
theorem ends_C {d : Fu} {C : Nat → List Int} (h : ∀ k, costs d 0 k = C k) (refused : Nat) : endsV d refused 0 = (allC d C refused (ways d)).foldl (endF d) (-1) := by unfold endsV; rw [all_C h]
theorem pay_C {d : Fu} {C : Nat → List Int} (h : ∀ k, costs d 0 k = C k) (k : Nat) : payOf d k = payV ((allC d C 0 (ways d)).foldl (payF k) (false, false)) := by unfold payOf; rw [all_C h]
def mostAtC (d : Fu) (C : Nat → List Int) (k : Nat) : Int := match d.visits[k]? with
 | some v => if widowOf d v.person.toNat ≠ 0 then maxL (C k) else 0
 | none => 0
def mostRC (d : Fu) (C : Nat → List Int) (refused : Nat) : Nat → Int
 | 0 => 0
 | k + 1 => mostRC d C refused k + if refused.testBit k = true then 0 else mostAtC d C k
theorem most_C {d : Fu} {C : Nat → List Int} (h : ∀ k, costs d 0 k = C k) (refused : Nat) : ∀ k, mostR d refused k = mostRC d C refused k
 | 0 => rfl
 | k + 1 => by
  unfold mostR mostRC
  rw [most_C h refused k]
  unfold mostAt mostAtC
  rw [h]
  cases d.visits[k]? <;> rfl
theorem bestW_congr {P Q : Nat → Bool} (h : ∀ s, P s = Q s) (n : Nat) : ∀ k, bestW P n k = bestW Q n k
 | 0 => rfl
 | k + 1 => by
  unfold bestW
  rw [bestW_congr h n k]
  unfold stepW
  rw [h]
theorem visitE_eq {d : Fu} {n : Int} (hc : checkE d = 0) (hi : idxE n d.visits.length 4 = 0) (hs : someB d 0 = true) : visitE d n = 0 := by
 unfold visitE enterE; rw [if_pos hc, if_pos hi, if_pos hs]
theorem dayE_eq {d : Fu} {n : Int} (hc : checkE d = 0) (hi : idxE n d.days 7 = 0) (hs : someB d 0 = true) : dayE d n = 0 := by
 unfold dayE enterE; rw [if_pos hc, if_pos hi, if_pos hs]
theorem enter_eq {d : Fu} (hc : checkE d = 0) (hs : someB d 0 = true) : enterE d 0 = 0 := by
 unfold enterE; rw [if_pos hc, if_pos rfl, if_pos hs]
end
section
open Go.Proofs
theorem out_of {lo hi n : Int} (h : lo ≤ n ∧ n ≤ hi) : out lo hi n = false := by
 unfold out; rw [decide_eq_false (by omega), decide_eq_false (by omega)]; rfl
theorem failP_good {lo hi : Int} {e : Nat → Int} {n : Nat} (h1 : out lo hi n = false) (h2 : ∀ i, i < n → e i = 0) : (failP lo hi e n).2 = 0 := by
 unfold failP
 rw [h1, if_neg Bool.false_ne_true, firstBad_zero fun i _ hi => h2 i (by omega)]
theorem eF_eq (d : Fu) : eF d = .agg [.int .i64 d.pence, .int .i64 d.days, .int .i64 d.opn, .int .i64 d.late, .int .i64 d.frm, .lst 0 d.zl (I d.lines), .lst 0 d.zp (d.people.map ePe), .lst 0 d.zv (d.visits.map eVi), .lst 0 d.ze (d.entries.map eEt)] := rfl
end
section
open Go.Proofs
def vL (v : Vi) (lo hi : Int) : Vi := { v with llo := lo, lhi := hi }
def dL (d : Fu) (k : Nat) (v : Vi) (lo hi : Int) : Fu := { d with visits := d.visits.set k (vL v lo hi), entries := [], ze := 0 }
theorem dL_get {d : Fu} {k : Nat} {v : Vi} {lo hi : Int} (hv : d.visits[k]? = some v) : (dL d k v lo hi).visits[k]? = some (vL v lo hi) := by
 show (d.visits.set k (vL v lo hi))[k]? = _
 rw [List.getElem?_set_self (List.getElem?_eq_some_iff.1 hv).1]
theorem dL_days {d : Fu} {k : Nat} {v : Vi} {lo hi : Int} (hv : d.visits[k]? = some v) (i : Nat) (w : Vi) (hw : (dL d k v lo hi).visits[i]? = some w) : ∃ u, d.visits[i]? = some u ∧ w.day = u.day ∧ w.person = u.person ∧ w.kind = u.kind ∧ w.hlo = u.hlo ∧ w.hhi = u.hhi ∧ (w = u ∨ (w.llo = lo ∧ w.lhi = hi)) := by
 have hw : (d.visits.set k (vL v lo hi))[i]? = some w := hw
 by_cases e : k = i
 ·subst e
  rw [List.getElem?_set_self (List.getElem?_eq_some_iff.1 hv).1] at hw
  cases hw
  exact ⟨v, hv, rfl, rfl, rfl, rfl, rfl, .inr ⟨rfl, rfl⟩⟩
 ·rw [List.getElem?_set_ne e] at hw
  exact ⟨w, hw, rfl, rfl, rfl, rfl, rfl, .inl rfl⟩
theorem viE_good {e : Fu} {i : Nat} {v : Vi} (h : v.Ok e) (hr : ∀ k w, i = k + 1 → e.visits[k]? = some w → w.day ≤ v.day) : viE e i v = 0 := by
 obtain ⟨h1, h2, h3, h4, h5⟩ := h
 unfold viE
 rw [out_of (show 0 ≤ v.person ∧ v.person ≤ (e.people.length : Int) - 1 by omega), out_of (show 0 ≤ v.kind ∧ v.kind ≤ (e.lines.length : Int) - 1 by omega), out_of (show 0 ≤ v.day ∧ v.day ≤ e.days - 1 by omega), out_of (show 1 ≤ v.llo ∧ v.llo ≤ 8 by omega), out_of (show 1 ≤ v.lhi ∧ v.lhi ≤ 8 by omega), out_of (show 0 ≤ v.hlo ∧ v.hlo ≤ 23 by omega), out_of (show 0 ≤ v.hhi ∧ v.hhi ≤ 23 by omega)]
 rw [decide_eq_false (show ¬ v.lhi < v.llo by omega), decide_eq_false (show ¬ v.hhi < v.hlo by omega)]
 cases i with
 | zero => rfl
 | succ k =>
  rw [if_neg (by decide), if_neg (by decide), if_neg]
  intro hc
  revert hc
  simp only [Bool.or_self, Bool.false_or]
  cases hk : e.visits[k]? with
  | none => exact Bool.false_ne_true
  | some w =>
   have := hr k w rfl hk
   simp only
   rw [decide_eq_false (show ¬ v.day < w.day by omega)]
   exact Bool.false_ne_true
theorem check_dL {d : Fu} (h : checkE d = 0) {k : Nat} {v : Vi} (hv : d.visits[k]? = some v) {lo hi : Int} (hl : 1 ≤ lo ∧ lo ≤ hi ∧ hi ≤ 8) : checkE (dL d k v lo hi) = 0 := by
 have ho := ok_of_check h
 obtain ⟨h0, h1, h2, h3, h4⟩ := checkE_parts h
 have g0 : headE (dL d k v lo hi) = 0 := h0
 have g1 : (partP (dL d k v lo hi) 1).2 = 0 := h1
 have g2 : (partP (dL d k v lo hi) 2).2 = 0 := h2
 have hlen : (dL d k v lo hi).visits.length = d.visits.length := List.length_set ..
 have g3 : (partP (dL d k v lo hi) 3).2 = 0 := by
  refine failP_good (lo := 0) (hi := 5) ?_ fun i hi2 => ?_
  ·rw [hlen]; exact out_of (by have := ho.visits; omega)
  ·unfold visE
   rw [List.getElem?_eq_getElem hi2]
   simp only
   obtain ⟨u, hu, a1, a2, a3, a4, a5, a6⟩ := dL_days hv i _ (List.getElem?_eq_getElem hi2)
   have huo := ho.visit u (List.mem_of_getElem? hu)
   refine viE_good ⟨by rw [a2]; exact huo.person, by rw [a3]; exact huo.kind, by rw [a1]; exact huo.day, ?_, by rw [a4, a5]; exact huo.hour⟩ fun j w hj hw => ?_
   ·rcases a6 with e | ⟨e1, e2⟩
    ·rw [e]; exact huo.line
    ·rw [e1, e2]; exact hl
   ·obtain ⟨u2, hu2, b1, _⟩ := dL_days hv j w hw
    rw [a1, b1]
    exact ho.rise j u2 u hu2 (by rw [← hj]; exact hu)
 have g4 : (partP (dL d k v lo hi) 4).2 = 0 := rfl
 unfold checkE
 rw [checkF_eq, if_neg (by omega), if_neg (by omega), if_neg (by omega), if_neg (by omega), if_neg (by omega)]
theorem check_more {d : Fu} (h : checkE d = 0) (he : d.entries = []) {x : Et} (hx : (0 ≤ x.visit ∧ x.visit < d.visits.length) ∧ 0 ≤ x.pence ∧ x.pence ≤ 999) : checkE (d.more x) = 0 := by
 obtain ⟨h0, h1, h2, h3, h4⟩ := checkE_parts h
 have g0 : headE (d.more x) = 0 := h0
 have g1 : (partP (d.more x) 1).2 = 0 := h1
 have g2 : (partP (d.more x) 2).2 = 0 := h2
 have g3 : (partP (d.more x) 3).2 = 0 := h3
 have ee : (d.more x).entries = [x] := by show d.entries ++ [x] = _; rw [he]; rfl
 have g4 : (partP (d.more x) 4).2 = 0 := by
  refine failP_good (lo := 0) (hi := 4) (by rw [ee]; show out 0 4 1 = false; decide) fun i hi => ?_
  rw [ee] at hi
  have hi0 : i = 0 := by simp at hi; omega
  subst hi0
  unfold entE
  rw [ee]
  show etE (d.more x) x = 0
  unfold etE
  rw [out_of (show 0 ≤ x.visit ∧ x.visit ≤ ((d.more x).visits.length : Int) - 1 by have : (d.more x).visits = d.visits := rfl; rw [this]; omega), out_of hx.2]
  rfl
 unfold checkE
 rw [checkF_eq, if_neg (by omega), if_neg (by omega), if_neg (by omega), if_neg (by omega), if_neg (by omega)]
theorem cost_mem {d : Fu} {k : Nat} {v : Vi} {lo hi l hour : Int} (hv : d.visits[k]? = some v) (hh : v.hlo ≤ v.hhi) (hl : lo ≤ l ∧ l ≤ hi) (hb : hour = v.hlo ∨ hour = v.hhi) (es : List Et) (ze : Nat)
  (hes : ∀ x ∈ es, x.visit = (k : Int) → x.pence = costN (dL d k v lo hi) (vL v lo hi) l (lateI (dL d k v lo hi) hour)) :
  costN (dL d k v lo hi) (vL v lo hi) l (lateI (dL d k v lo hi) hour) ∈ costs { dL d k v lo hi with entries := es, ze := ze } 0 k := by
 have hlate : lateI (dL d k v lo hi) hour = 0 ∨ lateI (dL d k v lo hi) hour = 1 := by unfold lateI; split <;> simp
 refine mem_costs.2 ⟨vL v lo hi, dL_get hv, (l - lo).toNat, lateI (dL d k v lo hi) hour, ?_, hlate, ?_, ?_, firstBad_zero fun i _ hi2 => ?_⟩
 ·show (l - lo).toNat < (hi + 1 - lo).toNat; omega
 ·have e1 : noHour { dL d k v lo hi with entries := es, ze := ze } (vL v lo hi) (lateI (dL d k v lo hi) hour) = (decide (lateI (dL d k v lo hi) hour = 0) && decide (d.frm ≤ v.hlo) || decide (lateI (dL d k v lo hi) hour = 1) && decide (v.hhi < d.frm)) := rfl
  have e2 : lateI (dL d k v lo hi) hour = if d.frm ≤ hour then 1 else 0 := rfl
  rw [e1, e2]
  by_cases hc : d.frm ≤ hour
  ·rw [if_pos hc]
   have : ¬ v.hhi < d.frm := by rcases hb with rfl | rfl <;> omega
   simp [this]
  ·rw [if_neg hc]
   have : ¬ d.frm ≤ v.hlo := by rcases hb with rfl | rfl <;> omega
   simp [this]
 ·have : (vL v lo hi).llo + (((l - lo).toNat : Nat) : Int) = l := by show lo + _ = l; omega
  rw [this]; rfl
 ·unfold noE
  have e : ({ dL d k v lo hi with entries := es, ze := ze } : Fu).entries = es := rfl
  rw [e]
  cases hx : es[i]? with
  | none => rfl
  | some x =>
   simp only
   unfold noEntry
   have hm := hes x (List.mem_of_getElem? hx)
   by_cases hxv : x.visit = (k : Int)
   ·have e3 : (x.pence != costN (dL d k v lo hi) (vL v lo hi) l (lateI (dL d k v lo hi) hour)) = false := by rw [hm hxv]; simp
    rw [e3]; simp
   ·have e3 : (x.visit == (k : Int)) = false := by simpa using hxv
    rw [e3]; simp
end
section
open Go.Proofs
theorem enterE_good {d : Fu} (h : checkE d = 0) (hs : someB d 0 = true) : enterE d 0 = 0 := by unfold enterE; rw [if_pos h, if_pos rfl, if_pos hs]
theorem idxE_good {n below e : Int} (h : 0 ≤ n ∧ n < below) : idxE n below e = 0 := by
 unfold idxE; rw [out_of (by omega)]; rfl
theorem fees_good {d : Fu} (h : checkE d = 0) (hs : someB d 0 = true) {k : Nat} (hk : k < d.visits.length) : feesP d (k : Int) = (costs d 0 k, 0) := by
 have hv : visitE d (k : Int) = 0 := by
  unfold visitE
  rw [idxE_good (by omega)]
  exact enterE_good h hs
 unfold feesP
 rw [if_pos hv]
 rfl
theorem fees_dL {d : Fu} (h : checkE d = 0) {k : Nat} {v : Vi} (hv : d.visits[k]? = some v) {lo hi : Int} (hl : 1 ≤ lo ∧ lo ≤ hi ∧ hi ≤ 8) : feesP (dL d k v lo hi) (k : Int) = (costs (dL d k v lo hi) 0 k, 0) := by
 have hc := check_dL h hv hl
 exact fees_good hc (some_free (ok_of_check hc) rfl) (by show k < (d.visits.set k _).length; rw [List.length_set]; exact (List.getElem?_eq_some_iff.1 hv).1)
section
variable {d : Fu} (h : checkE d = 0) {k : Nat} {v : Vi} (hv : d.visits[k]? = some v) {lo hi l hour : Int} (hl : 1 ≤ lo ∧ lo ≤ hi ∧ hi ≤ 8) (hll : lo ≤ l ∧ l ≤ hi) (hb : hour = v.hlo ∨ hour = v.hhi)
def cL (d : Fu) (k : Nat) (v : Vi) (lo hi l hour : Int) : Int := costN (dL d k v lo hi) (vL v lo hi) l (lateI (dL d k v lo hi) hour)
def toldL (d : Fu) (k : Nat) (v : Vi) (lo hi l hour : Int) : Fu := (dL d k v lo hi).more ⟨(k : Int), cL d k v lo hi l hour⟩
include h hv hl hll hb
theorem mem_dL : cL d k v lo hi l hour ∈ costs (dL d k v lo hi) 0 k := by
 have _hl := hl
 have hvo := (ok_of_check h).visit v (List.mem_of_getElem? hv)
 exact cost_mem hv hvo.hour.2.1 hll hb [] 0 (fun x hx => by cases hx)
theorem cL_bd : 0 ≤ cL d k v lo hi l hour ∧ cL d k v lo hi l hour ≤ 90 := costs_bd (ok_of_check (check_dL h hv hl)) (mem_dL h hv hl hll hb)
theorem check_told : checkE (toldL d k v lo hi l hour) = 0 := by
 have hb2 := cL_bd h hv hl hll hb
 have hk := (List.getElem?_eq_some_iff.1 hv).1
 refine check_more (check_dL h hv hl) rfl ⟨⟨by show (0 : Int) ≤ k; omega, ?_⟩, hb2.1, by show cL d k v lo hi l hour ≤ 999; omega⟩
 show (k : Int) < ((d.visits.set k _).length : Nat)
 rw [List.length_set]; omega
theorem mem_told : cL d k v lo hi l hour ∈ costs (toldL d k v lo hi l hour) 0 k := by
 have _hl := hl
 have hvo := (ok_of_check h).visit v (List.mem_of_getElem? hv)
 exact cost_mem hv hvo.hour.2.1 hll hb [⟨(k : Int), cL d k v lo hi l hour⟩] 2 (fun x hx hxv => by simp at hx; subst hx; rfl)
theorem some_told : someB (toldL d k v lo hi l hour) 0 = true := by
 have hc := check_told h hv hl hll hb
 have ho := ok_of_check hc
 refine some_of fun j hj => ?_
 by_cases e : j = k
 ·subst e
  intro he
  have := mem_told h hv hl hll hb
  rw [he] at this
  cases this
 ·refine costs_free ho hj fun n => firstBad_zero fun i _ hi2 => ?_
  have hi1 : i < 1 := by
   have e1 : (toldL d k v lo hi l hour).entries.length = 1 := rfl
   rw [e1] at hi2; omega
  have hi0 : i = 0 := by omega
  subst hi0
  unfold noE
  have ee : (toldL d k v lo hi l hour).entries[0]? = some ⟨(k : Int), cL d k v lo hi l hour⟩ := rfl
  rw [ee]
  simp only
  unfold noEntry
  have e3 : (((k : Int) == (j : Int)) : Bool) = false := by simp; omega
  simp only [e3, Bool.false_and, Bool.and_false, Bool.false_eq_true, if_false]
theorem wrong_told : wrongP (toldL d k v lo hi l hour) = ([], 0) := by
 have hc := check_told h hv hl hll hb
 obtain ⟨t, h1, _, _, h4⟩ := wrong_spec (ok_of_check hc)
 have h5 := few_len (h4 0 (some_told h hv hl hll hb))
 have e0 : bitsL 0 (toldL d k v lo hi l hour).entries.length = [] := by
  have e1 : (toldL d k v lo hi l hour).entries.length = 1 := rfl
  rw [e1]; decide
 rw [e0] at h5
 have h6 : bitsL t (toldL d k v lo hi l hour).entries.length = [] := List.eq_nil_of_length_eq_zero (by simpa using h5)
 unfold wrongP
 rw [if_pos hc, h1, h6]
theorem fees_told : feesP (toldL d k v lo hi l hour) (k : Int) = ([cL d k v lo hi l hour], 0) := by
 have hc := check_told h hv hl hll hb
 have hk := (List.getElem?_eq_some_iff.1 hv).1
 rw [fees_good hc (some_told h hv hl hll hb) (by show k < (d.visits.set k _).length; rw [List.length_set]; exact hk)]
 congr 1
 refine Asc.eq (sortD_asc _) (List.pairwise_singleton _ _) fun x => ⟨fun hx => ?_, fun hx => ?_⟩
 ·obtain ⟨_, _, _, _, _, _, _, _, hf⟩ := mem_costs.1 hx
  have := firstBad_none hf 0 (Nat.zero_le _) (by show 0 < 0 + 1; omega)
  unfold noE at this
  have ee : (toldL d k v lo hi l hour).entries[0]? = some ⟨(k : Int), cL d k v lo hi l hour⟩ := rfl
  rw [ee] at this
  simp only at this
  unfold noEntry at this
  by_cases e : cL d k v lo hi l hour = x
  ·simp [e]
  ·have e2 : (cL d k v lo hi l hour != x) = true := by simpa using e
   have e4 : ((k : Int) == (k : Int)) = true := by simp
   simp only [e2, e4, Nat.zero_testBit, Bool.not_false, Bool.and_self, if_true] at this
   cases this
 ·simp at hx; subst hx; exact mem_told h hv hl hll hb
end
end
section
open Go.Proofs
theorem dL_fits {d : Fu} (hd : d.fits) (k : Nat) (v : Vi) (lo hi : Int) : (dL d k v lo hi).fits :=
 ⟨hd.zl, hd.zp, fun h => hd.zv (fun e => h (by show d.visits.set k _ = []; rw [e]; rfl)), fun h => absurd rfl h, hd.ll, hd.lp, by show (d.visits.set k _).length < _; rw [List.length_set]; exact hd.lv, by show 0 < _; decide, hd.np⟩
theorem told_fits {d : Fu} (hd : d.fits) (k : Nat) (v : Vi) (lo hi l hour : Int) : (toldL d k v lo hi l hour).fits := fits_more (dL_fits hd k v lo hi) _ (by show 0 < _; decide)
def eFw (d : Fu) (zv : Nat) (vs : List AV) (ze : Nat) (es : List AV) : AV := .agg [.int .i64 d.pence, .int .i64 d.days, .int .i64 d.opn, .int .i64 d.late, .int .i64 d.frm, .lst 0 d.zl (I d.lines), .lst 0 d.zp (d.people.map ePe), .lst 0 zv vs, .lst 0 ze es]
structure GiftCalls (d : Fu) (k : Nat) (v : Vi) (lo hi l : Int) (W : List AV) (early late : Int) (fees : List Int) : Prop where
 cost1 : ∀ h, callPure (EW tabX) 44 [eFw d 8 W 0 [], eVi (vL v lo hi), .int .i64 l, .int .i64 v.hlo] h = some (.int .i64 early, h)
 cost2 : ∀ h, callPure (EW tabX) 44 [eFw d 8 W 0 [], eVi (vL v lo hi), .int .i64 l, .int .i64 v.hhi] h = some (.int .i64 late, h)
 wrong : ∀ h, callPure (EW tabX) 23 [eFw d 8 W 2 [.agg [.int .i64 (k : Int), .int .i64 early]]] h = some (.tup [.lst 0 0 [], .int .i64 0], h)
 own : ∀ h, callPure (EW tabX) 34 [eFw d 8 W 2 [.agg [.int .i64 (k : Int), .int .i64 early]], .int .i64 (k : Int)] h = some (.tup [.lst 0 1 [.int .i64 early], .int .i64 0], h)
 has1 : ∀ h, callPure (EW tabX) 35 [.lst 0 1 (I fees), .int .i64 early] h = some (.bool true, h)
 has2 : ∀ h, callPure (EW tabX) 35 [.lst 0 1 (I fees), .int .i64 late] h = some (.bool true, h)
 ints : ∀ h, callPure (EW tabX) 22 [.lst 0 1 [.int .i64 early], .lst 0 1 [.int .i64 early]] h = some (.bool true, h)
theorem gift_calls {d : Fu} (hd : d.fits) (hc : checkE d = 0) {k : Nat} {v : Vi} (hv : d.visits[k]? = some v) {lo hi : Int} (hl : 1 ≤ lo ∧ lo ≤ hi ∧ hi ≤ 8) :
  ∃ fees, (∀ h, callPure (EW tabX) 34 [eFw d 8 ((d.visits.set k (vL v lo hi)).map eVi) 0 [], .int .i64 (k : Int)] h = some (.tup [.lst 0 1 (I fees), .int .i64 0], h)) ∧
   ∀ l, lo ≤ l ∧ l ≤ hi → ∃ early late, GiftCalls d k v lo hi l ((d.visits.set k (vL v lo hi)).map eVi) early late fees := by
 have hk := (List.getElem?_eq_some_iff.1 hv).1
 have zv := hd.zv (by intro e; rw [e] at hk; simp at hk)
 have hD := dL_fits hd k v lo hi
 have hcD := check_dL hc hv hl
 have hoD := ok_of_check hcD
 have hkD : k < (dL d k v lo hi).visits.length := by show k < (d.visits.set k _).length; rw [List.length_set]; exact hk
 have eD : eF (dL d k v lo hi) = eFw d 8 ((d.visits.set k (vL v lo hi)).map eVi) 0 [] := by rw [eF_eq]; show _ = AV.agg _; rw [← zv]; rfl
 have hne : costs (dL d k v lo hi) 0 k ≠ [] := by
  intro e
  have := mem_dL hc hv hl ⟨Int.le_refl lo, hl.2.1⟩ (.inl rfl)
  rw [e] at this; cases this
 have hlen := costs_len hoD (but := 0) hkD
 refine ⟨costs (dL d k v lo hi) 0 k, fun h => ?_, fun l hll => ⟨cL d k v lo hi l v.hlo, cL d k v lo hi l v.hhi, ?_⟩⟩
 ·have := c11 (dL d k v lo hi) hD (k : Int) h
  rw [fees_dL hc hv hl, eD, vP, vI, zT_pos (List.length_pos_iff.2 hne)] at this
  exact this
 ·have hvo := hoD.visit (vL v lo hi) (List.mem_of_getElem? (dL_get hv))
  have eT : eF (toldL d k v lo hi l v.hlo) = eFw d 8 ((d.visits.set k (vL v lo hi)).map eVi) 2 [.agg [.int .i64 (k : Int), .int .i64 (cL d k v lo hi l v.hlo)]] := by rw [eF_eq]; show _ = AV.agg _; rw [← zv]; rfl
  have mem_any : ∀ n, n ∈ costs (dL d k v lo hi) 0 k → (costs (dL d k v lo hi) 0 k).any (fun x => x == n) = true := fun n hn => List.any_eq_true.2 ⟨n, hn, by simp⟩
  refine ⟨fun h => ?_, fun h => ?_, fun h => ?_, fun h => ?_, fun h => ?_, fun h => ?_, fun h => ?_⟩
  ·have := c78 (dL d k v lo hi) hD hoD (vL v lo hi) hvo l v.hlo ⟨by omega, by omega⟩ h
   rw [eD] at this
   exact this
  ·have := c78 (dL d k v lo hi) hD hoD (vL v lo hi) hvo l v.hhi ⟨by omega, by omega⟩ h
   rw [eD] at this
   exact this
  ·have := c18 (toldL d k v lo hi l v.hlo) (told_fits hd k v lo hi l v.hlo) h
   rw [wrong_told hc hv hl hll (.inl rfl), eT] at this
   exact this
  ·have := c11 (toldL d k v lo hi l v.hlo) (told_fits hd k v lo hi l v.hlo) (k : Int) h
   rw [fees_told hc hv hl hll (.inl rfl), eT] at this
   exact this
  ·have := c28 (costs (dL d k v lo hi) 0 k) (cL d k v lo hi l v.hlo) 1 (fun _ => rfl) (by omega) h
   rw [this, mem_any _ (mem_dL hc hv hl hll (.inl rfl))]
  ·have := c28 (costs (dL d k v lo hi) 0 k) (cL d k v lo hi l v.hhi) 1 (fun _ => rfl) (by omega) h
   rw [this, mem_any _ (mem_dL hc hv hl hll (.inr rfl))]
  ·have := c13 [cL d k v lo hi l v.hlo] [cL d k v lo hi l v.hlo] 1 1 (fun _ => rfl) (fun _ => rfl) (by show 1 < _; decide) (by show 1 < _; decide) h
   simpa only [I_c, I_nil, decide_true] using this
end
section
open Go.Proofs
theorem mkAt_le3 {l : List Pt} {fills : List (List ByteArray)} (hl : ∀ p ∈ l, p.words.length ≤ 3) (hf : ∀ w ∈ fills, w.length ≤ 3) : ∀ k, (mkAt l fills k).2.length ≤ 3 * k
 | 0 => by simp [mkAt]
 | k + 1 => by
  have ih := mkAt_le3 hl hf k
  have hg : ∀ m, (fills.getD m []).length ≤ 3 := fun m => by
   rw [List.getD_eq_getElem?_getD]
   cases h : fills[m]? with
   | none => simp
   | some w => exact hf w (List.mem_of_getElem? h)
  simp only [mkAt]
  cases hx : l[k]? with
  | none => simp only; omega
  | some p =>
   have hp := hl p (List.mem_of_getElem? hx)
   simp only
   cases h0 : (p.words.length == 0) with
   | true =>
    have h00 : p.words.length = 0 := by simpa using h0
    have := hg (mkAt l fills k).1
    simp only [if_true, List.length_append]; omega
   | false => simp; omega
theorem mkAt_ok {l : List Pt} {fills : List (List ByteArray)} (hl : ∀ p ∈ l, ∀ s ∈ p.words, wordOk s = true) (hf : ∀ w ∈ fills, ∀ s ∈ w, wordOk s = true) : ∀ k, ∀ s ∈ (mkAt l fills k).2, wordOk s = true
 | 0, s, h => by simp [mkAt] at h
 | k + 1, s, h => by
  have ih := mkAt_ok hl hf k
  have hg : ∀ m, ∀ s ∈ fills.getD m [], wordOk s = true := fun m s hs => by
   rw [List.getD_eq_getElem?_getD] at hs
   cases h : fills[m]? with
   | none => rw [h] at hs; simp at hs
   | some w => rw [h] at hs; exact hf w (List.mem_of_getElem? h) s hs
  simp only [mkAt] at h
  cases hx : l[k]? with
  | none => rw [hx] at h; exact ih s h
  | some p =>
   have hp := hl p (List.mem_of_getElem? hx)
   rw [hx] at h
   simp only at h
   cases h0 : (p.words.length == 0) with
   | true =>
    rw [h0] at h
    simp only [if_true, List.mem_append] at h
    rcases h with (h | h) | h
    ·exact ih s h
    ·exact hg _ s h
    ·exact hp s h
   | false =>
    rw [h0] at h
    simp only [Bool.false_eq_true, if_false, List.mem_append] at h
    rcases h with h | h
    ·exact ih s h
    ·exact hp s h
theorem said_ok : ∀ s ∈ saidL, wordOk s = true := List.all_eq_true.1 (by decide)
theorem anyW_ok (x : List UInt8) (n : Nat) : ∀ k, ∀ s ∈ anyW x n k, wordOk s = true
 | 0, s, h => by simp [anyW] at h
 | k + 1, s, h => by
  simp only [anyW, List.mem_append, List.mem_singleton] at h
  rcases h with h | rfl
  ·exact anyW_ok x n k s h
  ·have hlt : turnB x (n + k) % 8 < saidL.length := Nat.mod_lt _ (by decide)
   rw [List.getD_eq_getElem?_getD, List.getElem?_eq_getElem hlt]
   exact said_ok _ (List.getElem_mem hlt)
theorem anyAt_get {x : List UInt8} {rl : List (Int × Int)} (hr : ∀ r ∈ rl, RoomOk r) : ∀ k, k ≤ rl.length → ∀ (i : Nat) (w : List ByteArray), (anyAt x rl k).2[i]? = some w → ∃ n r, rl[i]? = some r ∧ w.length = manyR x n r ∧ ∀ s ∈ w, wordOk s = true
 | 0, _, i, w, h => by simp [anyAt] at h
 | k + 1, hk, i, w, h => by
  have hlen := (anyAt_le (x := x) hr k (by omega)).2
  have hg : rl.getD k (0, 0) = rl[k] := by rw [List.getD_eq_getElem?_getD, List.getElem?_eq_getElem (by omega)]; rfl
  simp only [anyAt, hg] at h
  rw [List.getElem?_append] at h
  split at h
  ·exact anyAt_get hr k (by omega) i w h
  ·rename_i hi
   have hik : i = k := by
    have : i - (anyAt x rl k).2.length = 0 := by
     cases hd : i - (anyAt x rl k).2.length with
     | zero => rfl
     | succ j => rw [hd] at h; simp at h
    omega
   subst hik
   rw [hlen, Nat.sub_self] at h
   cases h
   exact ⟨(anyAt x rl i).1, rl[i], List.getElem?_eq_getElem (by omega), anyW_len _ _ _, anyW_ok _ _ _⟩
theorem any_fills {x : List UInt8} {rl : List (Int × Int)} (hr : ∀ r ∈ rl, RoomOk r) : FillsOk rl (anyL x rl) := by
 have hg := anyAt_get (x := x) hr rl.length (Nat.le_refl _)
 refine ⟨(anyAt_le hr _ (Nat.le_refl _)).2, fun i r w h1 h2 => ?_, fun w hw s hs => ?_, fun w hw => ?_⟩
 ·obtain ⟨n, r2, h3, h4, _⟩ := hg i w h2
  rw [h1] at h3
  cases h3
  have := manyR_in (x := x) (n := n) (hr r (List.mem_of_getElem? h1))
  unfold out
  rw [h4, decide_eq_false (by omega), decide_eq_false (by omega)]
  rfl
 ·obtain ⟨i, hi, e⟩ := List.mem_iff_getElem.1 hw
  obtain ⟨_, _, _, _, h5⟩ := hg i w (by rw [← e]; exact List.getElem?_eq_getElem hi)
  exact h5 s hs
 ·obtain ⟨i, hi, e⟩ := List.mem_iff_getElem.1 hw
  obtain ⟨n, r, h3, h4, _⟩ := hg i w (by rw [← e]; exact List.getElem?_eq_getElem hi)
  have := (manyR_in (x := x) (n := n) (hr r (List.mem_of_getElem? h3))).2.2
  omega
def anyM (f : Fm) (x : List UInt8) : List ByteArray := makeL f.parts (anyL x (roomsL f.parts))
structure LetterOk (l : List ByteArray) : Prop where
 len : l.length ≤ 15
 ok : ∀ s ∈ l, wordOk s = true
theorem anyM_ok {s : Sh} (ho : s.Ok) {f : Fm} (hf : f ∈ s.forms) (hr : ∀ r ∈ roomsL f.parts, RoomOk r) (x : List UInt8) : LetterOk (anyM f x) := by
 have hF := any_fills (x := x) hr
 have h1 := mkAt_le3 (fun p hp => (ho.part f hf p hp).len) hF.short f.parts.length
 have h2 := ho.parts f hf
 exact ⟨by unfold anyM makeL; omega, mkAt_ok (fun p hp => (ho.part f hf p hp).ok) hF.ok _⟩
theorem text_bd {s : Sh} (ho : s.Ok) {l : List ByteArray} (h : LetterOk l) : (⟨(textL s.width l).toArray⟩ : ByteArray).size ≤ 100000 := by
 have hw := ho.width
 have := (tAt_bd (width := s.width) (by omega) (l := l) (fun t ht => by have := wordOk_size (h.ok t ht); omega) l.length).2.2
 have := h.len
 show (textL s.width l).toArray.size ≤ 100000
 rw [List.size_toArray]
 unfold textL
 split
 ·simp; omega
 ·simp
theorem rooms_ok {s : Sh} (ho : s.Ok) {f : Fm} (hf : f ∈ s.forms) : ∀ r ∈ roomsL f.parts, RoomOk r := fun r hr => by
 unfold roomsL at hr
 obtain ⟨p, hp, rfl⟩ := List.mem_map.1 hr
 have := List.mem_filter.1 hp
 exact ((ho.part f hf p this.1).room (by simpa using this.2)).1
end
section
open Go.Proofs
def ana : ByteArray := ⟨#[97, 110, 97]⟩
def rosa : ByteArray := ⟨#[114, 111, 115, 97]⟩
def luz : ByteArray := ⟨#[108, 117, 122]⟩
def fX (p : Int) (es : List Et) (z : Nat) : Fu := ⟨p, 3, 2, 3, 18, [1, 2], [⟨ana, 1⟩, ⟨rosa, 2⟩, ⟨luz, 0⟩],
 [⟨0, 0, 0, 4, 6, 10, 10, true⟩, ⟨1, 1, 1, 3, 4, 17, 18, true⟩, ⟨2, 1, 0, 1, 1, 9, 9, true⟩, ⟨0, 2, 1, 5, 5, 20, 20, false⟩], es, 1, 2, 8, z⟩
def dA : Fu := fX 30 [] 0
def dB : Fu := fX 30 [⟨1, 9⟩, ⟨3, 15⟩] 2
def dC : Fu := fX 30 [⟨3, 15⟩] 2
def dD : Fu := fX 100 [⟨3, 15⟩] 2
theorem chkA : checkE dA = 0 := by kernel_rfl
theorem chkB : checkE dB = 0 := by kernel_rfl
theorem chkC : checkE dC = 0 := by kernel_rfl
theorem chkD : checkE dD = 0 := by kernel_rfl
theorem hA (k : Nat) : costs dA 0 k = refCosts dA [] k := (costs_ref (ok_of_check chkA) (same_nil _) k).symm
theorem hC (k : Nat) : costs dC 0 k = refCosts dC [] k := (costs_ref (ok_of_check chkC) (same_nil _) k).symm
theorem hD (k : Nat) : costs dD 0 k = refCosts dD [] k := (costs_ref (ok_of_check chkD) (same_nil _) k).symm
theorem smA : someB dA 0 = true := by rw [← someR_nil (ok_of_check chkA)]; kernel_rfl
theorem smB : someB dB 0 = false := by rw [← someR_nil (ok_of_check chkB)]; kernel_rfl
theorem smC : someB dC 0 = true := by rw [← someR_nil (ok_of_check chkC)]; kernel_rfl
theorem smD : someB dD 0 = true := by rw [← someR_nil (ok_of_check chkD)]; kernel_rfl
theorem fees_at {d : Fu} {n : Int} (hc : checkE d = 0) (hi : idxE n d.visits.length 4 = 0) (hs : someB d 0 = true) : feesP d n = (refCosts d [] n.toNat, 0) := by
 unfold feesP; rw [if_pos (visitE_eq hc hi hs), costs_ref (ok_of_check hc) (same_nil _)]
theorem pays_at {d : Fu} {n : Int} (hc : checkE d = 0) (hi : idxE n d.visits.length 4 = 0) (hs : someB d 0 = true) : paysP d n = (payOf d (n.toNat + 1), 0) := by
 unfold paysP; rw [if_pos (visitE_eq hc hi hs)]; rfl
theorem e11 : feesP dA 1 = ([8, 10, 11, 13], 0) := by rw [fees_at chkA (by kernel_rfl) smA]; kernel_rfl
theorem e16 : leftP dA 1 = ((9, 24), 0) := by rw [left_C (ok_of_check chkA) smA hA 1 (dayE_eq chkA (by kernel_rfl) smA)]; kernel_rfl
theorem e16b : leftP dC 2 = ((0, 14), 0) := by rw [left_C (ok_of_check chkC) smC hC 2 (dayE_eq chkC (by kernel_rfl) smC)]; kernel_rfl
theorem e17 : paysP dA 0 = (1, 0) := by rw [pays_at chkA (by kernel_rfl) smA, pay_C hA]; kernel_rfl
theorem e17b : paysP dA 3 = (0, 0) := by rw [pays_at chkA (by kernel_rfl) smA, pay_C hA]; kernel_rfl
theorem e17c : paysP dA 2 = (2, 0) := by rw [pays_at chkA (by kernel_rfl) smA, pay_C hA]; kernel_rfl
theorem e22 : endsP dA = (2, 0) := by unfold endsP; rw [if_pos (enter_eq chkA smA), ends_C hA]; kernel_rfl
theorem e22b : endsP dB = (0, 8) := by
 have : enterE dB 0 = 8 := by unfold enterE; rw [if_pos chkB, if_pos rfl, smB]; rfl
 unfold endsP; rw [this]; rfl
theorem e22c : endsP dD = (0, 9) := by unfold endsP; rw [if_pos (enter_eq chkD smD), ends_C hD]; kernel_rfl
theorem e20 : needP dA = (6, 0) := by unfold needP; rw [if_pos (enter_eq chkA smA), ← mostR_zero, most_C hA]; kernel_rfl
theorem e29 : refuseP dA = ([0], 0) := by
 unfold refuseP
 rw [if_pos (enter_eq chkA smA), bestW_congr (Q := fun w => decide (mostRC dA (refCosts dA []) w dA.visits.length ≤ dA.pence)) fun s => by
  rw [Bool.eq_iff_iff, decide_eq_true_eq, decide_eq_true_eq, ends_iff (ok_of_check chkA) smA, most_C hA]]
 kernel_rfl
theorem e18 : wrongP dB = ([0], 0) := by
 unfold wrongP
 rw [if_pos chkB, bestW_congr (Q := fun w => someR dB (bitsL w dB.entries.length) dB.visits.length) fun s => (someR_eq (ok_of_check chkB) (same_bits _ _)).symm]
 kernel_rfl
end
section
open Go.Proofs
theorem c19 (a b : Int) (h : Heap) : callPure (EW tabX) 28 [.int .i64 a, .int .i64 b] h = some (eSp (a, b), h) := by
 rw [callPure_eq, w_call _ fn_28 rfl]
 simp only [go_sem, ↓reduceIte, simprocAttr, eSp]
theorem c56 (a b : Int) (h : Heap) : callPure (EW tabX) 56 [.int .i64 a, .int .i64 b] h = some (eEt ⟨a, b⟩, h) := by
 rw [callPure_eq, w_call _ fn_56 rfl]
 simp only [go_sem, ↓reduceIte, simprocAttr, eEt]
theorem c15 (es : List Et) (z : Nat) (h : Heap) : callPure (EW tabX) 55 [.lst 0 z (es.map eEt)] h = some (eF (fX 30 es z), h) := by
 rw [callPure_eq, w_call _ fn_55 rfl]
 simp only [go_sem, ↓reduceIte, simprocAttr, c19, eSp, eF, eFc, fX, List.map_cons, List.map_nil, ePe, eVi, I_c, I_nil, ana, rosa, luz]
 skip
end
section
open Go.Proofs
theorem fits_X (p : Int) (es : List Et) (z : Nat) (hz : es ≠ [] → z = 2) (hl : es.length < 1000000000000000000) : (fX p es z).fits :=
 ⟨fun _ => rfl, fun _ => rfl, fun _ => rfl, hz, by simp [fX], by simp [fX], by simp [fX], hl, by intro c hc; simp only [fX, List.mem_cons, List.mem_nil_iff, or_false] at hc; rcases hc with rfl | rfl | rfl <;> decide⟩
theorem fitA : dA.fits := fits_X _ _ _ (fun h => absurd rfl h) (by decide)
theorem fitB : dB.fits := fits_X _ _ _ (fun _ => rfl) (by decide)
theorem fitC : dC.fits := fits_X _ _ _ (fun _ => rfl) (by decide)
theorem fitD : dD.fits := fits_X _ _ _ (fun _ => rfl) (by decide)
theorem k11 (h : Heap) : callPure (EW tabX) 34 [eF dA, .int .i64 1] h = some (vP ([8, 10, 11, 13], 0), h) := by rw [c11 _ fitA, e11]
theorem k16 (h : Heap) : callPure (EW tabX) 11 [eF dA, .int .i64 1] h = some (vT ((9, 24), 0), h) := by rw [c16 _ fitA, e16]
theorem k16b (h : Heap) : callPure (EW tabX) 11 [eF dC, .int .i64 2] h = some (vT ((0, 14), 0), h) := by rw [c16 _ fitC, e16b]
theorem k17 (h : Heap) : callPure (EW tabX) 13 [eF dA, .int .i64 0] h = some (vQ (1, 0), h) := by rw [c17 _ fitA, e17]
theorem k17b (h : Heap) : callPure (EW tabX) 13 [eF dA, .int .i64 3] h = some (vQ (0, 0), h) := by rw [c17 _ fitA, e17b]
theorem k17c (h : Heap) : callPure (EW tabX) 13 [eF dA, .int .i64 2] h = some (vQ (2, 0), h) := by rw [c17 _ fitA, e17c]
theorem k22 (h : Heap) : callPure (EW tabX) 16 [eF dA] h = some (vQ (2, 0), h) := by rw [c22 _ fitA, e22]
theorem k22b (h : Heap) : callPure (EW tabX) 16 [eF dB] h = some (vQ (0, 8), h) := by rw [c22 _ fitB, e22b]
theorem k22c (h : Heap) : callPure (EW tabX) 16 [eF dD] h = some (vQ (0, 9), h) := by rw [c22 _ fitD, e22c]
theorem k20 (h : Heap) : callPure (EW tabX) 18 [eF dA] h = some (vQ (6, 0), h) := by rw [c20 _ fitA, e20]
theorem k29 (h : Heap) : callPure (EW tabX) 20 [eF dA] h = some (vP ([0], 0), h) := by rw [c29 _ fitA, e29]
theorem k18 (h : Heap) : callPure (EW tabX) 23 [eF dB] h = some (vP ([0], 0), h) := by rw [c18 _ fitB, e18]
set_option maxRecDepth 100000 in
set_option maxHeartbeats 1000000 in
theorem c14 (h : Heap) : callPure (EW tabX) 15 [] h = some (.bool true, h) := by
 have i1 := c15 [] 0
 have i2 := c15 [⟨1, 9⟩, ⟨3, 15⟩] 2
 have i3 := c15 [⟨3, 15⟩] 2
 have q1 := k11
 have q2 := k16
 have q3 := k16b
 have q4 := k17
 have q5 := k17b
 have q6 := k17c
 have q7 := k22
 have q8 := k22b
 have q9 := k22c
 have q10 := k20
 have q11 := k29
 have q12 := k18
 have e1 := c13 [8, 10, 11, 13] [8, 10, 11, 13] 1 1 (fun _ => rfl) (fun _ => rfl) (by decide) (by decide)
 have e2 := c13 [0] [0] 1 1 (fun _ => rfl) (fun _ => rfl) (by decide) (by decide)
 have eX : ∀ (p : Int) (es : List Et) (z : Nat), eF (fX p es z) = .agg [.int .i64 p, .int .i64 3, .int .i64 2, .int .i64 3, .int .i64 18, .lst 0 1 (I [1, 2]), .lst 0 2 ((fX 0 [] 0).people.map ePe), .lst 0 8 ((fX 0 [] 0).visits.map eVi), .lst 0 z (es.map eEt)] := fun _ _ _ => rfl
 rw [callPure_eq, w_call _ fn_15 rfl]
 simp only [dA, dB, dC, dD, eX, vP, vI, vT, vQ, eSp, List.map_cons, List.map_nil, eEt, I_c, I_nil, decide_true] at *
 generalize (fX 0 [] 0).people = pe at *
 generalize (fX 0 [] 0).visits = vs at *
 simp only [go_sem, ↓reduceIte, simprocAttr, zipFrom_nil, List.append_eq, i1, i2, i3, q1, q2, q3, q4, q5, q6, q7, q8, q9, q10, q11, q12, e1, e2, c19, c56, eSp, eEt, I_c, I_nil, aggBin, decide_true]
 skip
end
section
open Go.Proofs
def vic (v : Vi) : List AV := [.int .i64 v.person, .int .i64 v.day, .int .i64 v.kind, .int .i64 v.llo, .int .i64 v.lhi, .int .i64 v.hlo, .int .i64 v.hhi, .bool v.sure]
def vcs : List Vi → List AV
 | [] => []
 | v :: l => vic v ++ vcs l
theorem vcs_cells : ∀ l : List Vi, (l.map eVi).flatMap AV.cells = vcs l
 | [] => rfl
 | v :: l => by
  show (eVi v).cells ++ (l.map eVi).flatMap AV.cells = vic v ++ vcs l
  rw [vcs_cells l]; rfl
theorem vic_len (v : Vi) : (vic v).length = 8 := rfl
theorem vcs_len : ∀ l : List Vi, (vcs l).length = l.length * 8
 | [] => rfl
 | v :: l => by
  show (vic v ++ vcs l).length = _
  rw [List.length_append, vcs_len l, vic_len, List.length_cons]; omega
theorem vcs_drop : ∀ (l : List Vi) (k : Nat) (v : Vi), l[k]? = some v → (vcs l).drop (k * 8) = vic v ++ vcs (l.drop (k + 1))
 | [], k, v, h => by simp at h
 | x :: l, 0, v, h => by
  simp at h; subst h
  rfl
 | x :: l, k + 1, v, h => by
  have ih := vcs_drop l k v (by simpa using h)
  have e : (k + 1) * 8 = (vic x).length + k * 8 := by rw [vic_len]; omega
  show (vic x ++ vcs l).drop ((k + 1) * 8) = _
  rw [e, List.drop_append, List.drop_eq_nil_of_le (by omega), List.nil_append, Nat.add_sub_cancel_left, ih]
  rfl
theorem vcs_get {l : List Vi} {k : Nat} {v : Vi} (h : l[k]? = some v) : ((vcs l).drop (k * 8)).take 8 = vic v := by
 rw [vcs_drop l k v h]
 exact List.take_left' (vic_len v)
theorem splice_app (pre new old post : List AV) (h : old.length = new.length) : splice (pre ++ old ++ post) pre.length new = pre ++ new ++ post := by
 induction new generalizing pre old with
 | nil =>
  have : old = [] := List.eq_nil_of_length_eq_zero (by simpa using h)
  subst this; rfl
 | cons v new ih =>
  cases old with
  | nil => simp at h
  | cons o old =>
   have e : (pre ++ o :: old ++ post).set pre.length v = (pre ++ [v]) ++ old ++ post := by simp
   show splice ((pre ++ o :: old ++ post).set pre.length v) (pre.length + 1) new = _
   have el : pre.length + 1 = (pre ++ [v]).length := by simp
   rw [e, el, ih (pre ++ [v]) old (by simpa using h)]
   simp
theorem vcs_app : ∀ a b : List Vi, vcs (a ++ b) = vcs a ++ vcs b
 | [], b => rfl
 | v :: a, b => by
  show vic v ++ vcs (a ++ b) = (vic v ++ vcs a) ++ vcs b
  rw [vcs_app a b, List.append_assoc]
theorem vcs_set {l : List Vi} {k : Nat} (hk : k < l.length) (v : Vi) : splice (vcs l) (k * 8) (vic v) = vcs (l.set k v) := by
 have e1 : l = l.take k ++ l[k] :: l.drop (k + 1) := by rw [← List.drop_eq_getElem_cons hk, List.take_append_drop]
 have hl : (vcs (l.take k)).length = k * 8 := by rw [vcs_len, List.length_take, Nat.min_eq_left (by omega)]
 have e2 : l.set k v = l.take k ++ v :: l.drop (k + 1) := by
  rw [List.set_eq_take_append_cons_drop, if_pos hk]
 have e3 : vcs l = vcs (l.take k) ++ vic l[k] ++ vcs (l.drop (k + 1)) := by
  conv => lhs; rw [e1]
  rw [vcs_app, List.append_assoc]; rfl
 rw [e2, vcs_app, e3, ← hl, splice_app _ _ _ _ (by rw [vic_len, vic_len]), List.append_assoc]
 rfl
theorem vcs_rows : ∀ (l : List Vi) (pre : List AV), rowsOf 8 (pre ++ vcs l) pre.length l.length = some (l.map eVi)
 | [], _ => rfl
 | v :: l, pre => by
  have ih := vcs_rows l (pre ++ vic v)
  have e2 : (pre ++ vic v).length = pre.length + 8 := by rw [List.length_append, vic_len]
  rw [e2, List.append_assoc] at ih
  have e : pre ++ vcs (v :: l) = pre ++ (vic v ++ vcs l) := rfl
  have e3 : rowAt 8 (pre ++ (vic v ++ vcs l)) pre.length = some (eVi v) := by
   unfold rowAt
   rw [if_neg (by decide), if_pos (by rw [List.length_append, List.length_append, vic_len]; omega), List.drop_left]
   rfl
  show rowsOf 8 (pre ++ vcs (v :: l)) pre.length (l.length + 1) = _
  unfold rowsOf
  rw [e, e3, ih]; rfl
theorem vcs_rows0 {l : List Vi} {n : Nat} (h : l.length = n) : rowsOf 8 (vcs l) 0 n = some (l.map eVi) := by subst h; exact vcs_rows l []
end
section
open Go.Proofs
theorem checkL_zero {s : Sh} (h : (checkL s).2.2 = 0) : checkL s = (0, 0, 0) := by
 unfold checkL at h ⊢
 split at h
 ·cases h
 ·rename_i h1
  rw [if_neg h1]
  split at h
  ·cases h
  ·rename_i h2
   rw [if_neg h2]
   cases h3 : firstBad (formE s) 0 s.forms.length with
   | none => rfl
   | some k =>
    rw [h3] at h
    obtain ⟨_, _, h4, _⟩ := firstBad_some h3
    exact absurd h h4
theorem pure_any {E : Eng} {f : Nat} {az : List AV} {u : AV} {h0 : Heap} (hp : callPure E f az h0 = some (u, h0)) (h : Heap) : callPure E f az h = some (u, h) := by
 rw [callPure_eq] at hp ⊢
 cases hc : E.call f az ⟨[], []⟩ with
 | none => rw [hc] at hp; cases hp
 | some r =>
  rw [hc] at hp
  have hp : (settle r.2 r.1).map (fun u => (u, h0)) = some (u, h0) := hp
  show (settle r.2 r.1).map (fun u => (u, h)) = some (u, h)
  cases hs : settle r.2 r.1 with
  | none => rw [hs] at hp; cases hp
  | some v => rw [hs] at hp; cases hp; rfl
theorem one_letter {s : Sh} (hs : s.fits) (ho : s.Ok) {n : Nat} {f : Fm} (hn : s.forms[n]? = some f) (x : List UInt8) (zx : Nat) (hzx : x ≠ [] → zx = 1) (hlx : x.length < 1000000000000000000) :
  ∃ xs z z', cleanL xs = some xs ∧ (∀ n, underL n xs = true) ∧ (∀ h, callPure (EW tabX) 41 [eFm f, .lst 0 zx (uB x)] h = some (.lst 0 z xs, h)) ∧ (∀ h, callPure (EW tabX) 40 [eSh s, .int .i64 n, .lst 0 z xs] h = some (.tup [.lst 0 z' (S (anyM f x)), .int .i64 0], h)) ∧
   (∀ h, callPure (EW tabX) 42 [eSh s, .lst 0 z' (S (anyM f x))] h = some (.tup [.str ⟨(textL s.width (anyM f x)).toArray⟩, .int .i64 0], h)) ∧
   (∀ h, callPure (EW tabX) 43 [.str ⟨(textL s.width (anyM f x)).toArray⟩, .int .u8 10] h = some (vS (splitB ⟨(textL s.width (anyM f x)).toArray⟩ 10), h)) := by
 have hmem := List.mem_of_getElem? hn
 have hro := rooms_ok ho hmem
 obtain ⟨xs, z, a1, a2, a3, a4⟩ := z41 f (hs.ff f hmem) (ho.parts f hmem) x zx hzx hlx hro ⟨[], []⟩
 obtain ⟨z', b1, b2⟩ := z40 s hs ho n f hn xs z (anyL x (roomsL f.parts)) a1 a2 a3 (any_fills hro) ⟨[], []⟩
 have hok := anyM_ok ho hmem hro x
 exact ⟨xs, z, z', a2, fun n => a1.under n, pure_any a4, pure_any b2, fun h => z42 s hs ho _ z' b1 hok.len hok.ok h, fun h => z43 _ (text_bd ho hok) 10 h⟩
theorem split_len (s : ByteArray) (c : Nat) : 1 ≤ (splitB s c).length ∧ (splitB s c).length ≤ s.size + 1 := by
 have := (spAt_le s c s.size).2
 unfold splitB
 simp; omega
set_option maxHeartbeats 4000000 in
theorem t10 (s : Sh) (hs : s.fits) (d : Fu) (hd : d.fits) (x : Ln) (hx : x.fits) : ∃ h', (EW tabX).call 10 [eSh s, eF d, eLn x] noHeap = some (.bool true, h') := by
 have h37 := z37 s hs
 have h38 := c10 d hd
 have h39 := z39
 have h15 := c14
 have hce : (checkF d).2.2 = checkE d := rfl
 rw [noHeap, w_call0 _ fn_10 rfl]
 simp only [eSh, eShc, eF, eFc, eLn, tup3, hce] at h37 h38 ⊢
 by_cases hc1 : (checkL s).2.2 = 0
 rotate_left
 ·have e1 : ((checkL s).2.2 != 0) = true := by simpa using hc1
  refine ⟨?_, ?_⟩
  rotate_left
  ·simp only [go_sem, ↓reduceIte, simprocAttr, h37, h38, h39, h15, e1]
   rfl
 have hcl := checkL_zero hc1
 have ho := checkL_ok hcl
 by_cases hc2 : checkE d = 0
 rotate_left
 ·have e2 : (checkE d != 0) = true := by simpa using hc2
  refine ⟨?_, ?_⟩
  rotate_left
  ·simp only [go_sem, ↓reduceIte, simprocAttr, h37, h38, h39, h15, hc1, e2]
   rfl
 by_cases hc3 : s.forms.length = 0
 ·have e3 : ((s.forms.length : Int) == 0) = true := by simp [hc3]
  refine ⟨?_, ?_⟩
  rotate_left
  ·simp only [go_sem, ↓reduceIte, simprocAttr, h37, h38, h39, h15, hc1, hc2, e3]
   rfl
 have e3 : ((s.forms.length : Int) == 0) = false := by rw [beq_eq_false_iff_ne]; omega
 by_cases hc4 : d.visits.length = 0
 ·have e4 : ((d.visits.length : Int) == 0) = true := by simp [hc4]
  refine ⟨?_, ?_⟩
  rotate_left
  ·simp only [go_sem, ↓reduceIte, simprocAttr, h37, h38, h39, h15, hc1, hc2, e3, e4]
   rfl
 have e4 : ((d.visits.length : Int) == 0) = false := by rw [beq_eq_false_iff_ne]; omega
 have n3 : ¬ (s.forms.length : Int) = 0 := by omega
 have n4 : ¬ (d.visits.length : Int) = 0 := by omega
 have w1 : IntKind.i64.wrap (x.form : Int) = (x.form : Int) := wrap_i64 (by have := hx.f; omega)
 have w2 : IntKind.i64.wrap (x.visit : Int) = (x.visit : Int) := wrap_i64 (by have := hx.v; omega)
 have hn : x.form % s.forms.length < s.forms.length := Nat.mod_lt _ (by omega)
 have hat : x.visit % d.visits.length < d.visits.length := Nat.mod_lt _ (by omega)
 have t1 : (x.form : Int).tmod (s.forms.length : Int) = ((x.form % s.forms.length : Nat) : Int) := (Int.ofNat_tmod _ _).symm
 have t2 : (x.visit : Int).tmod (d.visits.length : Int) = ((x.visit % d.visits.length : Nat) : Int) := (Int.ofNat_tmod _ _).symm
 generalize x.form % s.forms.length = n at *
 generalize x.visit % d.visits.length = k at *
 have hni : (n : Int) < s.forms.length := by omega
 have hnx := List.getElem?_eq_getElem hn
 have hmem := List.getElem_mem hn
 have hzs := hs.zf (by intro e; rw [e] at hn; simp at hn)
 generalize hff : s.forms[n] = f at *
 have hfp := ho.parts f hmem
 have hro := rooms_ok ho hmem
 obtain ⟨xs1, z1, z1', c1, u1, a41, a40, a42, a43⟩ := one_letter hs ho hnx x.one x.z1 hx.z1 hx.l1
 obtain ⟨xs2, z2, z2', c2, u2, b41, b40, b42, b43⟩ := one_letter hs ho hnx x.two x.z2 hx.z2 hx.l2
 have bd1 := text_bd ho (anyM_ok ho hmem hro x.one)
 have bd2 := text_bd ho (anyM_ok ho hmem hro x.two)
 generalize anyM f x.one = la at *
 generalize anyM f x.two = lb at *
 generalize (⟨(textL s.width la).toArray⟩ : ByteArray) = ta at *
 generalize (⟨(textL s.width lb).toArray⟩ : ByteArray) = tb at *
 have la2 := split_len ta 10
 have lb2 := split_len tb 10
 generalize splitB ta 10 = sa at *
 generalize splitB tb 10 = sb at *
 simp only [eSh, eShc, eFm, vS, hzs] at a41 a40 a42 a43 b41 b40 b42 b43
 simp only [go_sem, ↓reduceIte, simprocAttr, h37, h38, hc1, hc2, e3, e4, n3, n4, w1, w2, t1, t2]
 rw [w_loop (hm := ?_)]
 rotate_left
 ·rfl
 have q1 : IntKind.i64.wrap 1 = 1 := by decide
 have q2 : IntKind.i64.wrap 2 = 2 := by decide
 have q3 : IntKind.i64.wrap ((sa.length : Int) - 1) = (sa.length : Int) - 1 := wrap_i64 (by omega)
 have q4 : IntKind.i64.wrap ((sb.length : Int) - 1) = (sb.length : Int) - 1 := wrap_i64 (by omega)
 have q5 : 0 ≤ (sa.length : Int) - 1 ∧ (sa.length : Int) - 1 ≤ 100001 := by omega
 have q6 : 0 ≤ (sb.length : Int) - 1 ∧ (sb.length : Int) - 1 ≤ 100001 := by omega
 obtain ⟨t2, ap1, tl1, tt1, _⟩ := app_gen (X := tabX) (ty := 22) (e := 3) (sz := 1) (tag := 1) (z := 0) (t := []) (xs := ([] : List AV)) (.inl ⟨rfl, rfl⟩) 1 1 [.int .i64 ((sa.length : Int) - 1)] (by simp only [go_sem, ↓reduceIte, simprocAttr]) (by simp only [go_sem, ↓reduceIte, simprocAttr]) (by decide) (.inl rfl) (by simp only [go_sem, ↓reduceIte, simprocAttr]) (by simp only [go_sem, ↓reduceIte, simprocAttr]) (by simp only [go_sem, ↓reduceIte, simprocAttr]) (by simp only [go_sem, ↓reduceIte, simprocAttr])
 obtain rfl : t2 = [true] := by
  match t2, tl1, tt1 with
  | [b], _, h => simp at h; rw [h]
 obtain ⟨t3, ap2, tl2, tt2, _⟩ := app_gen (X := tabX) (ty := 22) (e := 3) (sz := 1) (tag := 2) (z := 1) (t := [true]) (xs := [AV.int .i64 ((sa.length : Int) - 1)]) (.inr ⟨0, rfl, rfl, rfl⟩) 1 1 [.int .i64 ((sb.length : Int) - 1)] (by simp only [go_sem, ↓reduceIte, simprocAttr]) (by simp only [go_sem, ↓reduceIte, simprocAttr]) (by decide) (.inl rfl) (by simp only [go_sem, ↓reduceIte, simprocAttr]) (by simp only [go_sem, ↓reduceIte, simprocAttr]) (by simp only [go_sem, ↓reduceIte, simprocAttr]) (by simp only [go_sem, ↓reduceIte, simprocAttr])
 simp only [List.length_nil, List.length_cons, List.nil_append, List.cons_append, Nat.zero_add, Nat.reduceAdd] at ap1 ap2
 simp only [go_sem, ↓reduceIte, simprocAttr, hni, hnx, hzs, eFm, a41, a40, a42, a43, c1, u1, q1, q3, thenN_normal, ap1]
 rw [w_loop (hm := ?_)]
 rotate_left
 ·rfl
 simp only [go_sem, ↓reduceIte, simprocAttr, hni, hnx, hzs, eFm, b41, b40, b42, b43, c2, u2, q1, q2, q4, thenN_normal, ap2]
 rw [w_loop (hm := ?_)]
 rotate_left
 ·rfl
 simp only [go_sem, ↓reduceIte, simprocAttr, thenN, q1, q2]
 clear a41 a40 a42 a43 b41 b40 b42 b43 c1 c2 u1 u2 ap1 ap2 tt1 tt2 tl1 tl2 q3 q4 la2 lb2 bd1 bd2
 generalize (sa.length : Int) - 1 = v1 at *
 generalize (sb.length : Int) - 1 = v2 at *
 have hlo : (if v2 < v1 then v2 else v1) ≤ v1 ∧ (if v2 < v1 then v2 else v1) ≤ v2 := by split <;> omega
 generalize (if v2 < v1 then v2 else v1) = lo at *
 have hhi : v1 ≤ (if v1 < v2 then v2 else v1) ∧ v2 ≤ (if v1 < v2 then v2 else v1) := by split <;> omega
 generalize (if v1 < v2 then v2 else v1) = hi at *
 cases r1 : inR lo 1 8 with
 | false =>
  refine ⟨?_, ?_⟩
  rotate_left
  ·simp only [go_sem, ↓reduceIte, simprocAttr, c47, r1, h39, h15]
   rfl
 | true =>
 cases r2 : inR hi 1 8 with
 | false =>
  refine ⟨?_, ?_⟩
  rotate_left
  ·simp only [go_sem, ↓reduceIte, simprocAttr, c47, r1, r2, h39, h15]
   rfl
 | true =>
 have r3 : 1 ≤ lo ∧ lo ≤ 8 := by unfold inR at r1; simpa using r1
 have r4 : 1 ≤ hi ∧ hi ≤ 8 := by unfold inR at r2; simpa using r2
 have hv5 := (ok_of_check hc2).visits
 have zvs := hd.zv (by intro e; rw [e] at hat; simp at hat)
 have hax := List.getElem?_eq_getElem hat
 have hvok := (ok_of_check hc2).visit _ (List.getElem_mem hat)
 generalize hvv : d.visits[k] = v at *
 have v1' : d.visits.length * 64 ≤ 140737488355328 := by omega
 have v2' : d.visits.length ≤ 140737488355328 := by omega
 have hki : (k : Int) < d.visits.length := by omega
 have g1 := vcs_get hax
 have g2 : 8 ≤ ((vcs d.visits).drop (k * 8)).length := by rw [List.length_drop, vcs_len]; omega
 have g3 : k * 8 + 8 ≤ (vcs d.visits).length := by rw [vcs_len]; omega
 have g4 := vcs_set hat (vL v lo hi)
 have g5 := vcs_rows0 (l := d.visits.set k (vL v lo hi)) (n := d.visits.length) (List.length_set ..)
 simp only [vic] at g1
 simp only [go_sem, ↓reduceIte, simprocAttr, c47, r1, r2, v1', v2', vcs_cells, zvs, hc4, hki, hat, g1, g2, g3, Nat.zero_add]
 obtain ⟨fees, fE, fC⟩ := gift_calls hd hc2 hax (lo := lo) (hi := hi) ⟨r3.1, by omega, r4.2⟩
 obtain ⟨ea1, la1, k1⟩ := fC v1 ⟨hlo.1, hhi.1⟩
 obtain ⟨ea2, la2, k2⟩ := fC v2 ⟨hlo.2, hhi.2⟩
 obtain ⟨a1, a2, a3, a4, a5, a6, a7⟩ := k1
 obtain ⟨b1, b2, b3, b4, b5, b6, b7⟩ := k2
 have hcw : cleanL ((d.visits.set k (vL v lo hi)).map eVi) = some ((d.visits.set k (vL v lo hi)).map eVi) := eVi_clean _
 have huw : ∀ n, underL n ((d.visits.set k (vL v lo hi)).map eVi) = true := fun n => eVi_under n _
 clear fC
 generalize hW : d.visits.set k (vL v lo hi) = W at *
 generalize W.map eVi = Wv at *
 simp only [vic, vL, splice] at g4
 simp only [eFw, eVi, vL] at fE a1 a2 a3 a4 a5 a6 a7 b1 b2 b3 b4 b5 b6 b7
 simp only [go_sem, ↓reduceIte, simprocAttr, iceSt, g4, g5, hcw, huw, fE]
 clear g1 g2 g3 g4 g5 h37 h38 fE
 rw [w_loop (hm := ?_)]
 rotate_left
 ·rfl
 simp only [go_sem, ↓reduceIte, simprocAttr, hcw, huw, a1, a2, a3, a4, a5, a6, a7, q1, thenN_normal]
 rw [w_loop (hm := ?_)]
 rotate_left
 ·rfl
 simp only [go_sem, ↓reduceIte, simprocAttr, hcw, huw, b1, b2, b3, b4, b5, b6, b7, q1, q2, thenN_normal]
 rw [w_loop (hm := ?_)]
 rotate_left
 ·rfl
 simp only [go_sem, ↓reduceIte, simprocAttr, thenN, h39, h15]
 exact ⟨_, rfl⟩
end
end Go.Proofs.YthkpjbgadkkeeaaGreat
section
namespace Go.Proofs.YthkpjbgadkkeeaaGreat.topLines
open Go.ChangeShapes Go.WideShapes Go.ChangeAt Go.RowKit Go.Proofs
theorem own : ownKnob Tryz.prog.godebug = none := by kernel_rfl
theorem laid : laidOutB Tryz.prog = true := by kernel_rfl
theorem row27 : Tryz.prog.readableRec 27 = true ∧ 27 < Tryz.prog.types.size := ⟨by kernel_rfl, of_decide_eq_true (by kernel_rfl)⟩
theorem row63 : Tryz.prog.readableRec 63 = true ∧ 63 < Tryz.prog.types.size := ⟨by kernel_rfl, of_decide_eq_true (by kernel_rfl)⟩
theorem row65 : Tryz.prog.readableRec 65 = true ∧ 65 < Tryz.prog.types.size := ⟨by kernel_rfl, of_decide_eq_true (by kernel_rfl)⟩
set_option maxRecDepth 100000 in
theorem lifted (os : Os) (started : os.Started) (H : Type) (enc : TypeId × Value → H) :
  ReturnsInHanded {} Tryz.checked os 10 .any (Rows.topLinesSpec.pre6 enc Tryz.prog Tryz.f10 Rows.topLinesRow.domain false) (Rows.topLinesSpec.post enc Tryz.prog Tryz.f10 false true false false) := by
 refine returnsInHanded_of_change_sized (C := Tryz.checked) own started (by kernel_rfl) Tryz.func10
  (ChangeSpec.witness6 (enc := enc) (C := Tryz.checked) false ⟨#[], #[.agg #[.int .i64 0, .slice none 0 0], .agg #[.int .i64 0, .int .i64 0, .int .i64 0, .int .i64 0, .int .i64 0, .slice none 0 0, .slice none 0 0, .slice none 0 0, .slice none 0 0], .agg #[.int .u8 0, .int .u8 0, .slice none 0 0, .slice none 0 0]], []⟩ 8 (by kernel_rfl) (by kernel_rfl) (by kernel_rfl) (by kernel_rfl)) ?_
 intro W base args ds gs before hval0 hW hcnd hsz _
 have hval : ∀ (j : Nat) t v, Tryz.f10.params[j]? = some t → args[j]? = some v → Value.okWide Tryz.prog W .any base t v := hval0
 have hW' := hW
 obtain ⟨p, q, hA0, hV, rfl, hfz, hnd⟩ := hW
 have hA : DataW.TrodAll enc Tryz.prog W 0 (fun _ => true) true Tryz.f10.params.toList args.toList ds p := hA0
 rw [Tryz.params10] at hA hval
 obtain ⟨v0, vs0, d0, ds0, p0, q0, hargs, rfl, rfl, h0, r0⟩ := trodAll_cons hA
 obtain ⟨v1, vs1, d1, ds1, p1, q1, rfl, rfl, rfl, h1, r1⟩ := trodAll_cons r0
 obtain ⟨v2, vs2, d2, ds2, p2, q2, rfl, rfl, rfl, h2, r2⟩ := trodAll_cons r1
 obtain ⟨rfl, rfl, rfl⟩ := trodAll_nil r2
 obtain rfl : args = #[v0, v1, v2] := by cases args; simp_all
 obtain ⟨rfl, rfl⟩ := trodVars_none hV
 have lt0 : ∀ x ∈ p0, x.block < W.heap.size := by obtain ⟨m, hm⟩ := h0; exact DataW.trod_lt m _ _ _ hm
 obtain ⟨y0, g0, rv0⟩ := rd_sh (hval 0 63 v0 rfl rfl) h0 (light_each (ts := [63, 27, 65]) hsz (j := 0) rfl rfl)
 have lt1 : ∀ x ∈ p1, x.block < W.heap.size := by obtain ⟨m, hm⟩ := h1; exact DataW.trod_lt m _ _ _ hm
 obtain ⟨y1, g1, rv1⟩ := rd_fu (hval 1 27 v1 rfl rfl) h1 (light_each (ts := [63, 27, 65]) hsz (j := 1) rfl rfl)
 have lt2 : ∀ x ∈ p2, x.block < W.heap.size := by obtain ⟨m, hm⟩ := h2; exact DataW.trod_lt m _ _ _ hm
 obtain ⟨y2, g2, rv2⟩ := rd_ln (hval 2 65 v2 rfl rfl) h2 (light_each (ts := [63, 27, 65]) hsz (j := 2) rfl rfl)
 clear hA0 hval0
 simp only [List.append_nil] at hW'
 have hwalk : Calls Tryz.prog 10 #[v0, v1, v2] W fun e w' => e = .returned (.bool true) ∧ Below W.heap.size W w' := by
  obtain ⟨h', hc⟩ := t10 y0 g0 y1 g1 y2 g2
  refine ew_bool fitsX (args := [eSh y0, eF y1, eLn y2]) (vs := [v0, v1, v2]) hc ⟨rfl, fun i x hx => ?_⟩
  match i, hx with
  | 0, hx => obtain rfl : eSh y0 = x := Option.some.inj hx; exact rv0
  | 1, hx => obtain rfl : eF y1 = x := Option.some.inj hx; exact rv1
  | 2, hx => obtain rfl : eLn y2 = x := Option.some.inj hx; exact rv2
 refine hwalk.mono fun e W' ⟨he, bel⟩ => ?_
 subst he
 exact ⟨_, rfl, _, _, _, [], _, [], hW', trodAll_mk1 (shut_bool Tryz.underlying4 _), (trodAll_cons_mk (Below.trod laid row63.1 row63.2 h0 bel lt0) (trodAll_cons_mk (Below.trod laid row27.1 row27.2 h1 bel lt1) (trodAll_cons_mk (Below.trod laid row65.1 row65.2 h2 bel lt2) trodAll_mk0))), rfl, bel.frame _, fun h => by cases h⟩
theorem over : Rows.topLinesRow.holds Tryz.pinned (OpenSpec.ofChange Rows.topLinesSpec) :=
 OpenClaim.holds_of_wide 10 Tryz.f10 rfl rfl rfl rfl rfl rfl rfl ⟨rfl, rfl, rfl, rfl, rfl⟩ rfl rfl rfl rfl rfl (by kernel_rfl) Tryz.func10 (by kernel_rfl)
  (of_decide_eq_true (by kernel_rfl)) (by unfold Func.isWrapper; first | (rw [if_pos (by decide +kernel)]; kernel_rfl) | (rw [if_neg (by decide +kernel)]; exact ⟨rfl, rfl⟩))
  (fun os started H enc _ => lifted os started H enc)
theorem proved : Rows.TopLinesSaid := over
#print axioms proved
end Go.Proofs.YthkpjbgadkkeeaaGreat.topLines
end
