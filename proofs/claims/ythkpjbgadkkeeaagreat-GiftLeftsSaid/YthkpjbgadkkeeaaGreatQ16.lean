/- Parts of the proof, joined: Whether there is a truth; fees, by the reference. When the reference finds no error. What the letter can cost is the same by program and reference: both rise, and have the same members. The program's row rises. The program's row of costs rises. What the letter of a visit can cost is the same by program and reference. The stands that the search meets are those that can be reached. What a gift must pay at most, and whether it can end. What is left of a gift, and whether it pays, by the stands that can be reached. A gift with one entry more. A gift that is easier to pay: more pence, no entries, letters that cost less. Lists of some things, the fewest first; the best set that a program finds. The fewest entries that are wrong, and the fewest visits that are refused: what is said of them. All that is said of a gift, with the costs of the reference: so that it can be computed. The examples of layer 11: their gifts, and what is said of them. What the laws' own tests compute: valid, some, bits, rows of numbers. The examples of layer 11: what Awake looks at. A valid gift that is changed a little is valid. The first of the shortest lists, one by one, is the best set. Z-numbers. Plain lemmas about what the program answers of a valid gift with a truth, or without one. Z-numbers. How it goes in any truth, by turns: it is one of the ways that are reached. Z-numbers. The reference's stands, as marks in a row, are those that are reached. Conditions: those of each law. -/
import Derived.Test.YthkpjbgadkkeeaaGreatQ15
import Derived.KernelRfl
set_option linter.unusedSimpArgs false
set_option linter.unusedVariables false
section
namespace Go.Proofs.YthkpjbgadkkeeaaGreat
open Go.Proofs

def someR (d : Fu) (butL : List Int) (k : Nat) : Bool := (List.range k).all fun i => decide (refCosts d butL i ≠ [])
theorem someR_succ (d : Fu) (butL : List Int) (k : Nat) : someR d butL (k + 1) = (someR d butL k && decide (refCosts d butL k ≠ [])) := by unfold someR; rw [List.range_succ]; simp
theorem c26 (d : Fu) (hd : d.fits) (ho : d.Ok) (butL : List Int) (hbl : butL.length ≤ 100) (h : Heap) : callPure (EW tabX) 69 [eF d, vI butL] h = some (.bool (someR d butL d.visits.length), h) := by
  have hv5 := ho.visits
  rw [callPure_eq, w_call _ fn_69 rfl]
  simp only [go_sem, ↓reduceIte, Nat.reduceBEq, Nat.reduceEqDiff, Nat.reduceLT, Nat.reduceLeDiff, Nat.reduceAdd, Nat.reduceMul, Nat.reduceSub, reduceCtorEq, Int.reduceLT, Int.reduceLE, Int.reduceEq, Int.reduceBEq, Int.reduceBNe, Int.reduceToNat, Int.reduceAdd, Int.reduceNeg, Int.reduceSub, eF, eFc, vI]
  rw [w_rounds_u (fun k => [(5, .bool (someR d butL k)), (6, .int .i64 (k : Int))]) d.visits.length (.exit 0) [(5, .bool (someR d butL d.visits.length)), (6, .int .i64 (d.visits.length : Int))] ?_ ?_ ?_ rfl]
  · simp only [go_sem, ↓reduceIte, Nat.reduceBEq, Nat.reduceEqDiff, Nat.reduceLT, Nat.reduceLeDiff, Nat.reduceAdd, Nat.reduceMul, Nat.reduceSub, reduceCtorEq, Int.reduceLT, Int.reduceLE, Int.reduceEq, Int.reduceBEq, Int.reduceBNe, Int.reduceToNat, Int.reduceAdd, Int.reduceNeg, Int.reduceSub]
  · simp only [go_sem, ↓reduceIte, Nat.reduceBEq, Nat.reduceEqDiff, Nat.reduceLT, Nat.reduceLeDiff, Nat.reduceAdd, Nat.reduceMul, Nat.reduceSub, reduceCtorEq, Int.reduceLT, Int.reduceLE, Int.reduceEq, Int.reduceBEq, Int.reduceBNe, Int.reduceToNat, Int.reduceAdd, Int.reduceNeg, Int.reduceSub, someR, List.range_zero]
  · intro k hk
    have hki : (k : Int) < d.visits.length := by omega
    have hw : IntKind.i64.wrap ((k : Int) + 1) = (k : Int) + 1 := wrap_i64 (by omega)
    have h54 := c54 d hd ho butL hbl k hk
    simp only [eF, eFc, vI] at h54
    rw [someR_succ]
    cases hs : someR d butL k with
    | true =>
      have hp : decide (0 < ((refCosts d butL k).length : Int)) = decide (refCosts d butL k ≠ []) := by
        rw [Bool.eq_iff_iff]; simp only [decide_eq_true_eq]
        rw [← List.length_pos_iff]; omega
      simp only [go_sem, ↓reduceIte, Nat.reduceBEq, Nat.reduceEqDiff, Nat.reduceLT, Nat.reduceLeDiff, Nat.reduceAdd, Nat.reduceMul, Nat.reduceSub, reduceCtorEq, Int.reduceLT, Int.reduceLE, Int.reduceEq, Int.reduceBEq, Int.reduceBNe, Int.reduceToNat, Int.reduceAdd, Int.reduceNeg, Int.reduceSub, hki, h54, hw, hp]
    | false => simp only [go_sem, ↓reduceIte, Nat.reduceBEq, Nat.reduceEqDiff, Nat.reduceLT, Nat.reduceLeDiff, Nat.reduceAdd, Nat.reduceMul, Nat.reduceSub, reduceCtorEq, Int.reduceLT, Int.reduceLE, Int.reduceEq, Int.reduceBEq, Int.reduceBNe, Int.reduceToNat, Int.reduceAdd, Int.reduceNeg, Int.reduceSub, hki, hw]
  · simp only [go_sem, ↓reduceIte, Nat.reduceBEq, Nat.reduceEqDiff, Nat.reduceLT, Nat.reduceLeDiff, Nat.reduceAdd, Nat.reduceMul, Nat.reduceSub, reduceCtorEq, Int.reduceLT, Int.reduceLE, Int.reduceEq, Int.reduceBEq, Int.reduceBNe, Int.reduceToNat, Int.reduceAdd, Int.reduceNeg, Int.reduceSub, Int.lt_irrefl]
def askE (d : Fu) (n below : Int) : Int := if checkE d = 0 then (if out 0 (below - 1) n = true then 4 else if someR d [] d.visits.length = true then 0 else 8) else checkE d
theorem c53 (d : Fu) (hd : d.fits) (n below : Int) (hb : -1000 ≤ below ∧ below < 1000000000000000000) (h : Heap) : callPure (EW tabX) 50 [eF d, .int .i64 n, .int .i64 below] h = some (.int .i64 (askE d n below), h) := by
  have h10 := c10 d hd
  have hce : (checkF d).2.2 = checkE d := rfl
  have hw : IntKind.i64.wrap (below - 1) = below - 1 := wrap_i64 (by omega)
  have hcl := eF_clean d
  rw [callPure_eq, w_call _ fn_50 rfl]
  unfold askE
  simp only [eF, eFc, tup3, hce] at h10
  by_cases h0 : checkE d = 0
  rotate_left
  · have hne : (checkE d != 0) = true := by simpa using h0
    rw [if_neg h0]
    simp only [go_sem, ↓reduceIte, Nat.reduceBEq, Nat.reduceEqDiff, Nat.reduceLT, Nat.reduceLeDiff, Nat.reduceAdd, Nat.reduceMul, Nat.reduceSub, reduceCtorEq, Int.reduceLT, Int.reduceLE, Int.reduceEq, Int.reduceBEq, Int.reduceBNe, Int.reduceToNat, Int.reduceAdd, Int.reduceNeg, Int.reduceSub, eF, eFc, h10, hne]
  have ho := ok_of_check h0
  have h26 := c26 d hd ho [] (by simp)
  simp only [eF, eFc, vI, go_sem, ↓reduceIte, Nat.reduceBEq, Nat.reduceEqDiff, Nat.reduceLT, Nat.reduceLeDiff, Nat.reduceAdd, Nat.reduceMul, Nat.reduceSub, reduceCtorEq, Int.reduceLT, Int.reduceLE, Int.reduceEq, Int.reduceBEq, Int.reduceBNe, Int.reduceToNat, Int.reduceAdd, Int.reduceNeg, Int.reduceSub] at h26
  rw [if_pos h0]
  cases h1 : out 0 (below - 1) n with
  | true => simp only [go_sem, ↓reduceIte, Nat.reduceBEq, Nat.reduceEqDiff, Nat.reduceLT, Nat.reduceLeDiff, Nat.reduceAdd, Nat.reduceMul, Nat.reduceSub, reduceCtorEq, Int.reduceLT, Int.reduceLE, Int.reduceEq, Int.reduceBEq, Int.reduceBNe, Int.reduceToNat, Int.reduceAdd, Int.reduceNeg, Int.reduceSub, eF, eFc, h10, h0, hw, c47, notin, h1]
  | false =>
    cases h2 : someR d [] d.visits.length with
    | true =>
      rw [h2] at h26
      simp only [go_sem, ↓reduceIte, Nat.reduceBEq, Nat.reduceEqDiff, Nat.reduceLT, Nat.reduceLeDiff, Nat.reduceAdd, Nat.reduceMul, Nat.reduceSub, reduceCtorEq, Int.reduceLT, Int.reduceLE, Int.reduceEq, Int.reduceBEq, Int.reduceBNe, Int.reduceToNat, Int.reduceAdd, Int.reduceNeg, Int.reduceSub, eF, eFc, h10, h0, hw, c47, notin, h1, h26]
    | false =>
      rw [h2] at h26
      simp only [go_sem, ↓reduceIte, Nat.reduceBEq, Nat.reduceEqDiff, Nat.reduceLT, Nat.reduceLeDiff, Nat.reduceAdd, Nat.reduceMul, Nat.reduceSub, reduceCtorEq, Int.reduceLT, Int.reduceLE, Int.reduceEq, Int.reduceBEq, Int.reduceBNe, Int.reduceToNat, Int.reduceAdd, Int.reduceNeg, Int.reduceSub, eF, eFc, h10, h0, hw, c47, notin, h1, h26]
end Go.Proofs.YthkpjbgadkkeeaaGreat
end
section
namespace Go.Proofs.YthkpjbgadkkeeaaGreat
open Go.Proofs

end Go.Proofs.YthkpjbgadkkeeaaGreat
end
section
namespace Go.Proofs.YthkpjbgadkkeeaaGreat
open Go.Proofs

def Asc (l : List Int) : Prop := l.Pairwise (· < ·)
theorem Asc.eq : ∀ {a b : List Int}, Asc a → Asc b → (∀ x, x ∈ a ↔ x ∈ b) → a = b
  | [], [], _, _, _ => rfl
  | [], y :: b, _, _, h => by have := (h y).2 (by simp); cases this
  | x :: a, [], _, _, h => by have := (h x).1 (by simp); cases this
  | x :: a, y :: b, ha, hb, h => by
    obtain ⟨a1, a2⟩ := List.pairwise_cons.1 ha
    obtain ⟨b1, b2⟩ := List.pairwise_cons.1 hb
    have hxy : x = y := by
      rcases List.mem_cons.1 ((h x).1 (by simp)) with e | e
      · exact e
      · rcases List.mem_cons.1 ((h y).2 (by simp)) with e' | e'
        · exact e'.symm
        · have := b1 x e; have := a1 y e'; omega
    subst hxy
    congr 1
    refine Asc.eq a2 b2 fun z => ⟨fun hz => ?_, fun hz => ?_⟩
    · rcases List.mem_cons.1 ((h z).1 (by simp [hz])) with e | e
      · have := a1 z hz; omega
      · exact e
    · rcases List.mem_cons.1 ((h z).2 (by simp [hz])) with e | e
      · have := b1 z hz; omega
      · exact e
theorem putL_mem {l : List Int} {n x : Int} : x ∈ putL l n ↔ x = n ∨ x ∈ l := by
  unfold putL
  split
  · rename_i h
    exact ⟨.inr, fun h' => by rcases h' with rfl | h'; exact h; exact h'⟩
  · simp only [loL, hiL, List.mem_append, List.mem_filter, List.mem_singleton, decide_eq_true_eq]
    constructor
    · rintro ((⟨h, _⟩ | h) | ⟨h, _⟩)
      · exact .inr h
      · exact .inl h
      · exact .inr h
    · rintro (h | h)
      · exact .inl (.inr h)
      · by_cases h1 : x < n
        · exact .inl (.inl ⟨h, h1⟩)
        · by_cases h2 : n < x
          · exact .inr ⟨h, h2⟩
          · exact .inl (.inr (by omega))
theorem putL_asc {l : List Int} (n : Int) (h : Asc l) : Asc (putL l n) := by
  unfold putL
  split
  · exact h
  · unfold Asc loL hiL
    rw [List.pairwise_append, List.pairwise_append]
    refine ⟨⟨h.filter _, List.pairwise_singleton _ _, ?_⟩, h.filter _, ?_⟩
    · intro a ha b hb
      simp at ha hb; omega
    · intro a ha b hb
      simp at ha hb; omega
end Go.Proofs.YthkpjbgadkkeeaaGreat
end
section
namespace Go.Proofs.YthkpjbgadkkeeaaGreat
open Go.Proofs

theorem hourTo_asc (d : Fu) (butL : List Int) (at' : Nat) (v : Vi) (lines : Int) {l : List Int} (h : Asc l) : ∀ k, Asc (hourTo d butL at' v lines l k)
  | 0 => h
  | k + 1 => by
    have := hourTo_asc d butL at' v lines h k
    unfold hourTo
    split
    · exact putL_asc _ this
    · exact this
theorem lineTo_asc (d : Fu) (butL : List Int) (at' : Nat) (v : Vi) : ∀ k, Asc (lineTo d butL at' v k)
  | 0 => List.Pairwise.nil
  | k + 1 => by unfold lineTo; exact hourTo_asc _ _ _ _ _ (lineTo_asc d butL at' v k) _
theorem refCosts_asc (d : Fu) (butL : List Int) (at' : Nat) : Asc (refCosts d butL at') := by
  unfold refCosts
  split
  · exact lineTo_asc _ _ _ _ _
  · exact List.Pairwise.nil
end Go.Proofs.YthkpjbgadkkeeaaGreat
end
section
namespace Go.Proofs.YthkpjbgadkkeeaaGreat
open Go.Proofs

theorem sorted_le (l : List Int) : (l.mergeSort fun x y => decide (x ≤ y)).Pairwise (· ≤ ·) := by
  have := List.pairwise_mergeSort (le := fun x y : Int => decide (x ≤ y)) (fun a b c h1 h2 => by simp at *; omega) (fun a b => by simp; omega) l
  exact this.imp fun h => by simpa using h
theorem sortD_asc (l : List Int) : Asc (sortD l) := by
  unfold sortD
  have hs := sorted_le l
  generalize (l.mergeSort fun x y => decide (x ≤ y)) = zs at hs ⊢
  unfold Lib.compact Lib.compactUpTo Asc
  rw [List.pairwise_map]
  have h1 : (List.filter (Lib.keeps zs.toArray) (List.range zs.length)).Pairwise (· < ·) := List.Pairwise.filter _ List.pairwise_lt_range
  refine h1.imp_of_mem fun {a b} ha hb hab => ?_
  obtain ⟨hb1, hb2⟩ := List.mem_filter.1 hb
  have hbl : b < zs.length := List.mem_range.1 hb1
  have hle : ∀ i j, i ≤ j → j < zs.length → zs.toArray[i]! ≤ zs.toArray[j]! := fun i j hij hj => by
    rw [getElem!_pos _ i (by simp; omega), getElem!_pos _ j (by simpa using hj)]
    simp only [List.getElem_toArray]
    rcases Nat.lt_or_ge i j with h | h
    · exact List.pairwise_iff_getElem.1 hs i j (by omega) hj h
    · have : i = j := by omega
      subst this; exact Int.le_refl _
  have e1 := hle a (b - 1) (by omega) (by omega)
  have e2 := hle (b - 1) b (by omega) hbl
  have hne : zs.toArray[b]! ≠ zs.toArray[b - 1]! := by
    unfold Lib.keeps at hb2
    rcases of_decide_eq_true hb2 with h | h
    · omega
    · exact h
  omega
theorem mem_compact_of {zs : List Int} {x : Int} (h : x ∈ zs) : x ∈ Lib.compact zs := by
  have hil := List.findIdx_lt_length_of_exists (p := fun y => y == x) (xs := zs) ⟨x, h, by simp⟩
  have he := List.findIdx_getElem (p := fun y => y == x) (xs := zs) (w := hil)
  have hn : ∀ j, j < zs.findIdx (fun y => y == x) → ∀ hj : j < zs.length, zs[j] ≠ x := fun j hj hjl => by
    have := List.not_of_lt_findIdx hj
    simpa using this
  generalize zs.findIdx (fun y => y == x) = i at hil he hn
  have he : zs[i] = x := by simpa using he
  unfold Lib.compact Lib.compactUpTo
  refine List.mem_map.2 ⟨i, List.mem_filter.2 ⟨List.mem_range.2 hil, ?_⟩, ?_⟩
  · unfold Lib.keeps
    refine decide_eq_true ?_
    by_cases h0 : i = 0
    · exact .inl h0
    · refine .inr ?_
      rw [getElem!_pos _ i (by simpa using hil), getElem!_pos _ (i - 1) (by simp; omega)]
      simp only [List.getElem_toArray]
      rw [he]
      exact fun e => hn (i - 1) (by omega) (by omega) e.symm
  · rw [getElem!_pos _ i (by simpa using hil)]
    simpa using he
theorem mem_sortD_iff {l : List Int} {x : Int} : x ∈ sortD l ↔ x ∈ l :=
  ⟨mem_sortD, fun h => mem_compact_of ((List.mergeSort_perm l _).symm.subset h)⟩
end Go.Proofs.YthkpjbgadkkeeaaGreat
end
section
namespace Go.Proofs.YthkpjbgadkkeeaaGreat
open Go.Proofs

theorem mem_rawTo_iff {d : Fu} {but at' : Nat} {v : Vi} {k : Nat} {x : Int} : x ∈ rawTo d but at' v k ↔ ∃ (i : Nat) (late : Int), i < k ∧ (late = 0 ∨ late = 1) ∧ noHour d v late = false ∧ x = costN d v (v.llo + (i : Int)) late ∧ firstBad (noE d but at' x) 0 d.entries.length = none := by
  have h1 : ∀ lines late, x ∈ costL1 d but at' v lines late ↔ noHour d v late = false ∧ x = costN d v lines late ∧ firstBad (noE d but at' x) 0 d.entries.length = none := fun lines late => by
    unfold costL1 okN
    cases noHour d v late with
    | true => simp
    | false =>
      simp only [Bool.false_eq_true, if_false, true_and]
      constructor
      · intro h
        split at h
        · rename_i hf
          have : x = costN d v lines late := by simpa using h
          subst this
          exact ⟨rfl, hf⟩
        · cases h
      · rintro ⟨rfl, hf⟩
        rw [if_pos hf]; simp
  unfold rawTo costL2
  simp only [List.mem_flatMap, List.mem_append, List.mem_range, h1]
  constructor
  · rintro ⟨i, hi, h | h⟩
    · exact ⟨i, 0, hi, .inl rfl, h⟩
    · exact ⟨i, 1, hi, .inr rfl, h⟩
  · rintro ⟨i, late, hi, rfl | rfl, h⟩
    · exact ⟨i, hi, .inl h⟩
    · exact ⟨i, hi, .inr h⟩
theorem mem_hourTo {d : Fu} {butL : List Int} {at' : Nat} {v : Vi} {lines : Int} {l : List Int} {x : Int} : ∀ {k : Nat}, x ∈ hourTo d butL at' v lines l k ↔ x ∈ l ∨ ∃ j, j < k ∧ x = costN d v lines (lateI d (v.hlo + (j : Int))) ∧ okTill d butL at' x d.entries.length = true
  | 0 => by simp [hourTo]
  | k + 1 => by
    have ih := mem_hourTo (d := d) (butL := butL) (at' := at') (v := v) (lines := lines) (l := l) (x := x) (k := k)
    unfold hourTo
    constructor
    · intro h
      split at h
      · rename_i hok
        rcases putL_mem.1 h with rfl | h
        · exact .inr ⟨k, by omega, rfl, hok⟩
        · rcases ih.1 h with h | ⟨j, hj, h⟩
          · exact .inl h
          · exact .inr ⟨j, by omega, h⟩
      · rcases ih.1 h with h | ⟨j, hj, h⟩
        · exact .inl h
        · exact .inr ⟨j, by omega, h⟩
    · intro h
      have old : (x ∈ l ∨ ∃ j, j < k ∧ x = costN d v lines (lateI d (v.hlo + (j : Int))) ∧ okTill d butL at' x d.entries.length = true) → x ∈ (if okTill d butL at' (costN d v lines (lateI d (v.hlo + (k : Int)))) d.entries.length = true then putL (hourTo d butL at' v lines l k) (costN d v lines (lateI d (v.hlo + (k : Int)))) else hourTo d butL at' v lines l k) := fun h => by
        have := ih.2 h
        split
        · exact putL_mem.2 (.inr this)
        · exact this
      rcases h with h | ⟨j, hj, hx, hok⟩
      · exact old (.inl h)
      · by_cases hjk : j = k
        · subst hjk
          rw [← hx, if_pos hok]
          exact putL_mem.2 (.inl rfl)
        · exact old (.inr ⟨j, by omega, hx, hok⟩)
theorem mem_lineTo {d : Fu} {butL : List Int} {at' : Nat} {v : Vi} {x : Int} : ∀ {k : Nat}, x ∈ lineTo d butL at' v k ↔ ∃ i j, i < k ∧ j < hoursN v ∧ x = costN d v (v.llo + (i : Int)) (lateI d (v.hlo + (j : Int))) ∧ okTill d butL at' x d.entries.length = true
  | 0 => by simp [lineTo]
  | k + 1 => by
    have ih := mem_lineTo (d := d) (butL := butL) (at' := at') (v := v) (x := x) (k := k)
    unfold lineTo
    rw [mem_hourTo, ih]
    constructor
    · rintro (⟨i, j, hi, h⟩ | ⟨j, hj, h⟩)
      · exact ⟨i, j, by omega, h⟩
      · exact ⟨k, j, by omega, hj, h⟩
    · rintro ⟨i, j, hi, hj, h⟩
      by_cases hik : i = k
      · subst hik; exact .inr ⟨j, hj, h⟩
      · exact .inl ⟨i, j, by omega, hj, h⟩
def SameBut (d : Fu) (butL : List Int) (but : Nat) : Prop := ∀ i, i < d.entries.length → butL.any (fun y => y == (i : Int)) = but.testBit i
theorem okTill_iff {d : Fu} {butL : List Int} {but at' : Nat} (hs : SameBut d butL but) (x : Int) : okTill d butL at' x d.entries.length = true ↔ firstBad (noE d but at' x) 0 d.entries.length = none := by
  have key : ∀ i (hi : i < d.entries.length), okEn butL at' x i d.entries[i] = !noEntry but at' x i d.entries[i] := fun i hi => by
    unfold okEn noEntry
    rw [hs i hi]
    cases but.testBit i <;> cases h1 : (d.entries[i].visit == (at' : Int)) <;> cases h2 : (d.entries[i].pence == x) <;> simp [bne, h1, h2]
  constructor
  · intro h
    refine firstBad_zero fun i _ hi => ?_
    have hi : i < d.entries.length := by omega
    have h := List.all_eq_true.1 h i (List.mem_range.2 hi)
    rw [List.getElem?_eq_getElem hi] at h
    simp only at h
    rw [key i hi] at h
    unfold noE
    rw [List.getElem?_eq_getElem hi]
    simp only
    rw [if_neg (by simpa using h)]
  · intro h
    refine List.all_eq_true.2 fun i hi => ?_
    have hi := List.mem_range.1 hi
    rw [List.getElem?_eq_getElem hi]
    simp only
    rw [key i hi]
    have := firstBad_none h i (Nat.zero_le _) (by omega)
    unfold noE at this
    rw [List.getElem?_eq_getElem hi] at this
    simp only at this
    cases hq : noEntry but at' x i d.entries[i] with
    | true => rw [hq] at this; cases this
    | false => rfl
theorem costs_ref {d : Fu} (ho : d.Ok) {butL : List Int} {but : Nat} (hs : SameBut d butL but) (at' : Nat) : refCosts d butL at' = costs d but at' := by
  refine Asc.eq (refCosts_asc _ _ _) (sortD_asc _) fun x => ?_
  unfold costs
  rw [mem_sortD_iff]
  unfold refCosts rawCosts
  cases hv : d.visits[at']? with
  | none => simp
  | some v =>
    have hvo := ho.visit v (List.mem_of_getElem? hv)
    have hh := hvo.hour
    simp only
    rw [mem_lineTo, mem_rawTo_iff]
    constructor
    · rintro ⟨i, j, hi, hj, hx, hok⟩
      have hjb : v.hlo + (j : Int) ≤ v.hhi := by unfold hoursN at hj; omega
      refine ⟨i, lateI d (v.hlo + (j : Int)), hi, ?_, ?_, hx, (okTill_iff hs x).1 hok⟩
      · unfold lateI; split <;> simp
      · unfold lateI noHour
        split
        · simp; omega
        · simp; omega
    · rintro ⟨i, late, hi, hl, hno, hx, hf⟩
      have hok := (okTill_iff hs x).2 hf
      unfold noHour at hno
      rcases hl with rfl | rfl
      · have h1 : v.hlo < d.frm := by simpa using hno
        refine ⟨i, 0, hi, by unfold hoursN; omega, ?_, hok⟩
        rw [hx]; unfold lateI; rw [if_neg (by omega)]
      · have h1 : d.frm ≤ v.hhi := by simpa using hno
        refine ⟨i, hoursN v - 1, hi, by unfold hoursN; omega, ?_, hok⟩
        rw [hx]; unfold lateI; rw [if_pos (by unfold hoursN; omega)]
end Go.Proofs.YthkpjbgadkkeeaaGreat
end
section
namespace Go.Proofs.YthkpjbgadkkeeaaGreat
open Go.Proofs

inductive Reach (d : Fu) (refused but : Nat) : Sd → Prop
  | beg {w : Nat} : w ∈ ways d → Reach d refused but (start d w)
  | step {s c : Sd} : Reach d refused but s → c ∈ kids d refused but s → Reach d refused but c
theorem stepSd_k (s : Sd) (n : Int) : (stepSd s n).k = s.k + 1 ∧ (stepSd s n).w = s.w := by unfold stepSd; split <;> exact ⟨rfl, rfl⟩
theorem kids_k {d : Fu} {refused but : Nat} {s c : Sd} (h : c ∈ kids d refused but s) : c.k = s.k + 1 ∧ c.w = s.w ∧ s.k < d.visits.length := by
  unfold kids at h
  cases hv : d.visits[s.k]? with
  | none => rw [hv] at h; cases h
  | some v =>
    have hl := (List.getElem?_eq_some_iff.1 hv).1
    rw [hv] at h
    rcases List.mem_append.1 h with h | h
    · split at h
      · obtain rfl := List.mem_singleton.1 h; exact ⟨rfl, rfl, hl⟩
      · cases h
    · split at h
      · cases h
      · obtain ⟨n, _, rfl⟩ := List.mem_map.1 h
        have := stepSd_k s n
        exact ⟨this.1, this.2, hl⟩
structure DfsOk (d : Fu) (refused but : Nat) (M R cs : List Sd) : Prop where
  sub : ∀ x ∈ M, x ∈ R
  has : ∀ c ∈ cs, c ∈ R
  inv : ∀ Q : Sd → Prop, (∀ x c, Q x → c ∈ kids d refused but x → Q c) → (∀ c ∈ cs, Q c) → (∀ x ∈ M, Q x) → ∀ x ∈ R, Q x
  clo : ∀ x ∈ R, x ∉ M → ∀ c ∈ kids d refused but x, c ∈ R
theorem DfsOk.nil (d : Fu) (refused but : Nat) (M : List Sd) : DfsOk d refused but M M [] :=
  ⟨fun _ h => h, fun _ h => (by cases h), fun _ _ _ h => h, fun x h1 h2 => absurd h1 h2⟩
theorem DfsOk.cons {d : Fu} {refused but : Nat} {M R1 R cs : List Sd} {c : Sd} (h1 : DfsOk d refused but M R1 [c]) (h2 : DfsOk d refused but R1 R cs) : DfsOk d refused but M R (c :: cs) where
  sub := fun x hx => h2.sub x (h1.sub x hx)
  has := fun x hx => by
    rcases List.mem_cons.1 hx with rfl | hx
    · exact h2.sub _ (h1.has _ (by simp))
    · exact h2.has x hx
  inv := fun Q hQ hc hM => h2.inv Q hQ (fun x hx => hc x (by simp [hx])) (h1.inv Q hQ (fun x hx => hc x (by simp at hx; simp [hx])) hM)
  clo := fun x hx hn => by
    by_cases h : x ∈ R1
    · intro c hc; exact h2.sub c (h1.clo x h hn c hc)
    · exact h2.clo x hx h
theorem dfsM_z (d : Fu) (refused but : Nat) (s : Sd) (M : List Sd) : dfsM d refused but 0 s M = if s ∈ M then M else M ++ [s] := rfl
theorem dfsM_s (d : Fu) (refused but n : Nat) (s : Sd) (M : List Sd) : dfsM d refused but (n + 1) s M = if s ∈ M then M else (kids d refused but s).foldl (fun M c => dfsM d refused but n c M) (M ++ [s]) := rfl
theorem DfsOk.self {d : Fu} {refused but : Nat} {M : List Sd} {s : Sd} (h : s ∈ M) : DfsOk d refused but M M [s] :=
  ⟨fun _ h => h, fun c hc => (by simp at hc; rw [hc]; exact h), fun _ _ _ h => h, fun x h1 h2 => absurd h1 h2⟩
theorem dfsM_ok (d : Fu) (refused but : Nat) : ∀ (n : Nat) (s : Sd) (M : List Sd), s.k + n = d.visits.length → DfsOk d refused but M (dfsM d refused but n s M) [s]
  | 0, s, M, hk => by
    rw [dfsM_z]
    by_cases h : s ∈ M
    · rw [if_pos h]; exact .self h
    · rw [if_neg h]
      have hno : kids d refused but s = [] := by unfold kids; rw [List.getElem?_eq_none (by omega)]
      refine ⟨fun x hx => by simp [hx], fun c hc => by simp at hc; simp [hc], fun Q hQ hc hM x hx => ?_, fun x hx hn c hc => ?_⟩
      · rcases List.mem_append.1 hx with hx | hx
        · exact hM x hx
        · exact hc x hx
      · rcases List.mem_append.1 hx with hx | hx
        · exact absurd hx hn
        · obtain rfl := List.mem_singleton.1 hx
          rw [hno] at hc; cases hc
  | n + 1, s, M, hk => by
    rw [dfsM_s]
    by_cases h : s ∈ M
    · rw [if_pos h]; exact .self h
    · rw [if_neg h]
      have fold : ∀ (cs M : List Sd), (∀ c ∈ cs, c.k + n = d.visits.length) → DfsOk d refused but M (cs.foldl (fun M c => dfsM d refused but n c M) M) cs := by
        intro cs
        induction cs with
        | nil => intro M _; exact .nil _ _ _ _
        | cons c cs ih =>
          intro M hc
          rw [List.foldl_cons]
          exact .cons (dfsM_ok d refused but n c M (hc c (by simp))) (ih _ fun x hx => hc x (by simp [hx]))
      have hf := fold (kids d refused but s) (M ++ [s]) fun c hc => by have := (kids_k hc).1; omega
      refine ⟨fun x hx => hf.sub x (by simp [hx]), fun c hc => hf.sub c (by simp at hc; simp [hc]), fun Q hQ hc hM => ?_, fun x hx hn => ?_⟩
      · refine hf.inv Q hQ (fun c hc' => hQ s c (hc s (by simp)) hc') fun x hx => ?_
        rcases List.mem_append.1 hx with hx | hx
        · exact hM x hx
        · exact hc x hx
      · by_cases hs : x = s
        · subst hs; exact hf.has
        · exact hf.clo x hx (by simp [hn, hs])
theorem allM_ok (d : Fu) (refused but : Nat) : ∀ (ws : List Nat) (M : List Sd), DfsOk d refused but M (ws.foldl (fun M w => dfsM d refused but d.visits.length (start d w) M) M) (ws.map (start d))
  | [], M => .nil _ _ _ _
  | w :: ws, M => by
    rw [List.foldl_cons, List.map_cons]
    exact .cons (dfsM_ok d refused but d.visits.length (start d w) M (by show 0 + _ = _; omega)) (allM_ok d refused but ws _)
theorem mem_allM {d : Fu} {refused but : Nat} {x : Sd} : x ∈ allM d refused but (ways d) ↔ Reach d refused but x := by
  have h := allM_ok d refused but (ways d) []
  constructor
  · intro hx
    refine h.inv (Reach d refused but) (fun x c hx hc => .step hx hc) (fun c hc => ?_) (fun x hx => by cases hx) x hx
    obtain ⟨w, hw, rfl⟩ := List.mem_map.1 hc
    exact .beg hw
  · intro hx
    induction hx with
    | beg hw => exact h.has _ (List.mem_map.2 ⟨_, hw, rfl⟩)
    | step _ hc ih => exact h.clo _ ih (by simp) _ hc
theorem Reach.w {d : Fu} {refused but : Nat} {x : Sd} (h : Reach d refused but x) : x.w ∈ ways d ∧ x.k ≤ d.visits.length := by
  induction h with
  | beg hw => exact ⟨hw, Nat.zero_le _⟩
  | step _ hc ih =>
    obtain ⟨h1, h2, h3⟩ := kids_k hc
    exact ⟨by rw [h2]; exact ih.1, by omega⟩
end Go.Proofs.YthkpjbgadkkeeaaGreat
end
section
namespace Go.Proofs.YthkpjbgadkkeeaaGreat
open Go.Proofs

theorem exists_bits (p : Nat → Bool) : ∀ n, ∃ w, w < 2 ^ n ∧ ∀ i, i < n → w.testBit i = p i
  | 0 => ⟨0, by decide, fun i hi => by omega⟩
  | n + 1 => by
    obtain ⟨w, h1, h2⟩ := exists_bits p n
    have hp : 2 ^ n < 2 ^ (n + 1) := Nat.pow_lt_pow_right (by decide) (by omega)
    have hn : w.testBit n = false := Nat.testBit_lt_two_pow h1
    cases hpn : p n with
    | false =>
      refine ⟨w, by omega, fun i hi => ?_⟩
      by_cases e : i = n
      · subst e; rw [hpn, hn]
      · exact h2 i (by omega)
    | true =>
      refine ⟨w ||| 2 ^ n, Nat.or_lt_two_pow (by omega) hp, fun i hi => ?_⟩
      rw [Nat.testBit_or, Nat.testBit_two_pow]
      by_cases e : i = n
      · subst e; rw [hpn]; simp
      · have : ¬ n = i := fun h => e h.symm
        rw [h2 i (by omega)]; simp [this]
theorem mem_ways {d : Fu} {w : Nat} : w ∈ ways d ↔ w < 2 ^ d.people.length ∧ ∀ (i : Nat) (p : Pe), d.people[i]? = some p → p.widow ≠ 2 → (if w.testBit i then (1 : Int) else 0) = p.widow := by
  unfold ways waysTo okW
  rw [List.mem_filter, List.mem_range, decide_eq_true_eq]
  constructor
  · rintro ⟨h1, h2⟩
    refine ⟨h1, fun i p hp hw => ?_⟩
    have hi := (List.getElem?_eq_some_iff.1 hp).1
    have := firstBad_none h2 i (Nat.zero_le _) (by omega)
    unfold noW at this
    rw [hp] at this
    simp only at this
    by_cases e : (if w.testBit i then (1 : Int) else 0) = p.widow
    · exact e
    · rw [if_pos ⟨hw, e⟩] at this; cases this
  · rintro ⟨h1, h2⟩
    refine ⟨h1, firstBad_zero fun i _ hi => ?_⟩
    unfold noW
    cases hp : d.people[i]? with
    | none => rfl
    | some p =>
      simp only
      rw [if_neg]
      rintro ⟨a, b⟩
      exact b (h2 i p hp a)
theorem fold_max_le : ∀ (l : List Int) (a : Int), a ≤ l.foldl (fun a b => if a < b then b else a) a ∧ ∀ x ∈ l, x ≤ l.foldl (fun a b => if a < b then b else a) a
  | [], a => ⟨Int.le_refl _, fun x hx => by cases hx⟩
  | y :: l, a => by
    rw [List.foldl_cons]
    obtain ⟨h1, h2⟩ := fold_max_le l (if a < y then y else a)
    have : a ≤ (if a < y then y else a) ∧ y ≤ (if a < y then y else a) := by split <;> omega
    refine ⟨by omega, fun x hx => ?_⟩
    rcases List.mem_cons.1 hx with rfl | hx
    · omega
    · exact h2 x hx
theorem le_maxL {l : List Int} {x : Int} (h : x ∈ l) : x ≤ maxL l := by
  cases l with
  | nil => cases h
  | cons y l =>
    obtain ⟨h1, h2⟩ := fold_max_le l y
    rcases List.mem_cons.1 h with rfl | h
    · exact h1
    · exact h2 x h
theorem maxL_mem {l : List Int} (h : l ≠ []) : maxL l ∈ l := maxL_mem_bd (P := fun n => n ∈ l) h fun _ h => h
theorem mem_kids {d : Fu} {refused but : Nat} {s c : Sd} {v : Vi} (hv : d.visits[s.k]? = some v) : c ∈ kids d refused but s ↔
    ((refused.testBit s.k = true ∨ s.w.testBit v.person.toNat = false ∨ comesB d s.k = false) ∧ c = stay s) ∨
    (refused.testBit s.k = false ∧ s.w.testBit v.person.toNat = true ∧ ∃ n ∈ costs d but s.k, c = stepSd s n) := by
  unfold kids
  rw [hv]
  simp only [List.mem_append]
  cases h1 : refused.testBit s.k <;> cases h2 : s.w.testBit v.person.toNat <;> cases h3 : comesB d s.k <;> simp [eq_comm]

def mostR (d : Fu) (refused : Nat) : Nat → Int
  | 0 => 0
  | k + 1 => mostR d refused k + if refused.testBit k = true then 0 else mostAt d k
theorem mostR_zero (d : Fu) : ∀ k, mostR d 0 k = mostTo d k
  | 0 => rfl
  | k + 1 => by
    unfold mostR mostTo
    rw [mostR_zero d k, Nat.zero_testBit, if_neg Bool.false_ne_true]
theorem mostR_up {d : Fu} (ho : d.Ok) (hs : someB d 0 = true) (refused : Nat) {k : Nat} (hk : k < d.visits.length) : mostR d refused k ≤ mostR d refused (k + 1) := by
  have := mostAt_bd ho hs hk
  have e : mostR d refused (k + 1) = mostR d refused k + if refused.testBit k = true then 0 else mostAt d k := rfl
  rw [e]
  split <;> omega
theorem mostR_mono {d : Fu} (ho : d.Ok) (hs : someB d 0 = true) (refused : Nat) {k : Nat} : ∀ {n : Nat}, k ≤ n → n ≤ d.visits.length → mostR d refused k ≤ mostR d refused n
  | 0, h, _ => by obtain rfl : k = 0 := (by omega); exact Int.le_refl _
  | n + 1, h, hn => by
    by_cases e : k = n + 1
    · subst e; exact Int.le_refl _
    · have := mostR_mono ho hs refused (k := k) (n := n) (by omega) (by omega)
      have := mostR_up ho hs refused (k := n) (by omega)
      omega
theorem widow_ne {d : Fu} (ho : d.Ok) {w : Nat} (hw : w ∈ ways d) {v : Vi} {k : Nat} (hv : d.visits[k]? = some v) (hb : w.testBit v.person.toNat = true) : widowOf d v.person.toNat ≠ 0 := by
  have hp := (ho.visit v (List.mem_of_getElem? hv)).person
  have hpl : v.person.toNat < d.people.length := by omega
  have hx := List.getElem?_eq_getElem hpl
  have := (mem_ways.1 hw).2 _ _ hx
  rw [hb] at this
  unfold widowOf
  rw [hx]
  simp only
  intro h0
  have := this (by omega)
  rw [if_pos rfl] at this
  omega
theorem mostAt_eq {d : Fu} {k : Nat} {v : Vi} (hv : d.visits[k]? = some v) : mostAt d k = if widowOf d v.person.toNat ≠ 0 then maxL (costs d 0 k) else 0 := by unfold mostAt; rw [hv]
theorem Reach.inv {d : Fu} (ho : d.Ok) (hs : someB d 0 = true) {refused : Nat} {x : Sd} (h : Reach d refused 0 x) :
    (0 ≤ x.left ∧ x.left ≤ d.pence) ∧ (x.ended = false → d.pence - mostR d refused x.k ≤ x.left) ∧ (x.ended = true → d.pence < mostR d refused x.k) := by
  have hp := ho.pence
  induction h with
  | beg hw => exact ⟨⟨hp.1, Int.le_refl _⟩, fun _ => by show d.pence - 0 ≤ d.pence; omega, fun h => by cases h⟩
  | @step s c hr hc ih =>
    obtain ⟨hk, hw, hl⟩ := kids_k hc
    have hv := List.getElem?_eq_getElem hl
    have hup := mostR_up ho hs refused hl
    obtain ⟨i1, i2, i3⟩ := ih
    rcases (mem_kids hv).1 hc with ⟨_, rfl⟩ | ⟨hrf, hwb, n, hn, rfl⟩
    · refine ⟨i1, fun he => ?_, fun he => ?_⟩
      · have := i2 he
        show d.pence - mostR d refused (s.k + 1) ≤ s.left
        omega
      · have := i3 he
        show d.pence < mostR d refused (s.k + 1)
        omega
    · have hne := widow_ne ho hr.w.1 hv hwb
      have hm := mostAt_eq hv
      rw [if_pos hne] at hm
      have hle := le_maxL hn
      have hb := costs_bd ho hn
      have e : mostR d refused (s.k + 1) = mostR d refused s.k + mostAt d s.k := by
        show mostR d refused s.k + (if refused.testBit s.k = true then 0 else mostAt d s.k) = _
        rw [hrf, if_neg Bool.false_ne_true]
      unfold stepSd
      cases he : s.ended with
      | true =>
        have := i3 he
        rw [Bool.true_or, if_pos rfl]
        refine ⟨i1, fun h => (by cases h), fun _ => ?_⟩
        show d.pence < mostR d refused (s.k + 1)
        omega
      | false =>
        have := i2 he
        by_cases hlt : s.left < n
        · rw [decide_eq_true hlt, Bool.or_true, if_pos rfl]
          refine ⟨i1, fun h => (by cases h), fun _ => ?_⟩
          show d.pence < mostR d refused (s.k + 1)
          omega
        · rw [decide_eq_false hlt, Bool.or_false, if_neg Bool.false_ne_true]
          refine ⟨⟨by show 0 ≤ s.left - n; omega, by show s.left - n ≤ d.pence; omega⟩, fun _ => ?_, fun h => by cases h⟩
          show d.pence - mostR d refused (s.k + 1) ≤ s.left - n
          omega
theorem ways_all {d : Fu} (ho : d.Ok) : ∃ w ∈ ways d, ∀ i, i < d.people.length → w.testBit i = decide (widowOf d i ≠ 0) := by
  obtain ⟨w, h1, h2⟩ := exists_bits (fun i => decide (widowOf d i ≠ 0)) d.people.length
  refine ⟨w, mem_ways.2 ⟨h1, fun i p hp hw => ?_⟩, h2⟩
  have hi := (List.getElem?_eq_some_iff.1 hp).1
  have hb := ho.widow p (List.mem_of_getElem? hp)
  rw [h2 i hi]
  unfold widowOf
  rw [hp]
  simp only
  by_cases e : p.widow = 0
  · simp [e]
  · simp [e]; omega
theorem reach_most {d : Fu} (ho : d.Ok) (hs : someB d 0 = true) (refused : Nat) {w : Nat} (hw : w ∈ ways d) (hb : ∀ i, i < d.people.length → w.testBit i = decide (widowOf d i ≠ 0)) :
    ∀ k, k ≤ d.visits.length → ∃ x, Reach d refused 0 x ∧ x.k = k ∧ x.w = w ∧ (x.ended = true ∨ x.left = d.pence - mostR d refused k)
  | 0, _ => ⟨start d w, .beg hw, rfl, rfl, .inr (by show d.pence = d.pence - 0; omega)⟩
  | k + 1, hk => by
    obtain ⟨s, hr, rfl, rfl, hd⟩ := reach_most ho hs refused hw hb k (by omega)
    have hl : s.k < d.visits.length := by omega
    have hv := List.getElem?_eq_getElem hl
    have hp := (ho.visit _ (List.getElem_mem hl)).person
    have hbp := hb d.visits[s.k].person.toNat (by omega)
    have hm := mostAt_eq hv
    have e : mostR d refused (s.k + 1) = mostR d refused s.k + if refused.testBit s.k = true then 0 else mostAt d s.k := rfl
    by_cases h : refused.testBit s.k = true ∨ s.w.testBit d.visits[s.k].person.toNat = false
    · refine ⟨stay s, .step hr ((mem_kids hv).2 (.inl ⟨?_, rfl⟩)), rfl, rfl, ?_⟩
      · rcases h with h | h
        · exact .inl h
        · exact .inr (.inl h)
      · rcases hd with hd | hd
        · exact .inl hd
        · refine .inr ?_
          show s.left = _
          rw [e]
          rcases h with h | h
          · rw [if_pos h]; omega
          · rw [h] at hbp
            have h0 : ¬ widowOf d d.visits[s.k].person.toNat ≠ 0 := of_decide_eq_false hbp.symm
            rw [if_neg h0] at hm
            rw [hm]
            split <;> omega
    · have h1 : refused.testBit s.k = false := by cases hh : refused.testBit s.k with | false => rfl | true => exact absurd (.inl hh) h
      have h2 : s.w.testBit d.visits[s.k].person.toNat = true := by cases hh : s.w.testBit d.visits[s.k].person.toNat with | true => rfl | false => exact absurd (.inr hh) h
      rw [h2] at hbp
      have h0 : widowOf d d.visits[s.k].person.toNat ≠ 0 := of_decide_eq_true hbp.symm
      rw [if_pos h0] at hm
      refine ⟨stepSd s (maxL (costs d 0 s.k)), .step hr ((mem_kids hv).2 (.inr ⟨h1, h2, _, maxL_mem (some_pos hs hl), rfl⟩)), (stepSd_k _ _).1, (stepSd_k _ _).2, ?_⟩
      rw [e, h1, if_neg Bool.false_ne_true, hm]
      unfold stepSd
      cases he : s.ended with
      | true => exact .inl rfl
      | false =>
        rcases hd with hd | hd
        · rw [he] at hd; cases hd
        by_cases hlt : s.left < maxL (costs d 0 s.k)
        · rw [decide_eq_true hlt]; exact .inl rfl
        · rw [decide_eq_false hlt]
          refine .inr ?_
          show s.left - _ = _
          omega
theorem ended_iff {d : Fu} (ho : d.Ok) (hs : someB d 0 = true) (refused : Nat) : (∃ x, Reach d refused 0 x ∧ x.ended = true) ↔ d.pence < mostR d refused d.visits.length := by
  constructor
  · rintro ⟨x, hr, he⟩
    have h1 := (hr.inv ho hs).2.2 he
    have h2 := mostR_mono ho hs refused hr.w.2 (Nat.le_refl _)
    omega
  · intro hlt
    obtain ⟨w, hw, hb⟩ := ways_all ho
    obtain ⟨x, hr, hk, _, hd⟩ := reach_most ho hs refused hw hb d.visits.length (Nat.le_refl _)
    rcases hd with hd | hd
    · exact ⟨x, hr, hd⟩
    · have := (hr.inv ho hs).1.1
      omega
theorem dayAt_pos {d : Fu} (ho : d.Ok) (k : Nat) : 0 ≤ dayAt d k := by
  unfold dayAt
  cases hv : d.visits[k]? with
  | none => exact Int.le_refl _
  | some v => exact (ho.visit v (List.mem_of_getElem? hv)).day.1
theorem endF_fold {d : Fu} (ho : d.Ok) : ∀ (l : List Sd) (s : Int), ((l.foldl (endF d) s < 0 ↔ s < 0 ∧ ∀ x ∈ l, x.ended = false)) ∧ (∀ x ∈ l, x.ended = true → l.foldl (endF d) s ≤ dayAt d (x.k - 1)) ∧ (0 ≤ s → l.foldl (endF d) s ≤ s) ∧
    (l.foldl (endF d) s = s ∨ ∃ x ∈ l, x.ended = true ∧ l.foldl (endF d) s = dayAt d (x.k - 1))
  | [], s => ⟨⟨fun h => ⟨h, fun x hx => by cases hx⟩, fun h => h.1⟩, fun x hx => (by cases hx), fun _ => Int.le_refl _, .inl rfl⟩
  | y :: l, s => by
    obtain ⟨h1, h2, h3, h4⟩ := endF_fold ho l (endF d s y)
    have hy := dayAt_pos ho (y.k - 1)
    rw [List.foldl_cons]
    generalize l.foldl (endF d) (endF d s y) = r at h1 h2 h3 h4 ⊢
    by_cases hc : y.ended = true ∧ (s < 0 ∨ dayAt d (y.k - 1) < s)
    · have e : endF d s y = dayAt d (y.k - 1) := by unfold endF; rw [if_pos hc]
      rw [e] at h1 h3 h4
      have hr := h3 hy
      refine ⟨⟨fun h => absurd (h1.1 h).1 (by omega), fun h => ?_⟩, fun x hx he => ?_, fun h0 => ?_, ?_⟩
      · have := h.2 y (by simp); rw [hc.1] at this; cases this
      · rcases List.mem_cons.1 hx with rfl | hx
        · exact hr
        · exact h2 x hx he
      · rcases hc.2 with h | h <;> omega
      · rcases h4 with h4 | ⟨x, hx, h5, h6⟩
        · exact .inr ⟨y, by simp, hc.1, h4⟩
        · exact .inr ⟨x, by simp [hx], h5, h6⟩
    · have e : endF d s y = s := by unfold endF; rw [if_neg hc]
      rw [e] at h1 h3 h4
      refine ⟨⟨fun h => ⟨(h1.1 h).1, fun x hx => ?_⟩, fun h => h1.2 ⟨h.1, fun x hx => h.2 x (by simp [hx])⟩⟩, fun x hx he => ?_, h3, ?_⟩
      · rcases List.mem_cons.1 hx with rfl | hx
        · cases he : x.ended with
          | false => rfl
          | true => exact absurd ⟨he, .inl (h1.1 h).1⟩ hc
        · exact (h1.1 h).2 x hx
      · rcases List.mem_cons.1 hx with rfl | hx
        · have : ¬ (s < 0 ∨ dayAt d (x.k - 1) < s) := fun h => hc ⟨he, h⟩
          have := h3 (by omega)
          omega
        · exact h2 x hx he
      · rcases h4 with h4 | ⟨x, hx, h5, h6⟩
        · exact .inl h4
        · exact .inr ⟨x, by simp [hx], h5, h6⟩
theorem ends_iff {d : Fu} (ho : d.Ok) (hs : someB d 0 = true) (refused : Nat) : endsV d refused 0 < 0 ↔ mostR d refused d.visits.length ≤ d.pence := by
  have h := (endF_fold ho (allM d refused 0 (ways d)) (-1)).1
  have hi := ended_iff ho hs refused
  unfold endsV
  rw [h]
  constructor
  · rintro ⟨_, h⟩
    by_cases hlt : d.pence < mostR d refused d.visits.length
    · obtain ⟨x, h1, h2⟩ := hi.2 hlt
      have := h x (mem_allM.2 h1)
      rw [h2] at this; cases this
    · omega
  · intro hle
    refine ⟨by omega, fun x hx => ?_⟩
    cases he : x.ended with
    | false => rfl
    | true => have := hi.1 ⟨x, mem_allM.1 hx, he⟩; omega
end Go.Proofs.YthkpjbgadkkeeaaGreat
end
section
namespace Go.Proofs.YthkpjbgadkkeeaaGreat
open Go.Proofs

theorem ways_some {d : Fu} (ho : d.Ok) : ∃ w, w ∈ ways d := by
  obtain ⟨w, hw, _⟩ := ways_all ho
  exact ⟨w, hw⟩
theorem reach_some {d : Fu} (hs : someB d 0 = true) (refused : Nat) {w : Nat} (hw : w ∈ ways d) : ∀ k, k ≤ d.visits.length → ∃ x, Reach d refused 0 x ∧ x.k = k ∧ x.w = w
  | 0, _ => ⟨start d w, .beg hw, rfl, rfl⟩
  | k + 1, hk => by
    obtain ⟨s, hr, rfl, rfl⟩ := reach_some hs refused hw k (by omega)
    have hl : s.k < d.visits.length := by omega
    have hv := List.getElem?_eq_getElem hl
    by_cases h : refused.testBit s.k = true ∨ s.w.testBit d.visits[s.k].person.toNat = false
    · refine ⟨stay s, .step hr ((mem_kids hv).2 (.inl ⟨?_, rfl⟩)), rfl, rfl⟩
      rcases h with h | h
      · exact .inl h
      · exact .inr (.inl h)
    · have h1 : refused.testBit s.k = false := by cases hh : refused.testBit s.k with | false => rfl | true => exact absurd (.inl hh) h
      have h2 : s.w.testBit d.visits[s.k].person.toNat = true := by cases hh : s.w.testBit d.visits[s.k].person.toNat with | true => rfl | false => exact absurd (.inr hh) h
      exact ⟨stepSd s (maxL (costs d 0 s.k)), .step hr ((mem_kids hv).2 (.inr ⟨h1, h2, _, maxL_mem (some_pos hs hl), rfl⟩)), (stepSd_k _ _).1, (stepSd_k _ _).2⟩

def PaidAt (d : Fu) (k : Nat) : Prop := ∃ x, Reach d 0 0 x ∧ x.k = k ∧ x.paid = true
def NotAt (d : Fu) (k : Nat) : Prop := ∃ x, Reach d 0 0 x ∧ x.k = k ∧ x.paid = false
theorem payF_fold (k : Nat) : ∀ (l : List Sd) (s : Bool × Bool), (((l.foldl (payF k) s).1 = true ↔ s.1 = true ∨ ∃ x ∈ l, x.k = k ∧ x.paid = true) ∧ ((l.foldl (payF k) s).2 = true ↔ s.2 = true ∨ ∃ x ∈ l, x.k = k ∧ x.paid = false))
  | [], s => by simp
  | y :: l, s => by
    obtain ⟨h1, h2⟩ := payF_fold k l (payF k s y)
    rw [List.foldl_cons, h1, h2]
    unfold payF
    by_cases hk : y.k = k
    · rw [if_pos hk]
      cases hp : y.paid <;> simp [hk, hp]
    · rw [if_neg hk]
      simp [hk]
def payOf (d : Fu) (k : Nat) : Int := payV ((allM d 0 0 (ways d)).foldl (payF k) (false, false))
theorem pay_cases (d : Fu) (k : Nat) : (payOf d k = 1 ∧ ¬ NotAt d k) ∨ (payOf d k = 2 ∧ NotAt d k ∧ ¬ PaidAt d k) ∨ (payOf d k = 0 ∧ NotAt d k ∧ PaidAt d k) := by
  obtain ⟨h1, h2⟩ := payF_fold k (allM d 0 0 (ways d)) (false, false)
  have e1 : ((allM d 0 0 (ways d)).foldl (payF k) (false, false)).1 = true ↔ PaidAt d k := by
    rw [h1]
    simp only [Bool.false_eq_true, false_or, mem_allM]
    rfl
  have e2 : ((allM d 0 0 (ways d)).foldl (payF k) (false, false)).2 = true ↔ NotAt d k := by
    rw [h2]
    simp only [Bool.false_eq_true, false_or, mem_allM]
    rfl
  unfold payOf payV
  generalize (allM d 0 0 (ways d)).foldl (payF k) (false, false) = p at e1 e2 ⊢
  obtain ⟨a, b⟩ := p
  simp only at e1 e2 ⊢
  cases b with
  | false => exact .inl ⟨by simp, fun h => by have := e2.2 h; cases this⟩
  | true =>
    cases a with
    | false => exact .inr (.inl ⟨by simp, e2.1 rfl, fun h => by have := e1.2 h; cases this⟩)
    | true => exact .inr (.inr ⟨by simp, e2.1 rfl, e1.1 rfl⟩)

def IsLeft (d : Fu) (k : Nat) (n : Int) : Prop := ∃ x, Reach d 0 0 x ∧ x.k = k ∧ x.left = n
theorem leftF_len (many : Nat) (row : List Int) (x : Sd) : (leftF many row x).length = row.length := by unfold leftF; split <;> simp
theorem leftF_get {many : Nat} {row : List Int} {x : Sd} {i : Nat} (h0 : ∀ i, 0 ≤ row.getD i 0) (hi : i < row.length) (hx : x.k = many → 0 ≤ x.left ∧ x.left.toNat < row.length) :
    (∀ i, 0 ≤ (leftF many row x).getD i 0) ∧ (0 < (leftF many row x).getD i 0 ↔ 0 < row.getD i 0 ∨ (x.k = many ∧ x.left = (i : Int))) := by
  unfold leftF
  by_cases hk : x.k = many
  · rw [if_pos hk]
    obtain ⟨h1, h2⟩ := hx hk
    have hg : ∀ j, (row.set x.left.toNat (row.getD x.left.toNat 0 + 1)).getD j 0 = if x.left.toNat = j then row.getD x.left.toNat 0 + 1 else row.getD j 0 := fun j => by
      rw [List.getD_eq_getElem?_getD, List.getElem?_set]
      by_cases e : x.left.toNat = j
      · rw [if_pos e, if_pos e]
        subst e
        rw [if_pos h2]; rfl
      · rw [if_neg e, if_neg e, List.getD_eq_getElem?_getD]
    refine ⟨fun j => ?_, ?_⟩
    · rw [hg]
      have := h0 x.left.toNat
      have := h0 j
      split <;> omega
    · rw [hg]
      have := h0 x.left.toNat
      by_cases e : x.left.toNat = i
      · rw [if_pos e]
        constructor
        · intro _; exact .inr ⟨hk, by omega⟩
        · intro _; omega
      · rw [if_neg e]
        constructor
        · intro h; exact .inl h
        · rintro (h | ⟨_, h⟩)
          · exact h
          · omega
  · rw [if_neg hk]
    exact ⟨h0, ⟨fun h => .inl h, fun h => by rcases h with h | ⟨h, _⟩; exact h; exact absurd h hk⟩⟩
theorem leftF_fold {many : Nat} : ∀ (l : List Sd) (row : List Int), (∀ i, 0 ≤ row.getD i 0) → (∀ x ∈ l, x.k = many → 0 ≤ x.left ∧ x.left.toNat < row.length) →
    (l.foldl (leftF many) row).length = row.length ∧ (∀ i, 0 ≤ (l.foldl (leftF many) row).getD i 0) ∧ ∀ i, i < row.length → (0 < (l.foldl (leftF many) row).getD i 0 ↔ 0 < row.getD i 0 ∨ ∃ x ∈ l, x.k = many ∧ x.left = (i : Int))
  | [], row, h0, _ => ⟨rfl, h0, fun i _ => by simp⟩
  | y :: l, row, h0, hb => by
    rw [List.foldl_cons]
    have hy := hb y (by simp)
    have hlen := leftF_len many row y
    rcases Nat.eq_zero_or_pos row.length with hz | hpos
    · obtain ⟨h1, h2, h3⟩ := leftF_fold l (leftF many row y) (fun i => by rw [List.getD_eq_getElem?_getD, List.getElem?_eq_none (by omega)]; exact Int.le_refl _) (fun x hx hk => by rw [hlen]; exact hb x (by simp [hx]) hk)
      exact ⟨by omega, h2, fun i hi => by omega⟩
    · obtain ⟨h1, h2, h3⟩ := leftF_fold l (leftF many row y) (leftF_get h0 hpos hy).1 (fun x hx hk => by rw [hlen]; exact hb x (by simp [hx]) hk)
      refine ⟨by omega, h2, fun i hi => ?_⟩
      rw [h3 i (by omega), (leftF_get h0 hi hy).2]
      simp only [List.mem_cons, exists_eq_or_imp]
      exact or_assoc
theorem rowV_len {d : Fu} (ho : d.Ok) (hs : someB d 0 = true) (day : Int) : (rowV d day).length = 301 ∧ ∀ i, i < 301 → (0 < (rowV d day).getD i 0 ↔ IsLeft d (lastTo d day d.visits.length) (i : Int)) := by
  have hp := ho.pence
  have hz : ∀ i, zeros.getD i 0 = 0 := fun i => by
    unfold zeros
    rw [List.getD_eq_getElem?_getD, List.getElem?_replicate]
    split <;> rfl
  obtain ⟨h1, h2, h3⟩ := leftF_fold (many := lastTo d day d.visits.length) (allM d 0 0 (ways d)) zeros (fun i => by rw [hz]; exact Int.le_refl _) (fun x hx _ => by
    have := ((mem_allM.1 hx).inv ho hs).1
    rw [zeros_len]
    omega)
  rw [zeros_len] at h1 h3
  refine ⟨h1, fun i hi => ?_⟩
  unfold rowV
  rw [h3 i hi, hz]
  simp only [Int.lt_irrefl, false_or, mem_allM]
  rfl
theorem lastPos_spec (l : List Int) : ∀ k, (∃ i, i < k ∧ 0 < l.getD i 0) → ∃ i, i < k ∧ lastPos l k = (i : Int) ∧ 0 < l.getD i 0 ∧ ∀ j, j < k → 0 < l.getD j 0 → j ≤ i
  | 0, ⟨i, hi, _⟩ => by omega
  | k + 1, ⟨i, hi, h⟩ => by
    unfold lastPos
    by_cases hk : 0 < l.getD k 0
    · rw [if_pos hk]
      exact ⟨k, by omega, rfl, hk, fun j hj _ => by omega⟩
    · rw [if_neg hk]
      have hne : i ≠ k := fun e => hk (e ▸ h)
      obtain ⟨m, m1, m2, m3, m4⟩ := lastPos_spec l k ⟨i, by omega, h⟩
      refine ⟨m, by omega, m2, m3, fun j hj hp => ?_⟩
      by_cases e : j = k
      · subst e; exact absurd hp hk
      · exact m4 j (by omega) hp
theorem firstPos_spec (l : List Int) (h : ∃ i, i < l.length ∧ 0 < l.getD i 0) : ∃ i, i < l.length ∧ firstPos l = (i : Int) ∧ 0 < l.getD i 0 ∧ ∀ j, 0 < l.getD j 0 → j < l.length → i ≤ j := by
  obtain ⟨i, hi, hp⟩ := h
  have hx := List.getElem?_eq_getElem hi
  rw [List.getD_eq_getElem?_getD, hx] at hp
  have hf : l.findIdx (fun n => decide (0 < n)) < l.length := List.findIdx_lt_length_of_exists ⟨l[i], List.getElem_mem _, decide_eq_true hp⟩
  refine ⟨l.findIdx (fun n => decide (0 < n)), hf, ?_, ?_, fun j hj hjl => ?_⟩
  · unfold firstPos; rw [if_pos hf]
  · have := List.findIdx_getElem (p := fun n => decide ((0 : Int) < n)) (xs := l) (w := hf)
    rw [List.getD_eq_getElem?_getD, List.getElem?_eq_getElem hf]
    exact of_decide_eq_true this
  · rcases Nat.lt_or_ge j (l.findIdx (fun n => decide (0 < n))) with h | h
    · have := List.not_of_lt_findIdx h
      rw [List.getD_eq_getElem?_getD, List.getElem?_eq_getElem hjl] at hj
      have hj : 0 < l[j] := hj
      exact absurd hj (of_decide_eq_false (by simpa using this))
    · exact h
def spanOf (d : Fu) (day : Int) : Int × Int := if rowV d day = zeros then (0, 0) else (firstPos (rowV d day), lastPos (rowV d day) 301)
theorem leftP_eq (d : Fu) (day : Int) : leftP d day = if dayE d day = 0 then (spanOf d day, 0) else ((0, 0), dayE d day) := rfl
theorem left_spec {d : Fu} (ho : d.Ok) (hs : someB d 0 = true) (day : Int) :
    IsLeft d (lastTo d day d.visits.length) (spanOf d day).1 ∧ IsLeft d (lastTo d day d.visits.length) (spanOf d day).2 ∧ ∀ n, IsLeft d (lastTo d day d.visits.length) n → (spanOf d day).1 ≤ n ∧ n ≤ (spanOf d day).2 := by
  have hp := ho.pence
  obtain ⟨h1, h2⟩ := rowV_len ho hs day
  have bd : ∀ n, IsLeft d (lastTo d day d.visits.length) n → ∃ i : Nat, i < 301 ∧ n = (i : Int) ∧ 0 < (rowV d day).getD i 0 := fun n hn => by
    obtain ⟨x, hr, hk, rfl⟩ := hn
    have := (hr.inv ho hs).1
    refine ⟨x.left.toNat, by omega, by omega, (h2 _ (by omega)).2 ⟨x, hr, hk, by omega⟩⟩
  obtain ⟨w, hw⟩ := ways_some ho
  obtain ⟨x, hr, hk, _⟩ := reach_some hs 0 hw (lastTo d day d.visits.length) (lastTo_le _ _ _)
  obtain ⟨i0, b1, b2, b3⟩ := bd x.left ⟨x, hr, hk, rfl⟩
  have hne : rowV d day ≠ zeros := fun e => by
    rw [e] at b3
    unfold zeros at b3
    rw [List.getD_eq_getElem?_getD, List.getElem?_replicate, if_pos b1] at b3
    exact absurd b3 (by simp)
  obtain ⟨i, f1, f2, f3, f4⟩ := firstPos_spec (rowV d day) ⟨i0, by omega, b3⟩
  obtain ⟨j, l1, l2, l3, l4⟩ := lastPos_spec (rowV d day) 301 ⟨i0, b1, b3⟩
  unfold spanOf
  rw [if_neg hne]
  simp only
  rw [f2, l2]
  refine ⟨(h2 i (by omega)).1 f3, (h2 j l1).1 l3, fun n hn => ?_⟩
  obtain ⟨m, m1, rfl, m3⟩ := bd n hn
  have := f4 m m3 (by omega)
  have := l4 m m1 m3
  omega
end Go.Proofs.YthkpjbgadkkeeaaGreat
end
section
namespace Go.Proofs.YthkpjbgadkkeeaaGreat
open Go.Proofs

def Fu.more (d : Fu) (x : Et) : Fu := { d with entries := d.entries ++ [x], ze := 2 }
end Go.Proofs.YthkpjbgadkkeeaaGreat
end
section
namespace Go.Proofs.YthkpjbgadkkeeaaGreat
open Go.Proofs

structure Less (d e : Fu) : Prop where
  visits : e.visits = d.visits
  people : e.people = d.people
  frm : e.frm = d.frm
  opn : e.opn ≤ d.opn
  late : e.late ≤ d.late
  line : ∀ k, e.lines.getD k 0 ≤ d.lines.getD k 0
  ed : d.entries = []
  ee : e.entries = []
theorem some_of {d : Fu} {but : Nat} (h : ∀ k, k < d.visits.length → costs d but k ≠ []) : someB d but = true :=
  decide_eq_true (firstBad_zero fun k _ hk => by unfold noCost; rw [if_neg (h k (by omega))])
end Go.Proofs.YthkpjbgadkkeeaaGreat
end
section
namespace Go.Proofs.YthkpjbgadkkeeaaGreat
open Go.Proofs

end Go.Proofs.YthkpjbgadkkeeaaGreat
end
section
namespace Go.Proofs.YthkpjbgadkkeeaaGreat
open Go.Proofs

theorem bitsL_any (s n : Nat) (k : Nat) (hk : k < n) : ((bitsL s n).any fun x => x == (k : Int)) = s.testBit k := by
  unfold bitsL
  rw [List.any_map, Bool.eq_iff_iff, List.any_eq_true]
  constructor
  · rintro ⟨x, hx, he⟩
    have : x = k := by
      have he : ((x : Int) == (k : Int)) = true := he
      rw [beq_iff_eq] at he
      omega
    subst this
    exact (List.mem_filter.1 hx).2
  · intro h
    exact ⟨k, List.mem_filter.2 ⟨List.mem_range.2 hk, h⟩, by simp⟩
theorem same_bits (d : Fu) (t : Nat) : SameBut d (bitsL t d.entries.length) t := fun i hi => bitsL_any t _ i hi
theorem someR_eq {d : Fu} (ho : d.Ok) {butL : List Int} {but : Nat} (hs : SameBut d butL but) : someR d butL d.visits.length = someB d but := by
  unfold someR
  rw [Bool.eq_iff_iff, List.all_eq_true]
  constructor
  · intro h
    refine some_of fun k hk => ?_
    have := h k (List.mem_range.2 hk)
    rw [costs_ref ho hs] at this
    exact of_decide_eq_true this
  · intro h k hk
    rw [costs_ref ho hs]
    exact decide_eq_true (some_pos h (List.mem_range.1 hk))
theorem same_nil (d : Fu) : SameBut d [] 0 := fun i _ => by simp
theorem someR_nil {d : Fu} (ho : d.Ok) : someR d [] d.visits.length = someB d 0 := someR_eq ho (same_nil d)
end Go.Proofs.YthkpjbgadkkeeaaGreat
end
section
namespace Go.Proofs.YthkpjbgadkkeeaaGreat
open Go.Proofs

def kidsC (d : Fu) (C : Nat → List Int) (refused : Nat) (s : Sd) : List Sd := match d.visits[s.k]? with
  | none => []
  | some v =>
    (if refused.testBit s.k || !s.w.testBit v.person.toNat || !comesB d s.k then [stay s] else []) ++
    (if refused.testBit s.k || !s.w.testBit v.person.toNat then [] else (C s.k).map (stepSd s))
def dfsC (d : Fu) (C : Nat → List Int) (refused : Nat) : Nat → Sd → List Sd → List Sd
  | 0, s, M => if s ∈ M then M else M ++ [s]
  | n + 1, s, M => if s ∈ M then M else (kidsC d C refused s).foldl (fun M c => dfsC d C refused n c M) (M ++ [s])
def allC (d : Fu) (C : Nat → List Int) (refused : Nat) (ws : List Nat) : List Sd := ws.foldl (fun M w => dfsC d C refused d.visits.length (start d w) M) []
theorem kids_C {d : Fu} {C : Nat → List Int} (h : ∀ k, costs d 0 k = C k) (refused : Nat) (s : Sd) : kids d refused 0 s = kidsC d C refused s := by
  unfold kids kidsC
  rw [h]
  cases d.visits[s.k]? <;> rfl
theorem dfs_C {d : Fu} {C : Nat → List Int} (h : ∀ k, costs d 0 k = C k) (refused : Nat) : ∀ (n : Nat) (s : Sd) (M : List Sd), dfsM d refused 0 n s M = dfsC d C refused n s M
  | 0, _, _ => rfl
  | n + 1, s, M => by
    unfold dfsM dfsC
    rw [kids_C h]
    have : (fun M c => dfsM d refused 0 n c M) = fun M c => dfsC d C refused n c M := by funext M c; exact dfs_C h refused n c M
    rw [this]
theorem all_C {d : Fu} {C : Nat → List Int} (h : ∀ k, costs d 0 k = C k) (refused : Nat) (ws : List Nat) : allM d refused 0 ws = allC d C refused ws := by
  unfold allM allC
  congr 1
  funext M w
  exact dfs_C h refused _ _ _
def rowC (d : Fu) (C : Nat → List Int) (many : Nat) : List Int := (allC d C 0 (ways d)).filterMap fun x => if x.k = many then some x.left else none
def minC : List Int → Int
  | [] => 0
  | x :: xs => xs.foldl (fun a b => if b < a then b else a) x
theorem fold_min_le : ∀ (l : List Int) (a : Int), l.foldl (fun a b => if b < a then b else a) a ≤ a ∧ (∀ x ∈ l, l.foldl (fun a b => if b < a then b else a) a ≤ x) ∧ (l.foldl (fun a b => if b < a then b else a) a = a ∨ l.foldl (fun a b => if b < a then b else a) a ∈ l)
  | [], a => ⟨Int.le_refl _, fun x hx => (by cases hx), .inl rfl⟩
  | y :: l, a => by
    rw [List.foldl_cons]
    obtain ⟨h1, h2, h3⟩ := fold_min_le l (if y < a then y else a)
    have : (if y < a then y else a) ≤ a ∧ (if y < a then y else a) ≤ y := by split <;> omega
    refine ⟨by omega, fun x hx => ?_, ?_⟩
    · rcases List.mem_cons.1 hx with rfl | hx
      · omega
      · exact h2 x hx
    · rcases h3 with h3 | h3
      · rw [h3]
        split
        · exact .inr (by simp)
        · exact .inl rfl
      · exact .inr (by simp [h3])
theorem minC_le {l : List Int} {x : Int} (h : x ∈ l) : minC l ≤ x := by
  cases l with
  | nil => cases h
  | cons y l =>
    obtain ⟨h1, h2, _⟩ := fold_min_le l y
    rcases List.mem_cons.1 h with rfl | h
    · exact h1
    · exact h2 x h
theorem minC_mem {l : List Int} (h : l ≠ []) : minC l ∈ l := by
  cases l with
  | nil => exact absurd rfl h
  | cons y l =>
    obtain ⟨_, _, h3⟩ := fold_min_le l y
    have e : minC (y :: l) = l.foldl (fun a b => if b < a then b else a) y := rfl
    rw [e]
    rcases h3 with h3 | h3
    · rw [h3]; simp
    · simp [h3]
theorem row_C {d : Fu} {C : Nat → List Int} (h : ∀ k, costs d 0 k = C k) (many : Nat) (n : Int) : n ∈ rowC d C many ↔ IsLeft d many n := by
  unfold rowC
  rw [← all_C h, List.mem_filterMap]
  constructor
  · rintro ⟨x, hx, he⟩
    by_cases hk : x.k = many
    · rw [if_pos hk] at he
      exact ⟨x, mem_allM.1 hx, hk, Option.some.inj he⟩
    · rw [if_neg hk] at he; cases he
  · rintro ⟨x, hx, hk, he⟩
    exact ⟨x, mem_allM.2 hx, by rw [if_pos hk, he]⟩
theorem span_C {d : Fu} (ho : d.Ok) (hs : someB d 0 = true) {C : Nat → List Int} (h : ∀ k, costs d 0 k = C k) (day : Int) : spanOf d day = (minC (rowC d C (lastTo d day d.visits.length)), maxL (rowC d C (lastTo d day d.visits.length))) := by
  obtain ⟨h1, h2, h3⟩ := left_spec ho hs day
  have r := row_C h (lastTo d day d.visits.length)
  have hne : rowC d C (lastTo d day d.visits.length) ≠ [] := fun e => by
    have := (r _).2 h1
    rw [e] at this; cases this
  have a1 := minC_le ((r _).2 h1)
  have a2 := le_maxL ((r _).2 h2)
  have a3 := h3 _ ((r _).1 (minC_mem hne))
  have a4 := h3 _ ((r _).1 (maxL_mem hne))
  exact Prod.ext (by show (spanOf d day).1 = minC _; omega) (by show (spanOf d day).2 = maxL _; omega)
theorem left_C {d : Fu} (ho : d.Ok) (hs : someB d 0 = true) {C : Nat → List Int} (h : ∀ k, costs d 0 k = C k) (day : Int) (hd : dayE d day = 0) : leftP d day = ((minC (rowC d C (lastTo d day d.visits.length)), maxL (rowC d C (lastTo d day d.visits.length))), 0) := by
  rw [leftP_eq, if_pos hd, span_C ho hs h]
theorem ends_C {d : Fu} {C : Nat → List Int} (h : ∀ k, costs d 0 k = C k) (refused : Nat) : endsV d refused 0 = (allC d C refused (ways d)).foldl (endF d) (-1) := by unfold endsV; rw [all_C h]
theorem pay_C {d : Fu} {C : Nat → List Int} (h : ∀ k, costs d 0 k = C k) (k : Nat) : payOf d k = payV ((allC d C 0 (ways d)).foldl (payF k) (false, false)) := by unfold payOf; rw [all_C h]
def mostAtC (d : Fu) (C : Nat → List Int) (k : Nat) : Int := match d.visits[k]? with
  | some v => if widowOf d v.person.toNat ≠ 0 then maxL (C k) else 0
  | none => 0
def mostRC (d : Fu) (C : Nat → List Int) (refused : Nat) : Nat → Int
  | 0 => 0
  | k + 1 => mostRC d C refused k + if refused.testBit k = true then 0 else mostAtC d C k
theorem most_C {d : Fu} {C : Nat → List Int} (h : ∀ k, costs d 0 k = C k) (refused : Nat) : ∀ k, mostR d refused k = mostRC d C refused k
  | 0 => rfl
  | k + 1 => by
    unfold mostR mostRC
    rw [most_C h refused k]
    unfold mostAt mostAtC
    rw [h]
    cases d.visits[k]? <;> rfl
theorem bestW_congr {P Q : Nat → Bool} (h : ∀ s, P s = Q s) (n : Nat) : ∀ k, bestW P n k = bestW Q n k
  | 0 => rfl
  | k + 1 => by
    unfold bestW
    rw [bestW_congr h n k]
    unfold stepW
    rw [h]
theorem visitE_eq {d : Fu} {n : Int} (hc : checkE d = 0) (hi : idxE n d.visits.length 4 = 0) (hs : someB d 0 = true) : visitE d n = 0 := by
  unfold visitE enterE; rw [if_pos hc, if_pos hi, if_pos hs]
theorem dayE_eq {d : Fu} {n : Int} (hc : checkE d = 0) (hi : idxE n d.days 7 = 0) (hs : someB d 0 = true) : dayE d n = 0 := by
  unfold dayE enterE; rw [if_pos hc, if_pos hi, if_pos hs]
theorem enter_eq {d : Fu} (hc : checkE d = 0) (hs : someB d 0 = true) : enterE d 0 = 0 := by
  unfold enterE; rw [if_pos hc, if_pos rfl, if_pos hs]
end Go.Proofs.YthkpjbgadkkeeaaGreat
end
section
namespace Go.Proofs.YthkpjbgadkkeeaaGreat
open Go.Proofs

def ana : ByteArray := ⟨#[97, 110, 97]⟩
def rosa : ByteArray := ⟨#[114, 111, 115, 97]⟩
def luz : ByteArray := ⟨#[108, 117, 122]⟩
def fX (p : Int) (es : List Et) (z : Nat) : Fu := ⟨p, 3, 2, 3, 18, [1, 2], [⟨ana, 1⟩, ⟨rosa, 2⟩, ⟨luz, 0⟩],
  [⟨0, 0, 0, 4, 6, 10, 10, true⟩, ⟨1, 1, 1, 3, 4, 17, 18, true⟩, ⟨2, 1, 0, 1, 1, 9, 9, true⟩, ⟨0, 2, 1, 5, 5, 20, 20, false⟩], es, 1, 2, 8, z⟩
def dA : Fu := fX 30 [] 0
def dB : Fu := fX 30 [⟨1, 9⟩, ⟨3, 15⟩] 2
def dC : Fu := fX 30 [⟨3, 15⟩] 2
def dD : Fu := fX 100 [⟨3, 15⟩] 2
theorem chkA : checkE dA = 0 := by kernel_rfl
theorem chkB : checkE dB = 0 := by kernel_rfl
theorem chkC : checkE dC = 0 := by kernel_rfl
theorem chkD : checkE dD = 0 := by kernel_rfl
theorem hA (k : Nat) : costs dA 0 k = refCosts dA [] k := (costs_ref (ok_of_check chkA) (same_nil _) k).symm
theorem hC (k : Nat) : costs dC 0 k = refCosts dC [] k := (costs_ref (ok_of_check chkC) (same_nil _) k).symm
theorem hD (k : Nat) : costs dD 0 k = refCosts dD [] k := (costs_ref (ok_of_check chkD) (same_nil _) k).symm
theorem smA : someB dA 0 = true := by rw [← someR_nil (ok_of_check chkA)]; kernel_rfl
theorem smB : someB dB 0 = false := by rw [← someR_nil (ok_of_check chkB)]; kernel_rfl
theorem smC : someB dC 0 = true := by rw [← someR_nil (ok_of_check chkC)]; kernel_rfl
theorem smD : someB dD 0 = true := by rw [← someR_nil (ok_of_check chkD)]; kernel_rfl
theorem fees_at {d : Fu} {n : Int} (hc : checkE d = 0) (hi : idxE n d.visits.length 4 = 0) (hs : someB d 0 = true) : feesP d n = (refCosts d [] n.toNat, 0) := by
  unfold feesP; rw [if_pos (visitE_eq hc hi hs), costs_ref (ok_of_check hc) (same_nil _)]
theorem pays_at {d : Fu} {n : Int} (hc : checkE d = 0) (hi : idxE n d.visits.length 4 = 0) (hs : someB d 0 = true) : paysP d n = (payOf d (n.toNat + 1), 0) := by
  unfold paysP; rw [if_pos (visitE_eq hc hi hs)]; rfl
theorem e11 : feesP dA 1 = ([8, 10, 11, 13], 0) := by rw [fees_at chkA (by kernel_rfl) smA]; kernel_rfl
theorem e16 : leftP dA 1 = ((9, 24), 0) := by rw [left_C (ok_of_check chkA) smA hA 1 (dayE_eq chkA (by kernel_rfl) smA)]; kernel_rfl
theorem e16b : leftP dC 2 = ((0, 14), 0) := by rw [left_C (ok_of_check chkC) smC hC 2 (dayE_eq chkC (by kernel_rfl) smC)]; kernel_rfl
theorem e17 : paysP dA 0 = (1, 0) := by rw [pays_at chkA (by kernel_rfl) smA, pay_C hA]; kernel_rfl
theorem e17b : paysP dA 3 = (0, 0) := by rw [pays_at chkA (by kernel_rfl) smA, pay_C hA]; kernel_rfl
theorem e17c : paysP dA 2 = (2, 0) := by rw [pays_at chkA (by kernel_rfl) smA, pay_C hA]; kernel_rfl
theorem e22 : endsP dA = (2, 0) := by unfold endsP; rw [if_pos (enter_eq chkA smA), ends_C hA]; kernel_rfl
theorem e22b : endsP dB = (0, 8) := by
  have : enterE dB 0 = 8 := by unfold enterE; rw [if_pos chkB, if_pos rfl, smB]; rfl
  unfold endsP; rw [this]; rfl
theorem e22c : endsP dD = (0, 9) := by unfold endsP; rw [if_pos (enter_eq chkD smD), ends_C hD]; kernel_rfl
theorem e20 : needP dA = (6, 0) := by unfold needP; rw [if_pos (enter_eq chkA smA), ← mostR_zero, most_C hA]; kernel_rfl
theorem e29 : refuseP dA = ([0], 0) := by
  unfold refuseP
  rw [if_pos (enter_eq chkA smA), bestW_congr (Q := fun w => decide (mostRC dA (refCosts dA []) w dA.visits.length ≤ dA.pence)) fun s => by
    rw [Bool.eq_iff_iff, decide_eq_true_eq, decide_eq_true_eq, ends_iff (ok_of_check chkA) smA, most_C hA]]
  kernel_rfl
theorem e18 : wrongP dB = ([0], 0) := by
  unfold wrongP
  rw [if_pos chkB, bestW_congr (Q := fun w => someR dB (bitsL w dB.entries.length) dB.visits.length) fun s => (someR_eq (ok_of_check chkB) (same_bits _ _)).symm]
  kernel_rfl
end Go.Proofs.YthkpjbgadkkeeaaGreat
end
section
namespace Go.Proofs.YthkpjbgadkkeeaaGreat
open Go.Proofs

theorem c19 (a b : Int) (h : Heap) : callPure (EW tabX) 28 [.int .i64 a, .int .i64 b] h = some (eSp (a, b), h) := by
  rw [callPure_eq, w_call _ fn_28 rfl]
  simp only [go_sem, ↓reduceIte, Nat.reduceBEq, Nat.reduceEqDiff, Nat.reduceLT, Nat.reduceLeDiff, Nat.reduceAdd, Nat.reduceMul, Nat.reduceSub, reduceCtorEq, Int.reduceLT, Int.reduceLE, Int.reduceEq, Int.reduceBEq, Int.reduceBNe, Int.reduceToNat, Int.reduceAdd, Int.reduceNeg, Int.reduceSub, eSp]
theorem c56 (a b : Int) (h : Heap) : callPure (EW tabX) 56 [.int .i64 a, .int .i64 b] h = some (eEt ⟨a, b⟩, h) := by
  rw [callPure_eq, w_call _ fn_56 rfl]
  simp only [go_sem, ↓reduceIte, Nat.reduceBEq, Nat.reduceEqDiff, Nat.reduceLT, Nat.reduceLeDiff, Nat.reduceAdd, Nat.reduceMul, Nat.reduceSub, reduceCtorEq, Int.reduceLT, Int.reduceLE, Int.reduceEq, Int.reduceBEq, Int.reduceBNe, Int.reduceToNat, Int.reduceAdd, Int.reduceNeg, Int.reduceSub, eEt]
theorem c15 (es : List Et) (z : Nat) (h : Heap) : callPure (EW tabX) 55 [.lst 0 z (es.map eEt)] h = some (eF (fX 30 es z), h) := by
  rw [callPure_eq, w_call _ fn_55 rfl]
  simp only [go_sem, ↓reduceIte, Nat.reduceBEq, Nat.reduceEqDiff, Nat.reduceLT, Nat.reduceLeDiff, Nat.reduceAdd, Nat.reduceMul, Nat.reduceSub, reduceCtorEq, Int.reduceLT, Int.reduceLE, Int.reduceEq, Int.reduceBEq, Int.reduceBNe, Int.reduceToNat, Int.reduceAdd, Int.reduceNeg, Int.reduceSub, c19, eSp, eF, eFc, fX, List.map_cons, List.map_nil, ePe, eVi, I_c, I_nil, ana, rosa, luz]
  skip
end Go.Proofs.YthkpjbgadkkeeaaGreat
end
section
namespace Go.Proofs.YthkpjbgadkkeeaaGreat
open Go.Proofs

theorem fits_X (p : Int) (es : List Et) (z : Nat) (hz : es ≠ [] → z = 2) (hl : es.length < 1000000000000000000) : (fX p es z).fits :=
  ⟨fun _ => rfl, fun _ => rfl, fun _ => rfl, hz, by simp [fX], by simp [fX], by simp [fX], hl, by intro c hc; simp only [fX, List.mem_cons, List.mem_nil_iff, or_false] at hc; rcases hc with rfl | rfl | rfl <;> decide⟩
theorem fitA : dA.fits := fits_X _ _ _ (fun h => absurd rfl h) (by decide)
theorem fitB : dB.fits := fits_X _ _ _ (fun _ => rfl) (by decide)
theorem fitC : dC.fits := fits_X _ _ _ (fun _ => rfl) (by decide)
theorem fitD : dD.fits := fits_X _ _ _ (fun _ => rfl) (by decide)
theorem k11 (h : Heap) : callPure (EW tabX) 34 [eF dA, .int .i64 1] h = some (vP ([8, 10, 11, 13], 0), h) := by rw [c11 _ fitA, e11]
theorem k16 (h : Heap) : callPure (EW tabX) 11 [eF dA, .int .i64 1] h = some (vT ((9, 24), 0), h) := by rw [c16 _ fitA, e16]
theorem k16b (h : Heap) : callPure (EW tabX) 11 [eF dC, .int .i64 2] h = some (vT ((0, 14), 0), h) := by rw [c16 _ fitC, e16b]
theorem k17 (h : Heap) : callPure (EW tabX) 13 [eF dA, .int .i64 0] h = some (vQ (1, 0), h) := by rw [c17 _ fitA, e17]
theorem k17b (h : Heap) : callPure (EW tabX) 13 [eF dA, .int .i64 3] h = some (vQ (0, 0), h) := by rw [c17 _ fitA, e17b]
theorem k17c (h : Heap) : callPure (EW tabX) 13 [eF dA, .int .i64 2] h = some (vQ (2, 0), h) := by rw [c17 _ fitA, e17c]
theorem k22 (h : Heap) : callPure (EW tabX) 16 [eF dA] h = some (vQ (2, 0), h) := by rw [c22 _ fitA, e22]
theorem k22b (h : Heap) : callPure (EW tabX) 16 [eF dB] h = some (vQ (0, 8), h) := by rw [c22 _ fitB, e22b]
theorem k22c (h : Heap) : callPure (EW tabX) 16 [eF dD] h = some (vQ (0, 9), h) := by rw [c22 _ fitD, e22c]
theorem k20 (h : Heap) : callPure (EW tabX) 18 [eF dA] h = some (vQ (6, 0), h) := by rw [c20 _ fitA, e20]
theorem k29 (h : Heap) : callPure (EW tabX) 20 [eF dA] h = some (vP ([0], 0), h) := by rw [c29 _ fitA, e29]
theorem k18 (h : Heap) : callPure (EW tabX) 23 [eF dB] h = some (vP ([0], 0), h) := by rw [c18 _ fitB, e18]
set_option maxRecDepth 100000 in
set_option maxHeartbeats 1000000 in
theorem c14 (h : Heap) : callPure (EW tabX) 15 [] h = some (.bool true, h) := by
  have i1 := c15 [] 0
  have i2 := c15 [⟨1, 9⟩, ⟨3, 15⟩] 2
  have i3 := c15 [⟨3, 15⟩] 2
  have q1 := k11
  have q2 := k16
  have q3 := k16b
  have q4 := k17
  have q5 := k17b
  have q6 := k17c
  have q7 := k22
  have q8 := k22b
  have q9 := k22c
  have q10 := k20
  have q11 := k29
  have q12 := k18
  have e1 := c13 [8, 10, 11, 13] [8, 10, 11, 13] 1 1 (fun _ => rfl) (fun _ => rfl) (by decide) (by decide)
  have e2 := c13 [0] [0] 1 1 (fun _ => rfl) (fun _ => rfl) (by decide) (by decide)
  have eX : ∀ (p : Int) (es : List Et) (z : Nat), eF (fX p es z) = .agg [.int .i64 p, .int .i64 3, .int .i64 2, .int .i64 3, .int .i64 18, .lst 0 1 (I [1, 2]), .lst 0 2 ((fX 0 [] 0).people.map ePe), .lst 0 8 ((fX 0 [] 0).visits.map eVi), .lst 0 z (es.map eEt)] := fun _ _ _ => rfl
  rw [callPure_eq, w_call _ fn_15 rfl]
  simp only [dA, dB, dC, dD, eX, vP, vI, vT, vQ, eSp, List.map_cons, List.map_nil, eEt, I_c, I_nil, decide_true] at *
  generalize (fX 0 [] 0).people = pe at *
  generalize (fX 0 [] 0).visits = vs at *
  simp only [go_sem, ↓reduceIte, Nat.reduceBEq, Nat.reduceEqDiff, Nat.reduceLT, Nat.reduceLeDiff, Nat.reduceAdd, Nat.reduceMul, Nat.reduceSub, reduceCtorEq, Int.reduceLT, Int.reduceLE, Int.reduceEq, Int.reduceBEq, Int.reduceBNe, Int.reduceToNat, Int.reduceAdd, Int.reduceNeg, Int.reduceSub, zipFrom_nil, List.append_eq, i1, i2, i3, q1, q2, q3, q4, q5, q6, q7, q8, q9, q10, q11, q12, e1, e2, c19, c56, eSp, eEt, I_c, I_nil, aggBin, decide_true]
  skip
end Go.Proofs.YthkpjbgadkkeeaaGreat
end
section
namespace Go.Proofs.YthkpjbgadkkeeaaGreat
open Go.Proofs

structure Alike (d e : Fu) : Prop where
  pence : 0 ≤ e.pence ∧ e.pence ≤ 300
  days : e.days = d.days
  opn : 0 ≤ e.opn ∧ e.opn ≤ 9
  late : 0 ≤ e.late ∧ e.late ≤ 9
  frm : e.frm = d.frm
  len : e.lines.length = d.lines.length
  line : ∀ n ∈ e.lines, 0 ≤ n ∧ n ≤ 9
  people : e.people = d.people
  visits : e.visits = d.visits
  entries : e.entries = d.entries ∨ e.entries = []
theorem eF_eq (d : Fu) : eF d = .agg [.int .i64 d.pence, .int .i64 d.days, .int .i64 d.opn, .int .i64 d.late, .int .i64 d.frm, .lst 0 d.zl (I d.lines), .lst 0 d.zp (d.people.map ePe), .lst 0 d.zv (d.visits.map eVi), .lst 0 d.ze (d.entries.map eEt)] := rfl
end Go.Proofs.YthkpjbgadkkeeaaGreat
end
section
namespace Go.Proofs.YthkpjbgadkkeeaaGreat
open Go.Proofs

end Go.Proofs.YthkpjbgadkkeeaaGreat
end
section
namespace Go.Proofs.YthkpjbgadkkeeaaGreat
open Go.Proofs

theorem ne_same (x : Int) : (x != x) = false := by simp
end Go.Proofs.YthkpjbgadkkeeaaGreat
end
section
namespace Go.Proofs.YthkpjbgadkkeeaaGreat
open Go.Proofs

def whoAt (d : Fu) (k : Nat) : Nat := match d.visits[k]? with | some v => v.person.toNat | none => 0
theorem reach_pred {d : Fu} {s : Sd} (h : Reach d 0 0 s) {k : Nat} (hk : s.k = k + 1) : ∃ y, Reach d 0 0 y ∧ y.k = k ∧ s ∈ kids d 0 0 y ∧ y.w = s.w := by
  cases h with
  | beg hw => cases hk
  | @step y _ hr hc =>
    obtain ⟨h1, h2, _⟩ := kids_k hc
    exact ⟨y, hr, by omega, hc, h2.symm⟩
theorem reach_zero {d : Fu} {s : Sd} (h : Reach d 0 0 s) (hk : s.k = 0) : s = start d s.w := by
  cases h with
  | beg hw => rfl
  | step hr hc => have := (kids_k hc).1; omega
end Go.Proofs.YthkpjbgadkkeeaaGreat
end
section
namespace Go.Proofs.YthkpjbgadkkeeaaGreat
open Go.Proofs

def falses : List Bool := List.replicate 1204 false
theorem falses_len : falses.length = 1204 := List.length_replicate
theorem falses_get (i : Nat) : falses.getD i false = false := by
  unfold falses
  rw [List.getD_eq_getElem?_getD, List.getElem?_replicate]
  split <;> rfl
def setAll (o : List Bool) (l : List Nat) : List Bool := l.foldl (fun o i => o.set i true) o
theorem set_getD (o : List Bool) (i j : Nat) (hj : j < o.length) : (o.set i true).getD j false = true ↔ o.getD j false = true ∨ i = j := by
  rw [List.getD_eq_getElem?_getD, List.getElem?_set, List.getD_eq_getElem?_getD]
  by_cases e : i = j
  · subst e; rw [if_pos rfl, if_pos hj]; simp
  · rw [if_neg e]; simp [e]
theorem setAll_len : ∀ (l : List Nat) (o : List Bool), (setAll o l).length = o.length
  | [], o => rfl
  | i :: l, o => by
    show (setAll (o.set i true) l).length = _
    rw [setAll_len l, List.length_set]
theorem setAll_get : ∀ (l : List Nat) (o : List Bool) (j : Nat), j < o.length → ((setAll o l).getD j false = true ↔ o.getD j false = true ∨ j ∈ l)
  | [], o, j, _ => by simp [setAll]
  | i :: l, o, j, hj => by
    show (setAll (o.set i true) l).getD j false = true ↔ _
    rw [setAll_get l (o.set i true) j (by rw [List.length_set]; exact hj), set_getD o i j hj, List.mem_cons, or_assoc]
    constructor
    · rintro (h | h | h)
      · exact .inl h
      · exact .inr (.inl h.symm)
      · exact .inr (.inr h)
    · rintro (h | h | h)
      · exact .inl h
      · exact .inr (.inl h.symm)
      · exact .inr (.inr h)
def markS (left : Int) (ended paid : Bool) : Nat := 4 * left.toNat + (if ended then 2 else 0) + (if paid then 1 else 0)
def mkOf (s : Sd) : Nat := markS s.left s.ended s.paid
def behI (m : Nat) (c : Int) : Nat := if m % 4 / 2 = 1 ∨ ((m / 4 : Nat) : Int) < c then 4 * (m / 4) + 2 else 4 * (m / 4 - c.toNat) + 1
def stayI (m : Nat) : Nat := 4 * (m / 4) + 2 * (m % 4 / 2)
def nextI (d : Fu) (k : Nat) (w : Bool) (m : Nat) : List Nat := (if !w || !comesB d k then [stayI m] else []) ++ (if w then (costs d 0 k).map (behI m) else [])
def stepM (d : Fu) (k : Nat) (w : Bool) (x : List Bool) (o : List Bool) (m : Nat) : List Bool := if x.getD m false = true then setAll o (nextI d k w m) else o
def ofTo (d : Fu) (k : Nat) (w : Bool) (x : List Bool) : Nat → List Bool
  | 0 => falses
  | m + 1 => stepM d k w x (ofTo d k w x m) m
theorem stepM_len (d : Fu) (k : Nat) (w : Bool) (x o : List Bool) (m : Nat) : (stepM d k w x o m).length = o.length := by unfold stepM; split; exact setAll_len _ _; rfl
theorem ofTo_len (d : Fu) (k : Nat) (w : Bool) (x : List Bool) : ∀ m, (ofTo d k w x m).length = 1204
  | 0 => falses_len
  | m + 1 => by show (stepM _ _ _ _ _ _).length = _; rw [stepM_len, ofTo_len d k w x m]
theorem ofTo_get (d : Fu) (k : Nat) (w : Bool) (x : List Bool) (j : Nat) (hj : j < 1204) : ∀ n, (ofTo d k w x n).getD j false = true ↔ ∃ m, m < n ∧ x.getD m false = true ∧ j ∈ nextI d k w m
  | 0 => by
    show falses.getD j false = true ↔ _
    rw [falses_get]; simp
  | n + 1 => by
    have ih := ofTo_get d k w x j hj n
    show (stepM d k w x (ofTo d k w x n) n).getD j false = true ↔ _
    have hs : (stepM d k w x (ofTo d k w x n) n).getD j false = true ↔ (ofTo d k w x n).getD j false = true ∨ (x.getD n false = true ∧ j ∈ nextI d k w n) := by
      unfold stepM
      by_cases hx : x.getD n false = true
      · rw [if_pos hx, setAll_get _ _ _ (by rw [ofTo_len]; exact hj)]; exact ⟨fun h => h.imp_right fun g => ⟨hx, g⟩, fun h => h.imp_right fun g => g.2⟩
      · rw [if_neg hx]; exact ⟨.inl, fun h => h.elim id fun g => absurd g.1 hx⟩
    rw [hs, ih]
    constructor
    · rintro (⟨m, h1, h2⟩ | h)
      · exact ⟨m, by omega, h2⟩
      · exact ⟨n, by omega, h⟩
    · rintro ⟨m, h1, h2⟩
      by_cases e : m = n
      · subst e; exact .inr h2
      · exact .inl ⟨m, by omega, h2⟩
def refX (d : Fu) (ws : List Bool) : Nat → List Bool
  | 0 => falses.set (4 * d.pence.toNat) true
  | k + 1 => ofTo d k (ws.getD (whoAt d k) false) (refX d ws k) 1204
theorem refX_len (d : Fu) (ws : List Bool) : ∀ k, (refX d ws k).length = 1204
  | 0 => by show (List.set _ _ _).length = _; rw [List.length_set, falses_len]
  | k + 1 => ofTo_len _ _ _ _ _
theorem mark_parts (left : Int) (ended paid : Bool) (h : 0 ≤ left ∧ left ≤ 300) : markS left ended paid < 1204 ∧ (markS left ended paid / 4 = left.toNat) ∧ (markS left ended paid % 4 / 2 = if ended then 1 else 0) ∧ (markS left ended paid % 2 = if paid then 1 else 0) := by
  unfold markS
  cases ended <;> cases paid <;> simp <;> omega
theorem mark_step {s : Sd} (h : 0 ≤ s.left ∧ s.left ≤ 300) {c : Int} (hc : 0 ≤ c) : mkOf (stepSd s c) = behI (mkOf s) c := by
  obtain ⟨h1, h2, h3, h4⟩ := mark_parts s.left s.ended s.paid h
  unfold behI stepSd
  have e : mkOf s = markS s.left s.ended s.paid := rfl
  rw [e, h2, h3]
  cases he : s.ended with
  | true =>
    rw [Bool.true_or, if_pos rfl, if_pos (.inl rfl)]
    show markS s.left true false = _
    unfold markS
    simp
  | false =>
    rw [Bool.false_or]
    have hn : ¬ (if false = true then (1 : Nat) else 0) = 1 := by decide
    by_cases hlt : s.left < c
    · rw [decide_eq_true hlt, if_pos rfl, if_pos (.inr (by omega))]
      show markS s.left true false = _
      unfold markS
      simp
    · rw [decide_eq_false hlt, if_neg Bool.false_ne_true, if_neg (by rintro (h | h); exact hn h; omega)]
      show markS (s.left - c) false true = _
      unfold markS
      have : (s.left - c).toNat = s.left.toNat - c.toNat := by omega
      simp only [this, Bool.false_eq_true, if_false, if_true, Nat.add_zero]
theorem mark_stay {s : Sd} (h : 0 ≤ s.left ∧ s.left ≤ 300) : mkOf (stay s) = stayI (mkOf s) := by
  obtain ⟨h1, h2, h3, h4⟩ := mark_parts s.left s.ended s.paid h
  unfold stayI
  have e : mkOf s = markS s.left s.ended s.paid := rfl
  rw [e, h2, h3]
  show markS s.left s.ended false = _
  unfold markS
  cases s.ended <;> simp
theorem next_kids {d : Fu} (ho : d.Ok) {s : Sd} (h : 0 ≤ s.left ∧ s.left ≤ 300) {v : Vi} (hv : d.visits[s.k]? = some v) (j : Nat) :
    j ∈ nextI d s.k (s.w.testBit v.person.toNat) (mkOf s) ↔ ∃ c ∈ kids d 0 0 s, mkOf c = j := by
  unfold nextI
  rw [List.mem_append]
  constructor
  · rintro (hj | hj)
    · by_cases hc : (!s.w.testBit v.person.toNat || !comesB d s.k) = true
      · rw [if_pos hc] at hj
        obtain rfl := List.mem_singleton.1 hj
        refine ⟨stay s, (mem_kids hv).2 (.inl ⟨?_, rfl⟩), mark_stay h⟩
        rw [Bool.or_eq_true, Bool.not_eq_true', Bool.not_eq_true'] at hc
        exact .inr hc
      · rw [if_neg hc] at hj; cases hj
    · by_cases hw : s.w.testBit v.person.toNat = true
      · rw [if_pos hw] at hj
        obtain ⟨n, hn, rfl⟩ := List.mem_map.1 hj
        exact ⟨stepSd s n, (mem_kids hv).2 (.inr ⟨Nat.zero_testBit _, hw, n, hn, rfl⟩), mark_step h (costs_bd ho hn).1⟩
      · rw [if_neg hw] at hj; cases hj
  · rintro ⟨c, hc, rfl⟩
    rcases (mem_kids hv).1 hc with ⟨hx, rfl⟩ | ⟨_, hw, n, hn, rfl⟩
    · left
      rw [if_pos, mark_stay h]
      · exact List.mem_singleton.2 rfl
      · rw [Bool.or_eq_true, Bool.not_eq_true', Bool.not_eq_true']
        rcases hx with hx | hx
        · rw [Nat.zero_testBit] at hx; cases hx
        · exact hx
    · right
      rw [if_pos hw, mark_step h (costs_bd ho hn).1]
      exact List.mem_map.2 ⟨n, hn, rfl⟩
theorem refX_iff {d : Fu} (ho : d.Ok) (hs : someB d 0 = true) {w : Nat} (hw : w ∈ ways d) {ws : List Bool} (hb : ∀ i, i < d.people.length → ws.getD i false = w.testBit i) :
    ∀ k, k ≤ d.visits.length → ∀ j, j < 1204 → ((refX d ws k).getD j false = true ↔ ∃ s, Reach d 0 0 s ∧ s.k = k ∧ s.w = w ∧ mkOf s = j)
  | 0, _, j, hj => by
    have hp := ho.pence
    show (falses.set (4 * d.pence.toNat) true).getD j false = true ↔ _
    rw [set_getD _ _ _ (by rw [falses_len]; exact hj), falses_get]
    constructor
    · rintro (h | h)
      · cases h
      · exact ⟨start d w, .beg hw, rfl, rfl, h⟩
    · rintro ⟨s, h1, h2, h3, h4⟩
      rw [reach_zero h1 h2] at h4
      exact .inr h4
  | k + 1, hk, j, hj => by
    have ih := refX_iff ho hs hw hb k (by omega)
    have hp := ho.pence
    have hl : k < d.visits.length := by omega
    have hv := List.getElem?_eq_getElem hl
    have hper := (ho.visit _ (List.getElem_mem hl)).person
    have hwho : whoAt d k = d.visits[k].person.toNat := by unfold whoAt; rw [hv]
    have hbit := hb d.visits[k].person.toNat (by omega)
    show (ofTo d k (ws.getD (whoAt d k) false) (refX d ws k) 1204).getD j false = true ↔ _
    rw [ofTo_get _ _ _ _ _ hj, hwho, hbit]
    constructor
    · rintro ⟨m, h1, h2, h3⟩
      obtain ⟨s, r1, rfl, rfl, rfl⟩ := (ih m h1).1 h2
      have hin := (r1.inv ho hs).1
      obtain ⟨c, c1, rfl⟩ := (next_kids ho ⟨hin.1, by omega⟩ hv j).1 h3
      obtain ⟨q1, q2, _⟩ := kids_k c1
      exact ⟨c, .step r1 c1, q1, q2, rfl⟩
    · rintro ⟨c, r1, r2, rfl, rfl⟩
      obtain ⟨s, s1, rfl, s3, s4⟩ := reach_pred r1 r2
      have hin := (s1.inv ho hs).1
      refine ⟨mkOf s, (mark_parts _ _ _ ⟨hin.1, by omega⟩).1, (ih _ (mark_parts _ _ _ ⟨hin.1, by omega⟩).1).2 ⟨s, s1, rfl, s4, rfl⟩, ?_⟩
      rw [← s4]
      exact (next_kids ho ⟨hin.1, by omega⟩ hv _).2 ⟨c, s3, rfl⟩
def widL (d : Fu) : Nat → List (List Bool)
  | 0 => [[]]
  | k + 1 => (widL d k).flatMap fun t => (if widowOf d k ≠ 1 then [t ++ [false]] else []) ++ (if widowOf d k ≠ 0 then [t ++ [true]] else [])
theorem getD_snoc (t : List Bool) (b : Bool) (i : Nat) : (t ++ [b]).getD i false = if i < t.length then t.getD i false else if i = t.length then b else false := by
  rw [List.getD_eq_getElem?_getD, List.getD_eq_getElem?_getD]
  by_cases h : i < t.length
  · rw [if_pos h, List.getElem?_append_left h]
  · rw [if_neg h, List.getElem?_append_right (by omega)]
    by_cases e : i = t.length
    · rw [if_pos e, e, Nat.sub_self]; rfl
    · rw [if_neg e, List.getElem?_eq_none (by simp; omega)]; rfl
theorem mem_widL (d : Fu) : ∀ k, ∀ ws, ws ∈ widL d k ↔ ws.length = k ∧ ∀ i, i < k → (widowOf d i ≠ 1 ∧ ws.getD i false = false) ∨ (widowOf d i ≠ 0 ∧ ws.getD i false = true)
  | 0, ws => by
    show ws ∈ [[]] ↔ _
    simp
  | k + 1, ws => by
    show ws ∈ (widL d k).flatMap _ ↔ _
    rw [List.mem_flatMap]
    have ih := mem_widL d k
    constructor
    · rintro ⟨t, ht, hm⟩
      obtain ⟨h1, h2⟩ := (ih t).1 ht
      rcases List.mem_append.1 hm with hm | hm
      · split at hm
        · rename_i hne
          obtain rfl := List.mem_singleton.1 hm
          refine ⟨by simp [h1], fun i hi => ?_⟩
          rw [getD_snoc, h1]
          by_cases e : i < k
          · rw [if_pos e]; exact h2 i e
          · rw [if_neg e, if_pos (by omega)]
            have : i = k := by omega
            subst this
            exact .inl ⟨hne, rfl⟩
        · cases hm
      · split at hm
        · rename_i hne
          obtain rfl := List.mem_singleton.1 hm
          refine ⟨by simp [h1], fun i hi => ?_⟩
          rw [getD_snoc, h1]
          by_cases e : i < k
          · rw [if_pos e]; exact h2 i e
          · rw [if_neg e, if_pos (by omega)]
            have : i = k := by omega
            subst this
            exact .inr ⟨hne, rfl⟩
        · cases hm
    · rintro ⟨h1, h2⟩
      have hne : ws ≠ [] := by intro e; rw [e] at h1; cases h1
      have hsplit := List.dropLast_concat_getLast hne
      generalize ws.dropLast = t at hsplit
      generalize ws.getLast hne = b at hsplit
      subst hsplit
      have htl : t.length = k := by simpa using h1
      refine ⟨t, (ih t).2 ⟨htl, fun i hi => ?_⟩, ?_⟩
      · have := h2 i (by omega)
        rw [getD_snoc, htl, if_pos hi] at this
        exact this
      · have := h2 k (by omega)
        rw [getD_snoc, htl, if_neg (by omega), if_pos rfl] at this
        rw [List.mem_append]
        rcases this with ⟨g1, rfl⟩ | ⟨g1, rfl⟩
        · left; rw [if_pos g1]; exact List.mem_singleton.2 rfl
        · right; rw [if_pos g1]; exact List.mem_singleton.2 rfl
theorem widL_len (d : Fu) : ∀ k, (widL d k).length ≤ 2 ^ k
  | 0 => by show (1 : Nat) ≤ 1; omega
  | k + 1 => by
    have ih := widL_len d k
    show ((widL d k).flatMap _).length ≤ _
    rw [List.length_flatMap]
    have : ∀ (l : List (List Bool)), (l.map fun t => ((if widowOf d k ≠ 1 then [t ++ [false]] else []) ++ (if widowOf d k ≠ 0 then [t ++ [true]] else [])).length).sum ≤ 2 * l.length := by
      intro l
      induction l with
      | nil => simp
      | cons t l ihl =>
        rw [List.map_cons, List.sum_cons, List.length_cons]
        have : ((if widowOf d k ≠ 1 then [t ++ [false]] else []) ++ (if widowOf d k ≠ 0 then [t ++ [true]] else [])).length ≤ 2 := by split <;> split <;> simp
        omega
    have := this (widL d k)
    rw [Nat.pow_succ]
    omega
theorem wid_way {d : Fu} (ho : d.Ok) {ws : List Bool} (h : ws ∈ widL d d.people.length) : ∃ w ∈ ways d, ∀ i, i < d.people.length → ws.getD i false = w.testBit i := by
  obtain ⟨h1, h2⟩ := (mem_widL d _ ws).1 h
  obtain ⟨w, w1, w2⟩ := exists_bits (fun i => ws.getD i false) d.people.length
  refine ⟨w, mem_ways.2 ⟨w1, fun i p hp hwd => ?_⟩, fun i hi => (w2 i hi).symm⟩
  have hi := (List.getElem?_eq_some_iff.1 hp).1
  have hb := ho.widow p (List.mem_of_getElem? hp)
  have hwo : widowOf d i = p.widow := by unfold widowOf; rw [hp]
  rw [w2 i hi]
  rcases h2 i hi with ⟨g1, g2⟩ | ⟨g1, g2⟩
  · rw [g2, if_neg Bool.false_ne_true]; omega
  · rw [g2, if_pos rfl]; omega
theorem way_wid {d : Fu} {w : Nat} (h : w ∈ ways d) : ∃ ws ∈ widL d d.people.length, ∀ i, i < d.people.length → ws.getD i false = w.testBit i := by
  have get : ∀ n i, i < n → ((List.range n).map fun i => w.testBit i).getD i false = w.testBit i := fun n i hi => by
    rw [List.getD_eq_getElem?_getD, List.getElem?_map, List.getElem?_range hi]; rfl
  refine ⟨(List.range d.people.length).map fun i => w.testBit i, (mem_widL d _ _).2 ⟨by simp, fun i hi => ?_⟩, fun i hi => get _ i hi⟩
  rw [get _ i hi]
  have hx := List.getElem?_eq_getElem hi
  have hw := (mem_ways.1 h).2 i _ hx
  have hwo : widowOf d i = d.people[i].widow := by unfold widowOf; rw [hx]
  rw [hwo]
  cases hb : w.testBit i with
  | false =>
    left
    refine ⟨fun e => ?_, rfl⟩
    have := hw (by omega)
    rw [hb, if_neg Bool.false_ne_true] at this
    omega
  | true =>
    right
    refine ⟨fun e => ?_, rfl⟩
    have := hw (by omega)
    rw [hb, if_pos rfl] at this
    omega
theorem hit_iff {d : Fu} (ho : d.Ok) (hs : someB d 0 = true) {k : Nat} (hk : k ≤ d.visits.length) {j : Nat} (hj : j < 1204) : (∃ ws ∈ widL d d.people.length, (refX d ws k).getD j false = true) ↔ ∃ s, Reach d 0 0 s ∧ s.k = k ∧ mkOf s = j := by
  constructor
  · rintro ⟨ws, h1, h2⟩
    obtain ⟨w, w1, w2⟩ := wid_way ho h1
    obtain ⟨s, s1, s2, _, s4⟩ := (refX_iff ho hs w1 w2 k hk j hj).1 h2
    exact ⟨s, s1, s2, s4⟩
  · rintro ⟨s, s1, s2, s3⟩
    obtain ⟨ws, h1, h2⟩ := way_wid s1.w.1
    exact ⟨ws, h1, (refX_iff ho hs s1.w.1 h2 k hk j hj).2 ⟨s, s1, s2, rfl, s3⟩⟩
end Go.Proofs.YthkpjbgadkkeeaaGreat
end
