/- Parts of the proof, joined: What small functions compute: a search in a row of numbers, and whether numbers are beyond bounds. What the tests of names compute, the program's and the reference's. The loops of the program that look for the first thing with an error. Searches in a row of people; the tests of what a gift has. The test of a gift: the program's. The test of a gift: the reference's. Z-numbers. A gift that comes in is one of the abstract interpreter; other arguments. The test of a gift by the reference comes to the same. What is known of a valid gift. Rows of numbers: which comes first, the same, has, lost. Small sets as numbers; rows held against each other by the library. A gift is looked at; whether it has a truth. A gift is entered. A row that is made and copied into, read off the heap. What the letter of a visit can cost, by the program. Stands behind visits: the search of the program in plain words, and the map of those that were met. Whether somebody surely comes, by the program. Costs are small; what a loop over all stands needs. What a letter costs, by the reference; an ascending row with one more number. An ascending row with one more number, by the reference. What the letter of a visit can cost, by the reference. Conditions: those of each law. -/
import Derived.Test.YthkpjbgadkkeeaaGreatQ9
import Derived.Laws.RangeString
import Derived.Laws.RangeAny
import Derived.KernelRfl
set_option linter.unusedSimpArgs false
set_option linter.unusedVariables false
section
namespace Go.Proofs.YthkpjbgadkkeeaaGreat
open Go.Proofs


theorem c69 (n lo hi : Int) (h : Heap) (b1 b2 : Nat) (h1 : h.b[b1]? = some (.cells [.int .i64 lo])) (h2 : h.b[b2]? = some (.cells [.int .i64 hi])) :
   (EW tabX).call 156 [.int .i64 n, .ref b1 0, .ref b2 0] h = some (.bool (decide (n < lo) || decide (hi < n)), h) := by
  obtain ⟨hb, ht⟩ := h
  rw [w_call _ fn_156 rfl]
  by_cases hn : n < lo
  · simp only [go_sem, ↓reduceIte, Nat.reduceBEq, Nat.reduceEqDiff, Nat.reduceLT, Nat.reduceLeDiff, Nat.reduceAdd, Nat.reduceMul, Nat.reduceSub, reduceCtorEq, Int.reduceLT, Int.reduceLE, Int.reduceEq, Int.reduceBEq, Int.reduceBNe, Int.reduceToNat, Int.reduceAdd, Int.reduceNeg, Int.reduceSub, h1, h2, hn, Bool.true_or]
  · simp only [go_sem, ↓reduceIte, Nat.reduceBEq, Nat.reduceEqDiff, Nat.reduceLT, Nat.reduceLeDiff, Nat.reduceAdd, Nat.reduceMul, Nat.reduceSub, reduceCtorEq, Int.reduceLT, Int.reduceLE, Int.reduceEq, Int.reduceBEq, Int.reduceBNe, Int.reduceToNat, Int.reduceAdd, Int.reduceNeg, Int.reduceSub, h1, h2, hn, Bool.false_or, gt_iff_lt]
theorem c86 (n lo hi : Int) (h : Heap) (b1 b2 : Nat) (h1 : h.b[b1]? = some (.cells [.int .i64 lo])) (h2 : h.b[b2]? = some (.cells [.int .i64 hi])) :
   (EW tabX).call 195 [.int .i64 n, .ref b1 0, .ref b2 0] h = some (.bool (decide (n < lo) || decide (hi < n)), h) := by
  obtain ⟨hb, ht⟩ := h
  rw [w_call _ fn_195 rfl]
  by_cases hn : n < lo
  · simp only [go_sem, ↓reduceIte, Nat.reduceBEq, Nat.reduceEqDiff, Nat.reduceLT, Nat.reduceLeDiff, Nat.reduceAdd, Nat.reduceMul, Nat.reduceSub, reduceCtorEq, Int.reduceLT, Int.reduceLE, Int.reduceEq, Int.reduceBEq, Int.reduceBNe, Int.reduceToNat, Int.reduceAdd, Int.reduceNeg, Int.reduceSub, h1, h2, hn, Bool.true_or]
  · simp only [go_sem, ↓reduceIte, Nat.reduceBEq, Nat.reduceEqDiff, Nat.reduceLT, Nat.reduceLeDiff, Nat.reduceAdd, Nat.reduceMul, Nat.reduceSub, reduceCtorEq, Int.reduceLT, Int.reduceLE, Int.reduceEq, Int.reduceBEq, Int.reduceBNe, Int.reduceToNat, Int.reduceAdd, Int.reduceNeg, Int.reduceSub, h1, h2, hn, Bool.false_or, gt_iff_lt]

theorem c58 (f : Nat) (fst cap : List AV) (l : List Int) (t z : Nat) (hz : l ≠ [] → z = 1) (p : Int → Bool) (h : Heap) (hl : l.length < 1000000000000000000)
   (hp : ∀ n ∈ l, callAV tabX (EW tabX) false (.clo f fst cap) [.int .i64 n] h = some (.bool (p n), h)) :
   (EW tabX).call 48 [.lst t z (I l), .clo f fst cap] h = some (.int .i64 (if l.findIdx p < l.length then l.findIdx p else -1), h) := by
  obtain ⟨hb, ht⟩ := h
  rw [w_call _ fn_48 rfl]
  simp only [go_sem, ↓reduceIte, Nat.reduceBEq, Nat.reduceEqDiff, Nat.reduceLT, Nat.reduceLeDiff, Nat.reduceAdd, Nat.reduceMul, Nat.reduceSub, reduceCtorEq, Int.reduceLT, Int.reduceLE, Int.reduceEq, Int.reduceBEq, Int.reduceBNe, Int.reduceToNat, Int.reduceAdd, Int.reduceNeg, Int.reduceSub]
  simp only [callAV_clo] at hp
  by_cases hf : l.findIdx p < l.length
  · rw [w_rounds_u (fun k => [(8, .int .i64 k)]) (l.findIdx p) .ret [(4, .int .i64 (l.findIdx p)), (5, .int .i64 (l.findIdx p)), (8, .int .i64 (l.findIdx p))] ?_ ?_ ?_ rfl]
    · simp only [go_sem, ↓reduceIte, Nat.reduceBEq, Nat.reduceEqDiff, Nat.reduceLT, Nat.reduceLeDiff, Nat.reduceAdd, Nat.reduceMul, Nat.reduceSub, reduceCtorEq, Int.reduceLT, Int.reduceLE, Int.reduceEq, Int.reduceBEq, Int.reduceBNe, Int.reduceToNat, Int.reduceAdd, Int.reduceNeg, Int.reduceSub, hf]
    · simp only [go_sem, ↓reduceIte, Nat.reduceBEq, Nat.reduceEqDiff, Nat.reduceLT, Nat.reduceLeDiff, Nat.reduceAdd, Nat.reduceMul, Nat.reduceSub, reduceCtorEq, Int.reduceLT, Int.reduceLE, Int.reduceEq, Int.reduceBEq, Int.reduceBNe, Int.reduceToNat, Int.reduceAdd, Int.reduceNeg, Int.reduceSub]
    · intro k hk
      have hlt : k < l.length := by omega
      have hki : (k : Int) < l.length := by omega
      have hx := List.getElem?_eq_getElem hlt
      have hpx := hp l[k] (List.getElem_mem _)
      have hpf : p l[k] = false := by simpa using List.not_of_lt_findIdx hk
      have hz1 := hz (by intro e; rw [e] at hlt; simp at hlt)
      subst hz1
      rw [hpf] at hpx
      simp (disch := omega) only [go_sem, ↓reduceIte, Nat.reduceBEq, Nat.reduceEqDiff, Nat.reduceLT, Nat.reduceLeDiff, Nat.reduceAdd, Nat.reduceMul, Nat.reduceSub, reduceCtorEq, Int.reduceLT, Int.reduceLE, Int.reduceEq, Int.reduceBEq, Int.reduceBNe, Int.reduceToNat, Int.reduceAdd, Int.reduceNeg, Int.reduceSub, hki, hx, ↓hpx, wrap_i64]
    · have hx := List.getElem?_eq_getElem hf
      have hki : ((l.findIdx p : Nat) : Int) < l.length := by omega
      have hpx := hp l[l.findIdx p] (List.getElem_mem _)
      have hpt : p l[l.findIdx p] = true := List.findIdx_getElem
      have hz1 := hz (by intro e; rw [e] at hf; simp at hf)
      subst hz1
      rw [hpt] at hpx
      simp (disch := omega) only [go_sem, ↓reduceIte, Nat.reduceBEq, Nat.reduceEqDiff, Nat.reduceLT, Nat.reduceLeDiff, Nat.reduceAdd, Nat.reduceMul, Nat.reduceSub, reduceCtorEq, Int.reduceLT, Int.reduceLE, Int.reduceEq, Int.reduceBEq, Int.reduceBNe, Int.reduceToNat, Int.reduceAdd, Int.reduceNeg, Int.reduceSub, hki, hx, ↓hpx, wrap_i64]
  · have hn : l.findIdx p = l.length := by have := List.findIdx_le_length (p := p) (xs := l); omega
    rw [w_rounds_u (fun k => [(8, .int .i64 k)]) (l.length) (.exit 0) [(8, .int .i64 l.length)] ?_ ?_ ?_ rfl]
    · simp only [go_sem, ↓reduceIte, Nat.reduceBEq, Nat.reduceEqDiff, Nat.reduceLT, Nat.reduceLeDiff, Nat.reduceAdd, Nat.reduceMul, Nat.reduceSub, reduceCtorEq, Int.reduceLT, Int.reduceLE, Int.reduceEq, Int.reduceBEq, Int.reduceBNe, Int.reduceToNat, Int.reduceAdd, Int.reduceNeg, Int.reduceSub, hf]
    · simp only [go_sem, ↓reduceIte, Nat.reduceBEq, Nat.reduceEqDiff, Nat.reduceLT, Nat.reduceLeDiff, Nat.reduceAdd, Nat.reduceMul, Nat.reduceSub, reduceCtorEq, Int.reduceLT, Int.reduceLE, Int.reduceEq, Int.reduceBEq, Int.reduceBNe, Int.reduceToNat, Int.reduceAdd, Int.reduceNeg, Int.reduceSub]
    · intro k hk
      have hki : (k : Int) < l.length := by omega
      have hx := List.getElem?_eq_getElem hk
      have hpx := hp l[k] (List.getElem_mem _)
      have hpf : p l[k] = false := by simpa using List.not_of_lt_findIdx (p := p) (xs := l) (i := k) (by omega)
      have hz1 := hz (by intro e; rw [e] at hk; simp at hk)
      subst hz1
      rw [hpf] at hpx
      simp (disch := omega) only [go_sem, ↓reduceIte, Nat.reduceBEq, Nat.reduceEqDiff, Nat.reduceLT, Nat.reduceLeDiff, Nat.reduceAdd, Nat.reduceMul, Nat.reduceSub, reduceCtorEq, Int.reduceLT, Int.reduceLE, Int.reduceEq, Int.reduceBEq, Int.reduceBNe, Int.reduceToNat, Int.reduceAdd, Int.reduceNeg, Int.reduceSub, hki, hx, ↓hpx, wrap_i64]
    · simp (disch := omega) only [go_sem, ↓reduceIte, Nat.reduceBEq, Nat.reduceEqDiff, Nat.reduceLT, Nat.reduceLeDiff, Nat.reduceAdd, Nat.reduceMul, Nat.reduceSub, reduceCtorEq, Int.reduceLT, Int.reduceLE, Int.reduceEq, Int.reduceBEq, Int.reduceBNe, Int.reduceToNat, Int.reduceAdd, Int.reduceNeg, Int.reduceSub, Int.lt_irrefl]

theorem findIdx_any {α : Type} (l : List α) (p : α → Bool) : decide ((0 : Int) ≤ if l.findIdx p < l.length then (l.findIdx p : Int) else -1) = l.any p := by
  by_cases h : l.findIdx p < l.length
  · rw [if_pos h]
    have : l.any p = true := List.any_eq_true.2 (by have := List.findIdx_lt_length.1 h; simpa using this)
    rw [this]; simp
  · rw [if_neg h]
    have : l.any p = false := by
      cases hh : l.any p with
      | false => rfl
      | true => exact absurd (List.findIdx_lt_length.2 (by simpa using List.any_eq_true.1 hh)) h
    rw [this]; rfl
theorem c68 (f : Nat) (fst cap : List AV) (l : List Int) (t z : Nat) (hz : l ≠ [] → z = 1) (p : Int → Bool) (h : Heap) (hl : l.length < 1000000000000000000)
   (hp : ∀ n ∈ l, callAV tabX (EW tabX) false (.clo f fst cap) [.int .i64 n] h = some (.bool (p n), h)) (hc : (AV.clo f fst cap).clean = none) :
   (EW tabX).call 146 [.lst t z (I l), .clo f fst cap] h = some (.bool (l.any p), h) := by
  have h78 := c58 f fst cap l t z hz p h hl hp
  obtain ⟨hb, ht⟩ := h
  rw [w_call _ fn_146 rfl]
  simp only [go_sem, ↓reduceIte, Nat.reduceBEq, Nat.reduceEqDiff, Nat.reduceLT, Nat.reduceLeDiff, Nat.reduceAdd, Nat.reduceMul, Nat.reduceSub, reduceCtorEq, Int.reduceLT, Int.reduceLE, Int.reduceEq, Int.reduceBEq, Int.reduceBNe, Int.reduceToNat, Int.reduceAdd, Int.reduceNeg, Int.reduceSub, hc, h78, ge_iff_le, findIdx_any]

def out (lo hi n : Int) : Bool := decide (n < lo) || decide (hi < n)
theorem c31 (lo hi : Int) (l : List Int) (z : Nat) (hz : l ≠ [] → z = 1) (h : Heap) (hl : l.length < 1000000000000000000) :
   callPure (EW tabX) 99 [.int .i64 lo, .int .i64 hi, .lst 0 z (I l)] h = some (.bool (l.any (out lo hi)), h) := by
  have h68 := c68 156 [] [.ref 0 0, .ref 1 0] l 0 z hz (out lo hi) ⟨[.cells [.int .i64 lo], .cells [.int .i64 hi]], []⟩ hl (fun n _ => by
    have := c69 n lo hi ⟨[.cells [.int .i64 lo], .cells [.int .i64 hi]], []⟩ 0 1 rfl rfl
    simp only [go_sem, ↓reduceIte, Nat.reduceBEq, Nat.reduceEqDiff, Nat.reduceLT, Nat.reduceLeDiff, Nat.reduceAdd, Nat.reduceMul, Nat.reduceSub, reduceCtorEq, Int.reduceLT, Int.reduceLE, Int.reduceEq, Int.reduceBEq, Int.reduceBNe, Int.reduceToNat, Int.reduceAdd, Int.reduceNeg, Int.reduceSub, this]; rfl) (by simp only [go_sem, ↓reduceIte, Nat.reduceBEq, Nat.reduceEqDiff, Nat.reduceLT, Nat.reduceLeDiff, Nat.reduceAdd, Nat.reduceMul, Nat.reduceSub, reduceCtorEq, Int.reduceLT, Int.reduceLE, Int.reduceEq, Int.reduceBEq, Int.reduceBNe, Int.reduceToNat, Int.reduceAdd, Int.reduceNeg, Int.reduceSub])
  refine pure_of (v := .bool (l.any (out lo hi))) (h1 := ⟨[], []⟩) ?_ (clean_bool _)
  rw [w_call _ fn_99 rfl]
  simp only [go_sem, ↓reduceIte, Nat.reduceBEq, Nat.reduceEqDiff, Nat.reduceLT, Nat.reduceLeDiff, Nat.reduceAdd, Nat.reduceMul, Nat.reduceSub, reduceCtorEq, Int.reduceLT, Int.reduceLE, Int.reduceEq, Int.reduceBEq, Int.reduceBNe, Int.reduceToNat, Int.reduceAdd, Int.reduceNeg, Int.reduceSub, h68]
theorem c31_1 (lo hi x : Int) (h : Heap) : callPure (EW tabX) 99 [.int .i64 lo, .int .i64 hi, .lst 0 1 [.int .i64 x]] h = some (.bool (out lo hi x), h) := by
  have := c31 lo hi [x] 1 (fun _ => rfl) h (by simp)
  simpa only [I_c, I_nil, List.any_cons, List.any_nil, Bool.or_false] using this
theorem c31_2 (lo hi x y : Int) (h : Heap) : callPure (EW tabX) 99 [.int .i64 lo, .int .i64 hi, .lst 0 1 [.int .i64 x, .int .i64 y]] h = some (.bool (out lo hi x || out lo hi y), h) := by
  have := c31 lo hi [x, y] 1 (fun _ => rfl) h (by simp)
  simpa only [I_c, I_nil, List.any_cons, List.any_nil, Bool.or_false] using this
end Go.Proofs.YthkpjbgadkkeeaaGreat
end
section
namespace Go.Proofs.YthkpjbgadkkeeaaGreat
open Go.Proofs

def inR (n lo hi : Int) : Bool := decide (lo ≤ n) && decide (n ≤ hi)
theorem c47 (n lo hi : Int) (h : Heap) : callPure (EW tabX) 26 [.int .i64 n, .int .i64 lo, .int .i64 hi] h = some (.bool (inR n lo hi), h) := by
  refine pure_of (v := .bool (inR n lo hi)) (h1 := ⟨[], []⟩) ?_ (clean_bool _)
  rw [w_call _ fn_26 rfl]
  simp only [go_sem, ↓reduceIte, Nat.reduceBEq, Nat.reduceEqDiff, Nat.reduceLT, Nat.reduceLeDiff, Nat.reduceAdd, Nat.reduceMul, Nat.reduceSub, reduceCtorEq, Int.reduceLT, Int.reduceLE, Int.reduceEq, Int.reduceBEq, Int.reduceBNe, Int.reduceToNat, Int.reduceAdd, Int.reduceNeg, Int.reduceSub]
  rfl
theorem out_not (lo hi n : Int) : (!out lo hi n) = inR n lo hi := by
  unfold out inR
  rw [Bool.eq_iff_iff]; simp

def chOk (i : Nat) (b : Int) : Bool := inR b 97 122 || (decide (0 < (i : Int)) && (b == 46 || inR b 48 57))
def chAt (s : ByteArray) (i : Nat) : Bool := match s[i]? with | some b => chOk i b.toNat | none => false
def okTo (s : ByteArray) (n : Nat) : Bool := (List.range n).all (chAt s)
def nameOk (s : ByteArray) : Bool := inR s.size 1 16 && okTo s s.size
theorem okTo_succ (s : ByteArray) (n : Nat) : okTo s (n + 1) = (okTo s n && chAt s n) := by simp [okTo, List.range_succ]
theorem okTo_zero (s : ByteArray) : okTo s 0 = true := rfl

theorem c73 (s : ByteArray) (hs : s.size < 1000000000000000000) (h : Heap) : callPure (EW tabX) 127 [.str s] h = some (.bool (nameOk s), h) := by
  refine pure_of (v := .bool (nameOk s)) (h1 := ⟨[], []⟩) ?_ (clean_bool _)
  rw [w_call _ fn_127 rfl]
  simp only [go_sem, ↓reduceIte, Nat.reduceBEq, Nat.reduceEqDiff, Nat.reduceLT, Nat.reduceLeDiff, Nat.reduceAdd, Nat.reduceMul, Nat.reduceSub, reduceCtorEq, Int.reduceLT, Int.reduceLE, Int.reduceEq, Int.reduceBEq, Int.reduceBNe, Int.reduceToNat, Int.reduceAdd, Int.reduceNeg, Int.reduceSub, c47]
  rw [w_rounds_u (fun k => [(3, .bool (inR s.size 1 16 && okTo s k)), (4, .int .i64 k)]) s.size (.exit 0) [(3, .bool (inR s.size 1 16 && okTo s s.size)), (4, .int .i64 s.size)] ?_ ?_ ?_ rfl]
  · simp only [go_sem, ↓reduceIte, Nat.reduceBEq, Nat.reduceEqDiff, Nat.reduceLT, Nat.reduceLeDiff, Nat.reduceAdd, Nat.reduceMul, Nat.reduceSub, reduceCtorEq, Int.reduceLT, Int.reduceLE, Int.reduceEq, Int.reduceBEq, Int.reduceBNe, Int.reduceToNat, Int.reduceAdd, Int.reduceNeg, Int.reduceSub, nameOk]
  · simp only [go_sem, ↓reduceIte, Nat.reduceBEq, Nat.reduceEqDiff, Nat.reduceLT, Nat.reduceLeDiff, Nat.reduceAdd, Nat.reduceMul, Nat.reduceSub, reduceCtorEq, Int.reduceLT, Int.reduceLE, Int.reduceEq, Int.reduceBEq, Int.reduceBNe, Int.reduceToNat, Int.reduceAdd, Int.reduceNeg, Int.reduceSub, okTo_zero]
  · intro k hk
    have hki : (k : Int) < s.size := by omega
    have hx : s[k]? = some s[k] := by simp [hk]
    have hb : (s[k].toNat : Int) < 256 := by have := s[k].toNat_lt; omega
    have hc : chAt s k = chOk k s[k].toNat := by simp [chAt, hk]
    simp (disch := omega) only [go_sem, ↓reduceIte, Nat.reduceBEq, Nat.reduceEqDiff, Nat.reduceLT, Nat.reduceLeDiff, Nat.reduceAdd, Nat.reduceMul, Nat.reduceSub, reduceCtorEq, Int.reduceLT, Int.reduceLE, Int.reduceEq, Int.reduceBEq, Int.reduceBNe, Int.reduceToNat, Int.reduceAdd, Int.reduceNeg, Int.reduceSub, hki, hx, c47, wrap_i64, okTo_succ, hc, chOk]
  · simp (disch := omega) only [go_sem, ↓reduceIte, Nat.reduceBEq, Nat.reduceEqDiff, Nat.reduceLT, Nat.reduceLeDiff, Nat.reduceAdd, Nat.reduceMul, Nat.reduceSub, reduceCtorEq, Int.reduceLT, Int.reduceLE, Int.reduceEq, Int.reduceBEq, Int.reduceBNe, Int.reduceToNat, Int.reduceAdd, Int.reduceNeg, Int.reduceSub, Int.lt_irrefl]
theorem okTo_false {s : ByteArray} : ∀ {n : Nat}, okTo s n = false → ∃ k, k < n ∧ okTo s k = true ∧ chAt s k = false
  | 0, h => by simp [okTo] at h
  | n + 1, h => by
    cases h1 : okTo s n with
    | false => obtain ⟨k, a, b⟩ := okTo_false h1; exact ⟨k, by omega, b⟩
    | true => rw [okTo_succ, h1] at h; exact ⟨n, by omega, h1, by simpa using h⟩
theorem okTo_at {s : ByteArray} {n k : Nat} (h : okTo s n = true) (hk : k < n) : chAt s k = true := by
  unfold okTo at h
  rw [List.all_eq_true] at h
  exact h k (by simpa using hk)
theorem c86b (l : List Int) (z : Nat) (hz : l ≠ [] → z = 1) (lo hi : Int) (h : Heap) (hl : l.length < 1000000000000000000) :
   callPure (EW tabX) 165 [.int .i64 lo, .int .i64 hi, .lst 0 z (I l)] h = some (.bool (l.any (out lo hi)), h) := by
  have h68 := c68 195 [] [.ref 0 0, .ref 1 0] l 0 z hz (out lo hi) ⟨[.cells [.int .i64 lo], .cells [.int .i64 hi]], []⟩ hl (fun n _ => by
    have := c86 n lo hi ⟨[.cells [.int .i64 lo], .cells [.int .i64 hi]], []⟩ 0 1 rfl rfl
    simp only [go_sem, ↓reduceIte, Nat.reduceBEq, Nat.reduceEqDiff, Nat.reduceLT, Nat.reduceLeDiff, Nat.reduceAdd, Nat.reduceMul, Nat.reduceSub, reduceCtorEq, Int.reduceLT, Int.reduceLE, Int.reduceEq, Int.reduceBEq, Int.reduceBNe, Int.reduceToNat, Int.reduceAdd, Int.reduceNeg, Int.reduceSub, this]; rfl) (by simp only [go_sem, ↓reduceIte, Nat.reduceBEq, Nat.reduceEqDiff, Nat.reduceLT, Nat.reduceLeDiff, Nat.reduceAdd, Nat.reduceMul, Nat.reduceSub, reduceCtorEq, Int.reduceLT, Int.reduceLE, Int.reduceEq, Int.reduceBEq, Int.reduceBNe, Int.reduceToNat, Int.reduceAdd, Int.reduceNeg, Int.reduceSub])
  refine pure_of (v := .bool (l.any (out lo hi))) (h1 := ⟨[], []⟩) ?_ (clean_bool _)
  rw [w_call _ fn_165 rfl]
  simp only [go_sem, ↓reduceIte, Nat.reduceBEq, Nat.reduceEqDiff, Nat.reduceLT, Nat.reduceLeDiff, Nat.reduceAdd, Nat.reduceMul, Nat.reduceSub, reduceCtorEq, Int.reduceLT, Int.reduceLE, Int.reduceEq, Int.reduceBEq, Int.reduceBNe, Int.reduceToNat, Int.reduceAdd, Int.reduceNeg, Int.reduceSub, h68]
theorem c70_1 (lo hi x : Int) (h : Heap) : callPure (EW tabX) 165 [.int .i64 lo, .int .i64 hi, .lst 0 1 [.int .i64 x]] h = some (.bool (out lo hi x), h) := by
  have := c86b [x] 1 (fun _ => rfl) lo hi h (by simp)
  simpa only [I_c, I_nil, List.any_cons, List.any_nil, Bool.or_false] using this

theorem test_eq (k b : Nat) : (!(decide (97 ≤ (b : Int)) && decide ((b : Int) ≤ 122)) && ((k : Int) == 0 || (b : Int) != 46 && (decide ((b : Int) < 48) || decide (57 < (b : Int))))) = !chOk k b := by
  unfold chOk inR
  rw [Bool.eq_iff_iff]
  simp only [Bool.and_eq_true, Bool.or_eq_true, Bool.not_eq_true', Bool.and_eq_false_iff, Bool.or_eq_false_iff, decide_eq_true_eq, decide_eq_false_iff_not, beq_iff_eq, bne_iff_ne, beq_eq_false_iff_ne, ne_eq]
  omega
theorem chOk_high (k b : Nat) (h : 128 ≤ b) : chOk k b = false := by
  cases hc : chOk k b with
  | false => rfl
  | true => simp [chOk, inR] at hc; omega

theorem c38 (s : ByteArray) (hs : s.size < 1000000000000000000) (h : Heap) : callPure (EW tabX) 116 [.str s] h = some (.bool (nameOk s), h) := by
  refine pure_of (v := .bool (nameOk s)) (h1 := ⟨[], []⟩) ?_ (clean_bool _)
  rw [w_call _ fn_116 rfl]
  simp only [go_sem, ↓reduceIte, Nat.reduceBEq, Nat.reduceEqDiff, Nat.reduceLT, Nat.reduceLeDiff, Nat.reduceAdd, Nat.reduceMul, Nat.reduceSub, reduceCtorEq, Int.reduceLT, Int.reduceLE, Int.reduceEq, Int.reduceBEq, Int.reduceBNe, Int.reduceToNat, Int.reduceAdd, Int.reduceNeg, Int.reduceSub]
  have round : ∀ k, (hk : k < s.size) → chOk k s[k].toNat = true → Utf8.decode s k = (s[k].toNat, 1) := fun k hk hc =>
    decode_ascii s k hk (by simp [chOk, inR] at hc; omega)
  cases ho : okTo s s.size with
  | true =>
    rw [w_rounds_h (fun k => []) (fun k => ⟨[.siter s k], []⟩) s.size (.exit 0) [(8, .tup [.bool false])] ⟨[.siter s s.size], []⟩ ?_ ?_ ?_ ?_ rfl]
    · simp only [go_sem, ↓reduceIte, Nat.reduceBEq, Nat.reduceEqDiff, Nat.reduceLT, Nat.reduceLeDiff, Nat.reduceAdd, Nat.reduceMul, Nat.reduceSub, reduceCtorEq, Int.reduceLT, Int.reduceLE, Int.reduceEq, Int.reduceBEq, Int.reduceBNe, Int.reduceToNat, Int.reduceAdd, Int.reduceNeg, Int.reduceSub, nameOk, c70_1, out_not, ho]
    · simp only [go_sem, ↓reduceIte, Nat.reduceBEq, Nat.reduceEqDiff, Nat.reduceLT, Nat.reduceLeDiff, Nat.reduceAdd, Nat.reduceMul, Nat.reduceSub, reduceCtorEq, Int.reduceLT, Int.reduceLE, Int.reduceEq, Int.reduceBEq, Int.reduceBNe, Int.reduceToNat, Int.reduceAdd, Int.reduceNeg, Int.reduceSub]
    · simp only [go_sem, ↓reduceIte, Nat.reduceBEq, Nat.reduceEqDiff, Nat.reduceLT, Nat.reduceLeDiff, Nat.reduceAdd, Nat.reduceMul, Nat.reduceSub, reduceCtorEq, Int.reduceLT, Int.reduceLE, Int.reduceEq, Int.reduceBEq, Int.reduceBNe, Int.reduceToNat, Int.reduceAdd, Int.reduceNeg, Int.reduceSub]
    · intro k hk
      have hc : chAt s k = true := okTo_at ho hk
      have hc : chOk k s[k].toNat = true := by simpa [chAt, hk] using hc
      have hd := round k hk hc
      simp only [go_sem, ↓reduceIte, Nat.reduceBEq, Nat.reduceEqDiff, Nat.reduceLT, Nat.reduceLeDiff, Nat.reduceAdd, Nat.reduceMul, Nat.reduceSub, reduceCtorEq, Int.reduceLT, Int.reduceLE, Int.reduceEq, Int.reduceBEq, Int.reduceBNe, Int.reduceToNat, Int.reduceAdd, Int.reduceNeg, Int.reduceSub, hk, hd, test_eq, hc]
    · simp only [go_sem, ↓reduceIte, Nat.reduceBEq, Nat.reduceEqDiff, Nat.reduceLT, Nat.reduceLeDiff, Nat.reduceAdd, Nat.reduceMul, Nat.reduceSub, reduceCtorEq, Int.reduceLT, Int.reduceLE, Int.reduceEq, Int.reduceBEq, Int.reduceBNe, Int.reduceToNat, Int.reduceAdd, Int.reduceNeg, Int.reduceSub, Nat.lt_irrefl]
  | false =>
    obtain ⟨n, hn, h1, h2⟩ := okTo_false ho
    have h2 : chOk n s[n].toNat = false := by simpa [chAt, hn] using h2
    have hv : ∃ b w, Utf8.decode s n = (b, w) ∧ chOk n b = false := by
      by_cases hb : s[n].toNat < 128
      · exact ⟨_, _, decode_ascii s n hn hb, h2⟩
      · exact ⟨_, _, rfl, chOk_high _ _ (decode_high s n hn (by omega)).1⟩
    obtain ⟨b, w, hd, hb⟩ := hv
    rw [w_rounds_h (fun k => []) (fun k => ⟨[.siter s k], []⟩) n .ret [(3, .int .i64 n), (4, .int .i32 b), (5, .bool (inR b 97 122)), (8, .tup [.bool true, .int .i64 n, .int .i32 b])] ⟨[.siter s (n + w)], []⟩ ?_ ?_ ?_ ?_ rfl]
    · simp only [go_sem, ↓reduceIte, Nat.reduceBEq, Nat.reduceEqDiff, Nat.reduceLT, Nat.reduceLeDiff, Nat.reduceAdd, Nat.reduceMul, Nat.reduceSub, reduceCtorEq, Int.reduceLT, Int.reduceLE, Int.reduceEq, Int.reduceBEq, Int.reduceBNe, Int.reduceToNat, Int.reduceAdd, Int.reduceNeg, Int.reduceSub, nameOk, ho]
    · simp only [go_sem, ↓reduceIte, Nat.reduceBEq, Nat.reduceEqDiff, Nat.reduceLT, Nat.reduceLeDiff, Nat.reduceAdd, Nat.reduceMul, Nat.reduceSub, reduceCtorEq, Int.reduceLT, Int.reduceLE, Int.reduceEq, Int.reduceBEq, Int.reduceBNe, Int.reduceToNat, Int.reduceAdd, Int.reduceNeg, Int.reduceSub]
    · simp only [go_sem, ↓reduceIte, Nat.reduceBEq, Nat.reduceEqDiff, Nat.reduceLT, Nat.reduceLeDiff, Nat.reduceAdd, Nat.reduceMul, Nat.reduceSub, reduceCtorEq, Int.reduceLT, Int.reduceLE, Int.reduceEq, Int.reduceBEq, Int.reduceBNe, Int.reduceToNat, Int.reduceAdd, Int.reduceNeg, Int.reduceSub]
    · intro k hk
      have hk' : k < s.size := by omega
      have hc : chAt s k = true := okTo_at h1 hk
      have hc : chOk k s[k].toNat = true := by simpa [chAt, hk'] using hc
      have hd := round k hk' hc
      simp only [go_sem, ↓reduceIte, Nat.reduceBEq, Nat.reduceEqDiff, Nat.reduceLT, Nat.reduceLeDiff, Nat.reduceAdd, Nat.reduceMul, Nat.reduceSub, reduceCtorEq, Int.reduceLT, Int.reduceLE, Int.reduceEq, Int.reduceBEq, Int.reduceBNe, Int.reduceToNat, Int.reduceAdd, Int.reduceNeg, Int.reduceSub, hk', hd, test_eq, hc]
    · simp only [go_sem, ↓reduceIte, Nat.reduceBEq, Nat.reduceEqDiff, Nat.reduceLT, Nat.reduceLeDiff, Nat.reduceAdd, Nat.reduceMul, Nat.reduceSub, reduceCtorEq, Int.reduceLT, Int.reduceLE, Int.reduceEq, Int.reduceBEq, Int.reduceBNe, Int.reduceToNat, Int.reduceAdd, Int.reduceNeg, Int.reduceSub, hn, hd, test_eq, hb, inR]
end Go.Proofs.YthkpjbgadkkeeaaGreat
end
section
namespace Go.Proofs.YthkpjbgadkkeeaaGreat
open Go.Proofs

theorem atE_clean (e : Nat → Int) (n : Nat) : (atE e n).clean = some (atE e n) := by unfold atE; split <;> simp only [go_sem, ↓reduceIte, Nat.reduceBEq, Nat.reduceEqDiff, Nat.reduceLT, Nat.reduceLeDiff, Nat.reduceAdd, Nat.reduceMul, Nat.reduceSub, reduceCtorEq, Int.reduceLT, Int.reduceLE, Int.reduceEq, Int.reduceBEq, Int.reduceBNe, Int.reduceToNat, Int.reduceAdd, Int.reduceNeg, Int.reduceSub]
def failE (lo hi : Int) (e : Nat → Int) (n : Nat) : AV := if out lo hi n = true then .tup [.int .i64 0, .int .i64 3] else atE e n
theorem failE_clean (lo hi : Int) (e : Nat → Int) (n : Nat) : (failE lo hi e n).clean = some (failE lo hi e n) := by unfold failE; split; simp only [go_sem, ↓reduceIte, Nat.reduceBEq, Nat.reduceEqDiff, Nat.reduceLT, Nat.reduceLeDiff, Nat.reduceAdd, Nat.reduceMul, Nat.reduceSub, reduceCtorEq, Int.reduceLT, Int.reduceLE, Int.reduceEq, Int.reduceBEq, Int.reduceBNe, Int.reduceToNat, Int.reduceAdd, Int.reduceNeg, Int.reduceSub]; exact atE_clean e n
def eIn (n : Int) : AV := .int .i64 n

theorem c33 (f : Nat) (cap : List AV) (lo hi : Int) (l : List Int) (t z : Nat) (hz : l ≠ [] → z = 1) (h : Heap) (hl : l.length < 1000000000000000000) (e : Nat → Int)
   (hp : out lo hi l.length = false → ∀ (k : Nat) c, l[k]? = some c → ∀ u, callAV tabX (EW tabX) false (.clo f [] cap) [.int .i64 k, eIn c] ⟨h.b ++ u, h.t⟩ = some (.int .i64 (e k), ⟨h.b ++ u, h.t⟩)) :
   (EW tabX).call 111 [.lst t z (I l), .int .i64 lo, .int .i64 hi, .clo f [] cap] h = some (failE lo hi e l.length, h) := by
  obtain ⟨B, ht⟩ := h
  rw [w_call _ fn_111 rfl]
  unfold failE
  cases ho : out lo hi l.length with
  | true => simp only [go_sem, ↓reduceIte, Nat.reduceBEq, Nat.reduceEqDiff, Nat.reduceLT, Nat.reduceLeDiff, Nat.reduceAdd, Nat.reduceMul, Nat.reduceSub, reduceCtorEq, Int.reduceLT, Int.reduceLE, Int.reduceEq, Int.reduceBEq, Int.reduceBNe, Int.reduceToNat, Int.reduceAdd, Int.reduceNeg, Int.reduceSub, c31_1, ho]
  | false =>
  have hp := hp ho
  simp only [go_sem, ↓reduceIte, Nat.reduceBEq, Nat.reduceEqDiff, Nat.reduceLT, Nat.reduceLeDiff, Nat.reduceAdd, Nat.reduceMul, Nat.reduceSub, reduceCtorEq, Int.reduceLT, Int.reduceLE, Int.reduceEq, Int.reduceBEq, Int.reduceBNe, Int.reduceToNat, Int.reduceAdd, Int.reduceNeg, Int.reduceSub, c31_1, ho]
  simp only [callAV_clo] at hp
  rw [w_first (fun k => [(21, .int .i64 k)]) (fun k => ⟨B, ht⟩) e l.length .ret (fun n => [(8, .int .i64 n), (9, .int .i64 (e n)), (10, .int .i64 n), (11, .int .i64 (l.getD n 0)), (12, .int .i64 (e n)), (21, .int .i64 n)]) (fun n => ⟨B, ht⟩) (.exit 0) [(21, .int .i64 l.length)] ⟨B, ht⟩ ?_ ?_ ?_ ?_ ?_ rfl rfl]
  · unfold firstW atE
    cases firstBad e 0 l.length with
    | some n => simp only [go_sem, ↓reduceIte, Nat.reduceBEq, Nat.reduceEqDiff, Nat.reduceLT, Nat.reduceLeDiff, Nat.reduceAdd, Nat.reduceMul, Nat.reduceSub, reduceCtorEq, Int.reduceLT, Int.reduceLE, Int.reduceEq, Int.reduceBEq, Int.reduceBNe, Int.reduceToNat, Int.reduceAdd, Int.reduceNeg, Int.reduceSub]
    | none => simp only [go_sem, ↓reduceIte, Nat.reduceBEq, Nat.reduceEqDiff, Nat.reduceLT, Nat.reduceLeDiff, Nat.reduceAdd, Nat.reduceMul, Nat.reduceSub, reduceCtorEq, Int.reduceLT, Int.reduceLE, Int.reduceEq, Int.reduceBEq, Int.reduceBNe, Int.reduceToNat, Int.reduceAdd, Int.reduceNeg, Int.reduceSub]
  · simp only [go_sem, ↓reduceIte, Nat.reduceBEq, Nat.reduceEqDiff, Nat.reduceLT, Nat.reduceLeDiff, Nat.reduceAdd, Nat.reduceMul, Nat.reduceSub, reduceCtorEq, Int.reduceLT, Int.reduceLE, Int.reduceEq, Int.reduceBEq, Int.reduceBNe, Int.reduceToNat, Int.reduceAdd, Int.reduceNeg, Int.reduceSub]
  · rfl
  · intro k hk h0
    have hx := List.getElem?_eq_getElem hk
    have hki : (k : Int) < l.length := by omega
    have hz1 := hz (by intro e; rw [e] at hki; simp at hki; omega)
    subst hz1
    have hpk := hp k _ hx []
    rw [h0] at hpk
    simp only [eIn, List.append_nil] at hpk
    simp (disch := omega) only [go_sem, ↓reduceIte, Nat.reduceBEq, Nat.reduceEqDiff, Nat.reduceLT, Nat.reduceLeDiff, Nat.reduceAdd, Nat.reduceMul, Nat.reduceSub, reduceCtorEq, Int.reduceLT, Int.reduceLE, Int.reduceEq, Int.reduceBEq, Int.reduceBNe, Int.reduceToNat, Int.reduceAdd, Int.reduceNeg, Int.reduceSub, hki, I_get, hx, eIn, ↓hpk, wrap_i64, bne_self_eq_false]
  · intro n hn hen
    have hx := List.getElem?_eq_getElem hn
    have hki : (n : Int) < l.length := by omega
    have hz1 := hz (by intro e; rw [e] at hn; simp at hn)
    subst hz1
    have hne : (e n != 0) = true := by simpa using hen
    have hpk := hp n _ hx []
    have hgd : l.getD n 0 = l[n] := by simp [hn]
    rw [hgd]
    simp only [eIn, List.append_nil] at hpk
    simp (disch := omega) only [go_sem, ↓reduceIte, Nat.reduceBEq, Nat.reduceEqDiff, Nat.reduceLT, Nat.reduceLeDiff, Nat.reduceAdd, Nat.reduceMul, Nat.reduceSub, reduceCtorEq, Int.reduceLT, Int.reduceLE, Int.reduceEq, Int.reduceBEq, Int.reduceBNe, Int.reduceToNat, Int.reduceAdd, Int.reduceNeg, Int.reduceSub, hki, I_get, hx, eIn, ↓hpk, wrap_i64, hne]
  · simp only [go_sem, ↓reduceIte, Nat.reduceBEq, Nat.reduceEqDiff, Nat.reduceLT, Nat.reduceLeDiff, Nat.reduceAdd, Nat.reduceMul, Nat.reduceSub, reduceCtorEq, Int.reduceLT, Int.reduceLE, Int.reduceEq, Int.reduceBEq, Int.reduceBNe, Int.reduceToNat, Int.reduceAdd, Int.reduceNeg, Int.reduceSub, Int.lt_irrefl]

theorem c36 (f : Nat) (cap : List AV) (lo hi : Int) (l : List Pe) (t z : Nat) (hz : l ≠ [] → z = 2) (h : Heap) (hl : l.length < 1000000000000000000) (e : Nat → Int)
   (hp : out lo hi l.length = false → ∀ (k : Nat) c, l[k]? = some c → ∀ u, callAV tabX (EW tabX) false (.clo f [] cap) [.int .i64 k, ePe c] ⟨h.b ++ u, h.t⟩ = some (.int .i64 (e k), ⟨h.b ++ u, h.t⟩)) :
   (EW tabX).call 114 [.lst t z (l.map ePe), .int .i64 lo, .int .i64 hi, .clo f [] cap] h = some (failE lo hi e l.length, h) := by
  obtain ⟨B, ht⟩ := h
  rw [w_call _ fn_114 rfl]
  unfold failE
  cases ho : out lo hi l.length with
  | true => simp only [go_sem, ↓reduceIte, Nat.reduceBEq, Nat.reduceEqDiff, Nat.reduceLT, Nat.reduceLeDiff, Nat.reduceAdd, Nat.reduceMul, Nat.reduceSub, reduceCtorEq, Int.reduceLT, Int.reduceLE, Int.reduceEq, Int.reduceBEq, Int.reduceBNe, Int.reduceToNat, Int.reduceAdd, Int.reduceNeg, Int.reduceSub, c31_1, ho]
  | false =>
  have hp := hp ho
  simp only [go_sem, ↓reduceIte, Nat.reduceBEq, Nat.reduceEqDiff, Nat.reduceLT, Nat.reduceLeDiff, Nat.reduceAdd, Nat.reduceMul, Nat.reduceSub, reduceCtorEq, Int.reduceLT, Int.reduceLE, Int.reduceEq, Int.reduceBEq, Int.reduceBNe, Int.reduceToNat, Int.reduceAdd, Int.reduceNeg, Int.reduceSub, c31_1, ho]
  simp only [callAV_clo] at hp
  have step : ∀ k c, l[k]? = some c → B ++ (l.take (k + 1)).map bPe = B ++ (l.take k).map bPe ++ [bPe c] := fun k c hx => by rw [map_succ _ hx, List.append_assoc]
  rw [w_first (fun k => [(21, .int .i64 k)]) (fun k => ⟨B ++ (l.take k).map bPe, ht⟩) e l.length .ret (fun n => [(8, .int .i64 n), (9, .int .i64 (e n)), (10, .int .i64 n), (11, .ref (B ++ (l.take n).map bPe).length 0), (12, .int .i64 (e n)), (21, .int .i64 n)]) (fun n => ⟨B ++ (l.take (n + 1)).map bPe, ht⟩) (.exit 0) [(21, .int .i64 l.length)] ⟨B ++ l.map bPe, ht⟩ ?_ ?_ ?_ ?_ ?_ rfl rfl]
  · unfold firstW atE
    cases firstBad e 0 l.length with
    | some n => simp only [go_sem, ↓reduceIte, Nat.reduceBEq, Nat.reduceEqDiff, Nat.reduceLT, Nat.reduceLeDiff, Nat.reduceAdd, Nat.reduceMul, Nat.reduceSub, reduceCtorEq, Int.reduceLT, Int.reduceLE, Int.reduceEq, Int.reduceBEq, Int.reduceBNe, Int.reduceToNat, Int.reduceAdd, Int.reduceNeg, Int.reduceSub]
    | none => simp only [go_sem, ↓reduceIte, Nat.reduceBEq, Nat.reduceEqDiff, Nat.reduceLT, Nat.reduceLeDiff, Nat.reduceAdd, Nat.reduceMul, Nat.reduceSub, reduceCtorEq, Int.reduceLT, Int.reduceLE, Int.reduceEq, Int.reduceBEq, Int.reduceBNe, Int.reduceToNat, Int.reduceAdd, Int.reduceNeg, Int.reduceSub]
  · simp only [go_sem, ↓reduceIte, Nat.reduceBEq, Nat.reduceEqDiff, Nat.reduceLT, Nat.reduceLeDiff, Nat.reduceAdd, Nat.reduceMul, Nat.reduceSub, reduceCtorEq, Int.reduceLT, Int.reduceLE, Int.reduceEq, Int.reduceBEq, Int.reduceBNe, Int.reduceToNat, Int.reduceAdd, Int.reduceNeg, Int.reduceSub]
  · simp only [go_sem, ↓reduceIte, Nat.reduceBEq, Nat.reduceEqDiff, Nat.reduceLT, Nat.reduceLeDiff, Nat.reduceAdd, Nat.reduceMul, Nat.reduceSub, reduceCtorEq, Int.reduceLT, Int.reduceLE, Int.reduceEq, Int.reduceBEq, Int.reduceBNe, Int.reduceToNat, Int.reduceAdd, Int.reduceNeg, Int.reduceSub]
  · intro k hk h0
    have hx := List.getElem?_eq_getElem hk
    have hki : (k : Int) < l.length := by omega
    have hz1 := hz (by intro e; rw [e] at hki; simp at hki; omega)
    subst hz1
    rw [step k _ hx]
    have hpk := hp k _ hx ((l.take k).map bPe ++ [bPe l[k]])
    rw [← List.append_assoc, h0] at hpk
    generalize B ++ (l.take k).map bPe = C at hpk ⊢
    simp only [ePe, bPe] at hpk
    simp (disch := omega) only [go_sem, ↓reduceIte, Nat.reduceBEq, Nat.reduceEqDiff, Nat.reduceLT, Nat.reduceLeDiff, Nat.reduceAdd, Nat.reduceMul, Nat.reduceSub, reduceCtorEq, Int.reduceLT, Int.reduceLE, Int.reduceEq, Int.reduceBEq, Int.reduceBNe, Int.reduceToNat, Int.reduceAdd, Int.reduceNeg, Int.reduceSub, hki, ePe_get, hx, ePe, ↓hpk, wrap_i64, bPe, bne_self_eq_false]
  · intro n hn hen
    have hx := List.getElem?_eq_getElem hn
    have hki : (n : Int) < l.length := by omega
    have hz1 := hz (by intro e; rw [e] at hn; simp at hn)
    subst hz1
    have hne : (e n != 0) = true := by simpa using hen
    rw [step n _ hx]
    have hpk := hp n _ hx ((l.take n).map bPe ++ [bPe l[n]])
    rw [← List.append_assoc] at hpk
    generalize B ++ (l.take n).map bPe = C at hpk ⊢
    simp only [ePe, bPe] at hpk
    simp (disch := omega) only [go_sem, ↓reduceIte, Nat.reduceBEq, Nat.reduceEqDiff, Nat.reduceLT, Nat.reduceLeDiff, Nat.reduceAdd, Nat.reduceMul, Nat.reduceSub, reduceCtorEq, Int.reduceLT, Int.reduceLE, Int.reduceEq, Int.reduceBEq, Int.reduceBNe, Int.reduceToNat, Int.reduceAdd, Int.reduceNeg, Int.reduceSub, hki, ePe_get, hx, ePe, ↓hpk, wrap_i64, bPe, hne]
  · simp only [go_sem, ↓reduceIte, Nat.reduceBEq, Nat.reduceEqDiff, Nat.reduceLT, Nat.reduceLeDiff, Nat.reduceAdd, Nat.reduceMul, Nat.reduceSub, reduceCtorEq, Int.reduceLT, Int.reduceLE, Int.reduceEq, Int.reduceBEq, Int.reduceBNe, Int.reduceToNat, Int.reduceAdd, Int.reduceNeg, Int.reduceSub, Int.lt_irrefl]

theorem c42 (f : Nat) (cap : List AV) (lo hi : Int) (l : List Vi) (t z : Nat) (hz : l ≠ [] → z = 8) (h : Heap) (hl : l.length < 1000000000000000000) (e : Nat → Int)
   (hp : out lo hi l.length = false → ∀ (k : Nat) c, l[k]? = some c → ∀ u, callAV tabX (EW tabX) false (.clo f [] cap) [.int .i64 k, eVi c] ⟨h.b ++ u, h.t⟩ = some (.int .i64 (e k), ⟨h.b ++ u, h.t⟩)) :
   (EW tabX).call 120 [.lst t z (l.map eVi), .int .i64 lo, .int .i64 hi, .clo f [] cap] h = some (failE lo hi e l.length, h) := by
  obtain ⟨B, ht⟩ := h
  rw [w_call _ fn_120 rfl]
  unfold failE
  cases ho : out lo hi l.length with
  | true => simp only [go_sem, ↓reduceIte, Nat.reduceBEq, Nat.reduceEqDiff, Nat.reduceLT, Nat.reduceLeDiff, Nat.reduceAdd, Nat.reduceMul, Nat.reduceSub, reduceCtorEq, Int.reduceLT, Int.reduceLE, Int.reduceEq, Int.reduceBEq, Int.reduceBNe, Int.reduceToNat, Int.reduceAdd, Int.reduceNeg, Int.reduceSub, c31_1, ho]
  | false =>
  have hp := hp ho
  simp only [go_sem, ↓reduceIte, Nat.reduceBEq, Nat.reduceEqDiff, Nat.reduceLT, Nat.reduceLeDiff, Nat.reduceAdd, Nat.reduceMul, Nat.reduceSub, reduceCtorEq, Int.reduceLT, Int.reduceLE, Int.reduceEq, Int.reduceBEq, Int.reduceBNe, Int.reduceToNat, Int.reduceAdd, Int.reduceNeg, Int.reduceSub, c31_1, ho]
  simp only [callAV_clo] at hp
  have step : ∀ k c, l[k]? = some c → B ++ (l.take (k + 1)).map bVi = B ++ (l.take k).map bVi ++ [bVi c] := fun k c hx => by rw [map_succ _ hx, List.append_assoc]
  rw [w_first (fun k => [(21, .int .i64 k)]) (fun k => ⟨B ++ (l.take k).map bVi, ht⟩) e l.length .ret (fun n => [(8, .int .i64 n), (9, .int .i64 (e n)), (10, .int .i64 n), (11, .ref (B ++ (l.take n).map bVi).length 0), (12, .int .i64 (e n)), (21, .int .i64 n)]) (fun n => ⟨B ++ (l.take (n + 1)).map bVi, ht⟩) (.exit 0) [(21, .int .i64 l.length)] ⟨B ++ l.map bVi, ht⟩ ?_ ?_ ?_ ?_ ?_ rfl rfl]
  · unfold firstW atE
    cases firstBad e 0 l.length with
    | some n => simp only [go_sem, ↓reduceIte, Nat.reduceBEq, Nat.reduceEqDiff, Nat.reduceLT, Nat.reduceLeDiff, Nat.reduceAdd, Nat.reduceMul, Nat.reduceSub, reduceCtorEq, Int.reduceLT, Int.reduceLE, Int.reduceEq, Int.reduceBEq, Int.reduceBNe, Int.reduceToNat, Int.reduceAdd, Int.reduceNeg, Int.reduceSub]
    | none => simp only [go_sem, ↓reduceIte, Nat.reduceBEq, Nat.reduceEqDiff, Nat.reduceLT, Nat.reduceLeDiff, Nat.reduceAdd, Nat.reduceMul, Nat.reduceSub, reduceCtorEq, Int.reduceLT, Int.reduceLE, Int.reduceEq, Int.reduceBEq, Int.reduceBNe, Int.reduceToNat, Int.reduceAdd, Int.reduceNeg, Int.reduceSub]
  · simp only [go_sem, ↓reduceIte, Nat.reduceBEq, Nat.reduceEqDiff, Nat.reduceLT, Nat.reduceLeDiff, Nat.reduceAdd, Nat.reduceMul, Nat.reduceSub, reduceCtorEq, Int.reduceLT, Int.reduceLE, Int.reduceEq, Int.reduceBEq, Int.reduceBNe, Int.reduceToNat, Int.reduceAdd, Int.reduceNeg, Int.reduceSub]
  · simp only [go_sem, ↓reduceIte, Nat.reduceBEq, Nat.reduceEqDiff, Nat.reduceLT, Nat.reduceLeDiff, Nat.reduceAdd, Nat.reduceMul, Nat.reduceSub, reduceCtorEq, Int.reduceLT, Int.reduceLE, Int.reduceEq, Int.reduceBEq, Int.reduceBNe, Int.reduceToNat, Int.reduceAdd, Int.reduceNeg, Int.reduceSub]
  · intro k hk h0
    have hx := List.getElem?_eq_getElem hk
    have hki : (k : Int) < l.length := by omega
    have hz1 := hz (by intro e; rw [e] at hki; simp at hki; omega)
    subst hz1
    rw [step k _ hx]
    have hpk := hp k _ hx ((l.take k).map bVi ++ [bVi l[k]])
    rw [← List.append_assoc, h0] at hpk
    generalize B ++ (l.take k).map bVi = C at hpk ⊢
    simp only [eVi, bVi] at hpk
    simp (disch := omega) only [go_sem, ↓reduceIte, Nat.reduceBEq, Nat.reduceEqDiff, Nat.reduceLT, Nat.reduceLeDiff, Nat.reduceAdd, Nat.reduceMul, Nat.reduceSub, reduceCtorEq, Int.reduceLT, Int.reduceLE, Int.reduceEq, Int.reduceBEq, Int.reduceBNe, Int.reduceToNat, Int.reduceAdd, Int.reduceNeg, Int.reduceSub, hki, eVi_get, hx, eVi, ↓hpk, wrap_i64, bVi, bne_self_eq_false]
  · intro n hn hen
    have hx := List.getElem?_eq_getElem hn
    have hki : (n : Int) < l.length := by omega
    have hz1 := hz (by intro e; rw [e] at hn; simp at hn)
    subst hz1
    have hne : (e n != 0) = true := by simpa using hen
    rw [step n _ hx]
    have hpk := hp n _ hx ((l.take n).map bVi ++ [bVi l[n]])
    rw [← List.append_assoc] at hpk
    generalize B ++ (l.take n).map bVi = C at hpk ⊢
    simp only [eVi, bVi] at hpk
    simp (disch := omega) only [go_sem, ↓reduceIte, Nat.reduceBEq, Nat.reduceEqDiff, Nat.reduceLT, Nat.reduceLeDiff, Nat.reduceAdd, Nat.reduceMul, Nat.reduceSub, reduceCtorEq, Int.reduceLT, Int.reduceLE, Int.reduceEq, Int.reduceBEq, Int.reduceBNe, Int.reduceToNat, Int.reduceAdd, Int.reduceNeg, Int.reduceSub, hki, eVi_get, hx, eVi, ↓hpk, wrap_i64, bVi, hne]
  · simp only [go_sem, ↓reduceIte, Nat.reduceBEq, Nat.reduceEqDiff, Nat.reduceLT, Nat.reduceLeDiff, Nat.reduceAdd, Nat.reduceMul, Nat.reduceSub, reduceCtorEq, Int.reduceLT, Int.reduceLE, Int.reduceEq, Int.reduceBEq, Int.reduceBNe, Int.reduceToNat, Int.reduceAdd, Int.reduceNeg, Int.reduceSub, Int.lt_irrefl]

theorem c45 (f : Nat) (cap : List AV) (lo hi : Int) (l : List Et) (t z : Nat) (hz : l ≠ [] → z = 2) (h : Heap) (hl : l.length < 1000000000000000000) (e : Nat → Int)
   (hp : out lo hi l.length = false → ∀ (k : Nat) c, l[k]? = some c → ∀ u, callAV tabX (EW tabX) false (.clo f [] cap) [.int .i64 k, eEt c] ⟨h.b ++ u, h.t⟩ = some (.int .i64 (e k), ⟨h.b ++ u, h.t⟩)) :
   (EW tabX).call 123 [.lst t z (l.map eEt), .int .i64 lo, .int .i64 hi, .clo f [] cap] h = some (failE lo hi e l.length, h) := by
  obtain ⟨B, ht⟩ := h
  rw [w_call _ fn_123 rfl]
  unfold failE
  cases ho : out lo hi l.length with
  | true => simp only [go_sem, ↓reduceIte, Nat.reduceBEq, Nat.reduceEqDiff, Nat.reduceLT, Nat.reduceLeDiff, Nat.reduceAdd, Nat.reduceMul, Nat.reduceSub, reduceCtorEq, Int.reduceLT, Int.reduceLE, Int.reduceEq, Int.reduceBEq, Int.reduceBNe, Int.reduceToNat, Int.reduceAdd, Int.reduceNeg, Int.reduceSub, c31_1, ho]
  | false =>
  have hp := hp ho
  simp only [go_sem, ↓reduceIte, Nat.reduceBEq, Nat.reduceEqDiff, Nat.reduceLT, Nat.reduceLeDiff, Nat.reduceAdd, Nat.reduceMul, Nat.reduceSub, reduceCtorEq, Int.reduceLT, Int.reduceLE, Int.reduceEq, Int.reduceBEq, Int.reduceBNe, Int.reduceToNat, Int.reduceAdd, Int.reduceNeg, Int.reduceSub, c31_1, ho]
  simp only [callAV_clo] at hp
  have step : ∀ k c, l[k]? = some c → B ++ (l.take (k + 1)).map bEt = B ++ (l.take k).map bEt ++ [bEt c] := fun k c hx => by rw [map_succ _ hx, List.append_assoc]
  rw [w_first (fun k => [(21, .int .i64 k)]) (fun k => ⟨B ++ (l.take k).map bEt, ht⟩) e l.length .ret (fun n => [(8, .int .i64 n), (9, .int .i64 (e n)), (10, .int .i64 n), (11, .ref (B ++ (l.take n).map bEt).length 0), (12, .int .i64 (e n)), (21, .int .i64 n)]) (fun n => ⟨B ++ (l.take (n + 1)).map bEt, ht⟩) (.exit 0) [(21, .int .i64 l.length)] ⟨B ++ l.map bEt, ht⟩ ?_ ?_ ?_ ?_ ?_ rfl rfl]
  · unfold firstW atE
    cases firstBad e 0 l.length with
    | some n => simp only [go_sem, ↓reduceIte, Nat.reduceBEq, Nat.reduceEqDiff, Nat.reduceLT, Nat.reduceLeDiff, Nat.reduceAdd, Nat.reduceMul, Nat.reduceSub, reduceCtorEq, Int.reduceLT, Int.reduceLE, Int.reduceEq, Int.reduceBEq, Int.reduceBNe, Int.reduceToNat, Int.reduceAdd, Int.reduceNeg, Int.reduceSub]
    | none => simp only [go_sem, ↓reduceIte, Nat.reduceBEq, Nat.reduceEqDiff, Nat.reduceLT, Nat.reduceLeDiff, Nat.reduceAdd, Nat.reduceMul, Nat.reduceSub, reduceCtorEq, Int.reduceLT, Int.reduceLE, Int.reduceEq, Int.reduceBEq, Int.reduceBNe, Int.reduceToNat, Int.reduceAdd, Int.reduceNeg, Int.reduceSub]
  · simp only [go_sem, ↓reduceIte, Nat.reduceBEq, Nat.reduceEqDiff, Nat.reduceLT, Nat.reduceLeDiff, Nat.reduceAdd, Nat.reduceMul, Nat.reduceSub, reduceCtorEq, Int.reduceLT, Int.reduceLE, Int.reduceEq, Int.reduceBEq, Int.reduceBNe, Int.reduceToNat, Int.reduceAdd, Int.reduceNeg, Int.reduceSub]
  · simp only [go_sem, ↓reduceIte, Nat.reduceBEq, Nat.reduceEqDiff, Nat.reduceLT, Nat.reduceLeDiff, Nat.reduceAdd, Nat.reduceMul, Nat.reduceSub, reduceCtorEq, Int.reduceLT, Int.reduceLE, Int.reduceEq, Int.reduceBEq, Int.reduceBNe, Int.reduceToNat, Int.reduceAdd, Int.reduceNeg, Int.reduceSub]
  · intro k hk h0
    have hx := List.getElem?_eq_getElem hk
    have hki : (k : Int) < l.length := by omega
    have hz1 := hz (by intro e; rw [e] at hki; simp at hki; omega)
    subst hz1
    rw [step k _ hx]
    have hpk := hp k _ hx ((l.take k).map bEt ++ [bEt l[k]])
    rw [← List.append_assoc, h0] at hpk
    generalize B ++ (l.take k).map bEt = C at hpk ⊢
    simp only [eEt, bEt] at hpk
    simp (disch := omega) only [go_sem, ↓reduceIte, Nat.reduceBEq, Nat.reduceEqDiff, Nat.reduceLT, Nat.reduceLeDiff, Nat.reduceAdd, Nat.reduceMul, Nat.reduceSub, reduceCtorEq, Int.reduceLT, Int.reduceLE, Int.reduceEq, Int.reduceBEq, Int.reduceBNe, Int.reduceToNat, Int.reduceAdd, Int.reduceNeg, Int.reduceSub, hki, eEt_get, hx, eEt, ↓hpk, wrap_i64, bEt, bne_self_eq_false]
  · intro n hn hen
    have hx := List.getElem?_eq_getElem hn
    have hki : (n : Int) < l.length := by omega
    have hz1 := hz (by intro e; rw [e] at hn; simp at hn)
    subst hz1
    have hne : (e n != 0) = true := by simpa using hen
    rw [step n _ hx]
    have hpk := hp n _ hx ((l.take n).map bEt ++ [bEt l[n]])
    rw [← List.append_assoc] at hpk
    generalize B ++ (l.take n).map bEt = C at hpk ⊢
    simp only [eEt, bEt] at hpk
    simp (disch := omega) only [go_sem, ↓reduceIte, Nat.reduceBEq, Nat.reduceEqDiff, Nat.reduceLT, Nat.reduceLeDiff, Nat.reduceAdd, Nat.reduceMul, Nat.reduceSub, reduceCtorEq, Int.reduceLT, Int.reduceLE, Int.reduceEq, Int.reduceBEq, Int.reduceBNe, Int.reduceToNat, Int.reduceAdd, Int.reduceNeg, Int.reduceSub, hki, eEt_get, hx, eEt, ↓hpk, wrap_i64, bEt, hne]
  · simp only [go_sem, ↓reduceIte, Nat.reduceBEq, Nat.reduceEqDiff, Nat.reduceLT, Nat.reduceLeDiff, Nat.reduceAdd, Nat.reduceMul, Nat.reduceSub, reduceCtorEq, Int.reduceLT, Int.reduceLE, Int.reduceEq, Int.reduceBEq, Int.reduceBNe, Int.reduceToNat, Int.reduceAdd, Int.reduceNeg, Int.reduceSub, Int.lt_irrefl]
end Go.Proofs.YthkpjbgadkkeeaaGreat
end
section
namespace Go.Proofs.YthkpjbgadkkeeaaGreat
open Go.Proofs

theorem c71 (f : Nat) (fst cap : List AV) (l : List Pe) (t z : Nat) (hz : l ≠ [] → z = 2) (p : Pe → Bool) (h : Heap) (hl : l.length < 1000000000000000000)
   (hp : ∀ n ∈ l, callAV tabX (EW tabX) false (.clo f fst cap) [ePe n] h = some (.bool (p n), h)) :
   (EW tabX).call 166 [.lst t z (l.map ePe), .clo f fst cap] h = some (.int .i64 (if l.findIdx p < l.length then l.findIdx p else -1), h) := by
  obtain ⟨hb, ht⟩ := h
  rw [w_call _ fn_166 rfl]
  simp only [go_sem, ↓reduceIte, Nat.reduceBEq, Nat.reduceEqDiff, Nat.reduceLT, Nat.reduceLeDiff, Nat.reduceAdd, Nat.reduceMul, Nat.reduceSub, reduceCtorEq, Int.reduceLT, Int.reduceLE, Int.reduceEq, Int.reduceBEq, Int.reduceBNe, Int.reduceToNat, Int.reduceAdd, Int.reduceNeg, Int.reduceSub]
  simp only [callAV_clo] at hp
  by_cases hf : l.findIdx p < l.length
  · rw [w_rounds_u (fun k => [(8, .int .i64 k)]) (l.findIdx p) .ret [(4, .int .i64 (l.findIdx p)), (5, .int .i64 (l.findIdx p)), (8, .int .i64 (l.findIdx p))] ?_ ?_ ?_ rfl]
    · simp only [go_sem, ↓reduceIte, Nat.reduceBEq, Nat.reduceEqDiff, Nat.reduceLT, Nat.reduceLeDiff, Nat.reduceAdd, Nat.reduceMul, Nat.reduceSub, reduceCtorEq, Int.reduceLT, Int.reduceLE, Int.reduceEq, Int.reduceBEq, Int.reduceBNe, Int.reduceToNat, Int.reduceAdd, Int.reduceNeg, Int.reduceSub, hf]
    · simp only [go_sem, ↓reduceIte, Nat.reduceBEq, Nat.reduceEqDiff, Nat.reduceLT, Nat.reduceLeDiff, Nat.reduceAdd, Nat.reduceMul, Nat.reduceSub, reduceCtorEq, Int.reduceLT, Int.reduceLE, Int.reduceEq, Int.reduceBEq, Int.reduceBNe, Int.reduceToNat, Int.reduceAdd, Int.reduceNeg, Int.reduceSub]
    · intro k hk
      have hlt : k < l.length := by omega
      have hki : (k : Int) < l.length := by omega
      have hx := List.getElem?_eq_getElem hlt
      have hpx := hp l[k] (List.getElem_mem _)
      have hpf : p l[k] = false := by simpa using List.not_of_lt_findIdx hk
      have hz1 := hz (by intro e; rw [e] at hlt; simp at hlt)
      subst hz1
      rw [hpf] at hpx
      simp only [ePe] at hpx
      simp (disch := omega) only [go_sem, ↓reduceIte, Nat.reduceBEq, Nat.reduceEqDiff, Nat.reduceLT, Nat.reduceLeDiff, Nat.reduceAdd, Nat.reduceMul, Nat.reduceSub, reduceCtorEq, Int.reduceLT, Int.reduceLE, Int.reduceEq, Int.reduceBEq, Int.reduceBNe, Int.reduceToNat, Int.reduceAdd, Int.reduceNeg, Int.reduceSub, hki, hx, ePe, ↓hpx, wrap_i64]
    · have hx := List.getElem?_eq_getElem hf
      have hki : ((l.findIdx p : Nat) : Int) < l.length := by omega
      have hpx := hp l[l.findIdx p] (List.getElem_mem _)
      have hpt : p l[l.findIdx p] = true := List.findIdx_getElem
      have hz1 := hz (by intro e; rw [e] at hf; simp at hf)
      subst hz1
      rw [hpt] at hpx
      simp only [ePe] at hpx
      simp (disch := omega) only [go_sem, ↓reduceIte, Nat.reduceBEq, Nat.reduceEqDiff, Nat.reduceLT, Nat.reduceLeDiff, Nat.reduceAdd, Nat.reduceMul, Nat.reduceSub, reduceCtorEq, Int.reduceLT, Int.reduceLE, Int.reduceEq, Int.reduceBEq, Int.reduceBNe, Int.reduceToNat, Int.reduceAdd, Int.reduceNeg, Int.reduceSub, hki, hx, ePe, ↓hpx, wrap_i64]
  · have hn : l.findIdx p = l.length := by have := List.findIdx_le_length (p := p) (xs := l); omega
    rw [w_rounds_u (fun k => [(8, .int .i64 k)]) (l.length) (.exit 0) [(8, .int .i64 l.length)] ?_ ?_ ?_ rfl]
    · simp only [go_sem, ↓reduceIte, Nat.reduceBEq, Nat.reduceEqDiff, Nat.reduceLT, Nat.reduceLeDiff, Nat.reduceAdd, Nat.reduceMul, Nat.reduceSub, reduceCtorEq, Int.reduceLT, Int.reduceLE, Int.reduceEq, Int.reduceBEq, Int.reduceBNe, Int.reduceToNat, Int.reduceAdd, Int.reduceNeg, Int.reduceSub, hf]
    · simp only [go_sem, ↓reduceIte, Nat.reduceBEq, Nat.reduceEqDiff, Nat.reduceLT, Nat.reduceLeDiff, Nat.reduceAdd, Nat.reduceMul, Nat.reduceSub, reduceCtorEq, Int.reduceLT, Int.reduceLE, Int.reduceEq, Int.reduceBEq, Int.reduceBNe, Int.reduceToNat, Int.reduceAdd, Int.reduceNeg, Int.reduceSub]
    · intro k hk
      have hki : (k : Int) < l.length := by omega
      have hx := List.getElem?_eq_getElem hk
      have hpx := hp l[k] (List.getElem_mem _)
      have hpf : p l[k] = false := by simpa using List.not_of_lt_findIdx (p := p) (xs := l) (i := k) (by omega)
      have hz1 := hz (by intro e; rw [e] at hk; simp at hk)
      subst hz1
      rw [hpf] at hpx
      simp only [ePe] at hpx
      simp (disch := omega) only [go_sem, ↓reduceIte, Nat.reduceBEq, Nat.reduceEqDiff, Nat.reduceLT, Nat.reduceLeDiff, Nat.reduceAdd, Nat.reduceMul, Nat.reduceSub, reduceCtorEq, Int.reduceLT, Int.reduceLE, Int.reduceEq, Int.reduceBEq, Int.reduceBNe, Int.reduceToNat, Int.reduceAdd, Int.reduceNeg, Int.reduceSub, hki, hx, ePe, ↓hpx, wrap_i64]
    · simp (disch := omega) only [go_sem, ↓reduceIte, Nat.reduceBEq, Nat.reduceEqDiff, Nat.reduceLT, Nat.reduceLeDiff, Nat.reduceAdd, Nat.reduceMul, Nat.reduceSub, reduceCtorEq, Int.reduceLT, Int.reduceLE, Int.reduceEq, Int.reduceBEq, Int.reduceBNe, Int.reduceToNat, Int.reduceAdd, Int.reduceNeg, Int.reduceSub, Int.lt_irrefl]
theorem c39 (f : Nat) (fst cap : List AV) (l : List Pe) (t z : Nat) (hz : l ≠ [] → z = 2) (p : Pe → Bool) (h : Heap) (hl : l.length < 1000000000000000000)
   (hp : ∀ n ∈ l, callAV tabX (EW tabX) false (.clo f fst cap) [ePe n] h = some (.bool (p n), h)) (hc : (AV.clo f fst cap).clean = none) :
   (EW tabX).call 117 [.lst t z (l.map ePe), .clo f fst cap] h = some (.bool (l.any p), h) := by
  have h78 := c71 f fst cap l t z hz p h hl hp
  obtain ⟨hb, ht⟩ := h
  rw [w_call _ fn_117 rfl]
  simp only [go_sem, ↓reduceIte, Nat.reduceBEq, Nat.reduceEqDiff, Nat.reduceLT, Nat.reduceLeDiff, Nat.reduceAdd, Nat.reduceMul, Nat.reduceSub, reduceCtorEq, Int.reduceLT, Int.reduceLE, Int.reduceEq, Int.reduceBEq, Int.reduceBNe, Int.reduceToNat, Int.reduceAdd, Int.reduceNeg, Int.reduceSub, hc, h78, ge_iff_le, findIdx_any]

def peE (l : List Pe) (i : Nat) (p : Pe) : Int := if nameOk p.name then (if (l.take i).any (fun y => y.name == p.name) then 5 else if out 0 2 p.widow then 7 else 0) else 6
def viE (f : Fu) (i : Nat) (v : Vi) : Int :=
  if out 0 ((f.people.length : Int) - 1) v.person || out 0 ((f.lines.length : Int) - 1) v.kind then 4
  else if out 0 (f.days - 1) v.day || (out 1 8 v.llo || out 1 8 v.lhi) || (out 0 23 v.hlo || out 0 23 v.hhi) then 7
  else if decide (v.lhi < v.llo) || decide (v.hhi < v.hlo) || (match i with | 0 => false | k + 1 => match f.visits[k]? with | some w => decide (v.day < w.day) | none => false) then 2 else 0
def etE (f : Fu) (x : Et) : Int := if out 0 ((f.visits.length : Int) - 1) x.visit then 4 else if out 0 999 x.pence then 7 else 0
def lnE (n : Int) : Int := if out 0 9 n then 7 else 0
theorem c34 (k n : Int) (h : Heap) : callPure (EW tabX) 112 [.int .i64 k, .int .i64 n] h = some (.int .i64 (lnE n), h) := by
  rw [callPure_eq, w_call _ fn_112 rfl]
  cases h1 : out 0 9 n with
  | true => simp only [go_sem, ↓reduceIte, Nat.reduceBEq, Nat.reduceEqDiff, Nat.reduceLT, Nat.reduceLeDiff, Nat.reduceAdd, Nat.reduceMul, Nat.reduceSub, reduceCtorEq, Int.reduceLT, Int.reduceLE, Int.reduceEq, Int.reduceBEq, Int.reduceBNe, Int.reduceToNat, Int.reduceAdd, Int.reduceNeg, Int.reduceSub, c31_1, h1, lnE]
  | false => simp only [go_sem, ↓reduceIte, Nat.reduceBEq, Nat.reduceEqDiff, Nat.reduceLT, Nat.reduceLeDiff, Nat.reduceAdd, Nat.reduceMul, Nat.reduceSub, reduceCtorEq, Int.reduceLT, Int.reduceLE, Int.reduceEq, Int.reduceBEq, Int.reduceBNe, Int.reduceToNat, Int.reduceAdd, Int.reduceNeg, Int.reduceSub, c31_1, h1, lnE]
theorem c40 (c : Pe) (b : Nat) (x : ByteArray) (xs : List AV) (h : Heap) (hb : h.b[b]? = some (.cells (.str x :: xs))) :
   (EW tabX).call 118 [ePe c, .ref b 0] h = some (.bool (c.name == x), h) := by
  obtain ⟨B, ht⟩ := h
  have h1 : B[b]? = some (.cells (.str x :: xs)) := hb
  have h2 := old h1
  rw [w_call _ fn_118 rfl]
  simp only [go_sem, ↓reduceIte, Nat.reduceBEq, Nat.reduceEqDiff, Nat.reduceLT, Nat.reduceLeDiff, Nat.reduceAdd, Nat.reduceMul, Nat.reduceSub, reduceCtorEq, Int.reduceLT, Int.reduceLE, Int.reduceEq, Int.reduceBEq, Int.reduceBNe, Int.reduceToNat, Int.reduceAdd, Int.reduceNeg, Int.reduceSub, ePe, h1, h2]
theorem c37 (d : Fu) (hd : d.fits) (r : Nat) (i : Nat) (x : Pe) (hx : d.people[i]? = some x) (h : Heap) (hr : h.b[r]? = some (.cells (eFc d))) :
   (EW tabX).call 115 [.int .i64 i, ePe x, .ref r 0] h = some (.int .i64 (peE d.people i x), h) := by
  obtain ⟨B, ht⟩ := h
  have hr : B[r]? = some (.cells (eFc d)) := hr
  simp only [eFc] at hr
  have oR := old hr
  have hi : i < d.people.length := (List.getElem?_eq_some_iff.1 hx).1
  have hil : i ≤ d.people.length := by omega
  have hz := hd.zp (by intro e; rw [e] at hx; simp at hx)
  have h38 := c38 x.name (hd.np _ (List.mem_of_getElem? hx))
  have hla := hd.lp
  have h39 := c39 118 [] [.ref B.length 0] (d.people.take i) 0 2 (fun _ => rfl) (fun y => y.name == x.name) ⟨B ++ [bPe x], ht⟩ (by rw [List.length_take]; omega) (fun n _ => by
    have := c40 n B.length x.name [.int .i64 x.widow] ⟨B ++ [bPe x], ht⟩ (by simp [bPe])
    simp only [go_sem, ↓reduceIte, Nat.reduceBEq, Nat.reduceEqDiff, Nat.reduceLT, Nat.reduceLeDiff, Nat.reduceAdd, Nat.reduceMul, Nat.reduceSub, reduceCtorEq, Int.reduceLT, Int.reduceLE, Int.reduceEq, Int.reduceBEq, Int.reduceBNe, Int.reduceToNat, Int.reduceAdd, Int.reduceNeg, Int.reduceSub, ePe] at this ⊢
    exact this) (by simp only [go_sem, ↓reduceIte, Nat.reduceBEq, Nat.reduceEqDiff, Nat.reduceLT, Nat.reduceLeDiff, Nat.reduceAdd, Nat.reduceMul, Nat.reduceSub, reduceCtorEq, Int.reduceLT, Int.reduceLE, Int.reduceEq, Int.reduceBEq, Int.reduceBNe, Int.reduceToNat, Int.reduceAdd, Int.reduceNeg, Int.reduceSub])
  rw [List.map_take] at h39
  simp only [bPe] at h39
  rw [w_call _ fn_115 rfl]
  cases h1 : nameOk x.name with
  | false => simp only [go_sem, ↓reduceIte, Nat.reduceBEq, Nat.reduceEqDiff, Nat.reduceLT, Nat.reduceLeDiff, Nat.reduceAdd, Nat.reduceMul, Nat.reduceSub, reduceCtorEq, Int.reduceLT, Int.reduceLE, Int.reduceEq, Int.reduceBEq, Int.reduceBNe, Int.reduceToNat, Int.reduceAdd, Int.reduceNeg, Int.reduceSub, ePe, oR, h38, h1, peE]
  | true =>
    cases h2 : (d.people.take i).any (fun y => y.name == x.name) with
    | true => simp only [go_sem, ↓reduceIte, Nat.reduceBEq, Nat.reduceEqDiff, Nat.reduceLT, Nat.reduceLeDiff, Nat.reduceAdd, Nat.reduceMul, Nat.reduceSub, reduceCtorEq, Int.reduceLT, Int.reduceLE, Int.reduceEq, Int.reduceBEq, Int.reduceBNe, Int.reduceToNat, Int.reduceAdd, Int.reduceNeg, Int.reduceSub, ePe, oR, h38, h1, h2, h39, hil, hz, peE]
    | false =>
      cases h3 : out 0 2 x.widow with
      | true => simp only [go_sem, ↓reduceIte, Nat.reduceBEq, Nat.reduceEqDiff, Nat.reduceLT, Nat.reduceLeDiff, Nat.reduceAdd, Nat.reduceMul, Nat.reduceSub, reduceCtorEq, Int.reduceLT, Int.reduceLE, Int.reduceEq, Int.reduceBEq, Int.reduceBNe, Int.reduceToNat, Int.reduceAdd, Int.reduceNeg, Int.reduceSub, ePe, oR, h38, h1, h2, h39, hil, hz, peE, h3, c31_1]
      | false => simp only [go_sem, ↓reduceIte, Nat.reduceBEq, Nat.reduceEqDiff, Nat.reduceLT, Nat.reduceLeDiff, Nat.reduceAdd, Nat.reduceMul, Nat.reduceSub, reduceCtorEq, Int.reduceLT, Int.reduceLE, Int.reduceEq, Int.reduceBEq, Int.reduceBNe, Int.reduceToNat, Int.reduceAdd, Int.reduceNeg, Int.reduceSub, ePe, oR, h38, h1, h2, h39, hil, hz, peE, h3, c31_1]
theorem c46 (d : Fu) (hd : d.fits) (r : Nat) (k : Int) (x : Et) (h : Heap) (hr : h.b[r]? = some (.cells (eFc d))) :
   (EW tabX).call 124 [.int .i64 k, eEt x, .ref r 0] h = some (.int .i64 (etE d x), h) := by
  obtain ⟨B, ht⟩ := h
  have hr : B[r]? = some (.cells (eFc d)) := hr
  simp only [eFc] at hr
  have oR := old hr
  have hlv := hd.lv
  rw [w_call _ fn_124 rfl]
  cases h1 : out 0 ((d.visits.length : Int) - 1) x.visit with
  | true => simp (disch := omega) only [go_sem, ↓reduceIte, Nat.reduceBEq, Nat.reduceEqDiff, Nat.reduceLT, Nat.reduceLeDiff, Nat.reduceAdd, Nat.reduceMul, Nat.reduceSub, reduceCtorEq, Int.reduceLT, Int.reduceLE, Int.reduceEq, Int.reduceBEq, Int.reduceBNe, Int.reduceToNat, Int.reduceAdd, Int.reduceNeg, Int.reduceSub, eEt, oR, h1, etE, c31_1, wrap_i64]
  | false =>
    cases h2 : out 0 999 x.pence with
    | true => simp (disch := omega) only [go_sem, ↓reduceIte, Nat.reduceBEq, Nat.reduceEqDiff, Nat.reduceLT, Nat.reduceLeDiff, Nat.reduceAdd, Nat.reduceMul, Nat.reduceSub, reduceCtorEq, Int.reduceLT, Int.reduceLE, Int.reduceEq, Int.reduceBEq, Int.reduceBNe, Int.reduceToNat, Int.reduceAdd, Int.reduceNeg, Int.reduceSub, eEt, oR, h1, h2, etE, c31_1, wrap_i64]
    | false => simp (disch := omega) only [go_sem, ↓reduceIte, Nat.reduceBEq, Nat.reduceEqDiff, Nat.reduceLT, Nat.reduceLeDiff, Nat.reduceAdd, Nat.reduceMul, Nat.reduceSub, reduceCtorEq, Int.reduceLT, Int.reduceLE, Int.reduceEq, Int.reduceBEq, Int.reduceBNe, Int.reduceToNat, Int.reduceAdd, Int.reduceNeg, Int.reduceSub, eEt, oR, h1, h2, etE, c31_1, wrap_i64]
theorem c43 (d : Fu) (hd : d.fits) (hday : 1 ≤ d.days ∧ d.days ≤ 7) (r : Nat) (i : Nat) (x : Vi) (hx : d.visits[i]? = some x) (h : Heap) (hr : h.b[r]? = some (.cells (eFc d))) :
   (EW tabX).call 121 [.int .i64 i, eVi x, .ref r 0] h = some (.int .i64 (viE d i x), h) := by
  obtain ⟨B, ht⟩ := h
  have hr : B[r]? = some (.cells (eFc d)) := hr
  simp only [eFc] at hr
  have oR := old hr
  have hlp := hd.lp
  have hll := hd.ll
  have hlv := hd.lv
  have hlt : i < d.visits.length := (List.getElem?_eq_some_iff.1 hx).1
  have hz := hd.zv (by intro e; rw [e] at hx; simp at hx)
  rw [w_call _ fn_121 rfl]
  unfold viE
  cases h1 : out 0 ((d.people.length : Int) - 1) x.person with
  | true => simp (disch := omega) only [go_sem, ↓reduceIte, Nat.reduceBEq, Nat.reduceEqDiff, Nat.reduceLT, Nat.reduceLeDiff, Nat.reduceAdd, Nat.reduceMul, Nat.reduceSub, reduceCtorEq, Int.reduceLT, Int.reduceLE, Int.reduceEq, Int.reduceBEq, Int.reduceBNe, Int.reduceToNat, Int.reduceAdd, Int.reduceNeg, Int.reduceSub, eVi, oR, h1, c31_1, wrap_i64]
  | false =>
  cases h2 : out 0 ((d.lines.length : Int) - 1) x.kind with
  | true => simp (disch := omega) only [go_sem, ↓reduceIte, Nat.reduceBEq, Nat.reduceEqDiff, Nat.reduceLT, Nat.reduceLeDiff, Nat.reduceAdd, Nat.reduceMul, Nat.reduceSub, reduceCtorEq, Int.reduceLT, Int.reduceLE, Int.reduceEq, Int.reduceBEq, Int.reduceBNe, Int.reduceToNat, Int.reduceAdd, Int.reduceNeg, Int.reduceSub, eVi, oR, h1, h2, c31_1, wrap_i64]
  | false =>
  cases h3 : out 0 (d.days - 1) x.day with
  | true => simp (disch := omega) only [go_sem, ↓reduceIte, Nat.reduceBEq, Nat.reduceEqDiff, Nat.reduceLT, Nat.reduceLeDiff, Nat.reduceAdd, Nat.reduceMul, Nat.reduceSub, reduceCtorEq, Int.reduceLT, Int.reduceLE, Int.reduceEq, Int.reduceBEq, Int.reduceBNe, Int.reduceToNat, Int.reduceAdd, Int.reduceNeg, Int.reduceSub, eVi, oR, h1, h2, h3, c31_1, wrap_i64]
  | false =>
  cases h4 : (out 1 8 x.llo || out 1 8 x.lhi) with
  | true => simp (disch := omega) only [go_sem, ↓reduceIte, Nat.reduceBEq, Nat.reduceEqDiff, Nat.reduceLT, Nat.reduceLeDiff, Nat.reduceAdd, Nat.reduceMul, Nat.reduceSub, reduceCtorEq, Int.reduceLT, Int.reduceLE, Int.reduceEq, Int.reduceBEq, Int.reduceBNe, Int.reduceToNat, Int.reduceAdd, Int.reduceNeg, Int.reduceSub, eVi, oR, h1, h2, h3, h4, c31_1, c31_2, wrap_i64]
  | false =>
  cases h5 : (out 0 23 x.hlo || out 0 23 x.hhi) with
  | true => simp (disch := omega) only [go_sem, ↓reduceIte, Nat.reduceBEq, Nat.reduceEqDiff, Nat.reduceLT, Nat.reduceLeDiff, Nat.reduceAdd, Nat.reduceMul, Nat.reduceSub, reduceCtorEq, Int.reduceLT, Int.reduceLE, Int.reduceEq, Int.reduceBEq, Int.reduceBNe, Int.reduceToNat, Int.reduceAdd, Int.reduceNeg, Int.reduceSub, eVi, oR, h1, h2, h3, h4, h5, c31_1, c31_2, wrap_i64]
  | false =>
  by_cases h6 : x.lhi < x.llo
  · simp (disch := omega) only [go_sem, ↓reduceIte, Nat.reduceBEq, Nat.reduceEqDiff, Nat.reduceLT, Nat.reduceLeDiff, Nat.reduceAdd, Nat.reduceMul, Nat.reduceSub, reduceCtorEq, Int.reduceLT, Int.reduceLE, Int.reduceEq, Int.reduceBEq, Int.reduceBNe, Int.reduceToNat, Int.reduceAdd, Int.reduceNeg, Int.reduceSub, eVi, oR, h1, h2, h3, h4, h5, h6, c31_1, c31_2, wrap_i64]
  by_cases h7 : x.hhi < x.hlo
  · simp (disch := omega) only [go_sem, ↓reduceIte, Nat.reduceBEq, Nat.reduceEqDiff, Nat.reduceLT, Nat.reduceLeDiff, Nat.reduceAdd, Nat.reduceMul, Nat.reduceSub, reduceCtorEq, Int.reduceLT, Int.reduceLE, Int.reduceEq, Int.reduceBEq, Int.reduceBNe, Int.reduceToNat, Int.reduceAdd, Int.reduceNeg, Int.reduceSub, eVi, oR, h1, h2, h3, h4, h5, h6, h7, c31_1, c31_2, wrap_i64]
  cases i with
  | zero => simp (disch := omega) only [go_sem, ↓reduceIte, Nat.reduceBEq, Nat.reduceEqDiff, Nat.reduceLT, Nat.reduceLeDiff, Nat.reduceAdd, Nat.reduceMul, Nat.reduceSub, reduceCtorEq, Int.reduceLT, Int.reduceLE, Int.reduceEq, Int.reduceBEq, Int.reduceBNe, Int.reduceToNat, Int.reduceAdd, Int.reduceNeg, Int.reduceSub, eVi, oR, h1, h2, h3, h4, h5, h6, h7, c31_1, c31_2, wrap_i64]
  | succ k =>
    have hk : k < d.visits.length := by omega
    have hkx := List.getElem?_eq_getElem hk
    have hki : (k : Int) < d.visits.length := by omega
    have hpos : (0 : Int) < (k : Int) + 1 := by omega
    have hw : IntKind.i64.wrap ((k : Int) + 1 - 1) = (k : Int) := by rw [wrap_i64 (by omega)]; omega
    by_cases h8 : x.day < (d.visits[k]).day
    · simp (disch := omega) only [go_sem, ↓reduceIte, Nat.reduceBEq, Nat.reduceEqDiff, Nat.reduceLT, Nat.reduceLeDiff, Nat.reduceAdd, Nat.reduceMul, Nat.reduceSub, reduceCtorEq, Int.reduceLT, Int.reduceLE, Int.reduceEq, Int.reduceBEq, Int.reduceBNe, Int.reduceToNat, Int.reduceAdd, Int.reduceNeg, Int.reduceSub, eVi, oR, h1, h2, h3, h4, h5, h6, h7, h8, hkx, hki, hpos, hw, hz, c31_1, c31_2, wrap_i64]
    · simp (disch := omega) only [go_sem, ↓reduceIte, Nat.reduceBEq, Nat.reduceEqDiff, Nat.reduceLT, Nat.reduceLeDiff, Nat.reduceAdd, Nat.reduceMul, Nat.reduceSub, reduceCtorEq, Int.reduceLT, Int.reduceLE, Int.reduceEq, Int.reduceBEq, Int.reduceBNe, Int.reduceToNat, Int.reduceAdd, Int.reduceNeg, Int.reduceSub, eVi, oR, h1, h2, h3, h4, h5, h6, h7, h8, hkx, hki, hpos, hw, hz, c31_1, c31_2, wrap_i64]
end Go.Proofs.YthkpjbgadkkeeaaGreat
end
section
namespace Go.Proofs.YthkpjbgadkkeeaaGreat
open Go.Proofs

def failP (lo hi : Int) (e : Nat → Int) (n : Nat) : Int × Int := if out lo hi n = true then (0, 3) else match firstBad e 0 n with | some k => ((k : Int), e k) | none => (0, 0)
theorem failE_eq (lo hi : Int) (e : Nat → Int) (n : Nat) : failE lo hi e n = .tup [.int .i64 (failP lo hi e n).1, .int .i64 (failP lo hi e n).2] := by
  unfold failE failP atE
  split
  · rfl
  · cases firstBad e 0 n <;> rfl
def lineE (f : Fu) (i : Nat) : Int := match f.lines[i]? with | some n => lnE n | none => 0
def persE (f : Fu) (i : Nat) : Int := match f.people[i]? with | some p => peE f.people i p | none => 0
def visE (f : Fu) (i : Nat) : Int := match f.visits[i]? with | some v => viE f i v | none => 0
def entE (f : Fu) (i : Nat) : Int := match f.entries[i]? with | some x => etE f x | none => 0
def headE (f : Fu) : Int := if out 0 300 f.pence || out 1 7 f.days || (out 0 9 f.opn || out 0 9 f.late) || out 0 23 f.frm then 7 else 0
def partP (f : Fu) : Nat → Int × Int
  | 0 => (0, headE f)
  | 1 => failP 1 3 (lineE f) f.lines.length
  | 2 => failP 0 4 (persE f) f.people.length
  | 3 => failP 0 5 (visE f) f.visits.length
  | _ => failP 0 4 (entE f) f.entries.length
def partE (f : Fu) (k : Nat) : Int := (partP f k).2
def checkF (f : Fu) : Int × Int × Int := match firstBad (partE f) 0 5 with
  | some k => ((k : Int) + 1, (partP f k).1, (partP f k).2)
  | none => (0, 0, 0)
def tup3 (x : Int × Int × Int) : AV := .tup [.int .i64 x.1, .int .i64 x.2.1, .int .i64 x.2.2]
def tupP (x : Int × Int) : AV := .tup [.int .i64 x.1, .int .i64 x.2]
theorem c30 (d : Fu) (r : Nat) (h : Heap) (hr : h.b[r]? = some (.cells (eFc d))) : (EW tabX).call 109 [.ref r 0] h = some (tupP (0, headE d), h) := by
  obtain ⟨B, ht⟩ := h
  have hr : B[r]? = some (.cells (eFc d)) := hr
  simp only [eFc] at hr
  rw [w_call _ fn_109 rfl]
  unfold headE tupP
  cases h1 : out 0 300 d.pence with
  | true => simp only [go_sem, ↓reduceIte, Nat.reduceBEq, Nat.reduceEqDiff, Nat.reduceLT, Nat.reduceLeDiff, Nat.reduceAdd, Nat.reduceMul, Nat.reduceSub, reduceCtorEq, Int.reduceLT, Int.reduceLE, Int.reduceEq, Int.reduceBEq, Int.reduceBNe, Int.reduceToNat, Int.reduceAdd, Int.reduceNeg, Int.reduceSub, hr, c31_1, c31_2, h1]
  | false =>
  cases h2 : out 1 7 d.days with
  | true => simp only [go_sem, ↓reduceIte, Nat.reduceBEq, Nat.reduceEqDiff, Nat.reduceLT, Nat.reduceLeDiff, Nat.reduceAdd, Nat.reduceMul, Nat.reduceSub, reduceCtorEq, Int.reduceLT, Int.reduceLE, Int.reduceEq, Int.reduceBEq, Int.reduceBNe, Int.reduceToNat, Int.reduceAdd, Int.reduceNeg, Int.reduceSub, hr, c31_1, c31_2, h1, h2]
  | false =>
  cases h3 : (out 0 9 d.opn || out 0 9 d.late) with
  | true => simp only [go_sem, ↓reduceIte, Nat.reduceBEq, Nat.reduceEqDiff, Nat.reduceLT, Nat.reduceLeDiff, Nat.reduceAdd, Nat.reduceMul, Nat.reduceSub, reduceCtorEq, Int.reduceLT, Int.reduceLE, Int.reduceEq, Int.reduceBEq, Int.reduceBNe, Int.reduceToNat, Int.reduceAdd, Int.reduceNeg, Int.reduceSub, hr, c31_1, c31_2, h1, h2, h3]
  | false =>
  cases h4 : out 0 23 d.frm with
  | true => simp only [go_sem, ↓reduceIte, Nat.reduceBEq, Nat.reduceEqDiff, Nat.reduceLT, Nat.reduceLeDiff, Nat.reduceAdd, Nat.reduceMul, Nat.reduceSub, reduceCtorEq, Int.reduceLT, Int.reduceLE, Int.reduceEq, Int.reduceBEq, Int.reduceBNe, Int.reduceToNat, Int.reduceAdd, Int.reduceNeg, Int.reduceSub, hr, c31_1, c31_2, h1, h2, h3, h4]
  | false => simp only [go_sem, ↓reduceIte, Nat.reduceBEq, Nat.reduceEqDiff, Nat.reduceLT, Nat.reduceLeDiff, Nat.reduceAdd, Nat.reduceMul, Nat.reduceSub, reduceCtorEq, Int.reduceLT, Int.reduceLE, Int.reduceEq, Int.reduceBEq, Int.reduceBNe, Int.reduceToNat, Int.reduceAdd, Int.reduceNeg, Int.reduceSub, hr, c31_1, c31_2, h1, h2, h3, h4]
theorem c32 (d : Fu) (hd : d.fits) (r : Nat) (h : Heap) (hr : h.b[r]? = some (.cells (eFc d))) : (EW tabX).call 110 [.ref r 0] h = some (tupP (partP d 1), h) := by
  obtain ⟨B, ht⟩ := h
  have hr : B[r]? = some (.cells (eFc d)) := hr
  simp only [eFc] at hr
  have h33 : ∀ h, callPure (EW tabX) 111 [.lst 0 d.zl (I d.lines), .int .i64 1, .int .i64 3, .clo 112 [] []] h = some (failE 1 3 (lineE d) d.lines.length, h) := fun h => pure_of (c33 112 [] 1 3 d.lines 0 d.zl hd.zl ⟨[], []⟩ hd.ll (lineE d) (fun _ k s hx u => by
    have := c34 k s ⟨[] ++ u, []⟩
    simp only [go_sem, ↓reduceIte, Nat.reduceBEq, Nat.reduceEqDiff, Nat.reduceLT, Nat.reduceLeDiff, Nat.reduceAdd, Nat.reduceMul, Nat.reduceSub, reduceCtorEq, Int.reduceLT, Int.reduceLE, Int.reduceEq, Int.reduceBEq, Int.reduceBNe, Int.reduceToNat, Int.reduceAdd, Int.reduceNeg, Int.reduceSub, eIn] at this ⊢
    rw [this, lineE, hx])) (failE_clean _ _ _ _)
  rw [w_call _ fn_110 rfl]
  simp only [go_sem, ↓reduceIte, Nat.reduceBEq, Nat.reduceEqDiff, Nat.reduceLT, Nat.reduceLeDiff, Nat.reduceAdd, Nat.reduceMul, Nat.reduceSub, reduceCtorEq, Int.reduceLT, Int.reduceLE, Int.reduceEq, Int.reduceBEq, Int.reduceBNe, Int.reduceToNat, Int.reduceAdd, Int.reduceNeg, Int.reduceSub, hr, h33, failE_eq, partP, tupP]
theorem c35 (d : Fu) (hd : d.fits) (r : Nat) (h : Heap) (hr : h.b[r]? = some (.cells (eFc d))) : (EW tabX).call 113 [.ref r 0] h = some (tupP (partP d 2), h) := by
  obtain ⟨B, ht⟩ := h
  have h36 := c36 115 [.ref r 0] 0 4 d.people 0 d.zp hd.zp ⟨B, ht⟩ hd.lp (persE d) (fun _ k s hx u => by
    have := c37 d hd r k s hx ⟨B ++ u, ht⟩ (old hr u)
    simp only [go_sem, ↓reduceIte, Nat.reduceBEq, Nat.reduceEqDiff, Nat.reduceLT, Nat.reduceLeDiff, Nat.reduceAdd, Nat.reduceMul, Nat.reduceSub, reduceCtorEq, Int.reduceLT, Int.reduceLE, Int.reduceEq, Int.reduceBEq, Int.reduceBNe, Int.reduceToNat, Int.reduceAdd, Int.reduceNeg, Int.reduceSub, ePe] at this ⊢
    rw [this, persE, hx])
  have hr : B[r]? = some (.cells (eFc d)) := hr
  simp only [eFc] at hr
  rw [w_call _ fn_113 rfl]
  simp only [go_sem, ↓reduceIte, Nat.reduceBEq, Nat.reduceEqDiff, Nat.reduceLT, Nat.reduceLeDiff, Nat.reduceAdd, Nat.reduceMul, Nat.reduceSub, reduceCtorEq, Int.reduceLT, Int.reduceLE, Int.reduceEq, Int.reduceBEq, Int.reduceBNe, Int.reduceToNat, Int.reduceAdd, Int.reduceNeg, Int.reduceSub, hr, h36, failE_eq, partP, tupP]
theorem c41 (d : Fu) (hd : d.fits) (hday : 1 ≤ d.days ∧ d.days ≤ 7) (r : Nat) (h : Heap) (hr : h.b[r]? = some (.cells (eFc d))) : (EW tabX).call 119 [.ref r 0] h = some (tupP (partP d 3), h) := by
  obtain ⟨B, ht⟩ := h
  have h42 := c42 121 [.ref r 0] 0 5 d.visits 0 d.zv hd.zv ⟨B, ht⟩ hd.lv (visE d) (fun _ k s hx u => by
    have := c43 d hd hday r k s hx ⟨B ++ u, ht⟩ (old hr u)
    simp only [go_sem, ↓reduceIte, Nat.reduceBEq, Nat.reduceEqDiff, Nat.reduceLT, Nat.reduceLeDiff, Nat.reduceAdd, Nat.reduceMul, Nat.reduceSub, reduceCtorEq, Int.reduceLT, Int.reduceLE, Int.reduceEq, Int.reduceBEq, Int.reduceBNe, Int.reduceToNat, Int.reduceAdd, Int.reduceNeg, Int.reduceSub, eVi] at this ⊢
    rw [this, visE, hx])
  have hr : B[r]? = some (.cells (eFc d)) := hr
  simp only [eFc] at hr
  rw [w_call _ fn_119 rfl]
  simp only [go_sem, ↓reduceIte, Nat.reduceBEq, Nat.reduceEqDiff, Nat.reduceLT, Nat.reduceLeDiff, Nat.reduceAdd, Nat.reduceMul, Nat.reduceSub, reduceCtorEq, Int.reduceLT, Int.reduceLE, Int.reduceEq, Int.reduceBEq, Int.reduceBNe, Int.reduceToNat, Int.reduceAdd, Int.reduceNeg, Int.reduceSub, hr, h42, failE_eq, partP, tupP]
theorem c44 (d : Fu) (hd : d.fits) (r : Nat) (h : Heap) (hr : h.b[r]? = some (.cells (eFc d))) : (EW tabX).call 122 [.ref r 0] h = some (tupP (partP d 4), h) := by
  obtain ⟨B, ht⟩ := h
  have h45 := c45 124 [.ref r 0] 0 4 d.entries 0 d.ze hd.ze ⟨B, ht⟩ hd.le (entE d) (fun _ k s hx u => by
    have := c46 d hd r k s ⟨B ++ u, ht⟩ (old hr u)
    simp only [go_sem, ↓reduceIte, Nat.reduceBEq, Nat.reduceEqDiff, Nat.reduceLT, Nat.reduceLeDiff, Nat.reduceAdd, Nat.reduceMul, Nat.reduceSub, reduceCtorEq, Int.reduceLT, Int.reduceLE, Int.reduceEq, Int.reduceBEq, Int.reduceBNe, Int.reduceToNat, Int.reduceAdd, Int.reduceNeg, Int.reduceSub, eEt] at this ⊢
    rw [this, entE, hx])
  have hr : B[r]? = some (.cells (eFc d)) := hr
  simp only [eFc] at hr
  rw [w_call _ fn_122 rfl]
  simp only [go_sem, ↓reduceIte, Nat.reduceBEq, Nat.reduceEqDiff, Nat.reduceLT, Nat.reduceLeDiff, Nat.reduceAdd, Nat.reduceMul, Nat.reduceSub, reduceCtorEq, Int.reduceLT, Int.reduceLE, Int.reduceEq, Int.reduceBEq, Int.reduceBNe, Int.reduceToNat, Int.reduceAdd, Int.reduceNeg, Int.reduceSub, hr, h45, failE_eq, partP, tupP]

theorem failP_zero {lo hi : Int} {e : Nat → Int} {n : Nat} (h : (failP lo hi e n).2 = 0) : failP lo hi e n = (0, 0) := by
  unfold failP at h ⊢
  split
  · rename_i h1; rw [if_pos h1] at h; cases h
  · rename_i h1
    rw [if_neg h1] at h
    cases hf : firstBad e 0 n with
    | some k => rw [hf] at h; exact absurd h (firstBad_some hf).2.2.1
    | none => rfl
theorem partP_zero {d : Fu} : ∀ {k : Nat}, partE d k = 0 → partP d k = (0, 0)
  | 0, h => by
    have h : headE d = 0 := h
    show (0, headE d) = (0, 0)
    rw [h]
  | 1, h => failP_zero h
  | 2, h => failP_zero h
  | 3, h => failP_zero h
  | k + 4, h => failP_zero h
def pB5 : List ABlk := [.cells [.clo 109 [] [.ref 0 0]], .cells [.clo 110 [] [.ref 0 0]], .cells [.clo 113 [] [.ref 0 0]], .cells [.clo 119 [] [.ref 0 0]], .cells [.clo 122 [] [.ref 0 0]]]

set_option maxHeartbeats 1000000 in
theorem c9 (d : Fu) (hd : d.fits) (h : Heap) : callPure (EW tabX) 65 [eF d] h = some (tup3 (checkF d), h) := by
  have p0 : ∀ B t, (EW tabX).call 109 [.ref 0 0] ⟨.cells (eFc d) :: B, t⟩ = some (tupP (partP d 0), ⟨.cells (eFc d) :: B, t⟩) := fun B t => c30 d 0 _ rfl
  have p1 : ∀ B t, (EW tabX).call 110 [.ref 0 0] ⟨.cells (eFc d) :: B, t⟩ = some (tupP (partP d 1), ⟨.cells (eFc d) :: B, t⟩) := fun B t => c32 d hd 0 _ rfl
  have p2 : ∀ B t, (EW tabX).call 113 [.ref 0 0] ⟨.cells (eFc d) :: B, t⟩ = some (tupP (partP d 2), ⟨.cells (eFc d) :: B, t⟩) := fun B t => c35 d hd 0 _ rfl
  have p3 : partE d 0 = 0 → ∀ B t, (EW tabX).call 119 [.ref 0 0] ⟨.cells (eFc d) :: B, t⟩ = some (tupP (partP d 3), ⟨.cells (eFc d) :: B, t⟩) := fun h0 B t => c41 d hd (by
    unfold partE partP headE at h0
    simp only at h0
    split at h0
    · cases h0
    · rename_i h1
      simp [out] at h1
      omega) 0 _ rfl
  have p4 : ∀ B t, (EW tabX).call 122 [.ref 0 0] ⟨.cells (eFc d) :: B, t⟩ = some (tupP (partP d 4), ⟨.cells (eFc d) :: B, t⟩) := fun B t => c44 d hd 0 _ rfl
  rw [callPure_eq, w_call _ fn_65 rfl]
  unfold checkF
  have w1 : IntKind.i64.wrap 1 = 1 := wrap_i64 (by omega)
  have w2 : IntKind.i64.wrap 2 = 2 := wrap_i64 (by omega)
  have w3 : IntKind.i64.wrap 3 = 3 := wrap_i64 (by omega)
  have w4 : IntKind.i64.wrap 4 = 4 := wrap_i64 (by omega)
  have w5 : IntKind.i64.wrap 5 = 5 := wrap_i64 (by omega)
  have a1 : (eFc d).all AV.one = true := by simp only [go_sem, ↓reduceIte, Nat.reduceBEq, Nat.reduceEqDiff, Nat.reduceLT, Nat.reduceLeDiff, Nat.reduceAdd, Nat.reduceMul, Nat.reduceSub, reduceCtorEq, Int.reduceLT, Int.reduceLE, Int.reduceEq, Int.reduceBEq, Int.reduceBNe, Int.reduceToNat, Int.reduceAdd, Int.reduceNeg, Int.reduceSub, eFc]
  have a2 : ∀ n, underL n (eFc d) = true := fun n => by simp only [go_sem, ↓reduceIte, Nat.reduceBEq, Nat.reduceEqDiff, Nat.reduceLT, Nat.reduceLeDiff, Nat.reduceAdd, Nat.reduceMul, Nat.reduceSub, reduceCtorEq, Int.reduceLT, Int.reduceLE, Int.reduceEq, Int.reduceBEq, Int.reduceBNe, Int.reduceToNat, Int.reduceAdd, Int.reduceNeg, Int.reduceSub, eFc]
  simp only [go_sem, ↓reduceIte, Nat.reduceBEq, Nat.reduceEqDiff, Nat.reduceLT, Nat.reduceLeDiff, Nat.reduceAdd, Nat.reduceMul, Nat.reduceSub, reduceCtorEq, Int.reduceLT, Int.reduceLE, Int.reduceEq, Int.reduceBEq, Int.reduceBNe, Int.reduceToNat, Int.reduceAdd, Int.reduceNeg, Int.reduceSub, eF, a1, a2]
  generalize hx : (EW tabX).code 65 none (Code.loop _) _ = x
  cases hf : firstBad (partE d) 0 5 with
  | some K =>
    obtain ⟨_, hK, hne, hz⟩ := firstBad_some hf
    have hz : ∀ j, j < K → partE d j = 0 := fun j hj => hz j (Nat.zero_le _) hj
    rw [w_rounds_h (fun k => [(2, .int .i64 0), (3, .int .i64 0), (4, .int .i64 0), (21, .int .i64 (k : Int))]) (fun k => ⟨.cells (eFc d) :: pB5.take k, []⟩) K .ret [(2, .int .i64 ((K : Int) + 1)), (3, .int .i64 (partP d K).1), (4, .int .i64 (partP d K).2), (6, .int .i64 (K : Int)), (7, .ref (K + 1) 0), (21, .int .i64 (K : Int))]
      ⟨.cells (eFc d) :: pB5.take (K + 1), []⟩ ?_ ?_ ?_ ?_ rfl] at hx
    · subst hx
      simp only [go_sem, ↓reduceIte, Nat.reduceBEq, Nat.reduceEqDiff, Nat.reduceLT, Nat.reduceLeDiff, Nat.reduceAdd, Nat.reduceMul, Nat.reduceSub, reduceCtorEq, Int.reduceLT, Int.reduceLE, Int.reduceEq, Int.reduceBEq, Int.reduceBNe, Int.reduceToNat, Int.reduceAdd, Int.reduceNeg, Int.reduceSub, tup3]
    · simp only [go_sem, ↓reduceIte, Nat.reduceBEq, Nat.reduceEqDiff, Nat.reduceLT, Nat.reduceLeDiff, Nat.reduceAdd, Nat.reduceMul, Nat.reduceSub, reduceCtorEq, Int.reduceLT, Int.reduceLE, Int.reduceEq, Int.reduceBEq, Int.reduceBNe, Int.reduceToNat, Int.reduceAdd, Int.reduceNeg, Int.reduceSub]
    · rfl
    · intro k hk
      have hk0 := hz k hk
      have hkp := partP_zero hk0
      have : k = 0 ∨ k = 1 ∨ k = 2 ∨ k = 3 ∨ k = 4 := by omega
      rcases this with rfl | rfl | rfl | rfl | rfl
      · simp only [go_sem, ↓reduceIte, Nat.reduceBEq, Nat.reduceEqDiff, Nat.reduceLT, Nat.reduceLeDiff, Nat.reduceAdd, Nat.reduceMul, Nat.reduceSub, reduceCtorEq, Int.reduceLT, Int.reduceLE, Int.reduceEq, Int.reduceBEq, Int.reduceBNe, Int.reduceToNat, Int.reduceAdd, Int.reduceNeg, Int.reduceSub, p0, hkp, tupP, pB5, w1, w2, w3, w4, w5]
      · simp only [go_sem, ↓reduceIte, Nat.reduceBEq, Nat.reduceEqDiff, Nat.reduceLT, Nat.reduceLeDiff, Nat.reduceAdd, Nat.reduceMul, Nat.reduceSub, reduceCtorEq, Int.reduceLT, Int.reduceLE, Int.reduceEq, Int.reduceBEq, Int.reduceBNe, Int.reduceToNat, Int.reduceAdd, Int.reduceNeg, Int.reduceSub, p1, hkp, tupP, pB5, w1, w2, w3, w4, w5]
      · simp only [go_sem, ↓reduceIte, Nat.reduceBEq, Nat.reduceEqDiff, Nat.reduceLT, Nat.reduceLeDiff, Nat.reduceAdd, Nat.reduceMul, Nat.reduceSub, reduceCtorEq, Int.reduceLT, Int.reduceLE, Int.reduceEq, Int.reduceBEq, Int.reduceBNe, Int.reduceToNat, Int.reduceAdd, Int.reduceNeg, Int.reduceSub, p2, hkp, tupP, pB5, w1, w2, w3, w4, w5]
      · have p3 := p3 (hz 0 (by omega))
        simp only [go_sem, ↓reduceIte, Nat.reduceBEq, Nat.reduceEqDiff, Nat.reduceLT, Nat.reduceLeDiff, Nat.reduceAdd, Nat.reduceMul, Nat.reduceSub, reduceCtorEq, Int.reduceLT, Int.reduceLE, Int.reduceEq, Int.reduceBEq, Int.reduceBNe, Int.reduceToNat, Int.reduceAdd, Int.reduceNeg, Int.reduceSub, p3, hkp, tupP, pB5, w1, w2, w3, w4, w5]
      · simp only [go_sem, ↓reduceIte, Nat.reduceBEq, Nat.reduceEqDiff, Nat.reduceLT, Nat.reduceLeDiff, Nat.reduceAdd, Nat.reduceMul, Nat.reduceSub, reduceCtorEq, Int.reduceLT, Int.reduceLE, Int.reduceEq, Int.reduceBEq, Int.reduceBNe, Int.reduceToNat, Int.reduceAdd, Int.reduceNeg, Int.reduceSub, p4, hkp, tupP, pB5, w1, w2, w3, w4, w5]
    · have hb : ((partP d K).2 != 0) = true := by simpa [partE] using hne
      have : K = 0 ∨ K = 1 ∨ K = 2 ∨ K = 3 ∨ K = 4 := by omega
      rcases this with rfl | rfl | rfl | rfl | rfl
      · simp only [go_sem, ↓reduceIte, Nat.reduceBEq, Nat.reduceEqDiff, Nat.reduceLT, Nat.reduceLeDiff, Nat.reduceAdd, Nat.reduceMul, Nat.reduceSub, reduceCtorEq, Int.reduceLT, Int.reduceLE, Int.reduceEq, Int.reduceBEq, Int.reduceBNe, Int.reduceToNat, Int.reduceAdd, Int.reduceNeg, Int.reduceSub, p0, hb, tupP, pB5, w1, w2, w3, w4, w5]
      · simp only [go_sem, ↓reduceIte, Nat.reduceBEq, Nat.reduceEqDiff, Nat.reduceLT, Nat.reduceLeDiff, Nat.reduceAdd, Nat.reduceMul, Nat.reduceSub, reduceCtorEq, Int.reduceLT, Int.reduceLE, Int.reduceEq, Int.reduceBEq, Int.reduceBNe, Int.reduceToNat, Int.reduceAdd, Int.reduceNeg, Int.reduceSub, p1, hb, tupP, pB5, w1, w2, w3, w4, w5]
      · simp only [go_sem, ↓reduceIte, Nat.reduceBEq, Nat.reduceEqDiff, Nat.reduceLT, Nat.reduceLeDiff, Nat.reduceAdd, Nat.reduceMul, Nat.reduceSub, reduceCtorEq, Int.reduceLT, Int.reduceLE, Int.reduceEq, Int.reduceBEq, Int.reduceBNe, Int.reduceToNat, Int.reduceAdd, Int.reduceNeg, Int.reduceSub, p2, hb, tupP, pB5, w1, w2, w3, w4, w5]
      · have p3 := p3 (hz 0 (by omega))
        simp only [go_sem, ↓reduceIte, Nat.reduceBEq, Nat.reduceEqDiff, Nat.reduceLT, Nat.reduceLeDiff, Nat.reduceAdd, Nat.reduceMul, Nat.reduceSub, reduceCtorEq, Int.reduceLT, Int.reduceLE, Int.reduceEq, Int.reduceBEq, Int.reduceBNe, Int.reduceToNat, Int.reduceAdd, Int.reduceNeg, Int.reduceSub, p3, hb, tupP, pB5, w1, w2, w3, w4, w5]
      · simp only [go_sem, ↓reduceIte, Nat.reduceBEq, Nat.reduceEqDiff, Nat.reduceLT, Nat.reduceLeDiff, Nat.reduceAdd, Nat.reduceMul, Nat.reduceSub, reduceCtorEq, Int.reduceLT, Int.reduceLE, Int.reduceEq, Int.reduceBEq, Int.reduceBNe, Int.reduceToNat, Int.reduceAdd, Int.reduceNeg, Int.reduceSub, p4, hb, tupP, pB5, w1, w2, w3, w4, w5]
  | none =>
    have hz := fun i (hi : i < 5) => firstBad_none hf i (Nat.zero_le _) (by omega)
    rw [w_rounds_h (fun k => [(2, .int .i64 0), (3, .int .i64 0), (4, .int .i64 0), (21, .int .i64 (k : Int))]) (fun k => ⟨.cells (eFc d) :: pB5.take k, []⟩) 5 (.exit 0) [(21, .int .i64 5)]
      ⟨.cells (eFc d) :: pB5.take 5, []⟩ ?_ ?_ ?_ ?_ rfl] at hx
    · subst hx
      simp only [go_sem, ↓reduceIte, Nat.reduceBEq, Nat.reduceEqDiff, Nat.reduceLT, Nat.reduceLeDiff, Nat.reduceAdd, Nat.reduceMul, Nat.reduceSub, reduceCtorEq, Int.reduceLT, Int.reduceLE, Int.reduceEq, Int.reduceBEq, Int.reduceBNe, Int.reduceToNat, Int.reduceAdd, Int.reduceNeg, Int.reduceSub, tup3]
    · simp only [go_sem, ↓reduceIte, Nat.reduceBEq, Nat.reduceEqDiff, Nat.reduceLT, Nat.reduceLeDiff, Nat.reduceAdd, Nat.reduceMul, Nat.reduceSub, reduceCtorEq, Int.reduceLT, Int.reduceLE, Int.reduceEq, Int.reduceBEq, Int.reduceBNe, Int.reduceToNat, Int.reduceAdd, Int.reduceNeg, Int.reduceSub]
    · rfl
    · intro k hk
      have hk0 := hz k hk
      have hkp := partP_zero hk0
      have : k = 0 ∨ k = 1 ∨ k = 2 ∨ k = 3 ∨ k = 4 := by omega
      rcases this with rfl | rfl | rfl | rfl | rfl
      · simp only [go_sem, ↓reduceIte, Nat.reduceBEq, Nat.reduceEqDiff, Nat.reduceLT, Nat.reduceLeDiff, Nat.reduceAdd, Nat.reduceMul, Nat.reduceSub, reduceCtorEq, Int.reduceLT, Int.reduceLE, Int.reduceEq, Int.reduceBEq, Int.reduceBNe, Int.reduceToNat, Int.reduceAdd, Int.reduceNeg, Int.reduceSub, p0, hkp, tupP, pB5, w1, w2, w3, w4, w5]
      · simp only [go_sem, ↓reduceIte, Nat.reduceBEq, Nat.reduceEqDiff, Nat.reduceLT, Nat.reduceLeDiff, Nat.reduceAdd, Nat.reduceMul, Nat.reduceSub, reduceCtorEq, Int.reduceLT, Int.reduceLE, Int.reduceEq, Int.reduceBEq, Int.reduceBNe, Int.reduceToNat, Int.reduceAdd, Int.reduceNeg, Int.reduceSub, p1, hkp, tupP, pB5, w1, w2, w3, w4, w5]
      · simp only [go_sem, ↓reduceIte, Nat.reduceBEq, Nat.reduceEqDiff, Nat.reduceLT, Nat.reduceLeDiff, Nat.reduceAdd, Nat.reduceMul, Nat.reduceSub, reduceCtorEq, Int.reduceLT, Int.reduceLE, Int.reduceEq, Int.reduceBEq, Int.reduceBNe, Int.reduceToNat, Int.reduceAdd, Int.reduceNeg, Int.reduceSub, p2, hkp, tupP, pB5, w1, w2, w3, w4, w5]
      · have p3 := p3 (hz 0 (by omega))
        simp only [go_sem, ↓reduceIte, Nat.reduceBEq, Nat.reduceEqDiff, Nat.reduceLT, Nat.reduceLeDiff, Nat.reduceAdd, Nat.reduceMul, Nat.reduceSub, reduceCtorEq, Int.reduceLT, Int.reduceLE, Int.reduceEq, Int.reduceBEq, Int.reduceBNe, Int.reduceToNat, Int.reduceAdd, Int.reduceNeg, Int.reduceSub, p3, hkp, tupP, pB5, w1, w2, w3, w4, w5]
      · simp only [go_sem, ↓reduceIte, Nat.reduceBEq, Nat.reduceEqDiff, Nat.reduceLT, Nat.reduceLeDiff, Nat.reduceAdd, Nat.reduceMul, Nat.reduceSub, reduceCtorEq, Int.reduceLT, Int.reduceLE, Int.reduceEq, Int.reduceBEq, Int.reduceBNe, Int.reduceToNat, Int.reduceAdd, Int.reduceNeg, Int.reduceSub, p4, hkp, tupP, pB5, w1, w2, w3, w4, w5]
    · simp only [go_sem, ↓reduceIte, Nat.reduceBEq, Nat.reduceEqDiff, Nat.reduceLT, Nat.reduceLeDiff, Nat.reduceAdd, Nat.reduceMul, Nat.reduceSub, reduceCtorEq, Int.reduceLT, Int.reduceLE, Int.reduceEq, Int.reduceBEq, Int.reduceBNe, Int.reduceToNat, Int.reduceAdd, Int.reduceNeg, Int.reduceSub]
end Go.Proofs.YthkpjbgadkkeeaaGreat
end
section
namespace Go.Proofs.YthkpjbgadkkeeaaGreat
open Go.Proofs

theorem c72 (l : List ByteArray) (s : ByteArray) (z : Nat) (hz : l ≠ [] → z = 1) (hl : l.length < 1000000000000000000) (h : Heap) :
   callPure (EW tabX) 126 [.lst 0 z (S l), .str s] h = some (.int .i64 (if l.findIdx (fun x => x == s) < l.length then l.findIdx (fun x => x == s) else -1), h) := by
  rw [callPure_eq, w_call _ fn_126 rfl]
  simp only [go_sem, ↓reduceIte, Nat.reduceBEq, Nat.reduceEqDiff, Nat.reduceLT, Nat.reduceLeDiff, Nat.reduceAdd, Nat.reduceMul, Nat.reduceSub, reduceCtorEq, Int.reduceLT, Int.reduceLE, Int.reduceEq, Int.reduceBEq, Int.reduceBNe, Int.reduceToNat, Int.reduceAdd, Int.reduceNeg, Int.reduceSub]
  rw [w_rounds_u (fun k => [(5, .int .i64 k)]) (l.findIdx (fun x => x == s)) (.exit 0) [(5, .int .i64 (l.findIdx (fun x => x == s)))] ?_ ?_ ?_ rfl]
  · by_cases hf : l.findIdx (fun x => x == s) < l.length
    · have hne : (((l.findIdx (fun x => x == s) : Nat) : Int) == (l.length : Int)) = false := by simp; omega
      simp only [go_sem, ↓reduceIte, Nat.reduceBEq, Nat.reduceEqDiff, Nat.reduceLT, Nat.reduceLeDiff, Nat.reduceAdd, Nat.reduceMul, Nat.reduceSub, reduceCtorEq, Int.reduceLT, Int.reduceLE, Int.reduceEq, Int.reduceBEq, Int.reduceBNe, Int.reduceToNat, Int.reduceAdd, Int.reduceNeg, Int.reduceSub, hne, hf]
    · have hn : l.findIdx (fun x => x == s) = l.length := by have := List.findIdx_le_length (p := fun x => x == s) (xs := l); omega
      simp only [go_sem, ↓reduceIte, Nat.reduceBEq, Nat.reduceEqDiff, Nat.reduceLT, Nat.reduceLeDiff, Nat.reduceAdd, Nat.reduceMul, Nat.reduceSub, reduceCtorEq, Int.reduceLT, Int.reduceLE, Int.reduceEq, Int.reduceBEq, Int.reduceBNe, Int.reduceToNat, Int.reduceAdd, Int.reduceNeg, Int.reduceSub, hn, Nat.lt_irrefl]
  · simp only [go_sem, ↓reduceIte, Nat.reduceBEq, Nat.reduceEqDiff, Nat.reduceLT, Nat.reduceLeDiff, Nat.reduceAdd, Nat.reduceMul, Nat.reduceSub, reduceCtorEq, Int.reduceLT, Int.reduceLE, Int.reduceEq, Int.reduceBEq, Int.reduceBNe, Int.reduceToNat, Int.reduceAdd, Int.reduceNeg, Int.reduceSub]
  · intro k hk
    have hlt : k < l.length := by have := List.findIdx_le_length (p := fun x => x == s) (xs := l); omega
    have hki : (k : Int) < l.length := by omega
    have hx := List.getElem?_eq_getElem hlt
    have hpf : (l[k] == s) = false := by simpa using List.not_of_lt_findIdx hk
    have hz1 := hz (by intro e; rw [e] at hlt; simp at hlt)
    subst hz1
    have hne : (l[k] != s) = true := by simp only [bne, hpf, Bool.not_false]
    simp (disch := omega) only [go_sem, ↓reduceIte, Nat.reduceBEq, Nat.reduceEqDiff, Nat.reduceLT, Nat.reduceLeDiff, Nat.reduceAdd, Nat.reduceMul, Nat.reduceSub, reduceCtorEq, Int.reduceLT, Int.reduceLE, Int.reduceEq, Int.reduceBEq, Int.reduceBNe, Int.reduceToNat, Int.reduceAdd, Int.reduceNeg, Int.reduceSub, hki, hx, hne, wrap_i64]
  · by_cases hf : l.findIdx (fun x => x == s) < l.length
    · have hx := List.getElem?_eq_getElem hf
      have hki : ((l.findIdx (fun x => x == s) : Nat) : Int) < l.length := by omega
      have hpt : (l[l.findIdx (fun x => x == s)] == s) = true := List.findIdx_getElem (p := fun x => x == s)
      have hne : (l[l.findIdx (fun x => x == s)] != s) = false := by simp only [bne, hpt, Bool.not_true]
      have hz1 := hz (by intro e; rw [e] at hf; simp at hf)
      subst hz1
      simp (disch := omega) only [go_sem, ↓reduceIte, Nat.reduceBEq, Nat.reduceEqDiff, Nat.reduceLT, Nat.reduceLeDiff, Nat.reduceAdd, Nat.reduceMul, Nat.reduceSub, reduceCtorEq, Int.reduceLT, Int.reduceLE, Int.reduceEq, Int.reduceBEq, Int.reduceBNe, Int.reduceToNat, Int.reduceAdd, Int.reduceNeg, Int.reduceSub, hki, hx, hne]
    · have hn : l.findIdx (fun x => x == s) = l.length := by have := List.findIdx_le_length (p := fun x => x == s) (xs := l); omega
      simp only [go_sem, ↓reduceIte, Nat.reduceBEq, Nat.reduceEqDiff, Nat.reduceLT, Nat.reduceLeDiff, Nat.reduceAdd, Nat.reduceMul, Nat.reduceSub, reduceCtorEq, Int.reduceLT, Int.reduceLE, Int.reduceEq, Int.reduceBEq, Int.reduceBNe, Int.reduceToNat, Int.reduceAdd, Int.reduceNeg, Int.reduceSub, hn, Int.lt_irrefl]

def fresh (s : ByteArray) (l : List ByteArray) : Int := if nameOk s then (if l.any (fun x => x == s) then 5 else 0) else 6
theorem c48 (l : List ByteArray) (s : ByteArray) (z : Nat) (hz : l ≠ [] → z = 1) (hl : l.length < 1000000000000000000) (hs : s.size < 1000000000000000000) (h : Heap) :
   callPure (EW tabX) 73 [.str s, .lst 0 z (S l)] h = some (.int .i64 (fresh s l), h) := by
  have h73 := c72 l s z hz hl
  have h74 := c73 s hs
  have ha := findIdx_any l (fun x => x == s)
  rw [callPure_eq, w_call _ fn_73 rfl]
  cases h1 : l.any (fun x => x == s) with
  | true =>
    rw [h1] at ha
    cases h2 : nameOk s with
    | true => simp only [go_sem, ↓reduceIte, Nat.reduceBEq, Nat.reduceEqDiff, Nat.reduceLT, Nat.reduceLeDiff, Nat.reduceAdd, Nat.reduceMul, Nat.reduceSub, reduceCtorEq, Int.reduceLT, Int.reduceLE, Int.reduceEq, Int.reduceBEq, Int.reduceBNe, Int.reduceToNat, Int.reduceAdd, Int.reduceNeg, Int.reduceSub, h73, h74, ha, h2, fresh, h1]
    | false => simp only [go_sem, ↓reduceIte, Nat.reduceBEq, Nat.reduceEqDiff, Nat.reduceLT, Nat.reduceLeDiff, Nat.reduceAdd, Nat.reduceMul, Nat.reduceSub, reduceCtorEq, Int.reduceLT, Int.reduceLE, Int.reduceEq, Int.reduceBEq, Int.reduceBNe, Int.reduceToNat, Int.reduceAdd, Int.reduceNeg, Int.reduceSub, h73, h74, ha, h2, fresh, h1]
  | false =>
    rw [h1] at ha
    cases h2 : nameOk s with
    | true => simp only [go_sem, ↓reduceIte, Nat.reduceBEq, Nat.reduceEqDiff, Nat.reduceLT, Nat.reduceLeDiff, Nat.reduceAdd, Nat.reduceMul, Nat.reduceSub, reduceCtorEq, Int.reduceLT, Int.reduceLE, Int.reduceEq, Int.reduceBEq, Int.reduceBNe, Int.reduceToNat, Int.reduceAdd, Int.reduceNeg, Int.reduceSub, h73, h74, ha, h2, fresh, h1]
    | false => simp only [go_sem, ↓reduceIte, Nat.reduceBEq, Nat.reduceEqDiff, Nat.reduceLT, Nat.reduceLeDiff, Nat.reduceAdd, Nat.reduceMul, Nat.reduceSub, reduceCtorEq, Int.reduceLT, Int.reduceLE, Int.reduceEq, Int.reduceBEq, Int.reduceBNe, Int.reduceToNat, Int.reduceAdd, Int.reduceNeg, Int.reduceSub, h73, h74, ha, h2, fresh, h1]


def eSp (s : Int × Int) : AV := .agg [.int .i64 s.1, .int .i64 s.2]
theorem notin (n lo hi : Int) : (!inR n lo hi) = out lo hi n := by rw [← out_not, Bool.not_not]
def endE (lo hi : Int) (a b : Int) : Int := if out lo hi a || out lo hi b then 7 else if b < a then 2 else 0
theorem c74 (a b lo hi : Int) (h : Heap) : callPure (EW tabX) 130 [.agg [.int .i64 a, .int .i64 b], .int .i64 lo, .int .i64 hi] h = some (.int .i64 (endE lo hi a b), h) := by
  rw [callPure_eq, w_call _ fn_130 rfl]
  cases h1 : out lo hi a || out lo hi b with
  | true => simp only [go_sem, ↓reduceIte, Nat.reduceBEq, Nat.reduceEqDiff, Nat.reduceLT, Nat.reduceLeDiff, Nat.reduceAdd, Nat.reduceMul, Nat.reduceSub, reduceCtorEq, Int.reduceLT, Int.reduceLE, Int.reduceEq, Int.reduceBEq, Int.reduceBNe, Int.reduceToNat, Int.reduceAdd, Int.reduceNeg, Int.reduceSub, c47, notin, h1, endE]
  | false =>
    by_cases h2 : b < a
    · simp only [go_sem, ↓reduceIte, Nat.reduceBEq, Nat.reduceEqDiff, Nat.reduceLT, Nat.reduceLeDiff, Nat.reduceAdd, Nat.reduceMul, Nat.reduceSub, reduceCtorEq, Int.reduceLT, Int.reduceLE, Int.reduceEq, Int.reduceBEq, Int.reduceBNe, Int.reduceToNat, Int.reduceAdd, Int.reduceNeg, Int.reduceSub, c47, notin, h1, endE, h2]
    · simp only [go_sem, ↓reduceIte, Nat.reduceBEq, Nat.reduceEqDiff, Nat.reduceLT, Nat.reduceLeDiff, Nat.reduceAdd, Nat.reduceMul, Nat.reduceSub, reduceCtorEq, Int.reduceLT, Int.reduceLE, Int.reduceEq, Int.reduceBEq, Int.reduceBNe, Int.reduceToNat, Int.reduceAdd, Int.reduceNeg, Int.reduceSub, c47, notin, h1, endE, h2]
theorem endE_7 (lo hi a b : Int) : (endE lo hi a b == 7) = (out lo hi a || out lo hi b) := by
  unfold endE
  cases out lo hi a || out lo hi b with
  | true => rfl
  | false =>
    simp only [Bool.false_eq_true, if_false]
    split <;> rfl
theorem endE_0 {lo hi a b : Int} (h : (out lo hi a || out lo hi b) = false) : (endE lo hi a b != 0) = decide (b < a) := by
  unfold endE
  rw [h]
  simp only [Bool.false_eq_true, if_false]
  by_cases h2 : b < a
  · rw [if_pos h2, decide_eq_true h2]; rfl
  · rw [if_neg h2, decide_eq_false h2]; rfl

theorem c49 (d : Fu) (hd : d.fits) (hday : 1 ≤ d.days ∧ d.days ≤ 7) (i : Nat) (x : Vi) (hx : d.visits[i]? = some x) (h : Heap) : callPure (EW tabX) 75 [eF d, .int .i64 i] h = some (.int .i64 (viE d i x), h) := by
  have hlp := hd.lp
  have hll := hd.ll
  have hlv := hd.lv
  have hlt : i < d.visits.length := (List.getElem?_eq_some_iff.1 hx).1
  have hlti : (i : Int) < d.visits.length := by omega
  have hz := hd.zv (by intro e; rw [e] at hx; simp at hx)
  rw [callPure_eq, w_call _ fn_75 rfl]
  unfold viE
  have hw1 : IntKind.i64.wrap ((d.people.length : Int) - 1) = (d.people.length : Int) - 1 := wrap_i64 (by omega)
  have hw2 : IntKind.i64.wrap ((d.lines.length : Int) - 1) = (d.lines.length : Int) - 1 := wrap_i64 (by omega)
  have hw3 : IntKind.i64.wrap (d.days - 1) = d.days - 1 := wrap_i64 (by omega)
  cases h1 : (out 0 ((d.people.length : Int) - 1) x.person || out 0 ((d.lines.length : Int) - 1) x.kind) with
  | true => simp only [go_sem, ↓reduceIte, Nat.reduceBEq, Nat.reduceEqDiff, Nat.reduceLT, Nat.reduceLeDiff, Nat.reduceAdd, Nat.reduceMul, Nat.reduceSub, reduceCtorEq, Int.reduceLT, Int.reduceLE, Int.reduceEq, Int.reduceBEq, Int.reduceBNe, Int.reduceToNat, Int.reduceAdd, Int.reduceNeg, Int.reduceSub, eF, eFc, eVi, hlti, hx, hz, hw1, hw2, c47, notin, h1]
  | false =>
  have e7a := endE_7 1 8 x.llo x.lhi
  have e7b := endE_7 0 23 x.hlo x.hhi
  cases h2 : (out 0 (d.days - 1) x.day || (out 1 8 x.llo || out 1 8 x.lhi) || (out 0 23 x.hlo || out 0 23 x.hhi)) with
  | true =>
    rw [← e7a, ← e7b, Bool.or_assoc] at h2
    simp only [go_sem, ↓reduceIte, Nat.reduceBEq, Nat.reduceEqDiff, Nat.reduceLT, Nat.reduceLeDiff, Nat.reduceAdd, Nat.reduceMul, Nat.reduceSub, reduceCtorEq, Int.reduceLT, Int.reduceLE, Int.reduceEq, Int.reduceBEq, Int.reduceBNe, Int.reduceToNat, Int.reduceAdd, Int.reduceNeg, Int.reduceSub, eF, eFc, eVi, hlti, hx, hz, hw1, hw2, hw3, c47, c74, notin, h1, h2]
  | false =>
    have h34 : (out 1 8 x.llo || out 1 8 x.lhi) = false ∧ (out 0 23 x.hlo || out 0 23 x.hhi) = false := by
      simp only [Bool.or_eq_false_iff] at h2 ⊢
      exact ⟨h2.1.2, h2.2⟩
    have e0a := endE_0 h34.1
    have e0b := endE_0 h34.2
    rw [← e7a, ← e7b, Bool.or_assoc] at h2
    cases g1 : decide (x.lhi < x.llo) with
    | true =>
      rw [g1] at e0a
      have g1 : x.lhi < x.llo := by simpa using g1
      simp only [go_sem, ↓reduceIte, Nat.reduceBEq, Nat.reduceEqDiff, Nat.reduceLT, Nat.reduceLeDiff, Nat.reduceAdd, Nat.reduceMul, Nat.reduceSub, reduceCtorEq, Int.reduceLT, Int.reduceLE, Int.reduceEq, Int.reduceBEq, Int.reduceBNe, Int.reduceToNat, Int.reduceAdd, Int.reduceNeg, Int.reduceSub, eF, eFc, eVi, hlti, hx, hz, hw1, hw2, hw3, c47, c74, notin, h1, h2, e0a, g1]
    | false =>
    rw [g1] at e0a
    have g1 : ¬ x.lhi < x.llo := by simpa using g1
    cases g2 : decide (x.hhi < x.hlo) with
    | true =>
      rw [g2] at e0b
      have g2 : x.hhi < x.hlo := by simpa using g2
      simp only [go_sem, ↓reduceIte, Nat.reduceBEq, Nat.reduceEqDiff, Nat.reduceLT, Nat.reduceLeDiff, Nat.reduceAdd, Nat.reduceMul, Nat.reduceSub, reduceCtorEq, Int.reduceLT, Int.reduceLE, Int.reduceEq, Int.reduceBEq, Int.reduceBNe, Int.reduceToNat, Int.reduceAdd, Int.reduceNeg, Int.reduceSub, eF, eFc, eVi, hlti, hx, hz, hw1, hw2, hw3, c47, c74, notin, h1, h2, e0a, e0b, g1, g2]
    | false =>
    rw [g2] at e0b
    have g2 : ¬ x.hhi < x.hlo := by simpa using g2
    cases i with
    | zero => simp only [go_sem, ↓reduceIte, Nat.reduceBEq, Nat.reduceEqDiff, Nat.reduceLT, Nat.reduceLeDiff, Nat.reduceAdd, Nat.reduceMul, Nat.reduceSub, reduceCtorEq, Int.reduceLT, Int.reduceLE, Int.reduceEq, Int.reduceBEq, Int.reduceBNe, Int.reduceToNat, Int.reduceAdd, Int.reduceNeg, Int.reduceSub, eF, eFc, eVi, hlti, hx, hz, hw1, hw2, hw3, c47, c74, notin, h1, h2, e0a, e0b, g1, g2]
    | succ k =>
      have hk : k < d.visits.length := by omega
      have hkx := List.getElem?_eq_getElem hk
      have hki : (k : Int) < d.visits.length := by omega
      have hpos : (0 : Int) < (k : Int) + 1 := by omega
      have hlti : (k : Int) + 1 < d.visits.length := by omega
      have hw : IntKind.i64.wrap ((k : Int) + 1 - 1) = (k : Int) := by rw [wrap_i64 (by omega)]; omega
      by_cases h8 : x.day < (d.visits[k]).day
      · simp only [go_sem, ↓reduceIte, Nat.reduceBEq, Nat.reduceEqDiff, Nat.reduceLT, Nat.reduceLeDiff, Nat.reduceAdd, Nat.reduceMul, Nat.reduceSub, reduceCtorEq, Int.reduceLT, Int.reduceLE, Int.reduceEq, Int.reduceBEq, Int.reduceBNe, Int.reduceToNat, Int.reduceAdd, Int.reduceNeg, Int.reduceSub, eF, eFc, eVi, hlti, hx, hz, hw1, hw2, hw3, c47, c74, notin, h1, h2, e0a, e0b, g1, g2, sux_neg, sux_nat, hpos, hw, hki, hkx, h8]
      · simp only [go_sem, ↓reduceIte, Nat.reduceBEq, Nat.reduceEqDiff, Nat.reduceLT, Nat.reduceLeDiff, Nat.reduceAdd, Nat.reduceMul, Nat.reduceSub, reduceCtorEq, Int.reduceLT, Int.reduceLE, Int.reduceEq, Int.reduceBEq, Int.reduceBNe, Int.reduceToNat, Int.reduceAdd, Int.reduceNeg, Int.reduceSub, eF, eFc, eVi, hlti, hx, hz, hw1, hw2, hw3, c47, c74, notin, h1, h2, e0a, e0b, g1, g2, sux_neg, sux_nat, hpos, hw, hki, hkx, h8]
end Go.Proofs.YthkpjbgadkkeeaaGreat
end
section
namespace Go.Proofs.YthkpjbgadkkeeaaGreat
open Go.ChangeShapes Go.WideShapes Go.RowKit Go.Proofs

theorem cells3 : Tryz.prog.cellsOf 3 = 1 := by kernel_rfl
theorem cells4 : Tryz.prog.cellsOf 4 = 1 := by kernel_rfl
theorem cells27 : Tryz.prog.cellsOf 27 = 9 := by kernel_rfl
theorem cells59 : Tryz.prog.cellsOf 59 = 2 := by kernel_rfl
theorem cells49 : Tryz.prog.cellsOf 49 = 8 := by kernel_rfl
theorem cells83 : Tryz.prog.cellsOf 83 = 2 := by kernel_rfl
theorem cells29 : Tryz.prog.cellsOf 29 = 2 := by kernel_rfl
theorem cells9 : Tryz.prog.cellsOf 9 = 1 := by kernel_rfl
theorem cells22 : Tryz.prog.cellsOf 22 = 1 := by kernel_rfl
theorem cells23 : Tryz.prog.cellsOf 23 = 1 := by kernel_rfl
theorem cells24 : Tryz.prog.cellsOf 24 = 1 := by kernel_rfl
theorem cells25 : Tryz.prog.cellsOf 25 = 1 := by kernel_rfl
theorem bytes59 : Tryz.prog.bytesOf 59 = 24 := by kernel_rfl
theorem bytes49 : Tryz.prog.bytesOf 49 = 64 := by kernel_rfl
theorem bytes83 : Tryz.prog.bytesOf 83 = 16 := by kernel_rfl
theorem bytes3 : Tryz.prog.bytesOf 3 = 8 := by kernel_rfl
section
variable {H : Type} {enc : TypeId × Value → H} {W : World}
set_option maxRecDepth 100000 in
theorem rd_span0 (n : Nat) (cs : List Value) (d : DataW H) (ps : List MemPlace) (hl : cs.length = 2) (h : DataW.trod enc Tryz.prog W 0 (fun _ => true) true n 29 cs = some (d, ps)) : ∃ a b : Int, cs = [.int .i64 a, .int .i64 b] := by
  obtain ⟨xs, m, rfl, hx, _, hlen, hf⟩ := DataW.trod_struct Tryz.underlying29 h
  simp only [Prod.mk.injEq] at hx
  obtain ⟨rfl, _⟩ := hx
  obtain ⟨c0, c1, rfl⟩ : ∃ c0 c1, cs = [c0, c1] := by
    match cs, hl with
    | [c0, c1], _ => exact ⟨c0, c1, rfl⟩
  have l0 : xs.length = 2 := by rw [hlen]; rfl
  have g0 : DataW.trod enc Tryz.prog W 0 (fun _ => true) true m 3 ((([c0, c1] : List Value).drop 0).take (Tryz.prog.cellsOf 3)) = xs[0]? := hf 0 _ rfl
  have g1 : DataW.trod enc Tryz.prog W 0 (fun _ => true) true m 3 ((([c0, c1] : List Value).drop 1).take (Tryz.prog.cellsOf 3)) = xs[1]? := hf 1 _ rfl
  rw [cells3, List.getElem?_eq_getElem (by omega)] at g0
  rw [cells3, List.getElem?_eq_getElem (by omega)] at g1
  simp only [List.drop_zero, List.take_succ_cons, List.take_zero, List.drop_succ_cons] at g0 g1
  obtain ⟨n0, e0, _, b0⟩ := DataW.trod_int Tryz.underlying3 g0
  simp only [List.cons.injEq, and_true] at e0
  subst e0
  obtain ⟨n1, e1, _, b1⟩ := DataW.trod_int Tryz.underlying3 g1
  simp only [List.cons.injEq, and_true] at e1
  subst e1
  exact ⟨n0, n1, rfl⟩
set_option maxRecDepth 100000 in
theorem rd_person (n : Nat) (cs : List Value) (d : DataW H) (ps : List MemPlace) (hl : cs.length = 2) (h : DataW.trod enc Tryz.prog W 0 (fun _ => true) true n 59 cs = some (d, ps)) (hw : Light Tryz.prog 59 d) :
    ∃ y : Pe, (y.name.size < 1000000000000000000) ∧ Rv (Ctx.start tabX W) (ePe y) (eVal true cs) ∧ (eVal true cs).cells = cs.toArray := by
  obtain ⟨xs, m, rfl, hx, _, hlen, hf⟩ := DataW.trod_struct Tryz.underlying59 h
  simp only [Prod.mk.injEq] at hx
  obtain ⟨rfl, _⟩ := hx
  obtain ⟨c0, c1, rfl⟩ : ∃ c0 c1, cs = [c0, c1] := by
    match cs, hl with
    | [c0, c1], _ => exact ⟨c0, c1, rfl⟩
  have l0 : xs.length = 2 := by rw [hlen]; rfl
  have g0 : DataW.trod enc Tryz.prog W 0 (fun _ => true) true m 9 ((([c0, c1] : List Value).drop 0).take (Tryz.prog.cellsOf 9)) = xs[0]? := hf 0 _ rfl
  have g1 : DataW.trod enc Tryz.prog W 0 (fun _ => true) true m 3 ((([c0, c1] : List Value).drop 1).take (Tryz.prog.cellsOf 3)) = xs[1]? := hf 1 _ rfl
  rw [cells9, List.getElem?_eq_getElem (by omega)] at g0
  rw [cells3, List.getElem?_eq_getElem (by omega)] at g1
  simp only [List.drop_zero, List.take_succ_cons, List.take_zero, List.drop_succ_cons] at g0 g1
  have w0 : Light Tryz.prog 9 xs[0].1 := light_struct Tryz.underlying59 hw (i := 0) rfl (d := xs[0].1) (by simp [l0])
  obtain ⟨n0, e0, ex0, _⟩ := DataW.trod_string Tryz.underlying9 g0
  simp only [List.cons.injEq, and_true] at e0
  subst e0
  have hb0 : n0.size ≤ reachBytes := by
    have := w0 n0.data.toList.length (by rw [ex0]; simp [DataW.weights])
    rw [Array.length_toList] at this; exact this
  obtain ⟨n1, e1, _, b1⟩ := DataW.trod_int Tryz.underlying3 g1
  simp only [List.cons.injEq, and_true] at e1
  subst e1
  have := reachBytes_lt
  refine ⟨⟨n0, n1⟩, by show n0.size < _; omega, ?_, rfl⟩
  refine .agg _ [.string n0, .int .i64 n1] rfl fun i x hx => ?_
  match i, hx with
  | 0, hx => obtain rfl : AV.str n0 = x := Option.some.inj hx; exact .str _
  | 1, hx => obtain rfl : AV.int .i64 n1 = x := Option.some.inj hx; exact .int _ _
set_option maxRecDepth 100000 in
theorem rd_visit (n : Nat) (cs : List Value) (d : DataW H) (ps : List MemPlace) (hl : cs.length = 8) (h : DataW.trod enc Tryz.prog W 0 (fun _ => true) true n 49 cs = some (d, ps)) (hw : Light Tryz.prog 49 d) :
    ∃ y : Vi, (True) ∧ Rv (Ctx.start tabX W) (eVi y) (eVal true cs) ∧ (eVal true cs).cells = cs.toArray := by
  obtain ⟨xs, m, rfl, hx, _, hlen, hf⟩ := DataW.trod_struct Tryz.underlying49 h
  simp only [Prod.mk.injEq] at hx
  obtain ⟨rfl, _⟩ := hx
  obtain ⟨c0, c1, c2, c3, c4, c5, c6, c7, rfl⟩ : ∃ c0 c1 c2 c3 c4 c5 c6 c7, cs = [c0, c1, c2, c3, c4, c5, c6, c7] := by
    match cs, hl with
    | [c0, c1, c2, c3, c4, c5, c6, c7], _ => exact ⟨c0, c1, c2, c3, c4, c5, c6, c7, rfl⟩
  have l0 : xs.length = 6 := by rw [hlen]; rfl
  have g0 : DataW.trod enc Tryz.prog W 0 (fun _ => true) true m 3 ((([c0, c1, c2, c3, c4, c5, c6, c7] : List Value).drop 0).take (Tryz.prog.cellsOf 3)) = xs[0]? := hf 0 _ rfl
  have g1 : DataW.trod enc Tryz.prog W 0 (fun _ => true) true m 3 ((([c0, c1, c2, c3, c4, c5, c6, c7] : List Value).drop 1).take (Tryz.prog.cellsOf 3)) = xs[1]? := hf 1 _ rfl
  have g2 : DataW.trod enc Tryz.prog W 0 (fun _ => true) true m 3 ((([c0, c1, c2, c3, c4, c5, c6, c7] : List Value).drop 2).take (Tryz.prog.cellsOf 3)) = xs[2]? := hf 2 _ rfl
  have g3 : DataW.trod enc Tryz.prog W 0 (fun _ => true) true m 29 ((([c0, c1, c2, c3, c4, c5, c6, c7] : List Value).drop 3).take (Tryz.prog.cellsOf 29)) = xs[3]? := hf 3 _ rfl
  have g4 : DataW.trod enc Tryz.prog W 0 (fun _ => true) true m 29 ((([c0, c1, c2, c3, c4, c5, c6, c7] : List Value).drop 5).take (Tryz.prog.cellsOf 29)) = xs[4]? := hf 4 _ rfl
  have g5 : DataW.trod enc Tryz.prog W 0 (fun _ => true) true m 4 ((([c0, c1, c2, c3, c4, c5, c6, c7] : List Value).drop 7).take (Tryz.prog.cellsOf 4)) = xs[5]? := hf 5 _ rfl
  rw [cells3, List.getElem?_eq_getElem (by omega)] at g0
  rw [cells3, List.getElem?_eq_getElem (by omega)] at g1
  rw [cells3, List.getElem?_eq_getElem (by omega)] at g2
  rw [cells29, List.getElem?_eq_getElem (by omega)] at g3
  rw [cells29, List.getElem?_eq_getElem (by omega)] at g4
  rw [cells4, List.getElem?_eq_getElem (by omega)] at g5
  simp only [List.drop_zero, List.take_succ_cons, List.take_zero, List.drop_succ_cons] at g0 g1 g2 g3 g4 g5
  obtain ⟨n0, e0, _, b0⟩ := DataW.trod_int Tryz.underlying3 g0
  simp only [List.cons.injEq, and_true] at e0
  subst e0
  obtain ⟨n1, e1, _, b1⟩ := DataW.trod_int Tryz.underlying3 g1
  simp only [List.cons.injEq, and_true] at e1
  subst e1
  obtain ⟨n2, e2, _, b2⟩ := DataW.trod_int Tryz.underlying3 g2
  simp only [List.cons.injEq, and_true] at e2
  subst e2
  obtain ⟨a3, b3, e3⟩ := rd_span0 m _ _ _ rfl g3
  simp only [List.cons.injEq, and_true] at e3
  obtain ⟨rfl, rfl⟩ := e3
  obtain ⟨a4, b4, e4⟩ := rd_span0 m _ _ _ rfl g4
  simp only [List.cons.injEq, and_true] at e4
  obtain ⟨rfl, rfl⟩ := e4
  obtain ⟨n5, e5, _⟩ := DataW.trod_bool Tryz.underlying4 g5
  simp only [List.cons.injEq, and_true] at e5
  subst e5
  have := reachBytes_lt
  refine ⟨⟨n0, n1, n2, a3, b3, a4, b4, n5⟩, trivial, ?_, rfl⟩
  refine .agg _ [.int .i64 n0, .int .i64 n1, .int .i64 n2, .int .i64 a3, .int .i64 b3, .int .i64 a4, .int .i64 b4, .bool n5] rfl fun i x hx => ?_
  match i, hx with
  | 0, hx => obtain rfl : AV.int .i64 n0 = x := Option.some.inj hx; exact .int _ _
  | 1, hx => obtain rfl : AV.int .i64 n1 = x := Option.some.inj hx; exact .int _ _
  | 2, hx => obtain rfl : AV.int .i64 n2 = x := Option.some.inj hx; exact .int _ _
  | 3, hx => obtain rfl : AV.int .i64 a3 = x := Option.some.inj hx; exact .int _ _
  | 4, hx => obtain rfl : AV.int .i64 b3 = x := Option.some.inj hx; exact .int _ _
  | 5, hx => obtain rfl : AV.int .i64 a4 = x := Option.some.inj hx; exact .int _ _
  | 6, hx => obtain rfl : AV.int .i64 b4 = x := Option.some.inj hx; exact .int _ _
  | 7, hx => obtain rfl : AV.bool n5 = x := Option.some.inj hx; exact .bool _
set_option maxRecDepth 100000 in
theorem rd_entry (n : Nat) (cs : List Value) (d : DataW H) (ps : List MemPlace) (hl : cs.length = 2) (h : DataW.trod enc Tryz.prog W 0 (fun _ => true) true n 83 cs = some (d, ps)) (hw : Light Tryz.prog 83 d) :
    ∃ y : Et, (True) ∧ Rv (Ctx.start tabX W) (eEt y) (eVal true cs) ∧ (eVal true cs).cells = cs.toArray := by
  obtain ⟨xs, m, rfl, hx, _, hlen, hf⟩ := DataW.trod_struct Tryz.underlying83 h
  simp only [Prod.mk.injEq] at hx
  obtain ⟨rfl, _⟩ := hx
  obtain ⟨c0, c1, rfl⟩ : ∃ c0 c1, cs = [c0, c1] := by
    match cs, hl with
    | [c0, c1], _ => exact ⟨c0, c1, rfl⟩
  have l0 : xs.length = 2 := by rw [hlen]; rfl
  have g0 : DataW.trod enc Tryz.prog W 0 (fun _ => true) true m 3 ((([c0, c1] : List Value).drop 0).take (Tryz.prog.cellsOf 3)) = xs[0]? := hf 0 _ rfl
  have g1 : DataW.trod enc Tryz.prog W 0 (fun _ => true) true m 3 ((([c0, c1] : List Value).drop 1).take (Tryz.prog.cellsOf 3)) = xs[1]? := hf 1 _ rfl
  rw [cells3, List.getElem?_eq_getElem (by omega)] at g0
  rw [cells3, List.getElem?_eq_getElem (by omega)] at g1
  simp only [List.drop_zero, List.take_succ_cons, List.take_zero, List.drop_succ_cons] at g0 g1
  obtain ⟨n0, e0, _, b0⟩ := DataW.trod_int Tryz.underlying3 g0
  simp only [List.cons.injEq, and_true] at e0
  subst e0
  obtain ⟨n1, e1, _, b1⟩ := DataW.trod_int Tryz.underlying3 g1
  simp only [List.cons.injEq, and_true] at e1
  subst e1
  have := reachBytes_lt
  refine ⟨⟨n0, n1⟩, trivial, ?_, rfl⟩
  refine .agg _ [.int .i64 n0, .int .i64 n1] rfl fun i x hx => ?_
  match i, hx with
  | 0, hx => obtain rfl : AV.int .i64 n0 = x := Option.some.inj hx; exact .int _ _
  | 1, hx => obtain rfl : AV.int .i64 n1 = x := Option.some.inj hx; exact .int _ _
set_option maxRecDepth 100000 in
theorem rd_fus {v : Value} {d : DataW H} {ps : List MemPlace} {b0 : Nat} (hv : Value.okWide Tryz.prog W .any b0 27 v) (h : DataW.Trod enc Tryz.prog W 0 (fun _ => true) true 27 v d ps) (hw : Light Tryz.prog 27 d) :
    ∃ y : Fu, (y.fits ∧ y.entries.length < 8796093022208) ∧ Rv (Ctx.start tabX W) (eF y) v := by
  obtain ⟨cs, rfl, hsz⟩ := okWide_struct Tryz.underlying27 hv
  rw [cells27] at hsz
  obtain ⟨n, hn⟩ := h
  obtain ⟨xs, m, rfl, hx, _, hlen, hf⟩ := DataW.trod_struct Tryz.underlying27 hn
  simp only [Prod.mk.injEq] at hx
  obtain ⟨rfl, _⟩ := hx
  simp only [Value.cells] at hf
  obtain ⟨c0, c1, c2, c3, c4, c5, c6, c7, c8, rfl⟩ : ∃ a b c d e f g h i, cs = #[a, b, c, d, e, f, g, h, i] := by
    obtain ⟨l⟩ := cs
    match l, hsz with
    | [a, b, c, d, e, f, g, h, i], _ => exact ⟨a, b, c, d, e, f, g, h, i, rfl⟩
  have l5 : xs.length = 9 := by rw [hlen]; rfl
  have g0 : DataW.trod enc Tryz.prog W 0 (fun _ => true) true m 3 ((([c0, c1, c2, c3, c4, c5, c6, c7, c8] : List Value).drop 0).take (Tryz.prog.cellsOf 3)) = xs[0]? := hf 0 _ rfl
  have g1 : DataW.trod enc Tryz.prog W 0 (fun _ => true) true m 3 ((([c0, c1, c2, c3, c4, c5, c6, c7, c8] : List Value).drop 1).take (Tryz.prog.cellsOf 3)) = xs[1]? := hf 1 _ rfl
  have g2 : DataW.trod enc Tryz.prog W 0 (fun _ => true) true m 3 ((([c0, c1, c2, c3, c4, c5, c6, c7, c8] : List Value).drop 2).take (Tryz.prog.cellsOf 3)) = xs[2]? := hf 2 _ rfl
  have g3 : DataW.trod enc Tryz.prog W 0 (fun _ => true) true m 3 ((([c0, c1, c2, c3, c4, c5, c6, c7, c8] : List Value).drop 3).take (Tryz.prog.cellsOf 3)) = xs[3]? := hf 3 _ rfl
  have g4 : DataW.trod enc Tryz.prog W 0 (fun _ => true) true m 3 ((([c0, c1, c2, c3, c4, c5, c6, c7, c8] : List Value).drop 4).take (Tryz.prog.cellsOf 3)) = xs[4]? := hf 4 _ rfl
  have g5 : DataW.trod enc Tryz.prog W 0 (fun _ => true) true m 22 ((([c0, c1, c2, c3, c4, c5, c6, c7, c8] : List Value).drop 5).take (Tryz.prog.cellsOf 22)) = xs[5]? := hf 5 _ rfl
  have g6 : DataW.trod enc Tryz.prog W 0 (fun _ => true) true m 23 ((([c0, c1, c2, c3, c4, c5, c6, c7, c8] : List Value).drop 6).take (Tryz.prog.cellsOf 23)) = xs[6]? := hf 6 _ rfl
  have g7 : DataW.trod enc Tryz.prog W 0 (fun _ => true) true m 24 ((([c0, c1, c2, c3, c4, c5, c6, c7, c8] : List Value).drop 7).take (Tryz.prog.cellsOf 24)) = xs[7]? := hf 7 _ rfl
  have g8 : DataW.trod enc Tryz.prog W 0 (fun _ => true) true m 25 ((([c0, c1, c2, c3, c4, c5, c6, c7, c8] : List Value).drop 8).take (Tryz.prog.cellsOf 25)) = xs[8]? := hf 8 _ rfl
  have w5 : Light Tryz.prog 22 xs[5].1 := light_struct Tryz.underlying27 hw (i := 5) rfl (d := xs[5].1) (by simp [l5])
  have w6 : Light Tryz.prog 23 xs[6].1 := light_struct Tryz.underlying27 hw (i := 6) rfl (d := xs[6].1) (by simp [l5])
  have w7 : Light Tryz.prog 24 xs[7].1 := light_struct Tryz.underlying27 hw (i := 7) rfl (d := xs[7].1) (by simp [l5])
  have w8 : Light Tryz.prog 25 xs[8].1 := light_struct Tryz.underlying27 hw (i := 8) rfl (d := xs[8].1) (by simp [l5])
  rw [cells3, List.getElem?_eq_getElem (by omega)] at g0
  rw [cells3, List.getElem?_eq_getElem (by omega)] at g1
  rw [cells3, List.getElem?_eq_getElem (by omega)] at g2
  rw [cells3, List.getElem?_eq_getElem (by omega)] at g3
  rw [cells3, List.getElem?_eq_getElem (by omega)] at g4
  rw [cells22, List.getElem?_eq_getElem (by omega)] at g5
  rw [cells23, List.getElem?_eq_getElem (by omega)] at g6
  rw [cells24, List.getElem?_eq_getElem (by omega)] at g7
  rw [cells25, List.getElem?_eq_getElem (by omega)] at g8
  simp only [List.drop_zero, List.take_succ_cons, List.take_zero, List.drop_succ_cons] at g0 g1 g2 g3 g4 g5 g6 g7 g8
  obtain ⟨n0, e0, _, _⟩ := DataW.trod_int Tryz.underlying3 g0
  simp only [List.cons.injEq, and_true] at e0
  subst e0
  obtain ⟨n1, e1, _, _⟩ := DataW.trod_int Tryz.underlying3 g1
  simp only [List.cons.injEq, and_true] at e1
  subst e1
  obtain ⟨n2, e2, _, _⟩ := DataW.trod_int Tryz.underlying3 g2
  simp only [List.cons.injEq, and_true] at e2
  subst e2
  obtain ⟨n3, e3, _, _⟩ := DataW.trod_int Tryz.underlying3 g3
  simp only [List.cons.injEq, and_true] at e3
  subst e3
  obtain ⟨n4, e4, _, _⟩ := DataW.trod_int Tryz.underlying3 g4
  simp only [List.cons.injEq, and_true] at e4
  subst e4
  obtain ⟨ll, zl, v5, e5, r5, z5, b5, _⟩ := rd_slice (X := tabX) (AV.int .i64) (fun y => -9223372036854775808 ≤ y ∧ y ≤ 9223372036854775807) false 1 cells3 (by omega) (.inr rfl) Tryz.underlying22 (rd_int Tryz.underlying3) (ps := xs[5].2) g5 w5
  obtain ⟨lp, zp, v6, e6, r6, z6, b6, q6⟩ := rd_slice (X := tabX) ePe (fun y => y.name.size < 1000000000000000000) true 2 cells59 (by omega) (.inl rfl) Tryz.underlying23 rd_person (ps := xs[6].2) g6 w6
  obtain ⟨lv, zv, v7, e7, r7, z7, b7, _⟩ := rd_slice (X := tabX) eVi (fun y => True) true 8 cells49 (by omega) (.inl rfl) Tryz.underlying24 rd_visit (ps := xs[7].2) g7 w7
  obtain ⟨le, ze, v8, e8, r8, z8, b8, _⟩ := rd_slice (X := tabX) eEt (fun y => True) true 2 cells83 (by omega) (.inl rfl) Tryz.underlying25 rd_entry (ps := xs[8].2) g8 w8
  simp only [List.cons.injEq, and_true] at e5 e6 e7 e8
  subst e5; subst e6; subst e7; subst e8
  rw [bytes3] at b5
  rw [bytes59] at b6
  rw [bytes49] at b7
  rw [bytes83] at b8
  have := reachBytes_lt
  refine ⟨⟨n0, n1, n2, n3, n4, ll, lp, lv, le, 1, 2, 8, 2⟩, ⟨⟨fun _ => rfl, fun _ => rfl, fun _ => rfl, fun _ => rfl, by simp only; omega, by simp only; omega, by simp only; omega, by simp only; omega, q6⟩, by simp only; omega⟩, ?_⟩
  refine .agg _ [.int .i64 n0, .int .i64 n1, .int .i64 n2, .int .i64 n3, .int .i64 n4, _, _, _, _] rfl fun i x hx => ?_
  match i, hx with
  | 0, hx => obtain rfl : AV.int .i64 n0 = x := Option.some.inj hx; exact .int _ _
  | 1, hx => obtain rfl : AV.int .i64 n1 = x := Option.some.inj hx; exact .int _ _
  | 2, hx => obtain rfl : AV.int .i64 n2 = x := Option.some.inj hx; exact .int _ _
  | 3, hx => obtain rfl : AV.int .i64 n3 = x := Option.some.inj hx; exact .int _ _
  | 4, hx => obtain rfl : AV.int .i64 n4 = x := Option.some.inj hx; exact .int _ _
  | 5, hx => obtain rfl : AV.lst 0 1 (I ll) = x := Option.some.inj hx; exact rv_sz r5 z5
  | 6, hx => obtain rfl : AV.lst 0 2 (lp.map ePe) = x := Option.some.inj hx; exact rv_sz r6 z6
  | 7, hx => obtain rfl : AV.lst 0 8 (lv.map eVi) = x := Option.some.inj hx; exact rv_sz r7 z7
  | 8, hx => obtain rfl : AV.lst 0 2 (le.map eEt) = x := Option.some.inj hx; exact rv_sz r8 z8
set_option maxRecDepth 100000 in
theorem rd_fu {v : Value} {d : DataW H} {ps : List MemPlace} {b0 : Nat} (hv : Value.okWide Tryz.prog W .any b0 27 v) (h : DataW.Trod enc Tryz.prog W 0 (fun _ => true) true 27 v d ps) (hw : Light Tryz.prog 27 d) :
    ∃ y : Fu, y.fits ∧ Rv (Ctx.start tabX W) (eF y) v := by
  obtain ⟨y, h1, h2⟩ := rd_fus hv h hw
  exact ⟨y, h1.1, h2⟩
set_option maxRecDepth 100000 in
theorem rd_int' {k : IntKind} {t : TypeId} (hu : Tryz.prog.underlying t = some (.int k)) {v : Value} {d : DataW H} {ps : List MemPlace} {b0 : Nat} (hv : Value.okWide Tryz.prog W .any b0 t v) (h : DataW.Trod enc Tryz.prog W 0 (fun _ => true) true t v d ps) :
    ∃ y : Int, (Lit.int k y).wf = true ∧ Rv (Ctx.start tabX W) (.int k y) v := by
  obtain ⟨y, rfl, _, _, hw⟩ := open_int hu hv h
  exact ⟨y, hw, .int k y⟩
set_option maxRecDepth 100000 in
theorem rd_int0 {v : Value} {d : DataW H} {ps : List MemPlace} {b0 : Nat} (hv : Value.okWide Tryz.prog W .any b0 3 v) (h : DataW.Trod enc Tryz.prog W 0 (fun _ => true) true 3 v d ps) (_ : Light Tryz.prog 3 d) :
    ∃ y : Int, (-9223372036854775808 ≤ y ∧ y ≤ 9223372036854775807) ∧ Rv (Ctx.start tabX W) (.int .i64 y) v := by
  obtain ⟨y, hw, hr⟩ := rd_int' Tryz.underlying3 hv h
  exact ⟨y, bounds_i64 hw, hr⟩
end
end Go.Proofs.YthkpjbgadkkeeaaGreat
end
section
namespace Go.Proofs.YthkpjbgadkkeeaaGreat
open Go.Proofs

theorem checkF_eq (d : Fu) : checkF d = if headE d ≠ 0 then (1, 0, headE d) else if (partP d 1).2 ≠ 0 then (2, partP d 1) else if (partP d 2).2 ≠ 0 then (3, partP d 2) else if (partP d 3).2 ≠ 0 then (4, partP d 3) else if (partP d 4).2 ≠ 0 then (5, partP d 4) else (0, 0, 0) := by
  unfold checkF
  have e0 : partE d 0 = headE d := rfl
  by_cases h0 : headE d ≠ 0
  · rw [if_pos h0]; simp only [firstBad, e0, h0, ne_eq, not_false_eq_true, if_true]; rfl
  rw [if_neg h0]
  by_cases h1 : (partP d 1).2 ≠ 0
  · rw [if_pos h1]
    have h1 : partE d 1 ≠ 0 := h1
    simp only [firstBad, e0, h0, h1, ne_eq, not_false_eq_true, if_true, if_false]; rfl
  rw [if_neg h1]
  have h1 : ¬ partE d 1 ≠ 0 := h1
  by_cases h2 : (partP d 2).2 ≠ 0
  · rw [if_pos h2]
    have h2 : partE d 2 ≠ 0 := h2
    simp only [firstBad, e0, h0, h1, h2, ne_eq, not_false_eq_true, if_true, if_false]; rfl
  rw [if_neg h2]
  have h2 : ¬ partE d 2 ≠ 0 := h2
  by_cases h3 : (partP d 3).2 ≠ 0
  · rw [if_pos h3]
    have h3 : partE d 3 ≠ 0 := h3
    simp only [firstBad, e0, h0, h1, h2, h3, ne_eq, not_false_eq_true, if_true, if_false]; rfl
  rw [if_neg h3]
  have h3 : ¬ partE d 3 ≠ 0 := h3
  by_cases h4 : (partP d 4).2 ≠ 0
  · rw [if_pos h4]
    have h4 : partE d 4 ≠ 0 := h4
    simp only [firstBad, e0, h0, h1, h2, h3, h4, ne_eq, not_false_eq_true, if_true, if_false]; rfl
  rw [if_neg h4]
  have h4 : ¬ partE d 4 ≠ 0 := h4
  simp only [firstBad, e0, h0, h1, h2, h3, h4, ne_eq, not_false_eq_true, if_true, if_false]
theorem failP_no {lo hi : Int} {e : Nat → Int} {n : Nat} (h : out lo hi n = true) : failP lo hi e n = (0, 3) := if_pos h
theorem failP_bad {lo hi : Int} {e : Nat → Int} {n k : Nat} (h : out lo hi n = false) (hf : firstBad e 0 n = some k) : failP lo hi e n = ((k : Int), e k) := by
  unfold failP; rw [if_neg (by rw [h]; exact Bool.false_ne_true), hf]
theorem failP_ok {lo hi : Int} {e : Nat → Int} {n : Nat} (h : out lo hi n = false) (hf : firstBad e 0 n = none) : failP lo hi e n = (0, 0) := by
  unfold failP; rw [if_neg (by rw [h]; exact Bool.false_ne_true), hf]
def names (l : List Pe) : List ByteArray := l.map (·.name)
theorem names_any (l : List Pe) (s : ByteArray) : (names l).any (fun x => x == s) = l.any (fun y => y.name == s) := by simp [names, List.any_map]; rfl
theorem names_succ {l : List Pe} {k : Nat} {x : Pe} (h : l[k]? = some x) : names (l.take (k + 1)) = names (l.take k) ++ [x.name] := map_succ _ h

set_option maxHeartbeats 4000000 in
theorem c10 (d : Fu) (hd : d.fits) (h : Heap) : callPure (EW tabX) 38 [eF d] h = some (tup3 (checkF d), h) := by
  rw [callPure_eq, w_call _ fn_38 rfl]
  rw [checkF_eq]
  have hll := hd.ll
  have hlp := hd.lp
  have hlv := hd.lv
  have hle := hd.le
  have ehead : (out 0 300 d.pence || (out 1 7 d.days || (out 0 9 d.opn || (out 0 9 d.late || out 0 23 d.frm)))) = (out 0 300 d.pence || out 1 7 d.days || (out 0 9 d.opn || out 0 9 d.late) || out 0 23 d.frm) := by
    simp only [Bool.or_assoc]
  cases h0 : (out 0 300 d.pence || out 1 7 d.days || (out 0 9 d.opn || out 0 9 d.late) || out 0 23 d.frm) with
  | true =>
    have e0 : headE d = 7 := by unfold headE; rw [h0]; rfl
    rw [h0] at ehead
    rw [e0, if_pos (by decide)]
    simp only [go_sem, ↓reduceIte, Nat.reduceBEq, Nat.reduceEqDiff, Nat.reduceLT, Nat.reduceLeDiff, Nat.reduceAdd, Nat.reduceMul, Nat.reduceSub, reduceCtorEq, Int.reduceLT, Int.reduceLE, Int.reduceEq, Int.reduceBEq, Int.reduceBNe, Int.reduceToNat, Int.reduceAdd, Int.reduceNeg, Int.reduceSub, eF, eFc, c47, notin, ehead, tup3]
  | false =>
  have e0 : headE d = 0 := by unfold headE; rw [h0]; rfl
  have hday : 1 ≤ d.days ∧ d.days ≤ 7 := by
    simp [out] at h0; omega
  rw [h0] at ehead
  rw [e0, if_neg (by decide)]
  cases h1 : out 1 3 d.lines.length with
  | true =>
    have e1 : partP d 1 = (0, 3) := failP_no h1
    rw [e1, if_pos (by decide)]
    simp only [go_sem, ↓reduceIte, Nat.reduceBEq, Nat.reduceEqDiff, Nat.reduceLT, Nat.reduceLeDiff, Nat.reduceAdd, Nat.reduceMul, Nat.reduceSub, reduceCtorEq, Int.reduceLT, Int.reduceLE, Int.reduceEq, Int.reduceBEq, Int.reduceBNe, Int.reduceToNat, Int.reduceAdd, Int.reduceNeg, Int.reduceSub, eF, eFc, c47, ehead, notin, h1, tup3]
  | false =>
  simp only [go_sem, ↓reduceIte, Nat.reduceBEq, Nat.reduceEqDiff, Nat.reduceLT, Nat.reduceLeDiff, Nat.reduceAdd, Nat.reduceMul, Nat.reduceSub, reduceCtorEq, Int.reduceLT, Int.reduceLE, Int.reduceEq, Int.reduceBEq, Int.reduceBNe, Int.reduceToNat, Int.reduceAdd, Int.reduceNeg, Int.reduceSub, eF, eFc, c47, ehead, notin, h1]
  rw [w_first (fun k => [(5, .int .i64 k)]) (fun _ => ⟨[.cells (eFc d)], []⟩) (lineE d) d.lines.length .ret (fun n => [(2, .int .i64 2), (3, .int .i64 n), (4, .int .i64 7), (5, .int .i64 n)]) (fun _ => ⟨[.cells (eFc d)], []⟩) (.exit 0) [(5, .int .i64 d.lines.length)] ⟨[.cells (eFc d)], []⟩ ?_ ?_ ?_ ?_ ?_ rfl rfl]
  rotate_left
  · simp only [go_sem, ↓reduceIte, Nat.reduceBEq, Nat.reduceEqDiff, Nat.reduceLT, Nat.reduceLeDiff, Nat.reduceAdd, Nat.reduceMul, Nat.reduceSub, reduceCtorEq, Int.reduceLT, Int.reduceLE, Int.reduceEq, Int.reduceBEq, Int.reduceBNe, Int.reduceToNat, Int.reduceAdd, Int.reduceNeg, Int.reduceSub]
  · simp only [eFc]
  · intro k hk hz0
    have hx := List.getElem?_eq_getElem hk
    have hki : (k : Int) < d.lines.length := by omega
    have hz := hd.zl (by intro e; rw [e] at hk; simp at hk)
    have he : lnE d.lines[k] = 0 := by rw [← hz0, lineE, hx]
    have ho : out 0 9 d.lines[k] = false := by
      unfold lnE at he
      cases ho : out 0 9 d.lines[k] with
      | true => rw [ho] at he; cases he
      | false => rfl
    simp (disch := omega) only [go_sem, ↓reduceIte, Nat.reduceBEq, Nat.reduceEqDiff, Nat.reduceLT, Nat.reduceLeDiff, Nat.reduceAdd, Nat.reduceMul, Nat.reduceSub, reduceCtorEq, Int.reduceLT, Int.reduceLE, Int.reduceEq, Int.reduceBEq, Int.reduceBNe, Int.reduceToNat, Int.reduceAdd, Int.reduceNeg, Int.reduceSub, eFc, hki, hx, hz, c47, notin, ho, wrap_i64]
  · intro k hk hz0
    have hx := List.getElem?_eq_getElem hk
    have hki : (k : Int) < d.lines.length := by omega
    have hz := hd.zl (by intro e; rw [e] at hk; simp at hk)
    have he : lnE d.lines[k] ≠ 0 := by rw [lineE, hx] at hz0; exact hz0
    have ho : out 0 9 d.lines[k] = true := by
      unfold lnE at he
      cases ho : out 0 9 d.lines[k] with
      | true => rfl
      | false => rw [ho] at he; exact absurd rfl he
    simp (disch := omega) only [go_sem, ↓reduceIte, Nat.reduceBEq, Nat.reduceEqDiff, Nat.reduceLT, Nat.reduceLeDiff, Nat.reduceAdd, Nat.reduceMul, Nat.reduceSub, reduceCtorEq, Int.reduceLT, Int.reduceLE, Int.reduceEq, Int.reduceBEq, Int.reduceBNe, Int.reduceToNat, Int.reduceAdd, Int.reduceNeg, Int.reduceSub, eFc, hki, hx, hz, c47, notin, ho, wrap_i64]
  · simp only [go_sem, ↓reduceIte, Nat.reduceBEq, Nat.reduceEqDiff, Nat.reduceLT, Nat.reduceLeDiff, Nat.reduceAdd, Nat.reduceMul, Nat.reduceSub, reduceCtorEq, Int.reduceLT, Int.reduceLE, Int.reduceEq, Int.reduceBEq, Int.reduceBNe, Int.reduceToNat, Int.reduceAdd, Int.reduceNeg, Int.reduceSub, eFc, Int.lt_irrefl]
  unfold firstW
  cases f1 : firstBad (lineE d) 0 d.lines.length with
  | some n =>
    have e1 : partP d 1 = ((n : Int), lineE d n) := failP_bad h1 f1
    have hn7 : lineE d n = 7 := by
      have hne := (firstBad_some f1).2.2.1
      unfold lineE lnE at hne ⊢
      split
      · rename_i y hy
        rw [hy] at hne
        simp only at hne
        split
        · rfl
        · rename_i hno; rw [if_neg hno] at hne; exact absurd rfl hne
      · rename_i hy; rw [hy] at hne; exact absurd rfl hne
    rw [e1, hn7, if_pos (show (7 : Int) ≠ 0 by decide)]
    simp only [go_sem, ↓reduceIte, Nat.reduceBEq, Nat.reduceEqDiff, Nat.reduceLT, Nat.reduceLeDiff, Nat.reduceAdd, Nat.reduceMul, Nat.reduceSub, reduceCtorEq, Int.reduceLT, Int.reduceLE, Int.reduceEq, Int.reduceBEq, Int.reduceBNe, Int.reduceToNat, Int.reduceAdd, Int.reduceNeg, Int.reduceSub, tup3]
  | none =>
  have e1 : partP d 1 = (0, 0) := failP_ok h1 f1
  rw [e1, if_neg (by decide)]
  cases h2 : out 0 4 d.people.length with
  | true =>
    have e2 : partP d 2 = (0, 3) := failP_no h2
    have h2i : (4 : Int) < d.people.length := by simp [out] at h2; omega
    rw [e2, if_pos (by decide)]
    simp only [go_sem, ↓reduceIte, Nat.reduceBEq, Nat.reduceEqDiff, Nat.reduceLT, Nat.reduceLeDiff, Nat.reduceAdd, Nat.reduceMul, Nat.reduceSub, reduceCtorEq, Int.reduceLT, Int.reduceLE, Int.reduceEq, Int.reduceBEq, Int.reduceBNe, Int.reduceToNat, Int.reduceAdd, Int.reduceNeg, Int.reduceSub, eFc, h2i, tup3]
  | false =>
  have h2i : ¬ (4 : Int) < d.people.length := by simp [out] at h2; omega
  simp only [go_sem, ↓reduceIte, Nat.reduceBEq, Nat.reduceEqDiff, Nat.reduceLT, Nat.reduceLeDiff, Nat.reduceAdd, Nat.reduceMul, Nat.reduceSub, reduceCtorEq, Int.reduceLT, Int.reduceLE, Int.reduceEq, Int.reduceBEq, Int.reduceBNe, Int.reduceToNat, Int.reduceAdd, Int.reduceNeg, Int.reduceSub, eFc, h2i]
  rw [w_first (fun k => [(6, .lst (tagT [] k) (zT 1 k) (S (names (d.people.take k)))), (7, .int .i64 k)]) (fun k => ⟨[.cells (eFc d)], T [] k⟩) (persE d) d.people.length .ret
    (fun n => [(2, .int .i64 3), (3, .int .i64 n), (4, .int .i64 (persE d n)), (6, .lst (tagT [] (n + 1)) 1 (S (names (d.people.take (n + 1))))), (7, .int .i64 n), (8, .int .i64 (persE d n))]) (fun n => ⟨[.cells (eFc d)], T [] (n + 1)⟩)
    (.exit 2) [(6, .lst (tagT [] d.people.length) (zT 1 d.people.length) (S (names d.people))), (7, .int .i64 d.people.length)] ⟨[.cells (eFc d)], T [] d.people.length⟩ ?_ ?_ ?_ ?_ ?_ rfl rfl]
  rotate_left
  · simp only [go_sem, ↓reduceIte, Nat.reduceBEq, Nat.reduceEqDiff, Nat.reduceLT, Nat.reduceLeDiff, Nat.reduceAdd, Nat.reduceMul, Nat.reduceSub, reduceCtorEq, Int.reduceLT, Int.reduceLE, Int.reduceEq, Int.reduceBEq, Int.reduceBNe, Int.reduceToNat, Int.reduceAdd, Int.reduceNeg, Int.reduceSub, names]
  · simp only [go_sem, ↓reduceIte, Nat.reduceBEq, Nat.reduceEqDiff, Nat.reduceLT, Nat.reduceLeDiff, Nat.reduceAdd, Nat.reduceMul, Nat.reduceSub, reduceCtorEq, Int.reduceLT, Int.reduceLE, Int.reduceEq, Int.reduceBEq, Int.reduceBNe, Int.reduceToNat, Int.reduceAdd, Int.reduceNeg, Int.reduceSub, eFc]
  · intro k hk hz0
    have hx := List.getElem?_eq_getElem hk
    have hki : (k : Int) < d.people.length := by omega
    have hz := hd.zp (by intro e; rw [e] at hk; simp at hk)
    have hs := hd.np _ (List.mem_of_getElem? hx)
    rw [names_succ hx, ← S_snoc]
    have hln : (names (d.people.take k)).length = k := by simp [names]; omega
    have ha := fun B => append_step (X := tabX) (t := 70) (e := 9) (sz := 1) [] k B (zT 1 k) 1 1 (S (names (d.people.take k))) [.str d.people[k].name] (by simp only [go_sem, ↓reduceIte, Nat.reduceBEq, Nat.reduceEqDiff, Nat.reduceLT, Nat.reduceLeDiff, Nat.reduceAdd, Nat.reduceMul, Nat.reduceSub, reduceCtorEq, Int.reduceLT, Int.reduceLE, Int.reduceEq, Int.reduceBEq, Int.reduceBNe, Int.reduceToNat, Int.reduceAdd, Int.reduceNeg, Int.reduceSub]) (by simp only [go_sem, ↓reduceIte, Nat.reduceBEq, Nat.reduceEqDiff, Nat.reduceLT, Nat.reduceLeDiff, Nat.reduceAdd, Nat.reduceMul, Nat.reduceSub, reduceCtorEq, Int.reduceLT, Int.reduceLE, Int.reduceEq, Int.reduceBEq, Int.reduceBNe, Int.reduceToNat, Int.reduceAdd, Int.reduceNeg, Int.reduceSub])
      (by rcases Nat.eq_zero_or_pos k with e | e; exact .inl ⟨e, by rw [e]; simp [names, S]⟩; exact .inr (zT_pos e)) (.inl rfl) (by omega) (by simp only [go_sem, ↓reduceIte, Nat.reduceBEq, Nat.reduceEqDiff, Nat.reduceLT, Nat.reduceLeDiff, Nat.reduceAdd, Nat.reduceMul, Nat.reduceSub, reduceCtorEq, Int.reduceLT, Int.reduceLE, Int.reduceEq, Int.reduceBEq, Int.reduceBNe, Int.reduceToNat, Int.reduceAdd, Int.reduceNeg, Int.reduceSub, hln]; omega) (by simp only [go_sem, ↓reduceIte, Nat.reduceBEq, Nat.reduceEqDiff, Nat.reduceLT, Nat.reduceLeDiff, Nat.reduceAdd, Nat.reduceMul, Nat.reduceSub, reduceCtorEq, Int.reduceLT, Int.reduceLE, Int.reduceEq, Int.reduceBEq, Int.reduceBNe, Int.reduceToNat, Int.reduceAdd, Int.reduceNeg, Int.reduceSub, hln]; omega) (by simp only [go_sem, ↓reduceIte, Nat.reduceBEq, Nat.reduceEqDiff, Nat.reduceLT, Nat.reduceLeDiff, Nat.reduceAdd, Nat.reduceMul, Nat.reduceSub, reduceCtorEq, Int.reduceLT, Int.reduceLE, Int.reduceEq, Int.reduceBEq, Int.reduceBNe, Int.reduceToNat, Int.reduceAdd, Int.reduceNeg, Int.reduceSub]) (by simp only [go_sem, ↓reduceIte, Nat.reduceBEq, Nat.reduceEqDiff, Nat.reduceLT, Nat.reduceLeDiff, Nat.reduceAdd, Nat.reduceMul, Nat.reduceSub, reduceCtorEq, Int.reduceLT, Int.reduceLE, Int.reduceEq, Int.reduceBEq, Int.reduceBNe, Int.reduceToNat, Int.reduceAdd, Int.reduceNeg, Int.reduceSub])
    have hf := c48 (names (d.people.take k)) d.people[k].name (zT 1 k) (fun hne => zT_pos (by rcases Nat.eq_zero_or_pos k with e | e; rw [e] at hne; simp [names] at hne; exact e)) (by omega) hs
    have he : peE d.people k d.people[k] = 0 := by rw [← hz0, persE, hx]
    unfold peE at he
    rw [← names_any] at he
    cases e1 : nameOk d.people[k].name with
    | false => rw [e1] at he; cases he
    | true =>
      cases e2 : (names (d.people.take k)).any (fun x => x == d.people[k].name) with
      | true => rw [e1, e2] at he; cases he
      | false =>
        cases e3 : out 0 2 d.people[k].widow with
        | true => rw [e1, e2, e3] at he; cases he
        | false =>
          simp (disch := omega) only [go_sem, ↓reduceIte, Nat.reduceBEq, Nat.reduceEqDiff, Nat.reduceLT, Nat.reduceLeDiff, Nat.reduceAdd, Nat.reduceMul, Nat.reduceSub, reduceCtorEq, Int.reduceLT, Int.reduceLE, Int.reduceEq, Int.reduceBEq, Int.reduceBNe, Int.reduceToNat, Int.reduceAdd, Int.reduceNeg, Int.reduceSub, eFc, hki, hx, ePe, hz, hf, fresh, e1, e2, e3, ha, c47, notin, wrap_i64]
  · intro k hk hz0
    have hx := List.getElem?_eq_getElem hk
    have hki : (k : Int) < d.people.length := by omega
    have hz := hd.zp (by intro e; rw [e] at hk; simp at hk)
    have hs := hd.np _ (List.mem_of_getElem? hx)
    rw [names_succ hx, ← S_snoc]
    have hln : (names (d.people.take k)).length = k := by simp [names]; omega
    have ha := fun B => append_step (X := tabX) (t := 70) (e := 9) (sz := 1) [] k B (zT 1 k) 1 1 (S (names (d.people.take k))) [.str d.people[k].name] (by simp only [go_sem, ↓reduceIte, Nat.reduceBEq, Nat.reduceEqDiff, Nat.reduceLT, Nat.reduceLeDiff, Nat.reduceAdd, Nat.reduceMul, Nat.reduceSub, reduceCtorEq, Int.reduceLT, Int.reduceLE, Int.reduceEq, Int.reduceBEq, Int.reduceBNe, Int.reduceToNat, Int.reduceAdd, Int.reduceNeg, Int.reduceSub]) (by simp only [go_sem, ↓reduceIte, Nat.reduceBEq, Nat.reduceEqDiff, Nat.reduceLT, Nat.reduceLeDiff, Nat.reduceAdd, Nat.reduceMul, Nat.reduceSub, reduceCtorEq, Int.reduceLT, Int.reduceLE, Int.reduceEq, Int.reduceBEq, Int.reduceBNe, Int.reduceToNat, Int.reduceAdd, Int.reduceNeg, Int.reduceSub])
      (by rcases Nat.eq_zero_or_pos k with e | e; exact .inl ⟨e, by rw [e]; simp [names, S]⟩; exact .inr (zT_pos e)) (.inl rfl) (by omega) (by simp only [go_sem, ↓reduceIte, Nat.reduceBEq, Nat.reduceEqDiff, Nat.reduceLT, Nat.reduceLeDiff, Nat.reduceAdd, Nat.reduceMul, Nat.reduceSub, reduceCtorEq, Int.reduceLT, Int.reduceLE, Int.reduceEq, Int.reduceBEq, Int.reduceBNe, Int.reduceToNat, Int.reduceAdd, Int.reduceNeg, Int.reduceSub, hln]; omega) (by simp only [go_sem, ↓reduceIte, Nat.reduceBEq, Nat.reduceEqDiff, Nat.reduceLT, Nat.reduceLeDiff, Nat.reduceAdd, Nat.reduceMul, Nat.reduceSub, reduceCtorEq, Int.reduceLT, Int.reduceLE, Int.reduceEq, Int.reduceBEq, Int.reduceBNe, Int.reduceToNat, Int.reduceAdd, Int.reduceNeg, Int.reduceSub, hln]; omega) (by simp only [go_sem, ↓reduceIte, Nat.reduceBEq, Nat.reduceEqDiff, Nat.reduceLT, Nat.reduceLeDiff, Nat.reduceAdd, Nat.reduceMul, Nat.reduceSub, reduceCtorEq, Int.reduceLT, Int.reduceLE, Int.reduceEq, Int.reduceBEq, Int.reduceBNe, Int.reduceToNat, Int.reduceAdd, Int.reduceNeg, Int.reduceSub]) (by simp only [go_sem, ↓reduceIte, Nat.reduceBEq, Nat.reduceEqDiff, Nat.reduceLT, Nat.reduceLeDiff, Nat.reduceAdd, Nat.reduceMul, Nat.reduceSub, reduceCtorEq, Int.reduceLT, Int.reduceLE, Int.reduceEq, Int.reduceBEq, Int.reduceBNe, Int.reduceToNat, Int.reduceAdd, Int.reduceNeg, Int.reduceSub])
    have hf := c48 (names (d.people.take k)) d.people[k].name (zT 1 k) (fun hne => zT_pos (by rcases Nat.eq_zero_or_pos k with e | e; rw [e] at hne; simp [names] at hne; exact e)) (by omega) hs
    have he : peE d.people k d.people[k] = persE d k := by rw [persE, hx]
    unfold peE at he
    rw [← names_any] at he
    cases e1 : nameOk d.people[k].name with
    | false =>
      rw [e1] at he
      have he : (6 : Int) = persE d k := he
      rw [← he]
      simp (disch := omega) only [go_sem, ↓reduceIte, Nat.reduceBEq, Nat.reduceEqDiff, Nat.reduceLT, Nat.reduceLeDiff, Nat.reduceAdd, Nat.reduceMul, Nat.reduceSub, reduceCtorEq, Int.reduceLT, Int.reduceLE, Int.reduceEq, Int.reduceBEq, Int.reduceBNe, Int.reduceToNat, Int.reduceAdd, Int.reduceNeg, Int.reduceSub, eFc, hki, hx, ePe, hz, hf, fresh, e1, ha, wrap_i64]
    | true =>
      cases e2 : (names (d.people.take k)).any (fun x => x == d.people[k].name) with
      | true =>
        rw [e1, e2] at he
        have he : (5 : Int) = persE d k := he
        rw [← he]
        simp (disch := omega) only [go_sem, ↓reduceIte, Nat.reduceBEq, Nat.reduceEqDiff, Nat.reduceLT, Nat.reduceLeDiff, Nat.reduceAdd, Nat.reduceMul, Nat.reduceSub, reduceCtorEq, Int.reduceLT, Int.reduceLE, Int.reduceEq, Int.reduceBEq, Int.reduceBNe, Int.reduceToNat, Int.reduceAdd, Int.reduceNeg, Int.reduceSub, eFc, hki, hx, ePe, hz, hf, fresh, e1, e2, ha, wrap_i64]
      | false =>
        cases e3 : out 0 2 d.people[k].widow with
        | true =>
          rw [e1, e2, e3] at he
          have he : (7 : Int) = persE d k := he
          rw [← he]
          simp (disch := omega) only [go_sem, ↓reduceIte, Nat.reduceBEq, Nat.reduceEqDiff, Nat.reduceLT, Nat.reduceLeDiff, Nat.reduceAdd, Nat.reduceMul, Nat.reduceSub, reduceCtorEq, Int.reduceLT, Int.reduceLE, Int.reduceEq, Int.reduceBEq, Int.reduceBNe, Int.reduceToNat, Int.reduceAdd, Int.reduceNeg, Int.reduceSub, eFc, hki, hx, ePe, hz, hf, fresh, e1, e2, e3, ha, c47, notin, wrap_i64]
        | false => rw [e1, e2, e3] at he; exact absurd he.symm hz0
  · simp only [go_sem, ↓reduceIte, Nat.reduceBEq, Nat.reduceEqDiff, Nat.reduceLT, Nat.reduceLeDiff, Nat.reduceAdd, Nat.reduceMul, Nat.reduceSub, reduceCtorEq, Int.reduceLT, Int.reduceLE, Int.reduceEq, Int.reduceBEq, Int.reduceBNe, Int.reduceToNat, Int.reduceAdd, Int.reduceNeg, Int.reduceSub, eFc, Int.lt_irrefl]
  unfold firstW
  cases f2 : firstBad (persE d) 0 d.people.length with
  | some n =>
    have e2 : partP d 2 = ((n : Int), persE d n) := failP_bad h2 f2
    rw [e2, if_pos (firstBad_some f2).2.2.1]
    simp only [go_sem, ↓reduceIte, Nat.reduceBEq, Nat.reduceEqDiff, Nat.reduceLT, Nat.reduceLeDiff, Nat.reduceAdd, Nat.reduceMul, Nat.reduceSub, reduceCtorEq, Int.reduceLT, Int.reduceLE, Int.reduceEq, Int.reduceBEq, Int.reduceBNe, Int.reduceToNat, Int.reduceAdd, Int.reduceNeg, Int.reduceSub, tup3]
  | none =>
  have e2 : partP d 2 = (0, 0) := failP_ok h2 f2
  rw [e2, if_neg (by decide)]
  cases h3 : out 0 5 d.visits.length with
  | true =>
    have e3 : partP d 3 = (0, 3) := failP_no h3
    have h3i : (5 : Int) < d.visits.length := by simp [out] at h3; omega
    rw [e3, if_pos (by decide)]
    simp only [go_sem, ↓reduceIte, Nat.reduceBEq, Nat.reduceEqDiff, Nat.reduceLT, Nat.reduceLeDiff, Nat.reduceAdd, Nat.reduceMul, Nat.reduceSub, reduceCtorEq, Int.reduceLT, Int.reduceLE, Int.reduceEq, Int.reduceBEq, Int.reduceBNe, Int.reduceToNat, Int.reduceAdd, Int.reduceNeg, Int.reduceSub, eFc, h3i, tup3]
  | false =>
  have h3i : ¬ (5 : Int) < d.visits.length := by simp [out] at h3; omega
  simp only [go_sem, ↓reduceIte, Nat.reduceBEq, Nat.reduceEqDiff, Nat.reduceLT, Nat.reduceLeDiff, Nat.reduceAdd, Nat.reduceMul, Nat.reduceSub, reduceCtorEq, Int.reduceLT, Int.reduceLE, Int.reduceEq, Int.reduceBEq, Int.reduceBNe, Int.reduceToNat, Int.reduceAdd, Int.reduceNeg, Int.reduceSub, eFc, h3i]
  rw [w_first (fun k => [(9, .int .i64 k)]) (fun _ => ⟨[.cells (eFc d)], T [] d.people.length⟩) (visE d) d.visits.length .ret (fun n => [(2, .int .i64 4), (3, .int .i64 n), (4, .int .i64 (visE d n)), (9, .int .i64 n), (10, .int .i64 (visE d n))]) (fun _ => ⟨[.cells (eFc d)], T [] d.people.length⟩) (.exit 4) [(9, .int .i64 d.visits.length)] ⟨[.cells (eFc d)], T [] d.people.length⟩ ?_ ?_ ?_ ?_ ?_ rfl rfl]
  rotate_left
  · simp only [go_sem, ↓reduceIte, Nat.reduceBEq, Nat.reduceEqDiff, Nat.reduceLT, Nat.reduceLeDiff, Nat.reduceAdd, Nat.reduceMul, Nat.reduceSub, reduceCtorEq, Int.reduceLT, Int.reduceLE, Int.reduceEq, Int.reduceBEq, Int.reduceBNe, Int.reduceToNat, Int.reduceAdd, Int.reduceNeg, Int.reduceSub]
  · simp only [eFc]
  · intro k hk hz0
    have hx := List.getElem?_eq_getElem hk
    have hki : (k : Int) < d.visits.length := by omega
    have h49 := c49 d hd hday k _ hx
    have he : viE d k d.visits[k] = 0 := by rw [← hz0, visE, hx]
    rw [he] at h49
    simp only [eF, eFc] at h49
    simp (disch := omega) only [go_sem, ↓reduceIte, Nat.reduceBEq, Nat.reduceEqDiff, Nat.reduceLT, Nat.reduceLeDiff, Nat.reduceAdd, Nat.reduceMul, Nat.reduceSub, reduceCtorEq, Int.reduceLT, Int.reduceLE, Int.reduceEq, Int.reduceBEq, Int.reduceBNe, Int.reduceToNat, Int.reduceAdd, Int.reduceNeg, Int.reduceSub, eFc, hki, h49, wrap_i64, bne_self_eq_false]
  · intro k hk hz0
    have hx := List.getElem?_eq_getElem hk
    have hki : (k : Int) < d.visits.length := by omega
    have h49 := c49 d hd hday k _ hx
    have he : viE d k d.visits[k] = visE d k := by rw [visE, hx]
    have hne : (visE d k != 0) = true := by simpa using hz0
    rw [he] at h49
    simp only [eF, eFc] at h49
    simp (disch := omega) only [go_sem, ↓reduceIte, Nat.reduceBEq, Nat.reduceEqDiff, Nat.reduceLT, Nat.reduceLeDiff, Nat.reduceAdd, Nat.reduceMul, Nat.reduceSub, reduceCtorEq, Int.reduceLT, Int.reduceLE, Int.reduceEq, Int.reduceBEq, Int.reduceBNe, Int.reduceToNat, Int.reduceAdd, Int.reduceNeg, Int.reduceSub, eFc, hki, h49, wrap_i64, hne]
  · simp only [go_sem, ↓reduceIte, Nat.reduceBEq, Nat.reduceEqDiff, Nat.reduceLT, Nat.reduceLeDiff, Nat.reduceAdd, Nat.reduceMul, Nat.reduceSub, reduceCtorEq, Int.reduceLT, Int.reduceLE, Int.reduceEq, Int.reduceBEq, Int.reduceBNe, Int.reduceToNat, Int.reduceAdd, Int.reduceNeg, Int.reduceSub, eFc, Int.lt_irrefl]
  unfold firstW
  cases f3 : firstBad (visE d) 0 d.visits.length with
  | some n =>
    have e3 : partP d 3 = ((n : Int), visE d n) := failP_bad h3 f3
    rw [e3, if_pos (firstBad_some f3).2.2.1]
    simp only [go_sem, ↓reduceIte, Nat.reduceBEq, Nat.reduceEqDiff, Nat.reduceLT, Nat.reduceLeDiff, Nat.reduceAdd, Nat.reduceMul, Nat.reduceSub, reduceCtorEq, Int.reduceLT, Int.reduceLE, Int.reduceEq, Int.reduceBEq, Int.reduceBNe, Int.reduceToNat, Int.reduceAdd, Int.reduceNeg, Int.reduceSub, tup3]
  | none =>
  have e3 : partP d 3 = (0, 0) := failP_ok h3 f3
  rw [e3, if_neg (by decide)]
  cases h4 : out 0 4 d.entries.length with
  | true =>
    have e4 : partP d 4 = (0, 3) := failP_no h4
    have h4i : (4 : Int) < d.entries.length := by simp [out] at h4; omega
    rw [e4, if_pos (by decide)]
    simp only [go_sem, ↓reduceIte, Nat.reduceBEq, Nat.reduceEqDiff, Nat.reduceLT, Nat.reduceLeDiff, Nat.reduceAdd, Nat.reduceMul, Nat.reduceSub, reduceCtorEq, Int.reduceLT, Int.reduceLE, Int.reduceEq, Int.reduceBEq, Int.reduceBNe, Int.reduceToNat, Int.reduceAdd, Int.reduceNeg, Int.reduceSub, eFc, h4i, tup3]
  | false =>
  have h4i : ¬ (4 : Int) < d.entries.length := by simp [out] at h4; omega
  simp only [go_sem, ↓reduceIte, Nat.reduceBEq, Nat.reduceEqDiff, Nat.reduceLT, Nat.reduceLeDiff, Nat.reduceAdd, Nat.reduceMul, Nat.reduceSub, reduceCtorEq, Int.reduceLT, Int.reduceLE, Int.reduceEq, Int.reduceBEq, Int.reduceBNe, Int.reduceToNat, Int.reduceAdd, Int.reduceNeg, Int.reduceSub, eFc, h4i]
  have hwv : IntKind.i64.wrap ((d.visits.length : Int) - 1) = (d.visits.length : Int) - 1 := wrap_i64 (by omega)
  rw [w_first (fun k => [(11, .int .i64 k)]) (fun _ => ⟨[.cells (eFc d)], T [] d.people.length⟩) (entE d) d.entries.length .ret (fun n => [(2, .int .i64 5), (3, .int .i64 n), (4, .int .i64 (entE d n)), (11, .int .i64 n)]) (fun _ => ⟨[.cells (eFc d)], T [] d.people.length⟩) (.exit 6) [(11, .int .i64 d.entries.length)] ⟨[.cells (eFc d)], T [] d.people.length⟩ ?_ ?_ ?_ ?_ ?_ rfl rfl]
  rotate_left
  · simp only [go_sem, ↓reduceIte, Nat.reduceBEq, Nat.reduceEqDiff, Nat.reduceLT, Nat.reduceLeDiff, Nat.reduceAdd, Nat.reduceMul, Nat.reduceSub, reduceCtorEq, Int.reduceLT, Int.reduceLE, Int.reduceEq, Int.reduceBEq, Int.reduceBNe, Int.reduceToNat, Int.reduceAdd, Int.reduceNeg, Int.reduceSub]
  · simp only [eFc]
  · intro k hk hz0
    have hx := List.getElem?_eq_getElem hk
    have hki : (k : Int) < d.entries.length := by omega
    have hz := hd.ze (by intro e; rw [e] at hk; simp at hk)
    have he : etE d d.entries[k] = 0 := by rw [← hz0, entE, hx]
    unfold etE at he
    cases g1 : out 0 ((d.visits.length : Int) - 1) d.entries[k].visit with
    | true => rw [g1] at he; cases he
    | false =>
      cases g2 : out 0 999 d.entries[k].pence with
      | true => rw [g1, g2] at he; cases he
      | false => simp (disch := omega) only [go_sem, ↓reduceIte, Nat.reduceBEq, Nat.reduceEqDiff, Nat.reduceLT, Nat.reduceLeDiff, Nat.reduceAdd, Nat.reduceMul, Nat.reduceSub, reduceCtorEq, Int.reduceLT, Int.reduceLE, Int.reduceEq, Int.reduceBEq, Int.reduceBNe, Int.reduceToNat, Int.reduceAdd, Int.reduceNeg, Int.reduceSub, eFc, hki, hx, eEt, hz, hwv, c47, notin, g1, g2, wrap_i64]
  · intro k hk hz0
    have hx := List.getElem?_eq_getElem hk
    have hki : (k : Int) < d.entries.length := by omega
    have hz := hd.ze (by intro e; rw [e] at hk; simp at hk)
    have he : etE d d.entries[k] = entE d k := by rw [entE, hx]
    unfold etE at he
    cases g1 : out 0 ((d.visits.length : Int) - 1) d.entries[k].visit with
    | true =>
      rw [g1] at he
      have he : (4 : Int) = entE d k := he
      rw [← he]
      simp (disch := omega) only [go_sem, ↓reduceIte, Nat.reduceBEq, Nat.reduceEqDiff, Nat.reduceLT, Nat.reduceLeDiff, Nat.reduceAdd, Nat.reduceMul, Nat.reduceSub, reduceCtorEq, Int.reduceLT, Int.reduceLE, Int.reduceEq, Int.reduceBEq, Int.reduceBNe, Int.reduceToNat, Int.reduceAdd, Int.reduceNeg, Int.reduceSub, eFc, hki, hx, eEt, hz, hwv, c47, notin, g1, wrap_i64]
    | false =>
      cases g2 : out 0 999 d.entries[k].pence with
      | true =>
        rw [g1, g2] at he
        have he : (7 : Int) = entE d k := he
        rw [← he]
        simp (disch := omega) only [go_sem, ↓reduceIte, Nat.reduceBEq, Nat.reduceEqDiff, Nat.reduceLT, Nat.reduceLeDiff, Nat.reduceAdd, Nat.reduceMul, Nat.reduceSub, reduceCtorEq, Int.reduceLT, Int.reduceLE, Int.reduceEq, Int.reduceBEq, Int.reduceBNe, Int.reduceToNat, Int.reduceAdd, Int.reduceNeg, Int.reduceSub, eFc, hki, hx, eEt, hz, hwv, c47, notin, g1, g2, wrap_i64]
      | false => rw [g1, g2] at he; exact absurd he.symm hz0
  · simp only [go_sem, ↓reduceIte, Nat.reduceBEq, Nat.reduceEqDiff, Nat.reduceLT, Nat.reduceLeDiff, Nat.reduceAdd, Nat.reduceMul, Nat.reduceSub, reduceCtorEq, Int.reduceLT, Int.reduceLE, Int.reduceEq, Int.reduceBEq, Int.reduceBNe, Int.reduceToNat, Int.reduceAdd, Int.reduceNeg, Int.reduceSub, eFc, Int.lt_irrefl]
  unfold firstW
  cases f4 : firstBad (entE d) 0 d.entries.length with
  | some n =>
    have e4 : partP d 4 = ((n : Int), entE d n) := failP_bad h4 f4
    rw [e4, if_pos (firstBad_some f4).2.2.1]
    simp only [go_sem, ↓reduceIte, Nat.reduceBEq, Nat.reduceEqDiff, Nat.reduceLT, Nat.reduceLeDiff, Nat.reduceAdd, Nat.reduceMul, Nat.reduceSub, reduceCtorEq, Int.reduceLT, Int.reduceLE, Int.reduceEq, Int.reduceBEq, Int.reduceBNe, Int.reduceToNat, Int.reduceAdd, Int.reduceNeg, Int.reduceSub, tup3]
  | none =>
    have e4 : partP d 4 = (0, 0) := failP_ok h4 f4
    rw [e4, if_neg (by decide)]
    simp only [go_sem, ↓reduceIte, Nat.reduceBEq, Nat.reduceEqDiff, Nat.reduceLT, Nat.reduceLeDiff, Nat.reduceAdd, Nat.reduceMul, Nat.reduceSub, reduceCtorEq, Int.reduceLT, Int.reduceLE, Int.reduceEq, Int.reduceBEq, Int.reduceBNe, Int.reduceToNat, Int.reduceAdd, Int.reduceNeg, Int.reduceSub, tup3]
end Go.Proofs.YthkpjbgadkkeeaaGreat
end
section
namespace Go.Proofs.YthkpjbgadkkeeaaGreat
open Go.Proofs

def checkE (d : Fu) : Int := (checkF d).2.2
theorem failP_inv {lo hi : Int} {e : Nat → Int} {n : Nat} (h : (failP lo hi e n).2 = 0) : out lo hi n = false ∧ firstBad e 0 n = none := by
  unfold failP at h
  cases ho : out lo hi n with
  | true => rw [if_pos ho] at h; cases h
  | false =>
    rw [if_neg (by rw [ho]; exact Bool.false_ne_true)] at h
    cases hf : firstBad e 0 n with
    | some k => rw [hf] at h; exact absurd h (firstBad_some hf).2.2.1
    | none => exact ⟨rfl, rfl⟩
theorem checkE_parts {d : Fu} (h : checkE d = 0) : headE d = 0 ∧ (partP d 1).2 = 0 ∧ (partP d 2).2 = 0 ∧ (partP d 3).2 = 0 ∧ (partP d 4).2 = 0 := by
  unfold checkE at h
  rw [checkF_eq] at h
  split at h
  · rename_i h1; exact absurd h h1
  rename_i h1
  split at h
  · rename_i h2; exact absurd h h2
  rename_i h2
  split at h
  · rename_i h3; exact absurd h h3
  rename_i h3
  split at h
  · rename_i h4; exact absurd h h4
  rename_i h4
  split at h
  · rename_i h5; exact absurd h h5
  rename_i h5
  exact ⟨by omega, by omega, by omega, by omega, by omega⟩
theorem out_false {lo hi n : Int} (h : out lo hi n = false) : lo ≤ n ∧ n ≤ hi := by
  simp [out] at h; omega
theorem lnE_zero {n : Int} (h : lnE n = 0) : 0 ≤ n ∧ n ≤ 9 := by
  unfold lnE at h
  cases ho : out 0 9 n with
  | true => rw [ho] at h; cases h
  | false => exact out_false ho
theorem peE_zero {l : List Pe} {i : Nat} {p : Pe} (h : peE l i p = 0) : 0 ≤ p.widow ∧ p.widow ≤ 2 := by
  unfold peE at h
  cases h1 : nameOk p.name with
  | false => rw [h1] at h; cases h
  | true =>
    cases h2 : (l.take i).any (fun y => y.name == p.name) with
    | true => rw [h1, h2] at h; cases h
    | false =>
      cases h3 : out 0 2 p.widow with
      | true => rw [h1, h2, h3] at h; cases h
      | false => exact out_false h3
theorem viE_zero {d : Fu} {i : Nat} {v : Vi} (h : viE d i v = 0) : v.Ok d ∧ ∀ k w, i = k + 1 → d.visits[k]? = some w → w.day ≤ v.day := by
  unfold viE at h
  cases h1 : (out 0 ((d.people.length : Int) - 1) v.person || out 0 ((d.lines.length : Int) - 1) v.kind) with
  | true => rw [h1] at h; cases h
  | false =>
  rw [h1, if_neg Bool.false_ne_true] at h
  cases h2 : (out 0 (d.days - 1) v.day || (out 1 8 v.llo || out 1 8 v.lhi) || (out 0 23 v.hlo || out 0 23 v.hhi)) with
  | true => rw [h2] at h; cases h
  | false =>
  rw [h2, if_neg Bool.false_ne_true] at h
  simp only [Bool.or_eq_false_iff] at h1 h2
  have a1 := out_false h1.1
  have a2 := out_false h1.2
  have a3 := out_false h2.1.1
  have a4 := out_false h2.1.2.1
  have a5 := out_false h2.1.2.2
  have a6 := out_false h2.2.1
  have a7 := out_false h2.2.2
  by_cases g1 : v.lhi < v.llo
  · rw [decide_eq_true g1] at h; cases h
  by_cases g2 : v.hhi < v.hlo
  · rw [decide_eq_false g1, decide_eq_true g2] at h; cases h
  refine ⟨⟨by omega, by omega, by omega, by omega, by omega⟩, fun k w e hw => ?_⟩
  subst e
  rw [decide_eq_false g1, decide_eq_false g2] at h
  simp only [hw] at h
  by_cases g3 : v.day < w.day
  · rw [decide_eq_true g3] at h; cases h
  · omega
theorem etE_zero {d : Fu} {x : Et} (h : etE d x = 0) : (0 ≤ x.visit ∧ x.visit < d.visits.length) ∧ 0 ≤ x.pence ∧ x.pence ≤ 999 := by
  unfold etE at h
  cases h1 : out 0 ((d.visits.length : Int) - 1) x.visit with
  | true => rw [h1] at h; cases h
  | false =>
    cases h2 : out 0 999 x.pence with
    | true => rw [h1, h2] at h; cases h
    | false => have := out_false h1; have := out_false h2; omega
theorem mem_get {α : Type} {l : List α} {x : α} (h : x ∈ l) : ∃ i, i < l.length ∧ l[i]? = some x := by
  obtain ⟨i, hi, e⟩ := List.mem_iff_getElem.1 h
  exact ⟨i, hi, by rw [← e]; exact List.getElem?_eq_getElem hi⟩
theorem ok_of_check {d : Fu} (h : checkE d = 0) : d.Ok := by
  obtain ⟨h0, h1, h2, h3, h4⟩ := checkE_parts h
  have hh : (out 0 300 d.pence || out 1 7 d.days || (out 0 9 d.opn || out 0 9 d.late) || out 0 23 d.frm) = false := by
    unfold headE at h0
    cases hq : (out 0 300 d.pence || out 1 7 d.days || (out 0 9 d.opn || out 0 9 d.late) || out 0 23 d.frm) with
    | true => rw [hq] at h0; cases h0
    | false => rfl
  simp only [Bool.or_eq_false_iff] at hh
  obtain ⟨l1, f1⟩ := failP_inv h1
  obtain ⟨l2, f2⟩ := failP_inv h2
  obtain ⟨l3, f3⟩ := failP_inv h3
  obtain ⟨l4, f4⟩ := failP_inv h4
  have b1 := out_false hh.1.1.1
  have b2 := out_false hh.1.1.2
  have b3 := out_false hh.1.2.1
  have b4 := out_false hh.1.2.2
  have b5 := out_false hh.2
  have b6 := out_false l1
  have b7 := out_false l2
  have b8 := out_false l3
  have b9 := out_false l4
  have vz : ∀ (i : Nat) (v : Vi), d.visits[i]? = some v → viE d i v = 0 := fun i v hv => by
    have hi := (List.getElem?_eq_some_iff.1 hv).1
    have := firstBad_none f3 i (Nat.zero_le _) (by omega)
    unfold visE at this
    rw [hv] at this
    exact this
  refine ⟨b1, b2, b3, b4, b5, by omega, fun n hn => ?_, by omega, fun p hp => ?_, by omega, fun v hv => ?_, fun i v w hv hw => ?_, by omega, fun x hx => ?_⟩
  · obtain ⟨i, hi, hx⟩ := mem_get hn
    have := firstBad_none f1 i (Nat.zero_le _) (by omega)
    unfold lineE at this
    rw [hx] at this
    exact lnE_zero this
  · obtain ⟨i, hi, hx⟩ := mem_get hp
    have := firstBad_none f2 i (Nat.zero_le _) (by omega)
    unfold persE at this
    rw [hx] at this
    exact peE_zero this
  · obtain ⟨i, hi, hx⟩ := mem_get hv
    exact (viE_zero (vz i v hx)).1
  · exact (viE_zero (vz (i + 1) w hw)).2 i v rfl hv
  · obtain ⟨i, hi, hxx⟩ := mem_get hx
    have := firstBad_none f4 i (Nat.zero_le _) (by omega)
    unfold entE at this
    rw [hxx] at this
    exact etE_zero this
end Go.Proofs.YthkpjbgadkkeeaaGreat
end
section
namespace Go.Proofs.YthkpjbgadkkeeaaGreat
open Go.Proofs

theorem vI_under (n : Nat) (l : List Int) : (vI l).under n = true := by simp only [vI, go_sem, ↓reduceIte, Nat.reduceBEq, Nat.reduceEqDiff, Nat.reduceLT, Nat.reduceLeDiff, Nat.reduceAdd, Nat.reduceMul, Nat.reduceSub, reduceCtorEq, Int.reduceLT, Int.reduceLE, Int.reduceEq, Int.reduceBEq, Int.reduceBNe, Int.reduceToNat, Int.reduceAdd, Int.reduceNeg, Int.reduceSub]
theorem vI_clean (l : List Int) : (vI l).clean = some (vI l) := by simp only [vI, go_sem, ↓reduceIte, Nat.reduceBEq, Nat.reduceEqDiff, Nat.reduceLT, Nat.reduceLeDiff, Nat.reduceAdd, Nat.reduceMul, Nat.reduceSub, reduceCtorEq, Int.reduceLT, Int.reduceLE, Int.reduceEq, Int.reduceBEq, Int.reduceBNe, Int.reduceToNat, Int.reduceAdd, Int.reduceNeg, Int.reduceSub]
def ownT (T0 : List Bool) (l : List Int) : AV := .lst (tagT T0 l.length) (zT 1 l.length) (I l)
theorem ownT_clean (T0 : List Bool) (l : List Int) : (ownT T0 l).clean = some (vI l) := by simp only [ownT, vI, go_sem, ↓reduceIte, Nat.reduceBEq, Nat.reduceEqDiff, Nat.reduceLT, Nat.reduceLeDiff, Nat.reduceAdd, Nat.reduceMul, Nat.reduceSub, reduceCtorEq, Int.reduceLT, Int.reduceLE, Int.reduceEq, Int.reduceBEq, Int.reduceBNe, Int.reduceToNat, Int.reduceAdd, Int.reduceNeg, Int.reduceSub]
theorem ownT_under (T0 : List Bool) (n : Nat) (l : List Int) : (ownT T0 l).under n = true := by simp only [ownT, go_sem, ↓reduceIte, Nat.reduceBEq, Nat.reduceEqDiff, Nat.reduceLT, Nat.reduceLeDiff, Nat.reduceAdd, Nat.reduceMul, Nat.reduceSub, reduceCtorEq, Int.reduceLT, Int.reduceLE, Int.reduceEq, Int.reduceBEq, Int.reduceBNe, Int.reduceToNat, Int.reduceAdd, Int.reduceNeg, Int.reduceSub]
theorem ownT_app (T0 : List Bool) (l : List Int) (x : Int) (hl : l.length < 1000) (B : List ABlk) :
    appendAV tabX 22 (T T0 l.length).length ⟨B, T T0 l.length⟩ (ownT T0 l) (.lst 1 1 [.int .i64 x]) = some (ownT T0 (l ++ [x]), ⟨B, T T0 (l ++ [x]).length⟩) := by
  have := append_step (X := tabX) (t := 22) (e := 3) (sz := 1) T0 l.length B (zT 1 l.length) 1 1 (I l) [.int .i64 x] (by simp only [go_sem, ↓reduceIte, Nat.reduceBEq, Nat.reduceEqDiff, Nat.reduceLT, Nat.reduceLeDiff, Nat.reduceAdd, Nat.reduceMul, Nat.reduceSub, reduceCtorEq, Int.reduceLT, Int.reduceLE, Int.reduceEq, Int.reduceBEq, Int.reduceBNe, Int.reduceToNat, Int.reduceAdd, Int.reduceNeg, Int.reduceSub]) (by simp only [go_sem, ↓reduceIte, Nat.reduceBEq, Nat.reduceEqDiff, Nat.reduceLT, Nat.reduceLeDiff, Nat.reduceAdd, Nat.reduceMul, Nat.reduceSub, reduceCtorEq, Int.reduceLT, Int.reduceLE, Int.reduceEq, Int.reduceBEq, Int.reduceBNe, Int.reduceToNat, Int.reduceAdd, Int.reduceNeg, Int.reduceSub])
    (by rcases Nat.eq_zero_or_pos l.length with e | e; exact .inl ⟨e, by rw [I_len, e]⟩; exact .inr (zT_pos e)) (.inl rfl) (by omega) (by simp only [go_sem, ↓reduceIte, Nat.reduceBEq, Nat.reduceEqDiff, Nat.reduceLT, Nat.reduceLeDiff, Nat.reduceAdd, Nat.reduceMul, Nat.reduceSub, reduceCtorEq, Int.reduceLT, Int.reduceLE, Int.reduceEq, Int.reduceBEq, Int.reduceBNe, Int.reduceToNat, Int.reduceAdd, Int.reduceNeg, Int.reduceSub]; omega) (by simp only [go_sem, ↓reduceIte, Nat.reduceBEq, Nat.reduceEqDiff, Nat.reduceLT, Nat.reduceLeDiff, Nat.reduceAdd, Nat.reduceMul, Nat.reduceSub, reduceCtorEq, Int.reduceLT, Int.reduceLE, Int.reduceEq, Int.reduceBEq, Int.reduceBNe, Int.reduceToNat, Int.reduceAdd, Int.reduceNeg, Int.reduceSub]; omega) (by simp only [go_sem, ↓reduceIte, Nat.reduceBEq, Nat.reduceEqDiff, Nat.reduceLT, Nat.reduceLeDiff, Nat.reduceAdd, Nat.reduceMul, Nat.reduceSub, reduceCtorEq, Int.reduceLT, Int.reduceLE, Int.reduceEq, Int.reduceBEq, Int.reduceBNe, Int.reduceToNat, Int.reduceAdd, Int.reduceNeg, Int.reduceSub]) (by simp only [go_sem, ↓reduceIte, Nat.reduceBEq, Nat.reduceEqDiff, Nat.reduceLT, Nat.reduceLeDiff, Nat.reduceAdd, Nat.reduceMul, Nat.reduceSub, reduceCtorEq, Int.reduceLT, Int.reduceLE, Int.reduceEq, Int.reduceBEq, Int.reduceBNe, Int.reduceToNat, Int.reduceAdd, Int.reduceNeg, Int.reduceSub])
  have e : (l ++ [x]).length = l.length + 1 := by simp
  rw [ownT, this, ownT, e, I_snoc]; rfl

def cpl : List Int → List Int → Nat
  | x :: xs, y :: ys => if x = y then cpl xs ys + 1 else 0
  | _, _ => 0
theorem cpl_le1 : ∀ a b : List Int, cpl a b ≤ a.length
  | [], _ => by simp [cpl]
  | x :: xs, [] => by simp [cpl]
  | x :: xs, y :: ys => by unfold cpl; split; have := cpl_le1 xs ys; simp; omega; omega
theorem cpl_le2 : ∀ a b : List Int, cpl a b ≤ b.length
  | [], _ => by simp [cpl]
  | x :: xs, [] => by simp [cpl]
  | x :: xs, y :: ys => by unfold cpl; split; have := cpl_le2 xs ys; simp; omega; omega
theorem cpl_eq : ∀ (a b : List Int) (k : Nat), k < cpl a b → a[k]? = b[k]?
  | [], b, k, h => by simp [cpl] at h
  | x :: xs, [], k, h => by simp [cpl] at h
  | x :: xs, y :: ys, k, h => by
    unfold cpl at h
    split at h
    · rename_i e
      cases k with
      | zero => simp [e]
      | succ k => simpa using cpl_eq xs ys k (by omega)
    · omega
theorem cpl_ne : ∀ (a b : List Int) (x y : Int), a[cpl a b]? = some x → b[cpl a b]? = some y → x ≠ y
  | [], b, x, y, h, _ => by simp [cpl] at h
  | u :: us, [], x, y, _, h => by simp [cpl] at h
  | u :: us, v :: vs, x, y, h1, h2 => by
    unfold cpl at h1 h2
    split at h1
    · rename_i e
      rw [if_pos e] at h2
      exact cpl_ne us vs x y (by simpa using h1) (by simpa using h2)
    · rename_i e
      rw [if_neg e] at h2
      simp at h1 h2
      rw [← h1, ← h2]; exact e
def ltB : List Int → List Int → Bool
  | _, [] => false
  | [], _ :: _ => true
  | x :: xs, y :: ys => if x = y then ltB xs ys else decide (x < y)
theorem ltB_cpl : ∀ a b : List Int, ltB a b = if cpl a b = b.length then false else (decide (cpl a b = a.length) || decide (a.getD (cpl a b) 0 < b.getD (cpl a b) 0))
  | [], [] => rfl
  | [], y :: ys => by simp [ltB, cpl]
  | x :: xs, [] => by simp [ltB, cpl]
  | x :: xs, y :: ys => by
    unfold ltB cpl
    by_cases e : x = y
    · rw [if_pos e, if_pos e, ltB_cpl xs ys]
      simp
    · rw [if_neg e, if_neg e]
      simp
theorem ltB_eq : ∀ a b : List Int, (decide (a.length = b.length) && (!ltB a b && !ltB b a)) = decide (a = b)
  | [], [] => rfl
  | [], y :: ys => by simp
  | x :: xs, [] => by simp
  | x :: xs, y :: ys => by
    have ih := ltB_eq xs ys
    simp only [ltB]
    by_cases e : x = y
    · subst e
      rw [if_pos rfl, if_pos rfl]
      simpa using ih
    · have e' : ¬ y = x := fun h => e h.symm
      rw [if_neg e, if_neg e']
      simp [e]
      omega

theorem c55 (a b : List Int) (za zb : Nat) (hza : a ≠ [] → za = 1) (hzb : b ≠ [] → zb = 1) (la : a.length < 1000000000000000000) (lb : b.length < 1000000000000000000) (h : Heap) :
    callPure (EW tabX) 64 [.lst 0 za (I a), .lst 0 zb (I b)] h = some (.bool (ltB a b), h) := by
  rw [callPure_eq, w_call _ fn_64 rfl]
  simp only [go_sem, ↓reduceIte, Nat.reduceBEq, Nat.reduceEqDiff, Nat.reduceLT, Nat.reduceLeDiff, Nat.reduceAdd, Nat.reduceMul, Nat.reduceSub, reduceCtorEq, Int.reduceLT, Int.reduceLE, Int.reduceEq, Int.reduceBEq, Int.reduceBNe, Int.reduceToNat, Int.reduceAdd, Int.reduceNeg, Int.reduceSub]
  have h1 := cpl_le1 a b
  have h2 := cpl_le2 a b
  rw [w_rounds_u (fun k => [(5, .int .i64 k)]) (cpl a b) (.exit 0) [(5, .int .i64 (cpl a b))] ?_ ?_ ?_ rfl]
  · rw [ltB_cpl]
    by_cases e : cpl a b = b.length
    · simp only [go_sem, ↓reduceIte, Nat.reduceBEq, Nat.reduceEqDiff, Nat.reduceLT, Nat.reduceLeDiff, Nat.reduceAdd, Nat.reduceMul, Nat.reduceSub, reduceCtorEq, Int.reduceLT, Int.reduceLE, Int.reduceEq, Int.reduceBEq, Int.reduceBNe, Int.reduceToNat, Int.reduceAdd, Int.reduceNeg, Int.reduceSub, e]
    · have e' : (((cpl a b : Nat) : Int) == b.length) = false := by simp; omega
      have hzb1 := hzb (by intro h; rw [h] at e; simp [cpl] at e)
      have hb : b[cpl a b]? = some (b.getD (cpl a b) 0) := by
        rw [List.getD_eq_getElem?_getD, List.getElem?_eq_getElem (show cpl a b < b.length by omega)]; rfl
      by_cases f : cpl a b = a.length
      · have f' : (((cpl a b : Nat) : Int) == a.length) = true := by simp [f]
        have fd : decide (cpl a b = a.length) = true := by simp [f]
        simp only [go_sem, ↓reduceIte, Nat.reduceBEq, Nat.reduceEqDiff, Nat.reduceLT, Nat.reduceLeDiff, Nat.reduceAdd, Nat.reduceMul, Nat.reduceSub, reduceCtorEq, Int.reduceLT, Int.reduceLE, Int.reduceEq, Int.reduceBEq, Int.reduceBNe, Int.reduceToNat, Int.reduceAdd, Int.reduceNeg, Int.reduceSub, e', e, f', fd]
      · have f' : (((cpl a b : Nat) : Int) == a.length) = false := by simp; omega
        have fd : decide (cpl a b = a.length) = false := by simp [f]
        have hza1 := hza (by intro h; rw [h] at h1; simp at h1; rw [h] at f; simp at f; omega)
        have ha : a[cpl a b]? = some (a.getD (cpl a b) 0) := by
          rw [List.getD_eq_getElem?_getD, List.getElem?_eq_getElem (show cpl a b < a.length by omega)]; rfl
        simp only [go_sem, ↓reduceIte, Nat.reduceBEq, Nat.reduceEqDiff, Nat.reduceLT, Nat.reduceLeDiff, Nat.reduceAdd, Nat.reduceMul, Nat.reduceSub, reduceCtorEq, Int.reduceLT, Int.reduceLE, Int.reduceEq, Int.reduceBEq, Int.reduceBNe, Int.reduceToNat, Int.reduceAdd, Int.reduceNeg, Int.reduceSub, e', e, f', fd, ha, hb, hza1, hzb1]
  · simp only [go_sem, ↓reduceIte, Nat.reduceBEq, Nat.reduceEqDiff, Nat.reduceLT, Nat.reduceLeDiff, Nat.reduceAdd, Nat.reduceMul, Nat.reduceSub, reduceCtorEq, Int.reduceLT, Int.reduceLE, Int.reduceEq, Int.reduceBEq, Int.reduceBNe, Int.reduceToNat, Int.reduceAdd, Int.reduceNeg, Int.reduceSub]
  · intro k hk
    have ka : k < a.length := by omega
    have kb : k < b.length := by omega
    have kai : (k : Int) < a.length := by omega
    have kbi : (k : Int) < b.length := by omega
    have hx := List.getElem?_eq_getElem ka
    have hy := List.getElem?_eq_getElem kb
    have he := cpl_eq a b k hk
    rw [hx, hy] at he
    simp only [Option.some.injEq] at he
    have hza1 := hza (by intro h; rw [h] at ka; simp at ka)
    have hzb1 := hzb (by intro h; rw [h] at kb; simp at kb)
    simp (disch := omega) only [go_sem, ↓reduceIte, Nat.reduceBEq, Nat.reduceEqDiff, Nat.reduceLT, Nat.reduceLeDiff, Nat.reduceAdd, Nat.reduceMul, Nat.reduceSub, reduceCtorEq, Int.reduceLT, Int.reduceLE, Int.reduceEq, Int.reduceBEq, Int.reduceBNe, Int.reduceToNat, Int.reduceAdd, Int.reduceNeg, Int.reduceSub, kai, kbi, hx, hy, he, hza1, hzb1, wrap_i64]
  · by_cases f : cpl a b < a.length
    · have fi : ((cpl a b : Nat) : Int) < a.length := by omega
      by_cases g : cpl a b < b.length
      · have gi : ((cpl a b : Nat) : Int) < b.length := by omega
        have hx := List.getElem?_eq_getElem f
        have hy := List.getElem?_eq_getElem g
        have hne := cpl_ne a b _ _ hx hy
        have hne' : (a[cpl a b] == b[cpl a b]) = false := by simpa using hne
        have hza1 := hza (by intro h; rw [h] at f; simp at f)
        have hzb1 := hzb (by intro h; rw [h] at g; simp at g)
        simp (disch := omega) only [go_sem, ↓reduceIte, Nat.reduceBEq, Nat.reduceEqDiff, Nat.reduceLT, Nat.reduceLeDiff, Nat.reduceAdd, Nat.reduceMul, Nat.reduceSub, reduceCtorEq, Int.reduceLT, Int.reduceLE, Int.reduceEq, Int.reduceBEq, Int.reduceBNe, Int.reduceToNat, Int.reduceAdd, Int.reduceNeg, Int.reduceSub, fi, gi, hx, hy, hne', hza1, hzb1]
      · have gi : ¬ ((cpl a b : Nat) : Int) < b.length := by omega
        simp (disch := omega) only [go_sem, ↓reduceIte, Nat.reduceBEq, Nat.reduceEqDiff, Nat.reduceLT, Nat.reduceLeDiff, Nat.reduceAdd, Nat.reduceMul, Nat.reduceSub, reduceCtorEq, Int.reduceLT, Int.reduceLE, Int.reduceEq, Int.reduceBEq, Int.reduceBNe, Int.reduceToNat, Int.reduceAdd, Int.reduceNeg, Int.reduceSub, fi, gi]
    · have fi : ¬ ((cpl a b : Nat) : Int) < a.length := by omega
      simp (disch := omega) only [go_sem, ↓reduceIte, Nat.reduceBEq, Nat.reduceEqDiff, Nat.reduceLT, Nat.reduceLeDiff, Nat.reduceAdd, Nat.reduceMul, Nat.reduceSub, reduceCtorEq, Int.reduceLT, Int.reduceLE, Int.reduceEq, Int.reduceBEq, Int.reduceBNe, Int.reduceToNat, Int.reduceAdd, Int.reduceNeg, Int.reduceSub, fi]
theorem c13 (a b : List Int) (za zb : Nat) (hza : a ≠ [] → za = 1) (hzb : b ≠ [] → zb = 1) (la : a.length < 1000000000000000000) (lb : b.length < 1000000000000000000) (h : Heap) :
    callPure (EW tabX) 22 [.lst 0 za (I a), .lst 0 zb (I b)] h = some (.bool (decide (a = b)), h) := by
  have h1 := c55 a b za zb hza hzb la lb
  have h2 := c55 b a zb za hzb hza lb la
  rw [callPure_eq, w_call _ fn_22 rfl, ← ltB_eq]
  have e : ((a.length : Int) == b.length) = decide (a.length = b.length) := by rw [Bool.eq_iff_iff]; simp; omega
  simp only [go_sem, ↓reduceIte, Nat.reduceBEq, Nat.reduceEqDiff, Nat.reduceLT, Nat.reduceLeDiff, Nat.reduceAdd, Nat.reduceMul, Nat.reduceSub, reduceCtorEq, Int.reduceLT, Int.reduceLE, Int.reduceEq, Int.reduceBEq, Int.reduceBNe, Int.reduceToNat, Int.reduceAdd, Int.reduceNeg, Int.reduceSub, h1, h2, e]
theorem any_succ {α : Type} (p : α → Bool) {l : List α} {k : Nat} {x : α} (h : l[k]? = some x) : (l.take (k + 1)).any p = ((l.take k).any p || p x) := by
  rw [List.take_add_one, h]; simp
theorem c28 (l : List Int) (n : Int) (z : Nat) (hz : l ≠ [] → z = 1) (hl : l.length < 1000000000000000000) (h : Heap) :
    callPure (EW tabX) 35 [.lst 0 z (I l), .int .i64 n] h = some (.bool (l.any fun x => x == n), h) := by
  rw [callPure_eq, w_call _ fn_35 rfl]
  simp only [go_sem, ↓reduceIte, Nat.reduceBEq, Nat.reduceEqDiff, Nat.reduceLT, Nat.reduceLeDiff, Nat.reduceAdd, Nat.reduceMul, Nat.reduceSub, reduceCtorEq, Int.reduceLT, Int.reduceLE, Int.reduceEq, Int.reduceBEq, Int.reduceBNe, Int.reduceToNat, Int.reduceAdd, Int.reduceNeg, Int.reduceSub]
  rw [w_rounds_u (fun k => [(5, .bool ((l.take k).any fun x => x == n)), (6, .int .i64 k)]) l.length (.exit 0) [(5, .bool (l.any fun x => x == n)), (6, .int .i64 l.length)] ?_ ?_ ?_ rfl]
  · simp only [go_sem, ↓reduceIte, Nat.reduceBEq, Nat.reduceEqDiff, Nat.reduceLT, Nat.reduceLeDiff, Nat.reduceAdd, Nat.reduceMul, Nat.reduceSub, reduceCtorEq, Int.reduceLT, Int.reduceLE, Int.reduceEq, Int.reduceBEq, Int.reduceBNe, Int.reduceToNat, Int.reduceAdd, Int.reduceNeg, Int.reduceSub]
  · simp only [go_sem, ↓reduceIte, Nat.reduceBEq, Nat.reduceEqDiff, Nat.reduceLT, Nat.reduceLeDiff, Nat.reduceAdd, Nat.reduceMul, Nat.reduceSub, reduceCtorEq, Int.reduceLT, Int.reduceLE, Int.reduceEq, Int.reduceBEq, Int.reduceBNe, Int.reduceToNat, Int.reduceAdd, Int.reduceNeg, Int.reduceSub, List.any_nil]
  · intro k hk
    have hki : (k : Int) < l.length := by omega
    have hx := List.getElem?_eq_getElem hk
    have hz1 := hz (by intro e; rw [e] at hk; simp at hk)
    subst hz1
    simp (disch := omega) only [go_sem, ↓reduceIte, Nat.reduceBEq, Nat.reduceEqDiff, Nat.reduceLT, Nat.reduceLeDiff, Nat.reduceAdd, Nat.reduceMul, Nat.reduceSub, reduceCtorEq, Int.reduceLT, Int.reduceLE, Int.reduceEq, Int.reduceBEq, Int.reduceBNe, Int.reduceToNat, Int.reduceAdd, Int.reduceNeg, Int.reduceSub, hki, hx, wrap_i64, any_succ _ hx]
  · simp only [go_sem, ↓reduceIte, Nat.reduceBEq, Nat.reduceEqDiff, Nat.reduceLT, Nat.reduceLeDiff, Nat.reduceAdd, Nat.reduceMul, Nat.reduceSub, reduceCtorEq, Int.reduceLT, Int.reduceLE, Int.reduceEq, Int.reduceBEq, Int.reduceBNe, Int.reduceToNat, Int.reduceAdd, Int.reduceNeg, Int.reduceSub]

end Go.Proofs.YthkpjbgadkkeeaaGreat
end
section
namespace Go.Proofs.YthkpjbgadkkeeaaGreat
open Go.Proofs

def bitsL (s n : Nat) : List Int := ((List.range n).filter fun i => s.testBit i).map fun (i : Nat) => (i : Int)
theorem bitsL_succ (s n : Nat) : bitsL s (n + 1) = if s.testBit n = true then bitsL s n ++ [(n : Int)] else bitsL s n := by
  unfold bitsL
  rw [List.range_succ, List.filter_append, List.map_append]
  have e : (List.filter (fun i => s.testBit i) [n]) = if s.testBit n = true then [n] else [] := by simp only [List.filter_cons, List.filter_nil]
  rw [e]
  split <;> simp
theorem bitsL_len (s n : Nat) : (bitsL s n).length ≤ n := by
  unfold bitsL; rw [List.length_map]; have := List.length_filter_le (fun i => s.testBit i) (List.range n); simpa using this
theorem c84 (s n : Nat) (hs : s < 32) (hn : n ≤ 5) (h : Heap) : callPure (EW tabX) 107 [.int .i64 s, .int .i64 n] h = some (vI (bitsL s n), h) := by
  rw [callPure_eq, w_call _ fn_107 rfl]
  simp only [go_sem, ↓reduceIte, Nat.reduceBEq, Nat.reduceEqDiff, Nat.reduceLT, Nat.reduceLeDiff, Nat.reduceAdd, Nat.reduceMul, Nat.reduceSub, reduceCtorEq, Int.reduceLT, Int.reduceLE, Int.reduceEq, Int.reduceBEq, Int.reduceBNe, Int.reduceToNat, Int.reduceAdd, Int.reduceNeg, Int.reduceSub]
  rw [w_rounds_h (fun k => [(4, ownT [] (bitsL s k)), (7, .int .i64 k)]) (fun k => ⟨[], T [] (bitsL s k).length⟩) n (.exit 0) [(4, ownT [] (bitsL s n)), (7, .int .i64 n)] ⟨[], T [] (bitsL s n).length⟩ ?_ ?_ ?_ ?_ rfl]
  · simp only [go_sem, ↓reduceIte, Nat.reduceBEq, Nat.reduceEqDiff, Nat.reduceLT, Nat.reduceLeDiff, Nat.reduceAdd, Nat.reduceMul, Nat.reduceSub, reduceCtorEq, Int.reduceLT, Int.reduceLE, Int.reduceEq, Int.reduceBEq, Int.reduceBNe, Int.reduceToNat, Int.reduceAdd, Int.reduceNeg, Int.reduceSub, ownT_clean, ownT_under]
  · simp only [go_sem, ↓reduceIte, Nat.reduceBEq, Nat.reduceEqDiff, Nat.reduceLT, Nat.reduceLeDiff, Nat.reduceAdd, Nat.reduceMul, Nat.reduceSub, reduceCtorEq, Int.reduceLT, Int.reduceLE, Int.reduceEq, Int.reduceBEq, Int.reduceBNe, Int.reduceToNat, Int.reduceAdd, Int.reduceNeg, Int.reduceSub]; rfl
  · rfl
  · intro k hk
    have hki : (k : Int) < n := by omega
    have hb := shr_and ⟨s, hs⟩ ⟨k, by omega⟩
    have hln := bitsL_len s k
    have hap := ownT_app [] (bitsL s k) k (by omega)
    rw [bitsL_succ]
    cases e : s.testBit k with
    | true =>
      simp only [e] at hb
      simp (disch := omega) only [go_sem, ↓reduceIte, Nat.reduceBEq, Nat.reduceEqDiff, Nat.reduceLT, Nat.reduceLeDiff, Nat.reduceAdd, Nat.reduceMul, Nat.reduceSub, reduceCtorEq, Int.reduceLT, Int.reduceLE, Int.reduceEq, Int.reduceBEq, Int.reduceBNe, Int.reduceToNat, Int.reduceAdd, Int.reduceNeg, Int.reduceSub, hki, wrap_i64, hap]
      rw [if_pos (by exact hb)]
    | false =>
      simp only [e] at hb
      simp (disch := omega) only [go_sem, ↓reduceIte, Nat.reduceBEq, Nat.reduceEqDiff, Nat.reduceLT, Nat.reduceLeDiff, Nat.reduceAdd, Nat.reduceMul, Nat.reduceSub, reduceCtorEq, Int.reduceLT, Int.reduceLE, Int.reduceEq, Int.reduceBEq, Int.reduceBNe, Int.reduceToNat, Int.reduceAdd, Int.reduceNeg, Int.reduceSub, hki, wrap_i64]
      rw [if_neg (by intro hh; exact Bool.false_ne_true (hb.symm.trans hh))]
      try simp (disch := omega) only [go_sem, ↓reduceIte, Nat.reduceBEq, Nat.reduceEqDiff, Nat.reduceLT, Nat.reduceLeDiff, Nat.reduceAdd, Nat.reduceMul, Nat.reduceSub, reduceCtorEq, Int.reduceLT, Int.reduceLE, Int.reduceEq, Int.reduceBEq, Int.reduceBNe, Int.reduceToNat, Int.reduceAdd, Int.reduceNeg, Int.reduceSub, wrap_i64]
  · simp only [go_sem, ↓reduceIte, Nat.reduceBEq, Nat.reduceEqDiff, Nat.reduceLT, Nat.reduceLeDiff, Nat.reduceAdd, Nat.reduceMul, Nat.reduceSub, reduceCtorEq, Int.reduceLT, Int.reduceLE, Int.reduceEq, Int.reduceBEq, Int.reduceBNe, Int.reduceToNat, Int.reduceAdd, Int.reduceNeg, Int.reduceSub]

theorem c105 (x : Int) (h : Heap) : callPure (EW tabX) 194 [.int .i64 x] h = some (.bool false, h) := by
  rw [callPure_eq, w_call _ fn_194 rfl]
  simp only [go_sem, ↓reduceIte, Nat.reduceBEq, Nat.reduceEqDiff, Nat.reduceLT, Nat.reduceLeDiff, Nat.reduceAdd, Nat.reduceMul, Nat.reduceSub, reduceCtorEq, Int.reduceLT, Int.reduceLE, Int.reduceEq, Int.reduceBEq, Int.reduceBNe, Int.reduceToNat, Int.reduceAdd, Int.reduceNeg, Int.reduceSub]
def cmpI (x y : Int) : Int := if x < y then -1 else if y < x then 1 else 0
theorem c92 (x y : Int) (h : Heap) : callPure (EW tabX) 164 [.int .i64 x, .int .i64 y] h = some (.int .i64 (cmpI x y), h) := by
  rw [callPure_eq, w_call _ fn_164 rfl]
  unfold cmpI
  by_cases h1 : x < y
  · simp only [go_sem, ↓reduceIte, Nat.reduceBEq, Nat.reduceEqDiff, Nat.reduceLT, Nat.reduceLeDiff, Nat.reduceAdd, Nat.reduceMul, Nat.reduceSub, reduceCtorEq, Int.reduceLT, Int.reduceLE, Int.reduceEq, Int.reduceBEq, Int.reduceBNe, Int.reduceToNat, Int.reduceAdd, Int.reduceNeg, Int.reduceSub, c105, h1]
  · by_cases h2 : y < x
    · simp only [go_sem, ↓reduceIte, Nat.reduceBEq, Nat.reduceEqDiff, Nat.reduceLT, Nat.reduceLeDiff, Nat.reduceAdd, Nat.reduceMul, Nat.reduceSub, reduceCtorEq, Int.reduceLT, Int.reduceLE, Int.reduceEq, Int.reduceBEq, Int.reduceBNe, Int.reduceToNat, Int.reduceAdd, Int.reduceNeg, Int.reduceSub, c105, h1, h2]
    · simp only [go_sem, ↓reduceIte, Nat.reduceBEq, Nat.reduceEqDiff, Nat.reduceLT, Nat.reduceLeDiff, Nat.reduceAdd, Nat.reduceMul, Nat.reduceSub, reduceCtorEq, Int.reduceLT, Int.reduceLE, Int.reduceEq, Int.reduceBEq, Int.reduceBNe, Int.reduceToNat, Int.reduceAdd, Int.reduceNeg, Int.reduceSub, c105, h1, h2]
def cmpL (a b : List Int) : Int := if ltB a b then -1 else if a = b then 0 else 1
theorem c85 (a b : List Int) (za zb : Nat) (hza : a ≠ [] → za = 1) (hzb : b ≠ [] → zb = 1) (la : a.length < 1000000000000000000) (lb : b.length < 1000000000000000000) (h : Heap) :
    callPure (EW tabX) 108 [.lst 0 za (I a), .lst 0 zb (I b)] h = some (.int .i64 (cmpL a b), h) := by
  rw [callPure_eq, w_call _ fn_108 rfl]
  simp only [go_sem, ↓reduceIte, Nat.reduceBEq, Nat.reduceEqDiff, Nat.reduceLT, Nat.reduceLeDiff, Nat.reduceAdd, Nat.reduceMul, Nat.reduceSub, reduceCtorEq, Int.reduceLT, Int.reduceLE, Int.reduceEq, Int.reduceBEq, Int.reduceBNe, Int.reduceToNat, Int.reduceAdd, Int.reduceNeg, Int.reduceSub]
  have h1 := cpl_le1 a b
  have h2 := cpl_le2 a b
  have hlt := ltB_cpl a b
  have heq := ltB_eq a b
  have round : ∀ k, k < cpl a b → ∃ x, a[k]? = some x ∧ b[k]? = some x ∧ (k : Int) < a.length ∧ ¬ (b.length : Int) ≤ k ∧ za = 1 ∧ zb = 1 := fun k hk => by
    have ka : k < a.length := by omega
    have kb : k < b.length := by omega
    have hx := List.getElem?_eq_getElem ka
    have he := cpl_eq a b k hk
    exact ⟨a[k], hx, by rw [← he]; exact hx, by omega, by omega, hza (by intro h; rw [h] at ka; simp at ka), hzb (by intro h; rw [h] at kb; simp at kb)⟩
  have cz : ∀ x, cmpI x x = 0 := fun x => by unfold cmpI; rw [if_neg (by omega), if_neg (by omega)]
  by_cases e : cpl a b = a.length
  · rw [w_rounds_u (fun k => [(11, .int .i64 k)]) (cpl a b) (.exit 0) [(11, .int .i64 (cpl a b))] ?_ ?_ ?_ rfl]
    · by_cases f : a.length < b.length
      · have fi : (a.length : Int) < b.length := by omega
        have hl : ltB a b = true := by rw [hlt, if_neg (by omega), e]; simp
        simp only [go_sem, ↓reduceIte, Nat.reduceBEq, Nat.reduceEqDiff, Nat.reduceLT, Nat.reduceLeDiff, Nat.reduceAdd, Nat.reduceMul, Nat.reduceSub, reduceCtorEq, Int.reduceLT, Int.reduceLE, Int.reduceEq, Int.reduceBEq, Int.reduceBNe, Int.reduceToNat, Int.reduceAdd, Int.reduceNeg, Int.reduceSub, fi, cmpL, hl]
      · have fi : ¬ (a.length : Int) < b.length := by omega
        have hl : ltB a b = false := by rw [hlt, if_pos (by omega)]
        have hab : a = b := by
          apply List.ext_getElem? 
          intro k
          by_cases hk : k < cpl a b
          · exact cpl_eq a b k hk
          · rw [List.getElem?_eq_none (by omega), List.getElem?_eq_none (by omega)]
        subst hab
        simp only [go_sem, ↓reduceIte, Nat.reduceBEq, Nat.reduceEqDiff, Nat.reduceLT, Nat.reduceLeDiff, Nat.reduceAdd, Nat.reduceMul, Nat.reduceSub, reduceCtorEq, Int.reduceLT, Int.reduceLE, Int.reduceEq, Int.reduceBEq, Int.reduceBNe, Int.reduceToNat, Int.reduceAdd, Int.reduceNeg, Int.reduceSub, cmpL, hl]
    · simp only [go_sem, ↓reduceIte, Nat.reduceBEq, Nat.reduceEqDiff, Nat.reduceLT, Nat.reduceLeDiff, Nat.reduceAdd, Nat.reduceMul, Nat.reduceSub, reduceCtorEq, Int.reduceLT, Int.reduceLE, Int.reduceEq, Int.reduceBEq, Int.reduceBNe, Int.reduceToNat, Int.reduceAdd, Int.reduceNeg, Int.reduceSub]
    · intro k hk
      obtain ⟨x, x1, x2, x3, x4, x5, x6⟩ := round k hk
      simp (disch := omega) only [go_sem, ↓reduceIte, Nat.reduceBEq, Nat.reduceEqDiff, Nat.reduceLT, Nat.reduceLeDiff, Nat.reduceAdd, Nat.reduceMul, Nat.reduceSub, reduceCtorEq, Int.reduceLT, Int.reduceLE, Int.reduceEq, Int.reduceBEq, Int.reduceBNe, Int.reduceToNat, Int.reduceAdd, Int.reduceNeg, Int.reduceSub, x1, x2, x3, x4, x5, x6, c92, cz, wrap_i64]
    · simp only [go_sem, ↓reduceIte, Nat.reduceBEq, Nat.reduceEqDiff, Nat.reduceLT, Nat.reduceLeDiff, Nat.reduceAdd, Nat.reduceMul, Nat.reduceSub, reduceCtorEq, Int.reduceLT, Int.reduceLE, Int.reduceEq, Int.reduceBEq, Int.reduceBNe, Int.reduceToNat, Int.reduceAdd, Int.reduceNeg, Int.reduceSub, e]
  · have g : cpl a b < a.length := by omega
    have gi : ((cpl a b : Nat) : Int) < a.length := by omega
    have hx := List.getElem?_eq_getElem g
    have hza1 := hza (by intro h; rw [h] at g; simp at g)
    by_cases f : cpl a b = b.length
    · have fi : (b.length : Int) ≤ (cpl a b : Nat) := by omega
      have hl : ltB a b = false := by rw [hlt, if_pos f]
      have hab : ¬ a = b := fun h => by rw [h] at g f; omega
      rw [w_rounds_u (fun k => [(11, .int .i64 k)]) (cpl a b) .ret [(4, .int .i64 1), (5, .int .i64 (cpl a b)), (6, .int .i64 a[cpl a b]), (11, .int .i64 (cpl a b))] ?_ ?_ ?_ rfl]
      · simp only [go_sem, ↓reduceIte, Nat.reduceBEq, Nat.reduceEqDiff, Nat.reduceLT, Nat.reduceLeDiff, Nat.reduceAdd, Nat.reduceMul, Nat.reduceSub, reduceCtorEq, Int.reduceLT, Int.reduceLE, Int.reduceEq, Int.reduceBEq, Int.reduceBNe, Int.reduceToNat, Int.reduceAdd, Int.reduceNeg, Int.reduceSub, cmpL, hl, hab]
      · simp only [go_sem, ↓reduceIte, Nat.reduceBEq, Nat.reduceEqDiff, Nat.reduceLT, Nat.reduceLeDiff, Nat.reduceAdd, Nat.reduceMul, Nat.reduceSub, reduceCtorEq, Int.reduceLT, Int.reduceLE, Int.reduceEq, Int.reduceBEq, Int.reduceBNe, Int.reduceToNat, Int.reduceAdd, Int.reduceNeg, Int.reduceSub]
      · intro k hk
        obtain ⟨x, x1, x2, x3, x4, x5, x6⟩ := round k hk
        simp (disch := omega) only [go_sem, ↓reduceIte, Nat.reduceBEq, Nat.reduceEqDiff, Nat.reduceLT, Nat.reduceLeDiff, Nat.reduceAdd, Nat.reduceMul, Nat.reduceSub, reduceCtorEq, Int.reduceLT, Int.reduceLE, Int.reduceEq, Int.reduceBEq, Int.reduceBNe, Int.reduceToNat, Int.reduceAdd, Int.reduceNeg, Int.reduceSub, x1, x2, x3, x4, x5, x6, c92, cz, wrap_i64]
      · simp only [go_sem, ↓reduceIte, Nat.reduceBEq, Nat.reduceEqDiff, Nat.reduceLT, Nat.reduceLeDiff, Nat.reduceAdd, Nat.reduceMul, Nat.reduceSub, reduceCtorEq, Int.reduceLT, Int.reduceLE, Int.reduceEq, Int.reduceBEq, Int.reduceBNe, Int.reduceToNat, Int.reduceAdd, Int.reduceNeg, Int.reduceSub, hx, gi, hza1, fi]
    · have g2 : cpl a b < b.length := by omega
      have gi2 : ¬ (b.length : Int) ≤ (cpl a b : Nat) := by omega
      have hy := List.getElem?_eq_getElem g2
      have hzb1 := hzb (by intro h; rw [h] at g2; simp at g2)
      have hne := cpl_ne a b _ _ hx hy
      have ea : a.getD (cpl a b) 0 = a[cpl a b] := by simp [g]
      have eb : b.getD (cpl a b) 0 = b[cpl a b] := by simp [g2]
      have hab : ¬ a = b := fun h => by subst h; exact hne rfl
      have hl : ltB a b = decide (a[cpl a b] < b[cpl a b]) := by rw [hlt, if_neg f, ea, eb]; simp [e]
      have hc : cmpL a b = cmpI a[cpl a b] b[cpl a b] := by
        unfold cmpL cmpI
        rw [hl, if_neg hab]
        by_cases q : a[cpl a b] < b[cpl a b]
        · simp [q]
        · have q2 : b[cpl a b] < a[cpl a b] := by omega
          simp [q, q2]
      have hn0 : (cmpI a[cpl a b] b[cpl a b] != 0) = true := by
        unfold cmpI
        by_cases q : a[cpl a b] < b[cpl a b]
        · simp [q]
        · have q2 : b[cpl a b] < a[cpl a b] := by omega
          simp [q, q2]
      rw [w_rounds_u (fun k => [(11, .int .i64 k)]) (cpl a b) .ret [(4, .int .i64 (cmpI a[cpl a b] b[cpl a b])), (5, .int .i64 (cpl a b)), (6, .int .i64 a[cpl a b]), (7, .int .i64 b[cpl a b]), (8, .int .i64 (cmpI a[cpl a b] b[cpl a b])), (11, .int .i64 (cpl a b))] ?_ ?_ ?_ rfl]
      · simp only [go_sem, ↓reduceIte, Nat.reduceBEq, Nat.reduceEqDiff, Nat.reduceLT, Nat.reduceLeDiff, Nat.reduceAdd, Nat.reduceMul, Nat.reduceSub, reduceCtorEq, Int.reduceLT, Int.reduceLE, Int.reduceEq, Int.reduceBEq, Int.reduceBNe, Int.reduceToNat, Int.reduceAdd, Int.reduceNeg, Int.reduceSub, hc]
      · simp only [go_sem, ↓reduceIte, Nat.reduceBEq, Nat.reduceEqDiff, Nat.reduceLT, Nat.reduceLeDiff, Nat.reduceAdd, Nat.reduceMul, Nat.reduceSub, reduceCtorEq, Int.reduceLT, Int.reduceLE, Int.reduceEq, Int.reduceBEq, Int.reduceBNe, Int.reduceToNat, Int.reduceAdd, Int.reduceNeg, Int.reduceSub]
      · intro k hk
        obtain ⟨x, x1, x2, x3, x4, x5, x6⟩ := round k hk
        simp (disch := omega) only [go_sem, ↓reduceIte, Nat.reduceBEq, Nat.reduceEqDiff, Nat.reduceLT, Nat.reduceLeDiff, Nat.reduceAdd, Nat.reduceMul, Nat.reduceSub, reduceCtorEq, Int.reduceLT, Int.reduceLE, Int.reduceEq, Int.reduceBEq, Int.reduceBNe, Int.reduceToNat, Int.reduceAdd, Int.reduceNeg, Int.reduceSub, x1, x2, x3, x4, x5, x6, c92, cz, wrap_i64]
      · simp only [go_sem, ↓reduceIte, Nat.reduceBEq, Nat.reduceEqDiff, Nat.reduceLT, Nat.reduceLeDiff, Nat.reduceAdd, Nat.reduceMul, Nat.reduceSub, reduceCtorEq, Int.reduceLT, Int.reduceLE, Int.reduceEq, Int.reduceBEq, Int.reduceBNe, Int.reduceToNat, Int.reduceAdd, Int.reduceNeg, Int.reduceSub, hx, hy, gi, gi2, hza1, hzb1, c92, hn0]
end Go.Proofs.YthkpjbgadkkeeaaGreat
end
section
namespace Go.Proofs.YthkpjbgadkkeeaaGreat
open Go.Proofs

theorem c60 (d : Fu) (B : List ABlk) (t : List Bool) : (EW tabX).call 66 [eF d] ⟨B, t⟩ = some (.ref (B.length + 1) 0, ⟨B ++ [.cells (eFc d), .cells (eFs d 0 0)], t⟩) := by
  rw [w_call _ fn_66 rfl]
  have h1 : ∀ k, ¬ (B.length + k < B.length) := fun k => by omega
  simp only [go_sem, ↓reduceIte, Nat.reduceBEq, Nat.reduceEqDiff, Nat.reduceLT, Nat.reduceLeDiff, Nat.reduceAdd, Nat.reduceMul, Nat.reduceSub, reduceCtorEq, Int.reduceLT, Int.reduceLE, Int.reduceEq, Int.reduceBEq, Int.reduceBNe, Int.reduceToNat, Int.reduceAdd, Int.reduceNeg, Int.reduceSub, eF, eFc, eFs, h1, cast_zero]
theorem c64 (h : Heap) : callPure (EW tabX) 57 [] h = some (.int .i64 0, h) := by
  rw [callPure_eq, w_call _ fn_57 rfl]
  simp only [go_sem, ↓reduceIte, Nat.reduceBEq, Nat.reduceEqDiff, Nat.reduceLT, Nat.reduceLeDiff, Nat.reduceAdd, Nat.reduceMul, Nat.reduceSub, reduceCtorEq, Int.reduceLT, Int.reduceLE, Int.reduceEq, Int.reduceBEq, Int.reduceBNe, Int.reduceToNat, Int.reduceAdd, Int.reduceNeg, Int.reduceSub, zipFrom_nil]
theorem cost_at {d : Fu} (hd : d.fits) (ho : d.Ok) (refused : Nat) {but k : Nat} (hb : but < 32) (hk : k < d.visits.length) : costsO [.eptr [.int .i64 d.pence, .int .i64 d.days, .int .i64 d.opn, .int .i64 d.late, .int .i64 d.frm, .lst 0 d.zl (I d.lines), .lst 0 d.zp (d.people.map ePe), .lst 0 d.zv (d.visits.map eVi), .lst 0 d.ze (d.entries.map eEt), .int .i64 (refused : Int), .int .i64 (but : Int)], .int .i64 (k : Int)] = some (vI (costs d but k)) := costsO_eq hd ho refused hb hk
def noCost (d : Fu) (but k : Nat) : Int := if costs d but k = [] then 1 else 0
def someB (d : Fu) (but : Nat) : Bool := decide (firstBad (noCost d but) 0 d.visits.length = none)
theorem c63 {d : Fu} (hd : d.fits) (ho : d.Ok) (refused : Nat) {but : Nat} (hb : but < 32) (r : Nat) (B : List ABlk) (t : List Bool) (hr : B[r]? = some (.cells (eFs d refused but))) :
    (EW tabX).call 68 [.ref r 0] ⟨B, t⟩ = some (.bool (someB d but), ⟨B, t⟩) := by
  rw [w_call _ fn_68 rfl]
  unfold someB
  simp only [eFs] at hr
  have hv5 := ho.visits
  simp only [go_sem, ↓reduceIte, Nat.reduceBEq, Nat.reduceEqDiff, Nat.reduceLT, Nat.reduceLeDiff, Nat.reduceAdd, Nat.reduceMul, Nat.reduceSub, reduceCtorEq, Int.reduceLT, Int.reduceLE, Int.reduceEq, Int.reduceBEq, Int.reduceBNe, Int.reduceToNat, Int.reduceAdd, Int.reduceNeg, Int.reduceSub, hr]
  rw [w_first (fun k => [(10, .int .i64 k)]) (fun _ => ⟨B, t⟩) (noCost d but) d.visits.length .ret (fun n => [(2, .bool false), (3, .int .i64 n), (10, .int .i64 n)]) (fun _ => ⟨B, t⟩) (.exit 0) [(10, .int .i64 d.visits.length)] ⟨B, t⟩ ?_ ?_ ?_ ?_ ?_ rfl rfl]
  · unfold firstW
    cases h : firstBad (noCost d but) 0 d.visits.length with
    | some k => simp only [go_sem, ↓reduceIte, Nat.reduceBEq, Nat.reduceEqDiff, Nat.reduceLT, Nat.reduceLeDiff, Nat.reduceAdd, Nat.reduceMul, Nat.reduceSub, reduceCtorEq, Int.reduceLT, Int.reduceLE, Int.reduceEq, Int.reduceBEq, Int.reduceBNe, Int.reduceToNat, Int.reduceAdd, Int.reduceNeg, Int.reduceSub]
    | none => simp only [go_sem, ↓reduceIte, Nat.reduceBEq, Nat.reduceEqDiff, Nat.reduceLT, Nat.reduceLeDiff, Nat.reduceAdd, Nat.reduceMul, Nat.reduceSub, reduceCtorEq, Int.reduceLT, Int.reduceLE, Int.reduceEq, Int.reduceBEq, Int.reduceBNe, Int.reduceToNat, Int.reduceAdd, Int.reduceNeg, Int.reduceSub]
  · simp only [go_sem, ↓reduceIte, Nat.reduceBEq, Nat.reduceEqDiff, Nat.reduceLT, Nat.reduceLeDiff, Nat.reduceAdd, Nat.reduceMul, Nat.reduceSub, reduceCtorEq, Int.reduceLT, Int.reduceLE, Int.reduceEq, Int.reduceBEq, Int.reduceBNe, Int.reduceToNat, Int.reduceAdd, Int.reduceNeg, Int.reduceSub]
  · rfl
  · intro k hk hz
    have hki : (k : Int) < d.visits.length := by omega
    have hc := cost_at hd ho refused hb hk
    have hne : costs d but k ≠ [] := fun h => by unfold noCost at hz; rw [if_pos h] at hz; cases hz
    have hl : ((costs d but k).length == 0) = false := by simpa using hne
    have hli : (((costs d but k).length : Int) == 0) = false := by simp; exact hne
    simp (disch := omega) only [go_sem, ↓reduceIte, Nat.reduceBEq, Nat.reduceEqDiff, Nat.reduceLT, Nat.reduceLeDiff, Nat.reduceAdd, Nat.reduceMul, Nat.reduceSub, reduceCtorEq, Int.reduceLT, Int.reduceLE, Int.reduceEq, Int.reduceBEq, Int.reduceBNe, Int.reduceToNat, Int.reduceAdd, Int.reduceNeg, Int.reduceSub, hki, hr, hc, vI, hli, wrap_i64]
  · intro k hk hz
    have hki : (k : Int) < d.visits.length := by omega
    have hc := cost_at hd ho refused hb hk
    have he : costs d but k = [] := by
      unfold noCost at hz
      split at hz
      · assumption
      · exact absurd rfl hz
    rw [he] at hc
    simp (disch := omega) only [go_sem, ↓reduceIte, Nat.reduceBEq, Nat.reduceEqDiff, Nat.reduceLT, Nat.reduceLeDiff, Nat.reduceAdd, Nat.reduceMul, Nat.reduceSub, reduceCtorEq, Int.reduceLT, Int.reduceLE, Int.reduceEq, Int.reduceBEq, Int.reduceBNe, Int.reduceToNat, Int.reduceAdd, Int.reduceNeg, Int.reduceSub, hki, hr, hc, vI, wrap_i64]
  · simp only [go_sem, ↓reduceIte, Nat.reduceBEq, Nat.reduceEqDiff, Nat.reduceLT, Nat.reduceLeDiff, Nat.reduceAdd, Nat.reduceMul, Nat.reduceSub, reduceCtorEq, Int.reduceLT, Int.reduceLE, Int.reduceEq, Int.reduceBEq, Int.reduceBNe, Int.reduceToNat, Int.reduceAdd, Int.reduceNeg, Int.reduceSub, Int.lt_irrefl]
end Go.Proofs.YthkpjbgadkkeeaaGreat
end
section
namespace Go.Proofs.YthkpjbgadkkeeaaGreat
open Go.Proofs

def enterE (d : Fu) (e : Int) : Int := if checkE d = 0 then (if e = 0 then (if someB d 0 = true then 0 else 8) else e) else checkE d
def HE (d : Fu) (B : List ABlk) : List ABlk := B ++ [.cells (eFc d), .cells (eFc d), .cells (eFs d 0 0)]
theorem c50 (d : Fu) (hd : d.fits) (e : Int) (oc : AV) (B : List ABlk) (t : List Bool) (hoc : checkE d = 0 → callAV tabX (EW tabX) false oc [] ⟨B ++ [.cells (eFc d)], t⟩ = some (.int .i64 e, ⟨B ++ [.cells (eFc d)], t⟩)) :
    (enterE d e ≠ 0 → (EW tabX).call 45 [eF d, oc] ⟨B, t⟩ = some (.tup [.nilp, .int .i64 (enterE d e)], ⟨B, t⟩)) ∧
    (enterE d e = 0 → (EW tabX).call 45 [eF d, oc] ⟨B, t⟩ = some (.tup [.ref (B.length + 2) 0, .int .i64 0], ⟨HE d B, t⟩)) := by
  have h9 := c9 d hd
  have hce : (checkF d).2.2 = checkE d := rfl
  rw [w_call _ fn_45 rfl]
  unfold enterE
  simp only [eF, eFc, tup3, hce] at h9
  by_cases h0 : checkE d = 0
  rotate_left
  · rw [if_neg h0]
    have hne : (checkE d != 0) = true := by simpa using h0
    refine ⟨fun _ => ?_, fun h => absurd h h0⟩
    simp only [go_sem, ↓reduceIte, Nat.reduceBEq, Nat.reduceEqDiff, Nat.reduceLT, Nat.reduceLeDiff, Nat.reduceAdd, Nat.reduceMul, Nat.reduceSub, reduceCtorEq, Int.reduceLT, Int.reduceLE, Int.reduceEq, Int.reduceBEq, Int.reduceBNe, Int.reduceToNat, Int.reduceAdd, Int.reduceNeg, Int.reduceSub, eF, eFc, h9, hne]
  have ho := ok_of_check h0
  rw [if_pos h0]
  have hoc := hoc h0
  simp only [eFc] at hoc
  by_cases h1 : e = 0
  rotate_left
  · rw [if_neg h1]
    have hne : (e != 0) = true := by simpa using h1
    refine ⟨fun _ => ?_, fun h => absurd h h1⟩
    simp only [go_sem, ↓reduceIte, Nat.reduceBEq, Nat.reduceEqDiff, Nat.reduceLT, Nat.reduceLeDiff, Nat.reduceAdd, Nat.reduceMul, Nat.reduceSub, reduceCtorEq, Int.reduceLT, Int.reduceLE, Int.reduceEq, Int.reduceBEq, Int.reduceBNe, Int.reduceToNat, Int.reduceAdd, Int.reduceNeg, Int.reduceSub, eF, eFc, h9, h0, hoc, hne]
  subst h1
  rw [if_pos rfl]
  have h60 := c60 d (B ++ [.cells (eFc d)]) t
  have h63 := c63 hd ho 0 (but := 0) (by omega) (B.length + 2) (HE d B) t (by simp only [HE, go_sem, ↓reduceIte, Nat.reduceBEq, Nat.reduceEqDiff, Nat.reduceLT, Nat.reduceLeDiff, Nat.reduceAdd, Nat.reduceMul, Nat.reduceSub, reduceCtorEq, Int.reduceLT, Int.reduceLE, Int.reduceEq, Int.reduceBEq, Int.reduceBNe, Int.reduceToNat, Int.reduceAdd, Int.reduceNeg, Int.reduceSub])
  simp only [go_sem, ↓reduceIte, Nat.reduceBEq, Nat.reduceEqDiff, Nat.reduceLT, Nat.reduceLeDiff, Nat.reduceAdd, Nat.reduceMul, Nat.reduceSub, reduceCtorEq, Int.reduceLT, Int.reduceLE, Int.reduceEq, Int.reduceBEq, Int.reduceBNe, Int.reduceToNat, Int.reduceAdd, Int.reduceNeg, Int.reduceSub, eF, eFc, eFs, HE, cast_zero] at h60 h63
  have hlt : ∀ k, ¬ (B.length + k < B.length) := fun k => by omega
  cases h2 : someB d 0 with
  | true =>
    rw [h2] at h63
    refine ⟨fun h => absurd rfl h, fun _ => ?_⟩
    simp only [go_sem, ↓reduceIte, Nat.reduceBEq, Nat.reduceEqDiff, Nat.reduceLT, Nat.reduceLeDiff, Nat.reduceAdd, Nat.reduceMul, Nat.reduceSub, reduceCtorEq, Int.reduceLT, Int.reduceLE, Int.reduceEq, Int.reduceBEq, Int.reduceBNe, Int.reduceToNat, Int.reduceAdd, Int.reduceNeg, Int.reduceSub, eF, eFc, eFs, HE, h9, h0, hoc, h60, Nat.add_assoc, h63, hlt, cast_zero]
  | false =>
    rw [h2] at h63
    refine ⟨fun _ => ?_, fun h => by cases h⟩
    simp only [go_sem, ↓reduceIte, Nat.reduceBEq, Nat.reduceEqDiff, Nat.reduceLT, Nat.reduceLeDiff, Nat.reduceAdd, Nat.reduceMul, Nat.reduceSub, reduceCtorEq, Int.reduceLT, Int.reduceLE, Int.reduceEq, Int.reduceBEq, Int.reduceBNe, Int.reduceToNat, Int.reduceAdd, Int.reduceNeg, Int.reduceSub, eF, eFc, eFs, h9, h0, hoc, h60, Nat.add_assoc, h63, cast_zero, Bool.false_eq_true]
theorem c51 (n below e : Int) (B : List ABlk) (t : List Bool) : (EW tabX).call 46 [.int .i64 n, .int .i64 below, .int .i64 e] ⟨B, t⟩ = some (.clo 98 [] [.ref (B.length + 1) 0, .ref B.length 0, .ref (B.length + 2) 0], ⟨B ++ [.cells [.int .i64 n], .cells [.int .i64 below], .cells [.int .i64 e]], t⟩) := by
  have h1 : ¬ (B.length < B.length) := by omega
  have h2 : ∀ k, ¬ (B.length + k < B.length) := fun k => by omega
  rw [w_call _ fn_46 rfl]
  simp only [go_sem, ↓reduceIte, Nat.reduceBEq, Nat.reduceEqDiff, Nat.reduceLT, Nat.reduceLeDiff, Nat.reduceAdd, Nat.reduceMul, Nat.reduceSub, reduceCtorEq, Int.reduceLT, Int.reduceLE, Int.reduceEq, Int.reduceBEq, Int.reduceBNe, Int.reduceToNat, Int.reduceAdd, Int.reduceNeg, Int.reduceSub, h1, h2, Nat.add_assoc]
def idxE (n below e : Int) : Int := if out 0 (below - 1) n = true then e else 0
theorem c75 (n below e : Int) (hb : -1000 ≤ below ∧ below < 1000000000000000000) (b0 b1 b2 : Nat) (B : List ABlk) (t : List Bool) (h0 : B[b0]? = some (.cells [.int .i64 n])) (h1 : B[b1]? = some (.cells [.int .i64 below])) (h2 : B[b2]? = some (.cells [.int .i64 e])) :
    (EW tabX).call 98 [.ref b1 0, .ref b0 0, .ref b2 0] ⟨B, t⟩ = some (.int .i64 (idxE n below e), ⟨B, t⟩) := by
  rw [w_call _ fn_98 rfl]
  unfold idxE
  have hw : IntKind.i64.wrap (below - 1) = below - 1 := wrap_i64 (by omega)
  cases ho : out 0 (below - 1) n with
  | true => simp only [go_sem, ↓reduceIte, Nat.reduceBEq, Nat.reduceEqDiff, Nat.reduceLT, Nat.reduceLeDiff, Nat.reduceAdd, Nat.reduceMul, Nat.reduceSub, reduceCtorEq, Int.reduceLT, Int.reduceLE, Int.reduceEq, Int.reduceBEq, Int.reduceBNe, Int.reduceToNat, Int.reduceAdd, Int.reduceNeg, Int.reduceSub, h0, h1, h2, hw, c31_1, ho]
  | false => simp only [go_sem, ↓reduceIte, Nat.reduceBEq, Nat.reduceEqDiff, Nat.reduceLT, Nat.reduceLeDiff, Nat.reduceAdd, Nat.reduceMul, Nat.reduceSub, reduceCtorEq, Int.reduceLT, Int.reduceLE, Int.reduceEq, Int.reduceBEq, Int.reduceBNe, Int.reduceToNat, Int.reduceAdd, Int.reduceNeg, Int.reduceSub, h0, h1, h2, hw, c31_1, ho]
end Go.Proofs.YthkpjbgadkkeeaaGreat
end
section
namespace Go.Proofs.YthkpjbgadkkeeaaGreat
open Go.Proofs

theorem rowsOf_I (l : List Int) : ∀ n off, off + n ≤ l.length → rowsOf 1 (I l) off n = some (((I l).drop off).take n)
  | 0, off, _ => by simp [rowsOf]
  | n + 1, off, h => by
    have hlt : off < l.length := by omega
    have hx : (I l)[off]? = some (.int .i64 l[off]) := by rw [I_get, List.getElem?_eq_getElem hlt]; rfl
    have hr : rowAt 1 (I l) off = some (.int .i64 l[off]) := by simp [rowAt, hx, AV.one]
    have hd : (I l).drop off = .int .i64 l[off] :: (I l).drop (off + 1) := by
      have hl : off < (I l).length := by rw [I_len]; exact hlt
      rw [List.drop_eq_getElem_cons hl]
      congr 1
      rw [List.getElem?_eq_getElem hl] at hx
      exact Option.some.inj hx
    rw [rowsOf, hr, rowsOf_I l n (off + 1) (by omega), hd]
    rfl
theorem frz_int (h : Heap) (k : Nat) (q : IntKind) (n : Int) : frz h (k + 1) (.int q n) = some (.int q n) := by simp [frz, AV.clean]
theorem frz_I (h : Heap) (k : Nat) : ∀ l : List Int, optL ((I l).map (frz h (k + 1))) = some (I l)
  | [] => rfl
  | x :: l => by
    have e : optL ((I (x :: l)).map (frz h (k + 1))) = match frz h (k + 1) (.int .i64 x), optL ((I l).map (frz h (k + 1))) with
      | some y, some ys => some (y :: ys)
      | _, _ => none := rfl
    rw [e, frz_int, frz_I h k l]; rfl
theorem frz_bsl (h : Heap) (k b n : Nat) (l : List Int) (hb : h.b[b]? = some (.cells (I l))) (hn : n = l.length) : frz h (k + 2) (.bsl b 0 n 1) = some (.lst 0 1 (I l)) := by
  have hr := rowsOf_I l n 0 (by omega)
  have ht : ((I l).drop 0).take n = I l := by rw [List.drop_zero]; exact List.take_of_length_le (by rw [I_len]; omega)
  rw [ht] at hr
  have e : frz h (k + 2) (.bsl b 0 n 1) = match h.b[b]? with
      | some (.cells c) => match rowsOf 1 c 0 n with
        | some xs => match optL (xs.map (frz h (k + 1))) with
          | some ys => some (.lst 0 1 ys)
          | none => none
        | none => none
      | _ => none := rfl
  rw [e, hb]
  simp only
  rw [hr]
  simp only
  rw [frz_I h k l]
theorem splice_len (vs : List AV) : ∀ (c : List AV) (off : Nat), off + vs.length ≤ c.length → splice c off vs = c.take off ++ vs ++ c.drop (off + vs.length) := by
  induction vs with
  | nil => intro c off h; simp [splice]
  | cons v vs ih =>
    intro c off h
    simp only [List.length_cons] at h
    have e : splice c off (v :: vs) = splice (c.set off v) (off + 1) vs := rfl
    rw [e, ih _ _ (by simp; omega)]
    have h1 : (c.set off v).take (off + 1) = c.take off ++ [v] := by
      rw [List.take_add_one, List.getElem?_set_self (by omega), List.take_set_of_le (Nat.le_refl _)]; rfl
    have h2 : (c.set off v).drop (off + 1 + vs.length) = c.drop (off + (vs.length + 1)) := by
      rw [List.drop_set_of_lt (by omega)]; congr 1; omega
    rw [h1, h2]; simp
theorem splice_all (c vs : List AV) (h : vs.length = c.length) : splice c 0 vs = vs := by
  rw [splice_len vs c 0 (by omega)]; simp [h]
theorem frz_P (h : Heap) (b n : Nat) (e : Int) (l : List Int) (hb : h.b[b]? = some (.cells (I l))) (hn : n = l.length) : frz h 6 (.tup [.bsl b 0 n 1, .int .i64 e]) = some (.tup [.lst 0 1 (I l), .int .i64 e]) := by
  have h1 := frz_bsl h 3 b n l hb hn
  have e : frz h 6 (.tup [.bsl b 0 n 1, .int .i64 e]) = match optL [frz h 5 (.bsl b 0 n 1), frz h 5 (.int .i64 e)] with
    | some ys => some (.tup ys)
    | none => none := rfl
  rw [e, h1, frz_int]; rfl
end Go.Proofs.YthkpjbgadkkeeaaGreat
end
section
namespace Go.Proofs.YthkpjbgadkkeeaaGreat
open Go.Proofs

def vP (p : List Int × Int) : AV := .tup [vI p.1, .int .i64 p.2]
def visitE (d : Fu) (n : Int) : Int := enterE d (idxE n d.visits.length 4)
def feesP (d : Fu) (n : Int) : List Int × Int := if visitE d n = 0 then (costs d 0 n.toNat, 0) else ([], visitE d n)
theorem enterE_zero {d : Fu} {e : Int} (h : enterE d e = 0) : checkE d = 0 ∧ e = 0 ∧ someB d 0 = true := by
  unfold enterE at h
  by_cases h0 : checkE d = 0
  · rw [if_pos h0] at h
    by_cases h1 : e = 0
    · rw [if_pos h1] at h
      cases h2 : someB d 0 with
      | true => exact ⟨h0, h1, rfl⟩
      | false => rw [h2] at h; cases h
    · rw [if_neg h1] at h; exact absurd h h1
  · rw [if_neg h0] at h; exact absurd h h0
theorem idxE_zero {n below e : Int} (he : e ≠ 0) (h : idxE n below e = 0) : 0 ≤ n ∧ n < below := by
  unfold idxE at h
  cases ho : out 0 (below - 1) n with
  | true => rw [if_pos ho] at h; exact absurd h he
  | false => have := out_false ho; omega
theorem some_pos {d : Fu} {but k : Nat} (h : someB d but = true) (hk : k < d.visits.length) : costs d but k ≠ [] := by
  have h := of_decide_eq_true h
  have := firstBad_none h k (Nat.zero_le _) (by omega)
  unfold noCost at this
  intro he
  rw [if_pos he] at this
  cases this
theorem costs_len {d : Fu} (ho : d.Ok) {but k : Nat} (hk : k < d.visits.length) : (costs d but k).length ≤ 16 := by
  have hx := List.getElem?_eq_getElem hk
  have h1 := rawTo_len d but k d.visits[k] (linesN d.visits[k])
  have hvo := (ho.visit _ (List.getElem_mem hk)).line
  have hln : linesN d.visits[k] ≤ 8 := by unfold linesN; omega
  have h2 : (costs d but k).length ≤ (rawCosts d but k).length := by
    unfold costs sortD
    refine Nat.le_trans (compact_len _) ?_
    rw [List.length_mergeSort]; exact Nat.le_refl _
  have h3 : rawCosts d but k = rawTo d but k d.visits[k] (linesN d.visits[k]) := by unfold rawCosts; rw [hx]
  rw [h3] at h2
  omega
def H11 (d : Fu) (n : Int) : List ABlk := [.cells (eFc d), .none, .none, .none, .none, .none, .none, .none, .none, .none, .none, .none, .none, .cells [.int .i64 n], .cells [.int .i64 d.visits.length], .cells [.int .i64 4]]
theorem enter_idx (d : Fu) (hd : d.fits) (n below e : Int) (hb : checkE d = 0 → -1000 ≤ below ∧ below < 1000000000000000000) (b0 : Nat) (B : List ABlk) (t : List Bool) (h0 : B[b0]? = some (.cells [.int .i64 n])) (h1 : B[b0 + 1]? = some (.cells [.int .i64 below])) (h2 : B[b0 + 2]? = some (.cells [.int .i64 e])) :
    (enterE d (idxE n below e) ≠ 0 → (EW tabX).call 45 [eF d, .clo 98 [] [.ref (b0 + 1) 0, .ref b0 0, .ref (b0 + 2) 0]] ⟨B, t⟩ = some (.tup [.nilp, .int .i64 (enterE d (idxE n below e))], ⟨B, t⟩)) ∧
    (enterE d (idxE n below e) = 0 → (EW tabX).call 45 [eF d, .clo 98 [] [.ref (b0 + 1) 0, .ref b0 0, .ref (b0 + 2) 0]] ⟨B, t⟩ = some (.tup [.ref (B.length + 2) 0, .int .i64 0], ⟨HE d B, t⟩)) :=
  c50 d hd (idxE n below e) (.clo 98 [] [.ref (b0 + 1) 0, .ref b0 0, .ref (b0 + 2) 0]) B t (fun hc => by
    have := c75 n below e (hb hc) b0 (b0 + 1) (b0 + 2) (B ++ [.cells (eFc d)]) t (old h0 _) (old h1 _) (old h2 _)
    simp only [go_sem, ↓reduceIte, Nat.reduceBEq, Nat.reduceEqDiff, Nat.reduceLT, Nat.reduceLeDiff, Nat.reduceAdd, Nat.reduceMul, Nat.reduceSub, reduceCtorEq, Int.reduceLT, Int.reduceLE, Int.reduceEq, Int.reduceBEq, Int.reduceBNe, Int.reduceToNat, Int.reduceAdd, Int.reduceNeg, Int.reduceSub] at this ⊢
    exact this)
theorem c11 (d : Fu) (hd : d.fits) (n : Int) (h : Heap) : callPure (EW tabX) 34 [eF d, .int .i64 n] h = some (vP (feesP d n), h) := by
  have hcl := eF_clean d
  have hlv := hd.lv
  have h51 := c51 n d.visits.length 4 (List.take 13 (H11 d n)) (List.replicate 12 false)
  obtain ⟨hno, hyes⟩ := enter_idx d hd n d.visits.length 4 (fun _ => by omega) 13 (H11 d n) (List.replicate 12 false) rfl rfl rfl
  have hv : enterE d (idxE n d.visits.length 4) = visitE d n := rfl
  rw [hv] at hno hyes
  rw [callPure_eq, w_call _ fn_34 rfl]
  unfold feesP
  by_cases h0 : visitE d n = 0
  rotate_left
  · rw [if_neg h0]
    have hc := hno h0
    have hne : (visitE d n != 0) = true := by simpa using h0
    simp only [go_sem, ↓reduceIte, Nat.reduceBEq, Nat.reduceEqDiff, Nat.reduceLT, Nat.reduceLeDiff, Nat.reduceAdd, Nat.reduceMul, Nat.reduceSub, reduceCtorEq, Int.reduceLT, Int.reduceLE, Int.reduceEq, Int.reduceBEq, Int.reduceBNe, Int.reduceToNat, Int.reduceAdd, Int.reduceNeg, Int.reduceSub, eF, eFc, H11] at hc h51
    simp only [go_sem, ↓reduceIte, Nat.reduceBEq, Nat.reduceEqDiff, Nat.reduceLT, Nat.reduceLeDiff, Nat.reduceAdd, Nat.reduceMul, Nat.reduceSub, reduceCtorEq, Int.reduceLT, Int.reduceLE, Int.reduceEq, Int.reduceBEq, Int.reduceBNe, Int.reduceToNat, Int.reduceAdd, Int.reduceNeg, Int.reduceSub, eF, eFc, List.size_toArray, h51, hc]
    generalize hcf : okFam _ _ _ = cf
    obtain rfl : cf = true := by rw [← hcf]; kernel_rfl
    simp only [go_sem, ↓reduceIte, Nat.reduceBEq, Nat.reduceEqDiff, Nat.reduceLT, Nat.reduceLeDiff, Nat.reduceAdd, Nat.reduceMul, Nat.reduceSub, reduceCtorEq, Int.reduceLT, Int.reduceLE, Int.reduceEq, Int.reduceBEq, Int.reduceBNe, Int.reduceToNat, Int.reduceAdd, Int.reduceNeg, Int.reduceSub, hne, vP, vI]
  · rw [if_pos h0]
    have hc := hyes h0
    obtain ⟨k1, k2, k3⟩ := enterE_zero (hv.trans h0)
    obtain ⟨k4, k5⟩ := idxE_zero (by decide) k2
    have ho := ok_of_check k1
    obtain ⟨j, rfl⟩ := Int.eq_ofNat_of_zero_le k4
    have hj : j < d.visits.length := by omega
    have hcost := cost_at hd ho 0 (but := 0) (by omega) hj
    have hpos := List.length_pos_iff.2 (some_pos k3 hj)
    have hcl16 := costs_len ho (but := 0) hj
    simp only [Int.ofNat_eq_natCast, Int.toNat_natCast] at *
    simp only [go_sem, ↓reduceIte, Nat.reduceBEq, Nat.reduceEqDiff, Nat.reduceLT, Nat.reduceLeDiff, Nat.reduceAdd, Nat.reduceMul, Nat.reduceSub, reduceCtorEq, Int.reduceLT, Int.reduceLE, Int.reduceEq, Int.reduceBEq, Int.reduceBNe, Int.reduceToNat, Int.reduceAdd, Int.reduceNeg, Int.reduceSub, eF, eFc, eFs, HE, H11, cast_zero] at hc h51 hcost
    generalize costs d 0 j = l at hcost hpos hcl16 ⊢
    simp only [go_sem, ↓reduceIte, Nat.reduceBEq, Nat.reduceEqDiff, Nat.reduceLT, Nat.reduceLeDiff, Nat.reduceAdd, Nat.reduceMul, Nat.reduceSub, reduceCtorEq, Int.reduceLT, Int.reduceLE, Int.reduceEq, Int.reduceBEq, Int.reduceBNe, Int.reduceToNat, Int.reduceAdd, Int.reduceNeg, Int.reduceSub, eF, eFc, List.size_toArray, h51, hc]
    generalize hcf : okFam _ _ _ = cf
    obtain rfl : cf = true := by rw [← hcf]; kernel_rfl
    simp only [go_sem, ↓reduceIte, Nat.reduceBEq, Nat.reduceEqDiff, Nat.reduceLT, Nat.reduceLeDiff, Nat.reduceAdd, Nat.reduceMul, Nat.reduceSub, reduceCtorEq, Int.reduceLT, Int.reduceLE, Int.reduceEq, Int.reduceBEq, Int.reduceBNe, Int.reduceToNat, Int.reduceAdd, Int.reduceNeg, Int.reduceSub, hcost, vP, vI, zT_pos hpos]
    have hm : (l.length : Int) ≤ 4096 := by omega
    have hp0 : (0 : Int) ≤ l.length := by omega
    have hsp := splice_all (List.replicate l.length (AV.int .i64 0)) (I l) (by rw [I_len, List.length_replicate])
    have hrl : (List.replicate l.length (AV.int .i64 0)).length = l.length := List.length_replicate
    simp only [go_sem, ↓reduceIte, Nat.reduceBEq, Nat.reduceEqDiff, Nat.reduceLT, Nat.reduceLeDiff, Nat.reduceAdd, Nat.reduceMul, Nat.reduceSub, reduceCtorEq, Int.reduceLT, Int.reduceLE, Int.reduceEq, Int.reduceBEq, Int.reduceBNe, Int.reduceToNat, Int.reduceAdd, Int.reduceNeg, Int.reduceSub, opMakeSlice, opCopy, hm, hp0, hsp, hrl, hpos, List.take_length]
    rw [orW_none, frz_P _ 19 l.length 0 l rfl rfl]
    rfl
end Go.Proofs.YthkpjbgadkkeeaaGreat
end
section
namespace Go.Proofs.YthkpjbgadkkeeaaGreat
open Go.Proofs

structure Sd where
  k : Nat
  w : Nat
  left : Int
  ended : Bool
  paid : Bool
deriving DecidableEq
def sdK (s : Sd) : List AV := [.int .i64 (s.k : Int), .int .i64 (s.w : Int), .int .i64 s.left, .bool s.ended, .bool s.paid]
def esS (es : List (Sd × Int)) : List (AV × AV) := es.map fun e => (.agg (sdK e.1), .int .i64 e.2)
abbrev ks5 : List Nat := [0, 0, 0, 1, 1]
theorem eqSd (s u : Sd) : eqCells ks5 (sdK s) (sdK u) = some (decide (s = u)) := by
  obtain ⟨a1, a2, a3, a4, a5⟩ := s
  obtain ⟨b1, b2, b3, b4, b5⟩ := u
  simp only [sdK, eqC_0, eqC_1, eqC_nil, if_true, Option.map_some, Option.some.injEq]
  rw [Bool.eq_iff_iff]
  simp only [Bool.and_eq_true, beq_iff_eq, Bool.and_true, decide_eq_true_eq, Sd.mk.injEq]
  constructor
  · rintro ⟨h1, h2, h3, h4, h5⟩
    exact ⟨by omega, by omega, h3, h4, h5⟩
  · rintro ⟨h1, h2, h3, h4, h5⟩
    exact ⟨by omega, by omega, h3, h4, h5⟩
def look (es : List (Sd × Int)) (s : Sd) : Option Int := match es with
  | [] => none
  | e :: es => if s = e.1 then some e.2 else look es s
def ixOf (es : List (Sd × Int)) (s : Sd) : Option Nat := match es with
  | [] => none
  | e :: es => if s = e.1 then some 0 else (ixOf es s).map (· + 1)
theorem look_c (e : Sd × Int) (es : List (Sd × Int)) (s : Sd) : look (e :: es) s = if s = e.1 then some e.2 else look es s := rfl
theorem ix_c (e : Sd × Int) (es : List (Sd × Int)) (s : Sd) : ixOf (e :: es) s = if s = e.1 then some 0 else (ixOf es s).map (· + 1) := rfl
theorem lookS (s : Sd) : ∀ es : List (Sd × Int), lookAV ks5 (esS es) (sdK s) = some ((look es s).map (AV.int .i64))
  | [] => rfl
  | e :: es => by
    have h : lookAV ks5 (esS (e :: es)) (sdK s) = match eqCells ks5 (sdK s) (sdK e.1) with
      | some true => some (some (.int .i64 e.2))
      | some false => lookAV ks5 (esS es) (sdK s)
      | none => none := rfl
    rw [h, eqSd, lookS s es, look_c]
    by_cases he : s = e.1
    · rw [if_pos he, decide_eq_true he]; rfl
    · rw [if_neg he, decide_eq_false he]
theorem ixS (s : Sd) : ∀ es : List (Sd × Int), ixAV ks5 (esS es) (sdK s) = some (ixOf es s)
  | [] => rfl
  | e :: es => by
    have h : ixAV ks5 (esS (e :: es)) (sdK s) = match eqCells ks5 (sdK s) (sdK e.1) with
      | some true => some (some 0)
      | some false => (ixAV ks5 (esS es) (sdK s)).map (·.map (· + 1))
      | none => none := rfl
    rw [h, eqSd, ixS s es, ix_c]
    by_cases he : s = e.1
    · rw [if_pos he, decide_eq_true he]
    · rw [if_neg he, decide_eq_false he]; rfl
def keys (es : List (Sd × Int)) : List Sd := es.map (·.1)
theorem ix_none {s : Sd} : ∀ {es : List (Sd × Int)}, s ∉ keys es → ixOf es s = none ∧ look es s = none
  | [], _ => ⟨rfl, rfl⟩
  | e :: es, h => by
    simp only [keys, List.map_cons, List.mem_cons, not_or] at h
    obtain ⟨h1, h2⟩ := ix_none (es := es) h.2
    rw [ix_c, look_c, if_neg h.1, if_neg h.1, h1, h2]
    exact ⟨rfl, rfl⟩
theorem ix_some {s : Sd} : ∀ {es : List (Sd × Int)}, s ∈ keys es → ∃ j c, ixOf es s = some j ∧ look es s = some c ∧ es[j]? = some (s, c)
  | [], h => by cases h
  | e :: es, h => by
    rw [ix_c, look_c]
    by_cases he : s = e.1
    · rw [if_pos he, if_pos he]
      exact ⟨0, e.2, rfl, rfl, by rw [he]; rfl⟩
    · rw [if_neg he, if_neg he]
      simp only [keys, List.map_cons, List.mem_cons] at h
      rcases h with h | h
      · exact absurd h he
      · obtain ⟨j, c, h1, h2, h3⟩ := ix_some (es := es) h
        rw [h1]
        exact ⟨j + 1, c, rfl, h2, by simpa using h3⟩
theorem esS_len (es : List (Sd × Int)) : (esS es).length = es.length := by simp [esS]
theorem esS_get (es : List (Sd × Int)) (j : Nat) : (esS es)[j]? = (es[j]?).map fun e => (.agg (sdK e.1), .int .i64 e.2) := by simp [esS]
theorem esS_set (es : List (Sd × Int)) (j : Nat) (s : Sd) (c : Int) : (esS es).set j (.agg (sdK s), .int .i64 c) = esS (es.set j (s, c)) := by simp [esS, List.map_set]
theorem set_same {α : Type} {l : List α} {j : Nat} {x : α} (h : l[j]? = some x) : l.set j x = l := by
  obtain ⟨hl, e⟩ := List.getElem?_eq_some_iff.1 h
  subst e; exact List.set_getElem_self hl
def bump (es : List (Sd × Int)) (s : Sd) : List (Sd × Int) := match ixOf es s, look es s with
  | some j, some c => es.set j (s, c + 1)
  | _, _ => es ++ [(s, 1)]
theorem bump_keys (es : List (Sd × Int)) (s : Sd) : keys (bump es s) = if s ∈ keys es then keys es else keys es ++ [s] := by
  unfold bump
  by_cases h : s ∈ keys es
  · obtain ⟨j, c, h1, h2, h3⟩ := ix_some h
    rw [h1, h2, if_pos h]
    simp only [keys, List.map_set]
    exact set_same (by rw [List.getElem?_map, h3]; rfl)
  · obtain ⟨h1, h2⟩ := ix_none h
    rw [h1, h2, if_neg h]
    simp [keys]
def KOk (c : Int) (es : List (Sd × Int)) : Prop := ∀ e ∈ es, 1 ≤ e.2 ∧ e.2 ≤ c
theorem KOk_bump {c : Int} {es : List (Sd × Int)} (h : KOk c es) (hc : 0 ≤ c) (s : Sd) : KOk (c + 1) (bump es s) := by
  intro e he
  unfold bump at he
  by_cases hs : s ∈ keys es
  · obtain ⟨j, c', h1, h2, h3⟩ := ix_some hs
    rw [h1, h2] at he
    rcases List.mem_or_eq_of_mem_set he with h' | h'
    · have := h e h'; omega
    · have := h _ (List.mem_of_getElem? h3)
      rw [h']; simp only at this ⊢; omega
  · obtain ⟨h1, h2⟩ := ix_none hs
    rw [h1, h2] at he
    rcases List.mem_append.1 he with h' | h'
    · have := h e h'; omega
    · simp at h'; rw [h']; simp only; omega
def comesB (d : Fu) (k : Nat) : Bool := (match d.visits[k]? with | some v => v.sure | none => false) || d.entries.any fun x => x.visit == (k : Int)
def stepSd (s : Sd) (n : Int) : Sd := if s.ended || decide (s.left < n) then ⟨s.k + 1, s.w, s.left, true, false⟩ else ⟨s.k + 1, s.w, s.left - n, false, true⟩
def stay (s : Sd) : Sd := ⟨s.k + 1, s.w, s.left, s.ended, false⟩
def kids (d : Fu) (refused but : Nat) (s : Sd) : List Sd := match d.visits[s.k]? with
  | none => []
  | some v =>
    (if refused.testBit s.k || !s.w.testBit v.person.toNat || !comesB d s.k then [stay s] else []) ++
    (if refused.testBit s.k || !s.w.testBit v.person.toNat then [] else (costs d but s.k).map (stepSd s))
def dfsM (d : Fu) (refused but : Nat) : Nat → Sd → List Sd → List Sd
  | 0, s, M => if s ∈ M then M else M ++ [s]
  | n + 1, s, M => if s ∈ M then M else (kids d refused but s).foldl (fun M c => dfsM d refused but n c M) (M ++ [s])
def callsN : Nat → Nat
  | 0 => 1
  | n + 1 => 1 + 17 * callsN n
structure SdOk (d : Fu) (s : Sd) : Prop where
  k : s.k ≤ d.visits.length
  w : s.w < 16
  left : 0 ≤ s.left ∧ s.left ≤ 300
  pos : s.ended = true → 1 ≤ s.k
end Go.Proofs.YthkpjbgadkkeeaaGreat
end
section
namespace Go.Proofs.YthkpjbgadkkeeaaGreat
open Go.Proofs

theorem c104 (f : Nat) (fst cap : List AV) (l : List Et) (t z : Nat) (hz : l ≠ [] → z = 2) (p : Et → Bool) (h : Heap) (hl : l.length < 1000000000000000000)
   (hp : ∀ n ∈ l, callAV tabX (EW tabX) false (.clo f fst cap) [eEt n] h = some (.bool (p n), h)) :
   (EW tabX).call 182 [.lst t z (l.map eEt), .clo f fst cap] h = some (.int .i64 (if l.findIdx p < l.length then l.findIdx p else -1), h) := by
  obtain ⟨hb, ht⟩ := h
  rw [w_call _ fn_182 rfl]
  simp only [go_sem, ↓reduceIte, Nat.reduceBEq, Nat.reduceEqDiff, Nat.reduceLT, Nat.reduceLeDiff, Nat.reduceAdd, Nat.reduceMul, Nat.reduceSub, reduceCtorEq, Int.reduceLT, Int.reduceLE, Int.reduceEq, Int.reduceBEq, Int.reduceBNe, Int.reduceToNat, Int.reduceAdd, Int.reduceNeg, Int.reduceSub]
  simp only [callAV_clo] at hp
  by_cases hf : l.findIdx p < l.length
  · rw [w_rounds_u (fun k => [(8, .int .i64 k)]) (l.findIdx p) .ret [(4, .int .i64 (l.findIdx p)), (5, .int .i64 (l.findIdx p)), (8, .int .i64 (l.findIdx p))] ?_ ?_ ?_ rfl]
    · simp only [go_sem, ↓reduceIte, Nat.reduceBEq, Nat.reduceEqDiff, Nat.reduceLT, Nat.reduceLeDiff, Nat.reduceAdd, Nat.reduceMul, Nat.reduceSub, reduceCtorEq, Int.reduceLT, Int.reduceLE, Int.reduceEq, Int.reduceBEq, Int.reduceBNe, Int.reduceToNat, Int.reduceAdd, Int.reduceNeg, Int.reduceSub, hf]
    · simp only [go_sem, ↓reduceIte, Nat.reduceBEq, Nat.reduceEqDiff, Nat.reduceLT, Nat.reduceLeDiff, Nat.reduceAdd, Nat.reduceMul, Nat.reduceSub, reduceCtorEq, Int.reduceLT, Int.reduceLE, Int.reduceEq, Int.reduceBEq, Int.reduceBNe, Int.reduceToNat, Int.reduceAdd, Int.reduceNeg, Int.reduceSub]
    · intro k hk
      have hlt : k < l.length := by omega
      have hki : (k : Int) < l.length := by omega
      have hx := List.getElem?_eq_getElem hlt
      have hpx := hp l[k] (List.getElem_mem _)
      have hpf : p l[k] = false := by simpa using List.not_of_lt_findIdx hk
      have hz1 := hz (by intro e; rw [e] at hlt; simp at hlt)
      subst hz1
      rw [hpf] at hpx
      simp only [eEt] at hpx
      simp (disch := omega) only [go_sem, ↓reduceIte, Nat.reduceBEq, Nat.reduceEqDiff, Nat.reduceLT, Nat.reduceLeDiff, Nat.reduceAdd, Nat.reduceMul, Nat.reduceSub, reduceCtorEq, Int.reduceLT, Int.reduceLE, Int.reduceEq, Int.reduceBEq, Int.reduceBNe, Int.reduceToNat, Int.reduceAdd, Int.reduceNeg, Int.reduceSub, hki, hx, eEt, ↓hpx, wrap_i64]
    · have hx := List.getElem?_eq_getElem hf
      have hki : ((l.findIdx p : Nat) : Int) < l.length := by omega
      have hpx := hp l[l.findIdx p] (List.getElem_mem _)
      have hpt : p l[l.findIdx p] = true := List.findIdx_getElem
      have hz1 := hz (by intro e; rw [e] at hf; simp at hf)
      subst hz1
      rw [hpt] at hpx
      simp only [eEt] at hpx
      simp (disch := omega) only [go_sem, ↓reduceIte, Nat.reduceBEq, Nat.reduceEqDiff, Nat.reduceLT, Nat.reduceLeDiff, Nat.reduceAdd, Nat.reduceMul, Nat.reduceSub, reduceCtorEq, Int.reduceLT, Int.reduceLE, Int.reduceEq, Int.reduceBEq, Int.reduceBNe, Int.reduceToNat, Int.reduceAdd, Int.reduceNeg, Int.reduceSub, hki, hx, eEt, ↓hpx, wrap_i64]
  · have hn : l.findIdx p = l.length := by have := List.findIdx_le_length (p := p) (xs := l); omega
    rw [w_rounds_u (fun k => [(8, .int .i64 k)]) (l.length) (.exit 0) [(8, .int .i64 l.length)] ?_ ?_ ?_ rfl]
    · simp only [go_sem, ↓reduceIte, Nat.reduceBEq, Nat.reduceEqDiff, Nat.reduceLT, Nat.reduceLeDiff, Nat.reduceAdd, Nat.reduceMul, Nat.reduceSub, reduceCtorEq, Int.reduceLT, Int.reduceLE, Int.reduceEq, Int.reduceBEq, Int.reduceBNe, Int.reduceToNat, Int.reduceAdd, Int.reduceNeg, Int.reduceSub, hf]
    · simp only [go_sem, ↓reduceIte, Nat.reduceBEq, Nat.reduceEqDiff, Nat.reduceLT, Nat.reduceLeDiff, Nat.reduceAdd, Nat.reduceMul, Nat.reduceSub, reduceCtorEq, Int.reduceLT, Int.reduceLE, Int.reduceEq, Int.reduceBEq, Int.reduceBNe, Int.reduceToNat, Int.reduceAdd, Int.reduceNeg, Int.reduceSub]
    · intro k hk
      have hki : (k : Int) < l.length := by omega
      have hx := List.getElem?_eq_getElem hk
      have hpx := hp l[k] (List.getElem_mem _)
      have hpf : p l[k] = false := by simpa using List.not_of_lt_findIdx (p := p) (xs := l) (i := k) (by omega)
      have hz1 := hz (by intro e; rw [e] at hk; simp at hk)
      subst hz1
      rw [hpf] at hpx
      simp only [eEt] at hpx
      simp (disch := omega) only [go_sem, ↓reduceIte, Nat.reduceBEq, Nat.reduceEqDiff, Nat.reduceLT, Nat.reduceLeDiff, Nat.reduceAdd, Nat.reduceMul, Nat.reduceSub, reduceCtorEq, Int.reduceLT, Int.reduceLE, Int.reduceEq, Int.reduceBEq, Int.reduceBNe, Int.reduceToNat, Int.reduceAdd, Int.reduceNeg, Int.reduceSub, hki, hx, eEt, ↓hpx, wrap_i64]
    · simp (disch := omega) only [go_sem, ↓reduceIte, Nat.reduceBEq, Nat.reduceEqDiff, Nat.reduceLT, Nat.reduceLeDiff, Nat.reduceAdd, Nat.reduceMul, Nat.reduceSub, reduceCtorEq, Int.reduceLT, Int.reduceLE, Int.reduceEq, Int.reduceBEq, Int.reduceBNe, Int.reduceToNat, Int.reduceAdd, Int.reduceNeg, Int.reduceSub, Int.lt_irrefl]
theorem c89 (f : Nat) (fst cap : List AV) (l : List Et) (t z : Nat) (hz : l ≠ [] → z = 2) (p : Et → Bool) (h : Heap) (hl : l.length < 1000000000000000000)
   (hp : ∀ n ∈ l, callAV tabX (EW tabX) false (.clo f fst cap) [eEt n] h = some (.bool (p n), h)) (hc : (AV.clo f fst cap).clean = none) :
   (EW tabX).call 157 [.lst t z (l.map eEt), .clo f fst cap] h = some (.bool (l.any p), h) := by
  have h78 := c104 f fst cap l t z hz p h hl hp
  obtain ⟨hb, ht⟩ := h
  rw [w_call _ fn_157 rfl]
  simp only [go_sem, ↓reduceIte, Nat.reduceBEq, Nat.reduceEqDiff, Nat.reduceLT, Nat.reduceLeDiff, Nat.reduceAdd, Nat.reduceMul, Nat.reduceSub, reduceCtorEq, Int.reduceLT, Int.reduceLE, Int.reduceEq, Int.reduceBEq, Int.reduceBNe, Int.reduceToNat, Int.reduceAdd, Int.reduceNeg, Int.reduceSub, hc, h78, ge_iff_le, findIdx_any]


section
variable (X : Tab) {E : Eng} {L : List Nat} {all : List Oper}
noncomputable def guardM (E : Eng) (L : List Nat) (all : List Oper) (n0 : Nat × Nat) (c : Bool) (i : Nat) (d : Option Tmp) (op : Op) (r : List (Nat × Bool)) (t : Tmp) (want : Bool) (s : St) (b : Option Bool) : Option St := match b with
  | some b => if b = want then
      bindW (opAt X E (!c) (n0.1 + (all.length - 1 - i), n0.2 + i) op (setF L s.fr t (.bool want)) s.h) (fun x => runL X E L all n0 r ⟨setD L (setF L s.fr t (.bool want)) d x.1, x.2, s.ms⟩) .mk
    else runL X E L all n0 r ⟨setD L (setF L s.fr t (.bool !want)) d .und, s.h, s.ms⟩
  | none => runL X E L all n0 r ⟨setD L s.fr d .und, s.h, s.ms⟩
theorem guardM_some (n0 c i d op r t want s b) : guardM X E L all n0 c i d op r t want s (some b) = if b = want then
      bindW (opAt X E (!c) (n0.1 + (all.length - 1 - i), n0.2 + i) op (setF L s.fr t (.bool want)) s.h) (fun x => runL X E L all n0 r ⟨setD L (setF L s.fr t (.bool want)) d x.1, x.2, s.ms⟩) .mk
    else runL X E L all n0 r ⟨setD L (setF L s.fr t (.bool !want)) d .und, s.h, s.ms⟩ := _root_.id rfl
theorem guardM_none (n0 c i d op r t want s) : guardM X E L all n0 c i d op r t want s none = runL X E L all n0 r ⟨setD L s.fr d .und, s.h, s.ms⟩ := _root_.id rfl
theorem m_g (n0 : Nat × Nat) (c : Bool) (i : Nat) (d : Option Tmp) (op : Op) (ty : TypeId) (po : String) (af : Array Edge) (gi : Nat) (want : Bool) (r : List (Nat × Bool)) (s : St) :
    oneM X E L all n0 c i ⟨d, op, ty, po, af, some (gi, want)⟩ r s = bindW (guardOf all (gi, want)) (fun g => guardW (getF s.fr g.1) (guardM X E L all n0 c i d op r g.1 g.2 s) .mk) .mk := by
  simp only [oneM, oneOp, thenK_eq, setFK_eq, setDstK_eq]
  cases guardOf all (gi, want) with
  | none => rfl
  | some tw =>
    obtain ⟨t, w⟩ := tw
    simp only [bindW, Option.bind_some, guardW, guardM]
    cases getF s.fr t <;> rfl
end
attribute [go_sem] guardM_some guardM_none m_g
theorem c90 (x : Et) (b : Nat) (n : Int) (h : Heap) (hb : h.b[b]? = some (.cells [.int .i64 n])) : (EW tabX).call 158 [eEt x, .ref b 0] h = some (.bool (x.visit == n), h) := by
  obtain ⟨B, ht⟩ := h
  have h1 : B[b]? = some (.cells [.int .i64 n]) := hb
  have h2 := old h1
  rw [w_call _ fn_158 rfl]
  simp only [go_sem, ↓reduceIte, Nat.reduceBEq, Nat.reduceEqDiff, Nat.reduceLT, Nat.reduceLeDiff, Nat.reduceAdd, Nat.reduceMul, Nat.reduceSub, reduceCtorEq, Int.reduceLT, Int.reduceLE, Int.reduceEq, Int.reduceBEq, Int.reduceBNe, Int.reduceToNat, Int.reduceAdd, Int.reduceNeg, Int.reduceSub, eEt, h1, h2]
theorem c82 {d : Fu} (hd : d.fits) (ho : d.Ok) (refused but : Nat) (r : Nat) (k : Nat) (hk : k < d.visits.length) (B : List ABlk) (t : List Bool) (hr : B[r]? = some (.cells (eFs d refused but))) :
    (EW tabX).call 102 [.ref r 0, .int .i64 (k : Int)] ⟨B, t⟩ = some (.bool (comesB d k), ⟨B, t ++ List.replicate 19 false⟩) := by
  have hki : (k : Int) < d.visits.length := by omega
  have hx := List.getElem?_eq_getElem hk
  have hzv := hd.zv (by intro e; rw [e] at hk; simp at hk)
  simp only [eFs] at hr
  have oR := old hr
  rw [w_call _ fn_102 rfl]
  unfold comesB
  rw [hx]
  cases hs : d.visits[k].sure with
  | true =>
    simp only [go_sem, ↓reduceIte, Nat.reduceBEq, Nat.reduceEqDiff, Nat.reduceLT, Nat.reduceLeDiff, Nat.reduceAdd, Nat.reduceMul, Nat.reduceSub, reduceCtorEq, Int.reduceLT, Int.reduceLE, Int.reduceEq, Int.reduceBEq, Int.reduceBNe, Int.reduceToNat, Int.reduceAdd, Int.reduceNeg, Int.reduceSub, oR, hki, hx, eVi, hzv, hs, List.size_toArray]
    generalize hcf : okFam _ _ _ = cf
    obtain rfl : cf = true := by rw [← hcf]; kernel_rfl
    simp only [go_sem, ↓reduceIte, Nat.reduceBEq, Nat.reduceEqDiff, Nat.reduceLT, Nat.reduceLeDiff, Nat.reduceAdd, Nat.reduceMul, Nat.reduceSub, reduceCtorEq, Int.reduceLT, Int.reduceLE, Int.reduceEq, Int.reduceBEq, Int.reduceBNe, Int.reduceToNat, Int.reduceAdd, Int.reduceNeg, Int.reduceSub]
  | false =>
    have h89 := c89 158 [] [.ref B.length 0] d.entries 0 d.ze hd.ze (fun x => x.visit == (k : Int)) ⟨B ++ [.cells [.int .i64 (k : Int)], .none, .none, .none, .none, .none, .none, .none, .none, .none, .none, .none, .none, .none, .none, .none, .none, .none, .none, .none], t ++ [false, false, false, false, false, false, false, false, false, false, false, false, false, false, false, false, false, false, false]⟩ hd.le (fun x _ => by
      have := c90 x B.length (k : Int) ⟨B ++ [.cells [.int .i64 (k : Int)], .none, .none, .none, .none, .none, .none, .none, .none, .none, .none, .none, .none, .none, .none, .none, .none, .none, .none, .none], t ++ [false, false, false, false, false, false, false, false, false, false, false, false, false, false, false, false, false, false, false]⟩ (by simp)
      simp only [go_sem, ↓reduceIte, Nat.reduceBEq, Nat.reduceEqDiff, Nat.reduceLT, Nat.reduceLeDiff, Nat.reduceAdd, Nat.reduceMul, Nat.reduceSub, reduceCtorEq, Int.reduceLT, Int.reduceLE, Int.reduceEq, Int.reduceBEq, Int.reduceBNe, Int.reduceToNat, Int.reduceAdd, Int.reduceNeg, Int.reduceSub, eEt] at this ⊢
      exact this) (by simp only [go_sem, ↓reduceIte, Nat.reduceBEq, Nat.reduceEqDiff, Nat.reduceLT, Nat.reduceLeDiff, Nat.reduceAdd, Nat.reduceMul, Nat.reduceSub, reduceCtorEq, Int.reduceLT, Int.reduceLE, Int.reduceEq, Int.reduceBEq, Int.reduceBNe, Int.reduceToNat, Int.reduceAdd, Int.reduceNeg, Int.reduceSub])
    simp only [go_sem, ↓reduceIte, Nat.reduceBEq, Nat.reduceEqDiff, Nat.reduceLT, Nat.reduceLeDiff, Nat.reduceAdd, Nat.reduceMul, Nat.reduceSub, reduceCtorEq, Int.reduceLT, Int.reduceLE, Int.reduceEq, Int.reduceBEq, Int.reduceBNe, Int.reduceToNat, Int.reduceAdd, Int.reduceNeg, Int.reduceSub, oR, hki, hx, eVi, hzv, hs, List.size_toArray]
    generalize hcf : okFam _ _ _ = cf
    obtain rfl : cf = true := by rw [← hcf]; kernel_rfl
    simp only [go_sem, ↓reduceIte, Nat.reduceBEq, Nat.reduceEqDiff, Nat.reduceLT, Nat.reduceLeDiff, Nat.reduceAdd, Nat.reduceMul, Nat.reduceSub, reduceCtorEq, Int.reduceLT, Int.reduceLE, Int.reduceEq, Int.reduceBEq, Int.reduceBNe, Int.reduceToNat, Int.reduceAdd, Int.reduceNeg, Int.reduceSub, h89]
end Go.Proofs.YthkpjbgadkkeeaaGreat
end
section
namespace Go.Proofs.YthkpjbgadkkeeaaGreat
open Go.Proofs

theorem mem_compact {l : List Int} {x : Int} (h : x ∈ Lib.compact l) : x ∈ l := by
  unfold Lib.compact Lib.compactUpTo at h
  obtain ⟨i, hi, rfl⟩ := List.mem_map.1 h
  have hi' : i < l.length := List.mem_range.1 (List.mem_filter.1 hi).1
  simp [getElem!_pos, hi']
theorem mem_sortD {l : List Int} {x : Int} (h : x ∈ sortD l) : x ∈ l := (List.mergeSort_perm l _).subset (mem_compact h)
theorem costN_bd {d : Fu} (ho : d.Ok) {v : Vi} (hv : v.Ok d) {lines late : Int} (h1 : 1 ≤ lines ∧ lines ≤ 8) (h2 : late = 0 ∨ late = 1) : 0 ≤ costN d v lines late ∧ costN d v lines late ≤ 90 := by
  have hk := hv.kind
  have hkl : v.kind.toNat < d.lines.length := by omega
  have hb := ho.line _ (List.getElem_mem hkl)
  have e : d.lines.getD v.kind.toNat 0 = d.lines[v.kind.toNat] := by simp [hkl]
  unfold costN
  rw [e]
  have hm : lines * d.lines[v.kind.toNat] ≤ 8 * 9 := Int.mul_le_mul (by omega) hb.2 hb.1 (by omega)
  have hm0 : 0 ≤ lines * d.lines[v.kind.toNat] := Int.mul_nonneg (by omega) hb.1
  have := ho.opn
  have := ho.late
  rcases h2 with rfl | rfl <;> omega
theorem mem_okN {f : Fu} {but at' : Nat} {n x : Int} (h : x ∈ okN f but at' n) : x = n := by
  unfold okN at h
  split at h
  · simpa using h
  · cases h
theorem mem_costL1 {f : Fu} {but at' : Nat} {v : Vi} {lines late x : Int} (h : x ∈ costL1 f but at' v lines late) : x = costN f v lines late := by
  unfold costL1 at h
  split at h
  · cases h
  · exact mem_okN h
theorem mem_rawTo {f : Fu} {but at' : Nat} {v : Vi} {k : Nat} {x : Int} (h : x ∈ rawTo f but at' v k) : ∃ (i : Nat) (late : Int), i < k ∧ (late = 0 ∨ late = 1) ∧ x ∈ costL1 f but at' v (v.llo + (i : Int)) late := by
  unfold rawTo at h
  obtain ⟨i, hi, hx⟩ := List.mem_flatMap.1 h
  unfold costL2 at hx
  rcases List.mem_append.1 hx with h | h
  · exact ⟨i, 0, List.mem_range.1 hi, .inl rfl, h⟩
  · exact ⟨i, 1, List.mem_range.1 hi, .inr rfl, h⟩
theorem costs_bd {d : Fu} (ho : d.Ok) {but k : Nat} {x : Int} (h : x ∈ costs d but k) : 0 ≤ x ∧ x ≤ 90 := by
  have h := mem_sortD h
  unfold rawCosts at h
  split at h
  · rename_i v hv
    have hvo := ho.visit v (List.mem_of_getElem? hv)
    obtain ⟨i, late, hi, hl, hx⟩ := mem_rawTo h
    rw [mem_costL1 hx]
    have hln := hvo.line
    unfold linesN at hi
    exact costN_bd ho hvo (by omega) hl
  · cases h

structure Con (d : Fu) (refused but : Nat) (r hb n l : Nat) (σ : Type) where
  H : σ → List (Sd × Int) → List ABlk
  L : Nat
  st0 : σ
  stp : σ → Sd → σ
  len : ∀ s es, (H s es).length = L
  fund : ∀ s es, (H s es)[r]? = some (.cells (eFs d refused but))
  bx : ∀ s es, (H s es)[hb]? = some (.cells [.ref r 0])
  yl : ∀ s es, (H s es)[n]? = some (.cells [.yld l])
  mp : ∀ s es, (H s es)[n + 1]? = some (.map (esS es))
  mv : ∀ s es, (H s es)[n + 2]? = some (.cells [.mapr (n + 1)])
  cv : ∀ s es, (H s es)[n + 3]? = some (.cells [.clo 60 [.ref r 0] []])
  nx : ∀ s es, (H s es)[n + 4]? = some (.cells [.clo 101 [] [.ref (n + 2) 0, .ref n 0, .ref hb 0, .ref (n + 4) 0, .ref (n + 3) 0]])
  set : ∀ s es es', (H s es).set (n + 1) (.map (esS es')) = H s es'
  lt : n + 4 < L
  Inv : Nat → σ → Prop
  rnd : ∀ (k : Nat) (s : σ) (es : List (Sd × Int)) (X : List ABlk) (tb : List Bool) (x : Sd), Inv k s → k < 1000000000 → SdOk d x →
    ∃ J F, Inv (k + 1) (stp s x) ∧ stepRound tabX (EW tabX) l [.agg (sdK x)] ⟨H s es ++ X, tb⟩ = some (.bool true, ⟨H (stp s x) es ++ (X ++ J), tb ++ F⟩)
section
variable {d : Fu} {refused but r hb n l : Nat} {σ : Type} (C : Con d refused but r hb n l σ)
def Con.st (es : List (Sd × Int)) : σ := (keys es).foldl C.stp C.st0
structure Facts (Q : List ABlk) (es : List (Sd × Int)) (d : Fu) (refused but r hb n l L : Nat) : Prop where
  len : Q.length = L
  fund : ∀ X, (Q ++ X)[r]? = some (.cells (eFs d refused but))
  bx : ∀ X, (Q ++ X)[hb]? = some (.cells [.ref r 0])
  yl : ∀ X, (Q ++ X)[n]? = some (.cells [.yld l])
  mp : ∀ X, (Q ++ X)[n + 1]? = some (.map (esS es))
  mv : ∀ X, (Q ++ X)[n + 2]? = some (.cells [.mapr (n + 1)])
  cv : ∀ X, (Q ++ X)[n + 3]? = some (.cells [.clo 60 [.ref r 0] []])
  nx : ∀ X, (Q ++ X)[n + 4]? = some (.cells [.clo 101 [] [.ref (n + 2) 0, .ref n 0, .ref hb 0, .ref (n + 4) 0, .ref (n + 3) 0]])
theorem Con.facts (s : σ) (es : List (Sd × Int)) : Facts (C.H s es) es d refused but r hb n l C.L :=
  ⟨C.len s es, old (C.fund s es), old (C.bx s es), old (C.yl s es), old (C.mp s es), old (C.mv s es), old (C.cv s es), old (C.nx s es)⟩
theorem Con.setX (s : σ) (es es' : List (Sd × Int)) (X : List ABlk) : (C.H s es ++ X).set (n + 1) (.map (esS es')) = C.H s es' ++ X := by
  rw [List.set_append_left _ _ (by rw [C.len]; have := C.lt; omega), C.set]
end
end Go.Proofs.YthkpjbgadkkeeaaGreat
end
section
namespace Go.Proofs.YthkpjbgadkkeeaaGreat
open Go.Proofs

def lateI (d : Fu) (hour : Int) : Int := if d.frm ≤ hour then 1 else 0
theorem c78 (d : Fu) (hd : d.fits) (ho : d.Ok) (v : Vi) (hv : v.Ok d) (lines hour : Int) (hl : 1 ≤ lines ∧ lines ≤ 8) (h : Heap) : callPure (EW tabX) 44 [eF d, eVi v, .int .i64 lines, .int .i64 hour] h = some (.int .i64 (costN d v lines (lateI d hour)), h) := by
  have hk := hv.kind
  have hkl : v.kind.toNat < d.lines.length := by omega
  have hkx := List.getElem?_eq_getElem hkl
  have hkn : ¬ v.kind < 0 := by omega
  have hb := ho.line _ (List.getElem_mem hkl)
  have hzl := hd.zl (by intro e; rw [e] at hk; simp at hk; omega)
  have e : d.lines.getD v.kind.toNat 0 = d.lines[v.kind.toNat] := by simp [hkl]
  have hm : lines * d.lines[v.kind.toNat] ≤ 8 * 9 := Int.mul_le_mul (by omega) hb.2 hb.1 (by omega)
  have hm0 : 0 ≤ lines * d.lines[v.kind.toNat] := Int.mul_nonneg (by omega) hb.1
  have h1 := ho.opn
  have h2 := ho.late
  have hw1 : IntKind.i64.wrap (lines * d.lines[v.kind.toNat]) = lines * d.lines[v.kind.toNat] := wrap_i64 (by omega)
  have hw2 : IntKind.i64.wrap (d.opn + lines * d.lines[v.kind.toNat]) = d.opn + lines * d.lines[v.kind.toNat] := wrap_i64 (by omega)
  have hw3 : IntKind.i64.wrap (d.opn + lines * d.lines[v.kind.toNat] + d.late) = d.opn + lines * d.lines[v.kind.toNat] + d.late := wrap_i64 (by omega)
  rw [callPure_eq, w_call _ fn_44 rfl]
  unfold costN lateI
  rw [e]
  by_cases hh : d.frm ≤ hour
  · simp only [go_sem, ↓reduceIte, Nat.reduceBEq, Nat.reduceEqDiff, Nat.reduceLT, Nat.reduceLeDiff, Nat.reduceAdd, Nat.reduceMul, Nat.reduceSub, reduceCtorEq, Int.reduceLT, Int.reduceLE, Int.reduceEq, Int.reduceBEq, Int.reduceBNe, Int.reduceToNat, Int.reduceAdd, Int.reduceNeg, Int.reduceSub, eF, eFc, eVi, hk, hkn, hkx, hzl, hw1, hw2, hw3, hh, Int.one_mul]
  · simp only [go_sem, ↓reduceIte, Nat.reduceBEq, Nat.reduceEqDiff, Nat.reduceLT, Nat.reduceLeDiff, Nat.reduceAdd, Nat.reduceMul, Nat.reduceSub, reduceCtorEq, Int.reduceLT, Int.reduceLE, Int.reduceEq, Int.reduceBEq, Int.reduceBNe, Int.reduceToNat, Int.reduceAdd, Int.reduceNeg, Int.reduceSub, eF, eFc, eVi, hk, hkn, hkx, hzl, hw1, hw2, hh, Int.zero_mul, Int.add_zero]
end Go.Proofs.YthkpjbgadkkeeaaGreat
end
section
namespace Go.Proofs.YthkpjbgadkkeeaaGreat
open Go.Proofs

def loL (l : List Int) (n : Int) : List Int := l.filter fun x => decide (x < n)
def hiL (l : List Int) (n : Int) : List Int := l.filter fun x => decide (n < x)
def putL (l : List Int) (n : Int) : List Int := if n ∈ l then l else loL l n ++ [n] ++ hiL l n
theorem filter_succ {p : Int → Bool} {l : List Int} {k : Nat} {x : Int} (h : l[k]? = some x) : (l.take (k + 1)).filter p = if p x = true then (l.take k).filter p ++ [x] else (l.take k).filter p := by
  rw [List.take_add_one, h, List.filter_append]
  have e : List.filter p (some x).toList = if p x = true then [x] else [] := by simp only [Option.toList_some, List.filter_cons, List.filter_nil]
  rw [e]; split <;> simp
theorem c79 (l : List Int) (n : Int) (hl : l.length ≤ 300) (z : Nat) (hz : z = zT 1 l.length) (h : Heap) : callPure (EW tabX) 125 [.lst 0 z (I l), .int .i64 n] h = some (vI (putL l n), h) := by
  subst hz
  have hzz : l ≠ [] → zT 1 l.length = 1 := fun h => zT_pos (List.length_pos_iff.2 h)
  have h28 := c28 l n (zT 1 l.length) hzz (by omega)
  rw [callPure_eq, w_call _ fn_125 rfl]
  unfold putL
  by_cases hm : n ∈ l
  · have ha : (l.any fun x => x == n) = true := by rw [List.any_eq_true]; exact ⟨n, hm, by simp⟩
    rw [ha] at h28
    rw [if_pos hm]
    simp only [go_sem, ↓reduceIte, Nat.reduceBEq, Nat.reduceEqDiff, Nat.reduceLT, Nat.reduceLeDiff, Nat.reduceAdd, Nat.reduceMul, Nat.reduceSub, reduceCtorEq, Int.reduceLT, Int.reduceLE, Int.reduceEq, Int.reduceBEq, Int.reduceBNe, Int.reduceToNat, Int.reduceAdd, Int.reduceNeg, Int.reduceSub, h28, vI]
  · have ha : (l.any fun x => x == n) = false := by
      rw [List.any_eq_false]; intro x hx he
      exact hm ((beq_iff_eq.1 he) ▸ hx)
    rw [ha] at h28
    rw [if_neg hm]
    simp only [go_sem, ↓reduceIte, Nat.reduceBEq, Nat.reduceEqDiff, Nat.reduceLT, Nat.reduceLeDiff, Nat.reduceAdd, Nat.reduceMul, Nat.reduceSub, reduceCtorEq, Int.reduceLT, Int.reduceLE, Int.reduceEq, Int.reduceBEq, Int.reduceBNe, Int.reduceToNat, Int.reduceAdd, Int.reduceNeg, Int.reduceSub, h28]
    rw [w_rounds_h (fun k => [(5, ownT [] (loL (l.take k) n)), (6, .int .i64 (k : Int))]) (fun k => ⟨[], T [] (loL (l.take k) n).length⟩) l.length (.exit 0) [(5, ownT [] (loL l n)), (6, .int .i64 (l.length : Int))] ⟨[], T [] (loL l n).length⟩ ?_ ?_ ?_ ?_ rfl]
    · have hap := ownT_app [] (loL l n) n (by have := List.length_filter_le (fun x => decide (x < n)) l; unfold loL; omega)
      simp only [go_sem, ↓reduceIte, Nat.reduceBEq, Nat.reduceEqDiff, Nat.reduceLT, Nat.reduceLeDiff, Nat.reduceAdd, Nat.reduceMul, Nat.reduceSub, reduceCtorEq, Int.reduceLT, Int.reduceLE, Int.reduceEq, Int.reduceBEq, Int.reduceBNe, Int.reduceToNat, Int.reduceAdd, Int.reduceNeg, Int.reduceSub, hap]
      rw [w_rounds_h (fun k => [(5, ownT [] (loL l n ++ [n] ++ hiL (l.take k) n)), (7, .int .i64 (k : Int))]) (fun k => ⟨[], T [] (loL l n ++ [n] ++ hiL (l.take k) n).length⟩) l.length (.exit 2) [(5, ownT [] (loL l n ++ [n] ++ hiL l n)), (7, .int .i64 (l.length : Int))] ⟨[], T [] (loL l n ++ [n] ++ hiL l n).length⟩ ?_ ?_ ?_ ?_ rfl]
      · simp only [go_sem, ↓reduceIte, Nat.reduceBEq, Nat.reduceEqDiff, Nat.reduceLT, Nat.reduceLeDiff, Nat.reduceAdd, Nat.reduceMul, Nat.reduceSub, reduceCtorEq, Int.reduceLT, Int.reduceLE, Int.reduceEq, Int.reduceBEq, Int.reduceBNe, Int.reduceToNat, Int.reduceAdd, Int.reduceNeg, Int.reduceSub, ownT_clean, ownT_under]
      · simp only [go_sem, ↓reduceIte, Nat.reduceBEq, Nat.reduceEqDiff, Nat.reduceLT, Nat.reduceLeDiff, Nat.reduceAdd, Nat.reduceMul, Nat.reduceSub, reduceCtorEq, Int.reduceLT, Int.reduceLE, Int.reduceEq, Int.reduceBEq, Int.reduceBNe, Int.reduceToNat, Int.reduceAdd, Int.reduceNeg, Int.reduceSub, hiL, List.filter_nil]
      · simp only [go_sem, ↓reduceIte, Nat.reduceBEq, Nat.reduceEqDiff, Nat.reduceLT, Nat.reduceLeDiff, Nat.reduceAdd, Nat.reduceMul, Nat.reduceSub, reduceCtorEq, Int.reduceLT, Int.reduceLE, Int.reduceEq, Int.reduceBEq, Int.reduceBNe, Int.reduceToNat, Int.reduceAdd, Int.reduceNeg, Int.reduceSub, hiL, List.filter_nil]
      · intro k hk
        have hx := List.getElem?_eq_getElem hk
        have hki : (k : Int) < l.length := by omega
        have hz1 := hzz (by intro e; rw [e] at hk; simp at hk)
        have hw : IntKind.i64.wrap ((k : Int) + 1) = (k : Int) + 1 := wrap_i64 (by omega)
        have h1 : (loL l n).length ≤ 300 := by have := List.length_filter_le (fun x => decide (x < n)) l; unfold loL; omega
        have h2 : (hiL (l.take k) n).length ≤ 300 := by have := List.length_filter_le (fun x => decide (n < x)) (l.take k); rw [List.length_take] at this; unfold hiL; omega
        have hap := ownT_app [] (loL l n ++ [n] ++ hiL (l.take k) n) l[k] (by simp only [List.length_append, List.length_singleton]; omega) []
        have hf : hiL (l.take (k + 1)) n = if decide (n < l[k]) = true then hiL (l.take k) n ++ [l[k]] else hiL (l.take k) n := filter_succ hx
        rw [hf]
        by_cases hlt : n < l[k]
        · rw [if_pos (by simpa using hlt), ← List.append_assoc]
          generalize loL l n ++ [n] ++ hiL (l.take k) n = m at hap ⊢
          simp only [go_sem, ↓reduceIte, Nat.reduceBEq, Nat.reduceEqDiff, Nat.reduceLT, Nat.reduceLeDiff, Nat.reduceAdd, Nat.reduceMul, Nat.reduceSub, reduceCtorEq, Int.reduceLT, Int.reduceLE, Int.reduceEq, Int.reduceBEq, Int.reduceBNe, Int.reduceToNat, Int.reduceAdd, Int.reduceNeg, Int.reduceSub, hki, hx, hz1, hlt, hap, hw]
        · rw [if_neg (by simpa using hlt)]
          simp only [go_sem, ↓reduceIte, Nat.reduceBEq, Nat.reduceEqDiff, Nat.reduceLT, Nat.reduceLeDiff, Nat.reduceAdd, Nat.reduceMul, Nat.reduceSub, reduceCtorEq, Int.reduceLT, Int.reduceLE, Int.reduceEq, Int.reduceBEq, Int.reduceBNe, Int.reduceToNat, Int.reduceAdd, Int.reduceNeg, Int.reduceSub, hki, hx, hz1, hlt, hw]
      · simp only [go_sem, ↓reduceIte, Nat.reduceBEq, Nat.reduceEqDiff, Nat.reduceLT, Nat.reduceLeDiff, Nat.reduceAdd, Nat.reduceMul, Nat.reduceSub, reduceCtorEq, Int.reduceLT, Int.reduceLE, Int.reduceEq, Int.reduceBEq, Int.reduceBNe, Int.reduceToNat, Int.reduceAdd, Int.reduceNeg, Int.reduceSub, Int.lt_irrefl, List.take_length]
    · simp only [go_sem, ↓reduceIte, Nat.reduceBEq, Nat.reduceEqDiff, Nat.reduceLT, Nat.reduceLeDiff, Nat.reduceAdd, Nat.reduceMul, Nat.reduceSub, reduceCtorEq, Int.reduceLT, Int.reduceLE, Int.reduceEq, Int.reduceBEq, Int.reduceBNe, Int.reduceToNat, Int.reduceAdd, Int.reduceNeg, Int.reduceSub]; rfl
    · rfl
    · intro k hk
      have hx := List.getElem?_eq_getElem hk
      have hki : (k : Int) < l.length := by omega
      have hz1 := hzz (by intro e; rw [e] at hk; simp at hk)
      have hw : IntKind.i64.wrap ((k : Int) + 1) = (k : Int) + 1 := wrap_i64 (by omega)
      have hll : (loL (l.take k) n).length ≤ 300 := by have := List.length_filter_le (fun x => decide (x < n)) (l.take k); rw [List.length_take] at this; unfold loL; omega
      have hap := ownT_app [] (loL (l.take k) n) l[k] (by omega)
      have hf : loL (l.take (k + 1)) n = if decide (l[k] < n) = true then loL (l.take k) n ++ [l[k]] else loL (l.take k) n := filter_succ hx
      rw [hf]
      by_cases hlt : l[k] < n
      · rw [if_pos (by simpa using hlt)]
        simp only [go_sem, ↓reduceIte, Nat.reduceBEq, Nat.reduceEqDiff, Nat.reduceLT, Nat.reduceLeDiff, Nat.reduceAdd, Nat.reduceMul, Nat.reduceSub, reduceCtorEq, Int.reduceLT, Int.reduceLE, Int.reduceEq, Int.reduceBEq, Int.reduceBNe, Int.reduceToNat, Int.reduceAdd, Int.reduceNeg, Int.reduceSub, hki, hx, hz1, hlt, hap, hw]
      · rw [if_neg (by simpa using hlt)]
        simp only [go_sem, ↓reduceIte, Nat.reduceBEq, Nat.reduceEqDiff, Nat.reduceLT, Nat.reduceLeDiff, Nat.reduceAdd, Nat.reduceMul, Nat.reduceSub, reduceCtorEq, Int.reduceLT, Int.reduceLE, Int.reduceEq, Int.reduceBEq, Int.reduceBNe, Int.reduceToNat, Int.reduceAdd, Int.reduceNeg, Int.reduceSub, hki, hx, hz1, hlt, hw]
    · simp only [go_sem, ↓reduceIte, Nat.reduceBEq, Nat.reduceEqDiff, Nat.reduceLT, Nat.reduceLeDiff, Nat.reduceAdd, Nat.reduceMul, Nat.reduceSub, reduceCtorEq, Int.reduceLT, Int.reduceLE, Int.reduceEq, Int.reduceBEq, Int.reduceBNe, Int.reduceToNat, Int.reduceAdd, Int.reduceNeg, Int.reduceSub, Int.lt_irrefl, List.take_length]
end Go.Proofs.YthkpjbgadkkeeaaGreat
end
section
namespace Go.Proofs.YthkpjbgadkkeeaaGreat
open Go.Proofs

def okEn (butL : List Int) (at' : Nat) (n : Int) (i : Nat) (x : Et) : Bool := butL.any (fun y => y == (i : Int)) || x.visit != (at' : Int) || x.pence == n
def okTill (d : Fu) (butL : List Int) (at' : Nat) (n : Int) (k : Nat) : Bool := (List.range k).all fun i => match d.entries[i]? with | some x => okEn butL at' n i x | none => true
theorem okTill_succ (d : Fu) (butL : List Int) (at' : Nat) (n : Int) {k : Nat} {x : Et} (h : d.entries[k]? = some x) : okTill d butL at' n (k + 1) = (okTill d butL at' n k && okEn butL at' n k x) := by
  unfold okTill; rw [List.range_succ]; simp [h]
def hoursN (v : Vi) : Nat := (v.hhi + 1 - v.hlo).toNat
def hourTo (d : Fu) (butL : List Int) (at' : Nat) (v : Vi) (lines : Int) (l : List Int) : Nat → List Int
  | 0 => l
  | k + 1 => if okTill d butL at' (costN d v lines (lateI d (v.hlo + (k : Int)))) d.entries.length = true then putL (hourTo d butL at' v lines l k) (costN d v lines (lateI d (v.hlo + (k : Int)))) else hourTo d butL at' v lines l k
def lineTo (d : Fu) (butL : List Int) (at' : Nat) (v : Vi) : Nat → List Int
  | 0 => []
  | k + 1 => hourTo d butL at' v (v.llo + (k : Int)) (lineTo d butL at' v k) (hoursN v)
def refCosts (d : Fu) (butL : List Int) (at' : Nat) : List Int := match d.visits[at']? with | some v => lineTo d butL at' v (linesN v) | none => []
theorem putL_len (l : List Int) (n : Int) : (putL l n).length ≤ l.length + 1 := by
  unfold putL
  split
  · omega
  · have h : ∀ (l : List Int), (loL l n).length + (hiL l n).length ≤ l.length := fun l => by
      induction l with
      | nil => simp [loL, hiL]
      | cons x l ih =>
        unfold loL hiL at ih ⊢
        simp only [List.filter_cons]
        split <;> split <;> simp at * <;> omega
    have := h l
    simp only [List.length_append, List.length_singleton]; omega
theorem hourTo_len (d : Fu) (butL : List Int) (at' : Nat) (v : Vi) (lines : Int) (l : List Int) : ∀ k, (hourTo d butL at' v lines l k).length ≤ l.length + k
  | 0 => Nat.le_refl _
  | k + 1 => by
    have := hourTo_len d butL at' v lines l k
    unfold hourTo
    split
    · have := putL_len (hourTo d butL at' v lines l k) (costN d v lines (lateI d (v.hlo + (k : Int)))); omega
    · omega
theorem lineTo_len (d : Fu) (butL : List Int) (at' : Nat) (v : Vi) : ∀ k, (lineTo d butL at' v k).length ≤ hoursN v * k
  | 0 => by simp [lineTo]
  | k + 1 => by
    have := lineTo_len d butL at' v k
    unfold lineTo
    have := hourTo_len d butL at' v (v.llo + (k : Int)) (lineTo d butL at' v k) (hoursN v)
    have : hoursN v * (k + 1) = hoursN v * k + hoursN v := Nat.mul_succ _ _
    omega
end Go.Proofs.YthkpjbgadkkeeaaGreat
end
