/- Parts of the proof, joined: What small functions compute: a search in a row of numbers, and whether numbers are beyond bounds. What the tests of names compute, the program's and the reference's. A house as plain data; the loops of the program that look for the first error. What the test of a house computes: the program's. A house that comes in is one of the abstract interpreter; other arguments. What the test of a house computes: the reference's. Rows of numbers: which comes first, the same, has, lost. Small sets as numbers; rows held against each other by the library. Loops whose slots are said by a relation; slices of slices that grow. What is known of a valid house; what an agent pays, and whether books agree, by the reference. All rates that days can have, and all truths, by the reference. All truths, and what asks for them, by the reference. Regions that draw their order, operation by operation; loops whose heap is said by a relation; spans that grow. Rates of a day, by the reference. Conditions: those of each law. -/
import Derived.Test.YtaohhjaogjcfoaaQ9
import Derived.Laws.RangeString
import Derived.Laws.RangeAny
import Derived.KernelRfl
set_option linter.unusedSimpArgs false
set_option linter.unusedVariables false
section
namespace Go.Proofs.Ytaohhjaogjcfoaa
open Go.Proofs


theorem c91 (n lo hi : Int) (h : Heap) (b1 b2 : Nat) (h1 : h.b[b1]? = some (.cells [.int .i64 lo])) (h2 : h.b[b2]? = some (.cells [.int .i64 hi])) :
   (EW tabX).call 91 [.int .i64 n, .ref b1 0, .ref b2 0] h = some (.bool (decide (n < lo) || decide (hi < n)), h) := by
  obtain ⟨hb, ht⟩ := h
  rw [w_call _ fn_91 rfl]
  by_cases hn : n < lo
  · simp only [go_sem, ↓reduceIte, Nat.reduceBEq, Nat.reduceEqDiff, Nat.reduceLT, Nat.reduceLeDiff, Nat.reduceAdd, Nat.reduceMul, Nat.reduceSub, reduceCtorEq, Int.reduceLT, Int.reduceLE, Int.reduceEq, Int.reduceBEq, Int.reduceBNe, Int.reduceToNat, Int.reduceAdd, Int.reduceNeg, Int.reduceSub, h1, h2, hn, Bool.true_or]
  · simp only [go_sem, ↓reduceIte, Nat.reduceBEq, Nat.reduceEqDiff, Nat.reduceLT, Nat.reduceLeDiff, Nat.reduceAdd, Nat.reduceMul, Nat.reduceSub, reduceCtorEq, Int.reduceLT, Int.reduceLE, Int.reduceEq, Int.reduceBEq, Int.reduceBNe, Int.reduceToNat, Int.reduceAdd, Int.reduceNeg, Int.reduceSub, h1, h2, hn, Bool.false_or, gt_iff_lt]
theorem c104 (n lo hi : Int) (h : Heap) (b1 b2 : Nat) (h1 : h.b[b1]? = some (.cells [.int .i64 lo])) (h2 : h.b[b2]? = some (.cells [.int .i64 hi])) :
   (EW tabX).call 104 [.int .i64 n, .ref b1 0, .ref b2 0] h = some (.bool (decide (n < lo) || decide (hi < n)), h) := by
  obtain ⟨hb, ht⟩ := h
  rw [w_call _ fn_104 rfl]
  by_cases hn : n < lo
  · simp only [go_sem, ↓reduceIte, Nat.reduceBEq, Nat.reduceEqDiff, Nat.reduceLT, Nat.reduceLeDiff, Nat.reduceAdd, Nat.reduceMul, Nat.reduceSub, reduceCtorEq, Int.reduceLT, Int.reduceLE, Int.reduceEq, Int.reduceBEq, Int.reduceBNe, Int.reduceToNat, Int.reduceAdd, Int.reduceNeg, Int.reduceSub, h1, h2, hn, Bool.true_or]
  · simp only [go_sem, ↓reduceIte, Nat.reduceBEq, Nat.reduceEqDiff, Nat.reduceLT, Nat.reduceLeDiff, Nat.reduceAdd, Nat.reduceMul, Nat.reduceSub, reduceCtorEq, Int.reduceLT, Int.reduceLE, Int.reduceEq, Int.reduceBEq, Int.reduceBNe, Int.reduceToNat, Int.reduceAdd, Int.reduceNeg, Int.reduceSub, h1, h2, hn, Bool.false_or, gt_iff_lt]

theorem c103 (f : Nat) (fst cap : List AV) (l : List Int) (t z : Nat) (hz : l ≠ [] → z = 1) (p : Int → Bool) (h : Heap) (hl : l.length < 1000000000000000000)
   (hp : ∀ n ∈ l, callAV tabX (EW tabX) false (.clo f fst cap) [.int .i64 n] h = some (.bool (p n), h)) :
   (EW tabX).call 103 [.lst t z (I l), .clo f fst cap] h = some (.int .i64 (if l.findIdx p < l.length then l.findIdx p else -1), h) := by
  obtain ⟨hb, ht⟩ := h
  rw [w_call _ fn_103 rfl]
  simp only [go_sem, ↓reduceIte, Nat.reduceBEq, Nat.reduceEqDiff, Nat.reduceLT, Nat.reduceLeDiff, Nat.reduceAdd, Nat.reduceMul, Nat.reduceSub, reduceCtorEq, Int.reduceLT, Int.reduceLE, Int.reduceEq, Int.reduceBEq, Int.reduceBNe, Int.reduceToNat, Int.reduceAdd, Int.reduceNeg, Int.reduceSub]
  simp only [callAV_clo] at hp
  by_cases hf : l.findIdx p < l.length
  · rw [w_rounds_u (fun k => [(8, .int .i64 k)]) (l.findIdx p) .ret [(4, .int .i64 (l.findIdx p)), (5, .int .i64 (l.findIdx p)), (8, .int .i64 (l.findIdx p))] ?_ ?_ ?_ rfl]
    · simp only [go_sem, ↓reduceIte, Nat.reduceBEq, Nat.reduceEqDiff, Nat.reduceLT, Nat.reduceLeDiff, Nat.reduceAdd, Nat.reduceMul, Nat.reduceSub, reduceCtorEq, Int.reduceLT, Int.reduceLE, Int.reduceEq, Int.reduceBEq, Int.reduceBNe, Int.reduceToNat, Int.reduceAdd, Int.reduceNeg, Int.reduceSub, hf]
    · simp only [go_sem, ↓reduceIte, Nat.reduceBEq, Nat.reduceEqDiff, Nat.reduceLT, Nat.reduceLeDiff, Nat.reduceAdd, Nat.reduceMul, Nat.reduceSub, reduceCtorEq, Int.reduceLT, Int.reduceLE, Int.reduceEq, Int.reduceBEq, Int.reduceBNe, Int.reduceToNat, Int.reduceAdd, Int.reduceNeg, Int.reduceSub]
    · intro k hk
      have hlt : k < l.length := by omega
      have hki : (k : Int) < l.length := by omega
      have hx := List.getElem?_eq_getElem hlt
      have hpx := hp l[k] (List.getElem_mem _)
      have hpf : p l[k] = false := by simpa using List.not_of_lt_findIdx hk
      have hz1 := hz (by intro e; rw [e] at hlt; simp at hlt)
      subst hz1
      rw [hpf] at hpx
      simp (disch := omega) only [go_sem, ↓reduceIte, Nat.reduceBEq, Nat.reduceEqDiff, Nat.reduceLT, Nat.reduceLeDiff, Nat.reduceAdd, Nat.reduceMul, Nat.reduceSub, reduceCtorEq, Int.reduceLT, Int.reduceLE, Int.reduceEq, Int.reduceBEq, Int.reduceBNe, Int.reduceToNat, Int.reduceAdd, Int.reduceNeg, Int.reduceSub, hki, hx, ↓hpx, wrap_i64]
    · have hx := List.getElem?_eq_getElem hf
      have hki : ((l.findIdx p : Nat) : Int) < l.length := by omega
      have hpx := hp l[l.findIdx p] (List.getElem_mem _)
      have hpt : p l[l.findIdx p] = true := List.findIdx_getElem
      have hz1 := hz (by intro e; rw [e] at hf; simp at hf)
      subst hz1
      rw [hpt] at hpx
      simp (disch := omega) only [go_sem, ↓reduceIte, Nat.reduceBEq, Nat.reduceEqDiff, Nat.reduceLT, Nat.reduceLeDiff, Nat.reduceAdd, Nat.reduceMul, Nat.reduceSub, reduceCtorEq, Int.reduceLT, Int.reduceLE, Int.reduceEq, Int.reduceBEq, Int.reduceBNe, Int.reduceToNat, Int.reduceAdd, Int.reduceNeg, Int.reduceSub, hki, hx, ↓hpx, wrap_i64]
  · have hn : l.findIdx p = l.length := by have := List.findIdx_le_length (p := p) (xs := l); omega
    rw [w_rounds_u (fun k => [(8, .int .i64 k)]) (l.length) (.exit 0) [(8, .int .i64 l.length)] ?_ ?_ ?_ rfl]
    · simp only [go_sem, ↓reduceIte, Nat.reduceBEq, Nat.reduceEqDiff, Nat.reduceLT, Nat.reduceLeDiff, Nat.reduceAdd, Nat.reduceMul, Nat.reduceSub, reduceCtorEq, Int.reduceLT, Int.reduceLE, Int.reduceEq, Int.reduceBEq, Int.reduceBNe, Int.reduceToNat, Int.reduceAdd, Int.reduceNeg, Int.reduceSub, hf]
    · simp only [go_sem, ↓reduceIte, Nat.reduceBEq, Nat.reduceEqDiff, Nat.reduceLT, Nat.reduceLeDiff, Nat.reduceAdd, Nat.reduceMul, Nat.reduceSub, reduceCtorEq, Int.reduceLT, Int.reduceLE, Int.reduceEq, Int.reduceBEq, Int.reduceBNe, Int.reduceToNat, Int.reduceAdd, Int.reduceNeg, Int.reduceSub]
    · intro k hk
      have hki : (k : Int) < l.length := by omega
      have hx := List.getElem?_eq_getElem hk
      have hpx := hp l[k] (List.getElem_mem _)
      have hpf : p l[k] = false := by simpa using List.not_of_lt_findIdx (p := p) (xs := l) (i := k) (by omega)
      have hz1 := hz (by intro e; rw [e] at hk; simp at hk)
      subst hz1
      rw [hpf] at hpx
      simp (disch := omega) only [go_sem, ↓reduceIte, Nat.reduceBEq, Nat.reduceEqDiff, Nat.reduceLT, Nat.reduceLeDiff, Nat.reduceAdd, Nat.reduceMul, Nat.reduceSub, reduceCtorEq, Int.reduceLT, Int.reduceLE, Int.reduceEq, Int.reduceBEq, Int.reduceBNe, Int.reduceToNat, Int.reduceAdd, Int.reduceNeg, Int.reduceSub, hki, hx, ↓hpx, wrap_i64]
    · simp (disch := omega) only [go_sem, ↓reduceIte, Nat.reduceBEq, Nat.reduceEqDiff, Nat.reduceLT, Nat.reduceLeDiff, Nat.reduceAdd, Nat.reduceMul, Nat.reduceSub, reduceCtorEq, Int.reduceLT, Int.reduceLE, Int.reduceEq, Int.reduceBEq, Int.reduceBNe, Int.reduceToNat, Int.reduceAdd, Int.reduceNeg, Int.reduceSub, Int.lt_irrefl]

theorem findIdx_any {α : Type} (l : List α) (p : α → Bool) : decide ((0 : Int) ≤ if l.findIdx p < l.length then (l.findIdx p : Int) else -1) = l.any p := by
  by_cases h : l.findIdx p < l.length
  · rw [if_pos h]
    have : l.any p = true := List.any_eq_true.2 (by have := List.findIdx_lt_length.1 h; simpa using this)
    rw [this]; simp
  · rw [if_neg h]
    have : l.any p = false := by
      cases hh : l.any p with
      | false => rfl
      | true => exact absurd (List.findIdx_lt_length.2 (by simpa using List.any_eq_true.1 hh)) h
    rw [this]; rfl
theorem c90 (f : Nat) (fst cap : List AV) (l : List Int) (t z : Nat) (hz : l ≠ [] → z = 1) (p : Int → Bool) (h : Heap) (hl : l.length < 1000000000000000000)
   (hp : ∀ n ∈ l, callAV tabX (EW tabX) false (.clo f fst cap) [.int .i64 n] h = some (.bool (p n), h)) (hc : (AV.clo f fst cap).clean = none) :
   (EW tabX).call 90 [.lst t z (I l), .clo f fst cap] h = some (.bool (l.any p), h) := by
  have h78 := c103 f fst cap l t z hz p h hl hp
  obtain ⟨hb, ht⟩ := h
  rw [w_call _ fn_90 rfl]
  simp only [go_sem, ↓reduceIte, Nat.reduceBEq, Nat.reduceEqDiff, Nat.reduceLT, Nat.reduceLeDiff, Nat.reduceAdd, Nat.reduceMul, Nat.reduceSub, reduceCtorEq, Int.reduceLT, Int.reduceLE, Int.reduceEq, Int.reduceBEq, Int.reduceBNe, Int.reduceToNat, Int.reduceAdd, Int.reduceNeg, Int.reduceSub, hc, h78, ge_iff_le, findIdx_any]

def out (lo hi n : Int) : Bool := decide (n < lo) || decide (hi < n)
theorem c49 (lo hi : Int) (l : List Int) (z : Nat) (hz : l ≠ [] → z = 1) (h : Heap) (hl : l.length < 1000000000000000000) :
   callPure (EW tabX) 49 [.int .i64 lo, .int .i64 hi, .lst 0 z (I l)] h = some (.bool (l.any (out lo hi)), h) := by
  have h68 := c90 91 [] [.ref 0 0, .ref 1 0] l 0 z hz (out lo hi) ⟨[.cells [.int .i64 lo], .cells [.int .i64 hi]], []⟩ hl (fun n _ => by
    have := c91 n lo hi ⟨[.cells [.int .i64 lo], .cells [.int .i64 hi]], []⟩ 0 1 rfl rfl
    simp only [go_sem, ↓reduceIte, Nat.reduceBEq, Nat.reduceEqDiff, Nat.reduceLT, Nat.reduceLeDiff, Nat.reduceAdd, Nat.reduceMul, Nat.reduceSub, reduceCtorEq, Int.reduceLT, Int.reduceLE, Int.reduceEq, Int.reduceBEq, Int.reduceBNe, Int.reduceToNat, Int.reduceAdd, Int.reduceNeg, Int.reduceSub, this]; rfl) (by simp only [go_sem, ↓reduceIte, Nat.reduceBEq, Nat.reduceEqDiff, Nat.reduceLT, Nat.reduceLeDiff, Nat.reduceAdd, Nat.reduceMul, Nat.reduceSub, reduceCtorEq, Int.reduceLT, Int.reduceLE, Int.reduceEq, Int.reduceBEq, Int.reduceBNe, Int.reduceToNat, Int.reduceAdd, Int.reduceNeg, Int.reduceSub])
  refine pure_of (v := .bool (l.any (out lo hi))) (h1 := ⟨[], []⟩) ?_ (clean_bool _)
  rw [w_call _ fn_49 rfl]
  simp only [go_sem, ↓reduceIte, Nat.reduceBEq, Nat.reduceEqDiff, Nat.reduceLT, Nat.reduceLeDiff, Nat.reduceAdd, Nat.reduceMul, Nat.reduceSub, reduceCtorEq, Int.reduceLT, Int.reduceLE, Int.reduceEq, Int.reduceBEq, Int.reduceBNe, Int.reduceToNat, Int.reduceAdd, Int.reduceNeg, Int.reduceSub, h68]
theorem c49_1 (lo hi x : Int) (h : Heap) : callPure (EW tabX) 49 [.int .i64 lo, .int .i64 hi, .lst 0 1 [.int .i64 x]] h = some (.bool (out lo hi x), h) := by
  have := c49 lo hi [x] 1 (fun _ => rfl) h (by simp)
  simpa only [I_c, I_nil, List.any_cons, List.any_nil, Bool.or_false] using this
theorem c49_2 (lo hi x y : Int) (h : Heap) : callPure (EW tabX) 49 [.int .i64 lo, .int .i64 hi, .lst 0 1 [.int .i64 x, .int .i64 y]] h = some (.bool (out lo hi x || out lo hi y), h) := by
  have := c49 lo hi [x, y] 1 (fun _ => rfl) h (by simp)
  simpa only [I_c, I_nil, List.any_cons, List.any_nil, Bool.or_false] using this
end Go.Proofs.Ytaohhjaogjcfoaa
end
section
namespace Go.Proofs.Ytaohhjaogjcfoaa
open Go.Proofs

def inR (n lo hi : Int) : Bool := decide (lo ≤ n) && decide (n ≤ hi)
theorem c46 (n lo hi : Int) (h : Heap) : callPure (EW tabX) 46 [.int .i64 n, .int .i64 lo, .int .i64 hi] h = some (.bool (inR n lo hi), h) := by
  refine pure_of (v := .bool (inR n lo hi)) (h1 := ⟨[], []⟩) ?_ (clean_bool _)
  rw [w_call _ fn_46 rfl]
  simp only [go_sem, ↓reduceIte, Nat.reduceBEq, Nat.reduceEqDiff, Nat.reduceLT, Nat.reduceLeDiff, Nat.reduceAdd, Nat.reduceMul, Nat.reduceSub, reduceCtorEq, Int.reduceLT, Int.reduceLE, Int.reduceEq, Int.reduceBEq, Int.reduceBNe, Int.reduceToNat, Int.reduceAdd, Int.reduceNeg, Int.reduceSub]
  rfl
theorem out_not (lo hi n : Int) : (!out lo hi n) = inR n lo hi := by
  unfold out inR
  rw [Bool.eq_iff_iff]; simp

def chOk (i : Nat) (b : Int) : Bool := inR b 97 122 || (decide (0 < (i : Int)) && (b == 46 || inR b 48 57))
def chAt (s : ByteArray) (i : Nat) : Bool := match s[i]? with | some b => chOk i b.toNat | none => false
def okTo (s : ByteArray) (n : Nat) : Bool := (List.range n).all (chAt s)
def nameOk (s : ByteArray) : Bool := inR s.size 1 16 && okTo s s.size
theorem okTo_succ (s : ByteArray) (n : Nat) : okTo s (n + 1) = (okTo s n && chAt s n) := by simp [okTo, List.range_succ]
theorem okTo_zero (s : ByteArray) : okTo s 0 = true := rfl

theorem c95 (s : ByteArray) (hs : s.size < 1000000000000000000) (h : Heap) : callPure (EW tabX) 95 [.str s] h = some (.bool (nameOk s), h) := by
  refine pure_of (v := .bool (nameOk s)) (h1 := ⟨[], []⟩) ?_ (clean_bool _)
  rw [w_call _ fn_95 rfl]
  simp only [go_sem, ↓reduceIte, Nat.reduceBEq, Nat.reduceEqDiff, Nat.reduceLT, Nat.reduceLeDiff, Nat.reduceAdd, Nat.reduceMul, Nat.reduceSub, reduceCtorEq, Int.reduceLT, Int.reduceLE, Int.reduceEq, Int.reduceBEq, Int.reduceBNe, Int.reduceToNat, Int.reduceAdd, Int.reduceNeg, Int.reduceSub, c46]
  rw [w_rounds_u (fun k => [(3, .bool (inR s.size 1 16 && okTo s k)), (4, .int .i64 k)]) s.size (.exit 0) [(3, .bool (inR s.size 1 16 && okTo s s.size)), (4, .int .i64 s.size)] ?_ ?_ ?_ rfl]
  · simp only [go_sem, ↓reduceIte, Nat.reduceBEq, Nat.reduceEqDiff, Nat.reduceLT, Nat.reduceLeDiff, Nat.reduceAdd, Nat.reduceMul, Nat.reduceSub, reduceCtorEq, Int.reduceLT, Int.reduceLE, Int.reduceEq, Int.reduceBEq, Int.reduceBNe, Int.reduceToNat, Int.reduceAdd, Int.reduceNeg, Int.reduceSub, nameOk]
  · simp only [go_sem, ↓reduceIte, Nat.reduceBEq, Nat.reduceEqDiff, Nat.reduceLT, Nat.reduceLeDiff, Nat.reduceAdd, Nat.reduceMul, Nat.reduceSub, reduceCtorEq, Int.reduceLT, Int.reduceLE, Int.reduceEq, Int.reduceBEq, Int.reduceBNe, Int.reduceToNat, Int.reduceAdd, Int.reduceNeg, Int.reduceSub, okTo_zero]
  · intro k hk
    have hki : (k : Int) < s.size := by omega
    have hx : s[k]? = some s[k] := by simp [hk]
    have hb : (s[k].toNat : Int) < 256 := by have := s[k].toNat_lt; omega
    have hc : chAt s k = chOk k s[k].toNat := by simp [chAt, hk]
    simp (disch := omega) only [go_sem, ↓reduceIte, Nat.reduceBEq, Nat.reduceEqDiff, Nat.reduceLT, Nat.reduceLeDiff, Nat.reduceAdd, Nat.reduceMul, Nat.reduceSub, reduceCtorEq, Int.reduceLT, Int.reduceLE, Int.reduceEq, Int.reduceBEq, Int.reduceBNe, Int.reduceToNat, Int.reduceAdd, Int.reduceNeg, Int.reduceSub, hki, hx, c46, wrap_i64, okTo_succ, hc, chOk]
  · simp (disch := omega) only [go_sem, ↓reduceIte, Nat.reduceBEq, Nat.reduceEqDiff, Nat.reduceLT, Nat.reduceLeDiff, Nat.reduceAdd, Nat.reduceMul, Nat.reduceSub, reduceCtorEq, Int.reduceLT, Int.reduceLE, Int.reduceEq, Int.reduceBEq, Int.reduceBNe, Int.reduceToNat, Int.reduceAdd, Int.reduceNeg, Int.reduceSub, Int.lt_irrefl]
theorem okTo_false {s : ByteArray} : ∀ {n : Nat}, okTo s n = false → ∃ k, k < n ∧ okTo s k = true ∧ chAt s k = false
  | 0, h => by simp [okTo] at h
  | n + 1, h => by
    cases h1 : okTo s n with
    | false => obtain ⟨k, a, b⟩ := okTo_false h1; exact ⟨k, by omega, b⟩
    | true => rw [okTo_succ, h1] at h; exact ⟨n, by omega, h1, by simpa using h⟩
theorem okTo_at {s : ByteArray} {n k : Nat} (h : okTo s n = true) (hk : k < n) : chAt s k = true := by
  unfold okTo at h
  rw [List.all_eq_true] at h
  exact h k (by simpa using hk)
theorem c104b (l : List Int) (z : Nat) (hz : l ≠ [] → z = 1) (lo hi : Int) (h : Heap) (hl : l.length < 1000000000000000000) :
   callPure (EW tabX) 92 [.int .i64 lo, .int .i64 hi, .lst 0 z (I l)] h = some (.bool (l.any (out lo hi)), h) := by
  have h68 := c90 104 [] [.ref 0 0, .ref 1 0] l 0 z hz (out lo hi) ⟨[.cells [.int .i64 lo], .cells [.int .i64 hi]], []⟩ hl (fun n _ => by
    have := c104 n lo hi ⟨[.cells [.int .i64 lo], .cells [.int .i64 hi]], []⟩ 0 1 rfl rfl
    simp only [go_sem, ↓reduceIte, Nat.reduceBEq, Nat.reduceEqDiff, Nat.reduceLT, Nat.reduceLeDiff, Nat.reduceAdd, Nat.reduceMul, Nat.reduceSub, reduceCtorEq, Int.reduceLT, Int.reduceLE, Int.reduceEq, Int.reduceBEq, Int.reduceBNe, Int.reduceToNat, Int.reduceAdd, Int.reduceNeg, Int.reduceSub, this]; rfl) (by simp only [go_sem, ↓reduceIte, Nat.reduceBEq, Nat.reduceEqDiff, Nat.reduceLT, Nat.reduceLeDiff, Nat.reduceAdd, Nat.reduceMul, Nat.reduceSub, reduceCtorEq, Int.reduceLT, Int.reduceLE, Int.reduceEq, Int.reduceBEq, Int.reduceBNe, Int.reduceToNat, Int.reduceAdd, Int.reduceNeg, Int.reduceSub])
  refine pure_of (v := .bool (l.any (out lo hi))) (h1 := ⟨[], []⟩) ?_ (clean_bool _)
  rw [w_call _ fn_92 rfl]
  simp only [go_sem, ↓reduceIte, Nat.reduceBEq, Nat.reduceEqDiff, Nat.reduceLT, Nat.reduceLeDiff, Nat.reduceAdd, Nat.reduceMul, Nat.reduceSub, reduceCtorEq, Int.reduceLT, Int.reduceLE, Int.reduceEq, Int.reduceBEq, Int.reduceBNe, Int.reduceToNat, Int.reduceAdd, Int.reduceNeg, Int.reduceSub, h68]
theorem c92_1 (lo hi x : Int) (h : Heap) : callPure (EW tabX) 92 [.int .i64 lo, .int .i64 hi, .lst 0 1 [.int .i64 x]] h = some (.bool (out lo hi x), h) := by
  have := c104b [x] 1 (fun _ => rfl) lo hi h (by simp)
  simpa only [I_c, I_nil, List.any_cons, List.any_nil, Bool.or_false] using this

theorem test_eq (k b : Nat) : (!(decide (97 ≤ (b : Int)) && decide ((b : Int) ≤ 122)) && ((k : Int) == 0 || (b : Int) != 46 && (decide ((b : Int) < 48) || decide (57 < (b : Int))))) = !chOk k b := by
  unfold chOk inR
  rw [Bool.eq_iff_iff]
  simp only [Bool.and_eq_true, Bool.or_eq_true, Bool.not_eq_true', Bool.and_eq_false_iff, Bool.or_eq_false_iff, decide_eq_true_eq, decide_eq_false_iff_not, beq_iff_eq, bne_iff_ne, beq_eq_false_iff_ne, ne_eq]
  omega
theorem chOk_high (k b : Nat) (h : 128 ≤ b) : chOk k b = false := by
  cases hc : chOk k b with
  | false => rfl
  | true => simp [chOk, inR] at hc; omega

theorem c54 (s : ByteArray) (hs : s.size < 1000000000000000000) (h : Heap) : callPure (EW tabX) 54 [.str s] h = some (.bool (nameOk s), h) := by
  refine pure_of (v := .bool (nameOk s)) (h1 := ⟨[], []⟩) ?_ (clean_bool _)
  rw [w_call _ fn_54 rfl]
  simp only [go_sem, ↓reduceIte, Nat.reduceBEq, Nat.reduceEqDiff, Nat.reduceLT, Nat.reduceLeDiff, Nat.reduceAdd, Nat.reduceMul, Nat.reduceSub, reduceCtorEq, Int.reduceLT, Int.reduceLE, Int.reduceEq, Int.reduceBEq, Int.reduceBNe, Int.reduceToNat, Int.reduceAdd, Int.reduceNeg, Int.reduceSub]
  have round : ∀ k, (hk : k < s.size) → chOk k s[k].toNat = true → Utf8.decode s k = (s[k].toNat, 1) := fun k hk hc =>
    decode_ascii s k hk (by simp [chOk, inR] at hc; omega)
  cases ho : okTo s s.size with
  | true =>
    rw [w_rounds_h (fun k => []) (fun k => ⟨[.siter s k], []⟩) s.size (.exit 0) [(8, .tup [.bool false])] ⟨[.siter s s.size], []⟩ ?_ ?_ ?_ ?_ rfl]
    · simp only [go_sem, ↓reduceIte, Nat.reduceBEq, Nat.reduceEqDiff, Nat.reduceLT, Nat.reduceLeDiff, Nat.reduceAdd, Nat.reduceMul, Nat.reduceSub, reduceCtorEq, Int.reduceLT, Int.reduceLE, Int.reduceEq, Int.reduceBEq, Int.reduceBNe, Int.reduceToNat, Int.reduceAdd, Int.reduceNeg, Int.reduceSub, nameOk, c92_1, out_not, ho]
    · simp only [go_sem, ↓reduceIte, Nat.reduceBEq, Nat.reduceEqDiff, Nat.reduceLT, Nat.reduceLeDiff, Nat.reduceAdd, Nat.reduceMul, Nat.reduceSub, reduceCtorEq, Int.reduceLT, Int.reduceLE, Int.reduceEq, Int.reduceBEq, Int.reduceBNe, Int.reduceToNat, Int.reduceAdd, Int.reduceNeg, Int.reduceSub]
    · simp only [go_sem, ↓reduceIte, Nat.reduceBEq, Nat.reduceEqDiff, Nat.reduceLT, Nat.reduceLeDiff, Nat.reduceAdd, Nat.reduceMul, Nat.reduceSub, reduceCtorEq, Int.reduceLT, Int.reduceLE, Int.reduceEq, Int.reduceBEq, Int.reduceBNe, Int.reduceToNat, Int.reduceAdd, Int.reduceNeg, Int.reduceSub]
    · intro k hk
      have hc : chAt s k = true := okTo_at ho hk
      have hc : chOk k s[k].toNat = true := by simpa [chAt, hk] using hc
      have hd := round k hk hc
      simp only [go_sem, ↓reduceIte, Nat.reduceBEq, Nat.reduceEqDiff, Nat.reduceLT, Nat.reduceLeDiff, Nat.reduceAdd, Nat.reduceMul, Nat.reduceSub, reduceCtorEq, Int.reduceLT, Int.reduceLE, Int.reduceEq, Int.reduceBEq, Int.reduceBNe, Int.reduceToNat, Int.reduceAdd, Int.reduceNeg, Int.reduceSub, hk, hd, test_eq, hc]
    · simp only [go_sem, ↓reduceIte, Nat.reduceBEq, Nat.reduceEqDiff, Nat.reduceLT, Nat.reduceLeDiff, Nat.reduceAdd, Nat.reduceMul, Nat.reduceSub, reduceCtorEq, Int.reduceLT, Int.reduceLE, Int.reduceEq, Int.reduceBEq, Int.reduceBNe, Int.reduceToNat, Int.reduceAdd, Int.reduceNeg, Int.reduceSub, Nat.lt_irrefl]
  | false =>
    obtain ⟨n, hn, h1, h2⟩ := okTo_false ho
    have h2 : chOk n s[n].toNat = false := by simpa [chAt, hn] using h2
    have hv : ∃ b w, Utf8.decode s n = (b, w) ∧ chOk n b = false := by
      by_cases hb : s[n].toNat < 128
      · exact ⟨_, _, decode_ascii s n hn hb, h2⟩
      · exact ⟨_, _, rfl, chOk_high _ _ (decode_high s n hn (by omega)).1⟩
    obtain ⟨b, w, hd, hb⟩ := hv
    rw [w_rounds_h (fun k => []) (fun k => ⟨[.siter s k], []⟩) n .ret [(3, .int .i64 n), (4, .int .i32 b), (5, .bool (inR b 97 122)), (8, .tup [.bool true, .int .i64 n, .int .i32 b])] ⟨[.siter s (n + w)], []⟩ ?_ ?_ ?_ ?_ rfl]
    · simp only [go_sem, ↓reduceIte, Nat.reduceBEq, Nat.reduceEqDiff, Nat.reduceLT, Nat.reduceLeDiff, Nat.reduceAdd, Nat.reduceMul, Nat.reduceSub, reduceCtorEq, Int.reduceLT, Int.reduceLE, Int.reduceEq, Int.reduceBEq, Int.reduceBNe, Int.reduceToNat, Int.reduceAdd, Int.reduceNeg, Int.reduceSub, nameOk, ho]
    · simp only [go_sem, ↓reduceIte, Nat.reduceBEq, Nat.reduceEqDiff, Nat.reduceLT, Nat.reduceLeDiff, Nat.reduceAdd, Nat.reduceMul, Nat.reduceSub, reduceCtorEq, Int.reduceLT, Int.reduceLE, Int.reduceEq, Int.reduceBEq, Int.reduceBNe, Int.reduceToNat, Int.reduceAdd, Int.reduceNeg, Int.reduceSub]
    · simp only [go_sem, ↓reduceIte, Nat.reduceBEq, Nat.reduceEqDiff, Nat.reduceLT, Nat.reduceLeDiff, Nat.reduceAdd, Nat.reduceMul, Nat.reduceSub, reduceCtorEq, Int.reduceLT, Int.reduceLE, Int.reduceEq, Int.reduceBEq, Int.reduceBNe, Int.reduceToNat, Int.reduceAdd, Int.reduceNeg, Int.reduceSub]
    · intro k hk
      have hk' : k < s.size := by omega
      have hc : chAt s k = true := okTo_at h1 hk
      have hc : chOk k s[k].toNat = true := by simpa [chAt, hk'] using hc
      have hd := round k hk' hc
      simp only [go_sem, ↓reduceIte, Nat.reduceBEq, Nat.reduceEqDiff, Nat.reduceLT, Nat.reduceLeDiff, Nat.reduceAdd, Nat.reduceMul, Nat.reduceSub, reduceCtorEq, Int.reduceLT, Int.reduceLE, Int.reduceEq, Int.reduceBEq, Int.reduceBNe, Int.reduceToNat, Int.reduceAdd, Int.reduceNeg, Int.reduceSub, hk', hd, test_eq, hc]
    · simp only [go_sem, ↓reduceIte, Nat.reduceBEq, Nat.reduceEqDiff, Nat.reduceLT, Nat.reduceLeDiff, Nat.reduceAdd, Nat.reduceMul, Nat.reduceSub, reduceCtorEq, Int.reduceLT, Int.reduceLE, Int.reduceEq, Int.reduceBEq, Int.reduceBNe, Int.reduceToNat, Int.reduceAdd, Int.reduceNeg, Int.reduceSub, hn, hd, test_eq, hb, inR]
end Go.Proofs.Ytaohhjaogjcfoaa
end
section
namespace Go.Proofs.Ytaohhjaogjcfoaa
open Go.Proofs

structure Ag where
  name : ByteArray
  fee : Int
  round : Int
structure En where
  agent : Int
  day : Int
  near : Int
  far : Int
structure Ho where
  days : Int
  rates : List (Int × Int)
  step : Int
  agents : List Ag
  entries : List En
  zr : Nat
  za : Nat
  ze : Nat
def eSp (s : Int × Int) : AV := .agg [.int .i64 s.1, .int .i64 s.2]
def eAg (a : Ag) : AV := .agg [.str a.name, .int .i64 a.fee, .int .i64 a.round]
def eEn (x : En) : AV := .agg [.int .i64 x.agent, .int .i64 x.day, .int .i64 x.near, .int .i64 x.far]
def eHc (h : Ho) : List AV := [.int .i64 h.days, .lst 0 h.zr (h.rates.map eSp), .int .i64 h.step, .lst 0 h.za (h.agents.map eAg), .lst 0 h.ze (h.entries.map eEn)]
def eH (h : Ho) : AV := .agg (eHc h)
def bSp (s : Int × Int) : ABlk := .cells [.int .i64 s.1, .int .i64 s.2]
def bAg (a : Ag) : ABlk := .cells [.str a.name, .int .i64 a.fee, .int .i64 a.round]
def bEn (x : En) : ABlk := .cells [.int .i64 x.agent, .int .i64 x.day, .int .i64 x.near, .int .i64 x.far]
theorem eSp_get (l : List (Int × Int)) (k : Nat) : (l.map eSp)[k]? = (l[k]?).map eSp := by simp
theorem eAg_get (l : List Ag) (k : Nat) : (l.map eAg)[k]? = (l[k]?).map eAg := by simp
theorem eEn_get (l : List En) (k : Nat) : (l.map eEn)[k]? = (l[k]?).map eEn := by simp
theorem eSp_clean (l : List (Int × Int)) : cleanL (l.map eSp) = some (l.map eSp) := cleanL_map (fun x => by simp only [eSp, go_sem, ↓reduceIte, Nat.reduceBEq, Nat.reduceEqDiff, Nat.reduceLT, Nat.reduceLeDiff, Nat.reduceAdd, Nat.reduceMul, Nat.reduceSub, reduceCtorEq, Int.reduceLT, Int.reduceLE, Int.reduceEq, Int.reduceBEq, Int.reduceBNe, Int.reduceToNat, Int.reduceAdd, Int.reduceNeg, Int.reduceSub]) l
theorem eAg_clean (l : List Ag) : cleanL (l.map eAg) = some (l.map eAg) := cleanL_map (fun x => by simp only [eAg, go_sem, ↓reduceIte, Nat.reduceBEq, Nat.reduceEqDiff, Nat.reduceLT, Nat.reduceLeDiff, Nat.reduceAdd, Nat.reduceMul, Nat.reduceSub, reduceCtorEq, Int.reduceLT, Int.reduceLE, Int.reduceEq, Int.reduceBEq, Int.reduceBNe, Int.reduceToNat, Int.reduceAdd, Int.reduceNeg, Int.reduceSub]) l
theorem eEn_clean (l : List En) : cleanL (l.map eEn) = some (l.map eEn) := cleanL_map (fun x => by simp only [eEn, go_sem, ↓reduceIte, Nat.reduceBEq, Nat.reduceEqDiff, Nat.reduceLT, Nat.reduceLeDiff, Nat.reduceAdd, Nat.reduceMul, Nat.reduceSub, reduceCtorEq, Int.reduceLT, Int.reduceLE, Int.reduceEq, Int.reduceBEq, Int.reduceBNe, Int.reduceToNat, Int.reduceAdd, Int.reduceNeg, Int.reduceSub]) l
theorem eSp_under (n : Nat) (l : List (Int × Int)) : underL n (l.map eSp) = true := underL_map (fun x => by simp only [eSp, go_sem, ↓reduceIte, Nat.reduceBEq, Nat.reduceEqDiff, Nat.reduceLT, Nat.reduceLeDiff, Nat.reduceAdd, Nat.reduceMul, Nat.reduceSub, reduceCtorEq, Int.reduceLT, Int.reduceLE, Int.reduceEq, Int.reduceBEq, Int.reduceBNe, Int.reduceToNat, Int.reduceAdd, Int.reduceNeg, Int.reduceSub]) l
theorem eAg_under (n : Nat) (l : List Ag) : underL n (l.map eAg) = true := underL_map (fun x => by simp only [eAg, go_sem, ↓reduceIte, Nat.reduceBEq, Nat.reduceEqDiff, Nat.reduceLT, Nat.reduceLeDiff, Nat.reduceAdd, Nat.reduceMul, Nat.reduceSub, reduceCtorEq, Int.reduceLT, Int.reduceLE, Int.reduceEq, Int.reduceBEq, Int.reduceBNe, Int.reduceToNat, Int.reduceAdd, Int.reduceNeg, Int.reduceSub]) l
theorem eEn_under (n : Nat) (l : List En) : underL n (l.map eEn) = true := underL_map (fun x => by simp only [eEn, go_sem, ↓reduceIte, Nat.reduceBEq, Nat.reduceEqDiff, Nat.reduceLT, Nat.reduceLeDiff, Nat.reduceAdd, Nat.reduceMul, Nat.reduceSub, reduceCtorEq, Int.reduceLT, Int.reduceLE, Int.reduceEq, Int.reduceBEq, Int.reduceBNe, Int.reduceToNat, Int.reduceAdd, Int.reduceNeg, Int.reduceSub]) l
theorem eSp_var (l : List (Int × Int)) : (l.map eSp).all AV.var = true := all_map (fun _ => rfl) l
theorem eAg_var (l : List Ag) : (l.map eAg).all AV.var = true := all_map (fun _ => rfl) l
theorem eEn_var (l : List En) : (l.map eEn).all AV.var = true := all_map (fun _ => rfl) l
attribute [go_sem] eSp_get eAg_get eEn_get eSp_clean eAg_clean eEn_clean eSp_under eAg_under eEn_under eSp_var eAg_var eEn_var
theorem eH_clean (h : Ho) : (eH h).clean = some (eH h) := by simp only [eH, eHc, go_sem, ↓reduceIte, Nat.reduceBEq, Nat.reduceEqDiff, Nat.reduceLT, Nat.reduceLeDiff, Nat.reduceAdd, Nat.reduceMul, Nat.reduceSub, reduceCtorEq, Int.reduceLT, Int.reduceLE, Int.reduceEq, Int.reduceBEq, Int.reduceBNe, Int.reduceToNat, Int.reduceAdd, Int.reduceNeg, Int.reduceSub]

def firstBad (e : Nat → Int) : Nat → Nat → Option Nat
  | _, 0 => none
  | k, n + 1 => if e k ≠ 0 then some k else firstBad e (k + 1) n
theorem firstBad_none {e : Nat → Int} : ∀ {n k : Nat}, firstBad e k n = none → ∀ i, k ≤ i → i < k + n → e i = 0
  | 0, k, _, i, h1, h2 => by omega
  | n + 1, k, h, i, h1, h2 => by
    unfold firstBad at h
    split at h
    · cases h
    · rename_i h0
      by_cases hi : i = k
      · subst hi; simpa using h0
      · exact firstBad_none h i (by omega) (by omega)
theorem firstBad_some {e : Nat → Int} : ∀ {n k j : Nat}, firstBad e k n = some j → k ≤ j ∧ j < k + n ∧ e j ≠ 0 ∧ ∀ i, k ≤ i → i < j → e i = 0
  | 0, k, j, h => by cases h
  | n + 1, k, j, h => by
    unfold firstBad at h
    split at h
    · rename_i h0
      cases h
      exact ⟨Nat.le_refl _, by omega, h0, fun i h1 h2 => by omega⟩
    · rename_i h0
      obtain ⟨a, b, c, d⟩ := firstBad_some h
      refine ⟨by omega, by omega, c, fun i h1 h2 => ?_⟩
      by_cases hi : i = k
      · subst hi; simpa using h0
      · exact d i (by omega) h2
theorem firstBad_zero {e : Nat → Int} : ∀ {n k : Nat}, (∀ i, k ≤ i → i < k + n → e i = 0) → firstBad e k n = none
  | 0, k, _ => rfl
  | n + 1, k, h => by
    unfold firstBad
    rw [if_neg (by simpa using h k (by omega) (by omega))]
    exact firstBad_zero fun i h1 h2 => h i (by omega) (by omega)
def atE (e : Nat → Int) (n : Nat) : AV := match firstBad e 0 n with | some k => .tup [.int .i64 k, .int .i64 (e k)] | none => .tup [.int .i64 0, .int .i64 0]
noncomputable def firstW (e : Nat → Int) (n : Nat) (b : Nat → Option (AExit × St)) (z : Option (AExit × St)) : Option (AExit × St) := match firstBad e 0 n with | some k => b k | none => z
theorem w_first {X : Tab} {f : Nat} {rd : Option Nat} {b : Code} {g : Slots} {h : Heap} {ms : List Nat} (U : Nat → Slots) (H : Nat → Heap) (e : Nat → Int) (n : Nat) (xb : AExit) (Vb : Nat → Slots) (Hb : Nat → Heap) (x : AExit) (V : Slots) (hV : Heap) (h0 : puts g (U 0) = g) (hh : H 0 = h)
    (hs : ∀ k, k < n → e k = 0 → cutS ⟨⟨puts g (U k), []⟩, H k, ms⟩ ((EW X).code f rd b ⟨⟨puts g (U k), []⟩, H k, ms⟩) = some (.normal, ⟨⟨puts g (U (k + 1)), []⟩, H (k + 1), ms⟩))
    (hb : ∀ k, k < n → e k ≠ 0 → cutS ⟨⟨puts g (U k), []⟩, H k, ms⟩ ((EW X).code f rd b ⟨⟨puts g (U k), []⟩, H k, ms⟩) = some (xb, ⟨⟨puts g (Vb k), []⟩, Hb k, ms⟩))
    (he : cutS ⟨⟨puts g (U n), []⟩, H n, ms⟩ ((EW X).code f rd b ⟨⟨puts g (U n), []⟩, H n, ms⟩) = some (x, ⟨⟨puts g V, []⟩, hV, ms⟩)) (hrb : isNormal xb = false) (hr : isNormal x = false) :
    (EW X).code f rd (.loop b) ⟨⟨g, []⟩, h, ms⟩ = firstW e n (fun k => some (xb, ⟨⟨puts g (Vb k), []⟩, Hb k, ms⟩)) (some (x, ⟨⟨puts g V, []⟩, hV, ms⟩)) := by
  unfold firstW
  cases hf : firstBad e 0 n with
  | some k =>
    obtain ⟨_, h1, h2, h3⟩ := firstBad_some hf
    exact w_rounds_h U H k xb (Vb k) (Hb k) h0 hh (fun j hj => hs j (by omega) (h3 j (by omega) hj)) (hb k (by omega) h2) hrb
  | none => exact w_rounds_h U H n x V hV h0 hh (fun j hj => hs j hj (firstBad_none hf j (by omega) (by omega))) he hr

theorem c50 (f : Nat) (cap : List AV) (l : List (Int × Int)) (t z : Nat) (hz : l ≠ [] → z = 2) (h : Heap) (hl : l.length < 1000000000000000000) (e : Nat → Int)
   (hp : ∀ (k : Nat) c, l[k]? = some c → ∀ u, callAV tabX (EW tabX) false (.clo f [] cap) [.int .i64 k, eSp c] ⟨h.b ++ u, h.t⟩ = some (.int .i64 (e k), ⟨h.b ++ u, h.t⟩)) :
   (EW tabX).call 50 [.lst t z (l.map eSp), .clo f [] cap] h = some (atE e l.length, h) := by
  obtain ⟨B, ht⟩ := h
  rw [w_call _ fn_50 rfl]
  simp only [go_sem, ↓reduceIte, Nat.reduceBEq, Nat.reduceEqDiff, Nat.reduceLT, Nat.reduceLeDiff, Nat.reduceAdd, Nat.reduceMul, Nat.reduceSub, reduceCtorEq, Int.reduceLT, Int.reduceLE, Int.reduceEq, Int.reduceBEq, Int.reduceBNe, Int.reduceToNat, Int.reduceAdd, Int.reduceNeg, Int.reduceSub]
  simp only [callAV_clo] at hp
  have step : ∀ k c, l[k]? = some c → B ++ (l.take (k + 1)).map bSp = B ++ (l.take k).map bSp ++ [bSp c] := fun k c hx => by rw [map_succ _ hx, List.append_assoc]
  rw [w_first (fun k => [(11, .int .i64 k)]) (fun k => ⟨B ++ (l.take k).map bSp, ht⟩) e l.length .ret (fun n => [(4, .int .i64 n), (5, .int .i64 (e n)), (6, .int .i64 n), (7, .ref (B ++ (l.take n).map bSp).length 0), (8, .int .i64 (e n)), (11, .int .i64 n)]) (fun n => ⟨B ++ (l.take (n + 1)).map bSp, ht⟩) (.exit 0) [(11, .int .i64 l.length)] ⟨B ++ l.map bSp, ht⟩ ?_ ?_ ?_ ?_ ?_ rfl rfl]
  · unfold firstW atE
    cases firstBad e 0 l.length with
    | some n => simp only [go_sem, ↓reduceIte, Nat.reduceBEq, Nat.reduceEqDiff, Nat.reduceLT, Nat.reduceLeDiff, Nat.reduceAdd, Nat.reduceMul, Nat.reduceSub, reduceCtorEq, Int.reduceLT, Int.reduceLE, Int.reduceEq, Int.reduceBEq, Int.reduceBNe, Int.reduceToNat, Int.reduceAdd, Int.reduceNeg, Int.reduceSub]
    | none => simp only [go_sem, ↓reduceIte, Nat.reduceBEq, Nat.reduceEqDiff, Nat.reduceLT, Nat.reduceLeDiff, Nat.reduceAdd, Nat.reduceMul, Nat.reduceSub, reduceCtorEq, Int.reduceLT, Int.reduceLE, Int.reduceEq, Int.reduceBEq, Int.reduceBNe, Int.reduceToNat, Int.reduceAdd, Int.reduceNeg, Int.reduceSub]
  · simp only [go_sem, ↓reduceIte, Nat.reduceBEq, Nat.reduceEqDiff, Nat.reduceLT, Nat.reduceLeDiff, Nat.reduceAdd, Nat.reduceMul, Nat.reduceSub, reduceCtorEq, Int.reduceLT, Int.reduceLE, Int.reduceEq, Int.reduceBEq, Int.reduceBNe, Int.reduceToNat, Int.reduceAdd, Int.reduceNeg, Int.reduceSub]
  · simp only [go_sem, ↓reduceIte, Nat.reduceBEq, Nat.reduceEqDiff, Nat.reduceLT, Nat.reduceLeDiff, Nat.reduceAdd, Nat.reduceMul, Nat.reduceSub, reduceCtorEq, Int.reduceLT, Int.reduceLE, Int.reduceEq, Int.reduceBEq, Int.reduceBNe, Int.reduceToNat, Int.reduceAdd, Int.reduceNeg, Int.reduceSub]
  · intro k hk h0
    have hx := List.getElem?_eq_getElem hk
    have hki : (k : Int) < l.length := by omega
    have hz1 := hz (by intro e; rw [e] at hki; simp at hki; omega)
    subst hz1
    rw [step k _ hx]
    have hpk := hp k _ hx ((l.take k).map bSp ++ [bSp l[k]])
    rw [← List.append_assoc, h0] at hpk
    generalize B ++ (l.take k).map bSp = C at hpk ⊢
    simp only [eSp, bSp] at hpk
    simp (disch := omega) only [go_sem, ↓reduceIte, Nat.reduceBEq, Nat.reduceEqDiff, Nat.reduceLT, Nat.reduceLeDiff, Nat.reduceAdd, Nat.reduceMul, Nat.reduceSub, reduceCtorEq, Int.reduceLT, Int.reduceLE, Int.reduceEq, Int.reduceBEq, Int.reduceBNe, Int.reduceToNat, Int.reduceAdd, Int.reduceNeg, Int.reduceSub, hki, eSp_get, hx, eSp, ↓hpk, wrap_i64, bSp, bne_self_eq_false]
  · intro n hn hen
    have hx := List.getElem?_eq_getElem hn
    have hki : (n : Int) < l.length := by omega
    have hz1 := hz (by intro e; rw [e] at hn; simp at hn)
    subst hz1
    rw [step n _ hx]
    have hpk := hp n _ hx ((l.take n).map bSp ++ [bSp l[n]])
    have hne : (e n != 0) = true := by simpa using hen
    rw [← List.append_assoc] at hpk
    generalize B ++ (l.take n).map bSp = C at hpk ⊢
    simp only [eSp, bSp] at hpk
    simp (disch := omega) only [go_sem, ↓reduceIte, Nat.reduceBEq, Nat.reduceEqDiff, Nat.reduceLT, Nat.reduceLeDiff, Nat.reduceAdd, Nat.reduceMul, Nat.reduceSub, reduceCtorEq, Int.reduceLT, Int.reduceLE, Int.reduceEq, Int.reduceBEq, Int.reduceBNe, Int.reduceToNat, Int.reduceAdd, Int.reduceNeg, Int.reduceSub, hki, eSp_get, hx, eSp, ↓hpk, wrap_i64, bSp, hne]
  · simp only [go_sem, ↓reduceIte, Nat.reduceBEq, Nat.reduceEqDiff, Nat.reduceLT, Nat.reduceLeDiff, Nat.reduceAdd, Nat.reduceMul, Nat.reduceSub, reduceCtorEq, Int.reduceLT, Int.reduceLE, Int.reduceEq, Int.reduceBEq, Int.reduceBNe, Int.reduceToNat, Int.reduceAdd, Int.reduceNeg, Int.reduceSub, Int.lt_irrefl]

theorem c52 (f : Nat) (cap : List AV) (l : List Ag) (t z : Nat) (hz : l ≠ [] → z = 3) (h : Heap) (hl : l.length < 1000000000000000000) (e : Nat → Int)
   (hp : ∀ (k : Nat) c, l[k]? = some c → ∀ u, callAV tabX (EW tabX) false (.clo f [] cap) [.int .i64 k, eAg c] ⟨h.b ++ u, h.t⟩ = some (.int .i64 (e k), ⟨h.b ++ u, h.t⟩)) :
   (EW tabX).call 52 [.lst t z (l.map eAg), .clo f [] cap] h = some (atE e l.length, h) := by
  obtain ⟨B, ht⟩ := h
  rw [w_call _ fn_52 rfl]
  simp only [go_sem, ↓reduceIte, Nat.reduceBEq, Nat.reduceEqDiff, Nat.reduceLT, Nat.reduceLeDiff, Nat.reduceAdd, Nat.reduceMul, Nat.reduceSub, reduceCtorEq, Int.reduceLT, Int.reduceLE, Int.reduceEq, Int.reduceBEq, Int.reduceBNe, Int.reduceToNat, Int.reduceAdd, Int.reduceNeg, Int.reduceSub]
  simp only [callAV_clo] at hp
  have step : ∀ k c, l[k]? = some c → B ++ (l.take (k + 1)).map bAg = B ++ (l.take k).map bAg ++ [bAg c] := fun k c hx => by rw [map_succ _ hx, List.append_assoc]
  rw [w_first (fun k => [(11, .int .i64 k)]) (fun k => ⟨B ++ (l.take k).map bAg, ht⟩) e l.length .ret (fun n => [(4, .int .i64 n), (5, .int .i64 (e n)), (6, .int .i64 n), (7, .ref (B ++ (l.take n).map bAg).length 0), (8, .int .i64 (e n)), (11, .int .i64 n)]) (fun n => ⟨B ++ (l.take (n + 1)).map bAg, ht⟩) (.exit 0) [(11, .int .i64 l.length)] ⟨B ++ l.map bAg, ht⟩ ?_ ?_ ?_ ?_ ?_ rfl rfl]
  · unfold firstW atE
    cases firstBad e 0 l.length with
    | some n => simp only [go_sem, ↓reduceIte, Nat.reduceBEq, Nat.reduceEqDiff, Nat.reduceLT, Nat.reduceLeDiff, Nat.reduceAdd, Nat.reduceMul, Nat.reduceSub, reduceCtorEq, Int.reduceLT, Int.reduceLE, Int.reduceEq, Int.reduceBEq, Int.reduceBNe, Int.reduceToNat, Int.reduceAdd, Int.reduceNeg, Int.reduceSub]
    | none => simp only [go_sem, ↓reduceIte, Nat.reduceBEq, Nat.reduceEqDiff, Nat.reduceLT, Nat.reduceLeDiff, Nat.reduceAdd, Nat.reduceMul, Nat.reduceSub, reduceCtorEq, Int.reduceLT, Int.reduceLE, Int.reduceEq, Int.reduceBEq, Int.reduceBNe, Int.reduceToNat, Int.reduceAdd, Int.reduceNeg, Int.reduceSub]
  · simp only [go_sem, ↓reduceIte, Nat.reduceBEq, Nat.reduceEqDiff, Nat.reduceLT, Nat.reduceLeDiff, Nat.reduceAdd, Nat.reduceMul, Nat.reduceSub, reduceCtorEq, Int.reduceLT, Int.reduceLE, Int.reduceEq, Int.reduceBEq, Int.reduceBNe, Int.reduceToNat, Int.reduceAdd, Int.reduceNeg, Int.reduceSub]
  · simp only [go_sem, ↓reduceIte, Nat.reduceBEq, Nat.reduceEqDiff, Nat.reduceLT, Nat.reduceLeDiff, Nat.reduceAdd, Nat.reduceMul, Nat.reduceSub, reduceCtorEq, Int.reduceLT, Int.reduceLE, Int.reduceEq, Int.reduceBEq, Int.reduceBNe, Int.reduceToNat, Int.reduceAdd, Int.reduceNeg, Int.reduceSub]
  · intro k hk h0
    have hx := List.getElem?_eq_getElem hk
    have hki : (k : Int) < l.length := by omega
    have hz1 := hz (by intro e; rw [e] at hki; simp at hki; omega)
    subst hz1
    rw [step k _ hx]
    have hpk := hp k _ hx ((l.take k).map bAg ++ [bAg l[k]])
    rw [← List.append_assoc, h0] at hpk
    generalize B ++ (l.take k).map bAg = C at hpk ⊢
    simp only [eAg, bAg] at hpk
    simp (disch := omega) only [go_sem, ↓reduceIte, Nat.reduceBEq, Nat.reduceEqDiff, Nat.reduceLT, Nat.reduceLeDiff, Nat.reduceAdd, Nat.reduceMul, Nat.reduceSub, reduceCtorEq, Int.reduceLT, Int.reduceLE, Int.reduceEq, Int.reduceBEq, Int.reduceBNe, Int.reduceToNat, Int.reduceAdd, Int.reduceNeg, Int.reduceSub, hki, eAg_get, hx, eAg, ↓hpk, wrap_i64, bAg, bne_self_eq_false]
  · intro n hn hen
    have hx := List.getElem?_eq_getElem hn
    have hki : (n : Int) < l.length := by omega
    have hz1 := hz (by intro e; rw [e] at hn; simp at hn)
    subst hz1
    rw [step n _ hx]
    have hpk := hp n _ hx ((l.take n).map bAg ++ [bAg l[n]])
    have hne : (e n != 0) = true := by simpa using hen
    rw [← List.append_assoc] at hpk
    generalize B ++ (l.take n).map bAg = C at hpk ⊢
    simp only [eAg, bAg] at hpk
    simp (disch := omega) only [go_sem, ↓reduceIte, Nat.reduceBEq, Nat.reduceEqDiff, Nat.reduceLT, Nat.reduceLeDiff, Nat.reduceAdd, Nat.reduceMul, Nat.reduceSub, reduceCtorEq, Int.reduceLT, Int.reduceLE, Int.reduceEq, Int.reduceBEq, Int.reduceBNe, Int.reduceToNat, Int.reduceAdd, Int.reduceNeg, Int.reduceSub, hki, eAg_get, hx, eAg, ↓hpk, wrap_i64, bAg, hne]
  · simp only [go_sem, ↓reduceIte, Nat.reduceBEq, Nat.reduceEqDiff, Nat.reduceLT, Nat.reduceLeDiff, Nat.reduceAdd, Nat.reduceMul, Nat.reduceSub, reduceCtorEq, Int.reduceLT, Int.reduceLE, Int.reduceEq, Int.reduceBEq, Int.reduceBNe, Int.reduceToNat, Int.reduceAdd, Int.reduceNeg, Int.reduceSub, Int.lt_irrefl]

theorem c57 (f : Nat) (cap : List AV) (l : List En) (t z : Nat) (hz : l ≠ [] → z = 4) (h : Heap) (hl : l.length < 1000000000000000000) (e : Nat → Int)
   (hp : ∀ (k : Nat) c, l[k]? = some c → ∀ u, callAV tabX (EW tabX) false (.clo f [] cap) [.int .i64 k, eEn c] ⟨h.b ++ u, h.t⟩ = some (.int .i64 (e k), ⟨h.b ++ u, h.t⟩)) :
   (EW tabX).call 57 [.lst t z (l.map eEn), .clo f [] cap] h = some (atE e l.length, h) := by
  obtain ⟨B, ht⟩ := h
  rw [w_call _ fn_57 rfl]
  simp only [go_sem, ↓reduceIte, Nat.reduceBEq, Nat.reduceEqDiff, Nat.reduceLT, Nat.reduceLeDiff, Nat.reduceAdd, Nat.reduceMul, Nat.reduceSub, reduceCtorEq, Int.reduceLT, Int.reduceLE, Int.reduceEq, Int.reduceBEq, Int.reduceBNe, Int.reduceToNat, Int.reduceAdd, Int.reduceNeg, Int.reduceSub]
  simp only [callAV_clo] at hp
  have step : ∀ k c, l[k]? = some c → B ++ (l.take (k + 1)).map bEn = B ++ (l.take k).map bEn ++ [bEn c] := fun k c hx => by rw [map_succ _ hx, List.append_assoc]
  rw [w_first (fun k => [(11, .int .i64 k)]) (fun k => ⟨B ++ (l.take k).map bEn, ht⟩) e l.length .ret (fun n => [(4, .int .i64 n), (5, .int .i64 (e n)), (6, .int .i64 n), (7, .ref (B ++ (l.take n).map bEn).length 0), (8, .int .i64 (e n)), (11, .int .i64 n)]) (fun n => ⟨B ++ (l.take (n + 1)).map bEn, ht⟩) (.exit 0) [(11, .int .i64 l.length)] ⟨B ++ l.map bEn, ht⟩ ?_ ?_ ?_ ?_ ?_ rfl rfl]
  · unfold firstW atE
    cases firstBad e 0 l.length with
    | some n => simp only [go_sem, ↓reduceIte, Nat.reduceBEq, Nat.reduceEqDiff, Nat.reduceLT, Nat.reduceLeDiff, Nat.reduceAdd, Nat.reduceMul, Nat.reduceSub, reduceCtorEq, Int.reduceLT, Int.reduceLE, Int.reduceEq, Int.reduceBEq, Int.reduceBNe, Int.reduceToNat, Int.reduceAdd, Int.reduceNeg, Int.reduceSub]
    | none => simp only [go_sem, ↓reduceIte, Nat.reduceBEq, Nat.reduceEqDiff, Nat.reduceLT, Nat.reduceLeDiff, Nat.reduceAdd, Nat.reduceMul, Nat.reduceSub, reduceCtorEq, Int.reduceLT, Int.reduceLE, Int.reduceEq, Int.reduceBEq, Int.reduceBNe, Int.reduceToNat, Int.reduceAdd, Int.reduceNeg, Int.reduceSub]
  · simp only [go_sem, ↓reduceIte, Nat.reduceBEq, Nat.reduceEqDiff, Nat.reduceLT, Nat.reduceLeDiff, Nat.reduceAdd, Nat.reduceMul, Nat.reduceSub, reduceCtorEq, Int.reduceLT, Int.reduceLE, Int.reduceEq, Int.reduceBEq, Int.reduceBNe, Int.reduceToNat, Int.reduceAdd, Int.reduceNeg, Int.reduceSub]
  · simp only [go_sem, ↓reduceIte, Nat.reduceBEq, Nat.reduceEqDiff, Nat.reduceLT, Nat.reduceLeDiff, Nat.reduceAdd, Nat.reduceMul, Nat.reduceSub, reduceCtorEq, Int.reduceLT, Int.reduceLE, Int.reduceEq, Int.reduceBEq, Int.reduceBNe, Int.reduceToNat, Int.reduceAdd, Int.reduceNeg, Int.reduceSub]
  · intro k hk h0
    have hx := List.getElem?_eq_getElem hk
    have hki : (k : Int) < l.length := by omega
    have hz1 := hz (by intro e; rw [e] at hki; simp at hki; omega)
    subst hz1
    rw [step k _ hx]
    have hpk := hp k _ hx ((l.take k).map bEn ++ [bEn l[k]])
    rw [← List.append_assoc, h0] at hpk
    generalize B ++ (l.take k).map bEn = C at hpk ⊢
    simp only [eEn, bEn] at hpk
    simp (disch := omega) only [go_sem, ↓reduceIte, Nat.reduceBEq, Nat.reduceEqDiff, Nat.reduceLT, Nat.reduceLeDiff, Nat.reduceAdd, Nat.reduceMul, Nat.reduceSub, reduceCtorEq, Int.reduceLT, Int.reduceLE, Int.reduceEq, Int.reduceBEq, Int.reduceBNe, Int.reduceToNat, Int.reduceAdd, Int.reduceNeg, Int.reduceSub, hki, eEn_get, hx, eEn, ↓hpk, wrap_i64, bEn, bne_self_eq_false]
  · intro n hn hen
    have hx := List.getElem?_eq_getElem hn
    have hki : (n : Int) < l.length := by omega
    have hz1 := hz (by intro e; rw [e] at hn; simp at hn)
    subst hz1
    rw [step n _ hx]
    have hpk := hp n _ hx ((l.take n).map bEn ++ [bEn l[n]])
    have hne : (e n != 0) = true := by simpa using hen
    rw [← List.append_assoc] at hpk
    generalize B ++ (l.take n).map bEn = C at hpk ⊢
    simp only [eEn, bEn] at hpk
    simp (disch := omega) only [go_sem, ↓reduceIte, Nat.reduceBEq, Nat.reduceEqDiff, Nat.reduceLT, Nat.reduceLeDiff, Nat.reduceAdd, Nat.reduceMul, Nat.reduceSub, reduceCtorEq, Int.reduceLT, Int.reduceLE, Int.reduceEq, Int.reduceBEq, Int.reduceBNe, Int.reduceToNat, Int.reduceAdd, Int.reduceNeg, Int.reduceSub, hki, eEn_get, hx, eEn, ↓hpk, wrap_i64, bEn, hne]
  · simp only [go_sem, ↓reduceIte, Nat.reduceBEq, Nat.reduceEqDiff, Nat.reduceLT, Nat.reduceLeDiff, Nat.reduceAdd, Nat.reduceMul, Nat.reduceSub, reduceCtorEq, Int.reduceLT, Int.reduceLE, Int.reduceEq, Int.reduceBEq, Int.reduceBNe, Int.reduceToNat, Int.reduceAdd, Int.reduceNeg, Int.reduceSub, Int.lt_irrefl]

theorem c93 (f : Nat) (fst cap : List AV) (l : List Ag) (t z : Nat) (hz : l ≠ [] → z = 3) (p : Ag → Bool) (h : Heap) (hl : l.length < 1000000000000000000)
   (hp : ∀ n ∈ l, callAV tabX (EW tabX) false (.clo f fst cap) [eAg n] h = some (.bool (p n), h)) :
   (EW tabX).call 93 [.lst t z (l.map eAg), .clo f fst cap] h = some (.int .i64 (if l.findIdx p < l.length then l.findIdx p else -1), h) := by
  obtain ⟨hb, ht⟩ := h
  rw [w_call _ fn_93 rfl]
  simp only [go_sem, ↓reduceIte, Nat.reduceBEq, Nat.reduceEqDiff, Nat.reduceLT, Nat.reduceLeDiff, Nat.reduceAdd, Nat.reduceMul, Nat.reduceSub, reduceCtorEq, Int.reduceLT, Int.reduceLE, Int.reduceEq, Int.reduceBEq, Int.reduceBNe, Int.reduceToNat, Int.reduceAdd, Int.reduceNeg, Int.reduceSub]
  simp only [callAV_clo] at hp
  by_cases hf : l.findIdx p < l.length
  · rw [w_rounds_u (fun k => [(8, .int .i64 k)]) (l.findIdx p) .ret [(4, .int .i64 (l.findIdx p)), (5, .int .i64 (l.findIdx p)), (8, .int .i64 (l.findIdx p))] ?_ ?_ ?_ rfl]
    · simp only [go_sem, ↓reduceIte, Nat.reduceBEq, Nat.reduceEqDiff, Nat.reduceLT, Nat.reduceLeDiff, Nat.reduceAdd, Nat.reduceMul, Nat.reduceSub, reduceCtorEq, Int.reduceLT, Int.reduceLE, Int.reduceEq, Int.reduceBEq, Int.reduceBNe, Int.reduceToNat, Int.reduceAdd, Int.reduceNeg, Int.reduceSub, hf]
    · simp only [go_sem, ↓reduceIte, Nat.reduceBEq, Nat.reduceEqDiff, Nat.reduceLT, Nat.reduceLeDiff, Nat.reduceAdd, Nat.reduceMul, Nat.reduceSub, reduceCtorEq, Int.reduceLT, Int.reduceLE, Int.reduceEq, Int.reduceBEq, Int.reduceBNe, Int.reduceToNat, Int.reduceAdd, Int.reduceNeg, Int.reduceSub]
    · intro k hk
      have hlt : k < l.length := by omega
      have hki : (k : Int) < l.length := by omega
      have hx := List.getElem?_eq_getElem hlt
      have hpx := hp l[k] (List.getElem_mem _)
      have hpf : p l[k] = false := by simpa using List.not_of_lt_findIdx hk
      have hz1 := hz (by intro e; rw [e] at hlt; simp at hlt)
      subst hz1
      rw [hpf] at hpx
      simp only [eAg] at hpx
      simp (disch := omega) only [go_sem, ↓reduceIte, Nat.reduceBEq, Nat.reduceEqDiff, Nat.reduceLT, Nat.reduceLeDiff, Nat.reduceAdd, Nat.reduceMul, Nat.reduceSub, reduceCtorEq, Int.reduceLT, Int.reduceLE, Int.reduceEq, Int.reduceBEq, Int.reduceBNe, Int.reduceToNat, Int.reduceAdd, Int.reduceNeg, Int.reduceSub, hki, hx, eAg, ↓hpx, wrap_i64]
    · have hx := List.getElem?_eq_getElem hf
      have hki : ((l.findIdx p : Nat) : Int) < l.length := by omega
      have hpx := hp l[l.findIdx p] (List.getElem_mem _)
      have hpt : p l[l.findIdx p] = true := List.findIdx_getElem
      have hz1 := hz (by intro e; rw [e] at hf; simp at hf)
      subst hz1
      rw [hpt] at hpx
      simp only [eAg] at hpx
      simp (disch := omega) only [go_sem, ↓reduceIte, Nat.reduceBEq, Nat.reduceEqDiff, Nat.reduceLT, Nat.reduceLeDiff, Nat.reduceAdd, Nat.reduceMul, Nat.reduceSub, reduceCtorEq, Int.reduceLT, Int.reduceLE, Int.reduceEq, Int.reduceBEq, Int.reduceBNe, Int.reduceToNat, Int.reduceAdd, Int.reduceNeg, Int.reduceSub, hki, hx, eAg, ↓hpx, wrap_i64]
  · have hn : l.findIdx p = l.length := by have := List.findIdx_le_length (p := p) (xs := l); omega
    rw [w_rounds_u (fun k => [(8, .int .i64 k)]) (l.length) (.exit 0) [(8, .int .i64 l.length)] ?_ ?_ ?_ rfl]
    · simp only [go_sem, ↓reduceIte, Nat.reduceBEq, Nat.reduceEqDiff, Nat.reduceLT, Nat.reduceLeDiff, Nat.reduceAdd, Nat.reduceMul, Nat.reduceSub, reduceCtorEq, Int.reduceLT, Int.reduceLE, Int.reduceEq, Int.reduceBEq, Int.reduceBNe, Int.reduceToNat, Int.reduceAdd, Int.reduceNeg, Int.reduceSub, hf]
    · simp only [go_sem, ↓reduceIte, Nat.reduceBEq, Nat.reduceEqDiff, Nat.reduceLT, Nat.reduceLeDiff, Nat.reduceAdd, Nat.reduceMul, Nat.reduceSub, reduceCtorEq, Int.reduceLT, Int.reduceLE, Int.reduceEq, Int.reduceBEq, Int.reduceBNe, Int.reduceToNat, Int.reduceAdd, Int.reduceNeg, Int.reduceSub]
    · intro k hk
      have hki : (k : Int) < l.length := by omega
      have hx := List.getElem?_eq_getElem hk
      have hpx := hp l[k] (List.getElem_mem _)
      have hpf : p l[k] = false := by simpa using List.not_of_lt_findIdx (p := p) (xs := l) (i := k) (by omega)
      have hz1 := hz (by intro e; rw [e] at hk; simp at hk)
      subst hz1
      rw [hpf] at hpx
      simp only [eAg] at hpx
      simp (disch := omega) only [go_sem, ↓reduceIte, Nat.reduceBEq, Nat.reduceEqDiff, Nat.reduceLT, Nat.reduceLeDiff, Nat.reduceAdd, Nat.reduceMul, Nat.reduceSub, reduceCtorEq, Int.reduceLT, Int.reduceLE, Int.reduceEq, Int.reduceBEq, Int.reduceBNe, Int.reduceToNat, Int.reduceAdd, Int.reduceNeg, Int.reduceSub, hki, hx, eAg, ↓hpx, wrap_i64]
    · simp (disch := omega) only [go_sem, ↓reduceIte, Nat.reduceBEq, Nat.reduceEqDiff, Nat.reduceLT, Nat.reduceLeDiff, Nat.reduceAdd, Nat.reduceMul, Nat.reduceSub, reduceCtorEq, Int.reduceLT, Int.reduceLE, Int.reduceEq, Int.reduceBEq, Int.reduceBNe, Int.reduceToNat, Int.reduceAdd, Int.reduceNeg, Int.reduceSub, Int.lt_irrefl]
theorem c55 (f : Nat) (fst cap : List AV) (l : List Ag) (t z : Nat) (hz : l ≠ [] → z = 3) (p : Ag → Bool) (h : Heap) (hl : l.length < 1000000000000000000)
   (hp : ∀ n ∈ l, callAV tabX (EW tabX) false (.clo f fst cap) [eAg n] h = some (.bool (p n), h)) (hc : (AV.clo f fst cap).clean = none) :
   (EW tabX).call 55 [.lst t z (l.map eAg), .clo f fst cap] h = some (.bool (l.any p), h) := by
  have h78 := c93 f fst cap l t z hz p h hl hp
  obtain ⟨hb, ht⟩ := h
  rw [w_call _ fn_55 rfl]
  simp only [go_sem, ↓reduceIte, Nat.reduceBEq, Nat.reduceEqDiff, Nat.reduceLT, Nat.reduceLeDiff, Nat.reduceAdd, Nat.reduceMul, Nat.reduceSub, reduceCtorEq, Int.reduceLT, Int.reduceLE, Int.reduceEq, Int.reduceBEq, Int.reduceBNe, Int.reduceToNat, Int.reduceAdd, Int.reduceNeg, Int.reduceSub, hc, h78, ge_iff_le, findIdx_any]
end Go.Proofs.Ytaohhjaogjcfoaa
end
section
namespace Go.Proofs.Ytaohhjaogjcfoaa
open Go.Proofs

def spE (s : Int × Int) : Int := if out 1 20 s.1 || out 1 20 s.2 then 7 else if s.2 < s.1 then 2 else 0
def agE (l : List Ag) (i : Nat) (a : Ag) : Int := if nameOk a.name then (if (l.take i).any (fun y => y.name == a.name) then 5 else if out 0 20 a.fee || out 0 2 a.round then 7 else 0) else 6
def enE (h : Ho) (x : En) : Int := if out 0 ((h.agents.length : Int) - 1) x.agent || out 0 (h.days - 1) x.day then 4 else if out 0 99 x.near || out (-1) 198 x.far then 7 else 0
def rateE (h : Ho) (i : Nat) : Int := match h.rates[i]? with | some s => spE s | none => 0
def agentE (h : Ho) (i : Nat) : Int := match h.agents[i]? with | some a => agE h.agents i a | none => 0
def entryE (h : Ho) (i : Nat) : Int := match h.entries[i]? with | some x => enE h x | none => 0
def checkH (h : Ho) : Int × Int × Int :=
  if out 1 3 h.days then (1, 0, 7) else if (h.rates.length : Int) ≠ h.days then (2, 0, 3) else
  match firstBad (rateE h) 0 h.rates.length with
  | some i => (2, (i : Int), rateE h i)
  | none =>
    if out 0 20 h.step then (3, 0, 7) else if 3 < h.agents.length then (4, 0, 3) else
    match firstBad (agentE h) 0 h.agents.length with
    | some i => (4, (i : Int), agentE h i)
    | none =>
      if 5 < h.entries.length then (5, 0, 3) else
      match firstBad (entryE h) 0 h.entries.length with
      | some i => (5, (i : Int), entryE h i)
      | none => (0, 0, 0)
def tup3 (x : Int × Int × Int) : AV := .tup [.int .i64 x.1, .int .i64 x.2.1, .int .i64 x.2.2]
theorem tup3_clean (x : Int × Int × Int) : (tup3 x).clean = some (tup3 x) := by simp only [go_sem, ↓reduceIte, Nat.reduceBEq, Nat.reduceEqDiff, Nat.reduceLT, Nat.reduceLeDiff, Nat.reduceAdd, Nat.reduceMul, Nat.reduceSub, reduceCtorEq, Int.reduceLT, Int.reduceLE, Int.reduceEq, Int.reduceBEq, Int.reduceBNe, Int.reduceToNat, Int.reduceAdd, Int.reduceNeg, Int.reduceSub, tup3]

theorem atE_clean (e : Nat → Int) (n : Nat) : (atE e n).clean = some (atE e n) := by unfold atE; split <;> simp only [go_sem, ↓reduceIte, Nat.reduceBEq, Nat.reduceEqDiff, Nat.reduceLT, Nat.reduceLeDiff, Nat.reduceAdd, Nat.reduceMul, Nat.reduceSub, reduceCtorEq, Int.reduceLT, Int.reduceLE, Int.reduceEq, Int.reduceBEq, Int.reduceBNe, Int.reduceToNat, Int.reduceAdd, Int.reduceNeg, Int.reduceSub]
theorem c51 (k : Int) (s : Int × Int) (h : Heap) : callPure (EW tabX) 51 [.int .i64 k, eSp s] h = some (.int .i64 (spE s), h) := by
  rw [callPure_eq, w_call _ fn_51 rfl]
  cases h1 : out 1 20 s.1 || out 1 20 s.2 with
  | true => simp only [go_sem, ↓reduceIte, Nat.reduceBEq, Nat.reduceEqDiff, Nat.reduceLT, Nat.reduceLeDiff, Nat.reduceAdd, Nat.reduceMul, Nat.reduceSub, reduceCtorEq, Int.reduceLT, Int.reduceLE, Int.reduceEq, Int.reduceBEq, Int.reduceBNe, Int.reduceToNat, Int.reduceAdd, Int.reduceNeg, Int.reduceSub, eSp, c49_2, h1, spE]
  | false =>
    by_cases h2 : s.2 < s.1
    · simp only [go_sem, ↓reduceIte, Nat.reduceBEq, Nat.reduceEqDiff, Nat.reduceLT, Nat.reduceLeDiff, Nat.reduceAdd, Nat.reduceMul, Nat.reduceSub, reduceCtorEq, Int.reduceLT, Int.reduceLE, Int.reduceEq, Int.reduceBEq, Int.reduceBNe, Int.reduceToNat, Int.reduceAdd, Int.reduceNeg, Int.reduceSub, eSp, c49_2, h1, spE, h2]
    · simp only [go_sem, ↓reduceIte, Nat.reduceBEq, Nat.reduceEqDiff, Nat.reduceLT, Nat.reduceLeDiff, Nat.reduceAdd, Nat.reduceMul, Nat.reduceSub, reduceCtorEq, Int.reduceLT, Int.reduceLE, Int.reduceEq, Int.reduceBEq, Int.reduceBNe, Int.reduceToNat, Int.reduceAdd, Int.reduceNeg, Int.reduceSub, eSp, c49_2, h1, spE, h2]
theorem c56 (c : Ag) (b : Nat) (x : ByteArray) (xs : List AV) (h : Heap) (hb : h.b[b]? = some (.cells (.str x :: xs))) :
   (EW tabX).call 56 [eAg c, .ref b 0] h = some (.bool (c.name == x), h) := by
  obtain ⟨B, ht⟩ := h
  have h1 : B[b]? = some (.cells (.str x :: xs)) := hb
  have h2 := old h1
  rw [w_call _ fn_56 rfl]
  simp only [go_sem, ↓reduceIte, Nat.reduceBEq, Nat.reduceEqDiff, Nat.reduceLT, Nat.reduceLeDiff, Nat.reduceAdd, Nat.reduceMul, Nat.reduceSub, reduceCtorEq, Int.reduceLT, Int.reduceLE, Int.reduceEq, Int.reduceBEq, Int.reduceBNe, Int.reduceToNat, Int.reduceAdd, Int.reduceNeg, Int.reduceSub, eAg, h1, h2]

structure Ho.fits (h : Ho) : Prop where
  zr : h.rates ≠ [] → h.zr = 2
  za : h.agents ≠ [] → h.za = 3
  ze : h.entries ≠ [] → h.ze = 4
  lr : h.rates.length < 1000000000000000000
  la : h.agents.length < 1000000000000000000
  le : h.entries.length < 1000000000000000000
  na : ∀ a ∈ h.agents, a.name.size < 1000000000000000000

theorem c53 (d : Ho) (hd : d.fits) (r : Nat) (i : Nat) (x : Ag) (hx : d.agents[i]? = some x) (h : Heap) (hr : h.b[r]? = some (.cells (eHc d))) :
   (EW tabX).call 53 [.int .i64 i, eAg x, .ref r 0] h = some (.int .i64 (agE d.agents i x), h) := by
  obtain ⟨B, ht⟩ := h
  have hr : B[r]? = some (.cells (eHc d)) := hr
  simp only [eHc] at hr
  have oR := old hr
  have hi : i < d.agents.length := (List.getElem?_eq_some_iff.1 hx).1
  have hil : i ≤ d.agents.length := by omega
  have hz := hd.za (by intro e; rw [e] at hx; simp at hx)
  have h54 := c54 x.name (hd.na _ (List.mem_of_getElem? hx))
  have hla := hd.la
  have h55 := c55 56 [] [.ref B.length 0] (d.agents.take i) 0 3 (fun _ => rfl) (fun y => y.name == x.name) ⟨B ++ [bAg x], ht⟩ (by rw [List.length_take]; omega) (fun n _ => by
    have := c56 n B.length x.name [.int .i64 x.fee, .int .i64 x.round] ⟨B ++ [bAg x], ht⟩ (by simp [bAg])
    simp only [go_sem, ↓reduceIte, Nat.reduceBEq, Nat.reduceEqDiff, Nat.reduceLT, Nat.reduceLeDiff, Nat.reduceAdd, Nat.reduceMul, Nat.reduceSub, reduceCtorEq, Int.reduceLT, Int.reduceLE, Int.reduceEq, Int.reduceBEq, Int.reduceBNe, Int.reduceToNat, Int.reduceAdd, Int.reduceNeg, Int.reduceSub, eAg] at this ⊢
    exact this) (by simp only [go_sem, ↓reduceIte, Nat.reduceBEq, Nat.reduceEqDiff, Nat.reduceLT, Nat.reduceLeDiff, Nat.reduceAdd, Nat.reduceMul, Nat.reduceSub, reduceCtorEq, Int.reduceLT, Int.reduceLE, Int.reduceEq, Int.reduceBEq, Int.reduceBNe, Int.reduceToNat, Int.reduceAdd, Int.reduceNeg, Int.reduceSub])
  rw [List.map_take] at h55
  simp only [bAg] at h55
  rw [w_call _ fn_53 rfl]
  cases h1 : nameOk x.name with
  | false => simp only [go_sem, ↓reduceIte, Nat.reduceBEq, Nat.reduceEqDiff, Nat.reduceLT, Nat.reduceLeDiff, Nat.reduceAdd, Nat.reduceMul, Nat.reduceSub, reduceCtorEq, Int.reduceLT, Int.reduceLE, Int.reduceEq, Int.reduceBEq, Int.reduceBNe, Int.reduceToNat, Int.reduceAdd, Int.reduceNeg, Int.reduceSub, eAg, oR, h54, h1, agE]
  | true =>
    cases h2 : (d.agents.take i).any (fun y => y.name == x.name) with
    | true => simp only [go_sem, ↓reduceIte, Nat.reduceBEq, Nat.reduceEqDiff, Nat.reduceLT, Nat.reduceLeDiff, Nat.reduceAdd, Nat.reduceMul, Nat.reduceSub, reduceCtorEq, Int.reduceLT, Int.reduceLE, Int.reduceEq, Int.reduceBEq, Int.reduceBNe, Int.reduceToNat, Int.reduceAdd, Int.reduceNeg, Int.reduceSub, eAg, oR, h54, h1, h2, h55, hil, hz, agE]
    | false =>
      cases h3 : out 0 20 x.fee with
      | true => simp only [go_sem, ↓reduceIte, Nat.reduceBEq, Nat.reduceEqDiff, Nat.reduceLT, Nat.reduceLeDiff, Nat.reduceAdd, Nat.reduceMul, Nat.reduceSub, reduceCtorEq, Int.reduceLT, Int.reduceLE, Int.reduceEq, Int.reduceBEq, Int.reduceBNe, Int.reduceToNat, Int.reduceAdd, Int.reduceNeg, Int.reduceSub, eAg, oR, h54, h1, h2, h55, hil, hz, agE, h3, c49_1]
      | false =>
        cases h4 : out 0 2 x.round with
        | true => simp only [go_sem, ↓reduceIte, Nat.reduceBEq, Nat.reduceEqDiff, Nat.reduceLT, Nat.reduceLeDiff, Nat.reduceAdd, Nat.reduceMul, Nat.reduceSub, reduceCtorEq, Int.reduceLT, Int.reduceLE, Int.reduceEq, Int.reduceBEq, Int.reduceBNe, Int.reduceToNat, Int.reduceAdd, Int.reduceNeg, Int.reduceSub, eAg, oR, h54, h1, h2, h55, hil, hz, agE, h3, h4, c49_1]
        | false => simp only [go_sem, ↓reduceIte, Nat.reduceBEq, Nat.reduceEqDiff, Nat.reduceLT, Nat.reduceLeDiff, Nat.reduceAdd, Nat.reduceMul, Nat.reduceSub, reduceCtorEq, Int.reduceLT, Int.reduceLE, Int.reduceEq, Int.reduceBEq, Int.reduceBNe, Int.reduceToNat, Int.reduceAdd, Int.reduceNeg, Int.reduceSub, eAg, oR, h54, h1, h2, h55, hil, hz, agE, h3, h4, c49_1]
theorem c58 (d : Ho) (hd : d.fits) (hday : 1 ≤ d.days ∧ d.days ≤ 3) (r : Nat) (i : Nat) (x : En) (h : Heap) (hr : h.b[r]? = some (.cells (eHc d))) :
   (EW tabX).call 58 [.int .i64 i, eEn x, .ref r 0] h = some (.int .i64 (enE d x), h) := by
  obtain ⟨B, ht⟩ := h
  have hr : B[r]? = some (.cells (eHc d)) := hr
  simp only [eHc] at hr
  have oR := old hr
  have hla := hd.la
  rw [w_call _ fn_58 rfl]
  cases h1 : out 0 ((d.agents.length : Int) - 1) x.agent with
  | true => simp (disch := omega) only [go_sem, ↓reduceIte, Nat.reduceBEq, Nat.reduceEqDiff, Nat.reduceLT, Nat.reduceLeDiff, Nat.reduceAdd, Nat.reduceMul, Nat.reduceSub, reduceCtorEq, Int.reduceLT, Int.reduceLE, Int.reduceEq, Int.reduceBEq, Int.reduceBNe, Int.reduceToNat, Int.reduceAdd, Int.reduceNeg, Int.reduceSub, eEn, oR, h1, enE, c49_1, wrap_i64]
  | false =>
    cases h2 : out 0 (d.days - 1) x.day with
    | true => simp (disch := omega) only [go_sem, ↓reduceIte, Nat.reduceBEq, Nat.reduceEqDiff, Nat.reduceLT, Nat.reduceLeDiff, Nat.reduceAdd, Nat.reduceMul, Nat.reduceSub, reduceCtorEq, Int.reduceLT, Int.reduceLE, Int.reduceEq, Int.reduceBEq, Int.reduceBNe, Int.reduceToNat, Int.reduceAdd, Int.reduceNeg, Int.reduceSub, eEn, oR, h1, h2, enE, c49_1, wrap_i64]
    | false =>
      cases h3 : out 0 99 x.near with
      | true => simp (disch := omega) only [go_sem, ↓reduceIte, Nat.reduceBEq, Nat.reduceEqDiff, Nat.reduceLT, Nat.reduceLeDiff, Nat.reduceAdd, Nat.reduceMul, Nat.reduceSub, reduceCtorEq, Int.reduceLT, Int.reduceLE, Int.reduceEq, Int.reduceBEq, Int.reduceBNe, Int.reduceToNat, Int.reduceAdd, Int.reduceNeg, Int.reduceSub, eEn, oR, h1, h2, h3, enE, c49_1, wrap_i64]
      | false =>
        cases h4 : out (-1) 198 x.far with
        | true => simp (disch := omega) only [go_sem, ↓reduceIte, Nat.reduceBEq, Nat.reduceEqDiff, Nat.reduceLT, Nat.reduceLeDiff, Nat.reduceAdd, Nat.reduceMul, Nat.reduceSub, reduceCtorEq, Int.reduceLT, Int.reduceLE, Int.reduceEq, Int.reduceBEq, Int.reduceBNe, Int.reduceToNat, Int.reduceAdd, Int.reduceNeg, Int.reduceSub, eEn, oR, h1, h2, h3, h4, enE, c49_1, wrap_i64]
        | false => simp (disch := omega) only [go_sem, ↓reduceIte, Nat.reduceBEq, Nat.reduceEqDiff, Nat.reduceLT, Nat.reduceLeDiff, Nat.reduceAdd, Nat.reduceMul, Nat.reduceSub, reduceCtorEq, Int.reduceLT, Int.reduceLE, Int.reduceEq, Int.reduceBEq, Int.reduceBNe, Int.reduceToNat, Int.reduceAdd, Int.reduceNeg, Int.reduceSub, eEn, oR, h1, h2, h3, h4, enE, c49_1, wrap_i64]

theorem c16 (d : Ho) (hd : d.fits) (h : Heap) : callPure (EW tabX) 16 [eH d] h = some (tup3 (checkH d), h) := by
  rw [callPure_eq, w_call _ fn_16 rfl]
  unfold checkH
  cases h1 : out 1 3 d.days with
  | true => simp only [go_sem, ↓reduceIte, Nat.reduceBEq, Nat.reduceEqDiff, Nat.reduceLT, Nat.reduceLeDiff, Nat.reduceAdd, Nat.reduceMul, Nat.reduceSub, reduceCtorEq, Int.reduceLT, Int.reduceLE, Int.reduceEq, Int.reduceBEq, Int.reduceBNe, Int.reduceToNat, Int.reduceAdd, Int.reduceNeg, Int.reduceSub, eH, eHc, c49_1, h1, tup3]
  | false =>
    have hday : 1 ≤ d.days ∧ d.days ≤ 3 := by simp [out] at h1; exact ⟨h1.1, h1.2⟩
    by_cases h2 : (d.rates.length : Int) = d.days
    · have h2b : ((d.rates.length : Int) != d.days) = false := by simp [h2]
      have h50 : ∀ h, callPure (EW tabX) 50 [.lst 0 d.zr (d.rates.map eSp), .clo 51 [] []] h = some (atE (rateE d) d.rates.length, h) := fun h => pure_of (c50 51 [] d.rates 0 d.zr hd.zr ⟨[], []⟩ hd.lr (rateE d) (fun k s hx u => by
        have := c51 k s ⟨[] ++ u, []⟩
        simp only [go_sem, ↓reduceIte, Nat.reduceBEq, Nat.reduceEqDiff, Nat.reduceLT, Nat.reduceLeDiff, Nat.reduceAdd, Nat.reduceMul, Nat.reduceSub, reduceCtorEq, Int.reduceLT, Int.reduceLE, Int.reduceEq, Int.reduceBEq, Int.reduceBNe, Int.reduceToNat, Int.reduceAdd, Int.reduceNeg, Int.reduceSub, eSp] at this ⊢
        rw [this, rateE, hx])) (atE_clean _ _)
      cases h3 : firstBad (rateE d) 0 d.rates.length with
      | some n =>
        have hne : (rateE d n != 0) = true := by simpa using (firstBad_some h3).2.2.1
        simp only [go_sem, ↓reduceIte, Nat.reduceBEq, Nat.reduceEqDiff, Nat.reduceLT, Nat.reduceLeDiff, Nat.reduceAdd, Nat.reduceMul, Nat.reduceSub, reduceCtorEq, Int.reduceLT, Int.reduceLE, Int.reduceEq, Int.reduceBEq, Int.reduceBNe, Int.reduceToNat, Int.reduceAdd, Int.reduceNeg, Int.reduceSub, eH, eHc, c49_1, h1, tup3, h2b, h50, atE, h3, hne, h2, ne_eq, not_true]
      | none =>
        cases h4 : out 0 20 d.step with
        | true => simp only [go_sem, ↓reduceIte, Nat.reduceBEq, Nat.reduceEqDiff, Nat.reduceLT, Nat.reduceLeDiff, Nat.reduceAdd, Nat.reduceMul, Nat.reduceSub, reduceCtorEq, Int.reduceLT, Int.reduceLE, Int.reduceEq, Int.reduceBEq, Int.reduceBNe, Int.reduceToNat, Int.reduceAdd, Int.reduceNeg, Int.reduceSub, eH, eHc, c49_1, h1, tup3, h2b, h50, atE, h3, h2, ne_eq, not_true, h4]
        | false =>
          by_cases h5 : 3 < d.agents.length
          · have h5i : (3 : Int) < d.agents.length := by omega
            simp only [go_sem, ↓reduceIte, Nat.reduceBEq, Nat.reduceEqDiff, Nat.reduceLT, Nat.reduceLeDiff, Nat.reduceAdd, Nat.reduceMul, Nat.reduceSub, reduceCtorEq, Int.reduceLT, Int.reduceLE, Int.reduceEq, Int.reduceBEq, Int.reduceBNe, Int.reduceToNat, Int.reduceAdd, Int.reduceNeg, Int.reduceSub, eH, eHc, c49_1, h1, tup3, h2b, h50, atE, h3, h2, ne_eq, not_true, h4, h5, h5i]
          · have h5i : ¬ (3 : Int) < d.agents.length := by omega
            have h52 := c52 53 [.ref 0 0] d.agents 0 d.za hd.za ⟨[.cells (eHc d)], []⟩ hd.la (agentE d) (fun k s hx u => by
              have := c53 d hd 0 k s hx ⟨[.cells (eHc d)] ++ u, []⟩ rfl
              simp only [go_sem, ↓reduceIte, Nat.reduceBEq, Nat.reduceEqDiff, Nat.reduceLT, Nat.reduceLeDiff, Nat.reduceAdd, Nat.reduceMul, Nat.reduceSub, reduceCtorEq, Int.reduceLT, Int.reduceLE, Int.reduceEq, Int.reduceBEq, Int.reduceBNe, Int.reduceToNat, Int.reduceAdd, Int.reduceNeg, Int.reduceSub, eAg] at this ⊢
              rw [this, agentE, hx])
            simp only [eHc] at h52
            cases h6 : firstBad (agentE d) 0 d.agents.length with
            | some n =>
              have hne : (agentE d n != 0) = true := by simpa using (firstBad_some h6).2.2.1
              simp only [go_sem, ↓reduceIte, Nat.reduceBEq, Nat.reduceEqDiff, Nat.reduceLT, Nat.reduceLeDiff, Nat.reduceAdd, Nat.reduceMul, Nat.reduceSub, reduceCtorEq, Int.reduceLT, Int.reduceLE, Int.reduceEq, Int.reduceBEq, Int.reduceBNe, Int.reduceToNat, Int.reduceAdd, Int.reduceNeg, Int.reduceSub, eH, eHc, c49_1, h1, tup3, h2b, h50, atE, h3, h2, ne_eq, not_true, h4, h5, h5i, h52, h6, hne]
            | none =>
              by_cases h7 : 5 < d.entries.length
              · have h7i : (5 : Int) < d.entries.length := by omega
                simp only [go_sem, ↓reduceIte, Nat.reduceBEq, Nat.reduceEqDiff, Nat.reduceLT, Nat.reduceLeDiff, Nat.reduceAdd, Nat.reduceMul, Nat.reduceSub, reduceCtorEq, Int.reduceLT, Int.reduceLE, Int.reduceEq, Int.reduceBEq, Int.reduceBNe, Int.reduceToNat, Int.reduceAdd, Int.reduceNeg, Int.reduceSub, eH, eHc, c49_1, h1, tup3, h2b, h50, atE, h3, h2, ne_eq, not_true, h4, h5, h5i, h52, h6, h7, h7i]
              · have h7i : ¬ (5 : Int) < d.entries.length := by omega
                have h57 := c57 58 [.ref 0 0] d.entries 0 d.ze hd.ze ⟨[.cells (eHc d)], []⟩ hd.le (entryE d) (fun k s hx u => by
                  have := c58 d hd hday 0 k s ⟨[.cells (eHc d)] ++ u, []⟩ rfl
                  simp only [go_sem, ↓reduceIte, Nat.reduceBEq, Nat.reduceEqDiff, Nat.reduceLT, Nat.reduceLeDiff, Nat.reduceAdd, Nat.reduceMul, Nat.reduceSub, reduceCtorEq, Int.reduceLT, Int.reduceLE, Int.reduceEq, Int.reduceBEq, Int.reduceBNe, Int.reduceToNat, Int.reduceAdd, Int.reduceNeg, Int.reduceSub, eEn] at this ⊢
                  rw [this, entryE, hx])
                simp only [eHc] at h57
                cases h8 : firstBad (entryE d) 0 d.entries.length with
                | some n =>
                  have hne : (entryE d n != 0) = true := by simpa using (firstBad_some h8).2.2.1
                  simp only [go_sem, ↓reduceIte, Nat.reduceBEq, Nat.reduceEqDiff, Nat.reduceLT, Nat.reduceLeDiff, Nat.reduceAdd, Nat.reduceMul, Nat.reduceSub, reduceCtorEq, Int.reduceLT, Int.reduceLE, Int.reduceEq, Int.reduceBEq, Int.reduceBNe, Int.reduceToNat, Int.reduceAdd, Int.reduceNeg, Int.reduceSub, eH, eHc, c49_1, h1, tup3, h2b, h50, atE, h3, h2, ne_eq, not_true, h4, h5, h5i, h52, h6, h7, h7i, h57, h8, hne]
                | none => simp only [go_sem, ↓reduceIte, Nat.reduceBEq, Nat.reduceEqDiff, Nat.reduceLT, Nat.reduceLeDiff, Nat.reduceAdd, Nat.reduceMul, Nat.reduceSub, reduceCtorEq, Int.reduceLT, Int.reduceLE, Int.reduceEq, Int.reduceBEq, Int.reduceBNe, Int.reduceToNat, Int.reduceAdd, Int.reduceNeg, Int.reduceSub, eH, eHc, c49_1, h1, tup3, h2b, h50, atE, h3, h2, ne_eq, not_true, h4, h5, h5i, h52, h6, h7, h7i, h57, h8, bne_self_eq_false]
    · have h2b : ((d.rates.length : Int) != d.days) = true := by simpa using h2
      simp only [go_sem, ↓reduceIte, Nat.reduceBEq, Nat.reduceEqDiff, Nat.reduceLT, Nat.reduceLeDiff, Nat.reduceAdd, Nat.reduceMul, Nat.reduceSub, reduceCtorEq, Int.reduceLT, Int.reduceLE, Int.reduceEq, Int.reduceBEq, Int.reduceBNe, Int.reduceToNat, Int.reduceAdd, Int.reduceNeg, Int.reduceSub, eH, eHc, c49_1, h1, tup3, h2b, h2, ne_eq, not_false_eq_true]
end Go.Proofs.Ytaohhjaogjcfoaa
end
section
namespace Go.Proofs.Ytaohhjaogjcfoaa
open Go.ChangeShapes Go.WideShapes Go.RowKit Go.Proofs

theorem cells3 : Try.prog.cellsOf 3 = 1 := by kernel_rfl
theorem cells26 : Try.prog.cellsOf 26 = 5 := by kernel_rfl
theorem cells72 : Try.prog.cellsOf 72 = 3 := by kernel_rfl
theorem cells58 : Try.prog.cellsOf 58 = 4 := by kernel_rfl
theorem cells35 : Try.prog.cellsOf 35 = 2 := by kernel_rfl
theorem cells9 : Try.prog.cellsOf 9 = 1 := by kernel_rfl
theorem cells22 : Try.prog.cellsOf 22 = 1 := by kernel_rfl
theorem cells23 : Try.prog.cellsOf 23 = 1 := by kernel_rfl
theorem cells24 : Try.prog.cellsOf 24 = 1 := by kernel_rfl
theorem cells5 : Try.prog.cellsOf 5 = 1 := by kernel_rfl
theorem bytes72 : Try.prog.bytesOf 72 = 32 := by kernel_rfl
theorem bytes58 : Try.prog.bytesOf 58 = 32 := by kernel_rfl
theorem bytes35 : Try.prog.bytesOf 35 = 16 := by kernel_rfl

section
variable {H : Type} {enc : TypeId × Value → H} {W : World}
set_option maxRecDepth 100000 in
theorem rd_span (n : Nat) (cs : List Value) (d : DataW H) (ps : List MemPlace) (hl : cs.length = 2) (h : DataW.trod enc Try.prog W 0 (fun _ => true) true n 35 cs = some (d, ps)) (hw : Light Try.prog 35 d) :
    ∃ y : Int × Int, (True) ∧ Rv (Ctx.start tabX W) (eSp y) (eVal true cs) ∧ (eVal true cs).cells = cs.toArray := by
  obtain ⟨xs, m, rfl, hx, _, hlen, hf⟩ := DataW.trod_struct Try.underlying35 h
  simp only [Prod.mk.injEq] at hx
  obtain ⟨rfl, _⟩ := hx
  obtain ⟨c0, c1, rfl⟩ : ∃ c0 c1, cs = [c0, c1] := by
    match cs, hl with
    | [c0, c1], _ => exact ⟨c0, c1, rfl⟩
  have l0 : xs.length = 2 := by rw [hlen]; rfl
  have g0 : DataW.trod enc Try.prog W 0 (fun _ => true) true m 3 ((([c0, c1] : List Value).drop 0).take (Try.prog.cellsOf 3)) = xs[0]? := hf 0 _ rfl
  have g1 : DataW.trod enc Try.prog W 0 (fun _ => true) true m 3 ((([c0, c1] : List Value).drop 1).take (Try.prog.cellsOf 3)) = xs[1]? := hf 1 _ rfl
  rw [cells3, List.getElem?_eq_getElem (by omega)] at g0
  rw [cells3, List.getElem?_eq_getElem (by omega)] at g1
  simp only [List.drop_zero, List.take_succ_cons, List.take_zero, List.drop_succ_cons] at g0 g1
  obtain ⟨n0, e0, _, b0⟩ := DataW.trod_int Try.underlying3 g0
  simp only [List.cons.injEq, and_true] at e0
  subst e0
  obtain ⟨n1, e1, _, b1⟩ := DataW.trod_int Try.underlying3 g1
  simp only [List.cons.injEq, and_true] at e1
  subst e1
  have := reachBytes_lt
  refine ⟨(n0, n1), trivial, ?_, rfl⟩
  refine .agg _ [.int .i64 n0, .int .i64 n1] rfl fun i x hx => ?_
  match i, hx with
  | 0, hx => obtain rfl : AV.int .i64 n0 = x := Option.some.inj hx; exact .int _ _
  | 1, hx => obtain rfl : AV.int .i64 n1 = x := Option.some.inj hx; exact .int _ _
set_option maxRecDepth 100000 in
theorem rd_agent (n : Nat) (cs : List Value) (d : DataW H) (ps : List MemPlace) (hl : cs.length = 3) (h : DataW.trod enc Try.prog W 0 (fun _ => true) true n 72 cs = some (d, ps)) (hw : Light Try.prog 72 d) :
    ∃ y : Ag, (y.name.size < 1000000000000000000) ∧ Rv (Ctx.start tabX W) (eAg y) (eVal true cs) ∧ (eVal true cs).cells = cs.toArray := by
  obtain ⟨xs, m, rfl, hx, _, hlen, hf⟩ := DataW.trod_struct Try.underlying72 h
  simp only [Prod.mk.injEq] at hx
  obtain ⟨rfl, _⟩ := hx
  obtain ⟨c0, c1, c2, rfl⟩ : ∃ c0 c1 c2, cs = [c0, c1, c2] := by
    match cs, hl with
    | [c0, c1, c2], _ => exact ⟨c0, c1, c2, rfl⟩
  have l0 : xs.length = 3 := by rw [hlen]; rfl
  have g0 : DataW.trod enc Try.prog W 0 (fun _ => true) true m 9 ((([c0, c1, c2] : List Value).drop 0).take (Try.prog.cellsOf 9)) = xs[0]? := hf 0 _ rfl
  have g1 : DataW.trod enc Try.prog W 0 (fun _ => true) true m 3 ((([c0, c1, c2] : List Value).drop 1).take (Try.prog.cellsOf 3)) = xs[1]? := hf 1 _ rfl
  have g2 : DataW.trod enc Try.prog W 0 (fun _ => true) true m 3 ((([c0, c1, c2] : List Value).drop 2).take (Try.prog.cellsOf 3)) = xs[2]? := hf 2 _ rfl
  rw [cells9, List.getElem?_eq_getElem (by omega)] at g0
  rw [cells3, List.getElem?_eq_getElem (by omega)] at g1
  rw [cells3, List.getElem?_eq_getElem (by omega)] at g2
  simp only [List.drop_zero, List.take_succ_cons, List.take_zero, List.drop_succ_cons] at g0 g1 g2
  have w0 : Light Try.prog 9 xs[0].1 := light_struct Try.underlying72 hw (i := 0) rfl (d := xs[0].1) (by simp [l0])
  obtain ⟨n0, e0, ex0, _⟩ := DataW.trod_string Try.underlying9 g0
  simp only [List.cons.injEq, and_true] at e0
  subst e0
  have hb0 : n0.size ≤ reachBytes := by
    have := w0 n0.data.toList.length (by rw [ex0]; simp [DataW.weights])
    rw [Array.length_toList] at this; exact this
  obtain ⟨n1, e1, _, b1⟩ := DataW.trod_int Try.underlying3 g1
  simp only [List.cons.injEq, and_true] at e1
  subst e1
  obtain ⟨n2, e2, _, b2⟩ := DataW.trod_int Try.underlying3 g2
  simp only [List.cons.injEq, and_true] at e2
  subst e2
  have := reachBytes_lt
  refine ⟨⟨n0, n1, n2⟩, by show n0.size < _; omega, ?_, rfl⟩
  refine .agg _ [.string n0, .int .i64 n1, .int .i64 n2] rfl fun i x hx => ?_
  match i, hx with
  | 0, hx => obtain rfl : AV.str n0 = x := Option.some.inj hx; exact .str _
  | 1, hx => obtain rfl : AV.int .i64 n1 = x := Option.some.inj hx; exact .int _ _
  | 2, hx => obtain rfl : AV.int .i64 n2 = x := Option.some.inj hx; exact .int _ _
set_option maxRecDepth 100000 in
theorem rd_entry (n : Nat) (cs : List Value) (d : DataW H) (ps : List MemPlace) (hl : cs.length = 4) (h : DataW.trod enc Try.prog W 0 (fun _ => true) true n 58 cs = some (d, ps)) (hw : Light Try.prog 58 d) :
    ∃ y : En, (True) ∧ Rv (Ctx.start tabX W) (eEn y) (eVal true cs) ∧ (eVal true cs).cells = cs.toArray := by
  obtain ⟨xs, m, rfl, hx, _, hlen, hf⟩ := DataW.trod_struct Try.underlying58 h
  simp only [Prod.mk.injEq] at hx
  obtain ⟨rfl, _⟩ := hx
  obtain ⟨c0, c1, c2, c3, rfl⟩ : ∃ c0 c1 c2 c3, cs = [c0, c1, c2, c3] := by
    match cs, hl with
    | [c0, c1, c2, c3], _ => exact ⟨c0, c1, c2, c3, rfl⟩
  have l0 : xs.length = 4 := by rw [hlen]; rfl
  have g0 : DataW.trod enc Try.prog W 0 (fun _ => true) true m 3 ((([c0, c1, c2, c3] : List Value).drop 0).take (Try.prog.cellsOf 3)) = xs[0]? := hf 0 _ rfl
  have g1 : DataW.trod enc Try.prog W 0 (fun _ => true) true m 3 ((([c0, c1, c2, c3] : List Value).drop 1).take (Try.prog.cellsOf 3)) = xs[1]? := hf 1 _ rfl
  have g2 : DataW.trod enc Try.prog W 0 (fun _ => true) true m 3 ((([c0, c1, c2, c3] : List Value).drop 2).take (Try.prog.cellsOf 3)) = xs[2]? := hf 2 _ rfl
  have g3 : DataW.trod enc Try.prog W 0 (fun _ => true) true m 3 ((([c0, c1, c2, c3] : List Value).drop 3).take (Try.prog.cellsOf 3)) = xs[3]? := hf 3 _ rfl
  rw [cells3, List.getElem?_eq_getElem (by omega)] at g0
  rw [cells3, List.getElem?_eq_getElem (by omega)] at g1
  rw [cells3, List.getElem?_eq_getElem (by omega)] at g2
  rw [cells3, List.getElem?_eq_getElem (by omega)] at g3
  simp only [List.drop_zero, List.take_succ_cons, List.take_zero, List.drop_succ_cons] at g0 g1 g2 g3
  obtain ⟨n0, e0, _, b0⟩ := DataW.trod_int Try.underlying3 g0
  simp only [List.cons.injEq, and_true] at e0
  subst e0
  obtain ⟨n1, e1, _, b1⟩ := DataW.trod_int Try.underlying3 g1
  simp only [List.cons.injEq, and_true] at e1
  subst e1
  obtain ⟨n2, e2, _, b2⟩ := DataW.trod_int Try.underlying3 g2
  simp only [List.cons.injEq, and_true] at e2
  subst e2
  obtain ⟨n3, e3, _, b3⟩ := DataW.trod_int Try.underlying3 g3
  simp only [List.cons.injEq, and_true] at e3
  subst e3
  have := reachBytes_lt
  refine ⟨⟨n0, n1, n2, n3⟩, trivial, ?_, rfl⟩
  refine .agg _ [.int .i64 n0, .int .i64 n1, .int .i64 n2, .int .i64 n3] rfl fun i x hx => ?_
  match i, hx with
  | 0, hx => obtain rfl : AV.int .i64 n0 = x := Option.some.inj hx; exact .int _ _
  | 1, hx => obtain rfl : AV.int .i64 n1 = x := Option.some.inj hx; exact .int _ _
  | 2, hx => obtain rfl : AV.int .i64 n2 = x := Option.some.inj hx; exact .int _ _
  | 3, hx => obtain rfl : AV.int .i64 n3 = x := Option.some.inj hx; exact .int _ _
set_option maxRecDepth 100000 in
theorem rd_hos {v : Value} {d : DataW H} {ps : List MemPlace} {b0 : Nat} (hv : Value.okWide Try.prog W .any b0 26 v) (h : DataW.Trod enc Try.prog W 0 (fun _ => true) true 26 v d ps) (hw : Light Try.prog 26 d) :
    ∃ y : Ho, (y.fits ∧ y.entries.length < 4398046511104) ∧ Rv (Ctx.start tabX W) (eH y) v := by
  obtain ⟨cs, rfl, hsz⟩ := okWide_struct Try.underlying26 hv
  rw [cells26] at hsz
  obtain ⟨n, hn⟩ := h
  obtain ⟨xs, m, rfl, hx, _, hlen, hf⟩ := DataW.trod_struct Try.underlying26 hn
  simp only [Prod.mk.injEq] at hx
  obtain ⟨rfl, _⟩ := hx
  simp only [Value.cells] at hf
  obtain ⟨c0, c1, c2, c3, c4, rfl⟩ : ∃ a b c d e, cs = #[a, b, c, d, e] := by
    obtain ⟨l⟩ := cs
    match l, hsz with
    | [a, b, c, d, e], _ => exact ⟨a, b, c, d, e, rfl⟩
  have l5 : xs.length = 5 := by rw [hlen]; rfl
  have g0 : DataW.trod enc Try.prog W 0 (fun _ => true) true m 3 ((([c0, c1, c2, c3, c4] : List Value).drop 0).take (Try.prog.cellsOf 3)) = xs[0]? := hf 0 _ rfl
  have g1 : DataW.trod enc Try.prog W 0 (fun _ => true) true m 22 ((([c0, c1, c2, c3, c4] : List Value).drop 1).take (Try.prog.cellsOf 22)) = xs[1]? := hf 1 _ rfl
  have g2 : DataW.trod enc Try.prog W 0 (fun _ => true) true m 3 ((([c0, c1, c2, c3, c4] : List Value).drop 2).take (Try.prog.cellsOf 3)) = xs[2]? := hf 2 _ rfl
  have g3 : DataW.trod enc Try.prog W 0 (fun _ => true) true m 23 ((([c0, c1, c2, c3, c4] : List Value).drop 3).take (Try.prog.cellsOf 23)) = xs[3]? := hf 3 _ rfl
  have g4 : DataW.trod enc Try.prog W 0 (fun _ => true) true m 24 ((([c0, c1, c2, c3, c4] : List Value).drop 4).take (Try.prog.cellsOf 24)) = xs[4]? := hf 4 _ rfl
  have w1 : Light Try.prog 22 xs[1].1 := light_struct Try.underlying26 hw (i := 1) rfl (d := xs[1].1) (by simp [l5])
  have w3 : Light Try.prog 23 xs[3].1 := light_struct Try.underlying26 hw (i := 3) rfl (d := xs[3].1) (by simp [l5])
  have w4 : Light Try.prog 24 xs[4].1 := light_struct Try.underlying26 hw (i := 4) rfl (d := xs[4].1) (by simp [l5])
  rw [cells3] at g0 g2
  rw [cells22] at g1
  rw [cells23] at g3
  rw [cells24] at g4
  rw [List.getElem?_eq_getElem (by omega)] at g0 g1 g2 g3 g4
  simp only [List.drop_zero, List.take_succ_cons, List.take_zero, List.drop_succ_cons] at g0 g1 g2 g3 g4
  obtain ⟨n0, e0, _, _⟩ := DataW.trod_int Try.underlying3 g0
  obtain ⟨n2, e2, _, _⟩ := DataW.trod_int Try.underlying3 g2
  simp only [List.cons.injEq, and_true] at e0 e2
  subst e0; subst e2
  obtain ⟨lr, zr, v1, e1, r1, z1, b1, q1⟩ := rd_slice (X := tabX) eSp (fun y => True) true 2 cells35 (by omega) (.inl rfl) Try.underlying22 rd_span (ps := xs[1].2) g1 w1
  obtain ⟨la, za, v3, e3, r3, z3, b3, q3⟩ := rd_slice (X := tabX) eAg (fun y => y.name.size < 1000000000000000000) true 3 cells72 (by omega) (.inl rfl) Try.underlying23 rd_agent (ps := xs[3].2) g3 w3
  obtain ⟨le, ze, v4, e4, r4, z4, b4, q4⟩ := rd_slice (X := tabX) eEn (fun y => True) true 4 cells58 (by omega) (.inl rfl) Try.underlying24 rd_entry (ps := xs[4].2) g4 w4
  simp only [List.cons.injEq, and_true] at e1 e3 e4
  subst e1; subst e3; subst e4
  rw [bytes35] at b1
  rw [bytes72] at b3
  rw [bytes58] at b4
  have := reachBytes_lt
  refine ⟨⟨n0, lr, n2, la, le, 2, 3, 4⟩, ⟨⟨fun _ => rfl, fun _ => rfl, fun _ => rfl, by simp only; omega, by simp only; omega, by simp only; omega, q3⟩, by simp only; omega⟩, ?_⟩
  refine .agg _ [.int .i64 n0, _, .int .i64 n2, _, _] rfl fun i x hx => ?_
  match i, hx with
  | 0, hx => obtain rfl : AV.int .i64 n0 = x := Option.some.inj hx; exact .int _ _
  | 1, hx => obtain rfl : AV.lst 0 2 (lr.map eSp) = x := Option.some.inj hx; exact rv_sz r1 z1
  | 2, hx => obtain rfl : AV.int .i64 n2 = x := Option.some.inj hx; exact .int _ _
  | 3, hx => obtain rfl : AV.lst 0 3 (la.map eAg) = x := Option.some.inj hx; exact rv_sz r3 z3
  | 4, hx => obtain rfl : AV.lst 0 4 (le.map eEn) = x := Option.some.inj hx; exact rv_sz r4 z4
set_option maxRecDepth 100000 in
theorem rd_ho {v : Value} {d : DataW H} {ps : List MemPlace} {b0 : Nat} (hv : Value.okWide Try.prog W .any b0 26 v) (h : DataW.Trod enc Try.prog W 0 (fun _ => true) true 26 v d ps) (hw : Light Try.prog 26 d) :
    ∃ y : Ho, y.fits ∧ Rv (Ctx.start tabX W) (eH y) v := by
  obtain ⟨y, h1, h2⟩ := rd_hos hv h hw
  exact ⟨y, h1.1, h2⟩
set_option maxRecDepth 100000 in
theorem rd_int' {k : IntKind} {t : TypeId} (hu : Try.prog.underlying t = some (.int k)) {v : Value} {d : DataW H} {ps : List MemPlace} {b0 : Nat} (hv : Value.okWide Try.prog W .any b0 t v) (h : DataW.Trod enc Try.prog W 0 (fun _ => true) true t v d ps) :
    ∃ y : Int, (Lit.int k y).wf = true ∧ Rv (Ctx.start tabX W) (.int k y) v := by
  obtain ⟨y, rfl, _, _, hw⟩ := open_int hu hv h
  exact ⟨y, hw, .int k y⟩
set_option maxRecDepth 100000 in
theorem rd_int0 {v : Value} {d : DataW H} {ps : List MemPlace} {b0 : Nat} (hv : Value.okWide Try.prog W .any b0 3 v) (h : DataW.Trod enc Try.prog W 0 (fun _ => true) true 3 v d ps) (_ : Light Try.prog 3 d) :
    ∃ y : Int, (-9223372036854775808 ≤ y ∧ y ≤ 9223372036854775807) ∧ Rv (Ctx.start tabX W) (.int .i64 y) v := by
  obtain ⟨y, hw, hr⟩ := rd_int' Try.underlying3 hv h
  exact ⟨y, bounds_i64 hw, hr⟩
set_option maxRecDepth 100000 in
theorem rd_u8 {v : Value} {d : DataW H} {ps : List MemPlace} {b0 : Nat} (hv : Value.okWide Try.prog W .any b0 5 v) (h : DataW.Trod enc Try.prog W 0 (fun _ => true) true 5 v d ps) (_ : Light Try.prog 5 d) :
    ∃ y : Int, (0 ≤ y ∧ y ≤ 255) ∧ Rv (Ctx.start tabX W) (.int .u8 y) v := by
  obtain ⟨y, hw, hr⟩ := rd_int' Try.underlying5 hv h
  exact ⟨y, bounds_u8 hw, hr⟩
set_option maxRecDepth 100000 in
theorem rd_u16 {v : Value} {d : DataW H} {ps : List MemPlace} {b0 : Nat} (hv : Value.okWide Try.prog W .any b0 52 v) (h : DataW.Trod enc Try.prog W 0 (fun _ => true) true 52 v d ps) (_ : Light Try.prog 52 d) :
    ∃ y : Int, (0 ≤ y ∧ y ≤ 65535) ∧ Rv (Ctx.start tabX W) (.int .u16 y) v := by
  obtain ⟨y, hw, hr⟩ := rd_int' Try.underlying52 hv h
  exact ⟨y, bounds_u16 hw, hr⟩
set_option maxRecDepth 100000 in
theorem rd_arr3 {v : Value} {d : DataW H} {ps : List MemPlace} {b0 : Nat} (hv : Value.okWide Try.prog W .any b0 40 v) (h : DataW.Trod enc Try.prog W 0 (fun _ => true) true 40 v d ps) (_ : Light Try.prog 40 d) :
    ∃ y : Int × Int × Int, ((-9223372036854775808 ≤ y.1 ∧ y.1 ≤ 9223372036854775807) ∧ (-9223372036854775808 ≤ y.2.1 ∧ y.2.1 ≤ 9223372036854775807) ∧ (-9223372036854775808 ≤ y.2.2 ∧ y.2.2 ≤ 9223372036854775807)) ∧ Rv (Ctx.start tabX W) (.agg [.int .i64 y.1, .int .i64 y.2.1, .int .i64 y.2.2]) v := by
  obtain ⟨cs, rfl, hsz⟩ : ∃ cs, v = .agg cs ∧ cs.size = Try.prog.cellsOf 40 := by
    simp only [Value.okWide, Try.underlying40] at hv
    obtain ⟨cs, h1, h2, _⟩ := hv
    exact ⟨cs, h1, h2⟩
  rw [show Try.prog.cellsOf 40 = 3 by kernel_rfl] at hsz
  obtain ⟨n, hn⟩ := h
  obtain ⟨xs, m, rfl, hx, _, hlen, hf⟩ := DataW.trod_array Try.underlying40 hn
  simp only [Value.cells] at hf
  obtain ⟨c0, c1, c2, rfl⟩ : ∃ c0 c1 c2, cs = #[c0, c1, c2] := by
    obtain ⟨l⟩ := cs
    match l, hsz with
    | [c0, c1, c2], _ => exact ⟨c0, c1, c2, rfl⟩
  have g0 := hf 0 (by omega)
  have g1 := hf 1 (by omega)
  have g2 := hf 2 (by omega)
  rw [cells3] at g0 g1 g2
  rw [List.getElem?_eq_getElem (by omega)] at g0
  rw [List.getElem?_eq_getElem (by omega)] at g1
  rw [List.getElem?_eq_getElem (by omega)] at g2
  simp only [Nat.zero_mul, Nat.one_mul, Nat.mul_one, List.drop_zero, List.take_succ_cons, List.take_zero, List.drop_succ_cons] at g0 g1 g2
  obtain ⟨n0, e0, _, b0⟩ := DataW.trod_int Try.underlying3 g0
  simp only [List.cons.injEq, and_true] at e0
  subst e0
  obtain ⟨n1, e1, _, b1⟩ := DataW.trod_int Try.underlying3 g1
  simp only [List.cons.injEq, and_true] at e1
  subst e1
  obtain ⟨n2, e2, _, b2⟩ := DataW.trod_int Try.underlying3 g2
  simp only [List.cons.injEq, and_true] at e2
  subst e2
  refine ⟨(n0, n1, n2), ⟨bounds_i64 b0, bounds_i64 b1, bounds_i64 b2⟩, .agg _ [.int .i64 n0, .int .i64 n1, .int .i64 n2] rfl fun i x hx => ?_⟩
  match i, hx with
  | 0, hx => obtain rfl : AV.int .i64 n0 = x := Option.some.inj hx; exact .int _ _
  | 1, hx => obtain rfl : AV.int .i64 n1 = x := Option.some.inj hx; exact .int _ _
  | 2, hx => obtain rfl : AV.int .i64 n2 = x := Option.some.inj hx; exact .int _ _
set_option maxRecDepth 100000 in
theorem rd_arr2 {v : Value} {d : DataW H} {ps : List MemPlace} {b0 : Nat} (hv : Value.okWide Try.prog W .any b0 47 v) (h : DataW.Trod enc Try.prog W 0 (fun _ => true) true 47 v d ps) (_ : Light Try.prog 47 d) :
    ∃ y : Int × Int, ((-9223372036854775808 ≤ y.1 ∧ y.1 ≤ 9223372036854775807) ∧ (-9223372036854775808 ≤ y.2 ∧ y.2 ≤ 9223372036854775807)) ∧ Rv (Ctx.start tabX W) (.agg [.int .i64 y.1, .int .i64 y.2]) v := by
  obtain ⟨cs, rfl, hsz⟩ : ∃ cs, v = .agg cs ∧ cs.size = Try.prog.cellsOf 47 := by
    simp only [Value.okWide, Try.underlying47] at hv
    obtain ⟨cs, h1, h2, _⟩ := hv
    exact ⟨cs, h1, h2⟩
  rw [show Try.prog.cellsOf 47 = 2 by kernel_rfl] at hsz
  obtain ⟨n, hn⟩ := h
  obtain ⟨xs, m, rfl, hx, _, hlen, hf⟩ := DataW.trod_array Try.underlying47 hn
  simp only [Value.cells] at hf
  obtain ⟨c0, c1, rfl⟩ : ∃ c0 c1, cs = #[c0, c1] := by
    obtain ⟨l⟩ := cs
    match l, hsz with
    | [c0, c1], _ => exact ⟨c0, c1, rfl⟩
  have g0 := hf 0 (by omega)
  have g1 := hf 1 (by omega)
  rw [cells3] at g0 g1
  rw [List.getElem?_eq_getElem (by omega)] at g0
  rw [List.getElem?_eq_getElem (by omega)] at g1
  simp only [Nat.zero_mul, Nat.one_mul, Nat.mul_one, List.drop_zero, List.take_succ_cons, List.take_zero, List.drop_succ_cons] at g0 g1
  obtain ⟨n0, e0, _, b0⟩ := DataW.trod_int Try.underlying3 g0
  simp only [List.cons.injEq, and_true] at e0
  subst e0
  obtain ⟨n1, e1, _, b1⟩ := DataW.trod_int Try.underlying3 g1
  simp only [List.cons.injEq, and_true] at e1
  subst e1
  refine ⟨(n0, n1), ⟨bounds_i64 b0, bounds_i64 b1⟩, .agg _ [.int .i64 n0, .int .i64 n1] rfl fun i x hx => ?_⟩
  match i, hx with
  | 0, hx => obtain rfl : AV.int .i64 n0 = x := Option.some.inj hx; exact .int _ _
  | 1, hx => obtain rfl : AV.int .i64 n1 = x := Option.some.inj hx; exact .int _ _
set_option maxRecDepth 100000 in
theorem rd_arr2u8 {v : Value} {d : DataW H} {ps : List MemPlace} {b0 : Nat} (hv : Value.okWide Try.prog W .any b0 66 v) (h : DataW.Trod enc Try.prog W 0 (fun _ => true) true 66 v d ps) (_ : Light Try.prog 66 d) :
    ∃ y : Int × Int, ((0 ≤ y.1 ∧ y.1 ≤ 255) ∧ (0 ≤ y.2 ∧ y.2 ≤ 255)) ∧ Rv (Ctx.start tabX W) (.agg [.int .u8 y.1, .int .u8 y.2]) v := by
  obtain ⟨cs, rfl, hsz⟩ : ∃ cs, v = .agg cs ∧ cs.size = Try.prog.cellsOf 66 := by
    simp only [Value.okWide, Try.underlying66] at hv
    obtain ⟨cs, h1, h2, _⟩ := hv
    exact ⟨cs, h1, h2⟩
  rw [show Try.prog.cellsOf 66 = 2 by kernel_rfl] at hsz
  obtain ⟨n, hn⟩ := h
  obtain ⟨xs, m, rfl, hx, _, hlen, hf⟩ := DataW.trod_array Try.underlying66 hn
  simp only [Value.cells] at hf
  obtain ⟨c0, c1, rfl⟩ : ∃ c0 c1, cs = #[c0, c1] := by
    obtain ⟨l⟩ := cs
    match l, hsz with
    | [c0, c1], _ => exact ⟨c0, c1, rfl⟩
  have g0 := hf 0 (by omega)
  have g1 := hf 1 (by omega)
  rw [cells5] at g0 g1
  rw [List.getElem?_eq_getElem (by omega)] at g0
  rw [List.getElem?_eq_getElem (by omega)] at g1
  simp only [Nat.zero_mul, Nat.one_mul, Nat.mul_one, List.drop_zero, List.take_succ_cons, List.take_zero, List.drop_succ_cons] at g0 g1
  obtain ⟨n0, e0, _, b0⟩ := DataW.trod_int Try.underlying5 g0
  simp only [List.cons.injEq, and_true] at e0
  subst e0
  obtain ⟨n1, e1, _, b1⟩ := DataW.trod_int Try.underlying5 g1
  simp only [List.cons.injEq, and_true] at e1
  subst e1
  refine ⟨(n0, n1), ⟨bounds_u8 b0, bounds_u8 b1⟩, .agg _ [.int .u8 n0, .int .u8 n1] rfl fun i x hx => ?_⟩
  match i, hx with
  | 0, hx => obtain rfl : AV.int .u8 n0 = x := Option.some.inj hx; exact .int _ _
  | 1, hx => obtain rfl : AV.int .u8 n1 = x := Option.some.inj hx; exact .int _ _
set_option maxRecDepth 100000 in
theorem rd_arr4u8 {v : Value} {d : DataW H} {ps : List MemPlace} {b0 : Nat} (hv : Value.okWide Try.prog W .any b0 74 v) (h : DataW.Trod enc Try.prog W 0 (fun _ => true) true 74 v d ps) (_ : Light Try.prog 74 d) :
    ∃ y : Int × Int × Int × Int, ((0 ≤ y.1 ∧ y.1 ≤ 255) ∧ (0 ≤ y.2.1 ∧ y.2.1 ≤ 255) ∧ (0 ≤ y.2.2.1 ∧ y.2.2.1 ≤ 255) ∧ (0 ≤ y.2.2.2 ∧ y.2.2.2 ≤ 255)) ∧ Rv (Ctx.start tabX W) (.agg [.int .u8 y.1, .int .u8 y.2.1, .int .u8 y.2.2.1, .int .u8 y.2.2.2]) v := by
  obtain ⟨cs, rfl, hsz⟩ : ∃ cs, v = .agg cs ∧ cs.size = Try.prog.cellsOf 74 := by
    simp only [Value.okWide, Try.underlying74] at hv
    obtain ⟨cs, h1, h2, _⟩ := hv
    exact ⟨cs, h1, h2⟩
  rw [show Try.prog.cellsOf 74 = 4 by kernel_rfl] at hsz
  obtain ⟨n, hn⟩ := h
  obtain ⟨xs, m, rfl, hx, _, hlen, hf⟩ := DataW.trod_array Try.underlying74 hn
  simp only [Value.cells] at hf
  obtain ⟨c0, c1, c2, c3, rfl⟩ : ∃ c0 c1 c2 c3, cs = #[c0, c1, c2, c3] := by
    obtain ⟨l⟩ := cs
    match l, hsz with
    | [c0, c1, c2, c3], _ => exact ⟨c0, c1, c2, c3, rfl⟩
  have g0 := hf 0 (by omega)
  have g1 := hf 1 (by omega)
  have g2 := hf 2 (by omega)
  have g3 := hf 3 (by omega)
  rw [cells5] at g0 g1 g2 g3
  rw [List.getElem?_eq_getElem (by omega)] at g0
  rw [List.getElem?_eq_getElem (by omega)] at g1
  rw [List.getElem?_eq_getElem (by omega)] at g2
  rw [List.getElem?_eq_getElem (by omega)] at g3
  simp only [Nat.zero_mul, Nat.one_mul, Nat.mul_one, List.drop_zero, List.take_succ_cons, List.take_zero, List.drop_succ_cons] at g0 g1 g2 g3
  obtain ⟨n0, e0, _, b0⟩ := DataW.trod_int Try.underlying5 g0
  simp only [List.cons.injEq, and_true] at e0
  subst e0
  obtain ⟨n1, e1, _, b1⟩ := DataW.trod_int Try.underlying5 g1
  simp only [List.cons.injEq, and_true] at e1
  subst e1
  obtain ⟨n2, e2, _, b2⟩ := DataW.trod_int Try.underlying5 g2
  simp only [List.cons.injEq, and_true] at e2
  subst e2
  obtain ⟨n3, e3, _, b3⟩ := DataW.trod_int Try.underlying5 g3
  simp only [List.cons.injEq, and_true] at e3
  subst e3
  refine ⟨(n0, n1, n2, n3), ⟨bounds_u8 b0, bounds_u8 b1, bounds_u8 b2, bounds_u8 b3⟩, .agg _ [.int .u8 n0, .int .u8 n1, .int .u8 n2, .int .u8 n3] rfl fun i x hx => ?_⟩
  match i, hx with
  | 0, hx => obtain rfl : AV.int .u8 n0 = x := Option.some.inj hx; exact .int _ _
  | 1, hx => obtain rfl : AV.int .u8 n1 = x := Option.some.inj hx; exact .int _ _
  | 2, hx => obtain rfl : AV.int .u8 n2 = x := Option.some.inj hx; exact .int _ _
  | 3, hx => obtain rfl : AV.int .u8 n3 = x := Option.some.inj hx; exact .int _ _
set_option maxRecDepth 100000 in
theorem rd_en {v : Value} {d : DataW H} {ps : List MemPlace} {b0 : Nat} (hv : Value.okWide Try.prog W .any b0 58 v) (h : DataW.Trod enc Try.prog W 0 (fun _ => true) true 58 v d ps) (hw : Light Try.prog 58 d) :
    ∃ y : En, True ∧ Rv (Ctx.start tabX W) (eEn y) v := by
  obtain ⟨cs, rfl, hsz⟩ := okWide_struct Try.underlying58 hv
  rw [cells58] at hsz
  obtain ⟨n, hn⟩ := h
  obtain ⟨y, hy, hr, _⟩ := rd_entry n cs.toList d ps (by simpa using hsz) hn hw
  exact ⟨y, hy, by simpa [eVal] using hr⟩
end
end Go.Proofs.Ytaohhjaogjcfoaa
end
section
namespace Go.Proofs.Ytaohhjaogjcfoaa
open Go.Proofs

theorem findIdx_eq {α : Type} {l : List α} {p : α → Bool} {n : Nat} (hn : n < l.length) (h : l.findIdx p = n) : p l[n] = true := by
  subst h; exact List.findIdx_getElem
theorem c94 (l : List ByteArray) (s : ByteArray) (z : Nat) (hz : l ≠ [] → z = 1) (hl : l.length < 1000000000000000000) (h : Heap) :
   callPure (EW tabX) 94 [.lst 0 z (S l), .str s] h = some (.int .i64 (if l.findIdx (fun x => x == s) < l.length then l.findIdx (fun x => x == s) else -1), h) := by
  rw [callPure_eq, w_call _ fn_94 rfl]
  simp only [go_sem, ↓reduceIte, Nat.reduceBEq, Nat.reduceEqDiff, Nat.reduceLT, Nat.reduceLeDiff, Nat.reduceAdd, Nat.reduceMul, Nat.reduceSub, reduceCtorEq, Int.reduceLT, Int.reduceLE, Int.reduceEq, Int.reduceBEq, Int.reduceBNe, Int.reduceToNat, Int.reduceAdd, Int.reduceNeg, Int.reduceSub]
  rw [w_rounds_u (fun k => [(5, .int .i64 k)]) (l.findIdx (fun x => x == s)) (.exit 0) [(5, .int .i64 (l.findIdx (fun x => x == s)))] ?_ ?_ ?_ rfl]
  · by_cases hf : l.findIdx (fun x => x == s) < l.length
    · have hne : (((l.findIdx (fun x => x == s) : Nat) : Int) == (l.length : Int)) = false := by simp; omega
      simp only [go_sem, ↓reduceIte, Nat.reduceBEq, Nat.reduceEqDiff, Nat.reduceLT, Nat.reduceLeDiff, Nat.reduceAdd, Nat.reduceMul, Nat.reduceSub, reduceCtorEq, Int.reduceLT, Int.reduceLE, Int.reduceEq, Int.reduceBEq, Int.reduceBNe, Int.reduceToNat, Int.reduceAdd, Int.reduceNeg, Int.reduceSub, hne, hf]
    · have hn : l.findIdx (fun x => x == s) = l.length := by have := List.findIdx_le_length (p := fun x => x == s) (xs := l); omega
      simp only [go_sem, ↓reduceIte, Nat.reduceBEq, Nat.reduceEqDiff, Nat.reduceLT, Nat.reduceLeDiff, Nat.reduceAdd, Nat.reduceMul, Nat.reduceSub, reduceCtorEq, Int.reduceLT, Int.reduceLE, Int.reduceEq, Int.reduceBEq, Int.reduceBNe, Int.reduceToNat, Int.reduceAdd, Int.reduceNeg, Int.reduceSub, hn, Nat.lt_irrefl]
  · simp only [go_sem, ↓reduceIte, Nat.reduceBEq, Nat.reduceEqDiff, Nat.reduceLT, Nat.reduceLeDiff, Nat.reduceAdd, Nat.reduceMul, Nat.reduceSub, reduceCtorEq, Int.reduceLT, Int.reduceLE, Int.reduceEq, Int.reduceBEq, Int.reduceBNe, Int.reduceToNat, Int.reduceAdd, Int.reduceNeg, Int.reduceSub]
  · intro k hk
    have hlt : k < l.length := by have := List.findIdx_le_length (p := fun x => x == s) (xs := l); omega
    have hki : (k : Int) < l.length := by omega
    have hx := List.getElem?_eq_getElem hlt
    have hpf : (l[k] == s) = false := by simpa using List.not_of_lt_findIdx hk
    have hz1 := hz (by intro e; rw [e] at hlt; simp at hlt)
    subst hz1
    have hne : (l[k] != s) = true := by simp only [bne, hpf, Bool.not_false]
    simp (disch := omega) only [go_sem, ↓reduceIte, Nat.reduceBEq, Nat.reduceEqDiff, Nat.reduceLT, Nat.reduceLeDiff, Nat.reduceAdd, Nat.reduceMul, Nat.reduceSub, reduceCtorEq, Int.reduceLT, Int.reduceLE, Int.reduceEq, Int.reduceBEq, Int.reduceBNe, Int.reduceToNat, Int.reduceAdd, Int.reduceNeg, Int.reduceSub, hki, hx, hne, wrap_i64]
  · by_cases hf : l.findIdx (fun x => x == s) < l.length
    · have hx := List.getElem?_eq_getElem hf
      have hki : ((l.findIdx (fun x => x == s) : Nat) : Int) < l.length := by omega
      have hpt : (l[l.findIdx (fun x => x == s)] == s) = true := List.findIdx_getElem (p := fun x => x == s)
      have hne : (l[l.findIdx (fun x => x == s)] != s) = false := by simp only [bne, hpt, Bool.not_true]
      have hz1 := hz (by intro e; rw [e] at hf; simp at hf)
      subst hz1
      simp (disch := omega) only [go_sem, ↓reduceIte, Nat.reduceBEq, Nat.reduceEqDiff, Nat.reduceLT, Nat.reduceLeDiff, Nat.reduceAdd, Nat.reduceMul, Nat.reduceSub, reduceCtorEq, Int.reduceLT, Int.reduceLE, Int.reduceEq, Int.reduceBEq, Int.reduceBNe, Int.reduceToNat, Int.reduceAdd, Int.reduceNeg, Int.reduceSub, hki, hx, hne]
    · have hn : l.findIdx (fun x => x == s) = l.length := by have := List.findIdx_le_length (p := fun x => x == s) (xs := l); omega
      simp only [go_sem, ↓reduceIte, Nat.reduceBEq, Nat.reduceEqDiff, Nat.reduceLT, Nat.reduceLeDiff, Nat.reduceAdd, Nat.reduceMul, Nat.reduceSub, reduceCtorEq, Int.reduceLT, Int.reduceLE, Int.reduceEq, Int.reduceBEq, Int.reduceBNe, Int.reduceToNat, Int.reduceAdd, Int.reduceNeg, Int.reduceSub, hn, Int.lt_irrefl]

def fresh (s : ByteArray) (l : List ByteArray) : Int := if nameOk s then (if l.any (fun x => x == s) then 5 else 0) else 6
theorem c60 (l : List ByteArray) (s : ByteArray) (z : Nat) (hz : l ≠ [] → z = 1) (hl : l.length < 1000000000000000000) (hs : s.size < 1000000000000000000) (h : Heap) :
   callPure (EW tabX) 60 [.str s, .lst 0 z (S l)] h = some (.int .i64 (fresh s l), h) := by
  have h73 := c94 l s z hz hl
  have h74 := c95 s hs
  have ha := findIdx_any l (fun x => x == s)
  rw [callPure_eq, w_call _ fn_60 rfl]
  cases h1 : l.any (fun x => x == s) with
  | true =>
    rw [h1] at ha
    cases h2 : nameOk s with
    | true => simp only [go_sem, ↓reduceIte, Nat.reduceBEq, Nat.reduceEqDiff, Nat.reduceLT, Nat.reduceLeDiff, Nat.reduceAdd, Nat.reduceMul, Nat.reduceSub, reduceCtorEq, Int.reduceLT, Int.reduceLE, Int.reduceEq, Int.reduceBEq, Int.reduceBNe, Int.reduceToNat, Int.reduceAdd, Int.reduceNeg, Int.reduceSub, h73, h74, ha, h2, fresh, h1]
    | false => simp only [go_sem, ↓reduceIte, Nat.reduceBEq, Nat.reduceEqDiff, Nat.reduceLT, Nat.reduceLeDiff, Nat.reduceAdd, Nat.reduceMul, Nat.reduceSub, reduceCtorEq, Int.reduceLT, Int.reduceLE, Int.reduceEq, Int.reduceBEq, Int.reduceBNe, Int.reduceToNat, Int.reduceAdd, Int.reduceNeg, Int.reduceSub, h73, h74, ha, h2, fresh, h1]
  | false =>
    rw [h1] at ha
    cases h2 : nameOk s with
    | true => simp only [go_sem, ↓reduceIte, Nat.reduceBEq, Nat.reduceEqDiff, Nat.reduceLT, Nat.reduceLeDiff, Nat.reduceAdd, Nat.reduceMul, Nat.reduceSub, reduceCtorEq, Int.reduceLT, Int.reduceLE, Int.reduceEq, Int.reduceBEq, Int.reduceBNe, Int.reduceToNat, Int.reduceAdd, Int.reduceNeg, Int.reduceSub, h73, h74, ha, h2, fresh, h1]
    | false => simp only [go_sem, ↓reduceIte, Nat.reduceBEq, Nat.reduceEqDiff, Nat.reduceLT, Nat.reduceLeDiff, Nat.reduceAdd, Nat.reduceMul, Nat.reduceSub, reduceCtorEq, Int.reduceLT, Int.reduceLE, Int.reduceEq, Int.reduceBEq, Int.reduceBNe, Int.reduceToNat, Int.reduceAdd, Int.reduceNeg, Int.reduceSub, h73, h74, ha, h2, fresh, h1]

theorem all_succ {α : Type} (p : α → Bool) {l : List α} {k : Nat} {x : α} (h : l[k]? = some x) : (l.take (k + 1)).all p = ((l.take k).all p && p x) := by
  rw [List.take_add_one, h]; simp

theorem c59 (s : Int × Int) (h : Heap) : callPure (EW tabX) 59 [eSp s, .int .i64 1, .int .i64 20] h = some (.int .i64 (spE s), h) := by
  rw [callPure_eq, w_call _ fn_59 rfl]
  have e : ((!inR s.1 1 20) || (!inR s.2 1 20)) = (out 1 20 s.1 || out 1 20 s.2) := by simp only [← out_not, Bool.not_not]
  cases h1 : out 1 20 s.1 || out 1 20 s.2 with
  | true => rw [h1] at e; simp only [go_sem, ↓reduceIte, Nat.reduceBEq, Nat.reduceEqDiff, Nat.reduceLT, Nat.reduceLeDiff, Nat.reduceAdd, Nat.reduceMul, Nat.reduceSub, reduceCtorEq, Int.reduceLT, Int.reduceLE, Int.reduceEq, Int.reduceBEq, Int.reduceBNe, Int.reduceToNat, Int.reduceAdd, Int.reduceNeg, Int.reduceSub, eSp, c46, e, h1, spE]
  | false =>
    rw [h1] at e
    by_cases h2 : s.2 < s.1
    · simp only [go_sem, ↓reduceIte, Nat.reduceBEq, Nat.reduceEqDiff, Nat.reduceLT, Nat.reduceLeDiff, Nat.reduceAdd, Nat.reduceMul, Nat.reduceSub, reduceCtorEq, Int.reduceLT, Int.reduceLE, Int.reduceEq, Int.reduceBEq, Int.reduceBNe, Int.reduceToNat, Int.reduceAdd, Int.reduceNeg, Int.reduceSub, eSp, c46, e, h1, spE, h2]
    · simp only [go_sem, ↓reduceIte, Nat.reduceBEq, Nat.reduceEqDiff, Nat.reduceLT, Nat.reduceLeDiff, Nat.reduceAdd, Nat.reduceMul, Nat.reduceSub, reduceCtorEq, Int.reduceLT, Int.reduceLE, Int.reduceEq, Int.reduceBEq, Int.reduceBNe, Int.reduceToNat, Int.reduceAdd, Int.reduceNeg, Int.reduceSub, eSp, c46, e, h1, spE, h2]
theorem c61 (a : Ag) (h : Heap) : callPure (EW tabX) 61 [eAg a] h = some (.int .i64 (if (out 0 20 a.fee || out 0 2 a.round) = true then 7 else 0), h) := by
  rw [callPure_eq, w_call _ fn_61 rfl]
  have e : ((!inR a.fee 0 20) || (!inR a.round 0 2)) = (out 0 20 a.fee || out 0 2 a.round) := by simp only [← out_not, Bool.not_not]
  cases h1 : out 0 20 a.fee || out 0 2 a.round with
  | true => rw [h1] at e; simp only [go_sem, ↓reduceIte, Nat.reduceBEq, Nat.reduceEqDiff, Nat.reduceLT, Nat.reduceLeDiff, Nat.reduceAdd, Nat.reduceMul, Nat.reduceSub, reduceCtorEq, Int.reduceLT, Int.reduceLE, Int.reduceEq, Int.reduceBEq, Int.reduceBNe, Int.reduceToNat, Int.reduceAdd, Int.reduceNeg, Int.reduceSub, eAg, c46, e]
  | false => rw [h1] at e; simp only [go_sem, ↓reduceIte, Nat.reduceBEq, Nat.reduceEqDiff, Nat.reduceLT, Nat.reduceLeDiff, Nat.reduceAdd, Nat.reduceMul, Nat.reduceSub, reduceCtorEq, Int.reduceLT, Int.reduceLE, Int.reduceEq, Int.reduceBEq, Int.reduceBNe, Int.reduceToNat, Int.reduceAdd, Int.reduceNeg, Int.reduceSub, eAg, c46, e]
def names (l : List Ag) : List ByteArray := l.map (·.name)
theorem names_any (l : List Ag) (s : ByteArray) : (names l).any (fun x => x == s) = l.any (fun y => y.name == s) := by simp [names, List.any_map]; rfl
theorem names_succ {l : List Ag} {k : Nat} {x : Ag} (h : l[k]? = some x) : names (l.take (k + 1)) = names (l.take k) ++ [x.name] := map_succ _ h
theorem notin (n lo hi : Int) : (!inR n lo hi) = out lo hi n := by rw [← out_not, Bool.not_not]
theorem c17 (d : Ho) (hd : d.fits) (h : Heap) : callPure (EW tabX) 17 [eH d] h = some (tup3 (checkH d), h) := by
  rw [callPure_eq, w_call _ fn_17 rfl]
  unfold checkH
  have hla := hd.la
  have hle := hd.le
  have hlr := hd.lr
  cases h1 : out 1 3 d.days with
  | true => simp only [go_sem, ↓reduceIte, Nat.reduceBEq, Nat.reduceEqDiff, Nat.reduceLT, Nat.reduceLeDiff, Nat.reduceAdd, Nat.reduceMul, Nat.reduceSub, reduceCtorEq, Int.reduceLT, Int.reduceLE, Int.reduceEq, Int.reduceBEq, Int.reduceBNe, Int.reduceToNat, Int.reduceAdd, Int.reduceNeg, Int.reduceSub, eH, eHc, c46, notin, h1, tup3]
  | false =>
    have hday : 1 ≤ d.days ∧ d.days ≤ 3 := by simp [out] at h1; exact ⟨h1.1, h1.2⟩
    by_cases h2 : (d.rates.length : Int) = d.days
    rotate_left
    · have h2b : ((d.rates.length : Int) != d.days) = true := by simpa using h2
      simp only [go_sem, ↓reduceIte, Nat.reduceBEq, Nat.reduceEqDiff, Nat.reduceLT, Nat.reduceLeDiff, Nat.reduceAdd, Nat.reduceMul, Nat.reduceSub, reduceCtorEq, Int.reduceLT, Int.reduceLE, Int.reduceEq, Int.reduceBEq, Int.reduceBNe, Int.reduceToNat, Int.reduceAdd, Int.reduceNeg, Int.reduceSub, eH, eHc, c46, notin, h1, tup3, h2b, h2, ne_eq, not_false_eq_true]
    have h2b : ((d.rates.length : Int) != d.days) = false := by simp [h2]
    simp only [go_sem, ↓reduceIte, Nat.reduceBEq, Nat.reduceEqDiff, Nat.reduceLT, Nat.reduceLeDiff, Nat.reduceAdd, Nat.reduceMul, Nat.reduceSub, reduceCtorEq, Int.reduceLT, Int.reduceLE, Int.reduceEq, Int.reduceBEq, Int.reduceBNe, Int.reduceToNat, Int.reduceAdd, Int.reduceNeg, Int.reduceSub, eH, eHc, c46, notin, h1, h2b, h2, ne_eq, not_true]
    rw [w_first (fun k => [(5, .int .i64 k)]) (fun _ => ⟨[.cells (eHc d)], []⟩) (rateE d) d.rates.length .ret (fun n => [(2, .int .i64 2), (3, .int .i64 n), (4, .int .i64 (rateE d n)), (5, .int .i64 n), (6, .int .i64 (rateE d n))]) (fun _ => ⟨[.cells (eHc d)], []⟩) (.exit 0) [(5, .int .i64 d.rates.length)] ⟨[.cells (eHc d)], []⟩ ?_ ?_ ?_ ?_ ?_ rfl rfl]
    rotate_left
    · simp only [go_sem, ↓reduceIte, Nat.reduceBEq, Nat.reduceEqDiff, Nat.reduceLT, Nat.reduceLeDiff, Nat.reduceAdd, Nat.reduceMul, Nat.reduceSub, reduceCtorEq, Int.reduceLT, Int.reduceLE, Int.reduceEq, Int.reduceBEq, Int.reduceBNe, Int.reduceToNat, Int.reduceAdd, Int.reduceNeg, Int.reduceSub]
    · simp only [eHc]
    · intro k hk h0
      have hx := List.getElem?_eq_getElem hk
      have hki : (k : Int) < d.rates.length := by omega
      have hz := hd.zr (by intro e; rw [e] at hk; simp at hk)
      have h59 := c59 d.rates[k]
      have he : spE d.rates[k] = 0 := by rw [← h0, rateE, hx]
      simp only [eSp, he] at h59
      simp (disch := omega) only [go_sem, ↓reduceIte, Nat.reduceBEq, Nat.reduceEqDiff, Nat.reduceLT, Nat.reduceLeDiff, Nat.reduceAdd, Nat.reduceMul, Nat.reduceSub, reduceCtorEq, Int.reduceLT, Int.reduceLE, Int.reduceEq, Int.reduceBEq, Int.reduceBNe, Int.reduceToNat, Int.reduceAdd, Int.reduceNeg, Int.reduceSub, eHc, hki, hx, eSp, hz, h59, wrap_i64, bne_self_eq_false]
    · intro k hk h0
      have hx := List.getElem?_eq_getElem hk
      have hki : (k : Int) < d.rates.length := by omega
      have hz := hd.zr (by intro e; rw [e] at hk; simp at hk)
      have h59 := c59 d.rates[k]
      have he : spE d.rates[k] = rateE d k := by rw [rateE, hx]
      have hne : (rateE d k != 0) = true := by simpa using h0
      simp only [eSp, he] at h59
      simp (disch := omega) only [go_sem, ↓reduceIte, Nat.reduceBEq, Nat.reduceEqDiff, Nat.reduceLT, Nat.reduceLeDiff, Nat.reduceAdd, Nat.reduceMul, Nat.reduceSub, reduceCtorEq, Int.reduceLT, Int.reduceLE, Int.reduceEq, Int.reduceBEq, Int.reduceBNe, Int.reduceToNat, Int.reduceAdd, Int.reduceNeg, Int.reduceSub, eHc, hki, hx, eSp, hz, h59, wrap_i64, hne]
    · simp only [go_sem, ↓reduceIte, Nat.reduceBEq, Nat.reduceEqDiff, Nat.reduceLT, Nat.reduceLeDiff, Nat.reduceAdd, Nat.reduceMul, Nat.reduceSub, reduceCtorEq, Int.reduceLT, Int.reduceLE, Int.reduceEq, Int.reduceBEq, Int.reduceBNe, Int.reduceToNat, Int.reduceAdd, Int.reduceNeg, Int.reduceSub, eHc, Int.lt_irrefl]
    unfold firstW
    cases h3 : firstBad (rateE d) 0 d.rates.length with
    | some n => simp only [go_sem, ↓reduceIte, Nat.reduceBEq, Nat.reduceEqDiff, Nat.reduceLT, Nat.reduceLeDiff, Nat.reduceAdd, Nat.reduceMul, Nat.reduceSub, reduceCtorEq, Int.reduceLT, Int.reduceLE, Int.reduceEq, Int.reduceBEq, Int.reduceBNe, Int.reduceToNat, Int.reduceAdd, Int.reduceNeg, Int.reduceSub, tup3]
    | none =>
      cases h4 : out 0 20 d.step with
      | true => simp only [go_sem, ↓reduceIte, Nat.reduceBEq, Nat.reduceEqDiff, Nat.reduceLT, Nat.reduceLeDiff, Nat.reduceAdd, Nat.reduceMul, Nat.reduceSub, reduceCtorEq, Int.reduceLT, Int.reduceLE, Int.reduceEq, Int.reduceBEq, Int.reduceBNe, Int.reduceToNat, Int.reduceAdd, Int.reduceNeg, Int.reduceSub, eHc, c46, notin, tup3, h4]
      | false =>
        by_cases h5 : 3 < d.agents.length
        · have h5i : (3 : Int) < d.agents.length := by omega
          simp only [go_sem, ↓reduceIte, Nat.reduceBEq, Nat.reduceEqDiff, Nat.reduceLT, Nat.reduceLeDiff, Nat.reduceAdd, Nat.reduceMul, Nat.reduceSub, reduceCtorEq, Int.reduceLT, Int.reduceLE, Int.reduceEq, Int.reduceBEq, Int.reduceBNe, Int.reduceToNat, Int.reduceAdd, Int.reduceNeg, Int.reduceSub, eHc, c46, notin, tup3, h4, h5, h5i]
        have h5i : ¬ (3 : Int) < d.agents.length := by omega
        simp only [go_sem, ↓reduceIte, Nat.reduceBEq, Nat.reduceEqDiff, Nat.reduceLT, Nat.reduceLeDiff, Nat.reduceAdd, Nat.reduceMul, Nat.reduceSub, reduceCtorEq, Int.reduceLT, Int.reduceLE, Int.reduceEq, Int.reduceBEq, Int.reduceBNe, Int.reduceToNat, Int.reduceAdd, Int.reduceNeg, Int.reduceSub, eHc, c46, notin, h4, h5, h5i]
        rw [w_first (fun k => [(7, .lst (tagT [] k) (zT 1 k) (S (names (d.agents.take k)))), (8, .int .i64 k)]) (fun k => ⟨[.cells (eHc d)], T [] k⟩) (agentE d) d.agents.length .ret
          (fun n => [(2, .int .i64 4), (3, .int .i64 n), (4, .int .i64 (agentE d n)), (7, .lst (tagT [] (n + 1)) 1 (S (names (d.agents.take (n + 1))))), (8, .int .i64 n), (9, .int .i64 (agentE d n))]) (fun n => ⟨[.cells (eHc d)], T [] (n + 1)⟩)
          (.exit 2) [(7, .lst (tagT [] d.agents.length) (zT 1 d.agents.length) (S (names d.agents))), (8, .int .i64 d.agents.length)] ⟨[.cells (eHc d)], T [] d.agents.length⟩ ?_ ?_ ?_ ?_ ?_ rfl rfl]
        rotate_left
        · simp only [go_sem, ↓reduceIte, Nat.reduceBEq, Nat.reduceEqDiff, Nat.reduceLT, Nat.reduceLeDiff, Nat.reduceAdd, Nat.reduceMul, Nat.reduceSub, reduceCtorEq, Int.reduceLT, Int.reduceLE, Int.reduceEq, Int.reduceBEq, Int.reduceBNe, Int.reduceToNat, Int.reduceAdd, Int.reduceNeg, Int.reduceSub, names]
        · simp only [go_sem, ↓reduceIte, Nat.reduceBEq, Nat.reduceEqDiff, Nat.reduceLT, Nat.reduceLeDiff, Nat.reduceAdd, Nat.reduceMul, Nat.reduceSub, reduceCtorEq, Int.reduceLT, Int.reduceLE, Int.reduceEq, Int.reduceBEq, Int.reduceBNe, Int.reduceToNat, Int.reduceAdd, Int.reduceNeg, Int.reduceSub, eHc]
        · intro k hk h0
          have hx := List.getElem?_eq_getElem hk
          have hki : (k : Int) < d.agents.length := by omega
          have hz := hd.za (by intro e; rw [e] at hk; simp at hk)
          have hs := hd.na _ (List.mem_of_getElem? hx)
          rw [names_succ hx, ← S_snoc]
          have hln : (names (d.agents.take k)).length = k := by simp [names]; omega
          have ha := fun B => append_step (X := tabX) (t := 89) (e := 9) (sz := 1) [] k B (zT 1 k) 1 1 (S (names (d.agents.take k))) [.str d.agents[k].name] (by simp only [go_sem, ↓reduceIte, Nat.reduceBEq, Nat.reduceEqDiff, Nat.reduceLT, Nat.reduceLeDiff, Nat.reduceAdd, Nat.reduceMul, Nat.reduceSub, reduceCtorEq, Int.reduceLT, Int.reduceLE, Int.reduceEq, Int.reduceBEq, Int.reduceBNe, Int.reduceToNat, Int.reduceAdd, Int.reduceNeg, Int.reduceSub]) (by simp only [go_sem, ↓reduceIte, Nat.reduceBEq, Nat.reduceEqDiff, Nat.reduceLT, Nat.reduceLeDiff, Nat.reduceAdd, Nat.reduceMul, Nat.reduceSub, reduceCtorEq, Int.reduceLT, Int.reduceLE, Int.reduceEq, Int.reduceBEq, Int.reduceBNe, Int.reduceToNat, Int.reduceAdd, Int.reduceNeg, Int.reduceSub])
            (by rcases Nat.eq_zero_or_pos k with e | e; exact .inl ⟨e, by rw [e]; simp [names, S]⟩; exact .inr (zT_pos e)) (.inl rfl) (by omega) (by simp only [go_sem, ↓reduceIte, Nat.reduceBEq, Nat.reduceEqDiff, Nat.reduceLT, Nat.reduceLeDiff, Nat.reduceAdd, Nat.reduceMul, Nat.reduceSub, reduceCtorEq, Int.reduceLT, Int.reduceLE, Int.reduceEq, Int.reduceBEq, Int.reduceBNe, Int.reduceToNat, Int.reduceAdd, Int.reduceNeg, Int.reduceSub, hln]; omega) (by simp only [go_sem, ↓reduceIte, Nat.reduceBEq, Nat.reduceEqDiff, Nat.reduceLT, Nat.reduceLeDiff, Nat.reduceAdd, Nat.reduceMul, Nat.reduceSub, reduceCtorEq, Int.reduceLT, Int.reduceLE, Int.reduceEq, Int.reduceBEq, Int.reduceBNe, Int.reduceToNat, Int.reduceAdd, Int.reduceNeg, Int.reduceSub, hln]; omega) (by simp only [go_sem, ↓reduceIte, Nat.reduceBEq, Nat.reduceEqDiff, Nat.reduceLT, Nat.reduceLeDiff, Nat.reduceAdd, Nat.reduceMul, Nat.reduceSub, reduceCtorEq, Int.reduceLT, Int.reduceLE, Int.reduceEq, Int.reduceBEq, Int.reduceBNe, Int.reduceToNat, Int.reduceAdd, Int.reduceNeg, Int.reduceSub]) (by simp only [go_sem, ↓reduceIte, Nat.reduceBEq, Nat.reduceEqDiff, Nat.reduceLT, Nat.reduceLeDiff, Nat.reduceAdd, Nat.reduceMul, Nat.reduceSub, reduceCtorEq, Int.reduceLT, Int.reduceLE, Int.reduceEq, Int.reduceBEq, Int.reduceBNe, Int.reduceToNat, Int.reduceAdd, Int.reduceNeg, Int.reduceSub])
          have hf := c60 (names (d.agents.take k)) d.agents[k].name (zT 1 k) (fun hne => zT_pos (by rcases Nat.eq_zero_or_pos k with e | e; rw [e] at hne; simp [names] at hne; exact e)) (by omega) hs
          have h61 := c61 d.agents[k]
          have he : agE d.agents k d.agents[k] = 0 := by rw [← h0, agentE, hx]
          unfold agE at he
          rw [← names_any] at he
          cases e1 : nameOk d.agents[k].name with
          | false => rw [e1] at he; cases he
          | true =>
            cases e2 : (names (d.agents.take k)).any (fun x => x == d.agents[k].name) with
            | true => rw [e1, e2] at he; cases he
            | false =>
              cases e3 : (out 0 20 d.agents[k].fee || out 0 2 d.agents[k].round) with
              | true => rw [e1, e2, e3] at he; cases he
              | false =>
                simp only [eAg, e3, Bool.false_eq_true, if_false] at h61
                simp (disch := omega) only [go_sem, ↓reduceIte, Nat.reduceBEq, Nat.reduceEqDiff, Nat.reduceLT, Nat.reduceLeDiff, Nat.reduceAdd, Nat.reduceMul, Nat.reduceSub, reduceCtorEq, Int.reduceLT, Int.reduceLE, Int.reduceEq, Int.reduceBEq, Int.reduceBNe, Int.reduceToNat, Int.reduceAdd, Int.reduceNeg, Int.reduceSub, eHc, hki, hx, eAg, hz, hf, fresh, e1, e2, ha, h61, wrap_i64]
        · intro k hk h0
          have hx := List.getElem?_eq_getElem hk
          have hki : (k : Int) < d.agents.length := by omega
          have hz := hd.za (by intro e; rw [e] at hk; simp at hk)
          have hs := hd.na _ (List.mem_of_getElem? hx)
          rw [names_succ hx, ← S_snoc]
          have hln : (names (d.agents.take k)).length = k := by simp [names]; omega
          have ha := fun B => append_step (X := tabX) (t := 89) (e := 9) (sz := 1) [] k B (zT 1 k) 1 1 (S (names (d.agents.take k))) [.str d.agents[k].name] (by simp only [go_sem, ↓reduceIte, Nat.reduceBEq, Nat.reduceEqDiff, Nat.reduceLT, Nat.reduceLeDiff, Nat.reduceAdd, Nat.reduceMul, Nat.reduceSub, reduceCtorEq, Int.reduceLT, Int.reduceLE, Int.reduceEq, Int.reduceBEq, Int.reduceBNe, Int.reduceToNat, Int.reduceAdd, Int.reduceNeg, Int.reduceSub]) (by simp only [go_sem, ↓reduceIte, Nat.reduceBEq, Nat.reduceEqDiff, Nat.reduceLT, Nat.reduceLeDiff, Nat.reduceAdd, Nat.reduceMul, Nat.reduceSub, reduceCtorEq, Int.reduceLT, Int.reduceLE, Int.reduceEq, Int.reduceBEq, Int.reduceBNe, Int.reduceToNat, Int.reduceAdd, Int.reduceNeg, Int.reduceSub])
            (by rcases Nat.eq_zero_or_pos k with e | e; exact .inl ⟨e, by rw [e]; simp [names, S]⟩; exact .inr (zT_pos e)) (.inl rfl) (by omega) (by simp only [go_sem, ↓reduceIte, Nat.reduceBEq, Nat.reduceEqDiff, Nat.reduceLT, Nat.reduceLeDiff, Nat.reduceAdd, Nat.reduceMul, Nat.reduceSub, reduceCtorEq, Int.reduceLT, Int.reduceLE, Int.reduceEq, Int.reduceBEq, Int.reduceBNe, Int.reduceToNat, Int.reduceAdd, Int.reduceNeg, Int.reduceSub, hln]; omega) (by simp only [go_sem, ↓reduceIte, Nat.reduceBEq, Nat.reduceEqDiff, Nat.reduceLT, Nat.reduceLeDiff, Nat.reduceAdd, Nat.reduceMul, Nat.reduceSub, reduceCtorEq, Int.reduceLT, Int.reduceLE, Int.reduceEq, Int.reduceBEq, Int.reduceBNe, Int.reduceToNat, Int.reduceAdd, Int.reduceNeg, Int.reduceSub, hln]; omega) (by simp only [go_sem, ↓reduceIte, Nat.reduceBEq, Nat.reduceEqDiff, Nat.reduceLT, Nat.reduceLeDiff, Nat.reduceAdd, Nat.reduceMul, Nat.reduceSub, reduceCtorEq, Int.reduceLT, Int.reduceLE, Int.reduceEq, Int.reduceBEq, Int.reduceBNe, Int.reduceToNat, Int.reduceAdd, Int.reduceNeg, Int.reduceSub]) (by simp only [go_sem, ↓reduceIte, Nat.reduceBEq, Nat.reduceEqDiff, Nat.reduceLT, Nat.reduceLeDiff, Nat.reduceAdd, Nat.reduceMul, Nat.reduceSub, reduceCtorEq, Int.reduceLT, Int.reduceLE, Int.reduceEq, Int.reduceBEq, Int.reduceBNe, Int.reduceToNat, Int.reduceAdd, Int.reduceNeg, Int.reduceSub])
          have hf := c60 (names (d.agents.take k)) d.agents[k].name (zT 1 k) (fun hne => zT_pos (by rcases Nat.eq_zero_or_pos k with e | e; rw [e] at hne; simp [names] at hne; exact e)) (by omega) hs
          have h61 := c61 d.agents[k]
          have he : agE d.agents k d.agents[k] = agentE d k := by rw [agentE, hx]
          unfold agE at he
          rw [← names_any] at he
          cases e1 : nameOk d.agents[k].name with
          | false =>
            rw [e1] at he
            have he : (6 : Int) = agentE d k := he
            rw [← he]
            simp (disch := omega) only [go_sem, ↓reduceIte, Nat.reduceBEq, Nat.reduceEqDiff, Nat.reduceLT, Nat.reduceLeDiff, Nat.reduceAdd, Nat.reduceMul, Nat.reduceSub, reduceCtorEq, Int.reduceLT, Int.reduceLE, Int.reduceEq, Int.reduceBEq, Int.reduceBNe, Int.reduceToNat, Int.reduceAdd, Int.reduceNeg, Int.reduceSub, eHc, hki, hx, eAg, hz, hf, fresh, e1, ha, wrap_i64]
          | true =>
            cases e2 : (names (d.agents.take k)).any (fun x => x == d.agents[k].name) with
            | true =>
              rw [e1, e2] at he
              have he : (5 : Int) = agentE d k := he
              rw [← he]
              simp (disch := omega) only [go_sem, ↓reduceIte, Nat.reduceBEq, Nat.reduceEqDiff, Nat.reduceLT, Nat.reduceLeDiff, Nat.reduceAdd, Nat.reduceMul, Nat.reduceSub, reduceCtorEq, Int.reduceLT, Int.reduceLE, Int.reduceEq, Int.reduceBEq, Int.reduceBNe, Int.reduceToNat, Int.reduceAdd, Int.reduceNeg, Int.reduceSub, eHc, hki, hx, eAg, hz, hf, fresh, e1, e2, ha, wrap_i64]
            | false =>
              cases e3 : (out 0 20 d.agents[k].fee || out 0 2 d.agents[k].round) with
              | true =>
                rw [e1, e2, e3] at he
                have he : (7 : Int) = agentE d k := he
                rw [← he]
                simp only [eAg, e3, if_true] at h61
                simp (disch := omega) only [go_sem, ↓reduceIte, Nat.reduceBEq, Nat.reduceEqDiff, Nat.reduceLT, Nat.reduceLeDiff, Nat.reduceAdd, Nat.reduceMul, Nat.reduceSub, reduceCtorEq, Int.reduceLT, Int.reduceLE, Int.reduceEq, Int.reduceBEq, Int.reduceBNe, Int.reduceToNat, Int.reduceAdd, Int.reduceNeg, Int.reduceSub, eHc, hki, hx, eAg, hz, hf, fresh, e1, e2, ha, h61, wrap_i64]
              | false => rw [e1, e2, e3] at he; exact absurd he.symm h0
        · simp only [go_sem, ↓reduceIte, Nat.reduceBEq, Nat.reduceEqDiff, Nat.reduceLT, Nat.reduceLeDiff, Nat.reduceAdd, Nat.reduceMul, Nat.reduceSub, reduceCtorEq, Int.reduceLT, Int.reduceLE, Int.reduceEq, Int.reduceBEq, Int.reduceBNe, Int.reduceToNat, Int.reduceAdd, Int.reduceNeg, Int.reduceSub, eHc, Int.lt_irrefl]
        unfold firstW
        cases h6 : firstBad (agentE d) 0 d.agents.length with
        | some n => simp only [go_sem, ↓reduceIte, Nat.reduceBEq, Nat.reduceEqDiff, Nat.reduceLT, Nat.reduceLeDiff, Nat.reduceAdd, Nat.reduceMul, Nat.reduceSub, reduceCtorEq, Int.reduceLT, Int.reduceLE, Int.reduceEq, Int.reduceBEq, Int.reduceBNe, Int.reduceToNat, Int.reduceAdd, Int.reduceNeg, Int.reduceSub, tup3]
        | none =>
          by_cases h7 : 5 < d.entries.length
          · have h7i : (5 : Int) < d.entries.length := by omega
            simp only [go_sem, ↓reduceIte, Nat.reduceBEq, Nat.reduceEqDiff, Nat.reduceLT, Nat.reduceLeDiff, Nat.reduceAdd, Nat.reduceMul, Nat.reduceSub, reduceCtorEq, Int.reduceLT, Int.reduceLE, Int.reduceEq, Int.reduceBEq, Int.reduceBNe, Int.reduceToNat, Int.reduceAdd, Int.reduceNeg, Int.reduceSub, eHc, tup3, h7, h7i]
          have h7i : ¬ (5 : Int) < d.entries.length := by omega
          simp only [go_sem, ↓reduceIte, Nat.reduceBEq, Nat.reduceEqDiff, Nat.reduceLT, Nat.reduceLeDiff, Nat.reduceAdd, Nat.reduceMul, Nat.reduceSub, reduceCtorEq, Int.reduceLT, Int.reduceLE, Int.reduceEq, Int.reduceBEq, Int.reduceBNe, Int.reduceToNat, Int.reduceAdd, Int.reduceNeg, Int.reduceSub, eHc, h7, h7i]
          rw [w_first (fun k => [(10, .int .i64 k)]) (fun k => ⟨[.cells (eHc d)] ++ (d.entries.take k).map bEn, T [] d.agents.length⟩) (entryE d) d.entries.length .ret
            (fun n => [(2, .int .i64 5), (3, .int .i64 n), (4, .int .i64 (entryE d n)), (10, .int .i64 n), (11, .ref ([ABlk.cells (eHc d)] ++ (d.entries.take n).map bEn).length 0)]) (fun n => ⟨[.cells (eHc d)] ++ (d.entries.take (n + 1)).map bEn, T [] d.agents.length⟩)
            (.exit 4) [(10, .int .i64 d.entries.length)] ⟨[.cells (eHc d)] ++ d.entries.map bEn, T [] d.agents.length⟩ ?_ ?_ ?_ ?_ ?_ rfl rfl]
          rotate_left
          · simp only [go_sem, ↓reduceIte, Nat.reduceBEq, Nat.reduceEqDiff, Nat.reduceLT, Nat.reduceLeDiff, Nat.reduceAdd, Nat.reduceMul, Nat.reduceSub, reduceCtorEq, Int.reduceLT, Int.reduceLE, Int.reduceEq, Int.reduceBEq, Int.reduceBNe, Int.reduceToNat, Int.reduceAdd, Int.reduceNeg, Int.reduceSub]
          · simp only [go_sem, ↓reduceIte, Nat.reduceBEq, Nat.reduceEqDiff, Nat.reduceLT, Nat.reduceLeDiff, Nat.reduceAdd, Nat.reduceMul, Nat.reduceSub, reduceCtorEq, Int.reduceLT, Int.reduceLE, Int.reduceEq, Int.reduceBEq, Int.reduceBNe, Int.reduceToNat, Int.reduceAdd, Int.reduceNeg, Int.reduceSub, eHc]
          · intro k hk h0
            have hx := List.getElem?_eq_getElem hk
            have hki : (k : Int) < d.entries.length := by omega
            have hz := hd.ze (by intro e; rw [e] at hk; simp at hk)
            have he : enE d d.entries[k] = 0 := by rw [← h0, entryE, hx]
            have hC : ([ABlk.cells (eHc d)] ++ (d.entries.take k).map bEn)[0]? = some (.cells (eHc d)) := rfl
            rw [map_succ bEn hx, ← List.append_assoc]
            generalize [ABlk.cells (eHc d)] ++ (d.entries.take k).map bEn = C at hC ⊢
            simp only [eHc] at hC
            have oC := old hC
            unfold enE at he
            cases e1 : out 0 ((d.agents.length : Int) - 1) d.entries[k].agent with
            | true => rw [e1] at he; cases he
            | false =>
              cases e2 : out 0 (d.days - 1) d.entries[k].day with
              | true => rw [e1, e2] at he; cases he
              | false =>
                cases e3 : out 0 99 d.entries[k].near with
                | true => rw [e1, e2, e3] at he; cases he
                | false =>
                  cases e4 : out (-1) 198 d.entries[k].far with
                  | true => rw [e1, e2, e3, e4] at he; cases he
                  | false =>
                    simp (disch := omega) only [go_sem, ↓reduceIte, Nat.reduceBEq, Nat.reduceEqDiff, Nat.reduceLT, Nat.reduceLeDiff, Nat.reduceAdd, Nat.reduceMul, Nat.reduceSub, reduceCtorEq, Int.reduceLT, Int.reduceLE, Int.reduceEq, Int.reduceBEq, Int.reduceBNe, Int.reduceToNat, Int.reduceAdd, Int.reduceNeg, Int.reduceSub, hC, oC, hki, hx, eEn, bEn, hz, c46, notin, e1, e2, e3, e4, wrap_i64]
          · intro k hk h0
            have hx := List.getElem?_eq_getElem hk
            have hki : (k : Int) < d.entries.length := by omega
            have hz := hd.ze (by intro e; rw [e] at hk; simp at hk)
            have he : enE d d.entries[k] = entryE d k := by rw [entryE, hx]
            have hC : ([ABlk.cells (eHc d)] ++ (d.entries.take k).map bEn)[0]? = some (.cells (eHc d)) := rfl
            rw [map_succ bEn hx, ← List.append_assoc]
            generalize [ABlk.cells (eHc d)] ++ (d.entries.take k).map bEn = C at hC ⊢
            simp only [eHc] at hC
            have oC := old hC
            unfold enE at he
            cases e1 : out 0 ((d.agents.length : Int) - 1) d.entries[k].agent with
            | true =>
              rw [e1] at he
              have he : (4 : Int) = entryE d k := he
              rw [← he]
              simp (disch := omega) only [go_sem, ↓reduceIte, Nat.reduceBEq, Nat.reduceEqDiff, Nat.reduceLT, Nat.reduceLeDiff, Nat.reduceAdd, Nat.reduceMul, Nat.reduceSub, reduceCtorEq, Int.reduceLT, Int.reduceLE, Int.reduceEq, Int.reduceBEq, Int.reduceBNe, Int.reduceToNat, Int.reduceAdd, Int.reduceNeg, Int.reduceSub, hC, oC, hki, hx, eEn, bEn, hz, c46, notin, e1, wrap_i64]
            | false =>
              cases e2 : out 0 (d.days - 1) d.entries[k].day with
              | true =>
                rw [e1, e2] at he
                have he : (4 : Int) = entryE d k := he
                rw [← he]
                simp (disch := omega) only [go_sem, ↓reduceIte, Nat.reduceBEq, Nat.reduceEqDiff, Nat.reduceLT, Nat.reduceLeDiff, Nat.reduceAdd, Nat.reduceMul, Nat.reduceSub, reduceCtorEq, Int.reduceLT, Int.reduceLE, Int.reduceEq, Int.reduceBEq, Int.reduceBNe, Int.reduceToNat, Int.reduceAdd, Int.reduceNeg, Int.reduceSub, hC, oC, hki, hx, eEn, bEn, hz, c46, notin, e1, e2, wrap_i64]
              | false =>
                cases e3 : out 0 99 d.entries[k].near with
                | true =>
                  rw [e1, e2, e3] at he
                  have he : (7 : Int) = entryE d k := he
                  rw [← he]
                  simp (disch := omega) only [go_sem, ↓reduceIte, Nat.reduceBEq, Nat.reduceEqDiff, Nat.reduceLT, Nat.reduceLeDiff, Nat.reduceAdd, Nat.reduceMul, Nat.reduceSub, reduceCtorEq, Int.reduceLT, Int.reduceLE, Int.reduceEq, Int.reduceBEq, Int.reduceBNe, Int.reduceToNat, Int.reduceAdd, Int.reduceNeg, Int.reduceSub, hC, oC, hki, hx, eEn, bEn, hz, c46, notin, e1, e2, e3, wrap_i64]
                | false =>
                  cases e4 : out (-1) 198 d.entries[k].far with
                  | true =>
                    rw [e1, e2, e3, e4] at he
                    have he : (7 : Int) = entryE d k := he
                    rw [← he]
                    simp (disch := omega) only [go_sem, ↓reduceIte, Nat.reduceBEq, Nat.reduceEqDiff, Nat.reduceLT, Nat.reduceLeDiff, Nat.reduceAdd, Nat.reduceMul, Nat.reduceSub, reduceCtorEq, Int.reduceLT, Int.reduceLE, Int.reduceEq, Int.reduceBEq, Int.reduceBNe, Int.reduceToNat, Int.reduceAdd, Int.reduceNeg, Int.reduceSub, hC, oC, hki, hx, eEn, bEn, hz, c46, notin, e1, e2, e3, e4, wrap_i64]
                  | false => rw [e1, e2, e3, e4] at he; exact absurd he.symm h0
          · have hC : ([ABlk.cells (eHc d)] ++ (d.entries.take d.entries.length).map bEn)[0]? = some (.cells (eHc d)) := rfl
            rw [List.take_length] at hC ⊢
            generalize [ABlk.cells (eHc d)] ++ d.entries.map bEn = C at hC ⊢
            simp only [eHc] at hC
            have oC := old hC
            simp only [go_sem, ↓reduceIte, Nat.reduceBEq, Nat.reduceEqDiff, Nat.reduceLT, Nat.reduceLeDiff, Nat.reduceAdd, Nat.reduceMul, Nat.reduceSub, reduceCtorEq, Int.reduceLT, Int.reduceLE, Int.reduceEq, Int.reduceBEq, Int.reduceBNe, Int.reduceToNat, Int.reduceAdd, Int.reduceNeg, Int.reduceSub, hC, oC, Int.lt_irrefl]
          unfold firstW
          cases h8 : firstBad (entryE d) 0 d.entries.length with
          | some n => simp only [go_sem, ↓reduceIte, Nat.reduceBEq, Nat.reduceEqDiff, Nat.reduceLT, Nat.reduceLeDiff, Nat.reduceAdd, Nat.reduceMul, Nat.reduceSub, reduceCtorEq, Int.reduceLT, Int.reduceLE, Int.reduceEq, Int.reduceBEq, Int.reduceBNe, Int.reduceToNat, Int.reduceAdd, Int.reduceNeg, Int.reduceSub, tup3]
          | none => simp only [go_sem, ↓reduceIte, Nat.reduceBEq, Nat.reduceEqDiff, Nat.reduceLT, Nat.reduceLeDiff, Nat.reduceAdd, Nat.reduceMul, Nat.reduceSub, reduceCtorEq, Int.reduceLT, Int.reduceLE, Int.reduceEq, Int.reduceBEq, Int.reduceBNe, Int.reduceToNat, Int.reduceAdd, Int.reduceNeg, Int.reduceSub, tup3]
end Go.Proofs.Ytaohhjaogjcfoaa
end
section
namespace Go.Proofs.Ytaohhjaogjcfoaa
open Go.Proofs

def vI (l : List Int) : AV := .lst 0 (zT 1 l.length) (I l)
theorem vI_nil : vI [] = .lst 0 0 [] := rfl
theorem vI_under (n : Nat) (l : List Int) : (vI l).under n = true := by simp only [vI, go_sem, ↓reduceIte, Nat.reduceBEq, Nat.reduceEqDiff, Nat.reduceLT, Nat.reduceLeDiff, Nat.reduceAdd, Nat.reduceMul, Nat.reduceSub, reduceCtorEq, Int.reduceLT, Int.reduceLE, Int.reduceEq, Int.reduceBEq, Int.reduceBNe, Int.reduceToNat, Int.reduceAdd, Int.reduceNeg, Int.reduceSub]
theorem vI_clean (l : List Int) : (vI l).clean = some (vI l) := by simp only [vI, go_sem, ↓reduceIte, Nat.reduceBEq, Nat.reduceEqDiff, Nat.reduceLT, Nat.reduceLeDiff, Nat.reduceAdd, Nat.reduceMul, Nat.reduceSub, reduceCtorEq, Int.reduceLT, Int.reduceLE, Int.reduceEq, Int.reduceBEq, Int.reduceBNe, Int.reduceToNat, Int.reduceAdd, Int.reduceNeg, Int.reduceSub]
def ownI (l : List Int) : AV := .lst (tagT [] l.length) (zT 1 l.length) (I l)
theorem ownI_clean (l : List Int) : (ownI l).clean = some (vI l) := by simp only [ownI, vI, go_sem, ↓reduceIte, Nat.reduceBEq, Nat.reduceEqDiff, Nat.reduceLT, Nat.reduceLeDiff, Nat.reduceAdd, Nat.reduceMul, Nat.reduceSub, reduceCtorEq, Int.reduceLT, Int.reduceLE, Int.reduceEq, Int.reduceBEq, Int.reduceBNe, Int.reduceToNat, Int.reduceAdd, Int.reduceNeg, Int.reduceSub]
theorem ownI_under (n : Nat) (l : List Int) : (ownI l).under n = true := by simp only [ownI, go_sem, ↓reduceIte, Nat.reduceBEq, Nat.reduceEqDiff, Nat.reduceLT, Nat.reduceLeDiff, Nat.reduceAdd, Nat.reduceMul, Nat.reduceSub, reduceCtorEq, Int.reduceLT, Int.reduceLE, Int.reduceEq, Int.reduceBEq, Int.reduceBNe, Int.reduceToNat, Int.reduceAdd, Int.reduceNeg, Int.reduceSub]
theorem ownI_nil : ownI [] = .lst 1 0 [] := rfl
theorem ownI_app (l : List Int) (x : Int) (hl : l.length < 1000) (B : List ABlk) :
    appendAV tabX 30 (T [] l.length).length ⟨B, T [] l.length⟩ (ownI l) (.lst 1 1 [.int .i64 x]) = some (ownI (l ++ [x]), ⟨B, T [] (l ++ [x]).length⟩) := by
  have := append_step (X := tabX) (t := 30) (e := 3) (sz := 1) [] l.length B (zT 1 l.length) 1 1 (I l) [.int .i64 x] (by simp only [go_sem, ↓reduceIte, Nat.reduceBEq, Nat.reduceEqDiff, Nat.reduceLT, Nat.reduceLeDiff, Nat.reduceAdd, Nat.reduceMul, Nat.reduceSub, reduceCtorEq, Int.reduceLT, Int.reduceLE, Int.reduceEq, Int.reduceBEq, Int.reduceBNe, Int.reduceToNat, Int.reduceAdd, Int.reduceNeg, Int.reduceSub]) (by simp only [go_sem, ↓reduceIte, Nat.reduceBEq, Nat.reduceEqDiff, Nat.reduceLT, Nat.reduceLeDiff, Nat.reduceAdd, Nat.reduceMul, Nat.reduceSub, reduceCtorEq, Int.reduceLT, Int.reduceLE, Int.reduceEq, Int.reduceBEq, Int.reduceBNe, Int.reduceToNat, Int.reduceAdd, Int.reduceNeg, Int.reduceSub])
    (by rcases Nat.eq_zero_or_pos l.length with e | e; exact .inl ⟨e, by rw [I_len, e]⟩; exact .inr (zT_pos e)) (.inl rfl) (by omega) (by simp only [go_sem, ↓reduceIte, Nat.reduceBEq, Nat.reduceEqDiff, Nat.reduceLT, Nat.reduceLeDiff, Nat.reduceAdd, Nat.reduceMul, Nat.reduceSub, reduceCtorEq, Int.reduceLT, Int.reduceLE, Int.reduceEq, Int.reduceBEq, Int.reduceBNe, Int.reduceToNat, Int.reduceAdd, Int.reduceNeg, Int.reduceSub]; omega) (by simp only [go_sem, ↓reduceIte, Nat.reduceBEq, Nat.reduceEqDiff, Nat.reduceLT, Nat.reduceLeDiff, Nat.reduceAdd, Nat.reduceMul, Nat.reduceSub, reduceCtorEq, Int.reduceLT, Int.reduceLE, Int.reduceEq, Int.reduceBEq, Int.reduceBNe, Int.reduceToNat, Int.reduceAdd, Int.reduceNeg, Int.reduceSub]; omega) (by simp only [go_sem, ↓reduceIte, Nat.reduceBEq, Nat.reduceEqDiff, Nat.reduceLT, Nat.reduceLeDiff, Nat.reduceAdd, Nat.reduceMul, Nat.reduceSub, reduceCtorEq, Int.reduceLT, Int.reduceLE, Int.reduceEq, Int.reduceBEq, Int.reduceBNe, Int.reduceToNat, Int.reduceAdd, Int.reduceNeg, Int.reduceSub]) (by simp only [go_sem, ↓reduceIte, Nat.reduceBEq, Nat.reduceEqDiff, Nat.reduceLT, Nat.reduceLeDiff, Nat.reduceAdd, Nat.reduceMul, Nat.reduceSub, reduceCtorEq, Int.reduceLT, Int.reduceLE, Int.reduceEq, Int.reduceBEq, Int.reduceBNe, Int.reduceToNat, Int.reduceAdd, Int.reduceNeg, Int.reduceSub])
  have e : (l ++ [x]).length = l.length + 1 := by simp
  rw [ownI, this, ownI, e, I_snoc]; rfl

def ownT (T0 : List Bool) (l : List Int) : AV := .lst (tagT T0 l.length) (zT 1 l.length) (I l)
theorem ownT_clean (T0 : List Bool) (l : List Int) : (ownT T0 l).clean = some (vI l) := by simp only [ownT, vI, go_sem, ↓reduceIte, Nat.reduceBEq, Nat.reduceEqDiff, Nat.reduceLT, Nat.reduceLeDiff, Nat.reduceAdd, Nat.reduceMul, Nat.reduceSub, reduceCtorEq, Int.reduceLT, Int.reduceLE, Int.reduceEq, Int.reduceBEq, Int.reduceBNe, Int.reduceToNat, Int.reduceAdd, Int.reduceNeg, Int.reduceSub]
theorem ownT_nil (T0 : List Bool) : ownT T0 [] = .lst 1 0 [] := rfl
theorem ownT_under (T0 : List Bool) (n : Nat) (l : List Int) : (ownT T0 l).under n = true := by simp only [ownT, go_sem, ↓reduceIte, Nat.reduceBEq, Nat.reduceEqDiff, Nat.reduceLT, Nat.reduceLeDiff, Nat.reduceAdd, Nat.reduceMul, Nat.reduceSub, reduceCtorEq, Int.reduceLT, Int.reduceLE, Int.reduceEq, Int.reduceBEq, Int.reduceBNe, Int.reduceToNat, Int.reduceAdd, Int.reduceNeg, Int.reduceSub]
theorem ownT_app (T0 : List Bool) (l : List Int) (x : Int) (hl : l.length < 1000) (B : List ABlk) :
    appendAV tabX 30 (T T0 l.length).length ⟨B, T T0 l.length⟩ (ownT T0 l) (.lst 1 1 [.int .i64 x]) = some (ownT T0 (l ++ [x]), ⟨B, T T0 (l ++ [x]).length⟩) := by
  have := append_step (X := tabX) (t := 30) (e := 3) (sz := 1) T0 l.length B (zT 1 l.length) 1 1 (I l) [.int .i64 x] (by simp only [go_sem, ↓reduceIte, Nat.reduceBEq, Nat.reduceEqDiff, Nat.reduceLT, Nat.reduceLeDiff, Nat.reduceAdd, Nat.reduceMul, Nat.reduceSub, reduceCtorEq, Int.reduceLT, Int.reduceLE, Int.reduceEq, Int.reduceBEq, Int.reduceBNe, Int.reduceToNat, Int.reduceAdd, Int.reduceNeg, Int.reduceSub]) (by simp only [go_sem, ↓reduceIte, Nat.reduceBEq, Nat.reduceEqDiff, Nat.reduceLT, Nat.reduceLeDiff, Nat.reduceAdd, Nat.reduceMul, Nat.reduceSub, reduceCtorEq, Int.reduceLT, Int.reduceLE, Int.reduceEq, Int.reduceBEq, Int.reduceBNe, Int.reduceToNat, Int.reduceAdd, Int.reduceNeg, Int.reduceSub])
    (by rcases Nat.eq_zero_or_pos l.length with e | e; exact .inl ⟨e, by rw [I_len, e]⟩; exact .inr (zT_pos e)) (.inl rfl) (by omega) (by simp only [go_sem, ↓reduceIte, Nat.reduceBEq, Nat.reduceEqDiff, Nat.reduceLT, Nat.reduceLeDiff, Nat.reduceAdd, Nat.reduceMul, Nat.reduceSub, reduceCtorEq, Int.reduceLT, Int.reduceLE, Int.reduceEq, Int.reduceBEq, Int.reduceBNe, Int.reduceToNat, Int.reduceAdd, Int.reduceNeg, Int.reduceSub]; omega) (by simp only [go_sem, ↓reduceIte, Nat.reduceBEq, Nat.reduceEqDiff, Nat.reduceLT, Nat.reduceLeDiff, Nat.reduceAdd, Nat.reduceMul, Nat.reduceSub, reduceCtorEq, Int.reduceLT, Int.reduceLE, Int.reduceEq, Int.reduceBEq, Int.reduceBNe, Int.reduceToNat, Int.reduceAdd, Int.reduceNeg, Int.reduceSub]; omega) (by simp only [go_sem, ↓reduceIte, Nat.reduceBEq, Nat.reduceEqDiff, Nat.reduceLT, Nat.reduceLeDiff, Nat.reduceAdd, Nat.reduceMul, Nat.reduceSub, reduceCtorEq, Int.reduceLT, Int.reduceLE, Int.reduceEq, Int.reduceBEq, Int.reduceBNe, Int.reduceToNat, Int.reduceAdd, Int.reduceNeg, Int.reduceSub]) (by simp only [go_sem, ↓reduceIte, Nat.reduceBEq, Nat.reduceEqDiff, Nat.reduceLT, Nat.reduceLeDiff, Nat.reduceAdd, Nat.reduceMul, Nat.reduceSub, reduceCtorEq, Int.reduceLT, Int.reduceLE, Int.reduceEq, Int.reduceBEq, Int.reduceBNe, Int.reduceToNat, Int.reduceAdd, Int.reduceNeg, Int.reduceSub])
  have e : (l ++ [x]).length = l.length + 1 := by simp
  rw [ownT, this, ownT, e, I_snoc]; rfl

def cpl : List Int → List Int → Nat
  | x :: xs, y :: ys => if x = y then cpl xs ys + 1 else 0
  | _, _ => 0
theorem cpl_le1 : ∀ a b : List Int, cpl a b ≤ a.length
  | [], _ => by simp [cpl]
  | x :: xs, [] => by simp [cpl]
  | x :: xs, y :: ys => by unfold cpl; split; have := cpl_le1 xs ys; simp; omega; omega
theorem cpl_le2 : ∀ a b : List Int, cpl a b ≤ b.length
  | [], _ => by simp [cpl]
  | x :: xs, [] => by simp [cpl]
  | x :: xs, y :: ys => by unfold cpl; split; have := cpl_le2 xs ys; simp; omega; omega
theorem cpl_eq : ∀ (a b : List Int) (k : Nat), k < cpl a b → a[k]? = b[k]?
  | [], b, k, h => by simp [cpl] at h
  | x :: xs, [], k, h => by simp [cpl] at h
  | x :: xs, y :: ys, k, h => by
    unfold cpl at h
    split at h
    · rename_i e
      cases k with
      | zero => simp [e]
      | succ k => simpa using cpl_eq xs ys k (by omega)
    · omega
theorem cpl_ne : ∀ (a b : List Int) (x y : Int), a[cpl a b]? = some x → b[cpl a b]? = some y → x ≠ y
  | [], b, x, y, h, _ => by simp [cpl] at h
  | u :: us, [], x, y, _, h => by simp [cpl] at h
  | u :: us, v :: vs, x, y, h1, h2 => by
    unfold cpl at h1 h2
    split at h1
    · rename_i e
      rw [if_pos e] at h2
      exact cpl_ne us vs x y (by simpa using h1) (by simpa using h2)
    · rename_i e
      rw [if_neg e] at h2
      simp at h1 h2
      rw [← h1, ← h2]; exact e
def ltB : List Int → List Int → Bool
  | _, [] => false
  | [], _ :: _ => true
  | x :: xs, y :: ys => if x = y then ltB xs ys else decide (x < y)
theorem ltB_cpl : ∀ a b : List Int, ltB a b = if cpl a b = b.length then false else (decide (cpl a b = a.length) || decide (a.getD (cpl a b) 0 < b.getD (cpl a b) 0))
  | [], [] => rfl
  | [], y :: ys => by simp [ltB, cpl]
  | x :: xs, [] => by simp [ltB, cpl]
  | x :: xs, y :: ys => by
    unfold ltB cpl
    by_cases e : x = y
    · rw [if_pos e, if_pos e, ltB_cpl xs ys]
      simp
    · rw [if_neg e, if_neg e]
      simp
theorem ltB_irrefl : ∀ a : List Int, ltB a a = false
  | [] => rfl
  | x :: xs => by unfold ltB; rw [if_pos rfl]; exact ltB_irrefl xs
theorem ltB_eq : ∀ a b : List Int, (decide (a.length = b.length) && (!ltB a b && !ltB b a)) = decide (a = b)
  | [], [] => rfl
  | [], y :: ys => by simp
  | x :: xs, [] => by simp
  | x :: xs, y :: ys => by
    have ih := ltB_eq xs ys
    simp only [ltB]
    by_cases e : x = y
    · subst e
      rw [if_pos rfl, if_pos rfl]
      simpa using ih
    · have e' : ¬ y = x := fun h => e h.symm
      rw [if_neg e, if_neg e']
      simp [e]
      omega

theorem c66 (a b : List Int) (za zb : Nat) (hza : a ≠ [] → za = 1) (hzb : b ≠ [] → zb = 1) (la : a.length < 1000000000000000000) (lb : b.length < 1000000000000000000) (h : Heap) :
    callPure (EW tabX) 66 [.lst 0 za (I a), .lst 0 zb (I b)] h = some (.bool (ltB a b), h) := by
  rw [callPure_eq, w_call _ fn_66 rfl]
  simp only [go_sem, ↓reduceIte, Nat.reduceBEq, Nat.reduceEqDiff, Nat.reduceLT, Nat.reduceLeDiff, Nat.reduceAdd, Nat.reduceMul, Nat.reduceSub, reduceCtorEq, Int.reduceLT, Int.reduceLE, Int.reduceEq, Int.reduceBEq, Int.reduceBNe, Int.reduceToNat, Int.reduceAdd, Int.reduceNeg, Int.reduceSub]
  have h1 := cpl_le1 a b
  have h2 := cpl_le2 a b
  rw [w_rounds_u (fun k => [(5, .int .i64 k)]) (cpl a b) (.exit 0) [(5, .int .i64 (cpl a b))] ?_ ?_ ?_ rfl]
  · rw [ltB_cpl]
    by_cases e : cpl a b = b.length
    · simp only [go_sem, ↓reduceIte, Nat.reduceBEq, Nat.reduceEqDiff, Nat.reduceLT, Nat.reduceLeDiff, Nat.reduceAdd, Nat.reduceMul, Nat.reduceSub, reduceCtorEq, Int.reduceLT, Int.reduceLE, Int.reduceEq, Int.reduceBEq, Int.reduceBNe, Int.reduceToNat, Int.reduceAdd, Int.reduceNeg, Int.reduceSub, e]
    · have e' : (((cpl a b : Nat) : Int) == b.length) = false := by simp; omega
      have hzb1 := hzb (by intro h; rw [h] at e; simp [cpl] at e)
      have hb : b[cpl a b]? = some (b.getD (cpl a b) 0) := by
        rw [List.getD_eq_getElem?_getD, List.getElem?_eq_getElem (show cpl a b < b.length by omega)]; rfl
      by_cases f : cpl a b = a.length
      · have f' : (((cpl a b : Nat) : Int) == a.length) = true := by simp [f]
        have fd : decide (cpl a b = a.length) = true := by simp [f]
        simp only [go_sem, ↓reduceIte, Nat.reduceBEq, Nat.reduceEqDiff, Nat.reduceLT, Nat.reduceLeDiff, Nat.reduceAdd, Nat.reduceMul, Nat.reduceSub, reduceCtorEq, Int.reduceLT, Int.reduceLE, Int.reduceEq, Int.reduceBEq, Int.reduceBNe, Int.reduceToNat, Int.reduceAdd, Int.reduceNeg, Int.reduceSub, e', e, f', fd]
      · have f' : (((cpl a b : Nat) : Int) == a.length) = false := by simp; omega
        have fd : decide (cpl a b = a.length) = false := by simp [f]
        have hza1 := hza (by intro h; rw [h] at h1; simp at h1; rw [h] at f; simp at f; omega)
        have ha : a[cpl a b]? = some (a.getD (cpl a b) 0) := by
          rw [List.getD_eq_getElem?_getD, List.getElem?_eq_getElem (show cpl a b < a.length by omega)]; rfl
        simp only [go_sem, ↓reduceIte, Nat.reduceBEq, Nat.reduceEqDiff, Nat.reduceLT, Nat.reduceLeDiff, Nat.reduceAdd, Nat.reduceMul, Nat.reduceSub, reduceCtorEq, Int.reduceLT, Int.reduceLE, Int.reduceEq, Int.reduceBEq, Int.reduceBNe, Int.reduceToNat, Int.reduceAdd, Int.reduceNeg, Int.reduceSub, e', e, f', fd, ha, hb, hza1, hzb1]
  · simp only [go_sem, ↓reduceIte, Nat.reduceBEq, Nat.reduceEqDiff, Nat.reduceLT, Nat.reduceLeDiff, Nat.reduceAdd, Nat.reduceMul, Nat.reduceSub, reduceCtorEq, Int.reduceLT, Int.reduceLE, Int.reduceEq, Int.reduceBEq, Int.reduceBNe, Int.reduceToNat, Int.reduceAdd, Int.reduceNeg, Int.reduceSub]
  · intro k hk
    have ka : k < a.length := by omega
    have kb : k < b.length := by omega
    have kai : (k : Int) < a.length := by omega
    have kbi : (k : Int) < b.length := by omega
    have hx := List.getElem?_eq_getElem ka
    have hy := List.getElem?_eq_getElem kb
    have he := cpl_eq a b k hk
    rw [hx, hy] at he
    simp only [Option.some.injEq] at he
    have hza1 := hza (by intro h; rw [h] at ka; simp at ka)
    have hzb1 := hzb (by intro h; rw [h] at kb; simp at kb)
    simp (disch := omega) only [go_sem, ↓reduceIte, Nat.reduceBEq, Nat.reduceEqDiff, Nat.reduceLT, Nat.reduceLeDiff, Nat.reduceAdd, Nat.reduceMul, Nat.reduceSub, reduceCtorEq, Int.reduceLT, Int.reduceLE, Int.reduceEq, Int.reduceBEq, Int.reduceBNe, Int.reduceToNat, Int.reduceAdd, Int.reduceNeg, Int.reduceSub, kai, kbi, hx, hy, he, hza1, hzb1, wrap_i64]
  · by_cases f : cpl a b < a.length
    · have fi : ((cpl a b : Nat) : Int) < a.length := by omega
      by_cases g : cpl a b < b.length
      · have gi : ((cpl a b : Nat) : Int) < b.length := by omega
        have hx := List.getElem?_eq_getElem f
        have hy := List.getElem?_eq_getElem g
        have hne := cpl_ne a b _ _ hx hy
        have hne' : (a[cpl a b] == b[cpl a b]) = false := by simpa using hne
        have hza1 := hza (by intro h; rw [h] at f; simp at f)
        have hzb1 := hzb (by intro h; rw [h] at g; simp at g)
        simp (disch := omega) only [go_sem, ↓reduceIte, Nat.reduceBEq, Nat.reduceEqDiff, Nat.reduceLT, Nat.reduceLeDiff, Nat.reduceAdd, Nat.reduceMul, Nat.reduceSub, reduceCtorEq, Int.reduceLT, Int.reduceLE, Int.reduceEq, Int.reduceBEq, Int.reduceBNe, Int.reduceToNat, Int.reduceAdd, Int.reduceNeg, Int.reduceSub, fi, gi, hx, hy, hne', hza1, hzb1]
      · have gi : ¬ ((cpl a b : Nat) : Int) < b.length := by omega
        simp (disch := omega) only [go_sem, ↓reduceIte, Nat.reduceBEq, Nat.reduceEqDiff, Nat.reduceLT, Nat.reduceLeDiff, Nat.reduceAdd, Nat.reduceMul, Nat.reduceSub, reduceCtorEq, Int.reduceLT, Int.reduceLE, Int.reduceEq, Int.reduceBEq, Int.reduceBNe, Int.reduceToNat, Int.reduceAdd, Int.reduceNeg, Int.reduceSub, fi, gi]
    · have fi : ¬ ((cpl a b : Nat) : Int) < a.length := by omega
      simp (disch := omega) only [go_sem, ↓reduceIte, Nat.reduceBEq, Nat.reduceEqDiff, Nat.reduceLT, Nat.reduceLeDiff, Nat.reduceAdd, Nat.reduceMul, Nat.reduceSub, reduceCtorEq, Int.reduceLT, Int.reduceLE, Int.reduceEq, Int.reduceBEq, Int.reduceBNe, Int.reduceToNat, Int.reduceAdd, Int.reduceNeg, Int.reduceSub, fi]
theorem c20 (a b : List Int) (za zb : Nat) (hza : a ≠ [] → za = 1) (hzb : b ≠ [] → zb = 1) (la : a.length < 1000000000000000000) (lb : b.length < 1000000000000000000) (h : Heap) :
    callPure (EW tabX) 20 [.lst 0 za (I a), .lst 0 zb (I b)] h = some (.bool (decide (a = b)), h) := by
  have h1 := c66 a b za zb hza hzb la lb
  have h2 := c66 b a zb za hzb hza lb la
  rw [callPure_eq, w_call _ fn_20 rfl, ← ltB_eq]
  have e : ((a.length : Int) == b.length) = decide (a.length = b.length) := by rw [Bool.eq_iff_iff]; simp; omega
  simp only [go_sem, ↓reduceIte, Nat.reduceBEq, Nat.reduceEqDiff, Nat.reduceLT, Nat.reduceLeDiff, Nat.reduceAdd, Nat.reduceMul, Nat.reduceSub, reduceCtorEq, Int.reduceLT, Int.reduceLE, Int.reduceEq, Int.reduceBEq, Int.reduceBNe, Int.reduceToNat, Int.reduceAdd, Int.reduceNeg, Int.reduceSub, h1, h2, e]
theorem any_succ {α : Type} (p : α → Bool) {l : List α} {k : Nat} {x : α} (h : l[k]? = some x) : (l.take (k + 1)).any p = ((l.take k).any p || p x) := by
  rw [List.take_add_one, h]; simp
theorem c89 (l : List Int) (n : Int) (z : Nat) (hz : l ≠ [] → z = 1) (hl : l.length < 1000000000000000000) (h : Heap) :
    callPure (EW tabX) 89 [.lst 0 z (I l), .int .i64 n] h = some (.bool (l.any fun x => x == n), h) := by
  rw [callPure_eq, w_call _ fn_89 rfl]
  simp only [go_sem, ↓reduceIte, Nat.reduceBEq, Nat.reduceEqDiff, Nat.reduceLT, Nat.reduceLeDiff, Nat.reduceAdd, Nat.reduceMul, Nat.reduceSub, reduceCtorEq, Int.reduceLT, Int.reduceLE, Int.reduceEq, Int.reduceBEq, Int.reduceBNe, Int.reduceToNat, Int.reduceAdd, Int.reduceNeg, Int.reduceSub]
  rw [w_rounds_u (fun k => [(5, .bool ((l.take k).any fun x => x == n)), (6, .int .i64 k)]) l.length (.exit 0) [(5, .bool (l.any fun x => x == n)), (6, .int .i64 l.length)] ?_ ?_ ?_ rfl]
  · simp only [go_sem, ↓reduceIte, Nat.reduceBEq, Nat.reduceEqDiff, Nat.reduceLT, Nat.reduceLeDiff, Nat.reduceAdd, Nat.reduceMul, Nat.reduceSub, reduceCtorEq, Int.reduceLT, Int.reduceLE, Int.reduceEq, Int.reduceBEq, Int.reduceBNe, Int.reduceToNat, Int.reduceAdd, Int.reduceNeg, Int.reduceSub]
  · simp only [go_sem, ↓reduceIte, Nat.reduceBEq, Nat.reduceEqDiff, Nat.reduceLT, Nat.reduceLeDiff, Nat.reduceAdd, Nat.reduceMul, Nat.reduceSub, reduceCtorEq, Int.reduceLT, Int.reduceLE, Int.reduceEq, Int.reduceBEq, Int.reduceBNe, Int.reduceToNat, Int.reduceAdd, Int.reduceNeg, Int.reduceSub, List.any_nil]
  · intro k hk
    have hki : (k : Int) < l.length := by omega
    have hx := List.getElem?_eq_getElem hk
    have hz1 := hz (by intro e; rw [e] at hk; simp at hk)
    subst hz1
    simp (disch := omega) only [go_sem, ↓reduceIte, Nat.reduceBEq, Nat.reduceEqDiff, Nat.reduceLT, Nat.reduceLeDiff, Nat.reduceAdd, Nat.reduceMul, Nat.reduceSub, reduceCtorEq, Int.reduceLT, Int.reduceLE, Int.reduceEq, Int.reduceBEq, Int.reduceBNe, Int.reduceToNat, Int.reduceAdd, Int.reduceNeg, Int.reduceSub, hki, hx, wrap_i64, any_succ _ hx]
  · simp only [go_sem, ↓reduceIte, Nat.reduceBEq, Nat.reduceEqDiff, Nat.reduceLT, Nat.reduceLeDiff, Nat.reduceAdd, Nat.reduceMul, Nat.reduceSub, reduceCtorEq, Int.reduceLT, Int.reduceLE, Int.reduceEq, Int.reduceBEq, Int.reduceBNe, Int.reduceToNat, Int.reduceAdd, Int.reduceNeg, Int.reduceSub]

end Go.Proofs.Ytaohhjaogjcfoaa
end
section
namespace Go.Proofs.Ytaohhjaogjcfoaa
open Go.Proofs

theorem shr_and : ∀ s : Fin 32, ∀ i : Fin 5, (IntKind.i64.wrap (BitVec.ofInt 64 (((s.1 : Nat) : Int).fdiv (2 ^ (min i.1 64))) &&& BitVec.ofInt 64 1).toNat == 1) = s.1.testBit i.1 := by decide
theorem or_bit : ∀ s : Fin 32, ∀ i : Fin 5, IntKind.i64.wrap (BitVec.ofInt 64 ((s.1 : Nat) : Int) ||| BitVec.ofInt 64 (IntKind.i64.wrap (1 * 2 ^ (min i.1 64)))).toNat = ((s.1 ||| 2 ^ i.1 : Nat) : Int) := by decide
theorem or_lt : ∀ s : Fin 32, ∀ i : Fin 5, (s.1 ||| 2 ^ i.1) < 32 := by decide
theorem or_test : ∀ s : Fin 32, ∀ i : Fin 5, ∀ j : Fin 5, (s.1 ||| 2 ^ i.1).testBit j.1 = (s.1.testBit j.1 || decide (i = j)) := by decide

def bitsL (s n : Nat) : List Int := ((List.range n).filter fun i => s.testBit i).map fun (i : Nat) => (i : Int)
theorem bitsL_succ (s n : Nat) : bitsL s (n + 1) = if s.testBit n = true then bitsL s n ++ [(n : Int)] else bitsL s n := by
  unfold bitsL
  rw [List.range_succ, List.filter_append, List.map_append]
  have e : (List.filter (fun i => s.testBit i) [n]) = if s.testBit n = true then [n] else [] := by simp only [List.filter_cons, List.filter_nil]
  rw [e]
  split <;> simp
theorem bitsL_len (s n : Nat) : (bitsL s n).length ≤ n := by
  unfold bitsL; rw [List.length_map]; have := List.length_filter_le (fun i => s.testBit i) (List.range n); simpa using this
theorem c81 (s n : Nat) (hs : s < 32) (hn : n ≤ 5) (h : Heap) : callPure (EW tabX) 81 [.int .i64 s, .int .i64 n] h = some (vI (bitsL s n), h) := by
  rw [callPure_eq, w_call _ fn_81 rfl]
  simp only [go_sem, ↓reduceIte, Nat.reduceBEq, Nat.reduceEqDiff, Nat.reduceLT, Nat.reduceLeDiff, Nat.reduceAdd, Nat.reduceMul, Nat.reduceSub, reduceCtorEq, Int.reduceLT, Int.reduceLE, Int.reduceEq, Int.reduceBEq, Int.reduceBNe, Int.reduceToNat, Int.reduceAdd, Int.reduceNeg, Int.reduceSub]
  rw [w_rounds_h (fun k => [(4, ownT [] (bitsL s k)), (7, .int .i64 k)]) (fun k => ⟨[], T [] (bitsL s k).length⟩) n (.exit 0) [(4, ownT [] (bitsL s n)), (7, .int .i64 n)] ⟨[], T [] (bitsL s n).length⟩ ?_ ?_ ?_ ?_ rfl]
  · simp only [go_sem, ↓reduceIte, Nat.reduceBEq, Nat.reduceEqDiff, Nat.reduceLT, Nat.reduceLeDiff, Nat.reduceAdd, Nat.reduceMul, Nat.reduceSub, reduceCtorEq, Int.reduceLT, Int.reduceLE, Int.reduceEq, Int.reduceBEq, Int.reduceBNe, Int.reduceToNat, Int.reduceAdd, Int.reduceNeg, Int.reduceSub, ownT_clean, ownT_under]
  · simp only [go_sem, ↓reduceIte, Nat.reduceBEq, Nat.reduceEqDiff, Nat.reduceLT, Nat.reduceLeDiff, Nat.reduceAdd, Nat.reduceMul, Nat.reduceSub, reduceCtorEq, Int.reduceLT, Int.reduceLE, Int.reduceEq, Int.reduceBEq, Int.reduceBNe, Int.reduceToNat, Int.reduceAdd, Int.reduceNeg, Int.reduceSub]; rfl
  · rfl
  · intro k hk
    have hki : (k : Int) < n := by omega
    have hb := shr_and ⟨s, hs⟩ ⟨k, by omega⟩
    have hln := bitsL_len s k
    have hap := ownT_app [] (bitsL s k) k (by omega)
    rw [bitsL_succ]
    cases e : s.testBit k with
    | true =>
      simp only [e] at hb
      simp (disch := omega) only [go_sem, ↓reduceIte, Nat.reduceBEq, Nat.reduceEqDiff, Nat.reduceLT, Nat.reduceLeDiff, Nat.reduceAdd, Nat.reduceMul, Nat.reduceSub, reduceCtorEq, Int.reduceLT, Int.reduceLE, Int.reduceEq, Int.reduceBEq, Int.reduceBNe, Int.reduceToNat, Int.reduceAdd, Int.reduceNeg, Int.reduceSub, hki, wrap_i64, hap]
      rw [if_pos (by exact hb)]
    | false =>
      simp only [e] at hb
      simp (disch := omega) only [go_sem, ↓reduceIte, Nat.reduceBEq, Nat.reduceEqDiff, Nat.reduceLT, Nat.reduceLeDiff, Nat.reduceAdd, Nat.reduceMul, Nat.reduceSub, reduceCtorEq, Int.reduceLT, Int.reduceLE, Int.reduceEq, Int.reduceBEq, Int.reduceBNe, Int.reduceToNat, Int.reduceAdd, Int.reduceNeg, Int.reduceSub, hki, wrap_i64]
      rw [if_neg (by intro hh; exact Bool.false_ne_true (hb.symm.trans hh))]
      try simp (disch := omega) only [go_sem, ↓reduceIte, Nat.reduceBEq, Nat.reduceEqDiff, Nat.reduceLT, Nat.reduceLeDiff, Nat.reduceAdd, Nat.reduceMul, Nat.reduceSub, reduceCtorEq, Int.reduceLT, Int.reduceLE, Int.reduceEq, Int.reduceBEq, Int.reduceBNe, Int.reduceToNat, Int.reduceAdd, Int.reduceNeg, Int.reduceSub, wrap_i64]
  · simp only [go_sem, ↓reduceIte, Nat.reduceBEq, Nat.reduceEqDiff, Nat.reduceLT, Nat.reduceLeDiff, Nat.reduceAdd, Nat.reduceMul, Nat.reduceSub, reduceCtorEq, Int.reduceLT, Int.reduceLE, Int.reduceEq, Int.reduceBEq, Int.reduceBNe, Int.reduceToNat, Int.reduceAdd, Int.reduceNeg, Int.reduceSub]

theorem c105 (x : Int) (h : Heap) : callPure (EW tabX) 105 [.int .i64 x] h = some (.bool false, h) := by
  rw [callPure_eq, w_call _ fn_105 rfl]
  simp only [go_sem, ↓reduceIte, Nat.reduceBEq, Nat.reduceEqDiff, Nat.reduceLT, Nat.reduceLeDiff, Nat.reduceAdd, Nat.reduceMul, Nat.reduceSub, reduceCtorEq, Int.reduceLT, Int.reduceLE, Int.reduceEq, Int.reduceBEq, Int.reduceBNe, Int.reduceToNat, Int.reduceAdd, Int.reduceNeg, Int.reduceSub]
def cmpI (x y : Int) : Int := if x < y then -1 else if y < x then 1 else 0
theorem c99 (x y : Int) (h : Heap) : callPure (EW tabX) 99 [.int .i64 x, .int .i64 y] h = some (.int .i64 (cmpI x y), h) := by
  rw [callPure_eq, w_call _ fn_99 rfl]
  unfold cmpI
  by_cases h1 : x < y
  · simp only [go_sem, ↓reduceIte, Nat.reduceBEq, Nat.reduceEqDiff, Nat.reduceLT, Nat.reduceLeDiff, Nat.reduceAdd, Nat.reduceMul, Nat.reduceSub, reduceCtorEq, Int.reduceLT, Int.reduceLE, Int.reduceEq, Int.reduceBEq, Int.reduceBNe, Int.reduceToNat, Int.reduceAdd, Int.reduceNeg, Int.reduceSub, c105, h1]
  · by_cases h2 : y < x
    · simp only [go_sem, ↓reduceIte, Nat.reduceBEq, Nat.reduceEqDiff, Nat.reduceLT, Nat.reduceLeDiff, Nat.reduceAdd, Nat.reduceMul, Nat.reduceSub, reduceCtorEq, Int.reduceLT, Int.reduceLE, Int.reduceEq, Int.reduceBEq, Int.reduceBNe, Int.reduceToNat, Int.reduceAdd, Int.reduceNeg, Int.reduceSub, c105, h1, h2]
    · simp only [go_sem, ↓reduceIte, Nat.reduceBEq, Nat.reduceEqDiff, Nat.reduceLT, Nat.reduceLeDiff, Nat.reduceAdd, Nat.reduceMul, Nat.reduceSub, reduceCtorEq, Int.reduceLT, Int.reduceLE, Int.reduceEq, Int.reduceBEq, Int.reduceBNe, Int.reduceToNat, Int.reduceAdd, Int.reduceNeg, Int.reduceSub, c105, h1, h2]
def cmpL (a b : List Int) : Int := if ltB a b then -1 else if a = b then 0 else 1
theorem cmpL_neg (a b : List Int) : decide (cmpL a b < 0) = ltB a b := by
  unfold cmpL
  cases ltB a b with
  | true => rfl
  | false => simp only [Bool.false_eq_true, if_false]; split <;> rfl
theorem c82 (a b : List Int) (za zb : Nat) (hza : a ≠ [] → za = 1) (hzb : b ≠ [] → zb = 1) (la : a.length < 1000000000000000000) (lb : b.length < 1000000000000000000) (h : Heap) :
    callPure (EW tabX) 82 [.lst 0 za (I a), .lst 0 zb (I b)] h = some (.int .i64 (cmpL a b), h) := by
  rw [callPure_eq, w_call _ fn_82 rfl]
  simp only [go_sem, ↓reduceIte, Nat.reduceBEq, Nat.reduceEqDiff, Nat.reduceLT, Nat.reduceLeDiff, Nat.reduceAdd, Nat.reduceMul, Nat.reduceSub, reduceCtorEq, Int.reduceLT, Int.reduceLE, Int.reduceEq, Int.reduceBEq, Int.reduceBNe, Int.reduceToNat, Int.reduceAdd, Int.reduceNeg, Int.reduceSub]
  have h1 := cpl_le1 a b
  have h2 := cpl_le2 a b
  have hlt := ltB_cpl a b
  have heq := ltB_eq a b
  have round : ∀ k, k < cpl a b → ∃ x, a[k]? = some x ∧ b[k]? = some x ∧ (k : Int) < a.length ∧ ¬ (b.length : Int) ≤ k ∧ za = 1 ∧ zb = 1 := fun k hk => by
    have ka : k < a.length := by omega
    have kb : k < b.length := by omega
    have hx := List.getElem?_eq_getElem ka
    have he := cpl_eq a b k hk
    exact ⟨a[k], hx, by rw [← he]; exact hx, by omega, by omega, hza (by intro h; rw [h] at ka; simp at ka), hzb (by intro h; rw [h] at kb; simp at kb)⟩
  have cz : ∀ x, cmpI x x = 0 := fun x => by unfold cmpI; rw [if_neg (by omega), if_neg (by omega)]
  by_cases e : cpl a b = a.length
  · rw [w_rounds_u (fun k => [(11, .int .i64 k)]) (cpl a b) (.exit 0) [(11, .int .i64 (cpl a b))] ?_ ?_ ?_ rfl]
    · by_cases f : a.length < b.length
      · have fi : (a.length : Int) < b.length := by omega
        have hl : ltB a b = true := by rw [hlt, if_neg (by omega), e]; simp
        simp only [go_sem, ↓reduceIte, Nat.reduceBEq, Nat.reduceEqDiff, Nat.reduceLT, Nat.reduceLeDiff, Nat.reduceAdd, Nat.reduceMul, Nat.reduceSub, reduceCtorEq, Int.reduceLT, Int.reduceLE, Int.reduceEq, Int.reduceBEq, Int.reduceBNe, Int.reduceToNat, Int.reduceAdd, Int.reduceNeg, Int.reduceSub, fi, cmpL, hl]
      · have fi : ¬ (a.length : Int) < b.length := by omega
        have hl : ltB a b = false := by rw [hlt, if_pos (by omega)]
        have hab : a = b := by
          apply List.ext_getElem? 
          intro k
          by_cases hk : k < cpl a b
          · exact cpl_eq a b k hk
          · rw [List.getElem?_eq_none (by omega), List.getElem?_eq_none (by omega)]
        subst hab
        simp only [go_sem, ↓reduceIte, Nat.reduceBEq, Nat.reduceEqDiff, Nat.reduceLT, Nat.reduceLeDiff, Nat.reduceAdd, Nat.reduceMul, Nat.reduceSub, reduceCtorEq, Int.reduceLT, Int.reduceLE, Int.reduceEq, Int.reduceBEq, Int.reduceBNe, Int.reduceToNat, Int.reduceAdd, Int.reduceNeg, Int.reduceSub, cmpL, hl]
    · simp only [go_sem, ↓reduceIte, Nat.reduceBEq, Nat.reduceEqDiff, Nat.reduceLT, Nat.reduceLeDiff, Nat.reduceAdd, Nat.reduceMul, Nat.reduceSub, reduceCtorEq, Int.reduceLT, Int.reduceLE, Int.reduceEq, Int.reduceBEq, Int.reduceBNe, Int.reduceToNat, Int.reduceAdd, Int.reduceNeg, Int.reduceSub]
    · intro k hk
      obtain ⟨x, x1, x2, x3, x4, x5, x6⟩ := round k hk
      simp (disch := omega) only [go_sem, ↓reduceIte, Nat.reduceBEq, Nat.reduceEqDiff, Nat.reduceLT, Nat.reduceLeDiff, Nat.reduceAdd, Nat.reduceMul, Nat.reduceSub, reduceCtorEq, Int.reduceLT, Int.reduceLE, Int.reduceEq, Int.reduceBEq, Int.reduceBNe, Int.reduceToNat, Int.reduceAdd, Int.reduceNeg, Int.reduceSub, x1, x2, x3, x4, x5, x6, c99, cz, wrap_i64]
    · simp only [go_sem, ↓reduceIte, Nat.reduceBEq, Nat.reduceEqDiff, Nat.reduceLT, Nat.reduceLeDiff, Nat.reduceAdd, Nat.reduceMul, Nat.reduceSub, reduceCtorEq, Int.reduceLT, Int.reduceLE, Int.reduceEq, Int.reduceBEq, Int.reduceBNe, Int.reduceToNat, Int.reduceAdd, Int.reduceNeg, Int.reduceSub, e]
  · have g : cpl a b < a.length := by omega
    have gi : ((cpl a b : Nat) : Int) < a.length := by omega
    have hx := List.getElem?_eq_getElem g
    have hza1 := hza (by intro h; rw [h] at g; simp at g)
    by_cases f : cpl a b = b.length
    · have fi : (b.length : Int) ≤ (cpl a b : Nat) := by omega
      have hl : ltB a b = false := by rw [hlt, if_pos f]
      have hab : ¬ a = b := fun h => by rw [h] at g f; omega
      rw [w_rounds_u (fun k => [(11, .int .i64 k)]) (cpl a b) .ret [(4, .int .i64 1), (5, .int .i64 (cpl a b)), (6, .int .i64 a[cpl a b]), (11, .int .i64 (cpl a b))] ?_ ?_ ?_ rfl]
      · simp only [go_sem, ↓reduceIte, Nat.reduceBEq, Nat.reduceEqDiff, Nat.reduceLT, Nat.reduceLeDiff, Nat.reduceAdd, Nat.reduceMul, Nat.reduceSub, reduceCtorEq, Int.reduceLT, Int.reduceLE, Int.reduceEq, Int.reduceBEq, Int.reduceBNe, Int.reduceToNat, Int.reduceAdd, Int.reduceNeg, Int.reduceSub, cmpL, hl, hab]
      · simp only [go_sem, ↓reduceIte, Nat.reduceBEq, Nat.reduceEqDiff, Nat.reduceLT, Nat.reduceLeDiff, Nat.reduceAdd, Nat.reduceMul, Nat.reduceSub, reduceCtorEq, Int.reduceLT, Int.reduceLE, Int.reduceEq, Int.reduceBEq, Int.reduceBNe, Int.reduceToNat, Int.reduceAdd, Int.reduceNeg, Int.reduceSub]
      · intro k hk
        obtain ⟨x, x1, x2, x3, x4, x5, x6⟩ := round k hk
        simp (disch := omega) only [go_sem, ↓reduceIte, Nat.reduceBEq, Nat.reduceEqDiff, Nat.reduceLT, Nat.reduceLeDiff, Nat.reduceAdd, Nat.reduceMul, Nat.reduceSub, reduceCtorEq, Int.reduceLT, Int.reduceLE, Int.reduceEq, Int.reduceBEq, Int.reduceBNe, Int.reduceToNat, Int.reduceAdd, Int.reduceNeg, Int.reduceSub, x1, x2, x3, x4, x5, x6, c99, cz, wrap_i64]
      · simp only [go_sem, ↓reduceIte, Nat.reduceBEq, Nat.reduceEqDiff, Nat.reduceLT, Nat.reduceLeDiff, Nat.reduceAdd, Nat.reduceMul, Nat.reduceSub, reduceCtorEq, Int.reduceLT, Int.reduceLE, Int.reduceEq, Int.reduceBEq, Int.reduceBNe, Int.reduceToNat, Int.reduceAdd, Int.reduceNeg, Int.reduceSub, hx, gi, hza1, fi]
    · have g2 : cpl a b < b.length := by omega
      have gi2 : ¬ (b.length : Int) ≤ (cpl a b : Nat) := by omega
      have hy := List.getElem?_eq_getElem g2
      have hzb1 := hzb (by intro h; rw [h] at g2; simp at g2)
      have hne := cpl_ne a b _ _ hx hy
      have ea : a.getD (cpl a b) 0 = a[cpl a b] := by simp [g]
      have eb : b.getD (cpl a b) 0 = b[cpl a b] := by simp [g2]
      have hab : ¬ a = b := fun h => by subst h; exact hne rfl
      have hl : ltB a b = decide (a[cpl a b] < b[cpl a b]) := by rw [hlt, if_neg f, ea, eb]; simp [e]
      have hc : cmpL a b = cmpI a[cpl a b] b[cpl a b] := by
        unfold cmpL cmpI
        rw [hl, if_neg hab]
        by_cases q : a[cpl a b] < b[cpl a b]
        · simp [q]
        · have q2 : b[cpl a b] < a[cpl a b] := by omega
          simp [q, q2]
      have hn0 : (cmpI a[cpl a b] b[cpl a b] != 0) = true := by
        unfold cmpI
        by_cases q : a[cpl a b] < b[cpl a b]
        · simp [q]
        · have q2 : b[cpl a b] < a[cpl a b] := by omega
          simp [q, q2]
      rw [w_rounds_u (fun k => [(11, .int .i64 k)]) (cpl a b) .ret [(4, .int .i64 (cmpI a[cpl a b] b[cpl a b])), (5, .int .i64 (cpl a b)), (6, .int .i64 a[cpl a b]), (7, .int .i64 b[cpl a b]), (8, .int .i64 (cmpI a[cpl a b] b[cpl a b])), (11, .int .i64 (cpl a b))] ?_ ?_ ?_ rfl]
      · simp only [go_sem, ↓reduceIte, Nat.reduceBEq, Nat.reduceEqDiff, Nat.reduceLT, Nat.reduceLeDiff, Nat.reduceAdd, Nat.reduceMul, Nat.reduceSub, reduceCtorEq, Int.reduceLT, Int.reduceLE, Int.reduceEq, Int.reduceBEq, Int.reduceBNe, Int.reduceToNat, Int.reduceAdd, Int.reduceNeg, Int.reduceSub, hc]
      · simp only [go_sem, ↓reduceIte, Nat.reduceBEq, Nat.reduceEqDiff, Nat.reduceLT, Nat.reduceLeDiff, Nat.reduceAdd, Nat.reduceMul, Nat.reduceSub, reduceCtorEq, Int.reduceLT, Int.reduceLE, Int.reduceEq, Int.reduceBEq, Int.reduceBNe, Int.reduceToNat, Int.reduceAdd, Int.reduceNeg, Int.reduceSub]
      · intro k hk
        obtain ⟨x, x1, x2, x3, x4, x5, x6⟩ := round k hk
        simp (disch := omega) only [go_sem, ↓reduceIte, Nat.reduceBEq, Nat.reduceEqDiff, Nat.reduceLT, Nat.reduceLeDiff, Nat.reduceAdd, Nat.reduceMul, Nat.reduceSub, reduceCtorEq, Int.reduceLT, Int.reduceLE, Int.reduceEq, Int.reduceBEq, Int.reduceBNe, Int.reduceToNat, Int.reduceAdd, Int.reduceNeg, Int.reduceSub, x1, x2, x3, x4, x5, x6, c99, cz, wrap_i64]
      · simp only [go_sem, ↓reduceIte, Nat.reduceBEq, Nat.reduceEqDiff, Nat.reduceLT, Nat.reduceLeDiff, Nat.reduceAdd, Nat.reduceMul, Nat.reduceSub, reduceCtorEq, Int.reduceLT, Int.reduceLE, Int.reduceEq, Int.reduceBEq, Int.reduceBNe, Int.reduceToNat, Int.reduceAdd, Int.reduceNeg, Int.reduceSub, hx, hy, gi, gi2, hza1, hzb1, c99, hn0]
end Go.Proofs.Ytaohhjaogjcfoaa
end
section
namespace Go.Proofs.Ytaohhjaogjcfoaa
open Go.Proofs

section
variable {X : Tab} {f : Nat} {rd : Option Nat} {b : Code}
theorem w_rounds_sk {σ : Type} {G : Prop} {g : Slots} {h : Heap} {ms : List Nat} {x : Option (AExit × St)} (hx : (EW X).code f rd (.loop b) ⟨⟨g, []⟩, h, ms⟩ = x)
    (U : Nat → σ → Slots) (Hp : σ → Heap) (R : Nat → σ → Prop) (n : Nat) (e : AExit) (V : σ → Slots) (hr : isNormal e = false) (s0 : σ) (h0 : puts g (U 0 s0) = g) (hh : Hp s0 = h) (hR : R 0 s0)
    (hs : ∀ k s, k < n → R k s → ∃ s', cutS ⟨⟨puts g (U k s), []⟩, Hp s, ms⟩ ((EW X).code f rd b ⟨⟨puts g (U k s), []⟩, Hp s, ms⟩) = some (.normal, ⟨⟨puts g (U (k + 1) s'), []⟩, Hp s', ms⟩) ∧ R (k + 1) s')
    (he : ∀ s, R n s → cutS ⟨⟨puts g (U n s), []⟩, Hp s, ms⟩ ((EW X).code f rd b ⟨⟨puts g (U n s), []⟩, Hp s, ms⟩) = some (e, ⟨⟨puts g (V s), []⟩, Hp s, ms⟩))
    (hG : ∀ s, x = some (e, ⟨⟨puts g (V s), []⟩, Hp s, ms⟩) → R n s → G) : G := by
  obtain ⟨e', s', h1, s, rfl, rfl, h2⟩ := w_rounds_ex hx (fun k q => ∃ s, q = ⟨⟨puts g (U k s), []⟩, Hp s, ms⟩ ∧ R k s) n (fun e' q => ∃ s, e' = e ∧ q = ⟨⟨puts g (V s), []⟩, Hp s, ms⟩ ∧ R n s)
    ⟨s0, by rw [h0, hh], hR⟩ (fun k q hk ⟨s, hq1, hq2⟩ => by
      subst hq1
      obtain ⟨s', a, c⟩ := hs k s hk hq2
      exact ⟨_, a, s', rfl, c⟩)
    (fun q ⟨s, hq1, hq2⟩ => by
      subst hq1
      exact ⟨e, _, he s hq2, hr, s, rfl, rfl, hq2⟩)
  exact hG s h1 h2
end

def OwnS (sz tag z n : Nat) (t : List Bool) : Prop := (tag = 1 ∧ n = 0) ∨ ∃ q, tag = q + 2 ∧ z = sz ∧ t[q]? = some true
theorem app_gen {X : Tab} {ty e : TypeId} {sz : Nat} {tag z : Nat} {t : List Bool} {xs : List AV} (hn : OwnS sz tag z xs.length t) (u z' : Nat) (ys : List AV) (ht : trow X ty = .slice e) (hs : tsz X e = sz) (h0 : 0 < sz) (hz' : z' = sz ∨ ys.length = 0)
    (hy : (xs.length + ys.length) * tbytes X e ≤ 140737488355328) (hy2 : xs.length + ys.length ≤ 140737488355328) (hf : zeroFits X e = true) (hv : ys.all AV.var = true) :
    ∃ t2, (∀ B, appendAV X ty t.length ⟨B, t⟩ (.lst tag z xs) (.lst u z' ys) = some (.lst (t.length + 2) sz (xs ++ ys), ⟨B, t2⟩)) ∧ t2.length = t.length + 1 ∧ t2[t.length]? = some true ∧ ∀ k, tag ≠ k + 2 → t[k]? = some true → t2[k]? = some true := by
  have hc : (z' = tsz X e ∨ ys.length = 0) ∧ 0 < tsz X e ∧ (xs.length + ys.length) * tbytes X e ≤ appLimit ∧ xs.length + ys.length ≤ appLimit ∧ zeroFits X e = true ∧ ys.all AV.var = true := by
    rw [hs]; exact ⟨hz', h0, hy, hy2, hf, hv⟩
  unfold appendAV
  simp only [ht, if_pos hc]
  rcases hn with ⟨rfl, hn0⟩ | ⟨q, rfl, hq, hqt⟩
  · have hx : z = tsz X e ∨ xs.length = 0 := .inr hn0
    refine ⟨t ++ [true], fun B => ?_, by simp, by simp, fun k _ hk => old hk _⟩
    rw [if_pos hx]
    simp only [hs, lset, Nat.lt_irrefl, if_false]
  · have hx : z = tsz X e := by rw [hs, hq]
    refine ⟨t.set q false ++ [true], fun B => ?_, by simp, by simp, fun k hne hk => ?_⟩
    · simp only [hqt]
      rw [if_pos hx]
      simp only [hs, lset, List.length_set, Nat.lt_irrefl, if_false]
    · refine old ?_ _
      rw [List.getElem?_set_ne (by omega)]; exact hk

def Rows (xs : List AV) (ts : List (List Int)) : Prop := xs.length = ts.length ∧ ∀ (i : Nat) (t : List Int), ts[i]? = some t → ∃ tg z, xs[i]? = some (.lst tg z (I t)) ∧ (t ≠ [] → z = 1)
theorem Rows.snoc {xs : List AV} {ts : List (List Int)} (h : Rows xs ts) (tg : Nat) (t : List Int) : Rows (xs ++ [.lst tg 1 (I t)]) (ts ++ [t]) := by
  refine ⟨by simp [h.1], fun i u hu => ?_⟩
  rw [List.getElem?_append] at hu
  split at hu
  · obtain ⟨a, z, h1, h2⟩ := h.2 i u hu
    exact ⟨a, z, old h1 _, h2⟩
  · rename_i hi
    have : i = ts.length := by
      by_cases e : i - ts.length = 0
      · omega
      · rw [List.getElem?_eq_none (by simp; omega)] at hu; cases hu
    subst this
    simp at hu; subst hu
    refine ⟨tg, 1, ?_, fun _ => rfl⟩
    rw [← h.1]; simp
theorem Rows.under {xs : List AV} {ts : List (List Int)} (h : Rows xs ts) (n : Nat) : underL n xs = true := by
  refine underL_of fun x hx => ?_
  obtain ⟨i, hi, e⟩ := List.mem_iff_getElem.1 hx
  have hi2 : i < ts.length := by rw [← h.1]; exact hi
  obtain ⟨a, z, h1, _⟩ := h.2 i ts[i] (List.getElem?_eq_getElem hi2)
  rw [List.getElem?_eq_getElem hi, e] at h1
  simp only [Option.some.injEq] at h1
  rw [h1]; simp only [go_sem, ↓reduceIte, Nat.reduceBEq, Nat.reduceEqDiff, Nat.reduceLT, Nat.reduceLeDiff, Nat.reduceAdd, Nat.reduceMul, Nat.reduceSub, reduceCtorEq, Int.reduceLT, Int.reduceLE, Int.reduceEq, Int.reduceBEq, Int.reduceBNe, Int.reduceToNat, Int.reduceAdd, Int.reduceNeg, Int.reduceSub]
theorem Rows.var {xs : List AV} {ts : List (List Int)} (h : Rows xs ts) : xs.all AV.var = true := by
  rw [List.all_eq_true]
  intro x hx
  obtain ⟨i, hi, e⟩ := List.mem_iff_getElem.1 hx
  have hi2 : i < ts.length := by rw [← h.1]; exact hi
  obtain ⟨a, z, h1, _⟩ := h.2 i ts[i] (List.getElem?_eq_getElem hi2)
  rw [List.getElem?_eq_getElem hi, e] at h1
  simp only [Option.some.injEq] at h1
  rw [h1]; rfl
theorem Rows.clean : ∀ {xs : List AV} {ts : List (List Int)}, Rows xs ts → ∃ ys, cleanL xs = some ys ∧ Rows ys ts ∧ cleanL ys = some ys
  | [], ts, h => ⟨[], cleanL_nil, h, cleanL_nil⟩
  | x :: xs, [], h => by have := h.1; simp at this
  | x :: xs, t :: ts, h => by
    have h' : Rows xs ts := ⟨by have := h.1; simpa using this, fun i u hu => by simpa using h.2 (i + 1) u (by simpa using hu)⟩
    obtain ⟨ys, h1, h2, h3⟩ := h'.clean
    obtain ⟨a, z, h4, h5⟩ := h.2 0 t rfl
    simp only [List.getElem?_cons_zero, Option.some.injEq] at h4
    subst h4
    refine ⟨.lst 0 z (I t) :: ys, by simp only [go_sem, ↓reduceIte, Nat.reduceBEq, Nat.reduceEqDiff, Nat.reduceLT, Nat.reduceLeDiff, Nat.reduceAdd, Nat.reduceMul, Nat.reduceSub, reduceCtorEq, Int.reduceLT, Int.reduceLE, Int.reduceEq, Int.reduceBEq, Int.reduceBNe, Int.reduceToNat, Int.reduceAdd, Int.reduceNeg, Int.reduceSub, h1], ⟨by have := h2.1; simp [this], fun i u hu => ?_⟩, by simp only [go_sem, ↓reduceIte, Nat.reduceBEq, Nat.reduceEqDiff, Nat.reduceLT, Nat.reduceLeDiff, Nat.reduceAdd, Nat.reduceMul, Nat.reduceSub, reduceCtorEq, Int.reduceLT, Int.reduceLE, Int.reduceEq, Int.reduceBEq, Int.reduceBNe, Int.reduceToNat, Int.reduceAdd, Int.reduceNeg, Int.reduceSub, h3]⟩
    cases i with
    | zero => simp at hu; subst hu; exact ⟨0, z, rfl, h5⟩
    | succ i => simpa using h2.2 i u (by simpa using hu)

end Go.Proofs.Ytaohhjaogjcfoaa
end
section
namespace Go.Proofs.Ytaohhjaogjcfoaa
open Go.Proofs

structure Ho.Ok (h : Ho) : Prop where
  d1 : 1 ≤ h.days
  d3 : h.days ≤ 3
  rd : (h.rates.length : Int) = h.days
  sp : ∀ s ∈ h.rates, 1 ≤ s.1 ∧ s.1 ≤ s.2 ∧ s.2 ≤ 20
  st : 0 ≤ h.step ∧ h.step ≤ 20
  a3 : h.agents.length ≤ 3
  ag : ∀ a ∈ h.agents, 0 ≤ a.fee ∧ a.fee ≤ 20 ∧ 0 ≤ a.round ∧ a.round ≤ 2 ∧ nameOk a.name = true
  an : ∀ (i : Nat) (x : Ag), h.agents[i]? = some x → (h.agents.take i).any (fun y => y.name == x.name) = false
  e5 : h.entries.length ≤ 5
  en : ∀ x ∈ h.entries, 0 ≤ x.agent ∧ x.agent < h.agents.length ∧ 0 ≤ x.day ∧ x.day < h.days ∧ 0 ≤ x.near ∧ x.near ≤ 99 ∧ -1 ≤ x.far ∧ x.far ≤ 198
theorem mem_get {α : Type} {l : List α} {x : α} (h : x ∈ l) : ∃ i, i < l.length ∧ l[i]? = some x := by
  obtain ⟨i, hi, e⟩ := List.mem_iff_getElem.1 h
  exact ⟨i, hi, by rw [← e]; exact List.getElem?_eq_getElem hi⟩
theorem spE_zero {s : Int × Int} (h : spE s = 0) : 1 ≤ s.1 ∧ s.1 ≤ s.2 ∧ s.2 ≤ 20 := by
  unfold spE at h
  split at h
  · cases h
  · rename_i h1
    split at h
    · cases h
    · rename_i h2
      simp [out] at h1
      omega
theorem agE_zero {l : List Ag} {i : Nat} {a : Ag} (h : agE l i a = 0) : nameOk a.name = true ∧ (l.take i).any (fun y => y.name == a.name) = false ∧ 0 ≤ a.fee ∧ a.fee ≤ 20 ∧ 0 ≤ a.round ∧ a.round ≤ 2 := by
  unfold agE at h
  split at h
  · rename_i h0
    split at h
    · cases h
    · rename_i h1
      split at h
      · cases h
      · rename_i h2
        simp [out] at h2
        exact ⟨h0, by simpa using h1, by omega, by omega, by omega, by omega⟩
  · cases h
theorem enE_zero {h : Ho} {x : En} (hx : enE h x = 0) : 0 ≤ x.agent ∧ x.agent < h.agents.length ∧ 0 ≤ x.day ∧ x.day < h.days ∧ 0 ≤ x.near ∧ x.near ≤ 99 ∧ -1 ≤ x.far ∧ x.far ≤ 198 := by
  unfold enE at hx
  split at hx
  · cases hx
  · rename_i h1
    split at hx
    · cases hx
    · rename_i h2
      simp [out] at h1 h2
      omega
theorem agE_fine {l : List Ag} {i : Nat} {a : Ag} (h : nameOk a.name = true ∧ (l.take i).any (fun y => y.name == a.name) = false ∧ 0 ≤ a.fee ∧ a.fee ≤ 20 ∧ 0 ≤ a.round ∧ a.round ≤ 2) : agE l i a = 0 := by
  unfold agE
  rw [if_pos h.1, h.2.1, if_neg (by decide), if_neg (by simp [out]; omega)]
theorem enE_fine {h : Ho} {x : En} (hx : 0 ≤ x.agent ∧ x.agent < h.agents.length ∧ 0 ≤ x.day ∧ x.day < h.days ∧ 0 ≤ x.near ∧ x.near ≤ 99 ∧ -1 ≤ x.far ∧ x.far ≤ 198) : enE h x = 0 := by
  unfold enE
  rw [if_neg (by simp [out]; omega), if_neg (by simp [out]; omega)]
theorem spE_fine {s : Int × Int} (h : 1 ≤ s.1 ∧ s.1 ≤ s.2 ∧ s.2 ≤ 20) : spE s = 0 := by
  unfold spE
  rw [if_neg (by simp [out]; omega), if_neg (by omega)]
theorem check_of_ok {h : Ho} (ho : h.Ok) : checkH h = (0, 0, 0) := by
  have h1 : out 1 3 h.days = false := by have := ho.d1; have := ho.d3; simp [out]; omega
  have h4 : out 0 20 h.step = false := by have := ho.st; simp [out]; omega
  have h5 := ho.a3
  have h7 := ho.e5
  have h3 : firstBad (rateE h) 0 h.rates.length = none := firstBad_zero fun i _ hi => by
    have hx := List.getElem?_eq_getElem (show i < h.rates.length by omega)
    rw [rateE, hx]; exact spE_fine (ho.sp _ (List.mem_of_getElem? hx))
  have h6 : firstBad (agentE h) 0 h.agents.length = none := firstBad_zero fun i _ hi => by
    have hx := List.getElem?_eq_getElem (show i < h.agents.length by omega)
    have a := ho.ag _ (List.mem_of_getElem? hx)
    rw [agentE, hx]; exact agE_fine ⟨a.2.2.2.2, ho.an i _ hx, a.1, a.2.1, a.2.2.1, a.2.2.2.1⟩
  have h8 : firstBad (entryE h) 0 h.entries.length = none := firstBad_zero fun i _ hi => by
    have hx := List.getElem?_eq_getElem (show i < h.entries.length by omega)
    rw [entryE, hx]; exact enE_fine (ho.en _ (List.mem_of_getElem? hx))
  unfold checkH
  rw [h1, if_neg (by decide), if_neg (by have := ho.rd; omega), h3]
  simp only
  rw [h4, if_neg (by decide), if_neg (by omega), h6]
  simp only
  rw [if_neg (by omega), h8]
theorem ok_of_check {h : Ho} (hc : (checkH h).2.2 = 0) : h.Ok ∧ checkH h = (0, 0, 0) := by
  have ho : h.Ok := by
    unfold checkH at hc
    cases h1 : out 1 3 h.days with
    | true => rw [h1] at hc; cases hc
    | false =>
      rw [h1, if_neg (by decide)] at hc
      by_cases h2 : (h.rates.length : Int) = h.days
      · rw [if_neg (by omega)] at hc
        cases h3 : firstBad (rateE h) 0 h.rates.length with
        | some i => rw [h3] at hc; exact absurd hc (firstBad_some h3).2.2.1
        | none =>
          rw [h3] at hc
          simp only at hc
          cases h4 : out 0 20 h.step with
          | true => rw [h4] at hc; cases hc
          | false =>
            rw [h4, if_neg (by decide)] at hc
            by_cases h5 : 3 < h.agents.length
            · rw [if_pos h5] at hc; cases hc
            · rw [if_neg h5] at hc
              cases h6 : firstBad (agentE h) 0 h.agents.length with
              | some i => rw [h6] at hc; exact absurd hc (firstBad_some h6).2.2.1
              | none =>
                rw [h6] at hc
                simp only at hc
                by_cases h7 : 5 < h.entries.length
                · rw [if_pos h7] at hc; cases hc
                · rw [if_neg h7] at hc
                  cases h8 : firstBad (entryE h) 0 h.entries.length with
                  | some i => rw [h8] at hc; exact absurd hc (firstBad_some h8).2.2.1
                  | none =>
                    have ha : ∀ i x, h.agents[i]? = some x → agE h.agents i x = 0 := fun i x hx => by
                      have := firstBad_none h6 i (by omega) (by have := (List.getElem?_eq_some_iff.1 hx).1; omega)
                      rwa [agentE, hx] at this
                    simp [out] at h1 h4
                    refine ⟨by omega, by omega, h2, fun s hs => ?_, by omega, by omega, fun a hs => ?_, fun i x hx => (agE_zero (ha i x hx)).2.1, by omega, fun x hs => ?_⟩
                    · obtain ⟨i, hi, hx⟩ := mem_get hs
                      have := firstBad_none h3 i (by omega) (by omega)
                      rw [rateE, hx] at this; exact spE_zero this
                    · obtain ⟨i, hi, hx⟩ := mem_get hs
                      have := agE_zero (ha i a hx)
                      exact ⟨this.2.2.1, this.2.2.2.1, this.2.2.2.2.1, this.2.2.2.2.2, this.1⟩
                    · obtain ⟨i, hi, hx⟩ := mem_get hs
                      have := firstBad_none h8 i (by omega) (by omega)
                      rw [entryE, hx] at this; exact enE_zero this
      · rw [if_pos h2] at hc; cases hc
  exact ⟨ho, check_of_ok ho⟩

def payN (a : Ag) (near rate : Int) : Int := (if near - a.fee > 0 then near - a.fee else 0) * rate
def payR (a : Ag) (near rate : Int) : Int := if a.round = 1 then (payN a near rate + 10 - 1) / 10 else if a.round = 2 then (payN a near rate + 5) / 10 else payN a near rate / 10
theorem payN_bd {a : Ag} (h0 : 0 ≤ a.fee ∧ a.fee ≤ 20) {n r : Int} (hn : 0 ≤ n ∧ n ≤ 99) (hr : 0 ≤ r ∧ r ≤ 20) : 0 ≤ payN a n r ∧ payN a n r ≤ 1980 := by
  unfold payN
  have key : ∀ m : Int, 0 ≤ m → m ≤ 99 → 0 ≤ m * r ∧ m * r ≤ 1980 := fun m h1 h2 => by
    refine ⟨Int.mul_nonneg h1 hr.1, ?_⟩
    have a := Int.mul_le_mul_of_nonneg_right h2 hr.1
    omega
  split
  · exact key _ (by omega) (by omega)
  · exact key 0 (by omega) (by omega)
theorem tdiv10 {n : Int} (h : 0 ≤ n) : n.tdiv 10 = n / 10 := Int.tdiv_eq_ediv_of_nonneg h
theorem payR_bd {a : Ag} (h0 : 0 ≤ a.fee ∧ a.fee ≤ 20) {n r : Int} (hn : 0 ≤ n ∧ n ≤ 99) (hr : 0 ≤ r ∧ r ≤ 20) : 0 ≤ payR a n r ∧ payR a n r ≤ 198 := by
  have := payN_bd h0 hn hr
  unfold payR
  split
  · omega
  · split <;> omega
theorem c47 (a : Ag) (h0 : 0 ≤ a.fee ∧ a.fee ≤ 20) (n r : Int) (hn : 0 ≤ n ∧ n ≤ 99) (hr : 0 ≤ r ∧ r ≤ 20) (h : Heap) : callPure (EW tabX) 47 [eAg a, .int .i64 n, .int .i64 r] h = some (.int .i64 (payR a n r), h) := by
  have hb := payN_bd h0 hn hr
  have hq : ∀ m, payN a n r ≤ m → m ≤ 3000 → 0 ≤ m / 10 ∧ m / 10 ≤ 3000 := fun m h1 h2 => by omega
  rw [callPure_eq, w_call _ fn_47 rfl]
  unfold payR
  have e0 : (if n - a.fee > 0 then n - a.fee else 0) * r = payN a n r := rfl
  by_cases h1 : a.round = 1
  · simp (disch := omega) only [go_sem, ↓reduceIte, Nat.reduceBEq, Nat.reduceEqDiff, Nat.reduceLT, Nat.reduceLeDiff, Nat.reduceAdd, Nat.reduceMul, Nat.reduceSub, reduceCtorEq, Int.reduceLT, Int.reduceLE, Int.reduceEq, Int.reduceBEq, Int.reduceBNe, Int.reduceToNat, Int.reduceAdd, Int.reduceNeg, Int.reduceSub, eAg, wrap_i64, h1, e0, tdiv10]
  · have h1b : (a.round == 1) = false := by simpa using h1
    by_cases h2 : a.round = 2
    · simp (disch := omega) only [go_sem, ↓reduceIte, Nat.reduceBEq, Nat.reduceEqDiff, Nat.reduceLT, Nat.reduceLeDiff, Nat.reduceAdd, Nat.reduceMul, Nat.reduceSub, reduceCtorEq, Int.reduceLT, Int.reduceLE, Int.reduceEq, Int.reduceBEq, Int.reduceBNe, Int.reduceToNat, Int.reduceAdd, Int.reduceNeg, Int.reduceSub, eAg, wrap_i64, h1, h1b, h2, e0, tdiv10]
    · have h2b : (a.round == 2) = false := by simpa using h2
      simp (disch := omega) only [go_sem, ↓reduceIte, Nat.reduceBEq, Nat.reduceEqDiff, Nat.reduceLT, Nat.reduceLeDiff, Nat.reduceAdd, Nat.reduceMul, Nat.reduceSub, reduceCtorEq, Int.reduceLT, Int.reduceLE, Int.reduceEq, Int.reduceBEq, Int.reduceBNe, Int.reduceToNat, Int.reduceAdd, Int.reduceNeg, Int.reduceSub, eAg, wrap_i64, h1, h1b, h2, h2b, e0, tdiv10]

def Ho.ag0 (h : Ho) (i : Int) : Ag := h.agents.getD i.toNat ⟨default, 0, 0⟩
def agreesB (h : Ho) (x : En) (r : List Int) : Bool := x.far == -1 || payR (h.ag0 x.agent) x.near (r.getD x.day.toNat 0) == x.far
theorem c79 (d : Ho) (hd : d.fits) (ho : d.Ok) (x : En) (hx : x ∈ d.entries) (r : List Int) (hr : (r.length : Int) = d.days) (hb : ∀ n ∈ r, 0 ≤ n ∧ n ≤ 20) (h : Heap) :
    callPure (EW tabX) 79 [eH d, eEn x, .lst 0 1 (I r)] h = some (.bool (agreesB d x r), h) := by
  obtain ⟨a1, a2, a3, a4, a5, a6, a7, a8⟩ := ho.en x hx
  obtain ⟨i, hi⟩ := Int.eq_ofNat_of_zero_le a1
  obtain ⟨j, hj⟩ := Int.eq_ofNat_of_zero_le a3
  have hil : i < d.agents.length := by omega
  have hjl : j < r.length := by omega
  have hz := hd.za (by intro e; rw [e] at hil; simp at hil)
  have hga := List.getElem?_eq_getElem hil
  have hgr := List.getElem?_eq_getElem hjl
  have h47 := c47 d.agents[i] (by have := ho.ag _ (List.getElem_mem hil); omega) x.near r[j] (by omega) (by have := hb _ (List.getElem_mem hjl); omega)
  simp only [eAg] at h47
  have e1 : d.ag0 x.agent = d.agents[i] := by simp [Ho.ag0, hi, hil]
  have e2 : r.getD x.day.toNat 0 = r[j] := by simp [hj, hjl]
  rw [callPure_eq, w_call _ fn_79 rfl]
  unfold agreesB
  rw [e1, e2]
  cases h1 : x.far == -1 with
  | true => simp only [go_sem, ↓reduceIte, Nat.reduceBEq, Nat.reduceEqDiff, Nat.reduceLT, Nat.reduceLeDiff, Nat.reduceAdd, Nat.reduceMul, Nat.reduceSub, reduceCtorEq, Int.reduceLT, Int.reduceLE, Int.reduceEq, Int.reduceBEq, Int.reduceBNe, Int.reduceToNat, Int.reduceAdd, Int.reduceNeg, Int.reduceSub, eH, eHc, eEn, h1]
  | false => simp only [go_sem, ↓reduceIte, Nat.reduceBEq, Nat.reduceEqDiff, Nat.reduceLT, Nat.reduceLeDiff, Nat.reduceAdd, Nat.reduceMul, Nat.reduceSub, reduceCtorEq, Int.reduceLT, Int.reduceLE, Int.reduceEq, Int.reduceBEq, Int.reduceBNe, Int.reduceToNat, Int.reduceAdd, Int.reduceNeg, Int.reduceSub, eH, eHc, eEn, h1, hi, hj, hga, hgr, hz, eAg, h47]
end Go.Proofs.Ytaohhjaogjcfoaa
end
section
namespace Go.Proofs.Ytaohhjaogjcfoaa
open Go.Proofs

structure RS where
  tg : Nat
  z : Nat
  xs : List AV
  t : List Bool
def RS.v (s : RS) : AV := .lst s.tg s.z s.xs
def RS.is (s : RS) (ts : List (List Int)) : Prop := Rows s.xs ts ∧ OwnS 1 s.tg s.z s.xs.length s.t ∧ (s.xs = [] → s.z = 0)
theorem flat_len {α β : Type} (f : α → List β) (m : Nat) : ∀ l : List α, (∀ x ∈ l, (f x).length ≤ m) → (l.flatMap f).length ≤ l.length * m
  | [], _ => by simp
  | x :: l, h => by
    have a := h x (by simp)
    have b := flat_len f m l fun y hy => h y (by simp [hy])
    rw [List.flatMap_cons, List.length_append, List.length_cons, Nat.succ_mul]
    omega

def Ho.lo (h : Ho) (d : Nat) : Int := (h.rates.getD d (0, 0)).1
def Ho.hi (h : Ho) (d : Nat) : Int := (h.rates.getD d (0, 0)).2
def Ho.width (h : Ho) (d : Nat) : Nat := (h.hi d + 1 - h.lo d).toNat
def mayR (h : Ho) (d : Nat) (t : List Int) (i : Nat) : Bool := decide (d = 0) || inR (h.lo d + (i : Int) - t.getD (d - 1) 0) (0 - h.step) h.step
def extR (h : Ho) (d : Nat) (t : List Int) (k : Nat) : List (List Int) := ((List.range k).filter fun i => mayR h d t i).map fun (i : Nat) => t ++ [h.lo d + (i : Int)]
def ratesL (h : Ho) : Nat → List (List Int)
  | 0 => [[]]
  | d + 1 => (ratesL h d).flatMap fun t => extR h d t (h.width d)
theorem extR_succ (h : Ho) (d : Nat) (t : List Int) (k : Nat) : extR h d t (k + 1) = if mayR h d t k = true then extR h d t k ++ [t ++ [h.lo d + (k : Int)]] else extR h d t k := by
  unfold extR
  rw [List.range_succ, List.filter_append, List.map_append]
  have e : (List.filter (fun i => mayR h d t i) [k]) = if mayR h d t k = true then [k] else [] := by simp only [List.filter_cons, List.filter_nil]
  rw [e]
  split <;> simp
theorem extR_len (h : Ho) (d : Nat) (t : List Int) (k : Nat) : (extR h d t k).length ≤ k := by
  unfold extR; rw [List.length_map]; have := List.length_filter_le (fun i => mayR h d t i) (List.range k); simpa using this
theorem ratesL_mem (h : Ho) : ∀ (d : Nat) (t : List Int), t ∈ ratesL h d → t.length = d
  | 0, t, hm => by simp [ratesL] at hm; simp [hm]
  | d + 1, t, hm => by
    unfold ratesL at hm
    obtain ⟨u, hu, ht⟩ := List.mem_flatMap.1 hm
    unfold extR at ht
    obtain ⟨i, _, rfl⟩ := List.mem_map.1 ht
    simp [ratesL_mem h d u hu]
theorem Ho.Ok.day {h : Ho} (ho : h.Ok) {d : Nat} (hd : d < h.rates.length) : h.rates[d]? = some (h.lo d, h.hi d) ∧ 1 ≤ h.lo d ∧ h.lo d ≤ h.hi d ∧ h.hi d ≤ 20 ∧ (h.width d : Int) = h.hi d + 1 - h.lo d ∧ h.width d ≤ 20 := by
  have hx := List.getElem?_eq_getElem hd
  have := ho.sp _ (List.getElem_mem hd)
  have e : h.rates.getD d (0, 0) = h.rates[d] := by simp [hd]
  unfold Ho.width Ho.lo Ho.hi
  rw [e]
  refine ⟨hx, this.1, this.2.1, this.2.2, ?_, ?_⟩ <;> omega
theorem ratesL_bd {h : Ho} (ho : h.Ok) : ∀ (d : Nat), d ≤ h.rates.length → ∀ t ∈ ratesL h d, ∀ n ∈ t, 1 ≤ n ∧ n ≤ 20
  | 0, _, t, hm, n, hn => by simp [ratesL] at hm; subst hm; cases hn
  | d + 1, hd, t, hm, n, hn => by
    unfold ratesL at hm
    obtain ⟨u, hu, ht⟩ := List.mem_flatMap.1 hm
    unfold extR at ht
    obtain ⟨i, hi, rfl⟩ := List.mem_map.1 ht
    have hi := List.mem_range.1 (List.mem_filter.1 hi).1
    obtain ⟨_, a, b, c, e, f⟩ := ho.day (show d < h.rates.length by omega)
    rcases List.mem_append.1 hn with h1 | h1
    · exact ratesL_bd ho d (by omega) u hu n h1
    · simp at h1; omega
theorem ratesL_len {h : Ho} (ho : h.Ok) : ∀ d, d ≤ h.rates.length → (ratesL h d).length ≤ 20 ^ d
  | 0, _ => by simp [ratesL]
  | d + 1, hd => by
    have hw := (ho.day (show d < h.rates.length by omega)).2.2.2.2.2
    have a := flat_len (fun t => extR h d t (h.width d)) 20 (ratesL h d) fun t _ => by have := extR_len h d t (h.width d); omega
    have b := ratesL_len ho d (by omega)
    unfold ratesL
    rw [Nat.pow_succ]
    exact Nat.le_trans a (Nat.mul_le_mul_right 20 b)

def eR (t : List Int) : AV := .lst 0 1 (I t)
def vR (ts : List (List Int)) : AV := .lst 0 (zT 1 ts.length) (ts.map eR)
theorem eR_clean (l : List (List Int)) : cleanL (l.map eR) = some (l.map eR) := cleanL_map (fun x => by simp only [eR, go_sem, ↓reduceIte, Nat.reduceBEq, Nat.reduceEqDiff, Nat.reduceLT, Nat.reduceLeDiff, Nat.reduceAdd, Nat.reduceMul, Nat.reduceSub, reduceCtorEq, Int.reduceLT, Int.reduceLE, Int.reduceEq, Int.reduceBEq, Int.reduceBNe, Int.reduceToNat, Int.reduceAdd, Int.reduceNeg, Int.reduceSub]) l
theorem eR_get (l : List (List Int)) (k : Nat) : (l.map eR)[k]? = (l[k]?).map eR := by simp
theorem eR_under (n : Nat) (l : List (List Int)) : underL n (l.map eR) = true := underL_map (fun x => by simp only [eR, go_sem, ↓reduceIte, Nat.reduceBEq, Nat.reduceEqDiff, Nat.reduceLT, Nat.reduceLeDiff, Nat.reduceAdd, Nat.reduceMul, Nat.reduceSub, reduceCtorEq, Int.reduceLT, Int.reduceLE, Int.reduceEq, Int.reduceBEq, Int.reduceBNe, Int.reduceToNat, Int.reduceAdd, Int.reduceNeg, Int.reduceSub]) l
theorem eR_var (l : List (List Int)) : (l.map eR).all AV.var = true := all_map (fun _ => rfl) l
attribute [go_sem] eR_clean eR_get eR_under eR_var
theorem vR_clean (ts : List (List Int)) : (vR ts).clean = some (vR ts) := by simp only [vR, go_sem, ↓reduceIte, Nat.reduceBEq, Nat.reduceEqDiff, Nat.reduceLT, Nat.reduceLeDiff, Nat.reduceAdd, Nat.reduceMul, Nat.reduceSub, reduceCtorEq, Int.reduceLT, Int.reduceLE, Int.reduceEq, Int.reduceBEq, Int.reduceBNe, Int.reduceToNat, Int.reduceAdd, Int.reduceNeg, Int.reduceSub]
theorem Rows.clean_eq : ∀ {xs : List AV} {ts : List (List Int)}, Rows xs ts → (∀ t ∈ ts, t ≠ []) → cleanL xs = some (ts.map eR)
  | [], ts, h, _ => by
    have := h.1
    cases ts with
    | nil => exact cleanL_nil
    | cons t ts => simp at this
  | x :: xs, [], h, _ => by have := h.1; simp at this
  | x :: xs, t :: ts, h, hn => by
    have h' : Rows xs ts := ⟨by have := h.1; simpa using this, fun i u hu => by simpa using h.2 (i + 1) u (by simpa using hu)⟩
    have ih := Rows.clean_eq h' fun u hu => hn u (by simp [hu])
    obtain ⟨a, z, h4, h5⟩ := h.2 0 t rfl
    simp only [List.getElem?_cons_zero, Option.some.injEq] at h4
    subst h4
    have := h5 (hn t (by simp))
    subst this
    simp only [go_sem, ↓reduceIte, Nat.reduceBEq, Nat.reduceEqDiff, Nat.reduceLT, Nat.reduceLeDiff, Nat.reduceAdd, Nat.reduceMul, Nat.reduceSub, reduceCtorEq, Int.reduceLT, Int.reduceLE, Int.reduceEq, Int.reduceBEq, Int.reduceBNe, Int.reduceToNat, Int.reduceAdd, Int.reduceNeg, Int.reduceSub, ih, List.map_cons, eR]

theorem c88 (d : Ho) (hd : d.fits) (ho : d.Ok) (h : Heap) : callPure (EW tabX) 88 [eH d] h = some (vR (ratesL d d.rates.length), h) := by
  have hrd := ho.rd
  have hd1 := ho.d1
  have hd3 := ho.d3
  have hr3 : d.rates.length ≤ 3 := by omega
  have hst := ho.st
  have hzr := hd.zr (by intro e; rw [e] at hrd; simp at hrd; omega)
  have key : ∃ s : RS, Rows s.xs (ratesL d d.rates.length) ∧ (s.xs ≠ [] → s.z = 1) ∧ (s.xs = [] → s.z = 0) ∧ ∃ h1, (EW tabX).call 88 [eH d] ⟨[], []⟩ = some (s.v, h1) := by
    rw [w_call _ fn_88 rfl]
    simp only [go_sem, ↓reduceIte, Nat.reduceBEq, Nat.reduceEqDiff, Nat.reduceLT, Nat.reduceLeDiff, Nat.reduceAdd, Nat.reduceMul, Nat.reduceSub, reduceCtorEq, Int.reduceLT, Int.reduceLE, Int.reduceEq, Int.reduceBEq, Int.reduceBNe, Int.reduceToNat, Int.reduceAdd, Int.reduceNeg, Int.reduceSub, eH, eHc]
    generalize hx : (EW tabX).code 88 none (Code.loop _) _ = x
    refine w_rounds_sk hx (fun k (s : RS) => [(3, s.v), (4, .int .i64 k)]) (fun s => ⟨[.cells (eHc d)], s.t⟩) (fun k s => Rows s.xs (ratesL d k) ∧ (s.xs ≠ [] → s.z = 1) ∧ (s.xs = [] → s.z = 0)) d.rates.length (.exit 0) (fun s => [(3, s.v), (4, .int .i64 d.rates.length)]) rfl ⟨1, 1, [.lst 1 0 []], []⟩ ?_ ?_ ?_ ?_ ?_ ?_
    · simp only [go_sem, ↓reduceIte, Nat.reduceBEq, Nat.reduceEqDiff, Nat.reduceLT, Nat.reduceLeDiff, Nat.reduceAdd, Nat.reduceMul, Nat.reduceSub, reduceCtorEq, Int.reduceLT, Int.reduceLE, Int.reduceEq, Int.reduceBEq, Int.reduceBNe, Int.reduceToNat, Int.reduceAdd, Int.reduceNeg, Int.reduceSub, RS.v]
    · simp only [eHc]
    · refine ⟨⟨rfl, fun i t hi => ?_⟩, fun _ => rfl, fun h => (by cases h)⟩
      cases i with
      | zero => simp [ratesL] at hi; subst hi; exact ⟨1, 0, rfl, fun h => absurd rfl h⟩
      | succ i => simp [ratesL] at hi
    · intro e s he hR
      obtain ⟨hrow, hz, hz0⟩ := hR
      obtain ⟨tg, z, xs, t⟩ := s
      have hrow : Rows xs (ratesL d e) := hrow
      have hz : xs ≠ [] → z = 1 := hz
      have hei : (e : Int) < d.days := by omega
      have hxl := hrow.1
      have hlen := ratesL_len ho e (by omega)
      have hp : 20 ^ e ≤ 400 := by
        have : 20 ^ e ≤ 20 ^ 2 := Nat.pow_le_pow_right (by omega) (by omega)
        omega
      obtain ⟨hday, w1, w2, w3, w4, w5⟩ := ho.day he
      simp only [go_sem, ↓reduceIte, Nat.reduceBEq, Nat.reduceEqDiff, Nat.reduceLT, Nat.reduceLeDiff, Nat.reduceAdd, Nat.reduceMul, Nat.reduceSub, reduceCtorEq, Int.reduceLT, Int.reduceLE, Int.reduceEq, Int.reduceBEq, Int.reduceBNe, Int.reduceToNat, Int.reduceAdd, Int.reduceNeg, Int.reduceSub, hei, eHc, RS.v]
      generalize hy : (EW tabX).code 88 none (Code.loop _) _ = y
      refine w_rounds_sk hy (fun k (s : RS) => [(5, s.v), (6, .int .i64 k)]) (fun s => ⟨[.cells (eHc d)], s.t⟩) (fun k s => s.is (((ratesL d e).take k).flatMap fun t => extR d e t (d.width e))) (ratesL d e).length (.exit 2) (fun s => [(5, s.v), (6, .int .i64 (ratesL d e).length)]) rfl ⟨1, 0, [], t⟩ ?_ ?_ ?_ ?_ ?_ ?_
      · simp only [go_sem, ↓reduceIte, Nat.reduceBEq, Nat.reduceEqDiff, Nat.reduceLT, Nat.reduceLeDiff, Nat.reduceAdd, Nat.reduceMul, Nat.reduceSub, reduceCtorEq, Int.reduceLT, Int.reduceLE, Int.reduceEq, Int.reduceBEq, Int.reduceBNe, Int.reduceToNat, Int.reduceAdd, Int.reduceNeg, Int.reduceSub, RS.v]
      · simp only [eHc]
      · exact ⟨⟨rfl, fun i t hi => by simp at hi⟩, .inl ⟨rfl, rfl⟩, fun _ => rfl⟩
      · intro k s hk hR
        obtain ⟨ntg, nz, nxs, nt⟩ := s
        have hki : (k : Int) < xs.length := by omega
        have htk := List.getElem?_eq_getElem hk
        obtain ⟨otg, oz, hox, hoz⟩ := hrow.2 k _ htk
        have htl := ratesL_mem d e _ (List.getElem_mem hk)
        have htb := ratesL_bd ho e (by omega) _ (List.getElem_mem hk)
        have hz1 := hz (by intro h; rw [h] at hki; simp at hki; omega)
        subst hz1
        have hflat : ((ratesL d e).take (k + 1)).flatMap (fun t => extR d e t (d.width e)) = ((ratesL d e).take k).flatMap (fun t => extR d e t (d.width e)) ++ extR d e (ratesL d e)[k] (d.width e) := by
          rw [List.take_add_one, htk, List.flatMap_append]; simp
        have hpl : (((ratesL d e).take k).flatMap fun t => extR d e t (d.width e)).length ≤ 400 * 20 := by
          have a := flat_len (fun t => extR d e t (d.width e)) 20 ((ratesL d e).take k) fun t _ => by have := extR_len d e t (d.width e); omega
          have b : ((ratesL d e).take k).length ≤ 400 := by rw [List.length_take]; omega
          exact Nat.le_trans a (Nat.mul_le_mul_right 20 b)
        rw [hflat]
        generalize (((ratesL d e).take k).flatMap fun t => extR d e t (d.width e)) = pre at hR hpl ⊢
        generalize (ratesL d e)[k] = tt at hox hoz htl htb ⊢
        simp (disch := omega) only [go_sem, ↓reduceIte, Nat.reduceBEq, Nat.reduceEqDiff, Nat.reduceLT, Nat.reduceLeDiff, Nat.reduceAdd, Nat.reduceMul, Nat.reduceSub, reduceCtorEq, Int.reduceLT, Int.reduceLE, Int.reduceEq, Int.reduceBEq, Int.reduceBNe, Int.reduceToNat, Int.reduceAdd, Int.reduceNeg, Int.reduceSub, hki, eHc, RS.v, wrap_i64, hday, eSp, hzr]
        generalize hz : (EW tabX).code 88 none (Code.loop _) _ = w
        refine w_rounds_sk hz (fun k (s : RS) => [(5, s.v), (7, .int .i64 (d.lo e + (k : Int)))]) (fun s => ⟨[.cells (eHc d)], s.t⟩) (fun j s => s.is (pre ++ extR d e tt j)) (d.width e) (.exit 4) (fun s => [(5, s.v), (7, .int .i64 (d.hi e + 1))]) rfl ⟨ntg, nz, nxs, nt⟩ ?_ ?_ ?_ ?_ ?_ ?_
        · simp only [go_sem, ↓reduceIte, Nat.reduceBEq, Nat.reduceEqDiff, Nat.reduceLT, Nat.reduceLeDiff, Nat.reduceAdd, Nat.reduceMul, Nat.reduceSub, reduceCtorEq, Int.reduceLT, Int.reduceLE, Int.reduceEq, Int.reduceBEq, Int.reduceBNe, Int.reduceToNat, Int.reduceAdd, Int.reduceNeg, Int.reduceSub, RS.v, Int.add_zero]
        · simp only [eHc, hzr]
        · simpa [extR] using hR
        · intro j s hj hR
          obtain ⟨jtg, jz, jxs, jt⟩ := s
          obtain ⟨hrj, hoj, hj0⟩ := hR
          have hrj : Rows jxs (pre ++ extR d e tt j) := hrj
          have hoj : OwnS 1 jtg jz jxs.length jt := hoj
          have hji : d.lo e + (j : Int) ≤ d.hi e := by omega
          have hjl := hrj.1
          have hel := extR_len d e tt j
          have hjn : jxs.length ≤ 8100 := by rw [hjl, List.length_append]; omega
          have hoxt : xs[k]? = some (.lst otg oz (I tt)) := hox
          rw [extR_succ]
          have hws : IntKind.i64.wrap (d.lo e + (j : Int) + 1) = d.lo e + ((j : Int) + 1) := by rw [wrap_i64 (by omega)]; omega
          obtain ⟨t2, a1, b1, c1, d1⟩ := app_gen (X := tabX) (ty := 30) (e := 3) (sz := 1) (tag := 1) (z := 1) (t := jt) (xs := []) (.inl ⟨rfl, rfl⟩) otg oz (I tt) (by simp only [go_sem, ↓reduceIte, Nat.reduceBEq, Nat.reduceEqDiff, Nat.reduceLT, Nat.reduceLeDiff, Nat.reduceAdd, Nat.reduceMul, Nat.reduceSub, reduceCtorEq, Int.reduceLT, Int.reduceLE, Int.reduceEq, Int.reduceBEq, Int.reduceBNe, Int.reduceToNat, Int.reduceAdd, Int.reduceNeg, Int.reduceSub]) (by simp only [go_sem, ↓reduceIte, Nat.reduceBEq, Nat.reduceEqDiff, Nat.reduceLT, Nat.reduceLeDiff, Nat.reduceAdd, Nat.reduceMul, Nat.reduceSub, reduceCtorEq, Int.reduceLT, Int.reduceLE, Int.reduceEq, Int.reduceBEq, Int.reduceBNe, Int.reduceToNat, Int.reduceAdd, Int.reduceNeg, Int.reduceSub]) (by omega)
            (by by_cases h : tt = []; exact .inr (by rw [h]; rfl); exact .inl (hoz h)) (by simp only [go_sem, ↓reduceIte, Nat.reduceBEq, Nat.reduceEqDiff, Nat.reduceLT, Nat.reduceLeDiff, Nat.reduceAdd, Nat.reduceMul, Nat.reduceSub, reduceCtorEq, Int.reduceLT, Int.reduceLE, Int.reduceEq, Int.reduceBEq, Int.reduceBNe, Int.reduceToNat, Int.reduceAdd, Int.reduceNeg, Int.reduceSub]; omega) (by simp only [go_sem, ↓reduceIte, Nat.reduceBEq, Nat.reduceEqDiff, Nat.reduceLT, Nat.reduceLeDiff, Nat.reduceAdd, Nat.reduceMul, Nat.reduceSub, reduceCtorEq, Int.reduceLT, Int.reduceLE, Int.reduceEq, Int.reduceBEq, Int.reduceBNe, Int.reduceToNat, Int.reduceAdd, Int.reduceNeg, Int.reduceSub]; omega) (by simp only [go_sem, ↓reduceIte, Nat.reduceBEq, Nat.reduceEqDiff, Nat.reduceLT, Nat.reduceLeDiff, Nat.reduceAdd, Nat.reduceMul, Nat.reduceSub, reduceCtorEq, Int.reduceLT, Int.reduceLE, Int.reduceEq, Int.reduceBEq, Int.reduceBNe, Int.reduceToNat, Int.reduceAdd, Int.reduceNeg, Int.reduceSub]) (by simp only [go_sem, ↓reduceIte, Nat.reduceBEq, Nat.reduceEqDiff, Nat.reduceLT, Nat.reduceLeDiff, Nat.reduceAdd, Nat.reduceMul, Nat.reduceSub, reduceCtorEq, Int.reduceLT, Int.reduceLE, Int.reduceEq, Int.reduceBEq, Int.reduceBNe, Int.reduceToNat, Int.reduceAdd, Int.reduceNeg, Int.reduceSub])
          obtain ⟨t3, a2, b2, c2, d2⟩ := app_gen (X := tabX) (ty := 30) (e := 3) (sz := 1) (tag := jt.length + 2) (z := 1) (t := t2) (xs := I tt) (.inr ⟨jt.length, rfl, rfl, c1⟩) 1 1 [.int .i64 (d.lo e + (j : Int))] (by simp only [go_sem, ↓reduceIte, Nat.reduceBEq, Nat.reduceEqDiff, Nat.reduceLT, Nat.reduceLeDiff, Nat.reduceAdd, Nat.reduceMul, Nat.reduceSub, reduceCtorEq, Int.reduceLT, Int.reduceLE, Int.reduceEq, Int.reduceBEq, Int.reduceBNe, Int.reduceToNat, Int.reduceAdd, Int.reduceNeg, Int.reduceSub]) (by simp only [go_sem, ↓reduceIte, Nat.reduceBEq, Nat.reduceEqDiff, Nat.reduceLT, Nat.reduceLeDiff, Nat.reduceAdd, Nat.reduceMul, Nat.reduceSub, reduceCtorEq, Int.reduceLT, Int.reduceLE, Int.reduceEq, Int.reduceBEq, Int.reduceBNe, Int.reduceToNat, Int.reduceAdd, Int.reduceNeg, Int.reduceSub]) (by omega)
            (.inl rfl) (by simp only [go_sem, ↓reduceIte, Nat.reduceBEq, Nat.reduceEqDiff, Nat.reduceLT, Nat.reduceLeDiff, Nat.reduceAdd, Nat.reduceMul, Nat.reduceSub, reduceCtorEq, Int.reduceLT, Int.reduceLE, Int.reduceEq, Int.reduceBEq, Int.reduceBNe, Int.reduceToNat, Int.reduceAdd, Int.reduceNeg, Int.reduceSub]; omega) (by simp only [go_sem, ↓reduceIte, Nat.reduceBEq, Nat.reduceEqDiff, Nat.reduceLT, Nat.reduceLeDiff, Nat.reduceAdd, Nat.reduceMul, Nat.reduceSub, reduceCtorEq, Int.reduceLT, Int.reduceLE, Int.reduceEq, Int.reduceBEq, Int.reduceBNe, Int.reduceToNat, Int.reduceAdd, Int.reduceNeg, Int.reduceSub]; omega) (by simp only [go_sem, ↓reduceIte, Nat.reduceBEq, Nat.reduceEqDiff, Nat.reduceLT, Nat.reduceLeDiff, Nat.reduceAdd, Nat.reduceMul, Nat.reduceSub, reduceCtorEq, Int.reduceLT, Int.reduceLE, Int.reduceEq, Int.reduceBEq, Int.reduceBNe, Int.reduceToNat, Int.reduceAdd, Int.reduceNeg, Int.reduceSub]) (by simp only [go_sem, ↓reduceIte, Nat.reduceBEq, Nat.reduceEqDiff, Nat.reduceLT, Nat.reduceLeDiff, Nat.reduceAdd, Nat.reduceMul, Nat.reduceSub, reduceCtorEq, Int.reduceLT, Int.reduceLE, Int.reduceEq, Int.reduceBEq, Int.reduceBNe, Int.reduceToNat, Int.reduceAdd, Int.reduceNeg, Int.reduceSub])
          have hown3 : OwnS 1 jtg jz jxs.length t3 := by
            rcases hoj with h | ⟨q, h1, h2, h3⟩
            · exact .inl h
            · have hq : q < jt.length := (List.getElem?_eq_some_iff.1 h3).1
              exact .inr ⟨q, h1, h2, d2 q (by omega) (d1 q (by omega) h3)⟩
          obtain ⟨t4, a3, b3, c3, d3⟩ := app_gen (X := tabX) (ty := 67) (e := 30) (sz := 1) hown3 1 1 [.lst (t2.length + 2) 1 (I (tt ++ [d.lo e + (j : Int)]))] (by simp only [go_sem, ↓reduceIte, Nat.reduceBEq, Nat.reduceEqDiff, Nat.reduceLT, Nat.reduceLeDiff, Nat.reduceAdd, Nat.reduceMul, Nat.reduceSub, reduceCtorEq, Int.reduceLT, Int.reduceLE, Int.reduceEq, Int.reduceBEq, Int.reduceBNe, Int.reduceToNat, Int.reduceAdd, Int.reduceNeg, Int.reduceSub]) (by simp only [go_sem, ↓reduceIte, Nat.reduceBEq, Nat.reduceEqDiff, Nat.reduceLT, Nat.reduceLeDiff, Nat.reduceAdd, Nat.reduceMul, Nat.reduceSub, reduceCtorEq, Int.reduceLT, Int.reduceLE, Int.reduceEq, Int.reduceBEq, Int.reduceBNe, Int.reduceToNat, Int.reduceAdd, Int.reduceNeg, Int.reduceSub]) (by omega)
            (.inl rfl) (by simp only [go_sem, ↓reduceIte, Nat.reduceBEq, Nat.reduceEqDiff, Nat.reduceLT, Nat.reduceLeDiff, Nat.reduceAdd, Nat.reduceMul, Nat.reduceSub, reduceCtorEq, Int.reduceLT, Int.reduceLE, Int.reduceEq, Int.reduceBEq, Int.reduceBNe, Int.reduceToNat, Int.reduceAdd, Int.reduceNeg, Int.reduceSub]; omega) (by simp only [go_sem, ↓reduceIte, Nat.reduceBEq, Nat.reduceEqDiff, Nat.reduceLT, Nat.reduceLeDiff, Nat.reduceAdd, Nat.reduceMul, Nat.reduceSub, reduceCtorEq, Int.reduceLT, Int.reduceLE, Int.reduceEq, Int.reduceBEq, Int.reduceBNe, Int.reduceToNat, Int.reduceAdd, Int.reduceNeg, Int.reduceSub]; omega) (by simp only [go_sem, ↓reduceIte, Nat.reduceBEq, Nat.reduceEqDiff, Nat.reduceLT, Nat.reduceLeDiff, Nat.reduceAdd, Nat.reduceMul, Nat.reduceSub, reduceCtorEq, Int.reduceLT, Int.reduceLE, Int.reduceEq, Int.reduceBEq, Int.reduceBNe, Int.reduceToNat, Int.reduceAdd, Int.reduceNeg, Int.reduceSub]) (by simp only [go_sem, ↓reduceIte, Nat.reduceBEq, Nat.reduceEqDiff, Nat.reduceLT, Nat.reduceLeDiff, Nat.reduceAdd, Nat.reduceMul, Nat.reduceSub, reduceCtorEq, Int.reduceLT, Int.reduceLE, Int.reduceEq, Int.reduceBEq, Int.reduceBNe, Int.reduceToNat, Int.reduceAdd, Int.reduceNeg, Int.reduceSub])
          have hyes : RS.is ⟨t3.length + 2, 1, jxs ++ [.lst (t2.length + 2) 1 (I (tt ++ [d.lo e + (j : Int)]))], t4⟩ (pre ++ (extR d e tt j ++ [tt ++ [d.lo e + (j : Int)]])) := by
            refine ⟨?_, .inr ⟨t3.length, rfl, rfl, c3⟩, fun h => by simp at h⟩
            rw [← List.append_assoc]
            exact hrj.snoc _ _
          simp only [List.nil_append] at a1
          cases e with
          | zero =>
            have hm : mayR d 0 tt j = true := rfl
            rw [hm, if_pos rfl]
            refine ⟨_, ?_, hyes⟩
            simp (disch := omega) only [go_sem, ↓reduceIte, Nat.reduceBEq, Nat.reduceEqDiff, Nat.reduceLT, Nat.reduceLeDiff, Nat.reduceAdd, Nat.reduceMul, Nat.reduceSub, reduceCtorEq, Int.reduceLT, Int.reduceLE, Int.reduceEq, Int.reduceBEq, Int.reduceBNe, Int.reduceToNat, Int.reduceAdd, Int.reduceNeg, Int.reduceSub, hday, hji, hki, hoxt, eHc, eSp, hzr, RS.v, hws, a1, a2, a3, I_snoc]
          | succ e =>
            have hil : e < tt.length := by omega
            have hg := List.getElem?_eq_getElem hil
            have hoz1 := hoz (by intro h; rw [h] at hil; simp at hil)
            subst hoz1
            have hb := htb _ (List.getElem_mem hil)
            have hee : (e : Int) + 1 - 1 = e := by omega
            have hpos : (0 : Int) < (e : Int) + 1 := by omega
            have hng : ((e : Int) + 1 < 0) = False := by simp; omega
            have htn : ((e : Int) + 1).toNat = e + 1 := by omega
            have hmay : mayR d (e + 1) tt j = inR (d.lo (e + 1) + (j : Int) - tt[e]) (0 - d.step) d.step := by
              unfold mayR
              have e2 : tt.getD (e + 1 - 1) 0 = tt[e] := by simp [hil]
              rw [e2]; simp
            cases hm : mayR d (e + 1) tt j with
            | true =>
              rw [hm] at hmay
              rw [if_pos rfl]
              refine ⟨_, ?_, hyes⟩
              simp (disch := omega) only [go_sem, ↓reduceIte, Nat.reduceBEq, Nat.reduceEqDiff, Nat.reduceLT, Nat.reduceLeDiff, Nat.reduceAdd, Nat.reduceMul, Nat.reduceSub, reduceCtorEq, Int.reduceLT, Int.reduceLE, Int.reduceEq, Int.reduceBEq, Int.reduceBNe, Int.reduceToNat, Int.reduceAdd, Int.reduceNeg, Int.reduceSub, hday, hji, hki, hoxt, eHc, eSp, hzr, RS.v, hws, a1, a2, a3, I_snoc, hee, hpos, hng, htn, hg, c46, ← hmay, wrap_i64]
            | false =>
              rw [hm] at hmay
              rw [if_neg (by decide)]
              refine ⟨⟨jtg, jz, jxs, jt⟩, ?_, hrj, hoj, hj0⟩
              simp (disch := omega) only [go_sem, ↓reduceIte, Nat.reduceBEq, Nat.reduceEqDiff, Nat.reduceLT, Nat.reduceLeDiff, Nat.reduceAdd, Nat.reduceMul, Nat.reduceSub, reduceCtorEq, Int.reduceLT, Int.reduceLE, Int.reduceEq, Int.reduceBEq, Int.reduceBNe, Int.reduceToNat, Int.reduceAdd, Int.reduceNeg, Int.reduceSub, hday, hji, hki, hoxt, eHc, eSp, hzr, RS.v, hws, hee, hpos, hng, htn, hg, c46, ← hmay, wrap_i64]
        · intro s hR
          have e1 : d.lo e + (d.width e : Int) = d.hi e + 1 := by omega
          have e2 : ¬ (d.hi e + 1 ≤ d.hi e) := by omega
          simp only [go_sem, ↓reduceIte, Nat.reduceBEq, Nat.reduceEqDiff, Nat.reduceLT, Nat.reduceLeDiff, Nat.reduceAdd, Nat.reduceMul, Nat.reduceSub, reduceCtorEq, Int.reduceLT, Int.reduceLE, Int.reduceEq, Int.reduceBEq, Int.reduceBNe, Int.reduceToNat, Int.reduceAdd, Int.reduceNeg, Int.reduceSub, RS.v, eHc, hday, eSp, hzr, e1, e2]
        · intro s h1 hR
          subst h1
          exact ⟨s, by simp (disch := omega) only [go_sem, ↓reduceIte, Nat.reduceBEq, Nat.reduceEqDiff, Nat.reduceLT, Nat.reduceLeDiff, Nat.reduceAdd, Nat.reduceMul, Nat.reduceSub, reduceCtorEq, Int.reduceLT, Int.reduceLE, Int.reduceEq, Int.reduceBEq, Int.reduceBNe, Int.reduceToNat, Int.reduceAdd, Int.reduceNeg, Int.reduceSub, RS.v, eHc, wrap_i64, hzr], hR⟩
      · intro s hR
        simp only [go_sem, ↓reduceIte, Nat.reduceBEq, Nat.reduceEqDiff, Nat.reduceLT, Nat.reduceLeDiff, Nat.reduceAdd, Nat.reduceMul, Nat.reduceSub, reduceCtorEq, Int.reduceLT, Int.reduceLE, Int.reduceEq, Int.reduceBEq, Int.reduceBNe, Int.reduceToNat, Int.reduceAdd, Int.reduceNeg, Int.reduceSub, RS.v, eHc, hxl, hzr]
      · intro s h1 hR
        subst h1
        rw [List.take_length] at hR
        refine ⟨s, by simp (disch := omega) only [go_sem, ↓reduceIte, Nat.reduceBEq, Nat.reduceEqDiff, Nat.reduceLT, Nat.reduceLeDiff, Nat.reduceAdd, Nat.reduceMul, Nat.reduceSub, reduceCtorEq, Int.reduceLT, Int.reduceLE, Int.reduceEq, Int.reduceBEq, Int.reduceBNe, Int.reduceToNat, Int.reduceAdd, Int.reduceNeg, Int.reduceSub, RS.v, eHc, wrap_i64], hR.1, fun hne => ?_, fun hnil => ?_⟩
        · rcases hR.2.1 with ⟨_, h0⟩ | ⟨_, _, h0, _⟩
          · exact absurd (List.eq_nil_of_length_eq_zero h0) hne
          · exact h0
        · exact hR.2.2 hnil
    · intro s hR
      simp only [go_sem, ↓reduceIte, Nat.reduceBEq, Nat.reduceEqDiff, Nat.reduceLT, Nat.reduceLeDiff, Nat.reduceAdd, Nat.reduceMul, Nat.reduceSub, reduceCtorEq, Int.reduceLT, Int.reduceLE, Int.reduceEq, Int.reduceBEq, Int.reduceBNe, Int.reduceToNat, Int.reduceAdd, Int.reduceNeg, Int.reduceSub, RS.v, eHc, hrd]
    · intro s h1 hR
      subst h1
      have hun := hR.1.under 0
      exact ⟨s, hR.1, hR.2.1, hR.2.2, ⟨[], s.t⟩, by simp only [go_sem, ↓reduceIte, Nat.reduceBEq, Nat.reduceEqDiff, Nat.reduceLT, Nat.reduceLeDiff, Nat.reduceAdd, Nat.reduceMul, Nat.reduceSub, reduceCtorEq, Int.reduceLT, Int.reduceLE, Int.reduceEq, Int.reduceBEq, Int.reduceBNe, Int.reduceToNat, Int.reduceAdd, Int.reduceNeg, Int.reduceSub, RS.v, hun]⟩
  obtain ⟨s, hrow, hz, hz0, h1, hcall⟩ := key
  have hne : ∀ t ∈ ratesL d d.rates.length, t ≠ [] := fun t ht e => by
    have := ratesL_mem d _ t ht
    rw [e] at this; simp at this; omega
  have hcl := hrow.clean_eq hne
  refine pure_of hcall ?_
  have hzz : s.z = zT 1 (ratesL d d.rates.length).length := by
    cases hq : ratesL d d.rates.length with
    | nil =>
      have : s.xs = [] := List.eq_nil_of_length_eq_zero (by rw [hrow.1, hq]; rfl)
      rw [hz0 this]; rfl
    | cons a b =>
      have : s.xs ≠ [] := fun h => by have := hrow.1; rw [h, hq] at this; simp at this
      rw [hz this]; rfl
  simp only [RS.v, go_sem, ↓reduceIte, Nat.reduceBEq, Nat.reduceEqDiff, Nat.reduceLT, Nat.reduceLeDiff, Nat.reduceAdd, Nat.reduceMul, Nat.reduceSub, reduceCtorEq, Int.reduceLT, Int.reduceLE, Int.reduceEq, Int.reduceBEq, Int.reduceBNe, Int.reduceToNat, Int.reduceAdd, Int.reduceNeg, Int.reduceSub, hcl, vR, hzz]
end Go.Proofs.Ytaohhjaogjcfoaa
end
section
namespace Go.Proofs.Ytaohhjaogjcfoaa
open Go.Proofs

def ownR (T0 : List Bool) (l : List (List Int)) : AV := .lst (tagT T0 l.length) (zT 1 l.length) (l.map eR)
theorem ownR_clean (T0 : List Bool) (l : List (List Int)) : (ownR T0 l).clean = some (vR l) := by simp only [ownR, vR, go_sem, ↓reduceIte, Nat.reduceBEq, Nat.reduceEqDiff, Nat.reduceLT, Nat.reduceLeDiff, Nat.reduceAdd, Nat.reduceMul, Nat.reduceSub, reduceCtorEq, Int.reduceLT, Int.reduceLE, Int.reduceEq, Int.reduceBEq, Int.reduceBNe, Int.reduceToNat, Int.reduceAdd, Int.reduceNeg, Int.reduceSub]
theorem ownR_under (T0 : List Bool) (n : Nat) (l : List (List Int)) : (ownR T0 l).under n = true := by simp only [ownR, go_sem, ↓reduceIte, Nat.reduceBEq, Nat.reduceEqDiff, Nat.reduceLT, Nat.reduceLeDiff, Nat.reduceAdd, Nat.reduceMul, Nat.reduceSub, reduceCtorEq, Int.reduceLT, Int.reduceLE, Int.reduceEq, Int.reduceBEq, Int.reduceBNe, Int.reduceToNat, Int.reduceAdd, Int.reduceNeg, Int.reduceSub]
theorem ownR_app (T0 : List Bool) (l : List (List Int)) (x : List Int) (hl : l.length < 10000) (B : List ABlk) :
    appendAV tabX 67 (T T0 l.length).length ⟨B, T T0 l.length⟩ (ownR T0 l) (.lst 1 1 [.lst 0 1 (I x)]) = some (ownR T0 (l ++ [x]), ⟨B, T T0 (l ++ [x]).length⟩) := by
  have := append_step (X := tabX) (t := 67) (e := 30) (sz := 1) T0 l.length B (zT 1 l.length) 1 1 (l.map eR) [.lst 0 1 (I x)] (by simp only [go_sem, ↓reduceIte, Nat.reduceBEq, Nat.reduceEqDiff, Nat.reduceLT, Nat.reduceLeDiff, Nat.reduceAdd, Nat.reduceMul, Nat.reduceSub, reduceCtorEq, Int.reduceLT, Int.reduceLE, Int.reduceEq, Int.reduceBEq, Int.reduceBNe, Int.reduceToNat, Int.reduceAdd, Int.reduceNeg, Int.reduceSub]) (by simp only [go_sem, ↓reduceIte, Nat.reduceBEq, Nat.reduceEqDiff, Nat.reduceLT, Nat.reduceLeDiff, Nat.reduceAdd, Nat.reduceMul, Nat.reduceSub, reduceCtorEq, Int.reduceLT, Int.reduceLE, Int.reduceEq, Int.reduceBEq, Int.reduceBNe, Int.reduceToNat, Int.reduceAdd, Int.reduceNeg, Int.reduceSub])
    (by rcases Nat.eq_zero_or_pos l.length with e | e; exact .inl ⟨e, by rw [List.length_map, e]⟩; exact .inr (zT_pos e)) (.inl rfl) (by omega) (by simp only [go_sem, ↓reduceIte, Nat.reduceBEq, Nat.reduceEqDiff, Nat.reduceLT, Nat.reduceLeDiff, Nat.reduceAdd, Nat.reduceMul, Nat.reduceSub, reduceCtorEq, Int.reduceLT, Int.reduceLE, Int.reduceEq, Int.reduceBEq, Int.reduceBNe, Int.reduceToNat, Int.reduceAdd, Int.reduceNeg, Int.reduceSub]; omega) (by simp only [go_sem, ↓reduceIte, Nat.reduceBEq, Nat.reduceEqDiff, Nat.reduceLT, Nat.reduceLeDiff, Nat.reduceAdd, Nat.reduceMul, Nat.reduceSub, reduceCtorEq, Int.reduceLT, Int.reduceLE, Int.reduceEq, Int.reduceBEq, Int.reduceBNe, Int.reduceToNat, Int.reduceAdd, Int.reduceNeg, Int.reduceSub]; omega) (by simp only [go_sem, ↓reduceIte, Nat.reduceBEq, Nat.reduceEqDiff, Nat.reduceLT, Nat.reduceLeDiff, Nat.reduceAdd, Nat.reduceMul, Nat.reduceSub, reduceCtorEq, Int.reduceLT, Int.reduceLE, Int.reduceEq, Int.reduceBEq, Int.reduceBNe, Int.reduceToNat, Int.reduceAdd, Int.reduceNeg, Int.reduceSub]) (by simp only [go_sem, ↓reduceIte, Nat.reduceBEq, Nat.reduceEqDiff, Nat.reduceLT, Nat.reduceLeDiff, Nat.reduceAdd, Nat.reduceMul, Nat.reduceSub, reduceCtorEq, Int.reduceLT, Int.reduceLE, Int.reduceEq, Int.reduceBEq, Int.reduceBNe, Int.reduceToNat, Int.reduceAdd, Int.reduceNeg, Int.reduceSub])
  have e : (l ++ [x]).length = l.length + 1 := by simp
  have e2 : (l ++ [x]).map eR = l.map eR ++ [.lst 0 1 (I x)] := by simp [eR]
  rw [ownR, this, ownR, e, e2]; rfl

def Ho.en0 (h : Ho) (i : Nat) : En := h.entries.getD i ⟨0, 0, 0, 0⟩
def agreeTo (h : Ho) (but r : List Int) (k : Nat) : Bool := (List.range k).all fun i => (but.any fun x => x == (i : Int)) || agreesB h (h.en0 i) r
theorem agreeTo_succ (h : Ho) (but r : List Int) (k : Nat) : agreeTo h but r (k + 1) = (agreeTo h but r k && ((but.any fun x => x == (k : Int)) || agreesB h (h.en0 k) r)) := by simp [agreeTo, List.range_succ]
def truthsL (h : Ho) (but : List Int) : List (List Int) := (ratesL h h.rates.length).filter fun r => agreeTo h but r h.entries.length
theorem filter_succ {α : Type} (p : α → Bool) {l : List α} {k : Nat} {x : α} (h : l[k]? = some x) : (l.take (k + 1)).filter p = if p x = true then (l.take k).filter p ++ [x] else (l.take k).filter p := by
  rw [List.take_add_one, h, Option.toList_some, List.filter_append]
  cases hp : p x <;> simp [hp]
theorem Ho.Ok.len (h : Ho) (ho : h.Ok) : (ratesL h h.rates.length).length ≤ 8000 := by
  have a := ratesL_len ho h.rates.length (Nat.le_refl _)
  have b : 20 ^ h.rates.length ≤ 20 ^ 3 := Nat.pow_le_pow_right (by omega) (by have := ho.rd; have := ho.d3; omega)
  omega

theorem c45 (d : Ho) (hd : d.fits) (ho : d.Ok) (but : List Int) (zb : Nat) (hb : but ≠ [] → zb = 1) (hbl : but.length < 1000000000000000000) (h : Heap) : callPure (EW tabX) 45 [eH d, .lst 0 zb (I but)] h = some (vR (truthsL d but), h) := by
  have hrd := ho.rd
  have hd1 := ho.d1
  have hd3 := ho.d3
  have he5 := ho.e5
  have h88 := c88 d hd ho
  have hlen := Ho.Ok.len d ho
  have hcl := eH_clean d
  rw [callPure_eq, w_call _ fn_45 rfl]
  simp only [eH, eHc] at h88 hcl
  simp only [go_sem, ↓reduceIte, Nat.reduceBEq, Nat.reduceEqDiff, Nat.reduceLT, Nat.reduceLeDiff, Nat.reduceAdd, Nat.reduceMul, Nat.reduceSub, reduceCtorEq, Int.reduceLT, Int.reduceLE, Int.reduceEq, Int.reduceBEq, Int.reduceBNe, Int.reduceToNat, Int.reduceAdd, Int.reduceNeg, Int.reduceSub, eH, eHc, h88, vR]
  unfold truthsL
  have hmem : ∀ t ∈ ratesL d d.rates.length, (t.length : Int) = d.days ∧ ∀ n ∈ t, 1 ≤ n ∧ n ≤ 20 := fun t ht => ⟨by rw [ratesL_mem d _ t ht, hrd], ratesL_bd ho _ (Nat.le_refl _) t ht⟩
  generalize hall : ratesL d d.rates.length = all at hlen hmem
  rw [w_rounds_h (fun k => [(6, ownR [] ((all.take k).filter fun r => agreeTo d but r d.entries.length)), (7, .int .i64 k)]) (fun k => ⟨[.cells (eHc d)], T [] ((all.take k).filter fun r => agreeTo d but r d.entries.length).length⟩) all.length (.exit 0)
    [(6, ownR [] (all.filter fun r => agreeTo d but r d.entries.length)), (7, .int .i64 all.length)] ⟨[.cells (eHc d)], T [] (all.filter fun r => agreeTo d but r d.entries.length).length⟩ ?_ ?_ ?_ ?_ rfl]
  · simp only [go_sem, ↓reduceIte, Nat.reduceBEq, Nat.reduceEqDiff, Nat.reduceLT, Nat.reduceLeDiff, Nat.reduceAdd, Nat.reduceMul, Nat.reduceSub, reduceCtorEq, Int.reduceLT, Int.reduceLE, Int.reduceEq, Int.reduceBEq, Int.reduceBNe, Int.reduceToNat, Int.reduceAdd, Int.reduceNeg, Int.reduceSub, ownR_clean, ownR_under, vR]
  · simp only [go_sem, ↓reduceIte, Nat.reduceBEq, Nat.reduceEqDiff, Nat.reduceLT, Nat.reduceLeDiff, Nat.reduceAdd, Nat.reduceMul, Nat.reduceSub, reduceCtorEq, Int.reduceLT, Int.reduceLE, Int.reduceEq, Int.reduceBEq, Int.reduceBNe, Int.reduceToNat, Int.reduceAdd, Int.reduceNeg, Int.reduceSub]; rfl
  · simp only [go_sem, ↓reduceIte, Nat.reduceBEq, Nat.reduceEqDiff, Nat.reduceLT, Nat.reduceLeDiff, Nat.reduceAdd, Nat.reduceMul, Nat.reduceSub, reduceCtorEq, Int.reduceLT, Int.reduceLE, Int.reduceEq, Int.reduceBEq, Int.reduceBNe, Int.reduceToNat, Int.reduceAdd, Int.reduceNeg, Int.reduceSub, eHc, List.take_zero, List.filter_nil]
  · intro k hk
    have hki : (k : Int) < all.length := by omega
    have hx := List.getElem?_eq_getElem hk
    obtain ⟨m1, m2⟩ := hmem _ (List.getElem_mem hk)
    have hzz : zT 1 all.length = 1 := zT_pos (by omega)
    have hfl : ((all.take k).filter fun r => agreeTo d but r d.entries.length).length < 10000 := by
      have a := List.length_filter_le (fun r => agreeTo d but r d.entries.length) (all.take k)
      rw [List.length_take] at a
      omega
    rw [filter_succ _ hx]
    generalize ((all.take k).filter fun r => agreeTo d but r d.entries.length) = pre at hfl ⊢
    generalize hr : all[k] = r at hx m1 m2 ⊢
    simp (disch := omega) only [go_sem, ↓reduceIte, Nat.reduceBEq, Nat.reduceEqDiff, Nat.reduceLT, Nat.reduceLeDiff, Nat.reduceAdd, Nat.reduceMul, Nat.reduceSub, reduceCtorEq, Int.reduceLT, Int.reduceLE, Int.reduceEq, Int.reduceBEq, Int.reduceBNe, Int.reduceToNat, Int.reduceAdd, Int.reduceNeg, Int.reduceSub, eHc, hki, wrap_i64]
    rw [w_rounds_u (fun j => [(8, .bool (agreeTo d but r j)), (9, .int .i64 j)]) d.entries.length (.exit 2) [(8, .bool (agreeTo d but r d.entries.length)), (9, .int .i64 d.entries.length)] ?_ ?_ ?_ rfl]
    · cases hp : agreeTo d but r d.entries.length with
      | true =>
        have hap := ownR_app [] pre r hfl
        simp (disch := omega) only [go_sem, ↓reduceIte, Nat.reduceBEq, Nat.reduceEqDiff, Nat.reduceLT, Nat.reduceLeDiff, Nat.reduceAdd, Nat.reduceMul, Nat.reduceSub, reduceCtorEq, Int.reduceLT, Int.reduceLE, Int.reduceEq, Int.reduceBEq, Int.reduceBNe, Int.reduceToNat, Int.reduceAdd, Int.reduceNeg, Int.reduceSub, hx, eR, hzz, hap, wrap_i64]
      | false => simp (disch := omega) only [go_sem, ↓reduceIte, Nat.reduceBEq, Nat.reduceEqDiff, Nat.reduceLT, Nat.reduceLeDiff, Nat.reduceAdd, Nat.reduceMul, Nat.reduceSub, reduceCtorEq, Int.reduceLT, Int.reduceLE, Int.reduceEq, Int.reduceBEq, Int.reduceBNe, Int.reduceToNat, Int.reduceAdd, Int.reduceNeg, Int.reduceSub, hx, eR, hzz, wrap_i64]
    · simp only [go_sem, ↓reduceIte, Nat.reduceBEq, Nat.reduceEqDiff, Nat.reduceLT, Nat.reduceLeDiff, Nat.reduceAdd, Nat.reduceMul, Nat.reduceSub, reduceCtorEq, Int.reduceLT, Int.reduceLE, Int.reduceEq, Int.reduceBEq, Int.reduceBNe, Int.reduceToNat, Int.reduceAdd, Int.reduceNeg, Int.reduceSub]; rfl
    · intro j hj
      have hji : (j : Int) < d.entries.length := by omega
      have hxe := List.getElem?_eq_getElem hj
      have hze := hd.ze (by intro e; rw [e] at hj; simp at hj)
      have e0 : d.en0 j = d.entries[j] := by simp [Ho.en0, hj]
      have h79 := c79 d hd ho d.entries[j] (List.getElem_mem hj) r m1 (fun n hn => by have := m2 n hn; omega)
      have h89 := c89 but j zb hb hbl
      rw [agreeTo_succ, e0]
      simp only [eH, eHc, eEn, hze] at h79 hcl
      cases h1 : agreeTo d but r j with
      | false => simp (disch := omega) only [go_sem, ↓reduceIte, Nat.reduceBEq, Nat.reduceEqDiff, Nat.reduceLT, Nat.reduceLeDiff, Nat.reduceAdd, Nat.reduceMul, Nat.reduceSub, reduceCtorEq, Int.reduceLT, Int.reduceLE, Int.reduceEq, Int.reduceBEq, Int.reduceBNe, Int.reduceToNat, Int.reduceAdd, Int.reduceNeg, Int.reduceSub, hji, hze, h1, wrap_i64]
      | true =>
        cases h2 : but.any (fun x => x == (j : Int)) with
        | true =>
          rw [h2] at h89
          simp (disch := omega) only [go_sem, ↓reduceIte, Nat.reduceBEq, Nat.reduceEqDiff, Nat.reduceLT, Nat.reduceLeDiff, Nat.reduceAdd, Nat.reduceMul, Nat.reduceSub, reduceCtorEq, Int.reduceLT, Int.reduceLE, Int.reduceEq, Int.reduceBEq, Int.reduceBNe, Int.reduceToNat, Int.reduceAdd, Int.reduceNeg, Int.reduceSub, hji, hze, h89, wrap_i64]
        | false =>
          rw [h2] at h89
          simp (disch := omega) only [go_sem, ↓reduceIte, Nat.reduceBEq, Nat.reduceEqDiff, Nat.reduceLT, Nat.reduceLeDiff, Nat.reduceAdd, Nat.reduceMul, Nat.reduceSub, reduceCtorEq, Int.reduceLT, Int.reduceLE, Int.reduceEq, Int.reduceBEq, Int.reduceBNe, Int.reduceToNat, Int.reduceAdd, Int.reduceNeg, Int.reduceSub, hji, hze, h89, hxe, hx, eR, eEn, hzz, h79, wrap_i64]
    · simp only [go_sem, ↓reduceIte, Nat.reduceBEq, Nat.reduceEqDiff, Nat.reduceLT, Nat.reduceLeDiff, Nat.reduceAdd, Nat.reduceMul, Nat.reduceSub, reduceCtorEq, Int.reduceLT, Int.reduceLE, Int.reduceEq, Int.reduceBEq, Int.reduceBNe, Int.reduceToNat, Int.reduceAdd, Int.reduceNeg, Int.reduceSub]
  · simp only [go_sem, ↓reduceIte, Nat.reduceBEq, Nat.reduceEqDiff, Nat.reduceLT, Nat.reduceLeDiff, Nat.reduceAdd, Nat.reduceMul, Nat.reduceSub, reduceCtorEq, Int.reduceLT, Int.reduceLE, Int.reduceEq, Int.reduceBEq, Int.reduceBNe, Int.reduceToNat, Int.reduceAdd, Int.reduceNeg, Int.reduceSub, eHc, List.take_length]

theorem truthsL_mem {h : Ho} {but t : List Int} (hm : t ∈ truthsL h but) : t.length = h.rates.length := ratesL_mem h _ t (List.mem_filter.1 hm).1
def knownL (h : Ho) (e : Int) : List (List Int) := if e = 0 then truthsL h [] else []
def knownE (h : Ho) (e : Int) : Int := if e = 0 then (if truthsL h [] = [] then 8 else 0) else e
theorem c65 (d : Ho) (hd : d.fits) (e : Int) (ho : e = 0 → d.Ok) (h : Heap) : callPure (EW tabX) 65 [eH d, .int .i64 e] h = some (.tup [vR (knownL d e), .int .i64 (knownE d e)], h) := by
  rw [callPure_eq, w_call _ fn_65 rfl]
  unfold knownL knownE
  have hcl := eH_clean d
  simp only [eH, eHc] at hcl
  by_cases h0 : e = 0
  · subst h0
    have h45 := c45 d hd (ho rfl) [] 0 (fun h => absurd rfl h) (by simp)
    simp only [eH, eHc, I_nil] at h45
    by_cases hn : truthsL d [] = []
    · simp only [go_sem, ↓reduceIte, Nat.reduceBEq, Nat.reduceEqDiff, Nat.reduceLT, Nat.reduceLeDiff, Nat.reduceAdd, Nat.reduceMul, Nat.reduceSub, reduceCtorEq, Int.reduceLT, Int.reduceLE, Int.reduceEq, Int.reduceBEq, Int.reduceBNe, Int.reduceToNat, Int.reduceAdd, Int.reduceNeg, Int.reduceSub, eH, eHc, h45, hn, vR, vR_clean]
    · have hne : (((truthsL d []).length : Int) == 0) = false := by
        have := List.length_pos_iff.2 hn
        simp; omega
      simp only [go_sem, ↓reduceIte, Nat.reduceBEq, Nat.reduceEqDiff, Nat.reduceLT, Nat.reduceLeDiff, Nat.reduceAdd, Nat.reduceMul, Nat.reduceSub, reduceCtorEq, Int.reduceLT, Int.reduceLE, Int.reduceEq, Int.reduceBEq, Int.reduceBNe, Int.reduceToNat, Int.reduceAdd, Int.reduceNeg, Int.reduceSub, eH, eHc, h45, vR, hn, hne]
  · have hne : (e != 0) = true := by simpa using h0
    simp only [go_sem, ↓reduceIte, Nat.reduceBEq, Nat.reduceEqDiff, Nat.reduceLT, Nat.reduceLeDiff, Nat.reduceAdd, Nat.reduceMul, Nat.reduceSub, reduceCtorEq, Int.reduceLT, Int.reduceLE, Int.reduceEq, Int.reduceBEq, Int.reduceBNe, Int.reduceToNat, Int.reduceAdd, Int.reduceNeg, Int.reduceSub, eH, eHc, hne, h0, vR]
def checkE (h : Ho) : Int := (checkH h).2.2
def indexE (h : Ho) (n below : Int) : Int := if checkE h = 0 then (if inR n 0 (below - 1) = true then 0 else 4) else checkE h
theorem c70 (d : Ho) (hd : d.fits) (n below : Int) (hb : checkE d = 0 → 0 ≤ below ∧ below ≤ 1000000000000000000) (h : Heap) : callPure (EW tabX) 70 [eH d, .int .i64 n, .int .i64 below] h = some (.int .i64 (indexE d n below), h) := by
  have hcl := eH_clean d
  have h17 := c17 d hd
  rw [callPure_eq, w_call _ fn_70 rfl]
  unfold indexE checkE
  simp only [eH, eHc, tup3] at h17 hcl
  by_cases h0 : (checkH d).2.2 = 0
  · have hb := hb h0
    cases h1 : inR n 0 (below - 1) with
    | true => simp (disch := omega) only [go_sem, ↓reduceIte, Nat.reduceBEq, Nat.reduceEqDiff, Nat.reduceLT, Nat.reduceLeDiff, Nat.reduceAdd, Nat.reduceMul, Nat.reduceSub, reduceCtorEq, Int.reduceLT, Int.reduceLE, Int.reduceEq, Int.reduceBEq, Int.reduceBNe, Int.reduceToNat, Int.reduceAdd, Int.reduceNeg, Int.reduceSub, eH, eHc, h17, h0, c46, h1, wrap_i64]
    | false => simp (disch := omega) only [go_sem, ↓reduceIte, Nat.reduceBEq, Nat.reduceEqDiff, Nat.reduceLT, Nat.reduceLeDiff, Nat.reduceAdd, Nat.reduceMul, Nat.reduceSub, reduceCtorEq, Int.reduceLT, Int.reduceLE, Int.reduceEq, Int.reduceBEq, Int.reduceBNe, Int.reduceToNat, Int.reduceAdd, Int.reduceNeg, Int.reduceSub, eH, eHc, h17, h0, c46, h1, wrap_i64]
  · have hne : ((checkH d).2.2 == 0) = false := by simpa using h0
    simp (disch := omega) only [go_sem, ↓reduceIte, Nat.reduceBEq, Nat.reduceEqDiff, Nat.reduceLT, Nat.reduceLeDiff, Nat.reduceAdd, Nat.reduceMul, Nat.reduceSub, reduceCtorEq, Int.reduceLT, Int.reduceLE, Int.reduceEq, Int.reduceBEq, Int.reduceBNe, Int.reduceToNat, Int.reduceAdd, Int.reduceNeg, Int.reduceSub, eH, eHc, h17, h0, hne]
def penceE (n most e : Int) : Int := if e = 0 then (if inR n 0 most = true then 0 else 7) else e
theorem c75 (n most e : Int) (h : Heap) : callPure (EW tabX) 75 [.int .i64 n, .int .i64 most, .int .i64 e] h = some (.int .i64 (penceE n most e), h) := by
  rw [callPure_eq, w_call _ fn_75 rfl]
  unfold penceE
  by_cases h0 : e = 0
  · subst h0
    cases h1 : inR n 0 most with
    | true => simp only [go_sem, ↓reduceIte, Nat.reduceBEq, Nat.reduceEqDiff, Nat.reduceLT, Nat.reduceLeDiff, Nat.reduceAdd, Nat.reduceMul, Nat.reduceSub, reduceCtorEq, Int.reduceLT, Int.reduceLE, Int.reduceEq, Int.reduceBEq, Int.reduceBNe, Int.reduceToNat, Int.reduceAdd, Int.reduceNeg, Int.reduceSub, c46, h1]
    | false => simp only [go_sem, ↓reduceIte, Nat.reduceBEq, Nat.reduceEqDiff, Nat.reduceLT, Nat.reduceLeDiff, Nat.reduceAdd, Nat.reduceMul, Nat.reduceSub, reduceCtorEq, Int.reduceLT, Int.reduceLE, Int.reduceEq, Int.reduceBEq, Int.reduceBNe, Int.reduceToNat, Int.reduceAdd, Int.reduceNeg, Int.reduceSub, c46, h1]
  · have hne : (e == 0) = false := by simpa using h0
    simp only [go_sem, ↓reduceIte, Nat.reduceBEq, Nat.reduceEqDiff, Nat.reduceLT, Nat.reduceLeDiff, Nat.reduceAdd, Nat.reduceMul, Nat.reduceSub, reduceCtorEq, Int.reduceLT, Int.reduceLE, Int.reduceEq, Int.reduceBEq, Int.reduceBNe, Int.reduceToNat, Int.reduceAdd, Int.reduceNeg, Int.reduceSub, h0, hne]
def firstV (h : Ho) : List Int × Int × Int := if knownE h (checkE h) = 0 then ((truthsL h []).headD [], ((truthsL h []).length : Int), 0) else ([], 0, knownE h (checkE h))
def v3 (x : List Int × Int × Int) : AV := .tup [vI x.1, .int .i64 x.2.1, .int .i64 x.2.2]
theorem v3_clean (x : List Int × Int × Int) : (v3 x).clean = some (v3 x) := by simp only [v3, vI, go_sem, ↓reduceIte, Nat.reduceBEq, Nat.reduceEqDiff, Nat.reduceLT, Nat.reduceLeDiff, Nat.reduceAdd, Nat.reduceMul, Nat.reduceSub, reduceCtorEq, Int.reduceLT, Int.reduceLE, Int.reduceEq, Int.reduceBEq, Int.reduceBNe, Int.reduceToNat, Int.reduceAdd, Int.reduceNeg, Int.reduceSub]
theorem ok_of_E {h : Ho} (hc : checkE h = 0) : h.Ok := (ok_of_check hc).1
theorem knownE_zero {h : Ho} {e : Int} (hk : knownE h e = 0) : e = 0 ∧ truthsL h [] ≠ [] := by
  unfold knownE at hk
  split at hk
  · rename_i h0
    split at hk
    · cases hk
    · rename_i h1; exact ⟨h0, h1⟩
  · rename_i h0; exact absurd hk h0
theorem c19 (d : Ho) (hd : d.fits) (h : Heap) : callPure (EW tabX) 19 [eH d] h = some (v3 (firstV d), h) := by
  have hcl := eH_clean d
  have h17 := c17 d hd
  have h65 := c65 d hd (checkE d) ok_of_E
  rw [callPure_eq, w_call _ fn_19 rfl]
  unfold firstV
  simp only [eH, eHc, tup3] at h17 hcl h65
  have hce : (checkH d).2.2 = checkE d := rfl
  by_cases h0 : knownE d (checkE d) = 0
  · obtain ⟨k1, k2⟩ := knownE_zero h0
    have ho := ok_of_E k1
    have hl : knownL d (checkE d) = truthsL d [] := by unfold knownL; rw [if_pos k1]
    obtain ⟨t, ts, ht⟩ : ∃ t ts, truthsL d [] = t :: ts := by
      cases hq : truthsL d [] with
      | nil => exact absurd hq k2
      | cons t ts => exact ⟨t, ts, rfl⟩
    have htl : t.length = d.rates.length := truthsL_mem (h := d) (but := []) (by rw [ht]; simp)
    have hz : zT 1 t.length = 1 := zT_pos (by have := ho.rd; have := ho.d1; omega)
    simp (disch := omega) only [go_sem, ↓reduceIte, Nat.reduceBEq, Nat.reduceEqDiff, Nat.reduceLT, Nat.reduceLeDiff, Nat.reduceAdd, Nat.reduceMul, Nat.reduceSub, reduceCtorEq, Int.reduceLT, Int.reduceLE, Int.reduceEq, Int.reduceBEq, Int.reduceBNe, Int.reduceToNat, Int.reduceAdd, Int.reduceNeg, Int.reduceSub, eH, eHc, h17, hce, h65, h0, hl, ht, vR, v3, vI, eR, List.headD_cons, List.map_cons, hz]
  · have hne : (knownE d (checkE d) != 0) = true := by simpa using h0
    simp (disch := omega) only [go_sem, ↓reduceIte, Nat.reduceBEq, Nat.reduceEqDiff, Nat.reduceLT, Nat.reduceLeDiff, Nat.reduceAdd, Nat.reduceMul, Nat.reduceSub, reduceCtorEq, Int.reduceLT, Int.reduceLE, Int.reduceEq, Int.reduceBEq, Int.reduceBNe, Int.reduceToNat, Int.reduceAdd, Int.reduceNeg, Int.reduceSub, eH, eHc, h17, hce, h65, h0, hne, vR, v3, vI]
end Go.Proofs.Ytaohhjaogjcfoaa
end
section
namespace Go.Proofs.Ytaohhjaogjcfoaa
open Go.Proofs

section
variable (X : Tab) {E : Eng} {L : List Nat} {all : List Oper}
theorem d_nil (b : List Nat) (n0 : Nat × Nat) (i : Nat) (s : St) : runDraw X E L b all n0 false [] i s = some s := _root_.id rfl
theorem d_c (b : List Nat) (n0 : Nat × Nat) (i : Nat) (d : Option Tmp) (op : Op) (ty : TypeId) (po : String) (af : Array Edge) (os : List Oper) (fr : Frm) (h : Heap) (ms : List Nat) :
    runDraw X E L b all n0 false (⟨d, op, ty, po, af, none⟩ :: os) i ⟨fr, h, ms⟩ = bindW (opAt X E (!boundAll b all i) (n0.1 + i, n0.2 + i) op fr h) (fun r => runDraw X E L b all n0 false os (i + 1) ⟨setD L fr d r.1, r.2, ms⟩) .mk := by
  have e : runDraw X E L b all n0 false (⟨d, op, ty, po, af, none⟩ :: os) i ⟨fr, h, ms⟩ = oneOp X E L all (false || !boundAll b all i) (posAt n0 false i) ⟨d, op, ty, po, af, none⟩ ⟨fr, h, ms⟩ (runDraw X E L b all n0 false os (i + 1)) := rfl
  rw [e]
  simp only [oneOp, thenK_eq, Bool.false_or, bindW]
  rfl
end
section
variable {X : Tab} {f : Nat} {rd : Option Nat} {b : Code}
theorem w_rounds_hr {g : Slots} {h : Heap} {ms : List Nat} {x : Option (AExit × St)} (hx : (EW X).code f rd (.loop b) ⟨⟨g, []⟩, h, ms⟩ = x) (U : Nat → Slots) (H : Nat → Heap → Prop) (n : Nat) (e : AExit) (V : Slots) (h0 : puts g (U 0) = g) (hh : H 0 h)
    (hs : ∀ k h, k < n → H k h → ∃ h', cutS ⟨⟨puts g (U k), []⟩, h, ms⟩ ((EW X).code f rd b ⟨⟨puts g (U k), []⟩, h, ms⟩) = some (.normal, ⟨⟨puts g (U (k + 1)), []⟩, h', ms⟩) ∧ H (k + 1) h')
    (he : ∀ h, H n h → cutS ⟨⟨puts g (U n), []⟩, h, ms⟩ ((EW X).code f rd b ⟨⟨puts g (U n), []⟩, h, ms⟩) = some (e, ⟨⟨puts g V, []⟩, h, ms⟩)) (hr : isNormal e = false) :
    ∃ h', x = some (e, ⟨⟨puts g V, []⟩, h', ms⟩) ∧ H n h' := by
  obtain ⟨e', s', h1, h', rfl, rfl, h2⟩ := w_rounds_ex hx (fun k s => ∃ h, s = ⟨⟨puts g (U k), []⟩, h, ms⟩ ∧ H k h) n (fun e' s' => ∃ h', e' = e ∧ s' = ⟨⟨puts g V, []⟩, h', ms⟩ ∧ H n h')
    ⟨h, by rw [h0], hh⟩ (fun k s hk ⟨h, hs1, hs2⟩ => by
      subst hs1
      obtain ⟨h', a, c⟩ := hs k h hk hs2
      exact ⟨_, a, h', rfl, c⟩)
    (fun s ⟨h, hs1, hs2⟩ => by
      subst hs1
      exact ⟨e, _, he h hs2, hr, h, rfl, rfl, hs2⟩)
  exact ⟨h', h1, h2⟩
theorem w_rounds_hk {G : Prop} {g : Slots} {h : Heap} {ms : List Nat} {x : Option (AExit × St)} (hx : (EW X).code f rd (.loop b) ⟨⟨g, []⟩, h, ms⟩ = x) (U : Nat → Slots) (H : Nat → Heap → Prop) (n : Nat) (e : AExit) (V : Slots) (hr : isNormal e = false) (h0 : puts g (U 0) = g) (hh : H 0 h)
    (hs : ∀ k h, k < n → H k h → ∃ h', cutS ⟨⟨puts g (U k), []⟩, h, ms⟩ ((EW X).code f rd b ⟨⟨puts g (U k), []⟩, h, ms⟩) = some (.normal, ⟨⟨puts g (U (k + 1)), []⟩, h', ms⟩) ∧ H (k + 1) h')
    (he : ∀ h, H n h → cutS ⟨⟨puts g (U n), []⟩, h, ms⟩ ((EW X).code f rd b ⟨⟨puts g (U n), []⟩, h, ms⟩) = some (e, ⟨⟨puts g V, []⟩, h, ms⟩))
    (hG : ∀ h', x = some (e, ⟨⟨puts g V, []⟩, h', ms⟩) → H n h' → G) : G := by
  obtain ⟨h', a, c⟩ := w_rounds_hr hx U H n e V h0 hh hs he hr
  exact hG h' a c
end

attribute [go_sem] d_nil d_c opMapUpdate opLookup

def joinS (s : Int × Int) (n : Int) : Int × Int := (if n < s.1 then n else s.1, if s.2 < n then n else s.2)
def foldS (f : List Int → Int) (l : List (List Int)) : Int × Int := match l with
  | [] => (0, 0)
  | t :: ts => ts.foldl (fun s r => joinS s (f r)) (f t, f t)
def spanTo (f : List Int → Int) (t : List Int) (ts : List (List Int)) (k : Nat) : Int × Int := (ts.take k).foldl (fun s r => joinS s (f r)) (f t, f t)
theorem spanTo_zero (f : List Int → Int) (t : List Int) (ts : List (List Int)) : spanTo f t ts 0 = (f t, f t) := rfl
theorem spanTo_succ (f : List Int → Int) (t : List Int) {ts : List (List Int)} {k : Nat} {x : List Int} (h : ts[k]? = some x) : spanTo f t ts (k + 1) = joinS (spanTo f t ts k) (f x) := by
  unfold spanTo; rw [List.take_add_one, h]; simp
theorem spanTo_all (f : List Int → Int) (t : List Int) (ts : List (List Int)) : spanTo f t ts ts.length = foldS f (t :: ts) := by unfold spanTo foldS; rw [List.take_length]
theorem c71 (s : Int × Int) (n : Int) (h : Heap) : callPure (EW tabX) 71 [eSp s, .int .i64 n] h = some (eSp (joinS s n), h) := by
  rw [callPure_eq, w_call _ fn_71 rfl]
  simp only [go_sem, ↓reduceIte, Nat.reduceBEq, Nat.reduceEqDiff, Nat.reduceLT, Nat.reduceLeDiff, Nat.reduceAdd, Nat.reduceMul, Nat.reduceSub, reduceCtorEq, Int.reduceLT, Int.reduceLE, Int.reduceEq, Int.reduceBEq, Int.reduceBNe, Int.reduceToNat, Int.reduceAdd, Int.reduceNeg, Int.reduceSub, eSp, joinS]
theorem sux_neg (k : Nat) : ((k : Int) + 1 < 0) = False := by simp; omega
theorem sux_nat (k : Nat) : ((k : Int) + 1).toNat = k + 1 := by omega
attribute [go_sem] sux_neg sux_nat
end Go.Proofs.Ytaohhjaogjcfoaa
end
section
namespace Go.Proofs.Ytaohhjaogjcfoaa
open Go.Proofs

theorem indexE_zero {h : Ho} {n below : Int} (hi : indexE h n below = 0) : checkE h = 0 ∧ 0 ≤ n ∧ n < below := by
  unfold indexE at hi
  split at hi
  · rename_i h0
    split at hi
    · rename_i h1
      simp [inR] at h1
      exact ⟨h0, h1.1, by omega⟩
    · cases hi
  · rename_i h0; exact absurd hi h0
theorem truths_cons {h : Ho} (ho : h.Ok) (hn : truthsL h [] ≠ []) : ∃ t ts, truthsL h [] = t :: ts ∧ ∀ r ∈ t :: ts, r.length = h.rates.length ∧ ∀ n ∈ r, 1 ≤ n ∧ n ≤ 20 := by
  cases hq : truthsL h [] with
  | nil => exact absurd hq hn
  | cons t ts =>
    refine ⟨t, ts, rfl, fun r hr => ?_⟩
    rw [← hq] at hr
    exact ⟨truthsL_mem hr, ratesL_bd ho _ (Nat.le_refl _) r (List.mem_filter.1 hr).1⟩
theorem truthsL_len {h : Ho} (ho : h.Ok) (but : List Int) : (truthsL h but).length ≤ 8000 := by
  have a := Ho.Ok.len h ho
  have b := List.length_filter_le (fun r => agreeTo h but r h.entries.length) (ratesL h h.rates.length)
  unfold truthsL; omega
def rateV (h : Ho) (day : Int) : (Int × Int) × Int := if knownE h (indexE h day h.days) = 0 then (foldS (fun r => r.getD day.toNat 0) (truthsL h []), 0) else ((0, 0), knownE h (indexE h day h.days))
def vS (x : (Int × Int) × Int) : AV := .tup [eSp x.1, .int .i64 x.2]
theorem vS_clean (x : (Int × Int) × Int) : (vS x).clean = some (vS x) := by simp only [vS, eSp, go_sem, ↓reduceIte, Nat.reduceBEq, Nat.reduceEqDiff, Nat.reduceLT, Nat.reduceLeDiff, Nat.reduceAdd, Nat.reduceMul, Nat.reduceSub, reduceCtorEq, Int.reduceLT, Int.reduceLE, Int.reduceEq, Int.reduceBEq, Int.reduceBNe, Int.reduceToNat, Int.reduceAdd, Int.reduceNeg, Int.reduceSub]
def HW (d : Ho) (s : Int × Int) (E : List ABlk) : List ABlk := .cells (eHc d) :: .cells [.int .i64 0, .int .i64 0] :: .none :: .cells [.int .i64 s.1, .int .i64 s.2] :: E
theorem c22 (d : Ho) (hd : d.fits) (day : Int) (h : Heap) : callPure (EW tabX) 22 [eH d, .int .i64 day] h = some (vS (rateV d day), h) := by
  have hcl := eH_clean d
  have h17 := c17 d hd
  have h65 := c65 d hd (indexE d day d.days) (fun e => ok_of_E (indexE_zero e).1)
  rw [callPure_eq, w_call _ fn_22 rfl]
  unfold rateV
  have h70 := c70 d hd day d.days (fun e => by have := (ok_of_E e).d1; have := (ok_of_E e).d3; omega)
  simp only [eH, eHc, tup3] at h70 hcl h65
  by_cases h0 : knownE d (indexE d day d.days) = 0
  · obtain ⟨k1, k2⟩ := knownE_zero h0
    obtain ⟨k3, k4, k5⟩ := indexE_zero k1
    have ho := ok_of_E k3
    have hrd := ho.rd
    have hl : knownL d (indexE d day d.days) = truthsL d [] := by unfold knownL; rw [if_pos k1]
    obtain ⟨t, ts, ht, hm⟩ := truths_cons ho k2
    obtain ⟨j, rfl⟩ := Int.eq_ofNat_of_zero_le k4
    have hln := truthsL_len ho []
    rw [ht, List.length_cons] at hln
    have htl := (hm t (by simp)).1
    have hjl : j < t.length := by omega
    have hg := List.getElem?_eq_getElem hjl
    simp (disch := omega) only [go_sem, ↓reduceIte, Nat.reduceBEq, Nat.reduceEqDiff, Nat.reduceLT, Nat.reduceLeDiff, Nat.reduceAdd, Nat.reduceMul, Nat.reduceSub, reduceCtorEq, Int.reduceLT, Int.reduceLE, Int.reduceEq, Int.reduceBEq, Int.reduceBNe, Int.reduceToNat, Int.reduceAdd, Int.reduceNeg, Int.reduceSub, eH, eHc, h70, h65, h0, hl, ht, vR, eR, hg, List.size_toArray, Nat.add_lt_add_iff_left]
    generalize hcf : okFam _ _ _ = cf
    obtain rfl : cf = true := by rw [← hcf]; kernel_rfl
    simp (disch := omega) only [go_sem, ↓reduceIte, Nat.reduceBEq, Nat.reduceEqDiff, Nat.reduceLT, Nat.reduceLeDiff, Nat.reduceAdd, Nat.reduceMul, Nat.reduceSub, reduceCtorEq, Int.reduceLT, Int.reduceLE, Int.reduceEq, Int.reduceBEq, Int.reduceBNe, Int.reduceToNat, Int.reduceAdd, Int.reduceNeg, Int.reduceSub, hg]
    generalize hx : (EW tabX).code 22 none (Code.loop _) _ = x
    refine w_rounds_sk hx (fun k (s : (Int × Int) × List ABlk × List Bool) => [(9, .int .i64 ((k : Int) + 1))]) (fun s => ⟨HW d s.1 s.2.1, s.2.2⟩) (fun k s => s.1 = spanTo (fun r => r.getD j 0) t ts k) ts.length (.exit 0) (fun s => [(9, .int .i64 ((ts.length : Int) + 1))]) rfl ((t[j], t[j]), List.replicate 13 .none, List.replicate 15 false) ?_ ?_ ?_ ?_ ?_ ?_
    · simp only [go_sem, ↓reduceIte, Nat.reduceBEq, Nat.reduceEqDiff, Nat.reduceLT, Nat.reduceLeDiff, Nat.reduceAdd, Nat.reduceMul, Nat.reduceSub, reduceCtorEq, Int.reduceLT, Int.reduceLE, Int.reduceEq, Int.reduceBEq, Int.reduceBNe, Int.reduceToNat, Int.reduceAdd, Int.reduceNeg, Int.reduceSub, Int.zero_add]
    · simp only [HW, eHc]; rfl
    · simp only [spanTo_zero]; simp [hjl]
    · intro k s hk hR
      obtain ⟨⟨a, b⟩, E, F⟩ := s
      have hki : (k : Int) + 1 < (ts.length : Int) + 1 := by omega
      have hxk := List.getElem?_eq_getElem hk
      have hxl := (hm ts[k] (by simp)).1
      have hxj := List.getElem?_eq_getElem (show j < ts[k].length by omega)
      have hxd : ts[k].getD j 0 = ts[k][j] := by simp [show j < ts[k].length by omega]
      have h71 := c71 (a, b) ts[k][j]
      have hR : (a, b) = spanTo (fun r => r.getD j 0) t ts k := hR
      simp only [eSp] at h71
      simp (disch := omega) only [go_sem, ↓reduceIte, Nat.reduceBEq, Nat.reduceEqDiff, Nat.reduceLT, Nat.reduceLeDiff, Nat.reduceAdd, Nat.reduceMul, Nat.reduceSub, reduceCtorEq, Int.reduceLT, Int.reduceLE, Int.reduceEq, Int.reduceBEq, Int.reduceBNe, Int.reduceToNat, Int.reduceAdd, Int.reduceNeg, Int.reduceSub, HW, eHc, hki, hxk, eR, hxj, wrap_i64]
      generalize hcf : drawT _ _ _ = cf
      obtain rfl : cf = true := by rw [← hcf]; kernel_rfl
      generalize List.replicate _ ABlk.none = N
      generalize List.replicate _ false = M
      refine ⟨(joinS (a, b) ts[k][j], E ++ N, F ++ M), ?_, by rw [spanTo_succ _ _ hxk, ← hR, hxd]⟩
      simp (disch := omega) only [go_sem, ↓reduceIte, Nat.reduceBEq, Nat.reduceEqDiff, Nat.reduceLT, Nat.reduceLeDiff, Nat.reduceAdd, Nat.reduceMul, Nat.reduceSub, reduceCtorEq, Int.reduceLT, Int.reduceLE, Int.reduceEq, Int.reduceBEq, Int.reduceBNe, Int.reduceToNat, Int.reduceAdd, Int.reduceNeg, Int.reduceSub, hxj, h71, wrap_i64, joinS]
    · intro s hR
      simp only [go_sem, ↓reduceIte, Nat.reduceBEq, Nat.reduceEqDiff, Nat.reduceLT, Nat.reduceLeDiff, Nat.reduceAdd, Nat.reduceMul, Nat.reduceSub, reduceCtorEq, Int.reduceLT, Int.reduceLE, Int.reduceEq, Int.reduceBEq, Int.reduceBNe, Int.reduceToNat, Int.reduceAdd, Int.reduceNeg, Int.reduceSub, HW]
    · intro s h1 hR
      subst h1
      have hR : s.1 = spanTo (fun r => r.getD j 0) t ts ts.length := hR
      rw [spanTo_all] at hR
      rw [← hR]
      simp only [go_sem, ↓reduceIte, Nat.reduceBEq, Nat.reduceEqDiff, Nat.reduceLT, Nat.reduceLeDiff, Nat.reduceAdd, Nat.reduceMul, Nat.reduceSub, reduceCtorEq, Int.reduceLT, Int.reduceLE, Int.reduceEq, Int.reduceBEq, Int.reduceBNe, Int.reduceToNat, Int.reduceAdd, Int.reduceNeg, Int.reduceSub, HW, vS, eSp]
  · have hne : (knownE d (indexE d day d.days) != 0) = true := by simpa using h0
    simp (disch := omega) only [go_sem, ↓reduceIte, Nat.reduceBEq, Nat.reduceEqDiff, Nat.reduceLT, Nat.reduceLeDiff, Nat.reduceAdd, Nat.reduceMul, Nat.reduceSub, reduceCtorEq, Int.reduceLT, Int.reduceLE, Int.reduceEq, Int.reduceBEq, Int.reduceBNe, Int.reduceToNat, Int.reduceAdd, Int.reduceNeg, Int.reduceSub, eH, eHc, h70, h65, h0, hne, vR, vS, eSp]
end Go.Proofs.Ytaohhjaogjcfoaa
end
