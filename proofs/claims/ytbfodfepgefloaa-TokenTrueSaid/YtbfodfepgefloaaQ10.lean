/- Parts of the proof, joined: What small functions compute: a search in a row of numbers, and whether numbers are beyond bounds. What the tests of names compute, the program's and the reference's. What the test of a drawer computes: the program's. What the test of a drawer computes: the program's, whole. What the test of a drawer computes: the reference's. Where halves fit, by the reference. What a valid drawer is like; where halves fit, by the reference. A drawer that comes in is one of the abstract interpreter. Conditions: those of each law. -/
import Derived.Test.YtbfodfepgefloaaQ9
import Derived.Laws.RangeString
import Derived.Laws.RangeAny
set_option linter.unusedSimpArgs false
set_option linter.unusedVariables false
section
namespace Go.Proofs.Ytbfodfepgefloaa
open Go.Proofs


theorem c69 (n lo hi : Int) (h : Heap) (b1 b2 : Nat) (h1 : h.b[b1]? = some (.cells [.int .i64 lo])) (h2 : h.b[b2]? = some (.cells [.int .i64 hi])) :
   (EW tabX).call 69 [.int .i64 n, .ref b1 0, .ref b2 0] h = some (.bool (decide (n < lo) || decide (hi < n)), h) := by
  obtain ⟨hb, ht⟩ := h
  rw [w_call _ fn_69 rfl]
  by_cases hn : n < lo
  · simp only [go_sem, ↓reduceIte, Nat.reduceBEq, Nat.reduceEqDiff, Nat.reduceLT, Nat.reduceLeDiff, Nat.reduceAdd, Nat.reduceMul, Nat.reduceSub, reduceCtorEq, Int.reduceLT, Int.reduceLE, Int.reduceEq, Int.reduceBEq, Int.reduceBNe, Int.reduceToNat, Int.reduceAdd, Int.reduceNeg, Int.reduceSub, h1, h2, hn, Bool.true_or]
  · simp only [go_sem, ↓reduceIte, Nat.reduceBEq, Nat.reduceEqDiff, Nat.reduceLT, Nat.reduceLeDiff, Nat.reduceAdd, Nat.reduceMul, Nat.reduceSub, reduceCtorEq, Int.reduceLT, Int.reduceLE, Int.reduceEq, Int.reduceBEq, Int.reduceBNe, Int.reduceToNat, Int.reduceAdd, Int.reduceNeg, Int.reduceSub, h1, h2, hn, Bool.false_or, gt_iff_lt]
theorem c86 (n lo hi : Int) (h : Heap) (b1 b2 : Nat) (h1 : h.b[b1]? = some (.cells [.int .i64 lo])) (h2 : h.b[b2]? = some (.cells [.int .i64 hi])) :
   (EW tabX).call 86 [.int .i64 n, .ref b1 0, .ref b2 0] h = some (.bool (decide (n < lo) || decide (hi < n)), h) := by
  obtain ⟨hb, ht⟩ := h
  rw [w_call _ fn_86 rfl]
  by_cases hn : n < lo
  · simp only [go_sem, ↓reduceIte, Nat.reduceBEq, Nat.reduceEqDiff, Nat.reduceLT, Nat.reduceLeDiff, Nat.reduceAdd, Nat.reduceMul, Nat.reduceSub, reduceCtorEq, Int.reduceLT, Int.reduceLE, Int.reduceEq, Int.reduceBEq, Int.reduceBNe, Int.reduceToNat, Int.reduceAdd, Int.reduceNeg, Int.reduceSub, h1, h2, hn, Bool.true_or]
  · simp only [go_sem, ↓reduceIte, Nat.reduceBEq, Nat.reduceEqDiff, Nat.reduceLT, Nat.reduceLeDiff, Nat.reduceAdd, Nat.reduceMul, Nat.reduceSub, reduceCtorEq, Int.reduceLT, Int.reduceLE, Int.reduceEq, Int.reduceBEq, Int.reduceBNe, Int.reduceToNat, Int.reduceAdd, Int.reduceNeg, Int.reduceSub, h1, h2, hn, Bool.false_or, gt_iff_lt]

theorem c78 (f : Nat) (fst cap : List AV) (l : List Int) (t z : Nat) (hz : l ≠ [] → z = 1) (p : Int → Bool) (h : Heap) (hl : l.length < 1000000000000000000)
   (hp : ∀ n ∈ l, callAV tabX (EW tabX) false (.clo f fst cap) [.int .i64 n] h = some (.bool (p n), h)) :
   (EW tabX).call 78 [.lst t z (I l), .clo f fst cap] h = some (.int .i64 (if l.findIdx p < l.length then l.findIdx p else -1), h) := by
  obtain ⟨hb, ht⟩ := h
  rw [w_call _ fn_78 rfl]
  simp only [go_sem, ↓reduceIte, Nat.reduceBEq, Nat.reduceEqDiff, Nat.reduceLT, Nat.reduceLeDiff, Nat.reduceAdd, Nat.reduceMul, Nat.reduceSub, reduceCtorEq, Int.reduceLT, Int.reduceLE, Int.reduceEq, Int.reduceBEq, Int.reduceBNe, Int.reduceToNat, Int.reduceAdd, Int.reduceNeg, Int.reduceSub]
  simp only [callAV_clo] at hp
  by_cases hf : l.findIdx p < l.length
  · rw [w_rounds_u (fun k => [(8, .int .i64 k)]) (l.findIdx p) .ret [(4, .int .i64 (l.findIdx p)), (5, .int .i64 (l.findIdx p)), (8, .int .i64 (l.findIdx p))] ?_ ?_ ?_ rfl]
    · simp only [go_sem, ↓reduceIte, Nat.reduceBEq, Nat.reduceEqDiff, Nat.reduceLT, Nat.reduceLeDiff, Nat.reduceAdd, Nat.reduceMul, Nat.reduceSub, reduceCtorEq, Int.reduceLT, Int.reduceLE, Int.reduceEq, Int.reduceBEq, Int.reduceBNe, Int.reduceToNat, Int.reduceAdd, Int.reduceNeg, Int.reduceSub, hf]
    · simp only [go_sem, ↓reduceIte, Nat.reduceBEq, Nat.reduceEqDiff, Nat.reduceLT, Nat.reduceLeDiff, Nat.reduceAdd, Nat.reduceMul, Nat.reduceSub, reduceCtorEq, Int.reduceLT, Int.reduceLE, Int.reduceEq, Int.reduceBEq, Int.reduceBNe, Int.reduceToNat, Int.reduceAdd, Int.reduceNeg, Int.reduceSub]
    · intro k hk
      have hlt : k < l.length := by omega
      have hki : (k : Int) < l.length := by omega
      have hx := List.getElem?_eq_getElem hlt
      have hpx := hp l[k] (List.getElem_mem _)
      have hpf : p l[k] = false := by simpa using List.not_of_lt_findIdx hk
      have hz1 := hz (by intro e; rw [e] at hlt; simp at hlt)
      subst hz1
      rw [hpf] at hpx
      simp (disch := omega) only [go_sem, ↓reduceIte, Nat.reduceBEq, Nat.reduceEqDiff, Nat.reduceLT, Nat.reduceLeDiff, Nat.reduceAdd, Nat.reduceMul, Nat.reduceSub, reduceCtorEq, Int.reduceLT, Int.reduceLE, Int.reduceEq, Int.reduceBEq, Int.reduceBNe, Int.reduceToNat, Int.reduceAdd, Int.reduceNeg, Int.reduceSub, hki, hx, ↓hpx, wrap_i64]
    · have hx := List.getElem?_eq_getElem hf
      have hki : ((l.findIdx p : Nat) : Int) < l.length := by omega
      have hpx := hp l[l.findIdx p] (List.getElem_mem _)
      have hpt : p l[l.findIdx p] = true := List.findIdx_getElem
      have hz1 := hz (by intro e; rw [e] at hf; simp at hf)
      subst hz1
      rw [hpt] at hpx
      simp (disch := omega) only [go_sem, ↓reduceIte, Nat.reduceBEq, Nat.reduceEqDiff, Nat.reduceLT, Nat.reduceLeDiff, Nat.reduceAdd, Nat.reduceMul, Nat.reduceSub, reduceCtorEq, Int.reduceLT, Int.reduceLE, Int.reduceEq, Int.reduceBEq, Int.reduceBNe, Int.reduceToNat, Int.reduceAdd, Int.reduceNeg, Int.reduceSub, hki, hx, ↓hpx, wrap_i64]
  · have hn : l.findIdx p = l.length := by have := List.findIdx_le_length (p := p) (xs := l); omega
    rw [w_rounds_u (fun k => [(8, .int .i64 k)]) (l.length) (.exit 0) [(8, .int .i64 l.length)] ?_ ?_ ?_ rfl]
    · simp only [go_sem, ↓reduceIte, Nat.reduceBEq, Nat.reduceEqDiff, Nat.reduceLT, Nat.reduceLeDiff, Nat.reduceAdd, Nat.reduceMul, Nat.reduceSub, reduceCtorEq, Int.reduceLT, Int.reduceLE, Int.reduceEq, Int.reduceBEq, Int.reduceBNe, Int.reduceToNat, Int.reduceAdd, Int.reduceNeg, Int.reduceSub, hf]
    · simp only [go_sem, ↓reduceIte, Nat.reduceBEq, Nat.reduceEqDiff, Nat.reduceLT, Nat.reduceLeDiff, Nat.reduceAdd, Nat.reduceMul, Nat.reduceSub, reduceCtorEq, Int.reduceLT, Int.reduceLE, Int.reduceEq, Int.reduceBEq, Int.reduceBNe, Int.reduceToNat, Int.reduceAdd, Int.reduceNeg, Int.reduceSub]
    · intro k hk
      have hki : (k : Int) < l.length := by omega
      have hx := List.getElem?_eq_getElem hk
      have hpx := hp l[k] (List.getElem_mem _)
      have hpf : p l[k] = false := by simpa using List.not_of_lt_findIdx (p := p) (xs := l) (i := k) (by omega)
      have hz1 := hz (by intro e; rw [e] at hk; simp at hk)
      subst hz1
      rw [hpf] at hpx
      simp (disch := omega) only [go_sem, ↓reduceIte, Nat.reduceBEq, Nat.reduceEqDiff, Nat.reduceLT, Nat.reduceLeDiff, Nat.reduceAdd, Nat.reduceMul, Nat.reduceSub, reduceCtorEq, Int.reduceLT, Int.reduceLE, Int.reduceEq, Int.reduceBEq, Int.reduceBNe, Int.reduceToNat, Int.reduceAdd, Int.reduceNeg, Int.reduceSub, hki, hx, ↓hpx, wrap_i64]
    · simp (disch := omega) only [go_sem, ↓reduceIte, Nat.reduceBEq, Nat.reduceEqDiff, Nat.reduceLT, Nat.reduceLeDiff, Nat.reduceAdd, Nat.reduceMul, Nat.reduceSub, reduceCtorEq, Int.reduceLT, Int.reduceLE, Int.reduceEq, Int.reduceBEq, Int.reduceBNe, Int.reduceToNat, Int.reduceAdd, Int.reduceNeg, Int.reduceSub, Int.lt_irrefl]

theorem findIdx_any {α : Type} (l : List α) (p : α → Bool) : decide ((0 : Int) ≤ if l.findIdx p < l.length then (l.findIdx p : Int) else -1) = l.any p := by
  by_cases h : l.findIdx p < l.length
  · rw [if_pos h]
    have : l.any p = true := List.any_eq_true.2 (by have := List.findIdx_lt_length.1 h; simpa using this)
    rw [this]; simp
  · rw [if_neg h]
    have : l.any p = false := by
      cases hh : l.any p with
      | false => rfl
      | true => exact absurd (List.findIdx_lt_length.2 (by simpa using List.any_eq_true.1 hh)) h
    rw [this]; rfl
theorem c68 (f : Nat) (fst cap : List AV) (l : List Int) (t z : Nat) (hz : l ≠ [] → z = 1) (p : Int → Bool) (h : Heap) (hl : l.length < 1000000000000000000)
   (hp : ∀ n ∈ l, callAV tabX (EW tabX) false (.clo f fst cap) [.int .i64 n] h = some (.bool (p n), h)) (hc : (AV.clo f fst cap).clean = none) :
   (EW tabX).call 68 [.lst t z (I l), .clo f fst cap] h = some (.bool (l.any p), h) := by
  have h78 := c78 f fst cap l t z hz p h hl hp
  obtain ⟨hb, ht⟩ := h
  rw [w_call _ fn_68 rfl]
  simp only [go_sem, ↓reduceIte, Nat.reduceBEq, Nat.reduceEqDiff, Nat.reduceLT, Nat.reduceLeDiff, Nat.reduceAdd, Nat.reduceMul, Nat.reduceSub, reduceCtorEq, Int.reduceLT, Int.reduceLE, Int.reduceEq, Int.reduceBEq, Int.reduceBNe, Int.reduceToNat, Int.reduceAdd, Int.reduceNeg, Int.reduceSub, hc, h78, ge_iff_le, findIdx_any]

/-- A number is not from lo to hi. -/
def out (lo hi n : Int) : Bool := decide (n < lo) || decide (hi < n)
theorem c51 (lo hi : Int) (l : List Int) (z : Nat) (hz : l ≠ [] → z = 1) (h : Heap) (hl : l.length < 1000000000000000000) :
   callPure (EW tabX) 51 [.int .i64 lo, .int .i64 hi, .lst 0 z (I l)] h = some (.bool (l.any (out lo hi)), h) := by
  have h68 := c68 69 [] [.ref 0 0, .ref 1 0] l 0 z hz (out lo hi) ⟨[.cells [.int .i64 lo], .cells [.int .i64 hi]], []⟩ hl (fun n _ => by
    have := c69 n lo hi ⟨[.cells [.int .i64 lo], .cells [.int .i64 hi]], []⟩ 0 1 rfl rfl
    simp only [go_sem, ↓reduceIte, Nat.reduceBEq, Nat.reduceEqDiff, Nat.reduceLT, Nat.reduceLeDiff, Nat.reduceAdd, Nat.reduceMul, Nat.reduceSub, reduceCtorEq, Int.reduceLT, Int.reduceLE, Int.reduceEq, Int.reduceBEq, Int.reduceBNe, Int.reduceToNat, Int.reduceAdd, Int.reduceNeg, Int.reduceSub, this]; rfl) (by simp only [go_sem, ↓reduceIte, Nat.reduceBEq, Nat.reduceEqDiff, Nat.reduceLT, Nat.reduceLeDiff, Nat.reduceAdd, Nat.reduceMul, Nat.reduceSub, reduceCtorEq, Int.reduceLT, Int.reduceLE, Int.reduceEq, Int.reduceBEq, Int.reduceBNe, Int.reduceToNat, Int.reduceAdd, Int.reduceNeg, Int.reduceSub])
  refine pure_of (v := .bool (l.any (out lo hi))) (h1 := ⟨[], []⟩) ?_ (clean_bool _)
  rw [w_call _ fn_51 rfl]
  simp only [go_sem, ↓reduceIte, Nat.reduceBEq, Nat.reduceEqDiff, Nat.reduceLT, Nat.reduceLeDiff, Nat.reduceAdd, Nat.reduceMul, Nat.reduceSub, reduceCtorEq, Int.reduceLT, Int.reduceLE, Int.reduceEq, Int.reduceBEq, Int.reduceBNe, Int.reduceToNat, Int.reduceAdd, Int.reduceNeg, Int.reduceSub, h68]
theorem c51_1 (lo hi x : Int) (h : Heap) : callPure (EW tabX) 51 [.int .i64 lo, .int .i64 hi, .lst 0 1 [.int .i64 x]] h = some (.bool (out lo hi x), h) := by
  have := c51 lo hi [x] 1 (fun _ => rfl) h (by simp)
  simpa only [I_c, I_nil, List.any_cons, List.any_nil, Bool.or_false] using this
theorem c51_2 (lo hi x y : Int) (h : Heap) : callPure (EW tabX) 51 [.int .i64 lo, .int .i64 hi, .lst 0 1 [.int .i64 x, .int .i64 y]] h = some (.bool (out lo hi x || out lo hi y), h) := by
  have := c51 lo hi [x, y] 1 (fun _ => rfl) h (by simp)
  simpa only [I_c, I_nil, List.any_cons, List.any_nil, Bool.or_false] using this
end Go.Proofs.Ytbfodfepgefloaa
end
section
namespace Go.Proofs.Ytbfodfepgefloaa
open Go.Proofs

def inR (n lo hi : Int) : Bool := decide (lo ≤ n) && decide (n ≤ hi)
theorem c42 (n lo hi : Int) (h : Heap) : callPure (EW tabX) 42 [.int .i64 n, .int .i64 lo, .int .i64 hi] h = some (.bool (inR n lo hi), h) := by
  refine pure_of (v := .bool (inR n lo hi)) (h1 := ⟨[], []⟩) ?_ (clean_bool _)
  rw [w_call _ fn_42 rfl]
  simp only [go_sem, ↓reduceIte, Nat.reduceBEq, Nat.reduceEqDiff, Nat.reduceLT, Nat.reduceLeDiff, Nat.reduceAdd, Nat.reduceMul, Nat.reduceSub, reduceCtorEq, Int.reduceLT, Int.reduceLE, Int.reduceEq, Int.reduceBEq, Int.reduceBNe, Int.reduceToNat, Int.reduceAdd, Int.reduceNeg, Int.reduceSub]
  rfl
theorem out_not (lo hi n : Int) : (!out lo hi n) = inR n lo hi := by
  unfold out inR
  rw [Bool.eq_iff_iff]; simp

/-- A byte that a name can have at a place. -/
def chOk (i : Nat) (b : Int) : Bool := inR b 97 122 || (decide (0 < (i : Int)) && (b == 46 || inR b 48 57))
def chAt (s : ByteArray) (i : Nat) : Bool := match s[i]? with | some b => chOk i b.toNat | none => false
def okTo (s : ByteArray) (n : Nat) : Bool := (List.range n).all (chAt s)
def nameOk (s : ByteArray) : Bool := inR s.size 1 16 && okTo s s.size
theorem okTo_succ (s : ByteArray) (n : Nat) : okTo s (n + 1) = (okTo s n && chAt s n) := by simp [okTo, List.range_succ]
theorem okTo_zero (s : ByteArray) : okTo s 0 = true := rfl

theorem c74 (s : ByteArray) (hs : s.size < 1000000000000000000) (h : Heap) : callPure (EW tabX) 74 [.str s] h = some (.bool (nameOk s), h) := by
  refine pure_of (v := .bool (nameOk s)) (h1 := ⟨[], []⟩) ?_ (clean_bool _)
  rw [w_call _ fn_74 rfl]
  simp only [go_sem, ↓reduceIte, Nat.reduceBEq, Nat.reduceEqDiff, Nat.reduceLT, Nat.reduceLeDiff, Nat.reduceAdd, Nat.reduceMul, Nat.reduceSub, reduceCtorEq, Int.reduceLT, Int.reduceLE, Int.reduceEq, Int.reduceBEq, Int.reduceBNe, Int.reduceToNat, Int.reduceAdd, Int.reduceNeg, Int.reduceSub, c42]
  rw [w_rounds_u (fun k => [(3, .bool (inR s.size 1 16 && okTo s k)), (4, .int .i64 k)]) s.size (.exit 0) [(3, .bool (inR s.size 1 16 && okTo s s.size)), (4, .int .i64 s.size)] ?_ ?_ ?_ rfl]
  · simp only [go_sem, ↓reduceIte, Nat.reduceBEq, Nat.reduceEqDiff, Nat.reduceLT, Nat.reduceLeDiff, Nat.reduceAdd, Nat.reduceMul, Nat.reduceSub, reduceCtorEq, Int.reduceLT, Int.reduceLE, Int.reduceEq, Int.reduceBEq, Int.reduceBNe, Int.reduceToNat, Int.reduceAdd, Int.reduceNeg, Int.reduceSub, nameOk]
  · simp only [go_sem, ↓reduceIte, Nat.reduceBEq, Nat.reduceEqDiff, Nat.reduceLT, Nat.reduceLeDiff, Nat.reduceAdd, Nat.reduceMul, Nat.reduceSub, reduceCtorEq, Int.reduceLT, Int.reduceLE, Int.reduceEq, Int.reduceBEq, Int.reduceBNe, Int.reduceToNat, Int.reduceAdd, Int.reduceNeg, Int.reduceSub, okTo_zero]
  · intro k hk
    have hki : (k : Int) < s.size := by omega
    have hx : s[k]? = some s[k] := by simp [hk]
    have hb : (s[k].toNat : Int) < 256 := by have := s[k].toNat_lt; omega
    have hc : chAt s k = chOk k s[k].toNat := by simp [chAt, hk]
    simp (disch := omega) only [go_sem, ↓reduceIte, Nat.reduceBEq, Nat.reduceEqDiff, Nat.reduceLT, Nat.reduceLeDiff, Nat.reduceAdd, Nat.reduceMul, Nat.reduceSub, reduceCtorEq, Int.reduceLT, Int.reduceLE, Int.reduceEq, Int.reduceBEq, Int.reduceBNe, Int.reduceToNat, Int.reduceAdd, Int.reduceNeg, Int.reduceSub, hki, hx, c42, wrap_i64, okTo_succ, hc, chOk]
  · simp (disch := omega) only [go_sem, ↓reduceIte, Nat.reduceBEq, Nat.reduceEqDiff, Nat.reduceLT, Nat.reduceLeDiff, Nat.reduceAdd, Nat.reduceMul, Nat.reduceSub, reduceCtorEq, Int.reduceLT, Int.reduceLE, Int.reduceEq, Int.reduceBEq, Int.reduceBNe, Int.reduceToNat, Int.reduceAdd, Int.reduceNeg, Int.reduceSub, Int.lt_irrefl]
theorem okTo_false {s : ByteArray} : ∀ {n : Nat}, okTo s n = false → ∃ k, k < n ∧ okTo s k = true ∧ chAt s k = false
  | 0, h => by simp [okTo] at h
  | n + 1, h => by
    cases h1 : okTo s n with
    | false => obtain ⟨k, a, b⟩ := okTo_false h1; exact ⟨k, by omega, b⟩
    | true => rw [okTo_succ, h1] at h; exact ⟨n, by omega, h1, by simpa using h⟩
theorem okTo_at {s : ByteArray} {n k : Nat} (h : okTo s n = true) (hk : k < n) : chAt s k = true := by
  unfold okTo at h
  rw [List.all_eq_true] at h
  exact h k (by simpa using hk)
theorem c86b (l : List Int) (z : Nat) (hz : l ≠ [] → z = 1) (lo hi : Int) (h : Heap) (hl : l.length < 1000000000000000000) :
   callPure (EW tabX) 79 [.int .i64 lo, .int .i64 hi, .lst 0 z (I l)] h = some (.bool (l.any (out lo hi)), h) := by
  have h68 := c68 86 [] [.ref 0 0, .ref 1 0] l 0 z hz (out lo hi) ⟨[.cells [.int .i64 lo], .cells [.int .i64 hi]], []⟩ hl (fun n _ => by
    have := c86 n lo hi ⟨[.cells [.int .i64 lo], .cells [.int .i64 hi]], []⟩ 0 1 rfl rfl
    simp only [go_sem, ↓reduceIte, Nat.reduceBEq, Nat.reduceEqDiff, Nat.reduceLT, Nat.reduceLeDiff, Nat.reduceAdd, Nat.reduceMul, Nat.reduceSub, reduceCtorEq, Int.reduceLT, Int.reduceLE, Int.reduceEq, Int.reduceBEq, Int.reduceBNe, Int.reduceToNat, Int.reduceAdd, Int.reduceNeg, Int.reduceSub, this]; rfl) (by simp only [go_sem, ↓reduceIte, Nat.reduceBEq, Nat.reduceEqDiff, Nat.reduceLT, Nat.reduceLeDiff, Nat.reduceAdd, Nat.reduceMul, Nat.reduceSub, reduceCtorEq, Int.reduceLT, Int.reduceLE, Int.reduceEq, Int.reduceBEq, Int.reduceBNe, Int.reduceToNat, Int.reduceAdd, Int.reduceNeg, Int.reduceSub])
  refine pure_of (v := .bool (l.any (out lo hi))) (h1 := ⟨[], []⟩) ?_ (clean_bool _)
  rw [w_call _ fn_79 rfl]
  simp only [go_sem, ↓reduceIte, Nat.reduceBEq, Nat.reduceEqDiff, Nat.reduceLT, Nat.reduceLeDiff, Nat.reduceAdd, Nat.reduceMul, Nat.reduceSub, reduceCtorEq, Int.reduceLT, Int.reduceLE, Int.reduceEq, Int.reduceBEq, Int.reduceBNe, Int.reduceToNat, Int.reduceAdd, Int.reduceNeg, Int.reduceSub, h68]
theorem c79_1 (lo hi x : Int) (h : Heap) : callPure (EW tabX) 79 [.int .i64 lo, .int .i64 hi, .lst 0 1 [.int .i64 x]] h = some (.bool (out lo hi x), h) := by
  have := c86b [x] 1 (fun _ => rfl) lo hi h (by simp)
  simpa only [I_c, I_nil, List.any_cons, List.any_nil, Bool.or_false] using this

theorem test_eq (k b : Nat) : (!(decide (97 ≤ (b : Int)) && decide ((b : Int) ≤ 122)) && ((k : Int) == 0 || (b : Int) != 46 && (decide ((b : Int) < 48) || decide (57 < (b : Int))))) = !chOk k b := by
  unfold chOk inR
  rw [Bool.eq_iff_iff]
  simp only [Bool.and_eq_true, Bool.or_eq_true, Bool.not_eq_true', Bool.and_eq_false_iff, Bool.or_eq_false_iff, decide_eq_true_eq, decide_eq_false_iff_not, beq_iff_eq, bne_iff_ne, beq_eq_false_iff_ne, ne_eq]
  omega
theorem chOk_high (k b : Nat) (h : 128 ≤ b) : chOk k b = false := by
  cases hc : chOk k b with
  | false => rfl
  | true => simp [chOk, inR] at hc; omega

theorem c70 (s : ByteArray) (hs : s.size < 1000000000000000000) (h : Heap) : callPure (EW tabX) 70 [.str s] h = some (.bool (nameOk s), h) := by
  refine pure_of (v := .bool (nameOk s)) (h1 := ⟨[], []⟩) ?_ (clean_bool _)
  rw [w_call _ fn_70 rfl]
  simp only [go_sem, ↓reduceIte, Nat.reduceBEq, Nat.reduceEqDiff, Nat.reduceLT, Nat.reduceLeDiff, Nat.reduceAdd, Nat.reduceMul, Nat.reduceSub, reduceCtorEq, Int.reduceLT, Int.reduceLE, Int.reduceEq, Int.reduceBEq, Int.reduceBNe, Int.reduceToNat, Int.reduceAdd, Int.reduceNeg, Int.reduceSub]
  have round : ∀ k, (hk : k < s.size) → chOk k s[k].toNat = true → Utf8.decode s k = (s[k].toNat, 1) := fun k hk hc =>
    decode_ascii s k hk (by simp [chOk, inR] at hc; omega)
  cases ho : okTo s s.size with
  | true =>
    rw [w_rounds_h (fun k => []) (fun k => ⟨[.siter s k], []⟩) s.size (.exit 0) [(8, .tup [.bool false])] ⟨[.siter s s.size], []⟩ ?_ ?_ ?_ ?_ rfl]
    · simp only [go_sem, ↓reduceIte, Nat.reduceBEq, Nat.reduceEqDiff, Nat.reduceLT, Nat.reduceLeDiff, Nat.reduceAdd, Nat.reduceMul, Nat.reduceSub, reduceCtorEq, Int.reduceLT, Int.reduceLE, Int.reduceEq, Int.reduceBEq, Int.reduceBNe, Int.reduceToNat, Int.reduceAdd, Int.reduceNeg, Int.reduceSub, nameOk, c79_1, out_not, ho]
    · simp only [go_sem, ↓reduceIte, Nat.reduceBEq, Nat.reduceEqDiff, Nat.reduceLT, Nat.reduceLeDiff, Nat.reduceAdd, Nat.reduceMul, Nat.reduceSub, reduceCtorEq, Int.reduceLT, Int.reduceLE, Int.reduceEq, Int.reduceBEq, Int.reduceBNe, Int.reduceToNat, Int.reduceAdd, Int.reduceNeg, Int.reduceSub]
    · simp only [go_sem, ↓reduceIte, Nat.reduceBEq, Nat.reduceEqDiff, Nat.reduceLT, Nat.reduceLeDiff, Nat.reduceAdd, Nat.reduceMul, Nat.reduceSub, reduceCtorEq, Int.reduceLT, Int.reduceLE, Int.reduceEq, Int.reduceBEq, Int.reduceBNe, Int.reduceToNat, Int.reduceAdd, Int.reduceNeg, Int.reduceSub]
    · intro k hk
      have hc : chAt s k = true := okTo_at ho hk
      have hc : chOk k s[k].toNat = true := by simpa [chAt, hk] using hc
      have hd := round k hk hc
      simp only [go_sem, ↓reduceIte, Nat.reduceBEq, Nat.reduceEqDiff, Nat.reduceLT, Nat.reduceLeDiff, Nat.reduceAdd, Nat.reduceMul, Nat.reduceSub, reduceCtorEq, Int.reduceLT, Int.reduceLE, Int.reduceEq, Int.reduceBEq, Int.reduceBNe, Int.reduceToNat, Int.reduceAdd, Int.reduceNeg, Int.reduceSub, hk, hd, test_eq, hc]
    · simp only [go_sem, ↓reduceIte, Nat.reduceBEq, Nat.reduceEqDiff, Nat.reduceLT, Nat.reduceLeDiff, Nat.reduceAdd, Nat.reduceMul, Nat.reduceSub, reduceCtorEq, Int.reduceLT, Int.reduceLE, Int.reduceEq, Int.reduceBEq, Int.reduceBNe, Int.reduceToNat, Int.reduceAdd, Int.reduceNeg, Int.reduceSub, Nat.lt_irrefl]
  | false =>
    obtain ⟨n, hn, h1, h2⟩ := okTo_false ho
    have h2 : chOk n s[n].toNat = false := by simpa [chAt, hn] using h2
    have hv : ∃ b w, Utf8.decode s n = (b, w) ∧ chOk n b = false := by
      by_cases hb : s[n].toNat < 128
      · exact ⟨_, _, decode_ascii s n hn hb, h2⟩
      · exact ⟨_, _, rfl, chOk_high _ _ (decode_high s n hn (by omega)).1⟩
    obtain ⟨b, w, hd, hb⟩ := hv
    rw [w_rounds_h (fun k => []) (fun k => ⟨[.siter s k], []⟩) n .ret [(3, .int .i64 n), (4, .int .i32 b), (5, .bool (inR b 97 122)), (8, .tup [.bool true, .int .i64 n, .int .i32 b])] ⟨[.siter s (n + w)], []⟩ ?_ ?_ ?_ ?_ rfl]
    · simp only [go_sem, ↓reduceIte, Nat.reduceBEq, Nat.reduceEqDiff, Nat.reduceLT, Nat.reduceLeDiff, Nat.reduceAdd, Nat.reduceMul, Nat.reduceSub, reduceCtorEq, Int.reduceLT, Int.reduceLE, Int.reduceEq, Int.reduceBEq, Int.reduceBNe, Int.reduceToNat, Int.reduceAdd, Int.reduceNeg, Int.reduceSub, nameOk, ho]
    · simp only [go_sem, ↓reduceIte, Nat.reduceBEq, Nat.reduceEqDiff, Nat.reduceLT, Nat.reduceLeDiff, Nat.reduceAdd, Nat.reduceMul, Nat.reduceSub, reduceCtorEq, Int.reduceLT, Int.reduceLE, Int.reduceEq, Int.reduceBEq, Int.reduceBNe, Int.reduceToNat, Int.reduceAdd, Int.reduceNeg, Int.reduceSub]
    · simp only [go_sem, ↓reduceIte, Nat.reduceBEq, Nat.reduceEqDiff, Nat.reduceLT, Nat.reduceLeDiff, Nat.reduceAdd, Nat.reduceMul, Nat.reduceSub, reduceCtorEq, Int.reduceLT, Int.reduceLE, Int.reduceEq, Int.reduceBEq, Int.reduceBNe, Int.reduceToNat, Int.reduceAdd, Int.reduceNeg, Int.reduceSub]
    · intro k hk
      have hk' : k < s.size := by omega
      have hc : chAt s k = true := okTo_at h1 hk
      have hc : chOk k s[k].toNat = true := by simpa [chAt, hk'] using hc
      have hd := round k hk' hc
      simp only [go_sem, ↓reduceIte, Nat.reduceBEq, Nat.reduceEqDiff, Nat.reduceLT, Nat.reduceLeDiff, Nat.reduceAdd, Nat.reduceMul, Nat.reduceSub, reduceCtorEq, Int.reduceLT, Int.reduceLE, Int.reduceEq, Int.reduceBEq, Int.reduceBNe, Int.reduceToNat, Int.reduceAdd, Int.reduceNeg, Int.reduceSub, hk', hd, test_eq, hc]
    · simp only [go_sem, ↓reduceIte, Nat.reduceBEq, Nat.reduceEqDiff, Nat.reduceLT, Nat.reduceLeDiff, Nat.reduceAdd, Nat.reduceMul, Nat.reduceSub, reduceCtorEq, Int.reduceLT, Int.reduceLE, Int.reduceEq, Int.reduceBEq, Int.reduceBNe, Int.reduceToNat, Int.reduceAdd, Int.reduceNeg, Int.reduceSub, hn, hd, test_eq, hb, inR]
end Go.Proofs.Ytbfodfepgefloaa
end
section
namespace Go.Proofs.Ytbfodfepgefloaa
open Go.Proofs

/-- A card, or a half: a name, and heights. -/
structure Card where
  name : ByteArray
  edge : List Int
def eC (c : Card) : AV := .agg [.str c.name, .lst 0 1 (I c.edge)]
/-- What the program makes of it: with a function by which its length is tested, and the least height. -/
def eE (f r : Nat) (least : Int) (c : Card) : AV := .agg [.str c.name, .lst 0 1 (I c.edge), .clo f [] [.ref r 0], .int .i64 least]
structure Dr where
  steps : Int
  least : Int
  wear : Int
  cards : List Card
  halves : List Card
  zc : Nat
  zh : Nat
def eDc (d : Dr) : List AV := [.int .i64 d.steps, .int .i64 d.least, .int .i64 d.wear, .lst 0 d.zc (d.cards.map eC), .lst 0 d.zh (d.halves.map eC)]
def eD (d : Dr) : AV := .agg (eDc d)

theorem eE_clean (f r : Nat) (least : Int) : ∀ l : List Card, l ≠ [] → cleanL (l.map (eE f r least)) = none
  | [], h => absurd rfl h
  | c :: l, _ => by simp only [List.map_cons, eE, go_sem, ↓reduceIte, Nat.reduceBEq, Nat.reduceEqDiff, Nat.reduceLT, Nat.reduceLeDiff, Nat.reduceAdd, Nat.reduceMul, Nat.reduceSub, reduceCtorEq, Int.reduceLT, Int.reduceLE, Int.reduceEq, Int.reduceBEq, Int.reduceBNe, Int.reduceToNat, Int.reduceAdd, Int.reduceNeg, Int.reduceSub]
theorem eE_get (f r : Nat) (least : Int) (l : List Card) (k : Nat) : (l.map (eE f r least))[k]? = (l[k]?).map (eE f r least) := by simp

theorem c80 (f fe r : Nat) (least : Int) (fst cap : List AV) (l : List Card) (t z : Nat) (hz : l ≠ [] → z = 4) (p : Card → Bool) (h : Heap) (hl : l.length < 1000000000000000000)
   (hp : ∀ n ∈ l, callAV tabX (EW tabX) false (.clo f fst cap) [eE fe r least n] h = some (.bool (p n), h)) :
   (EW tabX).call 80 [.lst t z (l.map (eE fe r least)), .clo f fst cap] h = some (.int .i64 (if l.findIdx p < l.length then l.findIdx p else -1), h) := by
  obtain ⟨hb, ht⟩ := h
  rw [w_call _ fn_80 rfl]
  simp only [go_sem, ↓reduceIte, Nat.reduceBEq, Nat.reduceEqDiff, Nat.reduceLT, Nat.reduceLeDiff, Nat.reduceAdd, Nat.reduceMul, Nat.reduceSub, reduceCtorEq, Int.reduceLT, Int.reduceLE, Int.reduceEq, Int.reduceBEq, Int.reduceBNe, Int.reduceToNat, Int.reduceAdd, Int.reduceNeg, Int.reduceSub]
  simp only [callAV_clo] at hp
  by_cases hf : l.findIdx p < l.length
  · rw [w_rounds_u (fun k => [(8, .int .i64 k)]) (l.findIdx p) .ret [(4, .int .i64 (l.findIdx p)), (5, .int .i64 (l.findIdx p)), (8, .int .i64 (l.findIdx p))] ?_ ?_ ?_ rfl]
    · simp only [go_sem, ↓reduceIte, Nat.reduceBEq, Nat.reduceEqDiff, Nat.reduceLT, Nat.reduceLeDiff, Nat.reduceAdd, Nat.reduceMul, Nat.reduceSub, reduceCtorEq, Int.reduceLT, Int.reduceLE, Int.reduceEq, Int.reduceBEq, Int.reduceBNe, Int.reduceToNat, Int.reduceAdd, Int.reduceNeg, Int.reduceSub, hf]
    · simp only [go_sem, ↓reduceIte, Nat.reduceBEq, Nat.reduceEqDiff, Nat.reduceLT, Nat.reduceLeDiff, Nat.reduceAdd, Nat.reduceMul, Nat.reduceSub, reduceCtorEq, Int.reduceLT, Int.reduceLE, Int.reduceEq, Int.reduceBEq, Int.reduceBNe, Int.reduceToNat, Int.reduceAdd, Int.reduceNeg, Int.reduceSub]
    · intro k hk
      have hlt : k < l.length := by omega
      have hki : (k : Int) < l.length := by omega
      have hx := List.getElem?_eq_getElem hlt
      have hpx := hp l[k] (List.getElem_mem _)
      have hpf : p l[k] = false := by simpa using List.not_of_lt_findIdx hk
      have hz1 := hz (by intro e; rw [e] at hlt; simp at hlt)
      subst hz1
      rw [hpf] at hpx
      simp only [eE] at hpx
      simp (disch := omega) only [go_sem, ↓reduceIte, Nat.reduceBEq, Nat.reduceEqDiff, Nat.reduceLT, Nat.reduceLeDiff, Nat.reduceAdd, Nat.reduceMul, Nat.reduceSub, reduceCtorEq, Int.reduceLT, Int.reduceLE, Int.reduceEq, Int.reduceBEq, Int.reduceBNe, Int.reduceToNat, Int.reduceAdd, Int.reduceNeg, Int.reduceSub, hki, eE_get, hx, eE, ↓hpx, wrap_i64]
    · have hx := List.getElem?_eq_getElem hf
      have hki : ((l.findIdx p : Nat) : Int) < l.length := by omega
      have hpx := hp l[l.findIdx p] (List.getElem_mem _)
      have hpt : p l[l.findIdx p] = true := List.findIdx_getElem
      have hz1 := hz (by intro e; rw [e] at hf; simp at hf)
      subst hz1
      rw [hpt] at hpx
      simp only [eE] at hpx
      simp (disch := omega) only [go_sem, ↓reduceIte, Nat.reduceBEq, Nat.reduceEqDiff, Nat.reduceLT, Nat.reduceLeDiff, Nat.reduceAdd, Nat.reduceMul, Nat.reduceSub, reduceCtorEq, Int.reduceLT, Int.reduceLE, Int.reduceEq, Int.reduceBEq, Int.reduceBNe, Int.reduceToNat, Int.reduceAdd, Int.reduceNeg, Int.reduceSub, hki, eE_get, hx, eE, ↓hpx, wrap_i64]
  · have hn : l.findIdx p = l.length := by have := List.findIdx_le_length (p := p) (xs := l); omega
    rw [w_rounds_u (fun k => [(8, .int .i64 k)]) (l.length) (.exit 0) [(8, .int .i64 l.length)] ?_ ?_ ?_ rfl]
    · simp only [go_sem, ↓reduceIte, Nat.reduceBEq, Nat.reduceEqDiff, Nat.reduceLT, Nat.reduceLeDiff, Nat.reduceAdd, Nat.reduceMul, Nat.reduceSub, reduceCtorEq, Int.reduceLT, Int.reduceLE, Int.reduceEq, Int.reduceBEq, Int.reduceBNe, Int.reduceToNat, Int.reduceAdd, Int.reduceNeg, Int.reduceSub, hf]
    · simp only [go_sem, ↓reduceIte, Nat.reduceBEq, Nat.reduceEqDiff, Nat.reduceLT, Nat.reduceLeDiff, Nat.reduceAdd, Nat.reduceMul, Nat.reduceSub, reduceCtorEq, Int.reduceLT, Int.reduceLE, Int.reduceEq, Int.reduceBEq, Int.reduceBNe, Int.reduceToNat, Int.reduceAdd, Int.reduceNeg, Int.reduceSub]
    · intro k hk
      have hki : (k : Int) < l.length := by omega
      have hx := List.getElem?_eq_getElem hk
      have hpx := hp l[k] (List.getElem_mem _)
      have hpf : p l[k] = false := by simpa using List.not_of_lt_findIdx (p := p) (xs := l) (i := k) (by omega)
      have hz1 := hz (by intro e; rw [e] at hk; simp at hk)
      subst hz1
      rw [hpf] at hpx
      simp only [eE] at hpx
      simp (disch := omega) only [go_sem, ↓reduceIte, Nat.reduceBEq, Nat.reduceEqDiff, Nat.reduceLT, Nat.reduceLeDiff, Nat.reduceAdd, Nat.reduceMul, Nat.reduceSub, reduceCtorEq, Int.reduceLT, Int.reduceLE, Int.reduceEq, Int.reduceBEq, Int.reduceBNe, Int.reduceToNat, Int.reduceAdd, Int.reduceNeg, Int.reduceSub, hki, eE_get, hx, eE, ↓hpx, wrap_i64]
    · simp (disch := omega) only [go_sem, ↓reduceIte, Nat.reduceBEq, Nat.reduceEqDiff, Nat.reduceLT, Nat.reduceLeDiff, Nat.reduceAdd, Nat.reduceMul, Nat.reduceSub, reduceCtorEq, Int.reduceLT, Int.reduceLE, Int.reduceEq, Int.reduceBEq, Int.reduceBNe, Int.reduceToNat, Int.reduceAdd, Int.reduceNeg, Int.reduceSub, Int.lt_irrefl]
theorem c71 (f fe r : Nat) (least : Int) (fst cap : List AV) (l : List Card) (t z : Nat) (hz : l ≠ [] → z = 4) (p : Card → Bool) (h : Heap) (hl : l.length < 1000000000000000000)
   (hp : ∀ n ∈ l, callAV tabX (EW tabX) false (.clo f fst cap) [eE fe r least n] h = some (.bool (p n), h)) (hc : (AV.clo f fst cap).clean = none) :
   (EW tabX).call 71 [.lst t z (l.map (eE fe r least)), .clo f fst cap] h = some (.bool (l.any p), h) := by
  have h78 := c80 f fe r least fst cap l t z hz p h hl hp
  obtain ⟨hb, ht⟩ := h
  rw [w_call _ fn_71 rfl]
  simp only [go_sem, ↓reduceIte, Nat.reduceBEq, Nat.reduceEqDiff, Nat.reduceLT, Nat.reduceLeDiff, Nat.reduceAdd, Nat.reduceMul, Nat.reduceSub, reduceCtorEq, Int.reduceLT, Int.reduceLE, Int.reduceEq, Int.reduceBEq, Int.reduceBNe, Int.reduceToNat, Int.reduceAdd, Int.reduceNeg, Int.reduceSub, hc, h78, ge_iff_le, findIdx_any]

theorem c72 (fe r : Nat) (least : Int) (c : Card) (b : Nat) (x : ByteArray) (xs : List AV) (h : Heap) (hr : r < h.b.length) (hb : h.b[b]? = some (.cells (.str x :: xs))) :
   (EW tabX).call 72 [eE fe r least c, .ref b 0] h = some (.bool (c.name == x), h) := by
  obtain ⟨B, ht⟩ := h
  have h1 : B[b]? = some (.cells (.str x :: xs)) := hb
  have h2 := old h1
  have h3 : r < B.length + 1 := by simp only at hr; omega
  rw [w_call _ fn_72 rfl]
  simp only [go_sem, ↓reduceIte, Nat.reduceBEq, Nat.reduceEqDiff, Nat.reduceLT, Nat.reduceLeDiff, Nat.reduceAdd, Nat.reduceMul, Nat.reduceSub, reduceCtorEq, Int.reduceLT, Int.reduceLE, Int.reduceEq, Int.reduceBEq, Int.reduceBNe, Int.reduceToNat, Int.reduceAdd, Int.reduceNeg, Int.reduceSub, eE, h1, h2, h3]

/-- The error of a name and an edge behind others. -/
def flawE (l : List Card) (i : Nat) (long : Int → Bool) (least : Int) : Int := match l[i]? with
  | none => 0
  | some x => if nameOk x.name then (if (l.take i).any (fun y => y.name == x.name) then 5 else if long x.edge.length then 3 else if x.edge.any (out least 9) then 7 else 0) else 6
theorem flawE_at {l : List Card} {i : Nat} {x : Card} (hx : l[i]? = some x) (long : Int → Bool) (least : Int) : flawE l i long least =
    if nameOk x.name = true then (if (l.take i).any (fun y => y.name == x.name) = true then 5 else if long x.edge.length = true then 3 else if x.edge.any (out least 9) = true then 7 else 0) else 6 := by
  unfold flawE; rw [hx]
theorem c55 (fe r : Nat) (least : Int) (l : List Card) (t : Nat) (i : Nat) (x : Card) (hx : l[i]? = some x) (h : Heap) (hr : r < h.b.length) (hn : x.name.size < 1000000000000000000) (he : x.edge.length < 1000000000000000000) (hl : l.length < 1000000000000000000) (long : Int → Bool)
   (hlong : ∀ n u, callAV tabX (EW tabX) false (.clo fe [] [.ref r 0]) [.int .i64 n] ⟨h.b ++ u, h.t⟩ = some (.bool (long n), ⟨h.b ++ u, h.t⟩)) :
   (EW tabX).call 55 [.lst t 4 (l.map (eE fe r least)), .int .i64 i] h = some (.int .i64 (flawE l i long least), h) := by
  obtain ⟨B, ht⟩ := h
  have hi : i < l.length := (List.getElem?_eq_some_iff.1 hx).1
  have hr1 : r < B.length + 1 := by simp only at hr; omega
  have h70 := c70 x.name hn
  have h51 := c51 least 9 x.edge 1 (fun _ => rfl)
  have h71 := c71 72 fe r least [] [.ref B.length 0] (l.take i) 0 4 (fun _ => rfl) (fun y => y.name == x.name) ⟨B ++ [.cells [.str x.name, .lst 0 1 (I x.edge), .clo fe [] [.ref r 0], .int .i64 least]], ht⟩ (by rw [List.length_take]; omega) (fun n _ => by
    have := c72 fe r least n B.length x.name [.lst 0 1 (I x.edge), .clo fe [] [.ref r 0], .int .i64 least] ⟨B ++ [.cells [.str x.name, .lst 0 1 (I x.edge), .clo fe [] [.ref r 0], .int .i64 least]], ht⟩ (by simp; omega) (by simp)
    simp only [go_sem, ↓reduceIte, Nat.reduceBEq, Nat.reduceEqDiff, Nat.reduceLT, Nat.reduceLeDiff, Nat.reduceAdd, Nat.reduceMul, Nat.reduceSub, reduceCtorEq, Int.reduceLT, Int.reduceLE, Int.reduceEq, Int.reduceBEq, Int.reduceBNe, Int.reduceToNat, Int.reduceAdd, Int.reduceNeg, Int.reduceSub, eE] at this ⊢
    exact this) (by simp only [go_sem, ↓reduceIte, Nat.reduceBEq, Nat.reduceEqDiff, Nat.reduceLT, Nat.reduceLeDiff, Nat.reduceAdd, Nat.reduceMul, Nat.reduceSub, reduceCtorEq, Int.reduceLT, Int.reduceLE, Int.reduceEq, Int.reduceBEq, Int.reduceBNe, Int.reduceToNat, Int.reduceAdd, Int.reduceNeg, Int.reduceSub])
  simp only [go_sem, ↓reduceIte, Nat.reduceBEq, Nat.reduceEqDiff, Nat.reduceLT, Nat.reduceLeDiff, Nat.reduceAdd, Nat.reduceMul, Nat.reduceSub, reduceCtorEq, Int.reduceLT, Int.reduceLE, Int.reduceEq, Int.reduceBEq, Int.reduceBNe, Int.reduceToNat, Int.reduceAdd, Int.reduceNeg, Int.reduceSub] at hlong
  rw [List.map_take] at h71
  have hiz : ¬ (l.length : Int) < i := by omega
  have hil : i ≤ l.length := by omega
  rw [w_call _ fn_55 rfl]
  cases h1 : nameOk x.name with
  | false => simp only [go_sem, ↓reduceIte, Nat.reduceBEq, Nat.reduceEqDiff, Nat.reduceLT, Nat.reduceLeDiff, Nat.reduceAdd, Nat.reduceMul, Nat.reduceSub, reduceCtorEq, Int.reduceLT, Int.reduceLE, Int.reduceEq, Int.reduceBEq, Int.reduceBNe, Int.reduceToNat, Int.reduceAdd, Int.reduceNeg, Int.reduceSub, eE_get, hx, eE, hr1, h70, h1, flawE_at hx]
  | true =>
    cases h2 : (l.take i).any (fun y => y.name == x.name) with
    | true => 
      simp only [go_sem, ↓reduceIte, Nat.reduceBEq, Nat.reduceEqDiff, Nat.reduceLT, Nat.reduceLeDiff, Nat.reduceAdd, Nat.reduceMul, Nat.reduceSub, reduceCtorEq, Int.reduceLT, Int.reduceLE, Int.reduceEq, Int.reduceBEq, Int.reduceBNe, Int.reduceToNat, Int.reduceAdd, Int.reduceNeg, Int.reduceSub, eE_get, hx, eE, hr1, h70, h1, h2, h71, hil, flawE_at hx]
    | false =>
      cases h3 : long x.edge.length with
      | true => simp only [go_sem, ↓reduceIte, Nat.reduceBEq, Nat.reduceEqDiff, Nat.reduceLT, Nat.reduceLeDiff, Nat.reduceAdd, Nat.reduceMul, Nat.reduceSub, reduceCtorEq, Int.reduceLT, Int.reduceLE, Int.reduceEq, Int.reduceBEq, Int.reduceBNe, Int.reduceToNat, Int.reduceAdd, Int.reduceNeg, Int.reduceSub, eE_get, hx, eE, hr1, h70, h1, h2, h71, hil, hlong, h3, flawE_at hx]
      | false =>
        cases h4 : x.edge.any (out least 9) with
        | true => simp only [go_sem, ↓reduceIte, Nat.reduceBEq, Nat.reduceEqDiff, Nat.reduceLT, Nat.reduceLeDiff, Nat.reduceAdd, Nat.reduceMul, Nat.reduceSub, reduceCtorEq, Int.reduceLT, Int.reduceLE, Int.reduceEq, Int.reduceBEq, Int.reduceBNe, Int.reduceToNat, Int.reduceAdd, Int.reduceNeg, Int.reduceSub, eE_get, hx, eE, hr1, h70, h1, h2, h71, hil, hlong, h3, h4, h51 _ he, flawE_at hx]
        | false => simp only [go_sem, ↓reduceIte, Nat.reduceBEq, Nat.reduceEqDiff, Nat.reduceLT, Nat.reduceLeDiff, Nat.reduceAdd, Nat.reduceMul, Nat.reduceSub, reduceCtorEq, Int.reduceLT, Int.reduceLE, Int.reduceEq, Int.reduceBEq, Int.reduceBNe, Int.reduceToNat, Int.reduceAdd, Int.reduceNeg, Int.reduceSub, eE_get, hx, eE, hr1, h70, h1, h2, h71, hil, hlong, h3, h4, h51 _ he, flawE_at hx]

/-- The first thing with an error. -/
def firstBad (e : Nat → Int) : Nat → Nat → Option Nat
  | _, 0 => none
  | k, n + 1 => if e k ≠ 0 then some k else firstBad e (k + 1) n
theorem firstBad_none {e : Nat → Int} : ∀ {n k : Nat}, firstBad e k n = none → ∀ i, k ≤ i → i < k + n → e i = 0
  | 0, k, _, i, h1, h2 => by omega
  | n + 1, k, h, i, h1, h2 => by
    unfold firstBad at h
    split at h
    · cases h
    · rename_i h0
      by_cases hi : i = k
      · subst hi; simpa using h0
      · exact firstBad_none h i (by omega) (by omega)
theorem firstBad_some {e : Nat → Int} : ∀ {n k j : Nat}, firstBad e k n = some j → k ≤ j ∧ j < k + n ∧ e j ≠ 0 ∧ ∀ i, k ≤ i → i < j → e i = 0
  | 0, k, j, h => by cases h
  | n + 1, k, j, h => by
    unfold firstBad at h
    split at h
    · rename_i h0
      cases h
      exact ⟨Nat.le_refl _, by omega, h0, fun i h1 h2 => by omega⟩
    · rename_i h0
      obtain ⟨a, b, c, d⟩ := firstBad_some h
      refine ⟨by omega, by omega, c, fun i h1 h2 => ?_⟩
      by_cases hi : i = k
      · subst hi; simpa using h0
      · exact d i (by omega) h2
def atE (e : Nat → Int) (n : Nat) : AV := match firstBad e 0 n with | some k => .tup [.int .i64 k, .int .i64 (e k)] | none => .tup [.int .i64 0, .int .i64 0]

def cellE (fe r : Nat) (least : Int) (c : Card) : ABlk := .cells [.str c.name, .lst 0 1 (I c.edge), .clo fe [] [.ref r 0], .int .i64 least]
theorem c53 (f : Nat) (cap : List AV) (fe r : Nat) (least : Int) (l : List Card) (t z : Nat) (hz : l ≠ [] → z = 4) (h : Heap) (hr : r < h.b.length) (hl : l.length < 1000000000000000000) (e : Nat → Int)
   (hp : ∀ (k : Nat) c, l[k]? = some c → ∀ u, callAV tabX (EW tabX) false (.clo f [] cap) [.int .i64 k, eE fe r least c] ⟨h.b ++ u, h.t⟩ = some (.int .i64 (e k), ⟨h.b ++ u, h.t⟩)) :
   (EW tabX).call 53 [.lst t z (l.map (eE fe r least)), .clo f [] cap] h = some (atE e l.length, h) := by
  obtain ⟨B, ht⟩ := h
  rw [w_call _ fn_53 rfl]
  simp only [go_sem, ↓reduceIte, Nat.reduceBEq, Nat.reduceEqDiff, Nat.reduceLT, Nat.reduceLeDiff, Nat.reduceAdd, Nat.reduceMul, Nat.reduceSub, reduceCtorEq, Int.reduceLT, Int.reduceLE, Int.reduceEq, Int.reduceBEq, Int.reduceBNe, Int.reduceToNat, Int.reduceAdd, Int.reduceNeg, Int.reduceSub]
  simp only [callAV_clo] at hp
  have step : ∀ k c, l[k]? = some c → B ++ (l.take (k + 1)).map (cellE fe r least) = B ++ (l.take k).map (cellE fe r least) ++ [cellE fe r least c] := fun k c hx => by rw [map_succ _ hx, List.append_assoc]
  have room : ∀ k, r < (B ++ (l.take k).map (cellE fe r least)).length + 1 := fun k => by rw [List.length_append]; simp only at hr; omega
  cases hf : firstBad e 0 l.length with
  | some n =>
    obtain ⟨_, hn, hen, hlt⟩ := firstBad_some hf
    have hn : n < l.length := by omega
    rw [w_rounds_h (fun k => [(11, .int .i64 k)]) (fun k => ⟨B ++ (l.take k).map (cellE fe r least), ht⟩) n .ret [(4, .int .i64 n), (5, .int .i64 (e n)), (6, .int .i64 n), (7, .ref (B ++ (l.take n).map (cellE fe r least)).length 0), (8, .int .i64 (e n)), (11, .int .i64 n)] ⟨B ++ (l.take (n + 1)).map (cellE fe r least), ht⟩ ?_ ?_ ?_ ?_ rfl]
    · simp only [go_sem, ↓reduceIte, Nat.reduceBEq, Nat.reduceEqDiff, Nat.reduceLT, Nat.reduceLeDiff, Nat.reduceAdd, Nat.reduceMul, Nat.reduceSub, reduceCtorEq, Int.reduceLT, Int.reduceLE, Int.reduceEq, Int.reduceBEq, Int.reduceBNe, Int.reduceToNat, Int.reduceAdd, Int.reduceNeg, Int.reduceSub, atE, hf]
    · simp only [go_sem, ↓reduceIte, Nat.reduceBEq, Nat.reduceEqDiff, Nat.reduceLT, Nat.reduceLeDiff, Nat.reduceAdd, Nat.reduceMul, Nat.reduceSub, reduceCtorEq, Int.reduceLT, Int.reduceLE, Int.reduceEq, Int.reduceBEq, Int.reduceBNe, Int.reduceToNat, Int.reduceAdd, Int.reduceNeg, Int.reduceSub]
    · simp only [go_sem, ↓reduceIte, Nat.reduceBEq, Nat.reduceEqDiff, Nat.reduceLT, Nat.reduceLeDiff, Nat.reduceAdd, Nat.reduceMul, Nat.reduceSub, reduceCtorEq, Int.reduceLT, Int.reduceLE, Int.reduceEq, Int.reduceBEq, Int.reduceBNe, Int.reduceToNat, Int.reduceAdd, Int.reduceNeg, Int.reduceSub]
    · intro k hk
      have hx := List.getElem?_eq_getElem (show k < l.length by omega)
      have hki : (k : Int) < l.length := by omega
      have hz1 := hz (by intro e; rw [e] at hki; simp at hki; omega)
      subst hz1
      rw [step k _ hx]
      have hpk := hp k _ hx ((l.take k).map (cellE fe r least) ++ [cellE fe r least l[k]])
      have h0 := hlt k (by omega) hk
      have hrk := room k
      rw [← List.append_assoc, h0] at hpk
      generalize B ++ (l.take k).map (cellE fe r least) = C at hpk hrk ⊢
      simp only [eE, cellE] at hpk
      simp (disch := omega) only [go_sem, ↓reduceIte, Nat.reduceBEq, Nat.reduceEqDiff, Nat.reduceLT, Nat.reduceLeDiff, Nat.reduceAdd, Nat.reduceMul, Nat.reduceSub, reduceCtorEq, Int.reduceLT, Int.reduceLE, Int.reduceEq, Int.reduceBEq, Int.reduceBNe, Int.reduceToNat, Int.reduceAdd, Int.reduceNeg, Int.reduceSub, hki, hrk, eE_get, hx, eE, ↓hpk, wrap_i64, cellE, bne_self_eq_false]
    · have hx := List.getElem?_eq_getElem hn
      have hki : (n : Int) < l.length := by omega
      have hz1 := hz (by intro e; rw [e] at hn; simp at hn)
      subst hz1
      rw [step n _ hx]
      have hpk := hp n _ hx ((l.take n).map (cellE fe r least) ++ [cellE fe r least l[n]])
      have hne : (e n != 0) = true := by simpa using hen
      have hrk := room n
      rw [← List.append_assoc] at hpk
      generalize B ++ (l.take n).map (cellE fe r least) = C at hpk hrk ⊢
      simp only [eE, cellE] at hpk
      simp (disch := omega) only [go_sem, ↓reduceIte, Nat.reduceBEq, Nat.reduceEqDiff, Nat.reduceLT, Nat.reduceLeDiff, Nat.reduceAdd, Nat.reduceMul, Nat.reduceSub, reduceCtorEq, Int.reduceLT, Int.reduceLE, Int.reduceEq, Int.reduceBEq, Int.reduceBNe, Int.reduceToNat, Int.reduceAdd, Int.reduceNeg, Int.reduceSub, hki, hrk, eE_get, hx, eE, ↓hpk, wrap_i64, cellE, hne]
  | none =>
    have h0 := firstBad_none hf
    rw [w_rounds_h (fun k => [(11, .int .i64 k)]) (fun k => ⟨B ++ (l.take k).map (cellE fe r least), ht⟩) l.length (.exit 0) [(11, .int .i64 l.length)] ⟨B ++ l.map (cellE fe r least), ht⟩ ?_ ?_ ?_ ?_ rfl]
    · simp only [go_sem, ↓reduceIte, Nat.reduceBEq, Nat.reduceEqDiff, Nat.reduceLT, Nat.reduceLeDiff, Nat.reduceAdd, Nat.reduceMul, Nat.reduceSub, reduceCtorEq, Int.reduceLT, Int.reduceLE, Int.reduceEq, Int.reduceBEq, Int.reduceBNe, Int.reduceToNat, Int.reduceAdd, Int.reduceNeg, Int.reduceSub, atE, hf]
    · simp only [go_sem, ↓reduceIte, Nat.reduceBEq, Nat.reduceEqDiff, Nat.reduceLT, Nat.reduceLeDiff, Nat.reduceAdd, Nat.reduceMul, Nat.reduceSub, reduceCtorEq, Int.reduceLT, Int.reduceLE, Int.reduceEq, Int.reduceBEq, Int.reduceBNe, Int.reduceToNat, Int.reduceAdd, Int.reduceNeg, Int.reduceSub]
    · simp only [go_sem, ↓reduceIte, Nat.reduceBEq, Nat.reduceEqDiff, Nat.reduceLT, Nat.reduceLeDiff, Nat.reduceAdd, Nat.reduceMul, Nat.reduceSub, reduceCtorEq, Int.reduceLT, Int.reduceLE, Int.reduceEq, Int.reduceBEq, Int.reduceBNe, Int.reduceToNat, Int.reduceAdd, Int.reduceNeg, Int.reduceSub]
    · intro k hk
      have hx := List.getElem?_eq_getElem hk
      have hki : (k : Int) < l.length := by omega
      have hz1 := hz (by intro e; rw [e] at hki; simp at hki; omega)
      subst hz1
      rw [step k _ hx]
      have hpk := hp k _ hx ((l.take k).map (cellE fe r least) ++ [cellE fe r least l[k]])
      have h0 := h0 k (by omega) (by omega)
      have hrk := room k
      rw [← List.append_assoc, h0] at hpk
      generalize B ++ (l.take k).map (cellE fe r least) = C at hpk hrk ⊢
      simp only [eE, cellE] at hpk
      simp (disch := omega) only [go_sem, ↓reduceIte, Nat.reduceBEq, Nat.reduceEqDiff, Nat.reduceLT, Nat.reduceLeDiff, Nat.reduceAdd, Nat.reduceMul, Nat.reduceSub, reduceCtorEq, Int.reduceLT, Int.reduceLE, Int.reduceEq, Int.reduceBEq, Int.reduceBNe, Int.reduceToNat, Int.reduceAdd, Int.reduceNeg, Int.reduceSub, hki, hrk, eE_get, hx, eE, ↓hpk, wrap_i64, cellE, bne_self_eq_false]
    · simp only [go_sem, ↓reduceIte, Nat.reduceBEq, Nat.reduceEqDiff, Nat.reduceLT, Nat.reduceLeDiff, Nat.reduceAdd, Nat.reduceMul, Nat.reduceSub, reduceCtorEq, Int.reduceLT, Int.reduceLE, Int.reduceEq, Int.reduceBEq, Int.reduceBNe, Int.reduceToNat, Int.reduceAdd, Int.reduceNeg, Int.reduceSub, Int.lt_irrefl]
end Go.Proofs.Ytbfodfepgefloaa
end
section
namespace Go.Proofs.Ytbfodfepgefloaa
open Go.Proofs

theorem c52 (n : Int) (d : Dr) (r : Nat) (h : Heap) (hr : h.b[r]? = some (.cells (eDc d))) : (EW tabX).call 52 [.int .i64 n, .ref r 0] h = some (.bool (n != d.steps), h) := by
  obtain ⟨B, ht⟩ := h
  have hr : B[r]? = some (.cells (eDc d)) := hr
  rw [w_call _ fn_52 rfl]
  simp only [go_sem, ↓reduceIte, Nat.reduceBEq, Nat.reduceEqDiff, Nat.reduceLT, Nat.reduceLeDiff, Nat.reduceAdd, Nat.reduceMul, Nat.reduceSub, reduceCtorEq, Int.reduceLT, Int.reduceLE, Int.reduceEq, Int.reduceBEq, Int.reduceBNe, Int.reduceToNat, Int.reduceAdd, Int.reduceNeg, Int.reduceSub, hr, eDc]
theorem c56 (n : Int) (d : Dr) (r : Nat) (h : Heap) (hr : h.b[r]? = some (.cells (eDc d))) : (EW tabX).call 56 [.int .i64 n, .ref r 0] h = some (.bool (out d.least d.steps n), h) := by
  obtain ⟨B, ht⟩ := h
  have hr : B[r]? = some (.cells (eDc d)) := hr
  rw [w_call _ fn_56 rfl]
  simp only [go_sem, ↓reduceIte, Nat.reduceBEq, Nat.reduceEqDiff, Nat.reduceLT, Nat.reduceLeDiff, Nat.reduceAdd, Nat.reduceMul, Nat.reduceSub, reduceCtorEq, Int.reduceLT, Int.reduceLE, Int.reduceEq, Int.reduceBEq, Int.reduceBNe, Int.reduceToNat, Int.reduceAdd, Int.reduceNeg, Int.reduceSub, hr, eDc, c51_1]

/-- A closure that finds the error of a name and an edge. -/
theorem c54 (g : Nat) (hg : g = 54 ∨ g = 57) (fe : Nat) (hfe : retRef tabX fe = false) (least : Int) (l : List Card) (t z : Nat) (hz : l ≠ [] → z = 4) (i : Nat) (x : Card) (hx : l[i]? = some x) (r q : Nat) (h : Heap) (hr : r < h.b.length)
   (hq : h.b[q]? = some (.cells [.lst t z (l.map (eE fe r least))])) (hn : x.name.size < 1000000000000000000) (he : x.edge.length < 1000000000000000000) (hl : l.length < 1000000000000000000) (long : Int → Bool)
   (hlong : ∀ n u, callAV tabX (EW tabX) false (.clo fe [] [.ref r 0]) [.int .i64 n] ⟨h.b ++ u, h.t⟩ = some (.bool (long n), ⟨h.b ++ u, h.t⟩)) :
   (EW tabX).call g [.int .i64 i, eE fe r least x, .ref q 0] h = some (.int .i64 (flawE l i long least), h) := by
  obtain ⟨B, ht⟩ := h
  have hne : l ≠ [] := by intro e; rw [e] at hx; simp at hx
  have hz1 := hz hne
  subst hz1
  have hq : B[q]? = some (.cells [.lst t 4 (l.map (eE fe r least))]) := hq
  have hq' := old hq
  have hr1 : r < B.length + 1 := by simp only at hr; omega
  have hcl := eE_clean fe r least l hne
  have h55 := c55 fe r least l t i x hx ⟨B ++ [cellE fe r least x], ht⟩ (by simp only [List.length_append, List.length_cons, List.length_nil]; omega) hn he hl long (fun n u => by
    have := hlong n ([cellE fe r least x] ++ u)
    simp only [← List.append_assoc] at this
    exact this)
  simp only [cellE] at h55
  rcases hg with rfl | rfl
  · rw [w_call _ fn_54 rfl]
    simp only [go_sem, ↓reduceIte, Nat.reduceBEq, Nat.reduceEqDiff, Nat.reduceLT, Nat.reduceLeDiff, Nat.reduceAdd, Nat.reduceMul, Nat.reduceSub, reduceCtorEq, Int.reduceLT, Int.reduceLE, Int.reduceEq, Int.reduceBEq, Int.reduceBNe, Int.reduceToNat, Int.reduceAdd, Int.reduceNeg, Int.reduceSub, eE, hr1, hq, hq', hcl, h55]
  · rw [w_call _ fn_57 rfl]
    simp only [go_sem, ↓reduceIte, Nat.reduceBEq, Nat.reduceEqDiff, Nat.reduceLT, Nat.reduceLeDiff, Nat.reduceAdd, Nat.reduceMul, Nat.reduceSub, reduceCtorEq, Int.reduceLT, Int.reduceLE, Int.reduceEq, Int.reduceBEq, Int.reduceBNe, Int.reduceToNat, Int.reduceAdd, Int.reduceNeg, Int.reduceSub, eE, hr1, hq, hq', hcl, h55]

def tup3 (x : Int × Int × Int) : AV := .tup [.int .i64 x.1, .int .i64 x.2.1, .int .i64 x.2.2]
/-- What the test of a drawer says: the part, the index, the error. -/
def checkT (d : Dr) : Int × Int × Int :=
  if out 1 6 d.steps || (out 1 d.steps d.least || out 0 9 d.wear) then (1, 0, 7)
  else if 4 < d.cards.length then (2, 0, 3)
  else match firstBad (fun i => flawE d.cards i (· != d.steps) 0) 0 d.cards.length with
    | some i => (2, (i : Int), flawE d.cards i (· != d.steps) 0)
    | none =>
      if 4 < d.halves.length then (3, 0, 3)
      else match firstBad (fun i => flawE d.halves i (out d.least d.steps) (-1)) 0 d.halves.length with
        | some i => (3, (i : Int), flawE d.halves i (out d.least d.steps) (-1))
        | none => (0, 0, 0)

/-- Sizes are those of a machine. -/
structure Dr.fits (d : Dr) : Prop where
  zc : d.cards ≠ [] → d.zc = 2
  zh : d.halves ≠ [] → d.zh = 2
  lc : d.cards.length < 1000000000000000000
  lh : d.halves.length < 1000000000000000000
  nc : ∀ c ∈ d.cards, c.name.size < 1000000000000000000 ∧ c.edge.length < 1000000000000000000
  nh : ∀ c ∈ d.halves, c.name.size < 1000000000000000000 ∧ c.edge.length < 1000000000000000000

theorem eC_get (l : List Card) (k : Nat) : (l.map eC)[k]? = (l[k]?).map eC := by simp
theorem eE_map_succ (f r : Nat) (least : Int) {l : List Card} {k : Nat} {x : Card} (h : l[k]? = some x) : (l.take (k + 1)).map (eE f r least) = (l.take k).map (eE f r least) ++ [eE f r least x] := map_succ _ h
def cellC (c : Card) : ABlk := .cells [.str c.name, .lst 0 1 (I c.edge)]
theorem eC_under (n : Nat) (l : List Card) : underL n (l.map eC) = true := underL_map (fun x => by simp only [eC, go_sem, ↓reduceIte, Nat.reduceBEq, Nat.reduceEqDiff, Nat.reduceLT, Nat.reduceLeDiff, Nat.reduceAdd, Nat.reduceMul, Nat.reduceSub, reduceCtorEq, Int.reduceLT, Int.reduceLE, Int.reduceEq, Int.reduceBEq, Int.reduceBNe, Int.reduceToNat, Int.reduceAdd, Int.reduceNeg, Int.reduceSub]) l
theorem eC_var (l : List Card) : (l.map eC).all AV.var = true := all_map (fun _ => rfl) l
theorem eE_under (n f r : Nat) (least : Int) (h : r < n) (l : List Card) : underL n (l.map (eE f r least)) = true := underL_map (fun x => by simp only [eE, go_sem, ↓reduceIte, Nat.reduceBEq, Nat.reduceEqDiff, Nat.reduceLT, Nat.reduceLeDiff, Nat.reduceAdd, Nat.reduceMul, Nat.reduceSub, reduceCtorEq, Int.reduceLT, Int.reduceLE, Int.reduceEq, Int.reduceBEq, Int.reduceBNe, Int.reduceToNat, Int.reduceAdd, Int.reduceNeg, Int.reduceSub, h]) l
theorem eE_var (f r : Nat) (least : Int) (l : List Card) : (l.map (eE f r least)).all AV.var = true := all_map (fun _ => rfl) l

theorem tup3_clean (x : Int × Int × Int) : (tup3 x).clean = some (tup3 x) := by simp only [go_sem, ↓reduceIte, Nat.reduceBEq, Nat.reduceEqDiff, Nat.reduceLT, Nat.reduceLeDiff, Nat.reduceAdd, Nat.reduceMul, Nat.reduceSub, reduceCtorEq, Int.reduceLT, Int.reduceLE, Int.reduceEq, Int.reduceBEq, Int.reduceBNe, Int.reduceToNat, Int.reduceAdd, Int.reduceNeg, Int.reduceSub, tup3]
theorem checkT1 {d : Dr} (h : (out 1 6 d.steps || (out 1 d.steps d.least || out 0 9 d.wear)) = true) : checkT d = (1, 0, 7) := by unfold checkT; rw [if_pos h]
theorem checkT2 {d : Dr} (h : (out 1 6 d.steps || (out 1 d.steps d.least || out 0 9 d.wear)) = false) (h2 : 4 < d.cards.length) : checkT d = (2, 0, 3) := by unfold checkT; rw [if_neg (by rw [h]; decide), if_pos h2]
theorem checkT3 {d : Dr} (h : (out 1 6 d.steps || (out 1 d.steps d.least || out 0 9 d.wear)) = false) (h2 : ¬ 4 < d.cards.length) {i : Nat} (h3 : firstBad (fun i => flawE d.cards i (· != d.steps) 0) 0 d.cards.length = some i) : checkT d = (2, (i : Int), flawE d.cards i (· != d.steps) 0) := by
  unfold checkT; rw [if_neg (by rw [h]; decide), if_neg h2, h3]
theorem checkT4 {d : Dr} (h : (out 1 6 d.steps || (out 1 d.steps d.least || out 0 9 d.wear)) = false) (h2 : ¬ 4 < d.cards.length) (h3 : firstBad (fun i => flawE d.cards i (· != d.steps) 0) 0 d.cards.length = none) (h4 : 4 < d.halves.length) : checkT d = (3, 0, 3) := by
  unfold checkT; rw [if_neg (by rw [h]; decide), if_neg h2, h3]; simp only; rw [if_pos h4]
theorem checkT5 {d : Dr} (h : (out 1 6 d.steps || (out 1 d.steps d.least || out 0 9 d.wear)) = false) (h2 : ¬ 4 < d.cards.length) (h3 : firstBad (fun i => flawE d.cards i (· != d.steps) 0) 0 d.cards.length = none) (h4 : ¬ 4 < d.halves.length)
    {i : Nat} (h5 : firstBad (fun i => flawE d.halves i (out d.least d.steps) (-1)) 0 d.halves.length = some i) : checkT d = (3, (i : Int), flawE d.halves i (out d.least d.steps) (-1)) := by
  unfold checkT; rw [if_neg (by rw [h]; decide), if_neg h2, h3]; simp only; rw [if_neg h4, h5]
theorem checkT6 {d : Dr} (h : (out 1 6 d.steps || (out 1 d.steps d.least || out 0 9 d.wear)) = false) (h2 : ¬ 4 < d.cards.length) (h3 : firstBad (fun i => flawE d.cards i (· != d.steps) 0) 0 d.cards.length = none) (h4 : ¬ 4 < d.halves.length)
    (h5 : firstBad (fun i => flawE d.halves i (out d.least d.steps) (-1)) 0 d.halves.length = none) : checkT d = (0, 0, 0) := by
  unfold checkT; rw [if_neg (by rw [h]; decide), if_neg h2, h3]; simp only; rw [if_neg h4, h5]

def rowB (f : Nat) (least : Int) (T0 : List Bool) (l : List Card) (k : Nat) : ABlk := .cells [.lst (tagT T0 k) (zT 4 k) ((l.take k).map (eE f 0 least))]
def C16 (d : Dr) (f : Nat) (least : Int) (T0 : List Bool) (P : List ABlk) (l : List Card) (k : Nat) : List ABlk := .cells (eDc d) :: rowB f least T0 l k :: (P ++ (l.take k).map cellC)
theorem c16 (d : Dr) (hd : d.fits) (h : Heap) : callPure (EW tabX) 16 [eD d] h = some (tup3 (checkT d), h) := by
  rw [callPure_eq, w_call _ fn_16 rfl]
  cases h1 : (out 1 6 d.steps || (out 1 d.steps d.least || out 0 9 d.wear)) with
  | true =>
    rw [checkT1 h1]
    simp only [go_sem, ↓reduceIte, Nat.reduceBEq, Nat.reduceEqDiff, Nat.reduceLT, Nat.reduceLeDiff, Nat.reduceAdd, Nat.reduceMul, Nat.reduceSub, reduceCtorEq, Int.reduceLT, Int.reduceLE, Int.reduceEq, Int.reduceBEq, Int.reduceBNe, Int.reduceToNat, Int.reduceAdd, Int.reduceNeg, Int.reduceSub, eD, eDc, eC_under, c51_1, h1, tup3]
  | false =>
    by_cases h2 : 4 < d.cards.length
    · have h2i : (4 : Int) < d.cards.length := by omega
      rw [checkT2 h1 h2]
      simp only [go_sem, ↓reduceIte, Nat.reduceBEq, Nat.reduceEqDiff, Nat.reduceLT, Nat.reduceLeDiff, Nat.reduceAdd, Nat.reduceMul, Nat.reduceSub, reduceCtorEq, Int.reduceLT, Int.reduceLE, Int.reduceEq, Int.reduceBEq, Int.reduceBNe, Int.reduceToNat, Int.reduceAdd, Int.reduceNeg, Int.reduceSub, eD, eDc, eC_under, c51_1, h1, tup3, h2i]
    · have h2i : ¬ (4 : Int) < d.cards.length := by omega
      simp only [go_sem, ↓reduceIte, Nat.reduceBEq, Nat.reduceEqDiff, Nat.reduceLT, Nat.reduceLeDiff, Nat.reduceAdd, Nat.reduceMul, Nat.reduceSub, reduceCtorEq, Int.reduceLT, Int.reduceLE, Int.reduceEq, Int.reduceBEq, Int.reduceBNe, Int.reduceToNat, Int.reduceAdd, Int.reduceNeg, Int.reduceSub, eD, eDc, eC_under, c51_1, h1, tup3, h2i]
      rw [w_rounds_h (fun k => [(37, .int .i64 k)]) (fun k => ⟨C16 d 52 0 [] [] d.cards k, T [] k⟩) d.cards.length (.exit 1) [(37, .int .i64 d.cards.length)] ⟨C16 d 52 0 [] [] d.cards d.cards.length, T [] d.cards.length⟩ ?_ ?_ ?_ ?_ rfl]
      rotate_left
      · simp only [go_sem, ↓reduceIte, Nat.reduceBEq, Nat.reduceEqDiff, Nat.reduceLT, Nat.reduceLeDiff, Nat.reduceAdd, Nat.reduceMul, Nat.reduceSub, reduceCtorEq, Int.reduceLT, Int.reduceLE, Int.reduceEq, Int.reduceBEq, Int.reduceBNe, Int.reduceToNat, Int.reduceAdd, Int.reduceNeg, Int.reduceSub]
      · simp only [go_sem, ↓reduceIte, Nat.reduceBEq, Nat.reduceEqDiff, Nat.reduceLT, Nat.reduceLeDiff, Nat.reduceAdd, Nat.reduceMul, Nat.reduceSub, reduceCtorEq, Int.reduceLT, Int.reduceLE, Int.reduceEq, Int.reduceBEq, Int.reduceBNe, Int.reduceToNat, Int.reduceAdd, Int.reduceNeg, Int.reduceSub, C16, rowB, eDc]
      · intro k hk
        have hx := List.getElem?_eq_getElem hk
        have hki : (k : Int) < d.cards.length := by omega
        have hz := hd.zc (by intro e; rw [e] at hk; simp at hk)
        have ha := fun C => append_step (X := tabX) (t := 73) (e := 76) (sz := 4) [] k C (zT 4 k) 1 4 ((d.cards.take k).map (eE 52 0 0)) [eE 52 0 0 d.cards[k]] (by simp only [go_sem, ↓reduceIte, Nat.reduceBEq, Nat.reduceEqDiff, Nat.reduceLT, Nat.reduceLeDiff, Nat.reduceAdd, Nat.reduceMul, Nat.reduceSub, reduceCtorEq, Int.reduceLT, Int.reduceLE, Int.reduceEq, Int.reduceBEq, Int.reduceBNe, Int.reduceToNat, Int.reduceAdd, Int.reduceNeg, Int.reduceSub]) (by simp only [go_sem, ↓reduceIte, Nat.reduceBEq, Nat.reduceEqDiff, Nat.reduceLT, Nat.reduceLeDiff, Nat.reduceAdd, Nat.reduceMul, Nat.reduceSub, reduceCtorEq, Int.reduceLT, Int.reduceLE, Int.reduceEq, Int.reduceBEq, Int.reduceBNe, Int.reduceToNat, Int.reduceAdd, Int.reduceNeg, Int.reduceSub])
          (by cases k with | zero => exact .inl ⟨rfl, by simp⟩ | succ k => exact .inr rfl) (.inl rfl) (by omega) (by simp only [go_sem, ↓reduceIte, Nat.reduceBEq, Nat.reduceEqDiff, Nat.reduceLT, Nat.reduceLeDiff, Nat.reduceAdd, Nat.reduceMul, Nat.reduceSub, reduceCtorEq, Int.reduceLT, Int.reduceLE, Int.reduceEq, Int.reduceBEq, Int.reduceBNe, Int.reduceToNat, Int.reduceAdd, Int.reduceNeg, Int.reduceSub, List.length_take]; omega) (by simp only [go_sem, ↓reduceIte, Nat.reduceBEq, Nat.reduceEqDiff, Nat.reduceLT, Nat.reduceLeDiff, Nat.reduceAdd, Nat.reduceMul, Nat.reduceSub, reduceCtorEq, Int.reduceLT, Int.reduceLE, Int.reduceEq, Int.reduceBEq, Int.reduceBNe, Int.reduceToNat, Int.reduceAdd, Int.reduceNeg, Int.reduceSub, List.length_take]; omega) (by simp only [go_sem, ↓reduceIte, Nat.reduceBEq, Nat.reduceEqDiff, Nat.reduceLT, Nat.reduceLeDiff, Nat.reduceAdd, Nat.reduceMul, Nat.reduceSub, reduceCtorEq, Int.reduceLT, Int.reduceLE, Int.reduceEq, Int.reduceBEq, Int.reduceBNe, Int.reduceToNat, Int.reduceAdd, Int.reduceNeg, Int.reduceSub]) (by simp only [go_sem, ↓reduceIte, Nat.reduceBEq, Nat.reduceEqDiff, Nat.reduceLT, Nat.reduceLeDiff, Nat.reduceAdd, Nat.reduceMul, Nat.reduceSub, reduceCtorEq, Int.reduceLT, Int.reduceLE, Int.reduceEq, Int.reduceBEq, Int.reduceBNe, Int.reduceToNat, Int.reduceAdd, Int.reduceNeg, Int.reduceSub, eE])
        have hl : 2 ≤ (C16 d 52 0 [] [] d.cards k).length := by simp [C16]
        have hc1 := old (show (C16 d 52 0 [] [] d.cards k)[1]? = some (rowB 52 0 [] d.cards k) from rfl)
        have hset : ∀ y u, (C16 d 52 0 [] [] d.cards k ++ u).set 1 y = ABlk.cells (eDc d) :: y :: ((d.cards.take k).map cellC ++ u) := fun y u => rfl
        have hgoal : C16 d 52 0 [] [] d.cards (k + 1) = ABlk.cells (eDc d) :: rowB 52 0 [] d.cards (k + 1) :: ((d.cards.take k).map cellC ++ [cellC d.cards[k]]) := by simp only [C16, map_succ cellC hx, List.nil_append]
        have hrow : rowB 52 0 [] d.cards (k + 1) = .cells [.lst (tagT [] (k + 1)) 4 ((d.cards.take k).map (eE 52 0 0) ++ [eE 52 0 0 d.cards[k]])] := by simp only [rowB, eE_map_succ 52 0 0 hx, zT_succ]
        rw [hgoal, hrow]
        generalize C16 d 52 0 [] [] d.cards k = C at hl hc1 hset ⊢
        have hu : underL 2 ((d.cards.take k).map (eE 52 0 0)) = true := eE_under 2 52 0 0 (by omega) _
        simp only [eE] at ha
        simp (disch := omega) only [go_sem, ↓reduceIte, Nat.reduceBEq, Nat.reduceEqDiff, Nat.reduceLT, Nat.reduceLeDiff, Nat.reduceAdd, Nat.reduceMul, Nat.reduceSub, reduceCtorEq, Int.reduceLT, Int.reduceLE, Int.reduceEq, Int.reduceBEq, Int.reduceBNe, Int.reduceToNat, Int.reduceAdd, Int.reduceNeg, Int.reduceSub, hki, eC_get, hx, hz, eC, hc1, rowB, hset, ha, hu, cellC, wrap_i64]
        rfl
      · simp only [go_sem, ↓reduceIte, Nat.reduceBEq, Nat.reduceEqDiff, Nat.reduceLT, Nat.reduceLeDiff, Nat.reduceAdd, Nat.reduceMul, Nat.reduceSub, reduceCtorEq, Int.reduceLT, Int.reduceLE, Int.reduceEq, Int.reduceBEq, Int.reduceBNe, Int.reduceToNat, Int.reduceAdd, Int.reduceNeg, Int.reduceSub, Int.lt_irrefl]
      have hlen : (C16 d 52 0 [] [] d.cards d.cards.length)[0]? = some (.cells (eDc d)) := rfl
      have h53 := c53 54 [.ref 1 0] 52 0 0 d.cards (tagT [] d.cards.length) (zT 4 d.cards.length) (fun hne => zT_pos (List.length_pos_iff.2 hne)) ⟨C16 d 52 0 [] [] d.cards d.cards.length, T [] d.cards.length⟩ (by simp [C16]) (by omega) (fun i => flawE d.cards i (· != d.steps) 0) (fun k c hx u => by
        have hc := hd.nc c (List.mem_of_getElem? hx)
        have := c54 54 (.inl rfl) 52 rr_52 0 d.cards (tagT [] d.cards.length) (zT 4 d.cards.length) (fun hne => zT_pos (List.length_pos_iff.2 hne)) k c hx 0 1 ⟨C16 d 52 0 [] [] d.cards d.cards.length ++ u, T [] d.cards.length⟩ (by simp [C16]) (by simp only [C16, rowB, List.take_length, List.cons_append]; rfl) hc.1 hc.2 (by omega) (· != d.steps) (fun n u' => by
          have := c52 n d 0 ⟨C16 d 52 0 [] [] d.cards d.cards.length ++ u ++ u', T [] d.cards.length⟩ rfl
          simp only [go_sem, ↓reduceIte, Nat.reduceBEq, Nat.reduceEqDiff, Nat.reduceLT, Nat.reduceLeDiff, Nat.reduceAdd, Nat.reduceMul, Nat.reduceSub, reduceCtorEq, Int.reduceLT, Int.reduceLE, Int.reduceEq, Int.reduceBEq, Int.reduceBNe, Int.reduceToNat, Int.reduceAdd, Int.reduceNeg, Int.reduceSub] at this ⊢
          exact this)
        simp only [go_sem, ↓reduceIte, Nat.reduceBEq, Nat.reduceEqDiff, Nat.reduceLT, Nat.reduceLeDiff, Nat.reduceAdd, Nat.reduceMul, Nat.reduceSub, reduceCtorEq, Int.reduceLT, Int.reduceLE, Int.reduceEq, Int.reduceBEq, Int.reduceBNe, Int.reduceToNat, Int.reduceAdd, Int.reduceNeg, Int.reduceSub, eE] at this ⊢
        exact this)
      have hta := List.take_length (l := d.cards)
      have hC : C16 d 52 0 [] [] d.cards d.cards.length = .cells (eDc d) :: .cells [.lst (tagT [] d.cards.length) (zT 4 d.cards.length) (d.cards.map (eE 52 0 0))] :: d.cards.map cellC := by simp only [C16, rowB, hta, List.nil_append]
      rw [hC] at h53 ⊢
      simp only [eDc] at h53 ⊢
      cases h3 : firstBad (fun i => flawE d.cards i (· != d.steps) 0) 0 d.cards.length with
      | some n =>
        have hne := (firstBad_some h3).2.2.1
        have hne' : (flawE d.cards n (· != d.steps) 0 != 0) = true := by simpa using hne
        rw [checkT3 h1 h2 h3]
        simp only [go_sem, ↓reduceIte, Nat.reduceBEq, Nat.reduceEqDiff, Nat.reduceLT, Nat.reduceLeDiff, Nat.reduceAdd, Nat.reduceMul, Nat.reduceSub, reduceCtorEq, Int.reduceLT, Int.reduceLE, Int.reduceEq, Int.reduceBEq, Int.reduceBNe, Int.reduceToNat, Int.reduceAdd, Int.reduceNeg, Int.reduceSub, h53, atE, h3, hne', tup3]
      | none =>
        by_cases h4 : 4 < d.halves.length
        · have h4i : (4 : Int) < d.halves.length := by omega
          rw [checkT4 h1 h2 h3 h4]
          simp only [go_sem, ↓reduceIte, Nat.reduceBEq, Nat.reduceEqDiff, Nat.reduceLT, Nat.reduceLeDiff, Nat.reduceAdd, Nat.reduceMul, Nat.reduceSub, reduceCtorEq, Int.reduceLT, Int.reduceLE, Int.reduceEq, Int.reduceBEq, Int.reduceBNe, Int.reduceToNat, Int.reduceAdd, Int.reduceNeg, Int.reduceSub, h53, atE, h3, tup3, eDc, h4i, bne_self_eq_false]
        · have h4i : ¬ (4 : Int) < d.halves.length := by omega
          simp only [go_sem, ↓reduceIte, Nat.reduceBEq, Nat.reduceEqDiff, Nat.reduceLT, Nat.reduceLeDiff, Nat.reduceAdd, Nat.reduceMul, Nat.reduceSub, reduceCtorEq, Int.reduceLT, Int.reduceLE, Int.reduceEq, Int.reduceBEq, Int.reduceBNe, Int.reduceToNat, Int.reduceAdd, Int.reduceNeg, Int.reduceSub, h53, atE, h3, tup3, eDc, h4i, bne_self_eq_false]
          rw [w_rounds_h (fun k => [(68, .int .i64 k)]) (fun k => ⟨C16 d 56 (-1) (T [] d.cards.length) (d.cards.map cellC) d.halves k, T (T [] d.cards.length) k⟩) d.halves.length (.exit 3) [(68, .int .i64 d.halves.length)] ⟨C16 d 56 (-1) (T [] d.cards.length) (d.cards.map cellC) d.halves d.halves.length, T (T [] d.cards.length) d.halves.length⟩ ?_ ?_ ?_ ?_ rfl]
          rotate_left
          · simp only [go_sem, ↓reduceIte, Nat.reduceBEq, Nat.reduceEqDiff, Nat.reduceLT, Nat.reduceLeDiff, Nat.reduceAdd, Nat.reduceMul, Nat.reduceSub, reduceCtorEq, Int.reduceLT, Int.reduceLE, Int.reduceEq, Int.reduceBEq, Int.reduceBNe, Int.reduceToNat, Int.reduceAdd, Int.reduceNeg, Int.reduceSub]
          · simp only [go_sem, ↓reduceIte, Nat.reduceBEq, Nat.reduceEqDiff, Nat.reduceLT, Nat.reduceLeDiff, Nat.reduceAdd, Nat.reduceMul, Nat.reduceSub, reduceCtorEq, Int.reduceLT, Int.reduceLE, Int.reduceEq, Int.reduceBEq, Int.reduceBNe, Int.reduceToNat, Int.reduceAdd, Int.reduceNeg, Int.reduceSub, C16, rowB, eDc]
          · intro k hk
            have hx := List.getElem?_eq_getElem hk
            have hki : (k : Int) < d.halves.length := by omega
            have hz := hd.zh (by intro e; rw [e] at hk; simp at hk)
            have ha := fun C => append_step (X := tabX) (t := 73) (e := 76) (sz := 4) (T [] d.cards.length) k C (zT 4 k) 1 4 ((d.halves.take k).map (eE 56 0 (-1))) [eE 56 0 (-1) d.halves[k]] (by simp only [go_sem, ↓reduceIte, Nat.reduceBEq, Nat.reduceEqDiff, Nat.reduceLT, Nat.reduceLeDiff, Nat.reduceAdd, Nat.reduceMul, Nat.reduceSub, reduceCtorEq, Int.reduceLT, Int.reduceLE, Int.reduceEq, Int.reduceBEq, Int.reduceBNe, Int.reduceToNat, Int.reduceAdd, Int.reduceNeg, Int.reduceSub]) (by simp only [go_sem, ↓reduceIte, Nat.reduceBEq, Nat.reduceEqDiff, Nat.reduceLT, Nat.reduceLeDiff, Nat.reduceAdd, Nat.reduceMul, Nat.reduceSub, reduceCtorEq, Int.reduceLT, Int.reduceLE, Int.reduceEq, Int.reduceBEq, Int.reduceBNe, Int.reduceToNat, Int.reduceAdd, Int.reduceNeg, Int.reduceSub])
              (by cases k with | zero => exact .inl ⟨rfl, by simp⟩ | succ k => exact .inr rfl) (.inl rfl) (by omega) (by simp only [go_sem, ↓reduceIte, Nat.reduceBEq, Nat.reduceEqDiff, Nat.reduceLT, Nat.reduceLeDiff, Nat.reduceAdd, Nat.reduceMul, Nat.reduceSub, reduceCtorEq, Int.reduceLT, Int.reduceLE, Int.reduceEq, Int.reduceBEq, Int.reduceBNe, Int.reduceToNat, Int.reduceAdd, Int.reduceNeg, Int.reduceSub, List.length_take]; omega) (by simp only [go_sem, ↓reduceIte, Nat.reduceBEq, Nat.reduceEqDiff, Nat.reduceLT, Nat.reduceLeDiff, Nat.reduceAdd, Nat.reduceMul, Nat.reduceSub, reduceCtorEq, Int.reduceLT, Int.reduceLE, Int.reduceEq, Int.reduceBEq, Int.reduceBNe, Int.reduceToNat, Int.reduceAdd, Int.reduceNeg, Int.reduceSub, List.length_take]; omega) (by simp only [go_sem, ↓reduceIte, Nat.reduceBEq, Nat.reduceEqDiff, Nat.reduceLT, Nat.reduceLeDiff, Nat.reduceAdd, Nat.reduceMul, Nat.reduceSub, reduceCtorEq, Int.reduceLT, Int.reduceLE, Int.reduceEq, Int.reduceBEq, Int.reduceBNe, Int.reduceToNat, Int.reduceAdd, Int.reduceNeg, Int.reduceSub]) (by simp only [go_sem, ↓reduceIte, Nat.reduceBEq, Nat.reduceEqDiff, Nat.reduceLT, Nat.reduceLeDiff, Nat.reduceAdd, Nat.reduceMul, Nat.reduceSub, reduceCtorEq, Int.reduceLT, Int.reduceLE, Int.reduceEq, Int.reduceBEq, Int.reduceBNe, Int.reduceToNat, Int.reduceAdd, Int.reduceNeg, Int.reduceSub, eE])
            have hl : 2 ≤ (C16 d 56 (-1) (T [] d.cards.length) (d.cards.map cellC) d.halves k).length := by simp [C16]
            have hc1 := old (show (C16 d 56 (-1) (T [] d.cards.length) (d.cards.map cellC) d.halves k)[1]? = some (rowB 56 (-1) (T [] d.cards.length) d.halves k) from rfl)
            have hset : ∀ y u, (C16 d 56 (-1) (T [] d.cards.length) (d.cards.map cellC) d.halves k ++ u).set 1 y = ABlk.cells (eDc d) :: y :: (d.cards.map cellC ++ ((d.halves.take k).map cellC ++ u)) := fun y u => by simp only [C16, List.cons_append, List.append_assoc]; rfl
            have hgoal : C16 d 56 (-1) (T [] d.cards.length) (d.cards.map cellC) d.halves (k + 1) = ABlk.cells (eDc d) :: rowB 56 (-1) (T [] d.cards.length) d.halves (k + 1) :: (d.cards.map cellC ++ ((d.halves.take k).map cellC ++ [cellC d.halves[k]])) := by simp only [C16, map_succ cellC hx, List.nil_append]
            have hrow : rowB 56 (-1) (T [] d.cards.length) d.halves (k + 1) = .cells [.lst (tagT (T [] d.cards.length) (k + 1)) 4 ((d.halves.take k).map (eE 56 0 (-1)) ++ [eE 56 0 (-1) d.halves[k]])] := by simp only [rowB, eE_map_succ 56 0 (-1) hx, zT_succ]
            rw [hgoal, hrow]
            generalize C16 d 56 (-1) (T [] d.cards.length) (d.cards.map cellC) d.halves k = C at hl hc1 hset ⊢
            have hu : underL 2 ((d.halves.take k).map (eE 56 0 (-1))) = true := eE_under 2 56 0 (-1) (by omega) _
            simp only [eE] at ha
            simp (disch := omega) only [go_sem, ↓reduceIte, Nat.reduceBEq, Nat.reduceEqDiff, Nat.reduceLT, Nat.reduceLeDiff, Nat.reduceAdd, Nat.reduceMul, Nat.reduceSub, reduceCtorEq, Int.reduceLT, Int.reduceLE, Int.reduceEq, Int.reduceBEq, Int.reduceBNe, Int.reduceToNat, Int.reduceAdd, Int.reduceNeg, Int.reduceSub, hki, eC_get, hx, hz, eC, hc1, rowB, hset, ha, hu, cellC, wrap_i64]
            rfl
          · simp only [go_sem, ↓reduceIte, Nat.reduceBEq, Nat.reduceEqDiff, Nat.reduceLT, Nat.reduceLeDiff, Nat.reduceAdd, Nat.reduceMul, Nat.reduceSub, reduceCtorEq, Int.reduceLT, Int.reduceLE, Int.reduceEq, Int.reduceBEq, Int.reduceBNe, Int.reduceToNat, Int.reduceAdd, Int.reduceNeg, Int.reduceSub, Int.lt_irrefl]
          have hlen : (C16 d 56 (-1) (T [] d.cards.length) (d.cards.map cellC) d.halves d.halves.length)[0]? = some (.cells (eDc d)) := rfl
          have h53 := c53 57 [.ref 1 0] 56 0 (-1) d.halves (tagT (T [] d.cards.length) d.halves.length) (zT 4 d.halves.length) (fun hne => zT_pos (List.length_pos_iff.2 hne)) ⟨C16 d 56 (-1) (T [] d.cards.length) (d.cards.map cellC) d.halves d.halves.length, T (T [] d.cards.length) d.halves.length⟩ (by simp [C16]) (by omega) (fun i => flawE d.halves i (out d.least d.steps) (-1)) (fun k c hx u => by
            have hc := hd.nh c (List.mem_of_getElem? hx)
            have := c54 57 (.inr rfl) 56 rr_56 (-1) d.halves (tagT (T [] d.cards.length) d.halves.length) (zT 4 d.halves.length) (fun hne => zT_pos (List.length_pos_iff.2 hne)) k c hx 0 1 ⟨C16 d 56 (-1) (T [] d.cards.length) (d.cards.map cellC) d.halves d.halves.length ++ u, T (T [] d.cards.length) d.halves.length⟩ (by simp [C16]) (by simp only [C16, rowB, List.take_length, List.cons_append]; rfl) hc.1 hc.2 (by omega) (out d.least d.steps) (fun n u' => by
              have := c56 n d 0 ⟨C16 d 56 (-1) (T [] d.cards.length) (d.cards.map cellC) d.halves d.halves.length ++ u ++ u', T (T [] d.cards.length) d.halves.length⟩ rfl
              simp only [go_sem, ↓reduceIte, Nat.reduceBEq, Nat.reduceEqDiff, Nat.reduceLT, Nat.reduceLeDiff, Nat.reduceAdd, Nat.reduceMul, Nat.reduceSub, reduceCtorEq, Int.reduceLT, Int.reduceLE, Int.reduceEq, Int.reduceBEq, Int.reduceBNe, Int.reduceToNat, Int.reduceAdd, Int.reduceNeg, Int.reduceSub] at this ⊢
              exact this)
            simp only [go_sem, ↓reduceIte, Nat.reduceBEq, Nat.reduceEqDiff, Nat.reduceLT, Nat.reduceLeDiff, Nat.reduceAdd, Nat.reduceMul, Nat.reduceSub, reduceCtorEq, Int.reduceLT, Int.reduceLE, Int.reduceEq, Int.reduceBEq, Int.reduceBNe, Int.reduceToNat, Int.reduceAdd, Int.reduceNeg, Int.reduceSub, eE] at this ⊢
            exact this)
          have hta := List.take_length (l := d.halves)
          have hC : C16 d 56 (-1) (T [] d.cards.length) (d.cards.map cellC) d.halves d.halves.length = .cells (eDc d) :: .cells [.lst (tagT (T [] d.cards.length) d.halves.length) (zT 4 d.halves.length) (d.halves.map (eE 56 0 (-1)))] :: (d.cards.map cellC ++ d.halves.map cellC) := by simp only [C16, rowB, hta]
          rw [hC] at h53 ⊢
          simp only [eDc] at h53 ⊢
          cases h5 : firstBad (fun i => flawE d.halves i (out d.least d.steps) (-1)) 0 d.halves.length with
          | some n =>
            have hne := (firstBad_some h5).2.2.1
            have hne' : (flawE d.halves n (out d.least d.steps) (-1) != 0) = true := by simpa using hne
            rw [checkT5 h1 h2 h3 h4 h5]
            simp only [go_sem, ↓reduceIte, Nat.reduceBEq, Nat.reduceEqDiff, Nat.reduceLT, Nat.reduceLeDiff, Nat.reduceAdd, Nat.reduceMul, Nat.reduceSub, reduceCtorEq, Int.reduceLT, Int.reduceLE, Int.reduceEq, Int.reduceBEq, Int.reduceBNe, Int.reduceToNat, Int.reduceAdd, Int.reduceNeg, Int.reduceSub, h53, atE, h5, hne', tup3]
          | none =>
            rw [checkT6 h1 h2 h3 h4 h5]
            simp only [go_sem, ↓reduceIte, Nat.reduceBEq, Nat.reduceEqDiff, Nat.reduceLT, Nat.reduceLeDiff, Nat.reduceAdd, Nat.reduceMul, Nat.reduceSub, reduceCtorEq, Int.reduceLT, Int.reduceLE, Int.reduceEq, Int.reduceBEq, Int.reduceBNe, Int.reduceToNat, Int.reduceAdd, Int.reduceNeg, Int.reduceSub, h53, atE, h5, tup3, bne_self_eq_false]
end Go.Proofs.Ytbfodfepgefloaa
end
section
namespace Go.Proofs.Ytbfodfepgefloaa
open Go.Proofs

theorem findIdx_eq {α : Type} {l : List α} {p : α → Bool} {n : Nat} (hn : n < l.length) (h : l.findIdx p = n) : p l[n] = true := by
  subst h; exact List.findIdx_getElem
theorem c73 (l : List ByteArray) (s : ByteArray) (z : Nat) (hz : l ≠ [] → z = 1) (hl : l.length < 1000000000000000000) (h : Heap) :
   callPure (EW tabX) 73 [.lst 0 z (S l), .str s] h = some (.int .i64 (if l.findIdx (fun x => x == s) < l.length then l.findIdx (fun x => x == s) else -1), h) := by
  rw [callPure_eq, w_call _ fn_73 rfl]
  simp only [go_sem, ↓reduceIte, Nat.reduceBEq, Nat.reduceEqDiff, Nat.reduceLT, Nat.reduceLeDiff, Nat.reduceAdd, Nat.reduceMul, Nat.reduceSub, reduceCtorEq, Int.reduceLT, Int.reduceLE, Int.reduceEq, Int.reduceBEq, Int.reduceBNe, Int.reduceToNat, Int.reduceAdd, Int.reduceNeg, Int.reduceSub]
  rw [w_rounds_u (fun k => [(5, .int .i64 k)]) (l.findIdx (fun x => x == s)) (.exit 0) [(5, .int .i64 (l.findIdx (fun x => x == s)))] ?_ ?_ ?_ rfl]
  · by_cases hf : l.findIdx (fun x => x == s) < l.length
    · have hne : (((l.findIdx (fun x => x == s) : Nat) : Int) == (l.length : Int)) = false := by simp; omega
      simp only [go_sem, ↓reduceIte, Nat.reduceBEq, Nat.reduceEqDiff, Nat.reduceLT, Nat.reduceLeDiff, Nat.reduceAdd, Nat.reduceMul, Nat.reduceSub, reduceCtorEq, Int.reduceLT, Int.reduceLE, Int.reduceEq, Int.reduceBEq, Int.reduceBNe, Int.reduceToNat, Int.reduceAdd, Int.reduceNeg, Int.reduceSub, hne, hf]
    · have hn : l.findIdx (fun x => x == s) = l.length := by have := List.findIdx_le_length (p := fun x => x == s) (xs := l); omega
      simp only [go_sem, ↓reduceIte, Nat.reduceBEq, Nat.reduceEqDiff, Nat.reduceLT, Nat.reduceLeDiff, Nat.reduceAdd, Nat.reduceMul, Nat.reduceSub, reduceCtorEq, Int.reduceLT, Int.reduceLE, Int.reduceEq, Int.reduceBEq, Int.reduceBNe, Int.reduceToNat, Int.reduceAdd, Int.reduceNeg, Int.reduceSub, hn, Nat.lt_irrefl]
  · simp only [go_sem, ↓reduceIte, Nat.reduceBEq, Nat.reduceEqDiff, Nat.reduceLT, Nat.reduceLeDiff, Nat.reduceAdd, Nat.reduceMul, Nat.reduceSub, reduceCtorEq, Int.reduceLT, Int.reduceLE, Int.reduceEq, Int.reduceBEq, Int.reduceBNe, Int.reduceToNat, Int.reduceAdd, Int.reduceNeg, Int.reduceSub]
  · intro k hk
    have hlt : k < l.length := by have := List.findIdx_le_length (p := fun x => x == s) (xs := l); omega
    have hki : (k : Int) < l.length := by omega
    have hx := List.getElem?_eq_getElem hlt
    have hpf : (l[k] == s) = false := by simpa using List.not_of_lt_findIdx hk
    have hz1 := hz (by intro e; rw [e] at hlt; simp at hlt)
    subst hz1
    have hne : (l[k] != s) = true := by simp only [bne, hpf, Bool.not_false]
    simp (disch := omega) only [go_sem, ↓reduceIte, Nat.reduceBEq, Nat.reduceEqDiff, Nat.reduceLT, Nat.reduceLeDiff, Nat.reduceAdd, Nat.reduceMul, Nat.reduceSub, reduceCtorEq, Int.reduceLT, Int.reduceLE, Int.reduceEq, Int.reduceBEq, Int.reduceBNe, Int.reduceToNat, Int.reduceAdd, Int.reduceNeg, Int.reduceSub, hki, hx, hne, wrap_i64]
  · by_cases hf : l.findIdx (fun x => x == s) < l.length
    · have hx := List.getElem?_eq_getElem hf
      have hki : ((l.findIdx (fun x => x == s) : Nat) : Int) < l.length := by omega
      have hpt : (l[l.findIdx (fun x => x == s)] == s) = true := List.findIdx_getElem (p := fun x => x == s)
      have hne : (l[l.findIdx (fun x => x == s)] != s) = false := by simp only [bne, hpt, Bool.not_true]
      have hz1 := hz (by intro e; rw [e] at hf; simp at hf)
      subst hz1
      simp (disch := omega) only [go_sem, ↓reduceIte, Nat.reduceBEq, Nat.reduceEqDiff, Nat.reduceLT, Nat.reduceLeDiff, Nat.reduceAdd, Nat.reduceMul, Nat.reduceSub, reduceCtorEq, Int.reduceLT, Int.reduceLE, Int.reduceEq, Int.reduceBEq, Int.reduceBNe, Int.reduceToNat, Int.reduceAdd, Int.reduceNeg, Int.reduceSub, hki, hx, hne]
    · have hn : l.findIdx (fun x => x == s) = l.length := by have := List.findIdx_le_length (p := fun x => x == s) (xs := l); omega
      simp only [go_sem, ↓reduceIte, Nat.reduceBEq, Nat.reduceEqDiff, Nat.reduceLT, Nat.reduceLeDiff, Nat.reduceAdd, Nat.reduceMul, Nat.reduceSub, reduceCtorEq, Int.reduceLT, Int.reduceLE, Int.reduceEq, Int.reduceBEq, Int.reduceBNe, Int.reduceToNat, Int.reduceAdd, Int.reduceNeg, Int.reduceSub, hn, Int.lt_irrefl]

def fresh (s : ByteArray) (l : List ByteArray) : Int := if nameOk s then (if l.any (fun x => x == s) then 5 else 0) else 6
theorem c58 (l : List ByteArray) (s : ByteArray) (z : Nat) (hz : l ≠ [] → z = 1) (hl : l.length < 1000000000000000000) (hs : s.size < 1000000000000000000) (h : Heap) :
   callPure (EW tabX) 58 [.str s, .lst 0 z (S l)] h = some (.int .i64 (fresh s l), h) := by
  have h73 := c73 l s z hz hl
  have h74 := c74 s hs
  have ha := findIdx_any l (fun x => x == s)
  rw [callPure_eq, w_call _ fn_58 rfl]
  cases h1 : l.any (fun x => x == s) with
  | true =>
    rw [h1] at ha
    cases h2 : nameOk s with
    | true => simp only [go_sem, ↓reduceIte, Nat.reduceBEq, Nat.reduceEqDiff, Nat.reduceLT, Nat.reduceLeDiff, Nat.reduceAdd, Nat.reduceMul, Nat.reduceSub, reduceCtorEq, Int.reduceLT, Int.reduceLE, Int.reduceEq, Int.reduceBEq, Int.reduceBNe, Int.reduceToNat, Int.reduceAdd, Int.reduceNeg, Int.reduceSub, h73, h74, ha, h2, fresh, h1]
    | false => simp only [go_sem, ↓reduceIte, Nat.reduceBEq, Nat.reduceEqDiff, Nat.reduceLT, Nat.reduceLeDiff, Nat.reduceAdd, Nat.reduceMul, Nat.reduceSub, reduceCtorEq, Int.reduceLT, Int.reduceLE, Int.reduceEq, Int.reduceBEq, Int.reduceBNe, Int.reduceToNat, Int.reduceAdd, Int.reduceNeg, Int.reduceSub, h73, h74, ha, h2, fresh, h1]
  | false =>
    rw [h1] at ha
    cases h2 : nameOk s with
    | true => simp only [go_sem, ↓reduceIte, Nat.reduceBEq, Nat.reduceEqDiff, Nat.reduceLT, Nat.reduceLeDiff, Nat.reduceAdd, Nat.reduceMul, Nat.reduceSub, reduceCtorEq, Int.reduceLT, Int.reduceLE, Int.reduceEq, Int.reduceBEq, Int.reduceBNe, Int.reduceToNat, Int.reduceAdd, Int.reduceNeg, Int.reduceSub, h73, h74, ha, h2, fresh, h1]
    | false => simp only [go_sem, ↓reduceIte, Nat.reduceBEq, Nat.reduceEqDiff, Nat.reduceLT, Nat.reduceLeDiff, Nat.reduceAdd, Nat.reduceMul, Nat.reduceSub, reduceCtorEq, Int.reduceLT, Int.reduceLE, Int.reduceEq, Int.reduceBEq, Int.reduceBNe, Int.reduceToNat, Int.reduceAdd, Int.reduceNeg, Int.reduceSub, h73, h74, ha, h2, fresh, h1]

theorem all_succ {α : Type} (p : α → Bool) {l : List α} {k : Nat} {x : α} (h : l[k]? = some x) : (l.take (k + 1)).all p = ((l.take k).all p && p x) := by
  rw [List.take_add_one, h]; simp
theorem c59 (l : List Int) (lo : Int) (z : Nat) (hz : l ≠ [] → z = 1) (hl : l.length < 1000000000000000000) (h : Heap) :
   callPure (EW tabX) 59 [.lst 0 z (I l), .int .i64 lo] h = some (.bool (l.all fun n => inR n lo 9), h) := by
  rw [callPure_eq, w_call _ fn_59 rfl]
  simp only [go_sem, ↓reduceIte, Nat.reduceBEq, Nat.reduceEqDiff, Nat.reduceLT, Nat.reduceLeDiff, Nat.reduceAdd, Nat.reduceMul, Nat.reduceSub, reduceCtorEq, Int.reduceLT, Int.reduceLE, Int.reduceEq, Int.reduceBEq, Int.reduceBNe, Int.reduceToNat, Int.reduceAdd, Int.reduceNeg, Int.reduceSub]
  rw [w_rounds_u (fun k => [(5, .bool ((l.take k).all fun n => inR n lo 9)), (6, .int .i64 k)]) l.length (.exit 0) [(5, .bool (l.all fun n => inR n lo 9)), (6, .int .i64 l.length)] ?_ ?_ ?_ rfl]
  · simp only [go_sem, ↓reduceIte, Nat.reduceBEq, Nat.reduceEqDiff, Nat.reduceLT, Nat.reduceLeDiff, Nat.reduceAdd, Nat.reduceMul, Nat.reduceSub, reduceCtorEq, Int.reduceLT, Int.reduceLE, Int.reduceEq, Int.reduceBEq, Int.reduceBNe, Int.reduceToNat, Int.reduceAdd, Int.reduceNeg, Int.reduceSub]
  · simp only [go_sem, ↓reduceIte, Nat.reduceBEq, Nat.reduceEqDiff, Nat.reduceLT, Nat.reduceLeDiff, Nat.reduceAdd, Nat.reduceMul, Nat.reduceSub, reduceCtorEq, Int.reduceLT, Int.reduceLE, Int.reduceEq, Int.reduceBEq, Int.reduceBNe, Int.reduceToNat, Int.reduceAdd, Int.reduceNeg, Int.reduceSub]
  · intro k hk
    have hki : (k : Int) < l.length := by omega
    have hx := List.getElem?_eq_getElem hk
    have hz1 := hz (by intro e; rw [e] at hk; simp at hk)
    subst hz1
    simp (disch := omega) only [go_sem, ↓reduceIte, Nat.reduceBEq, Nat.reduceEqDiff, Nat.reduceLT, Nat.reduceLeDiff, Nat.reduceAdd, Nat.reduceMul, Nat.reduceSub, reduceCtorEq, Int.reduceLT, Int.reduceLE, Int.reduceEq, Int.reduceBEq, Int.reduceBNe, Int.reduceToNat, Int.reduceAdd, Int.reduceNeg, Int.reduceSub, hki, hx, c42, wrap_i64, all_succ _ hx]
  · simp only [go_sem, ↓reduceIte, Nat.reduceBEq, Nat.reduceEqDiff, Nat.reduceLT, Nat.reduceLeDiff, Nat.reduceAdd, Nat.reduceMul, Nat.reduceSub, reduceCtorEq, Int.reduceLT, Int.reduceLE, Int.reduceEq, Int.reduceBEq, Int.reduceBNe, Int.reduceToNat, Int.reduceAdd, Int.reduceNeg, Int.reduceSub, Int.lt_irrefl]
theorem all_out (l : List Int) (lo hi : Int) : (!l.all fun n => inR n lo hi) = l.any (out lo hi) := by
  induction l with
  | nil => rfl
  | cons x l ih => rw [List.all_cons, List.any_cons, Bool.not_and, ih, ← out_not, Bool.not_not]

theorem flawE_cases {l : List Card} {i : Nat} {x : Card} (hx : l[i]? = some x) (long : Int → Bool) (least : Int) :
    (nameOk x.name = false ∧ flawE l i long least = 6) ∨
    (nameOk x.name = true ∧ (l.take i).any (fun y => y.name == x.name) = true ∧ flawE l i long least = 5) ∨
    (nameOk x.name = true ∧ (l.take i).any (fun y => y.name == x.name) = false ∧ long x.edge.length = true ∧ flawE l i long least = 3) ∨
    (nameOk x.name = true ∧ (l.take i).any (fun y => y.name == x.name) = false ∧ long x.edge.length = false ∧ (x.edge.all fun n => inR n least 9) = false ∧ flawE l i long least = 7) ∨
    (nameOk x.name = true ∧ (l.take i).any (fun y => y.name == x.name) = false ∧ long x.edge.length = false ∧ (x.edge.all fun n => inR n least 9) = true ∧ flawE l i long least = 0) := by
  rw [flawE_at hx, ← all_out]
  cases nameOk x.name <;> cases (l.take i).any (fun y => y.name == x.name) <;> cases long x.edge.length <;> cases (x.edge.all fun n => inR n least 9) <;> simp
/-- The names of some cards. -/
def names (l : List Card) : List ByteArray := l.map (·.name)
theorem names_any (l : List Card) (s : ByteArray) : (names l).any (fun x => x == s) = l.any (fun y => y.name == s) := by simp [names, List.any_map]; rfl
theorem names_succ {l : List Card} {k : Nat} {x : Card} (h : l[k]? = some x) : names (l.take (k + 1)) = names (l.take k) ++ [x.name] := map_succ _ h

theorem c17 (d : Dr) (hd : d.fits) (h : Heap) : callPure (EW tabX) 17 [eD d] h = some (tup3 (checkT d), h) := by
  rw [callPure_eq, w_call _ fn_17 rfl]
  have hb : ((!inR d.steps 1 6) || ((!inR d.least 1 d.steps) || (!inR d.wear 0 9))) = (out 1 6 d.steps || (out 1 d.steps d.least || out 0 9 d.wear)) := by simp only [← out_not, Bool.not_not]
  cases h1 : (out 1 6 d.steps || (out 1 d.steps d.least || out 0 9 d.wear)) with
  | true =>
    rw [checkT1 h1]
    rw [h1] at hb
    simp only [go_sem, ↓reduceIte, Nat.reduceBEq, Nat.reduceEqDiff, Nat.reduceLT, Nat.reduceLeDiff, Nat.reduceAdd, Nat.reduceMul, Nat.reduceSub, reduceCtorEq, Int.reduceLT, Int.reduceLE, Int.reduceEq, Int.reduceBEq, Int.reduceBNe, Int.reduceToNat, Int.reduceAdd, Int.reduceNeg, Int.reduceSub, eD, eDc, eC_under, c42, hb, tup3]
  | false =>
    rw [h1] at hb
    by_cases h2 : 4 < d.cards.length
    · have h2i : (4 : Int) < d.cards.length := by omega
      rw [checkT2 h1 h2]
      simp only [go_sem, ↓reduceIte, Nat.reduceBEq, Nat.reduceEqDiff, Nat.reduceLT, Nat.reduceLeDiff, Nat.reduceAdd, Nat.reduceMul, Nat.reduceSub, reduceCtorEq, Int.reduceLT, Int.reduceLE, Int.reduceEq, Int.reduceBEq, Int.reduceBNe, Int.reduceToNat, Int.reduceAdd, Int.reduceNeg, Int.reduceSub, eD, eDc, eC_under, c42, hb, tup3, h2i]
    · have h2i : ¬ (4 : Int) < d.cards.length := by omega
      simp only [go_sem, ↓reduceIte, Nat.reduceBEq, Nat.reduceEqDiff, Nat.reduceLT, Nat.reduceLeDiff, Nat.reduceAdd, Nat.reduceMul, Nat.reduceSub, reduceCtorEq, Int.reduceLT, Int.reduceLE, Int.reduceEq, Int.reduceBEq, Int.reduceBNe, Int.reduceToNat, Int.reduceAdd, Int.reduceNeg, Int.reduceSub, eD, eDc, eC_under, c42, hb, h2i]
      cases h3 : firstBad (fun i => flawE d.cards i (· != d.steps) 0) 0 d.cards.length with
      | some n =>
        obtain ⟨_, hn, hen, hlt⟩ := firstBad_some h3
        have hn : n < d.cards.length := by omega
        rw [checkT3 h1 h2 h3]
        rw [w_rounds_h (fun k => [(5, .lst (tagT [] k) (zT 1 k) (S (names (d.cards.take k)))), (6, .int .i64 k)]) (fun k => ⟨[.cells (eDc d)], T [] k⟩) n .ret [(2, .int .i64 2), (3, .int .i64 n), (4, .int .i64 (flawE d.cards n (· != d.steps) (0))), (5, .lst (tagT [] (n + 1)) 1 (S (names (d.cards.take (n + 1))))), (6, .int .i64 n), (7, .int .i64 (flawE d.cards n (· != d.steps) (0)))] ⟨[.cells (eDc d)], T [] (n + 1)⟩ ?_ ?_ ?_ ?_ rfl]
        rotate_left
        · simp only [go_sem, ↓reduceIte, Nat.reduceBEq, Nat.reduceEqDiff, Nat.reduceLT, Nat.reduceLeDiff, Nat.reduceAdd, Nat.reduceMul, Nat.reduceSub, reduceCtorEq, Int.reduceLT, Int.reduceLE, Int.reduceEq, Int.reduceBEq, Int.reduceBNe, Int.reduceToNat, Int.reduceAdd, Int.reduceNeg, Int.reduceSub, names]
        · simp only [go_sem, ↓reduceIte, Nat.reduceBEq, Nat.reduceEqDiff, Nat.reduceLT, Nat.reduceLeDiff, Nat.reduceAdd, Nat.reduceMul, Nat.reduceSub, reduceCtorEq, Int.reduceLT, Int.reduceLE, Int.reduceEq, Int.reduceBEq, Int.reduceBNe, Int.reduceToNat, Int.reduceAdd, Int.reduceNeg, Int.reduceSub, eDc]
        · intro k hk
          have hx := List.getElem?_eq_getElem (show k < d.cards.length by omega)
          have hki : (k : Int) < d.cards.length := by omega
          have hz := hd.zc (by intro e; rw [e] at hki; simp at hki; omega)
          have hs := hd.nc _ (List.mem_of_getElem? hx)
          rw [names_succ hx, ← S_snoc]
          have hln : (names (d.cards.take k)).length = k := by simp [names]; omega
          have ha := fun B => append_step (X := tabX) (t := 80) (e := 9) (sz := 1) [] k B (zT 1 k) 1 1 (S (names (d.cards.take k))) [.str d.cards[k].name] (by simp only [go_sem, ↓reduceIte, Nat.reduceBEq, Nat.reduceEqDiff, Nat.reduceLT, Nat.reduceLeDiff, Nat.reduceAdd, Nat.reduceMul, Nat.reduceSub, reduceCtorEq, Int.reduceLT, Int.reduceLE, Int.reduceEq, Int.reduceBEq, Int.reduceBNe, Int.reduceToNat, Int.reduceAdd, Int.reduceNeg, Int.reduceSub]) (by simp only [go_sem, ↓reduceIte, Nat.reduceBEq, Nat.reduceEqDiff, Nat.reduceLT, Nat.reduceLeDiff, Nat.reduceAdd, Nat.reduceMul, Nat.reduceSub, reduceCtorEq, Int.reduceLT, Int.reduceLE, Int.reduceEq, Int.reduceBEq, Int.reduceBNe, Int.reduceToNat, Int.reduceAdd, Int.reduceNeg, Int.reduceSub])
            (by rcases Nat.eq_zero_or_pos k with e | e; exact .inl ⟨e, by rw [e]; simp [names, S]⟩; exact .inr (zT_pos e)) (.inl rfl) (by omega) (by simp only [go_sem, ↓reduceIte, Nat.reduceBEq, Nat.reduceEqDiff, Nat.reduceLT, Nat.reduceLeDiff, Nat.reduceAdd, Nat.reduceMul, Nat.reduceSub, reduceCtorEq, Int.reduceLT, Int.reduceLE, Int.reduceEq, Int.reduceBEq, Int.reduceBNe, Int.reduceToNat, Int.reduceAdd, Int.reduceNeg, Int.reduceSub, hln]; omega) (by simp only [go_sem, ↓reduceIte, Nat.reduceBEq, Nat.reduceEqDiff, Nat.reduceLT, Nat.reduceLeDiff, Nat.reduceAdd, Nat.reduceMul, Nat.reduceSub, reduceCtorEq, Int.reduceLT, Int.reduceLE, Int.reduceEq, Int.reduceBEq, Int.reduceBNe, Int.reduceToNat, Int.reduceAdd, Int.reduceNeg, Int.reduceSub, hln]; omega) (by simp only [go_sem, ↓reduceIte, Nat.reduceBEq, Nat.reduceEqDiff, Nat.reduceLT, Nat.reduceLeDiff, Nat.reduceAdd, Nat.reduceMul, Nat.reduceSub, reduceCtorEq, Int.reduceLT, Int.reduceLE, Int.reduceEq, Int.reduceBEq, Int.reduceBNe, Int.reduceToNat, Int.reduceAdd, Int.reduceNeg, Int.reduceSub]) (by simp only [go_sem, ↓reduceIte, Nat.reduceBEq, Nat.reduceEqDiff, Nat.reduceLT, Nat.reduceLeDiff, Nat.reduceAdd, Nat.reduceMul, Nat.reduceSub, reduceCtorEq, Int.reduceLT, Int.reduceLE, Int.reduceEq, Int.reduceBEq, Int.reduceBNe, Int.reduceToNat, Int.reduceAdd, Int.reduceNeg, Int.reduceSub])
          have hf := c58 (names (d.cards.take k)) d.cards[k].name (zT 1 k) (fun hne => zT_pos (by rcases Nat.eq_zero_or_pos k with e | e; rw [e] at hne; simp [names] at hne; exact e)) (by omega) hs.1
          have h59 := c59 d.cards[k].edge (0) 1 (fun _ => rfl) hs.2
          have h0 := hlt k (by omega) (by omega)
          simp only [eDc]
          rcases flawE_cases hx (· != d.steps) (0) with ⟨e1, e⟩ | ⟨e1, e2, e⟩ | ⟨e1, e2, e3, e⟩ | ⟨e1, e2, e3, e4, e⟩ | ⟨e1, e2, e3, e4, e⟩
          · rw [e] at h0; cases h0
          · rw [e] at h0; cases h0
          · rw [e] at h0; cases h0
          · rw [e] at h0; cases h0
          · rw [← names_any] at e2
            simp (disch := omega) only [go_sem, ↓reduceIte, Nat.reduceBEq, Nat.reduceEqDiff, Nat.reduceLT, Nat.reduceLeDiff, Nat.reduceAdd, Nat.reduceMul, Nat.reduceSub, reduceCtorEq, Int.reduceLT, Int.reduceLE, Int.reduceEq, Int.reduceBEq, Int.reduceBNe, Int.reduceToNat, Int.reduceAdd, Int.reduceNeg, Int.reduceSub, hki, eC_get, hx, hz, eC, ha, hf, fresh, e1, e2, e3, e4, h59, eC_under, wrap_i64, c42]
        · have hx := List.getElem?_eq_getElem (show n < d.cards.length by omega)
          have hki : (n : Int) < d.cards.length := by omega
          have hz := hd.zc (by intro e; rw [e] at hki; simp at hki; omega)
          have hs := hd.nc _ (List.mem_of_getElem? hx)
          rw [names_succ hx, ← S_snoc]
          have hln : (names (d.cards.take n)).length = n := by simp [names]; omega
          have ha := fun B => append_step (X := tabX) (t := 80) (e := 9) (sz := 1) [] n B (zT 1 n) 1 1 (S (names (d.cards.take n))) [.str d.cards[n].name] (by simp only [go_sem, ↓reduceIte, Nat.reduceBEq, Nat.reduceEqDiff, Nat.reduceLT, Nat.reduceLeDiff, Nat.reduceAdd, Nat.reduceMul, Nat.reduceSub, reduceCtorEq, Int.reduceLT, Int.reduceLE, Int.reduceEq, Int.reduceBEq, Int.reduceBNe, Int.reduceToNat, Int.reduceAdd, Int.reduceNeg, Int.reduceSub]) (by simp only [go_sem, ↓reduceIte, Nat.reduceBEq, Nat.reduceEqDiff, Nat.reduceLT, Nat.reduceLeDiff, Nat.reduceAdd, Nat.reduceMul, Nat.reduceSub, reduceCtorEq, Int.reduceLT, Int.reduceLE, Int.reduceEq, Int.reduceBEq, Int.reduceBNe, Int.reduceToNat, Int.reduceAdd, Int.reduceNeg, Int.reduceSub])
            (by rcases Nat.eq_zero_or_pos n with e | e; exact .inl ⟨e, by rw [e]; simp [names, S]⟩; exact .inr (zT_pos e)) (.inl rfl) (by omega) (by simp only [go_sem, ↓reduceIte, Nat.reduceBEq, Nat.reduceEqDiff, Nat.reduceLT, Nat.reduceLeDiff, Nat.reduceAdd, Nat.reduceMul, Nat.reduceSub, reduceCtorEq, Int.reduceLT, Int.reduceLE, Int.reduceEq, Int.reduceBEq, Int.reduceBNe, Int.reduceToNat, Int.reduceAdd, Int.reduceNeg, Int.reduceSub, hln]; omega) (by simp only [go_sem, ↓reduceIte, Nat.reduceBEq, Nat.reduceEqDiff, Nat.reduceLT, Nat.reduceLeDiff, Nat.reduceAdd, Nat.reduceMul, Nat.reduceSub, reduceCtorEq, Int.reduceLT, Int.reduceLE, Int.reduceEq, Int.reduceBEq, Int.reduceBNe, Int.reduceToNat, Int.reduceAdd, Int.reduceNeg, Int.reduceSub, hln]; omega) (by simp only [go_sem, ↓reduceIte, Nat.reduceBEq, Nat.reduceEqDiff, Nat.reduceLT, Nat.reduceLeDiff, Nat.reduceAdd, Nat.reduceMul, Nat.reduceSub, reduceCtorEq, Int.reduceLT, Int.reduceLE, Int.reduceEq, Int.reduceBEq, Int.reduceBNe, Int.reduceToNat, Int.reduceAdd, Int.reduceNeg, Int.reduceSub]) (by simp only [go_sem, ↓reduceIte, Nat.reduceBEq, Nat.reduceEqDiff, Nat.reduceLT, Nat.reduceLeDiff, Nat.reduceAdd, Nat.reduceMul, Nat.reduceSub, reduceCtorEq, Int.reduceLT, Int.reduceLE, Int.reduceEq, Int.reduceBEq, Int.reduceBNe, Int.reduceToNat, Int.reduceAdd, Int.reduceNeg, Int.reduceSub])
          have hf := c58 (names (d.cards.take n)) d.cards[n].name (zT 1 n) (fun hne => zT_pos (by rcases Nat.eq_zero_or_pos n with e | e; rw [e] at hne; simp [names] at hne; exact e)) (by omega) hs.1
          have h59 := c59 d.cards[n].edge (0) 1 (fun _ => rfl) hs.2
          simp only [eDc]
          rcases flawE_cases hx (· != d.steps) (0) with ⟨e1, e⟩ | ⟨e1, e2, e⟩ | ⟨e1, e2, e3, e⟩ | ⟨e1, e2, e3, e4, e⟩ | ⟨e1, e2, e3, e4, e⟩
          · simp (disch := omega) only [go_sem, ↓reduceIte, Nat.reduceBEq, Nat.reduceEqDiff, Nat.reduceLT, Nat.reduceLeDiff, Nat.reduceAdd, Nat.reduceMul, Nat.reduceSub, reduceCtorEq, Int.reduceLT, Int.reduceLE, Int.reduceEq, Int.reduceBEq, Int.reduceBNe, Int.reduceToNat, Int.reduceAdd, Int.reduceNeg, Int.reduceSub, hki, eC_get, hx, hz, eC, ha, hf, fresh, e1, e, h59, eC_under, wrap_i64, c42]
          · rw [← names_any] at e2
            simp (disch := omega) only [go_sem, ↓reduceIte, Nat.reduceBEq, Nat.reduceEqDiff, Nat.reduceLT, Nat.reduceLeDiff, Nat.reduceAdd, Nat.reduceMul, Nat.reduceSub, reduceCtorEq, Int.reduceLT, Int.reduceLE, Int.reduceEq, Int.reduceBEq, Int.reduceBNe, Int.reduceToNat, Int.reduceAdd, Int.reduceNeg, Int.reduceSub, hki, eC_get, hx, hz, eC, ha, hf, fresh, e1, e2, e, h59, eC_under, wrap_i64, c42]
          · rw [← names_any] at e2
            simp (disch := omega) only [go_sem, ↓reduceIte, Nat.reduceBEq, Nat.reduceEqDiff, Nat.reduceLT, Nat.reduceLeDiff, Nat.reduceAdd, Nat.reduceMul, Nat.reduceSub, reduceCtorEq, Int.reduceLT, Int.reduceLE, Int.reduceEq, Int.reduceBEq, Int.reduceBNe, Int.reduceToNat, Int.reduceAdd, Int.reduceNeg, Int.reduceSub, hki, eC_get, hx, hz, eC, ha, hf, fresh, e1, e2, e3, e, h59, eC_under, wrap_i64, c42]
          · rw [← names_any] at e2
            simp (disch := omega) only [go_sem, ↓reduceIte, Nat.reduceBEq, Nat.reduceEqDiff, Nat.reduceLT, Nat.reduceLeDiff, Nat.reduceAdd, Nat.reduceMul, Nat.reduceSub, reduceCtorEq, Int.reduceLT, Int.reduceLE, Int.reduceEq, Int.reduceBEq, Int.reduceBNe, Int.reduceToNat, Int.reduceAdd, Int.reduceNeg, Int.reduceSub, hki, eC_get, hx, hz, eC, ha, hf, fresh, e1, e2, e3, e4, e, h59, eC_under, wrap_i64, c42]
          · exact absurd e hen
        simp only [go_sem, ↓reduceIte, Nat.reduceBEq, Nat.reduceEqDiff, Nat.reduceLT, Nat.reduceLeDiff, Nat.reduceAdd, Nat.reduceMul, Nat.reduceSub, reduceCtorEq, Int.reduceLT, Int.reduceLE, Int.reduceEq, Int.reduceBEq, Int.reduceBNe, Int.reduceToNat, Int.reduceAdd, Int.reduceNeg, Int.reduceSub, tup3]
      | none =>
        rw [w_rounds_h (fun k => [(5, .lst (tagT [] k) (zT 1 k) (S (names (d.cards.take k)))), (6, .int .i64 k)]) (fun k => ⟨[.cells (eDc d)], T [] k⟩) d.cards.length (.exit 0) [(5, .lst (tagT [] d.cards.length) (zT 1 d.cards.length) (S (names d.cards))), (6, .int .i64 d.cards.length)] ⟨[.cells (eDc d)], T [] d.cards.length⟩ ?_ ?_ ?_ ?_ rfl]
        rotate_left
        · simp only [go_sem, ↓reduceIte, Nat.reduceBEq, Nat.reduceEqDiff, Nat.reduceLT, Nat.reduceLeDiff, Nat.reduceAdd, Nat.reduceMul, Nat.reduceSub, reduceCtorEq, Int.reduceLT, Int.reduceLE, Int.reduceEq, Int.reduceBEq, Int.reduceBNe, Int.reduceToNat, Int.reduceAdd, Int.reduceNeg, Int.reduceSub, names]
        · simp only [go_sem, ↓reduceIte, Nat.reduceBEq, Nat.reduceEqDiff, Nat.reduceLT, Nat.reduceLeDiff, Nat.reduceAdd, Nat.reduceMul, Nat.reduceSub, reduceCtorEq, Int.reduceLT, Int.reduceLE, Int.reduceEq, Int.reduceBEq, Int.reduceBNe, Int.reduceToNat, Int.reduceAdd, Int.reduceNeg, Int.reduceSub, eDc]
        · intro k hk
          have hx := List.getElem?_eq_getElem (show k < d.cards.length by omega)
          have hki : (k : Int) < d.cards.length := by omega
          have hz := hd.zc (by intro e; rw [e] at hki; simp at hki; omega)
          have hs := hd.nc _ (List.mem_of_getElem? hx)
          rw [names_succ hx, ← S_snoc]
          have hln : (names (d.cards.take k)).length = k := by simp [names]; omega
          have ha := fun B => append_step (X := tabX) (t := 80) (e := 9) (sz := 1) [] k B (zT 1 k) 1 1 (S (names (d.cards.take k))) [.str d.cards[k].name] (by simp only [go_sem, ↓reduceIte, Nat.reduceBEq, Nat.reduceEqDiff, Nat.reduceLT, Nat.reduceLeDiff, Nat.reduceAdd, Nat.reduceMul, Nat.reduceSub, reduceCtorEq, Int.reduceLT, Int.reduceLE, Int.reduceEq, Int.reduceBEq, Int.reduceBNe, Int.reduceToNat, Int.reduceAdd, Int.reduceNeg, Int.reduceSub]) (by simp only [go_sem, ↓reduceIte, Nat.reduceBEq, Nat.reduceEqDiff, Nat.reduceLT, Nat.reduceLeDiff, Nat.reduceAdd, Nat.reduceMul, Nat.reduceSub, reduceCtorEq, Int.reduceLT, Int.reduceLE, Int.reduceEq, Int.reduceBEq, Int.reduceBNe, Int.reduceToNat, Int.reduceAdd, Int.reduceNeg, Int.reduceSub])
            (by rcases Nat.eq_zero_or_pos k with e | e; exact .inl ⟨e, by rw [e]; simp [names, S]⟩; exact .inr (zT_pos e)) (.inl rfl) (by omega) (by simp only [go_sem, ↓reduceIte, Nat.reduceBEq, Nat.reduceEqDiff, Nat.reduceLT, Nat.reduceLeDiff, Nat.reduceAdd, Nat.reduceMul, Nat.reduceSub, reduceCtorEq, Int.reduceLT, Int.reduceLE, Int.reduceEq, Int.reduceBEq, Int.reduceBNe, Int.reduceToNat, Int.reduceAdd, Int.reduceNeg, Int.reduceSub, hln]; omega) (by simp only [go_sem, ↓reduceIte, Nat.reduceBEq, Nat.reduceEqDiff, Nat.reduceLT, Nat.reduceLeDiff, Nat.reduceAdd, Nat.reduceMul, Nat.reduceSub, reduceCtorEq, Int.reduceLT, Int.reduceLE, Int.reduceEq, Int.reduceBEq, Int.reduceBNe, Int.reduceToNat, Int.reduceAdd, Int.reduceNeg, Int.reduceSub, hln]; omega) (by simp only [go_sem, ↓reduceIte, Nat.reduceBEq, Nat.reduceEqDiff, Nat.reduceLT, Nat.reduceLeDiff, Nat.reduceAdd, Nat.reduceMul, Nat.reduceSub, reduceCtorEq, Int.reduceLT, Int.reduceLE, Int.reduceEq, Int.reduceBEq, Int.reduceBNe, Int.reduceToNat, Int.reduceAdd, Int.reduceNeg, Int.reduceSub]) (by simp only [go_sem, ↓reduceIte, Nat.reduceBEq, Nat.reduceEqDiff, Nat.reduceLT, Nat.reduceLeDiff, Nat.reduceAdd, Nat.reduceMul, Nat.reduceSub, reduceCtorEq, Int.reduceLT, Int.reduceLE, Int.reduceEq, Int.reduceBEq, Int.reduceBNe, Int.reduceToNat, Int.reduceAdd, Int.reduceNeg, Int.reduceSub])
          have hf := c58 (names (d.cards.take k)) d.cards[k].name (zT 1 k) (fun hne => zT_pos (by rcases Nat.eq_zero_or_pos k with e | e; rw [e] at hne; simp [names] at hne; exact e)) (by omega) hs.1
          have h59 := c59 d.cards[k].edge (0) 1 (fun _ => rfl) hs.2
          have h0 := firstBad_none h3 k (by omega) (by omega)
          simp only [eDc]
          rcases flawE_cases hx (· != d.steps) (0) with ⟨e1, e⟩ | ⟨e1, e2, e⟩ | ⟨e1, e2, e3, e⟩ | ⟨e1, e2, e3, e4, e⟩ | ⟨e1, e2, e3, e4, e⟩
          · rw [e] at h0; cases h0
          · rw [e] at h0; cases h0
          · rw [e] at h0; cases h0
          · rw [e] at h0; cases h0
          · rw [← names_any] at e2
            simp (disch := omega) only [go_sem, ↓reduceIte, Nat.reduceBEq, Nat.reduceEqDiff, Nat.reduceLT, Nat.reduceLeDiff, Nat.reduceAdd, Nat.reduceMul, Nat.reduceSub, reduceCtorEq, Int.reduceLT, Int.reduceLE, Int.reduceEq, Int.reduceBEq, Int.reduceBNe, Int.reduceToNat, Int.reduceAdd, Int.reduceNeg, Int.reduceSub, hki, eC_get, hx, hz, eC, ha, hf, fresh, e1, e2, e3, e4, h59, eC_under, wrap_i64, c42]
        · simp only [go_sem, ↓reduceIte, Nat.reduceBEq, Nat.reduceEqDiff, Nat.reduceLT, Nat.reduceLeDiff, Nat.reduceAdd, Nat.reduceMul, Nat.reduceSub, reduceCtorEq, Int.reduceLT, Int.reduceLE, Int.reduceEq, Int.reduceBEq, Int.reduceBNe, Int.reduceToNat, Int.reduceAdd, Int.reduceNeg, Int.reduceSub, Int.lt_irrefl, eDc]
        by_cases h4 : 4 < d.halves.length
        · have h4i : (4 : Int) < d.halves.length := by omega
          rw [checkT4 h1 h2 h3 h4]
          simp only [go_sem, ↓reduceIte, Nat.reduceBEq, Nat.reduceEqDiff, Nat.reduceLT, Nat.reduceLeDiff, Nat.reduceAdd, Nat.reduceMul, Nat.reduceSub, reduceCtorEq, Int.reduceLT, Int.reduceLE, Int.reduceEq, Int.reduceBEq, Int.reduceBNe, Int.reduceToNat, Int.reduceAdd, Int.reduceNeg, Int.reduceSub, tup3, eDc, h4i]
        · have h4i : ¬ (4 : Int) < d.halves.length := by omega
          simp only [go_sem, ↓reduceIte, Nat.reduceBEq, Nat.reduceEqDiff, Nat.reduceLT, Nat.reduceLeDiff, Nat.reduceAdd, Nat.reduceMul, Nat.reduceSub, reduceCtorEq, Int.reduceLT, Int.reduceLE, Int.reduceEq, Int.reduceBEq, Int.reduceBNe, Int.reduceToNat, Int.reduceAdd, Int.reduceNeg, Int.reduceSub, eDc, h4i]
          cases h5 : firstBad (fun i => flawE d.halves i (out d.least d.steps) (-1)) 0 d.halves.length with
          | some n =>
            obtain ⟨_, hn, hen, hlt⟩ := firstBad_some h5
            have hn : n < d.halves.length := by omega
            rw [checkT5 h1 h2 h3 h4 h5]
            rw [w_rounds_h (fun k => [(5, .lst (tagT (T [] d.cards.length) k) (zT 1 k) (S (names (d.halves.take k)))), (8, .int .i64 k)]) (fun k => ⟨[.cells (eDc d)], T (T [] d.cards.length) k⟩) n .ret [(2, .int .i64 3), (3, .int .i64 n), (4, .int .i64 (flawE d.halves n (out d.least d.steps) (-1))), (5, .lst (tagT (T [] d.cards.length) (n + 1)) 1 (S (names (d.halves.take (n + 1))))), (8, .int .i64 n), (9, .int .i64 (flawE d.halves n (out d.least d.steps) (-1)))] ⟨[.cells (eDc d)], T (T [] d.cards.length) (n + 1)⟩ ?_ ?_ ?_ ?_ rfl]
            rotate_left
            · simp only [go_sem, ↓reduceIte, Nat.reduceBEq, Nat.reduceEqDiff, Nat.reduceLT, Nat.reduceLeDiff, Nat.reduceAdd, Nat.reduceMul, Nat.reduceSub, reduceCtorEq, Int.reduceLT, Int.reduceLE, Int.reduceEq, Int.reduceBEq, Int.reduceBNe, Int.reduceToNat, Int.reduceAdd, Int.reduceNeg, Int.reduceSub, names]
            · simp only [go_sem, ↓reduceIte, Nat.reduceBEq, Nat.reduceEqDiff, Nat.reduceLT, Nat.reduceLeDiff, Nat.reduceAdd, Nat.reduceMul, Nat.reduceSub, reduceCtorEq, Int.reduceLT, Int.reduceLE, Int.reduceEq, Int.reduceBEq, Int.reduceBNe, Int.reduceToNat, Int.reduceAdd, Int.reduceNeg, Int.reduceSub, eDc]
            · intro k hk
              have hx := List.getElem?_eq_getElem (show k < d.halves.length by omega)
              have hki : (k : Int) < d.halves.length := by omega
              have hz := hd.zh (by intro e; rw [e] at hki; simp at hki; omega)
              have hs := hd.nh _ (List.mem_of_getElem? hx)
              rw [names_succ hx, ← S_snoc]
              have hln : (names (d.halves.take k)).length = k := by simp [names]; omega
              have ha := fun B => append_step (X := tabX) (t := 80) (e := 9) (sz := 1) (T [] d.cards.length) k B (zT 1 k) 1 1 (S (names (d.halves.take k))) [.str d.halves[k].name] (by simp only [go_sem, ↓reduceIte, Nat.reduceBEq, Nat.reduceEqDiff, Nat.reduceLT, Nat.reduceLeDiff, Nat.reduceAdd, Nat.reduceMul, Nat.reduceSub, reduceCtorEq, Int.reduceLT, Int.reduceLE, Int.reduceEq, Int.reduceBEq, Int.reduceBNe, Int.reduceToNat, Int.reduceAdd, Int.reduceNeg, Int.reduceSub]) (by simp only [go_sem, ↓reduceIte, Nat.reduceBEq, Nat.reduceEqDiff, Nat.reduceLT, Nat.reduceLeDiff, Nat.reduceAdd, Nat.reduceMul, Nat.reduceSub, reduceCtorEq, Int.reduceLT, Int.reduceLE, Int.reduceEq, Int.reduceBEq, Int.reduceBNe, Int.reduceToNat, Int.reduceAdd, Int.reduceNeg, Int.reduceSub])
                (by rcases Nat.eq_zero_or_pos k with e | e; exact .inl ⟨e, by rw [e]; simp [names, S]⟩; exact .inr (zT_pos e)) (.inl rfl) (by omega) (by simp only [go_sem, ↓reduceIte, Nat.reduceBEq, Nat.reduceEqDiff, Nat.reduceLT, Nat.reduceLeDiff, Nat.reduceAdd, Nat.reduceMul, Nat.reduceSub, reduceCtorEq, Int.reduceLT, Int.reduceLE, Int.reduceEq, Int.reduceBEq, Int.reduceBNe, Int.reduceToNat, Int.reduceAdd, Int.reduceNeg, Int.reduceSub, hln]; omega) (by simp only [go_sem, ↓reduceIte, Nat.reduceBEq, Nat.reduceEqDiff, Nat.reduceLT, Nat.reduceLeDiff, Nat.reduceAdd, Nat.reduceMul, Nat.reduceSub, reduceCtorEq, Int.reduceLT, Int.reduceLE, Int.reduceEq, Int.reduceBEq, Int.reduceBNe, Int.reduceToNat, Int.reduceAdd, Int.reduceNeg, Int.reduceSub, hln]; omega) (by simp only [go_sem, ↓reduceIte, Nat.reduceBEq, Nat.reduceEqDiff, Nat.reduceLT, Nat.reduceLeDiff, Nat.reduceAdd, Nat.reduceMul, Nat.reduceSub, reduceCtorEq, Int.reduceLT, Int.reduceLE, Int.reduceEq, Int.reduceBEq, Int.reduceBNe, Int.reduceToNat, Int.reduceAdd, Int.reduceNeg, Int.reduceSub]) (by simp only [go_sem, ↓reduceIte, Nat.reduceBEq, Nat.reduceEqDiff, Nat.reduceLT, Nat.reduceLeDiff, Nat.reduceAdd, Nat.reduceMul, Nat.reduceSub, reduceCtorEq, Int.reduceLT, Int.reduceLE, Int.reduceEq, Int.reduceBEq, Int.reduceBNe, Int.reduceToNat, Int.reduceAdd, Int.reduceNeg, Int.reduceSub])
              have hf := c58 (names (d.halves.take k)) d.halves[k].name (zT 1 k) (fun hne => zT_pos (by rcases Nat.eq_zero_or_pos k with e | e; rw [e] at hne; simp [names] at hne; exact e)) (by omega) hs.1
              have h59 := c59 d.halves[k].edge (-1) 1 (fun _ => rfl) hs.2
              have h0 := hlt k (by omega) (by omega)
              simp only [eDc]
              rcases flawE_cases hx (out d.least d.steps) (-1) with ⟨e1, e⟩ | ⟨e1, e2, e⟩ | ⟨e1, e2, e3, e⟩ | ⟨e1, e2, e3, e4, e⟩ | ⟨e1, e2, e3, e4, e⟩
              · rw [e] at h0; cases h0
              · rw [e] at h0; cases h0
              · rw [e] at h0; cases h0
              · rw [e] at h0; cases h0
              · rw [← names_any] at e2
                have li : inR (d.halves[k].edge.length : Int) d.least d.steps = true := by rw [← out_not, e3]; rfl
                simp (disch := omega) only [go_sem, ↓reduceIte, Nat.reduceBEq, Nat.reduceEqDiff, Nat.reduceLT, Nat.reduceLeDiff, Nat.reduceAdd, Nat.reduceMul, Nat.reduceSub, reduceCtorEq, Int.reduceLT, Int.reduceLE, Int.reduceEq, Int.reduceBEq, Int.reduceBNe, Int.reduceToNat, Int.reduceAdd, Int.reduceNeg, Int.reduceSub, hki, eC_get, hx, hz, eC, ha, hf, fresh, e1, e2, e3, e4, h59, eC_under, wrap_i64, c42, li]
            · have hx := List.getElem?_eq_getElem (show n < d.halves.length by omega)
              have hki : (n : Int) < d.halves.length := by omega
              have hz := hd.zh (by intro e; rw [e] at hki; simp at hki; omega)
              have hs := hd.nh _ (List.mem_of_getElem? hx)
              rw [names_succ hx, ← S_snoc]
              have hln : (names (d.halves.take n)).length = n := by simp [names]; omega
              have ha := fun B => append_step (X := tabX) (t := 80) (e := 9) (sz := 1) (T [] d.cards.length) n B (zT 1 n) 1 1 (S (names (d.halves.take n))) [.str d.halves[n].name] (by simp only [go_sem, ↓reduceIte, Nat.reduceBEq, Nat.reduceEqDiff, Nat.reduceLT, Nat.reduceLeDiff, Nat.reduceAdd, Nat.reduceMul, Nat.reduceSub, reduceCtorEq, Int.reduceLT, Int.reduceLE, Int.reduceEq, Int.reduceBEq, Int.reduceBNe, Int.reduceToNat, Int.reduceAdd, Int.reduceNeg, Int.reduceSub]) (by simp only [go_sem, ↓reduceIte, Nat.reduceBEq, Nat.reduceEqDiff, Nat.reduceLT, Nat.reduceLeDiff, Nat.reduceAdd, Nat.reduceMul, Nat.reduceSub, reduceCtorEq, Int.reduceLT, Int.reduceLE, Int.reduceEq, Int.reduceBEq, Int.reduceBNe, Int.reduceToNat, Int.reduceAdd, Int.reduceNeg, Int.reduceSub])
                (by rcases Nat.eq_zero_or_pos n with e | e; exact .inl ⟨e, by rw [e]; simp [names, S]⟩; exact .inr (zT_pos e)) (.inl rfl) (by omega) (by simp only [go_sem, ↓reduceIte, Nat.reduceBEq, Nat.reduceEqDiff, Nat.reduceLT, Nat.reduceLeDiff, Nat.reduceAdd, Nat.reduceMul, Nat.reduceSub, reduceCtorEq, Int.reduceLT, Int.reduceLE, Int.reduceEq, Int.reduceBEq, Int.reduceBNe, Int.reduceToNat, Int.reduceAdd, Int.reduceNeg, Int.reduceSub, hln]; omega) (by simp only [go_sem, ↓reduceIte, Nat.reduceBEq, Nat.reduceEqDiff, Nat.reduceLT, Nat.reduceLeDiff, Nat.reduceAdd, Nat.reduceMul, Nat.reduceSub, reduceCtorEq, Int.reduceLT, Int.reduceLE, Int.reduceEq, Int.reduceBEq, Int.reduceBNe, Int.reduceToNat, Int.reduceAdd, Int.reduceNeg, Int.reduceSub, hln]; omega) (by simp only [go_sem, ↓reduceIte, Nat.reduceBEq, Nat.reduceEqDiff, Nat.reduceLT, Nat.reduceLeDiff, Nat.reduceAdd, Nat.reduceMul, Nat.reduceSub, reduceCtorEq, Int.reduceLT, Int.reduceLE, Int.reduceEq, Int.reduceBEq, Int.reduceBNe, Int.reduceToNat, Int.reduceAdd, Int.reduceNeg, Int.reduceSub]) (by simp only [go_sem, ↓reduceIte, Nat.reduceBEq, Nat.reduceEqDiff, Nat.reduceLT, Nat.reduceLeDiff, Nat.reduceAdd, Nat.reduceMul, Nat.reduceSub, reduceCtorEq, Int.reduceLT, Int.reduceLE, Int.reduceEq, Int.reduceBEq, Int.reduceBNe, Int.reduceToNat, Int.reduceAdd, Int.reduceNeg, Int.reduceSub])
              have hf := c58 (names (d.halves.take n)) d.halves[n].name (zT 1 n) (fun hne => zT_pos (by rcases Nat.eq_zero_or_pos n with e | e; rw [e] at hne; simp [names] at hne; exact e)) (by omega) hs.1
              have h59 := c59 d.halves[n].edge (-1) 1 (fun _ => rfl) hs.2
              simp only [eDc]
              rcases flawE_cases hx (out d.least d.steps) (-1) with ⟨e1, e⟩ | ⟨e1, e2, e⟩ | ⟨e1, e2, e3, e⟩ | ⟨e1, e2, e3, e4, e⟩ | ⟨e1, e2, e3, e4, e⟩
              · simp (disch := omega) only [go_sem, ↓reduceIte, Nat.reduceBEq, Nat.reduceEqDiff, Nat.reduceLT, Nat.reduceLeDiff, Nat.reduceAdd, Nat.reduceMul, Nat.reduceSub, reduceCtorEq, Int.reduceLT, Int.reduceLE, Int.reduceEq, Int.reduceBEq, Int.reduceBNe, Int.reduceToNat, Int.reduceAdd, Int.reduceNeg, Int.reduceSub, hki, eC_get, hx, hz, eC, ha, hf, fresh, e1, e, h59, eC_under, wrap_i64, c42]
              · rw [← names_any] at e2
                simp (disch := omega) only [go_sem, ↓reduceIte, Nat.reduceBEq, Nat.reduceEqDiff, Nat.reduceLT, Nat.reduceLeDiff, Nat.reduceAdd, Nat.reduceMul, Nat.reduceSub, reduceCtorEq, Int.reduceLT, Int.reduceLE, Int.reduceEq, Int.reduceBEq, Int.reduceBNe, Int.reduceToNat, Int.reduceAdd, Int.reduceNeg, Int.reduceSub, hki, eC_get, hx, hz, eC, ha, hf, fresh, e1, e2, e, h59, eC_under, wrap_i64, c42]
              · rw [← names_any] at e2
                have li : inR (d.halves[n].edge.length : Int) d.least d.steps = false := by rw [← out_not, e3]; rfl
                simp (disch := omega) only [go_sem, ↓reduceIte, Nat.reduceBEq, Nat.reduceEqDiff, Nat.reduceLT, Nat.reduceLeDiff, Nat.reduceAdd, Nat.reduceMul, Nat.reduceSub, reduceCtorEq, Int.reduceLT, Int.reduceLE, Int.reduceEq, Int.reduceBEq, Int.reduceBNe, Int.reduceToNat, Int.reduceAdd, Int.reduceNeg, Int.reduceSub, hki, eC_get, hx, hz, eC, ha, hf, fresh, e1, e2, e3, e, h59, eC_under, wrap_i64, c42, li]
              · rw [← names_any] at e2
                have li : inR (d.halves[n].edge.length : Int) d.least d.steps = true := by rw [← out_not, e3]; rfl
                simp (disch := omega) only [go_sem, ↓reduceIte, Nat.reduceBEq, Nat.reduceEqDiff, Nat.reduceLT, Nat.reduceLeDiff, Nat.reduceAdd, Nat.reduceMul, Nat.reduceSub, reduceCtorEq, Int.reduceLT, Int.reduceLE, Int.reduceEq, Int.reduceBEq, Int.reduceBNe, Int.reduceToNat, Int.reduceAdd, Int.reduceNeg, Int.reduceSub, hki, eC_get, hx, hz, eC, ha, hf, fresh, e1, e2, e3, e4, e, h59, eC_under, wrap_i64, c42, li]
              · exact absurd e hen
            simp only [go_sem, ↓reduceIte, Nat.reduceBEq, Nat.reduceEqDiff, Nat.reduceLT, Nat.reduceLeDiff, Nat.reduceAdd, Nat.reduceMul, Nat.reduceSub, reduceCtorEq, Int.reduceLT, Int.reduceLE, Int.reduceEq, Int.reduceBEq, Int.reduceBNe, Int.reduceToNat, Int.reduceAdd, Int.reduceNeg, Int.reduceSub, tup3]
          | none =>
            rw [checkT6 h1 h2 h3 h4 h5]
            rw [w_rounds_h (fun k => [(5, .lst (tagT (T [] d.cards.length) k) (zT 1 k) (S (names (d.halves.take k)))), (8, .int .i64 k)]) (fun k => ⟨[.cells (eDc d)], T (T [] d.cards.length) k⟩) d.halves.length (.exit 2) [(5, .lst (tagT (T [] d.cards.length) d.halves.length) (zT 1 d.halves.length) (S (names d.halves))), (8, .int .i64 d.halves.length)] ⟨[.cells (eDc d)], T (T [] d.cards.length) d.halves.length⟩ ?_ ?_ ?_ ?_ rfl]
            rotate_left
            · simp only [go_sem, ↓reduceIte, Nat.reduceBEq, Nat.reduceEqDiff, Nat.reduceLT, Nat.reduceLeDiff, Nat.reduceAdd, Nat.reduceMul, Nat.reduceSub, reduceCtorEq, Int.reduceLT, Int.reduceLE, Int.reduceEq, Int.reduceBEq, Int.reduceBNe, Int.reduceToNat, Int.reduceAdd, Int.reduceNeg, Int.reduceSub, names]
            · simp only [go_sem, ↓reduceIte, Nat.reduceBEq, Nat.reduceEqDiff, Nat.reduceLT, Nat.reduceLeDiff, Nat.reduceAdd, Nat.reduceMul, Nat.reduceSub, reduceCtorEq, Int.reduceLT, Int.reduceLE, Int.reduceEq, Int.reduceBEq, Int.reduceBNe, Int.reduceToNat, Int.reduceAdd, Int.reduceNeg, Int.reduceSub, eDc]
            · intro k hk
              have hx := List.getElem?_eq_getElem (show k < d.halves.length by omega)
              have hki : (k : Int) < d.halves.length := by omega
              have hz := hd.zh (by intro e; rw [e] at hki; simp at hki; omega)
              have hs := hd.nh _ (List.mem_of_getElem? hx)
              rw [names_succ hx, ← S_snoc]
              have hln : (names (d.halves.take k)).length = k := by simp [names]; omega
              have ha := fun B => append_step (X := tabX) (t := 80) (e := 9) (sz := 1) (T [] d.cards.length) k B (zT 1 k) 1 1 (S (names (d.halves.take k))) [.str d.halves[k].name] (by simp only [go_sem, ↓reduceIte, Nat.reduceBEq, Nat.reduceEqDiff, Nat.reduceLT, Nat.reduceLeDiff, Nat.reduceAdd, Nat.reduceMul, Nat.reduceSub, reduceCtorEq, Int.reduceLT, Int.reduceLE, Int.reduceEq, Int.reduceBEq, Int.reduceBNe, Int.reduceToNat, Int.reduceAdd, Int.reduceNeg, Int.reduceSub]) (by simp only [go_sem, ↓reduceIte, Nat.reduceBEq, Nat.reduceEqDiff, Nat.reduceLT, Nat.reduceLeDiff, Nat.reduceAdd, Nat.reduceMul, Nat.reduceSub, reduceCtorEq, Int.reduceLT, Int.reduceLE, Int.reduceEq, Int.reduceBEq, Int.reduceBNe, Int.reduceToNat, Int.reduceAdd, Int.reduceNeg, Int.reduceSub])
                (by rcases Nat.eq_zero_or_pos k with e | e; exact .inl ⟨e, by rw [e]; simp [names, S]⟩; exact .inr (zT_pos e)) (.inl rfl) (by omega) (by simp only [go_sem, ↓reduceIte, Nat.reduceBEq, Nat.reduceEqDiff, Nat.reduceLT, Nat.reduceLeDiff, Nat.reduceAdd, Nat.reduceMul, Nat.reduceSub, reduceCtorEq, Int.reduceLT, Int.reduceLE, Int.reduceEq, Int.reduceBEq, Int.reduceBNe, Int.reduceToNat, Int.reduceAdd, Int.reduceNeg, Int.reduceSub, hln]; omega) (by simp only [go_sem, ↓reduceIte, Nat.reduceBEq, Nat.reduceEqDiff, Nat.reduceLT, Nat.reduceLeDiff, Nat.reduceAdd, Nat.reduceMul, Nat.reduceSub, reduceCtorEq, Int.reduceLT, Int.reduceLE, Int.reduceEq, Int.reduceBEq, Int.reduceBNe, Int.reduceToNat, Int.reduceAdd, Int.reduceNeg, Int.reduceSub, hln]; omega) (by simp only [go_sem, ↓reduceIte, Nat.reduceBEq, Nat.reduceEqDiff, Nat.reduceLT, Nat.reduceLeDiff, Nat.reduceAdd, Nat.reduceMul, Nat.reduceSub, reduceCtorEq, Int.reduceLT, Int.reduceLE, Int.reduceEq, Int.reduceBEq, Int.reduceBNe, Int.reduceToNat, Int.reduceAdd, Int.reduceNeg, Int.reduceSub]) (by simp only [go_sem, ↓reduceIte, Nat.reduceBEq, Nat.reduceEqDiff, Nat.reduceLT, Nat.reduceLeDiff, Nat.reduceAdd, Nat.reduceMul, Nat.reduceSub, reduceCtorEq, Int.reduceLT, Int.reduceLE, Int.reduceEq, Int.reduceBEq, Int.reduceBNe, Int.reduceToNat, Int.reduceAdd, Int.reduceNeg, Int.reduceSub])
              have hf := c58 (names (d.halves.take k)) d.halves[k].name (zT 1 k) (fun hne => zT_pos (by rcases Nat.eq_zero_or_pos k with e | e; rw [e] at hne; simp [names] at hne; exact e)) (by omega) hs.1
              have h59 := c59 d.halves[k].edge (-1) 1 (fun _ => rfl) hs.2
              have h0 := firstBad_none h5 k (by omega) (by omega)
              simp only [eDc]
              rcases flawE_cases hx (out d.least d.steps) (-1) with ⟨e1, e⟩ | ⟨e1, e2, e⟩ | ⟨e1, e2, e3, e⟩ | ⟨e1, e2, e3, e4, e⟩ | ⟨e1, e2, e3, e4, e⟩
              · rw [e] at h0; cases h0
              · rw [e] at h0; cases h0
              · rw [e] at h0; cases h0
              · rw [e] at h0; cases h0
              · rw [← names_any] at e2
                have li : inR (d.halves[k].edge.length : Int) d.least d.steps = true := by rw [← out_not, e3]; rfl
                simp (disch := omega) only [go_sem, ↓reduceIte, Nat.reduceBEq, Nat.reduceEqDiff, Nat.reduceLT, Nat.reduceLeDiff, Nat.reduceAdd, Nat.reduceMul, Nat.reduceSub, reduceCtorEq, Int.reduceLT, Int.reduceLE, Int.reduceEq, Int.reduceBEq, Int.reduceBNe, Int.reduceToNat, Int.reduceAdd, Int.reduceNeg, Int.reduceSub, hki, eC_get, hx, hz, eC, ha, hf, fresh, e1, e2, e3, e4, h59, eC_under, wrap_i64, c42, li]
            · simp only [go_sem, ↓reduceIte, Nat.reduceBEq, Nat.reduceEqDiff, Nat.reduceLT, Nat.reduceLeDiff, Nat.reduceAdd, Nat.reduceMul, Nat.reduceSub, reduceCtorEq, Int.reduceLT, Int.reduceLE, Int.reduceEq, Int.reduceBEq, Int.reduceBNe, Int.reduceToNat, Int.reduceAdd, Int.reduceNeg, Int.reduceSub, Int.lt_irrefl, eDc]
            simp only [go_sem, ↓reduceIte, Nat.reduceBEq, Nat.reduceEqDiff, Nat.reduceLT, Nat.reduceLeDiff, Nat.reduceAdd, Nat.reduceMul, Nat.reduceSub, reduceCtorEq, Int.reduceLT, Int.reduceLE, Int.reduceEq, Int.reduceBEq, Int.reduceBNe, Int.reduceToNat, Int.reduceAdd, Int.reduceNeg, Int.reduceSub, tup3]
end Go.Proofs.Ytbfodfepgefloaa
end
section
namespace Go.Proofs.Ytbfodfepgefloaa
open Go.Proofs

def allTo (p : Nat → Bool) (n : Nat) : Bool := (List.range n).all p
theorem allTo_succ (p : Nat → Bool) (n : Nat) : allTo p (n + 1) = (allTo p n && p n) := by simp [allTo, List.range_succ]
theorem allTo_zero (p : Nat → Bool) : allTo p 0 = true := rfl
theorem allTo_at {p : Nat → Bool} {n k : Nat} (h : allTo p n = true) (hk : k < n) : p k = true := by
  unfold allTo at h
  rw [List.all_eq_true] at h
  exact h k (by simpa using hk)
theorem allTo_false {p : Nat → Bool} : ∀ {n : Nat}, allTo p n = false → ∃ k, k < n ∧ allTo p k = true ∧ p k = false
  | 0, h => by simp [allTo] at h
  | n + 1, h => by
    cases h1 : allTo p n with
    | false => obtain ⟨k, a, b⟩ := allTo_false h1; exact ⟨k, by omega, b⟩
    | true => rw [allTo_succ, h1] at h; exact ⟨n, by omega, h1, by simpa using h⟩

theorem eC_clean (l : List Card) : cleanL (l.map eC) = some (l.map eC) := cleanL_map (fun x => by simp only [eC, go_sem, ↓reduceIte, Nat.reduceBEq, Nat.reduceEqDiff, Nat.reduceLT, Nat.reduceLeDiff, Nat.reduceAdd, Nat.reduceMul, Nat.reduceSub, reduceCtorEq, Int.reduceLT, Int.reduceLE, Int.reduceEq, Int.reduceBEq, Int.reduceBNe, Int.reduceToNat, Int.reduceAdd, Int.reduceNeg, Int.reduceSub]) l
theorem eD_clean (d : Dr) : (eD d).clean = some (eD d) := by simp only [eD, eDc, go_sem, ↓reduceIte, Nat.reduceBEq, Nat.reduceEqDiff, Nat.reduceLT, Nat.reduceLeDiff, Nat.reduceAdd, Nat.reduceMul, Nat.reduceSub, reduceCtorEq, Int.reduceLT, Int.reduceLE, Int.reduceEq, Int.reduceBEq, Int.reduceBNe, Int.reduceToNat, Int.reduceAdd, Int.reduceNeg, Int.reduceSub, eC_clean]
/-- The error of a drawer, and of an index below a number. -/
def askedE (d : Dr) (n below : Int) : Int := if (checkT d).2.2 = 0 then (if inR n 0 (below - 1) then 0 else 4) else (checkT d).2.2
theorem c61 (d : Dr) (hd : d.fits) (n below : Int) (hb : 0 ≤ below ∧ below < 1000000000000000000) (h : Heap) : callPure (EW tabX) 61 [eD d, .int .i64 n, .int .i64 below] h = some (.int .i64 (askedE d n below), h) := by
  have h17 := c17 d hd
  rw [callPure_eq, w_call _ fn_61 rfl]
  have hcl := eD_clean d
  by_cases he : (checkT d).2.2 = 0
  · have he' : ((checkT d).2.2 == 0) = true := by simpa using he
    cases hi : inR n 0 (below - 1) with
    | true => simp (disch := omega) only [go_sem, ↓reduceIte, Nat.reduceBEq, Nat.reduceEqDiff, Nat.reduceLT, Nat.reduceLeDiff, Nat.reduceAdd, Nat.reduceMul, Nat.reduceSub, reduceCtorEq, Int.reduceLT, Int.reduceLE, Int.reduceEq, Int.reduceBEq, Int.reduceBNe, Int.reduceToNat, Int.reduceAdd, Int.reduceNeg, Int.reduceSub, eD, eDc, eC_under] at h17 hcl ⊢; simp (disch := omega) only [go_sem, ↓reduceIte, Nat.reduceBEq, Nat.reduceEqDiff, Nat.reduceLT, Nat.reduceLeDiff, Nat.reduceAdd, Nat.reduceMul, Nat.reduceSub, reduceCtorEq, Int.reduceLT, Int.reduceLE, Int.reduceEq, Int.reduceBEq, Int.reduceBNe, Int.reduceToNat, Int.reduceAdd, Int.reduceNeg, Int.reduceSub, h17, hcl, tup3, c42, hi, he', he, wrap_i64, askedE]
    | false => simp (disch := omega) only [go_sem, ↓reduceIte, Nat.reduceBEq, Nat.reduceEqDiff, Nat.reduceLT, Nat.reduceLeDiff, Nat.reduceAdd, Nat.reduceMul, Nat.reduceSub, reduceCtorEq, Int.reduceLT, Int.reduceLE, Int.reduceEq, Int.reduceBEq, Int.reduceBNe, Int.reduceToNat, Int.reduceAdd, Int.reduceNeg, Int.reduceSub, eD, eDc, eC_under] at h17 hcl ⊢; simp (disch := omega) only [go_sem, ↓reduceIte, Nat.reduceBEq, Nat.reduceEqDiff, Nat.reduceLT, Nat.reduceLeDiff, Nat.reduceAdd, Nat.reduceMul, Nat.reduceSub, reduceCtorEq, Int.reduceLT, Int.reduceLE, Int.reduceEq, Int.reduceBEq, Int.reduceBNe, Int.reduceToNat, Int.reduceAdd, Int.reduceNeg, Int.reduceSub, h17, hcl, tup3, c42, hi, he', he, wrap_i64, askedE]
  · have he' : ((checkT d).2.2 == 0) = false := by simpa using he
    simp (disch := omega) only [go_sem, ↓reduceIte, Nat.reduceBEq, Nat.reduceEqDiff, Nat.reduceLT, Nat.reduceLeDiff, Nat.reduceAdd, Nat.reduceMul, Nat.reduceSub, reduceCtorEq, Int.reduceLT, Int.reduceLE, Int.reduceEq, Int.reduceBEq, Int.reduceBNe, Int.reduceToNat, Int.reduceAdd, Int.reduceNeg, Int.reduceSub, eD, eDc, eC_under] at h17 hcl ⊢; simp (disch := omega) only [go_sem, ↓reduceIte, Nat.reduceBEq, Nat.reduceEqDiff, Nat.reduceLT, Nat.reduceLeDiff, Nat.reduceAdd, Nat.reduceMul, Nat.reduceSub, reduceCtorEq, Int.reduceLT, Int.reduceLE, Int.reduceEq, Int.reduceBEq, Int.reduceBNe, Int.reduceToNat, Int.reduceAdd, Int.reduceNeg, Int.reduceSub, h17, hcl, tup3, c42, he', he, wrap_i64, askedE]

def fit1 (wear c h : Int) : Bool := h == -1 || inR (c - h) 0 wear
def besideB (wear : Int) (card half : List Int) (at0 : Nat) : Bool := decide (at0 + half.length ≤ card.length) && allTo (fun i => fit1 wear (card.getD (at0 + i) 0) (half.getD i 0)) half.length
/-- Heights of a valid drawer. -/
def Low (l : List Int) : Prop := ∀ n ∈ l, -1 ≤ n ∧ n ≤ 9
theorem Low.get {l : List Int} (h : Low l) {k : Nat} (hk : k < l.length) : -1 ≤ l[k] ∧ l[k] ≤ 9 := h _ (List.getElem_mem hk)

theorem c67 (d : Dr) (card half : List Int) (at0 : Nat) (hc : Low card) (hh : Low half) (lc : card.length < 1000000000000000000) (lh : half.length < 1000000000000000000) (la : at0 < 1000000000000000000) (h : Heap) :
    callPure (EW tabX) 67 [eD d, .lst 0 1 (I card), .lst 0 1 (I half), .int .i64 at0] h = some (.bool (besideB d.wear card half at0), h) := by
  rw [callPure_eq, w_call _ fn_67 rfl]
  by_cases h1 : at0 + half.length ≤ card.length
  · have h1i : ¬ (card.length : Int) < (at0 : Int) + half.length := by omega
    simp (disch := omega) only [go_sem, ↓reduceIte, Nat.reduceBEq, Nat.reduceEqDiff, Nat.reduceLT, Nat.reduceLeDiff, Nat.reduceAdd, Nat.reduceMul, Nat.reduceSub, reduceCtorEq, Int.reduceLT, Int.reduceLE, Int.reduceEq, Int.reduceBEq, Int.reduceBNe, Int.reduceToNat, Int.reduceAdd, Int.reduceNeg, Int.reduceSub, eD, eDc, eC_under, wrap_i64, h1i]
    have idx : ∀ k, k < half.length → ((at0 : Int) + k < 0) = False ∧ ((at0 : Int) + k).toNat = at0 + k ∧ (k : Int) < half.length ∧ card[at0 + k]? = some (card.getD (at0 + k) 0) ∧ half[k]? = some (half.getD k 0) ∧ -1 ≤ card.getD (at0 + k) 0 ∧ card.getD (at0 + k) 0 ≤ 9 ∧ -1 ≤ half.getD k 0 ∧ half.getD k 0 ≤ 9 := fun k hk => by
      have hk2 : at0 + k < card.length := by omega
      have a := hc.get hk2
      have b := hh.get hk
      have e1 : card.getD (at0 + k) 0 = card[at0 + k] := by simp [hk2]
      have e2 : half.getD k 0 = half[k] := by simp [hk]
      rw [e1, e2]
      refine ⟨by simp; omega, by omega, by omega, by simp, by simp, a.1, a.2, b.1, b.2⟩
    cases ho : allTo (fun i => fit1 d.wear (card.getD (at0 + i) 0) (half.getD i 0)) half.length with
    | true =>
      rw [w_rounds_u (fun k => [(9, .int .i64 k)]) half.length (.exit 0) [(9, .int .i64 half.length)] ?_ ?_ ?_ rfl]
      · simp only [go_sem, ↓reduceIte, Nat.reduceBEq, Nat.reduceEqDiff, Nat.reduceLT, Nat.reduceLeDiff, Nat.reduceAdd, Nat.reduceMul, Nat.reduceSub, reduceCtorEq, Int.reduceLT, Int.reduceLE, Int.reduceEq, Int.reduceBEq, Int.reduceBNe, Int.reduceToNat, Int.reduceAdd, Int.reduceNeg, Int.reduceSub, besideB, h1, ho]
      · simp only [go_sem, ↓reduceIte, Nat.reduceBEq, Nat.reduceEqDiff, Nat.reduceLT, Nat.reduceLeDiff, Nat.reduceAdd, Nat.reduceMul, Nat.reduceSub, reduceCtorEq, Int.reduceLT, Int.reduceLE, Int.reduceEq, Int.reduceBEq, Int.reduceBNe, Int.reduceToNat, Int.reduceAdd, Int.reduceNeg, Int.reduceSub]
      · intro k hk
        obtain ⟨i1, i2, i3, i4, i5, i6, i7, i8, i9⟩ := idx k hk
        have hf := allTo_at ho hk
        have ht : (half.getD k 0 != -1 && !inR (card.getD (at0 + k) 0 - half.getD k 0) 0 d.wear) = false := by
          simp only [fit1] at hf
          simp only [bne]
          revert hf
          cases (half.getD k 0 == -1) <;> cases inR (card.getD (at0 + k) 0 - half.getD k 0) 0 d.wear <;> simp
        simp (disch := omega) only [go_sem, ↓reduceIte, Nat.reduceBEq, Nat.reduceEqDiff, Nat.reduceLT, Nat.reduceLeDiff, Nat.reduceAdd, Nat.reduceMul, Nat.reduceSub, reduceCtorEq, Int.reduceLT, Int.reduceLE, Int.reduceEq, Int.reduceBEq, Int.reduceBNe, Int.reduceToNat, Int.reduceAdd, Int.reduceNeg, Int.reduceSub, wrap_i64, i1, i2, i3, i4, i5, c42, ht]
      · simp only [go_sem, ↓reduceIte, Nat.reduceBEq, Nat.reduceEqDiff, Nat.reduceLT, Nat.reduceLeDiff, Nat.reduceAdd, Nat.reduceMul, Nat.reduceSub, reduceCtorEq, Int.reduceLT, Int.reduceLE, Int.reduceEq, Int.reduceBEq, Int.reduceBNe, Int.reduceToNat, Int.reduceAdd, Int.reduceNeg, Int.reduceSub, Int.lt_irrefl]
    | false =>
      obtain ⟨n, hn, h2, h3⟩ := allTo_false ho
      rw [w_rounds_u (fun k => [(9, .int .i64 k)]) n .ret [(8, .bool false), (9, .int .i64 n)] ?_ ?_ ?_ rfl]
      · simp only [go_sem, ↓reduceIte, Nat.reduceBEq, Nat.reduceEqDiff, Nat.reduceLT, Nat.reduceLeDiff, Nat.reduceAdd, Nat.reduceMul, Nat.reduceSub, reduceCtorEq, Int.reduceLT, Int.reduceLE, Int.reduceEq, Int.reduceBEq, Int.reduceBNe, Int.reduceToNat, Int.reduceAdd, Int.reduceNeg, Int.reduceSub, besideB, ho]
      · simp only [go_sem, ↓reduceIte, Nat.reduceBEq, Nat.reduceEqDiff, Nat.reduceLT, Nat.reduceLeDiff, Nat.reduceAdd, Nat.reduceMul, Nat.reduceSub, reduceCtorEq, Int.reduceLT, Int.reduceLE, Int.reduceEq, Int.reduceBEq, Int.reduceBNe, Int.reduceToNat, Int.reduceAdd, Int.reduceNeg, Int.reduceSub]
      · intro k hk
        obtain ⟨i1, i2, i3, i4, i5, i6, i7, i8, i9⟩ := idx k (by omega)
        have hf := allTo_at h2 hk
        have ht : (half.getD k 0 != -1 && !inR (card.getD (at0 + k) 0 - half.getD k 0) 0 d.wear) = false := by
          simp only [fit1] at hf
          simp only [bne]
          revert hf
          cases (half.getD k 0 == -1) <;> cases inR (card.getD (at0 + k) 0 - half.getD k 0) 0 d.wear <;> simp
        simp (disch := omega) only [go_sem, ↓reduceIte, Nat.reduceBEq, Nat.reduceEqDiff, Nat.reduceLT, Nat.reduceLeDiff, Nat.reduceAdd, Nat.reduceMul, Nat.reduceSub, reduceCtorEq, Int.reduceLT, Int.reduceLE, Int.reduceEq, Int.reduceBEq, Int.reduceBNe, Int.reduceToNat, Int.reduceAdd, Int.reduceNeg, Int.reduceSub, wrap_i64, i1, i2, i3, i4, i5, c42, ht]
      · obtain ⟨i1, i2, i3, i4, i5, i6, i7, i8, i9⟩ := idx n hn
        have ht : (half.getD n 0 != -1 && !inR (card.getD (at0 + n) 0 - half.getD n 0) 0 d.wear) = true := by
          simp only [fit1] at h3
          simp only [bne]
          revert h3
          cases (half.getD n 0 == -1) <;> cases inR (card.getD (at0 + n) 0 - half.getD n 0) 0 d.wear <;> simp
        simp (disch := omega) only [go_sem, ↓reduceIte, Nat.reduceBEq, Nat.reduceEqDiff, Nat.reduceLT, Nat.reduceLeDiff, Nat.reduceAdd, Nat.reduceMul, Nat.reduceSub, reduceCtorEq, Int.reduceLT, Int.reduceLE, Int.reduceEq, Int.reduceBEq, Int.reduceBNe, Int.reduceToNat, Int.reduceAdd, Int.reduceNeg, Int.reduceSub, wrap_i64, i1, i2, i3, i4, i5, c42, ht]
  · have h1i : (card.length : Int) < (at0 : Int) + half.length := by omega
    simp (disch := omega) only [go_sem, ↓reduceIte, Nat.reduceBEq, Nat.reduceEqDiff, Nat.reduceLT, Nat.reduceLeDiff, Nat.reduceAdd, Nat.reduceMul, Nat.reduceSub, reduceCtorEq, Int.reduceLT, Int.reduceLE, Int.reduceEq, Int.reduceBEq, Int.reduceBNe, Int.reduceToNat, Int.reduceAdd, Int.reduceNeg, Int.reduceSub, eD, eDc, eC_under, wrap_i64, h1i, besideB, h1]
end Go.Proofs.Ytbfodfepgefloaa
end
section
namespace Go.Proofs.Ytbfodfepgefloaa
open Go.Proofs

/-- What is known of a valid drawer. -/
structure Dr.Ok (d : Dr) : Prop where
  s1 : 1 ≤ d.steps
  s6 : d.steps ≤ 6
  l1 : 1 ≤ d.least
  ls : d.least ≤ d.steps
  w0 : 0 ≤ d.wear
  w9 : d.wear ≤ 9
  c4 : d.cards.length ≤ 4
  h4 : d.halves.length ≤ 4
  ce : ∀ c ∈ d.cards, (c.edge.length : Int) = d.steps ∧ ∀ n ∈ c.edge, 0 ≤ n ∧ n ≤ 9
  he : ∀ c ∈ d.halves, d.least ≤ (c.edge.length : Int) ∧ (c.edge.length : Int) ≤ d.steps ∧ ∀ n ∈ c.edge, -1 ≤ n ∧ n ≤ 9
  cn : ∀ (i j : Nat) (x y : Card), d.cards[i]? = some x → d.cards[j]? = some y → j < i → y.name ≠ x.name
  hn : ∀ (i j : Nat) (x y : Card), d.halves[i]? = some x → d.halves[j]? = some y → j < i → y.name ≠ x.name
  ck : ∀ c ∈ d.cards, nameOk c.name = true
  hk : ∀ c ∈ d.halves, nameOk c.name = true

theorem flawE_fine {l : List Card} {i : Nat} {x : Card} (hx : l[i]? = some x) {long : Int → Bool} {least : Int} (h : flawE l i long least = 0) :
    nameOk x.name = true ∧ (l.take i).any (fun y => y.name == x.name) = false ∧ long x.edge.length = false ∧ (x.edge.all fun n => inR n least 9) = true := by
  rcases flawE_cases hx long least with ⟨_, e⟩ | ⟨_, _, e⟩ | ⟨_, _, _, e⟩ | ⟨_, _, _, _, e⟩ | ⟨e1, e2, e3, e4, _⟩
  · rw [h] at e; cases e
  · rw [h] at e; cases e
  · rw [h] at e; cases e
  · rw [h] at e; cases e
  · exact ⟨e1, e2, e3, e4⟩
theorem ba_beq (a b : ByteArray) : (a == b) = true ↔ a = b := by
  cases a with | mk x => cases b with | mk y =>
  show ByteArray.beq _ _ = true ↔ _
  simp only [ByteArray.beq]
  simp
theorem mem_get {α : Type} {l : List α} {x : α} (h : x ∈ l) : ∃ i, i < l.length ∧ l[i]? = some x := by
  obtain ⟨i, hi, e⟩ := List.mem_iff_getElem.1 h
  exact ⟨i, hi, by rw [← e]; exact List.getElem?_eq_getElem hi⟩
theorem apart {l : List Card} (h : ∀ i x, l[i]? = some x → (l.take i).any (fun y => y.name == x.name) = false) (i j : Nat) (x y : Card) (hx : l[i]? = some x) (hy : l[j]? = some y) (hji : j < i) : y.name ≠ x.name := by
  intro e
  have := h i x hx
  rw [List.any_eq_false] at this
  have hm : y ∈ l.take i := List.mem_of_getElem? (i := j) (by rw [List.getElem?_take_of_lt hji]; exact hy)
  have := this y hm
  exact this ((ba_beq _ _).2 e)

theorem ok_of_check {d : Dr} (h : (checkT d).2.2 = 0) : d.Ok ∧ checkT d = (0, 0, 0) := by
  cases h1 : (out 1 6 d.steps || (out 1 d.steps d.least || out 0 9 d.wear)) with
  | true => rw [checkT1 h1] at h; cases h
  | false =>
    by_cases h2 : 4 < d.cards.length
    · rw [checkT2 h1 h2] at h; cases h
    · cases h3 : firstBad (fun i => flawE d.cards i (· != d.steps) 0) 0 d.cards.length with
      | some i => rw [checkT3 h1 h2 h3] at h; exact absurd h (firstBad_some h3).2.2.1
      | none =>
        by_cases h4 : 4 < d.halves.length
        · rw [checkT4 h1 h2 h3 h4] at h; cases h
        · cases h5 : firstBad (fun i => flawE d.halves i (out d.least d.steps) (-1)) 0 d.halves.length with
          | some i => rw [checkT5 h1 h2 h3 h4 h5] at h; exact absurd h (firstBad_some h5).2.2.1
          | none =>
            have hc : ∀ i x, d.cards[i]? = some x → _ := fun i x hx => flawE_fine hx (firstBad_none h3 i (by omega) (by have := (List.getElem?_eq_some_iff.1 hx).1; omega))
            have hh : ∀ i x, d.halves[i]? = some x → _ := fun i x hx => flawE_fine hx (firstBad_none h5 i (by omega) (by have := (List.getElem?_eq_some_iff.1 hx).1; omega))
            simp only [out, Bool.or_eq_false_iff, decide_eq_false_iff_not] at h1
            refine ⟨⟨by omega, by omega, by omega, by omega, by omega, by omega, by omega, by omega, fun c hm => ?_, fun c hm => ?_, apart fun i x hx => (hc i x hx).2.1, apart fun i x hx => (hh i x hx).2.1, fun c hm => ?_, fun c hm => ?_⟩, checkT6 (by simp [out]; omega) h2 h3 h4 h5⟩
            · obtain ⟨i, _, hi⟩ := mem_get hm
              obtain ⟨_, _, e3, e4⟩ := hc i c hi
              rw [List.all_eq_true] at e4
              exact ⟨by simpa using e3, fun n hn => by have := e4 n hn; simp [inR] at this; exact this⟩
            · obtain ⟨i, _, hi⟩ := mem_get hm
              obtain ⟨_, _, e3, e4⟩ := hh i c hi
              rw [List.all_eq_true] at e4
              simp only [out, Bool.or_eq_false_iff, decide_eq_false_iff_not] at e3
              exact ⟨by omega, by omega, fun n hn => by have := e4 n hn; simp [inR] at this; exact this⟩
            · obtain ⟨i, _, hi⟩ := mem_get hm; exact (hc i c hi).1
            · obtain ⟨i, _, hi⟩ := mem_get hm; exact (hh i c hi).1

/-- A row of numbers that a function hands back. -/
def vI (l : List Int) : AV := .lst 0 (zT 1 l.length) (I l)
theorem vI_nil : vI [] = .lst 0 0 [] := rfl
theorem vI_under (n : Nat) (l : List Int) : (vI l).under n = true := by simp only [vI, go_sem, ↓reduceIte, Nat.reduceBEq, Nat.reduceEqDiff, Nat.reduceLT, Nat.reduceLeDiff, Nat.reduceAdd, Nat.reduceMul, Nat.reduceSub, reduceCtorEq, Int.reduceLT, Int.reduceLE, Int.reduceEq, Int.reduceBEq, Int.reduceBNe, Int.reduceToNat, Int.reduceAdd, Int.reduceNeg, Int.reduceSub]
theorem vI_clean (l : List Int) : (vI l).clean = some (vI l) := by simp only [vI, go_sem, ↓reduceIte, Nat.reduceBEq, Nat.reduceEqDiff, Nat.reduceLT, Nat.reduceLeDiff, Nat.reduceAdd, Nat.reduceMul, Nat.reduceSub, reduceCtorEq, Int.reduceLT, Int.reduceLE, Int.reduceEq, Int.reduceBEq, Int.reduceBNe, Int.reduceToNat, Int.reduceAdd, Int.reduceNeg, Int.reduceSub]
/-- A row of numbers that a function makes by appending: what is owned. -/
def ownI (l : List Int) : AV := .lst (tagT [] l.length) (zT 1 l.length) (I l)
theorem ownI_clean (l : List Int) : (ownI l).clean = some (vI l) := by simp only [ownI, vI, go_sem, ↓reduceIte, Nat.reduceBEq, Nat.reduceEqDiff, Nat.reduceLT, Nat.reduceLeDiff, Nat.reduceAdd, Nat.reduceMul, Nat.reduceSub, reduceCtorEq, Int.reduceLT, Int.reduceLE, Int.reduceEq, Int.reduceBEq, Int.reduceBNe, Int.reduceToNat, Int.reduceAdd, Int.reduceNeg, Int.reduceSub]
theorem ownI_under (n : Nat) (l : List Int) : (ownI l).under n = true := by simp only [ownI, go_sem, ↓reduceIte, Nat.reduceBEq, Nat.reduceEqDiff, Nat.reduceLT, Nat.reduceLeDiff, Nat.reduceAdd, Nat.reduceMul, Nat.reduceSub, reduceCtorEq, Int.reduceLT, Int.reduceLE, Int.reduceEq, Int.reduceBEq, Int.reduceBNe, Int.reduceToNat, Int.reduceAdd, Int.reduceNeg, Int.reduceSub]
theorem ownI_nil : ownI [] = .lst 1 0 [] := rfl
theorem ownI_app (l : List Int) (x : Int) (hl : l.length < 1000) (B : List ABlk) :
    appendAV tabX 29 (T [] l.length).length ⟨B, T [] l.length⟩ (ownI l) (.lst 1 1 [.int .i64 x]) = some (ownI (l ++ [x]), ⟨B, T [] (l ++ [x]).length⟩) := by
  have := append_step (X := tabX) (t := 29) (e := 3) (sz := 1) [] l.length B (zT 1 l.length) 1 1 (I l) [.int .i64 x] (by simp only [go_sem, ↓reduceIte, Nat.reduceBEq, Nat.reduceEqDiff, Nat.reduceLT, Nat.reduceLeDiff, Nat.reduceAdd, Nat.reduceMul, Nat.reduceSub, reduceCtorEq, Int.reduceLT, Int.reduceLE, Int.reduceEq, Int.reduceBEq, Int.reduceBNe, Int.reduceToNat, Int.reduceAdd, Int.reduceNeg, Int.reduceSub]) (by simp only [go_sem, ↓reduceIte, Nat.reduceBEq, Nat.reduceEqDiff, Nat.reduceLT, Nat.reduceLeDiff, Nat.reduceAdd, Nat.reduceMul, Nat.reduceSub, reduceCtorEq, Int.reduceLT, Int.reduceLE, Int.reduceEq, Int.reduceBEq, Int.reduceBNe, Int.reduceToNat, Int.reduceAdd, Int.reduceNeg, Int.reduceSub])
    (by rcases Nat.eq_zero_or_pos l.length with e | e; exact .inl ⟨e, by rw [I_len, e]⟩; exact .inr (zT_pos e)) (.inl rfl) (by omega) (by simp only [go_sem, ↓reduceIte, Nat.reduceBEq, Nat.reduceEqDiff, Nat.reduceLT, Nat.reduceLeDiff, Nat.reduceAdd, Nat.reduceMul, Nat.reduceSub, reduceCtorEq, Int.reduceLT, Int.reduceLE, Int.reduceEq, Int.reduceBEq, Int.reduceBNe, Int.reduceToNat, Int.reduceAdd, Int.reduceNeg, Int.reduceSub]; omega) (by simp only [go_sem, ↓reduceIte, Nat.reduceBEq, Nat.reduceEqDiff, Nat.reduceLT, Nat.reduceLeDiff, Nat.reduceAdd, Nat.reduceMul, Nat.reduceSub, reduceCtorEq, Int.reduceLT, Int.reduceLE, Int.reduceEq, Int.reduceBEq, Int.reduceBNe, Int.reduceToNat, Int.reduceAdd, Int.reduceNeg, Int.reduceSub]; omega) (by simp only [go_sem, ↓reduceIte, Nat.reduceBEq, Nat.reduceEqDiff, Nat.reduceLT, Nat.reduceLeDiff, Nat.reduceAdd, Nat.reduceMul, Nat.reduceSub, reduceCtorEq, Int.reduceLT, Int.reduceLE, Int.reduceEq, Int.reduceBEq, Int.reduceBNe, Int.reduceToNat, Int.reduceAdd, Int.reduceNeg, Int.reduceSub]) (by simp only [go_sem, ↓reduceIte, Nat.reduceBEq, Nat.reduceEqDiff, Nat.reduceLT, Nat.reduceLeDiff, Nat.reduceAdd, Nat.reduceMul, Nat.reduceSub, reduceCtorEq, Int.reduceLT, Int.reduceLE, Int.reduceEq, Int.reduceBEq, Int.reduceBNe, Int.reduceToNat, Int.reduceAdd, Int.reduceNeg, Int.reduceSub])
  have e : (l ++ [x]).length = l.length + 1 := by simp
  rw [ownI, this, ownI, e, I_snoc]; rfl

/-- The steps at which a half fits a card. -/
def fitsL (d : Dr) (card half : Card) (n : Nat) : List Int := ((List.range n).filter fun s => besideB d.wear card.edge half.edge s).map fun (s : Nat) => (s : Int)
theorem fitsL_succ (d : Dr) (card half : Card) (n : Nat) : fitsL d card half (n + 1) = if besideB d.wear card.edge half.edge n = true then fitsL d card half n ++ [(n : Int)] else fitsL d card half n := by
  unfold fitsL
  rw [List.range_succ, List.filter_append, List.map_append]
  cases h : besideB d.wear card.edge half.edge n <;> simp [h]
theorem fitsL_len (d : Dr) (card half : Card) (n : Nat) : (fitsL d card half n).length ≤ n := by
  unfold fitsL; rw [List.length_map]; have := List.length_filter_le (fun s => besideB d.wear card.edge half.edge s) (List.range n); simpa using this

theorem fitsL_zero (d : Dr) (card half : Card) : fitsL d card half 0 = [] := rfl
theorem c43 (d : Dr) (hd : d.fits) (ho : d.Ok) (c e : Nat) (card half : Card) (hc : d.cards[c]? = some card) (he : d.halves[e]? = some half) (h : Heap) :
    callPure (EW tabX) 43 [eD d, .int .i64 c, .int .i64 e] h = some (vI (fitsL d card half d.steps.toNat), h) := by
  have h67 := c67 d card.edge half.edge
  have hci := ho.ce card (List.mem_of_getElem? hc)
  have hhi := ho.he half (List.mem_of_getElem? he)
  have lc : Low card.edge := fun n hn => by have := hci.2 n hn; omega
  have lh : Low half.edge := fun n hn => hhi.2.2 n hn
  have b1 := (hd.nc card (List.mem_of_getElem? hc)).2
  have b2 := (hd.nh half (List.mem_of_getElem? he)).2
  have hs := ho.s6
  have hs1 := ho.s1
  have hz := hd.zc (by intro e; rw [e] at hc; cases hc)
  have hz2 := hd.zh (by intro e'; rw [e'] at he; cases he)
  have hcl := eD_clean d
  rw [callPure_eq, w_call _ fn_43 rfl]
  simp only [go_sem, ↓reduceIte, Nat.reduceBEq, Nat.reduceEqDiff, Nat.reduceLT, Nat.reduceLeDiff, Nat.reduceAdd, Nat.reduceMul, Nat.reduceSub, reduceCtorEq, Int.reduceLT, Int.reduceLE, Int.reduceEq, Int.reduceBEq, Int.reduceBNe, Int.reduceToNat, Int.reduceAdd, Int.reduceNeg, Int.reduceSub, eD, eDc, eC_under] at hcl h67 ⊢
  simp only [hz, hz2] at h67
  rw [w_rounds_h (fun k => [(7, ownI (fitsL d card half k)), (8, .int .i64 k)]) (fun k => ⟨[.cells (eDc d)], T [] (fitsL d card half k).length⟩) d.steps.toNat (.exit 0) [(7, ownI (fitsL d card half d.steps.toNat)), (8, .int .i64 d.steps.toNat)] ⟨[.cells (eDc d)], T [] (fitsL d card half d.steps.toNat).length⟩ ?_ ?_ ?_ ?_ rfl]
  · simp only [go_sem, ↓reduceIte, Nat.reduceBEq, Nat.reduceEqDiff, Nat.reduceLT, Nat.reduceLeDiff, Nat.reduceAdd, Nat.reduceMul, Nat.reduceSub, reduceCtorEq, Int.reduceLT, Int.reduceLE, Int.reduceEq, Int.reduceBEq, Int.reduceBNe, Int.reduceToNat, Int.reduceAdd, Int.reduceNeg, Int.reduceSub, ownI_clean, ownI_under]
  · simp only [go_sem, ↓reduceIte, Nat.reduceBEq, Nat.reduceEqDiff, Nat.reduceLT, Nat.reduceLeDiff, Nat.reduceAdd, Nat.reduceMul, Nat.reduceSub, reduceCtorEq, Int.reduceLT, Int.reduceLE, Int.reduceEq, Int.reduceBEq, Int.reduceBNe, Int.reduceToNat, Int.reduceAdd, Int.reduceNeg, Int.reduceSub, fitsL_zero, ownI_nil]
  · simp only [go_sem, ↓reduceIte, Nat.reduceBEq, Nat.reduceEqDiff, Nat.reduceLT, Nat.reduceLeDiff, Nat.reduceAdd, Nat.reduceMul, Nat.reduceSub, reduceCtorEq, Int.reduceLT, Int.reduceLE, Int.reduceEq, Int.reduceBEq, Int.reduceBNe, Int.reduceToNat, Int.reduceAdd, Int.reduceNeg, Int.reduceSub, eDc, fitsL_zero]
  · intro k hk
    have hki : (k : Int) < d.steps := by omega
    have hln := fitsL_len d card half k
    have h67 := h67 k lc lh b1 b2 (by omega)
    have hap := ownI_app (fitsL d card half k) k (by omega)
    rw [fitsL_succ]
    cases hb : besideB d.wear card.edge half.edge k with
    | true =>
      rw [hb] at h67
      simp (disch := omega) only [go_sem, ↓reduceIte, Nat.reduceBEq, Nat.reduceEqDiff, Nat.reduceLT, Nat.reduceLeDiff, Nat.reduceAdd, Nat.reduceMul, Nat.reduceSub, reduceCtorEq, Int.reduceLT, Int.reduceLE, Int.reduceEq, Int.reduceBEq, Int.reduceBNe, Int.reduceToNat, Int.reduceAdd, Int.reduceNeg, Int.reduceSub, eDc, hki, eC_get, eC_clean, hc, he, hz, hz2, eC, wrap_i64, h67, hap]
    | false =>
      rw [hb] at h67
      simp (disch := omega) only [go_sem, ↓reduceIte, Nat.reduceBEq, Nat.reduceEqDiff, Nat.reduceLT, Nat.reduceLeDiff, Nat.reduceAdd, Nat.reduceMul, Nat.reduceSub, reduceCtorEq, Int.reduceLT, Int.reduceLE, Int.reduceEq, Int.reduceBEq, Int.reduceBNe, Int.reduceToNat, Int.reduceAdd, Int.reduceNeg, Int.reduceSub, eDc, hki, eC_get, eC_clean, hc, he, hz, hz2, eC, wrap_i64, h67]
  · have hn : ((d.steps.toNat : Nat) : Int) = d.steps := by omega
    simp only [go_sem, ↓reduceIte, Nat.reduceBEq, Nat.reduceEqDiff, Nat.reduceLT, Nat.reduceLeDiff, Nat.reduceAdd, Nat.reduceMul, Nat.reduceSub, reduceCtorEq, Int.reduceLT, Int.reduceLE, Int.reduceEq, Int.reduceBEq, Int.reduceBNe, Int.reduceToNat, Int.reduceAdd, Int.reduceNeg, Int.reduceSub, hn, Int.lt_irrefl, eDc]

/-- What a function that asks for an index of a card, and one of a half, says first. -/
theorem c19 (d : Dr) (hd : d.fits) (c e : Int) (h : Heap) : callPure (EW tabX) 19 [eD d, .int .i64 c, .int .i64 e] h =
    some (if askedE d c d.cards.length = 0 then (if askedE d e d.halves.length = 0 then .tup [vI (fitsL d (d.cards.getD c.toNat ⟨default, []⟩) (d.halves.getD e.toNat ⟨default, []⟩) d.steps.toNat), .int .i64 0] else .tup [vI [], .int .i64 (askedE d e d.halves.length)]) else .tup [vI [], .int .i64 (askedE d c d.cards.length)], h) := by
  have h61 := c61 d hd
  have hc1 := hd.lc
  have hc2 := hd.lh
  have h61a := h61 c d.cards.length (by omega)
  have h61b := h61 e d.halves.length (by omega)
  clear h61
  have hcl := eD_clean d
  have asked0 : ∀ n below, askedE d n below = 0 → (checkT d).2.2 = 0 ∧ 0 ≤ n ∧ n < below := fun n below hh => by
    unfold askedE at hh
    split at hh
    · rename_i h0
      split at hh
      · rename_i hr; simp [inR] at hr; exact ⟨h0, by omega, by omega⟩
      · cases hh
    · rename_i h0; exact absurd hh h0
  rw [callPure_eq, w_call _ fn_19 rfl]
  by_cases h1 : askedE d c d.cards.length = 0
  · by_cases h2 : askedE d e d.halves.length = 0
    · obtain ⟨hk, c1, c2⟩ := asked0 _ _ h1
      obtain ⟨_, e1, e2⟩ := asked0 _ _ h2
      have ho := (ok_of_check hk).1
      have hcc : d.cards[c.toNat]? = some (d.cards.getD c.toNat ⟨default, []⟩) := by
        rw [List.getD_eq_getElem?_getD, List.getElem?_eq_getElem (show c.toNat < d.cards.length by omega)]; rfl
      have hee : d.halves[e.toNat]? = some (d.halves.getD e.toNat ⟨default, []⟩) := by
        rw [List.getD_eq_getElem?_getD, List.getElem?_eq_getElem (show e.toNat < d.halves.length by omega)]; rfl
      have h43 := c43 d hd ho c.toNat e.toNat _ _ hcc hee
      have x1 : ((c.toNat : Nat) : Int) = c := by omega
      have x2 : ((e.toNat : Nat) : Int) = e := by omega
      rw [x1, x2] at h43
      simp only [go_sem, ↓reduceIte, Nat.reduceBEq, Nat.reduceEqDiff, Nat.reduceLT, Nat.reduceLeDiff, Nat.reduceAdd, Nat.reduceMul, Nat.reduceSub, reduceCtorEq, Int.reduceLT, Int.reduceLE, Int.reduceEq, Int.reduceBEq, Int.reduceBNe, Int.reduceToNat, Int.reduceAdd, Int.reduceNeg, Int.reduceSub, eD, eDc, eC_under] at hcl h61a h61b h43 ⊢
      simp only [go_sem, ↓reduceIte, Nat.reduceBEq, Nat.reduceEqDiff, Nat.reduceLT, Nat.reduceLeDiff, Nat.reduceAdd, Nat.reduceMul, Nat.reduceSub, reduceCtorEq, Int.reduceLT, Int.reduceLE, Int.reduceEq, Int.reduceBEq, Int.reduceBNe, Int.reduceToNat, Int.reduceAdd, Int.reduceNeg, Int.reduceSub, eC_clean, h61a, h61b, h43, h1, h2, vI_clean, vI_under]
    · have h2' : (askedE d e d.halves.length != 0) = true := by simpa using h2
      simp only [go_sem, ↓reduceIte, Nat.reduceBEq, Nat.reduceEqDiff, Nat.reduceLT, Nat.reduceLeDiff, Nat.reduceAdd, Nat.reduceMul, Nat.reduceSub, reduceCtorEq, Int.reduceLT, Int.reduceLE, Int.reduceEq, Int.reduceBEq, Int.reduceBNe, Int.reduceToNat, Int.reduceAdd, Int.reduceNeg, Int.reduceSub, eD, eDc, eC_under] at hcl h61a h61b ⊢
      simp only [go_sem, ↓reduceIte, Nat.reduceBEq, Nat.reduceEqDiff, Nat.reduceLT, Nat.reduceLeDiff, Nat.reduceAdd, Nat.reduceMul, Nat.reduceSub, reduceCtorEq, Int.reduceLT, Int.reduceLE, Int.reduceEq, Int.reduceBEq, Int.reduceBNe, Int.reduceToNat, Int.reduceAdd, Int.reduceNeg, Int.reduceSub, eC_clean, h61a, h61b, h1, h2, h2', vI_clean, vI_nil]
  · have h1' : (askedE d c d.cards.length != 0) = true := by simpa using h1
    have h1'' : (askedE d c d.cards.length == 0) = false := by simpa using h1
    simp only [go_sem, ↓reduceIte, Nat.reduceBEq, Nat.reduceEqDiff, Nat.reduceLT, Nat.reduceLeDiff, Nat.reduceAdd, Nat.reduceMul, Nat.reduceSub, reduceCtorEq, Int.reduceLT, Int.reduceLE, Int.reduceEq, Int.reduceBEq, Int.reduceBNe, Int.reduceToNat, Int.reduceAdd, Int.reduceNeg, Int.reduceSub, eD, eDc, eC_under] at hcl h61a h61b ⊢
    simp only [go_sem, ↓reduceIte, Nat.reduceBEq, Nat.reduceEqDiff, Nat.reduceLT, Nat.reduceLeDiff, Nat.reduceAdd, Nat.reduceMul, Nat.reduceSub, reduceCtorEq, Int.reduceLT, Int.reduceLE, Int.reduceEq, Int.reduceBEq, Int.reduceBNe, Int.reduceToNat, Int.reduceAdd, Int.reduceNeg, Int.reduceSub, eC_clean, h61a, h61b, h1, h1', h1'', vI_clean, vI_nil]
end Go.Proofs.Ytbfodfepgefloaa
end
section
namespace Go.Proofs.Ytbfodfepgefloaa
open Go.ChangeShapes Go.WideShapes Go.RowKit Go.Proofs

theorem cells3 : Try.prog.cellsOf 3 = 1 := by kernel_rfl
theorem cells25 : Try.prog.cellsOf 25 = 5 := by kernel_rfl
theorem cells71 : Try.prog.cellsOf 71 = 2 := by kernel_rfl
theorem cells65 : Try.prog.cellsOf 65 = 2 := by kernel_rfl
theorem cells9 : Try.prog.cellsOf 9 = 1 := by kernel_rfl
theorem cells29 : Try.prog.cellsOf 29 = 1 := by kernel_rfl
theorem cells22 : Try.prog.cellsOf 22 = 1 := by kernel_rfl
theorem cells23 : Try.prog.cellsOf 23 = 1 := by kernel_rfl
theorem bytes3 : Try.prog.bytesOf 3 = 8 := by kernel_rfl
theorem bytes71 : Try.prog.bytesOf 71 = 40 := by kernel_rfl
theorem bytes65 : Try.prog.bytesOf 65 = 40 := by kernel_rfl

section
variable {H : Type} {enc : TypeId × Value → H} {W : World}
set_option maxRecDepth 100000 in
theorem rd_card {e : TypeId} {fs : Array Field} (he : Try.prog.underlying e = some (.struct fs)) (hc : Try.prog.cellsOf e = 2) (f0 f1 : Field) (h0 : fs[0]? = some f0) (h1 : fs[1]? = some f1) (t0 : f0.type = 9 ∧ f0.offset = 0) (t1 : f1.type = 29 ∧ f1.offset = 1)
    (n : Nat) (cs : List Value) (d : DataW H) (ps : List MemPlace) (hl : cs.length = 2) (h : DataW.trod enc Try.prog W 0 (fun _ => true) true n e cs = some (d, ps)) (hw : Light Try.prog e d) :
    ∃ y : Card, (y.name.size < 1000000000000000000 ∧ y.edge.length < 1000000000000000000 ∧ ∀ x ∈ y.edge, -9223372036854775808 ≤ x ∧ x ≤ 9223372036854775807) ∧ Rv (Ctx.start tabX W) (eC y) (eVal true cs) ∧ (eVal true cs).cells = cs.toArray := by
  obtain ⟨xs, m, rfl, hx, _, hlen, hf⟩ := DataW.trod_struct he h
  simp only [Prod.mk.injEq] at hx
  obtain ⟨rfl, _⟩ := hx
  obtain ⟨c0, c1, rfl⟩ : ∃ a b, cs = [a, b] := by
    match cs, hl with
    | [a, b], _ => exact ⟨a, b, rfl⟩
  have g0 := hf 0 f0 h0
  have g1 := hf 1 f1 h1
  rw [t0.1, t0.2, cells9] at g0
  rw [t1.1, t1.2, cells29] at g1
  have hs0 : 0 < xs.length := by rw [hlen]; exact (Array.getElem?_eq_some_iff.1 h0).1
  have hs1 : 1 < xs.length := by rw [hlen]; exact (Array.getElem?_eq_some_iff.1 h1).1
  have w0 := light_struct he hw h0 (d := xs[0].1) (by simp [hs0])
  have w1 := light_struct he hw h1 (d := xs[1].1) (by simp [hs1])
  rw [t0.1] at w0
  rw [t1.1] at w1
  rw [List.getElem?_eq_getElem hs0] at g0
  rw [List.getElem?_eq_getElem hs1] at g1
  simp only [List.drop_zero, List.take_succ_cons, List.take_zero, List.drop_succ_cons] at g0 g1
  obtain ⟨s, e0, ex, hsz⟩ := DataW.trod_string Try.underlying9 g0
  simp only [List.cons.injEq, and_true] at e0
  subst e0
  have hb0 : s.size ≤ reachBytes := by
    have := w0 s.data.toList.length (by rw [ex]; simp [DataW.weights])
    rw [Array.length_toList] at this; exact this
  obtain ⟨l, z, v, e1, hr, hz, hll, hq⟩ := rd_ints (X := tabX) (W := W) (ps := xs[1].2) Try.underlying29 Try.underlying3 cells3 bytes3 g1 w1
  simp only [List.cons.injEq, and_true] at e1
  subst e1
  have hr1 := rv_sz (sz := 1) hr hz
  refine ⟨⟨s, l⟩, ⟨by have := reachBytes_lt; show s.size < _; omega, hll, hq⟩, ?_, rfl⟩
  refine .agg _ [.string s, c1] rfl fun i x hx => ?_
  match i, hx with
  | 0, hx => simp at hx; subst hx; exact .str s
  | 1, hx => simp at hx; subst hx; exact hr1
set_option maxRecDepth 100000 in
theorem rd_dr {v : Value} {d : DataW H} {ps : List MemPlace} {b0 : Nat} (hv : Value.okWide Try.prog W .any b0 25 v) (h : DataW.Trod enc Try.prog W 0 (fun _ => true) true 25 v d ps) (hw : Light Try.prog 25 d) :
    ∃ y : Dr, y.fits ∧ Rv (Ctx.start tabX W) (eD y) v := by
  obtain ⟨cs, rfl, hsz⟩ := okWide_struct Try.underlying25 hv
  rw [cells25] at hsz
  obtain ⟨n, hn⟩ := h
  obtain ⟨xs, m, rfl, hx, _, hlen, hf⟩ := DataW.trod_struct Try.underlying25 hn
  simp only [Prod.mk.injEq] at hx
  obtain ⟨rfl, _⟩ := hx
  simp only [Value.cells] at hf
  obtain ⟨c0, c1, c2, c3, c4, rfl⟩ : ∃ a b c d e, cs = #[a, b, c, d, e] := by
    obtain ⟨l⟩ := cs
    match l, hsz with
    | [a, b, c, d, e], _ => exact ⟨a, b, c, d, e, rfl⟩
  have l5 : xs.length = 5 := by rw [hlen]; rfl
  have g0 : DataW.trod enc Try.prog W 0 (fun _ => true) true m 3 ((([c0, c1, c2, c3, c4] : List Value).drop 0).take (Try.prog.cellsOf 3)) = xs[0]? := hf 0 _ rfl
  have g1 : DataW.trod enc Try.prog W 0 (fun _ => true) true m 3 ((([c0, c1, c2, c3, c4] : List Value).drop 1).take (Try.prog.cellsOf 3)) = xs[1]? := hf 1 _ rfl
  have g2 : DataW.trod enc Try.prog W 0 (fun _ => true) true m 3 ((([c0, c1, c2, c3, c4] : List Value).drop 2).take (Try.prog.cellsOf 3)) = xs[2]? := hf 2 _ rfl
  have g3 : DataW.trod enc Try.prog W 0 (fun _ => true) true m 22 ((([c0, c1, c2, c3, c4] : List Value).drop 3).take (Try.prog.cellsOf 22)) = xs[3]? := hf 3 _ rfl
  have g4 : DataW.trod enc Try.prog W 0 (fun _ => true) true m 23 ((([c0, c1, c2, c3, c4] : List Value).drop 4).take (Try.prog.cellsOf 23)) = xs[4]? := hf 4 _ rfl
  have w3 : Light Try.prog 22 xs[3].1 := light_struct Try.underlying25 hw (i := 3) rfl (d := xs[3].1) (by simp [l5])
  have w4 : Light Try.prog 23 xs[4].1 := light_struct Try.underlying25 hw (i := 4) rfl (d := xs[4].1) (by simp [l5])
  rw [cells3] at g0 g1 g2
  rw [cells22] at g3
  rw [cells23] at g4
  rw [List.getElem?_eq_getElem (by omega)] at g0 g1 g2 g3 g4
  simp only [List.drop_zero, List.take_succ_cons, List.take_zero, List.drop_succ_cons] at g0 g1 g2 g3 g4
  obtain ⟨n0, e0, _, _⟩ := DataW.trod_int Try.underlying3 g0
  obtain ⟨n1, e1, _, _⟩ := DataW.trod_int Try.underlying3 g1
  obtain ⟨n2, e2, _, _⟩ := DataW.trod_int Try.underlying3 g2
  simp only [List.cons.injEq, and_true] at e0 e1 e2
  subst e0; subst e1; subst e2
  obtain ⟨lc, zc, v3, e3, r3, z3, b3, q3⟩ := rd_slice (X := tabX) eC (fun y => y.name.size < 1000000000000000000 ∧ y.edge.length < 1000000000000000000 ∧ ∀ x ∈ y.edge, -9223372036854775808 ≤ x ∧ x ≤ 9223372036854775807) true 2 cells71 (by omega) (.inl rfl) Try.underlying22
    (rd_card Try.underlying71 cells71 _ _ rfl rfl ⟨rfl, rfl⟩ ⟨rfl, rfl⟩) (ps := xs[3].2) g3 w3
  obtain ⟨lh, zh, v4, e4, r4, z4, b4, q4⟩ := rd_slice (X := tabX) eC (fun y => y.name.size < 1000000000000000000 ∧ y.edge.length < 1000000000000000000 ∧ ∀ x ∈ y.edge, -9223372036854775808 ≤ x ∧ x ≤ 9223372036854775807) true 2 cells65 (by omega) (.inl rfl) Try.underlying23
    (rd_card Try.underlying65 cells65 _ _ rfl rfl ⟨rfl, rfl⟩ ⟨rfl, rfl⟩) (ps := xs[4].2) g4 w4
  simp only [List.cons.injEq, and_true] at e3 e4
  subst e3; subst e4
  rw [bytes71] at b3
  rw [bytes65] at b4
  have := reachBytes_lt
  refine ⟨⟨n0, n1, n2, lc, lh, 2, 2⟩, ⟨fun _ => rfl, fun _ => rfl, by simp only; omega, by simp only; omega, fun c hc => ⟨(q3 c hc).1, (q3 c hc).2.1⟩, fun c hc => ⟨(q4 c hc).1, (q4 c hc).2.1⟩⟩, ?_⟩
  refine .agg _ [.int .i64 n0, .int .i64 n1, .int .i64 n2, _, _] rfl fun i x hx => ?_
  match i, hx with
  | 0, hx => obtain rfl : AV.int .i64 n0 = x := Option.some.inj hx; exact .int _ _
  | 1, hx => obtain rfl : AV.int .i64 n1 = x := Option.some.inj hx; exact .int _ _
  | 2, hx => obtain rfl : AV.int .i64 n2 = x := Option.some.inj hx; exact .int _ _
  | 3, hx => obtain rfl : AV.lst 0 2 (lc.map eC) = x := Option.some.inj hx; exact rv_sz r3 z3
  | 4, hx => obtain rfl : AV.lst 0 2 (lh.map eC) = x := Option.some.inj hx; exact rv_sz r4 z4
set_option maxRecDepth 100000 in
theorem rd_int' {k : IntKind} {t : TypeId} (hu : Try.prog.underlying t = some (.int k)) {v : Value} {d : DataW H} {ps : List MemPlace} {b0 : Nat} (hv : Value.okWide Try.prog W .any b0 t v) (h : DataW.Trod enc Try.prog W 0 (fun _ => true) true t v d ps) :
    ∃ y : Int, (Lit.int k y).wf = true ∧ Rv (Ctx.start tabX W) (.int k y) v := by
  obtain ⟨y, rfl, _, _, hw⟩ := open_int hu hv h
  exact ⟨y, hw, .int k y⟩
set_option maxRecDepth 100000 in
theorem rd_int0 {v : Value} {d : DataW H} {ps : List MemPlace} {b0 : Nat} (hv : Value.okWide Try.prog W .any b0 3 v) (h : DataW.Trod enc Try.prog W 0 (fun _ => true) true 3 v d ps) (_ : Light Try.prog 3 d) :
    ∃ y : Int, (-9223372036854775808 ≤ y ∧ y ≤ 9223372036854775807) ∧ Rv (Ctx.start tabX W) (.int .i64 y) v := by
  obtain ⟨y, hw, hr⟩ := rd_int' Try.underlying3 hv h
  exact ⟨y, bounds_i64 hw, hr⟩
set_option maxRecDepth 100000 in
theorem rd_arr2 {v : Value} {d : DataW H} {ps : List MemPlace} {b0 : Nat} (hv : Value.okWide Try.prog W .any b0 43 v) (h : DataW.Trod enc Try.prog W 0 (fun _ => true) true 43 v d ps) (_ : Light Try.prog 43 d) :
    ∃ y : Int × Int, True ∧ Rv (Ctx.start tabX W) (.agg [.int .i64 y.1, .int .i64 y.2]) v := by
  obtain ⟨cs, rfl, hsz⟩ : ∃ cs, v = .agg cs ∧ cs.size = Try.prog.cellsOf 43 := by
    simp only [Value.okWide, Try.underlying43] at hv
    obtain ⟨cs, h1, h2, _⟩ := hv
    exact ⟨cs, h1, h2⟩
  rw [show Try.prog.cellsOf 43 = 2 by kernel_rfl] at hsz
  obtain ⟨n, hn⟩ := h
  obtain ⟨xs, m, rfl, hx, _, hlen, hf⟩ := DataW.trod_array Try.underlying43 hn
  simp only [Value.cells] at hf
  obtain ⟨c0, c1, rfl⟩ : ∃ a b, cs = #[a, b] := by
    obtain ⟨l⟩ := cs
    match l, hsz with
    | [a, b], _ => exact ⟨a, b, rfl⟩
  have g0 := hf 0 (by omega)
  have g1 := hf 1 (by omega)
  rw [cells3] at g0 g1
  rw [List.getElem?_eq_getElem (by omega)] at g0 g1
  simp only [Nat.zero_mul, Nat.one_mul, List.drop_zero, List.take_succ_cons, List.take_zero, List.drop_succ_cons] at g0 g1
  obtain ⟨n0, e0, _, _⟩ := DataW.trod_int Try.underlying3 g0
  obtain ⟨n1, e1, _, _⟩ := DataW.trod_int Try.underlying3 g1
  simp only [List.cons.injEq, and_true] at e0 e1
  subst e0; subst e1
  refine ⟨(n0, n1), trivial, .agg _ [.int .i64 n0, .int .i64 n1] rfl fun i x hx => ?_⟩
  match i, hx with
  | 0, hx => obtain rfl : AV.int .i64 n0 = x := Option.some.inj hx; exact .int _ _
  | 1, hx => obtain rfl : AV.int .i64 n1 = x := Option.some.inj hx; exact .int _ _
set_option maxRecDepth 100000 in
theorem rd_intsA {v : Value} {d : DataW H} {ps : List MemPlace} {b0 : Nat} (hv : Value.okWide Try.prog W .any b0 29 v) (h : DataW.Trod enc Try.prog W 0 (fun _ => true) true 29 v d ps) (hw : Light Try.prog 29 d) :
    ∃ y : List Int, y.length < 1000000000000000000 ∧ Rv (Ctx.start tabX W) (.lst 0 1 (I y)) v := by
  obtain ⟨a, len, cap, rfl⟩ := okWide_slice Try.underlying29 hv
  obtain ⟨n, hn⟩ := h
  obtain ⟨l, z, v, e1, hr, hz, hll, hq⟩ := rd_ints (X := tabX) (W := W) (ps := ps) Try.underlying29 Try.underlying3 cells3 bytes3 hn hw
  simp only [Value.cells, List.cons.injEq, and_true] at e1
  subst e1
  exact ⟨l, hll, rv_sz hr hz⟩
set_option maxRecDepth 100000 in
theorem rd_u8 {v : Value} {d : DataW H} {ps : List MemPlace} {b0 : Nat} (hv : Value.okWide Try.prog W .any b0 5 v) (h : DataW.Trod enc Try.prog W 0 (fun _ => true) true 5 v d ps) (_ : Light Try.prog 5 d) :
    ∃ y : Int, (0 ≤ y ∧ y ≤ 255) ∧ Rv (Ctx.start tabX W) (.int .u8 y) v := by
  obtain ⟨y, hw, hr⟩ := rd_int' Try.underlying5 hv h
  exact ⟨y, bounds_u8 hw, hr⟩
set_option maxRecDepth 100000 in
theorem rd_u16 {v : Value} {d : DataW H} {ps : List MemPlace} {b0 : Nat} (hv : Value.okWide Try.prog W .any b0 58 v) (h : DataW.Trod enc Try.prog W 0 (fun _ => true) true 58 v d ps) (_ : Light Try.prog 58 d) :
    ∃ y : Int, (0 ≤ y ∧ y ≤ 65535) ∧ Rv (Ctx.start tabX W) (.int .u16 y) v := by
  obtain ⟨y, hw, hr⟩ := rd_int' Try.underlying58 hv h
  exact ⟨y, bounds_u16 hw, hr⟩
set_option maxRecDepth 100000 in
theorem rd_arr2u8 {v : Value} {d : DataW H} {ps : List MemPlace} {b0 : Nat} (hv : Value.okWide Try.prog W .any b0 66 v) (h : DataW.Trod enc Try.prog W 0 (fun _ => true) true 66 v d ps) (_ : Light Try.prog 66 d) :
    ∃ y : Int × Int, ((0 ≤ y.1 ∧ y.1 ≤ 255) ∧ (0 ≤ y.2 ∧ y.2 ≤ 255)) ∧ Rv (Ctx.start tabX W) (.agg [.int .u8 y.1, .int .u8 y.2]) v := by
  obtain ⟨cs, rfl, hsz⟩ : ∃ cs, v = .agg cs ∧ cs.size = Try.prog.cellsOf 66 := by
    simp only [Value.okWide, Try.underlying66] at hv
    obtain ⟨cs, h1, h2, _⟩ := hv
    exact ⟨cs, h1, h2⟩
  rw [show Try.prog.cellsOf 66 = 2 by kernel_rfl] at hsz
  obtain ⟨n, hn⟩ := h
  obtain ⟨xs, m, rfl, hx, _, hlen, hf⟩ := DataW.trod_array Try.underlying66 hn
  simp only [Value.cells] at hf
  obtain ⟨c0, c1, rfl⟩ : ∃ a b, cs = #[a, b] := by
    obtain ⟨l⟩ := cs
    match l, hsz with
    | [a, b], _ => exact ⟨a, b, rfl⟩
  have g0 := hf 0 (by omega)
  have g1 := hf 1 (by omega)
  rw [show Try.prog.cellsOf 5 = 1 by kernel_rfl] at g0 g1
  rw [List.getElem?_eq_getElem (by omega)] at g0 g1
  simp only [Nat.zero_mul, Nat.one_mul, List.drop_zero, List.take_succ_cons, List.take_zero, List.drop_succ_cons] at g0 g1
  obtain ⟨n0, e0, _, w0⟩ := DataW.trod_int Try.underlying5 g0
  obtain ⟨n1, e1, _, w1⟩ := DataW.trod_int Try.underlying5 g1
  simp only [List.cons.injEq, and_true] at e0 e1
  subst e0; subst e1
  refine ⟨(n0, n1), ⟨bounds_u8 w0, bounds_u8 w1⟩, .agg _ [.int .u8 n0, .int .u8 n1] rfl fun i x hx => ?_⟩
  match i, hx with
  | 0, hx => obtain rfl : AV.int .u8 n0 = x := Option.some.inj hx; exact .int _ _
  | 1, hx => obtain rfl : AV.int .u8 n1 = x := Option.some.inj hx; exact .int _ _
set_option maxRecDepth 100000 in
theorem rd_u8sA {v : Value} {d : DataW H} {ps : List MemPlace} {b0 : Nat} (hv : Value.okWide Try.prog W .any b0 50 v) (h : DataW.Trod enc Try.prog W 0 (fun _ => true) true 50 v d ps) (hw : Light Try.prog 50 d) :
    ∃ y : List Int, (y.length < 1000000000000000000 ∧ ∀ x ∈ y, 0 ≤ x ∧ x ≤ 255) ∧ Rv (Ctx.start tabX W) (.lst 0 1 (y.map (AV.int .u8))) v := by
  obtain ⟨a, len, cap, rfl⟩ := okWide_slice Try.underlying50 hv
  obtain ⟨n, hn⟩ := h
  obtain ⟨l, z, v, e1, hr, hz, hll, hq⟩ := rd_slice (X := tabX) (W := W) (ps := ps) (AV.int .u8) (fun y => 0 ≤ y ∧ y ≤ 255) false 1 (show Try.prog.cellsOf 5 = 1 by kernel_rfl) (by omega) (.inr rfl) Try.underlying50
    (fun n cs d ps _ h _ => by
      obtain ⟨y, rfl, _, hw⟩ := DataW.trod_int Try.underlying5 h
      exact ⟨y, bounds_u8 hw, .int _ _, rfl⟩) hn hw
  simp only [Value.cells, List.cons.injEq, and_true] at e1
  subst e1
  have hb : Try.prog.bytesOf 5 = 1 := by kernel_rfl
  rw [hb] at hll
  have := reachBytes_lt
  exact ⟨l, ⟨by omega, hq⟩, rv_sz hr hz⟩
end
end Go.Proofs.Ytbfodfepgefloaa
end
