/- Parts of the proof, joined: What small functions compute: a search in a row of numbers, and whether numbers are beyond bounds. What the tests of names compute, the program's and the reference's. The loops of the program that look for the first thing with an error. Searches in a row of people; the tests of what a gift has. The test of a gift: the program's. The test of a gift: the reference's. Z-numbers. A gift that comes in is one of the abstract interpreter; other arguments. Z-numbers. A shelf of forms as plain data; words; parts: the reference's tests. The test of a gift by the reference comes to the same. Z-numbers. The test of a shelf: the reference's. Z-numbers. Rooms, words by turns, lines of a text. Z-numbers. What a string is parted into. Z-numbers. Any words for the rooms of a form, by turns. Z-numbers. The program's tests of words and parts, where they are valid. Z-numbers. The program's test of a shelf that is valid. Z-numbers. A shelf of forms, and which letters are taken, that come in. Z-numbers. A form is looked at. Z-numbers. All numbers of words that rooms can have, by the program: the function that calls itself. Z-numbers. A form of a valid shelf; a letter is made of it. Z-numbers. A letter is made of a form. Z-numbers. A letter is written. Z-numbers. Letters, lists of them and marks are the same as themselves. Z-numbers. The shelf and the marks of the examples. Z-numbers. A reader: whether a word can stay. Z-numbers. What marks do. Z-numbers. The first one of some numbers that is least. Z-numbers. A map of places; how many corrections are left, in plain words. Z-numbers. How many corrections are left at a place: the functions that call each other. Z-numbers. How many corrections are left at a place, by the program. Z-numbers. How many corrections are left at a place: what is known is looked up; both functions for all places. Conditions: those of each law. -/
import Derived.Test.YthkpjbgadkkeeaaGreatQ9
import Derived.Laws.RangeString
import Derived.Laws.RangeAny
import Derived.KernelRfl
set_option linter.unusedSimpArgs false
set_option linter.unusedVariables false
namespace Go.Proofs.YthkpjbgadkkeeaaGreat
section
open Go.Proofs
theorem c69 (n lo hi : Int) (h : Heap) (b1 b2 : Nat) (h1 : h.b[b1]? = some (.cells [.int .i64 lo])) (h2 : h.b[b2]? = some (.cells [.int .i64 hi])) :
   (EW tabX).call 156 [.int .i64 n, .ref b1 0, .ref b2 0] h = some (.bool (decide (n < lo) || decide (hi < n)), h) := by
  obtain ⟨hb, ht⟩ := h
  rw [w_call _ fn_156 rfl]
  by_cases hn : n < lo
  · simp only [go_sem, ↓reduceIte, simprocAttr, h1, h2, hn, Bool.true_or]
  · simp only [go_sem, ↓reduceIte, simprocAttr, h1, h2, hn, Bool.false_or, gt_iff_lt]
theorem c86 (n lo hi : Int) (h : Heap) (b1 b2 : Nat) (h1 : h.b[b1]? = some (.cells [.int .i64 lo])) (h2 : h.b[b2]? = some (.cells [.int .i64 hi])) :
   (EW tabX).call 195 [.int .i64 n, .ref b1 0, .ref b2 0] h = some (.bool (decide (n < lo) || decide (hi < n)), h) := by
  obtain ⟨hb, ht⟩ := h
  rw [w_call _ fn_195 rfl]
  by_cases hn : n < lo
  · simp only [go_sem, ↓reduceIte, simprocAttr, h1, h2, hn, Bool.true_or]
  · simp only [go_sem, ↓reduceIte, simprocAttr, h1, h2, hn, Bool.false_or, gt_iff_lt]

theorem c58 (f : Nat) (fst cap : List AV) (l : List Int) (t z : Nat) (hz : l ≠ [] → z = 1) (p : Int → Bool) (h : Heap) (hl : l.length < 1000000000000000000)
   (hp : ∀ n ∈ l, callAV tabX (EW tabX) false (.clo f fst cap) [.int .i64 n] h = some (.bool (p n), h)) :
   (EW tabX).call 48 [.lst t z (I l), .clo f fst cap] h = some (.int .i64 (if l.findIdx p < l.length then l.findIdx p else -1), h) := by
  obtain ⟨hb, ht⟩ := h
  rw [w_call _ fn_48 rfl]
  simp only [go_sem, ↓reduceIte, simprocAttr]
  simp only [callAV_clo] at hp
  by_cases hf : l.findIdx p < l.length
  · rw [w_rounds_u (fun k => [(8, .int .i64 k)]) (l.findIdx p) .ret [(4, .int .i64 (l.findIdx p)), (5, .int .i64 (l.findIdx p)), (8, .int .i64 (l.findIdx p))] ?_ ?_ ?_ rfl]
    · simp only [go_sem, ↓reduceIte, simprocAttr, hf]
    · simp only [go_sem, ↓reduceIte, simprocAttr]
    · intro k hk
      have hlt : k < l.length := by omega
      have hki : (k : Int) < l.length := by omega
      have hx := List.getElem?_eq_getElem hlt
      have hpx := hp l[k] (List.getElem_mem _)
      have hpf : p l[k] = false := by simpa using List.not_of_lt_findIdx hk
      have hz1 := hz (by intro e; rw [e] at hlt; simp at hlt)
      subst hz1
      rw [hpf] at hpx
      simp (disch := omega) only [go_sem, ↓reduceIte, simprocAttr, hki, hx, ↓hpx, wrap_i64]
    · have hx := List.getElem?_eq_getElem hf
      have hki : ((l.findIdx p : Nat) : Int) < l.length := by omega
      have hpx := hp l[l.findIdx p] (List.getElem_mem _)
      have hpt : p l[l.findIdx p] = true := List.findIdx_getElem
      have hz1 := hz (by intro e; rw [e] at hf; simp at hf)
      subst hz1
      rw [hpt] at hpx
      simp (disch := omega) only [go_sem, ↓reduceIte, simprocAttr, hki, hx, ↓hpx, wrap_i64]
  · have hn : l.findIdx p = l.length := by have := List.findIdx_le_length (p := p) (xs := l); omega
    rw [w_rounds_u (fun k => [(8, .int .i64 k)]) (l.length) (.exit 0) [(8, .int .i64 l.length)] ?_ ?_ ?_ rfl]
    · simp only [go_sem, ↓reduceIte, simprocAttr, hf]
    · simp only [go_sem, ↓reduceIte, simprocAttr]
    · intro k hk
      have hki : (k : Int) < l.length := by omega
      have hx := List.getElem?_eq_getElem hk
      have hpx := hp l[k] (List.getElem_mem _)
      have hpf : p l[k] = false := by simpa using List.not_of_lt_findIdx (p := p) (xs := l) (i := k) (by omega)
      have hz1 := hz (by intro e; rw [e] at hk; simp at hk)
      subst hz1
      rw [hpf] at hpx
      simp (disch := omega) only [go_sem, ↓reduceIte, simprocAttr, hki, hx, ↓hpx, wrap_i64]
    · simp (disch := omega) only [go_sem, ↓reduceIte, simprocAttr, Int.lt_irrefl]

theorem findIdx_any {α : Type} (l : List α) (p : α → Bool) : decide ((0 : Int) ≤ if l.findIdx p < l.length then (l.findIdx p : Int) else -1) = l.any p := by
 by_cases h : l.findIdx p < l.length
 ·rw [if_pos h]
  have : l.any p = true := List.any_eq_true.2 (by have := List.findIdx_lt_length.1 h; simpa using this)
  rw [this]; simp
 ·rw [if_neg h]
  have : l.any p = false := by
   cases hh : l.any p with
   | false => rfl
   | true => exact absurd (List.findIdx_lt_length.2 (by simpa using List.any_eq_true.1 hh)) h
  rw [this]; rfl
theorem c68 (f : Nat) (fst cap : List AV) (l : List Int) (t z : Nat) (hz : l ≠ [] → z = 1) (p : Int → Bool) (h : Heap) (hl : l.length < 1000000000000000000)
   (hp : ∀ n ∈ l, callAV tabX (EW tabX) false (.clo f fst cap) [.int .i64 n] h = some (.bool (p n), h)) (hc : (AV.clo f fst cap).clean = none) :
   (EW tabX).call 146 [.lst t z (I l), .clo f fst cap] h = some (.bool (l.any p), h) := by
  have h78 := c58 f fst cap l t z hz p h hl hp
  obtain ⟨hb, ht⟩ := h
  rw [w_call _ fn_146 rfl]
  simp only [go_sem, ↓reduceIte, simprocAttr, hc, h78, ge_iff_le, findIdx_any]

def out (lo hi n : Int) : Bool := decide (n < lo) || decide (hi < n)
theorem c31 (lo hi : Int) (l : List Int) (z : Nat) (hz : l ≠ [] → z = 1) (h : Heap) (hl : l.length < 1000000000000000000) :
   callPure (EW tabX) 99 [.int .i64 lo, .int .i64 hi, .lst 0 z (I l)] h = some (.bool (l.any (out lo hi)), h) := by
  have h68 := c68 156 [] [.ref 0 0, .ref 1 0] l 0 z hz (out lo hi) ⟨[.cells [.int .i64 lo], .cells [.int .i64 hi]], []⟩ hl (fun n _ => by
    have := c69 n lo hi ⟨[.cells [.int .i64 lo], .cells [.int .i64 hi]], []⟩ 0 1 rfl rfl
    simp only [go_sem, ↓reduceIte, simprocAttr, this]; rfl) (by simp only [go_sem, ↓reduceIte, simprocAttr])
  refine pure_of (v := .bool (l.any (out lo hi))) (h1 := ⟨[], []⟩) ?_ (clean_bool _)
  rw [w_call _ fn_99 rfl]
  simp only [go_sem, ↓reduceIte, simprocAttr, h68]
theorem c31_1 (lo hi x : Int) (h : Heap) : callPure (EW tabX) 99 [.int .i64 lo, .int .i64 hi, .lst 0 1 [.int .i64 x]] h = some (.bool (out lo hi x), h) := by
 have := c31 lo hi [x] 1 (fun _ => rfl) h (by simp)
 simpa only [I_c, I_nil, List.any_cons, List.any_nil, Bool.or_false] using this
theorem c31_2 (lo hi x y : Int) (h : Heap) : callPure (EW tabX) 99 [.int .i64 lo, .int .i64 hi, .lst 0 1 [.int .i64 x, .int .i64 y]] h = some (.bool (out lo hi x || out lo hi y), h) := by
 have := c31 lo hi [x, y] 1 (fun _ => rfl) h (by simp)
 simpa only [I_c, I_nil, List.any_cons, List.any_nil, Bool.or_false] using this
end
section
open Go.Proofs
def inR (n lo hi : Int) : Bool := decide (lo ≤ n) && decide (n ≤ hi)
theorem c47 (n lo hi : Int) (h : Heap) : callPure (EW tabX) 26 [.int .i64 n, .int .i64 lo, .int .i64 hi] h = some (.bool (inR n lo hi), h) := by
 refine pure_of (v := .bool (inR n lo hi)) (h1 := ⟨[], []⟩) ?_ (clean_bool _)
 rw [w_call _ fn_26 rfl]
 simp only [go_sem, ↓reduceIte, simprocAttr]
 rfl
theorem out_not (lo hi n : Int) : (!out lo hi n) = inR n lo hi := by
 unfold out inR
 rw [Bool.eq_iff_iff]; simp
def chOk (i : Nat) (b : Int) : Bool := inR b 97 122 || (decide (0 < (i : Int)) && (b == 46 || inR b 48 57))
def chAt (s : ByteArray) (i : Nat) : Bool := match s[i]? with | some b => chOk i b.toNat | none => false
def okTo (s : ByteArray) (n : Nat) : Bool := (List.range n).all (chAt s)
def nameOk (s : ByteArray) : Bool := inR s.size 1 16 && okTo s s.size
theorem okTo_succ (s : ByteArray) (n : Nat) : okTo s (n + 1) = (okTo s n && chAt s n) := by simp [okTo, List.range_succ]
theorem okTo_zero (s : ByteArray) : okTo s 0 = true := rfl
theorem c73 (s : ByteArray) (hs : s.size < 1000000000000000000) (h : Heap) : callPure (EW tabX) 127 [.str s] h = some (.bool (nameOk s), h) := by
 refine pure_of (v := .bool (nameOk s)) (h1 := ⟨[], []⟩) ?_ (clean_bool _)
 rw [w_call _ fn_127 rfl]
 simp only [go_sem, ↓reduceIte, simprocAttr, c47]
 rw [w_rounds_u (fun k => [(3, .bool (inR s.size 1 16 && okTo s k)), (4, .int .i64 k)]) s.size (.exit 0) [(3, .bool (inR s.size 1 16 && okTo s s.size)), (4, .int .i64 s.size)] ?_ ?_ ?_ rfl]
 ·simp only [go_sem, ↓reduceIte, simprocAttr, nameOk]
 ·simp only [go_sem, ↓reduceIte, simprocAttr, okTo_zero]
 ·intro k hk
  have hki : (k : Int) < s.size := by omega
  have hx : s[k]? = some s[k] := by simp [hk]
  have hb : (s[k].toNat : Int) < 256 := by have := s[k].toNat_lt; omega
  have hc : chAt s k = chOk k s[k].toNat := by simp [chAt, hk]
  simp (disch := omega) only [go_sem, ↓reduceIte, simprocAttr, hki, hx, c47, wrap_i64, okTo_succ, hc, chOk]
 ·simp (disch := omega) only [go_sem, ↓reduceIte, simprocAttr, Int.lt_irrefl]
theorem okTo_false {s : ByteArray} : ∀ {n : Nat}, okTo s n = false → ∃ k, k < n ∧ okTo s k = true ∧ chAt s k = false
 | 0, h => by simp [okTo] at h
 | n + 1, h => by
  cases h1 : okTo s n with
  | false => obtain ⟨k, a, b⟩ := okTo_false h1; exact ⟨k, by omega, b⟩
  | true => rw [okTo_succ, h1] at h; exact ⟨n, by omega, h1, by simpa using h⟩
theorem okTo_at {s : ByteArray} {n k : Nat} (h : okTo s n = true) (hk : k < n) : chAt s k = true := by
 unfold okTo at h
 rw [List.all_eq_true] at h
 exact h k (by simpa using hk)
theorem c86b (l : List Int) (z : Nat) (hz : l ≠ [] → z = 1) (lo hi : Int) (h : Heap) (hl : l.length < 1000000000000000000) :
   callPure (EW tabX) 165 [.int .i64 lo, .int .i64 hi, .lst 0 z (I l)] h = some (.bool (l.any (out lo hi)), h) := by
  have h68 := c68 195 [] [.ref 0 0, .ref 1 0] l 0 z hz (out lo hi) ⟨[.cells [.int .i64 lo], .cells [.int .i64 hi]], []⟩ hl (fun n _ => by
    have := c86 n lo hi ⟨[.cells [.int .i64 lo], .cells [.int .i64 hi]], []⟩ 0 1 rfl rfl
    simp only [go_sem, ↓reduceIte, simprocAttr, this]; rfl) (by simp only [go_sem, ↓reduceIte, simprocAttr])
  refine pure_of (v := .bool (l.any (out lo hi))) (h1 := ⟨[], []⟩) ?_ (clean_bool _)
  rw [w_call _ fn_165 rfl]
  simp only [go_sem, ↓reduceIte, simprocAttr, h68]
theorem c70_1 (lo hi x : Int) (h : Heap) : callPure (EW tabX) 165 [.int .i64 lo, .int .i64 hi, .lst 0 1 [.int .i64 x]] h = some (.bool (out lo hi x), h) := by
 have := c86b [x] 1 (fun _ => rfl) lo hi h (by simp)
 simpa only [I_c, I_nil, List.any_cons, List.any_nil, Bool.or_false] using this
theorem test_eq (k b : Nat) : (!(decide (97 ≤ (b : Int)) && decide ((b : Int) ≤ 122)) && ((k : Int) == 0 || (b : Int) != 46 && (decide ((b : Int) < 48) || decide (57 < (b : Int))))) = !chOk k b := by
 unfold chOk inR
 rw [Bool.eq_iff_iff]
 simp only [Bool.and_eq_true, Bool.or_eq_true, Bool.not_eq_true', Bool.and_eq_false_iff, Bool.or_eq_false_iff, decide_eq_true_eq, decide_eq_false_iff_not, beq_iff_eq, bne_iff_ne, beq_eq_false_iff_ne, ne_eq]
 omega
theorem chOk_high (k b : Nat) (h : 128 ≤ b) : chOk k b = false := by
 cases hc : chOk k b with
 | false => rfl
 | true => simp [chOk, inR] at hc; omega
theorem c38 (s : ByteArray) (hs : s.size < 1000000000000000000) (h : Heap) : callPure (EW tabX) 116 [.str s] h = some (.bool (nameOk s), h) := by
 refine pure_of (v := .bool (nameOk s)) (h1 := ⟨[], []⟩) ?_ (clean_bool _)
 rw [w_call _ fn_116 rfl]
 simp only [go_sem, ↓reduceIte, simprocAttr]
 have round : ∀ k, (hk : k < s.size) → chOk k s[k].toNat = true → Utf8.decode s k = (s[k].toNat, 1) := fun k hk hc =>
  decode_ascii s k hk (by simp [chOk, inR] at hc; omega)
 cases ho : okTo s s.size with
 | true =>
  rw [w_rounds_h (fun k => []) (fun k => ⟨[.siter s k], []⟩) s.size (.exit 0) [(8, .tup [.bool false])] ⟨[.siter s s.size], []⟩ ?_ ?_ ?_ ?_ rfl]
  ·simp only [go_sem, ↓reduceIte, simprocAttr, nameOk, c70_1, out_not, ho]
  ·simp only [go_sem, ↓reduceIte, simprocAttr]
  ·simp only [go_sem, ↓reduceIte, simprocAttr]
  ·intro k hk
   have hc : chAt s k = true := okTo_at ho hk
   have hc : chOk k s[k].toNat = true := by simpa [chAt, hk] using hc
   have hd := round k hk hc
   simp only [go_sem, ↓reduceIte, simprocAttr, hk, hd, test_eq, hc]
  ·simp only [go_sem, ↓reduceIte, simprocAttr, Nat.lt_irrefl]
 | false =>
  obtain ⟨n, hn, h1, h2⟩ := okTo_false ho
  have h2 : chOk n s[n].toNat = false := by simpa [chAt, hn] using h2
  have hv : ∃ b w, Utf8.decode s n = (b, w) ∧ chOk n b = false := by
   by_cases hb : s[n].toNat < 128
   ·exact ⟨_, _, decode_ascii s n hn hb, h2⟩
   ·exact ⟨_, _, rfl, chOk_high _ _ (decode_high s n hn (by omega)).1⟩
  obtain ⟨b, w, hd, hb⟩ := hv
  rw [w_rounds_h (fun k => []) (fun k => ⟨[.siter s k], []⟩) n .ret [(3, .int .i64 n), (4, .int .i32 b), (5, .bool (inR b 97 122)), (8, .tup [.bool true, .int .i64 n, .int .i32 b])] ⟨[.siter s (n + w)], []⟩ ?_ ?_ ?_ ?_ rfl]
  ·simp only [go_sem, ↓reduceIte, simprocAttr, nameOk, ho]
  ·simp only [go_sem, ↓reduceIte, simprocAttr]
  ·simp only [go_sem, ↓reduceIte, simprocAttr]
  ·intro k hk
   have hk' : k < s.size := by omega
   have hc : chAt s k = true := okTo_at h1 hk
   have hc : chOk k s[k].toNat = true := by simpa [chAt, hk'] using hc
   have hd := round k hk' hc
   simp only [go_sem, ↓reduceIte, simprocAttr, hk', hd, test_eq, hc]
  ·simp only [go_sem, ↓reduceIte, simprocAttr, hn, hd, test_eq, hb, inR]
end
section
open Go.Proofs
theorem atE_clean (e : Nat → Int) (n : Nat) : (atE e n).clean = some (atE e n) := by unfold atE; split <;> simp only [go_sem, ↓reduceIte, simprocAttr]
def failE (lo hi : Int) (e : Nat → Int) (n : Nat) : AV := if out lo hi n = true then .tup [.int .i64 0, .int .i64 3] else atE e n
theorem failE_clean (lo hi : Int) (e : Nat → Int) (n : Nat) : (failE lo hi e n).clean = some (failE lo hi e n) := by unfold failE; split; simp only [go_sem, ↓reduceIte, simprocAttr]; exact atE_clean e n
def eIn (n : Int) : AV := .int .i64 n
theorem c33 (f : Nat) (cap : List AV) (lo hi : Int) (l : List Int) (t z : Nat) (hz : l ≠ [] → z = 1) (h : Heap) (hl : l.length < 1000000000000000000) (e : Nat → Int)
   (hp : out lo hi l.length = false → ∀ (k : Nat) c, l[k]? = some c → ∀ u, callAV tabX (EW tabX) false (.clo f [] cap) [.int .i64 k, eIn c] ⟨h.b ++ u, h.t⟩ = some (.int .i64 (e k), ⟨h.b ++ u, h.t⟩)) :
   (EW tabX).call 111 [.lst t z (I l), .int .i64 lo, .int .i64 hi, .clo f [] cap] h = some (failE lo hi e l.length, h) := by
  obtain ⟨B, ht⟩ := h
  rw [w_call _ fn_111 rfl]
  unfold failE
  cases ho : out lo hi l.length with
  | true => simp only [go_sem, ↓reduceIte, simprocAttr, c31_1, ho]
  | false =>
  have hp := hp ho
  simp only [go_sem, ↓reduceIte, simprocAttr, c31_1, ho]
  simp only [callAV_clo] at hp
  rw [w_first (fun k => [(21, .int .i64 k)]) (fun k => ⟨B, ht⟩) e l.length .ret (fun n => [(8, .int .i64 n), (9, .int .i64 (e n)), (10, .int .i64 n), (11, .int .i64 (l.getD n 0)), (12, .int .i64 (e n)), (21, .int .i64 n)]) (fun n => ⟨B, ht⟩) (.exit 0) [(21, .int .i64 l.length)] ⟨B, ht⟩ ?_ ?_ ?_ ?_ ?_ rfl rfl]
  · unfold firstW atE
    cases firstBad e 0 l.length with
    | some n => simp only [go_sem, ↓reduceIte, simprocAttr]
    | none => simp only [go_sem, ↓reduceIte, simprocAttr]
  · simp only [go_sem, ↓reduceIte, simprocAttr]
  · rfl
  · intro k hk h0
    have hx := List.getElem?_eq_getElem hk
    have hki : (k : Int) < l.length := by omega
    have hz1 := hz (by intro e; rw [e] at hki; simp at hki; omega)
    subst hz1
    have hpk := hp k _ hx []
    rw [h0] at hpk
    simp only [eIn, List.append_nil] at hpk
    simp (disch := omega) only [go_sem, ↓reduceIte, simprocAttr, hki, I_get, hx, eIn, ↓hpk, wrap_i64, bne_self_eq_false]
  · intro n hn hen
    have hx := List.getElem?_eq_getElem hn
    have hki : (n : Int) < l.length := by omega
    have hz1 := hz (by intro e; rw [e] at hn; simp at hn)
    subst hz1
    have hne : (e n != 0) = true := by simpa using hen
    have hpk := hp n _ hx []
    have hgd : l.getD n 0 = l[n] := by simp [hn]
    rw [hgd]
    simp only [eIn, List.append_nil] at hpk
    simp (disch := omega) only [go_sem, ↓reduceIte, simprocAttr, hki, I_get, hx, eIn, ↓hpk, wrap_i64, hne]
  · simp only [go_sem, ↓reduceIte, simprocAttr, Int.lt_irrefl]

theorem c36 (f : Nat) (cap : List AV) (lo hi : Int) (l : List Pe) (t z : Nat) (hz : l ≠ [] → z = 2) (h : Heap) (hl : l.length < 1000000000000000000) (e : Nat → Int)
   (hp : out lo hi l.length = false → ∀ (k : Nat) c, l[k]? = some c → ∀ u, callAV tabX (EW tabX) false (.clo f [] cap) [.int .i64 k, ePe c] ⟨h.b ++ u, h.t⟩ = some (.int .i64 (e k), ⟨h.b ++ u, h.t⟩)) :
   (EW tabX).call 114 [.lst t z (l.map ePe), .int .i64 lo, .int .i64 hi, .clo f [] cap] h = some (failE lo hi e l.length, h) := by
  obtain ⟨B, ht⟩ := h
  rw [w_call _ fn_114 rfl]
  unfold failE
  cases ho : out lo hi l.length with
  | true => simp only [go_sem, ↓reduceIte, simprocAttr, c31_1, ho]
  | false =>
  have hp := hp ho
  simp only [go_sem, ↓reduceIte, simprocAttr, c31_1, ho]
  simp only [callAV_clo] at hp
  have step : ∀ k c, l[k]? = some c → B ++ (l.take (k + 1)).map bPe = B ++ (l.take k).map bPe ++ [bPe c] := fun k c hx => by rw [map_succ _ hx, List.append_assoc]
  rw [w_first (fun k => [(21, .int .i64 k)]) (fun k => ⟨B ++ (l.take k).map bPe, ht⟩) e l.length .ret (fun n => [(8, .int .i64 n), (9, .int .i64 (e n)), (10, .int .i64 n), (11, .ref (B ++ (l.take n).map bPe).length 0), (12, .int .i64 (e n)), (21, .int .i64 n)]) (fun n => ⟨B ++ (l.take (n + 1)).map bPe, ht⟩) (.exit 0) [(21, .int .i64 l.length)] ⟨B ++ l.map bPe, ht⟩ ?_ ?_ ?_ ?_ ?_ rfl rfl]
  · unfold firstW atE
    cases firstBad e 0 l.length with
    | some n => simp only [go_sem, ↓reduceIte, simprocAttr]
    | none => simp only [go_sem, ↓reduceIte, simprocAttr]
  · simp only [go_sem, ↓reduceIte, simprocAttr]
  · simp only [go_sem, ↓reduceIte, simprocAttr]
  · intro k hk h0
    have hx := List.getElem?_eq_getElem hk
    have hki : (k : Int) < l.length := by omega
    have hz1 := hz (by intro e; rw [e] at hki; simp at hki; omega)
    subst hz1
    rw [step k _ hx]
    have hpk := hp k _ hx ((l.take k).map bPe ++ [bPe l[k]])
    rw [← List.append_assoc, h0] at hpk
    generalize B ++ (l.take k).map bPe = C at hpk ⊢
    simp only [ePe, bPe] at hpk
    simp (disch := omega) only [go_sem, ↓reduceIte, simprocAttr, hki, ePe_get, hx, ePe, ↓hpk, wrap_i64, bPe, bne_self_eq_false]
  · intro n hn hen
    have hx := List.getElem?_eq_getElem hn
    have hki : (n : Int) < l.length := by omega
    have hz1 := hz (by intro e; rw [e] at hn; simp at hn)
    subst hz1
    have hne : (e n != 0) = true := by simpa using hen
    rw [step n _ hx]
    have hpk := hp n _ hx ((l.take n).map bPe ++ [bPe l[n]])
    rw [← List.append_assoc] at hpk
    generalize B ++ (l.take n).map bPe = C at hpk ⊢
    simp only [ePe, bPe] at hpk
    simp (disch := omega) only [go_sem, ↓reduceIte, simprocAttr, hki, ePe_get, hx, ePe, ↓hpk, wrap_i64, bPe, hne]
  · simp only [go_sem, ↓reduceIte, simprocAttr, Int.lt_irrefl]

theorem c42 (f : Nat) (cap : List AV) (lo hi : Int) (l : List Vi) (t z : Nat) (hz : l ≠ [] → z = 8) (h : Heap) (hl : l.length < 1000000000000000000) (e : Nat → Int)
   (hp : out lo hi l.length = false → ∀ (k : Nat) c, l[k]? = some c → ∀ u, callAV tabX (EW tabX) false (.clo f [] cap) [.int .i64 k, eVi c] ⟨h.b ++ u, h.t⟩ = some (.int .i64 (e k), ⟨h.b ++ u, h.t⟩)) :
   (EW tabX).call 120 [.lst t z (l.map eVi), .int .i64 lo, .int .i64 hi, .clo f [] cap] h = some (failE lo hi e l.length, h) := by
  obtain ⟨B, ht⟩ := h
  rw [w_call _ fn_120 rfl]
  unfold failE
  cases ho : out lo hi l.length with
  | true => simp only [go_sem, ↓reduceIte, simprocAttr, c31_1, ho]
  | false =>
  have hp := hp ho
  simp only [go_sem, ↓reduceIte, simprocAttr, c31_1, ho]
  simp only [callAV_clo] at hp
  have step : ∀ k c, l[k]? = some c → B ++ (l.take (k + 1)).map bVi = B ++ (l.take k).map bVi ++ [bVi c] := fun k c hx => by rw [map_succ _ hx, List.append_assoc]
  rw [w_first (fun k => [(21, .int .i64 k)]) (fun k => ⟨B ++ (l.take k).map bVi, ht⟩) e l.length .ret (fun n => [(8, .int .i64 n), (9, .int .i64 (e n)), (10, .int .i64 n), (11, .ref (B ++ (l.take n).map bVi).length 0), (12, .int .i64 (e n)), (21, .int .i64 n)]) (fun n => ⟨B ++ (l.take (n + 1)).map bVi, ht⟩) (.exit 0) [(21, .int .i64 l.length)] ⟨B ++ l.map bVi, ht⟩ ?_ ?_ ?_ ?_ ?_ rfl rfl]
  · unfold firstW atE
    cases firstBad e 0 l.length with
    | some n => simp only [go_sem, ↓reduceIte, simprocAttr]
    | none => simp only [go_sem, ↓reduceIte, simprocAttr]
  · simp only [go_sem, ↓reduceIte, simprocAttr]
  · simp only [go_sem, ↓reduceIte, simprocAttr]
  · intro k hk h0
    have hx := List.getElem?_eq_getElem hk
    have hki : (k : Int) < l.length := by omega
    have hz1 := hz (by intro e; rw [e] at hki; simp at hki; omega)
    subst hz1
    rw [step k _ hx]
    have hpk := hp k _ hx ((l.take k).map bVi ++ [bVi l[k]])
    rw [← List.append_assoc, h0] at hpk
    generalize B ++ (l.take k).map bVi = C at hpk ⊢
    simp only [eVi, bVi] at hpk
    simp (disch := omega) only [go_sem, ↓reduceIte, simprocAttr, hki, eVi_get, hx, eVi, ↓hpk, wrap_i64, bVi, bne_self_eq_false]
  · intro n hn hen
    have hx := List.getElem?_eq_getElem hn
    have hki : (n : Int) < l.length := by omega
    have hz1 := hz (by intro e; rw [e] at hn; simp at hn)
    subst hz1
    have hne : (e n != 0) = true := by simpa using hen
    rw [step n _ hx]
    have hpk := hp n _ hx ((l.take n).map bVi ++ [bVi l[n]])
    rw [← List.append_assoc] at hpk
    generalize B ++ (l.take n).map bVi = C at hpk ⊢
    simp only [eVi, bVi] at hpk
    simp (disch := omega) only [go_sem, ↓reduceIte, simprocAttr, hki, eVi_get, hx, eVi, ↓hpk, wrap_i64, bVi, hne]
  · simp only [go_sem, ↓reduceIte, simprocAttr, Int.lt_irrefl]

theorem c45 (f : Nat) (cap : List AV) (lo hi : Int) (l : List Et) (t z : Nat) (hz : l ≠ [] → z = 2) (h : Heap) (hl : l.length < 1000000000000000000) (e : Nat → Int)
   (hp : out lo hi l.length = false → ∀ (k : Nat) c, l[k]? = some c → ∀ u, callAV tabX (EW tabX) false (.clo f [] cap) [.int .i64 k, eEt c] ⟨h.b ++ u, h.t⟩ = some (.int .i64 (e k), ⟨h.b ++ u, h.t⟩)) :
   (EW tabX).call 123 [.lst t z (l.map eEt), .int .i64 lo, .int .i64 hi, .clo f [] cap] h = some (failE lo hi e l.length, h) := by
  obtain ⟨B, ht⟩ := h
  rw [w_call _ fn_123 rfl]
  unfold failE
  cases ho : out lo hi l.length with
  | true => simp only [go_sem, ↓reduceIte, simprocAttr, c31_1, ho]
  | false =>
  have hp := hp ho
  simp only [go_sem, ↓reduceIte, simprocAttr, c31_1, ho]
  simp only [callAV_clo] at hp
  have step : ∀ k c, l[k]? = some c → B ++ (l.take (k + 1)).map bEt = B ++ (l.take k).map bEt ++ [bEt c] := fun k c hx => by rw [map_succ _ hx, List.append_assoc]
  rw [w_first (fun k => [(21, .int .i64 k)]) (fun k => ⟨B ++ (l.take k).map bEt, ht⟩) e l.length .ret (fun n => [(8, .int .i64 n), (9, .int .i64 (e n)), (10, .int .i64 n), (11, .ref (B ++ (l.take n).map bEt).length 0), (12, .int .i64 (e n)), (21, .int .i64 n)]) (fun n => ⟨B ++ (l.take (n + 1)).map bEt, ht⟩) (.exit 0) [(21, .int .i64 l.length)] ⟨B ++ l.map bEt, ht⟩ ?_ ?_ ?_ ?_ ?_ rfl rfl]
  · unfold firstW atE
    cases firstBad e 0 l.length with
    | some n => simp only [go_sem, ↓reduceIte, simprocAttr]
    | none => simp only [go_sem, ↓reduceIte, simprocAttr]
  · simp only [go_sem, ↓reduceIte, simprocAttr]
  · simp only [go_sem, ↓reduceIte, simprocAttr]
  · intro k hk h0
    have hx := List.getElem?_eq_getElem hk
    have hki : (k : Int) < l.length := by omega
    have hz1 := hz (by intro e; rw [e] at hki; simp at hki; omega)
    subst hz1
    rw [step k _ hx]
    have hpk := hp k _ hx ((l.take k).map bEt ++ [bEt l[k]])
    rw [← List.append_assoc, h0] at hpk
    generalize B ++ (l.take k).map bEt = C at hpk ⊢
    simp only [eEt, bEt] at hpk
    simp (disch := omega) only [go_sem, ↓reduceIte, simprocAttr, hki, eEt_get, hx, eEt, ↓hpk, wrap_i64, bEt, bne_self_eq_false]
  · intro n hn hen
    have hx := List.getElem?_eq_getElem hn
    have hki : (n : Int) < l.length := by omega
    have hz1 := hz (by intro e; rw [e] at hn; simp at hn)
    subst hz1
    have hne : (e n != 0) = true := by simpa using hen
    rw [step n _ hx]
    have hpk := hp n _ hx ((l.take n).map bEt ++ [bEt l[n]])
    rw [← List.append_assoc] at hpk
    generalize B ++ (l.take n).map bEt = C at hpk ⊢
    simp only [eEt, bEt] at hpk
    simp (disch := omega) only [go_sem, ↓reduceIte, simprocAttr, hki, eEt_get, hx, eEt, ↓hpk, wrap_i64, bEt, hne]
  · simp only [go_sem, ↓reduceIte, simprocAttr, Int.lt_irrefl]
end
section
open Go.Proofs
theorem c71 (f : Nat) (fst cap : List AV) (l : List Pe) (t z : Nat) (hz : l ≠ [] → z = 2) (p : Pe → Bool) (h : Heap) (hl : l.length < 1000000000000000000)
   (hp : ∀ n ∈ l, callAV tabX (EW tabX) false (.clo f fst cap) [ePe n] h = some (.bool (p n), h)) :
   (EW tabX).call 166 [.lst t z (l.map ePe), .clo f fst cap] h = some (.int .i64 (if l.findIdx p < l.length then l.findIdx p else -1), h) := by
  obtain ⟨hb, ht⟩ := h
  rw [w_call _ fn_166 rfl]
  simp only [go_sem, ↓reduceIte, simprocAttr]
  simp only [callAV_clo] at hp
  by_cases hf : l.findIdx p < l.length
  · rw [w_rounds_u (fun k => [(8, .int .i64 k)]) (l.findIdx p) .ret [(4, .int .i64 (l.findIdx p)), (5, .int .i64 (l.findIdx p)), (8, .int .i64 (l.findIdx p))] ?_ ?_ ?_ rfl]
    · simp only [go_sem, ↓reduceIte, simprocAttr, hf]
    · simp only [go_sem, ↓reduceIte, simprocAttr]
    · intro k hk
      have hlt : k < l.length := by omega
      have hki : (k : Int) < l.length := by omega
      have hx := List.getElem?_eq_getElem hlt
      have hpx := hp l[k] (List.getElem_mem _)
      have hpf : p l[k] = false := by simpa using List.not_of_lt_findIdx hk
      have hz1 := hz (by intro e; rw [e] at hlt; simp at hlt)
      subst hz1
      rw [hpf] at hpx
      simp only [ePe] at hpx
      simp (disch := omega) only [go_sem, ↓reduceIte, simprocAttr, hki, hx, ePe, ↓hpx, wrap_i64]
    · have hx := List.getElem?_eq_getElem hf
      have hki : ((l.findIdx p : Nat) : Int) < l.length := by omega
      have hpx := hp l[l.findIdx p] (List.getElem_mem _)
      have hpt : p l[l.findIdx p] = true := List.findIdx_getElem
      have hz1 := hz (by intro e; rw [e] at hf; simp at hf)
      subst hz1
      rw [hpt] at hpx
      simp only [ePe] at hpx
      simp (disch := omega) only [go_sem, ↓reduceIte, simprocAttr, hki, hx, ePe, ↓hpx, wrap_i64]
  · have hn : l.findIdx p = l.length := by have := List.findIdx_le_length (p := p) (xs := l); omega
    rw [w_rounds_u (fun k => [(8, .int .i64 k)]) (l.length) (.exit 0) [(8, .int .i64 l.length)] ?_ ?_ ?_ rfl]
    · simp only [go_sem, ↓reduceIte, simprocAttr, hf]
    · simp only [go_sem, ↓reduceIte, simprocAttr]
    · intro k hk
      have hki : (k : Int) < l.length := by omega
      have hx := List.getElem?_eq_getElem hk
      have hpx := hp l[k] (List.getElem_mem _)
      have hpf : p l[k] = false := by simpa using List.not_of_lt_findIdx (p := p) (xs := l) (i := k) (by omega)
      have hz1 := hz (by intro e; rw [e] at hk; simp at hk)
      subst hz1
      rw [hpf] at hpx
      simp only [ePe] at hpx
      simp (disch := omega) only [go_sem, ↓reduceIte, simprocAttr, hki, hx, ePe, ↓hpx, wrap_i64]
    · simp (disch := omega) only [go_sem, ↓reduceIte, simprocAttr, Int.lt_irrefl]
theorem c39 (f : Nat) (fst cap : List AV) (l : List Pe) (t z : Nat) (hz : l ≠ [] → z = 2) (p : Pe → Bool) (h : Heap) (hl : l.length < 1000000000000000000)
   (hp : ∀ n ∈ l, callAV tabX (EW tabX) false (.clo f fst cap) [ePe n] h = some (.bool (p n), h)) (hc : (AV.clo f fst cap).clean = none) :
   (EW tabX).call 117 [.lst t z (l.map ePe), .clo f fst cap] h = some (.bool (l.any p), h) := by
  have h78 := c71 f fst cap l t z hz p h hl hp
  obtain ⟨hb, ht⟩ := h
  rw [w_call _ fn_117 rfl]
  simp only [go_sem, ↓reduceIte, simprocAttr, hc, h78, ge_iff_le, findIdx_any]

def peE (l : List Pe) (i : Nat) (p : Pe) : Int := if nameOk p.name then (if (l.take i).any (fun y => y.name == p.name) then 5 else if out 0 2 p.widow then 7 else 0) else 6
def viE (f : Fu) (i : Nat) (v : Vi) : Int :=
 if out 0 ((f.people.length : Int) - 1) v.person || out 0 ((f.lines.length : Int) - 1) v.kind then 4
 else if out 0 (f.days - 1) v.day || (out 1 8 v.llo || out 1 8 v.lhi) || (out 0 23 v.hlo || out 0 23 v.hhi) then 7
 else if decide (v.lhi < v.llo) || decide (v.hhi < v.hlo) || (match i with | 0 => false | k + 1 => match f.visits[k]? with | some w => decide (v.day < w.day) | none => false) then 2 else 0
def etE (f : Fu) (x : Et) : Int := if out 0 ((f.visits.length : Int) - 1) x.visit then 4 else if out 0 999 x.pence then 7 else 0
def lnE (n : Int) : Int := if out 0 9 n then 7 else 0
theorem c34 (k n : Int) (h : Heap) : callPure (EW tabX) 112 [.int .i64 k, .int .i64 n] h = some (.int .i64 (lnE n), h) := by
 rw [callPure_eq, w_call _ fn_112 rfl]
 cases h1 : out 0 9 n with
 | true => simp only [go_sem, ↓reduceIte, simprocAttr, c31_1, h1, lnE]
 | false => simp only [go_sem, ↓reduceIte, simprocAttr, c31_1, h1, lnE]
theorem c40 (c : Pe) (b : Nat) (x : ByteArray) (xs : List AV) (h : Heap) (hb : h.b[b]? = some (.cells (.str x :: xs))) :
   (EW tabX).call 118 [ePe c, .ref b 0] h = some (.bool (c.name == x), h) := by
  obtain ⟨B, ht⟩ := h
  have h1 : B[b]? = some (.cells (.str x :: xs)) := hb
  have h2 := old h1
  rw [w_call _ fn_118 rfl]
  simp only [go_sem, ↓reduceIte, simprocAttr, ePe, h1, h2]
theorem c37 (d : Fu) (hd : d.fits) (r : Nat) (i : Nat) (x : Pe) (hx : d.people[i]? = some x) (h : Heap) (hr : h.b[r]? = some (.cells (eFc d))) :
   (EW tabX).call 115 [.int .i64 i, ePe x, .ref r 0] h = some (.int .i64 (peE d.people i x), h) := by
  obtain ⟨B, ht⟩ := h
  have hr : B[r]? = some (.cells (eFc d)) := hr
  simp only [eFc] at hr
  have oR := old hr
  have hi : i < d.people.length := (List.getElem?_eq_some_iff.1 hx).1
  have hil : i ≤ d.people.length := by omega
  have hz := hd.zp (by intro e; rw [e] at hx; simp at hx)
  have h38 := c38 x.name (hd.np _ (List.mem_of_getElem? hx))
  have hla := hd.lp
  have h39 := c39 118 [] [.ref B.length 0] (d.people.take i) 0 2 (fun _ => rfl) (fun y => y.name == x.name) ⟨B ++ [bPe x], ht⟩ (by rw [List.length_take]; omega) (fun n _ => by
    have := c40 n B.length x.name [.int .i64 x.widow] ⟨B ++ [bPe x], ht⟩ (by simp [bPe])
    simp only [go_sem, ↓reduceIte, simprocAttr, ePe] at this ⊢
    exact this) (by simp only [go_sem, ↓reduceIte, simprocAttr])
  rw [List.map_take] at h39
  simp only [bPe] at h39
  rw [w_call _ fn_115 rfl]
  cases h1 : nameOk x.name with
  | false => simp only [go_sem, ↓reduceIte, simprocAttr, ePe, oR, h38, h1, peE]
  | true =>
    cases h2 : (d.people.take i).any (fun y => y.name == x.name) with
    | true => simp only [go_sem, ↓reduceIte, simprocAttr, ePe, oR, h38, h1, h2, h39, hil, hz, peE]
    | false =>
      cases h3 : out 0 2 x.widow with
      | true => simp only [go_sem, ↓reduceIte, simprocAttr, ePe, oR, h38, h1, h2, h39, hil, hz, peE, h3, c31_1]
      | false => simp only [go_sem, ↓reduceIte, simprocAttr, ePe, oR, h38, h1, h2, h39, hil, hz, peE, h3, c31_1]
theorem c46 (d : Fu) (hd : d.fits) (r : Nat) (k : Int) (x : Et) (h : Heap) (hr : h.b[r]? = some (.cells (eFc d))) :
   (EW tabX).call 124 [.int .i64 k, eEt x, .ref r 0] h = some (.int .i64 (etE d x), h) := by
  obtain ⟨B, ht⟩ := h
  have hr : B[r]? = some (.cells (eFc d)) := hr
  simp only [eFc] at hr
  have oR := old hr
  have hlv := hd.lv
  rw [w_call _ fn_124 rfl]
  cases h1 : out 0 ((d.visits.length : Int) - 1) x.visit with
  | true => simp (disch := omega) only [go_sem, ↓reduceIte, simprocAttr, eEt, oR, h1, etE, c31_1, wrap_i64]
  | false =>
    cases h2 : out 0 999 x.pence with
    | true => simp (disch := omega) only [go_sem, ↓reduceIte, simprocAttr, eEt, oR, h1, h2, etE, c31_1, wrap_i64]
    | false => simp (disch := omega) only [go_sem, ↓reduceIte, simprocAttr, eEt, oR, h1, h2, etE, c31_1, wrap_i64]
theorem c43 (d : Fu) (hd : d.fits) (hday : 1 ≤ d.days ∧ d.days ≤ 7) (r : Nat) (i : Nat) (x : Vi) (hx : d.visits[i]? = some x) (h : Heap) (hr : h.b[r]? = some (.cells (eFc d))) :
   (EW tabX).call 121 [.int .i64 i, eVi x, .ref r 0] h = some (.int .i64 (viE d i x), h) := by
  obtain ⟨B, ht⟩ := h
  have hr : B[r]? = some (.cells (eFc d)) := hr
  simp only [eFc] at hr
  have oR := old hr
  have hlp := hd.lp
  have hll := hd.ll
  have hlv := hd.lv
  have hlt : i < d.visits.length := (List.getElem?_eq_some_iff.1 hx).1
  have hz := hd.zv (by intro e; rw [e] at hx; simp at hx)
  rw [w_call _ fn_121 rfl]
  unfold viE
  cases h1 : out 0 ((d.people.length : Int) - 1) x.person with
  | true => simp (disch := omega) only [go_sem, ↓reduceIte, simprocAttr, eVi, oR, h1, c31_1, wrap_i64]
  | false =>
  cases h2 : out 0 ((d.lines.length : Int) - 1) x.kind with
  | true => simp (disch := omega) only [go_sem, ↓reduceIte, simprocAttr, eVi, oR, h1, h2, c31_1, wrap_i64]
  | false =>
  cases h3 : out 0 (d.days - 1) x.day with
  | true => simp (disch := omega) only [go_sem, ↓reduceIte, simprocAttr, eVi, oR, h1, h2, h3, c31_1, wrap_i64]
  | false =>
  cases h4 : (out 1 8 x.llo || out 1 8 x.lhi) with
  | true => simp (disch := omega) only [go_sem, ↓reduceIte, simprocAttr, eVi, oR, h1, h2, h3, h4, c31_1, c31_2, wrap_i64]
  | false =>
  cases h5 : (out 0 23 x.hlo || out 0 23 x.hhi) with
  | true => simp (disch := omega) only [go_sem, ↓reduceIte, simprocAttr, eVi, oR, h1, h2, h3, h4, h5, c31_1, c31_2, wrap_i64]
  | false =>
  by_cases h6 : x.lhi < x.llo
  · simp (disch := omega) only [go_sem, ↓reduceIte, simprocAttr, eVi, oR, h1, h2, h3, h4, h5, h6, c31_1, c31_2, wrap_i64]
  by_cases h7 : x.hhi < x.hlo
  · simp (disch := omega) only [go_sem, ↓reduceIte, simprocAttr, eVi, oR, h1, h2, h3, h4, h5, h6, h7, c31_1, c31_2, wrap_i64]
  cases i with
  | zero => simp (disch := omega) only [go_sem, ↓reduceIte, simprocAttr, eVi, oR, h1, h2, h3, h4, h5, h6, h7, c31_1, c31_2, wrap_i64]
  | succ k =>
    have hk : k < d.visits.length := by omega
    have hkx := List.getElem?_eq_getElem hk
    have hki : (k : Int) < d.visits.length := by omega
    have hpos : (0 : Int) < (k : Int) + 1 := by omega
    have hw : IntKind.i64.wrap ((k : Int) + 1 - 1) = (k : Int) := by rw [wrap_i64 (by omega)]; omega
    by_cases h8 : x.day < (d.visits[k]).day
    · simp (disch := omega) only [go_sem, ↓reduceIte, simprocAttr, eVi, oR, h1, h2, h3, h4, h5, h6, h7, h8, hkx, hki, hpos, hw, hz, c31_1, c31_2, wrap_i64]
    · simp (disch := omega) only [go_sem, ↓reduceIte, simprocAttr, eVi, oR, h1, h2, h3, h4, h5, h6, h7, h8, hkx, hki, hpos, hw, hz, c31_1, c31_2, wrap_i64]
end
section
open Go.Proofs
def failP (lo hi : Int) (e : Nat → Int) (n : Nat) : Int × Int := if out lo hi n = true then (0, 3) else match firstBad e 0 n with | some k => ((k : Int), e k) | none => (0, 0)
theorem failE_eq (lo hi : Int) (e : Nat → Int) (n : Nat) : failE lo hi e n = .tup [.int .i64 (failP lo hi e n).1, .int .i64 (failP lo hi e n).2] := by
 unfold failE failP atE
 split
 ·rfl
 ·cases firstBad e 0 n <;> rfl
def lineE (f : Fu) (i : Nat) : Int := match f.lines[i]? with | some n => lnE n | none => 0
def persE (f : Fu) (i : Nat) : Int := match f.people[i]? with | some p => peE f.people i p | none => 0
def visE (f : Fu) (i : Nat) : Int := match f.visits[i]? with | some v => viE f i v | none => 0
def entE (f : Fu) (i : Nat) : Int := match f.entries[i]? with | some x => etE f x | none => 0
def headE (f : Fu) : Int := if out 0 300 f.pence || out 1 7 f.days || (out 0 9 f.opn || out 0 9 f.late) || out 0 23 f.frm then 7 else 0
def partP (f : Fu) : Nat → Int × Int
 | 0 => (0, headE f)
 | 1 => failP 1 3 (lineE f) f.lines.length
 | 2 => failP 0 4 (persE f) f.people.length
 | 3 => failP 0 5 (visE f) f.visits.length
 | _ => failP 0 4 (entE f) f.entries.length
def partE (f : Fu) (k : Nat) : Int := (partP f k).2
def checkF (f : Fu) : Int × Int × Int := match firstBad (partE f) 0 5 with
 | some k => ((k : Int) + 1, (partP f k).1, (partP f k).2)
 | none => (0, 0, 0)
def tup3 (x : Int × Int × Int) : AV := .tup [.int .i64 x.1, .int .i64 x.2.1, .int .i64 x.2.2]
def tupP (x : Int × Int) : AV := .tup [.int .i64 x.1, .int .i64 x.2]
theorem c30 (d : Fu) (r : Nat) (h : Heap) (hr : h.b[r]? = some (.cells (eFc d))) : (EW tabX).call 109 [.ref r 0] h = some (tupP (0, headE d), h) := by
 obtain ⟨B, ht⟩ := h
 have hr : B[r]? = some (.cells (eFc d)) := hr
 simp only [eFc] at hr
 rw [w_call _ fn_109 rfl]
 unfold headE tupP
 cases h1 : out 0 300 d.pence with
 | true => simp only [go_sem, ↓reduceIte, simprocAttr, hr, c31_1, c31_2, h1]
 | false =>
 cases h2 : out 1 7 d.days with
 | true => simp only [go_sem, ↓reduceIte, simprocAttr, hr, c31_1, c31_2, h1, h2]
 | false =>
 cases h3 : (out 0 9 d.opn || out 0 9 d.late) with
 | true => simp only [go_sem, ↓reduceIte, simprocAttr, hr, c31_1, c31_2, h1, h2, h3]
 | false =>
 cases h4 : out 0 23 d.frm with
 | true => simp only [go_sem, ↓reduceIte, simprocAttr, hr, c31_1, c31_2, h1, h2, h3, h4]
 | false => simp only [go_sem, ↓reduceIte, simprocAttr, hr, c31_1, c31_2, h1, h2, h3, h4]
theorem c32 (d : Fu) (hd : d.fits) (r : Nat) (h : Heap) (hr : h.b[r]? = some (.cells (eFc d))) : (EW tabX).call 110 [.ref r 0] h = some (tupP (partP d 1), h) := by
 obtain ⟨B, ht⟩ := h
 have hr : B[r]? = some (.cells (eFc d)) := hr
 simp only [eFc] at hr
 have h33 : ∀ h, callPure (EW tabX) 111 [.lst 0 d.zl (I d.lines), .int .i64 1, .int .i64 3, .clo 112 [] []] h = some (failE 1 3 (lineE d) d.lines.length, h) := fun h => pure_of (c33 112 [] 1 3 d.lines 0 d.zl hd.zl ⟨[], []⟩ hd.ll (lineE d) (fun _ k s hx u => by
  have := c34 k s ⟨[] ++ u, []⟩
  simp only [go_sem, ↓reduceIte, simprocAttr, eIn] at this ⊢
  rw [this, lineE, hx])) (failE_clean _ _ _ _)
 rw [w_call _ fn_110 rfl]
 simp only [go_sem, ↓reduceIte, simprocAttr, hr, h33, failE_eq, partP, tupP]
theorem c35 (d : Fu) (hd : d.fits) (r : Nat) (h : Heap) (hr : h.b[r]? = some (.cells (eFc d))) : (EW tabX).call 113 [.ref r 0] h = some (tupP (partP d 2), h) := by
 obtain ⟨B, ht⟩ := h
 have h36 := c36 115 [.ref r 0] 0 4 d.people 0 d.zp hd.zp ⟨B, ht⟩ hd.lp (persE d) (fun _ k s hx u => by
  have := c37 d hd r k s hx ⟨B ++ u, ht⟩ (old hr u)
  simp only [go_sem, ↓reduceIte, simprocAttr, ePe] at this ⊢
  rw [this, persE, hx])
 have hr : B[r]? = some (.cells (eFc d)) := hr
 simp only [eFc] at hr
 rw [w_call _ fn_113 rfl]
 simp only [go_sem, ↓reduceIte, simprocAttr, hr, h36, failE_eq, partP, tupP]
theorem c41 (d : Fu) (hd : d.fits) (hday : 1 ≤ d.days ∧ d.days ≤ 7) (r : Nat) (h : Heap) (hr : h.b[r]? = some (.cells (eFc d))) : (EW tabX).call 119 [.ref r 0] h = some (tupP (partP d 3), h) := by
 obtain ⟨B, ht⟩ := h
 have h42 := c42 121 [.ref r 0] 0 5 d.visits 0 d.zv hd.zv ⟨B, ht⟩ hd.lv (visE d) (fun _ k s hx u => by
  have := c43 d hd hday r k s hx ⟨B ++ u, ht⟩ (old hr u)
  simp only [go_sem, ↓reduceIte, simprocAttr, eVi] at this ⊢
  rw [this, visE, hx])
 have hr : B[r]? = some (.cells (eFc d)) := hr
 simp only [eFc] at hr
 rw [w_call _ fn_119 rfl]
 simp only [go_sem, ↓reduceIte, simprocAttr, hr, h42, failE_eq, partP, tupP]
theorem c44 (d : Fu) (hd : d.fits) (r : Nat) (h : Heap) (hr : h.b[r]? = some (.cells (eFc d))) : (EW tabX).call 122 [.ref r 0] h = some (tupP (partP d 4), h) := by
 obtain ⟨B, ht⟩ := h
 have h45 := c45 124 [.ref r 0] 0 4 d.entries 0 d.ze hd.ze ⟨B, ht⟩ hd.le (entE d) (fun _ k s hx u => by
  have := c46 d hd r k s ⟨B ++ u, ht⟩ (old hr u)
  simp only [go_sem, ↓reduceIte, simprocAttr, eEt] at this ⊢
  rw [this, entE, hx])
 have hr : B[r]? = some (.cells (eFc d)) := hr
 simp only [eFc] at hr
 rw [w_call _ fn_122 rfl]
 simp only [go_sem, ↓reduceIte, simprocAttr, hr, h45, failE_eq, partP, tupP]
theorem failP_zero {lo hi : Int} {e : Nat → Int} {n : Nat} (h : (failP lo hi e n).2 = 0) : failP lo hi e n = (0, 0) := by
 unfold failP at h ⊢
 split
 ·rename_i h1; rw [if_pos h1] at h; cases h
 ·rename_i h1
  rw [if_neg h1] at h
  cases hf : firstBad e 0 n with
  | some k => rw [hf] at h; exact absurd h (firstBad_some hf).2.2.1
  | none => rfl
theorem partP_zero {d : Fu} : ∀ {k : Nat}, partE d k = 0 → partP d k = (0, 0)
 | 0, h => by
  have h : headE d = 0 := h
  show (0, headE d) = (0, 0)
  rw [h]
 | 1, h => failP_zero h
 | 2, h => failP_zero h
 | 3, h => failP_zero h
 | k + 4, h => failP_zero h
def pB5 : List ABlk := [.cells [.clo 109 [] [.ref 0 0]], .cells [.clo 110 [] [.ref 0 0]], .cells [.clo 113 [] [.ref 0 0]], .cells [.clo 119 [] [.ref 0 0]], .cells [.clo 122 [] [.ref 0 0]]]
set_option maxHeartbeats 1000000 in
theorem c9 (d : Fu) (hd : d.fits) (h : Heap) : callPure (EW tabX) 65 [eF d] h = some (tup3 (checkF d), h) := by
 have p0 : ∀ B t, (EW tabX).call 109 [.ref 0 0] ⟨.cells (eFc d) :: B, t⟩ = some (tupP (partP d 0), ⟨.cells (eFc d) :: B, t⟩) := fun B t => c30 d 0 _ rfl
 have p1 : ∀ B t, (EW tabX).call 110 [.ref 0 0] ⟨.cells (eFc d) :: B, t⟩ = some (tupP (partP d 1), ⟨.cells (eFc d) :: B, t⟩) := fun B t => c32 d hd 0 _ rfl
 have p2 : ∀ B t, (EW tabX).call 113 [.ref 0 0] ⟨.cells (eFc d) :: B, t⟩ = some (tupP (partP d 2), ⟨.cells (eFc d) :: B, t⟩) := fun B t => c35 d hd 0 _ rfl
 have p3 : partE d 0 = 0 → ∀ B t, (EW tabX).call 119 [.ref 0 0] ⟨.cells (eFc d) :: B, t⟩ = some (tupP (partP d 3), ⟨.cells (eFc d) :: B, t⟩) := fun h0 B t => c41 d hd (by
  unfold partE partP headE at h0
  simp only at h0
  split at h0
  ·cases h0
  ·rename_i h1
   simp [out] at h1
   omega) 0 _ rfl
 have p4 : ∀ B t, (EW tabX).call 122 [.ref 0 0] ⟨.cells (eFc d) :: B, t⟩ = some (tupP (partP d 4), ⟨.cells (eFc d) :: B, t⟩) := fun B t => c44 d hd 0 _ rfl
 rw [callPure_eq, w_call _ fn_65 rfl]
 unfold checkF
 have w1 : IntKind.i64.wrap 1 = 1 := wrap_i64 (by omega)
 have w2 : IntKind.i64.wrap 2 = 2 := wrap_i64 (by omega)
 have w3 : IntKind.i64.wrap 3 = 3 := wrap_i64 (by omega)
 have w4 : IntKind.i64.wrap 4 = 4 := wrap_i64 (by omega)
 have w5 : IntKind.i64.wrap 5 = 5 := wrap_i64 (by omega)
 have a1 : (eFc d).all AV.one = true := by simp only [go_sem, ↓reduceIte, simprocAttr, eFc]
 have a2 : ∀ n, underL n (eFc d) = true := fun n => by simp only [go_sem, ↓reduceIte, simprocAttr, eFc]
 simp only [go_sem, ↓reduceIte, simprocAttr, eF, a1, a2]
 generalize hx : (EW tabX).code 65 none (Code.loop _) _ = x
 cases hf : firstBad (partE d) 0 5 with
 | some K =>
  obtain ⟨_, hK, hne, hz⟩ := firstBad_some hf
  have hz : ∀ j, j < K → partE d j = 0 := fun j hj => hz j (Nat.zero_le _) hj
  rw [w_rounds_h (fun k => [(2, .int .i64 0), (3, .int .i64 0), (4, .int .i64 0), (21, .int .i64 (k : Int))]) (fun k => ⟨.cells (eFc d) :: pB5.take k, []⟩) K .ret [(2, .int .i64 ((K : Int) + 1)), (3, .int .i64 (partP d K).1), (4, .int .i64 (partP d K).2), (6, .int .i64 (K : Int)), (7, .ref (K + 1) 0), (21, .int .i64 (K : Int))]
   ⟨.cells (eFc d) :: pB5.take (K + 1), []⟩ ?_ ?_ ?_ ?_ rfl] at hx
  ·subst hx
   simp only [go_sem, ↓reduceIte, simprocAttr, tup3]
  ·simp only [go_sem, ↓reduceIte, simprocAttr]
  ·rfl
  ·intro k hk
   have hk0 := hz k hk
   have hkp := partP_zero hk0
   have : k = 0 ∨ k = 1 ∨ k = 2 ∨ k = 3 ∨ k = 4 := by omega
   rcases this with rfl | rfl | rfl | rfl | rfl
   ·simp only [go_sem, ↓reduceIte, simprocAttr, p0, hkp, tupP, pB5, w1, w2, w3, w4, w5]
   ·simp only [go_sem, ↓reduceIte, simprocAttr, p1, hkp, tupP, pB5, w1, w2, w3, w4, w5]
   ·simp only [go_sem, ↓reduceIte, simprocAttr, p2, hkp, tupP, pB5, w1, w2, w3, w4, w5]
   ·have p3 := p3 (hz 0 (by omega))
    simp only [go_sem, ↓reduceIte, simprocAttr, p3, hkp, tupP, pB5, w1, w2, w3, w4, w5]
   ·simp only [go_sem, ↓reduceIte, simprocAttr, p4, hkp, tupP, pB5, w1, w2, w3, w4, w5]
  ·have hb : ((partP d K).2 != 0) = true := by simpa [partE] using hne
   have : K = 0 ∨ K = 1 ∨ K = 2 ∨ K = 3 ∨ K = 4 := by omega
   rcases this with rfl | rfl | rfl | rfl | rfl
   ·simp only [go_sem, ↓reduceIte, simprocAttr, p0, hb, tupP, pB5, w1, w2, w3, w4, w5]
   ·simp only [go_sem, ↓reduceIte, simprocAttr, p1, hb, tupP, pB5, w1, w2, w3, w4, w5]
   ·simp only [go_sem, ↓reduceIte, simprocAttr, p2, hb, tupP, pB5, w1, w2, w3, w4, w5]
   ·have p3 := p3 (hz 0 (by omega))
    simp only [go_sem, ↓reduceIte, simprocAttr, p3, hb, tupP, pB5, w1, w2, w3, w4, w5]
   ·simp only [go_sem, ↓reduceIte, simprocAttr, p4, hb, tupP, pB5, w1, w2, w3, w4, w5]
 | none =>
  have hz := fun i (hi : i < 5) => firstBad_none hf i (Nat.zero_le _) (by omega)
  rw [w_rounds_h (fun k => [(2, .int .i64 0), (3, .int .i64 0), (4, .int .i64 0), (21, .int .i64 (k : Int))]) (fun k => ⟨.cells (eFc d) :: pB5.take k, []⟩) 5 (.exit 0) [(21, .int .i64 5)]
   ⟨.cells (eFc d) :: pB5.take 5, []⟩ ?_ ?_ ?_ ?_ rfl] at hx
  ·subst hx
   simp only [go_sem, ↓reduceIte, simprocAttr, tup3]
  ·simp only [go_sem, ↓reduceIte, simprocAttr]
  ·rfl
  ·intro k hk
   have hk0 := hz k hk
   have hkp := partP_zero hk0
   have : k = 0 ∨ k = 1 ∨ k = 2 ∨ k = 3 ∨ k = 4 := by omega
   rcases this with rfl | rfl | rfl | rfl | rfl
   ·simp only [go_sem, ↓reduceIte, simprocAttr, p0, hkp, tupP, pB5, w1, w2, w3, w4, w5]
   ·simp only [go_sem, ↓reduceIte, simprocAttr, p1, hkp, tupP, pB5, w1, w2, w3, w4, w5]
   ·simp only [go_sem, ↓reduceIte, simprocAttr, p2, hkp, tupP, pB5, w1, w2, w3, w4, w5]
   ·have p3 := p3 (hz 0 (by omega))
    simp only [go_sem, ↓reduceIte, simprocAttr, p3, hkp, tupP, pB5, w1, w2, w3, w4, w5]
   ·simp only [go_sem, ↓reduceIte, simprocAttr, p4, hkp, tupP, pB5, w1, w2, w3, w4, w5]
  ·simp only [go_sem, ↓reduceIte, simprocAttr]
end
section
open Go.Proofs
theorem c72 (l : List ByteArray) (s : ByteArray) (z : Nat) (hz : l ≠ [] → z = 1) (hl : l.length < 1000000000000000000) (h : Heap) :
   callPure (EW tabX) 126 [.lst 0 z (S l), .str s] h = some (.int .i64 (if l.findIdx (fun x => x == s) < l.length then l.findIdx (fun x => x == s) else -1), h) := by
  rw [callPure_eq, w_call _ fn_126 rfl]
  simp only [go_sem, ↓reduceIte, simprocAttr]
  rw [w_rounds_u (fun k => [(5, .int .i64 k)]) (l.findIdx (fun x => x == s)) (.exit 0) [(5, .int .i64 (l.findIdx (fun x => x == s)))] ?_ ?_ ?_ rfl]
  · by_cases hf : l.findIdx (fun x => x == s) < l.length
    · have hne : (((l.findIdx (fun x => x == s) : Nat) : Int) == (l.length : Int)) = false := by simp; omega
      simp only [go_sem, ↓reduceIte, simprocAttr, hne, hf]
    · have hn : l.findIdx (fun x => x == s) = l.length := by have := List.findIdx_le_length (p := fun x => x == s) (xs := l); omega
      simp only [go_sem, ↓reduceIte, simprocAttr, hn, Nat.lt_irrefl]
  · simp only [go_sem, ↓reduceIte, simprocAttr]
  · intro k hk
    have hlt : k < l.length := by have := List.findIdx_le_length (p := fun x => x == s) (xs := l); omega
    have hki : (k : Int) < l.length := by omega
    have hx := List.getElem?_eq_getElem hlt
    have hpf : (l[k] == s) = false := by simpa using List.not_of_lt_findIdx hk
    have hz1 := hz (by intro e; rw [e] at hlt; simp at hlt)
    subst hz1
    have hne : (l[k] != s) = true := by simp only [bne, hpf, Bool.not_false]
    simp (disch := omega) only [go_sem, ↓reduceIte, simprocAttr, hki, hx, hne, wrap_i64]
  · by_cases hf : l.findIdx (fun x => x == s) < l.length
    · have hx := List.getElem?_eq_getElem hf
      have hki : ((l.findIdx (fun x => x == s) : Nat) : Int) < l.length := by omega
      have hpt : (l[l.findIdx (fun x => x == s)] == s) = true := List.findIdx_getElem (p := fun x => x == s)
      have hne : (l[l.findIdx (fun x => x == s)] != s) = false := by simp only [bne, hpt, Bool.not_true]
      have hz1 := hz (by intro e; rw [e] at hf; simp at hf)
      subst hz1
      simp (disch := omega) only [go_sem, ↓reduceIte, simprocAttr, hki, hx, hne]
    · have hn : l.findIdx (fun x => x == s) = l.length := by have := List.findIdx_le_length (p := fun x => x == s) (xs := l); omega
      simp only [go_sem, ↓reduceIte, simprocAttr, hn, Int.lt_irrefl]

def fresh (s : ByteArray) (l : List ByteArray) : Int := if nameOk s then (if l.any (fun x => x == s) then 5 else 0) else 6
theorem c48 (l : List ByteArray) (s : ByteArray) (z : Nat) (hz : l ≠ [] → z = 1) (hl : l.length < 1000000000000000000) (hs : s.size < 1000000000000000000) (h : Heap) :
   callPure (EW tabX) 73 [.str s, .lst 0 z (S l)] h = some (.int .i64 (fresh s l), h) := by
  have h73 := c72 l s z hz hl
  have h74 := c73 s hs
  have ha := findIdx_any l (fun x => x == s)
  rw [callPure_eq, w_call _ fn_73 rfl]
  cases h1 : l.any (fun x => x == s) with
  | true =>
    rw [h1] at ha
    cases h2 : nameOk s with
    | true => simp only [go_sem, ↓reduceIte, simprocAttr, h73, h74, ha, h2, fresh, h1]
    | false => simp only [go_sem, ↓reduceIte, simprocAttr, h73, h74, ha, h2, fresh, h1]
  | false =>
    rw [h1] at ha
    cases h2 : nameOk s with
    | true => simp only [go_sem, ↓reduceIte, simprocAttr, h73, h74, ha, h2, fresh, h1]
    | false => simp only [go_sem, ↓reduceIte, simprocAttr, h73, h74, ha, h2, fresh, h1]


def eSp (s : Int × Int) : AV := .agg [.int .i64 s.1, .int .i64 s.2]
theorem notin (n lo hi : Int) : (!inR n lo hi) = out lo hi n := by rw [← out_not, Bool.not_not]
def endE (lo hi : Int) (a b : Int) : Int := if out lo hi a || out lo hi b then 7 else if b < a then 2 else 0
theorem c74 (a b lo hi : Int) (h : Heap) : callPure (EW tabX) 130 [.agg [.int .i64 a, .int .i64 b], .int .i64 lo, .int .i64 hi] h = some (.int .i64 (endE lo hi a b), h) := by
 rw [callPure_eq, w_call _ fn_130 rfl]
 cases h1 : out lo hi a || out lo hi b with
 | true => simp only [go_sem, ↓reduceIte, simprocAttr, c47, notin, h1, endE]
 | false =>
  by_cases h2 : b < a
  ·simp only [go_sem, ↓reduceIte, simprocAttr, c47, notin, h1, endE, h2]
  ·simp only [go_sem, ↓reduceIte, simprocAttr, c47, notin, h1, endE, h2]
theorem endE_7 (lo hi a b : Int) : (endE lo hi a b == 7) = (out lo hi a || out lo hi b) := by
 unfold endE
 cases out lo hi a || out lo hi b with
 | true => rfl
 | false =>
  simp only [Bool.false_eq_true, if_false]
  split <;> rfl
theorem endE_0 {lo hi a b : Int} (h : (out lo hi a || out lo hi b) = false) : (endE lo hi a b != 0) = decide (b < a) := by
 unfold endE
 rw [h]
 simp only [Bool.false_eq_true, if_false]
 by_cases h2 : b < a
 ·rw [if_pos h2, decide_eq_true h2]; rfl
 ·rw [if_neg h2, decide_eq_false h2]; rfl
theorem c49 (d : Fu) (hd : d.fits) (hday : 1 ≤ d.days ∧ d.days ≤ 7) (i : Nat) (x : Vi) (hx : d.visits[i]? = some x) (h : Heap) : callPure (EW tabX) 75 [eF d, .int .i64 i] h = some (.int .i64 (viE d i x), h) := by
 have hlp := hd.lp
 have hll := hd.ll
 have hlv := hd.lv
 have hlt : i < d.visits.length := (List.getElem?_eq_some_iff.1 hx).1
 have hlti : (i : Int) < d.visits.length := by omega
 have hz := hd.zv (by intro e; rw [e] at hx; simp at hx)
 rw [callPure_eq, w_call _ fn_75 rfl]
 unfold viE
 have hw1 : IntKind.i64.wrap ((d.people.length : Int) - 1) = (d.people.length : Int) - 1 := wrap_i64 (by omega)
 have hw2 : IntKind.i64.wrap ((d.lines.length : Int) - 1) = (d.lines.length : Int) - 1 := wrap_i64 (by omega)
 have hw3 : IntKind.i64.wrap (d.days - 1) = d.days - 1 := wrap_i64 (by omega)
 cases h1 : (out 0 ((d.people.length : Int) - 1) x.person || out 0 ((d.lines.length : Int) - 1) x.kind) with
 | true => simp only [go_sem, ↓reduceIte, simprocAttr, eF, eFc, eVi, hlti, hx, hz, hw1, hw2, c47, notin, h1]
 | false =>
 have e7a := endE_7 1 8 x.llo x.lhi
 have e7b := endE_7 0 23 x.hlo x.hhi
 cases h2 : (out 0 (d.days - 1) x.day || (out 1 8 x.llo || out 1 8 x.lhi) || (out 0 23 x.hlo || out 0 23 x.hhi)) with
 | true =>
  rw [← e7a, ← e7b, Bool.or_assoc] at h2
  simp only [go_sem, ↓reduceIte, simprocAttr, eF, eFc, eVi, hlti, hx, hz, hw1, hw2, hw3, c47, c74, notin, h1, h2]
 | false =>
  have h34 : (out 1 8 x.llo || out 1 8 x.lhi) = false ∧ (out 0 23 x.hlo || out 0 23 x.hhi) = false := by
   simp only [Bool.or_eq_false_iff] at h2 ⊢
   exact ⟨h2.1.2, h2.2⟩
  have e0a := endE_0 h34.1
  have e0b := endE_0 h34.2
  rw [← e7a, ← e7b, Bool.or_assoc] at h2
  cases g1 : decide (x.lhi < x.llo) with
  | true =>
   rw [g1] at e0a
   have g1 : x.lhi < x.llo := by simpa using g1
   simp only [go_sem, ↓reduceIte, simprocAttr, eF, eFc, eVi, hlti, hx, hz, hw1, hw2, hw3, c47, c74, notin, h1, h2, e0a, g1]
  | false =>
  rw [g1] at e0a
  have g1 : ¬ x.lhi < x.llo := by simpa using g1
  cases g2 : decide (x.hhi < x.hlo) with
  | true =>
   rw [g2] at e0b
   have g2 : x.hhi < x.hlo := by simpa using g2
   simp only [go_sem, ↓reduceIte, simprocAttr, eF, eFc, eVi, hlti, hx, hz, hw1, hw2, hw3, c47, c74, notin, h1, h2, e0a, e0b, g1, g2]
  | false =>
  rw [g2] at e0b
  have g2 : ¬ x.hhi < x.hlo := by simpa using g2
  cases i with
  | zero => simp only [go_sem, ↓reduceIte, simprocAttr, eF, eFc, eVi, hlti, hx, hz, hw1, hw2, hw3, c47, c74, notin, h1, h2, e0a, e0b, g1, g2]
  | succ k =>
   have hk : k < d.visits.length := by omega
   have hkx := List.getElem?_eq_getElem hk
   have hki : (k : Int) < d.visits.length := by omega
   have hpos : (0 : Int) < (k : Int) + 1 := by omega
   have hlti : (k : Int) + 1 < d.visits.length := by omega
   have hw : IntKind.i64.wrap ((k : Int) + 1 - 1) = (k : Int) := by rw [wrap_i64 (by omega)]; omega
   by_cases h8 : x.day < (d.visits[k]).day
   ·simp only [go_sem, ↓reduceIte, simprocAttr, eF, eFc, eVi, hlti, hx, hz, hw1, hw2, hw3, c47, c74, notin, h1, h2, e0a, e0b, g1, g2, sux_neg, sux_nat, hpos, hw, hki, hkx, h8]
   ·simp only [go_sem, ↓reduceIte, simprocAttr, eF, eFc, eVi, hlti, hx, hz, hw1, hw2, hw3, c47, c74, notin, h1, h2, e0a, e0b, g1, g2, sux_neg, sux_nat, hpos, hw, hki, hkx, h8]
end
section
open Go.ChangeShapes Go.WideShapes Go.RowKit Go.Proofs
theorem cells3 : Tryz.prog.cellsOf 3 = 1 := by kernel_rfl
theorem cells4 : Tryz.prog.cellsOf 4 = 1 := by kernel_rfl
theorem cells27 : Tryz.prog.cellsOf 27 = 9 := by kernel_rfl
theorem cells59 : Tryz.prog.cellsOf 59 = 2 := by kernel_rfl
theorem cells49 : Tryz.prog.cellsOf 49 = 8 := by kernel_rfl
theorem cells83 : Tryz.prog.cellsOf 83 = 2 := by kernel_rfl
theorem cells29 : Tryz.prog.cellsOf 29 = 2 := by kernel_rfl
theorem cells9 : Tryz.prog.cellsOf 9 = 1 := by kernel_rfl
theorem cells22 : Tryz.prog.cellsOf 22 = 1 := by kernel_rfl
theorem cells23 : Tryz.prog.cellsOf 23 = 1 := by kernel_rfl
theorem cells24 : Tryz.prog.cellsOf 24 = 1 := by kernel_rfl
theorem cells25 : Tryz.prog.cellsOf 25 = 1 := by kernel_rfl
theorem cells5 : Tryz.prog.cellsOf 5 = 1 := by kernel_rfl
theorem cells42 : Tryz.prog.cellsOf 42 = 1 := by kernel_rfl
theorem bytes59 : Tryz.prog.bytesOf 59 = 24 := by kernel_rfl
theorem bytes49 : Tryz.prog.bytesOf 49 = 64 := by kernel_rfl
theorem bytes83 : Tryz.prog.bytesOf 83 = 16 := by kernel_rfl
theorem bytes3 : Tryz.prog.bytesOf 3 = 8 := by kernel_rfl
theorem bytes5 : Tryz.prog.bytesOf 5 = 1 := by kernel_rfl
section
variable {H : Type} {enc : TypeId × Value → H} {W : World}
set_option maxRecDepth 100000 in
theorem rd_span0 (n : Nat) (cs : List Value) (d : DataW H) (ps : List MemPlace) (hl : cs.length = 2) (h : DataW.trod enc Tryz.prog W 0 (fun _ => true) true n 29 cs = some (d, ps)) : ∃ a b : Int, cs = [.int .i64 a, .int .i64 b] := by
 obtain ⟨xs, m, rfl, hx, _, hlen, hf⟩ := DataW.trod_struct Tryz.underlying29 h
 simp only [Prod.mk.injEq] at hx
 obtain ⟨rfl, _⟩ := hx
 obtain ⟨c0, c1, rfl⟩ : ∃ c0 c1, cs = [c0, c1] := by
  match cs, hl with
  | [c0, c1], _ => exact ⟨c0, c1, rfl⟩
 have l0 : xs.length = 2 := by rw [hlen]; rfl
 have g0 : DataW.trod enc Tryz.prog W 0 (fun _ => true) true m 3 ((([c0, c1] : List Value).drop 0).take (Tryz.prog.cellsOf 3)) = xs[0]? := hf 0 _ rfl
 have g1 : DataW.trod enc Tryz.prog W 0 (fun _ => true) true m 3 ((([c0, c1] : List Value).drop 1).take (Tryz.prog.cellsOf 3)) = xs[1]? := hf 1 _ rfl
 rw [cells3, List.getElem?_eq_getElem (by omega)] at g0
 rw [cells3, List.getElem?_eq_getElem (by omega)] at g1
 simp only [List.drop_zero, List.take_succ_cons, List.take_zero, List.drop_succ_cons] at g0 g1
 obtain ⟨n0, e0, _, b0⟩ := DataW.trod_int Tryz.underlying3 g0
 simp only [List.cons.injEq, and_true] at e0
 subst e0
 obtain ⟨n1, e1, _, b1⟩ := DataW.trod_int Tryz.underlying3 g1
 simp only [List.cons.injEq, and_true] at e1
 subst e1
 exact ⟨n0, n1, rfl⟩
set_option maxRecDepth 100000 in
theorem rd_person (n : Nat) (cs : List Value) (d : DataW H) (ps : List MemPlace) (hl : cs.length = 2) (h : DataW.trod enc Tryz.prog W 0 (fun _ => true) true n 59 cs = some (d, ps)) (hw : Light Tryz.prog 59 d) :
  ∃ y : Pe, (y.name.size < 1000000000000000000) ∧ Rv (Ctx.start tabX W) (ePe y) (eVal true cs) ∧ (eVal true cs).cells = cs.toArray := by
 obtain ⟨xs, m, rfl, hx, _, hlen, hf⟩ := DataW.trod_struct Tryz.underlying59 h
 simp only [Prod.mk.injEq] at hx
 obtain ⟨rfl, _⟩ := hx
 obtain ⟨c0, c1, rfl⟩ : ∃ c0 c1, cs = [c0, c1] := by
  match cs, hl with
  | [c0, c1], _ => exact ⟨c0, c1, rfl⟩
 have l0 : xs.length = 2 := by rw [hlen]; rfl
 have g0 : DataW.trod enc Tryz.prog W 0 (fun _ => true) true m 9 ((([c0, c1] : List Value).drop 0).take (Tryz.prog.cellsOf 9)) = xs[0]? := hf 0 _ rfl
 have g1 : DataW.trod enc Tryz.prog W 0 (fun _ => true) true m 3 ((([c0, c1] : List Value).drop 1).take (Tryz.prog.cellsOf 3)) = xs[1]? := hf 1 _ rfl
 rw [cells9, List.getElem?_eq_getElem (by omega)] at g0
 rw [cells3, List.getElem?_eq_getElem (by omega)] at g1
 simp only [List.drop_zero, List.take_succ_cons, List.take_zero, List.drop_succ_cons] at g0 g1
 have w0 : Light Tryz.prog 9 xs[0].1 := light_struct Tryz.underlying59 hw (i := 0) rfl (d := xs[0].1) (by simp [l0])
 obtain ⟨n0, e0, ex0, _⟩ := DataW.trod_string Tryz.underlying9 g0
 simp only [List.cons.injEq, and_true] at e0
 subst e0
 have hb0 : n0.size ≤ reachBytes := by
  have := w0 n0.data.toList.length (by rw [ex0]; simp [DataW.weights])
  rw [Array.length_toList] at this; exact this
 obtain ⟨n1, e1, _, b1⟩ := DataW.trod_int Tryz.underlying3 g1
 simp only [List.cons.injEq, and_true] at e1
 subst e1
 have := reachBytes_lt
 refine ⟨⟨n0, n1⟩, by show n0.size < _; omega, ?_, rfl⟩
 refine .agg _ [.string n0, .int .i64 n1] rfl fun i x hx => ?_
 match i, hx with
 | 0, hx => obtain rfl : AV.str n0 = x := Option.some.inj hx; exact .str _
 | 1, hx => obtain rfl : AV.int .i64 n1 = x := Option.some.inj hx; exact .int _ _
set_option maxRecDepth 100000 in
theorem rd_visit (n : Nat) (cs : List Value) (d : DataW H) (ps : List MemPlace) (hl : cs.length = 8) (h : DataW.trod enc Tryz.prog W 0 (fun _ => true) true n 49 cs = some (d, ps)) (hw : Light Tryz.prog 49 d) :
  ∃ y : Vi, (True) ∧ Rv (Ctx.start tabX W) (eVi y) (eVal true cs) ∧ (eVal true cs).cells = cs.toArray := by
 obtain ⟨xs, m, rfl, hx, _, hlen, hf⟩ := DataW.trod_struct Tryz.underlying49 h
 simp only [Prod.mk.injEq] at hx
 obtain ⟨rfl, _⟩ := hx
 obtain ⟨c0, c1, c2, c3, c4, c5, c6, c7, rfl⟩ : ∃ c0 c1 c2 c3 c4 c5 c6 c7, cs = [c0, c1, c2, c3, c4, c5, c6, c7] := by
  match cs, hl with
  | [c0, c1, c2, c3, c4, c5, c6, c7], _ => exact ⟨c0, c1, c2, c3, c4, c5, c6, c7, rfl⟩
 have l0 : xs.length = 6 := by rw [hlen]; rfl
 have g0 : DataW.trod enc Tryz.prog W 0 (fun _ => true) true m 3 ((([c0, c1, c2, c3, c4, c5, c6, c7] : List Value).drop 0).take (Tryz.prog.cellsOf 3)) = xs[0]? := hf 0 _ rfl
 have g1 : DataW.trod enc Tryz.prog W 0 (fun _ => true) true m 3 ((([c0, c1, c2, c3, c4, c5, c6, c7] : List Value).drop 1).take (Tryz.prog.cellsOf 3)) = xs[1]? := hf 1 _ rfl
 have g2 : DataW.trod enc Tryz.prog W 0 (fun _ => true) true m 3 ((([c0, c1, c2, c3, c4, c5, c6, c7] : List Value).drop 2).take (Tryz.prog.cellsOf 3)) = xs[2]? := hf 2 _ rfl
 have g3 : DataW.trod enc Tryz.prog W 0 (fun _ => true) true m 29 ((([c0, c1, c2, c3, c4, c5, c6, c7] : List Value).drop 3).take (Tryz.prog.cellsOf 29)) = xs[3]? := hf 3 _ rfl
 have g4 : DataW.trod enc Tryz.prog W 0 (fun _ => true) true m 29 ((([c0, c1, c2, c3, c4, c5, c6, c7] : List Value).drop 5).take (Tryz.prog.cellsOf 29)) = xs[4]? := hf 4 _ rfl
 have g5 : DataW.trod enc Tryz.prog W 0 (fun _ => true) true m 4 ((([c0, c1, c2, c3, c4, c5, c6, c7] : List Value).drop 7).take (Tryz.prog.cellsOf 4)) = xs[5]? := hf 5 _ rfl
 rw [cells3, List.getElem?_eq_getElem (by omega)] at g0
 rw [cells3, List.getElem?_eq_getElem (by omega)] at g1
 rw [cells3, List.getElem?_eq_getElem (by omega)] at g2
 rw [cells29, List.getElem?_eq_getElem (by omega)] at g3
 rw [cells29, List.getElem?_eq_getElem (by omega)] at g4
 rw [cells4, List.getElem?_eq_getElem (by omega)] at g5
 simp only [List.drop_zero, List.take_succ_cons, List.take_zero, List.drop_succ_cons] at g0 g1 g2 g3 g4 g5
 obtain ⟨n0, e0, _, b0⟩ := DataW.trod_int Tryz.underlying3 g0
 simp only [List.cons.injEq, and_true] at e0
 subst e0
 obtain ⟨n1, e1, _, b1⟩ := DataW.trod_int Tryz.underlying3 g1
 simp only [List.cons.injEq, and_true] at e1
 subst e1
 obtain ⟨n2, e2, _, b2⟩ := DataW.trod_int Tryz.underlying3 g2
 simp only [List.cons.injEq, and_true] at e2
 subst e2
 obtain ⟨a3, b3, e3⟩ := rd_span0 m _ _ _ rfl g3
 simp only [List.cons.injEq, and_true] at e3
 obtain ⟨rfl, rfl⟩ := e3
 obtain ⟨a4, b4, e4⟩ := rd_span0 m _ _ _ rfl g4
 simp only [List.cons.injEq, and_true] at e4
 obtain ⟨rfl, rfl⟩ := e4
 obtain ⟨n5, e5, _⟩ := DataW.trod_bool Tryz.underlying4 g5
 simp only [List.cons.injEq, and_true] at e5
 subst e5
 have := reachBytes_lt
 refine ⟨⟨n0, n1, n2, a3, b3, a4, b4, n5⟩, trivial, ?_, rfl⟩
 refine .agg _ [.int .i64 n0, .int .i64 n1, .int .i64 n2, .int .i64 a3, .int .i64 b3, .int .i64 a4, .int .i64 b4, .bool n5] rfl fun i x hx => ?_
 match i, hx with
 | 0, hx => obtain rfl : AV.int .i64 n0 = x := Option.some.inj hx; exact .int _ _
 | 1, hx => obtain rfl : AV.int .i64 n1 = x := Option.some.inj hx; exact .int _ _
 | 2, hx => obtain rfl : AV.int .i64 n2 = x := Option.some.inj hx; exact .int _ _
 | 3, hx => obtain rfl : AV.int .i64 a3 = x := Option.some.inj hx; exact .int _ _
 | 4, hx => obtain rfl : AV.int .i64 b3 = x := Option.some.inj hx; exact .int _ _
 | 5, hx => obtain rfl : AV.int .i64 a4 = x := Option.some.inj hx; exact .int _ _
 | 6, hx => obtain rfl : AV.int .i64 b4 = x := Option.some.inj hx; exact .int _ _
 | 7, hx => obtain rfl : AV.bool n5 = x := Option.some.inj hx; exact .bool _
set_option maxRecDepth 100000 in
theorem rd_entry (n : Nat) (cs : List Value) (d : DataW H) (ps : List MemPlace) (hl : cs.length = 2) (h : DataW.trod enc Tryz.prog W 0 (fun _ => true) true n 83 cs = some (d, ps)) (hw : Light Tryz.prog 83 d) :
  ∃ y : Et, (True) ∧ Rv (Ctx.start tabX W) (eEt y) (eVal true cs) ∧ (eVal true cs).cells = cs.toArray := by
 obtain ⟨xs, m, rfl, hx, _, hlen, hf⟩ := DataW.trod_struct Tryz.underlying83 h
 simp only [Prod.mk.injEq] at hx
 obtain ⟨rfl, _⟩ := hx
 obtain ⟨c0, c1, rfl⟩ : ∃ c0 c1, cs = [c0, c1] := by
  match cs, hl with
  | [c0, c1], _ => exact ⟨c0, c1, rfl⟩
 have l0 : xs.length = 2 := by rw [hlen]; rfl
 have g0 : DataW.trod enc Tryz.prog W 0 (fun _ => true) true m 3 ((([c0, c1] : List Value).drop 0).take (Tryz.prog.cellsOf 3)) = xs[0]? := hf 0 _ rfl
 have g1 : DataW.trod enc Tryz.prog W 0 (fun _ => true) true m 3 ((([c0, c1] : List Value).drop 1).take (Tryz.prog.cellsOf 3)) = xs[1]? := hf 1 _ rfl
 rw [cells3, List.getElem?_eq_getElem (by omega)] at g0
 rw [cells3, List.getElem?_eq_getElem (by omega)] at g1
 simp only [List.drop_zero, List.take_succ_cons, List.take_zero, List.drop_succ_cons] at g0 g1
 obtain ⟨n0, e0, _, b0⟩ := DataW.trod_int Tryz.underlying3 g0
 simp only [List.cons.injEq, and_true] at e0
 subst e0
 obtain ⟨n1, e1, _, b1⟩ := DataW.trod_int Tryz.underlying3 g1
 simp only [List.cons.injEq, and_true] at e1
 subst e1
 have := reachBytes_lt
 refine ⟨⟨n0, n1⟩, trivial, ?_, rfl⟩
 refine .agg _ [.int .i64 n0, .int .i64 n1] rfl fun i x hx => ?_
 match i, hx with
 | 0, hx => obtain rfl : AV.int .i64 n0 = x := Option.some.inj hx; exact .int _ _
 | 1, hx => obtain rfl : AV.int .i64 n1 = x := Option.some.inj hx; exact .int _ _
set_option maxRecDepth 100000 in
theorem rd_fus {v : Value} {d : DataW H} {ps : List MemPlace} {b0 : Nat} (hv : Value.okWide Tryz.prog W .any b0 27 v) (h : DataW.Trod enc Tryz.prog W 0 (fun _ => true) true 27 v d ps) (hw : Light Tryz.prog 27 d) :
  ∃ y : Fu, (y.fits ∧ y.entries.length < 8796093022208) ∧ Rv (Ctx.start tabX W) (eF y) v := by
 obtain ⟨cs, rfl, hsz⟩ := okWide_struct Tryz.underlying27 hv
 rw [cells27] at hsz
 obtain ⟨n, hn⟩ := h
 obtain ⟨xs, m, rfl, hx, _, hlen, hf⟩ := DataW.trod_struct Tryz.underlying27 hn
 simp only [Prod.mk.injEq] at hx
 obtain ⟨rfl, _⟩ := hx
 simp only [Value.cells] at hf
 obtain ⟨c0, c1, c2, c3, c4, c5, c6, c7, c8, rfl⟩ : ∃ a b c d e f g h i, cs = #[a, b, c, d, e, f, g, h, i] := by
  obtain ⟨l⟩ := cs
  match l, hsz with
  | [a, b, c, d, e, f, g, h, i], _ => exact ⟨a, b, c, d, e, f, g, h, i, rfl⟩
 have l5 : xs.length = 9 := by rw [hlen]; rfl
 have g0 : DataW.trod enc Tryz.prog W 0 (fun _ => true) true m 3 ((([c0, c1, c2, c3, c4, c5, c6, c7, c8] : List Value).drop 0).take (Tryz.prog.cellsOf 3)) = xs[0]? := hf 0 _ rfl
 have g1 : DataW.trod enc Tryz.prog W 0 (fun _ => true) true m 3 ((([c0, c1, c2, c3, c4, c5, c6, c7, c8] : List Value).drop 1).take (Tryz.prog.cellsOf 3)) = xs[1]? := hf 1 _ rfl
 have g2 : DataW.trod enc Tryz.prog W 0 (fun _ => true) true m 3 ((([c0, c1, c2, c3, c4, c5, c6, c7, c8] : List Value).drop 2).take (Tryz.prog.cellsOf 3)) = xs[2]? := hf 2 _ rfl
 have g3 : DataW.trod enc Tryz.prog W 0 (fun _ => true) true m 3 ((([c0, c1, c2, c3, c4, c5, c6, c7, c8] : List Value).drop 3).take (Tryz.prog.cellsOf 3)) = xs[3]? := hf 3 _ rfl
 have g4 : DataW.trod enc Tryz.prog W 0 (fun _ => true) true m 3 ((([c0, c1, c2, c3, c4, c5, c6, c7, c8] : List Value).drop 4).take (Tryz.prog.cellsOf 3)) = xs[4]? := hf 4 _ rfl
 have g5 : DataW.trod enc Tryz.prog W 0 (fun _ => true) true m 22 ((([c0, c1, c2, c3, c4, c5, c6, c7, c8] : List Value).drop 5).take (Tryz.prog.cellsOf 22)) = xs[5]? := hf 5 _ rfl
 have g6 : DataW.trod enc Tryz.prog W 0 (fun _ => true) true m 23 ((([c0, c1, c2, c3, c4, c5, c6, c7, c8] : List Value).drop 6).take (Tryz.prog.cellsOf 23)) = xs[6]? := hf 6 _ rfl
 have g7 : DataW.trod enc Tryz.prog W 0 (fun _ => true) true m 24 ((([c0, c1, c2, c3, c4, c5, c6, c7, c8] : List Value).drop 7).take (Tryz.prog.cellsOf 24)) = xs[7]? := hf 7 _ rfl
 have g8 : DataW.trod enc Tryz.prog W 0 (fun _ => true) true m 25 ((([c0, c1, c2, c3, c4, c5, c6, c7, c8] : List Value).drop 8).take (Tryz.prog.cellsOf 25)) = xs[8]? := hf 8 _ rfl
 have w5 : Light Tryz.prog 22 xs[5].1 := light_struct Tryz.underlying27 hw (i := 5) rfl (d := xs[5].1) (by simp [l5])
 have w6 : Light Tryz.prog 23 xs[6].1 := light_struct Tryz.underlying27 hw (i := 6) rfl (d := xs[6].1) (by simp [l5])
 have w7 : Light Tryz.prog 24 xs[7].1 := light_struct Tryz.underlying27 hw (i := 7) rfl (d := xs[7].1) (by simp [l5])
 have w8 : Light Tryz.prog 25 xs[8].1 := light_struct Tryz.underlying27 hw (i := 8) rfl (d := xs[8].1) (by simp [l5])
 rw [cells3, List.getElem?_eq_getElem (by omega)] at g0
 rw [cells3, List.getElem?_eq_getElem (by omega)] at g1
 rw [cells3, List.getElem?_eq_getElem (by omega)] at g2
 rw [cells3, List.getElem?_eq_getElem (by omega)] at g3
 rw [cells3, List.getElem?_eq_getElem (by omega)] at g4
 rw [cells22, List.getElem?_eq_getElem (by omega)] at g5
 rw [cells23, List.getElem?_eq_getElem (by omega)] at g6
 rw [cells24, List.getElem?_eq_getElem (by omega)] at g7
 rw [cells25, List.getElem?_eq_getElem (by omega)] at g8
 simp only [List.drop_zero, List.take_succ_cons, List.take_zero, List.drop_succ_cons] at g0 g1 g2 g3 g4 g5 g6 g7 g8
 obtain ⟨n0, e0, _, _⟩ := DataW.trod_int Tryz.underlying3 g0
 simp only [List.cons.injEq, and_true] at e0
 subst e0
 obtain ⟨n1, e1, _, _⟩ := DataW.trod_int Tryz.underlying3 g1
 simp only [List.cons.injEq, and_true] at e1
 subst e1
 obtain ⟨n2, e2, _, _⟩ := DataW.trod_int Tryz.underlying3 g2
 simp only [List.cons.injEq, and_true] at e2
 subst e2
 obtain ⟨n3, e3, _, _⟩ := DataW.trod_int Tryz.underlying3 g3
 simp only [List.cons.injEq, and_true] at e3
 subst e3
 obtain ⟨n4, e4, _, _⟩ := DataW.trod_int Tryz.underlying3 g4
 simp only [List.cons.injEq, and_true] at e4
 subst e4
 obtain ⟨ll, zl, v5, e5, r5, z5, b5, _⟩ := rd_slice (X := tabX) (AV.int .i64) (fun y => -9223372036854775808 ≤ y ∧ y ≤ 9223372036854775807) false 1 cells3 (by omega) (.inr rfl) Tryz.underlying22 (rd_int Tryz.underlying3) (ps := xs[5].2) g5 w5
 obtain ⟨lp, zp, v6, e6, r6, z6, b6, q6⟩ := rd_slice (X := tabX) ePe (fun y => y.name.size < 1000000000000000000) true 2 cells59 (by omega) (.inl rfl) Tryz.underlying23 rd_person (ps := xs[6].2) g6 w6
 obtain ⟨lv, zv, v7, e7, r7, z7, b7, _⟩ := rd_slice (X := tabX) eVi (fun y => True) true 8 cells49 (by omega) (.inl rfl) Tryz.underlying24 rd_visit (ps := xs[7].2) g7 w7
 obtain ⟨le, ze, v8, e8, r8, z8, b8, _⟩ := rd_slice (X := tabX) eEt (fun y => True) true 2 cells83 (by omega) (.inl rfl) Tryz.underlying25 rd_entry (ps := xs[8].2) g8 w8
 simp only [List.cons.injEq, and_true] at e5 e6 e7 e8
 subst e5; subst e6; subst e7; subst e8
 rw [bytes3] at b5
 rw [bytes59] at b6
 rw [bytes49] at b7
 rw [bytes83] at b8
 have := reachBytes_lt
 refine ⟨⟨n0, n1, n2, n3, n4, ll, lp, lv, le, 1, 2, 8, 2⟩, ⟨⟨fun _ => rfl, fun _ => rfl, fun _ => rfl, fun _ => rfl, by simp only; omega, by simp only; omega, by simp only; omega, by simp only; omega, q6⟩, by simp only; omega⟩, ?_⟩
 refine .agg _ [.int .i64 n0, .int .i64 n1, .int .i64 n2, .int .i64 n3, .int .i64 n4, _, _, _, _] rfl fun i x hx => ?_
 match i, hx with
 | 0, hx => obtain rfl : AV.int .i64 n0 = x := Option.some.inj hx; exact .int _ _
 | 1, hx => obtain rfl : AV.int .i64 n1 = x := Option.some.inj hx; exact .int _ _
 | 2, hx => obtain rfl : AV.int .i64 n2 = x := Option.some.inj hx; exact .int _ _
 | 3, hx => obtain rfl : AV.int .i64 n3 = x := Option.some.inj hx; exact .int _ _
 | 4, hx => obtain rfl : AV.int .i64 n4 = x := Option.some.inj hx; exact .int _ _
 | 5, hx => obtain rfl : AV.lst 0 1 (I ll) = x := Option.some.inj hx; exact rv_sz r5 z5
 | 6, hx => obtain rfl : AV.lst 0 2 (lp.map ePe) = x := Option.some.inj hx; exact rv_sz r6 z6
 | 7, hx => obtain rfl : AV.lst 0 8 (lv.map eVi) = x := Option.some.inj hx; exact rv_sz r7 z7
 | 8, hx => obtain rfl : AV.lst 0 2 (le.map eEt) = x := Option.some.inj hx; exact rv_sz r8 z8
set_option maxRecDepth 100000 in
theorem rd_fu {v : Value} {d : DataW H} {ps : List MemPlace} {b0 : Nat} (hv : Value.okWide Tryz.prog W .any b0 27 v) (h : DataW.Trod enc Tryz.prog W 0 (fun _ => true) true 27 v d ps) (hw : Light Tryz.prog 27 d) :
  ∃ y : Fu, y.fits ∧ Rv (Ctx.start tabX W) (eF y) v := by
 obtain ⟨y, h1, h2⟩ := rd_fus hv h hw
 exact ⟨y, h1.1, h2⟩
end
end
section
open Go.Proofs
structure Pt where
 words : List ByteArray
 zw : Nat
 lo : Int
 hi : Int
structure Fm where
 name : ByteArray
 parts : List Pt
 zp : Nat
structure Sh where
 width : Int
 forms : List Fm
 zf : Nat
def ePt (p : Pt) : AV := .agg [.lst 0 p.zw (S p.words), .int .i64 p.lo, .int .i64 p.hi]
def bPt (p : Pt) : ABlk := .cells [.lst 0 p.zw (S p.words), .int .i64 p.lo, .int .i64 p.hi]
def eFm (f : Fm) : AV := .agg [.str f.name, .lst 0 f.zp (f.parts.map ePt)]
def bFm (f : Fm) : ABlk := .cells [.str f.name, .lst 0 f.zp (f.parts.map ePt)]
def eShc (s : Sh) : List AV := [.int .i64 s.width, .lst 0 s.zf (s.forms.map eFm)]
def eSh (s : Sh) : AV := .agg (eShc s)
theorem ePt_get (l : List Pt) (k : Nat) : (l.map ePt)[k]? = (l[k]?).map ePt := by simp
theorem ePt_clean1 (p : Pt) : (ePt p).clean = some (ePt p) := by simp only [ePt, go_sem, ↓reduceIte, simprocAttr]
theorem ePt_clean (l : List Pt) : cleanL (l.map ePt) = some (l.map ePt) := cleanL_map ePt_clean1 l
theorem ePt_under (n : Nat) (l : List Pt) : underL n (l.map ePt) = true := underL_map (fun x => by simp only [ePt, go_sem, ↓reduceIte, simprocAttr]) l
theorem eFm_get (l : List Fm) (k : Nat) : (l.map eFm)[k]? = (l[k]?).map eFm := by simp
theorem eFm_clean1 (f : Fm) : (eFm f).clean = some (eFm f) := by simp only [eFm, go_sem, ↓reduceIte, simprocAttr, ePt_clean]
theorem eFm_clean (l : List Fm) : cleanL (l.map eFm) = some (l.map eFm) := cleanL_map eFm_clean1 l
theorem eFm_under (n : Nat) (l : List Fm) : underL n (l.map eFm) = true := underL_map (fun x => by simp only [eFm, go_sem, ↓reduceIte, simprocAttr, ePt_under]) l
attribute [go_sem] ePt_get ePt_clean ePt_under eFm_get eFm_clean eFm_under
structure Pt.fits (p : Pt) : Prop where
 zw : p.words ≠ [] → p.zw = 1
 lw : p.words.length < 1000000000000000000
 sw : ∀ s ∈ p.words, s.size < 1000000000000000000
structure Fm.fits (f : Fm) : Prop where
 sn : f.name.size < 1000000000000000000
 zp : f.parts ≠ [] → f.zp = 3
 lp : f.parts.length < 1000000000000000000
 fp : ∀ p ∈ f.parts, p.fits
structure Sh.fits (s : Sh) : Prop where
 zf : s.forms ≠ [] → s.zf = 2
 lf : s.forms.length < 1000000000000000000
 ff : ∀ f ∈ s.forms, f.fits
def loAt (s : ByteArray) (i : Nat) : Bool := match s[i]? with | some b => decide (97 ≤ b.toNat) && decide (b.toNat ≤ 122) | none => false
def loE (s : ByteArray) (i : Nat) : Int := if loAt s i then 0 else 1
def wordOk (s : ByteArray) : Bool := inR s.size 1 8 && (List.range s.size).all (loAt s)
theorem loE_none {s : ByteArray} {n : Nat} : (firstBad (loE s) 0 n).isNone = (List.range n).all (loAt s) := by
 rw [Bool.eq_iff_iff, Option.isNone_iff_eq_none, List.all_eq_true]
 constructor
 ·intro h i hi
  have := firstBad_none h i (Nat.zero_le _) (by simpa using hi)
  unfold loE at this
  split at this
  ·assumption
  ·cases this
 ·intro h
  exact firstBad_zero fun i _ hi => by unfold loE; rw [if_pos (h i (by simpa using hi))]
theorem z167 (s : ByteArray) (hs : s.size < 1000000000000000000) (h : Heap) : callPure (EW tabX) 167 [.str s] h = some (.bool (wordOk s), h) := by
 rw [callPure_eq, w_call _ fn_167 rfl]
 unfold wordOk
 cases h1 : inR s.size 1 8 with
 | false => simp only [go_sem, ↓reduceIte, simprocAttr, c47, h1]
 | true =>
  simp only [go_sem, ↓reduceIte, simprocAttr, c47, h1]
  rw [← loE_none]
  rw [w_first (fun k => [(3, .int .i64 k)]) (fun k => ⟨[], []⟩) (loE s) s.size .ret (fun n => [(2, .bool false), (3, .int .i64 n)]) (fun n => ⟨[], []⟩) (.exit 0) [(3, .int .i64 s.size)] ⟨[], []⟩ ?_ ?_ ?_ ?_ ?_ rfl rfl]
  ·unfold firstW
   cases firstBad (loE s) 0 s.size with
   | some n => simp only [go_sem, ↓reduceIte, simprocAttr]
   | none => simp only [go_sem, ↓reduceIte, simprocAttr]
  ·simp only [go_sem, ↓reduceIte, simprocAttr]
  ·rfl
  ·intro k hk h0
   have hki : (k : Int) < s.size := by omega
   have hx : s[k]? = some s[k] := by simp [hk]
   have hlo : loAt s k = true := by unfold loE at h0; split at h0; assumption; cases h0
   rw [loAt, hx] at hlo
   simp only [Bool.and_eq_true, decide_eq_true_eq] at hlo
   have g1 : ¬ ((s[k].toNat : Int) < 97) := by omega
   have g2 : ¬ (122 < (s[k].toNat : Int)) := by omega
   simp (disch := omega) only [go_sem, ↓reduceIte, simprocAttr, hki, hx, g1, g2, wrap_i64]
  ·intro k hk h0
   have hki : (k : Int) < s.size := by omega
   have hx : s[k]? = some s[k] := by simp [hk]
   have hlo : loAt s k = false := by unfold loE at h0; split at h0; exact absurd rfl h0; simpa using ‹¬ loAt s k = true›
   rw [loAt, hx] at hlo
   simp only [Bool.and_eq_false_iff, decide_eq_false_iff_not] at hlo
   by_cases g1 : (s[k].toNat : Int) < 97
   ·simp (disch := omega) only [go_sem, ↓reduceIte, simprocAttr, hki, hx, g1, wrap_i64]
   ·have g2 : 122 < (s[k].toNat : Int) := by omega
    simp (disch := omega) only [go_sem, ↓reduceIte, simprocAttr, hki, hx, g1, g2, wrap_i64]
  ·simp (disch := omega) only [go_sem, ↓reduceIte, simprocAttr, Int.lt_irrefl]
theorem z128 (l : List ByteArray) (z : Nat) (hz : l ≠ [] → z = 1) (hl : l.length < 1000000000000000000) (hs : ∀ s ∈ l, s.size < 1000000000000000000) (h : Heap) : callPure (EW tabX) 128 [.lst 0 z (S l)] h = some (.bool (l.all wordOk), h) := by
 rw [callPure_eq, w_call _ fn_128 rfl]
 simp only [go_sem, ↓reduceIte, simprocAttr]
 rw [w_rounds_u (fun k => [(3, .bool ((l.take k).all wordOk)), (4, .int .i64 k)]) l.length (.exit 0) [(3, .bool (l.all wordOk)), (4, .int .i64 l.length)] ?_ ?_ ?_ rfl]
 ·simp only [go_sem, ↓reduceIte, simprocAttr]
 ·simp only [go_sem, ↓reduceIte, simprocAttr]
 ·intro k hk
  have hki : (k : Int) < l.length := by omega
  have hx := List.getElem?_eq_getElem hk
  have hz1 := hz (by intro e; rw [e] at hk; simp at hk)
  subst hz1
  have h167 := z167 l[k] (hs _ (List.getElem_mem _))
  have ht : (l.take (k + 1)).all wordOk = ((l.take k).all wordOk && wordOk l[k]) := by rw [List.take_succ_eq_append_getElem hk, List.all_append]; simp
  rw [ht]
  cases (l.take k).all wordOk with
  | true => simp (disch := omega) only [go_sem, ↓reduceIte, simprocAttr, hki, hx, h167, wrap_i64]
  | false => simp (disch := omega) only [go_sem, ↓reduceIte, simprocAttr, hki, hx, h167, wrap_i64]
 ·simp (disch := omega) only [go_sem, ↓reduceIte, simprocAttr, Int.lt_irrefl, List.take_length]
theorem z129 (p : Pt) (hl : p.words.length < 1000000000000000000) (h : Heap) : callPure (EW tabX) 129 [ePt p] h = some (.bool (p.words.length == 0), h) := by
 rw [callPure_eq, w_call _ fn_129 rfl]
 have e : ((p.words.length : Int) == 0) = (p.words.length == 0) := by rw [Bool.eq_iff_iff]; simp
 simp only [ePt, go_sem, ↓reduceIte, simprocAttr, e]
def ptE (p : Pt) : Int :=
 if 3 < p.words.length then 3 else if !p.words.all wordOk then 6
 else if 0 < p.words.length then (if p.lo = 0 ∧ p.hi = 0 then 0 else 2)
 else if !(inR p.lo 0 3 && inR p.hi 1 3) then 7 else if p.hi < p.lo then 2 else 0
theorem z74 (p : Pt) (hp : p.fits) (h : Heap) : callPure (EW tabX) 74 [ePt p] h = some (.int .i64 (ptE p), h) := by
 have h128 := z128 p.words p.zw hp.zw hp.lw hp.sw
 have h129 := z129 p hp.lw
 rw [callPure_eq, w_call _ fn_74 rfl]
 unfold ptE
 obtain ⟨words, zw, lo, hi⟩ := p
 simp only [ePt] at h128 h129 ⊢
 by_cases h1 : 3 < words.length
 ·have h1' : 3 < (words.length : Int) := by omega
  simp only [go_sem, ↓reduceIte, simprocAttr, h1, h1']
 have h1' : ¬ 3 < (words.length : Int) := by omega
 cases h2 : words.all wordOk with
 | false => simp only [go_sem, ↓reduceIte, simprocAttr, h1, h1', h128, h2]
 | true =>
 by_cases h3 : 0 < words.length
 ·have h3' : (words.length == 0) = false := by rw [beq_eq_false_iff_ne]; omega
  by_cases h4 : lo = 0 ∧ hi = 0
  ·obtain ⟨rfl, rfl⟩ := h4
   simp only [go_sem, ↓reduceIte, simprocAttr, h1, h1', h128, h2, h129, h3, h3']
  ·have h4' : (lo == 0 && hi == 0) = false := by
    rw [Bool.and_eq_false_iff, beq_eq_false_iff_ne, beq_eq_false_iff_ne]; omega
   simp only [go_sem, ↓reduceIte, simprocAttr, h1, h1', h128, h2, h129, h3, h3', h4, h4']
 have h3' : (words.length == 0) = true := by rw [beq_iff_eq]; omega
 cases h5 : inR lo 0 3 with
 | false => simp only [go_sem, ↓reduceIte, simprocAttr, h1, h1', h128, h2, h129, h3, h3', c47, h5]
 | true =>
 cases h6 : inR hi 1 3 with
 | false => simp only [go_sem, ↓reduceIte, simprocAttr, h1, h1', h128, h2, h129, h3, h3', c47, h5, h6]
 | true =>
 by_cases h7 : hi < lo
 ·simp only [go_sem, ↓reduceIte, simprocAttr, h1, h1', h128, h2, h129, h3, h3', c47, h5, h6, h7]
 ·simp only [go_sem, ↓reduceIte, simprocAttr, h1, h1', h128, h2, h129, h3, h3', c47, h5, h6, h7]
end
section
open Go.Proofs
theorem checkF_eq (d : Fu) : checkF d = if headE d ≠ 0 then (1, 0, headE d) else if (partP d 1).2 ≠ 0 then (2, partP d 1) else if (partP d 2).2 ≠ 0 then (3, partP d 2) else if (partP d 3).2 ≠ 0 then (4, partP d 3) else if (partP d 4).2 ≠ 0 then (5, partP d 4) else (0, 0, 0) := by
 unfold checkF
 have e0 : partE d 0 = headE d := rfl
 by_cases h0 : headE d ≠ 0
 ·rw [if_pos h0]; simp only [firstBad, e0, h0, ne_eq, not_false_eq_true, if_true]; rfl
 rw [if_neg h0]
 by_cases h1 : (partP d 1).2 ≠ 0
 ·rw [if_pos h1]
  have h1 : partE d 1 ≠ 0 := h1
  simp only [firstBad, e0, h0, h1, ne_eq, not_false_eq_true, if_true, if_false]; rfl
 rw [if_neg h1]
 have h1 : ¬ partE d 1 ≠ 0 := h1
 by_cases h2 : (partP d 2).2 ≠ 0
 ·rw [if_pos h2]
  have h2 : partE d 2 ≠ 0 := h2
  simp only [firstBad, e0, h0, h1, h2, ne_eq, not_false_eq_true, if_true, if_false]; rfl
 rw [if_neg h2]
 have h2 : ¬ partE d 2 ≠ 0 := h2
 by_cases h3 : (partP d 3).2 ≠ 0
 ·rw [if_pos h3]
  have h3 : partE d 3 ≠ 0 := h3
  simp only [firstBad, e0, h0, h1, h2, h3, ne_eq, not_false_eq_true, if_true, if_false]; rfl
 rw [if_neg h3]
 have h3 : ¬ partE d 3 ≠ 0 := h3
 by_cases h4 : (partP d 4).2 ≠ 0
 ·rw [if_pos h4]
  have h4 : partE d 4 ≠ 0 := h4
  simp only [firstBad, e0, h0, h1, h2, h3, h4, ne_eq, not_false_eq_true, if_true, if_false]; rfl
 rw [if_neg h4]
 have h4 : ¬ partE d 4 ≠ 0 := h4
 simp only [firstBad, e0, h0, h1, h2, h3, h4, ne_eq, not_false_eq_true, if_true, if_false]
theorem failP_no {lo hi : Int} {e : Nat → Int} {n : Nat} (h : out lo hi n = true) : failP lo hi e n = (0, 3) := if_pos h
theorem failP_bad {lo hi : Int} {e : Nat → Int} {n k : Nat} (h : out lo hi n = false) (hf : firstBad e 0 n = some k) : failP lo hi e n = ((k : Int), e k) := by
 unfold failP; rw [if_neg (by rw [h]; exact Bool.false_ne_true), hf]
theorem failP_ok {lo hi : Int} {e : Nat → Int} {n : Nat} (h : out lo hi n = false) (hf : firstBad e 0 n = none) : failP lo hi e n = (0, 0) := by
 unfold failP; rw [if_neg (by rw [h]; exact Bool.false_ne_true), hf]
def names (l : List Pe) : List ByteArray := l.map (·.name)
theorem names_any (l : List Pe) (s : ByteArray) : (names l).any (fun x => x == s) = l.any (fun y => y.name == s) := by simp [names, List.any_map]; rfl
theorem names_succ {l : List Pe} {k : Nat} {x : Pe} (h : l[k]? = some x) : names (l.take (k + 1)) = names (l.take k) ++ [x.name] := map_succ _ h
set_option maxHeartbeats 4000000 in
theorem c10 (d : Fu) (hd : d.fits) (h : Heap) : callPure (EW tabX) 38 [eF d] h = some (tup3 (checkF d), h) := by
 rw [callPure_eq, w_call _ fn_38 rfl]
 rw [checkF_eq]
 have hll := hd.ll
 have hlp := hd.lp
 have hlv := hd.lv
 have hle := hd.le
 have ehead : (out 0 300 d.pence || (out 1 7 d.days || (out 0 9 d.opn || (out 0 9 d.late || out 0 23 d.frm)))) = (out 0 300 d.pence || out 1 7 d.days || (out 0 9 d.opn || out 0 9 d.late) || out 0 23 d.frm) := by
  simp only [Bool.or_assoc]
 cases h0 : (out 0 300 d.pence || out 1 7 d.days || (out 0 9 d.opn || out 0 9 d.late) || out 0 23 d.frm) with
 | true =>
  have e0 : headE d = 7 := by unfold headE; rw [h0]; rfl
  rw [h0] at ehead
  rw [e0, if_pos (by decide)]
  simp only [go_sem, ↓reduceIte, simprocAttr, eF, eFc, c47, notin, ehead, tup3]
 | false =>
 have e0 : headE d = 0 := by unfold headE; rw [h0]; rfl
 have hday : 1 ≤ d.days ∧ d.days ≤ 7 := by
  simp [out] at h0; omega
 rw [h0] at ehead
 rw [e0, if_neg (by decide)]
 cases h1 : out 1 3 d.lines.length with
 | true =>
  have e1 : partP d 1 = (0, 3) := failP_no h1
  rw [e1, if_pos (by decide)]
  simp only [go_sem, ↓reduceIte, simprocAttr, eF, eFc, c47, ehead, notin, h1, tup3]
 | false =>
 simp only [go_sem, ↓reduceIte, simprocAttr, eF, eFc, c47, ehead, notin, h1]
 rw [w_first (fun k => [(5, .int .i64 k)]) (fun _ => ⟨[.cells (eFc d)], []⟩) (lineE d) d.lines.length .ret (fun n => [(2, .int .i64 2), (3, .int .i64 n), (4, .int .i64 7), (5, .int .i64 n)]) (fun _ => ⟨[.cells (eFc d)], []⟩) (.exit 0) [(5, .int .i64 d.lines.length)] ⟨[.cells (eFc d)], []⟩ ?_ ?_ ?_ ?_ ?_ rfl rfl]
 rotate_left
 ·simp only [go_sem, ↓reduceIte, simprocAttr]
 ·simp only [eFc]
 ·intro k hk hz0
  have hx := List.getElem?_eq_getElem hk
  have hki : (k : Int) < d.lines.length := by omega
  have hz := hd.zl (by intro e; rw [e] at hk; simp at hk)
  have he : lnE d.lines[k] = 0 := by rw [← hz0, lineE, hx]
  have ho : out 0 9 d.lines[k] = false := by
   unfold lnE at he
   cases ho : out 0 9 d.lines[k] with
   | true => rw [ho] at he; cases he
   | false => rfl
  simp (disch := omega) only [go_sem, ↓reduceIte, simprocAttr, eFc, hki, hx, hz, c47, notin, ho, wrap_i64]
 ·intro k hk hz0
  have hx := List.getElem?_eq_getElem hk
  have hki : (k : Int) < d.lines.length := by omega
  have hz := hd.zl (by intro e; rw [e] at hk; simp at hk)
  have he : lnE d.lines[k] ≠ 0 := by rw [lineE, hx] at hz0; exact hz0
  have ho : out 0 9 d.lines[k] = true := by
   unfold lnE at he
   cases ho : out 0 9 d.lines[k] with
   | true => rfl
   | false => rw [ho] at he; exact absurd rfl he
  simp (disch := omega) only [go_sem, ↓reduceIte, simprocAttr, eFc, hki, hx, hz, c47, notin, ho, wrap_i64]
 ·simp only [go_sem, ↓reduceIte, simprocAttr, eFc, Int.lt_irrefl]
 unfold firstW
 cases f1 : firstBad (lineE d) 0 d.lines.length with
 | some n =>
  have e1 : partP d 1 = ((n : Int), lineE d n) := failP_bad h1 f1
  have hn7 : lineE d n = 7 := by
   have hne := (firstBad_some f1).2.2.1
   unfold lineE lnE at hne ⊢
   split
   ·rename_i y hy
    rw [hy] at hne
    simp only at hne
    split
    ·rfl
    ·rename_i hno; rw [if_neg hno] at hne; exact absurd rfl hne
   ·rename_i hy; rw [hy] at hne; exact absurd rfl hne
  rw [e1, hn7, if_pos (show (7 : Int) ≠ 0 by decide)]
  simp only [go_sem, ↓reduceIte, simprocAttr, tup3]
 | none =>
 have e1 : partP d 1 = (0, 0) := failP_ok h1 f1
 rw [e1, if_neg (by decide)]
 cases h2 : out 0 4 d.people.length with
 | true =>
  have e2 : partP d 2 = (0, 3) := failP_no h2
  have h2i : (4 : Int) < d.people.length := by simp [out] at h2; omega
  rw [e2, if_pos (by decide)]
  simp only [go_sem, ↓reduceIte, simprocAttr, eFc, h2i, tup3]
 | false =>
 have h2i : ¬ (4 : Int) < d.people.length := by simp [out] at h2; omega
 simp only [go_sem, ↓reduceIte, simprocAttr, eFc, h2i]
 rw [w_first (fun k => [(6, .lst (tagT [] k) (zT 1 k) (S (names (d.people.take k)))), (7, .int .i64 k)]) (fun k => ⟨[.cells (eFc d)], T [] k⟩) (persE d) d.people.length .ret
  (fun n => [(2, .int .i64 3), (3, .int .i64 n), (4, .int .i64 (persE d n)), (6, .lst (tagT [] (n + 1)) 1 (S (names (d.people.take (n + 1))))), (7, .int .i64 n), (8, .int .i64 (persE d n))]) (fun n => ⟨[.cells (eFc d)], T [] (n + 1)⟩)
  (.exit 2) [(6, .lst (tagT [] d.people.length) (zT 1 d.people.length) (S (names d.people))), (7, .int .i64 d.people.length)] ⟨[.cells (eFc d)], T [] d.people.length⟩ ?_ ?_ ?_ ?_ ?_ rfl rfl]
 rotate_left
 ·simp only [go_sem, ↓reduceIte, simprocAttr, names]
 ·simp only [go_sem, ↓reduceIte, simprocAttr, eFc]
 ·intro k hk hz0
  have hx := List.getElem?_eq_getElem hk
  have hki : (k : Int) < d.people.length := by omega
  have hz := hd.zp (by intro e; rw [e] at hk; simp at hk)
  have hs := hd.np _ (List.mem_of_getElem? hx)
  rw [names_succ hx, ← S_snoc]
  have hln : (names (d.people.take k)).length = k := by simp [names]; omega
  have ha := fun B => append_step (X := tabX) (t := 70) (e := 9) (sz := 1) [] k B (zT 1 k) 1 1 (S (names (d.people.take k))) [.str d.people[k].name] (by simp only [go_sem, ↓reduceIte, simprocAttr]) (by simp only [go_sem, ↓reduceIte, simprocAttr])
   (by rcases Nat.eq_zero_or_pos k with e | e; exact .inl ⟨e, by rw [e]; simp [names, S]⟩; exact .inr (zT_pos e)) (.inl rfl) (by omega) (by simp only [go_sem, ↓reduceIte, simprocAttr, hln]; omega) (by simp only [go_sem, ↓reduceIte, simprocAttr, hln]; omega) (by simp only [go_sem, ↓reduceIte, simprocAttr]) (by simp only [go_sem, ↓reduceIte, simprocAttr])
  have hf := c48 (names (d.people.take k)) d.people[k].name (zT 1 k) (fun hne => zT_pos (by rcases Nat.eq_zero_or_pos k with e | e; rw [e] at hne; simp [names] at hne; exact e)) (by omega) hs
  have he : peE d.people k d.people[k] = 0 := by rw [← hz0, persE, hx]
  unfold peE at he
  rw [← names_any] at he
  cases e1 : nameOk d.people[k].name with
  | false => rw [e1] at he; cases he
  | true =>
   cases e2 : (names (d.people.take k)).any (fun x => x == d.people[k].name) with
   | true => rw [e1, e2] at he; cases he
   | false =>
    cases e3 : out 0 2 d.people[k].widow with
    | true => rw [e1, e2, e3] at he; cases he
    | false =>
     simp (disch := omega) only [go_sem, ↓reduceIte, simprocAttr, eFc, hki, hx, ePe, hz, hf, fresh, e1, e2, e3, ha, c47, notin, wrap_i64]
 ·intro k hk hz0
  have hx := List.getElem?_eq_getElem hk
  have hki : (k : Int) < d.people.length := by omega
  have hz := hd.zp (by intro e; rw [e] at hk; simp at hk)
  have hs := hd.np _ (List.mem_of_getElem? hx)
  rw [names_succ hx, ← S_snoc]
  have hln : (names (d.people.take k)).length = k := by simp [names]; omega
  have ha := fun B => append_step (X := tabX) (t := 70) (e := 9) (sz := 1) [] k B (zT 1 k) 1 1 (S (names (d.people.take k))) [.str d.people[k].name] (by simp only [go_sem, ↓reduceIte, simprocAttr]) (by simp only [go_sem, ↓reduceIte, simprocAttr])
   (by rcases Nat.eq_zero_or_pos k with e | e; exact .inl ⟨e, by rw [e]; simp [names, S]⟩; exact .inr (zT_pos e)) (.inl rfl) (by omega) (by simp only [go_sem, ↓reduceIte, simprocAttr, hln]; omega) (by simp only [go_sem, ↓reduceIte, simprocAttr, hln]; omega) (by simp only [go_sem, ↓reduceIte, simprocAttr]) (by simp only [go_sem, ↓reduceIte, simprocAttr])
  have hf := c48 (names (d.people.take k)) d.people[k].name (zT 1 k) (fun hne => zT_pos (by rcases Nat.eq_zero_or_pos k with e | e; rw [e] at hne; simp [names] at hne; exact e)) (by omega) hs
  have he : peE d.people k d.people[k] = persE d k := by rw [persE, hx]
  unfold peE at he
  rw [← names_any] at he
  cases e1 : nameOk d.people[k].name with
  | false =>
   rw [e1] at he
   have he : (6 : Int) = persE d k := he
   rw [← he]
   simp (disch := omega) only [go_sem, ↓reduceIte, simprocAttr, eFc, hki, hx, ePe, hz, hf, fresh, e1, ha, wrap_i64]
  | true =>
   cases e2 : (names (d.people.take k)).any (fun x => x == d.people[k].name) with
   | true =>
    rw [e1, e2] at he
    have he : (5 : Int) = persE d k := he
    rw [← he]
    simp (disch := omega) only [go_sem, ↓reduceIte, simprocAttr, eFc, hki, hx, ePe, hz, hf, fresh, e1, e2, ha, wrap_i64]
   | false =>
    cases e3 : out 0 2 d.people[k].widow with
    | true =>
     rw [e1, e2, e3] at he
     have he : (7 : Int) = persE d k := he
     rw [← he]
     simp (disch := omega) only [go_sem, ↓reduceIte, simprocAttr, eFc, hki, hx, ePe, hz, hf, fresh, e1, e2, e3, ha, c47, notin, wrap_i64]
    | false => rw [e1, e2, e3] at he; exact absurd he.symm hz0
 ·simp only [go_sem, ↓reduceIte, simprocAttr, eFc, Int.lt_irrefl]
 unfold firstW
 cases f2 : firstBad (persE d) 0 d.people.length with
 | some n =>
  have e2 : partP d 2 = ((n : Int), persE d n) := failP_bad h2 f2
  rw [e2, if_pos (firstBad_some f2).2.2.1]
  simp only [go_sem, ↓reduceIte, simprocAttr, tup3]
 | none =>
 have e2 : partP d 2 = (0, 0) := failP_ok h2 f2
 rw [e2, if_neg (by decide)]
 cases h3 : out 0 5 d.visits.length with
 | true =>
  have e3 : partP d 3 = (0, 3) := failP_no h3
  have h3i : (5 : Int) < d.visits.length := by simp [out] at h3; omega
  rw [e3, if_pos (by decide)]
  simp only [go_sem, ↓reduceIte, simprocAttr, eFc, h3i, tup3]
 | false =>
 have h3i : ¬ (5 : Int) < d.visits.length := by simp [out] at h3; omega
 simp only [go_sem, ↓reduceIte, simprocAttr, eFc, h3i]
 rw [w_first (fun k => [(9, .int .i64 k)]) (fun _ => ⟨[.cells (eFc d)], T [] d.people.length⟩) (visE d) d.visits.length .ret (fun n => [(2, .int .i64 4), (3, .int .i64 n), (4, .int .i64 (visE d n)), (9, .int .i64 n), (10, .int .i64 (visE d n))]) (fun _ => ⟨[.cells (eFc d)], T [] d.people.length⟩) (.exit 4) [(9, .int .i64 d.visits.length)] ⟨[.cells (eFc d)], T [] d.people.length⟩ ?_ ?_ ?_ ?_ ?_ rfl rfl]
 rotate_left
 ·simp only [go_sem, ↓reduceIte, simprocAttr]
 ·simp only [eFc]
 ·intro k hk hz0
  have hx := List.getElem?_eq_getElem hk
  have hki : (k : Int) < d.visits.length := by omega
  have h49 := c49 d hd hday k _ hx
  have he : viE d k d.visits[k] = 0 := by rw [← hz0, visE, hx]
  rw [he] at h49
  simp only [eF, eFc] at h49
  simp (disch := omega) only [go_sem, ↓reduceIte, simprocAttr, eFc, hki, h49, wrap_i64, bne_self_eq_false]
 ·intro k hk hz0
  have hx := List.getElem?_eq_getElem hk
  have hki : (k : Int) < d.visits.length := by omega
  have h49 := c49 d hd hday k _ hx
  have he : viE d k d.visits[k] = visE d k := by rw [visE, hx]
  have hne : (visE d k != 0) = true := by simpa using hz0
  rw [he] at h49
  simp only [eF, eFc] at h49
  simp (disch := omega) only [go_sem, ↓reduceIte, simprocAttr, eFc, hki, h49, wrap_i64, hne]
 ·simp only [go_sem, ↓reduceIte, simprocAttr, eFc, Int.lt_irrefl]
 unfold firstW
 cases f3 : firstBad (visE d) 0 d.visits.length with
 | some n =>
  have e3 : partP d 3 = ((n : Int), visE d n) := failP_bad h3 f3
  rw [e3, if_pos (firstBad_some f3).2.2.1]
  simp only [go_sem, ↓reduceIte, simprocAttr, tup3]
 | none =>
 have e3 : partP d 3 = (0, 0) := failP_ok h3 f3
 rw [e3, if_neg (by decide)]
 cases h4 : out 0 4 d.entries.length with
 | true =>
  have e4 : partP d 4 = (0, 3) := failP_no h4
  have h4i : (4 : Int) < d.entries.length := by simp [out] at h4; omega
  rw [e4, if_pos (by decide)]
  simp only [go_sem, ↓reduceIte, simprocAttr, eFc, h4i, tup3]
 | false =>
 have h4i : ¬ (4 : Int) < d.entries.length := by simp [out] at h4; omega
 simp only [go_sem, ↓reduceIte, simprocAttr, eFc, h4i]
 have hwv : IntKind.i64.wrap ((d.visits.length : Int) - 1) = (d.visits.length : Int) - 1 := wrap_i64 (by omega)
 rw [w_first (fun k => [(11, .int .i64 k)]) (fun _ => ⟨[.cells (eFc d)], T [] d.people.length⟩) (entE d) d.entries.length .ret (fun n => [(2, .int .i64 5), (3, .int .i64 n), (4, .int .i64 (entE d n)), (11, .int .i64 n)]) (fun _ => ⟨[.cells (eFc d)], T [] d.people.length⟩) (.exit 6) [(11, .int .i64 d.entries.length)] ⟨[.cells (eFc d)], T [] d.people.length⟩ ?_ ?_ ?_ ?_ ?_ rfl rfl]
 rotate_left
 ·simp only [go_sem, ↓reduceIte, simprocAttr]
 ·simp only [eFc]
 ·intro k hk hz0
  have hx := List.getElem?_eq_getElem hk
  have hki : (k : Int) < d.entries.length := by omega
  have hz := hd.ze (by intro e; rw [e] at hk; simp at hk)
  have he : etE d d.entries[k] = 0 := by rw [← hz0, entE, hx]
  unfold etE at he
  cases g1 : out 0 ((d.visits.length : Int) - 1) d.entries[k].visit with
  | true => rw [g1] at he; cases he
  | false =>
   cases g2 : out 0 999 d.entries[k].pence with
   | true => rw [g1, g2] at he; cases he
   | false => simp (disch := omega) only [go_sem, ↓reduceIte, simprocAttr, eFc, hki, hx, eEt, hz, hwv, c47, notin, g1, g2, wrap_i64]
 ·intro k hk hz0
  have hx := List.getElem?_eq_getElem hk
  have hki : (k : Int) < d.entries.length := by omega
  have hz := hd.ze (by intro e; rw [e] at hk; simp at hk)
  have he : etE d d.entries[k] = entE d k := by rw [entE, hx]
  unfold etE at he
  cases g1 : out 0 ((d.visits.length : Int) - 1) d.entries[k].visit with
  | true =>
   rw [g1] at he
   have he : (4 : Int) = entE d k := he
   rw [← he]
   simp (disch := omega) only [go_sem, ↓reduceIte, simprocAttr, eFc, hki, hx, eEt, hz, hwv, c47, notin, g1, wrap_i64]
  | false =>
   cases g2 : out 0 999 d.entries[k].pence with
   | true =>
    rw [g1, g2] at he
    have he : (7 : Int) = entE d k := he
    rw [← he]
    simp (disch := omega) only [go_sem, ↓reduceIte, simprocAttr, eFc, hki, hx, eEt, hz, hwv, c47, notin, g1, g2, wrap_i64]
   | false => rw [g1, g2] at he; exact absurd he.symm hz0
 ·simp only [go_sem, ↓reduceIte, simprocAttr, eFc, Int.lt_irrefl]
 unfold firstW
 cases f4 : firstBad (entE d) 0 d.entries.length with
 | some n =>
  have e4 : partP d 4 = ((n : Int), entE d n) := failP_bad h4 f4
  rw [e4, if_pos (firstBad_some f4).2.2.1]
  simp only [go_sem, ↓reduceIte, simprocAttr, tup3]
 | none =>
  have e4 : partP d 4 = (0, 0) := failP_ok h4 f4
  rw [e4, if_neg (by decide)]
  simp only [go_sem, ↓reduceIte, simprocAttr, tup3]
end
section
open Go.Proofs
def fnames (l : List Fm) : List ByteArray := l.map (·.name)
theorem fnames_succ {l : List Fm} {k : Nat} {x : Fm} (h : l[k]? = some x) : fnames (l.take (k + 1)) = fnames (l.take k) ++ [x.name] := map_succ _ h
def partEat (l : List Pt) (i : Nat) : Int := match l[i]? with | some p => ptE p | none => 0
def fmE (l : List ByteArray) (f : Fm) : Int :=
 if fresh f.name l ≠ 0 then fresh f.name l else if 5 < f.parts.length then 3
 else match firstBad (partEat f.parts) 0 f.parts.length with | some j => partEat f.parts j | none => 0
def formE (s : Sh) (k : Nat) : Int := match s.forms[k]? with | some f => fmE (fnames (s.forms.take k)) f | none => 0
def fmN (l : List ByteArray) (f : Fm) : Nat :=
 if fresh f.name l ≠ 0 then 0 else if 5 < f.parts.length then 0
 else match firstBad (partEat f.parts) 0 f.parts.length with | some j => j + 1 | none => 0
def formN (s : Sh) (k : Nat) : Nat := match s.forms[k]? with | some f => fmN (fnames (s.forms.take k)) f | none => 0
def checkL (s : Sh) : Int × Int × Int :=
 if !inR s.width 8 30 then (1, 0, 7) else if 4 < s.forms.length then (2, 0, 3)
 else match firstBad (formE s) 0 s.forms.length with | some k => (2, (k : Int), formE s k) | none => (0, 0, 0)
set_option maxHeartbeats 2000000 in
theorem z37 (s : Sh) (hs : s.fits) (h : Heap) : callPure (EW tabX) 37 [eSh s] h = some (tup3 (checkL s), h) := by
 rw [callPure_eq, w_call _ fn_37 rfl]
 have hlf := hs.lf
 unfold checkL
 cases h1 : inR s.width 8 30 with
 | false => simp only [go_sem, ↓reduceIte, simprocAttr, eSh, eShc, c47, h1, tup3]
 | true =>
 by_cases h2 : 4 < s.forms.length
 ·have h2i : 4 < (s.forms.length : Int) := by omega
  simp only [go_sem, ↓reduceIte, simprocAttr, eSh, eShc, c47, h1, h2, h2i, tup3]
 have h2i : ¬ 4 < (s.forms.length : Int) := by omega
 simp only [go_sem, ↓reduceIte, simprocAttr, eSh, eShc, c47, h1, h2, h2i]
 rw [w_first (fun k => [(5, .lst (tagT [] k) (zT 1 k) (S (fnames (s.forms.take k)))), (6, .int .i64 k)]) (fun k => ⟨.cells (eShc s) :: (s.forms.take k).map bFm, T [] k⟩) (formE s) s.forms.length .ret
  (fun n => [(2, .int .i64 2), (3, .int .i64 n), (4, .int .i64 (formE s n)), (5, .lst (tagT [] (n + 1)) 1 (S (fnames (s.forms.take (n + 1))))), (6, .int .i64 n), (7, .ref (n + 1) 0), (8, .int .i64 (formE s n)), (9, .int .i64 (formN s n))]) (fun n => ⟨.cells (eShc s) :: (s.forms.take (n + 1)).map bFm, T [] (n + 1)⟩)
  (.exit 0) [(5, .lst (tagT [] s.forms.length) (zT 1 s.forms.length) (S (fnames s.forms))), (6, .int .i64 s.forms.length)] ⟨.cells (eShc s) :: s.forms.map bFm, T [] s.forms.length⟩ ?_ ?_ ?_ ?_ ?_ rfl rfl]
 ·unfold firstW
  cases firstBad (formE s) 0 s.forms.length with
  | some n => simp only [go_sem, ↓reduceIte, simprocAttr, tup3]
  | none => simp only [go_sem, ↓reduceIte, simprocAttr, tup3]
 ·simp only [go_sem, ↓reduceIte, simprocAttr, fnames]
 ·simp only [go_sem, ↓reduceIte, simprocAttr, eShc]
 ·intro k hk hz0
  have hx := List.getElem?_eq_getElem hk
  have hki : (k : Int) < s.forms.length := by omega
  have hz := hs.zf (by intro e; rw [e] at hk; simp at hk)
  have hf := hs.ff _ (List.mem_of_getElem? hx)
  have hln : (fnames (s.forms.take k)).length = k := by simp [fnames]; omega
  have hmap : (s.forms.take (k + 1)).map bFm = (s.forms.take k).map bFm ++ [bFm s.forms[k]] := map_succ _ hx
  rw [fnames_succ hx, ← S_snoc, hmap]
  have he : fmE (fnames (s.forms.take k)) s.forms[k] = formE s k := by rw [formE, hx]
  generalize s.forms[k] = f at *
  have ha := fun B => append_step (X := tabX) (t := 70) (e := 9) (sz := 1) [] k B (zT 1 k) 1 1 (S (fnames (s.forms.take k))) [.str f.name] (by simp only [go_sem, ↓reduceIte, simprocAttr]) (by simp only [go_sem, ↓reduceIte, simprocAttr])
   (by rcases Nat.eq_zero_or_pos k with e | e; exact .inl ⟨e, by rw [e]; simp [fnames, S]⟩; exact .inr (zT_pos e)) (.inl rfl) (by omega) (by simp only [go_sem, ↓reduceIte, simprocAttr, hln]; omega) (by simp only [go_sem, ↓reduceIte, simprocAttr, hln]; omega) (by simp only [go_sem, ↓reduceIte, simprocAttr]) (by simp only [go_sem, ↓reduceIte, simprocAttr])
  have hfr := c48 (fnames (s.forms.take k)) f.name (zT 1 k) (fun hne => zT_pos (by rcases Nat.eq_zero_or_pos k with e | e; rw [e] at hne; simp [fnames] at hne; exact e)) (by omega) hf.sn
  have hml : ((s.forms.take k).map bFm).length = k := by simp; omega
  generalize (s.forms.take k).map bFm = HB at *
  generalize fnames (s.forms.take k) = nm at *
  rw [hz0] at he
  unfold fmE at he
  by_cases e1 : fresh f.name nm ≠ 0
  ·rw [if_pos e1] at he; exact absurd he e1
  rw [if_neg e1] at he
  have e1 : fresh f.name nm = 0 := by omega
  by_cases e2 : 5 < f.parts.length
  ·rw [if_pos e2] at he; cases he
  have e2i : ¬ 5 < (f.parts.length : Int) := by omega
  rw [if_neg e2] at he
  cases e3 : firstBad (partEat f.parts) 0 f.parts.length with
  | some j => rw [e3] at he; exact absurd he (firstBad_some e3).2.2.1
  | none =>
  simp (disch := omega) only [go_sem, ↓reduceIte, simprocAttr, eShc, hki, hx, eFm, hz, hfr, e1, e2i, ha]
  rw [w_rounds_u (fun j => [(8, .int .i64 0), (9, .int .i64 j)]) f.parts.length (.exit 2) [(8, .int .i64 0), (9, .int .i64 f.parts.length)] ?_ ?_ ?_ rfl]
  ·simp (disch := omega) only [go_sem, ↓reduceIte, simprocAttr, bFm, eShc, eFm, wrap_i64]
  ·simp only [go_sem, ↓reduceIte, simprocAttr]
  ·intro j hj
   have hpx := List.getElem?_eq_getElem hj
   have hji : (j : Int) < f.parts.length := by omega
   have hzp := hf.zp (by intro e; rw [e] at hj; simp at hj)
   have h74 := z74 f.parts[j] (hf.fp _ (List.getElem_mem _))
   have hj0 : ptE f.parts[j] = 0 := by have := firstBad_none e3 j (Nat.zero_le _) (by omega); rwa [partEat, hpx] at this
   rw [hj0] at h74
   simp only [ePt] at h74
   simp (disch := omega) only [go_sem, ↓reduceIte, simprocAttr, hji, hpx, hzp, ePt, h74, wrap_i64]
  ·simp (disch := omega) only [go_sem, ↓reduceIte, simprocAttr, Int.lt_irrefl]
 ·intro k hk hz0
  have hx := List.getElem?_eq_getElem hk
  have hki : (k : Int) < s.forms.length := by omega
  have hz := hs.zf (by intro e; rw [e] at hk; simp at hk)
  have hf := hs.ff _ (List.mem_of_getElem? hx)
  have hln : (fnames (s.forms.take k)).length = k := by simp [fnames]; omega
  have hmap : (s.forms.take (k + 1)).map bFm = (s.forms.take k).map bFm ++ [bFm s.forms[k]] := map_succ _ hx
  rw [fnames_succ hx, ← S_snoc, hmap]
  have he : fmE (fnames (s.forms.take k)) s.forms[k] = formE s k := by rw [formE, hx]
  have hn : fmN (fnames (s.forms.take k)) s.forms[k] = formN s k := by rw [formN, hx]
  generalize s.forms[k] = f at *
  have ha := fun B => append_step (X := tabX) (t := 70) (e := 9) (sz := 1) [] k B (zT 1 k) 1 1 (S (fnames (s.forms.take k))) [.str f.name] (by simp only [go_sem, ↓reduceIte, simprocAttr]) (by simp only [go_sem, ↓reduceIte, simprocAttr])
   (by rcases Nat.eq_zero_or_pos k with e | e; exact .inl ⟨e, by rw [e]; simp [fnames, S]⟩; exact .inr (zT_pos e)) (.inl rfl) (by omega) (by simp only [go_sem, ↓reduceIte, simprocAttr, hln]; omega) (by simp only [go_sem, ↓reduceIte, simprocAttr, hln]; omega) (by simp only [go_sem, ↓reduceIte, simprocAttr]) (by simp only [go_sem, ↓reduceIte, simprocAttr])
  have hfr := c48 (fnames (s.forms.take k)) f.name (zT 1 k) (fun hne => zT_pos (by rcases Nat.eq_zero_or_pos k with e | e; rw [e] at hne; simp [fnames] at hne; exact e)) (by omega) hf.sn
  have hml : ((s.forms.take k).map bFm).length = k := by simp; omega
  generalize (s.forms.take k).map bFm = HB at *
  generalize fnames (s.forms.take k) = nm at *
  generalize formE s k = v at *
  generalize formN s k = vn at *
  have hvb : (v != 0) = true := bne_iff_ne.2 hz0
  have hvb2 : (v == 0) = false := beq_eq_false_iff_ne.2 hz0
  unfold fmE at he
  unfold fmN at hn
  by_cases e1 : fresh f.name nm ≠ 0
  ·rw [if_pos e1] at he hn
   subst hn
   rw [he] at hfr
   simp (disch := omega) only [go_sem, ↓reduceIte, simprocAttr, eShc, hki, hx, eFm, hz, hfr, hvb2, ha]
   rw [w_rounds_u (fun j => [(8, .int .i64 v), (9, .int .i64 j)]) 0 (.exit 2) [(8, .int .i64 v), (9, .int .i64 0)] ?_ ?_ ?_ rfl]
   ·simp (disch := omega) only [go_sem, ↓reduceIte, simprocAttr, bFm, eShc, eFm, wrap_i64, hvb, hml, cast_zero]
   ·simp only [go_sem, ↓reduceIte, simprocAttr]
   ·intro j hj; omega
   ·simp (disch := omega) only [go_sem, ↓reduceIte, simprocAttr, hvb, hvb2]
  rw [if_neg e1] at he hn
  have e1 : fresh f.name nm = 0 := by omega
  by_cases e2 : 5 < f.parts.length
  ·have e2i : 5 < (f.parts.length : Int) := by omega
   have h0i : 0 < (f.parts.length : Int) := by omega
   rw [if_pos e2] at he hn
   subst hn
   simp (disch := omega) only [go_sem, ↓reduceIte, simprocAttr, eShc, hki, hx, eFm, hz, hfr, e1, e2i, ha]
   rw [w_rounds_u (fun j => [(8, .int .i64 3), (9, .int .i64 j)]) 0 (.exit 2) [(8, .int .i64 3), (9, .int .i64 0)] ?_ ?_ ?_ rfl]
   ·simp (disch := omega) only [go_sem, ↓reduceIte, simprocAttr, bFm, eShc, eFm, wrap_i64, ← he, hml, cast_zero]
   ·simp only [go_sem, ↓reduceIte, simprocAttr]
   ·intro j hj; omega
   ·simp (disch := omega) only [go_sem, ↓reduceIte, simprocAttr, h0i]
  have e2i : ¬ 5 < (f.parts.length : Int) := by omega
  rw [if_neg e2] at he hn
  cases e3 : firstBad (partEat f.parts) 0 f.parts.length with
  | none => rw [e3] at he; exact absurd he.symm hz0
  | some j0 =>
  rw [e3] at he hn
  have hn : vn = j0 + 1 := hn.symm
  have he : partEat f.parts j0 = v := he
  subst hn
  obtain ⟨_, hj0, _, hjl⟩ := firstBad_some e3
  have hpt : ∀ j, j < j0 → partEat f.parts j = 0 := fun j hj => hjl j (Nat.zero_le _) hj
  simp (disch := omega) only [go_sem, ↓reduceIte, simprocAttr, eShc, hki, hx, eFm, hz, hfr, e1, e2i, ha]
  rw [w_rounds_u (fun j => [(8, .int .i64 (if j = j0 + 1 then v else 0)), (9, .int .i64 j)]) (j0 + 1) (.exit 2) [(8, .int .i64 v), (9, .int .i64 (j0 + 1 : Nat))] ?_ ?_ ?_ rfl]
  ·simp (disch := omega) only [go_sem, ↓reduceIte, simprocAttr, bFm, eShc, eFm, wrap_i64, hvb, hml, cast_zero]
  ·have : ¬ (0 = j0 + 1) := by omega
   simp only [go_sem, ↓reduceIte, simprocAttr, this]
  ·intro j hj
   have hj2 : j < f.parts.length := by omega
   have hpx := List.getElem?_eq_getElem hj2
   have hji : (j : Int) < f.parts.length := by omega
   have hzp := hf.zp (by intro e; rw [e] at hj2; simp at hj2)
   have h74 := z74 f.parts[j] (hf.fp _ (List.getElem_mem _))
   have hpv : ptE f.parts[j] = if j + 1 = j0 + 1 then v else 0 := by
    by_cases e : j = j0
    ·subst e; rw [if_pos rfl, ← he, partEat, hpx]
    ·rw [if_neg (by omega)]
     have := hpt j (by omega)
     rwa [partEat, hpx] at this
   rw [hpv] at h74
   have hjn : ¬ (j = j0 + 1) := by omega
   rw [if_neg hjn]
   simp only [ePt] at h74
   generalize (if j + 1 = j0 + 1 then v else 0) = u at *
   simp (disch := omega) only [go_sem, ↓reduceIte, simprocAttr, hji, hpx, hzp, ePt, h74, wrap_i64]
  ·simp (disch := omega) only [go_sem, ↓reduceIte, simprocAttr, hvb2, if_true]
 ·simp only [go_sem, ↓reduceIte, simprocAttr, eShc, Int.lt_irrefl]
end
section
open Go.Proofs
def roomsL (l : List Pt) : List (Int × Int) := (l.filter fun p => p.words.length == 0).map fun p => (p.lo, p.hi)
def eSps (l : List (Int × Int)) : List AV := l.map eSp
theorem eSps_get (l : List (Int × Int)) (k : Nat) : (eSps l)[k]? = (l[k]?).map eSp := by simp [eSps]
theorem eSps_len (l : List (Int × Int)) : (eSps l).length = l.length := by simp [eSps]
theorem eSps_clean (l : List (Int × Int)) : cleanL (eSps l) = some (eSps l) := cleanL_map (fun x => by simp only [eSp, go_sem, ↓reduceIte, simprocAttr]) l
theorem eSps_under (n : Nat) (l : List (Int × Int)) : underL n (eSps l) = true := underL_map (fun x => by simp only [eSp, go_sem, ↓reduceIte, simprocAttr]) l
theorem eSps_nil : eSps [] = [] := rfl
theorem eSps_snoc (l : List (Int × Int)) (x : Int × Int) : eSps l ++ [.agg [.int .i64 x.1, .int .i64 x.2]] = eSps (l ++ [x]) := by simp [eSps, eSp]
attribute [go_sem] eSps_get eSps_len eSps_clean eSps_under eSps_nil
def vR (l : List (Int × Int)) : AV := .lst 0 (zT 2 l.length) (eSps l)
theorem roomsL_le (l : List Pt) : (roomsL l).length ≤ l.length := by unfold roomsL; rw [List.length_map]; exact List.length_filter_le _ _
theorem roomsL_succ {l : List Pt} {k : Nat} {x : Pt} (h : l[k]? = some x) : roomsL (l.take (k + 1)) = if x.words.length == 0 then roomsL (l.take k) ++ [(x.lo, x.hi)] else roomsL (l.take k) := by
 obtain ⟨hk, rfl⟩ := List.getElem?_eq_some_iff.1 h
 unfold roomsL
 rw [List.take_succ_eq_append_getElem hk, List.filter_append, List.map_append]
 cases e : (l[k].words.length == 0) with
 | true => simp [List.filter, e]
 | false => simp [List.filter, e]
theorem z92 (f : Fm) (hf : f.fits) (hl5 : f.parts.length ≤ 5) (h : Heap) : callPure (EW tabX) 92 [eFm f] h = some (vR (roomsL f.parts), h) := by
 rw [callPure_eq, w_call _ fn_92 rfl]
 have hlp := hf.lp
 simp only [go_sem, ↓reduceIte, simprocAttr, eFm]
 rw [w_rounds_h (fun k => [(3, .lst (tagT [] (roomsL (f.parts.take k)).length) (zT 2 (roomsL (f.parts.take k)).length) (eSps (roomsL (f.parts.take k)))), (4, .int .i64 k)]) (fun k => ⟨[bFm f], T [] (roomsL (f.parts.take k)).length⟩) f.parts.length (.exit 0)
  [(3, .lst (tagT [] (roomsL f.parts).length) (zT 2 (roomsL f.parts).length) (eSps (roomsL f.parts))), (4, .int .i64 f.parts.length)] ⟨[bFm f], T [] (roomsL f.parts).length⟩ ?_ ?_ ?_ ?_ rfl]
 ·simp only [go_sem, ↓reduceIte, simprocAttr, vR]
 ·simp only [go_sem, ↓reduceIte, simprocAttr]; rfl
 ·rfl
 ·intro k hk
  have hx := List.getElem?_eq_getElem hk
  have hki : (k : Int) < f.parts.length := by omega
  have hz := hf.zp (by intro e; rw [e] at hk; simp at hk)
  have h129 := z129 f.parts[k] (hf.fp _ (List.getElem_mem _)).lw
  rw [roomsL_succ hx]
  have hle := roomsL_le (f.parts.take k)
  have htl : (f.parts.take k).length = k := by rw [List.length_take]; omega
  generalize f.parts[k] = p at *
  generalize roomsL (f.parts.take k) = rl at *
  simp only [ePt] at h129
  cases e : (p.words.length == 0) with
  | true =>
   rw [e] at h129
   have ha := fun B => append_step (X := tabX) (t := 149) (e := 29) (sz := 2) [] rl.length B (zT 2 rl.length) 1 2 (eSps rl) [.agg [.int .i64 p.lo, .int .i64 p.hi]] (by simp only [go_sem, ↓reduceIte, simprocAttr]) (by simp only [go_sem, ↓reduceIte, simprocAttr])
    (by rcases Nat.eq_zero_or_pos rl.length with e | e; exact .inl ⟨e, by rw [eSps_len]; exact e⟩; exact .inr (zT_pos e)) (.inl rfl) (by omega) (by simp only [go_sem, ↓reduceIte, simprocAttr]; omega) (by simp only [go_sem, ↓reduceIte, simprocAttr]; omega) (by simp only [go_sem, ↓reduceIte, simprocAttr]) (by simp only [go_sem, ↓reduceIte, simprocAttr])
   simp only [if_true]
   rw [← eSps_snoc, List.length_append]
   simp (disch := omega) only [go_sem, ↓reduceIte, simprocAttr, bFm, hki, hx, ePt, hz, h129, ha, wrap_i64]
  | false =>
   rw [e] at h129
   simp (disch := omega) only [go_sem, ↓reduceIte, simprocAttr, bFm, hki, hx, ePt, hz, h129, wrap_i64]
 ·simp (disch := omega) only [go_sem, ↓reduceIte, simprocAttr, bFm, Int.lt_irrefl, List.take_length]
def uB (l : List UInt8) : List AV := l.map fun b => .int .u8 b.toNat
def turnB (l : List UInt8) (n : Nat) : Nat := if l.length = 0 then 0 else (l.getD (n % l.length) 0).toNat
theorem uB_get (l : List UInt8) (k : Nat) : (uB l)[k]? = (l[k]?).map fun b => .int .u8 b.toNat := by simp [uB]
theorem uB_len (l : List UInt8) : (uB l).length = l.length := by simp [uB]
theorem uB_clean (l : List UInt8) : cleanL (uB l) = some (uB l) := cleanL_map (fun x => by simp only [go_sem, ↓reduceIte, simprocAttr]) l
theorem uB_under (n : Nat) (l : List UInt8) : underL n (uB l) = true := underL_map (fun x => by simp only [go_sem, ↓reduceIte, simprocAttr]) l
attribute [go_sem] uB_get uB_len uB_clean uB_under
theorem turnB_lt (l : List UInt8) (n : Nat) : turnB l n < 256 := by
 unfold turnB; split
 ·omega
 ·exact UInt8.toNat_lt _
theorem z93 (l : List UInt8) (z : Nat) (hz : l ≠ [] → z = 1) (hl : l.length < 1000000000000000000) (n : Nat) (hn : n < 1000000000000000000) (h : Heap) : callPure (EW tabX) 93 [.lst 0 z (uB l), .int .i64 n] h = some (.int .i64 (turnB l n : Nat), h) := by
 rw [callPure_eq, w_call _ fn_93 rfl]
 unfold turnB
 by_cases h0 : l.length = 0
 ·have e : ((l.length : Int) == 0) = true := by rw [beq_iff_eq]; omega
  simp only [go_sem, ↓reduceIte, simprocAttr, e, h0]
 ·have e : ((l.length : Int) == 0) = false := by rw [beq_eq_false_iff_ne]; omega
  have hz1 := hz (by intro e; rw [e] at h0; simp at h0)
  subst hz1
  have hlt : n % l.length < l.length := Nat.mod_lt _ (by omega)
  have hx := List.getElem?_eq_getElem hlt
  have hm : Int.tmod (n : Int) (l.length : Int) = ((n % l.length : Nat) : Int) := by rw [Int.tmod_eq_emod_of_nonneg (by omega)]; simp
  have hg : l.getD (n % l.length) 0 = l[n % l.length] := by rw [List.getD_eq_getElem?_getD, hx]; rfl
  have h255 := l[n % l.length].toNat_lt
  have hne : ¬ ((l.length : Int) = 0) := by omega
  rw [if_neg h0, hg]
  simp (disch := omega) only [go_sem, ↓reduceIte, simprocAttr, e, hm, hx, hlt, hne, wrap_i64]
def saidL : List ByteArray := [⟨#[97]⟩, ⟨#[105]⟩, ⟨#[97, 115, 107]⟩, ⟨#[116, 111]⟩, ⟨#[116, 104, 101]⟩, ⟨#[98]⟩, ⟨#[106, 117, 100, 103, 101]⟩, ⟨#[109, 101, 114, 99, 121]⟩]
theorem z94 (h : Heap) : callPure (EW tabX) 94 [] h = some (.lst 0 1 (S saidL), h) := by
 rw [callPure_eq, w_call _ fn_94 rfl]
 simp only [go_sem, ↓reduceIte, simprocAttr]
 rfl
end
section
open Go.Proofs
def spC (s : ByteArray) (c k : Nat) : Bool := match s[k]? with | some b => b.toNat == c | none => false
def spS (s : ByteArray) (c : Nat) (st : Nat × List ByteArray) (k : Nat) : Nat × List ByteArray :=
 if spC s c k then (k + 1, st.2 ++ [s.extract st.1 k]) else st
def spAt (s : ByteArray) (c : Nat) : Nat → Nat × List ByteArray
 | 0 => (0, [])
 | k + 1 => spS s c (spAt s c k) k
def splitB (s : ByteArray) (c : Nat) : List ByteArray := (spAt s c s.size).2 ++ [s.extract (spAt s c s.size).1 s.size]
theorem spAt_le (s : ByteArray) (c : Nat) : ∀ k, (spAt s c k).1 ≤ k ∧ (spAt s c k).2.length ≤ k
 | 0 => by simp [spAt]
 | k + 1 => by
  have ih := spAt_le s c k
  simp only [spAt, spS]
  split
  ·simp; omega
  ·omega
def vS (l : List ByteArray) : AV := .lst 0 (zT 1 l.length) (S l)
theorem z43 (s : ByteArray) (hs : s.size ≤ 100000) (c : Nat) (h : Heap) : callPure (EW tabX) 43 [.str s, .int .u8 c] h = some (vS (splitB s c), h) := by
 rw [callPure_eq, w_call _ fn_43 rfl]
 simp only [go_sem, ↓reduceIte, simprocAttr]
 rw [w_rounds_h (fun k => [(5, .lst (tagT [] (spAt s c k).2.length) (zT 1 (spAt s c k).2.length) (S (spAt s c k).2)), (6, .int .i64 (spAt s c k).1), (7, .int .i64 k)]) (fun k => ⟨[], T [] (spAt s c k).2.length⟩) s.size (.exit 0)
  [(5, .lst (tagT [] (spAt s c s.size).2.length) (zT 1 (spAt s c s.size).2.length) (S (spAt s c s.size).2)), (6, .int .i64 (spAt s c s.size).1), (7, .int .i64 s.size)] ⟨[], T [] (spAt s c s.size).2.length⟩ ?_ ?_ ?_ ?_ rfl]
 ·obtain ⟨h1, h2⟩ := spAt_le s c s.size
  unfold splitB
  generalize spAt s c s.size = st at *
  obtain ⟨f, out⟩ := st
  simp only at h1 h2 ⊢
  have ha := fun B => append_step (X := tabX) (t := 70) (e := 9) (sz := 1) [] out.length B (zT 1 out.length) 1 1 (S out) [.str (s.extract f s.size)] (by simp only [go_sem, ↓reduceIte, simprocAttr]) (by simp only [go_sem, ↓reduceIte, simprocAttr])
   (by rcases Nat.eq_zero_or_pos out.length with e | e; exact .inl ⟨e, by rw [S_len]; exact e⟩; exact .inr (zT_pos e)) (.inl rfl) (by omega) (by simp only [go_sem, ↓reduceIte, simprocAttr]; omega) (by simp only [go_sem, ↓reduceIte, simprocAttr]; omega) (by simp only [go_sem, ↓reduceIte, simprocAttr]) (by simp only [go_sem, ↓reduceIte, simprocAttr])
  unfold vS
  rw [← S_snoc, List.length_append]
  simp (disch := omega) only [go_sem, ↓reduceIte, simprocAttr, h1, ha]
  simp only [S_snoc, go_sem, ↓reduceIte, simprocAttr]
 ·simp only [go_sem, ↓reduceIte, simprocAttr]; rfl
 ·rfl
 ·intro k hk
  have hki : (k : Int) < s.size := by omega
  have hx : s[k]? = some s[k] := by simp [hk]
  obtain ⟨h1, h2⟩ := spAt_le s c k
  simp only [spAt, spS, spC, hx]
  generalize spAt s c k = st at *
  obtain ⟨f, out⟩ := st
  simp only at h1 h2 ⊢
  have hks : k ≤ s.size := by omega
  have ha := fun B => append_step (X := tabX) (t := 70) (e := 9) (sz := 1) [] out.length B (zT 1 out.length) 1 1 (S out) [.str (s.extract f k)] (by simp only [go_sem, ↓reduceIte, simprocAttr]) (by simp only [go_sem, ↓reduceIte, simprocAttr])
   (by rcases Nat.eq_zero_or_pos out.length with e | e; exact .inl ⟨e, by rw [S_len]; exact e⟩; exact .inr (zT_pos e)) (.inl rfl) (by omega) (by simp only [go_sem, ↓reduceIte, simprocAttr]; omega) (by simp only [go_sem, ↓reduceIte, simprocAttr]; omega) (by simp only [go_sem, ↓reduceIte, simprocAttr]) (by simp only [go_sem, ↓reduceIte, simprocAttr])
  cases e : (s[k].toNat == c) with
  | true =>
   have e' : ((s[k].toNat : Int) == (c : Int)) = true := by rw [beq_iff_eq] at e ⊢; omega
   simp only [if_true]
   rw [← S_snoc, List.length_append]
   simp (disch := omega) only [go_sem, ↓reduceIte, simprocAttr, hki, hx, e', h1, hks, ha, wrap_i64]
  | false =>
   have e' : ((s[k].toNat : Int) == (c : Int)) = false := by rw [beq_eq_false_iff_ne] at e ⊢; omega
   simp (disch := omega) only [go_sem, ↓reduceIte, simprocAttr, hki, hx, e', wrap_i64]
 ·simp (disch := omega) only [go_sem, ↓reduceIte, simprocAttr, Int.lt_irrefl]
theorem z77 (s : ByteArray) (hs : s.size ≤ 100000) (h : Heap) : callPure (EW tabX) 77 [.str s] h = some (vS (splitB s 32), h) := by
 have h43 := fun h => z43 s hs 32 h
 rw [callPure_eq, w_call _ fn_77 rfl]
 simp only [go_sem, ↓reduceIte, simprocAttr, vS] at h43 ⊢
 simp only [go_sem, ↓reduceIte, simprocAttr, h43]
end
section
open Go.Proofs
def RowsS (xs : List AV) (ts : List (List ByteArray)) : Prop := xs.length = ts.length ∧ ∀ (i : Nat) (t : List ByteArray), ts[i]? = some t → ∃ tg z, xs[i]? = some (.lst tg z (S t)) ∧ (t ≠ [] → z = 1)
theorem RowsS.snoc {xs : List AV} {ts : List (List ByteArray)} (h : RowsS xs ts) (tg z : Nat) (t : List ByteArray) (hz : t ≠ [] → z = 1) : RowsS (xs ++ [.lst tg z (S t)]) (ts ++ [t]) := by
 refine ⟨by simp [h.1], fun i u hu => ?_⟩
 rw [List.getElem?_append] at hu
 split at hu
 ·obtain ⟨a, z, h1, h2⟩ := h.2 i u hu
  exact ⟨a, z, old h1 _, h2⟩
 ·rename_i hi
  have : i = ts.length := by
   by_cases e : i - ts.length = 0
   ·omega
   ·rw [List.getElem?_eq_none (by simp; omega)] at hu; cases hu
  subst this
  simp at hu; subst hu
  refine ⟨tg, z, ?_, hz⟩
  rw [← h.1]; simp
theorem RowsS.under {xs : List AV} {ts : List (List ByteArray)} (h : RowsS xs ts) (n : Nat) : underL n xs = true := by
 refine underL_of fun x hx => ?_
 obtain ⟨i, hi, e⟩ := List.mem_iff_getElem.1 hx
 have hi2 : i < ts.length := by rw [← h.1]; exact hi
 obtain ⟨a, z, h1, _⟩ := h.2 i ts[i] (List.getElem?_eq_getElem hi2)
 rw [List.getElem?_eq_getElem hi, e] at h1
 simp only [Option.some.injEq] at h1
 rw [h1]; simp only [go_sem, ↓reduceIte, simprocAttr]
theorem RowsS.var {xs : List AV} {ts : List (List ByteArray)} (h : RowsS xs ts) : xs.all AV.var = true := by
 rw [List.all_eq_true]
 intro x hx
 obtain ⟨i, hi, e⟩ := List.mem_iff_getElem.1 hx
 have hi2 : i < ts.length := by rw [← h.1]; exact hi
 obtain ⟨a, z, h1, _⟩ := h.2 i ts[i] (List.getElem?_eq_getElem hi2)
 rw [List.getElem?_eq_getElem hi, e] at h1
 simp only [Option.some.injEq] at h1
 rw [h1]; rfl
theorem RowsS.clean : ∀ {xs : List AV} {ts : List (List ByteArray)}, RowsS xs ts → ∃ ys, cleanL xs = some ys ∧ RowsS ys ts ∧ cleanL ys = some ys
 | [], ts, h => ⟨[], cleanL_nil, h, cleanL_nil⟩
 | x :: xs, [], h => by have := h.1; simp at this
 | x :: xs, t :: ts, h => by
  have h' : RowsS xs ts := ⟨by have := h.1; simpa using this, fun i u hu => by simpa using h.2 (i + 1) u (by simpa using hu)⟩
  obtain ⟨ys, h1, h2, h3⟩ := h'.clean
  obtain ⟨a, z, h4, h5⟩ := h.2 0 t rfl
  simp only [List.getElem?_cons_zero, Option.some.injEq] at h4
  subst h4
  refine ⟨.lst 0 z (S t) :: ys, by simp only [go_sem, ↓reduceIte, simprocAttr, h1], ⟨by have := h2.1; simp [this], fun i u hu => ?_⟩, by simp only [go_sem, ↓reduceIte, simprocAttr, h3]⟩
  cases i with
  | zero => simp at hu; subst hu; exact ⟨0, z, rfl, h5⟩
  | succ i => simpa using h2.2 i u (by simpa using hu)
def manyR (x : List UInt8) (n : Nat) (r : Int × Int) : Nat := (r.1 + (turnB x n : Int) % (r.2 - r.1 + 1)).toNat
def anyW (x : List UInt8) (n : Nat) : Nat → List ByteArray
 | 0 => []
 | k + 1 => anyW x n k ++ [saidL.getD (turnB x (n + k) % 8) ⟨#[]⟩]
def anyAt (x : List UInt8) (rl : List (Int × Int)) : Nat → Nat × List (List ByteArray)
 | 0 => (0, [])
 | k + 1 =>
  let st := anyAt x rl k
  let n := manyR x st.1 (rl.getD k (0, 0))
  (st.1 + 1 + n, st.2 ++ [anyW x (st.1 + 1) n])
def anyL (x : List UInt8) (rl : List (Int × Int)) : List (List ByteArray) := (anyAt x rl rl.length).2
theorem anyW_len (x : List UInt8) (n : Nat) : ∀ k, (anyW x n k).length = k
 | 0 => rfl
 | k + 1 => by simp [anyW, anyW_len x n k]
def RoomOk (r : Int × Int) : Prop := 0 ≤ r.1 ∧ r.1 ≤ r.2 ∧ r.2 ≤ 3
theorem manyR_in {x : List UInt8} {n : Nat} {r : Int × Int} (h : RoomOk r) : r.1 ≤ manyR x n r ∧ (manyR x n r : Int) ≤ r.2 ∧ manyR x n r ≤ 3 := by
 obtain ⟨h1, h2, h3⟩ := h
 have a := Int.emod_nonneg (turnB x n : Int) (show r.2 - r.1 + 1 ≠ 0 by omega)
 have b := Int.emod_lt_of_pos (turnB x n : Int) (show 0 < r.2 - r.1 + 1 by omega)
 unfold manyR
 omega
structure AS where
 xs : List AV
 tg : Nat
 z : Nat
 t : List Bool
theorem anyAt_le {x : List UInt8} {rl : List (Int × Int)} (hr : ∀ r ∈ rl, RoomOk r) : ∀ k, k ≤ rl.length → (anyAt x rl k).1 ≤ 4 * k ∧ (anyAt x rl k).2.length = k
 | 0, _ => by simp [anyAt]
 | k + 1, hk => by
  have ih := anyAt_le (x := x) hr k (by omega)
  have hg : rl.getD k (0, 0) = rl[k] := by rw [List.getD_eq_getElem?_getD, List.getElem?_eq_getElem (by omega)]; rfl
  have := manyR_in (x := x) (n := (anyAt x rl k).1) (hr _ (List.getElem_mem (by omega : k < rl.length)))
  simp only [anyAt, hg]
  constructor
  ·omega
  ·simp [ih.2]
set_option maxHeartbeats 1000000 in
theorem z41 (f : Fm) (hf : f.fits) (hl5 : f.parts.length ≤ 5) (x : List UInt8) (zx : Nat) (hzx : x ≠ [] → zx = 1) (hlx : x.length < 1000000000000000000) (hr : ∀ r ∈ roomsL f.parts, RoomOk r) (h : Heap) :
  ∃ xs z, RowsS xs (anyL x (roomsL f.parts)) ∧ cleanL xs = some xs ∧ (xs ≠ [] → z = 1) ∧ callPure (EW tabX) 41 [eFm f, .lst 0 zx (uB x)] h = some (.lst 0 z xs, h) := by
 have h92 := z92 f hf hl5
 have hrl := roomsL_le f.parts
 unfold anyL
 generalize roomsL f.parts = rl at *
 have h93 := fun n hn => z93 x zx hzx hlx n hn
 simp only [eFm, vR] at h92 ⊢
 rw [callPure_eq, w_call _ fn_41 rfl]
 simp only [go_sem, ↓reduceIte, simprocAttr, h92]
 generalize hx : (EW tabX).code 41 none (Code.loop _) _ = y
 refine w_rounds_sk hx (fun k (q : AS) => [(6, .lst q.tg q.z q.xs), (7, .int .i64 (anyAt x rl k).1), (8, .int .i64 k)]) (fun q => ⟨[bFm f], q.t⟩) (fun k q => RowsS q.xs (anyAt x rl k).2 ∧ (q.xs ≠ [] → q.z = 1)) rl.length (.exit 0)
  (fun q => [(6, .lst q.tg q.z q.xs), (7, .int .i64 (anyAt x rl rl.length).1), (8, .int .i64 rl.length)]) rfl ⟨[], 1, 0, []⟩ ?_ ?_ ⟨⟨rfl, fun i t h => by simp [anyAt] at h⟩, fun h => absurd rfl h⟩ ?_ ?_ ?_
 ·simp only [go_sem, ↓reduceIte, simprocAttr]; rfl
 ·rfl
 ·intro k q hk hR
  obtain ⟨hR, hz⟩ := hR
  have hki : (k : Int) < rl.length := by omega
  have hx := List.getElem?_eq_getElem hk
  have hro := hr rl[k] (List.getElem_mem hk)
  obtain ⟨hat, hol⟩ := anyAt_le (x := x) hr k (by omega)
  have hgd : rl.getD k (0, 0) = rl[k] := by rw [List.getD_eq_getElem?_getD, hx]; rfl
  have hxl : q.xs.length ≤ 5 := by rw [hR.1, hol]; omega
  simp only [anyAt, hgd]
  generalize anyAt x rl k = st at *
  obtain ⟨at0, out⟩ := st
  generalize rl[k] = r at *
  obtain ⟨lo, hi⟩ := r
  obtain ⟨m1, m2, m3⟩ := manyR_in (x := x) (n := at0) hro
  obtain ⟨r1, r2, r3⟩ := hro
  simp only at r1 r2 r3 m1 m2 hat hol ⊢
  have htb := turnB_lt x at0
  have hne : ¬ (hi - lo + 1 = 0) := by omega
  have hw1 : IntKind.i64.wrap (hi - lo) = hi - lo := wrap_i64 (by omega)
  have hw2 : IntKind.i64.wrap (hi - lo + 1) = hi - lo + 1 := wrap_i64 (by omega)
  have hmod : Int.tmod (turnB x at0 : Int) (hi - lo + 1) = (turnB x at0 : Int) % (hi - lo + 1) := Int.tmod_eq_emod_of_nonneg (by omega)
  have hmb : 0 ≤ (turnB x at0 : Int) % (hi - lo + 1) := Int.emod_nonneg _ (by omega)
  have hmb2 : (turnB x at0 : Int) % (hi - lo + 1) < hi - lo + 1 := Int.emod_lt_of_pos _ (by omega)
  have hw3 : IntKind.i64.wrap ((turnB x at0 : Int) % (hi - lo + 1)) = (turnB x at0 : Int) % (hi - lo + 1) := wrap_i64 (by omega)
  have hmany : lo + (turnB x at0 : Int) % (hi - lo + 1) = (manyR x at0 (lo, hi) : Int) := by unfold manyR; simp only; omega
  have h93k := h93 at0 (by omega)
  generalize manyR x at0 (lo, hi) = n at *
  have hwn : IntKind.i64.wrap (n : Int) = n := wrap_i64 (by omega)
  have hwa : IntKind.i64.wrap ((at0 : Int) + 1) = at0 + 1 := wrap_i64 (by omega)
  have hzT : zT 2 rl.length = 2 := zT_pos (by omega)
  simp only [go_sem, ↓reduceIte, simprocAttr, hki, hx, eSp, h93k, hzT, hne, hw1, hw2, hmod, hw3, hmany, hwn, hwa]
  rw [w_rounds_h (fun j => [(7, .int .i64 (at0 + 1 + j : Nat)), (10, .lst (tagT q.t j) (zT 1 j) (S (anyW x (at0 + 1) j))), (11, .int .i64 j)]) (fun j => ⟨[bFm f], T q.t j⟩) n (.exit 2)
   [(7, .int .i64 (at0 + 1 + n : Nat)), (10, .lst (tagT q.t n) (zT 1 n) (S (anyW x (at0 + 1) n))), (11, .int .i64 n)] ⟨[bFm f], T q.t n⟩ ?_ ?_ ?_ ?_ rfl]
  ·obtain ⟨t1, ha1, hl1, ho1, _⟩ := app_gen (X := tabX) (ty := 73) (e := 70) (sz := 1) (tag := 1) (z := 1) (t := T q.t n) (xs := []) (.inl ⟨rfl, rfl⟩) q.tg q.z q.xs (by simp only [go_sem, ↓reduceIte, simprocAttr]) (by simp only [go_sem, ↓reduceIte, simprocAttr]) (by decide)
    (by rcases Nat.eq_zero_or_pos q.xs.length with e | e; exact .inr e; exact .inl (hz (List.length_pos_iff.1 e))) (by simp only [go_sem, ↓reduceIte, simprocAttr]; omega) (by simp only [go_sem, ↓reduceIte, simprocAttr]; omega) (by simp only [go_sem, ↓reduceIte, simprocAttr]) hR.var
   obtain ⟨t2, ha2, hl2, ho2, _⟩ := app_gen (X := tabX) (ty := 73) (e := 70) (sz := 1) (tag := (T q.t n).length + 2) (z := 1) (t := t1) (xs := [] ++ q.xs) (.inr ⟨_, rfl, rfl, ho1⟩) 1 1 [.lst (tagT q.t n) (zT 1 n) (S (anyW x (at0 + 1) n))] (by simp only [go_sem, ↓reduceIte, simprocAttr]) (by simp only [go_sem, ↓reduceIte, simprocAttr]) (by decide)
    (.inl rfl) (by simp only [go_sem, ↓reduceIte, simprocAttr]; omega) (by simp only [go_sem, ↓reduceIte, simprocAttr]; omega) (by simp only [go_sem, ↓reduceIte, simprocAttr]) rfl
   simp only [List.nil_append] at ha1 ha2
   refine ⟨⟨q.xs ++ [.lst (tagT q.t n) (zT 1 n) (S (anyW x (at0 + 1) n))], t1.length + 2, 1, t2⟩, ?_, ?_, fun _ => rfl⟩
   ·simp (disch := omega) only [go_sem, ↓reduceIte, simprocAttr, ha1, ha2, wrap_i64]
   ·exact hR.snoc _ _ _ (fun hne => zT_pos (by have := List.length_pos_iff.2 hne; rw [anyW_len] at this; exact this))
  ·simp only [go_sem, ↓reduceIte, simprocAttr, anyW]
  ·rfl
  ·intro j hj
   have hji : (j : Int) < n := by omega
   have h93j := h93 (at0 + 1 + j) (by omega)
   have h94 := z94
   have htj := turnB_lt x (at0 + 1 + j)
   have hm8 : Int.tmod (turnB x (at0 + 1 + j) : Int) 8 = ((turnB x (at0 + 1 + j) % 8 : Nat) : Int) := by rw [Int.tmod_eq_emod_of_nonneg (by omega)]; simp
   have hs8 : saidL.length = 8 := rfl
   have hi8 : saidL[turnB x (at0 + 1 + j) % 8]? = some (saidL.getD (turnB x (at0 + 1 + j) % 8) ⟨#[]⟩) := by
    have hlt : turnB x (at0 + 1 + j) % 8 < saidL.length := by rw [hs8]; omega
    rw [List.getD_eq_getElem?_getD, List.getElem?_eq_getElem hlt]; rfl
   have hlt8 : turnB x (at0 + 1 + j) % 8 < 8 := by omega
   have ha := fun B => append_step (X := tabX) (t := 70) (e := 9) (sz := 1) q.t j B (zT 1 j) 1 1 (S (anyW x (at0 + 1) j)) [.str (saidL.getD (turnB x (at0 + 1 + j) % 8) ⟨#[]⟩)] (by simp only [go_sem, ↓reduceIte, simprocAttr]) (by simp only [go_sem, ↓reduceIte, simprocAttr])
    (by rcases Nat.eq_zero_or_pos j with e | e; exact .inl ⟨e, by rw [S_len, anyW_len]; exact e⟩; exact .inr (zT_pos e)) (.inl rfl) (by omega) (by simp only [go_sem, ↓reduceIte, simprocAttr, anyW_len]; omega) (by simp only [go_sem, ↓reduceIte, simprocAttr, anyW_len]; omega) (by simp only [go_sem, ↓reduceIte, simprocAttr]) (by simp only [go_sem, ↓reduceIte, simprocAttr])
   have ej : ((at0 + 1 + (j + 1) : Nat) : Int) = ((at0 + 1 + j : Nat) : Int) + 1 := by omega
   rw [anyW, ← S_snoc, ej]
   generalize turnB x (at0 + 1 + j) = tb at *
   generalize saidL.getD (tb % 8) ⟨#[]⟩ = sd at *
   generalize anyW x (at0 + 1) j = wd at *
   simp (disch := omega) only [go_sem, ↓reduceIte, simprocAttr, hji, h93j, h94, hm8, hs8, hi8, ha, wrap_i64]
  ·simp (disch := omega) only [go_sem, ↓reduceIte, simprocAttr, Int.lt_irrefl]
 ·intro q hR
  simp (disch := omega) only [go_sem, ↓reduceIte, simprocAttr, Int.lt_irrefl]
 ·intro q hy hR
  obtain ⟨hR, hz⟩ := hR
  obtain ⟨ys, h1, h2, h3⟩ := hR.clean
  refine ⟨ys, q.z, h2, h3, fun hne => hz fun e => hne (by rw [e] at h1; simpa [cleanL_nil] using h1.symm), ?_⟩
  rw [hy]
  simp only [go_sem, ↓reduceIte, simprocAttr, h1, hR.under 0]
end
section
open Go.Proofs
theorem z147 (n lo hi : Int) (h : Heap) (b1 b2 : Nat) (h1 : h.b[b1]? = some (.cells [.int .i64 lo])) (h2 : h.b[b2]? = some (.cells [.int .i64 hi])) :
   (EW tabX).call 147 [.int .i64 n, .ref b1 0, .ref b2 0] h = some (.bool (decide (n < lo) || decide (hi < n)), h) := by
  obtain ⟨hb, ht⟩ := h
  rw [w_call _ fn_147 rfl]
  by_cases hn : n < lo
  · simp only [go_sem, ↓reduceIte, simprocAttr, h1, h2, hn, Bool.true_or]
  · simp only [go_sem, ↓reduceIte, simprocAttr, h1, h2, hn, Bool.false_or, gt_iff_lt]
theorem z90 (lo hi : Int) (l : List Int) (z : Nat) (hz : l ≠ [] → z = 1) (h : Heap) (hl : l.length < 1000000000000000000) :
   callPure (EW tabX) 90 [.int .i64 lo, .int .i64 hi, .lst 0 z (I l)] h = some (.bool (l.any (out lo hi)), h) := by
  have h68 := c68 147 [] [.ref 0 0, .ref 1 0] l 0 z hz (out lo hi) ⟨[.cells [.int .i64 lo], .cells [.int .i64 hi]], []⟩ hl (fun n _ => by
    have := z147 n lo hi ⟨[.cells [.int .i64 lo], .cells [.int .i64 hi]], []⟩ 0 1 rfl rfl
    simp only [go_sem, ↓reduceIte, simprocAttr, this]; rfl) (by simp only [go_sem, ↓reduceIte, simprocAttr])
  refine pure_of (v := .bool (l.any (out lo hi))) (h1 := ⟨[], []⟩) ?_ (clean_bool _)
  rw [w_call _ fn_90 rfl]
  simp only [go_sem, ↓reduceIte, simprocAttr, h68]
theorem z90_1 (lo hi x : Int) (h : Heap) : callPure (EW tabX) 90 [.int .i64 lo, .int .i64 hi, .lst 0 1 [.int .i64 x]] h = some (.bool (out lo hi x), h) := by
 have := z90 lo hi [x] 1 (fun _ => rfl) h (by simp)
 simpa only [I_c, I_nil, List.any_cons, List.any_nil, Bool.or_false] using this
theorem z90_2 (lo hi x y : Int) (h : Heap) : callPure (EW tabX) 90 [.int .i64 lo, .int .i64 hi, .lst 0 1 [.int .i64 x, .int .i64 y]] h = some (.bool (out lo hi x || out lo hi y), h) := by
 have := z90 lo hi [x, y] 1 (fun _ => rfl) h (by simp)
 simpa only [I_c, I_nil, List.any_cons, List.any_nil, Bool.or_false] using this
theorem wordOk_at {s : ByteArray} (h : wordOk s = true) {k : Nat} (hk : k < s.size) : 97 ≤ s[k].toNat ∧ s[k].toNat ≤ 122 := by
 unfold wordOk at h
 rw [Bool.and_eq_true, List.all_eq_true] at h
 have := h.2 k (by simpa using hk)
 have hx : s[k]? = some s[k] := by simp [hk]
 rw [loAt, hx] at this
 simpa using this
theorem wordOk_size {s : ByteArray} (h : wordOk s = true) : 1 ≤ s.size ∧ s.size ≤ 8 := by
 unfold wordOk inR at h
 simp at h
 omega
theorem z142 (s : ByteArray) (hs : wordOk s = true) (h : Heap) : callPure (EW tabX) 142 [.str s] h = some (.bool true, h) := by
 refine pure_of (v := .bool true) (h1 := ⟨[], []⟩) ?_ (clean_bool _)
 obtain ⟨s1, s2⟩ := wordOk_size hs
 rw [w_call _ fn_142 rfl]
 simp only [go_sem, ↓reduceIte, simprocAttr]
 have ho : out 1 8 s.size = false := by unfold out; simp; omega
 rw [w_rounds_h (fun k => []) (fun k => ⟨[.siter s k], []⟩) s.size (.exit 0) [(7, .tup [.bool false])] ⟨[.siter s s.size], []⟩ ?_ ?_ ?_ ?_ rfl]
 ·simp only [go_sem, ↓reduceIte, simprocAttr, z90_1, ho]
 ·simp only [go_sem, ↓reduceIte, simprocAttr]
 ·simp only [go_sem, ↓reduceIte, simprocAttr]
 ·intro k hk
  obtain ⟨a, b⟩ := wordOk_at hs hk
  have hd := decode_ascii s k hk (by omega)
  have g1 : ¬ ((s[k].toNat : Int) < 97) := by omega
  have g2 : ¬ (122 < (s[k].toNat : Int)) := by omega
  simp only [go_sem, ↓reduceIte, simprocAttr, hk, hd, g1, g2]
 ·simp only [go_sem, ↓reduceIte, simprocAttr, Nat.lt_irrefl]
theorem z149 (s : ByteArray) (hs : wordOk s = true) (h : Heap) : callPure (EW tabX) 149 [.str s] h = some (.bool false, h) := by
 have h142 := z142 s hs
 rw [callPure_eq, w_call _ fn_149 rfl]
 simp only [go_sem, ↓reduceIte, simprocAttr, h142]
theorem z179 (l : List ByteArray) (z : Nat) (hz : l ≠ [] → z = 1) (hl : l.length < 1000000000000000000) (hs : ∀ s ∈ l, wordOk s = true) (h : Heap) : callPure (EW tabX) 179 [.lst 0 z (S l), .clo 149 [] []] h = some (.int .i64 (-1), h) := by
 rw [callPure_eq, w_call _ fn_179 rfl]
 simp only [go_sem, ↓reduceIte, simprocAttr]
 rw [w_rounds_u (fun k => [(8, .int .i64 k)]) l.length (.exit 0) [(8, .int .i64 l.length)] ?_ ?_ ?_ rfl]
 ·simp only [go_sem, ↓reduceIte, simprocAttr]
 ·simp only [go_sem, ↓reduceIte, simprocAttr]
 ·intro k hk
  have hki : (k : Int) < l.length := by omega
  have hx := List.getElem?_eq_getElem hk
  have hz1 := hz (by intro e; rw [e] at hk; simp at hk)
  subst hz1
  have h149 := z149 l[k] (hs _ (List.getElem_mem _))
  simp (disch := omega) only [go_sem, ↓reduceIte, simprocAttr, hki, hx, h149, wrap_i64]
 ·simp (disch := omega) only [go_sem, ↓reduceIte, simprocAttr, Int.lt_irrefl]
theorem z148 (l : List ByteArray) (z : Nat) (hz : l ≠ [] → z = 1) (hl : l.length < 1000000000000000000) (hs : ∀ s ∈ l, wordOk s = true) (h : Heap) : callPure (EW tabX) 148 [.lst 0 z (S l), .clo 149 [] []] h = some (.bool false, h) := by
 have h179 := z179 l z hz hl hs
 rw [callPure_eq, w_call _ fn_148 rfl]
 simp only [go_sem, ↓reduceIte, simprocAttr, h179]
theorem z91 (l : List ByteArray) (z : Nat) (hz : l ≠ [] → z = 1) (hl : l.length < 1000000000000000000) (hs : ∀ s ∈ l, wordOk s = true) (h : Heap) : callPure (EW tabX) 91 [.lst 0 z (S l)] h = some (.int .i64 0, h) := by
 have h148 := z148 l z hz hl hs
 rw [callPure_eq, w_call _ fn_91 rfl]
 simp only [go_sem, ↓reduceIte, simprocAttr, h148]
theorem z96 (l : List ByteArray) (z : Nat) (hz : l ≠ [] → z = 1) (hl : l.length ≤ 15) (hs : ∀ s ∈ l, wordOk s = true) (h : Heap) : callPure (EW tabX) 96 [.lst 0 z (S l)] h = some (.int .i64 0, h) := by
 have h91 := z91 l z hz (by omega) hs
 have hi : ¬ (15 < (l.length : Int)) := by omega
 rw [callPure_eq, w_call _ fn_96 rfl]
 simp only [go_sem, ↓reduceIte, simprocAttr, hi, h91]
structure Pt.Ok (p : Pt) : Prop where
 len : p.words.length ≤ 3
 ok : ∀ s ∈ p.words, wordOk s = true
 no : 0 < p.words.length → p.lo = 0 ∧ p.hi = 0
 room : p.words.length = 0 → RoomOk (p.lo, p.hi) ∧ 1 ≤ p.hi
theorem ptE_ok {p : Pt} (h : ptE p = 0) : p.Ok := by
 unfold ptE at h
 split at h
 ·cases h
 rename_i h1
 split at h
 ·cases h
 rename_i h2
 have h2 : ∀ s ∈ p.words, wordOk s = true := by simpa using h2
 split at h
 ·rename_i h3
  split at h
  ·rename_i h4
   exact ⟨by omega, h2, fun _ => h4, fun e => by omega⟩
  ·cases h
 ·rename_i h3
  split at h
  ·cases h
  rename_i h5
  split at h
  ·cases h
  rename_i h6
  simp [inR] at h5
  exact ⟨by omega, h2, fun e => absurd e h3, fun _ => ⟨⟨by omega, by simp only; omega, by simp only; omega⟩, by omega⟩⟩
theorem z152 (p : Pt) (hp : p.fits) (ho : p.Ok) (h : Heap) : callPure (EW tabX) 152 [ePt p] h = some (.int .i64 0, h) := by
 have h91 := z91 p.words p.zw hp.zw hp.lw ho.ok
 obtain ⟨o1, o2, o3, o4⟩ := ho
 obtain ⟨words, zw, lo, hi⟩ := p
 simp only [ePt] at *
 rw [callPure_eq, w_call _ fn_152 rfl]
 have h1 : ¬ 3 < (words.length : Int) := by omega
 by_cases h3 : 0 < words.length
 ·have h3i : 0 < (words.length : Int) := by omega
  obtain ⟨rfl, rfl⟩ := o3 h3
  simp only [go_sem, ↓reduceIte, simprocAttr, h91, h1, h3i]
 ·have h3i : ¬ 0 < (words.length : Int) := by omega
  obtain ⟨⟨a, b, c⟩, d⟩ := o4 (by omega)
  simp only at a b c
  have e1 : (out 0 3 lo || out 0 3 hi) = false := by unfold out; simp; omega
  have e2 : (hi == 0) = false := by rw [beq_eq_false_iff_ne]; omega
  have e3 : ¬ hi < lo := by omega
  simp only [go_sem, ↓reduceIte, simprocAttr, h91, h1, h3i, z90_2, e1, e2, e3]
end
section
open Go.Proofs
theorem z180 (f : Nat) (fst cap : List AV) (l : List Fm) (t z : Nat) (hz : l ≠ [] → z = 2) (p : Fm → Bool) (h : Heap) (hl : l.length < 1000000000000000000)
   (hp : ∀ n ∈ l, callAV tabX (EW tabX) false (.clo f fst cap) [eFm n] h = some (.bool (p n), h)) :
   (EW tabX).call 180 [.lst t z (l.map eFm), .clo f fst cap] h = some (.int .i64 (if l.findIdx p < l.length then l.findIdx p else -1), h) := by
  obtain ⟨hb, ht⟩ := h
  rw [w_call _ fn_180 rfl]
  simp only [go_sem, ↓reduceIte, simprocAttr]
  simp only [callAV_clo] at hp
  by_cases hf : l.findIdx p < l.length
  · rw [w_rounds_u (fun k => [(8, .int .i64 k)]) (l.findIdx p) .ret [(4, .int .i64 (l.findIdx p)), (5, .int .i64 (l.findIdx p)), (8, .int .i64 (l.findIdx p))] ?_ ?_ ?_ rfl]
    · simp only [go_sem, ↓reduceIte, simprocAttr, hf]
    · simp only [go_sem, ↓reduceIte, simprocAttr]
    · intro k hk
      have hlt : k < l.length := by omega
      have hki : (k : Int) < l.length := by omega
      have hx := List.getElem?_eq_getElem hlt
      have hpx := hp l[k] (List.getElem_mem _)
      have hpf : p l[k] = false := by simpa using List.not_of_lt_findIdx hk
      have hz1 := hz (by intro e; rw [e] at hlt; simp at hlt)
      subst hz1
      rw [hpf] at hpx
      simp only [eFm] at hpx
      simp (disch := omega) only [go_sem, ↓reduceIte, simprocAttr, hki, hx, eFm, ↓hpx, wrap_i64]
    · have hx := List.getElem?_eq_getElem hf
      have hki : ((l.findIdx p : Nat) : Int) < l.length := by omega
      have hpx := hp l[l.findIdx p] (List.getElem_mem _)
      have hpt : p l[l.findIdx p] = true := List.findIdx_getElem
      have hz1 := hz (by intro e; rw [e] at hf; simp at hf)
      subst hz1
      rw [hpt] at hpx
      simp only [eFm] at hpx
      simp (disch := omega) only [go_sem, ↓reduceIte, simprocAttr, hki, hx, eFm, ↓hpx, wrap_i64]
  · have hn : l.findIdx p = l.length := by have := List.findIdx_le_length (p := p) (xs := l); omega
    rw [w_rounds_u (fun k => [(8, .int .i64 k)]) (l.length) (.exit 0) [(8, .int .i64 l.length)] ?_ ?_ ?_ rfl]
    · simp only [go_sem, ↓reduceIte, simprocAttr, hf]
    · simp only [go_sem, ↓reduceIte, simprocAttr]
    · intro k hk
      have hki : (k : Int) < l.length := by omega
      have hx := List.getElem?_eq_getElem hk
      have hpx := hp l[k] (List.getElem_mem _)
      have hpf : p l[k] = false := by simpa using List.not_of_lt_findIdx (p := p) (xs := l) (i := k) (by omega)
      have hz1 := hz (by intro e; rw [e] at hk; simp at hk)
      subst hz1
      rw [hpf] at hpx
      simp only [eFm] at hpx
      simp (disch := omega) only [go_sem, ↓reduceIte, simprocAttr, hki, hx, eFm, ↓hpx, wrap_i64]
    · simp (disch := omega) only [go_sem, ↓reduceIte, simprocAttr, Int.lt_irrefl]
theorem z150 (f : Nat) (fst cap : List AV) (l : List Fm) (t z : Nat) (hz : l ≠ [] → z = 2) (p : Fm → Bool) (h : Heap) (hl : l.length < 1000000000000000000)
   (hp : ∀ n ∈ l, callAV tabX (EW tabX) false (.clo f fst cap) [eFm n] h = some (.bool (p n), h)) (hc : (AV.clo f fst cap).clean = none) :
   (EW tabX).call 150 [.lst t z (l.map eFm), .clo f fst cap] h = some (.bool (l.any p), h) := by
  have h78 := z180 f fst cap l t z hz p h hl hp
  obtain ⟨hb, ht⟩ := h
  rw [w_call _ fn_150 rfl]
  simp only [go_sem, ↓reduceIte, simprocAttr, hc, h78, ge_iff_le, findIdx_any]

theorem z151 (c : Fm) (b : Nat) (x : ByteArray) (xs : List AV) (h : Heap) (hb : h.b[b]? = some (.cells (.str x :: xs))) :
   (EW tabX).call 151 [eFm c, .ref b 0] h = some (.bool (c.name == x), h) := by
  obtain ⟨B, ht⟩ := h
  have h1 : B[b]? = some (.cells (.str x :: xs)) := hb
  have h2 := old h1
  rw [w_call _ fn_151 rfl]
  simp only [go_sem, ↓reduceIte, simprocAttr, eFm, h1, h2]

structure Sh.Ok (s : Sh) : Prop where
 width : 8 ≤ s.width ∧ s.width ≤ 30
 len : s.forms.length ≤ 4
 name : ∀ (k : Nat) (f : Fm), s.forms[k]? = some f → nameOk f.name = true ∧ (fnames (s.forms.take k)).any (fun x => x == f.name) = false
 parts : ∀ f ∈ s.forms, f.parts.length ≤ 5
 part : ∀ f ∈ s.forms, ∀ p ∈ f.parts, p.Ok
theorem checkL_ok {s : Sh} (h : checkL s = (0, 0, 0)) : s.Ok := by
 unfold checkL at h
 split at h
 ·cases h
 rename_i h1
 split at h
 ·cases h
 rename_i h2
 cases h3 : firstBad (formE s) 0 s.forms.length with
 | some k => rw [h3] at h; simp at h
 | none =>
 have key : ∀ (k : Nat) (f : Fm), s.forms[k]? = some f → fmE (fnames (s.forms.take k)) f = 0 := fun k f hf => by
  have := firstBad_none h3 k (Nat.zero_le _) (by have := (List.getElem?_eq_some_iff.1 hf).1; omega)
  rwa [formE, hf] at this
 have key2 : ∀ (k : Nat) (f : Fm), s.forms[k]? = some f → fresh f.name (fnames (s.forms.take k)) = 0 ∧ f.parts.length ≤ 5 ∧ ∀ p ∈ f.parts, p.Ok := fun k f hf => by
  have hk := key k f hf
  unfold fmE at hk
  split at hk
  ·rename_i e; exact absurd hk e
  rename_i e1
  split at hk
  ·cases hk
  rename_i e2
  refine ⟨by omega, by omega, fun p hp => ?_⟩
  cases e3 : firstBad (partEat f.parts) 0 f.parts.length with
  | some j => rw [e3] at hk; exact absurd hk (firstBad_some e3).2.2.1
  | none =>
   obtain ⟨j, hj, rfl⟩ := List.mem_iff_getElem.1 hp
   have := firstBad_none e3 j (Nat.zero_le _) (by omega)
   rw [partEat, List.getElem?_eq_getElem hj] at this
   exact ptE_ok this
 refine ⟨?_, by omega, fun k f hf => ?_, fun f hf => ?_, fun f hf => ?_⟩
 ·simp [inR] at h1; omega
 ·have := (key2 k f hf).1
  unfold fresh at this
  split at this
  ·rename_i e
   split at this
   ·cases this
   ·rename_i e2; exact ⟨e, by simpa using e2⟩
  ·cases this
 ·obtain ⟨k, hk, rfl⟩ := List.mem_iff_getElem.1 hf
  exact (key2 k _ (List.getElem?_eq_getElem hk)).2.1
 ·obtain ⟨k, hk, rfl⟩ := List.mem_iff_getElem.1 hf
  exact (key2 k _ (List.getElem?_eq_getElem hk)).2.2
theorem fnames_any (l : List Fm) (s : ByteArray) : (fnames l).any (fun x => x == s) = l.any (fun y => y.name == s) := by simp [fnames, List.any_map]; rfl
def blF (f : Fm) : List ABlk := bFm f :: f.parts.map bPt
theorem flat_next {s : Sh} {k : Nat} {f : Fm} (h : s.forms[k]? = some f) : (s.forms.take (k + 1)).flatMap blF = (s.forms.take k).flatMap blF ++ bFm f :: f.parts.map bPt := by
 obtain ⟨hk, rfl⟩ := List.getElem?_eq_some_iff.1 h
 rw [List.take_succ_eq_append_getElem hk, List.flatMap_append]
 simp [blF]
set_option maxHeartbeats 1000000 in
theorem z95 (s : Sh) (hs : s.fits) (ho : s.Ok) (h : Heap) : callPure (EW tabX) 95 [eSh s] h = some (tup3 (0, 0, 0), h) := by
 rw [callPure_eq, w_call _ fn_95 rfl]
 obtain ⟨w1, w2⟩ := ho.width
 have hl4 := ho.len
 have e1 : out 8 30 s.width = false := by unfold out; simp; omega
 have e2 : ¬ 4 < (s.forms.length : Int) := by omega
 simp only [go_sem, ↓reduceIte, simprocAttr, eSh, eShc, z90_1, e1, e2]
 rw [w_rounds_h (fun k => [(22, .int .i64 k)]) (fun k => ⟨.cells (eShc s) :: (s.forms.take k).flatMap blF, []⟩) s.forms.length (.exit 1) [(22, .int .i64 s.forms.length)] ⟨.cells (eShc s) :: s.forms.flatMap blF, []⟩ ?_ ?_ ?_ ?_ rfl]
 ·simp only [go_sem, ↓reduceIte, simprocAttr, tup3]
 ·simp only [go_sem, ↓reduceIte, simprocAttr]
 ·simp only [List.take_zero, List.flatMap_nil, eShc]
 ·intro k hk
  have hx := List.getElem?_eq_getElem hk
  have hki : (k : Int) < s.forms.length := by omega
  have hkl : k ≤ s.forms.length := by omega
  have hz := hs.zf (by intro e; rw [e] at hk; simp at hk)
  have hf := hs.ff _ (List.mem_of_getElem? hx)
  obtain ⟨n1, n2⟩ := ho.name k _ hx
  have hp5 := ho.parts _ (List.mem_of_getElem? hx)
  have hpo := ho.part _ (List.mem_of_getElem? hx)
  have h116 := c38 s.forms[k].name hf.sn
  rw [flat_next hx]
  generalize s.forms[k] = f at *
  generalize (s.forms.take k).flatMap blF = HB at *
  rw [fnames_any] at n2
  have h150 := z150 151 [] [.ref (HB.length + 1) 0] (s.forms.take k) 0 2 (fun _ => rfl) (fun y => y.name == f.name) ⟨.cells (eShc s) :: (HB ++ [bFm f]), []⟩ (by rw [List.length_take]; omega) (fun n _ => by
   have := z151 n (HB.length + 1) f.name [.lst 0 f.zp (f.parts.map ePt)] ⟨.cells (eShc s) :: (HB ++ [bFm f]), []⟩ (by simp [bFm])
   simp only [go_sem, ↓reduceIte, simprocAttr, eFm] at this ⊢
   exact this) (by simp only [go_sem, ↓reduceIte, simprocAttr])
  rw [List.map_take, n2] at h150
  simp only [bFm, eShc, hz] at h150
  have e5 : ¬ 5 < (f.parts.length : Int) := by omega
  simp only [go_sem, ↓reduceIte, simprocAttr, eShc, hki, hx, hz, eFm, h116, n1, hkl, h150, e5]
  rw [w_rounds_h (fun j => [(50, .int .i64 j)]) (fun j => ⟨.cells [.int .i64 s.width, .lst 0 2 (s.forms.map eFm)] :: (HB ++ bFm f :: (f.parts.take j).map bPt), []⟩) f.parts.length (.exit 4) [(50, .int .i64 f.parts.length)]
   ⟨.cells [.int .i64 s.width, .lst 0 2 (s.forms.map eFm)] :: (HB ++ bFm f :: f.parts.map bPt), []⟩ ?_ ?_ ?_ ?_ rfl]
  ·simp (disch := omega) only [go_sem, ↓reduceIte, simprocAttr, wrap_i64, eShc, hz]
  ·simp only [go_sem, ↓reduceIte, simprocAttr]
  ·simp only [go_sem, ↓reduceIte, simprocAttr, bFm]
  ·intro j hj
   have hpx := List.getElem?_eq_getElem hj
   have hji : (j : Int) < f.parts.length := by omega
   have hzp := hf.zp (by intro e; rw [e] at hj; simp at hj)
   have h152 := z152 f.parts[j] (hf.fp _ (List.getElem_mem _)) (hpo _ (List.getElem_mem _))
   have hmp : (f.parts.take (j + 1)).map bPt = (f.parts.take j).map bPt ++ [bPt f.parts[j]] := map_succ _ hpx
   have ea : ∀ X : List ABlk, HB ++ bFm f :: X = (HB ++ [bFm f]) ++ X := fun X => by simp
   rw [hmp, ea ((f.parts.take j).map bPt ++ [bPt f.parts[j]]), ea ((f.parts.take j).map bPt), ← List.append_assoc (HB ++ [bFm f])]
   generalize f.parts[j] = p at *
   generalize HB ++ [bFm f] ++ (f.parts.take j).map bPt = HC at *
   simp only [ePt] at h152
   simp (disch := omega) only [go_sem, ↓reduceIte, simprocAttr, hji, hpx, hzp, ePt, h152, wrap_i64, bPt]
  ·simp (disch := omega) only [go_sem, ↓reduceIte, simprocAttr, Int.lt_irrefl, List.take_length]
 ·simp (disch := omega) only [go_sem, ↓reduceIte, simprocAttr, Int.lt_irrefl, List.take_length]
end
section
open Go.ChangeShapes Go.WideShapes Go.RowKit Go.Proofs
theorem cells63 : Tryz.prog.cellsOf 63 = 2 := by kernel_rfl
theorem cells65 : Tryz.prog.cellsOf 65 = 4 := by kernel_rfl
theorem cells61 : Tryz.prog.cellsOf 61 = 1 := by kernel_rfl
theorem cells75 : Tryz.prog.cellsOf 75 = 1 := by kernel_rfl
theorem cells70 : Tryz.prog.cellsOf 70 = 1 := by kernel_rfl
theorem cells77 : Tryz.prog.cellsOf 77 = 2 := by kernel_rfl
theorem cells128 : Tryz.prog.cellsOf 128 = 3 := by kernel_rfl
theorem bytes9 : Tryz.prog.bytesOf 9 = 16 := by kernel_rfl
theorem bytes77 : Tryz.prog.bytesOf 77 = 40 := by kernel_rfl
theorem bytes128 : Tryz.prog.bytesOf 128 = 40 := by kernel_rfl
section
variable {H : Type} {enc : TypeId × Value → H} {W : World}
theorem rd_word (n : Nat) (cs : List Value) (d : DataW H) (ps : List MemPlace) (hl : cs.length = 1) (h : DataW.trod enc Tryz.prog W 0 (fun _ => true) true n 9 cs = some (d, ps)) (hw : Light Tryz.prog 9 d) :
  ∃ y : ByteArray, (y.size < 1000000000000000000) ∧ Rv (Ctx.start tabX W) (AV.str y) (eVal false cs) ∧ (eVal false cs).cells = cs.toArray := by
 obtain ⟨s, e0, ex, _⟩ := DataW.trod_string Tryz.underlying9 h
 subst e0
 have hb : s.size ≤ reachBytes := by
  have := hw s.data.toList.length (by rw [(Prod.mk.inj ex).1]; simp [DataW.weights])
  rw [Array.length_toList] at this; exact this
 have := reachBytes_lt
 exact ⟨s, by omega, .str s, rfl⟩
set_option maxRecDepth 100000 in
theorem rd_part (n : Nat) (cs : List Value) (d : DataW H) (ps : List MemPlace) (hl : cs.length = 3) (h : DataW.trod enc Tryz.prog W 0 (fun _ => true) true n 128 cs = some (d, ps)) (hw : Light Tryz.prog 128 d) :
  ∃ y : Pt, y.fits ∧ Rv (Ctx.start tabX W) (ePt y) (eVal true cs) ∧ (eVal true cs).cells = cs.toArray := by
 obtain ⟨xs, m, rfl, hx, _, hlen, hf⟩ := DataW.trod_struct Tryz.underlying128 h
 simp only [Prod.mk.injEq] at hx
 obtain ⟨rfl, _⟩ := hx
 obtain ⟨c0, c1, c2, rfl⟩ : ∃ c0 c1 c2, cs = [c0, c1, c2] := by
  match cs, hl with
  | [c0, c1, c2], _ => exact ⟨c0, c1, c2, rfl⟩
 have l0 : xs.length = 2 := by rw [hlen]; rfl
 have g0 : DataW.trod enc Tryz.prog W 0 (fun _ => true) true m 70 ((([c0, c1, c2] : List Value).drop 0).take (Tryz.prog.cellsOf 70)) = xs[0]? := hf 0 _ rfl
 have g1 : DataW.trod enc Tryz.prog W 0 (fun _ => true) true m 29 ((([c0, c1, c2] : List Value).drop 1).take (Tryz.prog.cellsOf 29)) = xs[1]? := hf 1 _ rfl
 have w0 : Light Tryz.prog 70 xs[0].1 := light_struct Tryz.underlying128 hw (i := 0) rfl (d := xs[0].1) (by simp [l0])
 rw [cells70, List.getElem?_eq_getElem (by omega)] at g0
 rw [cells29, List.getElem?_eq_getElem (by omega)] at g1
 simp only [List.drop_zero, List.take_succ_cons, List.take_zero, List.drop_succ_cons] at g0 g1
 obtain ⟨l, z, v, e0, r0, z0, b0, q0⟩ := rd_slice (X := tabX) AV.str (fun y => y.size < 1000000000000000000) false 1 cells9 (by omega) (.inr rfl) Tryz.underlying70 rd_word (ps := xs[0].2) g0 w0
 obtain ⟨a, b, e1⟩ := rd_span0 m _ _ _ rfl g1
 simp only [List.cons.injEq, and_true] at e0 e1
 subst e0
 obtain ⟨rfl, rfl⟩ := e1
 rw [bytes9] at b0
 have := reachBytes_lt
 refine ⟨⟨l, 1, a, b⟩, ⟨fun _ => rfl, by simp only; omega, q0⟩, ?_, rfl⟩
 refine .agg _ [_, .int .i64 a, .int .i64 b] rfl fun i x hx => ?_
 match i, hx with
 | 0, hx => obtain rfl : AV.lst 0 1 (l.map AV.str) = x := Option.some.inj hx; exact rv_sz r0 z0
 | 1, hx => obtain rfl : AV.int .i64 a = x := Option.some.inj hx; exact .int _ _
 | 2, hx => obtain rfl : AV.int .i64 b = x := Option.some.inj hx; exact .int _ _
set_option maxRecDepth 100000 in
theorem rd_form (n : Nat) (cs : List Value) (d : DataW H) (ps : List MemPlace) (hl : cs.length = 2) (h : DataW.trod enc Tryz.prog W 0 (fun _ => true) true n 77 cs = some (d, ps)) (hw : Light Tryz.prog 77 d) :
  ∃ y : Fm, y.fits ∧ Rv (Ctx.start tabX W) (eFm y) (eVal true cs) ∧ (eVal true cs).cells = cs.toArray := by
 obtain ⟨xs, m, rfl, hx, _, hlen, hf⟩ := DataW.trod_struct Tryz.underlying77 h
 simp only [Prod.mk.injEq] at hx
 obtain ⟨rfl, _⟩ := hx
 obtain ⟨c0, c1, rfl⟩ : ∃ c0 c1, cs = [c0, c1] := by
  match cs, hl with
  | [c0, c1], _ => exact ⟨c0, c1, rfl⟩
 have l0 : xs.length = 2 := by rw [hlen]; rfl
 have g0 : DataW.trod enc Tryz.prog W 0 (fun _ => true) true m 9 ((([c0, c1] : List Value).drop 0).take (Tryz.prog.cellsOf 9)) = xs[0]? := hf 0 _ rfl
 have g1 : DataW.trod enc Tryz.prog W 0 (fun _ => true) true m 75 ((([c0, c1] : List Value).drop 1).take (Tryz.prog.cellsOf 75)) = xs[1]? := hf 1 _ rfl
 have w0 : Light Tryz.prog 9 xs[0].1 := light_struct Tryz.underlying77 hw (i := 0) rfl (d := xs[0].1) (by simp [l0])
 have w1 : Light Tryz.prog 75 xs[1].1 := light_struct Tryz.underlying77 hw (i := 1) rfl (d := xs[1].1) (by simp [l0])
 rw [cells9, List.getElem?_eq_getElem (by omega)] at g0
 rw [cells75, List.getElem?_eq_getElem (by omega)] at g1
 simp only [List.drop_zero, List.take_succ_cons, List.take_zero, List.drop_succ_cons] at g0 g1
 obtain ⟨n0, e0, ex0, _⟩ := DataW.trod_string Tryz.underlying9 g0
 simp only [List.cons.injEq, and_true] at e0
 subst e0
 have hb0 : n0.size ≤ reachBytes := by
  have := w0 n0.data.toList.length (by rw [ex0]; simp [DataW.weights])
  rw [Array.length_toList] at this; exact this
 obtain ⟨l, z, v, e1, r1, z1, b1, q1⟩ := rd_slice (X := tabX) ePt (fun y => y.fits) true 3 cells128 (by omega) (.inl rfl) Tryz.underlying75 rd_part (ps := xs[1].2) g1 w1
 simp only [List.cons.injEq, and_true] at e1
 subst e1
 rw [bytes128] at b1
 have := reachBytes_lt
 refine ⟨⟨n0, l, 3⟩, ⟨by simp only; omega, fun _ => rfl, by simp only; omega, q1⟩, ?_, rfl⟩
 refine .agg _ [.string n0, _] rfl fun i x hx => ?_
 match i, hx with
 | 0, hx => obtain rfl : AV.str n0 = x := Option.some.inj hx; exact .str _
 | 1, hx => obtain rfl : AV.lst 0 3 (l.map ePt) = x := Option.some.inj hx; exact rv_sz r1 z1
set_option maxRecDepth 100000 in
theorem rd_sh {v : Value} {d : DataW H} {ps : List MemPlace} {b0 : Nat} (hv : Value.okWide Tryz.prog W .any b0 63 v) (h : DataW.Trod enc Tryz.prog W 0 (fun _ => true) true 63 v d ps) (hw : Light Tryz.prog 63 d) :
  ∃ y : Sh, y.fits ∧ Rv (Ctx.start tabX W) (eSh y) v := by
 obtain ⟨cs, rfl, hsz⟩ := okWide_struct Tryz.underlying63 hv
 rw [cells63] at hsz
 obtain ⟨n, hn⟩ := h
 obtain ⟨xs, m, rfl, hx, _, hlen, hf⟩ := DataW.trod_struct Tryz.underlying63 hn
 simp only [Prod.mk.injEq] at hx
 obtain ⟨rfl, _⟩ := hx
 simp only [Value.cells] at hf
 obtain ⟨c0, c1, rfl⟩ : ∃ c0 c1, cs = #[c0, c1] := by
  obtain ⟨l⟩ := cs
  match l, hsz with
  | [c0, c1], _ => exact ⟨c0, c1, rfl⟩
 have l0 : xs.length = 2 := by rw [hlen]; rfl
 have g0 : DataW.trod enc Tryz.prog W 0 (fun _ => true) true m 3 ((([c0, c1] : List Value).drop 0).take (Tryz.prog.cellsOf 3)) = xs[0]? := hf 0 _ rfl
 have g1 : DataW.trod enc Tryz.prog W 0 (fun _ => true) true m 61 ((([c0, c1] : List Value).drop 1).take (Tryz.prog.cellsOf 61)) = xs[1]? := hf 1 _ rfl
 have w1 : Light Tryz.prog 61 xs[1].1 := light_struct Tryz.underlying63 hw (i := 1) rfl (d := xs[1].1) (by simp [l0])
 rw [cells3, List.getElem?_eq_getElem (by omega)] at g0
 rw [cells61, List.getElem?_eq_getElem (by omega)] at g1
 simp only [List.drop_zero, List.take_succ_cons, List.take_zero, List.drop_succ_cons] at g0 g1
 obtain ⟨n0, e0, _, _⟩ := DataW.trod_int Tryz.underlying3 g0
 simp only [List.cons.injEq, and_true] at e0
 subst e0
 obtain ⟨l, z, v, e1, r1, z1, b1, q1⟩ := rd_slice (X := tabX) eFm (fun y => y.fits) true 2 cells77 (by omega) (.inl rfl) Tryz.underlying61 rd_form (ps := xs[1].2) g1 w1
 simp only [List.cons.injEq, and_true] at e1
 subst e1
 rw [bytes77] at b1
 have := reachBytes_lt
 refine ⟨⟨n0, l, 2⟩, ⟨fun _ => rfl, by simp only; omega, q1⟩, ?_⟩
 refine .agg _ [.int .i64 n0, _] rfl fun i x hx => ?_
 match i, hx with
 | 0, hx => obtain rfl : AV.int .i64 n0 = x := Option.some.inj hx; exact .int _ _
 | 1, hx => obtain rfl : AV.lst 0 2 (l.map eFm) = x := Option.some.inj hx; exact rv_sz r1 z1
structure Ln where
 form : Nat
 visit : Nat
 one : List UInt8
 two : List UInt8
 z1 : Nat
 z2 : Nat
structure Ln.fits (x : Ln) : Prop where
 f : x.form < 256
 v : x.visit < 256
 z1 : x.one ≠ [] → x.z1 = 1
 z2 : x.two ≠ [] → x.z2 = 1
 l1 : x.one.length < 1000000000000000000
 l2 : x.two.length < 1000000000000000000
def eLn (x : Ln) : AV := .agg [.int .u8 x.form, .int .u8 x.visit, .lst 0 x.z1 (uB x.one), .lst 0 x.z2 (uB x.two)]
def eB (b : UInt8) : AV := .int .u8 b.toNat
theorem rd_byte (n : Nat) (cs : List Value) (d : DataW H) (ps : List MemPlace) (hl : cs.length = 1) (h : DataW.trod enc Tryz.prog W 0 (fun _ => true) true n 5 cs = some (d, ps)) (hw : Light Tryz.prog 5 d) :
  ∃ y : UInt8, True ∧ Rv (Ctx.start tabX W) (eB y) (eVal false cs) ∧ (eVal false cs).cells = cs.toArray := by
 obtain ⟨y, rfl, _, hw⟩ := DataW.trod_int Tryz.underlying5 h
 have hb := bounds_u8 hw
 obtain ⟨k, rfl⟩ := Int.eq_ofNat_of_zero_le hb.1
 have hk : k < 256 := by omega
 have e : eB (UInt8.ofNat k) = .int .u8 (k : Nat) := by
  unfold eB
  rw [UInt8.toNat_ofNat', Nat.mod_eq_of_lt (by omega)]
 exact ⟨UInt8.ofNat k, trivial, by rw [e]; exact .int _ _, rfl⟩
set_option maxRecDepth 100000 in
theorem rd_ln {v : Value} {d : DataW H} {ps : List MemPlace} {b0 : Nat} (hv : Value.okWide Tryz.prog W .any b0 65 v) (h : DataW.Trod enc Tryz.prog W 0 (fun _ => true) true 65 v d ps) (hw : Light Tryz.prog 65 d) :
  ∃ y : Ln, y.fits ∧ Rv (Ctx.start tabX W) (eLn y) v := by
 obtain ⟨cs, rfl, hsz⟩ := okWide_struct Tryz.underlying65 hv
 rw [cells65] at hsz
 obtain ⟨n, hn⟩ := h
 obtain ⟨xs, m, rfl, hx, _, hlen, hf⟩ := DataW.trod_struct Tryz.underlying65 hn
 simp only [Prod.mk.injEq] at hx
 obtain ⟨rfl, _⟩ := hx
 simp only [Value.cells] at hf
 obtain ⟨c0, c1, c2, c3, rfl⟩ : ∃ c0 c1 c2 c3, cs = #[c0, c1, c2, c3] := by
  obtain ⟨l⟩ := cs
  match l, hsz with
  | [c0, c1, c2, c3], _ => exact ⟨c0, c1, c2, c3, rfl⟩
 have l0 : xs.length = 4 := by rw [hlen]; rfl
 have g0 : DataW.trod enc Tryz.prog W 0 (fun _ => true) true m 5 ((([c0, c1, c2, c3] : List Value).drop 0).take (Tryz.prog.cellsOf 5)) = xs[0]? := hf 0 _ rfl
 have g1 : DataW.trod enc Tryz.prog W 0 (fun _ => true) true m 5 ((([c0, c1, c2, c3] : List Value).drop 1).take (Tryz.prog.cellsOf 5)) = xs[1]? := hf 1 _ rfl
 have g2 : DataW.trod enc Tryz.prog W 0 (fun _ => true) true m 42 ((([c0, c1, c2, c3] : List Value).drop 2).take (Tryz.prog.cellsOf 42)) = xs[2]? := hf 2 _ rfl
 have g3 : DataW.trod enc Tryz.prog W 0 (fun _ => true) true m 42 ((([c0, c1, c2, c3] : List Value).drop 3).take (Tryz.prog.cellsOf 42)) = xs[3]? := hf 3 _ rfl
 have w2 : Light Tryz.prog 42 xs[2].1 := light_struct Tryz.underlying65 hw (i := 2) rfl (d := xs[2].1) (by simp [l0])
 have w3 : Light Tryz.prog 42 xs[3].1 := light_struct Tryz.underlying65 hw (i := 3) rfl (d := xs[3].1) (by simp [l0])
 rw [cells5, List.getElem?_eq_getElem (by omega)] at g0
 rw [cells5, List.getElem?_eq_getElem (by omega)] at g1
 rw [cells42, List.getElem?_eq_getElem (by omega)] at g2
 rw [cells42, List.getElem?_eq_getElem (by omega)] at g3
 simp only [List.drop_zero, List.take_succ_cons, List.take_zero, List.drop_succ_cons] at g0 g1 g2 g3
 obtain ⟨n0, e0, _, b0⟩ := DataW.trod_int Tryz.underlying5 g0
 obtain ⟨n1, e1, _, b1⟩ := DataW.trod_int Tryz.underlying5 g1
 simp only [List.cons.injEq, and_true] at e0 e1
 subst e0; subst e1
 have b0 := bounds_u8 b0
 have b1 := bounds_u8 b1
 obtain ⟨k0, rfl⟩ := Int.eq_ofNat_of_zero_le b0.1
 obtain ⟨k1, rfl⟩ := Int.eq_ofNat_of_zero_le b1.1
 obtain ⟨la, za, va, ea, ra, z2, ba, _⟩ := rd_slice (X := tabX) eB (fun _ => True) false 1 cells5 (by omega) (.inr rfl) Tryz.underlying42 rd_byte (ps := xs[2].2) g2 w2
 obtain ⟨lb, zb, vb, eb, rb, z3, bb, _⟩ := rd_slice (X := tabX) eB (fun _ => True) false 1 cells5 (by omega) (.inr rfl) Tryz.underlying42 rd_byte (ps := xs[3].2) g3 w3
 simp only [List.cons.injEq, and_true] at ea eb
 subst ea; subst eb
 rw [bytes5] at ba bb
 have := reachBytes_lt
 refine ⟨⟨k0, k1, la, lb, 1, 1⟩, ⟨by simp only; omega, by simp only; omega, fun _ => rfl, fun _ => rfl, by simp only; omega, by simp only; omega⟩, ?_⟩
 refine .agg _ [.int .u8 (k0 : Nat), .int .u8 (k1 : Nat), _, _] rfl fun i x hx => ?_
 match i, hx with
 | 0, hx => obtain rfl : AV.int .u8 (k0 : Nat) = x := Option.some.inj hx; exact .int _ _
 | 1, hx => obtain rfl : AV.int .u8 (k1 : Nat) = x := Option.some.inj hx; exact .int _ _
 | 2, hx => obtain rfl : AV.lst 0 1 (la.map eB) = x := Option.some.inj hx; exact rv_sz ra z2
 | 3, hx => obtain rfl : AV.lst 0 1 (lb.map eB) = x := Option.some.inj hx; exact rv_sz rb z3
end
end
section
open Go.Proofs
theorem app_pad {X : Tab} {ty e : TypeId} {sz : Nat} {tag z : Nat} {t : List Bool} {xs : List AV} (hn : OwnS sz tag z xs.length t) (p q : Nat) (hp : p < q) (u z' : Nat) (ys : List AV) (ht : trow X ty = .slice e) (hs : tsz X e = sz) (h0 : 0 < sz) (hz' : z' = sz ∨ ys.length = 0)
  (hy : (xs.length + ys.length) * tbytes X e ≤ 140737488355328) (hy2 : xs.length + ys.length ≤ 140737488355328) (hf : zeroFits X e = true) (hv : ys.all AV.var = true) (hne : 0 < ys.length) :
  ∃ t2, (∀ B, appendAV X ty (t.length + p) ⟨B, t ++ List.replicate q false⟩ (.lst tag z xs) (.lst u z' ys) = some (.lst (t.length + p + 2) sz (xs ++ ys), ⟨B, t2⟩)) ∧ t2[t.length + p]? = some true := by
 have hc : (z' = tsz X e ∨ ys.length = 0) ∧ 0 < tsz X e ∧ (xs.length + ys.length) * tbytes X e ≤ appLimit ∧ xs.length + ys.length ≤ appLimit ∧ zeroFits X e = true ∧ ys.all AV.var = true := by
  rw [hs]; exact ⟨hz', h0, hy, hy2, hf, hv⟩
 unfold appendAV
 simp only [ht, if_pos hc]
 have hlt : t.length + p < t.length + q := by omega
 rcases hn with ⟨rfl, hn0⟩ | ⟨k, rfl, hq, hqt⟩
 ·have hx : (z = tsz X e ∨ xs.length = 0) ∧ (xs.length = 0 ∨ 0 < ys.length) := ⟨.inr hn0, .inl hn0⟩
  refine ⟨lset (t ++ List.replicate q false) (t.length + p) true, fun B => ?_, ?_⟩
  ·rw [if_pos hx, hs]
  ·simp only [lset, List.length_append, List.length_replicate, hlt, if_true]
   rw [List.getElem?_set_self (by simp; omega)]
 ·have hx : z = tsz X e := by rw [hs, hq]
  have hkl : k < t.length := (List.getElem?_eq_some_iff.1 hqt).1
  have hqt' : (t ++ List.replicate q false)[k]? = some true := by rw [List.getElem?_append_left hkl]; exact hqt
  refine ⟨lset ((t ++ List.replicate q false).set k false) (t.length + p) true, fun B => ?_, ?_⟩
  ·simp only [hqt']
   rw [if_pos hx, hs]
  ·simp only [lset, List.length_set, List.length_append, List.length_replicate, hlt, if_true]
   rw [List.getElem?_set_self (by simp; omega)]
structure LS where
 tail : List ABlk
 t : List Bool
 tg : Nat
 z : Nat
def bLk (f : Fm) (tg z : Nat) (rl : List (Int × Int)) : ABlk := .cells [.str f.name, .lst 0 f.zp (f.parts.map ePt), .lst tg z (eSps rl)]
def LkAt (f : Fm) (B : List ABlk) (q : LS) (rl : List (Int × Int)) : List ABlk := B ++ bFm f :: bLk f q.tg q.z rl :: q.tail
set_option maxHeartbeats 1000000 in
theorem z133 (f : Fm) (hf : f.fits) (hl5 : f.parts.length ≤ 5) (B : List ABlk) (t : List Bool) :
  ∃ q : LS, (EW tabX).call 133 [eFm f] ⟨B, t⟩ = some (.ref (B.length + 1) 0, ⟨LkAt f B q (roomsL f.parts), q.t⟩) ∧ OwnS 2 q.tg q.z (roomsL f.parts).length q.t := by
 rw [w_call _ fn_133 rfl]
 have h1 : ∀ k, ¬ (B.length + k < B.length) := fun k => by omega
 simp only [go_sem, ↓reduceIte, simprocAttr, eFm, h1, cast_zero]
 generalize hx : (EW tabX).code 133 none (Code.loop _) _ = y
 refine w_rounds_sk hx (fun k (q : List (Int × Int) × LS) => [(12, .int .i64 k)]) (fun q => ⟨LkAt f B q.2 q.1, q.2.t⟩) (fun k q => q.1 = roomsL (f.parts.take k) ∧ OwnS 2 q.2.tg q.2.z q.1.length q.2.t) f.parts.length (.exit 0)
  (fun q => [(12, .int .i64 f.parts.length)]) rfl ([], ⟨[], t, 1, 0⟩) ?_ ?_ ⟨rfl, .inl ⟨rfl, rfl⟩⟩ ?_ ?_ ?_
 ·simp only [go_sem, ↓reduceIte, simprocAttr]
 ·simp only [LkAt, bLk, bFm, go_sem, ↓reduceIte, simprocAttr]
 ·intro k q hk hR
  obtain ⟨rl, q⟩ := q
  obtain ⟨hrl, hR⟩ := hR
  simp only at hrl hR
  have hx := List.getElem?_eq_getElem hk
  have hki : (k : Int) < f.parts.length := by omega
  have hz := hf.zp (by intro e; rw [e] at hk; simp at hk)
  have hsucc := roomsL_succ hx
  have hle := roomsL_le (f.parts.take k)
  have htl : (f.parts.take k).length = k := by rw [List.length_take]; omega
  rw [← hrl] at hsucc hle
  have hle5 : rl.length ≤ 5 := by omega
  generalize f.parts[k] = p at *
  cases e : (p.words.length == 0) with
  | true =>
   have ei : ((p.words.length : Int) == 0) = true := by rw [beq_iff_eq] at e ⊢; omega
   rw [e, if_pos rfl] at hsucc
   obtain ⟨t2, ha, ho2⟩ := app_pad (X := tabX) (ty := 149) (e := 29) (sz := 2) (t := q.t) (xs := eSps rl) (by rw [eSps_len]; exact hR) 8 12 (by decide) 1 2 [.agg [.int .i64 p.lo, .int .i64 p.hi]] (by simp only [go_sem, ↓reduceIte, simprocAttr]) (by simp only [go_sem, ↓reduceIte, simprocAttr]) (by decide) (.inl rfl)
    (by simp only [go_sem, ↓reduceIte, simprocAttr]; omega) (by simp only [go_sem, ↓reduceIte, simprocAttr]; omega) (by simp only [go_sem, ↓reduceIte, simprocAttr]) (by simp only [go_sem, ↓reduceIte, simprocAttr]) (Nat.succ_pos _)
   simp only [List.replicate] at ha
   unfold LkAt
   simp (disch := omega) only [go_sem, ↓reduceIte, simprocAttr, hki, hx, ePt, hz, bLk, bFm, ei, wrap_i64]
   generalize hcf : drawT _ _ _ = cf
   obtain rfl : cf = true := by rw [← hcf]; kernel_rfl
   simp (disch := omega) only [go_sem, ↓reduceIte, simprocAttr, List.size_toArray, ha]
   have hw : IntKind.i64.wrap ((k : Int) + 1) = (k : Int) + 1 := wrap_i64 (by omega)
   rw [show (AV.agg [.int .i64 p.lo, .int .i64 p.hi]) = .agg [.int .i64 (p.lo, p.hi).1, .int .i64 (p.lo, p.hi).2] from rfl, eSps_snoc, hw]
   exact ⟨(rl ++ [(p.lo, p.hi)], ⟨_, t2, q.t.length + 8 + 2, 2⟩), rfl, hsucc.symm, .inr ⟨_, rfl, rfl, ho2⟩⟩
  | false =>
   have ei : ((p.words.length : Int) == 0) = false := by rw [beq_eq_false_iff_ne] at e ⊢; omega
   rw [e] at hsucc
   refine ⟨(rl, ⟨q.tail ++ [bPt p], q.t, q.tg, q.z⟩), ?_, by simpa using hsucc.symm, hR⟩
   unfold LkAt
   simp (disch := omega) only [go_sem, ↓reduceIte, simprocAttr, hki, hx, ePt, hz, bLk, bFm, bPt, ei, wrap_i64]
 ·intro q hR
  simp (disch := omega) only [go_sem, ↓reduceIte, simprocAttr, Int.lt_irrefl]
 ·intro q hy hR
  obtain ⟨rl, q⟩ := q
  obtain ⟨hrl, hR⟩ := hR
  simp only at hrl hR hy
  rw [List.take_length] at hrl
  subst hrl
  refine ⟨q, ?_, hR⟩
  rw [hy]
  simp only [go_sem, ↓reduceIte, simprocAttr, h1]
end
section
open Go.Proofs
def cntP : List (Int × Int) → List Int → List (List Int)
 | [], pre => [pre]
 | r :: rs, pre => (List.range (r.2 + 1 - r.1).toNat).flatMap fun (i : Nat) => cntP rs (pre ++ [r.1 + (i : Int)])
def cntTo (r : Int × Int) (rs : List (Int × Int)) (pre : List Int) (j : Nat) : List (List Int) := (List.range j).flatMap fun (i : Nat) => cntP rs (pre ++ [r.1 + (i : Int)])
theorem cntTo_succ (r : Int × Int) (rs : List (Int × Int)) (pre : List Int) (j : Nat) : cntTo r rs pre (j + 1) = cntTo r rs pre j ++ cntP rs (pre ++ [r.1 + (j : Int)]) := by
 unfold cntTo
 rw [List.range_succ, List.flatMap_append]
 simp
def pad5 (p : List Int) : List Int := p ++ List.replicate (5 - p.length) 0
theorem I_set5 (l : List Int) (i : Nat) (x : Int) : (I l).set i (.int .i64 x) = I (l.set i x) := by unfold I; rw [List.map_set]
def bnd3 (m : List Int) : Prop := ∀ x ∈ m, 0 ≤ x ∧ x ≤ 3
structure Cnt (f : Fm) (tg z : Nat) (rl : List (Int × Int)) (r h1 n l : Nat) (σ : Type) where
 H : σ → List Int → List ABlk
 L : Nat
 stp : σ → List Int → σ
 len : ∀ s m, (H s m).length = L
 fm : ∀ s m, (H s m)[r]? = some (bLk f tg z rl)
 bx : ∀ s m, (H s m)[h1]? = some (.cells [.ref r 0])
 yl : ∀ s m, (H s m)[n]? = some (.cells [.yld l])
 ar : ∀ s m, (H s m)[n + 1]? = some (.cells (I m))
 nx : ∀ s m, (H s m)[n + 2]? = some (.cells [.clo 197 [] [.ref h1 0, .ref n 0, .ref (n + 1) 0, .ref (n + 2) 0]])
 set : ∀ s m m', (H s m).set (n + 1) (.cells (I m')) = H s m'
 lt : n + 2 < L
 rnd : ∀ (s : σ) (m : List Int) (X : List ABlk) (t : List Bool), m.length = 5 → bnd3 m → ∃ J t', stepRound tabX (EW tabX) l [.agg (I m)] ⟨H s m ++ X, t⟩ = some (.bool true, ⟨H (stp s m) m ++ (X ++ J), t'⟩)
section
variable {f : Fm} {tg z : Nat} {rl : List (Int × Int)} {r h1 n l : Nat} {σ : Type} (C : Cnt f tg z rl r h1 n l σ)
structure CFacts (Q : List ABlk) (m : List Int) (f : Fm) (tg z : Nat) (rl : List (Int × Int)) (r h1 n l L : Nat) : Prop where
 len : Q.length = L
 fm : ∀ X, (Q ++ X)[r]? = some (bLk f tg z rl)
 bx : ∀ X, (Q ++ X)[h1]? = some (.cells [.ref r 0])
 yl : ∀ X, (Q ++ X)[n]? = some (.cells [.yld l])
 ar : ∀ X, (Q ++ X)[n + 1]? = some (.cells (I m))
 nx : ∀ X, (Q ++ X)[n + 2]? = some (.cells [.clo 197 [] [.ref h1 0, .ref n 0, .ref (n + 1) 0, .ref (n + 2) 0]])
theorem Cnt.facts (s : σ) (m : List Int) : CFacts (C.H s m) m f tg z rl r h1 n l C.L :=
 ⟨C.len s m, old (C.fm s m), old (C.bx s m), old (C.yl s m), old (C.ar s m), old (C.nx s m)⟩
theorem Cnt.setX (s : σ) (m m' : List Int) (X : List ABlk) : (C.H s m ++ X).set (n + 1) (.cells (I m')) = C.H s m' ++ X := by
 rw [List.set_append_left _ _ (by rw [C.len]; have := C.lt; omega), C.set]
end
structure NS (σ : Type) where
 s : σ
 m : List Int
 t : List Bool
def zer5 (m : List Int) (k : Nat) : Prop := m.drop k = List.replicate (5 - k) 0
set_option maxHeartbeats 4000000 in
theorem z197 {f : Fm} {tg z : Nat} {rl : List (Int × Int)} {r h1 n l : Nat} {σ : Type} (C : Cnt f tg z rl r h1 n l σ) (hz : rl ≠ [] → z = 2) (hl5 : rl.length ≤ 5) (hb : ∀ p ∈ rl, 0 ≤ p.1 ∧ p.1 ≤ 3 ∧ 0 ≤ p.2 ∧ p.2 ≤ 3 ∧ p.1 ≤ p.2 + 1) :
  ∀ (n' k : Nat) (m : List Int) (s : σ) (X : List ABlk) (t : List Bool), k + n' = rl.length → m.length = 5 → bnd3 m → zer5 m rl.length →
  ∃ m' t', m'.length = 5 ∧ bnd3 m' ∧ m'.take k = m.take k ∧ zer5 m' rl.length ∧ (EW tabX).call 197 [.int .i64 (k : Int), .ref h1 0, .ref n 0, .ref (n + 1) 0, .ref (n + 2) 0] ⟨C.H s m ++ X, t⟩ =
   some (.bool true, ⟨C.H ((cntP (rl.drop k) (m.take k)).foldl (fun s p => C.stp s (pad5 p)) s) m' ++ X, t'⟩) := by
 intro n'
 induction n' with
 | zero =>
  intro k m s X t hk hm hbm hzr
  obtain ⟨hQ, oF, oB, oY, oA, oN⟩ := C.facts s m
  obtain ⟨J, t', hr⟩ := C.rnd s m X t hm hbm
  have hke : k = rl.length := by omega
  subst hke
  have hpad : pad5 (m.take rl.length) = m := by
   unfold zer5 at hzr
   unfold pad5
   have : (m.take rl.length).length = rl.length := by rw [List.length_take]; omega
   rw [this, ← hzr, List.take_append_drop]
  refine ⟨m, t', hm, hbm, rfl, hzr, ?_⟩
  rw [List.drop_length]
  have e : cntP [] (m.take rl.length) = [m.take rl.length] := rfl
  rw [e, List.foldl_cons, List.foldl_nil, hpad]
  have hQ2 := C.len (C.stp s m) m
  have h5 : ¬ (m.length < 5) := by omega
  have h5' : 5 ≤ m.length := by omega
  have ht5 : (I m).take 5 = I m := List.take_of_length_le (by rw [I_len]; omega)
  rw [w_call _ fn_197 rfl]
  generalize C.H s m = Q at *
  generalize C.H (C.stp s m) m = Q2 at *
  simp only [bLk] at oF
  have hT : (Q2 ++ (X ++ J)).take (C.L + X.length) = Q2 ++ X := by rw [← List.append_assoc, List.take_left' (by simp [hQ2])]
  simp only [go_sem, ↓reduceIte, simprocAttr, oF, oB, oY, oA, hQ, h5, h5', ht5, callAV_yld2, hr, hT]
 | succ n' ih =>
  intro k m s X t hk hm hbm hzr
  obtain ⟨hQ, oF, oB, oY, oA, oN⟩ := C.facts s m
  have hkl : k < rl.length := by omega
  have hx := List.getElem?_eq_getElem hkl
  have hbd := hb _ (List.getElem_mem hkl)
  have hz2 := hz (by intro e; rw [e] at hkl; simp at hkl)
  have hki : (k : Int) < rl.length := by omega
  have hk5 : k < 5 := by omega
  have hwk : IntKind.i64.wrap ((k : Int) + 1) = (k : Int) + 1 := wrap_i64 (by omega)
  have hke : ((k : Int) == (rl.length : Int)) = false := by simp; omega
  rw [List.drop_eq_getElem_cons hkl]
  generalize hrk : rl[k] = rk at *
  obtain ⟨lo, hi⟩ := rk
  simp only at hbd
  rw [w_call _ fn_197 rfl]
  have oF' := oF
  simp only [bLk] at oF
  have eC : cntP ((lo, hi) :: rl.drop (k + 1)) (m.take k) = cntTo (lo, hi) (rl.drop (k + 1)) (m.take k) (hi + 1 - lo).toNat := rfl
  rw [eC]
  simp only [go_sem, ↓reduceIte, simprocAttr, oF, oB, hke, hki, hx, hz2, eSp]
  generalize hxx : (EW tabX).code 197 none (Code.loop _) _ = y
  refine w_rounds_sk hxx (fun j (q : NS σ) => [(7, .int .i64 (lo + (j : Int)))]) (fun q => ⟨C.H q.s q.m ++ X, q.t⟩) (fun j q => q.s = (cntTo (lo, hi) (rl.drop (k + 1)) (m.take k) j).foldl (fun s p => C.stp s (pad5 p)) s ∧ q.m.length = 5 ∧ bnd3 q.m ∧ q.m.take k = m.take k ∧ zer5 q.m rl.length) (hi + 1 - lo).toNat (.exit 0) (fun q => [(7, .int .i64 (hi + 1))]) rfl ⟨s, m, t⟩ ?_ ?_ ⟨rfl, hm, hbm, rfl, hzr⟩ ?_ ?_ ?_
  ·simp only [go_sem, ↓reduceIte, simprocAttr, cast_zero, Int.add_zero]
  ·rfl
  ·intro j q hj hR
   obtain ⟨s1, m1, t1⟩ := q
   obtain ⟨h1, h2, hb1, h3, h4⟩ := hR
   simp only at h1 h2 hb1 h3 h4
   have hle : lo + (j : Int) ≤ hi := by omega
   have hwj : IntKind.i64.wrap (lo + (j : Int) + 1) = lo + (j : Int) + 1 := wrap_i64 (by omega)
   have hs3 : (m1.set k (lo + (j : Int))).take (k + 1) = m.take k ++ [lo + (j : Int)] := by
    rw [List.take_succ_eq_append_getElem (by simp; omega), List.getElem_set_self, List.take_set_of_le (Nat.le_refl _), h3]
   have hz5 : zer5 (m1.set k (lo + (j : Int))) rl.length := by
    unfold zer5 at h4 ⊢
    rw [List.drop_set_of_lt hkl]; exact h4
   have hb2 : bnd3 (m1.set k (lo + (j : Int))) := fun x hx => by
    rcases List.mem_or_eq_of_mem_set hx with h | h
    ·exact hb1 x h
    ·omega
   obtain ⟨m', t', a1, a0, a2, a3, a4⟩ := ih (k + 1) (m1.set k (lo + (j : Int))) s1 X t1 (by omega) (by simp [h2]) hb2 hz5
   rw [hs3] at a2 a4
   refine ⟨⟨(cntTo (lo, hi) (rl.drop (k + 1)) (m.take k) (j + 1)).foldl (fun s p => C.stp s (pad5 p)) s, m', t'⟩, ?_, rfl, a1, a0, ?_, a3⟩
   ·obtain ⟨gQ, gF, gB, gY, gA, gN⟩ := C.facts s1 m1
    obtain ⟨gQ2, gF2, gB2, gY2, gA2, gN2⟩ := C.facts s1 (m1.set k (lo + (j : Int)))
    have hst := fun m' => C.setX s1 m1 m' X
    have hi5 : k + 1 ≤ m1.length := by omega
    have hset := I_set5 m1 k (lo + (j : Int))
    have hQ3 := fun m => C.len ((cntTo (lo, hi) (rl.drop (k + 1)) (m.take k) (j + 1)).foldl (fun s p => C.stp s (pad5 p)) s) m
    rw [cntTo_succ, List.foldl_append, ← h1]
    have hk1 : ((k + 1 : Nat) : Int) = (k : Int) + 1 := by omega
    rw [hk1] at a4
    have hj1 : lo + ((j : Int) + 1) = lo + (j : Int) + 1 := by omega
    simp only [bLk] at gF gF2
    simp only [go_sem, ↓reduceIte, simprocAttr, gF, gB, gA, hle, hki, hx, hz2, eSp, hk5, hi5, hset, hst, gN2, hwk, a4, hwj, hj1, Nat.mul_one]
   ·have := congrArg (List.take k) a2
    rw [List.take_take, Nat.min_eq_left (by omega), List.take_append_of_le_length (by rw [List.length_take]; omega), List.take_take, Nat.min_self] at this
    exact this
  ·intro q hR
   obtain ⟨s1, m1, t1⟩ := q
   obtain ⟨h1, h2, hb1, h3, h4⟩ := hR
   obtain ⟨gQ, gF, gB, gY, gA, gN⟩ := C.facts s1 m1
   have hend : lo + (((hi + 1 - lo).toNat : Nat) : Int) = hi + 1 := by omega
   have hle : ¬ (hi + 1 ≤ hi) := by omega
   simp only [bLk] at gF
   simp only [go_sem, ↓reduceIte, simprocAttr, gF, gB, hend, hle, hki, hx, hz2, eSp]
  ·intro q hy hR
   obtain ⟨s1, m1, t1⟩ := q
   obtain ⟨h1, h2, hb1, h3, h4⟩ := hR
   simp only at h1 h2 hb1 h3 h4 hy
   refine ⟨m1, t1, h2, hb1, h3, h4, ?_⟩
   have gQ := C.len s1 m1
   rw [hy, ← h1]
   have hT : (C.H s1 m1 ++ X).take (C.L + X.length) = C.H s1 m1 ++ X := List.take_of_length_le (by simp [gQ])
   simp only [go_sem, ↓reduceIte, simprocAttr, hQ, hT]
theorem z169 (r : Nat) (B : List ABlk) (t : List Bool) (hr : r < B.length) : (EW tabX).call 169 [.ref r 0] ⟨B, t⟩ = some (.clo 196 [] [.ref B.length 0], ⟨B ++ [.cells [.ref r 0]], t⟩) := by
 rw [w_call _ fn_169 rfl]
 have h1 : ¬ (B.length < B.length) := by omega
 have h2 : r < B.length + 1 := by omega
 simp only [go_sem, ↓reduceIte, simprocAttr, h1, h2]
set_option maxHeartbeats 4000000 in
theorem z196 {f : Fm} {tg z : Nat} {rl : List (Int × Int)} {r h1 l : Nat} {σ : Type} (G : σ → List ABlk) (L : Nat) (stp : σ → List Int → σ) (len : ∀ s, (G s).length = L) (fm : ∀ s, (G s)[r]? = some (bLk f tg z rl)) (bx : ∀ s, (G s)[h1]? = some (.cells [.ref r 0]))
  (rnd : ∀ (s : σ) (m : List Int) (X : List ABlk) (t : List Bool), m.length = 5 → bnd3 m → ∃ J t', stepRound tabX (EW tabX) l [.agg (I m)] ⟨G s ++ X, t⟩ = some (.bool true, ⟨G (stp s m) ++ (X ++ J), t'⟩))
  (hz : rl ≠ [] → z = 2) (hl5 : rl.length ≤ 5) (hb : ∀ p ∈ rl, 0 ≤ p.1 ∧ p.1 ≤ 3 ∧ 0 ≤ p.2 ∧ p.2 ≤ 3 ∧ p.1 ≤ p.2 + 1) (hlL : l < L) (s : σ) (t : List Bool) :
  ∃ t', (EW tabX).call 196 [.yld l, .ref h1 0] ⟨G s, t⟩ = some (.tup [], ⟨G ((cntP rl []).foldl (fun s p => stp s (pad5 p)) s), t'⟩) := by
 let C : Cnt f tg z rl r h1 L l σ := {
  H := fun s m => G s ++ [.cells [.yld l], .cells (I m), .cells [.clo 197 [] [.ref h1 0, .ref L 0, .ref (L + 1) 0, .ref (L + 2) 0]]]
  L := L + 3
  stp := stp
  len := fun s m => by simp [len]
  fm := fun s m => old (fm s) _
  bx := fun s m => old (bx s) _
  yl := fun s m => by rw [← len s]; exact get_at0 _ _
  ar := fun s m => by rw [← len s]; exact get_at _ _ 1
  nx := fun s m => by have := get_at (G s) [ABlk.cells [.yld l], .cells (I m), .cells [.clo 197 [] [.ref h1 0, .ref L 0, .ref (L + 1) 0, .ref (L + 2) 0]]] 2; rw [len] at this; exact this
  set := fun s m m' => by rw [List.set_append_right _ _ (by rw [len]; omega), len, show L + 1 - L = 1 by omega]; rfl
  lt := by omega
  rnd := fun s m X t h5 hb => by
   obtain ⟨J, t', h⟩ := rnd s m ([.cells [.yld l], .cells (I m), .cells [.clo 197 [] [.ref h1 0, .ref L 0, .ref (L + 1) 0, .ref (L + 2) 0]]] ++ X) t h5 hb
   refine ⟨J, t', ?_⟩
   simp only [List.append_assoc] at h ⊢
   exact h }
 obtain ⟨m', t', _, _, _, _, h⟩ := z197 C hz hl5 hb rl.length 0 [0, 0, 0, 0, 0] s [] t (by omega) rfl (fun x hx => by simp at hx; omega) (by
  unfold zer5
  have : [0, 0, 0, 0, 0] = List.replicate 5 (0 : Int) := rfl
  rw [this, List.drop_replicate])
 refine ⟨t', ?_⟩
 have hC : ∀ s m, C.H s m = G s ++ [.cells [.yld l], .cells (I m), .cells [.clo 197 [] [.ref h1 0, .ref L 0, .ref (L + 1) 0, .ref (L + 2) 0]]] := fun _ _ => rfl
 have hS : C.stp = stp := rfl
 rw [hC, hC, hS] at h
 simp only [List.append_nil, List.drop_zero, List.take_zero, I_c, I_nil, cast_zero] at h
 have hh1 : h1 < L := by have := (List.getElem?_eq_some_iff.1 (bx s)).1; rw [len] at this; exact this
 have hlen := len s
 have hlen2 := len ((cntP rl []).foldl (fun s p => stp s (pad5 p)) s)
 generalize G s = Q at *
 generalize G ((cntP rl []).foldl (fun s p => stp s (pad5 p)) s) = Q2 at *
 clear hC hS
 clear C
 subst hlen
 rw [w_call _ fn_196 rfl]
 have hT : ∀ Y, (Q2 ++ Y).take Q.length = Q2 := fun Y => List.take_left' hlen2
 have g1 : h1 < Q.length + 1 + 1 + 1 := by omega
 have g2 : l < Q.length + 1 := by omega
 have g3 : Q.length < Q.length + 1 + 1 + 1 := by omega
 have g4 : Q.length + 1 < Q.length + 2 + 1 := by omega
 have g5 : Q.length + 2 < Q.length + 2 + 1 := by omega
 simp only [go_sem, ↓reduceIte, simprocAttr, h, g1, g2, g3, g4, g5, hT]
end
section
open Go.Proofs
theorem z89 (s : Sh) (hs : s.fits) (ho : s.Ok) (n : Nat) (f : Fm) (hn : s.forms[n]? = some f) (B : List ABlk) (t : List Bool) :
  ∃ q : LS, (EW tabX).call 89 [eSh s, .int .i64 n] ⟨B, t⟩ = some (.tup [.ref (B.length + 2) 0, .int .i64 0], ⟨LkAt f (B ++ [.cells (eShc s)]) q (roomsL f.parts), q.t⟩) ∧ OwnS 2 q.tg q.z (roomsL f.parts).length q.t := by
 have hlt : n < s.forms.length := (List.getElem?_eq_some_iff.1 hn).1
 have hmem := List.mem_of_getElem? hn
 obtain ⟨q, hq, hown⟩ := z133 f (hs.ff _ hmem) (ho.parts _ hmem) (B ++ [.cells (eShc s)]) t
 have h95 := z95 s hs ho
 have hl4 := ho.len
 have e1 : out 0 ((s.forms.length : Int) - 1) n = false := by unfold out; simp; omega
 have hw : IntKind.i64.wrap ((s.forms.length : Int) - 1) = (s.forms.length : Int) - 1 := wrap_i64 (by omega)
 have hz := hs.zf (by intro e; rw [e] at hlt; simp at hlt)
 have hni : (n : Int) < s.forms.length := by omega
 have h1 : ¬ (B.length + 1 + 1 < B.length) := by omega
 refine ⟨q, ?_, hown⟩
 simp only [eSh, eShc, eFm, tup3, hz] at h95 hq ⊢
 rw [w_call _ fn_89 rfl]
 simp only [go_sem, ↓reduceIte, simprocAttr, h95, z90_1, hw, e1, hn, hni, hz, eFm, hq, h1, cast_zero]
end
section
open Go.Proofs
def mkAt (l : List Pt) (fills : List (List ByteArray)) : Nat → Nat × List ByteArray
 | 0 => (0, [])
 | k + 1 =>
  let st := mkAt l fills k
  match l[k]? with
  | some p => if p.words.length == 0 then (st.1 + 1, st.2 ++ fills.getD st.1 [] ++ p.words) else (st.1, st.2 ++ p.words)
  | none => st
def makeL (l : List Pt) (fills : List (List ByteArray)) : List ByteArray := (mkAt l fills l.length).2
theorem mkAt_room (l : List Pt) (fills : List (List ByteArray)) : ∀ k, k ≤ l.length → (mkAt l fills k).1 = (roomsL (l.take k)).length
 | 0, _ => rfl
 | k + 1, hk => by
  have ih := mkAt_room l fills k (by omega)
  have hx := List.getElem?_eq_getElem (show k < l.length by omega)
  rw [roomsL_succ hx]
  simp only [mkAt, hx]
  cases (l[k].words.length == 0) with
  | true => simp [ih]
  | false => simpa using ih
theorem roomsL_take (l : List Pt) (k : Nat) : (roomsL (l.take k)).length ≤ (roomsL l).length := by
 unfold roomsL
 rw [List.length_map, List.length_map]
 exact ((List.take_sublist k l).filter _).length_le
theorem S_app (a b : List ByteArray) : S a ++ S b = S (a ++ b) := by simp [S]
structure FillsOk (rl : List (Int × Int)) (fills : List (List ByteArray)) : Prop where
 len : fills.length = rl.length
 many : ∀ (i : Nat) (r : Int × Int) (w : List ByteArray), rl[i]? = some r → fills[i]? = some w → out r.1 r.2 w.length = false
 ok : ∀ w ∈ fills, ∀ s ∈ w, wordOk s = true
 short : ∀ w ∈ fills, w.length ≤ 3
theorem mkAt_le {l : List Pt} {fills : List (List ByteArray)} (hl : ∀ p ∈ l, p.words.length ≤ 3) (hf : ∀ w ∈ fills, w.length ≤ 3) : ∀ k, (mkAt l fills k).2.length ≤ 6 * k
 | 0 => by simp [mkAt]
 | k + 1 => by
  have ih := mkAt_le hl hf k
  have hg : ∀ m, (fills.getD m []).length ≤ 3 := fun m => by
   rw [List.getD_eq_getElem?_getD]
   cases h : fills[m]? with
   | none => simp
   | some w => exact hf w (List.mem_of_getElem? h)
  simp only [mkAt]
  cases hx : l[k]? with
  | none => simp only; omega
  | some p =>
   have hp := hl p (List.mem_of_getElem? hx)
   simp only
   cases (p.words.length == 0) with
   | true => have := hg (mkAt l fills k).1; simp only [if_true, List.length_append]; omega
   | false => simp; omega
set_option maxHeartbeats 1000000 in
theorem z40 (s : Sh) (hs : s.fits) (ho : s.Ok) (n : Nat) (f : Fm) (hn : s.forms[n]? = some f) (xs : List AV) (z : Nat) (fills : List (List ByteArray)) (hR : RowsS xs fills) (hcl : cleanL xs = some xs) (hz : xs ≠ [] → z = 1) (hF : FillsOk (roomsL f.parts) fills) (h : Heap) :
  ∃ z', (makeL f.parts fills ≠ [] → z' = 1) ∧ callPure (EW tabX) 40 [eSh s, .int .i64 n, .lst 0 z xs] h = some (.tup [.lst 0 z' (S (makeL f.parts fills)), .int .i64 0], h) := by
 have hlt : n < s.forms.length := (List.getElem?_eq_some_iff.1 hn).1
 have hmem := List.mem_of_getElem? hn
 obtain ⟨q, hq, hown⟩ := z89 s hs ho n f hn [.cells (eShc s)] []
 have hrl := roomsL_le f.parts
 have hp5 := ho.parts _ hmem
 have hxl : xs.length = (roomsL f.parts).length := by rw [hR.1, hF.len]
 have hzs := hs.zf (by intro e; rw [e] at hlt; simp at hlt)
 simp only [eSh, eShc, hzs] at hq ⊢
 rw [callPure_eq, w_call _ fn_40 rfl]
 have e1 : (((xs.length : Nat) : Int) != ((roomsL f.parts).length : Int)) = false := by simp [hxl]
 simp only [go_sem, ↓reduceIte, simprocAttr, hq, LkAt, bLk, e1]
 rw [w_rounds_u (fun k => [(35, .int .i64 k)]) xs.length (.exit 1) [(35, .int .i64 xs.length)] ?_ ?_ ?_ rfl]
 ·simp only [go_sem, ↓reduceIte, simprocAttr, bFm]
  generalize hx : (EW tabX).code 40 none (Code.loop _) _ = y
  refine w_rounds_sk hx (fun k (u : LS) => [(6, .lst u.tg u.z (S (mkAt f.parts fills k).2)), (11, .int .i64 (mkAt f.parts fills k).1), (72, .int .i64 k)]) (fun u => ⟨.cells [.int .i64 s.width, .lst 0 2 (s.forms.map eFm)] :: .cells [.int .i64 s.width, .lst 0 2 (s.forms.map eFm)] :: bFm f :: bLk f q.tg q.z (roomsL f.parts) :: u.tail, u.t⟩)
   (fun k u => OwnS 1 u.tg u.z (mkAt f.parts fills k).2.length u.t) f.parts.length (.exit 3)
   (fun u => [(6, .lst u.tg u.z (S (mkAt f.parts fills f.parts.length).2)), (11, .int .i64 (mkAt f.parts fills f.parts.length).1), (72, .int .i64 f.parts.length)]) rfl ⟨q.tail, q.t, 1, 0⟩ ?_ ?_ (.inl ⟨rfl, rfl⟩) ?_ ?_ ?_
  ·simp only [go_sem, ↓reduceIte, simprocAttr, mkAt]
  ·simp only [bLk, bFm]
  ·intro k u hk hU
   have hx := List.getElem?_eq_getElem hk
   have hki : (k : Int) < f.parts.length := by omega
   have hzp := (hs.ff _ hmem).zp (by intro e; rw [e] at hk; simp at hk)
   have hroom := mkAt_room f.parts fills k (by omega)
   have hml := mkAt_le (fills := fills) (fun p hp => (ho.part f hmem p hp).len) hF.short k
   have hpl := (ho.part f hmem _ (List.getElem_mem hk)).len
   have hpf := (hs.ff _ hmem).fp _ (List.getElem_mem hk)
   have hrk := roomsL_take f.parts (k + 1)
   rw [roomsL_succ hx] at hrk
   simp only [mkAt, hx]
   generalize f.parts[k] = p at *
   generalize mkAt f.parts fills k = st at *
   obtain ⟨m, l⟩ := st
   simp only at hroom hml hU ⊢
   cases e : (p.words.length == 0) with
   | true =>
    have ei : ((p.words.length : Int) == 0) = true := by rw [beq_iff_eq] at e ⊢; omega
    rw [e] at hrk
    have hm : m < fills.length := by rw [hF.len]; simp at hrk; omega
    have hmx : m < xs.length := by rw [hR.1]; exact hm
    have hmi : (m : Int) < xs.length := by omega
    have hz1 := hz (by intro e; rw [e] at hmx; simp at hmx)
    obtain ⟨tg1, z1, hxm, hzz⟩ := hR.2 m fills[m] (List.getElem?_eq_getElem hm)
    have hfg : fills.getD m [] = fills[m] := by rw [List.getD_eq_getElem?_getD, List.getElem?_eq_getElem hm]; rfl
    have hsh := hF.short _ (List.getElem_mem hm)
    rw [hfg]
    generalize fills[m] = w at *
    obtain ⟨t1, ha1, hl1, ho1, _⟩ := app_gen (X := tabX) (ty := 70) (e := 9) (sz := 1) (tag := u.tg) (z := u.z) (t := u.t) (xs := S l) (by rw [S_len]; exact hU) tg1 z1 (S w) (by simp only [go_sem, ↓reduceIte, simprocAttr]) (by simp only [go_sem, ↓reduceIte, simprocAttr]) (by decide)
     (by rw [S_len]; rcases Nat.eq_zero_or_pos w.length with e | e; exact .inr e; exact .inl (hzz (List.length_pos_iff.1 e))) (by simp only [go_sem, ↓reduceIte, simprocAttr]; omega) (by simp only [go_sem, ↓reduceIte, simprocAttr]; omega) (by simp only [go_sem, ↓reduceIte, simprocAttr]) (S_var w)
    rw [S_app] at ha1
    obtain ⟨t2, ha2, hl2, ho2, _⟩ := app_gen (X := tabX) (ty := 70) (e := 9) (sz := 1) (tag := u.t.length + 2) (z := 1) (t := t1) (xs := S (l ++ w)) (.inr ⟨_, rfl, rfl, ho1⟩) 0 p.zw (S p.words) (by simp only [go_sem, ↓reduceIte, simprocAttr]) (by simp only [go_sem, ↓reduceIte, simprocAttr]) (by decide)
     (by rw [S_len]; right; simpa using e) (by simp only [go_sem, ↓reduceIte, simprocAttr, List.length_append]; omega) (by simp only [go_sem, ↓reduceIte, simprocAttr, List.length_append]; omega) (by simp only [go_sem, ↓reduceIte, simprocAttr]) (S_var _)
    rw [S_app] at ha2
    refine ⟨⟨u.tail ++ [bPt p], t2, t1.length + 2, 1⟩, ?_, .inr ⟨_, rfl, rfl, ho2⟩⟩
    simp (disch := omega) only [go_sem, ↓reduceIte, simprocAttr, hki, hx, hzp, ePt, bPt, bFm, bLk, ei, hmi, hz1, hxm, ha1, ha2, wrap_i64]
   | false =>
    have ei : ((p.words.length : Int) == 0) = false := by rw [beq_eq_false_iff_ne] at e ⊢; omega
    obtain ⟨t2, ha2, hl2, ho2, _⟩ := app_gen (X := tabX) (ty := 70) (e := 9) (sz := 1) (tag := u.tg) (z := u.z) (t := u.t) (xs := S l) (by rw [S_len]; exact hU) 0 p.zw (S p.words) (by simp only [go_sem, ↓reduceIte, simprocAttr]) (by simp only [go_sem, ↓reduceIte, simprocAttr]) (by decide)
     (by rw [S_len]; rcases Nat.eq_zero_or_pos p.words.length with e | e; exact .inr e; exact .inl (hpf.zw (List.length_pos_iff.1 e))) (by simp only [go_sem, ↓reduceIte, simprocAttr]; omega) (by simp only [go_sem, ↓reduceIte, simprocAttr]; omega) (by simp only [go_sem, ↓reduceIte, simprocAttr]) (S_var _)
    rw [S_app] at ha2
    refine ⟨⟨u.tail ++ [bPt p], t2, u.t.length + 2, 1⟩, ?_, .inr ⟨_, rfl, rfl, ho2⟩⟩
    simp (disch := omega) only [go_sem, ↓reduceIte, simprocAttr, hki, hx, hzp, ePt, bPt, bFm, bLk, ei, ha2, wrap_i64]
  ·intro u hU
   simp (disch := omega) only [go_sem, ↓reduceIte, simprocAttr, Int.lt_irrefl]
  ·intro u hy hU
   refine ⟨u.z, fun hne => ?_, ?_⟩
   ·rcases hU with ⟨_, h⟩ | ⟨_, _, h, _⟩
    ·exact absurd (List.eq_nil_of_length_eq_zero h) hne
    ·exact h
   ·rw [hy]
    simp only [go_sem, ↓reduceIte, simprocAttr, makeL]
 ·simp only [go_sem, ↓reduceIte, simprocAttr]
 ·intro k hk
  have hki : (k : Int) < xs.length := by omega
  have hz1 := hz (by intro e; rw [e] at hk; simp at hk)
  have hkf : k < fills.length := by rw [← hR.1]; exact hk
  obtain ⟨tg1, z1, hx, hzz⟩ := hR.2 k fills[k] (List.getElem?_eq_getElem hkf)
  have hkr : k < (roomsL f.parts).length := by omega
  have hrx := List.getElem?_eq_getElem hkr
  have hmany := hF.many k _ _ hrx (List.getElem?_eq_getElem hkf)
  have hwf := List.getElem_mem hkf
  have htg : tg1 = 0 := by
   obtain ⟨x, hx1, hx2⟩ := (cleanL_get hcl).2 k _ hx
   rw [hx] at hx1
   cases hx1
   simp only [go_sem, ↓reduceIte, simprocAttr] at hx2
   simpa using hx2.symm
  subst htg
  have h91 := z91 fills[k] z1 hzz (by have := hF.short _ hwf; omega) (hF.ok _ hwf)
  have h90 := z90_1 (roomsL f.parts)[k].1 (roomsL f.parts)[k].2 fills[k].length
  rw [hmany] at h90
  have hqz : q.z = 2 := by
   rcases hown with ⟨_, h⟩ | ⟨_, _, h, _⟩
   ·omega
   ·exact h
  generalize (roomsL f.parts)[k] = r at *
  generalize fills[k] = w at *
  simp (disch := omega) only [go_sem, ↓reduceIte, simprocAttr, hki, hz1, hx, bFm, hrx, eSp, hqz, h90, h91, wrap_i64]
 ·simp (disch := omega) only [go_sem, ↓reduceIte, simprocAttr, Int.lt_irrefl]
end
section
open Go.Proofs
theorem orc_97 : tabX.orc 97 = some textO := id rfl
theorem fn_97 : tabX.fn.get 97 = some Tryz.f97 := (fitsX.fn 97).trans Tryz.func97
theorem rr_97 : retRef tabX 97 = false := by unfold retRef; rw [fn_97]; exact id (by kernel_rfl)
theorem z42 (s : Sh) (hs : s.fits) (ho : s.Ok) (l : List ByteArray) (z : Nat) (hz : l ≠ [] → z = 1) (hl : l.length ≤ 15) (hw : ∀ s ∈ l, wordOk s = true) (h : Heap) :
  callPure (EW tabX) 42 [eSh s, .lst 0 z (S l)] h = some (.tup [.str ⟨(textL s.width l).toArray⟩, .int .i64 0], h) := by
 have h95 := z95 s hs ho
 have h96 := z96 l z hz hl hw
 obtain ⟨w1, w2⟩ := ho.width
 have h97 : textO [.int .i64 s.width, .lst 0 z (S l)] = some (.str ⟨(textL s.width l).toArray⟩) := textO_eq (by omega) (by omega) (fun t ht => by have := wordOk_size (hw t ht); omega) (by
  by_cases e : l = []
  ·exact .inr e
  ·exact .inl (hz e))
 simp only [eSh, eShc, tup3] at h95 ⊢
 rw [callPure_eq, w_call _ fn_42 rfl]
 simp only [go_sem, ↓reduceIte, simprocAttr, h95, h96, orc_97, rr_97, h97]
end
section
open Go.Proofs
theorem ba_eq (x : ByteArray) : (x == x) = true := by
 cases x with
 | mk d =>
  show (d == d) = true
  simp
theorem ba_ne (x : ByteArray) : (x != x) = false := by rw [bne, ba_eq]; rfl
theorem eqC_2s (ks : List Nat) (a b : ByteArray) (xs ys : List AV) : eqCells (2 :: ks) (.str a :: xs) (.str b :: ys) = (eqCells ks xs ys).map (a == b && ·) := _root_.id rfl
theorem z86 (a : List ByteArray) (t1 t2 za zb : Nat) (hza : a ≠ [] → za = 1) (hzb : a ≠ [] → zb = 1) (ha : a.length < 1000000000000000000) (h : Heap) : callPure (EW tabX) 86 [.lst t1 za (S a), .lst t2 zb (S a)] h = some (.bool true, h) := by
 rw [callPure_eq, w_call _ fn_86 rfl]
 have e1 : ((a.length : Int) != (a.length : Int)) = false := by simp
 simp only [go_sem, ↓reduceIte, simprocAttr, e1]
 rw [w_rounds_u (fun k => [(5, .int .i64 k)]) a.length (.exit 0) [(5, .int .i64 a.length)] ?_ ?_ ?_ rfl]
 ·simp only [go_sem, ↓reduceIte, simprocAttr]
 ·simp only [go_sem, ↓reduceIte, simprocAttr]
 ·intro k hk
  have hki : (k : Int) < a.length := by omega
  have hx := List.getElem?_eq_getElem hk
  have hne : a ≠ [] := by intro e; rw [e] at hk; simp at hk
  have h1 := hza hne
  have h2 := hzb hne
  subst h1 h2
  have e2 : (a[k] != a[k]) = false := ba_ne _
  simp (disch := omega) only [go_sem, ↓reduceIte, simprocAttr, hki, hx, e2, wrap_i64]
 ·simp (disch := omega) only [go_sem, ↓reduceIte, simprocAttr, Int.lt_irrefl]
theorem z87 (xs ys : List AV) (l : List (List ByteArray)) (hx : RowsS xs l) (hy : RowsS ys l) (t1 t2 za zb : Nat) (hza : l ≠ [] → za = 1) (hzb : l ≠ [] → zb = 1) (hl : l.length < 1000000000000000000) (hw : ∀ w ∈ l, w.length < 1000000000000000000) (h : Heap) : callPure (EW tabX) 87 [.lst t1 za xs, .lst t2 zb ys] h = some (.bool true, h) := by
 rw [callPure_eq, w_call _ fn_87 rfl]
 have hxl := hx.1
 have hyl := hy.1
 have e1 : ((l.length : Int) != (l.length : Int)) = false := by simp
 simp only [go_sem, ↓reduceIte, simprocAttr, hxl, hyl, e1]
 rw [w_rounds_u (fun k => [(5, .int .i64 k)]) l.length (.exit 0) [(5, .int .i64 l.length)] ?_ ?_ ?_ rfl]
 ·simp only [go_sem, ↓reduceIte, simprocAttr]
 ·simp only [go_sem, ↓reduceIte, simprocAttr]
 ·intro k hk
  have hki : (k : Int) < l.length := by omega
  have hg := List.getElem?_eq_getElem hk
  have hne : l ≠ [] := by intro e; rw [e] at hk; simp at hk
  have h1 := hza hne
  have h2 := hzb hne
  subst h1 h2
  obtain ⟨a1, b1, g1, i1⟩ := hx.2 k _ hg
  obtain ⟨a2, b2, g2, i2⟩ := hy.2 k _ hg
  have h86 := z86 l[k] a1 a2 b1 b2 i1 i2 (hw _ (List.getElem_mem hk))
  have h86' := z86 l[k] 0 0 b1 b2 i1 i2 (hw _ (List.getElem_mem hk))
  simp (disch := omega) only [go_sem, ↓reduceIte, simprocAttr, hki, hxl, hyl, g1, g2, h86, h86', wrap_i64]
 ·simp (disch := omega) only [go_sem, ↓reduceIte, simprocAttr, hxl, Int.lt_irrefl]
structure Mk where
 kind : Int
 word : ByteArray
def eMk (m : Mk) : AV := .agg [.int .i64 m.kind, .str m.word]
def eMks (l : List Mk) : List AV := l.map eMk
theorem eMks_get (l : List Mk) (k : Nat) : (eMks l)[k]? = (l[k]?).map eMk := by simp [eMks]
theorem eMks_len (l : List Mk) : (eMks l).length = l.length := by simp [eMks]
theorem eMks_clean (l : List Mk) : cleanL (eMks l) = some (eMks l) := cleanL_map (fun x => by simp only [eMk, go_sem, ↓reduceIte, simprocAttr]) l
theorem eMks_under (n : Nat) (l : List Mk) : underL n (eMks l) = true := underL_map (fun x => by simp only [eMk, go_sem, ↓reduceIte, simprocAttr]) l
theorem eMks_nil : eMks [] = [] := rfl
theorem eMks_snoc (l : List Mk) (x : Mk) : eMks l ++ [.agg [.int .i64 x.kind, .str x.word]] = eMks (l ++ [x]) := by simp [eMks, eMk]
attribute [go_sem] eMks_get eMks_len eMks_clean eMks_under eMks_nil
theorem z88 (a : List Mk) (t1 t2 za zb : Nat) (hza : a ≠ [] → za = 2) (hzb : a ≠ [] → zb = 2) (ha : a.length < 1000000000000000000) (h : Heap) : callPure (EW tabX) 88 [.lst t1 za (eMks a), .lst t2 zb (eMks a)] h = some (.bool true, h) := by
 rw [callPure_eq, w_call _ fn_88 rfl]
 have e1 : ((a.length : Int) != (a.length : Int)) = false := by simp
 simp only [go_sem, ↓reduceIte, simprocAttr, e1]
 rw [w_rounds_u (fun k => [(5, .int .i64 k)]) a.length (.exit 0) [(5, .int .i64 a.length)] ?_ ?_ ?_ rfl]
 ·simp only [go_sem, ↓reduceIte, simprocAttr]
 ·simp only [go_sem, ↓reduceIte, simprocAttr]
 ·intro k hk
  have hki : (k : Int) < a.length := by omega
  have hx := List.getElem?_eq_getElem hk
  have hne : a ≠ [] := by intro e; rw [e] at hk; simp at hk
  have h1 := hza hne
  have h2 := hzb hne
  subst h1 h2
  generalize a[k] = m at *
  have e2 : (m.kind == m.kind) = true := by simp
  have e3 := ba_eq m.word
  simp (disch := omega) only [go_sem, ↓reduceIte, simprocAttr, hki, hx, eMk, e2, e3, eqC_2s, wrap_i64]
 ·simp (disch := omega) only [go_sem, ↓reduceIte, simprocAttr, Int.lt_irrefl]
end
section
open Go.Proofs
def givenP (s : ByteArray) : Pt := ⟨splitB s 32, zT 1 (splitB s 32).length, 0, 0⟩
def roomP (lo hi : Int) : Pt := ⟨[], 0, lo, hi⟩
theorem z168 (lo hi : Int) (h : Heap) : callPure (EW tabX) 168 [.int .i64 lo, .int .i64 hi] h = some (.agg [.int .i64 lo, .int .i64 hi], h) := by
 rw [callPure_eq, w_call _ fn_168 rfl]
 simp only [go_sem, ↓reduceIte, simprocAttr]
theorem z131 (s : ByteArray) (hs : s.size ≤ 100000) (h : Heap) : callPure (EW tabX) 131 [.str s] h = some (ePt (givenP s), h) := by
 have h77 := fun h => z77 s hs h
 simp only [vS] at h77
 rw [callPure_eq, w_call _ fn_131 rfl]
 simp only [go_sem, ↓reduceIte, simprocAttr, h77, ePt, givenP]
theorem z132 (lo hi : Int) (h : Heap) : callPure (EW tabX) 132 [.int .i64 lo, .int .i64 hi] h = some (ePt (roomP lo hi), h) := by
 rw [callPure_eq, w_call _ fn_132 rfl]
 simp only [go_sem, ↓reduceIte, simprocAttr, z168, ePt, roomP]
def sTo : ByteArray := ⟨#[116, 111, 32, 116, 104, 101]⟩
def sAsk : ByteArray := ⟨#[105, 32, 97, 115, 107]⟩
def shX : Sh := ⟨12, [⟨⟨#[112, 108, 101, 97]⟩, [givenP sTo, roomP 1 2, givenP sAsk, roomP 1 3], 3⟩, ⟨⟨#[110, 111, 116, 101]⟩, [roomP 1 2, givenP sAsk, roomP 0 2], 3⟩, ⟨⟨#[108, 105, 115, 116]⟩, [roomP 1 2, roomP 1 2], 3⟩], 2⟩
theorem z76 (h : Heap) : callPure (EW tabX) 76 [] h = some (eSh shX, h) := by
 have h1 := fun h => z131 sTo (by decide) h
 have h2 := fun h => z131 sAsk (by decide) h
 simp only [ePt] at h1 h2
 have h3 := fun lo hi h => z132 lo hi h
 simp only [ePt] at h3
 simp only [sTo, sAsk] at h1 h2
 rw [callPure_eq, w_call _ fn_76 rfl]
 simp only [go_sem, ↓reduceIte, simprocAttr, h1, h2, h3, eSh, eShc, shX, eFm, ePt, sTo, sAsk, zipFrom_nil, List.map_cons]
def mkX : List Mk := [⟨0, ⟨#[]⟩⟩, ⟨2, ⟨#[]⟩⟩, ⟨0, ⟨#[]⟩⟩, ⟨0, ⟨#[]⟩⟩, ⟨0, ⟨#[]⟩⟩, ⟨3, ⟨#[102, 111, 114]⟩⟩, ⟨0, ⟨#[]⟩⟩]
theorem z83 (h : Heap) : callPure (EW tabX) 83 [] h = some (.lst 0 2 (eMks mkX), h) := by
 rw [callPure_eq, w_call _ fn_83 rfl]
 simp only [go_sem, ↓reduceIte, simprocAttr, eMks, mkX, eMk, List.map_cons, zipFrom_nil]
end
section
open Go.Proofs
def rdC (a b : List ByteArray) (ta tb za zb m : Nat) : List AV := [.lst ta za (S a), .lst tb zb (S b), .mapr m]
def fitW (x y : ByteArray) : Bool := x == ⟨#[]⟩ || x == y
theorem z178 (a b : List ByteArray) (ta tb za zb m : Nat) (hza : a ≠ [] → za = 1) (hzb : b ≠ [] → zb = 1) (r : Nat) (B : List ABlk) (t : List Bool) (hr : B[r]? = some (.cells (rdC a b ta tb za zb m))) (p q : Nat) (x y : ByteArray) (hp : a[p]? = some y) (hq : b[q]? = some x) :
  (EW tabX).call 178 [.ref r 0, .agg [.int .i64 p, .int .i64 q]] ⟨B, t⟩ = some (.bool (fitW x y), ⟨B, t⟩) := by
 simp only [rdC] at hr
 have hr2 := old hr
 have hpl : (p : Int) < a.length := by have := (List.getElem?_eq_some_iff.1 hp).1; omega
 have hql : (q : Int) < b.length := by have := (List.getElem?_eq_some_iff.1 hq).1; omega
 have h1 := hza (by intro e; rw [e] at hp; simp at hp)
 have h2 := hzb (by intro e; rw [e] at hq; simp at hq)
 subst h1 h2
 rw [w_call _ fn_178 rfl]
 unfold fitW
 cases e : (x == (⟨#[]⟩ : ByteArray)) with
 | true => simp only [go_sem, ↓reduceIte, simprocAttr, hr, hr2, hp, hq, hpl, hql, e]
 | false => simp only [go_sem, ↓reduceIte, simprocAttr, hr, hr2, hp, hq, hpl, hql, e]
def stepM (a b : List ByteArray) (kind p q : Nat) : (Nat × Nat) × Int :=
 match kind with
 | 2 => if p + 1 ≤ a.length ∧ q ≤ b.length then ((p + 1, q), 1) else ((p, q), -1)
 | 3 => if p ≤ a.length ∧ q + 1 ≤ b.length then ((p, q + 1), 1) else ((p, q), -1)
 | k => match a[p]?, b[q]? with
  | some y, some x => if fitW x y = (k == 0) then ((p + 1, q + 1), (k : Int)) else ((p, q), -1)
  | _, _ => ((p, q), -1)
def ePl (x : Nat × Nat) : AV := .agg [.int .i64 x.1, .int .i64 x.2]
theorem z141_2 (a b : List ByteArray) (ta tb za zb m : Nat) (hla : a.length ≤ 1000) (hlb : b.length ≤ 1000) (r : Nat) (B : List ABlk) (t : List Bool) (hr : B[r]? = some (.cells (rdC a b ta tb za zb m))) (p q : Nat) (hp : p ≤ a.length) (hq : q ≤ b.length) :
  (EW tabX).call 141 [.ref r 0, .int .i64 2, ePl (p, q)] ⟨B, t⟩ = some (.tup [ePl (stepM a b 2 p q).1, .int .i64 (stepM a b 2 p q).2], ⟨B, t⟩) := by
 simp only [rdC] at hr
 have o := fun x => old hr x
 have hw : IntKind.i64.wrap ((p : Int) + 1) = (p : Int) + 1 := wrap_i64 (by omega)
 rw [w_call _ fn_141 rfl]
 unfold stepM
 have hqi : ¬ ((b.length : Int) < q) := by omega
 by_cases h : p + 1 ≤ a.length
 ·have hpi : ¬ ((a.length : Int) < (p : Int) + 1) := by omega
  simp only [go_sem, ↓reduceIte, simprocAttr, ePl, hr, o, hw, hpi, hqi, h, hq]
 ·have hpi : (a.length : Int) < (p : Int) + 1 := by omega
  simp only [go_sem, ↓reduceIte, simprocAttr, ePl, hr, o, hw, hpi, hqi, h, hq]
theorem z141_3 (a b : List ByteArray) (ta tb za zb m : Nat) (hla : a.length ≤ 1000) (hlb : b.length ≤ 1000) (r : Nat) (B : List ABlk) (t : List Bool) (hr : B[r]? = some (.cells (rdC a b ta tb za zb m))) (p q : Nat) (hp : p ≤ a.length) (hq : q ≤ b.length) :
  (EW tabX).call 141 [.ref r 0, .int .i64 3, ePl (p, q)] ⟨B, t⟩ = some (.tup [ePl (stepM a b 3 p q).1, .int .i64 (stepM a b 3 p q).2], ⟨B, t⟩) := by
 simp only [rdC] at hr
 have o := fun x => old hr x
 have hw : IntKind.i64.wrap ((q : Int) + 1) = (q : Int) + 1 := wrap_i64 (by omega)
 rw [w_call _ fn_141 rfl]
 unfold stepM
 have hpi : ¬ ((a.length : Int) < p) := by omega
 by_cases h : q + 1 ≤ b.length
 ·have hqi : ¬ ((b.length : Int) < (q : Int) + 1) := by omega
  simp only [go_sem, ↓reduceIte, simprocAttr, ePl, hr, o, hw, hpi, hqi, h, hp]
 ·have hqi : (b.length : Int) < (q : Int) + 1 := by omega
  simp only [go_sem, ↓reduceIte, simprocAttr, ePl, hr, o, hw, hpi, hqi, h, hp]
theorem z141_k (k : Nat) (hk : k ≤ 1) (a b : List ByteArray) (ta tb za zb m : Nat) (hza : a ≠ [] → za = 1) (hzb : b ≠ [] → zb = 1) (hla : a.length ≤ 1000) (hlb : b.length ≤ 1000) (r : Nat) (B : List ABlk) (t : List Bool) (hr : B[r]? = some (.cells (rdC a b ta tb za zb m))) (p q : Nat) (hp : p ≤ a.length) (hq : q ≤ b.length) :
  (EW tabX).call 141 [.ref r 0, .int .i64 k, ePl (p, q)] ⟨B, t⟩ = some (.tup [ePl (stepM a b k p q).1, .int .i64 (stepM a b k p q).2], ⟨B, t⟩) := by
 have h178 := fun X T x y (hx : a[p]? = some y) (hy : b[q]? = some x) => z178 a b ta tb za zb m hza hzb r (B ++ X) T (old hr X) p q x y hx hy
 simp only [rdC] at hr
 have o := fun x => old hr x
 have hw : IntKind.i64.wrap ((p : Int) + 1) = (p : Int) + 1 := wrap_i64 (by omega)
 have hw2 : IntKind.i64.wrap ((q : Int) + 1) = (q : Int) + 1 := wrap_i64 (by omega)
 have hk2 : ((k : Int) != 2) = true := by rw [bne_iff_ne]; omega
 have hk3 : ((k : Int) != 3) = true := by rw [bne_iff_ne]; omega
 have hs : stepM a b k p q = match a[p]?, b[q]? with
  | some y, some x => if fitW x y = (k == 0) then ((p + 1, q + 1), (k : Int)) else ((p, q), -1)
  | _, _ => ((p, q), -1) := by
  unfold stepM
  match k, hk with
  | 0, _ => rfl
  | 1, _ => rfl
 rw [hs, w_call _ fn_141 rfl]
 have hk01 : ((k : Int) == 0 || (k : Int) == 1) = true := by
  rw [Bool.or_eq_true, beq_iff_eq, beq_iff_eq]; omega
 by_cases h1 : p + 1 ≤ a.length
 ·have hpi : ¬ ((a.length : Int) < (p : Int) + 1) := by omega
  by_cases h2 : q + 1 ≤ b.length
  ·have hqi : ¬ ((b.length : Int) < (q : Int) + 1) := by omega
   have hx := List.getElem?_eq_getElem (show p < a.length by omega)
   have hy := List.getElem?_eq_getElem (show q < b.length by omega)
   have h178 := fun X T => h178 X T _ _ hx hy
   rw [hx, hy]
   generalize a[p] = y at *
   generalize b[q] = x at *
   have hft : (false != true) = true := rfl
   have htf : (true != false) = true := rfl
   have cast_one : ((1 : Nat) : Int) = 1 := rfl
   match k, hk with
   | 0, _ =>
    cases e : fitW x y with
    | true =>
     rw [e] at h178
     simp only [go_sem, ↓reduceIte, simprocAttr, ePl, hr, o, hw, hw2, hpi, hqi, h178, cast_zero, cast_one, e, hft, htf, Nat.reduceBEq]
    | false =>
     rw [e] at h178
     simp only [go_sem, ↓reduceIte, simprocAttr, ePl, hr, o, hw, hw2, hpi, hqi, h178, cast_zero, cast_one, e, hft, htf, Nat.reduceBEq]
   | 1, _ =>
    cases e : fitW x y with
    | true =>
     rw [e] at h178
     simp only [go_sem, ↓reduceIte, simprocAttr, ePl, hr, o, hw, hw2, hpi, hqi, h178, cast_zero, cast_one, e, hft, htf, Nat.reduceBEq]
    | false =>
     rw [e] at h178
     simp only [go_sem, ↓reduceIte, simprocAttr, ePl, hr, o, hw, hw2, hpi, hqi, h178, cast_zero, cast_one, e, hft, htf, Nat.reduceBEq]
  ·have hqi : (b.length : Int) < (q : Int) + 1 := by omega
   have hy : b[q]? = none := List.getElem?_eq_none (by omega)
   rw [hy]
   simp only [go_sem, ↓reduceIte, simprocAttr, ePl, hr, o, hw, hw2, hpi, hqi, hk2, hk3]
   cases a[p]? <;> rfl
 ·have hpi : (a.length : Int) < (p : Int) + 1 := by omega
  have hx : a[p]? = none := List.getElem?_eq_none (by omega)
  rw [hx]
  simp only [go_sem, ↓reduceIte, simprocAttr, ePl, hr, o, hw, hw2, hpi, hk2, hk3]
end
section
open Go.Proofs
def actsC : List AV := [.bool true, .bool false, .clo 174 [] [], .bool true, .bool true, .clo 175 [] [], .bool true, .bool false, .clo 176 [] [], .bool false, .bool true, .clo 177 [] []]
theorem z140 (B : List ABlk) (t : List Bool) : (EW tabX).call 140 [] ⟨B, t⟩ = some (.agg actsC, ⟨B, t⟩) := by
 rw [w_call _ fn_140 rfl]
 simp only [go_sem, ↓reduceIte, simprocAttr, zipFrom_nil, actsC]
theorem z140p (h : Heap) : callPure (EW tabX) 140 [] h = some (.agg actsC, h) := by
 rw [callPure_eq, z140 [] []]
 simp only [go_sem, ↓reduceIte, simprocAttr, actsC]
end
section
open Go.Proofs
def leastM (l : List Int) (v : Nat → Int) : Nat → Int × Int
 | 0 => (0, -1)
 | k + 1 =>
  let st := leastM l v k
  if 0 ≤ v k ∧ (st.2 < 0 ∨ v k < st.2) then (l.getD k 0, v k) else st
theorem z144 (u f : Nat) (fst cap : List AV) (l : List Int) (hl : l.length ≤ 1000) (hne : l ≠ []) (v : Nat → Int) (H : Nat → List ABlk) (T : Nat → List Bool) (hlen : ∀ k, (H k).length = (H 0).length)
  (hp : ∀ k x, l[k]? = some x → callAV tabX (EW tabX) false (.clo f fst cap) [.int .i64 x] ⟨H k, T k⟩ = some (.int .i64 (v k), ⟨H (k + 1), T (k + 1)⟩)) (hc : (AV.clo f fst cap).clean = none) :
  (EW tabX).call 144 [.lst u 1 (I l), .clo f fst cap] ⟨H 0, T 0⟩ = some (.tup [.int .i64 (leastM l v l.length).1, .int .i64 (leastM l v l.length).2], ⟨H l.length, T l.length⟩) := by
 rw [w_call _ fn_144 rfl]
 simp only [callAV_clo] at hp
 simp only [go_sem, ↓reduceIte, simprocAttr]
 rw [w_rounds_h (fun k => [(4, .int .i64 (leastM l v k).1), (5, .int .i64 (leastM l v k).2), (11, .int .i64 k)]) (fun k => ⟨H k, T k⟩) l.length (.exit 0) [(4, .int .i64 (leastM l v l.length).1), (5, .int .i64 (leastM l v l.length).2), (11, .int .i64 l.length)] ⟨H l.length, T l.length⟩ ?_ ?_ ?_ ?_ rfl]
 ·have e := hlen l.length
  simp only [go_sem, ↓reduceIte, simprocAttr, ← e, List.take_length]
 ·simp only [go_sem, ↓reduceIte, simprocAttr, leastM]
 ·rfl
 ·intro k hk
  have hki : (k : Int) < l.length := by omega
  have hx := List.getElem?_eq_getElem hk
  have hpk := hp k _ hx
  have hg : l.getD k 0 = l[k] := by rw [List.getD_eq_getElem?_getD, hx]; rfl
  simp only [leastM, hg]
  generalize leastM l v k = st at *
  generalize v k = n at *
  obtain ⟨b, m⟩ := st
  by_cases h0 : 0 ≤ n
  ·by_cases h1 : m < 0
   ·simp (disch := omega) only [go_sem, ↓reduceIte, simprocAttr, hki, hx, ↓hpk, h0, h1, wrap_i64]
   ·by_cases h2 : n < m
    ·simp (disch := omega) only [go_sem, ↓reduceIte, simprocAttr, hki, hx, ↓hpk, h0, h1, h2, wrap_i64]
    ·simp (disch := omega) only [go_sem, ↓reduceIte, simprocAttr, hki, hx, ↓hpk, h0, h1, h2, wrap_i64]
  ·simp (disch := omega) only [go_sem, ↓reduceIte, simprocAttr, hki, hx, ↓hpk, h0, wrap_i64, false_and]
 ·simp (disch := omega) only [go_sem, ↓reduceIte, simprocAttr, Int.lt_irrefl]
theorem z144b (b f : Nat) (fst cap : List AV) (l : List Int) (hl : l.length ≤ 1000) (hne : l ≠ []) (v : Nat → Int) (H : Nat → List ABlk) (T : Nat → List Bool) (hlen : ∀ k, (H k).length = (H 0).length)
  (hp : ∀ k x, l[k]? = some x → callAV tabX (EW tabX) false (.clo f fst cap) [.int .i64 x] ⟨H k, T k⟩ = some (.int .i64 (v k), ⟨H (k + 1), T (k + 1)⟩)) (hc : (AV.clo f fst cap).clean = none) (hb : ∀ k, (H k)[b]? = some (.cells (I l))) :
  (EW tabX).call 144 [.bsl b 0 l.length 1, .clo f fst cap] ⟨H 0, T 0⟩ = some (.tup [.int .i64 (leastM l v l.length).1, .int .i64 (leastM l v l.length).2], ⟨H l.length, T l.length⟩) := by
 rw [w_call _ fn_144 rfl]
 simp only [callAV_clo] at hp
 simp only [go_sem, ↓reduceIte, simprocAttr]
 rw [w_rounds_h (fun k => [(4, .int .i64 (leastM l v k).1), (5, .int .i64 (leastM l v k).2), (11, .int .i64 k)]) (fun k => ⟨H k, T k⟩) l.length (.exit 0) [(4, .int .i64 (leastM l v l.length).1), (5, .int .i64 (leastM l v l.length).2), (11, .int .i64 l.length)] ⟨H l.length, T l.length⟩ ?_ ?_ ?_ ?_ rfl]
 ·have e := hlen l.length
  simp only [go_sem, ↓reduceIte, simprocAttr, ← e, List.take_length]
 ·simp only [go_sem, ↓reduceIte, simprocAttr, leastM]
 ·rfl
 ·intro k hk
  have hki : (k : Int) < l.length := by omega
  have hbk := hb k
  have hk1 : k + 1 ≤ l.length := hk
  have hx := List.getElem?_eq_getElem hk
  have hpk := hp k _ hx
  have hdk : (l.drop k)[0]? = some l[k] := by rw [List.getElem?_drop, Nat.add_zero]; exact hx
  have hg : l.getD k 0 = l[k] := by rw [List.getD_eq_getElem?_getD, hx]; rfl
  simp only [leastM, hg]
  generalize leastM l v k = st at *
  generalize v k = n at *
  obtain ⟨b, m⟩ := st
  by_cases h0 : 0 ≤ n
  ·by_cases h1 : m < 0
   ·simp (disch := omega) only [go_sem, ↓reduceIte, simprocAttr, hki, hbk, hdk, hk, Nat.mul_one, ↓hpk, h0, h1, wrap_i64]
   ·by_cases h2 : n < m
    ·simp (disch := omega) only [go_sem, ↓reduceIte, simprocAttr, hki, hbk, hdk, hk, Nat.mul_one, ↓hpk, h0, h1, h2, wrap_i64]
    ·simp (disch := omega) only [go_sem, ↓reduceIte, simprocAttr, hki, hbk, hdk, hk, Nat.mul_one, ↓hpk, h0, h1, h2, wrap_i64]
  ·simp (disch := omega) only [go_sem, ↓reduceIte, simprocAttr, hki, hbk, hdk, hk, Nat.mul_one, ↓hpk, h0, wrap_i64, false_and]
 ·simp (disch := omega) only [go_sem, ↓reduceIte, simprocAttr, Int.lt_irrefl]
theorem z173 (k : Int) (r i1 i2 : Nat) (p q : Nat) (B B' : List ABlk) (t t' : List Bool) (h1 : B[i1]? = some (.cells [.ref r 0])) (h2 : B[i2]? = some (.cells [.int .i64 p, .int .i64 q])) (nx : Nat × Nat) (c n : Int) (hcn : -1 ≤ c ∧ c ≤ 1000 ∧ 0 ≤ n ∧ n ≤ 1000) (hl : B'.length = B.length)
  (hs : ∀ X, (EW tabX).call 141 [.ref r 0, .int .i64 k, .agg [.int .i64 p, .int .i64 q]] ⟨B ++ X, t⟩ = some (.tup [ePl nx, .int .i64 c], ⟨B ++ X, t⟩))
  (hc : 0 ≤ c → ∀ X, (EW tabX).call 139 [.ref r 0, ePl nx] ⟨B ++ X, t⟩ = some (.int .i64 n, ⟨B' ++ X, t'⟩)) :
  (EW tabX).call 173 [.int .i64 k, .ref i1 0, .ref i2 0] ⟨B, t⟩ = some (.int .i64 (if c < 0 then -1 else c + n), ⟨if c < 0 then B else B', if c < 0 then t else t'⟩) := by
 have hs0 := hs []
 rw [List.append_nil] at hs0
 simp only [ePl] at hs0 hc
 have o1 := fun X => old h1 X
 have o2 := fun X => old h2 X
 rw [w_call _ fn_173 rfl]
 by_cases h : c < 0
 ·simp only [go_sem, ↓reduceIte, simprocAttr, h1, h2, o1, o2, hs0, h]
 ·have hc := hc (by omega)
  have hw : IntKind.i64.wrap (c + n) = c + n := wrap_i64 (by omega)
  simp only [go_sem, ↓reduceIte, simprocAttr, h1, h2, o1, o2, hs0, h, hc, hw]
  rw [← hl, List.take_left]
end
section
open Go.Proofs
def keyP (x : Nat × Nat) : List AV := [.int .i64 x.1, .int .i64 x.2]
def esP (ps : List ((Nat × Nat) × Int)) : List (AV × AV) := ps.map fun x => (ePl x.1, .int .i64 x.2)
theorem eqP (p q : Nat × Nat) : eqCells [0, 0] (keyP p) (keyP q) = some (decide (p = q)) := by
 obtain ⟨a, b⟩ := p
 obtain ⟨x, y⟩ := q
 simp only [eqCells, keyP, if_true, Option.map_some]
 congr 1
 rw [Bool.eq_iff_iff]
 simp
 omega
theorem look_esP (q : Nat × Nat) : ∀ ps : List ((Nat × Nat) × Int), lookAV [0, 0] (esP ps) (keyP q) = some ((ps.find? fun x => decide (q = x.1)).map fun x => .int .i64 x.2)
 | [] => rfl
 | x :: ps => by
  have e : lookAV [0, 0] (esP (x :: ps)) (keyP q) = match eqCells [0, 0] (keyP q) (keyP x.1) with | some true => some (some (.int .i64 x.2)) | some false => lookAV [0, 0] (esP ps) (keyP q) | none => none := rfl
  rw [e, eqP, look_esP q ps, List.find?_cons]
  cases decide (q = x.1) <;> rfl
end
section
open Go.Proofs
def leftM (a b : List ByteArray) : Nat → Nat × Nat → Int × Int
 | 0, _ => (0, 4)
 | n + 1, x => if x = (a.length, b.length) then (0, 4) else
  let r := leastM [0, 1, 2, 3] (fun k => let s := stepM a b k x.1 x.2; if s.2 < 0 then -1 else s.2 + (leftM a b n s.1).1) 4
  (r.2, r.1)
def costM (a b : List ByteArray) (n : Nat) (x : Nat × Nat) (k : Nat) : Int := let s := stepM a b k x.1 x.2; if s.2 < 0 then -1 else s.2 + (leftM a b n s.1).1
theorem leftM_succ (a b : List ByteArray) (n : Nat) (x : Nat × Nat) : leftM a b (n + 1) x = if x = (a.length, b.length) then (0, 4) else ((leastM [0, 1, 2, 3] (costM a b n x) 4).2, (leastM [0, 1, 2, 3] (costM a b n x) 4).1) := rfl
def farP (a b : List ByteArray) (x : Nat × Nat) : Nat := (a.length - x.1) + (b.length - x.2)
def inP (a b : List ByteArray) (x : Nat × Nat) : Prop := x.1 ≤ a.length ∧ x.2 ≤ b.length
theorem step_in (a b : List ByteArray) (k p q : Nat) (hk : k < 4) (h : inP a b (p, q)) (hc : ¬ (stepM a b k p q).2 < 0) : inP a b (stepM a b k p q).1 ∧ farP a b (stepM a b k p q).1 < farP a b (p, q) ∧ (stepM a b k p q).2 ≤ 1 := by
 obtain ⟨h1, h2⟩ := h
 simp only at h1 h2
 unfold inP farP
 have key : ∀ j : Nat, j ≤ 1 → stepM a b k p q = (match a[p]?, b[q]? with | some y, some x => if fitW x y = (j == 0) then ((p + 1, q + 1), (j : Int)) else ((p, q), -1) | _, _ => ((p, q), -1)) → ((stepM a b k p q).1.1 ≤ a.length ∧ (stepM a b k p q).1.2 ≤ b.length) ∧ a.length - (stepM a b k p q).1.1 + (b.length - (stepM a b k p q).1.2) < a.length - p + (b.length - q) ∧ (stepM a b k p q).2 ≤ 1 := by
  intro j hj e
  rw [e] at hc ⊢
  by_cases hp : p < a.length
  ·by_cases hq : q < b.length
   ·rw [List.getElem?_eq_getElem hp, List.getElem?_eq_getElem hq] at hc ⊢
    simp only at hc ⊢
    split
    ·rename_i hf
     simp only
     omega
    ·rename_i hf
     rw [if_neg hf] at hc
     exact absurd (show (-1 : Int) < 0 by decide) hc
   ·rw [List.getElem?_eq_none (show b.length ≤ q by omega)] at hc ⊢
    cases h' : a[p]? <;> rw [h'] at hc <;> exact absurd (show (-1 : Int) < 0 by decide) hc
  ·rw [List.getElem?_eq_none (show a.length ≤ p by omega)] at hc ⊢
   exact absurd (show (-1 : Int) < 0 by decide) hc
 match k, hk with
 | 0, _ => exact key 0 (by omega) rfl
 | 1, _ => exact key 1 (by omega) rfl
 | 2, _ =>
  unfold stepM at hc ⊢
  simp only at hc ⊢
  split
  ·simp only; omega
  ·rename_i hf
   rw [if_neg hf] at hc
   exact absurd (show (-1 : Int) < 0 by decide) hc
 | 3, _ =>
  unfold stepM at hc ⊢
  simp only at hc ⊢
  split
  ·simp only; omega
  ·rename_i hf
   rw [if_neg hf] at hc
   exact absurd (show (-1 : Int) < 0 by decide) hc
theorem leastM_congr {l : List Int} {v w : Nat → Int} : ∀ {k : Nat}, (∀ j, j < k → v j = w j) → leastM l v k = leastM l w k
 | 0, _ => rfl
 | k + 1, h => by
  unfold leastM
  rw [leastM_congr fun j hj => h j (by omega), h k (by omega)]
theorem leftM_far (a b : List ByteArray) : ∀ (n m : Nat) (x : Nat × Nat), inP a b x → farP a b x < n → farP a b x < m → leftM a b n x = leftM a b m x
 | 0, _, _, _, h, _ => by omega
 | _, 0, _, _, _, h => by omega
 | n + 1, m + 1, (p, q), hi, hn, hm => by
  rw [leftM_succ, leftM_succ, leastM_congr (w := costM a b m (p, q)) fun k hk => ?_]
  unfold costM
  simp only
  split
  ·rfl
  ·rename_i hc
   obtain ⟨s1, s2, _⟩ := step_in a b k p q hk hi hc
   rw [leftM_far a b n m _ s1 (by omega) (by omega)]
def awayP (a b : List ByteArray) (x : Nat × Nat) : Int × Int := leftM a b (farP a b x + 1) x
def costP (a b : List ByteArray) (x : Nat × Nat) (k : Nat) : Int := let s := stepM a b k x.1 x.2; if s.2 < 0 then -1 else s.2 + (awayP a b s.1).1
theorem awayP_eq (a b : List ByteArray) (x : Nat × Nat) (hi : inP a b x) (hx : x ≠ (a.length, b.length)) : awayP a b x = ((leastM [0, 1, 2, 3] (costP a b x) 4).2, (leastM [0, 1, 2, 3] (costP a b x) 4).1) := by
 unfold awayP
 rw [leftM_succ, if_neg hx, leastM_congr (w := costP a b x) fun k hk => ?_]
 obtain ⟨p, q⟩ := x
 unfold costM costP awayP
 simp only
 split
 ·rfl
 ·rename_i hc
  obtain ⟨s1, s2, _⟩ := step_in a b k p q hk hi hc
  rw [leftM_far a b _ _ _ s1 (by omega) (Nat.lt_succ_self _)]
theorem leastM_bd (l : List Int) (v : Nat → Int) (m : Int) (hv : ∀ k, v k ≤ m) (hm : -1 ≤ m) : ∀ k, -1 ≤ (leastM l v k).2 ∧ (leastM l v k).2 ≤ m
 | 0 => ⟨show (-1 : Int) ≤ -1 by decide, hm⟩
 | k + 1 => by
  have ih := leastM_bd l v m hv hm k
  have := hv k
  unfold leastM
  simp only
  split
  ·simp only; omega
  ·exact ih
theorem leftM_bd (a b : List ByteArray) : ∀ (n : Nat) (x : Nat × Nat), inP a b x → -1 ≤ (leftM a b n x).1 ∧ (leftM a b n x).1 ≤ n
 | 0, _, _ => ⟨show (-1 : Int) ≤ 0 by decide, show (0 : Int) ≤ ((0 : Nat) : Int) by decide⟩
 | n + 1, (p, q), hi => by
  rw [leftM_succ]
  split
  ·exact ⟨show (-1 : Int) ≤ 0 by decide, show (0 : Int) ≤ ((n + 1 : Nat) : Int) by omega⟩
  ·have := leastM_bd [0, 1, 2, 3] (fun k => if k < 4 then costM a b n (p, q) k else 0) ((n : Int) + 1) (fun k => by
    split
    ·rename_i hk
     unfold costM
     simp only
     split
     ·omega
     ·rename_i hc
      obtain ⟨s1, s2, s3⟩ := step_in a b k p q hk hi hc
      have := leftM_bd a b n _ s1
      omega
    ·omega) (by omega) 4
   rw [leastM_congr (w := costM a b n (p, q)) fun k hk => by simp only [hk, if_true]] at this
   simp only
   omega
theorem leastM_nn (l : List Int) (v : Nat → Int) (j : Nat) (hv : 0 ≤ v j) : ∀ k, j < k → 0 ≤ (leastM l v k).2
 | 0, h => by omega
 | k + 1, h => by
  unfold leastM
  simp only
  split
  ·rename_i hc; exact hc.1
  ·rename_i hc
   by_cases e : j = k
   ·subst e
    have := not_and.1 hc hv
    omega
   ·exact leastM_nn l v j hv k (by omega)
theorem leftM_nn (a b : List ByteArray) : ∀ (n : Nat) (x : Nat × Nat), inP a b x → 0 ≤ (leftM a b n x).1
 | 0, _, _ => show (0 : Int) ≤ 0 by decide
 | n + 1, (p, q), hi => by
  rw [leftM_succ]
  split
  ·exact show (0 : Int) ≤ 0 by decide
  ·rename_i hx
   obtain ⟨h1, h2⟩ := hi
   simp only at h1 h2
   by_cases hp : p < a.length
   ·refine leastM_nn _ _ 2 ?_ 4 (by decide)
    have e : stepM a b 2 p q = ((p + 1, q), 1) := by unfold stepM; simp only; rw [if_pos ⟨by omega, h2⟩]
    unfold costM
    simp only [e]
    have := leftM_nn a b n (p + 1, q) ⟨by simp only; omega, h2⟩
    rw [if_neg (by decide)]
    omega
   ·refine leastM_nn _ _ 3 ?_ 4 (by decide)
    have hq : q < b.length := by
     by_cases hq : q < b.length
     ·exact hq
     ·exact absurd (Prod.ext (by simp only; omega) (by simp only; omega)) hx
    have e : stepM a b 3 p q = ((p, q + 1), 1) := by unfold stepM; simp only; rw [if_pos ⟨h1, by omega⟩]
    unfold costM
    simp only [e]
    have := leftM_nn a b n (p, q + 1) ⟨h1, by simp only; omega⟩
    rw [if_neg (by decide)]
    omega
theorem seq_exists {σ : Type} (R : σ → Prop) (P : Nat → σ → σ → Prop) (h : ∀ k s, R s → ∃ s', R s' ∧ P k s s') (s0 : σ) (h0 : R s0) : ∃ E : Nat → σ, E 0 = s0 ∧ ∀ k, R (E k) ∧ P k (E k) (E (k + 1)) := by
 have f : ∀ k : Nat, ∀ s : {s // R s}, ∃ s' : {s // R s}, P k s.1 s'.1 := fun k s => by
  obtain ⟨s', h1, h2⟩ := h k s.1 s.2
  exact ⟨⟨s', h1⟩, h2⟩
 refine ⟨fun k => (Nat.rec (motive := fun _ => {s // R s}) ⟨s0, h0⟩ (fun k s => (f k s).choose) k).1, rfl, fun k => ⟨Subtype.property _, ?_⟩⟩
 exact (f k _).choose_spec
end
section
open Go.Proofs
def rightE (a b : List ByteArray) (es : List ((Nat × Nat) × Int)) : Prop := ∀ e ∈ es, e.2 = (awayP a b e.1).1
def C139 (a b : List ByteArray) (ta tb za zb m r : Nat) (x : Nat × Nat) : Prop :=
 ∀ (es : List ((Nat × Nat) × Int)) (B : List ABlk) (t : List Bool), B[r]? = some (.cells (rdC a b ta tb za zb m)) → B[m]? = some (.map (esP es)) → r ≠ m → rightE a b es →
  ∃ es' F, rightE a b es' ∧ ∀ X, (EW tabX).call 139 [.ref r 0, ePl x] ⟨B ++ X, t⟩ = some (.int .i64 (awayP a b x).1, ⟨B.set m (.map (esP es')) ++ X, t ++ F⟩)
def C138 (a b : List ByteArray) (ta tb za zb m r : Nat) (x : Nat × Nat) : Prop :=
 ∀ (es : List ((Nat × Nat) × Int)) (B : List ABlk) (t : List Bool), B[r]? = some (.cells (rdC a b ta tb za zb m)) → B[m]? = some (.map (esP es)) → r ≠ m → rightE a b es →
  ∃ es' F, rightE a b es' ∧ ∀ X, (EW tabX).call 138 [.ref r 0, ePl x] ⟨B ++ X, t⟩ = some (.tup [.int .i64 (awayP a b x).1, .int .i64 (awayP a b x).2], ⟨B.set m (.map (esP es')) ++ X, t ++ F⟩)
theorem set_idem {α : Type} {l : List α} {i : Nat} {x : α} (h : l[i]? = some x) : l.set i x = l := by
 apply List.ext_getElem?
 intro j
 rw [List.getElem?_set]
 split
 ·rename_i e; subst e; rw [h]; rw [if_pos (List.getElem?_eq_some_iff.1 h).1]
 ·rfl
theorem z141a {a b : List ByteArray} {ta tb za zb m : Nat} (hza : a ≠ [] → za = 1) (hzb : b ≠ [] → zb = 1) (hla : a.length ≤ 400) (hlb : b.length ≤ 400) {r : Nat} {B : List ABlk} {t : List Bool} (hr : B[r]? = some (.cells (rdC a b ta tb za zb m))) {p q : Nat} (hi : inP a b (p, q)) (k : Nat) (hk : k < 4) :
  (EW tabX).call 141 [.ref r 0, .int .i64 k, ePl (p, q)] ⟨B, t⟩ = some (.tup [ePl (stepM a b k p q).1, .int .i64 (stepM a b k p q).2], ⟨B, t⟩) := by
 match k, hk with
 | 0, _ => exact z141_k 0 (by omega) a b ta tb za zb m hza hzb (by omega) (by omega) r B t hr p q hi.1 hi.2
 | 1, _ => exact z141_k 1 (by omega) a b ta tb za zb m hza hzb (by omega) (by omega) r B t hr p q hi.1 hi.2
 | 2, _ => exact z141_2 a b ta tb za zb m (by omega) (by omega) r B t hr p q hi.1 hi.2
 | 3, _ => exact z141_3 a b ta tb za zb m (by omega) (by omega) r B t hr p q hi.1 hi.2
theorem stepM_ge (a b : List ByteArray) (k p q : Nat) (hk : k < 4) : -1 ≤ (stepM a b k p q).2 := by
 match k, hk with
 | 0, _ =>
  unfold stepM
  simp only
  split
  ·split
   ·exact show (-1 : Int) ≤ ((0 : Nat) : Int) by decide
   ·exact show (-1 : Int) ≤ -1 by decide
  ·exact show (-1 : Int) ≤ -1 by decide
 | 1, _ =>
  unfold stepM
  simp only
  split
  ·split
   ·exact show (-1 : Int) ≤ ((1 : Nat) : Int) by decide
   ·exact show (-1 : Int) ≤ -1 by decide
  ·exact show (-1 : Int) ≤ -1 by decide
 | 2, _ =>
  unfold stepM
  simp only
  split
  ·exact show (-1 : Int) ≤ 1 by decide
  ·exact show (-1 : Int) ≤ -1 by decide
 | 3, _ =>
  unfold stepM
  simp only
  split
  ·exact show (-1 : Int) ≤ 1 by decide
  ·exact show (-1 : Int) ≤ -1 by decide
theorem awayP_bd {a b : List ByteArray} (hla : a.length ≤ 400) (hlb : b.length ≤ 400) {x : Nat × Nat} (hi : inP a b x) : 0 ≤ (awayP a b x).1 ∧ (awayP a b x).1 ≤ 1000 := by
 have h1 := leftM_nn a b (farP a b x + 1) x hi
 have h2 := (leftM_bd a b (farP a b x + 1) x hi).2
 unfold awayP
 have : farP a b x ≤ 800 := by unfold farP; omega
 omega
theorem z138 {a b : List ByteArray} {ta tb za zb m r : Nat} (hza : a ≠ [] → za = 1) (hzb : b ≠ [] → zb = 1) (hla : a.length ≤ 400) (hlb : b.length ≤ 400) {p q : Nat} (hi : inP a b (p, q)) (ih : ∀ y, inP a b y → farP a b y < farP a b (p, q) → C139 a b ta tb za zb m r y) : C138 a b ta tb za zb m r (p, q) := by
 intro es B t hr hm hrm hes
 by_cases hx : (p, q) = (a.length, b.length)
 ·refine ⟨es, [], hes, fun X => ?_⟩
  rw [List.append_nil]
  have e : awayP a b (p, q) = (0, 4) := by unfold awayP; rw [leftM_succ, if_pos hx]
  simp only [Prod.mk.injEq] at hx
  obtain ⟨rfl, rfl⟩ := hx
  rw [e, set_idem hm, w_call _ fn_138 rfl]
  simp only [rdC] at hr
  have o := fun Y => old hr Y
  have hu : r < B.length + X.length + 1 := by have := (List.getElem?_eq_some_iff.1 hr).1; omega
  simp only [go_sem, ↓reduceIte, simprocAttr, ePl, hr, o, hu, List.take_length_add_append, List.take_left]
 ·have hml : m < B.length := (List.getElem?_eq_some_iff.1 hm).1
  obtain ⟨E, hE0, hE⟩ := seq_exists (fun s : List ((Nat × Nat) × Int) × List Bool => rightE a b s.1) (fun k s s' => k < 4 → ∀ X, (EW tabX).call 173 [.int .i64 (k : Int), .ref (B.length + X.length) 0, .ref (B.length + (X.length + 1)) 0] ⟨B.set m (.map (esP s.1)) ++ (X ++ [.cells [.ref r 0], .cells [.int .i64 (p : Int), .int .i64 (q : Int)]]), t ++ s.2⟩ = some (.int .i64 (costP a b (p, q) k), ⟨B.set m (.map (esP s'.1)) ++ (X ++ [.cells [.ref r 0], .cells [.int .i64 (p : Int), .int .i64 (q : Int)]]), t ++ s'.2⟩)) (fun k s hs => by
   obtain ⟨s, F⟩ := s
   by_cases hk : k < 4
   ·have hr1 : ∀ s : List ((Nat × Nat) × Int), (B.set m (.map (esP s)))[r]? = some (.cells (rdC a b ta tb za zb m)) := fun s => by rw [List.getElem?_set_ne (Ne.symm hrm)]; exact hr
    have hm1 : (B.set m (.map (esP s)))[m]? = some (.map (esP s)) := by rw [List.getElem?_set_self hml]
    have hge := stepM_ge a b k p q hk
    by_cases hc : (stepM a b k p q).2 < 0
    ·refine ⟨(s, F), hs, fun _ X => ?_⟩
     have := z173 (k : Int) r (B.length + X.length) (B.length + (X.length + 1)) p q (B.set m (.map (esP s)) ++ (X ++ [.cells [.ref r 0], .cells [.int .i64 (p : Int), .int .i64 (q : Int)]])) (B.set m (.map (esP s)) ++ (X ++ [.cells [.ref r 0], .cells [.int .i64 (p : Int), .int .i64 (q : Int)]])) (t ++ F) (t ++ F) (by rw [← List.append_assoc, List.getElem?_append_right (by simp)]; simp) (by rw [← List.append_assoc, List.getElem?_append_right (by simp only [List.length_append, List.length_set]; omega)]; simp [show B.length + (X.length + 1) - (B.length + X.length) = 1 by omega]) (stepM a b k p q).1 (stepM a b k p q).2 0 ⟨hge, by omega, by omega, by omega⟩ rfl (fun Y => z141a hza hzb hla hlb (old (old (hr1 s) _) _) hi k hk) (fun h => by omega)
     rw [if_pos hc, if_pos hc, if_pos hc] at this
     have e : costP a b (p, q) k = -1 := by unfold costP; simp only; rw [if_pos hc]
     rw [e]; exact this
    ·obtain ⟨s1, s2, s3⟩ := step_in a b k p q hk hi hc
     obtain ⟨s', F', hs', h139⟩ := ih _ s1 s2 s (B.set m (.map (esP s))) (t ++ F) (hr1 s) hm1 hrm hs
     have hb := awayP_bd hla hlb s1
     refine ⟨(s', F ++ F'), hs', fun _ X => ?_⟩
     have := z173 (k : Int) r (B.length + X.length) (B.length + (X.length + 1)) p q (B.set m (.map (esP s)) ++ (X ++ [.cells [.ref r 0], .cells [.int .i64 (p : Int), .int .i64 (q : Int)]])) (B.set m (.map (esP s')) ++ (X ++ [.cells [.ref r 0], .cells [.int .i64 (p : Int), .int .i64 (q : Int)]])) (t ++ F) (t ++ (F ++ F')) (by rw [← List.append_assoc, List.getElem?_append_right (by simp)]; simp) (by rw [← List.append_assoc, List.getElem?_append_right (by simp only [List.length_append, List.length_set]; omega)]; simp [show B.length + (X.length + 1) - (B.length + X.length) = 1 by omega]) (stepM a b k p q).1 (stepM a b k p q).2 (awayP a b (stepM a b k p q).1).1 ⟨hge, by omega, hb.1, hb.2⟩ (by simp) (fun Y => z141a hza hzb hla hlb (old (old (hr1 s) _) _) hi k hk) (fun _ Y => by
      have := h139 ((X ++ [.cells [.ref r 0], .cells [.int .i64 (p : Int), .int .i64 (q : Int)]]) ++ Y)
      rw [List.set_set] at this
      simpa only [List.append_assoc] using this)
     rw [if_neg hc, if_neg hc, if_neg hc] at this
     have e : costP a b (p, q) k = (stepM a b k p q).2 + (awayP a b (stepM a b k p q).1).1 := by unfold costP; simp only; rw [if_neg hc]
     rw [e]; exact this
   ·exact ⟨(s, F), hs, fun h => absurd h hk⟩) (es, []) hes
  refine ⟨(E 4).1, (E 4).2, (hE 4).1, fun X => ?_⟩
  have h144 := z144 1 173 [] [.ref (B.length + X.length) 0, .ref (B.length + (X.length + 1)) 0] [0, 1, 2, 3] (by decide) (by decide) (costP a b (p, q)) (fun k => B.set m (.map (esP (E k).1)) ++ (X ++ [.cells [.ref r 0], .cells [.int .i64 (p : Int), .int .i64 (q : Int)]])) (fun k => t ++ (E k).2) (fun k => by simp) (fun k x hk => by
   obtain ⟨hk4, rfl⟩ : k < 4 ∧ x = (k : Int) := by
    match k, hk with
    | 0, h => exact ⟨by decide, by simpa using h.symm⟩
    | 1, h => exact ⟨by decide, by simpa using h.symm⟩
    | 2, h => exact ⟨by decide, by simpa using h.symm⟩
    | 3, h => exact ⟨by decide, by simpa using h.symm⟩
    | k + 4, h => simp at h
   have h := (hE k).2 hk4 X
   rw [callAV_clo]
   simp only [go_sem, ↓reduceIte, simprocAttr]
   exact h) (by simp only [go_sem, ↓reduceIte, simprocAttr])
  rw [hE0, set_idem hm, List.append_nil] at h144
  rw [awayP_eq a b (p, q) hi hx]
  simp only [List.length_cons, List.length_nil, Nat.zero_add, Nat.reduceAdd] at h144
  generalize leastM [0, 1, 2, 3] (costP a b (p, q)) 4 = rs at *
  rw [w_call _ fn_138 rfl]
  simp only [rdC] at hr
  have o := fun Y => old hr Y
  have hne : ((p : Int) == (a.length : Int) && (q : Int) == (b.length : Int)) = false := by
   rw [Bool.eq_false_iff]
   intro h
   simp only [Bool.and_eq_true, beq_iff_eq] at h
   exact hx (Prod.ext (by simp only; omega) (by simp only; omega))
  simp only [I, List.map_cons, List.map_nil, List.append_assoc] at h144
  have hu : r < B.length + X.length + 1 := by have := (List.getElem?_eq_some_iff.1 hr).1; omega
  have hT : ∀ Y, ((B.set m (.map (esP (E 4).1))) ++ (X ++ Y)).take (B.length + X.length) = B.set m (.map (esP (E 4).1)) ++ X := fun Y => by rw [← List.append_assoc, List.take_left' (by simp)]
  simp only [go_sem, ↓reduceIte, simprocAttr, ePl, hr, o, hu, hne, h144, hT]
end
section
open Go.Proofs
theorem keyP_self (x : Nat × Nat) : eqCells [0, 0] (keyP x) (keyP x) = some true := by rw [eqP]; simp
theorem put_any (a b : List ByteArray) (q : Nat × Nat) : ∀ ps : List ((Nat × Nat) × Int), rightE a b ps → ∃ ps', rightE a b ps' ∧ putAV [0, 0] (esP ps) (keyP q) (.int .i64 (awayP a b q).1) = some (esP ps')
 | [], _ => ⟨[(q, (awayP a b q).1)], fun e he => by simp at he; subst he; rfl, rfl⟩
 | x :: ps, h => by
  have e : putAV [0, 0] (esP (x :: ps)) (keyP q) (.int .i64 (awayP a b q).1) = match eqCells [0, 0] (keyP q) (keyP x.1) with | some true => some ((ePl q, .int .i64 (awayP a b q).1) :: esP ps) | some false => (putAV [0, 0] (esP ps) (keyP q) (.int .i64 (awayP a b q).1)).map ((ePl x.1, .int .i64 x.2) :: ·) | none => none := rfl
  rw [e, eqP]
  have h2 : rightE a b ps := fun y hy => h y (List.mem_cons_of_mem _ hy)
  cases hd : decide (q = x.1) with
  | true => exact ⟨(q, (awayP a b q).1) :: ps, fun y hy => by
    rcases List.mem_cons.1 hy with rfl | hy
    ·rfl
    ·exact h2 y hy, rfl⟩
  | false =>
   obtain ⟨ps', h3, h4⟩ := put_any a b q ps h2
   rw [h4]
   exact ⟨x :: ps', fun y hy => by
    rcases List.mem_cons.1 hy with rfl | hy
    ·exact h _ (List.mem_cons_self ..)
    ·exact h3 y hy, rfl⟩
set_option maxHeartbeats 1000000 in
theorem z139 {a b : List ByteArray} {ta tb za zb m r : Nat} {p q : Nat} (hL : C138 a b ta tb za zb m r (p, q)) : C139 a b ta tb za zb m r (p, q) := by
 intro es B t hr hm hrm hes
 have hml : m < B.length := (List.getElem?_eq_some_iff.1 hm).1
 have hrl : r < B.length := (List.getElem?_eq_some_iff.1 hr).1
 have hlk := look_esP (p, q) es
 have hks := keyP_self (p, q)
 simp only [keyP] at hlk hks
 simp only [rdC] at hr
 have o := fun Y => old hr Y
 have oM := fun Y => old hm Y
 cases hf : es.find? (fun x => decide ((p, q) = x.1)) with
 | some e =>
  have hmem := List.mem_of_find?_eq_some hf
  have heq : (p, q) = e.1 := by have := List.find?_some hf; simpa using this
  have hv := hes e hmem
  rw [← heq] at hv
  refine ⟨es, [], hes, fun X => ?_⟩
  rw [List.append_nil]
  rw [hf] at hlk
  simp only [Option.map_some, hv] at hlk
  rw [set_idem hm, w_call _ fn_139 rfl]
  simp only [go_sem, ↓reduceIte, simprocAttr, ePl, hr, o, oM, hks, hlk, List.take_length_add_append, List.take_left]
 | none =>
  obtain ⟨es', F, hes', hc⟩ := hL es B t hr hm hrm hes
  rw [hf] at hlk
  simp only [Option.map_none] at hlk
  have hr1 : (B.set m (.map (esP es')))[r]? = some (.cells (rdC a b ta tb za zb m)) := by rw [List.getElem?_set_ne (Ne.symm hrm)]; exact hr
  have hm1 : (B.set m (.map (esP es')))[m]? = some (.map (esP es')) := by rw [List.getElem?_set_self hml]
  simp only [rdC] at hr1
  have o1 := fun Y => old hr1 Y
  have oM1 := fun Y => old hm1 Y
  obtain ⟨es2, hes2, hput⟩ := put_any a b (p, q) es' hes'
  simp only [keyP] at hput
  refine ⟨es2, F ++ List.replicate 7 false, hes2, fun X => ?_⟩
  have hc := hc (X ++ [.cells [.int .i64 (p : Int), .int .i64 (q : Int)]])
  simp only [ePl] at hc
  have hlen : (B.set m (.map (esP es'))).length = B.length := List.length_set ..
  have hset : ∀ Y, (B.set m (.map (esP es')) ++ Y).set m (.map (esP es2)) = B.set m (.map (esP es2)) ++ Y := fun Y => by
   rw [List.set_append_left _ _ (by rw [hlen]; exact hml), List.set_set]
  have hT : ∀ Y, ((B.set m (.map (esP es2))) ++ (X ++ Y)).take (B.length + X.length) = B.set m (.map (esP es2)) ++ X := fun Y => by rw [← List.append_assoc, List.take_left' (by simp)]
  have h2 : ∀ Y, (B.set m (.map (esP es')) ++ (X ++ ABlk.cells [.int .i64 (p : Int), .int .i64 (q : Int)] :: Y))[B.length + X.length]? = some (.cells [.int .i64 (p : Int), .int .i64 (q : Int)]) := fun Y => by
   rw [← List.append_assoc, List.getElem?_append_right (by simp)]; simp
  rw [w_call _ fn_139 rfl]
  simp only [go_sem, ↓reduceIte, simprocAttr, ePl, hr, o, oM, hks, hlk, hc]
  generalize hcf : drawT _ _ _ = cf
  obtain rfl : cf = true := by rw [← hcf]; kernel_rfl
  simp only [go_sem, ↓reduceIte, simprocAttr, List.size_toArray, o1, oM1, h2, hks, hput, hset, hT, List.replicate]
theorem z139_all {a b : List ByteArray} {ta tb za zb m r : Nat} (hza : a ≠ [] → za = 1) (hzb : b ≠ [] → zb = 1) (hla : a.length ≤ 400) (hlb : b.length ≤ 400) : ∀ (n : Nat) (x : Nat × Nat), farP a b x < n → inP a b x → C139 a b ta tb za zb m r x
 | 0, _, h, _ => by omega
 | n + 1, (p, q), h, hi => z139 (z138 hza hzb hla hlb hi fun y hy hf => z139_all hza hzb hla hlb n y (by omega) hy)
theorem z139s {a b : List ByteArray} {ta tb za zb m r : Nat} (hza : a ≠ [] → za = 1) (hzb : b ≠ [] → zb = 1) (hla : a.length ≤ 400) (hlb : b.length ≤ 400) {x : Nat × Nat} (hi : inP a b x) : C139 a b ta tb za zb m r x := z139_all hza hzb hla hlb _ x (Nat.lt_succ_self _) hi
theorem z138s {a b : List ByteArray} {ta tb za zb m r : Nat} (hza : a ≠ [] → za = 1) (hzb : b ≠ [] → zb = 1) (hla : a.length ≤ 400) (hlb : b.length ≤ 400) {x : Nat × Nat} (hi : inP a b x) : C138 a b ta tb za zb m r x := by
 obtain ⟨p, q⟩ := x
 exact z138 hza hzb hla hlb hi fun y hy hf => z139s hza hzb hla hlb hy
end
end Go.Proofs.YthkpjbgadkkeeaaGreat
