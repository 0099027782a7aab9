/- Parts of the proof, joined: What small functions compute: a search in a row of numbers, and whether numbers are beyond bounds. What the tests of names compute, the program's and the reference's. What the test of a drawer computes: the program's. What the test of a drawer computes: the program's, whole. What the test of a drawer computes: the reference's. Where halves fit, by the reference. What a valid drawer is like; where halves fit, by the reference. Z-numbers. A drawer that comes in is one of the abstract interpreter. Z-numbers. Lists of money as values; the loops of the program that look for the first thing with an error. Z-numbers. The test of a list of money: the program's. Z-numbers. The test of a list of money: the program's, whole. What it is for two edges to be alike, by the reference. What it is for two edges to be alike, by the program. Where a half fits, by the program. The drawer that is looked at: its map and its order of places. A drawer is looked at. A drawer is looked at: what 'look' leaves. Where a half fits, by the program: fits, enter, Fits. Where a half fits a card: the program's Fits. Rows of numbers: which comes first, the same, has, lost. Small sets as numbers; rows held against each other by the library. Loops whose slots are said by a relation; slices of slices that grow. All truths, by the reference. All fair truths, by the reference. First, Forged, Whose and Read, by the reference. Whose and Read, by the reference. Alike, Enough and New, by the reference. Enough, by the reference. Conditions: those of each law. -/
import Derived.Test.YtiighcpimecehaaGreatQ9
import Derived.Laws.RangeString
import Derived.Laws.RangeAny
import Derived.KernelRfl
set_option linter.unusedSimpArgs false
set_option linter.unusedVariables false
section
namespace Go.Proofs.YtiighcpimecehaaGreat
open Go.Proofs


theorem c69 (n lo hi : Int) (h : Heap) (b1 b2 : Nat) (h1 : h.b[b1]? = some (.cells [.int .i64 lo])) (h2 : h.b[b2]? = some (.cells [.int .i64 hi])) :
   (EW tabX).call 109 [.int .i64 n, .ref b1 0, .ref b2 0] h = some (.bool (decide (n < lo) || decide (hi < n)), h) := by
  obtain ⟨hb, ht⟩ := h
  rw [w_call _ fn_109 rfl]
  by_cases hn : n < lo
  · simp only [go_sem, ↓reduceIte, simprocAttr, h1, h2, hn, Bool.true_or]
  · simp only [go_sem, ↓reduceIte, simprocAttr, h1, h2, hn, Bool.false_or, gt_iff_lt]
theorem c86 (n lo hi : Int) (h : Heap) (b1 b2 : Nat) (h1 : h.b[b1]? = some (.cells [.int .i64 lo])) (h2 : h.b[b2]? = some (.cells [.int .i64 hi])) :
   (EW tabX).call 164 [.int .i64 n, .ref b1 0, .ref b2 0] h = some (.bool (decide (n < lo) || decide (hi < n)), h) := by
  obtain ⟨hb, ht⟩ := h
  rw [w_call _ fn_164 rfl]
  by_cases hn : n < lo
  · simp only [go_sem, ↓reduceIte, simprocAttr, h1, h2, hn, Bool.true_or]
  · simp only [go_sem, ↓reduceIte, simprocAttr, h1, h2, hn, Bool.false_or, gt_iff_lt]

theorem c78 (f : Nat) (fst cap : List AV) (l : List Int) (t z : Nat) (hz : l ≠ [] → z = 1) (p : Int → Bool) (h : Heap) (hl : l.length < 1000000000000000000)
   (hp : ∀ n ∈ l, callAV tabX (EW tabX) false (.clo f fst cap) [.int .i64 n] h = some (.bool (p n), h)) :
   (EW tabX).call 151 [.lst t z (I l), .clo f fst cap] h = some (.int .i64 (if l.findIdx p < l.length then l.findIdx p else -1), h) := by
  obtain ⟨hb, ht⟩ := h
  rw [w_call _ fn_151 rfl]
  simp only [go_sem, ↓reduceIte, simprocAttr]
  simp only [callAV_clo] at hp
  by_cases hf : l.findIdx p < l.length
  · rw [w_rounds_u (fun k => [(8, .int .i64 k)]) (l.findIdx p) .ret [(4, .int .i64 (l.findIdx p)), (5, .int .i64 (l.findIdx p)), (8, .int .i64 (l.findIdx p))] ?_ ?_ ?_ rfl]
    · simp only [go_sem, ↓reduceIte, simprocAttr, hf]
    · simp only [go_sem, ↓reduceIte, simprocAttr]
    · intro k hk
      have hlt : k < l.length := by omega
      have hki : (k : Int) < l.length := by omega
      have hx := List.getElem?_eq_getElem hlt
      have hpx := hp l[k] (List.getElem_mem _)
      have hpf : p l[k] = false := by simpa using List.not_of_lt_findIdx hk
      have hz1 := hz (by intro e; rw [e] at hlt; simp at hlt)
      subst hz1
      rw [hpf] at hpx
      simp (disch := omega) only [go_sem, ↓reduceIte, simprocAttr, hki, hx, ↓hpx, wrap_i64]
    · have hx := List.getElem?_eq_getElem hf
      have hki : ((l.findIdx p : Nat) : Int) < l.length := by omega
      have hpx := hp l[l.findIdx p] (List.getElem_mem _)
      have hpt : p l[l.findIdx p] = true := List.findIdx_getElem
      have hz1 := hz (by intro e; rw [e] at hf; simp at hf)
      subst hz1
      rw [hpt] at hpx
      simp (disch := omega) only [go_sem, ↓reduceIte, simprocAttr, hki, hx, ↓hpx, wrap_i64]
  · have hn : l.findIdx p = l.length := by have := List.findIdx_le_length (p := p) (xs := l); omega
    rw [w_rounds_u (fun k => [(8, .int .i64 k)]) (l.length) (.exit 0) [(8, .int .i64 l.length)] ?_ ?_ ?_ rfl]
    · simp only [go_sem, ↓reduceIte, simprocAttr, hf]
    · simp only [go_sem, ↓reduceIte, simprocAttr]
    · intro k hk
      have hki : (k : Int) < l.length := by omega
      have hx := List.getElem?_eq_getElem hk
      have hpx := hp l[k] (List.getElem_mem _)
      have hpf : p l[k] = false := by simpa using List.not_of_lt_findIdx (p := p) (xs := l) (i := k) (by omega)
      have hz1 := hz (by intro e; rw [e] at hk; simp at hk)
      subst hz1
      rw [hpf] at hpx
      simp (disch := omega) only [go_sem, ↓reduceIte, simprocAttr, hki, hx, ↓hpx, wrap_i64]
    · simp (disch := omega) only [go_sem, ↓reduceIte, simprocAttr, Int.lt_irrefl]

theorem findIdx_any {α : Type} (l : List α) (p : α → Bool) : decide ((0 : Int) ≤ if l.findIdx p < l.length then (l.findIdx p : Int) else -1) = l.any p := by
  by_cases h : l.findIdx p < l.length
  · rw [if_pos h]
    have : l.any p = true := List.any_eq_true.2 (by have := List.findIdx_lt_length.1 h; simpa using this)
    rw [this]; simp
  · rw [if_neg h]
    have : l.any p = false := by
      cases hh : l.any p with
      | false => rfl
      | true => exact absurd (List.findIdx_lt_length.2 (by simpa using List.any_eq_true.1 hh)) h
    rw [this]; rfl
theorem c68 (f : Nat) (fst cap : List AV) (l : List Int) (t z : Nat) (hz : l ≠ [] → z = 1) (p : Int → Bool) (h : Heap) (hl : l.length < 1000000000000000000)
   (hp : ∀ n ∈ l, callAV tabX (EW tabX) false (.clo f fst cap) [.int .i64 n] h = some (.bool (p n), h)) (hc : (AV.clo f fst cap).clean = none) :
   (EW tabX).call 107 [.lst t z (I l), .clo f fst cap] h = some (.bool (l.any p), h) := by
  have h78 := c78 f fst cap l t z hz p h hl hp
  obtain ⟨hb, ht⟩ := h
  rw [w_call _ fn_107 rfl]
  simp only [go_sem, ↓reduceIte, simprocAttr, hc, h78, ge_iff_le, findIdx_any]

def out (lo hi n : Int) : Bool := decide (n < lo) || decide (hi < n)
theorem c51 (lo hi : Int) (l : List Int) (z : Nat) (hz : l ≠ [] → z = 1) (h : Heap) (hl : l.length < 1000000000000000000) :
   callPure (EW tabX) 80 [.int .i64 lo, .int .i64 hi, .lst 0 z (I l)] h = some (.bool (l.any (out lo hi)), h) := by
  have h68 := c68 109 [] [.ref 0 0, .ref 1 0] l 0 z hz (out lo hi) ⟨[.cells [.int .i64 lo], .cells [.int .i64 hi]], []⟩ hl (fun n _ => by
    have := c69 n lo hi ⟨[.cells [.int .i64 lo], .cells [.int .i64 hi]], []⟩ 0 1 rfl rfl
    simp only [go_sem, ↓reduceIte, simprocAttr, this]; rfl) (by simp only [go_sem, ↓reduceIte, simprocAttr])
  refine pure_of (v := .bool (l.any (out lo hi))) (h1 := ⟨[], []⟩) ?_ (clean_bool _)
  rw [w_call _ fn_80 rfl]
  simp only [go_sem, ↓reduceIte, simprocAttr, h68]
theorem c51_1 (lo hi x : Int) (h : Heap) : callPure (EW tabX) 80 [.int .i64 lo, .int .i64 hi, .lst 0 1 [.int .i64 x]] h = some (.bool (out lo hi x), h) := by
  have := c51 lo hi [x] 1 (fun _ => rfl) h (by simp)
  simpa only [I_c, I_nil, List.any_cons, List.any_nil, Bool.or_false] using this
end Go.Proofs.YtiighcpimecehaaGreat
end
section
namespace Go.Proofs.YtiighcpimecehaaGreat
open Go.Proofs

def inR (n lo hi : Int) : Bool := decide (lo ≤ n) && decide (n ≤ hi)
theorem c42 (n lo hi : Int) (h : Heap) : callPure (EW tabX) 24 [.int .i64 n, .int .i64 lo, .int .i64 hi] h = some (.bool (inR n lo hi), h) := by
  refine pure_of (v := .bool (inR n lo hi)) (h1 := ⟨[], []⟩) ?_ (clean_bool _)
  rw [w_call _ fn_24 rfl]
  simp only [go_sem, ↓reduceIte, simprocAttr]
  rfl
theorem out_not (lo hi n : Int) : (!out lo hi n) = inR n lo hi := by
  unfold out inR
  rw [Bool.eq_iff_iff]; simp

def chOk (i : Nat) (b : Int) : Bool := inR b 97 122 || (decide (0 < (i : Int)) && (b == 46 || inR b 48 57))
def chAt (s : ByteArray) (i : Nat) : Bool := match s[i]? with | some b => chOk i b.toNat | none => false
def okTo (s : ByteArray) (n : Nat) : Bool := (List.range n).all (chAt s)
def nameOk (s : ByteArray) : Bool := inR s.size 1 16 && okTo s s.size
theorem okTo_succ (s : ByteArray) (n : Nat) : okTo s (n + 1) = (okTo s n && chAt s n) := by simp [okTo, List.range_succ]
theorem okTo_zero (s : ByteArray) : okTo s 0 = true := rfl

theorem c74 (s : ByteArray) (hs : s.size < 1000000000000000000) (h : Heap) : callPure (EW tabX) 79 [.str s] h = some (.bool (nameOk s), h) := by
  refine pure_of (v := .bool (nameOk s)) (h1 := ⟨[], []⟩) ?_ (clean_bool _)
  rw [w_call _ fn_79 rfl]
  simp only [go_sem, ↓reduceIte, simprocAttr, c42]
  rw [w_rounds_u (fun k => [(3, .bool (inR s.size 1 16 && okTo s k)), (4, .int .i64 k)]) s.size (.exit 0) [(3, .bool (inR s.size 1 16 && okTo s s.size)), (4, .int .i64 s.size)] ?_ ?_ ?_ rfl]
  · simp only [go_sem, ↓reduceIte, simprocAttr, nameOk]
  · simp only [go_sem, ↓reduceIte, simprocAttr, okTo_zero]
  · intro k hk
    have hki : (k : Int) < s.size := by omega
    have hx : s[k]? = some s[k] := by simp [hk]
    have hb : (s[k].toNat : Int) < 256 := by have := s[k].toNat_lt; omega
    have hc : chAt s k = chOk k s[k].toNat := by simp [chAt, hk]
    simp (disch := omega) only [go_sem, ↓reduceIte, simprocAttr, hki, hx, c42, wrap_i64, okTo_succ, hc, chOk]
  · simp (disch := omega) only [go_sem, ↓reduceIte, simprocAttr, Int.lt_irrefl]
theorem okTo_false {s : ByteArray} : ∀ {n : Nat}, okTo s n = false → ∃ k, k < n ∧ okTo s k = true ∧ chAt s k = false
  | 0, h => by simp [okTo] at h
  | n + 1, h => by
    cases h1 : okTo s n with
    | false => obtain ⟨k, a, b⟩ := okTo_false h1; exact ⟨k, by omega, b⟩
    | true => rw [okTo_succ, h1] at h; exact ⟨n, by omega, h1, by simpa using h⟩
theorem okTo_at {s : ByteArray} {n k : Nat} (h : okTo s n = true) (hk : k < n) : chAt s k = true := by
  unfold okTo at h
  rw [List.all_eq_true] at h
  exact h k (by simpa using hk)
theorem c86b (l : List Int) (z : Nat) (hz : l ≠ [] → z = 1) (lo hi : Int) (h : Heap) (hl : l.length < 1000000000000000000) :
   callPure (EW tabX) 157 [.int .i64 lo, .int .i64 hi, .lst 0 z (I l)] h = some (.bool (l.any (out lo hi)), h) := by
  have h68 := c68 164 [] [.ref 0 0, .ref 1 0] l 0 z hz (out lo hi) ⟨[.cells [.int .i64 lo], .cells [.int .i64 hi]], []⟩ hl (fun n _ => by
    have := c86 n lo hi ⟨[.cells [.int .i64 lo], .cells [.int .i64 hi]], []⟩ 0 1 rfl rfl
    simp only [go_sem, ↓reduceIte, simprocAttr, this]; rfl) (by simp only [go_sem, ↓reduceIte, simprocAttr])
  refine pure_of (v := .bool (l.any (out lo hi))) (h1 := ⟨[], []⟩) ?_ (clean_bool _)
  rw [w_call _ fn_157 rfl]
  simp only [go_sem, ↓reduceIte, simprocAttr, h68]
theorem c79_1 (lo hi x : Int) (h : Heap) : callPure (EW tabX) 157 [.int .i64 lo, .int .i64 hi, .lst 0 1 [.int .i64 x]] h = some (.bool (out lo hi x), h) := by
  have := c86b [x] 1 (fun _ => rfl) lo hi h (by simp)
  simpa only [I_c, I_nil, List.any_cons, List.any_nil, Bool.or_false] using this

theorem test_eq (k b : Nat) : (!(decide (97 ≤ (b : Int)) && decide ((b : Int) ≤ 122)) && ((k : Int) == 0 || (b : Int) != 46 && (decide ((b : Int) < 48) || decide (57 < (b : Int))))) = !chOk k b := by
  unfold chOk inR
  rw [Bool.eq_iff_iff]
  simp only [Bool.and_eq_true, Bool.or_eq_true, Bool.not_eq_true', Bool.and_eq_false_iff, Bool.or_eq_false_iff, decide_eq_true_eq, decide_eq_false_iff_not, beq_iff_eq, bne_iff_ne, beq_eq_false_iff_ne, ne_eq]
  omega
theorem chOk_high (k b : Nat) (h : 128 ≤ b) : chOk k b = false := by
  cases hc : chOk k b with
  | false => rfl
  | true => simp [chOk, inR] at hc; omega

theorem c70 (s : ByteArray) (hs : s.size < 1000000000000000000) (h : Heap) : callPure (EW tabX) 125 [.str s] h = some (.bool (nameOk s), h) := by
  refine pure_of (v := .bool (nameOk s)) (h1 := ⟨[], []⟩) ?_ (clean_bool _)
  rw [w_call _ fn_125 rfl]
  simp only [go_sem, ↓reduceIte, simprocAttr]
  have round : ∀ k, (hk : k < s.size) → chOk k s[k].toNat = true → Utf8.decode s k = (s[k].toNat, 1) := fun k hk hc =>
    decode_ascii s k hk (by simp [chOk, inR] at hc; omega)
  cases ho : okTo s s.size with
  | true =>
    rw [w_rounds_h (fun k => []) (fun k => ⟨[.siter s k], []⟩) s.size (.exit 0) [(8, .tup [.bool false])] ⟨[.siter s s.size], []⟩ ?_ ?_ ?_ ?_ rfl]
    · simp only [go_sem, ↓reduceIte, simprocAttr, nameOk, c79_1, out_not, ho]
    · simp only [go_sem, ↓reduceIte, simprocAttr]
    · simp only [go_sem, ↓reduceIte, simprocAttr]
    · intro k hk
      have hc : chAt s k = true := okTo_at ho hk
      have hc : chOk k s[k].toNat = true := by simpa [chAt, hk] using hc
      have hd := round k hk hc
      simp only [go_sem, ↓reduceIte, simprocAttr, hk, hd, test_eq, hc]
    · simp only [go_sem, ↓reduceIte, simprocAttr, Nat.lt_irrefl]
  | false =>
    obtain ⟨n, hn, h1, h2⟩ := okTo_false ho
    have h2 : chOk n s[n].toNat = false := by simpa [chAt, hn] using h2
    have hv : ∃ b w, Utf8.decode s n = (b, w) ∧ chOk n b = false := by
      by_cases hb : s[n].toNat < 128
      · exact ⟨_, _, decode_ascii s n hn hb, h2⟩
      · exact ⟨_, _, rfl, chOk_high _ _ (decode_high s n hn (by omega)).1⟩
    obtain ⟨b, w, hd, hb⟩ := hv
    rw [w_rounds_h (fun k => []) (fun k => ⟨[.siter s k], []⟩) n .ret [(3, .int .i64 n), (4, .int .i32 b), (5, .bool (inR b 97 122)), (8, .tup [.bool true, .int .i64 n, .int .i32 b])] ⟨[.siter s (n + w)], []⟩ ?_ ?_ ?_ ?_ rfl]
    · simp only [go_sem, ↓reduceIte, simprocAttr, nameOk, ho]
    · simp only [go_sem, ↓reduceIte, simprocAttr]
    · simp only [go_sem, ↓reduceIte, simprocAttr]
    · intro k hk
      have hk' : k < s.size := by omega
      have hc : chAt s k = true := okTo_at h1 hk
      have hc : chOk k s[k].toNat = true := by simpa [chAt, hk'] using hc
      have hd := round k hk' hc
      simp only [go_sem, ↓reduceIte, simprocAttr, hk', hd, test_eq, hc]
    · simp only [go_sem, ↓reduceIte, simprocAttr, hn, hd, test_eq, hb, inR]
end Go.Proofs.YtiighcpimecehaaGreat
end
section
namespace Go.Proofs.YtiighcpimecehaaGreat
open Go.Proofs

structure Card where
  name : ByteArray
  edge : List Int
def eC (c : Card) : AV := .agg [.str c.name, .lst 0 1 (I c.edge)]
def eE (f r : Nat) (least : Int) (c : Card) : AV := .agg [.str c.name, .lst 0 1 (I c.edge), .clo f [] [.ref r 0], .int .i64 least]
structure Dr where
  steps : Int
  least : Int
  wear : Int
  cards : List Card
  halves : List Card
  zc : Nat
  zh : Nat
def eDc (d : Dr) : List AV := [.int .i64 d.steps, .int .i64 d.least, .int .i64 d.wear, .lst 0 d.zc (d.cards.map eC), .lst 0 d.zh (d.halves.map eC)]
def eD (d : Dr) : AV := .agg (eDc d)

theorem eE_clean (f r : Nat) (least : Int) : ∀ l : List Card, l ≠ [] → cleanL (l.map (eE f r least)) = none
  | [], h => absurd rfl h
  | c :: l, _ => by simp only [List.map_cons, eE, go_sem, ↓reduceIte, simprocAttr]
theorem eE_get (f r : Nat) (least : Int) (l : List Card) (k : Nat) : (l.map (eE f r least))[k]? = (l[k]?).map (eE f r least) := by simp

theorem c80 (f fe r : Nat) (least : Int) (fst cap : List AV) (l : List Card) (t z : Nat) (hz : l ≠ [] → z = 4) (p : Card → Bool) (h : Heap) (hl : l.length < 1000000000000000000)
   (hp : ∀ n ∈ l, callAV tabX (EW tabX) false (.clo f fst cap) [eE fe r least n] h = some (.bool (p n), h)) :
   (EW tabX).call 163 [.lst t z (l.map (eE fe r least)), .clo f fst cap] h = some (.int .i64 (if l.findIdx p < l.length then l.findIdx p else -1), h) := by
  obtain ⟨hb, ht⟩ := h
  rw [w_call _ fn_163 rfl]
  simp only [go_sem, ↓reduceIte, simprocAttr]
  simp only [callAV_clo] at hp
  by_cases hf : l.findIdx p < l.length
  · rw [w_rounds_u (fun k => [(8, .int .i64 k)]) (l.findIdx p) .ret [(4, .int .i64 (l.findIdx p)), (5, .int .i64 (l.findIdx p)), (8, .int .i64 (l.findIdx p))] ?_ ?_ ?_ rfl]
    · simp only [go_sem, ↓reduceIte, simprocAttr, hf]
    · simp only [go_sem, ↓reduceIte, simprocAttr]
    · intro k hk
      have hlt : k < l.length := by omega
      have hki : (k : Int) < l.length := by omega
      have hx := List.getElem?_eq_getElem hlt
      have hpx := hp l[k] (List.getElem_mem _)
      have hpf : p l[k] = false := by simpa using List.not_of_lt_findIdx hk
      have hz1 := hz (by intro e; rw [e] at hlt; simp at hlt)
      subst hz1
      rw [hpf] at hpx
      simp only [eE] at hpx
      simp (disch := omega) only [go_sem, ↓reduceIte, simprocAttr, hki, eE_get, hx, eE, ↓hpx, wrap_i64]
    · have hx := List.getElem?_eq_getElem hf
      have hki : ((l.findIdx p : Nat) : Int) < l.length := by omega
      have hpx := hp l[l.findIdx p] (List.getElem_mem _)
      have hpt : p l[l.findIdx p] = true := List.findIdx_getElem
      have hz1 := hz (by intro e; rw [e] at hf; simp at hf)
      subst hz1
      rw [hpt] at hpx
      simp only [eE] at hpx
      simp (disch := omega) only [go_sem, ↓reduceIte, simprocAttr, hki, eE_get, hx, eE, ↓hpx, wrap_i64]
  · have hn : l.findIdx p = l.length := by have := List.findIdx_le_length (p := p) (xs := l); omega
    rw [w_rounds_u (fun k => [(8, .int .i64 k)]) (l.length) (.exit 0) [(8, .int .i64 l.length)] ?_ ?_ ?_ rfl]
    · simp only [go_sem, ↓reduceIte, simprocAttr, hf]
    · simp only [go_sem, ↓reduceIte, simprocAttr]
    · intro k hk
      have hki : (k : Int) < l.length := by omega
      have hx := List.getElem?_eq_getElem hk
      have hpx := hp l[k] (List.getElem_mem _)
      have hpf : p l[k] = false := by simpa using List.not_of_lt_findIdx (p := p) (xs := l) (i := k) (by omega)
      have hz1 := hz (by intro e; rw [e] at hk; simp at hk)
      subst hz1
      rw [hpf] at hpx
      simp only [eE] at hpx
      simp (disch := omega) only [go_sem, ↓reduceIte, simprocAttr, hki, eE_get, hx, eE, ↓hpx, wrap_i64]
    · simp (disch := omega) only [go_sem, ↓reduceIte, simprocAttr, Int.lt_irrefl]
theorem c71 (f fe r : Nat) (least : Int) (fst cap : List AV) (l : List Card) (t z : Nat) (hz : l ≠ [] → z = 4) (p : Card → Bool) (h : Heap) (hl : l.length < 1000000000000000000)
   (hp : ∀ n ∈ l, callAV tabX (EW tabX) false (.clo f fst cap) [eE fe r least n] h = some (.bool (p n), h)) (hc : (AV.clo f fst cap).clean = none) :
   (EW tabX).call 155 [.lst t z (l.map (eE fe r least)), .clo f fst cap] h = some (.bool (l.any p), h) := by
  have h78 := c80 f fe r least fst cap l t z hz p h hl hp
  obtain ⟨hb, ht⟩ := h
  rw [w_call _ fn_155 rfl]
  simp only [go_sem, ↓reduceIte, simprocAttr, hc, h78, ge_iff_le, findIdx_any]

theorem c72 (fe r : Nat) (least : Int) (c : Card) (b : Nat) (x : ByteArray) (xs : List AV) (h : Heap) (hr : r < h.b.length) (hb : h.b[b]? = some (.cells (.str x :: xs))) :
   (EW tabX).call 156 [eE fe r least c, .ref b 0] h = some (.bool (c.name == x), h) := by
  obtain ⟨B, ht⟩ := h
  have h1 : B[b]? = some (.cells (.str x :: xs)) := hb
  have h2 := old h1
  have h3 : r < B.length + 1 := by simp only at hr; omega
  rw [w_call _ fn_156 rfl]
  simp only [go_sem, ↓reduceIte, simprocAttr, eE, h1, h2, h3]

def flawE (l : List Card) (i : Nat) (long : Int → Bool) (least : Int) : Int := match l[i]? with
  | none => 0
  | some x => if nameOk x.name then (if (l.take i).any (fun y => y.name == x.name) then 5 else if long x.edge.length then 3 else if x.edge.any (out least 9) then 7 else 0) else 6
theorem flawE_at {l : List Card} {i : Nat} {x : Card} (hx : l[i]? = some x) (long : Int → Bool) (least : Int) : flawE l i long least =
    if nameOk x.name = true then (if (l.take i).any (fun y => y.name == x.name) = true then 5 else if long x.edge.length = true then 3 else if x.edge.any (out least 9) = true then 7 else 0) else 6 := by
  unfold flawE; rw [hx]
theorem c55 (fe r : Nat) (least : Int) (l : List Card) (t : Nat) (i : Nat) (x : Card) (hx : l[i]? = some x) (h : Heap) (hr : r < h.b.length) (hn : x.name.size < 1000000000000000000) (he : x.edge.length < 1000000000000000000) (hl : l.length < 1000000000000000000) (long : Int → Bool)
   (hlong : ∀ n u, callAV tabX (EW tabX) false (.clo fe [] [.ref r 0]) [.int .i64 n] ⟨h.b ++ u, h.t⟩ = some (.bool (long n), ⟨h.b ++ u, h.t⟩)) :
   (EW tabX).call 116 [.lst t 4 (l.map (eE fe r least)), .int .i64 i] h = some (.int .i64 (flawE l i long least), h) := by
  obtain ⟨B, ht⟩ := h
  have hi : i < l.length := (List.getElem?_eq_some_iff.1 hx).1
  have hr1 : r < B.length + 1 := by simp only at hr; omega
  have h70 := c70 x.name hn
  have h51 := c51 least 9 x.edge 1 (fun _ => rfl)
  have h71 := c71 156 fe r least [] [.ref B.length 0] (l.take i) 0 4 (fun _ => rfl) (fun y => y.name == x.name) ⟨B ++ [.cells [.str x.name, .lst 0 1 (I x.edge), .clo fe [] [.ref r 0], .int .i64 least]], ht⟩ (by rw [List.length_take]; omega) (fun n _ => by
    have := c72 fe r least n B.length x.name [.lst 0 1 (I x.edge), .clo fe [] [.ref r 0], .int .i64 least] ⟨B ++ [.cells [.str x.name, .lst 0 1 (I x.edge), .clo fe [] [.ref r 0], .int .i64 least]], ht⟩ (by simp; omega) (by simp)
    simp only [go_sem, ↓reduceIte, simprocAttr, eE] at this ⊢
    exact this) (by simp only [go_sem, ↓reduceIte, simprocAttr])
  simp only [go_sem, ↓reduceIte, simprocAttr] at hlong
  rw [List.map_take] at h71
  have hiz : ¬ (l.length : Int) < i := by omega
  have hil : i ≤ l.length := by omega
  rw [w_call _ fn_116 rfl]
  cases h1 : nameOk x.name with
  | false => simp only [go_sem, ↓reduceIte, simprocAttr, eE_get, hx, eE, hr1, h70, h1, flawE_at hx]
  | true =>
    cases h2 : (l.take i).any (fun y => y.name == x.name) with
    | true => 
      simp only [go_sem, ↓reduceIte, simprocAttr, eE_get, hx, eE, hr1, h70, h1, h2, h71, hil, flawE_at hx]
    | false =>
      cases h3 : long x.edge.length with
      | true => simp only [go_sem, ↓reduceIte, simprocAttr, eE_get, hx, eE, hr1, h70, h1, h2, h71, hil, hlong, h3, flawE_at hx]
      | false =>
        cases h4 : x.edge.any (out least 9) with
        | true => simp only [go_sem, ↓reduceIte, simprocAttr, eE_get, hx, eE, hr1, h70, h1, h2, h71, hil, hlong, h3, h4, h51 _ he, flawE_at hx]
        | false => simp only [go_sem, ↓reduceIte, simprocAttr, eE_get, hx, eE, hr1, h70, h1, h2, h71, hil, hlong, h3, h4, h51 _ he, flawE_at hx]

def firstBad (e : Nat → Int) : Nat → Nat → Option Nat
  | _, 0 => none
  | k, n + 1 => if e k ≠ 0 then some k else firstBad e (k + 1) n
theorem firstBad_none {e : Nat → Int} : ∀ {n k : Nat}, firstBad e k n = none → ∀ i, k ≤ i → i < k + n → e i = 0
  | 0, k, _, i, h1, h2 => by omega
  | n + 1, k, h, i, h1, h2 => by
    unfold firstBad at h
    split at h
    · cases h
    · rename_i h0
      by_cases hi : i = k
      · subst hi; simpa using h0
      · exact firstBad_none h i (by omega) (by omega)
theorem firstBad_some {e : Nat → Int} : ∀ {n k j : Nat}, firstBad e k n = some j → k ≤ j ∧ j < k + n ∧ e j ≠ 0 ∧ ∀ i, k ≤ i → i < j → e i = 0
  | 0, k, j, h => by cases h
  | n + 1, k, j, h => by
    unfold firstBad at h
    split at h
    · rename_i h0
      cases h
      exact ⟨Nat.le_refl _, by omega, h0, fun i h1 h2 => by omega⟩
    · rename_i h0
      obtain ⟨a, b, c, d⟩ := firstBad_some h
      refine ⟨by omega, by omega, c, fun i h1 h2 => ?_⟩
      by_cases hi : i = k
      · subst hi; simpa using h0
      · exact d i (by omega) h2
def atE (e : Nat → Int) (n : Nat) : AV := match firstBad e 0 n with | some k => .tup [.int .i64 k, .int .i64 (e k)] | none => .tup [.int .i64 0, .int .i64 0]

def cellE (fe r : Nat) (least : Int) (c : Card) : ABlk := .cells [.str c.name, .lst 0 1 (I c.edge), .clo fe [] [.ref r 0], .int .i64 least]
theorem c53 (f : Nat) (cap : List AV) (fe r : Nat) (least : Int) (l : List Card) (t z : Nat) (hz : l ≠ [] → z = 4) (h : Heap) (hr : r < h.b.length) (hl : l.length < 1000000000000000000) (e : Nat → Int)
   (hp : ∀ (k : Nat) c, l[k]? = some c → ∀ u, callAV tabX (EW tabX) false (.clo f [] cap) [.int .i64 k, eE fe r least c] ⟨h.b ++ u, h.t⟩ = some (.int .i64 (e k), ⟨h.b ++ u, h.t⟩)) :
   (EW tabX).call 114 [.lst t z (l.map (eE fe r least)), .clo f [] cap] h = some (atE e l.length, h) := by
  obtain ⟨B, ht⟩ := h
  rw [w_call _ fn_114 rfl]
  simp only [go_sem, ↓reduceIte, simprocAttr]
  simp only [callAV_clo] at hp
  have step : ∀ k c, l[k]? = some c → B ++ (l.take (k + 1)).map (cellE fe r least) = B ++ (l.take k).map (cellE fe r least) ++ [cellE fe r least c] := fun k c hx => by rw [map_succ _ hx, List.append_assoc]
  have room : ∀ k, r < (B ++ (l.take k).map (cellE fe r least)).length + 1 := fun k => by rw [List.length_append]; simp only at hr; omega
  cases hf : firstBad e 0 l.length with
  | some n =>
    obtain ⟨_, hn, hen, hlt⟩ := firstBad_some hf
    have hn : n < l.length := by omega
    rw [w_rounds_h (fun k => [(11, .int .i64 k)]) (fun k => ⟨B ++ (l.take k).map (cellE fe r least), ht⟩) n .ret [(4, .int .i64 n), (5, .int .i64 (e n)), (6, .int .i64 n), (7, .ref (B ++ (l.take n).map (cellE fe r least)).length 0), (8, .int .i64 (e n)), (11, .int .i64 n)] ⟨B ++ (l.take (n + 1)).map (cellE fe r least), ht⟩ ?_ ?_ ?_ ?_ rfl]
    · simp only [go_sem, ↓reduceIte, simprocAttr, atE, hf]
    · simp only [go_sem, ↓reduceIte, simprocAttr]
    · simp only [go_sem, ↓reduceIte, simprocAttr]
    · intro k hk
      have hx := List.getElem?_eq_getElem (show k < l.length by omega)
      have hki : (k : Int) < l.length := by omega
      have hz1 := hz (by intro e; rw [e] at hki; simp at hki; omega)
      subst hz1
      rw [step k _ hx]
      have hpk := hp k _ hx ((l.take k).map (cellE fe r least) ++ [cellE fe r least l[k]])
      have h0 := hlt k (by omega) hk
      have hrk := room k
      rw [← List.append_assoc, h0] at hpk
      generalize B ++ (l.take k).map (cellE fe r least) = C at hpk hrk ⊢
      simp only [eE, cellE] at hpk
      simp (disch := omega) only [go_sem, ↓reduceIte, simprocAttr, hki, hrk, eE_get, hx, eE, ↓hpk, wrap_i64, cellE, bne_self_eq_false]
    · have hx := List.getElem?_eq_getElem hn
      have hki : (n : Int) < l.length := by omega
      have hz1 := hz (by intro e; rw [e] at hn; simp at hn)
      subst hz1
      rw [step n _ hx]
      have hpk := hp n _ hx ((l.take n).map (cellE fe r least) ++ [cellE fe r least l[n]])
      have hne : (e n != 0) = true := by simpa using hen
      have hrk := room n
      rw [← List.append_assoc] at hpk
      generalize B ++ (l.take n).map (cellE fe r least) = C at hpk hrk ⊢
      simp only [eE, cellE] at hpk
      simp (disch := omega) only [go_sem, ↓reduceIte, simprocAttr, hki, hrk, eE_get, hx, eE, ↓hpk, wrap_i64, cellE, hne]
  | none =>
    have h0 := firstBad_none hf
    rw [w_rounds_h (fun k => [(11, .int .i64 k)]) (fun k => ⟨B ++ (l.take k).map (cellE fe r least), ht⟩) l.length (.exit 0) [(11, .int .i64 l.length)] ⟨B ++ l.map (cellE fe r least), ht⟩ ?_ ?_ ?_ ?_ rfl]
    · simp only [go_sem, ↓reduceIte, simprocAttr, atE, hf]
    · simp only [go_sem, ↓reduceIte, simprocAttr]
    · simp only [go_sem, ↓reduceIte, simprocAttr]
    · intro k hk
      have hx := List.getElem?_eq_getElem hk
      have hki : (k : Int) < l.length := by omega
      have hz1 := hz (by intro e; rw [e] at hki; simp at hki; omega)
      subst hz1
      rw [step k _ hx]
      have hpk := hp k _ hx ((l.take k).map (cellE fe r least) ++ [cellE fe r least l[k]])
      have h0 := h0 k (by omega) (by omega)
      have hrk := room k
      rw [← List.append_assoc, h0] at hpk
      generalize B ++ (l.take k).map (cellE fe r least) = C at hpk hrk ⊢
      simp only [eE, cellE] at hpk
      simp (disch := omega) only [go_sem, ↓reduceIte, simprocAttr, hki, hrk, eE_get, hx, eE, ↓hpk, wrap_i64, cellE, bne_self_eq_false]
    · simp only [go_sem, ↓reduceIte, simprocAttr, Int.lt_irrefl]
end Go.Proofs.YtiighcpimecehaaGreat
end
section
namespace Go.Proofs.YtiighcpimecehaaGreat
open Go.Proofs

theorem c52 (n : Int) (d : Dr) (r : Nat) (h : Heap) (hr : h.b[r]? = some (.cells (eDc d))) : (EW tabX).call 113 [.int .i64 n, .ref r 0] h = some (.bool (n != d.steps), h) := by
  obtain ⟨B, ht⟩ := h
  have hr : B[r]? = some (.cells (eDc d)) := hr
  rw [w_call _ fn_113 rfl]
  simp only [go_sem, ↓reduceIte, simprocAttr, hr, eDc]
theorem c56 (n : Int) (d : Dr) (r : Nat) (h : Heap) (hr : h.b[r]? = some (.cells (eDc d))) : (EW tabX).call 117 [.int .i64 n, .ref r 0] h = some (.bool (out d.least d.steps n), h) := by
  obtain ⟨B, ht⟩ := h
  have hr : B[r]? = some (.cells (eDc d)) := hr
  rw [w_call _ fn_117 rfl]
  simp only [go_sem, ↓reduceIte, simprocAttr, hr, eDc, c51_1]

theorem c54 (g : Nat) (hg : g = 115 ∨ g = 118) (fe : Nat) (hfe : retRef tabX fe = false) (least : Int) (l : List Card) (t z : Nat) (hz : l ≠ [] → z = 4) (i : Nat) (x : Card) (hx : l[i]? = some x) (r q : Nat) (h : Heap) (hr : r < h.b.length)
   (hq : h.b[q]? = some (.cells [.lst t z (l.map (eE fe r least))])) (hn : x.name.size < 1000000000000000000) (he : x.edge.length < 1000000000000000000) (hl : l.length < 1000000000000000000) (long : Int → Bool)
   (hlong : ∀ n u, callAV tabX (EW tabX) false (.clo fe [] [.ref r 0]) [.int .i64 n] ⟨h.b ++ u, h.t⟩ = some (.bool (long n), ⟨h.b ++ u, h.t⟩)) :
   (EW tabX).call g [.int .i64 i, eE fe r least x, .ref q 0] h = some (.int .i64 (flawE l i long least), h) := by
  obtain ⟨B, ht⟩ := h
  have hne : l ≠ [] := by intro e; rw [e] at hx; simp at hx
  have hz1 := hz hne
  subst hz1
  have hq : B[q]? = some (.cells [.lst t 4 (l.map (eE fe r least))]) := hq
  have hq' := old hq
  have hr1 : r < B.length + 1 := by simp only at hr; omega
  have hcl := eE_clean fe r least l hne
  have h55 := c55 fe r least l t i x hx ⟨B ++ [cellE fe r least x], ht⟩ (by simp only [List.length_append, List.length_cons, List.length_nil]; omega) hn he hl long (fun n u => by
    have := hlong n ([cellE fe r least x] ++ u)
    simp only [← List.append_assoc] at this
    exact this)
  simp only [cellE] at h55
  rcases hg with rfl | rfl
  · rw [w_call _ fn_115 rfl]
    simp only [go_sem, ↓reduceIte, simprocAttr, eE, hr1, hq, hq', hcl, h55]
  · rw [w_call _ fn_118 rfl]
    simp only [go_sem, ↓reduceIte, simprocAttr, eE, hr1, hq, hq', hcl, h55]

def tup3 (x : Int × Int × Int) : AV := .tup [.int .i64 x.1, .int .i64 x.2.1, .int .i64 x.2.2]
def checkT (d : Dr) : Int × Int × Int :=
  if out 1 6 d.steps || (out 1 d.steps d.least || out 0 9 d.wear) then (1, 0, 7)
  else if 4 < d.cards.length then (2, 0, 3)
  else match firstBad (fun i => flawE d.cards i (· != d.steps) 0) 0 d.cards.length with
    | some i => (2, (i : Int), flawE d.cards i (· != d.steps) 0)
    | none =>
      if 4 < d.halves.length then (3, 0, 3)
      else match firstBad (fun i => flawE d.halves i (out d.least d.steps) (-1)) 0 d.halves.length with
        | some i => (3, (i : Int), flawE d.halves i (out d.least d.steps) (-1))
        | none => (0, 0, 0)

structure Dr.fits (d : Dr) : Prop where
  zc : d.cards ≠ [] → d.zc = 2
  zh : d.halves ≠ [] → d.zh = 2
  lc : d.cards.length < 1000000000000000000
  lh : d.halves.length < 1000000000000000000
  nc : ∀ c ∈ d.cards, c.name.size < 1000000000000000000 ∧ c.edge.length < 1000000000000000000
  nh : ∀ c ∈ d.halves, c.name.size < 1000000000000000000 ∧ c.edge.length < 1000000000000000000

theorem eC_get (l : List Card) (k : Nat) : (l.map eC)[k]? = (l[k]?).map eC := by simp
theorem eE_map_succ (f r : Nat) (least : Int) {l : List Card} {k : Nat} {x : Card} (h : l[k]? = some x) : (l.take (k + 1)).map (eE f r least) = (l.take k).map (eE f r least) ++ [eE f r least x] := map_succ _ h
def cellC (c : Card) : ABlk := .cells [.str c.name, .lst 0 1 (I c.edge)]
theorem eC_under (n : Nat) (l : List Card) : underL n (l.map eC) = true := underL_map (fun x => by simp only [eC, go_sem, ↓reduceIte, simprocAttr]) l
theorem eE_under (n f r : Nat) (least : Int) (h : r < n) (l : List Card) : underL n (l.map (eE f r least)) = true := underL_map (fun x => by simp only [eE, go_sem, ↓reduceIte, simprocAttr, h]) l
theorem checkT1 {d : Dr} (h : (out 1 6 d.steps || (out 1 d.steps d.least || out 0 9 d.wear)) = true) : checkT d = (1, 0, 7) := by unfold checkT; rw [if_pos h]
theorem checkT2 {d : Dr} (h : (out 1 6 d.steps || (out 1 d.steps d.least || out 0 9 d.wear)) = false) (h2 : 4 < d.cards.length) : checkT d = (2, 0, 3) := by unfold checkT; rw [if_neg (by rw [h]; decide), if_pos h2]
theorem checkT3 {d : Dr} (h : (out 1 6 d.steps || (out 1 d.steps d.least || out 0 9 d.wear)) = false) (h2 : ¬ 4 < d.cards.length) {i : Nat} (h3 : firstBad (fun i => flawE d.cards i (· != d.steps) 0) 0 d.cards.length = some i) : checkT d = (2, (i : Int), flawE d.cards i (· != d.steps) 0) := by
  unfold checkT; rw [if_neg (by rw [h]; decide), if_neg h2, h3]
theorem checkT4 {d : Dr} (h : (out 1 6 d.steps || (out 1 d.steps d.least || out 0 9 d.wear)) = false) (h2 : ¬ 4 < d.cards.length) (h3 : firstBad (fun i => flawE d.cards i (· != d.steps) 0) 0 d.cards.length = none) (h4 : 4 < d.halves.length) : checkT d = (3, 0, 3) := by
  unfold checkT; rw [if_neg (by rw [h]; decide), if_neg h2, h3]; simp only; rw [if_pos h4]
theorem checkT5 {d : Dr} (h : (out 1 6 d.steps || (out 1 d.steps d.least || out 0 9 d.wear)) = false) (h2 : ¬ 4 < d.cards.length) (h3 : firstBad (fun i => flawE d.cards i (· != d.steps) 0) 0 d.cards.length = none) (h4 : ¬ 4 < d.halves.length)
    {i : Nat} (h5 : firstBad (fun i => flawE d.halves i (out d.least d.steps) (-1)) 0 d.halves.length = some i) : checkT d = (3, (i : Int), flawE d.halves i (out d.least d.steps) (-1)) := by
  unfold checkT; rw [if_neg (by rw [h]; decide), if_neg h2, h3]; simp only; rw [if_neg h4, h5]
theorem checkT6 {d : Dr} (h : (out 1 6 d.steps || (out 1 d.steps d.least || out 0 9 d.wear)) = false) (h2 : ¬ 4 < d.cards.length) (h3 : firstBad (fun i => flawE d.cards i (· != d.steps) 0) 0 d.cards.length = none) (h4 : ¬ 4 < d.halves.length)
    (h5 : firstBad (fun i => flawE d.halves i (out d.least d.steps) (-1)) 0 d.halves.length = none) : checkT d = (0, 0, 0) := by
  unfold checkT; rw [if_neg (by rw [h]; decide), if_neg h2, h3]; simp only; rw [if_neg h4, h5]

def rowB (f : Nat) (least : Int) (T0 : List Bool) (l : List Card) (k : Nat) : ABlk := .cells [.lst (tagT T0 k) (zT 4 k) ((l.take k).map (eE f 0 least))]
def C16 (d : Dr) (f : Nat) (least : Int) (T0 : List Bool) (P : List ABlk) (l : List Card) (k : Nat) : List ABlk := .cells (eDc d) :: rowB f least T0 l k :: (P ++ (l.take k).map cellC)
theorem c16 (d : Dr) (hd : d.fits) (h : Heap) : callPure (EW tabX) 90 [eD d] h = some (tup3 (checkT d), h) := by
  rw [callPure_eq, w_call _ fn_90 rfl]
  cases h1 : (out 1 6 d.steps || (out 1 d.steps d.least || out 0 9 d.wear)) with
  | true =>
    rw [checkT1 h1]
    simp only [go_sem, ↓reduceIte, simprocAttr, eD, eDc, eC_under, c51_1, h1, tup3]
  | false =>
    by_cases h2 : 4 < d.cards.length
    · have h2i : (4 : Int) < d.cards.length := by omega
      rw [checkT2 h1 h2]
      simp only [go_sem, ↓reduceIte, simprocAttr, eD, eDc, eC_under, c51_1, h1, tup3, h2i]
    · have h2i : ¬ (4 : Int) < d.cards.length := by omega
      simp only [go_sem, ↓reduceIte, simprocAttr, eD, eDc, eC_under, c51_1, h1, tup3, h2i]
      rw [w_rounds_h (fun k => [(37, .int .i64 k)]) (fun k => ⟨C16 d 113 0 [] [] d.cards k, T [] k⟩) d.cards.length (.exit 1) [(37, .int .i64 d.cards.length)] ⟨C16 d 113 0 [] [] d.cards d.cards.length, T [] d.cards.length⟩ ?_ ?_ ?_ ?_ rfl]
      rotate_left
      · simp only [go_sem, ↓reduceIte, simprocAttr]
      · simp only [go_sem, ↓reduceIte, simprocAttr, C16, rowB, eDc]
      · intro k hk
        have hx := List.getElem?_eq_getElem hk
        have hki : (k : Int) < d.cards.length := by omega
        have hz := hd.zc (by intro e; rw [e] at hk; simp at hk)
        have ha := fun C => append_step (X := tabX) (t := 184) (e := 186) (sz := 4) [] k C (zT 4 k) 1 4 ((d.cards.take k).map (eE 113 0 0)) [eE 113 0 0 d.cards[k]] (by simp only [go_sem, ↓reduceIte, simprocAttr]) (by simp only [go_sem, ↓reduceIte, simprocAttr])
          (by cases k with | zero => exact .inl ⟨rfl, by simp⟩ | succ k => exact .inr rfl) (.inl rfl) (by omega) (by simp only [go_sem, ↓reduceIte, simprocAttr, List.length_take]; omega) (by simp only [go_sem, ↓reduceIte, simprocAttr, List.length_take]; omega) (by simp only [go_sem, ↓reduceIte, simprocAttr]) (by simp only [go_sem, ↓reduceIte, simprocAttr, eE])
        have hl : 2 ≤ (C16 d 113 0 [] [] d.cards k).length := by simp [C16]
        have hc1 := old (show (C16 d 113 0 [] [] d.cards k)[1]? = some (rowB 113 0 [] d.cards k) from rfl)
        have hset : ∀ y u, (C16 d 113 0 [] [] d.cards k ++ u).set 1 y = ABlk.cells (eDc d) :: y :: ((d.cards.take k).map cellC ++ u) := fun y u => rfl
        have hgoal : C16 d 113 0 [] [] d.cards (k + 1) = ABlk.cells (eDc d) :: rowB 113 0 [] d.cards (k + 1) :: ((d.cards.take k).map cellC ++ [cellC d.cards[k]]) := by simp only [C16, map_succ cellC hx, List.nil_append]
        have hrow : rowB 113 0 [] d.cards (k + 1) = .cells [.lst (tagT [] (k + 1)) 4 ((d.cards.take k).map (eE 113 0 0) ++ [eE 113 0 0 d.cards[k]])] := by simp only [rowB, eE_map_succ 113 0 0 hx, zT_succ]
        rw [hgoal, hrow]
        generalize C16 d 113 0 [] [] d.cards k = C at hl hc1 hset ⊢
        have hu : underL 2 ((d.cards.take k).map (eE 113 0 0)) = true := eE_under 2 113 0 0 (by omega) _
        simp only [eE] at ha
        simp (disch := omega) only [go_sem, ↓reduceIte, simprocAttr, hki, eC_get, hx, hz, eC, hc1, rowB, hset, ha, hu, cellC, wrap_i64]
        rfl
      · simp only [go_sem, ↓reduceIte, simprocAttr, Int.lt_irrefl]
      have hlen : (C16 d 113 0 [] [] d.cards d.cards.length)[0]? = some (.cells (eDc d)) := rfl
      have h53 := c53 115 [.ref 1 0] 113 0 0 d.cards (tagT [] d.cards.length) (zT 4 d.cards.length) (fun hne => zT_pos (List.length_pos_iff.2 hne)) ⟨C16 d 113 0 [] [] d.cards d.cards.length, T [] d.cards.length⟩ (by simp [C16]) (by omega) (fun i => flawE d.cards i (· != d.steps) 0) (fun k c hx u => by
        have hc := hd.nc c (List.mem_of_getElem? hx)
        have := c54 115 (.inl rfl) 113 rr_113 0 d.cards (tagT [] d.cards.length) (zT 4 d.cards.length) (fun hne => zT_pos (List.length_pos_iff.2 hne)) k c hx 0 1 ⟨C16 d 113 0 [] [] d.cards d.cards.length ++ u, T [] d.cards.length⟩ (by simp [C16]) (by simp only [C16, rowB, List.take_length, List.cons_append]; rfl) hc.1 hc.2 (by omega) (· != d.steps) (fun n u' => by
          have := c52 n d 0 ⟨C16 d 113 0 [] [] d.cards d.cards.length ++ u ++ u', T [] d.cards.length⟩ rfl
          simp only [go_sem, ↓reduceIte, simprocAttr] at this ⊢
          exact this)
        simp only [go_sem, ↓reduceIte, simprocAttr, eE] at this ⊢
        exact this)
      have hta := List.take_length (l := d.cards)
      have hC : C16 d 113 0 [] [] d.cards d.cards.length = .cells (eDc d) :: .cells [.lst (tagT [] d.cards.length) (zT 4 d.cards.length) (d.cards.map (eE 113 0 0))] :: d.cards.map cellC := by simp only [C16, rowB, hta, List.nil_append]
      rw [hC] at h53 ⊢
      simp only [eDc] at h53 ⊢
      cases h3 : firstBad (fun i => flawE d.cards i (· != d.steps) 0) 0 d.cards.length with
      | some n =>
        have hne := (firstBad_some h3).2.2.1
        have hne' : (flawE d.cards n (· != d.steps) 0 != 0) = true := by simpa using hne
        rw [checkT3 h1 h2 h3]
        simp only [go_sem, ↓reduceIte, simprocAttr, h53, atE, h3, hne', tup3]
      | none =>
        by_cases h4 : 4 < d.halves.length
        · have h4i : (4 : Int) < d.halves.length := by omega
          rw [checkT4 h1 h2 h3 h4]
          simp only [go_sem, ↓reduceIte, simprocAttr, h53, atE, h3, tup3, eDc, h4i, bne_self_eq_false]
        · have h4i : ¬ (4 : Int) < d.halves.length := by omega
          simp only [go_sem, ↓reduceIte, simprocAttr, h53, atE, h3, tup3, eDc, h4i, bne_self_eq_false]
          rw [w_rounds_h (fun k => [(68, .int .i64 k)]) (fun k => ⟨C16 d 117 (-1) (T [] d.cards.length) (d.cards.map cellC) d.halves k, T (T [] d.cards.length) k⟩) d.halves.length (.exit 3) [(68, .int .i64 d.halves.length)] ⟨C16 d 117 (-1) (T [] d.cards.length) (d.cards.map cellC) d.halves d.halves.length, T (T [] d.cards.length) d.halves.length⟩ ?_ ?_ ?_ ?_ rfl]
          rotate_left
          · simp only [go_sem, ↓reduceIte, simprocAttr]
          · simp only [go_sem, ↓reduceIte, simprocAttr, C16, rowB, eDc]
          · intro k hk
            have hx := List.getElem?_eq_getElem hk
            have hki : (k : Int) < d.halves.length := by omega
            have hz := hd.zh (by intro e; rw [e] at hk; simp at hk)
            have ha := fun C => append_step (X := tabX) (t := 184) (e := 186) (sz := 4) (T [] d.cards.length) k C (zT 4 k) 1 4 ((d.halves.take k).map (eE 117 0 (-1))) [eE 117 0 (-1) d.halves[k]] (by simp only [go_sem, ↓reduceIte, simprocAttr]) (by simp only [go_sem, ↓reduceIte, simprocAttr])
              (by cases k with | zero => exact .inl ⟨rfl, by simp⟩ | succ k => exact .inr rfl) (.inl rfl) (by omega) (by simp only [go_sem, ↓reduceIte, simprocAttr, List.length_take]; omega) (by simp only [go_sem, ↓reduceIte, simprocAttr, List.length_take]; omega) (by simp only [go_sem, ↓reduceIte, simprocAttr]) (by simp only [go_sem, ↓reduceIte, simprocAttr, eE])
            have hl : 2 ≤ (C16 d 117 (-1) (T [] d.cards.length) (d.cards.map cellC) d.halves k).length := by simp [C16]
            have hc1 := old (show (C16 d 117 (-1) (T [] d.cards.length) (d.cards.map cellC) d.halves k)[1]? = some (rowB 117 (-1) (T [] d.cards.length) d.halves k) from rfl)
            have hset : ∀ y u, (C16 d 117 (-1) (T [] d.cards.length) (d.cards.map cellC) d.halves k ++ u).set 1 y = ABlk.cells (eDc d) :: y :: (d.cards.map cellC ++ ((d.halves.take k).map cellC ++ u)) := fun y u => by simp only [C16, List.cons_append, List.append_assoc]; rfl
            have hgoal : C16 d 117 (-1) (T [] d.cards.length) (d.cards.map cellC) d.halves (k + 1) = ABlk.cells (eDc d) :: rowB 117 (-1) (T [] d.cards.length) d.halves (k + 1) :: (d.cards.map cellC ++ ((d.halves.take k).map cellC ++ [cellC d.halves[k]])) := by simp only [C16, map_succ cellC hx, List.nil_append]
            have hrow : rowB 117 (-1) (T [] d.cards.length) d.halves (k + 1) = .cells [.lst (tagT (T [] d.cards.length) (k + 1)) 4 ((d.halves.take k).map (eE 117 0 (-1)) ++ [eE 117 0 (-1) d.halves[k]])] := by simp only [rowB, eE_map_succ 117 0 (-1) hx, zT_succ]
            rw [hgoal, hrow]
            generalize C16 d 117 (-1) (T [] d.cards.length) (d.cards.map cellC) d.halves k = C at hl hc1 hset ⊢
            have hu : underL 2 ((d.halves.take k).map (eE 117 0 (-1))) = true := eE_under 2 117 0 (-1) (by omega) _
            simp only [eE] at ha
            simp (disch := omega) only [go_sem, ↓reduceIte, simprocAttr, hki, eC_get, hx, hz, eC, hc1, rowB, hset, ha, hu, cellC, wrap_i64]
            rfl
          · simp only [go_sem, ↓reduceIte, simprocAttr, Int.lt_irrefl]
          have hlen : (C16 d 117 (-1) (T [] d.cards.length) (d.cards.map cellC) d.halves d.halves.length)[0]? = some (.cells (eDc d)) := rfl
          have h53 := c53 118 [.ref 1 0] 117 0 (-1) d.halves (tagT (T [] d.cards.length) d.halves.length) (zT 4 d.halves.length) (fun hne => zT_pos (List.length_pos_iff.2 hne)) ⟨C16 d 117 (-1) (T [] d.cards.length) (d.cards.map cellC) d.halves d.halves.length, T (T [] d.cards.length) d.halves.length⟩ (by simp [C16]) (by omega) (fun i => flawE d.halves i (out d.least d.steps) (-1)) (fun k c hx u => by
            have hc := hd.nh c (List.mem_of_getElem? hx)
            have := c54 118 (.inr rfl) 117 rr_117 (-1) d.halves (tagT (T [] d.cards.length) d.halves.length) (zT 4 d.halves.length) (fun hne => zT_pos (List.length_pos_iff.2 hne)) k c hx 0 1 ⟨C16 d 117 (-1) (T [] d.cards.length) (d.cards.map cellC) d.halves d.halves.length ++ u, T (T [] d.cards.length) d.halves.length⟩ (by simp [C16]) (by simp only [C16, rowB, List.take_length, List.cons_append]; rfl) hc.1 hc.2 (by omega) (out d.least d.steps) (fun n u' => by
              have := c56 n d 0 ⟨C16 d 117 (-1) (T [] d.cards.length) (d.cards.map cellC) d.halves d.halves.length ++ u ++ u', T (T [] d.cards.length) d.halves.length⟩ rfl
              simp only [go_sem, ↓reduceIte, simprocAttr] at this ⊢
              exact this)
            simp only [go_sem, ↓reduceIte, simprocAttr, eE] at this ⊢
            exact this)
          have hta := List.take_length (l := d.halves)
          have hC : C16 d 117 (-1) (T [] d.cards.length) (d.cards.map cellC) d.halves d.halves.length = .cells (eDc d) :: .cells [.lst (tagT (T [] d.cards.length) d.halves.length) (zT 4 d.halves.length) (d.halves.map (eE 117 0 (-1)))] :: (d.cards.map cellC ++ d.halves.map cellC) := by simp only [C16, rowB, hta]
          rw [hC] at h53 ⊢
          simp only [eDc] at h53 ⊢
          cases h5 : firstBad (fun i => flawE d.halves i (out d.least d.steps) (-1)) 0 d.halves.length with
          | some n =>
            have hne := (firstBad_some h5).2.2.1
            have hne' : (flawE d.halves n (out d.least d.steps) (-1) != 0) = true := by simpa using hne
            rw [checkT5 h1 h2 h3 h4 h5]
            simp only [go_sem, ↓reduceIte, simprocAttr, h53, atE, h5, hne', tup3]
          | none =>
            rw [checkT6 h1 h2 h3 h4 h5]
            simp only [go_sem, ↓reduceIte, simprocAttr, h53, atE, h5, tup3, bne_self_eq_false]
end Go.Proofs.YtiighcpimecehaaGreat
end
section
namespace Go.Proofs.YtiighcpimecehaaGreat
open Go.Proofs

theorem c73 (l : List ByteArray) (s : ByteArray) (z : Nat) (hz : l ≠ [] → z = 1) (hl : l.length < 1000000000000000000) (h : Heap) :
   callPure (EW tabX) 78 [.lst 0 z (S l), .str s] h = some (.int .i64 (if l.findIdx (fun x => x == s) < l.length then l.findIdx (fun x => x == s) else -1), h) := by
  rw [callPure_eq, w_call _ fn_78 rfl]
  simp only [go_sem, ↓reduceIte, simprocAttr]
  rw [w_rounds_u (fun k => [(5, .int .i64 k)]) (l.findIdx (fun x => x == s)) (.exit 0) [(5, .int .i64 (l.findIdx (fun x => x == s)))] ?_ ?_ ?_ rfl]
  · by_cases hf : l.findIdx (fun x => x == s) < l.length
    · have hne : (((l.findIdx (fun x => x == s) : Nat) : Int) == (l.length : Int)) = false := by simp; omega
      simp only [go_sem, ↓reduceIte, simprocAttr, hne, hf]
    · have hn : l.findIdx (fun x => x == s) = l.length := by have := List.findIdx_le_length (p := fun x => x == s) (xs := l); omega
      simp only [go_sem, ↓reduceIte, simprocAttr, hn, Nat.lt_irrefl]
  · simp only [go_sem, ↓reduceIte, simprocAttr]
  · intro k hk
    have hlt : k < l.length := by have := List.findIdx_le_length (p := fun x => x == s) (xs := l); omega
    have hki : (k : Int) < l.length := by omega
    have hx := List.getElem?_eq_getElem hlt
    have hpf : (l[k] == s) = false := by simpa using List.not_of_lt_findIdx hk
    have hz1 := hz (by intro e; rw [e] at hlt; simp at hlt)
    subst hz1
    have hne : (l[k] != s) = true := by simp only [bne, hpf, Bool.not_false]
    simp (disch := omega) only [go_sem, ↓reduceIte, simprocAttr, hki, hx, hne, wrap_i64]
  · by_cases hf : l.findIdx (fun x => x == s) < l.length
    · have hx := List.getElem?_eq_getElem hf
      have hki : ((l.findIdx (fun x => x == s) : Nat) : Int) < l.length := by omega
      have hpt : (l[l.findIdx (fun x => x == s)] == s) = true := List.findIdx_getElem (p := fun x => x == s)
      have hne : (l[l.findIdx (fun x => x == s)] != s) = false := by simp only [bne, hpt, Bool.not_true]
      have hz1 := hz (by intro e; rw [e] at hf; simp at hf)
      subst hz1
      simp (disch := omega) only [go_sem, ↓reduceIte, simprocAttr, hki, hx, hne]
    · have hn : l.findIdx (fun x => x == s) = l.length := by have := List.findIdx_le_length (p := fun x => x == s) (xs := l); omega
      simp only [go_sem, ↓reduceIte, simprocAttr, hn, Int.lt_irrefl]

def fresh (s : ByteArray) (l : List ByteArray) : Int := if nameOk s then (if l.any (fun x => x == s) then 5 else 0) else 6
theorem c58 (l : List ByteArray) (s : ByteArray) (z : Nat) (hz : l ≠ [] → z = 1) (hl : l.length < 1000000000000000000) (hs : s.size < 1000000000000000000) (h : Heap) :
   callPure (EW tabX) 28 [.str s, .lst 0 z (S l)] h = some (.int .i64 (fresh s l), h) := by
  have h73 := c73 l s z hz hl
  have h74 := c74 s hs
  have ha := findIdx_any l (fun x => x == s)
  rw [callPure_eq, w_call _ fn_28 rfl]
  cases h1 : l.any (fun x => x == s) with
  | true =>
    rw [h1] at ha
    cases h2 : nameOk s with
    | true => simp only [go_sem, ↓reduceIte, simprocAttr, h73, h74, ha, h2, fresh, h1]
    | false => simp only [go_sem, ↓reduceIte, simprocAttr, h73, h74, ha, h2, fresh, h1]
  | false =>
    rw [h1] at ha
    cases h2 : nameOk s with
    | true => simp only [go_sem, ↓reduceIte, simprocAttr, h73, h74, ha, h2, fresh, h1]
    | false => simp only [go_sem, ↓reduceIte, simprocAttr, h73, h74, ha, h2, fresh, h1]

theorem all_succ {α : Type} (p : α → Bool) {l : List α} {k : Nat} {x : α} (h : l[k]? = some x) : (l.take (k + 1)).all p = ((l.take k).all p && p x) := by
  rw [List.take_add_one, h]; simp
theorem c59 (l : List Int) (lo : Int) (z : Nat) (hz : l ≠ [] → z = 1) (hl : l.length < 1000000000000000000) (h : Heap) :
   callPure (EW tabX) 29 [.lst 0 z (I l), .int .i64 lo] h = some (.bool (l.all fun n => inR n lo 9), h) := by
  rw [callPure_eq, w_call _ fn_29 rfl]
  simp only [go_sem, ↓reduceIte, simprocAttr]
  rw [w_rounds_u (fun k => [(5, .bool ((l.take k).all fun n => inR n lo 9)), (6, .int .i64 k)]) l.length (.exit 0) [(5, .bool (l.all fun n => inR n lo 9)), (6, .int .i64 l.length)] ?_ ?_ ?_ rfl]
  · simp only [go_sem, ↓reduceIte, simprocAttr]
  · simp only [go_sem, ↓reduceIte, simprocAttr]
  · intro k hk
    have hki : (k : Int) < l.length := by omega
    have hx := List.getElem?_eq_getElem hk
    have hz1 := hz (by intro e; rw [e] at hk; simp at hk)
    subst hz1
    simp (disch := omega) only [go_sem, ↓reduceIte, simprocAttr, hki, hx, c42, wrap_i64, all_succ _ hx]
  · simp only [go_sem, ↓reduceIte, simprocAttr, Int.lt_irrefl]
theorem all_out (l : List Int) (lo hi : Int) : (!l.all fun n => inR n lo hi) = l.any (out lo hi) := by
  induction l with
  | nil => rfl
  | cons x l ih => rw [List.all_cons, List.any_cons, Bool.not_and, ih, ← out_not, Bool.not_not]

theorem flawE_cases {l : List Card} {i : Nat} {x : Card} (hx : l[i]? = some x) (long : Int → Bool) (least : Int) :
    (nameOk x.name = false ∧ flawE l i long least = 6) ∨
    (nameOk x.name = true ∧ (l.take i).any (fun y => y.name == x.name) = true ∧ flawE l i long least = 5) ∨
    (nameOk x.name = true ∧ (l.take i).any (fun y => y.name == x.name) = false ∧ long x.edge.length = true ∧ flawE l i long least = 3) ∨
    (nameOk x.name = true ∧ (l.take i).any (fun y => y.name == x.name) = false ∧ long x.edge.length = false ∧ (x.edge.all fun n => inR n least 9) = false ∧ flawE l i long least = 7) ∨
    (nameOk x.name = true ∧ (l.take i).any (fun y => y.name == x.name) = false ∧ long x.edge.length = false ∧ (x.edge.all fun n => inR n least 9) = true ∧ flawE l i long least = 0) := by
  rw [flawE_at hx, ← all_out]
  cases nameOk x.name <;> cases (l.take i).any (fun y => y.name == x.name) <;> cases long x.edge.length <;> cases (x.edge.all fun n => inR n least 9) <;> simp
def names (l : List Card) : List ByteArray := l.map (·.name)
theorem names_any (l : List Card) (s : ByteArray) : (names l).any (fun x => x == s) = l.any (fun y => y.name == s) := by simp [names, List.any_map]; rfl
theorem names_succ {l : List Card} {k : Nat} {x : Card} (h : l[k]? = some x) : names (l.take (k + 1)) = names (l.take k) ++ [x.name] := map_succ _ h

theorem c17 (d : Dr) (hd : d.fits) (h : Heap) : callPure (EW tabX) 5 [eD d] h = some (tup3 (checkT d), h) := by
  rw [callPure_eq, w_call _ fn_5 rfl]
  have hb : ((!inR d.steps 1 6) || ((!inR d.least 1 d.steps) || (!inR d.wear 0 9))) = (out 1 6 d.steps || (out 1 d.steps d.least || out 0 9 d.wear)) := by simp only [← out_not, Bool.not_not]
  cases h1 : (out 1 6 d.steps || (out 1 d.steps d.least || out 0 9 d.wear)) with
  | true =>
    rw [checkT1 h1]
    rw [h1] at hb
    simp only [go_sem, ↓reduceIte, simprocAttr, eD, eDc, eC_under, c42, hb, tup3]
  | false =>
    rw [h1] at hb
    by_cases h2 : 4 < d.cards.length
    · have h2i : (4 : Int) < d.cards.length := by omega
      rw [checkT2 h1 h2]
      simp only [go_sem, ↓reduceIte, simprocAttr, eD, eDc, eC_under, c42, hb, tup3, h2i]
    · have h2i : ¬ (4 : Int) < d.cards.length := by omega
      simp only [go_sem, ↓reduceIte, simprocAttr, eD, eDc, eC_under, c42, hb, h2i]
      cases h3 : firstBad (fun i => flawE d.cards i (· != d.steps) 0) 0 d.cards.length with
      | some n =>
        obtain ⟨_, hn, hen, hlt⟩ := firstBad_some h3
        have hn : n < d.cards.length := by omega
        rw [checkT3 h1 h2 h3]
        rw [w_rounds_h (fun k => [(5, .lst (tagT [] k) (zT 1 k) (S (names (d.cards.take k)))), (6, .int .i64 k)]) (fun k => ⟨[.cells (eDc d)], T [] k⟩) n .ret [(2, .int .i64 2), (3, .int .i64 n), (4, .int .i64 (flawE d.cards n (· != d.steps) (0))), (5, .lst (tagT [] (n + 1)) 1 (S (names (d.cards.take (n + 1))))), (6, .int .i64 n), (7, .int .i64 (flawE d.cards n (· != d.steps) (0)))] ⟨[.cells (eDc d)], T [] (n + 1)⟩ ?_ ?_ ?_ ?_ rfl]
        rotate_left
        · simp only [go_sem, ↓reduceIte, simprocAttr, names]
        · simp only [go_sem, ↓reduceIte, simprocAttr, eDc]
        · intro k hk
          have hx := List.getElem?_eq_getElem (show k < d.cards.length by omega)
          have hki : (k : Int) < d.cards.length := by omega
          have hz := hd.zc (by intro e; rw [e] at hki; simp at hki; omega)
          have hs := hd.nc _ (List.mem_of_getElem? hx)
          rw [names_succ hx, ← S_snoc]
          have hln : (names (d.cards.take k)).length = k := by simp [names]; omega
          have ha := fun B => append_step (X := tabX) (t := 33) (e := 9) (sz := 1) [] k B (zT 1 k) 1 1 (S (names (d.cards.take k))) [.str d.cards[k].name] (by simp only [go_sem, ↓reduceIte, simprocAttr]) (by simp only [go_sem, ↓reduceIte, simprocAttr])
            (by rcases Nat.eq_zero_or_pos k with e | e; exact .inl ⟨e, by rw [e]; simp [names, S]⟩; exact .inr (zT_pos e)) (.inl rfl) (by omega) (by simp only [go_sem, ↓reduceIte, simprocAttr, hln]; omega) (by simp only [go_sem, ↓reduceIte, simprocAttr, hln]; omega) (by simp only [go_sem, ↓reduceIte, simprocAttr]) (by simp only [go_sem, ↓reduceIte, simprocAttr])
          have hf := c58 (names (d.cards.take k)) d.cards[k].name (zT 1 k) (fun hne => zT_pos (by rcases Nat.eq_zero_or_pos k with e | e; rw [e] at hne; simp [names] at hne; exact e)) (by omega) hs.1
          have h59 := c59 d.cards[k].edge (0) 1 (fun _ => rfl) hs.2
          have h0 := hlt k (by omega) (by omega)
          simp only [eDc]
          rcases flawE_cases hx (· != d.steps) (0) with ⟨e1, e⟩ | ⟨e1, e2, e⟩ | ⟨e1, e2, e3, e⟩ | ⟨e1, e2, e3, e4, e⟩ | ⟨e1, e2, e3, e4, e⟩
          · rw [e] at h0; cases h0
          · rw [e] at h0; cases h0
          · rw [e] at h0; cases h0
          · rw [e] at h0; cases h0
          · rw [← names_any] at e2
            simp (disch := omega) only [go_sem, ↓reduceIte, simprocAttr, hki, eC_get, hx, hz, eC, ha, hf, fresh, e1, e2, e3, e4, h59, eC_under, wrap_i64, c42]
        · have hx := List.getElem?_eq_getElem (show n < d.cards.length by omega)
          have hki : (n : Int) < d.cards.length := by omega
          have hz := hd.zc (by intro e; rw [e] at hki; simp at hki; omega)
          have hs := hd.nc _ (List.mem_of_getElem? hx)
          rw [names_succ hx, ← S_snoc]
          have hln : (names (d.cards.take n)).length = n := by simp [names]; omega
          have ha := fun B => append_step (X := tabX) (t := 33) (e := 9) (sz := 1) [] n B (zT 1 n) 1 1 (S (names (d.cards.take n))) [.str d.cards[n].name] (by simp only [go_sem, ↓reduceIte, simprocAttr]) (by simp only [go_sem, ↓reduceIte, simprocAttr])
            (by rcases Nat.eq_zero_or_pos n with e | e; exact .inl ⟨e, by rw [e]; simp [names, S]⟩; exact .inr (zT_pos e)) (.inl rfl) (by omega) (by simp only [go_sem, ↓reduceIte, simprocAttr, hln]; omega) (by simp only [go_sem, ↓reduceIte, simprocAttr, hln]; omega) (by simp only [go_sem, ↓reduceIte, simprocAttr]) (by simp only [go_sem, ↓reduceIte, simprocAttr])
          have hf := c58 (names (d.cards.take n)) d.cards[n].name (zT 1 n) (fun hne => zT_pos (by rcases Nat.eq_zero_or_pos n with e | e; rw [e] at hne; simp [names] at hne; exact e)) (by omega) hs.1
          have h59 := c59 d.cards[n].edge (0) 1 (fun _ => rfl) hs.2
          simp only [eDc]
          rcases flawE_cases hx (· != d.steps) (0) with ⟨e1, e⟩ | ⟨e1, e2, e⟩ | ⟨e1, e2, e3, e⟩ | ⟨e1, e2, e3, e4, e⟩ | ⟨e1, e2, e3, e4, e⟩
          · simp (disch := omega) only [go_sem, ↓reduceIte, simprocAttr, hki, eC_get, hx, hz, eC, ha, hf, fresh, e1, e, h59, eC_under, wrap_i64, c42]
          · rw [← names_any] at e2
            simp (disch := omega) only [go_sem, ↓reduceIte, simprocAttr, hki, eC_get, hx, hz, eC, ha, hf, fresh, e1, e2, e, h59, eC_under, wrap_i64, c42]
          · rw [← names_any] at e2
            simp (disch := omega) only [go_sem, ↓reduceIte, simprocAttr, hki, eC_get, hx, hz, eC, ha, hf, fresh, e1, e2, e3, e, h59, eC_under, wrap_i64, c42]
          · rw [← names_any] at e2
            simp (disch := omega) only [go_sem, ↓reduceIte, simprocAttr, hki, eC_get, hx, hz, eC, ha, hf, fresh, e1, e2, e3, e4, e, h59, eC_under, wrap_i64, c42]
          · exact absurd e hen
        simp only [go_sem, ↓reduceIte, simprocAttr, tup3]
      | none =>
        rw [w_rounds_h (fun k => [(5, .lst (tagT [] k) (zT 1 k) (S (names (d.cards.take k)))), (6, .int .i64 k)]) (fun k => ⟨[.cells (eDc d)], T [] k⟩) d.cards.length (.exit 0) [(5, .lst (tagT [] d.cards.length) (zT 1 d.cards.length) (S (names d.cards))), (6, .int .i64 d.cards.length)] ⟨[.cells (eDc d)], T [] d.cards.length⟩ ?_ ?_ ?_ ?_ rfl]
        rotate_left
        · simp only [go_sem, ↓reduceIte, simprocAttr, names]
        · simp only [go_sem, ↓reduceIte, simprocAttr, eDc]
        · intro k hk
          have hx := List.getElem?_eq_getElem (show k < d.cards.length by omega)
          have hki : (k : Int) < d.cards.length := by omega
          have hz := hd.zc (by intro e; rw [e] at hki; simp at hki; omega)
          have hs := hd.nc _ (List.mem_of_getElem? hx)
          rw [names_succ hx, ← S_snoc]
          have hln : (names (d.cards.take k)).length = k := by simp [names]; omega
          have ha := fun B => append_step (X := tabX) (t := 33) (e := 9) (sz := 1) [] k B (zT 1 k) 1 1 (S (names (d.cards.take k))) [.str d.cards[k].name] (by simp only [go_sem, ↓reduceIte, simprocAttr]) (by simp only [go_sem, ↓reduceIte, simprocAttr])
            (by rcases Nat.eq_zero_or_pos k with e | e; exact .inl ⟨e, by rw [e]; simp [names, S]⟩; exact .inr (zT_pos e)) (.inl rfl) (by omega) (by simp only [go_sem, ↓reduceIte, simprocAttr, hln]; omega) (by simp only [go_sem, ↓reduceIte, simprocAttr, hln]; omega) (by simp only [go_sem, ↓reduceIte, simprocAttr]) (by simp only [go_sem, ↓reduceIte, simprocAttr])
          have hf := c58 (names (d.cards.take k)) d.cards[k].name (zT 1 k) (fun hne => zT_pos (by rcases Nat.eq_zero_or_pos k with e | e; rw [e] at hne; simp [names] at hne; exact e)) (by omega) hs.1
          have h59 := c59 d.cards[k].edge (0) 1 (fun _ => rfl) hs.2
          have h0 := firstBad_none h3 k (by omega) (by omega)
          simp only [eDc]
          rcases flawE_cases hx (· != d.steps) (0) with ⟨e1, e⟩ | ⟨e1, e2, e⟩ | ⟨e1, e2, e3, e⟩ | ⟨e1, e2, e3, e4, e⟩ | ⟨e1, e2, e3, e4, e⟩
          · rw [e] at h0; cases h0
          · rw [e] at h0; cases h0
          · rw [e] at h0; cases h0
          · rw [e] at h0; cases h0
          · rw [← names_any] at e2
            simp (disch := omega) only [go_sem, ↓reduceIte, simprocAttr, hki, eC_get, hx, hz, eC, ha, hf, fresh, e1, e2, e3, e4, h59, eC_under, wrap_i64, c42]
        · simp only [go_sem, ↓reduceIte, simprocAttr, Int.lt_irrefl, eDc]
        by_cases h4 : 4 < d.halves.length
        · have h4i : (4 : Int) < d.halves.length := by omega
          rw [checkT4 h1 h2 h3 h4]
          simp only [go_sem, ↓reduceIte, simprocAttr, tup3, eDc, h4i]
        · have h4i : ¬ (4 : Int) < d.halves.length := by omega
          simp only [go_sem, ↓reduceIte, simprocAttr, eDc, h4i]
          cases h5 : firstBad (fun i => flawE d.halves i (out d.least d.steps) (-1)) 0 d.halves.length with
          | some n =>
            obtain ⟨_, hn, hen, hlt⟩ := firstBad_some h5
            have hn : n < d.halves.length := by omega
            rw [checkT5 h1 h2 h3 h4 h5]
            rw [w_rounds_h (fun k => [(5, .lst (tagT (T [] d.cards.length) k) (zT 1 k) (S (names (d.halves.take k)))), (8, .int .i64 k)]) (fun k => ⟨[.cells (eDc d)], T (T [] d.cards.length) k⟩) n .ret [(2, .int .i64 3), (3, .int .i64 n), (4, .int .i64 (flawE d.halves n (out d.least d.steps) (-1))), (5, .lst (tagT (T [] d.cards.length) (n + 1)) 1 (S (names (d.halves.take (n + 1))))), (8, .int .i64 n), (9, .int .i64 (flawE d.halves n (out d.least d.steps) (-1)))] ⟨[.cells (eDc d)], T (T [] d.cards.length) (n + 1)⟩ ?_ ?_ ?_ ?_ rfl]
            rotate_left
            · simp only [go_sem, ↓reduceIte, simprocAttr, names]
            · simp only [go_sem, ↓reduceIte, simprocAttr, eDc]
            · intro k hk
              have hx := List.getElem?_eq_getElem (show k < d.halves.length by omega)
              have hki : (k : Int) < d.halves.length := by omega
              have hz := hd.zh (by intro e; rw [e] at hki; simp at hki; omega)
              have hs := hd.nh _ (List.mem_of_getElem? hx)
              rw [names_succ hx, ← S_snoc]
              have hln : (names (d.halves.take k)).length = k := by simp [names]; omega
              have ha := fun B => append_step (X := tabX) (t := 33) (e := 9) (sz := 1) (T [] d.cards.length) k B (zT 1 k) 1 1 (S (names (d.halves.take k))) [.str d.halves[k].name] (by simp only [go_sem, ↓reduceIte, simprocAttr]) (by simp only [go_sem, ↓reduceIte, simprocAttr])
                (by rcases Nat.eq_zero_or_pos k with e | e; exact .inl ⟨e, by rw [e]; simp [names, S]⟩; exact .inr (zT_pos e)) (.inl rfl) (by omega) (by simp only [go_sem, ↓reduceIte, simprocAttr, hln]; omega) (by simp only [go_sem, ↓reduceIte, simprocAttr, hln]; omega) (by simp only [go_sem, ↓reduceIte, simprocAttr]) (by simp only [go_sem, ↓reduceIte, simprocAttr])
              have hf := c58 (names (d.halves.take k)) d.halves[k].name (zT 1 k) (fun hne => zT_pos (by rcases Nat.eq_zero_or_pos k with e | e; rw [e] at hne; simp [names] at hne; exact e)) (by omega) hs.1
              have h59 := c59 d.halves[k].edge (-1) 1 (fun _ => rfl) hs.2
              have h0 := hlt k (by omega) (by omega)
              simp only [eDc]
              rcases flawE_cases hx (out d.least d.steps) (-1) with ⟨e1, e⟩ | ⟨e1, e2, e⟩ | ⟨e1, e2, e3, e⟩ | ⟨e1, e2, e3, e4, e⟩ | ⟨e1, e2, e3, e4, e⟩
              · rw [e] at h0; cases h0
              · rw [e] at h0; cases h0
              · rw [e] at h0; cases h0
              · rw [e] at h0; cases h0
              · rw [← names_any] at e2
                have li : inR (d.halves[k].edge.length : Int) d.least d.steps = true := by rw [← out_not, e3]; rfl
                simp (disch := omega) only [go_sem, ↓reduceIte, simprocAttr, hki, eC_get, hx, hz, eC, ha, hf, fresh, e1, e2, e3, e4, h59, eC_under, wrap_i64, c42, li]
            · have hx := List.getElem?_eq_getElem (show n < d.halves.length by omega)
              have hki : (n : Int) < d.halves.length := by omega
              have hz := hd.zh (by intro e; rw [e] at hki; simp at hki; omega)
              have hs := hd.nh _ (List.mem_of_getElem? hx)
              rw [names_succ hx, ← S_snoc]
              have hln : (names (d.halves.take n)).length = n := by simp [names]; omega
              have ha := fun B => append_step (X := tabX) (t := 33) (e := 9) (sz := 1) (T [] d.cards.length) n B (zT 1 n) 1 1 (S (names (d.halves.take n))) [.str d.halves[n].name] (by simp only [go_sem, ↓reduceIte, simprocAttr]) (by simp only [go_sem, ↓reduceIte, simprocAttr])
                (by rcases Nat.eq_zero_or_pos n with e | e; exact .inl ⟨e, by rw [e]; simp [names, S]⟩; exact .inr (zT_pos e)) (.inl rfl) (by omega) (by simp only [go_sem, ↓reduceIte, simprocAttr, hln]; omega) (by simp only [go_sem, ↓reduceIte, simprocAttr, hln]; omega) (by simp only [go_sem, ↓reduceIte, simprocAttr]) (by simp only [go_sem, ↓reduceIte, simprocAttr])
              have hf := c58 (names (d.halves.take n)) d.halves[n].name (zT 1 n) (fun hne => zT_pos (by rcases Nat.eq_zero_or_pos n with e | e; rw [e] at hne; simp [names] at hne; exact e)) (by omega) hs.1
              have h59 := c59 d.halves[n].edge (-1) 1 (fun _ => rfl) hs.2
              simp only [eDc]
              rcases flawE_cases hx (out d.least d.steps) (-1) with ⟨e1, e⟩ | ⟨e1, e2, e⟩ | ⟨e1, e2, e3, e⟩ | ⟨e1, e2, e3, e4, e⟩ | ⟨e1, e2, e3, e4, e⟩
              · simp (disch := omega) only [go_sem, ↓reduceIte, simprocAttr, hki, eC_get, hx, hz, eC, ha, hf, fresh, e1, e, h59, eC_under, wrap_i64, c42]
              · rw [← names_any] at e2
                simp (disch := omega) only [go_sem, ↓reduceIte, simprocAttr, hki, eC_get, hx, hz, eC, ha, hf, fresh, e1, e2, e, h59, eC_under, wrap_i64, c42]
              · rw [← names_any] at e2
                have li : inR (d.halves[n].edge.length : Int) d.least d.steps = false := by rw [← out_not, e3]; rfl
                simp (disch := omega) only [go_sem, ↓reduceIte, simprocAttr, hki, eC_get, hx, hz, eC, ha, hf, fresh, e1, e2, e3, e, h59, eC_under, wrap_i64, c42, li]
              · rw [← names_any] at e2
                have li : inR (d.halves[n].edge.length : Int) d.least d.steps = true := by rw [← out_not, e3]; rfl
                simp (disch := omega) only [go_sem, ↓reduceIte, simprocAttr, hki, eC_get, hx, hz, eC, ha, hf, fresh, e1, e2, e3, e4, e, h59, eC_under, wrap_i64, c42, li]
              · exact absurd e hen
            simp only [go_sem, ↓reduceIte, simprocAttr, tup3]
          | none =>
            rw [checkT6 h1 h2 h3 h4 h5]
            rw [w_rounds_h (fun k => [(5, .lst (tagT (T [] d.cards.length) k) (zT 1 k) (S (names (d.halves.take k)))), (8, .int .i64 k)]) (fun k => ⟨[.cells (eDc d)], T (T [] d.cards.length) k⟩) d.halves.length (.exit 2) [(5, .lst (tagT (T [] d.cards.length) d.halves.length) (zT 1 d.halves.length) (S (names d.halves))), (8, .int .i64 d.halves.length)] ⟨[.cells (eDc d)], T (T [] d.cards.length) d.halves.length⟩ ?_ ?_ ?_ ?_ rfl]
            rotate_left
            · simp only [go_sem, ↓reduceIte, simprocAttr, names]
            · simp only [go_sem, ↓reduceIte, simprocAttr, eDc]
            · intro k hk
              have hx := List.getElem?_eq_getElem (show k < d.halves.length by omega)
              have hki : (k : Int) < d.halves.length := by omega
              have hz := hd.zh (by intro e; rw [e] at hki; simp at hki; omega)
              have hs := hd.nh _ (List.mem_of_getElem? hx)
              rw [names_succ hx, ← S_snoc]
              have hln : (names (d.halves.take k)).length = k := by simp [names]; omega
              have ha := fun B => append_step (X := tabX) (t := 33) (e := 9) (sz := 1) (T [] d.cards.length) k B (zT 1 k) 1 1 (S (names (d.halves.take k))) [.str d.halves[k].name] (by simp only [go_sem, ↓reduceIte, simprocAttr]) (by simp only [go_sem, ↓reduceIte, simprocAttr])
                (by rcases Nat.eq_zero_or_pos k with e | e; exact .inl ⟨e, by rw [e]; simp [names, S]⟩; exact .inr (zT_pos e)) (.inl rfl) (by omega) (by simp only [go_sem, ↓reduceIte, simprocAttr, hln]; omega) (by simp only [go_sem, ↓reduceIte, simprocAttr, hln]; omega) (by simp only [go_sem, ↓reduceIte, simprocAttr]) (by simp only [go_sem, ↓reduceIte, simprocAttr])
              have hf := c58 (names (d.halves.take k)) d.halves[k].name (zT 1 k) (fun hne => zT_pos (by rcases Nat.eq_zero_or_pos k with e | e; rw [e] at hne; simp [names] at hne; exact e)) (by omega) hs.1
              have h59 := c59 d.halves[k].edge (-1) 1 (fun _ => rfl) hs.2
              have h0 := firstBad_none h5 k (by omega) (by omega)
              simp only [eDc]
              rcases flawE_cases hx (out d.least d.steps) (-1) with ⟨e1, e⟩ | ⟨e1, e2, e⟩ | ⟨e1, e2, e3, e⟩ | ⟨e1, e2, e3, e4, e⟩ | ⟨e1, e2, e3, e4, e⟩
              · rw [e] at h0; cases h0
              · rw [e] at h0; cases h0
              · rw [e] at h0; cases h0
              · rw [e] at h0; cases h0
              · rw [← names_any] at e2
                have li : inR (d.halves[k].edge.length : Int) d.least d.steps = true := by rw [← out_not, e3]; rfl
                simp (disch := omega) only [go_sem, ↓reduceIte, simprocAttr, hki, eC_get, hx, hz, eC, ha, hf, fresh, e1, e2, e3, e4, h59, eC_under, wrap_i64, c42, li]
            · simp only [go_sem, ↓reduceIte, simprocAttr, Int.lt_irrefl, eDc]
            simp only [go_sem, ↓reduceIte, simprocAttr, tup3]
end Go.Proofs.YtiighcpimecehaaGreat
end
section
namespace Go.Proofs.YtiighcpimecehaaGreat
open Go.Proofs

def allTo (p : Nat → Bool) (n : Nat) : Bool := (List.range n).all p
theorem allTo_succ (p : Nat → Bool) (n : Nat) : allTo p (n + 1) = (allTo p n && p n) := by simp [allTo, List.range_succ]
theorem allTo_at {p : Nat → Bool} {n k : Nat} (h : allTo p n = true) (hk : k < n) : p k = true := by
  unfold allTo at h
  rw [List.all_eq_true] at h
  exact h k (by simpa using hk)
theorem allTo_false {p : Nat → Bool} : ∀ {n : Nat}, allTo p n = false → ∃ k, k < n ∧ allTo p k = true ∧ p k = false
  | 0, h => by simp [allTo] at h
  | n + 1, h => by
    cases h1 : allTo p n with
    | false => obtain ⟨k, a, b⟩ := allTo_false h1; exact ⟨k, by omega, b⟩
    | true => rw [allTo_succ, h1] at h; exact ⟨n, by omega, h1, by simpa using h⟩

theorem eC_clean (l : List Card) : cleanL (l.map eC) = some (l.map eC) := cleanL_map (fun x => by simp only [eC, go_sem, ↓reduceIte, simprocAttr]) l
theorem eD_clean (d : Dr) : (eD d).clean = some (eD d) := by simp only [eD, eDc, go_sem, ↓reduceIte, simprocAttr, eC_clean]
def askedE (d : Dr) (n below : Int) : Int := if (checkT d).2.2 = 0 then (if inR n 0 (below - 1) then 0 else 4) else (checkT d).2.2
def fit1 (wear c h : Int) : Bool := h == -1 || inR (c - h) 0 wear
def besideB (wear : Int) (card half : List Int) (at0 : Nat) : Bool := decide (at0 + half.length ≤ card.length) && allTo (fun i => fit1 wear (card.getD (at0 + i) 0) (half.getD i 0)) half.length
def LowK (l : List Int) : Prop := ∀ n ∈ l, -1 ≤ n ∧ n ≤ 9
theorem LowK.get {l : List Int} (h : LowK l) {k : Nat} (hk : k < l.length) : -1 ≤ l[k] ∧ l[k] ≤ 9 := h _ (List.getElem_mem hk)

theorem c67 (d : Dr) (card half : List Int) (at0 : Nat) (hc : LowK card) (hh : LowK half) (lc : card.length < 1000000000000000000) (lh : half.length < 1000000000000000000) (la : at0 < 1000000000000000000) (h : Heap) :
    callPure (EW tabX) 137 [eD d, .lst 0 1 (I card), .lst 0 1 (I half), .int .i64 at0] h = some (.bool (besideB d.wear card half at0), h) := by
  rw [callPure_eq, w_call _ fn_137 rfl]
  by_cases h1 : at0 + half.length ≤ card.length
  · have h1i : ¬ (card.length : Int) < (at0 : Int) + half.length := by omega
    simp (disch := omega) only [go_sem, ↓reduceIte, simprocAttr, eD, eDc, eC_under, wrap_i64, h1i]
    have idx : ∀ k, k < half.length → ((at0 : Int) + k < 0) = False ∧ ((at0 : Int) + k).toNat = at0 + k ∧ (k : Int) < half.length ∧ card[at0 + k]? = some (card.getD (at0 + k) 0) ∧ half[k]? = some (half.getD k 0) ∧ -1 ≤ card.getD (at0 + k) 0 ∧ card.getD (at0 + k) 0 ≤ 9 ∧ -1 ≤ half.getD k 0 ∧ half.getD k 0 ≤ 9 := fun k hk => by
      have hk2 : at0 + k < card.length := by omega
      have a := hc.get hk2
      have b := hh.get hk
      have e1 : card.getD (at0 + k) 0 = card[at0 + k] := by simp [hk2]
      have e2 : half.getD k 0 = half[k] := by simp [hk]
      rw [e1, e2]
      refine ⟨by simp; omega, by omega, by omega, by simp, by simp, a.1, a.2, b.1, b.2⟩
    cases ho : allTo (fun i => fit1 d.wear (card.getD (at0 + i) 0) (half.getD i 0)) half.length with
    | true =>
      rw [w_rounds_u (fun k => [(9, .int .i64 k)]) half.length (.exit 0) [(9, .int .i64 half.length)] ?_ ?_ ?_ rfl]
      · simp only [go_sem, ↓reduceIte, simprocAttr, besideB, h1, ho]
      · simp only [go_sem, ↓reduceIte, simprocAttr]
      · intro k hk
        obtain ⟨i1, i2, i3, i4, i5, i6, i7, i8, i9⟩ := idx k hk
        have hf := allTo_at ho hk
        have ht : (half.getD k 0 != -1 && !inR (card.getD (at0 + k) 0 - half.getD k 0) 0 d.wear) = false := by
          simp only [fit1] at hf
          simp only [bne]
          revert hf
          cases (half.getD k 0 == -1) <;> cases inR (card.getD (at0 + k) 0 - half.getD k 0) 0 d.wear <;> simp
        simp (disch := omega) only [go_sem, ↓reduceIte, simprocAttr, wrap_i64, i1, i2, i3, i4, i5, c42, ht]
      · simp only [go_sem, ↓reduceIte, simprocAttr, Int.lt_irrefl]
    | false =>
      obtain ⟨n, hn, h2, h3⟩ := allTo_false ho
      rw [w_rounds_u (fun k => [(9, .int .i64 k)]) n .ret [(8, .bool false), (9, .int .i64 n)] ?_ ?_ ?_ rfl]
      · simp only [go_sem, ↓reduceIte, simprocAttr, besideB, ho]
      · simp only [go_sem, ↓reduceIte, simprocAttr]
      · intro k hk
        obtain ⟨i1, i2, i3, i4, i5, i6, i7, i8, i9⟩ := idx k (by omega)
        have hf := allTo_at h2 hk
        have ht : (half.getD k 0 != -1 && !inR (card.getD (at0 + k) 0 - half.getD k 0) 0 d.wear) = false := by
          simp only [fit1] at hf
          simp only [bne]
          revert hf
          cases (half.getD k 0 == -1) <;> cases inR (card.getD (at0 + k) 0 - half.getD k 0) 0 d.wear <;> simp
        simp (disch := omega) only [go_sem, ↓reduceIte, simprocAttr, wrap_i64, i1, i2, i3, i4, i5, c42, ht]
      · obtain ⟨i1, i2, i3, i4, i5, i6, i7, i8, i9⟩ := idx n hn
        have ht : (half.getD n 0 != -1 && !inR (card.getD (at0 + n) 0 - half.getD n 0) 0 d.wear) = true := by
          simp only [fit1] at h3
          simp only [bne]
          revert h3
          cases (half.getD n 0 == -1) <;> cases inR (card.getD (at0 + n) 0 - half.getD n 0) 0 d.wear <;> simp
        simp (disch := omega) only [go_sem, ↓reduceIte, simprocAttr, wrap_i64, i1, i2, i3, i4, i5, c42, ht]
  · have h1i : (card.length : Int) < (at0 : Int) + half.length := by omega
    simp (disch := omega) only [go_sem, ↓reduceIte, simprocAttr, eD, eDc, eC_under, wrap_i64, h1i, besideB, h1]
end Go.Proofs.YtiighcpimecehaaGreat
end
section
namespace Go.Proofs.YtiighcpimecehaaGreat
open Go.Proofs

structure Dr.Ok (d : Dr) : Prop where
  s1 : 1 ≤ d.steps
  s6 : d.steps ≤ 6
  l1 : 1 ≤ d.least
  ls : d.least ≤ d.steps
  w0 : 0 ≤ d.wear
  w9 : d.wear ≤ 9
  c4 : d.cards.length ≤ 4
  h4 : d.halves.length ≤ 4
  ce : ∀ c ∈ d.cards, (c.edge.length : Int) = d.steps ∧ ∀ n ∈ c.edge, 0 ≤ n ∧ n ≤ 9
  he : ∀ c ∈ d.halves, d.least ≤ (c.edge.length : Int) ∧ (c.edge.length : Int) ≤ d.steps ∧ ∀ n ∈ c.edge, -1 ≤ n ∧ n ≤ 9
  cn : ∀ (i j : Nat) (x y : Card), d.cards[i]? = some x → d.cards[j]? = some y → j < i → y.name ≠ x.name
  hn : ∀ (i j : Nat) (x y : Card), d.halves[i]? = some x → d.halves[j]? = some y → j < i → y.name ≠ x.name
  ck : ∀ c ∈ d.cards, nameOk c.name = true
  hk : ∀ c ∈ d.halves, nameOk c.name = true

theorem flawE_fine {l : List Card} {i : Nat} {x : Card} (hx : l[i]? = some x) {long : Int → Bool} {least : Int} (h : flawE l i long least = 0) :
    nameOk x.name = true ∧ (l.take i).any (fun y => y.name == x.name) = false ∧ long x.edge.length = false ∧ (x.edge.all fun n => inR n least 9) = true := by
  rcases flawE_cases hx long least with ⟨_, e⟩ | ⟨_, _, e⟩ | ⟨_, _, _, e⟩ | ⟨_, _, _, _, e⟩ | ⟨e1, e2, e3, e4, _⟩
  · rw [h] at e; cases e
  · rw [h] at e; cases e
  · rw [h] at e; cases e
  · rw [h] at e; cases e
  · exact ⟨e1, e2, e3, e4⟩
theorem ba_beq (a b : ByteArray) : (a == b) = true ↔ a = b := by
  cases a with | mk x => cases b with | mk y =>
  show ByteArray.beq _ _ = true ↔ _
  simp only [ByteArray.beq]
  simp
theorem mem_get {α : Type} {l : List α} {x : α} (h : x ∈ l) : ∃ i, i < l.length ∧ l[i]? = some x := by
  obtain ⟨i, hi, e⟩ := List.mem_iff_getElem.1 h
  exact ⟨i, hi, by rw [← e]; exact List.getElem?_eq_getElem hi⟩
theorem apart {l : List Card} (h : ∀ i x, l[i]? = some x → (l.take i).any (fun y => y.name == x.name) = false) (i j : Nat) (x y : Card) (hx : l[i]? = some x) (hy : l[j]? = some y) (hji : j < i) : y.name ≠ x.name := by
  intro e
  have := h i x hx
  rw [List.any_eq_false] at this
  have hm : y ∈ l.take i := List.mem_of_getElem? (i := j) (by rw [List.getElem?_take_of_lt hji]; exact hy)
  have := this y hm
  exact this ((ba_beq _ _).2 e)

theorem ok_of_check {d : Dr} (h : (checkT d).2.2 = 0) : d.Ok ∧ checkT d = (0, 0, 0) := by
  cases h1 : (out 1 6 d.steps || (out 1 d.steps d.least || out 0 9 d.wear)) with
  | true => rw [checkT1 h1] at h; cases h
  | false =>
    by_cases h2 : 4 < d.cards.length
    · rw [checkT2 h1 h2] at h; cases h
    · cases h3 : firstBad (fun i => flawE d.cards i (· != d.steps) 0) 0 d.cards.length with
      | some i => rw [checkT3 h1 h2 h3] at h; exact absurd h (firstBad_some h3).2.2.1
      | none =>
        by_cases h4 : 4 < d.halves.length
        · rw [checkT4 h1 h2 h3 h4] at h; cases h
        · cases h5 : firstBad (fun i => flawE d.halves i (out d.least d.steps) (-1)) 0 d.halves.length with
          | some i => rw [checkT5 h1 h2 h3 h4 h5] at h; exact absurd h (firstBad_some h5).2.2.1
          | none =>
            have hc : ∀ i x, d.cards[i]? = some x → _ := fun i x hx => flawE_fine hx (firstBad_none h3 i (by omega) (by have := (List.getElem?_eq_some_iff.1 hx).1; omega))
            have hh : ∀ i x, d.halves[i]? = some x → _ := fun i x hx => flawE_fine hx (firstBad_none h5 i (by omega) (by have := (List.getElem?_eq_some_iff.1 hx).1; omega))
            simp only [out, Bool.or_eq_false_iff, decide_eq_false_iff_not] at h1
            refine ⟨⟨by omega, by omega, by omega, by omega, by omega, by omega, by omega, by omega, fun c hm => ?_, fun c hm => ?_, apart fun i x hx => (hc i x hx).2.1, apart fun i x hx => (hh i x hx).2.1, fun c hm => ?_, fun c hm => ?_⟩, checkT6 (by simp [out]; omega) h2 h3 h4 h5⟩
            · obtain ⟨i, _, hi⟩ := mem_get hm
              obtain ⟨_, _, e3, e4⟩ := hc i c hi
              rw [List.all_eq_true] at e4
              exact ⟨by simpa using e3, fun n hn => by have := e4 n hn; simp [inR] at this; exact this⟩
            · obtain ⟨i, _, hi⟩ := mem_get hm
              obtain ⟨_, _, e3, e4⟩ := hh i c hi
              rw [List.all_eq_true] at e4
              simp only [out, Bool.or_eq_false_iff, decide_eq_false_iff_not] at e3
              exact ⟨by omega, by omega, fun n hn => by have := e4 n hn; simp [inR] at this; exact this⟩
            · obtain ⟨i, _, hi⟩ := mem_get hm; exact (hc i c hi).1
            · obtain ⟨i, _, hi⟩ := mem_get hm; exact (hh i c hi).1

def vI (l : List Int) : AV := .lst 0 (zT 1 l.length) (I l)
theorem vI_nil : vI [] = .lst 0 0 [] := rfl
theorem vI_under (n : Nat) (l : List Int) : (vI l).under n = true := by simp only [vI, go_sem, ↓reduceIte, simprocAttr]
theorem vI_clean (l : List Int) : (vI l).clean = some (vI l) := by simp only [vI, go_sem, ↓reduceIte, simprocAttr]
def ownI (l : List Int) : AV := .lst (tagT [] l.length) (zT 1 l.length) (I l)
theorem ownI_clean (l : List Int) : (ownI l).clean = some (vI l) := by simp only [ownI, vI, go_sem, ↓reduceIte, simprocAttr]
theorem ownI_under (n : Nat) (l : List Int) : (ownI l).under n = true := by simp only [ownI, go_sem, ↓reduceIte, simprocAttr]
theorem ownI_nil : ownI [] = .lst 1 0 [] := rfl
theorem ownI_app (l : List Int) (x : Int) (hl : l.length < 1000) (B : List ABlk) :
    appendAV tabX 30 (T [] l.length).length ⟨B, T [] l.length⟩ (ownI l) (.lst 1 1 [.int .i64 x]) = some (ownI (l ++ [x]), ⟨B, T [] (l ++ [x]).length⟩) := by
  have := append_step (X := tabX) (t := 30) (e := 3) (sz := 1) [] l.length B (zT 1 l.length) 1 1 (I l) [.int .i64 x] (by simp only [go_sem, ↓reduceIte, simprocAttr]) (by simp only [go_sem, ↓reduceIte, simprocAttr])
    (by rcases Nat.eq_zero_or_pos l.length with e | e; exact .inl ⟨e, by rw [I_len, e]⟩; exact .inr (zT_pos e)) (.inl rfl) (by omega) (by simp only [go_sem, ↓reduceIte, simprocAttr]; omega) (by simp only [go_sem, ↓reduceIte, simprocAttr]; omega) (by simp only [go_sem, ↓reduceIte, simprocAttr]) (by simp only [go_sem, ↓reduceIte, simprocAttr])
  have e : (l ++ [x]).length = l.length + 1 := by simp
  rw [ownI, this, ownI, e, I_snoc]; rfl

def fitsL (d : Dr) (card half : Card) (n : Nat) : List Int := ((List.range n).filter fun s => besideB d.wear card.edge half.edge s).map fun (s : Nat) => (s : Int)
theorem fitsL_succ (d : Dr) (card half : Card) (n : Nat) : fitsL d card half (n + 1) = if besideB d.wear card.edge half.edge n = true then fitsL d card half n ++ [(n : Int)] else fitsL d card half n := by
  unfold fitsL
  rw [List.range_succ, List.filter_append, List.map_append]
  cases h : besideB d.wear card.edge half.edge n <;> simp [h]
theorem fitsL_len (d : Dr) (card half : Card) (n : Nat) : (fitsL d card half n).length ≤ n := by
  unfold fitsL; rw [List.length_map]; have := List.length_filter_le (fun s => besideB d.wear card.edge half.edge s) (List.range n); simpa using this

theorem fitsL_zero (d : Dr) (card half : Card) : fitsL d card half 0 = [] := rfl
theorem c43 (d : Dr) (hd : d.fits) (ho : d.Ok) (c e : Nat) (card half : Card) (hc : d.cards[c]? = some card) (he : d.halves[e]? = some half) (h : Heap) :
    callPure (EW tabX) 96 [eD d, .int .i64 c, .int .i64 e] h = some (vI (fitsL d card half d.steps.toNat), h) := by
  have h67 := c67 d card.edge half.edge
  have hci := ho.ce card (List.mem_of_getElem? hc)
  have hhi := ho.he half (List.mem_of_getElem? he)
  have lc : LowK card.edge := fun n hn => by have := hci.2 n hn; omega
  have lh : LowK half.edge := fun n hn => hhi.2.2 n hn
  have b1 := (hd.nc card (List.mem_of_getElem? hc)).2
  have b2 := (hd.nh half (List.mem_of_getElem? he)).2
  have hs := ho.s6
  have hs1 := ho.s1
  have hz := hd.zc (by intro e; rw [e] at hc; cases hc)
  have hz2 := hd.zh (by intro e'; rw [e'] at he; cases he)
  have hcl := eD_clean d
  rw [callPure_eq, w_call _ fn_96 rfl]
  simp only [go_sem, ↓reduceIte, simprocAttr, eD, eDc, eC_under] at hcl h67 ⊢
  simp only [hz, hz2] at h67
  rw [w_rounds_h (fun k => [(7, ownI (fitsL d card half k)), (8, .int .i64 k)]) (fun k => ⟨[.cells (eDc d)], T [] (fitsL d card half k).length⟩) d.steps.toNat (.exit 0) [(7, ownI (fitsL d card half d.steps.toNat)), (8, .int .i64 d.steps.toNat)] ⟨[.cells (eDc d)], T [] (fitsL d card half d.steps.toNat).length⟩ ?_ ?_ ?_ ?_ rfl]
  · simp only [go_sem, ↓reduceIte, simprocAttr, ownI_clean, ownI_under]
  · simp only [go_sem, ↓reduceIte, simprocAttr, fitsL_zero, ownI_nil]
  · simp only [go_sem, ↓reduceIte, simprocAttr, eDc, fitsL_zero]
  · intro k hk
    have hki : (k : Int) < d.steps := by omega
    have hln := fitsL_len d card half k
    have h67 := h67 k lc lh b1 b2 (by omega)
    have hap := ownI_app (fitsL d card half k) k (by omega)
    rw [fitsL_succ]
    cases hb : besideB d.wear card.edge half.edge k with
    | true =>
      rw [hb] at h67
      simp (disch := omega) only [go_sem, ↓reduceIte, simprocAttr, eDc, hki, eC_get, eC_clean, hc, he, hz, hz2, eC, wrap_i64, h67, hap]
    | false =>
      rw [hb] at h67
      simp (disch := omega) only [go_sem, ↓reduceIte, simprocAttr, eDc, hki, eC_get, eC_clean, hc, he, hz, hz2, eC, wrap_i64, h67]
  · have hn : ((d.steps.toNat : Nat) : Int) = d.steps := by omega
    simp only [go_sem, ↓reduceIte, simprocAttr, hn, Int.lt_irrefl, eDc]

end Go.Proofs.YtiighcpimecehaaGreat
end
section
namespace Go.Proofs.YtiighcpimecehaaGreat
open Go.ChangeShapes Go.WideShapes Go.RowKit Go.Proofs

theorem cells3 : Tryz.prog.cellsOf 3 = 1 := by kernel_rfl
theorem cells25 : Tryz.prog.cellsOf 25 = 5 := by kernel_rfl
theorem cells40 : Tryz.prog.cellsOf 40 = 2 := by kernel_rfl
theorem cells43 : Tryz.prog.cellsOf 43 = 2 := by kernel_rfl
theorem cells9 : Tryz.prog.cellsOf 9 = 1 := by kernel_rfl
theorem cells30 : Tryz.prog.cellsOf 30 = 1 := by kernel_rfl
theorem cells22 : Tryz.prog.cellsOf 22 = 1 := by kernel_rfl
theorem cells23 : Tryz.prog.cellsOf 23 = 1 := by kernel_rfl
theorem bytes3 : Tryz.prog.bytesOf 3 = 8 := by kernel_rfl
theorem bytes40 : Tryz.prog.bytesOf 40 = 40 := by kernel_rfl
theorem bytes43 : Tryz.prog.bytesOf 43 = 40 := by kernel_rfl

section
variable {H : Type} {enc : TypeId × Value → H} {W : World}
set_option maxRecDepth 100000 in
theorem rd_card {e : TypeId} {fs : Array Field} (he : Tryz.prog.underlying e = some (.struct fs)) (hc : Tryz.prog.cellsOf e = 2) (f0 f1 : Field) (h0 : fs[0]? = some f0) (h1 : fs[1]? = some f1) (t0 : f0.type = 9 ∧ f0.offset = 0) (t1 : f1.type = 30 ∧ f1.offset = 1)
    (n : Nat) (cs : List Value) (d : DataW H) (ps : List MemPlace) (hl : cs.length = 2) (h : DataW.trod enc Tryz.prog W 0 (fun _ => true) true n e cs = some (d, ps)) (hw : Light Tryz.prog e d) :
    ∃ y : Card, (y.name.size < 1000000000000000000 ∧ y.edge.length < 1000000000000000000 ∧ ∀ x ∈ y.edge, -9223372036854775808 ≤ x ∧ x ≤ 9223372036854775807) ∧ Rv (Ctx.start tabX W) (eC y) (eVal true cs) ∧ (eVal true cs).cells = cs.toArray := by
  obtain ⟨xs, m, rfl, hx, _, hlen, hf⟩ := DataW.trod_struct he h
  simp only [Prod.mk.injEq] at hx
  obtain ⟨rfl, _⟩ := hx
  obtain ⟨c0, c1, rfl⟩ : ∃ a b, cs = [a, b] := by
    match cs, hl with
    | [a, b], _ => exact ⟨a, b, rfl⟩
  have g0 := hf 0 f0 h0
  have g1 := hf 1 f1 h1
  rw [t0.1, t0.2, cells9] at g0
  rw [t1.1, t1.2, cells30] at g1
  have hs0 : 0 < xs.length := by rw [hlen]; exact (Array.getElem?_eq_some_iff.1 h0).1
  have hs1 : 1 < xs.length := by rw [hlen]; exact (Array.getElem?_eq_some_iff.1 h1).1
  have w0 := light_struct he hw h0 (d := xs[0].1) (by simp [hs0])
  have w1 := light_struct he hw h1 (d := xs[1].1) (by simp [hs1])
  rw [t0.1] at w0
  rw [t1.1] at w1
  rw [List.getElem?_eq_getElem hs0] at g0
  rw [List.getElem?_eq_getElem hs1] at g1
  simp only [List.drop_zero, List.take_succ_cons, List.take_zero, List.drop_succ_cons] at g0 g1
  obtain ⟨s, e0, ex, hsz⟩ := DataW.trod_string Tryz.underlying9 g0
  simp only [List.cons.injEq, and_true] at e0
  subst e0
  have hb0 : s.size ≤ reachBytes := by
    have := w0 s.data.toList.length (by rw [ex]; simp [DataW.weights])
    rw [Array.length_toList] at this; exact this
  obtain ⟨l, z, v, e1, hr, hz, hll, hq⟩ := rd_ints (X := tabX) (W := W) (ps := xs[1].2) Tryz.underlying30 Tryz.underlying3 cells3 bytes3 g1 w1
  simp only [List.cons.injEq, and_true] at e1
  subst e1
  have hr1 := rv_sz (sz := 1) hr hz
  refine ⟨⟨s, l⟩, ⟨by have := reachBytes_lt; show s.size < _; omega, hll, hq⟩, ?_, rfl⟩
  refine .agg _ [.string s, c1] rfl fun i x hx => ?_
  match i, hx with
  | 0, hx => simp at hx; subst hx; exact .str s
  | 1, hx => simp at hx; subst hx; exact hr1
set_option maxRecDepth 100000 in
theorem rd_dr {v : Value} {d : DataW H} {ps : List MemPlace} {b0 : Nat} (hv : Value.okWide Tryz.prog W .any b0 25 v) (h : DataW.Trod enc Tryz.prog W 0 (fun _ => true) true 25 v d ps) (hw : Light Tryz.prog 25 d) :
    ∃ y : Dr, y.fits ∧ Rv (Ctx.start tabX W) (eD y) v := by
  obtain ⟨cs, rfl, hsz⟩ := okWide_struct Tryz.underlying25 hv
  rw [cells25] at hsz
  obtain ⟨n, hn⟩ := h
  obtain ⟨xs, m, rfl, hx, _, hlen, hf⟩ := DataW.trod_struct Tryz.underlying25 hn
  simp only [Prod.mk.injEq] at hx
  obtain ⟨rfl, _⟩ := hx
  simp only [Value.cells] at hf
  obtain ⟨c0, c1, c2, c3, c4, rfl⟩ : ∃ a b c d e, cs = #[a, b, c, d, e] := by
    obtain ⟨l⟩ := cs
    match l, hsz with
    | [a, b, c, d, e], _ => exact ⟨a, b, c, d, e, rfl⟩
  have l5 : xs.length = 5 := by rw [hlen]; rfl
  have g0 : DataW.trod enc Tryz.prog W 0 (fun _ => true) true m 3 ((([c0, c1, c2, c3, c4] : List Value).drop 0).take (Tryz.prog.cellsOf 3)) = xs[0]? := hf 0 _ rfl
  have g1 : DataW.trod enc Tryz.prog W 0 (fun _ => true) true m 3 ((([c0, c1, c2, c3, c4] : List Value).drop 1).take (Tryz.prog.cellsOf 3)) = xs[1]? := hf 1 _ rfl
  have g2 : DataW.trod enc Tryz.prog W 0 (fun _ => true) true m 3 ((([c0, c1, c2, c3, c4] : List Value).drop 2).take (Tryz.prog.cellsOf 3)) = xs[2]? := hf 2 _ rfl
  have g3 : DataW.trod enc Tryz.prog W 0 (fun _ => true) true m 22 ((([c0, c1, c2, c3, c4] : List Value).drop 3).take (Tryz.prog.cellsOf 22)) = xs[3]? := hf 3 _ rfl
  have g4 : DataW.trod enc Tryz.prog W 0 (fun _ => true) true m 23 ((([c0, c1, c2, c3, c4] : List Value).drop 4).take (Tryz.prog.cellsOf 23)) = xs[4]? := hf 4 _ rfl
  have w3 : Light Tryz.prog 22 xs[3].1 := light_struct Tryz.underlying25 hw (i := 3) rfl (d := xs[3].1) (by simp [l5])
  have w4 : Light Tryz.prog 23 xs[4].1 := light_struct Tryz.underlying25 hw (i := 4) rfl (d := xs[4].1) (by simp [l5])
  rw [cells3] at g0 g1 g2
  rw [cells22] at g3
  rw [cells23] at g4
  rw [List.getElem?_eq_getElem (by omega)] at g0 g1 g2 g3 g4
  simp only [List.drop_zero, List.take_succ_cons, List.take_zero, List.drop_succ_cons] at g0 g1 g2 g3 g4
  obtain ⟨n0, e0, _, _⟩ := DataW.trod_int Tryz.underlying3 g0
  obtain ⟨n1, e1, _, _⟩ := DataW.trod_int Tryz.underlying3 g1
  obtain ⟨n2, e2, _, _⟩ := DataW.trod_int Tryz.underlying3 g2
  simp only [List.cons.injEq, and_true] at e0 e1 e2
  subst e0; subst e1; subst e2
  obtain ⟨lc, zc, v3, e3, r3, z3, b3, q3⟩ := rd_slice (X := tabX) eC (fun y => y.name.size < 1000000000000000000 ∧ y.edge.length < 1000000000000000000 ∧ ∀ x ∈ y.edge, -9223372036854775808 ≤ x ∧ x ≤ 9223372036854775807) true 2 cells40 (by omega) (.inl rfl) Tryz.underlying22
    (rd_card Tryz.underlying40 cells40 _ _ rfl rfl ⟨rfl, rfl⟩ ⟨rfl, rfl⟩) (ps := xs[3].2) g3 w3
  obtain ⟨lh, zh, v4, e4, r4, z4, b4, q4⟩ := rd_slice (X := tabX) eC (fun y => y.name.size < 1000000000000000000 ∧ y.edge.length < 1000000000000000000 ∧ ∀ x ∈ y.edge, -9223372036854775808 ≤ x ∧ x ≤ 9223372036854775807) true 2 cells43 (by omega) (.inl rfl) Tryz.underlying23
    (rd_card Tryz.underlying43 cells43 _ _ rfl rfl ⟨rfl, rfl⟩ ⟨rfl, rfl⟩) (ps := xs[4].2) g4 w4
  simp only [List.cons.injEq, and_true] at e3 e4
  subst e3; subst e4
  rw [bytes40] at b3
  rw [bytes43] at b4
  have := reachBytes_lt
  refine ⟨⟨n0, n1, n2, lc, lh, 2, 2⟩, ⟨fun _ => rfl, fun _ => rfl, by simp only; omega, by simp only; omega, fun c hc => ⟨(q3 c hc).1, (q3 c hc).2.1⟩, fun c hc => ⟨(q4 c hc).1, (q4 c hc).2.1⟩⟩, ?_⟩
  refine .agg _ [.int .i64 n0, .int .i64 n1, .int .i64 n2, _, _] rfl fun i x hx => ?_
  match i, hx with
  | 0, hx => obtain rfl : AV.int .i64 n0 = x := Option.some.inj hx; exact .int _ _
  | 1, hx => obtain rfl : AV.int .i64 n1 = x := Option.some.inj hx; exact .int _ _
  | 2, hx => obtain rfl : AV.int .i64 n2 = x := Option.some.inj hx; exact .int _ _
  | 3, hx => obtain rfl : AV.lst 0 2 (lc.map eC) = x := Option.some.inj hx; exact rv_sz r3 z3
  | 4, hx => obtain rfl : AV.lst 0 2 (lh.map eC) = x := Option.some.inj hx; exact rv_sz r4 z4
theorem rv_dr2 {C : Ctx} {y : Dr} (hf : y.fits) {v : Value} (h : Rv C (eD y) v) : Rv C (eD { y with zc := 2, zh := 2 }) v := by
  unfold eD eDc at h ⊢
  cases h with
  | agg cs xs he hh =>
    refine .agg _ _ (by simpa using he) fun i x hx => ?_
    match i, hx with
    | 0, hx => exact hh 0 x hx
    | 1, hx => exact hh 1 x hx
    | 2, hx => exact hh 2 x hx
    | 3, hx => obtain rfl : AV.lst 0 2 (y.cards.map eC) = x := Option.some.inj hx; exact rv_sz (hh 3 _ rfl) hf.zc
    | 4, hx => obtain rfl : AV.lst 0 2 (y.halves.map eC) = x := Option.some.inj hx; exact rv_sz (hh 4 _ rfl) hf.zh
set_option maxRecDepth 100000 in
theorem rd_dr2 {v : Value} {d : DataW H} {ps : List MemPlace} {b0 : Nat} (hv : Value.okWide Tryz.prog W .any b0 25 v) (h : DataW.Trod enc Tryz.prog W 0 (fun _ => true) true 25 v d ps) (hw : Light Tryz.prog 25 d) :
    ∃ y : Dr, (y.fits ∧ y.zc = 2 ∧ y.zh = 2) ∧ Rv (Ctx.start tabX W) (eD y) v := by
  obtain ⟨y, g, r⟩ := rd_dr hv h hw
  exact ⟨{ y with zc := 2, zh := 2 }, ⟨⟨fun _ => rfl, fun _ => rfl, g.lc, g.lh, g.nc, g.nh⟩, rfl, rfl⟩, rv_dr2 g r⟩
end
end Go.Proofs.YtiighcpimecehaaGreat
end
section
namespace Go.Proofs.YtiighcpimecehaaGreat
open Go.Proofs

structure Su where
  name : ByteArray
  pence : Int
  fr : Int
structure Wo where
  says : Int
  sum : Int
  of : Int
  back : Int
  came : Bool
structure Pd where
  sum : Int
  who : Int
structure Mo where
  who : List ByteArray
  sums : List Su
  words : List Wo
  paid : List Pd
  zw : Nat
  zs : Nat
  zo : Nat
  zp : Nat
def eSu (x : Su) : AV := .agg [.str x.name, .int .i64 x.pence, .int .i64 x.fr]
def bSu (x : Su) : ABlk := .cells [.str x.name, .int .i64 x.pence, .int .i64 x.fr]
def eWo (x : Wo) : AV := .agg [.int .i64 x.says, .int .i64 x.sum, .int .i64 x.of, .int .i64 x.back, .bool x.came]
def bWo (x : Wo) : ABlk := .cells [.int .i64 x.says, .int .i64 x.sum, .int .i64 x.of, .int .i64 x.back, .bool x.came]
def ePd (x : Pd) : AV := .agg [.int .i64 x.sum, .int .i64 x.who]
def bPd (x : Pd) : ABlk := .cells [.int .i64 x.sum, .int .i64 x.who]
def eMc (m : Mo) : List AV := [.lst 0 m.zw (S m.who), .lst 0 m.zs (m.sums.map eSu), .lst 0 m.zo (m.words.map eWo), .lst 0 m.zp (m.paid.map ePd)]
def eM (m : Mo) : AV := .agg (eMc m)
theorem eSu_get (l : List Su) (k : Nat) : (l.map eSu)[k]? = (l[k]?).map eSu := by simp
theorem eSu_clean (l : List Su) : cleanL (l.map eSu) = some (l.map eSu) := cleanL_map (fun x => by simp only [eSu, go_sem, ↓reduceIte, simprocAttr]) l
theorem eSu_under (n : Nat) (l : List Su) : underL n (l.map eSu) = true := underL_map (fun x => by simp only [eSu, go_sem, ↓reduceIte, simprocAttr]) l
theorem eSu_var (l : List Su) : (l.map eSu).all AV.var = true := all_map (fun _ => rfl) l
theorem eWo_get (l : List Wo) (k : Nat) : (l.map eWo)[k]? = (l[k]?).map eWo := by simp
theorem eWo_clean (l : List Wo) : cleanL (l.map eWo) = some (l.map eWo) := cleanL_map (fun x => by simp only [eWo, go_sem, ↓reduceIte, simprocAttr]) l
theorem eWo_under (n : Nat) (l : List Wo) : underL n (l.map eWo) = true := underL_map (fun x => by simp only [eWo, go_sem, ↓reduceIte, simprocAttr]) l
theorem eWo_var (l : List Wo) : (l.map eWo).all AV.var = true := all_map (fun _ => rfl) l
theorem ePd_get (l : List Pd) (k : Nat) : (l.map ePd)[k]? = (l[k]?).map ePd := by simp
theorem ePd_clean (l : List Pd) : cleanL (l.map ePd) = some (l.map ePd) := cleanL_map (fun x => by simp only [ePd, go_sem, ↓reduceIte, simprocAttr]) l
theorem ePd_under (n : Nat) (l : List Pd) : underL n (l.map ePd) = true := underL_map (fun x => by simp only [ePd, go_sem, ↓reduceIte, simprocAttr]) l
theorem ePd_var (l : List Pd) : (l.map ePd).all AV.var = true := all_map (fun _ => rfl) l
attribute [go_sem] eSu_clean eWo_clean ePd_clean eSu_under eWo_under ePd_under eSu_var eWo_var ePd_var
theorem S_take (n : Nat) (l : List ByteArray) : (S l).take n = S (l.take n) := by simp [S]
def firstW (e : Nat → Int) (n : Nat) (b : Nat → Option (AExit × St)) (z : Option (AExit × St)) : Option (AExit × St) := match firstBad e 0 n with | some k => b k | none => z
theorem w_first {X : Tab} {f : Nat} {rd : Option Nat} {b : Code} {g : Slots} {h : Heap} {ms : List Nat} (U : Nat → Slots) (H : Nat → Heap) (e : Nat → Int) (n : Nat) (xb : AExit) (Vb : Nat → Slots) (Hb : Nat → Heap) (x : AExit) (V : Slots) (hV : Heap) (h0 : puts g (U 0) = g) (hh : H 0 = h)
    (hs : ∀ k, k < n → e k = 0 → cutS ⟨⟨puts g (U k), []⟩, H k, ms⟩ ((EW X).code f rd b ⟨⟨puts g (U k), []⟩, H k, ms⟩) = some (.normal, ⟨⟨puts g (U (k + 1)), []⟩, H (k + 1), ms⟩))
    (hb : ∀ k, k < n → e k ≠ 0 → cutS ⟨⟨puts g (U k), []⟩, H k, ms⟩ ((EW X).code f rd b ⟨⟨puts g (U k), []⟩, H k, ms⟩) = some (xb, ⟨⟨puts g (Vb k), []⟩, Hb k, ms⟩))
    (he : cutS ⟨⟨puts g (U n), []⟩, H n, ms⟩ ((EW X).code f rd b ⟨⟨puts g (U n), []⟩, H n, ms⟩) = some (x, ⟨⟨puts g V, []⟩, hV, ms⟩)) (hrb : isNormal xb = false) (hr : isNormal x = false) (hm : mapLoop b = none := by rfl) :
    (EW X).code f rd (.loop b) ⟨⟨g, []⟩, h, ms⟩ = firstW e n (fun k => some (xb, ⟨⟨puts g (Vb k), []⟩, Hb k, ms⟩)) (some (x, ⟨⟨puts g V, []⟩, hV, ms⟩)) := by
  unfold firstW
  cases hf : firstBad e 0 n with
  | some k =>
    obtain ⟨_, h1, h2, h3⟩ := firstBad_some hf
    exact w_rounds_h U H k xb (Vb k) (Hb k) h0 hh (fun j hj => hs j (by omega) (h3 j (by omega) hj)) (hb k (by omega) h2) hrb hm
  | none => exact w_rounds_h U H n x V hV h0 hh (fun j hj => hs j hj (firstBad_none hf j (by omega) (by omega))) he hr hm
def failE (most : Int) (e : Nat → Int) (n : Nat) : AV := if most < n then .tup [.int .i64 0, .int .i64 3] else atE e n
def eSt (s : ByteArray) : AV := .str s

theorem m123 (f : Nat) (cap : List AV) (most : Int) (l : List ByteArray) (t z : Nat) (hz : l ≠ [] → z = 1) (h : Heap) (hl : l.length < 1000000000000000000) (e : Nat → Int)
   (hp : ∀ (k : Nat) c, l[k]? = some c → ∀ u, callAV tabX (EW tabX) false (.clo f [] cap) [.int .i64 k, eSt c] ⟨h.b ++ u, h.t⟩ = some (.int .i64 (e k), ⟨h.b ++ u, h.t⟩)) :
   (EW tabX).call 123 [.lst t z (S l), .int .i64 most, .clo f [] cap] h = some (failE most e l.length, h) := by
  obtain ⟨B, ht⟩ := h
  rw [w_call _ fn_123 rfl]
  unfold failE
  by_cases ho : most < l.length
  · simp only [go_sem, ↓reduceIte, simprocAttr, ho]
  simp only [go_sem, ↓reduceIte, simprocAttr, ho]
  simp only [callAV_clo] at hp
  rw [w_first (fun k => [(17, .int .i64 k)]) (fun k => ⟨B, ht⟩) e l.length .ret (fun n => [(6, .int .i64 n), (7, .int .i64 (e n)), (8, .int .i64 n), (9, .str (l.getD n ByteArray.empty)), (10, .int .i64 (e n)), (17, .int .i64 n)]) (fun n => ⟨B, ht⟩) (.exit 0) [(17, .int .i64 l.length)] ⟨B, ht⟩ ?_ ?_ ?_ ?_ ?_ rfl rfl]
  · unfold firstW atE
    cases firstBad e 0 l.length with
    | some n => simp only [go_sem, ↓reduceIte, simprocAttr]
    | none => simp only [go_sem, ↓reduceIte, simprocAttr]
  · simp only [go_sem, ↓reduceIte, simprocAttr]
  · rfl
  · intro k hk h0
    have hx := List.getElem?_eq_getElem hk
    have hki : (k : Int) < l.length := by omega
    have hz1 := hz (by intro e; rw [e] at hki; simp at hki; omega)
    subst hz1
    have hpk := hp k _ hx []
    rw [h0] at hpk
    simp only [eSt, List.append_nil] at hpk
    simp (disch := omega) only [go_sem, ↓reduceIte, simprocAttr, hki, S_get, hx, eSt, ↓hpk, wrap_i64, bne_self_eq_false]
  · intro n hn hen
    have hx := List.getElem?_eq_getElem hn
    have hki : (n : Int) < l.length := by omega
    have hz1 := hz (by intro e; rw [e] at hn; simp at hn)
    subst hz1
    have hne : (e n != 0) = true := by simpa using hen
    have hpk := hp n _ hx []
    have hgd : l.getD n ByteArray.empty = l[n] := by simp [hn]
    rw [hgd]
    simp only [eSt, List.append_nil] at hpk
    simp (disch := omega) only [go_sem, ↓reduceIte, simprocAttr, hki, S_get, hx, eSt, ↓hpk, wrap_i64, hne]
  · simp only [go_sem, ↓reduceIte, simprocAttr, Int.lt_irrefl]

theorem m127 (f : Nat) (cap : List AV) (most : Int) (l : List Su) (t z : Nat) (hz : l ≠ [] → z = 3) (h : Heap) (hl : l.length < 1000000000000000000) (e : Nat → Int)
   (hp : ∀ (k : Nat) c, l[k]? = some c → ∀ u, callAV tabX (EW tabX) false (.clo f [] cap) [.int .i64 k, eSu c] ⟨h.b ++ u, h.t⟩ = some (.int .i64 (e k), ⟨h.b ++ u, h.t⟩)) :
   (EW tabX).call 127 [.lst t z (l.map eSu), .int .i64 most, .clo f [] cap] h = some (failE most e l.length, h) := by
  obtain ⟨B, ht⟩ := h
  rw [w_call _ fn_127 rfl]
  unfold failE
  by_cases ho : most < l.length
  · simp only [go_sem, ↓reduceIte, simprocAttr, ho]
  simp only [go_sem, ↓reduceIte, simprocAttr, ho]
  simp only [callAV_clo] at hp
  have step : ∀ k c, l[k]? = some c → B ++ (l.take (k + 1)).map bSu = B ++ (l.take k).map bSu ++ [bSu c] := fun k c hx => by rw [map_succ _ hx, List.append_assoc]
  rw [w_first (fun k => [(17, .int .i64 k)]) (fun k => ⟨B ++ (l.take k).map bSu, ht⟩) e l.length .ret (fun n => [(6, .int .i64 n), (7, .int .i64 (e n)), (8, .int .i64 n), (9, .ref (B ++ (l.take n).map bSu).length 0), (10, .int .i64 (e n)), (17, .int .i64 n)]) (fun n => ⟨B ++ (l.take (n + 1)).map bSu, ht⟩) (.exit 0) [(17, .int .i64 l.length)] ⟨B ++ l.map bSu, ht⟩ ?_ ?_ ?_ ?_ ?_ rfl rfl]
  · unfold firstW atE
    cases firstBad e 0 l.length with
    | some n => simp only [go_sem, ↓reduceIte, simprocAttr]
    | none => simp only [go_sem, ↓reduceIte, simprocAttr]
  · simp only [go_sem, ↓reduceIte, simprocAttr]
  · simp only [go_sem, ↓reduceIte, simprocAttr]
  · intro k hk h0
    have hx := List.getElem?_eq_getElem hk
    have hki : (k : Int) < l.length := by omega
    have hz1 := hz (by intro e; rw [e] at hki; simp at hki; omega)
    subst hz1
    rw [step k _ hx]
    have hpk := hp k _ hx ((l.take k).map bSu ++ [bSu l[k]])
    rw [← List.append_assoc, h0] at hpk
    generalize B ++ (l.take k).map bSu = C at hpk ⊢
    simp only [eSu, bSu] at hpk
    simp (disch := omega) only [go_sem, ↓reduceIte, simprocAttr, hki, eSu_get, hx, eSu, ↓hpk, wrap_i64, bSu, bne_self_eq_false]
  · intro n hn hen
    have hx := List.getElem?_eq_getElem hn
    have hki : (n : Int) < l.length := by omega
    have hz1 := hz (by intro e; rw [e] at hn; simp at hn)
    subst hz1
    have hne : (e n != 0) = true := by simpa using hen
    rw [step n _ hx]
    have hpk := hp n _ hx ((l.take n).map bSu ++ [bSu l[n]])
    rw [← List.append_assoc] at hpk
    generalize B ++ (l.take n).map bSu = C at hpk ⊢
    simp only [eSu, bSu] at hpk
    simp (disch := omega) only [go_sem, ↓reduceIte, simprocAttr, hki, eSu_get, hx, eSu, ↓hpk, wrap_i64, bSu, hne]
  · simp only [go_sem, ↓reduceIte, simprocAttr, Int.lt_irrefl]

theorem m131 (f : Nat) (cap : List AV) (most : Int) (l : List Wo) (t z : Nat) (hz : l ≠ [] → z = 5) (h : Heap) (hl : l.length < 1000000000000000000) (e : Nat → Int)
   (hp : ∀ (k : Nat) c, l[k]? = some c → ∀ u, callAV tabX (EW tabX) false (.clo f [] cap) [.int .i64 k, eWo c] ⟨h.b ++ u, h.t⟩ = some (.int .i64 (e k), ⟨h.b ++ u, h.t⟩)) :
   (EW tabX).call 131 [.lst t z (l.map eWo), .int .i64 most, .clo f [] cap] h = some (failE most e l.length, h) := by
  obtain ⟨B, ht⟩ := h
  rw [w_call _ fn_131 rfl]
  unfold failE
  by_cases ho : most < l.length
  · simp only [go_sem, ↓reduceIte, simprocAttr, ho]
  simp only [go_sem, ↓reduceIte, simprocAttr, ho]
  simp only [callAV_clo] at hp
  have step : ∀ k c, l[k]? = some c → B ++ (l.take (k + 1)).map bWo = B ++ (l.take k).map bWo ++ [bWo c] := fun k c hx => by rw [map_succ _ hx, List.append_assoc]
  rw [w_first (fun k => [(17, .int .i64 k)]) (fun k => ⟨B ++ (l.take k).map bWo, ht⟩) e l.length .ret (fun n => [(6, .int .i64 n), (7, .int .i64 (e n)), (8, .int .i64 n), (9, .ref (B ++ (l.take n).map bWo).length 0), (10, .int .i64 (e n)), (17, .int .i64 n)]) (fun n => ⟨B ++ (l.take (n + 1)).map bWo, ht⟩) (.exit 0) [(17, .int .i64 l.length)] ⟨B ++ l.map bWo, ht⟩ ?_ ?_ ?_ ?_ ?_ rfl rfl]
  · unfold firstW atE
    cases firstBad e 0 l.length with
    | some n => simp only [go_sem, ↓reduceIte, simprocAttr]
    | none => simp only [go_sem, ↓reduceIte, simprocAttr]
  · simp only [go_sem, ↓reduceIte, simprocAttr]
  · simp only [go_sem, ↓reduceIte, simprocAttr]
  · intro k hk h0
    have hx := List.getElem?_eq_getElem hk
    have hki : (k : Int) < l.length := by omega
    have hz1 := hz (by intro e; rw [e] at hki; simp at hki; omega)
    subst hz1
    rw [step k _ hx]
    have hpk := hp k _ hx ((l.take k).map bWo ++ [bWo l[k]])
    rw [← List.append_assoc, h0] at hpk
    generalize B ++ (l.take k).map bWo = C at hpk ⊢
    simp only [eWo, bWo] at hpk
    simp (disch := omega) only [go_sem, ↓reduceIte, simprocAttr, hki, eWo_get, hx, eWo, ↓hpk, wrap_i64, bWo, bne_self_eq_false]
  · intro n hn hen
    have hx := List.getElem?_eq_getElem hn
    have hki : (n : Int) < l.length := by omega
    have hz1 := hz (by intro e; rw [e] at hn; simp at hn)
    subst hz1
    have hne : (e n != 0) = true := by simpa using hen
    rw [step n _ hx]
    have hpk := hp n _ hx ((l.take n).map bWo ++ [bWo l[n]])
    rw [← List.append_assoc] at hpk
    generalize B ++ (l.take n).map bWo = C at hpk ⊢
    simp only [eWo, bWo] at hpk
    simp (disch := omega) only [go_sem, ↓reduceIte, simprocAttr, hki, eWo_get, hx, eWo, ↓hpk, wrap_i64, bWo, hne]
  · simp only [go_sem, ↓reduceIte, simprocAttr, Int.lt_irrefl]

theorem m133 (f : Nat) (cap : List AV) (most : Int) (l : List Pd) (t z : Nat) (hz : l ≠ [] → z = 2) (h : Heap) (hl : l.length < 1000000000000000000) (e : Nat → Int)
   (hp : ∀ (k : Nat) c, l[k]? = some c → ∀ u, callAV tabX (EW tabX) false (.clo f [] cap) [.int .i64 k, ePd c] ⟨h.b ++ u, h.t⟩ = some (.int .i64 (e k), ⟨h.b ++ u, h.t⟩)) :
   (EW tabX).call 133 [.lst t z (l.map ePd), .int .i64 most, .clo f [] cap] h = some (failE most e l.length, h) := by
  obtain ⟨B, ht⟩ := h
  rw [w_call _ fn_133 rfl]
  unfold failE
  by_cases ho : most < l.length
  · simp only [go_sem, ↓reduceIte, simprocAttr, ho]
  simp only [go_sem, ↓reduceIte, simprocAttr, ho]
  simp only [callAV_clo] at hp
  have step : ∀ k c, l[k]? = some c → B ++ (l.take (k + 1)).map bPd = B ++ (l.take k).map bPd ++ [bPd c] := fun k c hx => by rw [map_succ _ hx, List.append_assoc]
  rw [w_first (fun k => [(17, .int .i64 k)]) (fun k => ⟨B ++ (l.take k).map bPd, ht⟩) e l.length .ret (fun n => [(6, .int .i64 n), (7, .int .i64 (e n)), (8, .int .i64 n), (9, .ref (B ++ (l.take n).map bPd).length 0), (10, .int .i64 (e n)), (17, .int .i64 n)]) (fun n => ⟨B ++ (l.take (n + 1)).map bPd, ht⟩) (.exit 0) [(17, .int .i64 l.length)] ⟨B ++ l.map bPd, ht⟩ ?_ ?_ ?_ ?_ ?_ rfl rfl]
  · unfold firstW atE
    cases firstBad e 0 l.length with
    | some n => simp only [go_sem, ↓reduceIte, simprocAttr]
    | none => simp only [go_sem, ↓reduceIte, simprocAttr]
  · simp only [go_sem, ↓reduceIte, simprocAttr]
  · simp only [go_sem, ↓reduceIte, simprocAttr]
  · intro k hk h0
    have hx := List.getElem?_eq_getElem hk
    have hki : (k : Int) < l.length := by omega
    have hz1 := hz (by intro e; rw [e] at hki; simp at hki; omega)
    subst hz1
    rw [step k _ hx]
    have hpk := hp k _ hx ((l.take k).map bPd ++ [bPd l[k]])
    rw [← List.append_assoc, h0] at hpk
    generalize B ++ (l.take k).map bPd = C at hpk ⊢
    simp only [ePd, bPd] at hpk
    simp (disch := omega) only [go_sem, ↓reduceIte, simprocAttr, hki, ePd_get, hx, ePd, ↓hpk, wrap_i64, bPd, bne_self_eq_false]
  · intro n hn hen
    have hx := List.getElem?_eq_getElem hn
    have hki : (n : Int) < l.length := by omega
    have hz1 := hz (by intro e; rw [e] at hn; simp at hn)
    subst hz1
    have hne : (e n != 0) = true := by simpa using hen
    rw [step n _ hx]
    have hpk := hp n _ hx ((l.take n).map bPd ++ [bPd l[n]])
    rw [← List.append_assoc] at hpk
    generalize B ++ (l.take n).map bPd = C at hpk ⊢
    simp only [ePd, bPd] at hpk
    simp (disch := omega) only [go_sem, ↓reduceIte, simprocAttr, hki, ePd_get, hx, ePd, ↓hpk, wrap_i64, bPd, hne]
  · simp only [go_sem, ↓reduceIte, simprocAttr, Int.lt_irrefl]
section
variable {X : Tab} {f : Nat} {rd : Option Nat} {b : Code}
theorem w_rounds_q {G : Prop} {s0 : St} {x : Option (AExit × St)} (hx : (EW X).code f rd (.loop b) s0 = x) (R : Nat → St → Prop) (n : Nat) (Q : AExit → St → Prop) (h0 : R 0 s0)
    (hs : ∀ k s, k < n → R k s → (∃ s', cutS s ((EW X).code f rd b s) = some (.normal, s') ∧ R (k + 1) s') ∨ ∃ e s', cutS s ((EW X).code f rd b s) = some (e, s') ∧ isNormal e = false ∧ Q e s')
    (he : ∀ s, R n s → ∃ e s', cutS s ((EW X).code f rd b s) = some (e, s') ∧ isNormal e = false ∧ Q e s')
    (hG : ∀ e s', x = some (e, s') → Q e s' → G) (hm : mapLoop b = none := by rfl) : G := by
  have leave : ∀ s e s', cutS s ((EW X).code f rd b s) = some (e, s') → isNormal e = false → (EW X).code f rd (.loop b) s = some (e, s') := fun s e s' h1 h2 => by
    rw [w_loop _ _ _ _ _ hm, h1]
    cases e with
    | normal => cases h2
    | exit i => rfl
    | ret => rfl
  have aux : ∀ m k s, m + k = n → R k s → ∃ e s', (EW X).code f rd (.loop b) s = some (e, s') ∧ Q e s' := by
    intro m
    induction m with
    | zero =>
      intro k s hk hR
      obtain rfl : k = n := by omega
      obtain ⟨e, s', h1, h2, h3⟩ := he s hR
      exact ⟨e, s', leave s e s' h1 h2, h3⟩
    | succ m ih =>
      intro k s hk hR
      rcases hs k s (by omega) hR with ⟨s1, h1, h2⟩ | ⟨e, s', h1, h2, h3⟩
      · obtain ⟨e, s', h3, h4⟩ := ih (k + 1) s1 (by omega) h2
        exact ⟨e, s', by rw [w_loop _ _ _ _ _ hm, h1, thenN_normal]; exact h3, h4⟩
      · exact ⟨e, s', leave s e s' h1 h2, h3⟩
  obtain ⟨e, s', h1, h2⟩ := aux n 0 s0 (by omega) h0
  exact hG e s' (hx.symm.trans h1) h2
end
section
variable {X : Tab} {f : Nat} {rd : Option Nat} {b : Code}
theorem w_rounds_sq {τ : Type} {G : Prop} {g : Slots} {h : Heap} {ms : List Nat} {x : Option (AExit × St)} (hx : (EW X).code f rd (.loop b) ⟨⟨g, []⟩, h, ms⟩ = x)
    (U : Nat → τ → Slots) (Hp : τ → Heap) (R : Nat → τ → Prop) (n : Nat) (Q : AExit → Slots → τ → Prop) (s0 : τ) (h0 : puts g (U 0 s0) = g) (hh : Hp s0 = h) (hR : R 0 s0)
    (hs : ∀ k s, k < n → R k s → (∃ s', cutS ⟨⟨puts g (U k s), []⟩, Hp s, ms⟩ ((EW X).code f rd b ⟨⟨puts g (U k s), []⟩, Hp s, ms⟩) = some (.normal, ⟨⟨puts g (U (k + 1) s'), []⟩, Hp s', ms⟩) ∧ R (k + 1) s') ∨
      ∃ e V s', cutS ⟨⟨puts g (U k s), []⟩, Hp s, ms⟩ ((EW X).code f rd b ⟨⟨puts g (U k s), []⟩, Hp s, ms⟩) = some (e, ⟨⟨puts g V, []⟩, Hp s', ms⟩) ∧ isNormal e = false ∧ Q e V s')
    (he : ∀ s, R n s → ∃ e V s', cutS ⟨⟨puts g (U n s), []⟩, Hp s, ms⟩ ((EW X).code f rd b ⟨⟨puts g (U n s), []⟩, Hp s, ms⟩) = some (e, ⟨⟨puts g V, []⟩, Hp s', ms⟩) ∧ isNormal e = false ∧ Q e V s')
    (hG : ∀ e V s, x = some (e, ⟨⟨puts g V, []⟩, Hp s, ms⟩) → Q e V s → G) (hm : mapLoop b = none := by rfl) : G := by
  refine w_rounds_q (hm := hm) hx (fun k q => ∃ s, q = ⟨⟨puts g (U k s), []⟩, Hp s, ms⟩ ∧ R k s) n (fun e q => ∃ V s, q = ⟨⟨puts g V, []⟩, Hp s, ms⟩ ∧ Q e V s) ⟨s0, by rw [h0, hh], hR⟩ ?_ ?_ ?_
  · rintro k q hk ⟨s, rfl, h2⟩
    rcases hs k s hk h2 with ⟨s', a, c⟩ | ⟨e, V, s', a, b, c⟩
    · exact .inl ⟨_, a, s', rfl, c⟩
    · exact .inr ⟨e, _, a, b, V, s', rfl, c⟩
  · rintro q ⟨s, rfl, h2⟩
    obtain ⟨e, V, s', a, b, c⟩ := he s h2
    exact ⟨e, _, a, b, V, s', rfl, c⟩
  · rintro e q h1 ⟨V, s, rfl, h2⟩
    exact hG e V s h1 h2
end
end Go.Proofs.YtiighcpimecehaaGreat
end
section
namespace Go.Proofs.YtiighcpimecehaaGreat
open Go.Proofs

theorem m135 (n lo hi : Int) (h : Heap) (b1 b2 : Nat) (h1 : h.b[b1]? = some (.cells [.int .i64 lo])) (h2 : h.b[b2]? = some (.cells [.int .i64 hi])) :
   (EW tabX).call 135 [.int .i64 n, .ref b1 0, .ref b2 0] h = some (.bool (decide (n < lo) || decide (hi < n)), h) := by
  obtain ⟨hb, ht⟩ := h
  rw [w_call _ fn_135 rfl]
  by_cases hn : n < lo
  · simp only [go_sem, ↓reduceIte, simprocAttr, h1, h2, hn, Bool.true_or]
  · simp only [go_sem, ↓reduceIte, simprocAttr, h1, h2, hn, Bool.false_or, gt_iff_lt]
theorem m94 (lo hi : Int) (l : List Int) (z : Nat) (hz : l ≠ [] → z = 1) (h : Heap) (hl : l.length < 1000000000000000000) :
   callPure (EW tabX) 94 [.int .i64 lo, .int .i64 hi, .lst 0 z (I l)] h = some (.bool (l.any (out lo hi)), h) := by
  have h68 := c68 135 [] [.ref 0 0, .ref 1 0] l 0 z hz (out lo hi) ⟨[.cells [.int .i64 lo], .cells [.int .i64 hi]], []⟩ hl (fun n _ => by
    have := m135 n lo hi ⟨[.cells [.int .i64 lo], .cells [.int .i64 hi]], []⟩ 0 1 rfl rfl
    simp only [go_sem, ↓reduceIte, simprocAttr, this]; rfl) (by simp only [go_sem, ↓reduceIte, simprocAttr])
  refine pure_of (v := .bool (l.any (out lo hi))) (h1 := ⟨[], []⟩) ?_ (clean_bool _)
  rw [w_call _ fn_94 rfl]
  simp only [go_sem, ↓reduceIte, simprocAttr, h68]
theorem m94_1 (lo hi x : Int) (h : Heap) : callPure (EW tabX) 94 [.int .i64 lo, .int .i64 hi, .lst 0 1 [.int .i64 x]] h = some (.bool (out lo hi x), h) := by
  have := m94 lo hi [x] 1 (fun _ => rfl) h (by simp)
  simpa only [I_c, I_nil, List.any_cons, List.any_nil, Bool.or_false] using this

theorem m158 (l : List ByteArray) (s : ByteArray) (z : Nat) (hz : l ≠ [] → z = 1) (hl : l.length < 1000000000000000000) (h : Heap) :
   callPure (EW tabX) 158 [.lst 0 z (S l), .str s] h = some (.int .i64 (if l.findIdx (fun x => s == x) < l.length then l.findIdx (fun x => s == x) else -1), h) := by
  rw [callPure_eq, w_call _ fn_158 rfl]
  simp only [go_sem, ↓reduceIte, simprocAttr]
  by_cases hf : l.findIdx (fun x => s == x) < l.length
  · rw [w_rounds_u (fun k => [(8, .int .i64 k)]) (l.findIdx (fun x => s == x)) .ret [(4, .int .i64 (l.findIdx (fun x => s == x))), (5, .int .i64 (l.findIdx (fun x => s == x))), (8, .int .i64 (l.findIdx (fun x => s == x)))] ?_ ?_ ?_ rfl]
    · simp only [go_sem, ↓reduceIte, simprocAttr, hf]
    · simp only [go_sem, ↓reduceIte, simprocAttr]
    · intro k hk
      have hlt : k < l.length := by omega
      have hki : (k : Int) < l.length := by omega
      have hx := List.getElem?_eq_getElem hlt
      have hpf : (s == l[k]) = false := by simpa using List.not_of_lt_findIdx hk
      have hz1 := hz (by intro e; rw [e] at hlt; simp at hlt)
      subst hz1
      simp (disch := omega) only [go_sem, ↓reduceIte, simprocAttr, hki, hx, hpf, wrap_i64]
    · have hx := List.getElem?_eq_getElem hf
      have hki : ((l.findIdx (fun x => s == x) : Nat) : Int) < l.length := by omega
      have hpt : (s == l[l.findIdx (fun x => s == x)]) = true := List.findIdx_getElem (p := fun x => s == x)
      have hz1 := hz (by intro e; rw [e] at hf; simp at hf)
      subst hz1
      simp (disch := omega) only [go_sem, ↓reduceIte, simprocAttr, hki, hx, hpt, wrap_i64]
  · have hn : l.findIdx (fun x => s == x) = l.length := by have := List.findIdx_le_length (p := fun x => s == x) (xs := l); omega
    rw [w_rounds_u (fun k => [(8, .int .i64 k)]) (l.length) (.exit 0) [(8, .int .i64 l.length)] ?_ ?_ ?_ rfl]
    · simp only [go_sem, ↓reduceIte, simprocAttr, hf]
    · simp only [go_sem, ↓reduceIte, simprocAttr]
    · intro k hk
      have hki : (k : Int) < l.length := by omega
      have hx := List.getElem?_eq_getElem hk
      have hpf : (s == l[k]) = false := by simpa using List.not_of_lt_findIdx (p := fun x => s == x) (xs := l) (i := k) (by omega)
      have hz1 := hz (by intro e; rw [e] at hk; simp at hk)
      subst hz1
      simp (disch := omega) only [go_sem, ↓reduceIte, simprocAttr, hki, hx, hpf, wrap_i64]
    · simp (disch := omega) only [go_sem, ↓reduceIte, simprocAttr, Int.lt_irrefl]

theorem ba_comm (a b : ByteArray) : (a == b) = (b == a) := by
  rw [Bool.eq_iff_iff, ba_beq, ba_beq]; exact eq_comm
theorem m126 (l : List ByteArray) (s : ByteArray) (z : Nat) (hz : l ≠ [] → z = 1) (hl : l.length < 1000000000000000000) (h : Heap) :
   callPure (EW tabX) 126 [.lst 0 z (S l), .str s] h = some (.bool (l.any fun x => x == s), h) := by
  have h158 := m158 l s z hz hl
  have e : (l.any fun x => s == x) = l.any fun x => x == s := by congr 1; funext x; exact ba_comm _ _
  rw [callPure_eq, w_call _ fn_126 rfl]
  simp only [go_sem, ↓reduceIte, simprocAttr, h158, ge_iff_le, findIdx_any, e]
theorem m159 (f : Nat) (fst cap : List AV) (l : List Su) (t z : Nat) (hz : l ≠ [] → z = 3) (p : Su → Bool) (h : Heap) (hl : l.length < 1000000000000000000)
   (hp : ∀ n ∈ l, callAV tabX (EW tabX) false (.clo f fst cap) [eSu n] h = some (.bool (p n), h)) :
   (EW tabX).call 159 [.lst t z (l.map eSu), .clo f fst cap] h = some (.int .i64 (if l.findIdx p < l.length then l.findIdx p else -1), h) := by
  obtain ⟨hb, ht⟩ := h
  rw [w_call _ fn_159 rfl]
  simp only [go_sem, ↓reduceIte, simprocAttr]
  simp only [callAV_clo] at hp
  by_cases hf : l.findIdx p < l.length
  · rw [w_rounds_u (fun k => [(8, .int .i64 k)]) (l.findIdx p) .ret [(4, .int .i64 (l.findIdx p)), (5, .int .i64 (l.findIdx p)), (8, .int .i64 (l.findIdx p))] ?_ ?_ ?_ rfl]
    · simp only [go_sem, ↓reduceIte, simprocAttr, hf]
    · simp only [go_sem, ↓reduceIte, simprocAttr]
    · intro k hk
      have hlt : k < l.length := by omega
      have hki : (k : Int) < l.length := by omega
      have hx := List.getElem?_eq_getElem hlt
      have hpx := hp l[k] (List.getElem_mem _)
      have hpf : p l[k] = false := by simpa using List.not_of_lt_findIdx hk
      have hz1 := hz (by intro e; rw [e] at hlt; simp at hlt)
      subst hz1
      rw [hpf] at hpx
      simp only [eSu] at hpx
      simp (disch := omega) only [go_sem, ↓reduceIte, simprocAttr, hki, eSu_get, hx, eSu, ↓hpx, wrap_i64]
    · have hx := List.getElem?_eq_getElem hf
      have hki : ((l.findIdx p : Nat) : Int) < l.length := by omega
      have hpx := hp l[l.findIdx p] (List.getElem_mem _)
      have hpt : p l[l.findIdx p] = true := List.findIdx_getElem
      have hz1 := hz (by intro e; rw [e] at hf; simp at hf)
      subst hz1
      rw [hpt] at hpx
      simp only [eSu] at hpx
      simp (disch := omega) only [go_sem, ↓reduceIte, simprocAttr, hki, eSu_get, hx, eSu, ↓hpx, wrap_i64]
  · have hn : l.findIdx p = l.length := by have := List.findIdx_le_length (p := p) (xs := l); omega
    rw [w_rounds_u (fun k => [(8, .int .i64 k)]) (l.length) (.exit 0) [(8, .int .i64 l.length)] ?_ ?_ ?_ rfl]
    · simp only [go_sem, ↓reduceIte, simprocAttr, hf]
    · simp only [go_sem, ↓reduceIte, simprocAttr]
    · intro k hk
      have hki : (k : Int) < l.length := by omega
      have hx := List.getElem?_eq_getElem hk
      have hpx := hp l[k] (List.getElem_mem _)
      have hpf : p l[k] = false := by simpa using List.not_of_lt_findIdx (p := p) (xs := l) (i := k) (by omega)
      have hz1 := hz (by intro e; rw [e] at hk; simp at hk)
      subst hz1
      rw [hpf] at hpx
      simp only [eSu] at hpx
      simp (disch := omega) only [go_sem, ↓reduceIte, simprocAttr, hki, eSu_get, hx, eSu, ↓hpx, wrap_i64]
    · simp (disch := omega) only [go_sem, ↓reduceIte, simprocAttr, Int.lt_irrefl]
theorem m129 (f : Nat) (fst cap : List AV) (l : List Su) (t z : Nat) (hz : l ≠ [] → z = 3) (p : Su → Bool) (h : Heap) (hl : l.length < 1000000000000000000)
   (hp : ∀ n ∈ l, callAV tabX (EW tabX) false (.clo f fst cap) [eSu n] h = some (.bool (p n), h)) (hc : (AV.clo f fst cap).clean = none) :
   (EW tabX).call 129 [.lst t z (l.map eSu), .clo f fst cap] h = some (.bool (l.any p), h) := by
  have h78 := m159 f fst cap l t z hz p h hl hp
  obtain ⟨hb, ht⟩ := h
  rw [w_call _ fn_129 rfl]
  simp only [go_sem, ↓reduceIte, simprocAttr, hc, h78, ge_iff_le, findIdx_any]

structure Mo.fits (m : Mo) : Prop where
  zw : m.who ≠ [] → m.zw = 1
  zs : m.sums ≠ [] → m.zs = 3
  zo : m.words ≠ [] → m.zo = 5
  zp : m.paid ≠ [] → m.zp = 2
  lw : m.who.length < 1000000000000000000
  ls : m.sums.length < 1000000000000000000
  lo : m.words.length < 1000000000000000000
  lp : m.paid.length < 1000000000000000000
  nw : ∀ s ∈ m.who, s.size < 1000000000000000000
  ns : ∀ x ∈ m.sums, x.name.size < 1000000000000000000
def whoE (l : List ByteArray) (i : Nat) (s : ByteArray) : Int := if nameOk s then (if (l.take i).any (fun y => y == s) then 5 else 0) else 6
def bitsN (n : Nat) : Int := 2 ^ n - 1
def sumE (m : Mo) (i : Nat) (x : Su) : Int := if nameOk x.name then (if (m.sums.take i).any (fun y => y.name == x.name) then 5 else if out 1 99 x.pence || out 1 (bitsN m.who.length) x.fr then 7 else 0) else 6
def wordE (m : Mo) (i : Nat) (w : Wo) : Int :=
  if out 0 3 w.says then 7 else
  if out 0 ((m.sums.length : Int) - 1) w.sum || (out 0 ((if 2 ≤ w.says then (m.sums.length : Int) else m.who.length) - 1) w.of || out (-1) ((m.words.length : Int) - 1) w.back) then 4 else
  if w.back == (i : Int) || (decide (2 ≤ w.says) && w.of == w.sum) then 2 else 0
def paidE (m : Mo) (p : Pd) : Int := if out 0 ((m.sums.length : Int) - 1) p.sum || out 0 ((m.who.length : Int) - 1) p.who then 4 else 0

theorem m124 (d : Mo) (hd : d.fits) (r : Nat) (i : Nat) (x : ByteArray) (hx : d.who[i]? = some x) (h : Heap) (hr : h.b[r]? = some (.cells (eMc d))) :
   (EW tabX).call 124 [.int .i64 i, .str x, .ref r 0] h = some (.int .i64 (whoE d.who i x), h) := by
  obtain ⟨B, ht⟩ := h
  have hr : B[r]? = some (.cells (eMc d)) := hr
  simp only [eMc] at hr
  have oR := old hr
  have hi : i < d.who.length := (List.getElem?_eq_some_iff.1 hx).1
  have hil : i ≤ d.who.length := by omega
  have hz := hd.zw (by intro e; rw [e] at hx; simp at hx)
  have h125 := c70 x (hd.nw _ (List.mem_of_getElem? hx))
  have hla := hd.lw
  have h126 := m126 (d.who.take i) x 1 (fun _ => rfl) (by rw [List.length_take]; omega)
  rw [w_call _ fn_124 rfl]
  unfold whoE
  cases h1 : nameOk x with
  | false => simp only [go_sem, ↓reduceIte, simprocAttr, hr, h125, h1]
  | true =>
    cases h2 : (d.who.take i).any (fun y => y == x) with
    | true => simp only [go_sem, ↓reduceIte, simprocAttr, hr, h125, h1, h2, h126, hil, hz, S_take]
    | false => simp only [go_sem, ↓reduceIte, simprocAttr, hr, h125, h1, h2, h126, hil, hz, S_take]
theorem m130 (c : Su) (b : Nat) (x : ByteArray) (xs : List AV) (h : Heap) (hb : h.b[b]? = some (.cells (.str x :: xs))) :
   (EW tabX).call 130 [eSu c, .ref b 0] h = some (.bool (c.name == x), h) := by
  obtain ⟨B, ht⟩ := h
  have h1 : B[b]? = some (.cells (.str x :: xs)) := hb
  have h2 := old h1
  rw [w_call _ fn_130 rfl]
  simp only [go_sem, ↓reduceIte, simprocAttr, eSu, h1, h2]
theorem shl_eq {n : Nat} (h : n ≤ 4) : IntKind.i64.wrap (1 * 2 ^ (min n 64)) = 2 ^ n := by
  have : n = 0 ∨ n = 1 ∨ n = 2 ∨ n = 3 ∨ n = 4 := by omega
  rcases this with rfl | rfl | rfl | rfl | rfl <;> decide
theorem bitsN_le {n : Nat} (h : n ≤ 4) : (2 : Int) ^ n ≤ 16 ∧ 1 ≤ (2 : Int) ^ n := by
  have : n = 0 ∨ n = 1 ∨ n = 2 ∨ n = 3 ∨ n = 4 := by omega
  rcases this with rfl | rfl | rfl | rfl | rfl <;> decide
theorem m128 (d : Mo) (hd : d.fits) (hw : d.who.length ≤ 4) (r : Nat) (i : Nat) (x : Su) (hx : d.sums[i]? = some x) (h : Heap) (hr : h.b[r]? = some (.cells (eMc d))) :
   (EW tabX).call 128 [.int .i64 i, eSu x, .ref r 0] h = some (.int .i64 (sumE d i x), h) := by
  obtain ⟨B, ht⟩ := h
  have hr : B[r]? = some (.cells (eMc d)) := hr
  simp only [eMc] at hr
  have oR := old hr
  have hi : i < d.sums.length := (List.getElem?_eq_some_iff.1 hx).1
  have hil : i ≤ d.sums.length := by omega
  have hz := hd.zs (by intro e; rw [e] at hx; simp at hx)
  have h125 := c70 x.name (hd.ns _ (List.mem_of_getElem? hx))
  have hla := hd.ls
  have h129 := m129 130 [] [.ref B.length 0] (d.sums.take i) 0 3 (fun _ => rfl) (fun y => y.name == x.name) ⟨B ++ [bSu x], ht⟩ (by rw [List.length_take]; omega) (fun n _ => by
    have := m130 n B.length x.name [.int .i64 x.pence, .int .i64 x.fr] ⟨B ++ [bSu x], ht⟩ (by simp [bSu])
    simp only [go_sem, ↓reduceIte, simprocAttr, eSu] at this ⊢
    exact this) (by simp only [go_sem, ↓reduceIte, simprocAttr])
  rw [List.map_take] at h129
  simp only [bSu] at h129
  have hsh := shl_eq hw
  have hb := bitsN_le hw
  have hm : IntKind.i64.wrap ((2 : Int) ^ d.who.length - 1) = bitsN d.who.length := by rw [wrap_i64 (by omega)]; rfl
  rw [w_call _ fn_128 rfl]
  unfold sumE
  cases h1 : nameOk x.name with
  | false => simp only [go_sem, ↓reduceIte, simprocAttr, eSu, oR, h125, h1]
  | true =>
    cases h2 : (d.sums.take i).any (fun y => y.name == x.name) with
    | true => simp only [go_sem, ↓reduceIte, simprocAttr, eSu, oR, h125, h1, h2, h129, hil, hz]
    | false =>
      cases h3 : out 1 99 x.pence with
      | true => simp only [go_sem, ↓reduceIte, simprocAttr, eSu, oR, h125, h1, h2, h129, hil, hz, h3, m94_1]
      | false =>
        cases h4 : out 1 (bitsN d.who.length) x.fr with
        | true => simp only [go_sem, ↓reduceIte, simprocAttr, eSu, oR, h125, h1, h2, h129, hil, hz, h3, m94_1, hsh, hm, h4]
        | false => simp only [go_sem, ↓reduceIte, simprocAttr, eSu, oR, h125, h1, h2, h129, hil, hz, h3, m94_1, hsh, hm, h4]
theorem m134 (d : Mo) (hd : d.fits) (r : Nat) (k : Int) (x : Pd) (h : Heap) (hr : h.b[r]? = some (.cells (eMc d))) :
   (EW tabX).call 134 [.int .i64 k, ePd x, .ref r 0] h = some (.int .i64 (paidE d x), h) := by
  obtain ⟨B, ht⟩ := h
  have hr : B[r]? = some (.cells (eMc d)) := hr
  simp only [eMc] at hr
  have oR := old hr
  have hls := hd.ls
  have hlw := hd.lw
  rw [w_call _ fn_134 rfl]
  unfold paidE
  cases h1 : out 0 ((d.sums.length : Int) - 1) x.sum with
  | true => simp (disch := omega) only [go_sem, ↓reduceIte, simprocAttr, ePd, oR, h1, m94_1, wrap_i64]
  | false =>
    cases h2 : out 0 ((d.who.length : Int) - 1) x.who with
    | true => simp (disch := omega) only [go_sem, ↓reduceIte, simprocAttr, ePd, oR, h1, h2, m94_1, wrap_i64]
    | false => simp (disch := omega) only [go_sem, ↓reduceIte, simprocAttr, ePd, oR, h1, h2, m94_1, wrap_i64]
theorem m132 (d : Mo) (hd : d.fits) (r : Nat) (i : Nat) (x : Wo) (h : Heap) (hr : h.b[r]? = some (.cells (eMc d))) :
   (EW tabX).call 132 [.int .i64 i, eWo x, .ref r 0] h = some (.int .i64 (wordE d i x), h) := by
  obtain ⟨B, ht⟩ := h
  have hr : B[r]? = some (.cells (eMc d)) := hr
  simp only [eMc] at hr
  have oR := old hr
  have hls := hd.ls
  have hlw := hd.lw
  have hlo := hd.lo
  rw [w_call _ fn_132 rfl]
  unfold wordE
  cases h0 : out 0 3 x.says with
  | true =>
    by_cases hs : 2 ≤ x.says
    · simp (disch := omega) only [go_sem, ↓reduceIte, simprocAttr, eWo, oR, h0, hs, m94_1, wrap_i64]
    · simp (disch := omega) only [go_sem, ↓reduceIte, simprocAttr, eWo, oR, h0, hs, m94_1, wrap_i64]
  | false =>
  by_cases hs : 2 ≤ x.says
  · cases h1 : out 0 ((d.sums.length : Int) - 1) x.sum with
    | true => simp (disch := omega) only [go_sem, ↓reduceIte, simprocAttr, eWo, oR, h0, hs, h1, m94_1, wrap_i64]
    | false =>
    cases h2 : out 0 ((d.sums.length : Int) - 1) x.of with
    | true => simp (disch := omega) only [go_sem, ↓reduceIte, simprocAttr, eWo, oR, h0, hs, h1, h2, m94_1, wrap_i64]
    | false =>
    cases h3 : out (-1) ((d.words.length : Int) - 1) x.back with
    | true => simp (disch := omega) only [go_sem, ↓reduceIte, simprocAttr, eWo, oR, h0, hs, h1, h2, h3, m94_1, wrap_i64]
    | false =>
    cases h4 : x.back == (i : Int) with
    | true => simp (disch := omega) only [go_sem, ↓reduceIte, simprocAttr, eWo, oR, h0, hs, h1, h2, h3, h4, m94_1, wrap_i64]
    | false =>
    cases h5 : x.of == x.sum with
    | true => simp (disch := omega) only [go_sem, ↓reduceIte, simprocAttr, eWo, oR, h0, hs, h1, h2, h3, h4, h5, m94_1, wrap_i64]
    | false => simp (disch := omega) only [go_sem, ↓reduceIte, simprocAttr, eWo, oR, h0, hs, h1, h2, h3, h4, h5, m94_1, wrap_i64]
  · cases h1 : out 0 ((d.sums.length : Int) - 1) x.sum with
    | true => simp (disch := omega) only [go_sem, ↓reduceIte, simprocAttr, eWo, oR, h0, hs, h1, m94_1, wrap_i64]
    | false =>
    cases h2 : out 0 ((d.who.length : Int) - 1) x.of with
    | true => simp (disch := omega) only [go_sem, ↓reduceIte, simprocAttr, eWo, oR, h0, hs, h1, h2, m94_1, wrap_i64]
    | false =>
    cases h3 : out (-1) ((d.words.length : Int) - 1) x.back with
    | true => simp (disch := omega) only [go_sem, ↓reduceIte, simprocAttr, eWo, oR, h0, hs, h1, h2, h3, m94_1, wrap_i64]
    | false =>
    cases h4 : x.back == (i : Int) with
    | true => simp (disch := omega) only [go_sem, ↓reduceIte, simprocAttr, eWo, oR, h0, hs, h1, h2, h3, h4, m94_1, wrap_i64]
    | false => simp (disch := omega) only [go_sem, ↓reduceIte, simprocAttr, eWo, oR, h0, hs, h1, h2, h3, h4, m94_1, wrap_i64]
end Go.Proofs.YtiighcpimecehaaGreat
end
section
namespace Go.Proofs.YtiighcpimecehaaGreat
open Go.Proofs

def failP (most : Int) (e : Nat → Int) (n : Nat) : Int × Int := if most < n then (0, 3) else match firstBad e 0 n with | some k => ((k : Int), e k) | none => (0, 0)
theorem failE_eq (most : Int) (e : Nat → Int) (n : Nat) : failE most e n = .tup [.int .i64 (failP most e n).1, .int .i64 (failP most e n).2] := by
  unfold failE failP atE
  split
  · rfl
  · cases firstBad e 0 n <;> rfl
theorem failP_zero {most : Int} {e : Nat → Int} {n : Nat} (h : (failP most e n).2 = 0) : failP most e n = (0, 0) ∧ n ≤ most ∧ firstBad e 0 n = none := by
  unfold failP at h ⊢
  split
  · rename_i h1; rw [if_pos h1] at h; cases h
  · rename_i h1
    rw [if_neg h1] at h
    cases hf : firstBad e 0 n with
    | some k => rw [hf] at h; exact absurd h (firstBad_some hf).2.2.1
    | none => exact ⟨rfl, by omega, rfl⟩
def whoI (m : Mo) (i : Nat) : Int := match m.who[i]? with | some s => whoE m.who i s | none => 0
def sumI (m : Mo) (i : Nat) : Int := match m.sums[i]? with | some x => sumE m i x | none => 0
def wordI (m : Mo) (i : Nat) : Int := match m.words[i]? with | some w => wordE m i w | none => 0
def paidI (m : Mo) (i : Nat) : Int := match m.paid[i]? with | some p => paidE m p | none => 0
def partM (m : Mo) : Nat → Int × Int
  | 0 => failP 4 (whoI m) m.who.length
  | 1 => failP 5 (sumI m) m.sums.length
  | 2 => failP 6 (wordI m) m.words.length
  | _ => failP 5 (paidI m) m.paid.length
def checkM (m : Mo) : Int × Int × Int :=
  if (partM m 0).2 ≠ 0 then (1, partM m 0) else if (partM m 1).2 ≠ 0 then (2, partM m 1) else if (partM m 2).2 ≠ 0 then (3, partM m 2) else if (partM m 3).2 ≠ 0 then (4, partM m 3) else (0, 0, 0)
theorem eMc_under (n : Nat) (d : Mo) : underL n (eMc d) = true := by simp only [eMc, go_sem, ↓reduceIte, simprocAttr]
theorem m93 (d : Mo) (hd : d.fits) (h : Heap) : callPure (EW tabX) 93 [eM d] h = some (tup3 (checkM d), h) := by
  have h123 := m123 124 [.ref 0 0] 4 d.who 0 d.zw hd.zw ⟨[.cells (eMc d)], []⟩ hd.lw (whoI d) (fun k c hx u => by
    have := m124 d hd 0 k c hx ⟨[.cells (eMc d)] ++ u, []⟩ rfl
    simp only [go_sem, ↓reduceIte, simprocAttr, eSt] at this ⊢
    rw [this, whoI, hx])
  have h127 := fun (h4 : d.who.length ≤ 4) => m127 128 [.ref 0 0] 5 d.sums 0 d.zs hd.zs ⟨[.cells (eMc d)], []⟩ hd.ls (sumI d) (fun k c hx u => by
    have := m128 d hd h4 0 k c hx ⟨[.cells (eMc d)] ++ u, []⟩ rfl
    simp only [go_sem, ↓reduceIte, simprocAttr, eSu] at this ⊢
    rw [this, sumI, hx])
  have h131 := m131 132 [.ref 0 0] 6 d.words 0 d.zo hd.zo ⟨[.cells (eMc d)], []⟩ hd.lo (wordI d) (fun k c hx u => by
    have := m132 d hd 0 k c ⟨[.cells (eMc d)] ++ u, []⟩ rfl
    simp only [go_sem, ↓reduceIte, simprocAttr, eWo] at this ⊢
    rw [this, wordI, hx])
  have h133 := m133 134 [.ref 0 0] 5 d.paid 0 d.zp hd.zp ⟨[.cells (eMc d)], []⟩ hd.lp (paidI d) (fun k c hx u => by
    have := m134 d hd 0 k c ⟨[.cells (eMc d)] ++ u, []⟩ rfl
    simp only [go_sem, ↓reduceIte, simprocAttr, ePd] at this ⊢
    rw [this, paidI, hx])
  have e0 : failP 4 (whoI d) d.who.length = partM d 0 := rfl
  have e1 : failP 5 (sumI d) d.sums.length = partM d 1 := rfl
  have e2 : failP 6 (wordI d) d.words.length = partM d 2 := rfl
  have e3 : failP 5 (paidI d) d.paid.length = partM d 3 := rfl
  rw [callPure_eq, w_call _ fn_93 rfl]
  simp only [failE_eq, eMc, e0, e1, e2, e3] at h123 h127 h131 h133
  unfold checkM
  by_cases n0 : (partM d 0).2 = 0
  · have h4 : d.who.length ≤ 4 := by have := (failP_zero (show (failP 4 (whoI d) d.who.length).2 = 0 from n0)).2.1; omega
    have h127 := h127 h4
    by_cases n1 : (partM d 1).2 = 0
    · by_cases n2 : (partM d 2).2 = 0
      · by_cases n3 : (partM d 3).2 = 0
        · simp only [go_sem, ↓reduceIte, simprocAttr, eM, eMc, h123, h127, h131, h133, n0, n1, n2, n3, ne_eq, not_true, tup3, bne_self_eq_false, if_false]
        · have b3 : ((partM d 3).2 != 0) = true := by simpa using n3
          simp only [go_sem, ↓reduceIte, simprocAttr, eM, eMc, h123, h127, h131, h133, n0, n1, n2, n3, b3, ne_eq, not_true, not_false_eq_true, tup3, bne_self_eq_false, if_false]
      · have b2 : ((partM d 2).2 != 0) = true := by simpa using n2
        simp only [go_sem, ↓reduceIte, simprocAttr, eM, eMc, h123, h127, h131, n0, n1, n2, b2, ne_eq, not_true, not_false_eq_true, tup3, bne_self_eq_false, if_false]
    · have b1 : ((partM d 1).2 != 0) = true := by simpa using n1
      simp only [go_sem, ↓reduceIte, simprocAttr, eM, eMc, h123, h127, n0, n1, b1, ne_eq, not_true, not_false_eq_true, tup3, bne_self_eq_false, if_false]
  · have b0 : ((partM d 0).2 != 0) = true := by simpa using n0
    simp only [go_sem, ↓reduceIte, simprocAttr, eM, eMc, h123, n0, b0, ne_eq, not_true, not_false_eq_true, tup3, bne_self_eq_false, if_false]
end Go.Proofs.YtiighcpimecehaaGreat
end
section
namespace Go.Proofs.YtiighcpimecehaaGreat
open Go.Proofs

def cellB (wear : Int) (a b : List Int) (many i k : Nat) : Bool := allTo (fun n => inR (a.getD (i + n) 0 - b.getD (k + n) 0) (0 - wear) wear) many
def rowB2 (wear : Int) (a b : List Int) (many i : Nat) : Bool := !allTo (fun k => !cellB wear a b many i k) (b.length + 1 - many)
def nearB (wear : Int) (a b : List Int) (many : Nat) : Bool := !allTo (fun i => !rowB2 wear a b many i) (a.length + 1 - many)

end Go.Proofs.YtiighcpimecehaaGreat
end
section
namespace Go.Proofs.YtiighcpimecehaaGreat
open Go.Proofs

theorem inR_neg (x w : Int) : (!out (0 - w) w x) = inR x (0 - w) w := out_not _ _ _
theorem c65 (d : Dr) (hw : 0 ≤ d.wear ∧ d.wear ≤ 9) (a b : List Int) (many : Nat) (ha : LowK a) (hb : LowK b) (la : a.length < 1000) (lb : b.length < 1000) (lm : many < 1000) (ta tb za zb : Nat) (hza : a ≠ [] → za = 1) (hzb : b ≠ [] → zb = 1)
    (r : Nat) (rest : List AV) (h : Heap) (hr : h.b[r]? = some (.cells (eDc d ++ rest))) :
    (EW tabX).call 81 [.ref r 0, .lst ta za (I a), .lst tb zb (I b), .int .i64 many] h = some (.bool (nearB d.wear a b many), h) := by
  obtain ⟨B, ht⟩ := h
  have hr : B[r]? = some (.cells (eDc d ++ rest)) := hr
  simp only [eDc, List.cons_append, List.nil_append] at hr
  rw [w_call _ fn_81 rfl]
  simp (disch := omega) only [go_sem, ↓reduceIte, simprocAttr, wrap_i64]
  have idx : ∀ i k n, i + many ≤ a.length → k + many ≤ b.length → n < many → za = 1 ∧ zb = 1 ∧ ((i : Int) + n < 0) = False ∧ ((i : Int) + n).toNat = i + n ∧ ((k : Int) + n < 0) = False ∧ ((k : Int) + n).toNat = k + n ∧ (n : Int) < many ∧
      a[i + n]? = some (a.getD (i + n) 0) ∧ b[k + n]? = some (b.getD (k + n) 0) ∧ -1 ≤ a.getD (i + n) 0 ∧ a.getD (i + n) 0 ≤ 9 ∧ -1 ≤ b.getD (k + n) 0 ∧ b.getD (k + n) 0 ≤ 9 := fun i k n h1 h2 h3 => by
    have x1 : i + n < a.length := by omega
    have x2 : k + n < b.length := by omega
    have y1 := ha.get x1
    have y2 := hb.get x2
    have e1 : a.getD (i + n) 0 = a[i + n] := by simp [x1]
    have e2 : b.getD (k + n) 0 = b[k + n] := by simp [x2]
    rw [e1, e2]
    exact ⟨hza (by intro e; rw [e] at x1; simp at x1), hzb (by intro e; rw [e] at x2; simp at x2), by simp; omega, by omega, by simp; omega, by omega, by omega, by simp, by simp, y1.1, y1.2, y2.1, y2.2⟩
  cases h1 : allTo (fun i => !rowB2 d.wear a b many i) (a.length + 1 - many) with
  | true =>
    rw [w_rounds_u (fun i => [(17, .int .i64 i)]) (a.length + 1 - many) (.exit 0) [(17, .int .i64 ((a.length + 1 - many : Nat) : Int))] ?_ ?_ ?_ rfl]
    · simp only [go_sem, ↓reduceIte, simprocAttr, nearB, h1]
    · simp only [go_sem, ↓reduceIte, simprocAttr]
    · intro i hi
      have hii : (i : Int) < a.length - many + 1 := by omega
      have hr2 := allTo_at h1 hi
      have hr2 : allTo (fun k => !cellB d.wear a b many i k) (b.length + 1 - many) = true := by simpa [rowB2] using hr2
      simp (disch := omega) only [go_sem, ↓reduceIte, simprocAttr, wrap_i64, hii]
      rw [w_rounds_u (fun k => [(25, .int .i64 k)]) (b.length + 1 - many) (.exit 2) [(25, .int .i64 ((b.length + 1 - many : Nat) : Int))] ?_ ?_ ?_ rfl]
      · simp (disch := omega) only [go_sem, ↓reduceIte, simprocAttr, wrap_i64]
      · simp only [go_sem, ↓reduceIte, simprocAttr]
      · intro k hk
        have hkk : (k : Int) < b.length - many + 1 := by omega
        have hc := allTo_at hr2 hk
        have hc : cellB d.wear a b many i k = false := by simpa using hc
        obtain ⟨n, hn, g1, g2⟩ := allTo_false hc
        simp (disch := omega) only [go_sem, ↓reduceIte, simprocAttr, wrap_i64, hkk]
        rw [w_rounds_u (fun n => [(11, .int .i64 n)]) n (.exit 4) [(11, .int .i64 n)] ?_ ?_ ?_ rfl]
        · have hne : ((n : Int) == many) = false := by simp; omega
          simp (disch := omega) only [go_sem, ↓reduceIte, simprocAttr, wrap_i64, hne]
        · simp only [go_sem, ↓reduceIte, simprocAttr]
        · intro n hn
          obtain ⟨z1, z2, i1, i2, i3, i4, i5, i6, i7, i8, i9, i10, i11⟩ := idx i k n (by omega) (by omega) (by omega)
          subst z1; subst z2
          have hg := allTo_at g1 hn
          simp (disch := omega) only [go_sem, ↓reduceIte, simprocAttr, hr, wrap_i64, i1, i2, i3, i4, i5, i6, i7, c51_1, inR_neg, hg]
        · obtain ⟨z1, z2, i1, i2, i3, i4, i5, i6, i7, i8, i9, i10, i11⟩ := idx i k n (by omega) (by omega) (by omega)
          subst z1; subst z2
          simp (disch := omega) only [go_sem, ↓reduceIte, simprocAttr, hr, wrap_i64, i1, i2, i3, i4, i5, i6, i7, c51_1, inR_neg, g2]
      · have hn : ¬ (((b.length + 1 - many : Nat) : Int) < b.length - many + 1) := by omega
        simp (disch := omega) only [go_sem, ↓reduceIte, simprocAttr, wrap_i64, hn]
    · have hn : ¬ (((a.length + 1 - many : Nat) : Int) < a.length - many + 1) := by omega
      simp (disch := omega) only [go_sem, ↓reduceIte, simprocAttr, wrap_i64, hn]
  | false =>
    obtain ⟨i0, hi0, hb0, hr0⟩ := allTo_false h1
    have hr0 : allTo (fun k => !cellB d.wear a b many i0 k) (b.length + 1 - many) = false := by simpa [rowB2] using hr0
    obtain ⟨k0, hk0, hb1, hc0⟩ := allTo_false hr0
    have hc0 : cellB d.wear a b many i0 k0 = true := by simpa using hc0
    rw [w_rounds_u (fun i => [(17, .int .i64 i)]) i0 .ret [(8, .bool true), (9, .int .i64 i0), (10, .int .i64 k0), (11, .int .i64 many), (17, .int .i64 i0), (24, .int .i64 (b.length - many + 1)), (25, .int .i64 k0)] ?_ ?_ ?_ rfl]
    · simp only [go_sem, ↓reduceIte, simprocAttr, nearB, h1]
    · simp only [go_sem, ↓reduceIte, simprocAttr]
    · intro i hi
      have hii : (i : Int) < a.length - many + 1 := by omega
      have hr2 := allTo_at hb0 hi
      have hr2 : allTo (fun k => !cellB d.wear a b many i k) (b.length + 1 - many) = true := by simpa [rowB2] using hr2
      simp (disch := omega) only [go_sem, ↓reduceIte, simprocAttr, wrap_i64, hii]
      rw [w_rounds_u (fun k => [(25, .int .i64 k)]) (b.length + 1 - many) (.exit 2) [(25, .int .i64 ((b.length + 1 - many : Nat) : Int))] ?_ ?_ ?_ rfl]
      · simp (disch := omega) only [go_sem, ↓reduceIte, simprocAttr, wrap_i64]
      · simp only [go_sem, ↓reduceIte, simprocAttr]
      · intro k hk
        have hkk : (k : Int) < b.length - many + 1 := by omega
        have hc := allTo_at hr2 hk
        have hc : cellB d.wear a b many i k = false := by simpa using hc
        obtain ⟨n, hn, g1, g2⟩ := allTo_false hc
        simp (disch := omega) only [go_sem, ↓reduceIte, simprocAttr, wrap_i64, hkk]
        rw [w_rounds_u (fun n => [(11, .int .i64 n)]) n (.exit 4) [(11, .int .i64 n)] ?_ ?_ ?_ rfl]
        · have hne : ((n : Int) == many) = false := by simp; omega
          simp (disch := omega) only [go_sem, ↓reduceIte, simprocAttr, wrap_i64, hne]
        · simp only [go_sem, ↓reduceIte, simprocAttr]
        · intro n hn
          obtain ⟨z1, z2, i1, i2, i3, i4, i5, i6, i7, i8, i9, i10, i11⟩ := idx i k n (by omega) (by omega) (by omega)
          subst z1; subst z2
          have hg := allTo_at g1 hn
          simp (disch := omega) only [go_sem, ↓reduceIte, simprocAttr, hr, wrap_i64, i1, i2, i3, i4, i5, i6, i7, c51_1, inR_neg, hg]
        · obtain ⟨z1, z2, i1, i2, i3, i4, i5, i6, i7, i8, i9, i10, i11⟩ := idx i k n (by omega) (by omega) (by omega)
          subst z1; subst z2
          simp (disch := omega) only [go_sem, ↓reduceIte, simprocAttr, hr, wrap_i64, i1, i2, i3, i4, i5, i6, i7, c51_1, inR_neg, g2]
      · have hn : ¬ (((b.length + 1 - many : Nat) : Int) < b.length - many + 1) := by omega
        simp (disch := omega) only [go_sem, ↓reduceIte, simprocAttr, wrap_i64, hn]
    · have hii : (i0 : Int) < a.length - many + 1 := by omega
      simp (disch := omega) only [go_sem, ↓reduceIte, simprocAttr, wrap_i64, hii]
      rw [w_rounds_u (fun k => [(25, .int .i64 k)]) k0 .ret [(8, .bool true), (10, .int .i64 k0), (11, .int .i64 many), (25, .int .i64 k0)] ?_ ?_ ?_ rfl]
      · simp (disch := omega) only [go_sem, ↓reduceIte, simprocAttr, wrap_i64]
      · simp only [go_sem, ↓reduceIte, simprocAttr]
      · intro k hk
        have hkk : (k : Int) < b.length - many + 1 := by omega
        have hc := allTo_at hb1 hk
        have hc : cellB d.wear a b many i0 k = false := by simpa using hc
        obtain ⟨n, hn, g1, g2⟩ := allTo_false hc
        simp (disch := omega) only [go_sem, ↓reduceIte, simprocAttr, wrap_i64, hkk]
        rw [w_rounds_u (fun n => [(11, .int .i64 n)]) n (.exit 4) [(11, .int .i64 n)] ?_ ?_ ?_ rfl]
        · have hne : ((n : Int) == many) = false := by simp; omega
          simp (disch := omega) only [go_sem, ↓reduceIte, simprocAttr, wrap_i64, hne]
        · simp only [go_sem, ↓reduceIte, simprocAttr]
        · intro n hn
          obtain ⟨z1, z2, i1, i2, i3, i4, i5, i6, i7, i8, i9, i10, i11⟩ := idx i0 k n (by omega) (by omega) (by omega)
          subst z1; subst z2
          have hg := allTo_at g1 hn
          simp (disch := omega) only [go_sem, ↓reduceIte, simprocAttr, hr, wrap_i64, i1, i2, i3, i4, i5, i6, i7, c51_1, inR_neg, hg]
        · obtain ⟨z1, z2, i1, i2, i3, i4, i5, i6, i7, i8, i9, i10, i11⟩ := idx i0 k n (by omega) (by omega) (by omega)
          subst z1; subst z2
          simp (disch := omega) only [go_sem, ↓reduceIte, simprocAttr, hr, wrap_i64, i1, i2, i3, i4, i5, i6, i7, c51_1, inR_neg, g2]
      · have hkk : (k0 : Int) < b.length - many + 1 := by omega
        simp (disch := omega) only [go_sem, ↓reduceIte, simprocAttr, wrap_i64, hkk]
        rw [w_rounds_u (fun n => [(11, .int .i64 n)]) many (.exit 4) [(11, .int .i64 many)] ?_ ?_ ?_ rfl]
        · simp (disch := omega) only [go_sem, ↓reduceIte, simprocAttr, wrap_i64]
        · simp only [go_sem, ↓reduceIte, simprocAttr]
        · intro n hn
          obtain ⟨z1, z2, i1, i2, i3, i4, i5, i6, i7, i8, i9, i10, i11⟩ := idx i0 k0 n (by omega) (by omega) (by omega)
          subst z1; subst z2
          have hg := allTo_at hc0 hn
          simp (disch := omega) only [go_sem, ↓reduceIte, simprocAttr, hr, wrap_i64, i1, i2, i3, i4, i5, i6, i7, c51_1, inR_neg, hg]
        · simp (disch := omega) only [go_sem, ↓reduceIte, simprocAttr, wrap_i64, Int.lt_irrefl]
end Go.Proofs.YtiighcpimecehaaGreat
end
section
namespace Go.Proofs.YtiighcpimecehaaGreat
open Go.Proofs

def eP (h c s : Int) : AV := .agg [.int .i64 h, .int .i64 c, .int .i64 s]
theorem c81 (d : Dr) (hd : d.fits) (ho : d.Ok) (e c s : Nat) (card half : Card) (hc : d.cards[c]? = some card) (he : d.halves[e]? = some half) (hs : (s : Int) < d.steps) (r : Nat) (rest : List AV) (h : Heap) (hr : h.b[r]? = some (.cells (eDc d ++ rest))) :
    (EW tabX).call 119 [.ref r 0, eP e c s] h = some (.bool (besideB d.wear card.edge half.edge s), h) := by
  obtain ⟨B, ht⟩ := h
  have hr : B[r]? = some (.cells (eDc d ++ rest)) := hr
  simp only [eDc, List.cons_append, List.nil_append] at hr
  have hr' := old hr
  have hci := ho.ce card (List.mem_of_getElem? hc)
  have hhi := ho.he half (List.mem_of_getElem? he)
  have lc : LowK card.edge := fun n hn => by have := hci.2 n hn; omega
  have lh : LowK half.edge := fun n hn => hhi.2.2 n hn
  have hst := ho.s6
  have hz := hd.zc (by intro e; rw [e] at hc; cases hc)
  have hz2 := hd.zh (by intro e'; rw [e'] at he; cases he)
  have hsl : s ≤ card.edge.length := by omega
  rw [w_call _ fn_119 rfl]
  simp only [go_sem, ↓reduceIte, simprocAttr, eP, eDc, hr', eC_get, hc, he, hz, hz2, eC, hsl]
  have hdl : (card.edge.drop s).length = card.edge.length - s := List.length_drop
  by_cases h1 : s + half.edge.length ≤ card.edge.length
  · have h1i : ¬ ((card.edge.drop s).length : Int) < half.edge.length := by rw [hdl]; omega
    simp only [go_sem, ↓reduceIte, simprocAttr, h1i]
    have idx : ∀ k, k < half.edge.length → (k : Int) < half.edge.length ∧ (card.edge.drop s)[k]? = some (card.edge.getD (s + k) 0) ∧ half.edge[k]? = some (half.edge.getD k 0) ∧ -1 ≤ card.edge.getD (s + k) 0 ∧ card.edge.getD (s + k) 0 ≤ 9 ∧ -1 ≤ half.edge.getD k 0 ∧ half.edge.getD k 0 ≤ 9 := fun k hk => by
      have hk2 : s + k < card.edge.length := by omega
      have a := lc.get hk2
      have b := lh.get hk
      have e1 : card.edge.getD (s + k) 0 = card.edge[s + k] := by simp [hk2]
      have e2 : half.edge.getD k 0 = half.edge[k] := by simp [hk]
      rw [e1, e2, List.getElem?_drop]
      exact ⟨by omega, by simp, by simp, a.1, a.2, b.1, b.2⟩
    have test : ∀ x y : Int, (y != -1 && out 0 d.wear (x - y)) = !fit1 d.wear x y := fun x y => by
      have e : out 0 d.wear (x - y) = !inR (x - y) 0 d.wear := by rw [← out_not, Bool.not_not]
      rw [e]
      simp only [fit1, bne]
      cases (y == -1) <;> cases inR (x - y) 0 d.wear <;> rfl
    cases ho : allTo (fun i => fit1 d.wear (card.edge.getD (s + i) 0) (half.edge.getD i 0)) half.edge.length with
    | true =>
      rw [w_rounds_u (fun k => [(39, .int .i64 k)]) half.edge.length (.exit 0) [(39, .int .i64 half.edge.length)] ?_ ?_ ?_ rfl]
      · simp only [go_sem, ↓reduceIte, simprocAttr, besideB, h1, ho]
      · simp only [go_sem, ↓reduceIte, simprocAttr]
      · intro k hk
        obtain ⟨i3, i4, i5, i6, i7, i8, i9⟩ := idx k hk
        have hf := allTo_at ho hk
        simp (disch := omega) only [go_sem, ↓reduceIte, simprocAttr, hr', wrap_i64, i3, i4, i5, c51_1, test, hf]
      · simp only [go_sem, ↓reduceIte, simprocAttr, Int.lt_irrefl]
    | false =>
      obtain ⟨n, hn, h2, h3⟩ := allTo_false ho
      rw [w_rounds_u (fun k => [(39, .int .i64 k)]) n .ret [(4, .bool false), (7, .int .i64 n), (8, .int .i64 (half.edge.getD n 0)), (39, .int .i64 n)] ?_ ?_ ?_ rfl]
      · simp only [go_sem, ↓reduceIte, simprocAttr, besideB, ho]
      · simp only [go_sem, ↓reduceIte, simprocAttr]
      · intro k hk
        obtain ⟨i3, i4, i5, i6, i7, i8, i9⟩ := idx k (by omega)
        have hf := allTo_at h2 hk
        simp (disch := omega) only [go_sem, ↓reduceIte, simprocAttr, hr', wrap_i64, i3, i4, i5, c51_1, test, hf]
      · obtain ⟨i3, i4, i5, i6, i7, i8, i9⟩ := idx n hn
        simp (disch := omega) only [go_sem, ↓reduceIte, simprocAttr, hr', wrap_i64, i3, i4, i5, c51_1, test, h3]
  · have h1i : ((card.edge.drop s).length : Int) < half.edge.length := by rw [hdl]; omega
    simp only [go_sem, ↓reduceIte, simprocAttr, h1i, besideB, h1]
end Go.Proofs.YtiighcpimecehaaGreat
end
section
namespace Go.Proofs.YtiighcpimecehaaGreat
open Go.Proofs

section
variable (X : Tab) {E : Eng} {L : List Nat} {all : List Oper}
theorem d_nil (b : List Nat) (n0 : Nat × Nat) (i : Nat) (s : St) : runDraw X E L b all n0 false [] i s = some s := _root_.id rfl
theorem d_c (b : List Nat) (n0 : Nat × Nat) (i : Nat) (d : Option Tmp) (op : Op) (ty : TypeId) (po : String) (af : Array Edge) (os : List Oper) (fr : Frm) (h : Heap) (ms : List Nat) :
    runDraw X E L b all n0 false (⟨d, op, ty, po, af, none⟩ :: os) i ⟨fr, h, ms⟩ = bindW (opAt X E (!boundAll b all i) (n0.1 + i, n0.2 + i) op fr h) (fun r => runDraw X E L b all n0 false os (i + 1) ⟨setD L fr d r.1, r.2, ms⟩) .mk := by
  have e : runDraw X E L b all n0 false (⟨d, op, ty, po, af, none⟩ :: os) i ⟨fr, h, ms⟩ = oneOp X E L all (false || !boundAll b all i) (posAt n0 false i) ⟨d, op, ty, po, af, none⟩ ⟨fr, h, ms⟩ (runDraw X E L b all n0 false os (i + 1)) := rfl
  rw [e]
  simp only [oneOp, thenK_eq, Bool.false_or, bindW]
  rfl
end
section
variable {X : Tab} {f : Nat} {rd : Option Nat} {b : Code}
theorem w_rounds_hr {g : Slots} {h : Heap} {ms : List Nat} {x : Option (AExit × St)} (hx : (EW X).code f rd (.loop b) ⟨⟨g, []⟩, h, ms⟩ = x) (U : Nat → Slots) (H : Nat → Heap → Prop) (n : Nat) (e : AExit) (V : Slots) (h0 : puts g (U 0) = g) (hh : H 0 h)
    (hs : ∀ k h, k < n → H k h → ∃ h', cutS ⟨⟨puts g (U k), []⟩, h, ms⟩ ((EW X).code f rd b ⟨⟨puts g (U k), []⟩, h, ms⟩) = some (.normal, ⟨⟨puts g (U (k + 1)), []⟩, h', ms⟩) ∧ H (k + 1) h')
    (he : ∀ h, H n h → cutS ⟨⟨puts g (U n), []⟩, h, ms⟩ ((EW X).code f rd b ⟨⟨puts g (U n), []⟩, h, ms⟩) = some (e, ⟨⟨puts g V, []⟩, h, ms⟩)) (hr : isNormal e = false) (hm : mapLoop b = none := by rfl) :
    ∃ h', x = some (e, ⟨⟨puts g V, []⟩, h', ms⟩) ∧ H n h' := by
  obtain ⟨e', s', h1, h', rfl, rfl, h2⟩ := w_rounds_ex hx (fun k s => ∃ h, s = ⟨⟨puts g (U k), []⟩, h, ms⟩ ∧ H k h) n (fun e' s' => ∃ h', e' = e ∧ s' = ⟨⟨puts g V, []⟩, h', ms⟩ ∧ H n h')
    ⟨h, by rw [h0], hh⟩ (fun k s hk ⟨h, hs1, hs2⟩ => by
      subst hs1
      obtain ⟨h', a, c⟩ := hs k h hk hs2
      exact ⟨_, a, h', rfl, c⟩)
    (fun s ⟨h, hs1, hs2⟩ => by
      subst hs1
      exact ⟨e, _, he h hs2, hr, h, rfl, rfl, hs2⟩) hm
  exact ⟨h', h1, h2⟩
theorem w_rounds_hk {G : Prop} {g : Slots} {h : Heap} {ms : List Nat} {x : Option (AExit × St)} (hx : (EW X).code f rd (.loop b) ⟨⟨g, []⟩, h, ms⟩ = x) (U : Nat → Slots) (H : Nat → Heap → Prop) (n : Nat) (e : AExit) (V : Slots) (hr : isNormal e = false) (h0 : puts g (U 0) = g) (hh : H 0 h)
    (hs : ∀ k h, k < n → H k h → ∃ h', cutS ⟨⟨puts g (U k), []⟩, h, ms⟩ ((EW X).code f rd b ⟨⟨puts g (U k), []⟩, h, ms⟩) = some (.normal, ⟨⟨puts g (U (k + 1)), []⟩, h', ms⟩) ∧ H (k + 1) h')
    (he : ∀ h, H n h → cutS ⟨⟨puts g (U n), []⟩, h, ms⟩ ((EW X).code f rd b ⟨⟨puts g (U n), []⟩, h, ms⟩) = some (e, ⟨⟨puts g V, []⟩, h, ms⟩))
    (hG : ∀ h', x = some (e, ⟨⟨puts g V, []⟩, h', ms⟩) → H n h' → G) (hm : mapLoop b = none := by rfl) : G := by
  obtain ⟨h', a, c⟩ := w_rounds_hr hx U H n e V h0 hh hs he hr hm
  exact hG h' a c
end

abbrev Pl := Nat × Nat × Nat
def eL (p : Pl) : AV := .agg [.int .i64 p.1, .int .i64 p.2.1, .int .i64 p.2.2]
def keyL (p : Pl) : List AV := [.int .i64 p.1, .int .i64 p.2.1, .int .i64 p.2.2]
def esL (ps : List (Pl × Int)) : List (AV × AV) := ps.map fun x => (eL x.1, .int .i64 x.2)
theorem eqKey (p q : Pl) : eqCells [0, 0, 0] (keyL p) (keyL q) = some (decide (p = q)) := by
  obtain ⟨a, b, c⟩ := p
  obtain ⟨x, y, z⟩ := q
  simp only [eqCells, keyL, if_true, Option.map_some]
  congr 1
  rw [Bool.eq_iff_iff]
  simp
  omega
theorem look_es (q : Pl) : ∀ ps : List (Pl × Int), lookAV [0, 0, 0] (esL ps) (keyL q) = some ((ps.find? fun x => decide (q = x.1)).map fun x => .int .i64 x.2)
  | [] => rfl
  | x :: ps => by
    have e : lookAV [0, 0, 0] (esL (x :: ps)) (keyL q) = match eqCells [0, 0, 0] (keyL q) (keyL x.1) with
      | some true => some (some (.int .i64 x.2))
      | some false => lookAV [0, 0, 0] (esL ps) (keyL q)
      | none => none := rfl
    rw [e, eqKey, look_es q ps, List.find?_cons]
    cases decide (q = x.1) <;> rfl
theorem put_es (q : Pl) (v : Int) : ∀ ps : List (Pl × Int), (∀ x ∈ ps, q ≠ x.1) → putAV [0, 0, 0] (esL ps) (keyL q) (.int .i64 v) = some (esL (ps ++ [(q, v)]))
  | [], _ => rfl
  | x :: ps, h => by
    have e : putAV [0, 0, 0] (esL (x :: ps)) (keyL q) (.int .i64 v) = match eqCells [0, 0, 0] (keyL q) (keyL x.1) with
      | some true => some ((eL q, .int .i64 v) :: esL ps)
      | some false => (putAV [0, 0, 0] (esL ps) (keyL q) (.int .i64 v)).map ((eL x.1, .int .i64 x.2) :: ·)
      | none => none := rfl
    have hne : decide (q = x.1) = false := by simpa using h x (by simp)
    rw [e, eqKey, hne, put_es q v ps fun y hy => h y (by simp [hy])]
    rfl
def num (ps : List Pl) : List (Pl × Int) := ps.zipIdx.map fun x => (x.1, (x.2 : Int) + 1)
theorem num_snoc (ps : List Pl) (p : Pl) : num (ps ++ [p]) = num ps ++ [(p, (ps.length : Int) + 1)] := by
  unfold num; rw [List.zipIdx_append]; simp
theorem num_mem {ps : List Pl} {x : Pl × Int} (h : x ∈ num ps) : x.1 ∈ ps ∧ 0 < x.2 := by
  unfold num at h
  obtain ⟨y, hy, rfl⟩ := List.mem_map.1 h
  obtain ⟨a, i⟩ := y
  have := List.mem_zipIdx hy
  refine ⟨by simp only; rw [this.2.2]; exact List.getElem_mem _, by simp only; omega⟩
theorem num_find (q : Pl) (ps : List Pl) : (decide (0 < (match (num ps).find? (fun x => decide (q = x.1)) with | some x => x.2 | none => 0))) = decide (q ∈ ps) := by
  cases h : (num ps).find? fun x => decide (q = x.1) with
  | some x =>
    have h1 := List.find?_some h
    have h2 := num_mem (List.mem_of_find?_eq_some h)
    have e : q = x.1 := by simpa using h1
    rw [← e] at h2
    simp [h2.1, h2.2]
  | none =>
    have h1 := List.find?_eq_none.1 h
    have : q ∉ ps := fun hm => by
      obtain ⟨i, hi, e⟩ := List.mem_iff_getElem.1 hm
      have hz : (q, i) ∈ ps.zipIdx := by
        rw [List.mem_iff_getElem]
        exact ⟨i, by simpa using hi, by simp [e]⟩
      have := h1 (q, (i : Int) + 1) (List.mem_map.2 ⟨(q, i), hz, rfl⟩)
      simp at this
    simp [this]

def Own (tag z n : Nat) (t : List Bool) : Prop := (tag = 1 ∧ n = 0) ∨ ∃ q, tag = q + 2 ∧ z = 3 ∧ t[q]? = some true
def HL (B : List ABlk) (d : Dr) (ps : List Pl) (h : Heap) : Prop :=
  ∃ tag z junk t, h = ⟨B ++ (.cells (eDc d) :: .map (esL (num ps)) :: .cells (eDc d ++ [.lst tag z (ps.map eL), .mapr (B.length + 1)]) :: junk), t⟩ ∧ Own tag z ps.length t
end Go.Proofs.YtiighcpimecehaaGreat
end
section
namespace Go.Proofs.YtiighcpimecehaaGreat
open Go.Proofs
attribute [go_sem] d_nil d_c opMapUpdate

def fitB (d : Dr) (e c s : Nat) : Bool := besideB d.wear (d.cards.getD c ⟨default, []⟩).edge (d.halves.getD e ⟨default, []⟩).edge s
def P3 (d : Dr) (e c k : Nat) : List Pl := ((List.range k).filter fun s => fitB d e c s).map fun s => (e, c, s)
def P2 (d : Dr) (e k : Nat) : List Pl := (List.range k).flatMap fun c => P3 d e c d.steps.toNat
def P1 (d : Dr) (k : Nat) : List Pl := (List.range k).flatMap fun e => P2 d e d.cards.length
theorem P3_succ (d : Dr) (e c k : Nat) : P3 d e c (k + 1) = if fitB d e c k = true then P3 d e c k ++ [(e, c, k)] else P3 d e c k := by
  unfold P3; rw [List.range_succ, List.filter_append, List.map_append]
  cases h : fitB d e c k <;> simp [h]
theorem P2_succ (d : Dr) (e k : Nat) : P2 d e (k + 1) = P2 d e k ++ P3 d e k d.steps.toNat := by unfold P2; rw [List.range_succ, List.flatMap_append]; simp
theorem P1_succ (d : Dr) (k : Nat) : P1 d (k + 1) = P1 d k ++ P2 d k d.cards.length := by unfold P1; rw [List.range_succ, List.flatMap_append]; simp
theorem P3_mem {d : Dr} {e c k : Nat} {p : Pl} (h : p ∈ P3 d e c k) : p.1 = e ∧ p.2.1 = c ∧ p.2.2 < k ∧ fitB d e c p.2.2 = true := by
  unfold P3 at h
  obtain ⟨s, hs, rfl⟩ := List.mem_map.1 h
  obtain ⟨h1, h2⟩ := List.mem_filter.1 hs
  exact ⟨rfl, rfl, by simpa using h1, h2⟩
theorem P2_mem {d : Dr} {e k : Nat} {p : Pl} (h : p ∈ P2 d e k) : p.1 = e ∧ p.2.1 < k := by
  unfold P2 at h
  obtain ⟨c, hc, hp⟩ := List.mem_flatMap.1 h
  have := P3_mem hp
  exact ⟨this.1, by rw [this.2.1]; simpa using hc⟩
theorem P1_mem {d : Dr} {k : Nat} {p : Pl} (h : p ∈ P1 d k) : p.1 < k := by
  unfold P1 at h
  obtain ⟨c, hc, hp⟩ := List.mem_flatMap.1 h
  have := P2_mem hp
  rw [this.1]; simpa using hc
theorem P3_len (d : Dr) (e c k : Nat) : (P3 d e c k).length ≤ k := by
  unfold P3; rw [List.length_map]; have := List.length_filter_le (fun s => fitB d e c s) (List.range k); simpa using this
theorem P2_len (d : Dr) (e : Nat) : ∀ k, (P2 d e k).length ≤ k * d.steps.toNat
  | 0 => by simp [P2]
  | k + 1 => by rw [P2_succ, List.length_append, Nat.succ_mul]; have := P2_len d e k; have := P3_len d e k d.steps.toNat; omega
theorem P1_len (d : Dr) : ∀ k, (P1 d k).length ≤ k * (d.cards.length * d.steps.toNat)
  | 0 => by simp [P1]
  | k + 1 => by rw [P1_succ, List.length_append, Nat.succ_mul]; have := P1_len d k; have := P2_len d k d.cards.length; omega
theorem P_new (d : Dr) (e c k : Nat) : ∀ x ∈ num (P1 d e ++ (P2 d e c ++ P3 d e c k)), ((e, c, k) : Pl) ≠ x.1 := fun x hx he => by
  have hm := (num_mem hx).1
  rw [← he] at hm
  rcases List.mem_append.1 hm with h | h
  · have := P1_mem h; simp at this
  · rcases List.mem_append.1 h with h | h
    · have := (P2_mem h).2; simp at this
    · have := (P3_mem h).2.2.1; simp at this

theorem app_own {t' e : TypeId} {sz : Nat} {tag z n : Nat} {t : List Bool} (hn : Own tag z n t) (hsz : sz = 3) (p : Nat) (hp : p < t.length) (u z' : Nat) (xs ys : List AV) (hl : xs.length = n) (ht : trow tabX t' = .slice e) (hs : tsz tabX e = sz) (hz' : z' = sz)
    (hy : (xs.length + ys.length) * tbytes tabX e ≤ 140737488355328) (hy2 : xs.length + ys.length ≤ 140737488355328) (hf : zeroFits tabX e = true) (hv : ys.all AV.var = true) :
    ∃ t2, (∀ B, appendAV tabX t' p ⟨B, t⟩ (.lst tag z xs) (.lst u z' ys) = some (.lst (p + 2) sz (xs ++ ys), ⟨B, t2⟩)) ∧ t2[p]? = some true ∧ t2.length = t.length := by
  have hc : (z' = tsz tabX e ∨ ys.length = 0) ∧ 0 < tsz tabX e ∧ (xs.length + ys.length) * tbytes tabX e ≤ appLimit ∧ xs.length + ys.length ≤ appLimit ∧ zeroFits tabX e = true ∧ ys.all AV.var = true := by
    rw [hs]; exact ⟨.inl hz', by omega, hy, hy2, hf, hv⟩
  unfold appendAV
  simp only [ht, if_pos hc]
  rcases hn with ⟨rfl, h0⟩ | ⟨q, rfl, hq, hqt⟩
  · have hx : z = tsz tabX e ∨ xs.length = 0 := .inr (by omega)
    refine ⟨t.set p true, fun B => ?_, by simp [hp], by simp⟩
    rw [if_pos ⟨hx, .inl (by omega)⟩]
    simp only [hs, lset, if_pos hp]
  · have hx : z = tsz tabX e := by rw [hs, hq, hsz]
    refine ⟨(t.set q false).set p true, fun B => ?_, by simp [hp], by simp⟩
    simp only [hqt]
    rw [if_pos hx]
    simp only [hs, lset, List.length_set, if_pos hp]
theorem Own.more {tag z n : Nat} {t : List Bool} (h : Own tag z n t) (u : List Bool) : Own tag z n (t ++ u) := by
  rcases h with h | ⟨q, h1, h2, h3⟩
  · exact .inl h
  · exact .inr ⟨q, h1, h2, old h3 u⟩
end Go.Proofs.YtiighcpimecehaaGreat
end
section
namespace Go.Proofs.YtiighcpimecehaaGreat
open Go.Proofs

theorem c75 (d : Dr) (hd : d.fits) (ho : d.Ok) (h : Heap) : ∃ h', (EW tabX).call 91 [eD d] h = some (.ref (h.b.length + 2) 0, h') ∧ HL h.b d (P1 d d.halves.length) h' := by
  obtain ⟨B, ht⟩ := h
  have hs6 := ho.s6
  have hs1 := ho.s1
  have hc4 := ho.c4
  have hh4 := ho.h4
  have hnu : ¬ (B.length + 2 < B.length) := by omega
  rw [w_call _ fn_91 rfl]
  have h12 : B.length + 1 < B.length + 2 + 1 := by omega
  simp only [go_sem, ↓reduceIte, simprocAttr, eD, eDc, eC_under, h12]
  generalize hx : (EW tabX).code 91 none (Code.loop _) _ = x
  refine w_rounds_hk hx (fun k => [(15, .int .i64 k)]) (fun k h => HL B d (P1 d k) h) d.halves.length (.exit 0) [(15, .int .i64 d.halves.length)] rfl ?_ ?_ ?_ ?_ ?_
  · simp only [go_sem, ↓reduceIte, simprocAttr]
  · exact ⟨1, 0, [], ht, by simp only [eDc, go_sem, ↓reduceIte, simprocAttr]; rfl, .inl ⟨rfl, rfl⟩⟩
  · intro e h he hH
    have hei : (e : Int) < d.halves.length := by omega
    obtain ⟨tag, z, junk, t, rfl, hown⟩ := hH
    simp only [go_sem, ↓reduceIte, simprocAttr, hei, eDc]
    generalize hy : (EW tabX).code 91 none (Code.loop _) _ = y
    refine w_rounds_hk hy (fun k => [(21, .int .i64 k)]) (fun k h => HL B d (P1 d e ++ P2 d e k) h) d.cards.length (.exit 2) [(21, .int .i64 d.cards.length)] rfl ?_ ?_ ?_ ?_ ?_
    · simp only [go_sem, ↓reduceIte, simprocAttr]
    · exact ⟨tag, z, junk, t, by simp only [eDc, go_sem, ↓reduceIte, simprocAttr, P2, List.range_zero, List.flatMap_nil], by simpa [P2] using hown⟩
    · intro c h hc hH
      have hci : (c : Int) < d.cards.length := by omega
      obtain ⟨tag, z, junk, t, rfl, hown⟩ := hH
      simp only [go_sem, ↓reduceIte, simprocAttr, hci, eDc]
      generalize hz : (EW tabX).code 91 none (Code.loop _) _ = w
      refine w_rounds_hk hz (fun k => [(26, .int .i64 k)]) (fun k h => HL B d (P1 d e ++ (P2 d e c ++ P3 d e c k)) h) d.steps.toNat (.exit 4) [(26, .int .i64 d.steps.toNat)] rfl ?_ ?_ ?_ ?_ ?_
      · simp only [go_sem, ↓reduceIte, simprocAttr]
      · exact ⟨tag, z, junk, t, by simp only [eDc, go_sem, ↓reduceIte, simprocAttr, P3, List.range_zero, List.filter_nil], by simpa [P3] using hown⟩
      · intro s h hs hH
        have hsi : (s : Int) < d.steps := by omega
        obtain ⟨tag, z, junk, t, rfl, hown⟩ := hH
        clear hx hy hz
        have hcc : d.cards[c]? = some (d.cards.getD c ⟨default, []⟩) := by
          rw [List.getD_eq_getElem?_getD, List.getElem?_eq_getElem (show c < d.cards.length by omega)]; rfl
        have hee : d.halves[e]? = some (d.halves.getD e ⟨default, []⟩) := by
          rw [List.getD_eq_getElem?_getD, List.getElem?_eq_getElem (show e < d.halves.length by omega)]; rfl
        have h81 := c81 d hd ho e c s _ _ hcc hee hsi (B.length + 2) [.lst tag z ((P1 d e ++ (P2 d e c ++ P3 d e c s)).map eL), .mapr (B.length + 1)] ⟨B ++ (.cells (eDc d) :: .map (esL (num (P1 d e ++ (P2 d e c ++ P3 d e c s)))) :: .cells (eDc d ++ [.lst tag z ((P1 d e ++ (P2 d e c ++ P3 d e c s)).map eL), .mapr (B.length + 1)]) :: (junk ++ [.cells [.int .i64 e, .int .i64 c, .int .i64 s]])), t⟩ (by
          show (B ++ _)[B.length + 2]? = _
          rw [get_at]; rfl)
        simp only [eP, eDc, go_sem, ↓reduceIte, simprocAttr] at h81
        have hlen : (P1 d e ++ (P2 d e c ++ P3 d e c s)).length ≤ 200 := by
          have a1 := P1_len d e
          have a2 := P2_len d e c
          have a3 := P3_len d e c s
          have m1 : e * (d.cards.length * d.steps.toNat) ≤ 4 * (4 * 6) := Nat.mul_le_mul (by omega) (Nat.mul_le_mul (by omega) (by omega))
          have m2 : c * d.steps.toNat ≤ 4 * 6 := Nat.mul_le_mul (by omega) (by omega)
          simp only [List.length_append]
          omega
        have hnew := P_new d e c s
        rw [P3_succ]
        change (EW tabX).call 119 _ _ = some (.bool (fitB d e c s), _) at h81
        cases hb : fitB d e c s with
        | false =>
          rw [hb] at h81
          refine ⟨_, ?_, ⟨tag, z, junk ++ [.cells [.int .i64 e, .int .i64 c, .int .i64 s]], t, rfl, hown⟩⟩
          simp (disch := omega) only [go_sem, ↓reduceIte, simprocAttr, hsi, eDc, h81, wrap_i64]
        | true =>
          rw [hb] at h81
          have hput := put_es (e, c, s) ((P1 d e ++ (P2 d e c ++ P3 d e c s)).length + 1) (num (P1 d e ++ (P2 d e c ++ P3 d e c s))) hnew
          rw [← num_snoc] at hput
          have hkey : eqCells [0, 0, 0] [.int .i64 e, .int .i64 c, .int .i64 s] [.int .i64 e, .int .i64 c, .int .i64 s] = some true := by
            have := eqKey (e, c, s) (e, c, s); simpa [keyL] using this
          simp only [keyL] at hput
          have happ : P1 d e ++ (P2 d e c ++ (P3 d e c s ++ [(e, c, s)])) = (P1 d e ++ (P2 d e c ++ P3 d e c s)) ++ [(e, c, s)] := by simp only [List.append_assoc]
          simp only [if_true]
          rw [happ]
          generalize P1 d e ++ (P2 d e c ++ P3 d e c s) = ps at hput hlen hown h81 ⊢
          have hl1 : ((ps.map eL).length : Int) = ps.length := by simp
          simp (disch := omega) only [go_sem, ↓reduceIte, simprocAttr, hsi, eDc, h81, wrap_i64]
          rw [if_pos (by kernel_rfl)]
          have hw : IntKind.i64.wrap ((ps.length : Int) + 1) = (ps.length : Int) + 1 := wrap_i64 (by omega)
          have hu : underL (B.length + 1 + 1) [.int .i64 ((ps.length : Int) + 1)] = true := by simp only [go_sem, ↓reduceIte, simprocAttr]
          simp only [go_sem, ↓reduceIte, simprocAttr, hkey, hw, hput, hu, eDc]
          rw [if_pos (by kernel_rfl)]
          generalize hT : t ++ (List.replicate _ false ++ List.replicate _ false) = T
          generalize hp : t.length + (List.replicate _ false).length + 7 = p
          have hpT : p < T.length := by
            rw [← hp, ← hT]
            simp only [List.length_append, List.length_replicate]
            simp
          have hownT : Own tag z ps.length T := by rw [← hT]; exact hown.more _
          obtain ⟨t2, ha, hb1, hb2⟩ := app_own (t' := 146) (e := 151) (sz := 3) hownT rfl p hpT 1 3 (ps.map eL) [.agg [.int .i64 e, .int .i64 c, .int .i64 s]] (by simp) (by simp only [go_sem, ↓reduceIte, simprocAttr]) (by simp only [go_sem, ↓reduceIte, simprocAttr]) rfl (by simp only [go_sem, ↓reduceIte, simprocAttr, List.length_map]; omega) (by simp only [go_sem, ↓reduceIte, simprocAttr, List.length_map]; omega) (by simp only [go_sem, ↓reduceIte, simprocAttr]) (by simp only [go_sem, ↓reduceIte, simprocAttr])
          have hul : ∀ n, underL n (ps.map eL) = true := fun n => underL_map (fun x => by simp only [eL, go_sem, ↓reduceIte, simprocAttr]) ps
          have hws : IntKind.i64.wrap ((s : Int) + 1) = (s : Int) + 1 := wrap_i64 (by omega)
          simp only [go_sem, ↓reduceIte, simprocAttr, ha, eDc, hul, hws]
          have hmap : ps.map eL ++ [.agg [.int .i64 e, .int .i64 c, .int .i64 s]] = (ps ++ [(e, c, s)]).map eL := by simp [eL]
          rw [hmap]
          exact ⟨_, rfl, p + 2, 3, _, t2, rfl, .inr ⟨p, rfl, rfl, hb1⟩⟩
      · intro h hH
        obtain ⟨tag, z, junk, t, rfl, hown⟩ := hH
        have hn : ((d.steps.toNat : Nat) : Int) = d.steps := by omega
        simp only [go_sem, ↓reduceIte, simprocAttr, eDc, hn]
      · intro h' e1 hH
        subst e1
        obtain ⟨tag, z, junk, t, rfl, hown⟩ := hH
        refine ⟨_, ?_, ⟨tag, z, junk, t, by rw [P2_succ], by rw [P2_succ]; exact hown⟩⟩
        simp (disch := omega) only [go_sem, ↓reduceIte, simprocAttr, eDc, wrap_i64]
    · intro h hH
      obtain ⟨tag, z, junk, t, rfl, hown⟩ := hH
      simp only [go_sem, ↓reduceIte, simprocAttr, eDc]
    · intro h' e1 hH
      subst e1
      obtain ⟨tag, z, junk, t, rfl, hown⟩ := hH
      refine ⟨_, ?_, ⟨tag, z, junk, t, by rw [P1_succ], by rw [P1_succ]; exact hown⟩⟩
      simp (disch := omega) only [go_sem, ↓reduceIte, simprocAttr, eDc, wrap_i64]
  · intro h hH
    obtain ⟨tag, z, junk, t, rfl, hown⟩ := hH
    simp only [go_sem, ↓reduceIte, simprocAttr]
  · intro h' e1 hH
    subst e1
    obtain ⟨tag, z, junk, t, rfl, hown⟩ := hH
    refine ⟨_, ?_, ⟨tag, z, junk, t, rfl, hown⟩⟩
    simp only [go_sem, ↓reduceIte, simprocAttr, hnu]
end Go.Proofs.YtiighcpimecehaaGreat
end
section
namespace Go.Proofs.YtiighcpimecehaaGreat
open Go.Proofs
attribute [go_sem] opLookup

def fitsB (d : Dr) (ps : List Pl) (e c : Nat) : Bool := !allTo (fun s => !decide (((e, c, s) : Pl) ∈ ps)) d.steps.toNat
theorem c83 (d : Dr) (hs : 0 ≤ d.steps ∧ d.steps ≤ 6) (ps : List Pl) (e c : Nat) (r m : Nat) (o : AV) (h : Heap) (hr : h.b[r]? = some (.cells (eDc d ++ [o, .mapr m]))) (hm : h.b[m]? = some (.map (esL (num ps)))) :
    (EW tabX).call 121 [.ref r 0, .int .i64 e, .int .i64 c] h = some (.bool (fitsB d ps e c), h) := by
  obtain ⟨B, ht⟩ := h
  have hr : B[r]? = some (.cells (eDc d ++ [o, .mapr m])) := hr
  have hm : B[m]? = some (.map (esL (num ps))) := hm
  simp only [eDc, List.cons_append, List.nil_append] at hr
  rw [w_call _ fn_121 rfl]
  simp only [go_sem, ↓reduceIte, simprocAttr, hr]
  have look : ∀ s : Nat, eqCells [0, 0, 0] [.int .i64 e, .int .i64 c, .int .i64 s] [.int .i64 e, .int .i64 c, .int .i64 s] = some true ∧
      lookAV [0, 0, 0] (esL (num ps)) [.int .i64 e, .int .i64 c, .int .i64 s] = some (((num ps).find? fun x => decide (((e, c, s) : Pl) = x.1)).map fun x => .int .i64 x.2) := fun s =>
    ⟨by have := eqKey (e, c, s) (e, c, s); simpa [keyL] using this, look_es (e, c, s) (num ps)⟩
  have round : ∀ s : Nat, decide (((e, c, s) : Pl) ∈ ps) = (match (num ps).find? (fun x => decide (((e, c, s) : Pl) = x.1)) with | some x => decide (0 < x.2) | none => false) := fun s => by
    rw [← num_find]
    cases (num ps).find? (fun x => decide (((e, c, s) : Pl) = x.1)) <;> rfl
  cases ha : allTo (fun s => !decide (((e, c, s) : Pl) ∈ ps)) d.steps.toNat with
  | true =>
    rw [w_rounds_u (fun k => [(13, .int .i64 k)]) d.steps.toNat (.exit 0) [(13, .int .i64 d.steps.toNat)] ?_ ?_ ?_ rfl]
    · simp only [go_sem, ↓reduceIte, simprocAttr, fitsB, ha]
    · simp only [go_sem, ↓reduceIte, simprocAttr]
    · intro s hk
      have hsi : (s : Int) < d.steps := by omega
      have hn := allTo_at ha hk
      have hn : decide (((e, c, s) : Pl) ∈ ps) = false := by simpa using hn
      rw [round s] at hn
      obtain ⟨l1, l2⟩ := look s
      cases hf : (num ps).find? (fun x => decide (((e, c, s) : Pl) = x.1)) with
      | some x =>
        rw [hf] at hn l2
        simp only [Option.map_some] at l2
        simp only at hn
        simp (disch := omega) only [go_sem, ↓reduceIte, simprocAttr, hsi, hr, hm, l1, l2, hn, wrap_i64]
      | none =>
        rw [hf] at l2
        simp only [Option.map_none] at l2
        simp (disch := omega) only [go_sem, ↓reduceIte, simprocAttr, hsi, hr, hm, l1, l2, wrap_i64]
    · have hn : ((d.steps.toNat : Nat) : Int) = d.steps := by omega
      simp only [go_sem, ↓reduceIte, simprocAttr, hn]
  | false =>
    obtain ⟨n, hn, h1, h2⟩ := allTo_false ha
    rw [w_rounds_u (fun k => [(13, .int .i64 k)]) n .ret [(6, .bool true), (7, .int .i64 n), (13, .int .i64 n)] ?_ ?_ ?_ rfl]
    · simp only [go_sem, ↓reduceIte, simprocAttr, fitsB, ha]
    · simp only [go_sem, ↓reduceIte, simprocAttr]
    · intro s hk
      have hsi : (s : Int) < d.steps := by omega
      have hn := allTo_at h1 hk
      have hn : decide (((e, c, s) : Pl) ∈ ps) = false := by simpa using hn
      rw [round s] at hn
      obtain ⟨l1, l2⟩ := look s
      cases hf : (num ps).find? (fun x => decide (((e, c, s) : Pl) = x.1)) with
      | some x =>
        rw [hf] at hn l2
        simp only [Option.map_some] at l2
        simp only at hn
        simp (disch := omega) only [go_sem, ↓reduceIte, simprocAttr, hsi, hr, hm, l1, l2, hn, wrap_i64]
      | none =>
        rw [hf] at l2
        simp only [Option.map_none] at l2
        simp (disch := omega) only [go_sem, ↓reduceIte, simprocAttr, hsi, hr, hm, l1, l2, wrap_i64]
    · have hsi : (n : Int) < d.steps := by omega
      have hn : decide (((e, c, n) : Pl) ∈ ps) = true := by simpa using h2
      rw [round n] at hn
      obtain ⟨l1, l2⟩ := look n
      cases hf : (num ps).find? (fun x => decide (((e, c, n) : Pl) = x.1)) with
      | some x =>
        rw [hf] at hn l2
        simp only [Option.map_some] at l2
        simp only at hn
        simp (disch := omega) only [go_sem, ↓reduceIte, simprocAttr, hsi, hr, hm, l1, l2, hn, wrap_i64]
      | none => rw [hf] at hn; cases hn

def enterE (d : Dr) (many : Int) (l : List Int) : Int := if (checkT d).2.2 = 0 then (if l.any (out 0 (many - 1)) then 4 else 0) else (checkT d).2.2
theorem c60_no (d : Dr) (hd : d.fits) (many : Int) (hm : 0 ≤ many ∧ many < 1000000000000000000) (t z : Nat) (l : List Int) (hz : l ≠ [] → z = 1) (hl : l.length < 1000000000000000000) (he : enterE d many l ≠ 0) (h : Heap) :
    (EW tabX).call 42 [eD d, .int .i64 many, .lst t z (I l)] h = some (.tup [.nilp, .int .i64 (enterE d many l)], h) := by
  obtain ⟨B, ht⟩ := h
  have h16 := c16 d hd
  have h51 := c51 0 (many - 1) l z hz
  have hcl := eD_clean d
  have h3 : ∀ x y z, (tup3 (x, y, z)) = .tup [.int .i64 x, .int .i64 y, .int .i64 z] := fun _ _ _ => rfl
  unfold enterE at he ⊢
  rw [w_call _ fn_42 rfl]
  by_cases hc : (checkT d).2.2 = 0
  · rw [if_pos hc] at he ⊢
    have ha : l.any (out 0 (many - 1)) = true := by
      cases hh : l.any (out 0 (many - 1)) with
      | true => rfl
      | false => rw [hh] at he; exact absurd rfl he
    have hk : checkT d = (0, 0, 0) := (ok_of_check hc).2
    rw [hk] at h16
    simp only [go_sem, ↓reduceIte, simprocAttr, eD, eDc, eC_under, h3] at hcl h16 ⊢
    simp (disch := omega) only [go_sem, ↓reduceIte, simprocAttr, eC_clean, h16, h51 _ hl, ha, wrap_i64]
  · rw [if_neg hc] at he ⊢
    have hne : ((checkT d).2.2 != 0) = true := by simpa using hc
    simp only [go_sem, ↓reduceIte, simprocAttr, eD, eDc, eC_under, tup3] at hcl h16 ⊢
    simp (disch := omega) only [go_sem, ↓reduceIte, simprocAttr, eC_clean, h16, hne]
theorem c60_yes (d : Dr) (hd : d.fits) (many : Int) (hm : 0 ≤ many ∧ many < 1000000000000000000) (t z : Nat) (l : List Int) (hz : l ≠ [] → z = 1) (hl : l.length < 1000000000000000000) (he : enterE d many l = 0) (h : Heap) :
    d.Ok ∧ ∃ h', (EW tabX).call 42 [eD d, .int .i64 many, .lst t z (I l)] h = some (.tup [.ref (h.b.length + 3) 0, .int .i64 0], h') ∧ HL (h.b ++ [.cells (eDc d)]) d (P1 d d.halves.length) h' := by
  obtain ⟨B, ht⟩ := h
  have h16 := c16 d hd
  have h51 := c51 0 (many - 1) l z hz
  have hcl := eD_clean d
  have h3 : ∀ x y z, (tup3 (x, y, z)) = .tup [.int .i64 x, .int .i64 y, .int .i64 z] := fun _ _ _ => rfl
  unfold enterE at he
  have hc : (checkT d).2.2 = 0 := by
    by_cases hc : (checkT d).2.2 = 0
    · exact hc
    · rw [if_neg hc] at he; exact he
  rw [if_pos hc] at he
  have ha : l.any (out 0 (many - 1)) = false := by
    cases hh : l.any (out 0 (many - 1)) with
    | false => rfl
    | true => rw [hh] at he; cases he
  obtain ⟨ho, hk⟩ := ok_of_check hc
  refine ⟨ho, ?_⟩
  rw [hk] at h16
  obtain ⟨h', h75, hH⟩ := c75 d hd ho ⟨B ++ [.cells (eDc d)], ht⟩
  refine ⟨h', ?_, hH⟩
  obtain ⟨tag, zz, junk, t, rfl, hown⟩ := hH
  have hnu : ¬ (B.length + 1 + 2 < B.length) := by omega
  rw [w_call _ fn_42 rfl]
  simp only [go_sem, ↓reduceIte, simprocAttr, eD, eDc, eC_under, h3] at hcl h16 h75 ⊢
  simp (disch := omega) only [go_sem, ↓reduceIte, simprocAttr, eC_clean, h16, h51 _ hl, ha, wrap_i64, h75, hnu]
end Go.Proofs.YtiighcpimecehaaGreat
end
section
namespace Go.Proofs.YtiighcpimecehaaGreat
open Go.Proofs

def ownT (T0 : List Bool) (l : List Int) : AV := .lst (tagT T0 l.length) (zT 1 l.length) (I l)
theorem ownT_clean (T0 : List Bool) (l : List Int) : (ownT T0 l).clean = some (vI l) := by simp only [ownT, vI, go_sem, ↓reduceIte, simprocAttr]
theorem ownT_nil (T0 : List Bool) : ownT T0 [] = .lst 1 0 [] := rfl
theorem ownT_under (T0 : List Bool) (n : Nat) (l : List Int) : (ownT T0 l).under n = true := by simp only [ownT, go_sem, ↓reduceIte, simprocAttr]
theorem ownT_app (T0 : List Bool) (l : List Int) (x : Int) (hl : l.length < 1000) (B : List ABlk) :
    appendAV tabX 30 (T T0 l.length).length ⟨B, T T0 l.length⟩ (ownT T0 l) (.lst 1 1 [.int .i64 x]) = some (ownT T0 (l ++ [x]), ⟨B, T T0 (l ++ [x]).length⟩) := by
  have := append_step (X := tabX) (t := 30) (e := 3) (sz := 1) T0 l.length B (zT 1 l.length) 1 1 (I l) [.int .i64 x] (by simp only [go_sem, ↓reduceIte, simprocAttr]) (by simp only [go_sem, ↓reduceIte, simprocAttr])
    (by rcases Nat.eq_zero_or_pos l.length with e | e; exact .inl ⟨e, by rw [I_len, e]⟩; exact .inr (zT_pos e)) (.inl rfl) (by omega) (by simp only [go_sem, ↓reduceIte, simprocAttr]; omega) (by simp only [go_sem, ↓reduceIte, simprocAttr]; omega) (by simp only [go_sem, ↓reduceIte, simprocAttr]) (by simp only [go_sem, ↓reduceIte, simprocAttr])
  have e : (l ++ [x]).length = l.length + 1 := by simp
  rw [ownT, this, ownT, e, I_snoc]; rfl

def stepsOf (e c : Nat) (ps : List Pl) : List Int := (ps.filter fun p => decide (p = (e, c, p.2.2))).map fun p => (p.2.2 : Int)
theorem stepsOf_succ (e c : Nat) {ps : List Pl} {k : Nat} {p : Pl} (h : ps[k]? = some p) : stepsOf e c (ps.take (k + 1)) = if decide (p = (e, c, p.2.2)) = true then stepsOf e c (ps.take k) ++ [(p.2.2 : Int)] else stepsOf e c (ps.take k) := by
  unfold stepsOf
  rw [List.take_add_one, h, Option.toList_some, List.filter_append, List.map_append]
  cases hd : decide (p = (e, c, p.2.2)) <;> simp [hd]
theorem stepsOf_len (e c : Nat) (ps : List Pl) : (stepsOf e c ps).length ≤ ps.length := by
  unfold stepsOf; rw [List.length_map]; exact List.length_filter_le _ _
theorem stepsOf_app (e c : Nat) (a b : List Pl) : stepsOf e c (a ++ b) = stepsOf e c a ++ stepsOf e c b := by simp [stepsOf]
theorem stepsOf_no {e c : Nat} {ps : List Pl} (h : ∀ p ∈ ps, p.1 ≠ e ∨ p.2.1 ≠ c) : stepsOf e c ps = [] := by
  unfold stepsOf
  rw [List.filter_eq_nil_iff.2]
  · rfl
  · intro p hp
    obtain ⟨x, y, z⟩ := p
    rcases h _ hp with h | h <;> simp_all
theorem stepsOf_P3 (d : Dr) (e c k : Nat) : stepsOf e c (P3 d e c k) = ((List.range k).filter fun s => fitB d e c s).map fun (s : Nat) => (s : Int) := by
  unfold stepsOf P3
  rw [List.filter_eq_self.2]
  · simp
  · intro p hp
    obtain ⟨s, _, rfl⟩ := List.mem_map.1 hp
    simp
theorem stepsOf_P2 (d : Dr) (e c : Nat) : ∀ k, c < k → stepsOf e c (P2 d e k) = stepsOf e c (P3 d e c d.steps.toNat)
  | 0, h => by omega
  | k + 1, h => by
    rw [P2_succ, stepsOf_app]
    by_cases hk : c = k
    · subst hk
      rw [stepsOf_no (ps := P2 d e c) fun p hp => .inr (by have := (P2_mem hp).2; omega)]
      rfl
    · rw [stepsOf_P2 d e c k (by omega), stepsOf_no (ps := P3 d e k d.steps.toNat) fun p hp => .inr (by have := (P3_mem hp).2.1; omega)]
      simp
theorem stepsOf_P1 (d : Dr) (e c : Nat) (hc : c < d.cards.length) : ∀ k, e < k → stepsOf e c (P1 d k) = stepsOf e c (P3 d e c d.steps.toNat)
  | 0, h => by omega
  | k + 1, h => by
    rw [P1_succ, stepsOf_app]
    by_cases hk : e = k
    · subst hk
      rw [stepsOf_no (ps := P1 d e) fun p hp => .inl (by have := P1_mem hp; omega), stepsOf_P2 d e c _ hc]
      rfl
    · rw [stepsOf_P1 d e c hc k (by omega), stepsOf_no (ps := P2 d k d.cards.length) fun p hp => .inl (by have := (P2_mem hp).1; omega)]
      simp
theorem stepsOf_all (d : Dr) (e c : Nat) (he : e < d.halves.length) (hc : c < d.cards.length) : stepsOf e c (P1 d d.halves.length) = fitsL d (d.cards.getD c ⟨default, []⟩) (d.halves.getD e ⟨default, []⟩) d.steps.toNat := by
  rw [stepsOf_P1 d e c hc _ he, stepsOf_P3]; rfl

def fitsAV (d : Dr) (c e : Int) : AV := if askedE d c d.cards.length = 0 then (if askedE d e d.halves.length = 0 then .tup [vI (fitsL d (d.cards.getD c.toNat ⟨default, []⟩) (d.halves.getD e.toNat ⟨default, []⟩) d.steps.toNat), .int .i64 0] else .tup [vI [], .int .i64 (askedE d e d.halves.length)]) else .tup [vI [], .int .i64 (askedE d c d.cards.length)]

def cellP (p : Pl) : ABlk := .cells (keyL p)
theorem c18 (d : Dr) (hd : d.fits) (c e : Int) (h : Heap) : callPure (EW tabX) 31 [eD d, .int .i64 c, .int .i64 e] h = some (fitsAV d c e, h) := by
  have lc := hd.lc
  have lh := hd.lh
  have hcl := eD_clean d
  have asked1 : ∀ n below, askedE d n below = enterE d below [n] := fun n below => by
    unfold askedE enterE
    split
    · simp only [List.any_cons, List.any_nil, Bool.or_false]
      have := out_not 0 (below - 1) n
      cases ho : out 0 (below - 1) n <;> rw [ho] at this <;> rw [← this] <;> rfl
    · rfl
  rw [callPure_eq, w_call _ fn_31 rfl]
  unfold fitsAV
  by_cases h1 : askedE d c d.cards.length = 0
  · rw [if_pos h1]
    have h1' := h1
    rw [asked1] at h1'
    obtain ⟨ho, h', h60, hH⟩ := c60_yes d hd d.cards.length (by omega) 1 1 [c] (fun _ => rfl) (by simp) h1' ⟨[.cells (eDc d)], []⟩
    obtain ⟨tag, z, junk, t, rfl, hown⟩ := hH
    have hB0 : ([.cells (eDc d)] ++ [.cells (eDc d)] ++ (.cells (eDc d) :: .map (esL (num (P1 d d.halves.length))) :: .cells (eDc d ++ [.lst tag z ((P1 d d.halves.length).map eL), .mapr (([.cells (eDc d)] ++ [.cells (eDc d)] : List ABlk).length + 1)]) :: junk))[0]? = some (.cells (eDc d)) := rfl
    have hB4 : ([.cells (eDc d)] ++ [.cells (eDc d)] ++ (.cells (eDc d) :: .map (esL (num (P1 d d.halves.length))) :: .cells (eDc d ++ [.lst tag z ((P1 d d.halves.length).map eL), .mapr (([.cells (eDc d)] ++ [.cells (eDc d)] : List ABlk).length + 1)]) :: junk))[4]? = some (.cells (eDc d ++ [.lst tag z ((P1 d d.halves.length).map eL), .mapr 3])) := rfl
    have hlen : (P1 d d.halves.length).length ≤ 200 := by
      have a1 := P1_len d d.halves.length
      have := ho.c4; have := ho.h4; have := ho.s6
      have m1 : d.halves.length * (d.cards.length * d.steps.toNat) ≤ 4 * (4 * 6) := Nat.mul_le_mul (by omega) (Nat.mul_le_mul (by omega) (by omega))
      omega
    generalize [.cells (eDc d)] ++ [.cells (eDc d)] ++ (.cells (eDc d) :: .map (esL (num (P1 d d.halves.length))) :: .cells (eDc d ++ [.lst tag z ((P1 d d.halves.length).map eL), .mapr (([.cells (eDc d)] ++ [.cells (eDc d)] : List ABlk).length + 1)]) :: junk) = B at h60 hB0 hB4
    simp only [eDc, List.cons_append, List.nil_append] at hB0 hB4
    have hc0 : (checkT d).2.2 = 0 := by
      unfold askedE at h1
      split at h1
      · assumption
      · rename_i hx; exact absurd h1 hx
    have hci : inR c 0 (d.cards.length - 1) = true := by
      unfold askedE at h1; rw [if_pos hc0] at h1
      cases hh : inR c 0 (d.cards.length - 1) with
      | true => rfl
      | false => rw [hh] at h1; cases h1
    by_cases h2 : askedE d e d.halves.length = 0
    · rw [if_pos h2]
      have hei : inR e 0 (d.halves.length - 1) = true := by
        unfold askedE at h2; rw [if_pos hc0] at h2
        cases hh : inR e 0 (d.halves.length - 1) with
        | true => rfl
        | false => rw [hh] at h2; cases h2
      have heo : out 0 ((d.halves.length : Int) - 1) e = false := by rw [← Bool.not_not (out 0 ((d.halves.length : Int) - 1) e), out_not, hei]; rfl
      simp only [inR, Bool.and_eq_true, decide_eq_true_eq] at hci hei
      obtain ⟨c, rfl⟩ : ∃ n : Nat, c = n := ⟨c.toNat, by omega⟩
      obtain ⟨e, rfl⟩ : ∃ n : Nat, e = n := ⟨e.toNat, by omega⟩
      simp only [go_sem, ↓reduceIte, simprocAttr, eD, eDc, eC_under, I_c, I_nil] at hcl h60 ⊢
      simp (disch := omega) only [go_sem, ↓reduceIte, simprocAttr, eC_clean, h60, wrap_i64, c51_1, heo, hB0, hB4]
      rw [← stepsOf_all d e c (by omega) (by omega)]
      generalize P1 d d.halves.length = ps at hlen hown ⊢
      rw [w_rounds_h (fun k => [(6, ownT t (stepsOf e c (ps.take k))), (38, .int .i64 k)]) (fun k => ⟨B ++ (ps.take k).map cellP, T t (stepsOf e c (ps.take k)).length⟩) ps.length (.exit 1) [(6, ownT t (stepsOf e c ps)), (38, .int .i64 ps.length)] ⟨B ++ ps.map cellP, T t (stepsOf e c ps).length⟩ ?_ ?_ ?_ ?_ rfl]
      · simp only [go_sem, ↓reduceIte, simprocAttr, ownT_clean, ownT_under]
      · simp only [go_sem, ↓reduceIte, simprocAttr, stepsOf, List.filter_nil, List.map_nil, ownT_nil]
      · simp only [go_sem, ↓reduceIte, simprocAttr, stepsOf, List.filter_nil, List.map_nil, List.append_nil]
      · intro k hk
        have hx := List.getElem?_eq_getElem hk
        have hki : (k : Int) < ps.length := by omega
        have hz : z = 3 := by
          rcases hown with ⟨_, h0⟩ | ⟨_, _, h0, _⟩
          · omega
          · exact h0
        have hkey : eqCells [0, 0, 0] [.int .i64 ps[k].1, .int .i64 ps[k].2.1, .int .i64 ps[k].2.2] [.int .i64 e, .int .i64 c, .int .i64 ps[k].2.2] = some (decide (ps[k] = (e, c, ps[k].2.2))) := by
          have := eqKey ps[k] (e, c, ps[k].2.2)
          simpa only [keyL] using this
        have hsl := stepsOf_len e c (ps.take k)
        have htk : (ps.take k).length ≤ 200 := by rw [List.length_take]; omega
        have hap := ownT_app t (stepsOf e c (ps.take k)) (ps[k].2.2) (by omega)
        have hget : (ps.map eL)[k]? = some (eL ps[k]) := by simp [hk]
        rw [stepsOf_succ e c hx, map_succ cellP hx, ← List.append_assoc]
        generalize B ++ (ps.take k).map cellP = C
        cases hd2 : decide (ps[k] = (e, c, ps[k].2.2)) with
        | true =>
          rw [hd2] at hkey
          simp (disch := omega) only [go_sem, ↓reduceIte, simprocAttr, hki, hget, hz, eL, cellP, keyL, hkey, hap, wrap_i64, aggBin]
        | false =>
          rw [hd2] at hkey
          simp (disch := omega) only [go_sem, ↓reduceIte, simprocAttr, hki, hget, hz, eL, cellP, keyL, hkey, wrap_i64, aggBin]
      · simp only [go_sem, ↓reduceIte, simprocAttr]
    · rw [if_neg h2]
      have he4 : askedE d e d.halves.length = 4 := by
        unfold askedE at h2 ⊢; rw [if_pos hc0] at h2 ⊢
        split
        · rename_i hh; rw [if_pos hh] at h2; exact absurd rfl h2
        · rfl
      have heo : out 0 ((d.halves.length : Int) - 1) e = true := by
        rw [← Bool.not_not (out 0 ((d.halves.length : Int) - 1) e), out_not]
        cases hh : inR e 0 ((d.halves.length : Int) - 1) with
        | false => rfl
        | true => unfold askedE at h2; rw [if_pos hc0, if_pos hh] at h2; exact absurd rfl h2
      rw [he4]
      simp only [inR, Bool.and_eq_true, decide_eq_true_eq] at hci
      simp only [go_sem, ↓reduceIte, simprocAttr, eD, eDc, eC_under, I_c, I_nil] at hcl h60 ⊢
      simp (disch := omega) only [go_sem, ↓reduceIte, simprocAttr, eC_clean, h60, wrap_i64, c51_1, heo, hB0, vI_nil]
  · rw [if_neg h1]
    have h1' := h1
    rw [asked1] at h1'
    have h60 := c60_no d hd d.cards.length (by omega) 1 1 [c] (fun _ => rfl) (by simp) h1' ⟨[.cells (eDc d)], []⟩
    have hne : (enterE d d.cards.length [c] != 0) = true := by simpa using h1'
    rw [asked1]
    simp only [go_sem, ↓reduceIte, simprocAttr, eD, eDc, eC_under, I_c, I_nil] at hcl h60 ⊢
    simp (disch := omega) only [go_sem, ↓reduceIte, simprocAttr, eC_clean, h60, hne, vI_nil]
end Go.Proofs.YtiighcpimecehaaGreat
end
section
namespace Go.Proofs.YtiighcpimecehaaGreat
open Go.Proofs

def cpl : List Int → List Int → Nat
  | x :: xs, y :: ys => if x = y then cpl xs ys + 1 else 0
  | _, _ => 0
theorem cpl_le1 : ∀ a b : List Int, cpl a b ≤ a.length
  | [], _ => by simp [cpl]
  | x :: xs, [] => by simp [cpl]
  | x :: xs, y :: ys => by unfold cpl; split; have := cpl_le1 xs ys; simp; omega; omega
theorem cpl_le2 : ∀ a b : List Int, cpl a b ≤ b.length
  | [], _ => by simp [cpl]
  | x :: xs, [] => by simp [cpl]
  | x :: xs, y :: ys => by unfold cpl; split; have := cpl_le2 xs ys; simp; omega; omega
theorem cpl_eq : ∀ (a b : List Int) (k : Nat), k < cpl a b → a[k]? = b[k]?
  | [], b, k, h => by simp [cpl] at h
  | x :: xs, [], k, h => by simp [cpl] at h
  | x :: xs, y :: ys, k, h => by
    unfold cpl at h
    split at h
    · rename_i e
      cases k with
      | zero => simp [e]
      | succ k => simpa using cpl_eq xs ys k (by omega)
    · omega
theorem cpl_ne : ∀ (a b : List Int) (x y : Int), a[cpl a b]? = some x → b[cpl a b]? = some y → x ≠ y
  | [], b, x, y, h, _ => by simp [cpl] at h
  | u :: us, [], x, y, _, h => by simp [cpl] at h
  | u :: us, v :: vs, x, y, h1, h2 => by
    unfold cpl at h1 h2
    split at h1
    · rename_i e
      rw [if_pos e] at h2
      exact cpl_ne us vs x y (by simpa using h1) (by simpa using h2)
    · rename_i e
      rw [if_neg e] at h2
      simp at h1 h2
      rw [← h1, ← h2]; exact e
def ltB : List Int → List Int → Bool
  | _, [] => false
  | [], _ :: _ => true
  | x :: xs, y :: ys => if x = y then ltB xs ys else decide (x < y)
theorem ltB_cpl : ∀ a b : List Int, ltB a b = if cpl a b = b.length then false else (decide (cpl a b = a.length) || decide (a.getD (cpl a b) 0 < b.getD (cpl a b) 0))
  | [], [] => rfl
  | [], y :: ys => by simp [ltB, cpl]
  | x :: xs, [] => by simp [ltB, cpl]
  | x :: xs, y :: ys => by
    unfold ltB cpl
    by_cases e : x = y
    · rw [if_pos e, if_pos e, ltB_cpl xs ys]
      simp
    · rw [if_neg e, if_neg e]
      simp
theorem ltB_irrefl : ∀ a : List Int, ltB a a = false
  | [] => rfl
  | x :: xs => by unfold ltB; rw [if_pos rfl]; exact ltB_irrefl xs
theorem ltB_eq : ∀ a b : List Int, (decide (a.length = b.length) && (!ltB a b && !ltB b a)) = decide (a = b)
  | [], [] => rfl
  | [], y :: ys => by simp
  | x :: xs, [] => by simp
  | x :: xs, y :: ys => by
    have ih := ltB_eq xs ys
    simp only [ltB]
    by_cases e : x = y
    · subst e
      rw [if_pos rfl, if_pos rfl]
      simpa using ih
    · have e' : ¬ y = x := fun h => e h.symm
      rw [if_neg e, if_neg e']
      simp [e]
      omega

theorem c46 (a b : List Int) (za zb : Nat) (hza : a ≠ [] → za = 1) (hzb : b ≠ [] → zb = 1) (la : a.length < 1000000000000000000) (lb : b.length < 1000000000000000000) (h : Heap) :
    callPure (EW tabX) 48 [.lst 0 za (I a), .lst 0 zb (I b)] h = some (.bool (ltB a b), h) := by
  rw [callPure_eq, w_call _ fn_48 rfl]
  simp only [go_sem, ↓reduceIte, simprocAttr]
  have h1 := cpl_le1 a b
  have h2 := cpl_le2 a b
  rw [w_rounds_u (fun k => [(5, .int .i64 k)]) (cpl a b) (.exit 0) [(5, .int .i64 (cpl a b))] ?_ ?_ ?_ rfl]
  · rw [ltB_cpl]
    by_cases e : cpl a b = b.length
    · simp only [go_sem, ↓reduceIte, simprocAttr, e]
    · have e' : (((cpl a b : Nat) : Int) == b.length) = false := by simp; omega
      have hzb1 := hzb (by intro h; rw [h] at e; simp [cpl] at e)
      have hb : b[cpl a b]? = some (b.getD (cpl a b) 0) := by
        rw [List.getD_eq_getElem?_getD, List.getElem?_eq_getElem (show cpl a b < b.length by omega)]; rfl
      by_cases f : cpl a b = a.length
      · have f' : (((cpl a b : Nat) : Int) == a.length) = true := by simp [f]
        have fd : decide (cpl a b = a.length) = true := by simp [f]
        simp only [go_sem, ↓reduceIte, simprocAttr, e', e, f', fd]
      · have f' : (((cpl a b : Nat) : Int) == a.length) = false := by simp; omega
        have fd : decide (cpl a b = a.length) = false := by simp [f]
        have hza1 := hza (by intro h; rw [h] at h1; simp at h1; rw [h] at f; simp at f; omega)
        have ha : a[cpl a b]? = some (a.getD (cpl a b) 0) := by
          rw [List.getD_eq_getElem?_getD, List.getElem?_eq_getElem (show cpl a b < a.length by omega)]; rfl
        simp only [go_sem, ↓reduceIte, simprocAttr, e', e, f', fd, ha, hb, hza1, hzb1]
  · simp only [go_sem, ↓reduceIte, simprocAttr]
  · intro k hk
    have ka : k < a.length := by omega
    have kb : k < b.length := by omega
    have kai : (k : Int) < a.length := by omega
    have kbi : (k : Int) < b.length := by omega
    have hx := List.getElem?_eq_getElem ka
    have hy := List.getElem?_eq_getElem kb
    have he := cpl_eq a b k hk
    rw [hx, hy] at he
    simp only [Option.some.injEq] at he
    have hza1 := hza (by intro h; rw [h] at ka; simp at ka)
    have hzb1 := hzb (by intro h; rw [h] at kb; simp at kb)
    simp (disch := omega) only [go_sem, ↓reduceIte, simprocAttr, kai, kbi, hx, hy, he, hza1, hzb1, wrap_i64]
  · by_cases f : cpl a b < a.length
    · have fi : ((cpl a b : Nat) : Int) < a.length := by omega
      by_cases g : cpl a b < b.length
      · have gi : ((cpl a b : Nat) : Int) < b.length := by omega
        have hx := List.getElem?_eq_getElem f
        have hy := List.getElem?_eq_getElem g
        have hne := cpl_ne a b _ _ hx hy
        have hne' : (a[cpl a b] == b[cpl a b]) = false := by simpa using hne
        have hza1 := hza (by intro h; rw [h] at f; simp at f)
        have hzb1 := hzb (by intro h; rw [h] at g; simp at g)
        simp (disch := omega) only [go_sem, ↓reduceIte, simprocAttr, fi, gi, hx, hy, hne', hza1, hzb1]
      · have gi : ¬ ((cpl a b : Nat) : Int) < b.length := by omega
        simp (disch := omega) only [go_sem, ↓reduceIte, simprocAttr, fi, gi]
    · have fi : ¬ ((cpl a b : Nat) : Int) < a.length := by omega
      simp (disch := omega) only [go_sem, ↓reduceIte, simprocAttr, fi]
theorem c20 (a b : List Int) (za zb : Nat) (hza : a ≠ [] → za = 1) (hzb : b ≠ [] → zb = 1) (la : a.length < 1000000000000000000) (lb : b.length < 1000000000000000000) (h : Heap) :
    callPure (EW tabX) 12 [.lst 0 za (I a), .lst 0 zb (I b)] h = some (.bool (decide (a = b)), h) := by
  have h1 := c46 a b za zb hza hzb la lb
  have h2 := c46 b a zb za hzb hza lb la
  rw [callPure_eq, w_call _ fn_12 rfl, ← ltB_eq]
  have e : ((a.length : Int) == b.length) = decide (a.length = b.length) := by rw [Bool.eq_iff_iff]; simp; omega
  simp only [go_sem, ↓reduceIte, simprocAttr, h1, h2, e]
theorem any_succ {α : Type} (p : α → Bool) {l : List α} {k : Nat} {x : α} (h : l[k]? = some x) : (l.take (k + 1)).any p = ((l.take k).any p || p x) := by
  rw [List.take_add_one, h]; simp
theorem c39 (l : List Int) (n : Int) (z : Nat) (hz : l ≠ [] → z = 1) (hl : l.length < 1000000000000000000) (h : Heap) :
    callPure (EW tabX) 45 [.lst 0 z (I l), .int .i64 n] h = some (.bool (l.any fun x => x == n), h) := by
  rw [callPure_eq, w_call _ fn_45 rfl]
  simp only [go_sem, ↓reduceIte, simprocAttr]
  rw [w_rounds_u (fun k => [(5, .bool ((l.take k).any fun x => x == n)), (6, .int .i64 k)]) l.length (.exit 0) [(5, .bool (l.any fun x => x == n)), (6, .int .i64 l.length)] ?_ ?_ ?_ rfl]
  · simp only [go_sem, ↓reduceIte, simprocAttr]
  · simp only [go_sem, ↓reduceIte, simprocAttr, List.any_nil]
  · intro k hk
    have hki : (k : Int) < l.length := by omega
    have hx := List.getElem?_eq_getElem hk
    have hz1 := hz (by intro e; rw [e] at hk; simp at hk)
    subst hz1
    simp (disch := omega) only [go_sem, ↓reduceIte, simprocAttr, hki, hx, wrap_i64, any_succ _ hx]
  · simp only [go_sem, ↓reduceIte, simprocAttr]

def lostL (l : List Int) (n : Nat) : List Int := ((List.range n).filter fun i => decide (l.getD i 0 = -1)).map fun (i : Nat) => (i : Int)
theorem lostL_succ (l : List Int) (n : Nat) : lostL l (n + 1) = if decide (l.getD n 0 = -1) = true then lostL l n ++ [(n : Int)] else lostL l n := by
  unfold lostL
  rw [List.range_succ, List.filter_append, List.map_append]
  have e : (List.filter (fun i => decide (l.getD i 0 = -1)) [n]) = if decide (l.getD n 0 = -1) = true then [n] else [] := by simp only [List.filter_cons, List.filter_nil]
  rw [e]
  split <;> simp
theorem lostL_len (l : List Int) (n : Nat) : (lostL l n).length ≤ n := by
  unfold lostL; rw [List.length_map]; have := List.length_filter_le (fun i => decide (l.getD i 0 = -1)) (List.range n); simpa using this
theorem c45 (l : List Int) (z : Nat) (hz : l ≠ [] → z = 1) (hl : l.length < 900) (h : Heap) :
    callPure (EW tabX) 50 [.lst 0 z (I l)] h = some (vI (lostL l l.length), h) := by
  rw [callPure_eq, w_call _ fn_50 rfl]
  simp only [go_sem, ↓reduceIte, simprocAttr]
  rw [w_rounds_h (fun k => [(3, ownT [] (lostL l k)), (4, .int .i64 k)]) (fun k => ⟨[], T [] (lostL l k).length⟩) l.length (.exit 0) [(3, ownT [] (lostL l l.length)), (4, .int .i64 l.length)] ⟨[], T [] (lostL l l.length).length⟩ ?_ ?_ ?_ ?_ rfl]
  · simp only [go_sem, ↓reduceIte, simprocAttr, ownT_clean, ownT_under]
  · simp only [go_sem, ↓reduceIte, simprocAttr]; rfl
  · rfl
  · intro k hk
    have hki : (k : Int) < l.length := by omega
    have hx := List.getElem?_eq_getElem hk
    have hz1 := hz (by intro e; rw [e] at hk; simp at hk)
    subst hz1
    have hg : l.getD k 0 = l[k] := by simp [hk]
    have hln := lostL_len l k
    have hap := ownT_app [] (lostL l k) k (by omega)
    rw [lostL_succ, hg]
    by_cases e : l[k] = -1
    · simp (disch := omega) only [go_sem, ↓reduceIte, simprocAttr, hki, hx, wrap_i64, e, hap]
    · have e' : (l[k] == -1) = false := by simpa using e
      simp (disch := omega) only [go_sem, ↓reduceIte, simprocAttr, hki, hx, wrap_i64, e, e']
  · simp only [go_sem, ↓reduceIte, simprocAttr]
end Go.Proofs.YtiighcpimecehaaGreat
end
section
namespace Go.Proofs.YtiighcpimecehaaGreat
open Go.Proofs

theorem shr_and : ∀ s : Fin 16, ∀ i : Fin 4, (IntKind.i64.wrap (BitVec.ofInt 64 (((s.1 : Nat) : Int).fdiv (2 ^ (min i.1 64))) &&& BitVec.ofInt 64 1).toNat == 1) = s.1.testBit i.1 := by decide
theorem or_bit : ∀ s : Fin 16, ∀ i : Fin 4, IntKind.i64.wrap (BitVec.ofInt 64 ((s.1 : Nat) : Int) ||| BitVec.ofInt 64 (IntKind.i64.wrap (1 * 2 ^ (min i.1 64)))).toNat = ((s.1 ||| 2 ^ i.1 : Nat) : Int) := by decide
theorem or_lt : ∀ s : Fin 16, ∀ i : Fin 4, (s.1 ||| 2 ^ i.1) < 16 := by decide
theorem or_test : ∀ s : Fin 16, ∀ i : Fin 4, ∀ j : Fin 4, (s.1 ||| 2 ^ i.1).testBit j.1 = (s.1.testBit j.1 || decide (i = j)) := by decide

def bitsL (s n : Nat) : List Int := ((List.range n).filter fun i => s.testBit i).map fun (i : Nat) => (i : Int)
theorem bitsL_succ (s n : Nat) : bitsL s (n + 1) = if s.testBit n = true then bitsL s n ++ [(n : Int)] else bitsL s n := by
  unfold bitsL
  rw [List.range_succ, List.filter_append, List.map_append]
  have e : (List.filter (fun i => s.testBit i) [n]) = if s.testBit n = true then [n] else [] := by simp only [List.filter_cons, List.filter_nil]
  rw [e]
  split <;> simp
theorem bitsL_len (s n : Nat) : (bitsL s n).length ≤ n := by
  unfold bitsL; rw [List.length_map]; have := List.length_filter_le (fun i => s.testBit i) (List.range n); simpa using this
theorem c63 (s n : Nat) (hs : s < 16) (hn : n ≤ 4) (h : Heap) : callPure (EW tabX) 44 [.int .i64 s, .int .i64 n] h = some (vI (bitsL s n), h) := by
  rw [callPure_eq, w_call _ fn_44 rfl]
  simp only [go_sem, ↓reduceIte, simprocAttr]
  rw [w_rounds_h (fun k => [(4, ownT [] (bitsL s k)), (7, .int .i64 k)]) (fun k => ⟨[], T [] (bitsL s k).length⟩) n (.exit 0) [(4, ownT [] (bitsL s n)), (7, .int .i64 n)] ⟨[], T [] (bitsL s n).length⟩ ?_ ?_ ?_ ?_ rfl]
  · simp only [go_sem, ↓reduceIte, simprocAttr, ownT_clean, ownT_under]
  · simp only [go_sem, ↓reduceIte, simprocAttr]; rfl
  · rfl
  · intro k hk
    have hki : (k : Int) < n := by omega
    have hb := shr_and ⟨s, hs⟩ ⟨k, by omega⟩
    have hln := bitsL_len s k
    have hap := ownT_app [] (bitsL s k) k (by omega)
    rw [bitsL_succ]
    cases e : s.testBit k with
    | true =>
      simp only [e] at hb
      simp (disch := omega) only [go_sem, ↓reduceIte, simprocAttr, hki, wrap_i64, hap]
      rw [if_pos (by exact hb)]
    | false =>
      simp only [e] at hb
      simp (disch := omega) only [go_sem, ↓reduceIte, simprocAttr, hki, wrap_i64]
      rw [if_neg (by intro hh; exact Bool.false_ne_true (hb.symm.trans hh))]
      try simp (disch := omega) only [go_sem, ↓reduceIte, simprocAttr, wrap_i64]
  · simp only [go_sem, ↓reduceIte, simprocAttr]

theorem c85 (x : Int) (h : Heap) : callPure (EW tabX) 136 [.int .i64 x] h = some (.bool false, h) := by
  rw [callPure_eq, w_call _ fn_136 rfl]
  simp only [go_sem, ↓reduceIte, simprocAttr]
def cmpI (x y : Int) : Int := if x < y then -1 else if y < x then 1 else 0
theorem c77 (x y : Int) (h : Heap) : callPure (EW tabX) 95 [.int .i64 x, .int .i64 y] h = some (.int .i64 (cmpI x y), h) := by
  rw [callPure_eq, w_call _ fn_95 rfl]
  unfold cmpI
  by_cases h1 : x < y
  · simp only [go_sem, ↓reduceIte, simprocAttr, c85, h1]
  · by_cases h2 : y < x
    · simp only [go_sem, ↓reduceIte, simprocAttr, c85, h1, h2]
    · simp only [go_sem, ↓reduceIte, simprocAttr, c85, h1, h2]
def cmpL (a b : List Int) : Int := if ltB a b then -1 else if a = b then 0 else 1
theorem cmpL_neg (a b : List Int) : decide (cmpL a b < 0) = ltB a b := by
  unfold cmpL
  cases ltB a b with
  | true => rfl
  | false => simp only [Bool.false_eq_true, if_false]; split <;> rfl
theorem c64 (a b : List Int) (za zb : Nat) (hza : a ≠ [] → za = 1) (hzb : b ≠ [] → zb = 1) (la : a.length < 1000000000000000000) (lb : b.length < 1000000000000000000) (h : Heap) :
    callPure (EW tabX) 47 [.lst 0 za (I a), .lst 0 zb (I b)] h = some (.int .i64 (cmpL a b), h) := by
  rw [callPure_eq, w_call _ fn_47 rfl]
  simp only [go_sem, ↓reduceIte, simprocAttr]
  have h1 := cpl_le1 a b
  have h2 := cpl_le2 a b
  have hlt := ltB_cpl a b
  have heq := ltB_eq a b
  have round : ∀ k, k < cpl a b → ∃ x, a[k]? = some x ∧ b[k]? = some x ∧ (k : Int) < a.length ∧ ¬ (b.length : Int) ≤ k ∧ za = 1 ∧ zb = 1 := fun k hk => by
    have ka : k < a.length := by omega
    have kb : k < b.length := by omega
    have hx := List.getElem?_eq_getElem ka
    have he := cpl_eq a b k hk
    exact ⟨a[k], hx, by rw [← he]; exact hx, by omega, by omega, hza (by intro h; rw [h] at ka; simp at ka), hzb (by intro h; rw [h] at kb; simp at kb)⟩
  have cz : ∀ x, cmpI x x = 0 := fun x => by unfold cmpI; rw [if_neg (by omega), if_neg (by omega)]
  by_cases e : cpl a b = a.length
  · rw [w_rounds_u (fun k => [(11, .int .i64 k)]) (cpl a b) (.exit 0) [(11, .int .i64 (cpl a b))] ?_ ?_ ?_ rfl]
    · by_cases f : a.length < b.length
      · have fi : (a.length : Int) < b.length := by omega
        have hl : ltB a b = true := by rw [hlt, if_neg (by omega), e]; simp
        simp only [go_sem, ↓reduceIte, simprocAttr, fi, cmpL, hl]
      · have fi : ¬ (a.length : Int) < b.length := by omega
        have hl : ltB a b = false := by rw [hlt, if_pos (by omega)]
        have hab : a = b := by
          apply List.ext_getElem? 
          intro k
          by_cases hk : k < cpl a b
          · exact cpl_eq a b k hk
          · rw [List.getElem?_eq_none (by omega), List.getElem?_eq_none (by omega)]
        subst hab
        simp only [go_sem, ↓reduceIte, simprocAttr, cmpL, hl]
    · simp only [go_sem, ↓reduceIte, simprocAttr]
    · intro k hk
      obtain ⟨x, x1, x2, x3, x4, x5, x6⟩ := round k hk
      simp (disch := omega) only [go_sem, ↓reduceIte, simprocAttr, x1, x2, x3, x4, x5, x6, c77, cz, wrap_i64]
    · simp only [go_sem, ↓reduceIte, simprocAttr, e]
  · have g : cpl a b < a.length := by omega
    have gi : ((cpl a b : Nat) : Int) < a.length := by omega
    have hx := List.getElem?_eq_getElem g
    have hza1 := hza (by intro h; rw [h] at g; simp at g)
    by_cases f : cpl a b = b.length
    · have fi : (b.length : Int) ≤ (cpl a b : Nat) := by omega
      have hl : ltB a b = false := by rw [hlt, if_pos f]
      have hab : ¬ a = b := fun h => by rw [h] at g f; omega
      rw [w_rounds_u (fun k => [(11, .int .i64 k)]) (cpl a b) .ret [(4, .int .i64 1), (5, .int .i64 (cpl a b)), (6, .int .i64 a[cpl a b]), (11, .int .i64 (cpl a b))] ?_ ?_ ?_ rfl]
      · simp only [go_sem, ↓reduceIte, simprocAttr, cmpL, hl, hab]
      · simp only [go_sem, ↓reduceIte, simprocAttr]
      · intro k hk
        obtain ⟨x, x1, x2, x3, x4, x5, x6⟩ := round k hk
        simp (disch := omega) only [go_sem, ↓reduceIte, simprocAttr, x1, x2, x3, x4, x5, x6, c77, cz, wrap_i64]
      · simp only [go_sem, ↓reduceIte, simprocAttr, hx, gi, hza1, fi]
    · have g2 : cpl a b < b.length := by omega
      have gi2 : ¬ (b.length : Int) ≤ (cpl a b : Nat) := by omega
      have hy := List.getElem?_eq_getElem g2
      have hzb1 := hzb (by intro h; rw [h] at g2; simp at g2)
      have hne := cpl_ne a b _ _ hx hy
      have ea : a.getD (cpl a b) 0 = a[cpl a b] := by simp [g]
      have eb : b.getD (cpl a b) 0 = b[cpl a b] := by simp [g2]
      have hab : ¬ a = b := fun h => by subst h; exact hne rfl
      have hl : ltB a b = decide (a[cpl a b] < b[cpl a b]) := by rw [hlt, if_neg f, ea, eb]; simp [e]
      have hc : cmpL a b = cmpI a[cpl a b] b[cpl a b] := by
        unfold cmpL cmpI
        rw [hl, if_neg hab]
        by_cases q : a[cpl a b] < b[cpl a b]
        · simp [q]
        · have q2 : b[cpl a b] < a[cpl a b] := by omega
          simp [q, q2]
      have hn0 : (cmpI a[cpl a b] b[cpl a b] != 0) = true := by
        unfold cmpI
        by_cases q : a[cpl a b] < b[cpl a b]
        · simp [q]
        · have q2 : b[cpl a b] < a[cpl a b] := by omega
          simp [q, q2]
      rw [w_rounds_u (fun k => [(11, .int .i64 k)]) (cpl a b) .ret [(4, .int .i64 (cmpI a[cpl a b] b[cpl a b])), (5, .int .i64 (cpl a b)), (6, .int .i64 a[cpl a b]), (7, .int .i64 b[cpl a b]), (8, .int .i64 (cmpI a[cpl a b] b[cpl a b])), (11, .int .i64 (cpl a b))] ?_ ?_ ?_ rfl]
      · simp only [go_sem, ↓reduceIte, simprocAttr, hc]
      · simp only [go_sem, ↓reduceIte, simprocAttr]
      · intro k hk
        obtain ⟨x, x1, x2, x3, x4, x5, x6⟩ := round k hk
        simp (disch := omega) only [go_sem, ↓reduceIte, simprocAttr, x1, x2, x3, x4, x5, x6, c77, cz, wrap_i64]
      · simp only [go_sem, ↓reduceIte, simprocAttr, hx, hy, gi, gi2, hza1, hzb1, c77, hn0]
end Go.Proofs.YtiighcpimecehaaGreat
end
section
namespace Go.Proofs.YtiighcpimecehaaGreat
open Go.Proofs

section
variable {X : Tab} {f : Nat} {rd : Option Nat} {b : Code}
theorem w_rounds_sk {σ : Type} {G : Prop} {g : Slots} {h : Heap} {ms : List Nat} {x : Option (AExit × St)} (hx : (EW X).code f rd (.loop b) ⟨⟨g, []⟩, h, ms⟩ = x)
    (U : Nat → σ → Slots) (Hp : σ → Heap) (R : Nat → σ → Prop) (n : Nat) (e : AExit) (V : σ → Slots) (hr : isNormal e = false) (s0 : σ) (h0 : puts g (U 0 s0) = g) (hh : Hp s0 = h) (hR : R 0 s0)
    (hs : ∀ k s, k < n → R k s → ∃ s', cutS ⟨⟨puts g (U k s), []⟩, Hp s, ms⟩ ((EW X).code f rd b ⟨⟨puts g (U k s), []⟩, Hp s, ms⟩) = some (.normal, ⟨⟨puts g (U (k + 1) s'), []⟩, Hp s', ms⟩) ∧ R (k + 1) s')
    (he : ∀ s, R n s → cutS ⟨⟨puts g (U n s), []⟩, Hp s, ms⟩ ((EW X).code f rd b ⟨⟨puts g (U n s), []⟩, Hp s, ms⟩) = some (e, ⟨⟨puts g (V s), []⟩, Hp s, ms⟩))
    (hG : ∀ s, x = some (e, ⟨⟨puts g (V s), []⟩, Hp s, ms⟩) → R n s → G) (hm : mapLoop b = none := by rfl) : G := by
  obtain ⟨e', s', h1, s, rfl, rfl, h2⟩ := w_rounds_ex hx (fun k q => ∃ s, q = ⟨⟨puts g (U k s), []⟩, Hp s, ms⟩ ∧ R k s) n (fun e' q => ∃ s, e' = e ∧ q = ⟨⟨puts g (V s), []⟩, Hp s, ms⟩ ∧ R n s)
    ⟨s0, by rw [h0, hh], hR⟩ (fun k q hk ⟨s, hq1, hq2⟩ => by
      subst hq1
      obtain ⟨s', a, c⟩ := hs k s hk hq2
      exact ⟨_, a, s', rfl, c⟩)
    (fun q ⟨s, hq1, hq2⟩ => by
      subst hq1
      exact ⟨e, _, he s hq2, hr, s, rfl, rfl, hq2⟩) hm
  exact hG s h1 h2
end

def OwnS (sz tag z n : Nat) (t : List Bool) : Prop := (tag = 1 ∧ n = 0) ∨ ∃ q, tag = q + 2 ∧ z = sz ∧ t[q]? = some true
theorem app_gen {X : Tab} {ty e : TypeId} {sz : Nat} {tag z : Nat} {t : List Bool} {xs : List AV} (hn : OwnS sz tag z xs.length t) (u z' : Nat) (ys : List AV) (ht : trow X ty = .slice e) (hs : tsz X e = sz) (h0 : 0 < sz) (hz' : z' = sz ∨ ys.length = 0)
    (hy : (xs.length + ys.length) * tbytes X e ≤ 140737488355328) (hy2 : xs.length + ys.length ≤ 140737488355328) (hf : zeroFits X e = true) (hv : ys.all AV.var = true) :
    ∃ t2, (∀ B, appendAV X ty t.length ⟨B, t⟩ (.lst tag z xs) (.lst u z' ys) = some (.lst (t.length + 2) sz (xs ++ ys), ⟨B, t2⟩)) ∧ t2.length = t.length + 1 ∧ t2[t.length]? = some true ∧ ∀ k, tag ≠ k + 2 → t[k]? = some true → t2[k]? = some true := by
  have hc : (z' = tsz X e ∨ ys.length = 0) ∧ 0 < tsz X e ∧ (xs.length + ys.length) * tbytes X e ≤ appLimit ∧ xs.length + ys.length ≤ appLimit ∧ zeroFits X e = true ∧ ys.all AV.var = true := by
    rw [hs]; exact ⟨hz', h0, hy, hy2, hf, hv⟩
  unfold appendAV
  simp only [ht, if_pos hc]
  rcases hn with ⟨rfl, hn0⟩ | ⟨q, rfl, hq, hqt⟩
  · have hx : z = tsz X e ∨ xs.length = 0 := .inr hn0
    refine ⟨t ++ [true], fun B => ?_, by simp, by simp, fun k _ hk => old hk _⟩
    rw [if_pos ⟨hx, .inl (by omega)⟩]
    simp only [hs, lset, Nat.lt_irrefl, if_false]
  · have hx : z = tsz X e := by rw [hs, hq]
    refine ⟨t.set q false ++ [true], fun B => ?_, by simp, by simp, fun k hne hk => ?_⟩
    · simp only [hqt]
      rw [if_pos hx]
      simp only [hs, lset, List.length_set, Nat.lt_irrefl, if_false]
    · refine old ?_ _
      rw [List.getElem?_set_ne (by omega)]; exact hk

def Rows (xs : List AV) (ts : List (List Int)) : Prop := xs.length = ts.length ∧ ∀ (i : Nat) (t : List Int), ts[i]? = some t → ∃ tg z, xs[i]? = some (.lst tg z (I t)) ∧ (t ≠ [] → z = 1)
theorem Rows.snoc {xs : List AV} {ts : List (List Int)} (h : Rows xs ts) (tg : Nat) (t : List Int) : Rows (xs ++ [.lst tg 1 (I t)]) (ts ++ [t]) := by
  refine ⟨by simp [h.1], fun i u hu => ?_⟩
  rw [List.getElem?_append] at hu
  split at hu
  · obtain ⟨a, z, h1, h2⟩ := h.2 i u hu
    exact ⟨a, z, old h1 _, h2⟩
  · rename_i hi
    have : i = ts.length := by
      by_cases e : i - ts.length = 0
      · omega
      · rw [List.getElem?_eq_none (by simp; omega)] at hu; cases hu
    subst this
    simp at hu; subst hu
    refine ⟨tg, 1, ?_, fun _ => rfl⟩
    rw [← h.1]; simp
theorem Rows.under {xs : List AV} {ts : List (List Int)} (h : Rows xs ts) (n : Nat) : underL n xs = true := by
  refine underL_of fun x hx => ?_
  obtain ⟨i, hi, e⟩ := List.mem_iff_getElem.1 hx
  have hi2 : i < ts.length := by rw [← h.1]; exact hi
  obtain ⟨a, z, h1, _⟩ := h.2 i ts[i] (List.getElem?_eq_getElem hi2)
  rw [List.getElem?_eq_getElem hi, e] at h1
  simp only [Option.some.injEq] at h1
  rw [h1]; simp only [go_sem, ↓reduceIte, simprocAttr]
theorem Rows.var {xs : List AV} {ts : List (List Int)} (h : Rows xs ts) : xs.all AV.var = true := by
  rw [List.all_eq_true]
  intro x hx
  obtain ⟨i, hi, e⟩ := List.mem_iff_getElem.1 hx
  have hi2 : i < ts.length := by rw [← h.1]; exact hi
  obtain ⟨a, z, h1, _⟩ := h.2 i ts[i] (List.getElem?_eq_getElem hi2)
  rw [List.getElem?_eq_getElem hi, e] at h1
  simp only [Option.some.injEq] at h1
  rw [h1]; rfl
theorem Rows.clean : ∀ {xs : List AV} {ts : List (List Int)}, Rows xs ts → ∃ ys, cleanL xs = some ys ∧ Rows ys ts ∧ cleanL ys = some ys
  | [], ts, h => ⟨[], cleanL_nil, h, cleanL_nil⟩
  | x :: xs, [], h => by have := h.1; simp at this
  | x :: xs, t :: ts, h => by
    have h' : Rows xs ts := ⟨by have := h.1; simpa using this, fun i u hu => by simpa using h.2 (i + 1) u (by simpa using hu)⟩
    obtain ⟨ys, h1, h2, h3⟩ := h'.clean
    obtain ⟨a, z, h4, h5⟩ := h.2 0 t rfl
    simp only [List.getElem?_cons_zero, Option.some.injEq] at h4
    subst h4
    refine ⟨.lst 0 z (I t) :: ys, by simp only [go_sem, ↓reduceIte, simprocAttr, h1], ⟨by have := h2.1; simp [this], fun i u hu => ?_⟩, by simp only [go_sem, ↓reduceIte, simprocAttr, h3]⟩
    cases i with
    | zero => simp at hu; subst hu; exact ⟨0, z, rfl, h5⟩
    | succ i => simpa using h2.2 i u (by simpa using hu)

def okHC (d : Dr) (e c : Nat) : Bool := decide (0 < (fitsL d (d.cards.getD c ⟨default, []⟩) (d.halves.getD e ⟨default, []⟩) d.steps.toNat).length)
def may (d : Dr) (e : Nat) (t : List Int) : Nat → Bool
  | 0 => true
  | k + 1 => !(t.any fun x => x == (k : Int)) && okHC d e k
def extK (d : Dr) (e : Nat) (t : List Int) (k : Nat) : List (List Int) := ((List.range k).filter fun i => may d e t i).map fun (i : Nat) => t ++ [(i : Int) - 1]
def truthsL (d : Dr) : Nat → List (List Int)
  | 0 => [[]]
  | e + 1 => (truthsL d e).flatMap fun t => extK d e t (d.cards.length + 1)
theorem extK_succ (d : Dr) (e : Nat) (t : List Int) (k : Nat) : extK d e t (k + 1) = if may d e t k = true then extK d e t k ++ [t ++ [(k : Int) - 1]] else extK d e t k := by
  unfold extK
  rw [List.range_succ, List.filter_append, List.map_append]
  have h : (List.filter (fun i => may d e t i) [k]) = if may d e t k = true then [k] else [] := by simp only [List.filter_cons, List.filter_nil]
  rw [h]
  split <;> simp
theorem extK_len (d : Dr) (e : Nat) (t : List Int) (k : Nat) : (extK d e t k).length ≤ k := by
  unfold extK; rw [List.length_map]; have := List.length_filter_le (fun i => may d e t i) (List.range k); simpa using this
end Go.Proofs.YtiighcpimecehaaGreat
end
section
namespace Go.Proofs.YtiighcpimecehaaGreat
open Go.Proofs

structure RS where
  tg : Nat
  z : Nat
  xs : List AV
  t : List Bool
def RS.v (s : RS) : AV := .lst s.tg s.z s.xs
def RS.is (s : RS) (ts : List (List Int)) : Prop := Rows s.xs ts ∧ OwnS 1 s.tg s.z s.xs.length s.t

theorem truthsL_ne (d : Dr) : ∀ e, truthsL d e ≠ []
  | 0 => by simp [truthsL]
  | e + 1 => by
    intro h
    unfold truthsL at h
    rw [List.flatMap_eq_nil_iff] at h
    obtain ⟨t, ht⟩ := List.exists_mem_of_ne_nil _ (truthsL_ne d e)
    have := h t ht
    have h2 : (0 : Nat) ∈ (List.range (d.cards.length + 1)).filter fun i => may d e t i := List.mem_filter.2 ⟨by simp, rfl⟩
    unfold extK at this
    rw [List.map_eq_nil_iff] at this
    rw [this] at h2; cases h2
theorem truthsL_mem (d : Dr) : ∀ (e : Nat) (t : List Int), t ∈ truthsL d e → t.length = e
  | 0, t, h => by simp [truthsL] at h; simp [h]
  | e + 1, t, h => by
    unfold truthsL at h
    obtain ⟨u, hu, ht⟩ := List.mem_flatMap.1 h
    unfold extK at ht
    obtain ⟨i, _, rfl⟩ := List.mem_map.1 ht
    simp [truthsL_mem d e u hu]
theorem flat_len {α β : Type} (f : α → List β) (m : Nat) : ∀ l : List α, (∀ x ∈ l, (f x).length ≤ m) → (l.flatMap f).length ≤ l.length * m
  | [], _ => by simp
  | x :: l, h => by
    have a := h x (by simp)
    have b := flat_len f m l fun y hy => h y (by simp [hy])
    rw [List.flatMap_cons, List.length_append, List.length_cons, Nat.succ_mul]
    omega
theorem truthsL_len (d : Dr) (hc : d.cards.length ≤ 4) : ∀ e, (truthsL d e).length ≤ 5 ^ e
  | 0 => by simp [truthsL]
  | e + 1 => by
    have a := flat_len (fun t => extK d e t (d.cards.length + 1)) 5 (truthsL d e) fun t _ => by have := extK_len d e t (d.cards.length + 1); omega
    have b := truthsL_len d hc e
    unfold truthsL
    rw [Nat.pow_succ]
    exact Nat.le_trans a (Nat.mul_le_mul_right 5 b)

theorem c44 (d : Dr) (hd : d.fits) (ho : d.Ok) : ∃ ys, Rows ys (truthsL d d.halves.length) ∧ cleanL ys = some ys ∧ ∀ h, callPure (EW tabX) 49 [eD d] h = some (.lst 0 1 ys, h) := by
  have hc4 := ho.c4
  have hh4 := ho.h4
  have hcl := eD_clean d
  have key : ∃ s : RS, Rows s.xs (truthsL d d.halves.length) ∧ s.z = 1 ∧ ∃ h1, (EW tabX).call 49 [eD d] ⟨[], []⟩ = some (s.v, h1) := by
    rw [w_call _ fn_49 rfl]
    simp only [go_sem, ↓reduceIte, simprocAttr, eD, eDc, eC_under]
    generalize hx : (EW tabX).code 49 none (Code.loop _) _ = x
    refine w_rounds_sk hx (fun k (s : RS) => [(3, s.v), (4, .int .i64 k)]) (fun s => ⟨[.cells (eDc d)], s.t⟩) (fun k s => Rows s.xs (truthsL d k) ∧ s.z = 1) d.halves.length (.exit 0) (fun s => [(3, s.v), (4, .int .i64 d.halves.length)]) rfl ⟨1, 1, [.lst 1 0 []], []⟩ ?_ ?_ ?_ ?_ ?_ ?_
    · simp only [go_sem, ↓reduceIte, simprocAttr, RS.v]
    · simp only [eDc]
    · refine ⟨⟨rfl, fun i t hi => ?_⟩, rfl⟩
      cases i with
      | zero => simp [truthsL] at hi; subst hi; exact ⟨1, 0, rfl, fun h => absurd rfl h⟩
      | succ i => simp [truthsL] at hi
    · intro e s he hR
      obtain ⟨hrow, hz⟩ := hR
      obtain ⟨tg, z, xs, t⟩ := s
      simp only at hrow hz
      subst hz
      have hei : (e : Int) < d.halves.length := by omega
      have hxl := hrow.1
      have hlen := truthsL_len d hc4 e
      have hp : 5 ^ e ≤ 125 := by
        have : 5 ^ e ≤ 5 ^ 3 := Nat.pow_le_pow_right (by omega) (by omega)
        omega
      simp only [go_sem, ↓reduceIte, simprocAttr, hei, eDc, RS.v]
      generalize hy : (EW tabX).code 49 none (Code.loop _) _ = y
      refine w_rounds_sk hy (fun k (s : RS) => [(5, s.v), (6, .int .i64 k)]) (fun s => ⟨[.cells (eDc d)], s.t⟩) (fun k s => s.is (((truthsL d e).take k).flatMap fun t => extK d e t (d.cards.length + 1))) (truthsL d e).length (.exit 2) (fun s => [(5, s.v), (6, .int .i64 (truthsL d e).length)]) rfl ⟨1, 0, [], t⟩ ?_ ?_ ?_ ?_ ?_ ?_
      · simp only [go_sem, ↓reduceIte, simprocAttr, RS.v]
      · simp only [eDc]
      · exact ⟨⟨rfl, fun i t hi => by simp at hi⟩, .inl ⟨rfl, rfl⟩⟩
      · intro k s hk hR
        obtain ⟨ntg, nz, nxs, nt⟩ := s
        have hki : (k : Int) < xs.length := by omega
        have htk := List.getElem?_eq_getElem hk
        obtain ⟨otg, oz, hox, hoz⟩ := hrow.2 k _ htk
        have htl := truthsL_mem d e _ (List.getElem_mem hk)
        have hflat : ((truthsL d e).take (k + 1)).flatMap (fun t => extK d e t (d.cards.length + 1)) = ((truthsL d e).take k).flatMap (fun t => extK d e t (d.cards.length + 1)) ++ extK d e (truthsL d e)[k] (d.cards.length + 1) := by
          rw [List.take_add_one, htk, List.flatMap_append]; simp
        have hpl : (((truthsL d e).take k).flatMap fun t => extK d e t (d.cards.length + 1)).length ≤ 125 * 5 := by
          have a := flat_len (fun t => extK d e t (d.cards.length + 1)) 5 ((truthsL d e).take k) fun t _ => by have := extK_len d e t (d.cards.length + 1); omega
          have b : ((truthsL d e).take k).length ≤ 125 := by rw [List.length_take]; omega
          exact Nat.le_trans a (Nat.mul_le_mul_right 5 b)
        rw [hflat]
        generalize (((truthsL d e).take k).flatMap fun t => extK d e t (d.cards.length + 1)) = pre at hR hpl ⊢
        generalize (truthsL d e)[k] = tt at hox hoz htl ⊢
        simp (disch := omega) only [go_sem, ↓reduceIte, simprocAttr, hki, eDc, RS.v, wrap_i64]
        generalize hz : (EW tabX).code 49 none (Code.loop _) _ = w
        refine w_rounds_sk hz (fun k (s : RS) => [(5, s.v), (7, .int .i64 ((k : Int) - 1))]) (fun s => ⟨[.cells (eDc d)], s.t⟩) (fun j s => s.is (pre ++ extK d e tt j)) (d.cards.length + 1) (.exit 4) (fun s => [(5, s.v), (7, .int .i64 d.cards.length)]) rfl ⟨ntg, nz, nxs, nt⟩ ?_ ?_ ?_ ?_ ?_ ?_
        · simp only [go_sem, ↓reduceIte, simprocAttr, RS.v]
        · simp only [eDc]
        · simpa [extK] using hR
        · intro j s hj hR
          obtain ⟨jtg, jz, jxs, jt⟩ := s
          obtain ⟨hrj, hoj⟩ := hR
          simp only at hrj hoj
          have hji : (j : Int) - 1 < d.cards.length := by omega
          have hjl := hrj.1
          have hel := extK_len d e tt j
          have hjn : jxs.length ≤ 640 := by rw [hjl, List.length_append]; omega
          have hoxt : xs[k]? = some (.lst otg oz (I tt)) := hox
          rw [extK_succ]
          have hws : IntKind.i64.wrap ((j : Int) - 1 + 1) = (j : Int) + 1 - 1 := by rw [wrap_i64 (by omega)]; omega
          obtain ⟨t2, a1, b1, c1, d1⟩ := app_gen (X := tabX) (ty := 30) (e := 3) (sz := 1) (tag := 1) (z := 1) (t := jt) (xs := []) (.inl ⟨rfl, rfl⟩) otg oz (I tt) (by simp only [go_sem, ↓reduceIte, simprocAttr]) (by simp only [go_sem, ↓reduceIte, simprocAttr]) (by omega)
            (by by_cases h : tt = []; exact .inr (by rw [h]; rfl); exact .inl (hoz h)) (by simp only [go_sem, ↓reduceIte, simprocAttr]; omega) (by simp only [go_sem, ↓reduceIte, simprocAttr]; omega) (by simp only [go_sem, ↓reduceIte, simprocAttr]) (by simp only [go_sem, ↓reduceIte, simprocAttr])
          obtain ⟨t3, a2, b2, c2, d2⟩ := app_gen (X := tabX) (ty := 30) (e := 3) (sz := 1) (tag := jt.length + 2) (z := 1) (t := t2) (xs := I tt) (.inr ⟨jt.length, rfl, rfl, c1⟩) 1 1 [.int .i64 ((j : Int) - 1)] (by simp only [go_sem, ↓reduceIte, simprocAttr]) (by simp only [go_sem, ↓reduceIte, simprocAttr]) (by omega)
            (.inl rfl) (by simp only [go_sem, ↓reduceIte, simprocAttr]; omega) (by simp only [go_sem, ↓reduceIte, simprocAttr]; omega) (by simp only [go_sem, ↓reduceIte, simprocAttr]) (by simp only [go_sem, ↓reduceIte, simprocAttr])
          have hown3 : OwnS 1 jtg jz jxs.length t3 := by
            rcases hoj with h | ⟨q, h1, h2, h3⟩
            · exact .inl h
            · have hq : q < jt.length := (List.getElem?_eq_some_iff.1 h3).1
              exact .inr ⟨q, h1, h2, d2 q (by omega) (d1 q (by omega) h3)⟩
          obtain ⟨t4, a3, b3, c3, d3⟩ := app_gen (X := tabX) (ty := 51) (e := 30) (sz := 1) hown3 1 1 [.lst (t2.length + 2) 1 (I (tt ++ [(j : Int) - 1]))] (by simp only [go_sem, ↓reduceIte, simprocAttr]) (by simp only [go_sem, ↓reduceIte, simprocAttr]) (by omega)
            (.inl rfl) (by simp only [go_sem, ↓reduceIte, simprocAttr]; omega) (by simp only [go_sem, ↓reduceIte, simprocAttr]; omega) (by simp only [go_sem, ↓reduceIte, simprocAttr]) (by simp only [go_sem, ↓reduceIte, simprocAttr])
          have hyes : RS.is ⟨t3.length + 2, 1, jxs ++ [.lst (t2.length + 2) 1 (I (tt ++ [(j : Int) - 1]))], t4⟩ (pre ++ (extK d e tt j ++ [tt ++ [(j : Int) - 1]])) := by
            refine ⟨?_, .inr ⟨t3.length, rfl, rfl, c3⟩⟩
            rw [← List.append_assoc]
            exact hrj.snoc _ _
          simp only [List.nil_append] at a1
          cases j with
          | zero =>
            simp only [may, if_true]
            simp only [cast_zero, Int.zero_sub] at a1 a2 a3 hyes hws hji ⊢
            refine ⟨_, ?_, hyes⟩
            simp (disch := omega) only [go_sem, ↓reduceIte, simprocAttr, hji, hki, hoxt, eDc, RS.v, wrap_i64, a1, a2, a3, I_snoc]
          | succ i =>
            have hji' : ((i : Int) + 1 - 1) = i := by omega
            have hcc : d.cards[i]? = some (d.cards.getD i ⟨default, []⟩) := by
              rw [List.getD_eq_getElem?_getD, List.getElem?_eq_getElem (show i < d.cards.length by omega)]; rfl
            have hee : d.halves[e]? = some (d.halves.getD e ⟨default, []⟩) := by
              rw [List.getD_eq_getElem?_getD, List.getElem?_eq_getElem (show e < d.halves.length by omega)]; rfl
            have h43 := c43 d hd ho i e _ _ hcc hee
            have h39 := c39 tt i oz hoz (by omega)
            have hne : ((i : Int) == -1) = false := by simp
            have hok : decide (0 < ((fitsL d (d.cards.getD i ⟨default, []⟩) (d.halves.getD e ⟨default, []⟩) d.steps.toNat).length : Int)) = okHC d e i := by
              unfold okHC; rw [Bool.eq_iff_iff]; simp only [decide_eq_true_eq]; omega
            simp only [cast_succ, hji'] at a2 a3 hyes hws hji ⊢
            simp only [go_sem, ↓reduceIte, simprocAttr, eD, eDc, vI] at h43 hcl
            cases hm : may d e tt (i + 1) with
            | true =>
              simp only [if_true]
              simp only [may] at hm
              refine ⟨_, ?_, hyes⟩
              simp (disch := omega) only [go_sem, ↓reduceIte, simprocAttr, hji, hji', hki, hoxt, eDc, RS.v, a1, a2, a3, I_snoc, hne, h39, h43, hok, hm, eC_clean, hws]
            | false =>
              simp only [Bool.false_eq_true, if_false]
              simp only [may] at hm
              refine ⟨⟨jtg, jz, jxs, jt⟩, ?_, hrj, hoj⟩
              simp (disch := omega) only [go_sem, ↓reduceIte, simprocAttr, hji, hji', hki, hoxt, eDc, RS.v, I_snoc, hne, h39, h43, hok, hm, eC_clean, hws]
        · intro s hR
          have e1 : (d.cards.length : Int) + 1 - 1 = d.cards.length := by omega
          simp only [go_sem, ↓reduceIte, simprocAttr, RS.v, eDc, e1]
        · intro s h1 hR
          subst h1
          exact ⟨s, by simp (disch := omega) only [go_sem, ↓reduceIte, simprocAttr, RS.v, eDc, wrap_i64], hR⟩
      · intro s hR
        simp only [go_sem, ↓reduceIte, simprocAttr, RS.v, eDc, hxl]
      · intro s h1 hR
        subst h1
        rw [List.take_length] at hR
        refine ⟨s, by simp (disch := omega) only [go_sem, ↓reduceIte, simprocAttr, RS.v, eDc, wrap_i64], hR.1, ?_⟩
        rcases hR.2 with ⟨_, h0⟩ | ⟨_, _, h0, _⟩
        · rw [hR.1.1] at h0
          exact absurd (List.eq_nil_of_length_eq_zero h0) (truthsL_ne d (e + 1))
        · exact h0
    · intro s hR
      simp only [go_sem, ↓reduceIte, simprocAttr, RS.v, eDc]
    · intro s h1 hR
      subst h1
      have hun := hR.1.under 0
      exact ⟨s, hR.1, hR.2, ⟨[], s.t⟩, by simp only [go_sem, ↓reduceIte, simprocAttr, RS.v, hun]⟩
  obtain ⟨s, hrow, hz, h1, hcall⟩ := key
  obtain ⟨ys, hys, hr2, hc2⟩ := hrow.clean
  refine ⟨ys, hr2, hc2, fun h => pure_of hcall ?_⟩
  simp only [RS.v, go_sem, ↓reduceIte, simprocAttr, hys, hz]
end Go.Proofs.YtiighcpimecehaaGreat
end
section
namespace Go.Proofs.YtiighcpimecehaaGreat
open Go.Proofs

theorem Rows.snoc' {xs : List AV} {ts : List (List Int)} (h : Rows xs ts) (tg z : Nat) (t : List Int) (hz : t ≠ [] → z = 1) : Rows (xs ++ [.lst tg z (I t)]) (ts ++ [t]) := by
  refine ⟨by simp [h.1], fun i u hu => ?_⟩
  rw [List.getElem?_append] at hu
  split at hu
  · obtain ⟨a, z, h1, h2⟩ := h.2 i u hu
    exact ⟨a, z, old h1 _, h2⟩
  · rename_i hi
    have : i = ts.length := by
      by_cases e : i - ts.length = 0
      · omega
      · rw [List.getElem?_eq_none (by simp; omega)] at hu; cases hu
    subst this
    simp at hu; subst hu
    refine ⟨tg, z, ?_, hz⟩
    rw [← h.1]; simp

def lostN (t : List Int) : Nat := (lostL t t.length).length
def leastN (l : List (List Int)) (m : Nat) : Nat := l.foldl (fun m t => min m (lostN t)) m
theorem leastN_succ (m : Nat) {l : List (List Int)} {k : Nat} {t : List Int} (h : l[k]? = some t) : leastN (l.take (k + 1)) m = min (leastN (l.take k) m) (lostN t) := by
  unfold leastN; rw [List.take_add_one, h, List.foldl_append]; rfl
theorem leastN_le (l : List (List Int)) : ∀ m, leastN l m ≤ m ∧ ∀ t ∈ l, leastN l m ≤ lostN t := by
  induction l with
  | nil => intro m; exact ⟨Nat.le_refl _, fun t h => by cases h⟩
  | cons u l ih =>
    intro m
    have := ih (min m (lostN u))
    have e : leastN (u :: l) m = leastN l (min m (lostN u)) := rfl
    rw [e]
    refine ⟨by omega, fun t ht => ?_⟩
    rcases List.mem_cons.1 ht with h | h
    · subst h; omega
    · exact this.2 t h
theorem leastN_mem (l : List (List Int)) : ∀ m, (∀ t ∈ l, lostN t ≤ m) → l ≠ [] → ∃ t ∈ l, lostN t = leastN l m := by
  induction l with
  | nil => intro m _ h; exact absurd rfl h
  | cons u l ih =>
    intro m hm _
    have e : leastN (u :: l) m = leastN l (min m (lostN u)) := rfl
    have hu := hm u (by simp)
    have e2 : min m (lostN u) = lostN u := by omega
    rw [e, e2]
    by_cases hl : l = []
    · subst hl; exact ⟨u, by simp, rfl⟩
    · by_cases hall : ∀ t ∈ l, lostN t ≤ lostN u
      · obtain ⟨t, ht, h⟩ := ih _ hall hl
        exact ⟨t, by simp [ht], h⟩
      · by_cases hs : leastN l (lostN u) = lostN u
        · exact ⟨u, by simp, hs.symm⟩
        · have h1 := (leastN_le l (lostN u)).1
          have : ∀ (l : List (List Int)) (m : Nat), leastN l m = m ∨ ∃ t ∈ l, lostN t = leastN l m := by
            intro l
            induction l with
            | nil => intro m; exact .inl rfl
            | cons v l ih2 =>
              intro m
              have e3 : leastN (v :: l) m = leastN l (min m (lostN v)) := rfl
              rw [e3]
              rcases ih2 (min m (lostN v)) with h | ⟨t, ht, h⟩
              · by_cases q : m ≤ lostN v
                · left; rw [h]; omega
                · right; exact ⟨v, by simp, by rw [h]; omega⟩
              · right; exact ⟨t, by simp [ht], h⟩
          rcases this l (lostN u) with h | ⟨t, ht, h⟩
          · exact absurd h hs
          · exact ⟨t, by simp [ht], h⟩
theorem lostN_le (t : List Int) : lostN t ≤ t.length := lostL_len t t.length
def fairL (d : Dr) : List (List Int) := (truthsL d d.halves.length).filter fun t => decide (lostN t = leastN (truthsL d d.halves.length) d.halves.length)
theorem fairL_ne (d : Dr) : fairL d ≠ [] := by
  obtain ⟨t, ht, h⟩ := leastN_mem (truthsL d d.halves.length) d.halves.length (fun t ht => by have := lostN_le t; have := truthsL_mem d _ t ht; omega) (truthsL_ne d _)
  intro h0
  have : t ∈ fairL d := List.mem_filter.2 ⟨ht, by simpa using h⟩
  rw [h0] at this; cases this

theorem c40 (d : Dr) (hd : d.fits) (ho : d.Ok) : ∃ ys, Rows ys (fairL d) ∧ cleanL ys = some ys ∧ ∀ h, callPure (EW tabX) 13 [eD d] h = some (.lst 0 1 ys, h) := by
  have hc4 := ho.c4
  have hh4 := ho.h4
  have hcl := eD_clean d
  obtain ⟨xs, hrow, hxc, h44⟩ := c44 d hd ho
  have hxl := hrow.1
  have hlen := truthsL_len d hc4 d.halves.length
  have hp : 5 ^ d.halves.length ≤ 625 := by
    have : 5 ^ d.halves.length ≤ 5 ^ 4 := Nat.pow_le_pow_right (by omega) (by omega)
    omega
  have hmem := truthsL_mem d d.halves.length
  have hne := fairL_ne d
  unfold fairL at hne ⊢
  generalize truthsL d d.halves.length = all at hrow hxl hlen hmem hne ⊢
  have key : ∃ s : RS, Rows s.xs (all.filter fun t => decide (lostN t = leastN all d.halves.length)) ∧ s.z = 1 ∧ ∃ h1, (EW tabX).call 13 [eD d] ⟨[], []⟩ = some (s.v, h1) := by
    rw [w_call _ fn_13 rfl]
    simp only [go_sem, ↓reduceIte, simprocAttr, eD, eDc, eC_under] at h44 hcl ⊢
    simp only [go_sem, ↓reduceIte, simprocAttr, eC_clean, h44]
    have elt : ∀ k, k < all.length → ∃ t tg z, all[k]? = some t ∧ xs[k]? = some (.lst tg z (I t)) ∧ (t ≠ [] → z = 1) ∧ t.length < 900 ∧ (k : Int) < xs.length := fun k hk => by
      have hx := List.getElem?_eq_getElem hk
      obtain ⟨tg, z, h1, h2⟩ := hrow.2 k _ hx
      have := hmem _ (List.getElem_mem hk)
      exact ⟨_, tg, z, hx, h1, h2, by omega, by omega⟩
    rw [w_rounds_u (fun k => [(4, .int .i64 (leastN (all.take k) d.halves.length)), (5, .int .i64 k)]) all.length (.exit 0) [(4, .int .i64 (leastN all d.halves.length)), (5, .int .i64 all.length)] ?_ ?_ ?_ rfl]
    rotate_left
    · simp only [go_sem, ↓reduceIte, simprocAttr, leastN, List.foldl_nil]
    · intro k hk
      obtain ⟨t, tg, z, h1, h2, h3, h4, h5⟩ := elt k hk
      have h45 := c45 t z h3 h4
      have hmin : (if ((lostN t : Nat) : Int) < leastN (all.take k) d.halves.length then ((lostN t : Nat) : Int) else leastN (all.take k) d.halves.length) = ((leastN (all.take (k + 1)) d.halves.length : Nat) : Int) := by
        rw [leastN_succ _ h1]; split <;> omega
      have hln : ((lostL t t.length).length : Int) = lostN t := rfl
      simp (disch := omega) only [go_sem, ↓reduceIte, simprocAttr, h2, h5, h45, vI, hln, hmin, wrap_i64]
    · simp only [go_sem, ↓reduceIte, simprocAttr, hxl]
    simp only [go_sem, ↓reduceIte, simprocAttr]
    generalize hx : (EW tabX).code 13 none (Code.loop _) _ = x
    refine w_rounds_sk hx (fun k (s : RS) => [(6, s.v), (7, .int .i64 k)]) (fun s => ⟨[.cells (eDc d)], s.t⟩) (fun k s => s.is ((all.take k).filter fun t => decide (lostN t = leastN all d.halves.length))) all.length (.exit 2) (fun s => [(6, s.v), (7, .int .i64 all.length)]) rfl ⟨1, 0, [], []⟩ ?_ ?_ ?_ ?_ ?_ ?_
    · simp only [go_sem, ↓reduceIte, simprocAttr, RS.v]
    · simp only [eDc]
    · exact ⟨⟨rfl, fun i t hi => by simp at hi⟩, .inl ⟨rfl, rfl⟩⟩
    · intro k s hk hR
      obtain ⟨stg, sz, sxs, st⟩ := s
      obtain ⟨hr1, hr2⟩ := hR
      simp only at hr1 hr2
      obtain ⟨t, tg, z, h1, h2, h3, h4, h5⟩ := elt k hk
      have h45 := c45 t z h3 h4
      have hln : ((lostL t t.length).length : Int) = lostN t := rfl
      have hsl : sxs.length ≤ 625 := by
        rw [hr1.1]
        have := List.length_filter_le (fun t => decide (lostN t = leastN all d.halves.length)) (all.take k)
        rw [List.length_take] at this
        omega
      have hfil : (all.take (k + 1)).filter (fun t => decide (lostN t = leastN all d.halves.length)) = if decide (lostN t = leastN all d.halves.length) = true then (all.take k).filter (fun t => decide (lostN t = leastN all d.halves.length)) ++ [t] else (all.take k).filter (fun t => decide (lostN t = leastN all d.halves.length)) := by
        rw [List.take_add_one, h1, Option.toList_some, List.filter_append]
        have e : List.filter (fun t => decide (lostN t = leastN all d.halves.length)) [t] = if decide (lostN t = leastN all d.halves.length) = true then [t] else [] := by simp only [List.filter_cons, List.filter_nil]
        rw [e]; split <;> simp
      rw [hfil]
      obtain ⟨t2, a1, b1, c1, d1⟩ := app_gen (X := tabX) (ty := 51) (e := 30) (sz := 1) hr2 1 1 [.lst tg z (I t)] (by simp only [go_sem, ↓reduceIte, simprocAttr]) (by simp only [go_sem, ↓reduceIte, simprocAttr]) (by omega) (.inl rfl) (by simp only [go_sem, ↓reduceIte, simprocAttr]; omega) (by simp only [go_sem, ↓reduceIte, simprocAttr]; omega) (by simp only [go_sem, ↓reduceIte, simprocAttr]) (by simp only [go_sem, ↓reduceIte, simprocAttr])
      by_cases he : lostN t = leastN all d.halves.length
      · rw [if_pos (by simpa using he)]
        have he' : ((lostN t : Int) == leastN all d.halves.length) = true := by simp [he]
        refine ⟨⟨st.length + 2, 1, sxs ++ [.lst tg z (I t)], t2⟩, ?_, hr1.snoc' tg z t h3, .inr ⟨st.length, rfl, rfl, c1⟩⟩
        simp (disch := omega) only [go_sem, ↓reduceIte, simprocAttr, RS.v, eDc, h2, h5, h45, vI, hln, he', a1, wrap_i64]
      · rw [if_neg (by simpa using he)]
        have he' : ((lostN t : Int) == leastN all d.halves.length) = false := by simp; omega
        refine ⟨⟨stg, sz, sxs, st⟩, ?_, hr1, hr2⟩
        simp (disch := omega) only [go_sem, ↓reduceIte, simprocAttr, RS.v, eDc, h2, h5, h45, vI, hln, he', wrap_i64]
    · intro s hR
      simp only [go_sem, ↓reduceIte, simprocAttr, RS.v, eDc, hxl]
    · intro s h1 hR
      subst h1
      rw [List.take_length] at hR
      have hun := hR.1.under 0
      have hz : s.z = 1 := by
        rcases hR.2 with ⟨_, h0⟩ | ⟨_, _, h0, _⟩
        · rw [hR.1.1] at h0
          exact absurd (List.eq_nil_of_length_eq_zero h0) hne
        · exact h0
      exact ⟨s, hR.1, hz, ⟨[], s.t⟩, by simp only [go_sem, ↓reduceIte, simprocAttr, RS.v, hun]⟩
  obtain ⟨s, hrow, hz, h1, hcall⟩ := key
  obtain ⟨ys, hys, hr2, hc2⟩ := hrow.clean
  refine ⟨ys, hr2, hc2, fun h => pure_of hcall ?_⟩
  simp only [RS.v, go_sem, ↓reduceIte, simprocAttr, hys, hz]
end Go.Proofs.YtiighcpimecehaaGreat
end
section
namespace Go.Proofs.YtiighcpimecehaaGreat
open Go.Proofs

def lostT (t : List Int) : List Int := lostL t t.length
def first (d : Dr) : List Int := (fairL d).headD []
theorem fairL_mem {d : Dr} {t : List Int} (h : t ∈ fairL d) : t ∈ truthsL d d.halves.length ∧ t.length = d.halves.length := by
  have := (List.mem_filter.1 h).1
  exact ⟨this, truthsL_mem d _ t this⟩
theorem fairL_zero (d : Dr) : (fairL d)[0]? = some (first d) := by
  unfold first
  cases h : fairL d with
  | nil => exact absurd h (fairL_ne d)
  | cons t l => rfl
theorem first_mem (d : Dr) : first d ∈ fairL d := List.mem_of_getElem? (fairL_zero d)
theorem fairL_len (d : Dr) (ho : d.Ok) : (fairL d).length ≤ 625 := by
  have a := truthsL_len d ho.c4 d.halves.length
  have b : (fairL d).length ≤ (truthsL d d.halves.length).length := List.length_filter_le _ _
  have c : 5 ^ d.halves.length ≤ 5 ^ 4 := Nat.pow_le_pow_right (by omega) ho.h4
  omega
def bestL (b : List Int) (l : List (List Int)) : List Int := l.foldl (fun b t => if ltB (lostT t) b then lostT t else b) b
theorem bestL_succ (b : List Int) {l : List (List Int)} {k : Nat} {t : List Int} (h : l[k]? = some t) : bestL b (l.take (k + 1)) = if ltB (lostT t) (bestL b (l.take k)) then lostT t else bestL b (l.take k) := by
  unfold bestL; rw [List.take_add_one, h, List.foldl_append]; rfl
theorem bestL_len (n : Nat) : ∀ (l : List (List Int)) (b : List Int), b.length ≤ n → (∀ t ∈ l, t.length ≤ n) → (bestL b l).length ≤ n
  | [], b, hb, _ => hb
  | t :: l, b, hb, h => by
    have e : bestL b (t :: l) = bestL (if ltB (lostT t) b then lostT t else b) l := rfl
    rw [e]
    refine bestL_len n l _ ?_ fun u hu => h u (by simp [hu])
    split
    · have := lostN_le t; have := h t (by simp); unfold lostN at *; unfold lostT; omega
    · exact hb
def forged (d : Dr) : List Int := bestL (lostT (first d)) ((fairL d).drop 1)
theorem zT_ne {l : List Int} (h : l ≠ []) : zT 1 l.length = 1 := zT_pos (List.length_pos_iff.2 h)

end Go.Proofs.YtiighcpimecehaaGreat
end
section
namespace Go.Proofs.YtiighcpimecehaaGreat
open Go.Proofs

def readV (c0 : Int) (e : Nat) (l : List (List Int)) : Int := if l.all (fun t => t.getD e 0 == c0) then c0 else -1
def cardV (d : Dr) (e : Nat) : Int := readV ((first d).getD e 0) e ((fairL d).drop 1)
theorem asked_yes {d : Dr} {n below : Int} (h : askedE d n below = 0) : (checkT d).2.2 = 0 ∧ 0 ≤ n ∧ n < below := by
  unfold askedE at h
  split at h
  · rename_i h0
    split at h
    · rename_i hr; simp [inR] at hr; exact ⟨h0, by omega, by omega⟩
    · cases h
  · rename_i h0; exact absurd h h0
def whoseL (d : Dr) (e n : Nat) : List Int := ((List.range n).filter fun (c : Nat) => (fairL d).any fun t => t.getD e 0 == (c : Int)).map fun (c : Nat) => (c : Int)
end Go.Proofs.YtiighcpimecehaaGreat
end
section
namespace Go.Proofs.YtiighcpimecehaaGreat
open Go.Proofs

def cardE (d : Dr) (c : Nat) : List Int := (d.cards.getD c ⟨default, []⟩).edge
theorem card_at (d : Dr) (c : Nat) (hc : c < d.cards.length) : d.cards[c]? = some (d.cards.getD c ⟨default, []⟩) := by
  rw [List.getD_eq_getElem?_getD, List.getElem?_eq_getElem hc]; rfl
theorem cardE_low {d : Dr} (ho : d.Ok) {c : Nat} (hc : c < d.cards.length) : LowK (cardE d c) ∧ (cardE d c).length < 1000 ∧ ((cardE d c).length : Int) = d.steps ∧ cardE d c ≠ [] := by
  have hm := List.mem_of_getElem? (card_at d c hc)
  have h := ho.ce _ hm
  have h1 := ho.s1
  have h6 := ho.s6
  refine ⟨fun n hn => by have := h.2 n hn; omega, ?_, h.1, fun e => ?_⟩
  · have := h.1; unfold cardE; omega
  · have := h.1; unfold cardE at e; rw [e] at this; simp at this; omega
def alikeE (d : Dr) (a b : Int) : Int := if askedE d a d.cards.length = 0 then (if askedE d b d.cards.length = 0 then (if a = b then 2 else 0) else askedE d b d.cards.length) else askedE d a d.cards.length
def alikeB (d : Dr) (a b : Nat) : Bool := nearB d.wear (cardE d a) (cardE d b) d.least.toNat
def newE (d : Dr) (l : List Int) : Int := if (checkT d).2.2 = 0 then (if ((l.length : Int) != d.steps) = true then 3 else if (l.all fun n => inR n 0 9) = false then 7 else 0) else (checkT d).2.2
def newL (d : Dr) (l : List Int) (n : Nat) : List Int := ((List.range n).filter fun (c : Nat) => nearB d.wear l (cardE d c) d.least.toNat).map fun (c : Nat) => (c : Int)
theorem newE_yes {d : Dr} {l : List Int} (he : newE d l = 0) : (checkT d).2.2 = 0 ∧ (l.length : Int) = d.steps ∧ (l.all fun n => inR n 0 9) = true := by
  unfold newE at he
  by_cases hc : (checkT d).2.2 = 0
  · rw [if_pos hc] at he
    by_cases h1 : ((l.length : Int) != d.steps) = true
    · rw [if_pos h1] at he; cases he
    · rw [if_neg h1] at he
      by_cases h2 : (l.all fun n => inR n 0 9) = false
      · rw [if_pos h2] at he; cases he
      · exact ⟨hc, by simpa using h1, by simpa using h2⟩
  · rw [if_neg hc] at he; exact absurd he hc
end Go.Proofs.YtiighcpimecehaaGreat
end
section
namespace Go.Proofs.YtiighcpimecehaaGreat
open Go.Proofs

def anyTo (p : Nat → Bool) (n : Nat) : Bool := !allTo (fun i => !p i) n
theorem anyTo_succ (p : Nat → Bool) (n : Nat) : anyTo p (n + 1) = (anyTo p n || p n) := by simp [anyTo, allTo_succ]
theorem anyTo_zero (p : Nat → Bool) : anyTo p 0 = false := rfl
def metB (d : Dr) (m : Nat) : Bool := anyTo (fun i => anyTo (fun k => nearB d.wear (cardE d i) (cardE d k) m) i) d.cards.length
def enoughR (d : Dr) : Int × Int := if (checkT d).2.2 = 0 then (match (List.range d.steps.toNat).find? (fun k => !metB d (k + 1)) with | some k => ((k : Int) + 1, 0) | none => (0, 9)) else (0, (checkT d).2.2)
theorem find_range (p : Nat → Bool) : ∀ n, (List.range n).find? p = none ∧ allTo (fun i => !p i) n = true ∨ ∃ k, (List.range n).find? p = some k ∧ k < n ∧ p k = true ∧ allTo (fun i => !p i) k = true
  | 0 => .inl ⟨rfl, rfl⟩
  | n + 1 => by
    rw [List.range_succ, List.find?_append]
    rcases find_range p n with ⟨h1, h2⟩ | ⟨k, h1, h2, h3, h4⟩
    · rw [h1]
      cases hp : p n with
      | true => exact .inr ⟨n, by simp [hp], by omega, hp, h2⟩
      | false => exact .inl ⟨by simp [hp], by rw [allTo_succ, h2, hp]; rfl⟩
    · exact .inr ⟨k, by rw [h1]; rfl, by omega, h3, h4⟩

end Go.Proofs.YtiighcpimecehaaGreat
end
