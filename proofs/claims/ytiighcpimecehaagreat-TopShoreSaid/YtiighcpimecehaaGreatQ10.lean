/- Parts of the proof, joined: What small functions compute: a search in a row of numbers, and whether numbers are beyond bounds. What the tests of names compute, the program's and the reference's. What the test of a drawer computes: the program's. Z-numbers. Lists of money as values; the loops of the program that look for the first thing with an error. What the test of a drawer computes: the program's, whole. What the test of a drawer computes: the reference's. Where halves fit, by the reference. What a valid drawer is like; where halves fit, by the reference. Z-numbers. The test of a list of money: the program's. What small functions compute: a search in a row of numbers, and whether numbers are beyond bounds. What the tests of names compute, the program's and the reference's. A house as plain data; the loops of the program that look for the first error. What the test of a house computes: the program's. Z-numbers. A list of money, a house and small numbers that come in. Z-numbers. The test of a list of money: the program's, whole. What it is for two edges to be alike, by the reference. What it is for two edges to be alike, by the program. Where a half fits, by the program. The drawer that is looked at: its map and its order of places. A drawer is looked at. A drawer is looked at: what 'look' leaves. Where a half fits, by the program: fits, enter, Fits. Where a half fits a card: the program's Fits. Rows of numbers: which comes first, the same, has, lost. Small sets as numbers; rows held against each other by the library. Loops whose slots are said by a relation; slices of slices that grow. All truths, by the reference. All fair truths, by the reference. First, Forged, Whose and Read, by the reference. Whose and Read, by the reference. Alike, Enough and New, by the reference. Enough, by the reference. New, by the program. Alike, by the program. Enough, by the program. Z-numbers. What a test of a list that is fine says; which words count; whether they are so. Z-numbers. Whether the words that count are so; what claimants are owed. Enough, by the program: the walk. All truths, in the order in which the program comes to them; the fair ones, as it gathers them. All truths, by the program: the function that calls itself. The fair truths, by the program. Z-numbers. The search for all truths of a list, by the program. Z-numbers. What claimants are owed in a truth. Z-numbers. A list is looked at: which words have come; the round that takes a truth in. Conditions: those of each law. -/
import Derived.Test.YtiighcpimecehaaGreatQ9
import Derived.Laws.RangeString
import Derived.Laws.RangeAny
import Derived.KernelRfl
set_option linter.unusedSimpArgs false
set_option linter.unusedVariables false
section
namespace Go.Proofs.YtiighcpimecehaaGreat
open Go.Proofs


theorem c86 (n lo hi : Int) (h : Heap) (b1 b2 : Nat) (h1 : h.b[b1]? = some (.cells [.int .i64 lo])) (h2 : h.b[b2]? = some (.cells [.int .i64 hi])) :
   (EW tabX).call 164 [.int .i64 n, .ref b1 0, .ref b2 0] h = some (.bool (decide (n < lo) || decide (hi < n)), h) := by
  obtain ⟨hb, ht⟩ := h
  rw [w_call _ fn_164 rfl]
  by_cases hn : n < lo
  · simp only [go_sem, ↓reduceIte, simprocAttr, h1, h2, hn, Bool.true_or]
  · simp only [go_sem, ↓reduceIte, simprocAttr, h1, h2, hn, Bool.false_or, gt_iff_lt]

theorem c78 (f : Nat) (fst cap : List AV) (l : List Int) (t z : Nat) (hz : l ≠ [] → z = 1) (p : Int → Bool) (h : Heap) (hl : l.length < 1000000000000000000)
   (hp : ∀ n ∈ l, callAV tabX (EW tabX) false (.clo f fst cap) [.int .i64 n] h = some (.bool (p n), h)) :
   (EW tabX).call 151 [.lst t z (I l), .clo f fst cap] h = some (.int .i64 (if l.findIdx p < l.length then l.findIdx p else -1), h) := by
  obtain ⟨hb, ht⟩ := h
  rw [w_call _ fn_151 rfl]
  simp only [go_sem, ↓reduceIte, simprocAttr]
  simp only [callAV_clo] at hp
  by_cases hf : l.findIdx p < l.length
  · rw [w_rounds_u (fun k => [(8, .int .i64 k)]) (l.findIdx p) .ret [(4, .int .i64 (l.findIdx p)), (5, .int .i64 (l.findIdx p)), (8, .int .i64 (l.findIdx p))] ?_ ?_ ?_ rfl]
    · simp only [go_sem, ↓reduceIte, simprocAttr, hf]
    · simp only [go_sem, ↓reduceIte, simprocAttr]
    · intro k hk
      have hlt : k < l.length := by omega
      have hki : (k : Int) < l.length := by omega
      have hx := List.getElem?_eq_getElem hlt
      have hpx := hp l[k] (List.getElem_mem _)
      have hpf : p l[k] = false := by simpa using List.not_of_lt_findIdx hk
      have hz1 := hz (by intro e; rw [e] at hlt; simp at hlt)
      subst hz1
      rw [hpf] at hpx
      simp (disch := omega) only [go_sem, ↓reduceIte, simprocAttr, hki, hx, ↓hpx, wrap_i64]
    · have hx := List.getElem?_eq_getElem hf
      have hki : ((l.findIdx p : Nat) : Int) < l.length := by omega
      have hpx := hp l[l.findIdx p] (List.getElem_mem _)
      have hpt : p l[l.findIdx p] = true := List.findIdx_getElem
      have hz1 := hz (by intro e; rw [e] at hf; simp at hf)
      subst hz1
      rw [hpt] at hpx
      simp (disch := omega) only [go_sem, ↓reduceIte, simprocAttr, hki, hx, ↓hpx, wrap_i64]
  · have hn : l.findIdx p = l.length := by have := List.findIdx_le_length (p := p) (xs := l); omega
    rw [w_rounds_u (fun k => [(8, .int .i64 k)]) (l.length) (.exit 0) [(8, .int .i64 l.length)] ?_ ?_ ?_ rfl]
    · simp only [go_sem, ↓reduceIte, simprocAttr, hf]
    · simp only [go_sem, ↓reduceIte, simprocAttr]
    · intro k hk
      have hki : (k : Int) < l.length := by omega
      have hx := List.getElem?_eq_getElem hk
      have hpx := hp l[k] (List.getElem_mem _)
      have hpf : p l[k] = false := by simpa using List.not_of_lt_findIdx (p := p) (xs := l) (i := k) (by omega)
      have hz1 := hz (by intro e; rw [e] at hk; simp at hk)
      subst hz1
      rw [hpf] at hpx
      simp (disch := omega) only [go_sem, ↓reduceIte, simprocAttr, hki, hx, ↓hpx, wrap_i64]
    · simp (disch := omega) only [go_sem, ↓reduceIte, simprocAttr, Int.lt_irrefl]

theorem findIdx_any {α : Type} (l : List α) (p : α → Bool) : decide ((0 : Int) ≤ if l.findIdx p < l.length then (l.findIdx p : Int) else -1) = l.any p := by
  by_cases h : l.findIdx p < l.length
  · rw [if_pos h]
    have : l.any p = true := List.any_eq_true.2 (by have := List.findIdx_lt_length.1 h; simpa using this)
    rw [this]; simp
  · rw [if_neg h]
    have : l.any p = false := by
      cases hh : l.any p with
      | false => rfl
      | true => exact absurd (List.findIdx_lt_length.2 (by simpa using List.any_eq_true.1 hh)) h
    rw [this]; rfl
theorem c68 (f : Nat) (fst cap : List AV) (l : List Int) (t z : Nat) (hz : l ≠ [] → z = 1) (p : Int → Bool) (h : Heap) (hl : l.length < 1000000000000000000)
   (hp : ∀ n ∈ l, callAV tabX (EW tabX) false (.clo f fst cap) [.int .i64 n] h = some (.bool (p n), h)) (hc : (AV.clo f fst cap).clean = none) :
   (EW tabX).call 107 [.lst t z (I l), .clo f fst cap] h = some (.bool (l.any p), h) := by
  have h78 := c78 f fst cap l t z hz p h hl hp
  obtain ⟨hb, ht⟩ := h
  rw [w_call _ fn_107 rfl]
  simp only [go_sem, ↓reduceIte, simprocAttr, hc, h78, ge_iff_le, findIdx_any]

def out (lo hi n : Int) : Bool := decide (n < lo) || decide (hi < n)
end Go.Proofs.YtiighcpimecehaaGreat
end
section
namespace Go.Proofs.YtiighcpimecehaaGreat
open Go.Proofs

def inR (n lo hi : Int) : Bool := decide (lo ≤ n) && decide (n ≤ hi)
theorem c42 (n lo hi : Int) (h : Heap) : callPure (EW tabX) 24 [.int .i64 n, .int .i64 lo, .int .i64 hi] h = some (.bool (inR n lo hi), h) := by
  refine pure_of (v := .bool (inR n lo hi)) (h1 := ⟨[], []⟩) ?_ (clean_bool _)
  rw [w_call _ fn_24 rfl]
  simp only [go_sem, ↓reduceIte, simprocAttr]
  rfl
theorem out_not (lo hi n : Int) : (!out lo hi n) = inR n lo hi := by
  unfold out inR
  rw [Bool.eq_iff_iff]; simp

def chOk (i : Nat) (b : Int) : Bool := inR b 97 122 || (decide (0 < (i : Int)) && (b == 46 || inR b 48 57))
def chAt (s : ByteArray) (i : Nat) : Bool := match s[i]? with | some b => chOk i b.toNat | none => false
def okTo (s : ByteArray) (n : Nat) : Bool := (List.range n).all (chAt s)
def nameOk (s : ByteArray) : Bool := inR s.size 1 16 && okTo s s.size
theorem okTo_succ (s : ByteArray) (n : Nat) : okTo s (n + 1) = (okTo s n && chAt s n) := by simp [okTo, List.range_succ]
theorem okTo_zero (s : ByteArray) : okTo s 0 = true := rfl

theorem c74 (s : ByteArray) (hs : s.size < 1000000000000000000) (h : Heap) : callPure (EW tabX) 79 [.str s] h = some (.bool (nameOk s), h) := by
  refine pure_of (v := .bool (nameOk s)) (h1 := ⟨[], []⟩) ?_ (clean_bool _)
  rw [w_call _ fn_79 rfl]
  simp only [go_sem, ↓reduceIte, simprocAttr, c42]
  rw [w_rounds_u (fun k => [(3, .bool (inR s.size 1 16 && okTo s k)), (4, .int .i64 k)]) s.size (.exit 0) [(3, .bool (inR s.size 1 16 && okTo s s.size)), (4, .int .i64 s.size)] ?_ ?_ ?_ rfl]
  · simp only [go_sem, ↓reduceIte, simprocAttr, nameOk]
  · simp only [go_sem, ↓reduceIte, simprocAttr, okTo_zero]
  · intro k hk
    have hki : (k : Int) < s.size := by omega
    have hx : s[k]? = some s[k] := by simp [hk]
    have hb : (s[k].toNat : Int) < 256 := by have := s[k].toNat_lt; omega
    have hc : chAt s k = chOk k s[k].toNat := by simp [chAt, hk]
    simp (disch := omega) only [go_sem, ↓reduceIte, simprocAttr, hki, hx, c42, wrap_i64, okTo_succ, hc, chOk]
  · simp (disch := omega) only [go_sem, ↓reduceIte, simprocAttr, Int.lt_irrefl]
theorem okTo_false {s : ByteArray} : ∀ {n : Nat}, okTo s n = false → ∃ k, k < n ∧ okTo s k = true ∧ chAt s k = false
  | 0, h => by simp [okTo] at h
  | n + 1, h => by
    cases h1 : okTo s n with
    | false => obtain ⟨k, a, b⟩ := okTo_false h1; exact ⟨k, by omega, b⟩
    | true => rw [okTo_succ, h1] at h; exact ⟨n, by omega, h1, by simpa using h⟩
theorem okTo_at {s : ByteArray} {n k : Nat} (h : okTo s n = true) (hk : k < n) : chAt s k = true := by
  unfold okTo at h
  rw [List.all_eq_true] at h
  exact h k (by simpa using hk)
theorem c86b (l : List Int) (z : Nat) (hz : l ≠ [] → z = 1) (lo hi : Int) (h : Heap) (hl : l.length < 1000000000000000000) :
   callPure (EW tabX) 157 [.int .i64 lo, .int .i64 hi, .lst 0 z (I l)] h = some (.bool (l.any (out lo hi)), h) := by
  have h68 := c68 164 [] [.ref 0 0, .ref 1 0] l 0 z hz (out lo hi) ⟨[.cells [.int .i64 lo], .cells [.int .i64 hi]], []⟩ hl (fun n _ => by
    have := c86 n lo hi ⟨[.cells [.int .i64 lo], .cells [.int .i64 hi]], []⟩ 0 1 rfl rfl
    simp only [go_sem, ↓reduceIte, simprocAttr, this]; rfl) (by simp only [go_sem, ↓reduceIte, simprocAttr])
  refine pure_of (v := .bool (l.any (out lo hi))) (h1 := ⟨[], []⟩) ?_ (clean_bool _)
  rw [w_call _ fn_157 rfl]
  simp only [go_sem, ↓reduceIte, simprocAttr, h68]
theorem c79_1 (lo hi x : Int) (h : Heap) : callPure (EW tabX) 157 [.int .i64 lo, .int .i64 hi, .lst 0 1 [.int .i64 x]] h = some (.bool (out lo hi x), h) := by
  have := c86b [x] 1 (fun _ => rfl) lo hi h (by simp)
  simpa only [I_c, I_nil, List.any_cons, List.any_nil, Bool.or_false] using this

theorem test_eq (k b : Nat) : (!(decide (97 ≤ (b : Int)) && decide ((b : Int) ≤ 122)) && ((k : Int) == 0 || (b : Int) != 46 && (decide ((b : Int) < 48) || decide (57 < (b : Int))))) = !chOk k b := by
  unfold chOk inR
  rw [Bool.eq_iff_iff]
  simp only [Bool.and_eq_true, Bool.or_eq_true, Bool.not_eq_true', Bool.and_eq_false_iff, Bool.or_eq_false_iff, decide_eq_true_eq, decide_eq_false_iff_not, beq_iff_eq, bne_iff_ne, beq_eq_false_iff_ne, ne_eq]
  omega
theorem chOk_high (k b : Nat) (h : 128 ≤ b) : chOk k b = false := by
  cases hc : chOk k b with
  | false => rfl
  | true => simp [chOk, inR] at hc; omega

theorem c70 (s : ByteArray) (hs : s.size < 1000000000000000000) (h : Heap) : callPure (EW tabX) 125 [.str s] h = some (.bool (nameOk s), h) := by
  refine pure_of (v := .bool (nameOk s)) (h1 := ⟨[], []⟩) ?_ (clean_bool _)
  rw [w_call _ fn_125 rfl]
  simp only [go_sem, ↓reduceIte, simprocAttr]
  have round : ∀ k, (hk : k < s.size) → chOk k s[k].toNat = true → Utf8.decode s k = (s[k].toNat, 1) := fun k hk hc =>
    decode_ascii s k hk (by simp [chOk, inR] at hc; omega)
  cases ho : okTo s s.size with
  | true =>
    rw [w_rounds_h (fun k => []) (fun k => ⟨[.siter s k], []⟩) s.size (.exit 0) [(8, .tup [.bool false])] ⟨[.siter s s.size], []⟩ ?_ ?_ ?_ ?_ rfl]
    · simp only [go_sem, ↓reduceIte, simprocAttr, nameOk, c79_1, out_not, ho]
    · simp only [go_sem, ↓reduceIte, simprocAttr]
    · simp only [go_sem, ↓reduceIte, simprocAttr]
    · intro k hk
      have hc : chAt s k = true := okTo_at ho hk
      have hc : chOk k s[k].toNat = true := by simpa [chAt, hk] using hc
      have hd := round k hk hc
      simp only [go_sem, ↓reduceIte, simprocAttr, hk, hd, test_eq, hc]
    · simp only [go_sem, ↓reduceIte, simprocAttr, Nat.lt_irrefl]
  | false =>
    obtain ⟨n, hn, h1, h2⟩ := okTo_false ho
    have h2 : chOk n s[n].toNat = false := by simpa [chAt, hn] using h2
    have hv : ∃ b w, Utf8.decode s n = (b, w) ∧ chOk n b = false := by
      by_cases hb : s[n].toNat < 128
      · exact ⟨_, _, decode_ascii s n hn hb, h2⟩
      · exact ⟨_, _, rfl, chOk_high _ _ (decode_high s n hn (by omega)).1⟩
    obtain ⟨b, w, hd, hb⟩ := hv
    rw [w_rounds_h (fun k => []) (fun k => ⟨[.siter s k], []⟩) n .ret [(3, .int .i64 n), (4, .int .i32 b), (5, .bool (inR b 97 122)), (8, .tup [.bool true, .int .i64 n, .int .i32 b])] ⟨[.siter s (n + w)], []⟩ ?_ ?_ ?_ ?_ rfl]
    · simp only [go_sem, ↓reduceIte, simprocAttr, nameOk, ho]
    · simp only [go_sem, ↓reduceIte, simprocAttr]
    · simp only [go_sem, ↓reduceIte, simprocAttr]
    · intro k hk
      have hk' : k < s.size := by omega
      have hc : chAt s k = true := okTo_at h1 hk
      have hc : chOk k s[k].toNat = true := by simpa [chAt, hk'] using hc
      have hd := round k hk' hc
      simp only [go_sem, ↓reduceIte, simprocAttr, hk', hd, test_eq, hc]
    · simp only [go_sem, ↓reduceIte, simprocAttr, hn, hd, test_eq, hb, inR]
end Go.Proofs.YtiighcpimecehaaGreat
end
section
namespace Go.Proofs.YtiighcpimecehaaGreat
open Go.Proofs

structure Card where
  name : ByteArray
  edge : List Int
def eC (c : Card) : AV := .agg [.str c.name, .lst 0 1 (I c.edge)]
structure Dr where
  steps : Int
  least : Int
  wear : Int
  cards : List Card
  halves : List Card
  zc : Nat
  zh : Nat
def eDc (d : Dr) : List AV := [.int .i64 d.steps, .int .i64 d.least, .int .i64 d.wear, .lst 0 d.zc (d.cards.map eC), .lst 0 d.zh (d.halves.map eC)]
def eD (d : Dr) : AV := .agg (eDc d)

def firstBad (e : Nat → Int) : Nat → Nat → Option Nat
  | _, 0 => none
  | k, n + 1 => if e k ≠ 0 then some k else firstBad e (k + 1) n
theorem firstBad_none {e : Nat → Int} : ∀ {n k : Nat}, firstBad e k n = none → ∀ i, k ≤ i → i < k + n → e i = 0
  | 0, k, _, i, h1, h2 => by omega
  | n + 1, k, h, i, h1, h2 => by
    unfold firstBad at h
    split at h
    · cases h
    · rename_i h0
      by_cases hi : i = k
      · subst hi; simpa using h0
      · exact firstBad_none h i (by omega) (by omega)
theorem firstBad_some {e : Nat → Int} : ∀ {n k j : Nat}, firstBad e k n = some j → k ≤ j ∧ j < k + n ∧ e j ≠ 0 ∧ ∀ i, k ≤ i → i < j → e i = 0
  | 0, k, j, h => by cases h
  | n + 1, k, j, h => by
    unfold firstBad at h
    split at h
    · rename_i h0
      cases h
      exact ⟨Nat.le_refl _, by omega, h0, fun i h1 h2 => by omega⟩
    · rename_i h0
      obtain ⟨a, b, c, d⟩ := firstBad_some h
      refine ⟨by omega, by omega, c, fun i h1 h2 => ?_⟩
      by_cases hi : i = k
      · subst hi; simpa using h0
      · exact d i (by omega) h2
def atE (e : Nat → Int) (n : Nat) : AV := match firstBad e 0 n with | some k => .tup [.int .i64 k, .int .i64 (e k)] | none => .tup [.int .i64 0, .int .i64 0]

end Go.Proofs.YtiighcpimecehaaGreat
end
section
namespace Go.Proofs.YtiighcpimecehaaGreat
open Go.Proofs

structure Su where
  name : ByteArray
  pence : Int
  fr : Int
structure Wo where
  says : Int
  sum : Int
  of : Int
  back : Int
  came : Bool
structure Pd where
  sum : Int
  who : Int
structure Mo where
  who : List ByteArray
  sums : List Su
  words : List Wo
  paid : List Pd
  zw : Nat
  zs : Nat
  zo : Nat
  zp : Nat
def eSu (x : Su) : AV := .agg [.str x.name, .int .i64 x.pence, .int .i64 x.fr]
def bSu (x : Su) : ABlk := .cells [.str x.name, .int .i64 x.pence, .int .i64 x.fr]
def eWo (x : Wo) : AV := .agg [.int .i64 x.says, .int .i64 x.sum, .int .i64 x.of, .int .i64 x.back, .bool x.came]
def bWo (x : Wo) : ABlk := .cells [.int .i64 x.says, .int .i64 x.sum, .int .i64 x.of, .int .i64 x.back, .bool x.came]
def ePd (x : Pd) : AV := .agg [.int .i64 x.sum, .int .i64 x.who]
def bPd (x : Pd) : ABlk := .cells [.int .i64 x.sum, .int .i64 x.who]
def eMc (m : Mo) : List AV := [.lst 0 m.zw (S m.who), .lst 0 m.zs (m.sums.map eSu), .lst 0 m.zo (m.words.map eWo), .lst 0 m.zp (m.paid.map ePd)]
def eM (m : Mo) : AV := .agg (eMc m)
theorem eSu_get (l : List Su) (k : Nat) : (l.map eSu)[k]? = (l[k]?).map eSu := by simp
theorem eSu_clean (l : List Su) : cleanL (l.map eSu) = some (l.map eSu) := cleanL_map (fun x => by simp only [eSu, go_sem, ↓reduceIte, simprocAttr]) l
theorem eSu_under (n : Nat) (l : List Su) : underL n (l.map eSu) = true := underL_map (fun x => by simp only [eSu, go_sem, ↓reduceIte, simprocAttr]) l
theorem eSu_var (l : List Su) : (l.map eSu).all AV.var = true := all_map (fun _ => rfl) l
theorem eWo_get (l : List Wo) (k : Nat) : (l.map eWo)[k]? = (l[k]?).map eWo := by simp
theorem eWo_clean (l : List Wo) : cleanL (l.map eWo) = some (l.map eWo) := cleanL_map (fun x => by simp only [eWo, go_sem, ↓reduceIte, simprocAttr]) l
theorem eWo_under (n : Nat) (l : List Wo) : underL n (l.map eWo) = true := underL_map (fun x => by simp only [eWo, go_sem, ↓reduceIte, simprocAttr]) l
theorem eWo_var (l : List Wo) : (l.map eWo).all AV.var = true := all_map (fun _ => rfl) l
theorem ePd_get (l : List Pd) (k : Nat) : (l.map ePd)[k]? = (l[k]?).map ePd := by simp
theorem ePd_clean (l : List Pd) : cleanL (l.map ePd) = some (l.map ePd) := cleanL_map (fun x => by simp only [ePd, go_sem, ↓reduceIte, simprocAttr]) l
theorem ePd_under (n : Nat) (l : List Pd) : underL n (l.map ePd) = true := underL_map (fun x => by simp only [ePd, go_sem, ↓reduceIte, simprocAttr]) l
theorem ePd_var (l : List Pd) : (l.map ePd).all AV.var = true := all_map (fun _ => rfl) l
attribute [go_sem] eSu_clean eWo_clean ePd_clean eSu_under eWo_under ePd_under eSu_var eWo_var ePd_var
theorem S_take (n : Nat) (l : List ByteArray) : (S l).take n = S (l.take n) := by simp [S]
def firstW (e : Nat → Int) (n : Nat) (b : Nat → Option (AExit × St)) (z : Option (AExit × St)) : Option (AExit × St) := match firstBad e 0 n with | some k => b k | none => z
theorem w_first {X : Tab} {f : Nat} {rd : Option Nat} {b : Code} {g : Slots} {h : Heap} {ms : List Nat} (U : Nat → Slots) (H : Nat → Heap) (e : Nat → Int) (n : Nat) (xb : AExit) (Vb : Nat → Slots) (Hb : Nat → Heap) (x : AExit) (V : Slots) (hV : Heap) (h0 : puts g (U 0) = g) (hh : H 0 = h)
    (hs : ∀ k, k < n → e k = 0 → cutS ⟨⟨puts g (U k), []⟩, H k, ms⟩ ((EW X).code f rd b ⟨⟨puts g (U k), []⟩, H k, ms⟩) = some (.normal, ⟨⟨puts g (U (k + 1)), []⟩, H (k + 1), ms⟩))
    (hb : ∀ k, k < n → e k ≠ 0 → cutS ⟨⟨puts g (U k), []⟩, H k, ms⟩ ((EW X).code f rd b ⟨⟨puts g (U k), []⟩, H k, ms⟩) = some (xb, ⟨⟨puts g (Vb k), []⟩, Hb k, ms⟩))
    (he : cutS ⟨⟨puts g (U n), []⟩, H n, ms⟩ ((EW X).code f rd b ⟨⟨puts g (U n), []⟩, H n, ms⟩) = some (x, ⟨⟨puts g V, []⟩, hV, ms⟩)) (hrb : isNormal xb = false) (hr : isNormal x = false) (hm : mapLoop b = none := by rfl) :
    (EW X).code f rd (.loop b) ⟨⟨g, []⟩, h, ms⟩ = firstW e n (fun k => some (xb, ⟨⟨puts g (Vb k), []⟩, Hb k, ms⟩)) (some (x, ⟨⟨puts g V, []⟩, hV, ms⟩)) := by
  unfold firstW
  cases hf : firstBad e 0 n with
  | some k =>
    obtain ⟨_, h1, h2, h3⟩ := firstBad_some hf
    exact w_rounds_h U H k xb (Vb k) (Hb k) h0 hh (fun j hj => hs j (by omega) (h3 j (by omega) hj)) (hb k (by omega) h2) hrb hm
  | none => exact w_rounds_h U H n x V hV h0 hh (fun j hj => hs j hj (firstBad_none hf j (by omega) (by omega))) he hr hm
def failE (most : Int) (e : Nat → Int) (n : Nat) : AV := if most < n then .tup [.int .i64 0, .int .i64 3] else atE e n
def eSt (s : ByteArray) : AV := .str s

theorem m123 (f : Nat) (cap : List AV) (most : Int) (l : List ByteArray) (t z : Nat) (hz : l ≠ [] → z = 1) (h : Heap) (hl : l.length < 1000000000000000000) (e : Nat → Int)
   (hp : ∀ (k : Nat) c, l[k]? = some c → ∀ u, callAV tabX (EW tabX) false (.clo f [] cap) [.int .i64 k, eSt c] ⟨h.b ++ u, h.t⟩ = some (.int .i64 (e k), ⟨h.b ++ u, h.t⟩)) :
   (EW tabX).call 123 [.lst t z (S l), .int .i64 most, .clo f [] cap] h = some (failE most e l.length, h) := by
  obtain ⟨B, ht⟩ := h
  rw [w_call _ fn_123 rfl]
  unfold failE
  by_cases ho : most < l.length
  · simp only [go_sem, ↓reduceIte, simprocAttr, ho]
  simp only [go_sem, ↓reduceIte, simprocAttr, ho]
  simp only [callAV_clo] at hp
  rw [w_first (fun k => [(17, .int .i64 k)]) (fun k => ⟨B, ht⟩) e l.length .ret (fun n => [(6, .int .i64 n), (7, .int .i64 (e n)), (8, .int .i64 n), (9, .str (l.getD n ByteArray.empty)), (10, .int .i64 (e n)), (17, .int .i64 n)]) (fun n => ⟨B, ht⟩) (.exit 0) [(17, .int .i64 l.length)] ⟨B, ht⟩ ?_ ?_ ?_ ?_ ?_ rfl rfl]
  · unfold firstW atE
    cases firstBad e 0 l.length with
    | some n => simp only [go_sem, ↓reduceIte, simprocAttr]
    | none => simp only [go_sem, ↓reduceIte, simprocAttr]
  · simp only [go_sem, ↓reduceIte, simprocAttr]
  · rfl
  · intro k hk h0
    have hx := List.getElem?_eq_getElem hk
    have hki : (k : Int) < l.length := by omega
    have hz1 := hz (by intro e; rw [e] at hki; simp at hki; omega)
    subst hz1
    have hpk := hp k _ hx []
    rw [h0] at hpk
    simp only [eSt, List.append_nil] at hpk
    simp (disch := omega) only [go_sem, ↓reduceIte, simprocAttr, hki, S_get, hx, eSt, ↓hpk, wrap_i64, bne_self_eq_false]
  · intro n hn hen
    have hx := List.getElem?_eq_getElem hn
    have hki : (n : Int) < l.length := by omega
    have hz1 := hz (by intro e; rw [e] at hn; simp at hn)
    subst hz1
    have hne : (e n != 0) = true := by simpa using hen
    have hpk := hp n _ hx []
    have hgd : l.getD n ByteArray.empty = l[n] := by simp [hn]
    rw [hgd]
    simp only [eSt, List.append_nil] at hpk
    simp (disch := omega) only [go_sem, ↓reduceIte, simprocAttr, hki, S_get, hx, eSt, ↓hpk, wrap_i64, hne]
  · simp only [go_sem, ↓reduceIte, simprocAttr, Int.lt_irrefl]

theorem m127 (f : Nat) (cap : List AV) (most : Int) (l : List Su) (t z : Nat) (hz : l ≠ [] → z = 3) (h : Heap) (hl : l.length < 1000000000000000000) (e : Nat → Int)
   (hp : ∀ (k : Nat) c, l[k]? = some c → ∀ u, callAV tabX (EW tabX) false (.clo f [] cap) [.int .i64 k, eSu c] ⟨h.b ++ u, h.t⟩ = some (.int .i64 (e k), ⟨h.b ++ u, h.t⟩)) :
   (EW tabX).call 127 [.lst t z (l.map eSu), .int .i64 most, .clo f [] cap] h = some (failE most e l.length, h) := by
  obtain ⟨B, ht⟩ := h
  rw [w_call _ fn_127 rfl]
  unfold failE
  by_cases ho : most < l.length
  · simp only [go_sem, ↓reduceIte, simprocAttr, ho]
  simp only [go_sem, ↓reduceIte, simprocAttr, ho]
  simp only [callAV_clo] at hp
  have step : ∀ k c, l[k]? = some c → B ++ (l.take (k + 1)).map bSu = B ++ (l.take k).map bSu ++ [bSu c] := fun k c hx => by rw [map_succ _ hx, List.append_assoc]
  rw [w_first (fun k => [(17, .int .i64 k)]) (fun k => ⟨B ++ (l.take k).map bSu, ht⟩) e l.length .ret (fun n => [(6, .int .i64 n), (7, .int .i64 (e n)), (8, .int .i64 n), (9, .ref (B ++ (l.take n).map bSu).length 0), (10, .int .i64 (e n)), (17, .int .i64 n)]) (fun n => ⟨B ++ (l.take (n + 1)).map bSu, ht⟩) (.exit 0) [(17, .int .i64 l.length)] ⟨B ++ l.map bSu, ht⟩ ?_ ?_ ?_ ?_ ?_ rfl rfl]
  · unfold firstW atE
    cases firstBad e 0 l.length with
    | some n => simp only [go_sem, ↓reduceIte, simprocAttr]
    | none => simp only [go_sem, ↓reduceIte, simprocAttr]
  · simp only [go_sem, ↓reduceIte, simprocAttr]
  · simp only [go_sem, ↓reduceIte, simprocAttr]
  · intro k hk h0
    have hx := List.getElem?_eq_getElem hk
    have hki : (k : Int) < l.length := by omega
    have hz1 := hz (by intro e; rw [e] at hki; simp at hki; omega)
    subst hz1
    rw [step k _ hx]
    have hpk := hp k _ hx ((l.take k).map bSu ++ [bSu l[k]])
    rw [← List.append_assoc, h0] at hpk
    generalize B ++ (l.take k).map bSu = C at hpk ⊢
    simp only [eSu, bSu] at hpk
    simp (disch := omega) only [go_sem, ↓reduceIte, simprocAttr, hki, eSu_get, hx, eSu, ↓hpk, wrap_i64, bSu, bne_self_eq_false]
  · intro n hn hen
    have hx := List.getElem?_eq_getElem hn
    have hki : (n : Int) < l.length := by omega
    have hz1 := hz (by intro e; rw [e] at hn; simp at hn)
    subst hz1
    have hne : (e n != 0) = true := by simpa using hen
    rw [step n _ hx]
    have hpk := hp n _ hx ((l.take n).map bSu ++ [bSu l[n]])
    rw [← List.append_assoc] at hpk
    generalize B ++ (l.take n).map bSu = C at hpk ⊢
    simp only [eSu, bSu] at hpk
    simp (disch := omega) only [go_sem, ↓reduceIte, simprocAttr, hki, eSu_get, hx, eSu, ↓hpk, wrap_i64, bSu, hne]
  · simp only [go_sem, ↓reduceIte, simprocAttr, Int.lt_irrefl]

theorem m131 (f : Nat) (cap : List AV) (most : Int) (l : List Wo) (t z : Nat) (hz : l ≠ [] → z = 5) (h : Heap) (hl : l.length < 1000000000000000000) (e : Nat → Int)
   (hp : ∀ (k : Nat) c, l[k]? = some c → ∀ u, callAV tabX (EW tabX) false (.clo f [] cap) [.int .i64 k, eWo c] ⟨h.b ++ u, h.t⟩ = some (.int .i64 (e k), ⟨h.b ++ u, h.t⟩)) :
   (EW tabX).call 131 [.lst t z (l.map eWo), .int .i64 most, .clo f [] cap] h = some (failE most e l.length, h) := by
  obtain ⟨B, ht⟩ := h
  rw [w_call _ fn_131 rfl]
  unfold failE
  by_cases ho : most < l.length
  · simp only [go_sem, ↓reduceIte, simprocAttr, ho]
  simp only [go_sem, ↓reduceIte, simprocAttr, ho]
  simp only [callAV_clo] at hp
  have step : ∀ k c, l[k]? = some c → B ++ (l.take (k + 1)).map bWo = B ++ (l.take k).map bWo ++ [bWo c] := fun k c hx => by rw [map_succ _ hx, List.append_assoc]
  rw [w_first (fun k => [(17, .int .i64 k)]) (fun k => ⟨B ++ (l.take k).map bWo, ht⟩) e l.length .ret (fun n => [(6, .int .i64 n), (7, .int .i64 (e n)), (8, .int .i64 n), (9, .ref (B ++ (l.take n).map bWo).length 0), (10, .int .i64 (e n)), (17, .int .i64 n)]) (fun n => ⟨B ++ (l.take (n + 1)).map bWo, ht⟩) (.exit 0) [(17, .int .i64 l.length)] ⟨B ++ l.map bWo, ht⟩ ?_ ?_ ?_ ?_ ?_ rfl rfl]
  · unfold firstW atE
    cases firstBad e 0 l.length with
    | some n => simp only [go_sem, ↓reduceIte, simprocAttr]
    | none => simp only [go_sem, ↓reduceIte, simprocAttr]
  · simp only [go_sem, ↓reduceIte, simprocAttr]
  · simp only [go_sem, ↓reduceIte, simprocAttr]
  · intro k hk h0
    have hx := List.getElem?_eq_getElem hk
    have hki : (k : Int) < l.length := by omega
    have hz1 := hz (by intro e; rw [e] at hki; simp at hki; omega)
    subst hz1
    rw [step k _ hx]
    have hpk := hp k _ hx ((l.take k).map bWo ++ [bWo l[k]])
    rw [← List.append_assoc, h0] at hpk
    generalize B ++ (l.take k).map bWo = C at hpk ⊢
    simp only [eWo, bWo] at hpk
    simp (disch := omega) only [go_sem, ↓reduceIte, simprocAttr, hki, eWo_get, hx, eWo, ↓hpk, wrap_i64, bWo, bne_self_eq_false]
  · intro n hn hen
    have hx := List.getElem?_eq_getElem hn
    have hki : (n : Int) < l.length := by omega
    have hz1 := hz (by intro e; rw [e] at hn; simp at hn)
    subst hz1
    have hne : (e n != 0) = true := by simpa using hen
    rw [step n _ hx]
    have hpk := hp n _ hx ((l.take n).map bWo ++ [bWo l[n]])
    rw [← List.append_assoc] at hpk
    generalize B ++ (l.take n).map bWo = C at hpk ⊢
    simp only [eWo, bWo] at hpk
    simp (disch := omega) only [go_sem, ↓reduceIte, simprocAttr, hki, eWo_get, hx, eWo, ↓hpk, wrap_i64, bWo, hne]
  · simp only [go_sem, ↓reduceIte, simprocAttr, Int.lt_irrefl]

theorem m133 (f : Nat) (cap : List AV) (most : Int) (l : List Pd) (t z : Nat) (hz : l ≠ [] → z = 2) (h : Heap) (hl : l.length < 1000000000000000000) (e : Nat → Int)
   (hp : ∀ (k : Nat) c, l[k]? = some c → ∀ u, callAV tabX (EW tabX) false (.clo f [] cap) [.int .i64 k, ePd c] ⟨h.b ++ u, h.t⟩ = some (.int .i64 (e k), ⟨h.b ++ u, h.t⟩)) :
   (EW tabX).call 133 [.lst t z (l.map ePd), .int .i64 most, .clo f [] cap] h = some (failE most e l.length, h) := by
  obtain ⟨B, ht⟩ := h
  rw [w_call _ fn_133 rfl]
  unfold failE
  by_cases ho : most < l.length
  · simp only [go_sem, ↓reduceIte, simprocAttr, ho]
  simp only [go_sem, ↓reduceIte, simprocAttr, ho]
  simp only [callAV_clo] at hp
  have step : ∀ k c, l[k]? = some c → B ++ (l.take (k + 1)).map bPd = B ++ (l.take k).map bPd ++ [bPd c] := fun k c hx => by rw [map_succ _ hx, List.append_assoc]
  rw [w_first (fun k => [(17, .int .i64 k)]) (fun k => ⟨B ++ (l.take k).map bPd, ht⟩) e l.length .ret (fun n => [(6, .int .i64 n), (7, .int .i64 (e n)), (8, .int .i64 n), (9, .ref (B ++ (l.take n).map bPd).length 0), (10, .int .i64 (e n)), (17, .int .i64 n)]) (fun n => ⟨B ++ (l.take (n + 1)).map bPd, ht⟩) (.exit 0) [(17, .int .i64 l.length)] ⟨B ++ l.map bPd, ht⟩ ?_ ?_ ?_ ?_ ?_ rfl rfl]
  · unfold firstW atE
    cases firstBad e 0 l.length with
    | some n => simp only [go_sem, ↓reduceIte, simprocAttr]
    | none => simp only [go_sem, ↓reduceIte, simprocAttr]
  · simp only [go_sem, ↓reduceIte, simprocAttr]
  · simp only [go_sem, ↓reduceIte, simprocAttr]
  · intro k hk h0
    have hx := List.getElem?_eq_getElem hk
    have hki : (k : Int) < l.length := by omega
    have hz1 := hz (by intro e; rw [e] at hki; simp at hki; omega)
    subst hz1
    rw [step k _ hx]
    have hpk := hp k _ hx ((l.take k).map bPd ++ [bPd l[k]])
    rw [← List.append_assoc, h0] at hpk
    generalize B ++ (l.take k).map bPd = C at hpk ⊢
    simp only [ePd, bPd] at hpk
    simp (disch := omega) only [go_sem, ↓reduceIte, simprocAttr, hki, ePd_get, hx, ePd, ↓hpk, wrap_i64, bPd, bne_self_eq_false]
  · intro n hn hen
    have hx := List.getElem?_eq_getElem hn
    have hki : (n : Int) < l.length := by omega
    have hz1 := hz (by intro e; rw [e] at hn; simp at hn)
    subst hz1
    have hne : (e n != 0) = true := by simpa using hen
    rw [step n _ hx]
    have hpk := hp n _ hx ((l.take n).map bPd ++ [bPd l[n]])
    rw [← List.append_assoc] at hpk
    generalize B ++ (l.take n).map bPd = C at hpk ⊢
    simp only [ePd, bPd] at hpk
    simp (disch := omega) only [go_sem, ↓reduceIte, simprocAttr, hki, ePd_get, hx, ePd, ↓hpk, wrap_i64, bPd, hne]
  · simp only [go_sem, ↓reduceIte, simprocAttr, Int.lt_irrefl]
section
variable {X : Tab} {f : Nat} {rd : Option Nat} {b : Code}
theorem w_rounds_q {G : Prop} {s0 : St} {x : Option (AExit × St)} (hx : (EW X).code f rd (.loop b) s0 = x) (R : Nat → St → Prop) (n : Nat) (Q : AExit → St → Prop) (h0 : R 0 s0)
    (hs : ∀ k s, k < n → R k s → (∃ s', cutS s ((EW X).code f rd b s) = some (.normal, s') ∧ R (k + 1) s') ∨ ∃ e s', cutS s ((EW X).code f rd b s) = some (e, s') ∧ isNormal e = false ∧ Q e s')
    (he : ∀ s, R n s → ∃ e s', cutS s ((EW X).code f rd b s) = some (e, s') ∧ isNormal e = false ∧ Q e s')
    (hG : ∀ e s', x = some (e, s') → Q e s' → G) (hm : mapLoop b = none := by rfl) : G := by
  have leave : ∀ s e s', cutS s ((EW X).code f rd b s) = some (e, s') → isNormal e = false → (EW X).code f rd (.loop b) s = some (e, s') := fun s e s' h1 h2 => by
    rw [w_loop _ _ _ _ _ hm, h1]
    cases e with
    | normal => cases h2
    | exit i => rfl
    | ret => rfl
  have aux : ∀ m k s, m + k = n → R k s → ∃ e s', (EW X).code f rd (.loop b) s = some (e, s') ∧ Q e s' := by
    intro m
    induction m with
    | zero =>
      intro k s hk hR
      obtain rfl : k = n := by omega
      obtain ⟨e, s', h1, h2, h3⟩ := he s hR
      exact ⟨e, s', leave s e s' h1 h2, h3⟩
    | succ m ih =>
      intro k s hk hR
      rcases hs k s (by omega) hR with ⟨s1, h1, h2⟩ | ⟨e, s', h1, h2, h3⟩
      · obtain ⟨e, s', h3, h4⟩ := ih (k + 1) s1 (by omega) h2
        exact ⟨e, s', by rw [w_loop _ _ _ _ _ hm, h1, thenN_normal]; exact h3, h4⟩
      · exact ⟨e, s', leave s e s' h1 h2, h3⟩
  obtain ⟨e, s', h1, h2⟩ := aux n 0 s0 (by omega) h0
  exact hG e s' (hx.symm.trans h1) h2
end
section
variable {X : Tab} {f : Nat} {rd : Option Nat} {b : Code}
theorem w_rounds_sq {τ : Type} {G : Prop} {g : Slots} {h : Heap} {ms : List Nat} {x : Option (AExit × St)} (hx : (EW X).code f rd (.loop b) ⟨⟨g, []⟩, h, ms⟩ = x)
    (U : Nat → τ → Slots) (Hp : τ → Heap) (R : Nat → τ → Prop) (n : Nat) (Q : AExit → Slots → τ → Prop) (s0 : τ) (h0 : puts g (U 0 s0) = g) (hh : Hp s0 = h) (hR : R 0 s0)
    (hs : ∀ k s, k < n → R k s → (∃ s', cutS ⟨⟨puts g (U k s), []⟩, Hp s, ms⟩ ((EW X).code f rd b ⟨⟨puts g (U k s), []⟩, Hp s, ms⟩) = some (.normal, ⟨⟨puts g (U (k + 1) s'), []⟩, Hp s', ms⟩) ∧ R (k + 1) s') ∨
      ∃ e V s', cutS ⟨⟨puts g (U k s), []⟩, Hp s, ms⟩ ((EW X).code f rd b ⟨⟨puts g (U k s), []⟩, Hp s, ms⟩) = some (e, ⟨⟨puts g V, []⟩, Hp s', ms⟩) ∧ isNormal e = false ∧ Q e V s')
    (he : ∀ s, R n s → ∃ e V s', cutS ⟨⟨puts g (U n s), []⟩, Hp s, ms⟩ ((EW X).code f rd b ⟨⟨puts g (U n s), []⟩, Hp s, ms⟩) = some (e, ⟨⟨puts g V, []⟩, Hp s', ms⟩) ∧ isNormal e = false ∧ Q e V s')
    (hG : ∀ e V s, x = some (e, ⟨⟨puts g V, []⟩, Hp s, ms⟩) → Q e V s → G) (hm : mapLoop b = none := by rfl) : G := by
  refine w_rounds_q (hm := hm) hx (fun k q => ∃ s, q = ⟨⟨puts g (U k s), []⟩, Hp s, ms⟩ ∧ R k s) n (fun e q => ∃ V s, q = ⟨⟨puts g V, []⟩, Hp s, ms⟩ ∧ Q e V s) ⟨s0, by rw [h0, hh], hR⟩ ?_ ?_ ?_
  · rintro k q hk ⟨s, rfl, h2⟩
    rcases hs k s hk h2 with ⟨s', a, c⟩ | ⟨e, V, s', a, b, c⟩
    · exact .inl ⟨_, a, s', rfl, c⟩
    · exact .inr ⟨e, _, a, b, V, s', rfl, c⟩
  · rintro q ⟨s, rfl, h2⟩
    obtain ⟨e, V, s', a, b, c⟩ := he s h2
    exact ⟨e, _, a, b, V, s', rfl, c⟩
  · rintro e q h1 ⟨V, s, rfl, h2⟩
    exact hG e V s h1 h2
end
end Go.Proofs.YtiighcpimecehaaGreat
end
section
namespace Go.Proofs.YtiighcpimecehaaGreat
open Go.Proofs

def tup3 (x : Int × Int × Int) : AV := .tup [.int .i64 x.1, .int .i64 x.2.1, .int .i64 x.2.2]
structure Dr.fits (d : Dr) : Prop where
  zc : d.cards ≠ [] → d.zc = 2
  zh : d.halves ≠ [] → d.zh = 2
  lc : d.cards.length < 1000000000000000000
  lh : d.halves.length < 1000000000000000000
  nc : ∀ c ∈ d.cards, c.name.size < 1000000000000000000 ∧ c.edge.length < 1000000000000000000
  nh : ∀ c ∈ d.halves, c.name.size < 1000000000000000000 ∧ c.edge.length < 1000000000000000000

end Go.Proofs.YtiighcpimecehaaGreat
end
section
namespace Go.Proofs.YtiighcpimecehaaGreat
open Go.Proofs

theorem c73 (l : List ByteArray) (s : ByteArray) (z : Nat) (hz : l ≠ [] → z = 1) (hl : l.length < 1000000000000000000) (h : Heap) :
   callPure (EW tabX) 78 [.lst 0 z (S l), .str s] h = some (.int .i64 (if l.findIdx (fun x => x == s) < l.length then l.findIdx (fun x => x == s) else -1), h) := by
  rw [callPure_eq, w_call _ fn_78 rfl]
  simp only [go_sem, ↓reduceIte, simprocAttr]
  rw [w_rounds_u (fun k => [(5, .int .i64 k)]) (l.findIdx (fun x => x == s)) (.exit 0) [(5, .int .i64 (l.findIdx (fun x => x == s)))] ?_ ?_ ?_ rfl]
  · by_cases hf : l.findIdx (fun x => x == s) < l.length
    · have hne : (((l.findIdx (fun x => x == s) : Nat) : Int) == (l.length : Int)) = false := by simp; omega
      simp only [go_sem, ↓reduceIte, simprocAttr, hne, hf]
    · have hn : l.findIdx (fun x => x == s) = l.length := by have := List.findIdx_le_length (p := fun x => x == s) (xs := l); omega
      simp only [go_sem, ↓reduceIte, simprocAttr, hn, Nat.lt_irrefl]
  · simp only [go_sem, ↓reduceIte, simprocAttr]
  · intro k hk
    have hlt : k < l.length := by have := List.findIdx_le_length (p := fun x => x == s) (xs := l); omega
    have hki : (k : Int) < l.length := by omega
    have hx := List.getElem?_eq_getElem hlt
    have hpf : (l[k] == s) = false := by simpa using List.not_of_lt_findIdx hk
    have hz1 := hz (by intro e; rw [e] at hlt; simp at hlt)
    subst hz1
    have hne : (l[k] != s) = true := by simp only [bne, hpf, Bool.not_false]
    simp (disch := omega) only [go_sem, ↓reduceIte, simprocAttr, hki, hx, hne, wrap_i64]
  · by_cases hf : l.findIdx (fun x => x == s) < l.length
    · have hx := List.getElem?_eq_getElem hf
      have hki : ((l.findIdx (fun x => x == s) : Nat) : Int) < l.length := by omega
      have hpt : (l[l.findIdx (fun x => x == s)] == s) = true := List.findIdx_getElem (p := fun x => x == s)
      have hne : (l[l.findIdx (fun x => x == s)] != s) = false := by simp only [bne, hpt, Bool.not_true]
      have hz1 := hz (by intro e; rw [e] at hf; simp at hf)
      subst hz1
      simp (disch := omega) only [go_sem, ↓reduceIte, simprocAttr, hki, hx, hne]
    · have hn : l.findIdx (fun x => x == s) = l.length := by have := List.findIdx_le_length (p := fun x => x == s) (xs := l); omega
      simp only [go_sem, ↓reduceIte, simprocAttr, hn, Int.lt_irrefl]

def fresh (s : ByteArray) (l : List ByteArray) : Int := if nameOk s then (if l.any (fun x => x == s) then 5 else 0) else 6
theorem c58 (l : List ByteArray) (s : ByteArray) (z : Nat) (hz : l ≠ [] → z = 1) (hl : l.length < 1000000000000000000) (hs : s.size < 1000000000000000000) (h : Heap) :
   callPure (EW tabX) 28 [.str s, .lst 0 z (S l)] h = some (.int .i64 (fresh s l), h) := by
  have h73 := c73 l s z hz hl
  have h74 := c74 s hs
  have ha := findIdx_any l (fun x => x == s)
  rw [callPure_eq, w_call _ fn_28 rfl]
  cases h1 : l.any (fun x => x == s) with
  | true =>
    rw [h1] at ha
    cases h2 : nameOk s with
    | true => simp only [go_sem, ↓reduceIte, simprocAttr, h73, h74, ha, h2, fresh, h1]
    | false => simp only [go_sem, ↓reduceIte, simprocAttr, h73, h74, ha, h2, fresh, h1]
  | false =>
    rw [h1] at ha
    cases h2 : nameOk s with
    | true => simp only [go_sem, ↓reduceIte, simprocAttr, h73, h74, ha, h2, fresh, h1]
    | false => simp only [go_sem, ↓reduceIte, simprocAttr, h73, h74, ha, h2, fresh, h1]

end Go.Proofs.YtiighcpimecehaaGreat
end
section
namespace Go.Proofs.YtiighcpimecehaaGreat
open Go.Proofs

def allTo (p : Nat → Bool) (n : Nat) : Bool := (List.range n).all p
theorem allTo_succ (p : Nat → Bool) (n : Nat) : allTo p (n + 1) = (allTo p n && p n) := by simp [allTo, List.range_succ]
theorem allTo_zero (p : Nat → Bool) : allTo p 0 = true := rfl
theorem allTo_at {p : Nat → Bool} {n k : Nat} (h : allTo p n = true) (hk : k < n) : p k = true := by
  unfold allTo at h
  rw [List.all_eq_true] at h
  exact h k (by simpa using hk)
theorem allTo_false {p : Nat → Bool} : ∀ {n : Nat}, allTo p n = false → ∃ k, k < n ∧ allTo p k = true ∧ p k = false
  | 0, h => by simp [allTo] at h
  | n + 1, h => by
    cases h1 : allTo p n with
    | false => obtain ⟨k, a, b⟩ := allTo_false h1; exact ⟨k, by omega, b⟩
    | true => rw [allTo_succ, h1] at h; exact ⟨n, by omega, h1, by simpa using h⟩

def fit1 (wear c h : Int) : Bool := h == -1 || inR (c - h) 0 wear
def besideB (wear : Int) (card half : List Int) (at0 : Nat) : Bool := decide (at0 + half.length ≤ card.length) && allTo (fun i => fit1 wear (card.getD (at0 + i) 0) (half.getD i 0)) half.length
def LowK (l : List Int) : Prop := ∀ n ∈ l, -1 ≤ n ∧ n ≤ 9
theorem LowK.get {l : List Int} (h : LowK l) {k : Nat} (hk : k < l.length) : -1 ≤ l[k] ∧ l[k] ≤ 9 := h _ (List.getElem_mem hk)

end Go.Proofs.YtiighcpimecehaaGreat
end
section
namespace Go.Proofs.YtiighcpimecehaaGreat
open Go.Proofs

structure Dr.Ok (d : Dr) : Prop where
  s1 : 1 ≤ d.steps
  s6 : d.steps ≤ 6
  l1 : 1 ≤ d.least
  ls : d.least ≤ d.steps
  w0 : 0 ≤ d.wear
  w9 : d.wear ≤ 9
  c4 : d.cards.length ≤ 4
  h4 : d.halves.length ≤ 4
  ce : ∀ c ∈ d.cards, (c.edge.length : Int) = d.steps ∧ ∀ n ∈ c.edge, 0 ≤ n ∧ n ≤ 9
  he : ∀ c ∈ d.halves, d.least ≤ (c.edge.length : Int) ∧ (c.edge.length : Int) ≤ d.steps ∧ ∀ n ∈ c.edge, -1 ≤ n ∧ n ≤ 9
  cn : ∀ (i j : Nat) (x y : Card), d.cards[i]? = some x → d.cards[j]? = some y → j < i → y.name ≠ x.name
  hn : ∀ (i j : Nat) (x y : Card), d.halves[i]? = some x → d.halves[j]? = some y → j < i → y.name ≠ x.name
  ck : ∀ c ∈ d.cards, nameOk c.name = true
  hk : ∀ c ∈ d.halves, nameOk c.name = true

theorem ba_beq (a b : ByteArray) : (a == b) = true ↔ a = b := by
  cases a with | mk x => cases b with | mk y =>
  show ByteArray.beq _ _ = true ↔ _
  simp only [ByteArray.beq]
  simp
theorem mem_get {α : Type} {l : List α} {x : α} (h : x ∈ l) : ∃ i, i < l.length ∧ l[i]? = some x := by
  obtain ⟨i, hi, e⟩ := List.mem_iff_getElem.1 h
  exact ⟨i, hi, by rw [← e]; exact List.getElem?_eq_getElem hi⟩
theorem apart {l : List Card} (h : ∀ i x, l[i]? = some x → (l.take i).any (fun y => y.name == x.name) = false) (i j : Nat) (x y : Card) (hx : l[i]? = some x) (hy : l[j]? = some y) (hji : j < i) : y.name ≠ x.name := by
  intro e
  have := h i x hx
  rw [List.any_eq_false] at this
  have hm : y ∈ l.take i := List.mem_of_getElem? (i := j) (by rw [List.getElem?_take_of_lt hji]; exact hy)
  have := this y hm
  exact this ((ba_beq _ _).2 e)

def vI (l : List Int) : AV := .lst 0 (zT 1 l.length) (I l)
theorem vI_nil : vI [] = .lst 0 0 [] := rfl
theorem vI_under (n : Nat) (l : List Int) : (vI l).under n = true := by simp only [vI, go_sem, ↓reduceIte, simprocAttr]
theorem vI_clean (l : List Int) : (vI l).clean = some (vI l) := by simp only [vI, go_sem, ↓reduceIte, simprocAttr]
def fitsL (d : Dr) (card half : Card) (n : Nat) : List Int := ((List.range n).filter fun s => besideB d.wear card.edge half.edge s).map fun (s : Nat) => (s : Int)
end Go.Proofs.YtiighcpimecehaaGreat
end
section
namespace Go.Proofs.YtiighcpimecehaaGreat
open Go.Proofs

theorem m135 (n lo hi : Int) (h : Heap) (b1 b2 : Nat) (h1 : h.b[b1]? = some (.cells [.int .i64 lo])) (h2 : h.b[b2]? = some (.cells [.int .i64 hi])) :
   (EW tabX).call 135 [.int .i64 n, .ref b1 0, .ref b2 0] h = some (.bool (decide (n < lo) || decide (hi < n)), h) := by
  obtain ⟨hb, ht⟩ := h
  rw [w_call _ fn_135 rfl]
  by_cases hn : n < lo
  · simp only [go_sem, ↓reduceIte, simprocAttr, h1, h2, hn, Bool.true_or]
  · simp only [go_sem, ↓reduceIte, simprocAttr, h1, h2, hn, Bool.false_or, gt_iff_lt]
theorem m94 (lo hi : Int) (l : List Int) (z : Nat) (hz : l ≠ [] → z = 1) (h : Heap) (hl : l.length < 1000000000000000000) :
   callPure (EW tabX) 94 [.int .i64 lo, .int .i64 hi, .lst 0 z (I l)] h = some (.bool (l.any (out lo hi)), h) := by
  have h68 := c68 135 [] [.ref 0 0, .ref 1 0] l 0 z hz (out lo hi) ⟨[.cells [.int .i64 lo], .cells [.int .i64 hi]], []⟩ hl (fun n _ => by
    have := m135 n lo hi ⟨[.cells [.int .i64 lo], .cells [.int .i64 hi]], []⟩ 0 1 rfl rfl
    simp only [go_sem, ↓reduceIte, simprocAttr, this]; rfl) (by simp only [go_sem, ↓reduceIte, simprocAttr])
  refine pure_of (v := .bool (l.any (out lo hi))) (h1 := ⟨[], []⟩) ?_ (clean_bool _)
  rw [w_call _ fn_94 rfl]
  simp only [go_sem, ↓reduceIte, simprocAttr, h68]
theorem m94_1 (lo hi x : Int) (h : Heap) : callPure (EW tabX) 94 [.int .i64 lo, .int .i64 hi, .lst 0 1 [.int .i64 x]] h = some (.bool (out lo hi x), h) := by
  have := m94 lo hi [x] 1 (fun _ => rfl) h (by simp)
  simpa only [I_c, I_nil, List.any_cons, List.any_nil, Bool.or_false] using this

theorem m158 (l : List ByteArray) (s : ByteArray) (z : Nat) (hz : l ≠ [] → z = 1) (hl : l.length < 1000000000000000000) (h : Heap) :
   callPure (EW tabX) 158 [.lst 0 z (S l), .str s] h = some (.int .i64 (if l.findIdx (fun x => s == x) < l.length then l.findIdx (fun x => s == x) else -1), h) := by
  rw [callPure_eq, w_call _ fn_158 rfl]
  simp only [go_sem, ↓reduceIte, simprocAttr]
  by_cases hf : l.findIdx (fun x => s == x) < l.length
  · rw [w_rounds_u (fun k => [(8, .int .i64 k)]) (l.findIdx (fun x => s == x)) .ret [(4, .int .i64 (l.findIdx (fun x => s == x))), (5, .int .i64 (l.findIdx (fun x => s == x))), (8, .int .i64 (l.findIdx (fun x => s == x)))] ?_ ?_ ?_ rfl]
    · simp only [go_sem, ↓reduceIte, simprocAttr, hf]
    · simp only [go_sem, ↓reduceIte, simprocAttr]
    · intro k hk
      have hlt : k < l.length := by omega
      have hki : (k : Int) < l.length := by omega
      have hx := List.getElem?_eq_getElem hlt
      have hpf : (s == l[k]) = false := by simpa using List.not_of_lt_findIdx hk
      have hz1 := hz (by intro e; rw [e] at hlt; simp at hlt)
      subst hz1
      simp (disch := omega) only [go_sem, ↓reduceIte, simprocAttr, hki, hx, hpf, wrap_i64]
    · have hx := List.getElem?_eq_getElem hf
      have hki : ((l.findIdx (fun x => s == x) : Nat) : Int) < l.length := by omega
      have hpt : (s == l[l.findIdx (fun x => s == x)]) = true := List.findIdx_getElem (p := fun x => s == x)
      have hz1 := hz (by intro e; rw [e] at hf; simp at hf)
      subst hz1
      simp (disch := omega) only [go_sem, ↓reduceIte, simprocAttr, hki, hx, hpt, wrap_i64]
  · have hn : l.findIdx (fun x => s == x) = l.length := by have := List.findIdx_le_length (p := fun x => s == x) (xs := l); omega
    rw [w_rounds_u (fun k => [(8, .int .i64 k)]) (l.length) (.exit 0) [(8, .int .i64 l.length)] ?_ ?_ ?_ rfl]
    · simp only [go_sem, ↓reduceIte, simprocAttr, hf]
    · simp only [go_sem, ↓reduceIte, simprocAttr]
    · intro k hk
      have hki : (k : Int) < l.length := by omega
      have hx := List.getElem?_eq_getElem hk
      have hpf : (s == l[k]) = false := by simpa using List.not_of_lt_findIdx (p := fun x => s == x) (xs := l) (i := k) (by omega)
      have hz1 := hz (by intro e; rw [e] at hk; simp at hk)
      subst hz1
      simp (disch := omega) only [go_sem, ↓reduceIte, simprocAttr, hki, hx, hpf, wrap_i64]
    · simp (disch := omega) only [go_sem, ↓reduceIte, simprocAttr, Int.lt_irrefl]

theorem ba_comm (a b : ByteArray) : (a == b) = (b == a) := by
  rw [Bool.eq_iff_iff, ba_beq, ba_beq]; exact eq_comm
theorem m126 (l : List ByteArray) (s : ByteArray) (z : Nat) (hz : l ≠ [] → z = 1) (hl : l.length < 1000000000000000000) (h : Heap) :
   callPure (EW tabX) 126 [.lst 0 z (S l), .str s] h = some (.bool (l.any fun x => x == s), h) := by
  have h158 := m158 l s z hz hl
  have e : (l.any fun x => s == x) = l.any fun x => x == s := by congr 1; funext x; exact ba_comm _ _
  rw [callPure_eq, w_call _ fn_126 rfl]
  simp only [go_sem, ↓reduceIte, simprocAttr, h158, ge_iff_le, findIdx_any, e]
theorem m159 (f : Nat) (fst cap : List AV) (l : List Su) (t z : Nat) (hz : l ≠ [] → z = 3) (p : Su → Bool) (h : Heap) (hl : l.length < 1000000000000000000)
   (hp : ∀ n ∈ l, callAV tabX (EW tabX) false (.clo f fst cap) [eSu n] h = some (.bool (p n), h)) :
   (EW tabX).call 159 [.lst t z (l.map eSu), .clo f fst cap] h = some (.int .i64 (if l.findIdx p < l.length then l.findIdx p else -1), h) := by
  obtain ⟨hb, ht⟩ := h
  rw [w_call _ fn_159 rfl]
  simp only [go_sem, ↓reduceIte, simprocAttr]
  simp only [callAV_clo] at hp
  by_cases hf : l.findIdx p < l.length
  · rw [w_rounds_u (fun k => [(8, .int .i64 k)]) (l.findIdx p) .ret [(4, .int .i64 (l.findIdx p)), (5, .int .i64 (l.findIdx p)), (8, .int .i64 (l.findIdx p))] ?_ ?_ ?_ rfl]
    · simp only [go_sem, ↓reduceIte, simprocAttr, hf]
    · simp only [go_sem, ↓reduceIte, simprocAttr]
    · intro k hk
      have hlt : k < l.length := by omega
      have hki : (k : Int) < l.length := by omega
      have hx := List.getElem?_eq_getElem hlt
      have hpx := hp l[k] (List.getElem_mem _)
      have hpf : p l[k] = false := by simpa using List.not_of_lt_findIdx hk
      have hz1 := hz (by intro e; rw [e] at hlt; simp at hlt)
      subst hz1
      rw [hpf] at hpx
      simp only [eSu] at hpx
      simp (disch := omega) only [go_sem, ↓reduceIte, simprocAttr, hki, eSu_get, hx, eSu, ↓hpx, wrap_i64]
    · have hx := List.getElem?_eq_getElem hf
      have hki : ((l.findIdx p : Nat) : Int) < l.length := by omega
      have hpx := hp l[l.findIdx p] (List.getElem_mem _)
      have hpt : p l[l.findIdx p] = true := List.findIdx_getElem
      have hz1 := hz (by intro e; rw [e] at hf; simp at hf)
      subst hz1
      rw [hpt] at hpx
      simp only [eSu] at hpx
      simp (disch := omega) only [go_sem, ↓reduceIte, simprocAttr, hki, eSu_get, hx, eSu, ↓hpx, wrap_i64]
  · have hn : l.findIdx p = l.length := by have := List.findIdx_le_length (p := p) (xs := l); omega
    rw [w_rounds_u (fun k => [(8, .int .i64 k)]) (l.length) (.exit 0) [(8, .int .i64 l.length)] ?_ ?_ ?_ rfl]
    · simp only [go_sem, ↓reduceIte, simprocAttr, hf]
    · simp only [go_sem, ↓reduceIte, simprocAttr]
    · intro k hk
      have hki : (k : Int) < l.length := by omega
      have hx := List.getElem?_eq_getElem hk
      have hpx := hp l[k] (List.getElem_mem _)
      have hpf : p l[k] = false := by simpa using List.not_of_lt_findIdx (p := p) (xs := l) (i := k) (by omega)
      have hz1 := hz (by intro e; rw [e] at hk; simp at hk)
      subst hz1
      rw [hpf] at hpx
      simp only [eSu] at hpx
      simp (disch := omega) only [go_sem, ↓reduceIte, simprocAttr, hki, eSu_get, hx, eSu, ↓hpx, wrap_i64]
    · simp (disch := omega) only [go_sem, ↓reduceIte, simprocAttr, Int.lt_irrefl]
theorem m129 (f : Nat) (fst cap : List AV) (l : List Su) (t z : Nat) (hz : l ≠ [] → z = 3) (p : Su → Bool) (h : Heap) (hl : l.length < 1000000000000000000)
   (hp : ∀ n ∈ l, callAV tabX (EW tabX) false (.clo f fst cap) [eSu n] h = some (.bool (p n), h)) (hc : (AV.clo f fst cap).clean = none) :
   (EW tabX).call 129 [.lst t z (l.map eSu), .clo f fst cap] h = some (.bool (l.any p), h) := by
  have h78 := m159 f fst cap l t z hz p h hl hp
  obtain ⟨hb, ht⟩ := h
  rw [w_call _ fn_129 rfl]
  simp only [go_sem, ↓reduceIte, simprocAttr, hc, h78, ge_iff_le, findIdx_any]

structure Mo.fits (m : Mo) : Prop where
  zw : m.who ≠ [] → m.zw = 1
  zs : m.sums ≠ [] → m.zs = 3
  zo : m.words ≠ [] → m.zo = 5
  zp : m.paid ≠ [] → m.zp = 2
  lw : m.who.length < 1000000000000000000
  ls : m.sums.length < 1000000000000000000
  lo : m.words.length < 1000000000000000000
  lp : m.paid.length < 1000000000000000000
  nw : ∀ s ∈ m.who, s.size < 1000000000000000000
  ns : ∀ x ∈ m.sums, x.name.size < 1000000000000000000
def whoE (l : List ByteArray) (i : Nat) (s : ByteArray) : Int := if nameOk s then (if (l.take i).any (fun y => y == s) then 5 else 0) else 6
def bitsN (n : Nat) : Int := 2 ^ n - 1
def sumE (m : Mo) (i : Nat) (x : Su) : Int := if nameOk x.name then (if (m.sums.take i).any (fun y => y.name == x.name) then 5 else if out 1 99 x.pence || out 1 (bitsN m.who.length) x.fr then 7 else 0) else 6
def wordE (m : Mo) (i : Nat) (w : Wo) : Int :=
  if out 0 3 w.says then 7 else
  if out 0 ((m.sums.length : Int) - 1) w.sum || (out 0 ((if 2 ≤ w.says then (m.sums.length : Int) else m.who.length) - 1) w.of || out (-1) ((m.words.length : Int) - 1) w.back) then 4 else
  if w.back == (i : Int) || (decide (2 ≤ w.says) && w.of == w.sum) then 2 else 0
def paidE (m : Mo) (p : Pd) : Int := if out 0 ((m.sums.length : Int) - 1) p.sum || out 0 ((m.who.length : Int) - 1) p.who then 4 else 0

theorem m124 (d : Mo) (hd : d.fits) (r : Nat) (i : Nat) (x : ByteArray) (hx : d.who[i]? = some x) (h : Heap) (hr : h.b[r]? = some (.cells (eMc d))) :
   (EW tabX).call 124 [.int .i64 i, .str x, .ref r 0] h = some (.int .i64 (whoE d.who i x), h) := by
  obtain ⟨B, ht⟩ := h
  have hr : B[r]? = some (.cells (eMc d)) := hr
  simp only [eMc] at hr
  have oR := old hr
  have hi : i < d.who.length := (List.getElem?_eq_some_iff.1 hx).1
  have hil : i ≤ d.who.length := by omega
  have hz := hd.zw (by intro e; rw [e] at hx; simp at hx)
  have h125 := c70 x (hd.nw _ (List.mem_of_getElem? hx))
  have hla := hd.lw
  have h126 := m126 (d.who.take i) x 1 (fun _ => rfl) (by rw [List.length_take]; omega)
  rw [w_call _ fn_124 rfl]
  unfold whoE
  cases h1 : nameOk x with
  | false => simp only [go_sem, ↓reduceIte, simprocAttr, hr, h125, h1]
  | true =>
    cases h2 : (d.who.take i).any (fun y => y == x) with
    | true => simp only [go_sem, ↓reduceIte, simprocAttr, hr, h125, h1, h2, h126, hil, hz, S_take]
    | false => simp only [go_sem, ↓reduceIte, simprocAttr, hr, h125, h1, h2, h126, hil, hz, S_take]
theorem m130 (c : Su) (b : Nat) (x : ByteArray) (xs : List AV) (h : Heap) (hb : h.b[b]? = some (.cells (.str x :: xs))) :
   (EW tabX).call 130 [eSu c, .ref b 0] h = some (.bool (c.name == x), h) := by
  obtain ⟨B, ht⟩ := h
  have h1 : B[b]? = some (.cells (.str x :: xs)) := hb
  have h2 := old h1
  rw [w_call _ fn_130 rfl]
  simp only [go_sem, ↓reduceIte, simprocAttr, eSu, h1, h2]
theorem shl_eq {n : Nat} (h : n ≤ 4) : IntKind.i64.wrap (1 * 2 ^ (min n 64)) = 2 ^ n := by
  have : n = 0 ∨ n = 1 ∨ n = 2 ∨ n = 3 ∨ n = 4 := by omega
  rcases this with rfl | rfl | rfl | rfl | rfl <;> decide
theorem bitsN_le {n : Nat} (h : n ≤ 4) : (2 : Int) ^ n ≤ 16 ∧ 1 ≤ (2 : Int) ^ n := by
  have : n = 0 ∨ n = 1 ∨ n = 2 ∨ n = 3 ∨ n = 4 := by omega
  rcases this with rfl | rfl | rfl | rfl | rfl <;> decide
theorem m128 (d : Mo) (hd : d.fits) (hw : d.who.length ≤ 4) (r : Nat) (i : Nat) (x : Su) (hx : d.sums[i]? = some x) (h : Heap) (hr : h.b[r]? = some (.cells (eMc d))) :
   (EW tabX).call 128 [.int .i64 i, eSu x, .ref r 0] h = some (.int .i64 (sumE d i x), h) := by
  obtain ⟨B, ht⟩ := h
  have hr : B[r]? = some (.cells (eMc d)) := hr
  simp only [eMc] at hr
  have oR := old hr
  have hi : i < d.sums.length := (List.getElem?_eq_some_iff.1 hx).1
  have hil : i ≤ d.sums.length := by omega
  have hz := hd.zs (by intro e; rw [e] at hx; simp at hx)
  have h125 := c70 x.name (hd.ns _ (List.mem_of_getElem? hx))
  have hla := hd.ls
  have h129 := m129 130 [] [.ref B.length 0] (d.sums.take i) 0 3 (fun _ => rfl) (fun y => y.name == x.name) ⟨B ++ [bSu x], ht⟩ (by rw [List.length_take]; omega) (fun n _ => by
    have := m130 n B.length x.name [.int .i64 x.pence, .int .i64 x.fr] ⟨B ++ [bSu x], ht⟩ (by simp [bSu])
    simp only [go_sem, ↓reduceIte, simprocAttr, eSu] at this ⊢
    exact this) (by simp only [go_sem, ↓reduceIte, simprocAttr])
  rw [List.map_take] at h129
  simp only [bSu] at h129
  have hsh := shl_eq hw
  have hb := bitsN_le hw
  have hm : IntKind.i64.wrap ((2 : Int) ^ d.who.length - 1) = bitsN d.who.length := by rw [wrap_i64 (by omega)]; rfl
  rw [w_call _ fn_128 rfl]
  unfold sumE
  cases h1 : nameOk x.name with
  | false => simp only [go_sem, ↓reduceIte, simprocAttr, eSu, oR, h125, h1]
  | true =>
    cases h2 : (d.sums.take i).any (fun y => y.name == x.name) with
    | true => simp only [go_sem, ↓reduceIte, simprocAttr, eSu, oR, h125, h1, h2, h129, hil, hz]
    | false =>
      cases h3 : out 1 99 x.pence with
      | true => simp only [go_sem, ↓reduceIte, simprocAttr, eSu, oR, h125, h1, h2, h129, hil, hz, h3, m94_1]
      | false =>
        cases h4 : out 1 (bitsN d.who.length) x.fr with
        | true => simp only [go_sem, ↓reduceIte, simprocAttr, eSu, oR, h125, h1, h2, h129, hil, hz, h3, m94_1, hsh, hm, h4]
        | false => simp only [go_sem, ↓reduceIte, simprocAttr, eSu, oR, h125, h1, h2, h129, hil, hz, h3, m94_1, hsh, hm, h4]
theorem m134 (d : Mo) (hd : d.fits) (r : Nat) (k : Int) (x : Pd) (h : Heap) (hr : h.b[r]? = some (.cells (eMc d))) :
   (EW tabX).call 134 [.int .i64 k, ePd x, .ref r 0] h = some (.int .i64 (paidE d x), h) := by
  obtain ⟨B, ht⟩ := h
  have hr : B[r]? = some (.cells (eMc d)) := hr
  simp only [eMc] at hr
  have oR := old hr
  have hls := hd.ls
  have hlw := hd.lw
  rw [w_call _ fn_134 rfl]
  unfold paidE
  cases h1 : out 0 ((d.sums.length : Int) - 1) x.sum with
  | true => simp (disch := omega) only [go_sem, ↓reduceIte, simprocAttr, ePd, oR, h1, m94_1, wrap_i64]
  | false =>
    cases h2 : out 0 ((d.who.length : Int) - 1) x.who with
    | true => simp (disch := omega) only [go_sem, ↓reduceIte, simprocAttr, ePd, oR, h1, h2, m94_1, wrap_i64]
    | false => simp (disch := omega) only [go_sem, ↓reduceIte, simprocAttr, ePd, oR, h1, h2, m94_1, wrap_i64]
theorem m132 (d : Mo) (hd : d.fits) (r : Nat) (i : Nat) (x : Wo) (h : Heap) (hr : h.b[r]? = some (.cells (eMc d))) :
   (EW tabX).call 132 [.int .i64 i, eWo x, .ref r 0] h = some (.int .i64 (wordE d i x), h) := by
  obtain ⟨B, ht⟩ := h
  have hr : B[r]? = some (.cells (eMc d)) := hr
  simp only [eMc] at hr
  have oR := old hr
  have hls := hd.ls
  have hlw := hd.lw
  have hlo := hd.lo
  rw [w_call _ fn_132 rfl]
  unfold wordE
  cases h0 : out 0 3 x.says with
  | true =>
    by_cases hs : 2 ≤ x.says
    · simp (disch := omega) only [go_sem, ↓reduceIte, simprocAttr, eWo, oR, h0, hs, m94_1, wrap_i64]
    · simp (disch := omega) only [go_sem, ↓reduceIte, simprocAttr, eWo, oR, h0, hs, m94_1, wrap_i64]
  | false =>
  by_cases hs : 2 ≤ x.says
  · cases h1 : out 0 ((d.sums.length : Int) - 1) x.sum with
    | true => simp (disch := omega) only [go_sem, ↓reduceIte, simprocAttr, eWo, oR, h0, hs, h1, m94_1, wrap_i64]
    | false =>
    cases h2 : out 0 ((d.sums.length : Int) - 1) x.of with
    | true => simp (disch := omega) only [go_sem, ↓reduceIte, simprocAttr, eWo, oR, h0, hs, h1, h2, m94_1, wrap_i64]
    | false =>
    cases h3 : out (-1) ((d.words.length : Int) - 1) x.back with
    | true => simp (disch := omega) only [go_sem, ↓reduceIte, simprocAttr, eWo, oR, h0, hs, h1, h2, h3, m94_1, wrap_i64]
    | false =>
    cases h4 : x.back == (i : Int) with
    | true => simp (disch := omega) only [go_sem, ↓reduceIte, simprocAttr, eWo, oR, h0, hs, h1, h2, h3, h4, m94_1, wrap_i64]
    | false =>
    cases h5 : x.of == x.sum with
    | true => simp (disch := omega) only [go_sem, ↓reduceIte, simprocAttr, eWo, oR, h0, hs, h1, h2, h3, h4, h5, m94_1, wrap_i64]
    | false => simp (disch := omega) only [go_sem, ↓reduceIte, simprocAttr, eWo, oR, h0, hs, h1, h2, h3, h4, h5, m94_1, wrap_i64]
  · cases h1 : out 0 ((d.sums.length : Int) - 1) x.sum with
    | true => simp (disch := omega) only [go_sem, ↓reduceIte, simprocAttr, eWo, oR, h0, hs, h1, m94_1, wrap_i64]
    | false =>
    cases h2 : out 0 ((d.who.length : Int) - 1) x.of with
    | true => simp (disch := omega) only [go_sem, ↓reduceIte, simprocAttr, eWo, oR, h0, hs, h1, h2, m94_1, wrap_i64]
    | false =>
    cases h3 : out (-1) ((d.words.length : Int) - 1) x.back with
    | true => simp (disch := omega) only [go_sem, ↓reduceIte, simprocAttr, eWo, oR, h0, hs, h1, h2, h3, m94_1, wrap_i64]
    | false =>
    cases h4 : x.back == (i : Int) with
    | true => simp (disch := omega) only [go_sem, ↓reduceIte, simprocAttr, eWo, oR, h0, hs, h1, h2, h3, h4, m94_1, wrap_i64]
    | false => simp (disch := omega) only [go_sem, ↓reduceIte, simprocAttr, eWo, oR, h0, hs, h1, h2, h3, h4, m94_1, wrap_i64]
end Go.Proofs.YtiighcpimecehaaGreat
end
section
namespace Go.Proofs.YtiighcpimecehaaGreat.R8
open Go.Proofs


theorem c91 (n lo hi : Int) (h : Heap) (b1 b2 : Nat) (h1 : h.b[b1]? = some (.cells [.int .i64 lo])) (h2 : h.b[b2]? = some (.cells [.int .i64 hi])) :
   (EW tabX).call 108 [.int .i64 n, .ref b1 0, .ref b2 0] h = some (.bool (decide (n < lo) || decide (hi < n)), h) := by
  obtain ⟨hb, ht⟩ := h
  rw [w_call _ fn_108 rfl]
  by_cases hn : n < lo
  · simp only [go_sem, ↓reduceIte, simprocAttr, h1, h2, hn, Bool.true_or]
  · simp only [go_sem, ↓reduceIte, simprocAttr, h1, h2, hn, Bool.false_or, gt_iff_lt]
theorem c104 (n lo hi : Int) (h : Heap) (b1 b2 : Nat) (h1 : h.b[b1]? = some (.cells [.int .i64 lo])) (h2 : h.b[b2]? = some (.cells [.int .i64 hi])) :
   (EW tabX).call 164 [.int .i64 n, .ref b1 0, .ref b2 0] h = some (.bool (decide (n < lo) || decide (hi < n)), h) := by
  obtain ⟨hb, ht⟩ := h
  rw [w_call _ fn_164 rfl]
  by_cases hn : n < lo
  · simp only [go_sem, ↓reduceIte, simprocAttr, h1, h2, hn, Bool.true_or]
  · simp only [go_sem, ↓reduceIte, simprocAttr, h1, h2, hn, Bool.false_or, gt_iff_lt]

theorem c103 (f : Nat) (fst cap : List AV) (l : List Int) (t z : Nat) (hz : l ≠ [] → z = 1) (p : Int → Bool) (h : Heap) (hl : l.length < 1000000000000000000)
   (hp : ∀ n ∈ l, callAV tabX (EW tabX) false (.clo f fst cap) [.int .i64 n] h = some (.bool (p n), h)) :
   (EW tabX).call 151 [.lst t z (I l), .clo f fst cap] h = some (.int .i64 (if l.findIdx p < l.length then l.findIdx p else -1), h) := by
  obtain ⟨hb, ht⟩ := h
  rw [w_call _ fn_151 rfl]
  simp only [go_sem, ↓reduceIte, simprocAttr]
  simp only [callAV_clo] at hp
  by_cases hf : l.findIdx p < l.length
  · rw [w_rounds_u (fun k => [(8, .int .i64 k)]) (l.findIdx p) .ret [(4, .int .i64 (l.findIdx p)), (5, .int .i64 (l.findIdx p)), (8, .int .i64 (l.findIdx p))] ?_ ?_ ?_ rfl]
    · simp only [go_sem, ↓reduceIte, simprocAttr, hf]
    · simp only [go_sem, ↓reduceIte, simprocAttr]
    · intro k hk
      have hlt : k < l.length := by omega
      have hki : (k : Int) < l.length := by omega
      have hx := List.getElem?_eq_getElem hlt
      have hpx := hp l[k] (List.getElem_mem _)
      have hpf : p l[k] = false := by simpa using List.not_of_lt_findIdx hk
      have hz1 := hz (by intro e; rw [e] at hlt; simp at hlt)
      subst hz1
      rw [hpf] at hpx
      simp (disch := omega) only [go_sem, ↓reduceIte, simprocAttr, hki, hx, ↓hpx, wrap_i64]
    · have hx := List.getElem?_eq_getElem hf
      have hki : ((l.findIdx p : Nat) : Int) < l.length := by omega
      have hpx := hp l[l.findIdx p] (List.getElem_mem _)
      have hpt : p l[l.findIdx p] = true := List.findIdx_getElem
      have hz1 := hz (by intro e; rw [e] at hf; simp at hf)
      subst hz1
      rw [hpt] at hpx
      simp (disch := omega) only [go_sem, ↓reduceIte, simprocAttr, hki, hx, ↓hpx, wrap_i64]
  · have hn : l.findIdx p = l.length := by have := List.findIdx_le_length (p := p) (xs := l); omega
    rw [w_rounds_u (fun k => [(8, .int .i64 k)]) (l.length) (.exit 0) [(8, .int .i64 l.length)] ?_ ?_ ?_ rfl]
    · simp only [go_sem, ↓reduceIte, simprocAttr, hf]
    · simp only [go_sem, ↓reduceIte, simprocAttr]
    · intro k hk
      have hki : (k : Int) < l.length := by omega
      have hx := List.getElem?_eq_getElem hk
      have hpx := hp l[k] (List.getElem_mem _)
      have hpf : p l[k] = false := by simpa using List.not_of_lt_findIdx (p := p) (xs := l) (i := k) (by omega)
      have hz1 := hz (by intro e; rw [e] at hk; simp at hk)
      subst hz1
      rw [hpf] at hpx
      simp (disch := omega) only [go_sem, ↓reduceIte, simprocAttr, hki, hx, ↓hpx, wrap_i64]
    · simp (disch := omega) only [go_sem, ↓reduceIte, simprocAttr, Int.lt_irrefl]

theorem c90 (f : Nat) (fst cap : List AV) (l : List Int) (t z : Nat) (hz : l ≠ [] → z = 1) (p : Int → Bool) (h : Heap) (hl : l.length < 1000000000000000000)
   (hp : ∀ n ∈ l, callAV tabX (EW tabX) false (.clo f fst cap) [.int .i64 n] h = some (.bool (p n), h)) (hc : (AV.clo f fst cap).clean = none) :
   (EW tabX).call 107 [.lst t z (I l), .clo f fst cap] h = some (.bool (l.any p), h) := by
  have h78 := c103 f fst cap l t z hz p h hl hp
  obtain ⟨hb, ht⟩ := h
  rw [w_call _ fn_107 rfl]
  simp only [go_sem, ↓reduceIte, simprocAttr, hc, h78, ge_iff_le, findIdx_any]

def out (lo hi n : Int) : Bool := decide (n < lo) || decide (hi < n)
theorem c49 (lo hi : Int) (l : List Int) (z : Nat) (hz : l ≠ [] → z = 1) (h : Heap) (hl : l.length < 1000000000000000000) :
   callPure (EW tabX) 72 [.int .i64 lo, .int .i64 hi, .lst 0 z (I l)] h = some (.bool (l.any (out lo hi)), h) := by
  have h68 := c90 108 [] [.ref 0 0, .ref 1 0] l 0 z hz (out lo hi) ⟨[.cells [.int .i64 lo], .cells [.int .i64 hi]], []⟩ hl (fun n _ => by
    have := c91 n lo hi ⟨[.cells [.int .i64 lo], .cells [.int .i64 hi]], []⟩ 0 1 rfl rfl
    simp only [go_sem, ↓reduceIte, simprocAttr, this]; rfl) (by simp only [go_sem, ↓reduceIte, simprocAttr])
  refine pure_of (v := .bool (l.any (out lo hi))) (h1 := ⟨[], []⟩) ?_ (clean_bool _)
  rw [w_call _ fn_72 rfl]
  simp only [go_sem, ↓reduceIte, simprocAttr, h68]
theorem c49_1 (lo hi x : Int) (h : Heap) : callPure (EW tabX) 72 [.int .i64 lo, .int .i64 hi, .lst 0 1 [.int .i64 x]] h = some (.bool (out lo hi x), h) := by
  have := c49 lo hi [x] 1 (fun _ => rfl) h (by simp)
  simpa only [I_c, I_nil, List.any_cons, List.any_nil, Bool.or_false] using this
theorem c49_2 (lo hi x y : Int) (h : Heap) : callPure (EW tabX) 72 [.int .i64 lo, .int .i64 hi, .lst 0 1 [.int .i64 x, .int .i64 y]] h = some (.bool (out lo hi x || out lo hi y), h) := by
  have := c49 lo hi [x, y] 1 (fun _ => rfl) h (by simp)
  simpa only [I_c, I_nil, List.any_cons, List.any_nil, Bool.or_false] using this
end Go.Proofs.YtiighcpimecehaaGreat.R8
end
section
namespace Go.Proofs.YtiighcpimecehaaGreat.R8
open Go.Proofs

def inR (n lo hi : Int) : Bool := decide (lo ≤ n) && decide (n ≤ hi)
theorem c46 (n lo hi : Int) (h : Heap) : callPure (EW tabX) 24 [.int .i64 n, .int .i64 lo, .int .i64 hi] h = some (.bool (inR n lo hi), h) := by
  refine pure_of (v := .bool (inR n lo hi)) (h1 := ⟨[], []⟩) ?_ (clean_bool _)
  rw [w_call _ fn_24 rfl]
  simp only [go_sem, ↓reduceIte, simprocAttr]
  rfl
theorem out_not (lo hi n : Int) : (!out lo hi n) = inR n lo hi := by
  unfold out inR
  rw [Bool.eq_iff_iff]; simp

def chOk (i : Nat) (b : Int) : Bool := inR b 97 122 || (decide (0 < (i : Int)) && (b == 46 || inR b 48 57))
def chAt (s : ByteArray) (i : Nat) : Bool := match s[i]? with | some b => chOk i b.toNat | none => false
def okTo (s : ByteArray) (n : Nat) : Bool := (List.range n).all (chAt s)
def nameOk (s : ByteArray) : Bool := inR s.size 1 16 && okTo s s.size
theorem okTo_succ (s : ByteArray) (n : Nat) : okTo s (n + 1) = (okTo s n && chAt s n) := by simp [okTo, List.range_succ]
theorem okTo_zero (s : ByteArray) : okTo s 0 = true := rfl

theorem c95 (s : ByteArray) (hs : s.size < 1000000000000000000) (h : Heap) : callPure (EW tabX) 79 [.str s] h = some (.bool (nameOk s), h) := by
  refine pure_of (v := .bool (nameOk s)) (h1 := ⟨[], []⟩) ?_ (clean_bool _)
  rw [w_call _ fn_79 rfl]
  simp only [go_sem, ↓reduceIte, simprocAttr, c46]
  rw [w_rounds_u (fun k => [(3, .bool (inR s.size 1 16 && okTo s k)), (4, .int .i64 k)]) s.size (.exit 0) [(3, .bool (inR s.size 1 16 && okTo s s.size)), (4, .int .i64 s.size)] ?_ ?_ ?_ rfl]
  · simp only [go_sem, ↓reduceIte, simprocAttr, nameOk]
  · simp only [go_sem, ↓reduceIte, simprocAttr, okTo_zero]
  · intro k hk
    have hki : (k : Int) < s.size := by omega
    have hx : s[k]? = some s[k] := by simp [hk]
    have hb : (s[k].toNat : Int) < 256 := by have := s[k].toNat_lt; omega
    have hc : chAt s k = chOk k s[k].toNat := by simp [chAt, hk]
    simp (disch := omega) only [go_sem, ↓reduceIte, simprocAttr, hki, hx, c46, wrap_i64, okTo_succ, hc, chOk]
  · simp (disch := omega) only [go_sem, ↓reduceIte, simprocAttr, Int.lt_irrefl]
theorem okTo_false {s : ByteArray} : ∀ {n : Nat}, okTo s n = false → ∃ k, k < n ∧ okTo s k = true ∧ chAt s k = false
  | 0, h => by simp [okTo] at h
  | n + 1, h => by
    cases h1 : okTo s n with
    | false => obtain ⟨k, a, b⟩ := okTo_false h1; exact ⟨k, by omega, b⟩
    | true => rw [okTo_succ, h1] at h; exact ⟨n, by omega, h1, by simpa using h⟩
theorem okTo_at {s : ByteArray} {n k : Nat} (h : okTo s n = true) (hk : k < n) : chAt s k = true := by
  unfold okTo at h
  rw [List.all_eq_true] at h
  exact h k (by simpa using hk)
theorem c104b (l : List Int) (z : Nat) (hz : l ≠ [] → z = 1) (lo hi : Int) (h : Heap) (hl : l.length < 1000000000000000000) :
   callPure (EW tabX) 157 [.int .i64 lo, .int .i64 hi, .lst 0 z (I l)] h = some (.bool (l.any (out lo hi)), h) := by
  have h68 := c90 164 [] [.ref 0 0, .ref 1 0] l 0 z hz (out lo hi) ⟨[.cells [.int .i64 lo], .cells [.int .i64 hi]], []⟩ hl (fun n _ => by
    have := c104 n lo hi ⟨[.cells [.int .i64 lo], .cells [.int .i64 hi]], []⟩ 0 1 rfl rfl
    simp only [go_sem, ↓reduceIte, simprocAttr, this]; rfl) (by simp only [go_sem, ↓reduceIte, simprocAttr])
  refine pure_of (v := .bool (l.any (out lo hi))) (h1 := ⟨[], []⟩) ?_ (clean_bool _)
  rw [w_call _ fn_157 rfl]
  simp only [go_sem, ↓reduceIte, simprocAttr, h68]
theorem c92_1 (lo hi x : Int) (h : Heap) : callPure (EW tabX) 157 [.int .i64 lo, .int .i64 hi, .lst 0 1 [.int .i64 x]] h = some (.bool (out lo hi x), h) := by
  have := c104b [x] 1 (fun _ => rfl) lo hi h (by simp)
  simpa only [I_c, I_nil, List.any_cons, List.any_nil, Bool.or_false] using this

theorem test_eq (k b : Nat) : (!(decide (97 ≤ (b : Int)) && decide ((b : Int) ≤ 122)) && ((k : Int) == 0 || (b : Int) != 46 && (decide ((b : Int) < 48) || decide (57 < (b : Int))))) = !chOk k b := by
  unfold chOk inR
  rw [Bool.eq_iff_iff]
  simp only [Bool.and_eq_true, Bool.or_eq_true, Bool.not_eq_true', Bool.and_eq_false_iff, Bool.or_eq_false_iff, decide_eq_true_eq, decide_eq_false_iff_not, beq_iff_eq, bne_iff_ne, beq_eq_false_iff_ne, ne_eq]
  omega
theorem chOk_high (k b : Nat) (h : 128 ≤ b) : chOk k b = false := by
  cases hc : chOk k b with
  | false => rfl
  | true => simp [chOk, inR] at hc; omega

theorem c54 (s : ByteArray) (hs : s.size < 1000000000000000000) (h : Heap) : callPure (EW tabX) 125 [.str s] h = some (.bool (nameOk s), h) := by
  refine pure_of (v := .bool (nameOk s)) (h1 := ⟨[], []⟩) ?_ (clean_bool _)
  rw [w_call _ fn_125 rfl]
  simp only [go_sem, ↓reduceIte, simprocAttr]
  have round : ∀ k, (hk : k < s.size) → chOk k s[k].toNat = true → Utf8.decode s k = (s[k].toNat, 1) := fun k hk hc =>
    decode_ascii s k hk (by simp [chOk, inR] at hc; omega)
  cases ho : okTo s s.size with
  | true =>
    rw [w_rounds_h (fun k => []) (fun k => ⟨[.siter s k], []⟩) s.size (.exit 0) [(8, .tup [.bool false])] ⟨[.siter s s.size], []⟩ ?_ ?_ ?_ ?_ rfl]
    · simp only [go_sem, ↓reduceIte, simprocAttr, nameOk, c92_1, out_not, ho]
    · simp only [go_sem, ↓reduceIte, simprocAttr]
    · simp only [go_sem, ↓reduceIte, simprocAttr]
    · intro k hk
      have hc : chAt s k = true := okTo_at ho hk
      have hc : chOk k s[k].toNat = true := by simpa [chAt, hk] using hc
      have hd := round k hk hc
      simp only [go_sem, ↓reduceIte, simprocAttr, hk, hd, test_eq, hc]
    · simp only [go_sem, ↓reduceIte, simprocAttr, Nat.lt_irrefl]
  | false =>
    obtain ⟨n, hn, h1, h2⟩ := okTo_false ho
    have h2 : chOk n s[n].toNat = false := by simpa [chAt, hn] using h2
    have hv : ∃ b w, Utf8.decode s n = (b, w) ∧ chOk n b = false := by
      by_cases hb : s[n].toNat < 128
      · exact ⟨_, _, decode_ascii s n hn hb, h2⟩
      · exact ⟨_, _, rfl, chOk_high _ _ (decode_high s n hn (by omega)).1⟩
    obtain ⟨b, w, hd, hb⟩ := hv
    rw [w_rounds_h (fun k => []) (fun k => ⟨[.siter s k], []⟩) n .ret [(3, .int .i64 n), (4, .int .i32 b), (5, .bool (inR b 97 122)), (8, .tup [.bool true, .int .i64 n, .int .i32 b])] ⟨[.siter s (n + w)], []⟩ ?_ ?_ ?_ ?_ rfl]
    · simp only [go_sem, ↓reduceIte, simprocAttr, nameOk, ho]
    · simp only [go_sem, ↓reduceIte, simprocAttr]
    · simp only [go_sem, ↓reduceIte, simprocAttr]
    · intro k hk
      have hk' : k < s.size := by omega
      have hc : chAt s k = true := okTo_at h1 hk
      have hc : chOk k s[k].toNat = true := by simpa [chAt, hk'] using hc
      have hd := round k hk' hc
      simp only [go_sem, ↓reduceIte, simprocAttr, hk', hd, test_eq, hc]
    · simp only [go_sem, ↓reduceIte, simprocAttr, hn, hd, test_eq, hb, inR]
end Go.Proofs.YtiighcpimecehaaGreat.R8
end
section
namespace Go.Proofs.YtiighcpimecehaaGreat.R8
open Go.Proofs

structure Ag where
  name : ByteArray
  fee : Int
  round : Int
structure En where
  agent : Int
  day : Int
  near : Int
  far : Int
structure Ho where
  days : Int
  rates : List (Int × Int)
  step : Int
  agents : List Ag
  entries : List En
  zr : Nat
  za : Nat
  ze : Nat
def eSp (s : Int × Int) : AV := .agg [.int .i64 s.1, .int .i64 s.2]
def eAg (a : Ag) : AV := .agg [.str a.name, .int .i64 a.fee, .int .i64 a.round]
def eEn (x : En) : AV := .agg [.int .i64 x.agent, .int .i64 x.day, .int .i64 x.near, .int .i64 x.far]
def eHc (h : Ho) : List AV := [.int .i64 h.days, .lst 0 h.zr (h.rates.map eSp), .int .i64 h.step, .lst 0 h.za (h.agents.map eAg), .lst 0 h.ze (h.entries.map eEn)]
def eH (h : Ho) : AV := .agg (eHc h)
def bSp (s : Int × Int) : ABlk := .cells [.int .i64 s.1, .int .i64 s.2]
def bAg (a : Ag) : ABlk := .cells [.str a.name, .int .i64 a.fee, .int .i64 a.round]
def bEn (x : En) : ABlk := .cells [.int .i64 x.agent, .int .i64 x.day, .int .i64 x.near, .int .i64 x.far]
theorem eSp_get (l : List (Int × Int)) (k : Nat) : (l.map eSp)[k]? = (l[k]?).map eSp := by simp
theorem eAg_get (l : List Ag) (k : Nat) : (l.map eAg)[k]? = (l[k]?).map eAg := by simp
theorem eEn_get (l : List En) (k : Nat) : (l.map eEn)[k]? = (l[k]?).map eEn := by simp
theorem eSp_clean (l : List (Int × Int)) : cleanL (l.map eSp) = some (l.map eSp) := cleanL_map (fun x => by simp only [eSp, go_sem, ↓reduceIte, simprocAttr]) l
theorem eAg_clean (l : List Ag) : cleanL (l.map eAg) = some (l.map eAg) := cleanL_map (fun x => by simp only [eAg, go_sem, ↓reduceIte, simprocAttr]) l
theorem eEn_clean (l : List En) : cleanL (l.map eEn) = some (l.map eEn) := cleanL_map (fun x => by simp only [eEn, go_sem, ↓reduceIte, simprocAttr]) l
theorem eSp_under (n : Nat) (l : List (Int × Int)) : underL n (l.map eSp) = true := underL_map (fun x => by simp only [eSp, go_sem, ↓reduceIte, simprocAttr]) l
theorem eAg_under (n : Nat) (l : List Ag) : underL n (l.map eAg) = true := underL_map (fun x => by simp only [eAg, go_sem, ↓reduceIte, simprocAttr]) l
theorem eEn_under (n : Nat) (l : List En) : underL n (l.map eEn) = true := underL_map (fun x => by simp only [eEn, go_sem, ↓reduceIte, simprocAttr]) l
theorem eSp_var (l : List (Int × Int)) : (l.map eSp).all AV.var = true := all_map (fun _ => rfl) l
theorem eAg_var (l : List Ag) : (l.map eAg).all AV.var = true := all_map (fun _ => rfl) l
theorem eEn_var (l : List En) : (l.map eEn).all AV.var = true := all_map (fun _ => rfl) l
attribute [go_sem] eSp_get eAg_get eEn_get eSp_clean eAg_clean eEn_clean eSp_under eAg_under eEn_under eSp_var eAg_var eEn_var
theorem eH_clean (h : Ho) : (eH h).clean = some (eH h) := by simp only [eH, eHc, go_sem, ↓reduceIte, simprocAttr]

theorem firstBad_none {e : Nat → Int} : ∀ {n k : Nat}, firstBad e k n = none → ∀ i, k ≤ i → i < k + n → e i = 0
  | 0, k, _, i, h1, h2 => by omega
  | n + 1, k, h, i, h1, h2 => by
    unfold firstBad at h
    split at h
    · cases h
    · rename_i h0
      by_cases hi : i = k
      · subst hi; simpa using h0
      · exact firstBad_none h i (by omega) (by omega)
theorem firstBad_some {e : Nat → Int} : ∀ {n k j : Nat}, firstBad e k n = some j → k ≤ j ∧ j < k + n ∧ e j ≠ 0 ∧ ∀ i, k ≤ i → i < j → e i = 0
  | 0, k, j, h => by cases h
  | n + 1, k, j, h => by
    unfold firstBad at h
    split at h
    · rename_i h0
      cases h
      exact ⟨Nat.le_refl _, by omega, h0, fun i h1 h2 => by omega⟩
    · rename_i h0
      obtain ⟨a, b, c, d⟩ := firstBad_some h
      refine ⟨by omega, by omega, c, fun i h1 h2 => ?_⟩
      by_cases hi : i = k
      · subst hi; simpa using h0
      · exact d i (by omega) h2
theorem firstBad_zero {e : Nat → Int} : ∀ {n k : Nat}, (∀ i, k ≤ i → i < k + n → e i = 0) → firstBad e k n = none
  | 0, k, _ => rfl
  | n + 1, k, h => by
    unfold firstBad
    rw [if_neg (by simpa using h k (by omega) (by omega))]
    exact firstBad_zero fun i h1 h2 => h i (by omega) (by omega)
noncomputable def firstW (e : Nat → Int) (n : Nat) (b : Nat → Option (AExit × St)) (z : Option (AExit × St)) : Option (AExit × St) := match firstBad e 0 n with | some k => b k | none => z
theorem w_first {X : Tab} {f : Nat} {rd : Option Nat} {b : Code} {g : Slots} {h : Heap} {ms : List Nat} (U : Nat → Slots) (H : Nat → Heap) (e : Nat → Int) (n : Nat) (xb : AExit) (Vb : Nat → Slots) (Hb : Nat → Heap) (x : AExit) (V : Slots) (hV : Heap) (h0 : puts g (U 0) = g) (hh : H 0 = h)
    (hs : ∀ k, k < n → e k = 0 → cutS ⟨⟨puts g (U k), []⟩, H k, ms⟩ ((EW X).code f rd b ⟨⟨puts g (U k), []⟩, H k, ms⟩) = some (.normal, ⟨⟨puts g (U (k + 1)), []⟩, H (k + 1), ms⟩))
    (hb : ∀ k, k < n → e k ≠ 0 → cutS ⟨⟨puts g (U k), []⟩, H k, ms⟩ ((EW X).code f rd b ⟨⟨puts g (U k), []⟩, H k, ms⟩) = some (xb, ⟨⟨puts g (Vb k), []⟩, Hb k, ms⟩))
    (he : cutS ⟨⟨puts g (U n), []⟩, H n, ms⟩ ((EW X).code f rd b ⟨⟨puts g (U n), []⟩, H n, ms⟩) = some (x, ⟨⟨puts g V, []⟩, hV, ms⟩)) (hrb : isNormal xb = false) (hr : isNormal x = false) (hm : mapLoop b = none := by rfl) :
    (EW X).code f rd (.loop b) ⟨⟨g, []⟩, h, ms⟩ = firstW e n (fun k => some (xb, ⟨⟨puts g (Vb k), []⟩, Hb k, ms⟩)) (some (x, ⟨⟨puts g V, []⟩, hV, ms⟩)) := by
  unfold firstW
  cases hf : firstBad e 0 n with
  | some k =>
    obtain ⟨_, h1, h2, h3⟩ := firstBad_some hf
    exact w_rounds_h U H k xb (Vb k) (Hb k) h0 hh (fun j hj => hs j (by omega) (h3 j (by omega) hj)) (hb k (by omega) h2) hrb hm
  | none => exact w_rounds_h U H n x V hV h0 hh (fun j hj => hs j hj (firstBad_none hf j (by omega) (by omega))) he hr hm

theorem c50 (f : Nat) (cap : List AV) (l : List (Int × Int)) (t z : Nat) (hz : l ≠ [] → z = 2) (h : Heap) (hl : l.length < 1000000000000000000) (e : Nat → Int)
   (hp : ∀ (k : Nat) c, l[k]? = some c → ∀ u, callAV tabX (EW tabX) false (.clo f [] cap) [.int .i64 k, eSp c] ⟨h.b ++ u, h.t⟩ = some (.int .i64 (e k), ⟨h.b ++ u, h.t⟩)) :
   (EW tabX).call 140 [.lst t z (l.map eSp), .clo f [] cap] h = some (atE e l.length, h) := by
  obtain ⟨B, ht⟩ := h
  rw [w_call _ fn_140 rfl]
  simp only [go_sem, ↓reduceIte, simprocAttr]
  simp only [callAV_clo] at hp
  have step : ∀ k c, l[k]? = some c → B ++ (l.take (k + 1)).map bSp = B ++ (l.take k).map bSp ++ [bSp c] := fun k c hx => by rw [map_succ _ hx, List.append_assoc]
  rw [w_first (fun k => [(11, .int .i64 k)]) (fun k => ⟨B ++ (l.take k).map bSp, ht⟩) e l.length .ret (fun n => [(4, .int .i64 n), (5, .int .i64 (e n)), (6, .int .i64 n), (7, .ref (B ++ (l.take n).map bSp).length 0), (8, .int .i64 (e n)), (11, .int .i64 n)]) (fun n => ⟨B ++ (l.take (n + 1)).map bSp, ht⟩) (.exit 0) [(11, .int .i64 l.length)] ⟨B ++ l.map bSp, ht⟩ ?_ ?_ ?_ ?_ ?_ rfl rfl]
  · unfold firstW atE
    cases firstBad e 0 l.length with
    | some n => simp only [go_sem, ↓reduceIte, simprocAttr]
    | none => simp only [go_sem, ↓reduceIte, simprocAttr]
  · simp only [go_sem, ↓reduceIte, simprocAttr]
  · simp only [go_sem, ↓reduceIte, simprocAttr]
  · intro k hk h0
    have hx := List.getElem?_eq_getElem hk
    have hki : (k : Int) < l.length := by omega
    have hz1 := hz (by intro e; rw [e] at hki; simp at hki; omega)
    subst hz1
    rw [step k _ hx]
    have hpk := hp k _ hx ((l.take k).map bSp ++ [bSp l[k]])
    rw [← List.append_assoc, h0] at hpk
    generalize B ++ (l.take k).map bSp = C at hpk ⊢
    simp only [eSp, bSp] at hpk
    simp (disch := omega) only [go_sem, ↓reduceIte, simprocAttr, hki, eSp_get, hx, eSp, ↓hpk, wrap_i64, bSp, bne_self_eq_false]
  · intro n hn hen
    have hx := List.getElem?_eq_getElem hn
    have hki : (n : Int) < l.length := by omega
    have hz1 := hz (by intro e; rw [e] at hn; simp at hn)
    subst hz1
    rw [step n _ hx]
    have hpk := hp n _ hx ((l.take n).map bSp ++ [bSp l[n]])
    have hne : (e n != 0) = true := by simpa using hen
    rw [← List.append_assoc] at hpk
    generalize B ++ (l.take n).map bSp = C at hpk ⊢
    simp only [eSp, bSp] at hpk
    simp (disch := omega) only [go_sem, ↓reduceIte, simprocAttr, hki, eSp_get, hx, eSp, ↓hpk, wrap_i64, bSp, hne]
  · simp only [go_sem, ↓reduceIte, simprocAttr, Int.lt_irrefl]

theorem c52 (f : Nat) (cap : List AV) (l : List Ag) (t z : Nat) (hz : l ≠ [] → z = 3) (h : Heap) (hl : l.length < 1000000000000000000) (e : Nat → Int)
   (hp : ∀ (k : Nat) c, l[k]? = some c → ∀ u, callAV tabX (EW tabX) false (.clo f [] cap) [.int .i64 k, eAg c] ⟨h.b ++ u, h.t⟩ = some (.int .i64 (e k), ⟨h.b ++ u, h.t⟩)) :
   (EW tabX).call 142 [.lst t z (l.map eAg), .clo f [] cap] h = some (atE e l.length, h) := by
  obtain ⟨B, ht⟩ := h
  rw [w_call _ fn_142 rfl]
  simp only [go_sem, ↓reduceIte, simprocAttr]
  simp only [callAV_clo] at hp
  have step : ∀ k c, l[k]? = some c → B ++ (l.take (k + 1)).map bAg = B ++ (l.take k).map bAg ++ [bAg c] := fun k c hx => by rw [map_succ _ hx, List.append_assoc]
  rw [w_first (fun k => [(11, .int .i64 k)]) (fun k => ⟨B ++ (l.take k).map bAg, ht⟩) e l.length .ret (fun n => [(4, .int .i64 n), (5, .int .i64 (e n)), (6, .int .i64 n), (7, .ref (B ++ (l.take n).map bAg).length 0), (8, .int .i64 (e n)), (11, .int .i64 n)]) (fun n => ⟨B ++ (l.take (n + 1)).map bAg, ht⟩) (.exit 0) [(11, .int .i64 l.length)] ⟨B ++ l.map bAg, ht⟩ ?_ ?_ ?_ ?_ ?_ rfl rfl]
  · unfold firstW atE
    cases firstBad e 0 l.length with
    | some n => simp only [go_sem, ↓reduceIte, simprocAttr]
    | none => simp only [go_sem, ↓reduceIte, simprocAttr]
  · simp only [go_sem, ↓reduceIte, simprocAttr]
  · simp only [go_sem, ↓reduceIte, simprocAttr]
  · intro k hk h0
    have hx := List.getElem?_eq_getElem hk
    have hki : (k : Int) < l.length := by omega
    have hz1 := hz (by intro e; rw [e] at hki; simp at hki; omega)
    subst hz1
    rw [step k _ hx]
    have hpk := hp k _ hx ((l.take k).map bAg ++ [bAg l[k]])
    rw [← List.append_assoc, h0] at hpk
    generalize B ++ (l.take k).map bAg = C at hpk ⊢
    simp only [eAg, bAg] at hpk
    simp (disch := omega) only [go_sem, ↓reduceIte, simprocAttr, hki, eAg_get, hx, eAg, ↓hpk, wrap_i64, bAg, bne_self_eq_false]
  · intro n hn hen
    have hx := List.getElem?_eq_getElem hn
    have hki : (n : Int) < l.length := by omega
    have hz1 := hz (by intro e; rw [e] at hn; simp at hn)
    subst hz1
    rw [step n _ hx]
    have hpk := hp n _ hx ((l.take n).map bAg ++ [bAg l[n]])
    have hne : (e n != 0) = true := by simpa using hen
    rw [← List.append_assoc] at hpk
    generalize B ++ (l.take n).map bAg = C at hpk ⊢
    simp only [eAg, bAg] at hpk
    simp (disch := omega) only [go_sem, ↓reduceIte, simprocAttr, hki, eAg_get, hx, eAg, ↓hpk, wrap_i64, bAg, hne]
  · simp only [go_sem, ↓reduceIte, simprocAttr, Int.lt_irrefl]

theorem c57 (f : Nat) (cap : List AV) (l : List En) (t z : Nat) (hz : l ≠ [] → z = 4) (h : Heap) (hl : l.length < 1000000000000000000) (e : Nat → Int)
   (hp : ∀ (k : Nat) c, l[k]? = some c → ∀ u, callAV tabX (EW tabX) false (.clo f [] cap) [.int .i64 k, eEn c] ⟨h.b ++ u, h.t⟩ = some (.int .i64 (e k), ⟨h.b ++ u, h.t⟩)) :
   (EW tabX).call 146 [.lst t z (l.map eEn), .clo f [] cap] h = some (atE e l.length, h) := by
  obtain ⟨B, ht⟩ := h
  rw [w_call _ fn_146 rfl]
  simp only [go_sem, ↓reduceIte, simprocAttr]
  simp only [callAV_clo] at hp
  have step : ∀ k c, l[k]? = some c → B ++ (l.take (k + 1)).map bEn = B ++ (l.take k).map bEn ++ [bEn c] := fun k c hx => by rw [map_succ _ hx, List.append_assoc]
  rw [w_first (fun k => [(11, .int .i64 k)]) (fun k => ⟨B ++ (l.take k).map bEn, ht⟩) e l.length .ret (fun n => [(4, .int .i64 n), (5, .int .i64 (e n)), (6, .int .i64 n), (7, .ref (B ++ (l.take n).map bEn).length 0), (8, .int .i64 (e n)), (11, .int .i64 n)]) (fun n => ⟨B ++ (l.take (n + 1)).map bEn, ht⟩) (.exit 0) [(11, .int .i64 l.length)] ⟨B ++ l.map bEn, ht⟩ ?_ ?_ ?_ ?_ ?_ rfl rfl]
  · unfold firstW atE
    cases firstBad e 0 l.length with
    | some n => simp only [go_sem, ↓reduceIte, simprocAttr]
    | none => simp only [go_sem, ↓reduceIte, simprocAttr]
  · simp only [go_sem, ↓reduceIte, simprocAttr]
  · simp only [go_sem, ↓reduceIte, simprocAttr]
  · intro k hk h0
    have hx := List.getElem?_eq_getElem hk
    have hki : (k : Int) < l.length := by omega
    have hz1 := hz (by intro e; rw [e] at hki; simp at hki; omega)
    subst hz1
    rw [step k _ hx]
    have hpk := hp k _ hx ((l.take k).map bEn ++ [bEn l[k]])
    rw [← List.append_assoc, h0] at hpk
    generalize B ++ (l.take k).map bEn = C at hpk ⊢
    simp only [eEn, bEn] at hpk
    simp (disch := omega) only [go_sem, ↓reduceIte, simprocAttr, hki, eEn_get, hx, eEn, ↓hpk, wrap_i64, bEn, bne_self_eq_false]
  · intro n hn hen
    have hx := List.getElem?_eq_getElem hn
    have hki : (n : Int) < l.length := by omega
    have hz1 := hz (by intro e; rw [e] at hn; simp at hn)
    subst hz1
    rw [step n _ hx]
    have hpk := hp n _ hx ((l.take n).map bEn ++ [bEn l[n]])
    have hne : (e n != 0) = true := by simpa using hen
    rw [← List.append_assoc] at hpk
    generalize B ++ (l.take n).map bEn = C at hpk ⊢
    simp only [eEn, bEn] at hpk
    simp (disch := omega) only [go_sem, ↓reduceIte, simprocAttr, hki, eEn_get, hx, eEn, ↓hpk, wrap_i64, bEn, hne]
  · simp only [go_sem, ↓reduceIte, simprocAttr, Int.lt_irrefl]

theorem c93 (f : Nat) (fst cap : List AV) (l : List Ag) (t z : Nat) (hz : l ≠ [] → z = 3) (p : Ag → Bool) (h : Heap) (hl : l.length < 1000000000000000000)
   (hp : ∀ n ∈ l, callAV tabX (EW tabX) false (.clo f fst cap) [eAg n] h = some (.bool (p n), h)) :
   (EW tabX).call 160 [.lst t z (l.map eAg), .clo f fst cap] h = some (.int .i64 (if l.findIdx p < l.length then l.findIdx p else -1), h) := by
  obtain ⟨hb, ht⟩ := h
  rw [w_call _ fn_160 rfl]
  simp only [go_sem, ↓reduceIte, simprocAttr]
  simp only [callAV_clo] at hp
  by_cases hf : l.findIdx p < l.length
  · rw [w_rounds_u (fun k => [(8, .int .i64 k)]) (l.findIdx p) .ret [(4, .int .i64 (l.findIdx p)), (5, .int .i64 (l.findIdx p)), (8, .int .i64 (l.findIdx p))] ?_ ?_ ?_ rfl]
    · simp only [go_sem, ↓reduceIte, simprocAttr, hf]
    · simp only [go_sem, ↓reduceIte, simprocAttr]
    · intro k hk
      have hlt : k < l.length := by omega
      have hki : (k : Int) < l.length := by omega
      have hx := List.getElem?_eq_getElem hlt
      have hpx := hp l[k] (List.getElem_mem _)
      have hpf : p l[k] = false := by simpa using List.not_of_lt_findIdx hk
      have hz1 := hz (by intro e; rw [e] at hlt; simp at hlt)
      subst hz1
      rw [hpf] at hpx
      simp only [eAg] at hpx
      simp (disch := omega) only [go_sem, ↓reduceIte, simprocAttr, hki, hx, eAg, ↓hpx, wrap_i64]
    · have hx := List.getElem?_eq_getElem hf
      have hki : ((l.findIdx p : Nat) : Int) < l.length := by omega
      have hpx := hp l[l.findIdx p] (List.getElem_mem _)
      have hpt : p l[l.findIdx p] = true := List.findIdx_getElem
      have hz1 := hz (by intro e; rw [e] at hf; simp at hf)
      subst hz1
      rw [hpt] at hpx
      simp only [eAg] at hpx
      simp (disch := omega) only [go_sem, ↓reduceIte, simprocAttr, hki, hx, eAg, ↓hpx, wrap_i64]
  · have hn : l.findIdx p = l.length := by have := List.findIdx_le_length (p := p) (xs := l); omega
    rw [w_rounds_u (fun k => [(8, .int .i64 k)]) (l.length) (.exit 0) [(8, .int .i64 l.length)] ?_ ?_ ?_ rfl]
    · simp only [go_sem, ↓reduceIte, simprocAttr, hf]
    · simp only [go_sem, ↓reduceIte, simprocAttr]
    · intro k hk
      have hki : (k : Int) < l.length := by omega
      have hx := List.getElem?_eq_getElem hk
      have hpx := hp l[k] (List.getElem_mem _)
      have hpf : p l[k] = false := by simpa using List.not_of_lt_findIdx (p := p) (xs := l) (i := k) (by omega)
      have hz1 := hz (by intro e; rw [e] at hk; simp at hk)
      subst hz1
      rw [hpf] at hpx
      simp only [eAg] at hpx
      simp (disch := omega) only [go_sem, ↓reduceIte, simprocAttr, hki, hx, eAg, ↓hpx, wrap_i64]
    · simp (disch := omega) only [go_sem, ↓reduceIte, simprocAttr, Int.lt_irrefl]
theorem c55 (f : Nat) (fst cap : List AV) (l : List Ag) (t z : Nat) (hz : l ≠ [] → z = 3) (p : Ag → Bool) (h : Heap) (hl : l.length < 1000000000000000000)
   (hp : ∀ n ∈ l, callAV tabX (EW tabX) false (.clo f fst cap) [eAg n] h = some (.bool (p n), h)) (hc : (AV.clo f fst cap).clean = none) :
   (EW tabX).call 144 [.lst t z (l.map eAg), .clo f fst cap] h = some (.bool (l.any p), h) := by
  have h78 := c93 f fst cap l t z hz p h hl hp
  obtain ⟨hb, ht⟩ := h
  rw [w_call _ fn_144 rfl]
  simp only [go_sem, ↓reduceIte, simprocAttr, hc, h78, ge_iff_le, findIdx_any]
end Go.Proofs.YtiighcpimecehaaGreat.R8
end
section
namespace Go.Proofs.YtiighcpimecehaaGreat.R8
open Go.Proofs

def spE (s : Int × Int) : Int := if out 1 20 s.1 || out 1 20 s.2 then 7 else if s.2 < s.1 then 2 else 0
def agE (l : List Ag) (i : Nat) (a : Ag) : Int := if nameOk a.name then (if (l.take i).any (fun y => y.name == a.name) then 5 else if out 0 20 a.fee || out 0 2 a.round then 7 else 0) else 6
def enE (h : Ho) (x : En) : Int := if out 0 ((h.agents.length : Int) - 1) x.agent || out 0 (h.days - 1) x.day then 4 else if out 0 99 x.near || out (-1) 198 x.far then 7 else 0
def rateE (h : Ho) (i : Nat) : Int := match h.rates[i]? with | some s => spE s | none => 0
def agentE (h : Ho) (i : Nat) : Int := match h.agents[i]? with | some a => agE h.agents i a | none => 0
def entryE (h : Ho) (i : Nat) : Int := match h.entries[i]? with | some x => enE h x | none => 0
def checkH (h : Ho) : Int × Int × Int :=
  if out 1 3 h.days then (1, 0, 7) else if (h.rates.length : Int) ≠ h.days then (2, 0, 3) else
  match firstBad (rateE h) 0 h.rates.length with
  | some i => (2, (i : Int), rateE h i)
  | none =>
    if out 0 20 h.step then (3, 0, 7) else if 3 < h.agents.length then (4, 0, 3) else
    match firstBad (agentE h) 0 h.agents.length with
    | some i => (4, (i : Int), agentE h i)
    | none =>
      if 5 < h.entries.length then (5, 0, 3) else
      match firstBad (entryE h) 0 h.entries.length with
      | some i => (5, (i : Int), entryE h i)
      | none => (0, 0, 0)
theorem atE_clean (e : Nat → Int) (n : Nat) : (atE e n).clean = some (atE e n) := by unfold atE; split <;> simp only [go_sem, ↓reduceIte, simprocAttr]
theorem c51 (k : Int) (s : Int × Int) (h : Heap) : callPure (EW tabX) 141 [.int .i64 k, eSp s] h = some (.int .i64 (spE s), h) := by
  rw [callPure_eq, w_call _ fn_141 rfl]
  cases h1 : out 1 20 s.1 || out 1 20 s.2 with
  | true => simp only [go_sem, ↓reduceIte, simprocAttr, eSp, c49_2, h1, spE]
  | false =>
    by_cases h2 : s.2 < s.1
    · simp only [go_sem, ↓reduceIte, simprocAttr, eSp, c49_2, h1, spE, h2]
    · simp only [go_sem, ↓reduceIte, simprocAttr, eSp, c49_2, h1, spE, h2]
theorem c56 (c : Ag) (b : Nat) (x : ByteArray) (xs : List AV) (h : Heap) (hb : h.b[b]? = some (.cells (.str x :: xs))) :
   (EW tabX).call 145 [eAg c, .ref b 0] h = some (.bool (c.name == x), h) := by
  obtain ⟨B, ht⟩ := h
  have h1 : B[b]? = some (.cells (.str x :: xs)) := hb
  have h2 := old h1
  rw [w_call _ fn_145 rfl]
  simp only [go_sem, ↓reduceIte, simprocAttr, eAg, h1, h2]

structure Ho.fits (h : Ho) : Prop where
  zr : h.rates ≠ [] → h.zr = 2
  za : h.agents ≠ [] → h.za = 3
  ze : h.entries ≠ [] → h.ze = 4
  lr : h.rates.length < 1000000000000000000
  la : h.agents.length < 1000000000000000000
  le : h.entries.length < 1000000000000000000
  na : ∀ a ∈ h.agents, a.name.size < 1000000000000000000

theorem c53 (d : Ho) (hd : d.fits) (r : Nat) (i : Nat) (x : Ag) (hx : d.agents[i]? = some x) (h : Heap) (hr : h.b[r]? = some (.cells (eHc d))) :
   (EW tabX).call 143 [.int .i64 i, eAg x, .ref r 0] h = some (.int .i64 (agE d.agents i x), h) := by
  obtain ⟨B, ht⟩ := h
  have hr : B[r]? = some (.cells (eHc d)) := hr
  simp only [eHc] at hr
  have oR := old hr
  have hi : i < d.agents.length := (List.getElem?_eq_some_iff.1 hx).1
  have hil : i ≤ d.agents.length := by omega
  have hz := hd.za (by intro e; rw [e] at hx; simp at hx)
  have h54 := c54 x.name (hd.na _ (List.mem_of_getElem? hx))
  have hla := hd.la
  have h55 := c55 145 [] [.ref B.length 0] (d.agents.take i) 0 3 (fun _ => rfl) (fun y => y.name == x.name) ⟨B ++ [bAg x], ht⟩ (by rw [List.length_take]; omega) (fun n _ => by
    have := c56 n B.length x.name [.int .i64 x.fee, .int .i64 x.round] ⟨B ++ [bAg x], ht⟩ (by simp [bAg])
    simp only [go_sem, ↓reduceIte, simprocAttr, eAg] at this ⊢
    exact this) (by simp only [go_sem, ↓reduceIte, simprocAttr])
  rw [List.map_take] at h55
  simp only [bAg] at h55
  rw [w_call _ fn_143 rfl]
  cases h1 : nameOk x.name with
  | false => simp only [go_sem, ↓reduceIte, simprocAttr, eAg, oR, h54, h1, agE]
  | true =>
    cases h2 : (d.agents.take i).any (fun y => y.name == x.name) with
    | true => simp only [go_sem, ↓reduceIte, simprocAttr, eAg, oR, h54, h1, h2, h55, hil, hz, agE]
    | false =>
      cases h3 : out 0 20 x.fee with
      | true => simp only [go_sem, ↓reduceIte, simprocAttr, eAg, oR, h54, h1, h2, h55, hil, hz, agE, h3, c49_1]
      | false =>
        cases h4 : out 0 2 x.round with
        | true => simp only [go_sem, ↓reduceIte, simprocAttr, eAg, oR, h54, h1, h2, h55, hil, hz, agE, h3, h4, c49_1]
        | false => simp only [go_sem, ↓reduceIte, simprocAttr, eAg, oR, h54, h1, h2, h55, hil, hz, agE, h3, h4, c49_1]
theorem c58 (d : Ho) (hd : d.fits) (hday : 1 ≤ d.days ∧ d.days ≤ 3) (r : Nat) (i : Nat) (x : En) (h : Heap) (hr : h.b[r]? = some (.cells (eHc d))) :
   (EW tabX).call 147 [.int .i64 i, eEn x, .ref r 0] h = some (.int .i64 (enE d x), h) := by
  obtain ⟨B, ht⟩ := h
  have hr : B[r]? = some (.cells (eHc d)) := hr
  simp only [eHc] at hr
  have oR := old hr
  have hla := hd.la
  rw [w_call _ fn_147 rfl]
  cases h1 : out 0 ((d.agents.length : Int) - 1) x.agent with
  | true => simp (disch := omega) only [go_sem, ↓reduceIte, simprocAttr, eEn, oR, h1, enE, c49_1, wrap_i64]
  | false =>
    cases h2 : out 0 (d.days - 1) x.day with
    | true => simp (disch := omega) only [go_sem, ↓reduceIte, simprocAttr, eEn, oR, h1, h2, enE, c49_1, wrap_i64]
    | false =>
      cases h3 : out 0 99 x.near with
      | true => simp (disch := omega) only [go_sem, ↓reduceIte, simprocAttr, eEn, oR, h1, h2, h3, enE, c49_1, wrap_i64]
      | false =>
        cases h4 : out (-1) 198 x.far with
        | true => simp (disch := omega) only [go_sem, ↓reduceIte, simprocAttr, eEn, oR, h1, h2, h3, h4, enE, c49_1, wrap_i64]
        | false => simp (disch := omega) only [go_sem, ↓reduceIte, simprocAttr, eEn, oR, h1, h2, h3, h4, enE, c49_1, wrap_i64]

theorem c16 (d : Ho) (hd : d.fits) (h : Heap) : callPure (EW tabX) 100 [eH d] h = some (tup3 (checkH d), h) := by
  rw [callPure_eq, w_call _ fn_100 rfl]
  unfold checkH
  cases h1 : out 1 3 d.days with
  | true => simp only [go_sem, ↓reduceIte, simprocAttr, eH, eHc, c49_1, h1, tup3]
  | false =>
    have hday : 1 ≤ d.days ∧ d.days ≤ 3 := by simp [out] at h1; exact ⟨h1.1, h1.2⟩
    by_cases h2 : (d.rates.length : Int) = d.days
    · have h2b : ((d.rates.length : Int) != d.days) = false := by simp [h2]
      have h50 : ∀ h, callPure (EW tabX) 140 [.lst 0 d.zr (d.rates.map eSp), .clo 141 [] []] h = some (atE (rateE d) d.rates.length, h) := fun h => pure_of (c50 141 [] d.rates 0 d.zr hd.zr ⟨[], []⟩ hd.lr (rateE d) (fun k s hx u => by
        have := c51 k s ⟨[] ++ u, []⟩
        simp only [go_sem, ↓reduceIte, simprocAttr, eSp] at this ⊢
        rw [this, rateE, hx])) (atE_clean _ _)
      cases h3 : firstBad (rateE d) 0 d.rates.length with
      | some n =>
        have hne : (rateE d n != 0) = true := by simpa using (firstBad_some h3).2.2.1
        simp only [go_sem, ↓reduceIte, simprocAttr, eH, eHc, c49_1, h1, tup3, h2b, h50, atE, h3, hne, h2, ne_eq, not_true]
      | none =>
        cases h4 : out 0 20 d.step with
        | true => simp only [go_sem, ↓reduceIte, simprocAttr, eH, eHc, c49_1, h1, tup3, h2b, h50, atE, h3, h2, ne_eq, not_true, h4]
        | false =>
          by_cases h5 : 3 < d.agents.length
          · have h5i : (3 : Int) < d.agents.length := by omega
            simp only [go_sem, ↓reduceIte, simprocAttr, eH, eHc, c49_1, h1, tup3, h2b, h50, atE, h3, h2, ne_eq, not_true, h4, h5, h5i]
          · have h5i : ¬ (3 : Int) < d.agents.length := by omega
            have h52 := c52 143 [.ref 0 0] d.agents 0 d.za hd.za ⟨[.cells (eHc d)], []⟩ hd.la (agentE d) (fun k s hx u => by
              have := c53 d hd 0 k s hx ⟨[.cells (eHc d)] ++ u, []⟩ rfl
              simp only [go_sem, ↓reduceIte, simprocAttr, eAg] at this ⊢
              rw [this, agentE, hx])
            simp only [eHc] at h52
            cases h6 : firstBad (agentE d) 0 d.agents.length with
            | some n =>
              have hne : (agentE d n != 0) = true := by simpa using (firstBad_some h6).2.2.1
              simp only [go_sem, ↓reduceIte, simprocAttr, eH, eHc, c49_1, h1, tup3, h2b, h50, atE, h3, h2, ne_eq, not_true, h4, h5, h5i, h52, h6, hne]
            | none =>
              by_cases h7 : 5 < d.entries.length
              · have h7i : (5 : Int) < d.entries.length := by omega
                simp only [go_sem, ↓reduceIte, simprocAttr, eH, eHc, c49_1, h1, tup3, h2b, h50, atE, h3, h2, ne_eq, not_true, h4, h5, h5i, h52, h6, h7, h7i]
              · have h7i : ¬ (5 : Int) < d.entries.length := by omega
                have h57 := c57 147 [.ref 0 0] d.entries 0 d.ze hd.ze ⟨[.cells (eHc d)], []⟩ hd.le (entryE d) (fun k s hx u => by
                  have := c58 d hd hday 0 k s ⟨[.cells (eHc d)] ++ u, []⟩ rfl
                  simp only [go_sem, ↓reduceIte, simprocAttr, eEn] at this ⊢
                  rw [this, entryE, hx])
                simp only [eHc] at h57
                cases h8 : firstBad (entryE d) 0 d.entries.length with
                | some n =>
                  have hne : (entryE d n != 0) = true := by simpa using (firstBad_some h8).2.2.1
                  simp only [go_sem, ↓reduceIte, simprocAttr, eH, eHc, c49_1, h1, tup3, h2b, h50, atE, h3, h2, ne_eq, not_true, h4, h5, h5i, h52, h6, h7, h7i, h57, h8, hne]
                | none => simp only [go_sem, ↓reduceIte, simprocAttr, eH, eHc, c49_1, h1, tup3, h2b, h50, atE, h3, h2, ne_eq, not_true, h4, h5, h5i, h52, h6, h7, h7i, h57, h8, bne_self_eq_false]
    · have h2b : ((d.rates.length : Int) != d.days) = true := by simpa using h2
      simp only [go_sem, ↓reduceIte, simprocAttr, eH, eHc, c49_1, h1, tup3, h2b, h2, ne_eq, not_false_eq_true]
end Go.Proofs.YtiighcpimecehaaGreat.R8
end
section
namespace Go.Proofs.YtiighcpimecehaaGreat
open Go.ChangeShapes Go.WideShapes Go.RowKit Go.Proofs

theorem cz3 : Tryz.prog.cellsOf 3 = 1 := by kernel_rfl
theorem cz4 : Tryz.prog.cellsOf 4 = 1 := by kernel_rfl
theorem cz5 : Tryz.prog.cellsOf 5 = 1 := by kernel_rfl
theorem cz9 : Tryz.prog.cellsOf 9 = 1 := by kernel_rfl
theorem cz33 : Tryz.prog.cellsOf 33 = 1 := by kernel_rfl
theorem cz34 : Tryz.prog.cellsOf 34 = 1 := by kernel_rfl
theorem cz35 : Tryz.prog.cellsOf 35 = 1 := by kernel_rfl
theorem cz36 : Tryz.prog.cellsOf 36 = 1 := by kernel_rfl
theorem cz38 : Tryz.prog.cellsOf 38 = 4 := by kernel_rfl
theorem cz46 : Tryz.prog.cellsOf 46 = 3 := by kernel_rfl
theorem cz48 : Tryz.prog.cellsOf 48 = 5 := by kernel_rfl
theorem cz58 : Tryz.prog.cellsOf 58 = 1 := by kernel_rfl
theorem cz59 : Tryz.prog.cellsOf 59 = 1 := by kernel_rfl
theorem cz60 : Tryz.prog.cellsOf 60 = 1 := by kernel_rfl
theorem cz62 : Tryz.prog.cellsOf 62 = 5 := by kernel_rfl
theorem cz69 : Tryz.prog.cellsOf 69 = 2 := by kernel_rfl
theorem cz77 : Tryz.prog.cellsOf 77 = 3 := by kernel_rfl
theorem cz115 : Tryz.prog.cellsOf 115 = 2 := by kernel_rfl
theorem cz119 : Tryz.prog.cellsOf 119 = 4 := by kernel_rfl
theorem bz9 : Tryz.prog.bytesOf 9 = 16 := by kernel_rfl
theorem bz46 : Tryz.prog.bytesOf 46 = 32 := by kernel_rfl
theorem bz48 : Tryz.prog.bytesOf 48 = 40 := by kernel_rfl
theorem bz69 : Tryz.prog.bytesOf 69 = 16 := by kernel_rfl
theorem bz77 : Tryz.prog.bytesOf 77 = 32 := by kernel_rfl
theorem bz115 : Tryz.prog.bytesOf 115 = 16 := by kernel_rfl
theorem bz119 : Tryz.prog.bytesOf 119 = 32 := by kernel_rfl
structure X5 where
  a : Nat
  b : Nat
  c : Nat
  d : Nat
  e : Nat
def eX5 (x : X5) : AV := .agg [.int .u8 x.a, .int .u8 x.b, .int .u8 x.c, .int .u8 x.d, .int .u8 x.e]
section
variable {H : Type} {enc : TypeId × Value → H} {W : World}
theorem rd_str (n : Nat) (cs : List Value) (d : DataW H) (ps : List MemPlace) (hl : cs.length = 1) (h : DataW.trod enc Tryz.prog W 0 (fun _ => true) true n 9 cs = some (d, ps)) (hw : Light Tryz.prog 9 d) :
    ∃ y : ByteArray, (y.size < 1000000000000000000) ∧ Rv (Ctx.start tabX W) (eSt y) (eVal false cs) ∧ (eVal false cs).cells = cs.toArray := by
  obtain ⟨s, e0, ex, _⟩ := DataW.trod_string Tryz.underlying9 h
  subst e0
  have hb : s.size ≤ reachBytes := by
    have := hw s.data.toList.length (by rw [(Prod.mk.inj ex).1]; simp [DataW.weights])
    rw [Array.length_toList] at this; exact this
  have := reachBytes_lt
  exact ⟨s, by omega, .str s, rfl⟩
set_option maxRecDepth 100000 in
theorem rd_su (n : Nat) (cs : List Value) (d : DataW H) (ps : List MemPlace) (hl : cs.length = 3) (h : DataW.trod enc Tryz.prog W 0 (fun _ => true) true n 46 cs = some (d, ps)) (hw : Light Tryz.prog 46 d) :
    ∃ y : Su, (y.name.size < 1000000000000000000) ∧ Rv (Ctx.start tabX W) (eSu y) (eVal true cs) ∧ (eVal true cs).cells = cs.toArray := by
  obtain ⟨xs, m, rfl, hx, _, hlen, hf⟩ := DataW.trod_struct Tryz.underlying46 h
  simp only [Prod.mk.injEq] at hx
  obtain ⟨rfl, _⟩ := hx
  obtain ⟨c0, c1, c2, rfl⟩ : ∃ c0 c1 c2, cs = [c0, c1, c2] := by
    match cs, hl with
    | [c0, c1, c2], _ => exact ⟨c0, c1, c2, rfl⟩
  have l0 : xs.length = 3 := by rw [hlen]; rfl
  have g0 : DataW.trod enc Tryz.prog W 0 (fun _ => true) true m 9 ((([c0, c1, c2] : List Value).drop 0).take (Tryz.prog.cellsOf 9)) = xs[0]? := hf 0 _ rfl
  have g1 : DataW.trod enc Tryz.prog W 0 (fun _ => true) true m 3 ((([c0, c1, c2] : List Value).drop 1).take (Tryz.prog.cellsOf 3)) = xs[1]? := hf 1 _ rfl
  have g2 : DataW.trod enc Tryz.prog W 0 (fun _ => true) true m 3 ((([c0, c1, c2] : List Value).drop 2).take (Tryz.prog.cellsOf 3)) = xs[2]? := hf 2 _ rfl
  rw [cz9, List.getElem?_eq_getElem (by omega)] at g0
  rw [cz3, List.getElem?_eq_getElem (by omega)] at g1
  rw [cz3, List.getElem?_eq_getElem (by omega)] at g2
  simp only [List.drop_zero, List.take_succ_cons, List.take_zero, List.drop_succ_cons] at g0 g1 g2
  have w0 : Light Tryz.prog 9 xs[0].1 := light_struct Tryz.underlying46 hw (i := 0) rfl (d := xs[0].1) (by simp [l0])
  obtain ⟨n0, e0, ex0, _⟩ := DataW.trod_string Tryz.underlying9 g0
  simp only [List.cons.injEq, and_true] at e0
  subst e0
  have hb0 : n0.size ≤ reachBytes := by
    have := w0 n0.data.toList.length (by rw [ex0]; simp [DataW.weights])
    rw [Array.length_toList] at this; exact this
  obtain ⟨n1, e1, _, b1⟩ := DataW.trod_int Tryz.underlying3 g1
  simp only [List.cons.injEq, and_true] at e1
  subst e1
  obtain ⟨n2, e2, _, b2⟩ := DataW.trod_int Tryz.underlying3 g2
  simp only [List.cons.injEq, and_true] at e2
  subst e2
  have := reachBytes_lt
  refine ⟨⟨n0, n1, n2⟩, by show n0.size < _; omega, ?_, rfl⟩
  refine .agg _ [.string n0, .int .i64 n1, .int .i64 n2] rfl fun i x hx => ?_
  match i, hx with
  | 0, hx => obtain rfl : AV.str n0 = x := Option.some.inj hx; exact .str _
  | 1, hx => obtain rfl : AV.int .i64 n1 = x := Option.some.inj hx; exact .int _ _
  | 2, hx => obtain rfl : AV.int .i64 n2 = x := Option.some.inj hx; exact .int _ _
set_option maxRecDepth 100000 in
theorem rd_wo (n : Nat) (cs : List Value) (d : DataW H) (ps : List MemPlace) (hl : cs.length = 5) (h : DataW.trod enc Tryz.prog W 0 (fun _ => true) true n 48 cs = some (d, ps)) (hw : Light Tryz.prog 48 d) :
    ∃ y : Wo, (True) ∧ Rv (Ctx.start tabX W) (eWo y) (eVal true cs) ∧ (eVal true cs).cells = cs.toArray := by
  obtain ⟨xs, m, rfl, hx, _, hlen, hf⟩ := DataW.trod_struct Tryz.underlying48 h
  simp only [Prod.mk.injEq] at hx
  obtain ⟨rfl, _⟩ := hx
  obtain ⟨c0, c1, c2, c3, c4, rfl⟩ : ∃ c0 c1 c2 c3 c4, cs = [c0, c1, c2, c3, c4] := by
    match cs, hl with
    | [c0, c1, c2, c3, c4], _ => exact ⟨c0, c1, c2, c3, c4, rfl⟩
  have l0 : xs.length = 5 := by rw [hlen]; rfl
  have g0 : DataW.trod enc Tryz.prog W 0 (fun _ => true) true m 3 ((([c0, c1, c2, c3, c4] : List Value).drop 0).take (Tryz.prog.cellsOf 3)) = xs[0]? := hf 0 _ rfl
  have g1 : DataW.trod enc Tryz.prog W 0 (fun _ => true) true m 3 ((([c0, c1, c2, c3, c4] : List Value).drop 1).take (Tryz.prog.cellsOf 3)) = xs[1]? := hf 1 _ rfl
  have g2 : DataW.trod enc Tryz.prog W 0 (fun _ => true) true m 3 ((([c0, c1, c2, c3, c4] : List Value).drop 2).take (Tryz.prog.cellsOf 3)) = xs[2]? := hf 2 _ rfl
  have g3 : DataW.trod enc Tryz.prog W 0 (fun _ => true) true m 3 ((([c0, c1, c2, c3, c4] : List Value).drop 3).take (Tryz.prog.cellsOf 3)) = xs[3]? := hf 3 _ rfl
  have g4 : DataW.trod enc Tryz.prog W 0 (fun _ => true) true m 4 ((([c0, c1, c2, c3, c4] : List Value).drop 4).take (Tryz.prog.cellsOf 4)) = xs[4]? := hf 4 _ rfl
  rw [cz3, List.getElem?_eq_getElem (by omega)] at g0
  rw [cz3, List.getElem?_eq_getElem (by omega)] at g1
  rw [cz3, List.getElem?_eq_getElem (by omega)] at g2
  rw [cz3, List.getElem?_eq_getElem (by omega)] at g3
  rw [cz4, List.getElem?_eq_getElem (by omega)] at g4
  simp only [List.drop_zero, List.take_succ_cons, List.take_zero, List.drop_succ_cons] at g0 g1 g2 g3 g4
  obtain ⟨n0, e0, _, b0⟩ := DataW.trod_int Tryz.underlying3 g0
  simp only [List.cons.injEq, and_true] at e0
  subst e0
  obtain ⟨n1, e1, _, b1⟩ := DataW.trod_int Tryz.underlying3 g1
  simp only [List.cons.injEq, and_true] at e1
  subst e1
  obtain ⟨n2, e2, _, b2⟩ := DataW.trod_int Tryz.underlying3 g2
  simp only [List.cons.injEq, and_true] at e2
  subst e2
  obtain ⟨n3, e3, _, b3⟩ := DataW.trod_int Tryz.underlying3 g3
  simp only [List.cons.injEq, and_true] at e3
  subst e3
  obtain ⟨n4, e4, _⟩ := DataW.trod_bool Tryz.underlying4 g4
  simp only [List.cons.injEq, and_true] at e4
  subst e4
  have := reachBytes_lt
  refine ⟨⟨n0, n1, n2, n3, n4⟩, trivial, ?_, rfl⟩
  refine .agg _ [.int .i64 n0, .int .i64 n1, .int .i64 n2, .int .i64 n3, .bool n4] rfl fun i x hx => ?_
  match i, hx with
  | 0, hx => obtain rfl : AV.int .i64 n0 = x := Option.some.inj hx; exact .int _ _
  | 1, hx => obtain rfl : AV.int .i64 n1 = x := Option.some.inj hx; exact .int _ _
  | 2, hx => obtain rfl : AV.int .i64 n2 = x := Option.some.inj hx; exact .int _ _
  | 3, hx => obtain rfl : AV.int .i64 n3 = x := Option.some.inj hx; exact .int _ _
  | 4, hx => obtain rfl : AV.bool n4 = x := Option.some.inj hx; exact .bool _
set_option maxRecDepth 100000 in
theorem rd_pd (n : Nat) (cs : List Value) (d : DataW H) (ps : List MemPlace) (hl : cs.length = 2) (h : DataW.trod enc Tryz.prog W 0 (fun _ => true) true n 115 cs = some (d, ps)) (hw : Light Tryz.prog 115 d) :
    ∃ y : Pd, (True) ∧ Rv (Ctx.start tabX W) (ePd y) (eVal true cs) ∧ (eVal true cs).cells = cs.toArray := by
  obtain ⟨xs, m, rfl, hx, _, hlen, hf⟩ := DataW.trod_struct Tryz.underlying115 h
  simp only [Prod.mk.injEq] at hx
  obtain ⟨rfl, _⟩ := hx
  obtain ⟨c0, c1, rfl⟩ : ∃ c0 c1, cs = [c0, c1] := by
    match cs, hl with
    | [c0, c1], _ => exact ⟨c0, c1, rfl⟩
  have l0 : xs.length = 2 := by rw [hlen]; rfl
  have g0 : DataW.trod enc Tryz.prog W 0 (fun _ => true) true m 3 ((([c0, c1] : List Value).drop 0).take (Tryz.prog.cellsOf 3)) = xs[0]? := hf 0 _ rfl
  have g1 : DataW.trod enc Tryz.prog W 0 (fun _ => true) true m 3 ((([c0, c1] : List Value).drop 1).take (Tryz.prog.cellsOf 3)) = xs[1]? := hf 1 _ rfl
  rw [cz3, List.getElem?_eq_getElem (by omega)] at g0
  rw [cz3, List.getElem?_eq_getElem (by omega)] at g1
  simp only [List.drop_zero, List.take_succ_cons, List.take_zero, List.drop_succ_cons] at g0 g1
  obtain ⟨n0, e0, _, b0⟩ := DataW.trod_int Tryz.underlying3 g0
  simp only [List.cons.injEq, and_true] at e0
  subst e0
  obtain ⟨n1, e1, _, b1⟩ := DataW.trod_int Tryz.underlying3 g1
  simp only [List.cons.injEq, and_true] at e1
  subst e1
  have := reachBytes_lt
  refine ⟨⟨n0, n1⟩, trivial, ?_, rfl⟩
  refine .agg _ [.int .i64 n0, .int .i64 n1] rfl fun i x hx => ?_
  match i, hx with
  | 0, hx => obtain rfl : AV.int .i64 n0 = x := Option.some.inj hx; exact .int _ _
  | 1, hx => obtain rfl : AV.int .i64 n1 = x := Option.some.inj hx; exact .int _ _
set_option maxRecDepth 100000 in
theorem rd_sp (n : Nat) (cs : List Value) (d : DataW H) (ps : List MemPlace) (hl : cs.length = 2) (h : DataW.trod enc Tryz.prog W 0 (fun _ => true) true n 69 cs = some (d, ps)) (hw : Light Tryz.prog 69 d) :
    ∃ y : Int × Int, (True) ∧ Rv (Ctx.start tabX W) (R8.eSp y) (eVal true cs) ∧ (eVal true cs).cells = cs.toArray := by
  obtain ⟨xs, m, rfl, hx, _, hlen, hf⟩ := DataW.trod_struct Tryz.underlying69 h
  simp only [Prod.mk.injEq] at hx
  obtain ⟨rfl, _⟩ := hx
  obtain ⟨c0, c1, rfl⟩ : ∃ c0 c1, cs = [c0, c1] := by
    match cs, hl with
    | [c0, c1], _ => exact ⟨c0, c1, rfl⟩
  have l0 : xs.length = 2 := by rw [hlen]; rfl
  have g0 : DataW.trod enc Tryz.prog W 0 (fun _ => true) true m 3 ((([c0, c1] : List Value).drop 0).take (Tryz.prog.cellsOf 3)) = xs[0]? := hf 0 _ rfl
  have g1 : DataW.trod enc Tryz.prog W 0 (fun _ => true) true m 3 ((([c0, c1] : List Value).drop 1).take (Tryz.prog.cellsOf 3)) = xs[1]? := hf 1 _ rfl
  rw [cz3, List.getElem?_eq_getElem (by omega)] at g0
  rw [cz3, List.getElem?_eq_getElem (by omega)] at g1
  simp only [List.drop_zero, List.take_succ_cons, List.take_zero, List.drop_succ_cons] at g0 g1
  obtain ⟨n0, e0, _, b0⟩ := DataW.trod_int Tryz.underlying3 g0
  simp only [List.cons.injEq, and_true] at e0
  subst e0
  obtain ⟨n1, e1, _, b1⟩ := DataW.trod_int Tryz.underlying3 g1
  simp only [List.cons.injEq, and_true] at e1
  subst e1
  have := reachBytes_lt
  refine ⟨(n0, n1), trivial, ?_, rfl⟩
  refine .agg _ [.int .i64 n0, .int .i64 n1] rfl fun i x hx => ?_
  match i, hx with
  | 0, hx => obtain rfl : AV.int .i64 n0 = x := Option.some.inj hx; exact .int _ _
  | 1, hx => obtain rfl : AV.int .i64 n1 = x := Option.some.inj hx; exact .int _ _
set_option maxRecDepth 100000 in
theorem rd_ag (n : Nat) (cs : List Value) (d : DataW H) (ps : List MemPlace) (hl : cs.length = 3) (h : DataW.trod enc Tryz.prog W 0 (fun _ => true) true n 77 cs = some (d, ps)) (hw : Light Tryz.prog 77 d) :
    ∃ y : R8.Ag, (y.name.size < 1000000000000000000) ∧ Rv (Ctx.start tabX W) (R8.eAg y) (eVal true cs) ∧ (eVal true cs).cells = cs.toArray := by
  obtain ⟨xs, m, rfl, hx, _, hlen, hf⟩ := DataW.trod_struct Tryz.underlying77 h
  simp only [Prod.mk.injEq] at hx
  obtain ⟨rfl, _⟩ := hx
  obtain ⟨c0, c1, c2, rfl⟩ : ∃ c0 c1 c2, cs = [c0, c1, c2] := by
    match cs, hl with
    | [c0, c1, c2], _ => exact ⟨c0, c1, c2, rfl⟩
  have l0 : xs.length = 3 := by rw [hlen]; rfl
  have g0 : DataW.trod enc Tryz.prog W 0 (fun _ => true) true m 9 ((([c0, c1, c2] : List Value).drop 0).take (Tryz.prog.cellsOf 9)) = xs[0]? := hf 0 _ rfl
  have g1 : DataW.trod enc Tryz.prog W 0 (fun _ => true) true m 3 ((([c0, c1, c2] : List Value).drop 1).take (Tryz.prog.cellsOf 3)) = xs[1]? := hf 1 _ rfl
  have g2 : DataW.trod enc Tryz.prog W 0 (fun _ => true) true m 3 ((([c0, c1, c2] : List Value).drop 2).take (Tryz.prog.cellsOf 3)) = xs[2]? := hf 2 _ rfl
  rw [cz9, List.getElem?_eq_getElem (by omega)] at g0
  rw [cz3, List.getElem?_eq_getElem (by omega)] at g1
  rw [cz3, List.getElem?_eq_getElem (by omega)] at g2
  simp only [List.drop_zero, List.take_succ_cons, List.take_zero, List.drop_succ_cons] at g0 g1 g2
  have w0 : Light Tryz.prog 9 xs[0].1 := light_struct Tryz.underlying77 hw (i := 0) rfl (d := xs[0].1) (by simp [l0])
  obtain ⟨n0, e0, ex0, _⟩ := DataW.trod_string Tryz.underlying9 g0
  simp only [List.cons.injEq, and_true] at e0
  subst e0
  have hb0 : n0.size ≤ reachBytes := by
    have := w0 n0.data.toList.length (by rw [ex0]; simp [DataW.weights])
    rw [Array.length_toList] at this; exact this
  obtain ⟨n1, e1, _, b1⟩ := DataW.trod_int Tryz.underlying3 g1
  simp only [List.cons.injEq, and_true] at e1
  subst e1
  obtain ⟨n2, e2, _, b2⟩ := DataW.trod_int Tryz.underlying3 g2
  simp only [List.cons.injEq, and_true] at e2
  subst e2
  have := reachBytes_lt
  refine ⟨⟨n0, n1, n2⟩, by show n0.size < _; omega, ?_, rfl⟩
  refine .agg _ [.string n0, .int .i64 n1, .int .i64 n2] rfl fun i x hx => ?_
  match i, hx with
  | 0, hx => obtain rfl : AV.str n0 = x := Option.some.inj hx; exact .str _
  | 1, hx => obtain rfl : AV.int .i64 n1 = x := Option.some.inj hx; exact .int _ _
  | 2, hx => obtain rfl : AV.int .i64 n2 = x := Option.some.inj hx; exact .int _ _
set_option maxRecDepth 100000 in
theorem rd_eny (n : Nat) (cs : List Value) (d : DataW H) (ps : List MemPlace) (hl : cs.length = 4) (h : DataW.trod enc Tryz.prog W 0 (fun _ => true) true n 119 cs = some (d, ps)) (hw : Light Tryz.prog 119 d) :
    ∃ y : R8.En, (True) ∧ Rv (Ctx.start tabX W) (R8.eEn y) (eVal true cs) ∧ (eVal true cs).cells = cs.toArray := by
  obtain ⟨xs, m, rfl, hx, _, hlen, hf⟩ := DataW.trod_struct Tryz.underlying119 h
  simp only [Prod.mk.injEq] at hx
  obtain ⟨rfl, _⟩ := hx
  obtain ⟨c0, c1, c2, c3, rfl⟩ : ∃ c0 c1 c2 c3, cs = [c0, c1, c2, c3] := by
    match cs, hl with
    | [c0, c1, c2, c3], _ => exact ⟨c0, c1, c2, c3, rfl⟩
  have l0 : xs.length = 4 := by rw [hlen]; rfl
  have g0 : DataW.trod enc Tryz.prog W 0 (fun _ => true) true m 3 ((([c0, c1, c2, c3] : List Value).drop 0).take (Tryz.prog.cellsOf 3)) = xs[0]? := hf 0 _ rfl
  have g1 : DataW.trod enc Tryz.prog W 0 (fun _ => true) true m 3 ((([c0, c1, c2, c3] : List Value).drop 1).take (Tryz.prog.cellsOf 3)) = xs[1]? := hf 1 _ rfl
  have g2 : DataW.trod enc Tryz.prog W 0 (fun _ => true) true m 3 ((([c0, c1, c2, c3] : List Value).drop 2).take (Tryz.prog.cellsOf 3)) = xs[2]? := hf 2 _ rfl
  have g3 : DataW.trod enc Tryz.prog W 0 (fun _ => true) true m 3 ((([c0, c1, c2, c3] : List Value).drop 3).take (Tryz.prog.cellsOf 3)) = xs[3]? := hf 3 _ rfl
  rw [cz3, List.getElem?_eq_getElem (by omega)] at g0
  rw [cz3, List.getElem?_eq_getElem (by omega)] at g1
  rw [cz3, List.getElem?_eq_getElem (by omega)] at g2
  rw [cz3, List.getElem?_eq_getElem (by omega)] at g3
  simp only [List.drop_zero, List.take_succ_cons, List.take_zero, List.drop_succ_cons] at g0 g1 g2 g3
  obtain ⟨n0, e0, _, b0⟩ := DataW.trod_int Tryz.underlying3 g0
  simp only [List.cons.injEq, and_true] at e0
  subst e0
  obtain ⟨n1, e1, _, b1⟩ := DataW.trod_int Tryz.underlying3 g1
  simp only [List.cons.injEq, and_true] at e1
  subst e1
  obtain ⟨n2, e2, _, b2⟩ := DataW.trod_int Tryz.underlying3 g2
  simp only [List.cons.injEq, and_true] at e2
  subst e2
  obtain ⟨n3, e3, _, b3⟩ := DataW.trod_int Tryz.underlying3 g3
  simp only [List.cons.injEq, and_true] at e3
  subst e3
  have := reachBytes_lt
  refine ⟨⟨n0, n1, n2, n3⟩, trivial, ?_, rfl⟩
  refine .agg _ [.int .i64 n0, .int .i64 n1, .int .i64 n2, .int .i64 n3] rfl fun i x hx => ?_
  match i, hx with
  | 0, hx => obtain rfl : AV.int .i64 n0 = x := Option.some.inj hx; exact .int _ _
  | 1, hx => obtain rfl : AV.int .i64 n1 = x := Option.some.inj hx; exact .int _ _
  | 2, hx => obtain rfl : AV.int .i64 n2 = x := Option.some.inj hx; exact .int _ _
  | 3, hx => obtain rfl : AV.int .i64 n3 = x := Option.some.inj hx; exact .int _ _
set_option maxRecDepth 100000 in
theorem rd_mo {v : Value} {d : DataW H} {ps : List MemPlace} {b0 : Nat} (hv : Value.okWide Tryz.prog W .any b0 38 v) (h : DataW.Trod enc Tryz.prog W 0 (fun _ => true) true 38 v d ps) (hw : Light Tryz.prog 38 d) :
    ∃ y : Mo, y.fits ∧ Rv (Ctx.start tabX W) (eM y) v := by
  obtain ⟨cs, rfl, hsz⟩ := okWide_struct Tryz.underlying38 hv
  rw [cz38] at hsz
  obtain ⟨n, hn⟩ := h
  obtain ⟨xs, m, rfl, hx, _, hlen, hf⟩ := DataW.trod_struct Tryz.underlying38 hn
  simp only [Prod.mk.injEq] at hx
  obtain ⟨rfl, _⟩ := hx
  simp only [Value.cells] at hf
  obtain ⟨c0, c1, c2, c3, rfl⟩ : ∃ c0 c1 c2 c3, cs = #[c0, c1, c2, c3] := by
    obtain ⟨l⟩ := cs
    match l, hsz with
    | [c0, c1, c2, c3], _ => exact ⟨c0, c1, c2, c3, rfl⟩
  have l0 : xs.length = 4 := by rw [hlen]; rfl
  have g0 : DataW.trod enc Tryz.prog W 0 (fun _ => true) true m 33 ((([c0, c1, c2, c3] : List Value).drop 0).take (Tryz.prog.cellsOf 33)) = xs[0]? := hf 0 _ rfl
  have w0 : Light Tryz.prog 33 xs[0].1 := light_struct Tryz.underlying38 hw (i := 0) rfl (d := xs[0].1) (by simp [l0])
  rw [cz33, List.getElem?_eq_getElem (by omega)] at g0
  have g1 : DataW.trod enc Tryz.prog W 0 (fun _ => true) true m 34 ((([c0, c1, c2, c3] : List Value).drop 1).take (Tryz.prog.cellsOf 34)) = xs[1]? := hf 1 _ rfl
  have w1 : Light Tryz.prog 34 xs[1].1 := light_struct Tryz.underlying38 hw (i := 1) rfl (d := xs[1].1) (by simp [l0])
  rw [cz34, List.getElem?_eq_getElem (by omega)] at g1
  have g2 : DataW.trod enc Tryz.prog W 0 (fun _ => true) true m 35 ((([c0, c1, c2, c3] : List Value).drop 2).take (Tryz.prog.cellsOf 35)) = xs[2]? := hf 2 _ rfl
  have w2 : Light Tryz.prog 35 xs[2].1 := light_struct Tryz.underlying38 hw (i := 2) rfl (d := xs[2].1) (by simp [l0])
  rw [cz35, List.getElem?_eq_getElem (by omega)] at g2
  have g3 : DataW.trod enc Tryz.prog W 0 (fun _ => true) true m 36 ((([c0, c1, c2, c3] : List Value).drop 3).take (Tryz.prog.cellsOf 36)) = xs[3]? := hf 3 _ rfl
  have w3 : Light Tryz.prog 36 xs[3].1 := light_struct Tryz.underlying38 hw (i := 3) rfl (d := xs[3].1) (by simp [l0])
  rw [cz36, List.getElem?_eq_getElem (by omega)] at g3
  simp only [List.drop_zero, List.take_succ_cons, List.take_zero, List.drop_succ_cons] at g0 g1 g2 g3
  obtain ⟨l0', z0', v0, e0, r0, z0, b0, q0⟩ := rd_slice (X := tabX) eSt (fun y => y.size < 1000000000000000000) false 1 cz9 (by omega) (.inr rfl) Tryz.underlying33 rd_str (ps := xs[0].2) g0 w0
  simp only [List.cons.injEq, and_true] at e0
  subst e0
  rw [bz9] at b0
  obtain ⟨l1', z1', v1, e1, r1, z1, b1, q1⟩ := rd_slice (X := tabX) eSu (fun y => y.name.size < 1000000000000000000) true 3 cz46 (by omega) (.inl rfl) Tryz.underlying34 rd_su (ps := xs[1].2) g1 w1
  simp only [List.cons.injEq, and_true] at e1
  subst e1
  rw [bz46] at b1
  obtain ⟨l2', z2', v2, e2, r2, z2, b2, q2⟩ := rd_slice (X := tabX) eWo (fun y => True) true 5 cz48 (by omega) (.inl rfl) Tryz.underlying35 rd_wo (ps := xs[2].2) g2 w2
  simp only [List.cons.injEq, and_true] at e2
  subst e2
  rw [bz48] at b2
  obtain ⟨l3', z3', v3, e3, r3, z3, b3, q3⟩ := rd_slice (X := tabX) ePd (fun y => True) true 2 cz115 (by omega) (.inl rfl) Tryz.underlying36 rd_pd (ps := xs[3].2) g3 w3
  simp only [List.cons.injEq, and_true] at e3
  subst e3
  rw [bz115] at b3
  have := reachBytes_lt
  refine ⟨{ who := l0', sums := l1', words := l2', paid := l3', zw := 1, zs := 3, zo := 5, zp := 2 }, ⟨fun _ => rfl, fun _ => rfl, fun _ => rfl, fun _ => rfl, by simp only; omega, by simp only; omega, by simp only; omega, by simp only; omega, q0, q1⟩, ?_⟩
  refine .agg _ [_, _, _, _] rfl fun i x hx => ?_
  match i, hx with
  | 0, hx => obtain rfl : AV.lst 0 1 (l0'.map eSt) = x := Option.some.inj hx; exact rv_sz r0 z0
  | 1, hx => obtain rfl : AV.lst 0 3 (l1'.map eSu) = x := Option.some.inj hx; exact rv_sz r1 z1
  | 2, hx => obtain rfl : AV.lst 0 5 (l2'.map eWo) = x := Option.some.inj hx; exact rv_sz r2 z2
  | 3, hx => obtain rfl : AV.lst 0 2 (l3'.map ePd) = x := Option.some.inj hx; exact rv_sz r3 z3
set_option maxRecDepth 100000 in
theorem rd_hoy {v : Value} {d : DataW H} {ps : List MemPlace} {b0 : Nat} (hv : Value.okWide Tryz.prog W .any b0 62 v) (h : DataW.Trod enc Tryz.prog W 0 (fun _ => true) true 62 v d ps) (hw : Light Tryz.prog 62 d) :
    ∃ y : R8.Ho, y.fits ∧ Rv (Ctx.start tabX W) (R8.eH y) v := by
  obtain ⟨cs, rfl, hsz⟩ := okWide_struct Tryz.underlying62 hv
  rw [cz62] at hsz
  obtain ⟨n, hn⟩ := h
  obtain ⟨xs, m, rfl, hx, _, hlen, hf⟩ := DataW.trod_struct Tryz.underlying62 hn
  simp only [Prod.mk.injEq] at hx
  obtain ⟨rfl, _⟩ := hx
  simp only [Value.cells] at hf
  obtain ⟨c0, c1, c2, c3, c4, rfl⟩ : ∃ c0 c1 c2 c3 c4, cs = #[c0, c1, c2, c3, c4] := by
    obtain ⟨l⟩ := cs
    match l, hsz with
    | [c0, c1, c2, c3, c4], _ => exact ⟨c0, c1, c2, c3, c4, rfl⟩
  have l0 : xs.length = 5 := by rw [hlen]; rfl
  have g0 : DataW.trod enc Tryz.prog W 0 (fun _ => true) true m 3 ((([c0, c1, c2, c3, c4] : List Value).drop 0).take (Tryz.prog.cellsOf 3)) = xs[0]? := hf 0 _ rfl
  rw [cz3, List.getElem?_eq_getElem (by omega)] at g0
  have g1 : DataW.trod enc Tryz.prog W 0 (fun _ => true) true m 58 ((([c0, c1, c2, c3, c4] : List Value).drop 1).take (Tryz.prog.cellsOf 58)) = xs[1]? := hf 1 _ rfl
  have w1 : Light Tryz.prog 58 xs[1].1 := light_struct Tryz.underlying62 hw (i := 1) rfl (d := xs[1].1) (by simp [l0])
  rw [cz58, List.getElem?_eq_getElem (by omega)] at g1
  have g2 : DataW.trod enc Tryz.prog W 0 (fun _ => true) true m 3 ((([c0, c1, c2, c3, c4] : List Value).drop 2).take (Tryz.prog.cellsOf 3)) = xs[2]? := hf 2 _ rfl
  rw [cz3, List.getElem?_eq_getElem (by omega)] at g2
  have g3 : DataW.trod enc Tryz.prog W 0 (fun _ => true) true m 59 ((([c0, c1, c2, c3, c4] : List Value).drop 3).take (Tryz.prog.cellsOf 59)) = xs[3]? := hf 3 _ rfl
  have w3 : Light Tryz.prog 59 xs[3].1 := light_struct Tryz.underlying62 hw (i := 3) rfl (d := xs[3].1) (by simp [l0])
  rw [cz59, List.getElem?_eq_getElem (by omega)] at g3
  have g4 : DataW.trod enc Tryz.prog W 0 (fun _ => true) true m 60 ((([c0, c1, c2, c3, c4] : List Value).drop 4).take (Tryz.prog.cellsOf 60)) = xs[4]? := hf 4 _ rfl
  have w4 : Light Tryz.prog 60 xs[4].1 := light_struct Tryz.underlying62 hw (i := 4) rfl (d := xs[4].1) (by simp [l0])
  rw [cz60, List.getElem?_eq_getElem (by omega)] at g4
  simp only [List.drop_zero, List.take_succ_cons, List.take_zero, List.drop_succ_cons] at g0 g1 g2 g3 g4
  obtain ⟨n0, e0, _, _⟩ := DataW.trod_int Tryz.underlying3 g0
  simp only [List.cons.injEq, and_true] at e0
  subst e0
  obtain ⟨l1', z1', v1, e1, r1, z1, b1, q1⟩ := rd_slice (X := tabX) R8.eSp (fun y => True) true 2 cz69 (by omega) (.inl rfl) Tryz.underlying58 rd_sp (ps := xs[1].2) g1 w1
  simp only [List.cons.injEq, and_true] at e1
  subst e1
  rw [bz69] at b1
  obtain ⟨n2, e2, _, _⟩ := DataW.trod_int Tryz.underlying3 g2
  simp only [List.cons.injEq, and_true] at e2
  subst e2
  obtain ⟨l3', z3', v3, e3, r3, z3, b3, q3⟩ := rd_slice (X := tabX) R8.eAg (fun y => y.name.size < 1000000000000000000) true 3 cz77 (by omega) (.inl rfl) Tryz.underlying59 rd_ag (ps := xs[3].2) g3 w3
  simp only [List.cons.injEq, and_true] at e3
  subst e3
  rw [bz77] at b3
  obtain ⟨l4', z4', v4, e4, r4, z4, b4, q4⟩ := rd_slice (X := tabX) R8.eEn (fun y => True) true 4 cz119 (by omega) (.inl rfl) Tryz.underlying60 rd_eny (ps := xs[4].2) g4 w4
  simp only [List.cons.injEq, and_true] at e4
  subst e4
  rw [bz119] at b4
  have := reachBytes_lt
  refine ⟨⟨n0, l1', n2, l3', l4', 2, 3, 4⟩, ⟨fun _ => rfl, fun _ => rfl, fun _ => rfl, by simp only; omega, by simp only; omega, by simp only; omega, q3⟩, ?_⟩
  refine .agg _ [.int .i64 n0, _, .int .i64 n2, _, _] rfl fun i x hx => ?_
  match i, hx with
  | 0, hx => obtain rfl : AV.int .i64 n0 = x := Option.some.inj hx; exact .int _ _
  | 1, hx => obtain rfl : AV.lst 0 2 (l1'.map R8.eSp) = x := Option.some.inj hx; exact rv_sz r1 z1
  | 2, hx => obtain rfl : AV.int .i64 n2 = x := Option.some.inj hx; exact .int _ _
  | 3, hx => obtain rfl : AV.lst 0 3 (l3'.map R8.eAg) = x := Option.some.inj hx; exact rv_sz r3 z3
  | 4, hx => obtain rfl : AV.lst 0 4 (l4'.map R8.eEn) = x := Option.some.inj hx; exact rv_sz r4 z4
set_option maxRecDepth 100000 in
theorem rd_x5 {v : Value} {d : DataW H} {ps : List MemPlace} {b0 : Nat} (hv : Value.okWide Tryz.prog W .any b0 63 v) (h : DataW.Trod enc Tryz.prog W 0 (fun _ => true) true 63 v d ps) (_ : Light Tryz.prog 63 d) :
    ∃ y : X5, (y.a < 256 ∧ y.b < 256 ∧ y.c < 256 ∧ y.d < 256 ∧ y.e < 256) ∧ Rv (Ctx.start tabX W) (eX5 y) v := by
  obtain ⟨cs, rfl, hsz⟩ : ∃ cs, v = .agg cs ∧ cs.size = Tryz.prog.cellsOf 63 := by
    simp only [Value.okWide, Tryz.underlying63] at hv
    obtain ⟨cs, h1, h2, _⟩ := hv
    exact ⟨cs, h1, h2⟩
  rw [show Tryz.prog.cellsOf 63 = 5 by kernel_rfl] at hsz
  obtain ⟨n, hn⟩ := h
  obtain ⟨xs, m, rfl, hx, _, hlen, hf⟩ := DataW.trod_array Tryz.underlying63 hn
  simp only [Value.cells] at hf
  obtain ⟨c0, c1, c2, c3, c4, rfl⟩ : ∃ c0 c1 c2 c3 c4, cs = #[c0, c1, c2, c3, c4] := by
    obtain ⟨l⟩ := cs
    match l, hsz with
    | [c0, c1, c2, c3, c4], _ => exact ⟨c0, c1, c2, c3, c4, rfl⟩
  have g0 := hf 0 (by omega)
  have g1 := hf 1 (by omega)
  have g2 := hf 2 (by omega)
  have g3 := hf 3 (by omega)
  have g4 := hf 4 (by omega)
  rw [cz5] at g0 g1 g2 g3 g4
  rw [List.getElem?_eq_getElem (by omega)] at g0
  rw [List.getElem?_eq_getElem (by omega)] at g1
  rw [List.getElem?_eq_getElem (by omega)] at g2
  rw [List.getElem?_eq_getElem (by omega)] at g3
  rw [List.getElem?_eq_getElem (by omega)] at g4
  simp only [Nat.zero_mul, Nat.one_mul, Nat.mul_one, List.drop_zero, List.take_succ_cons, List.take_zero, List.drop_succ_cons] at g0 g1 g2 g3 g4
  obtain ⟨n0, e0, _, b0⟩ := DataW.trod_int Tryz.underlying5 g0
  simp only [List.cons.injEq, and_true] at e0
  subst e0
  have b0 := bounds_u8 b0
  obtain ⟨k0, rfl⟩ := Int.eq_ofNat_of_zero_le b0.1
  obtain ⟨n1, e1, _, b1⟩ := DataW.trod_int Tryz.underlying5 g1
  simp only [List.cons.injEq, and_true] at e1
  subst e1
  have b1 := bounds_u8 b1
  obtain ⟨k1, rfl⟩ := Int.eq_ofNat_of_zero_le b1.1
  obtain ⟨n2, e2, _, b2⟩ := DataW.trod_int Tryz.underlying5 g2
  simp only [List.cons.injEq, and_true] at e2
  subst e2
  have b2 := bounds_u8 b2
  obtain ⟨k2, rfl⟩ := Int.eq_ofNat_of_zero_le b2.1
  obtain ⟨n3, e3, _, b3⟩ := DataW.trod_int Tryz.underlying5 g3
  simp only [List.cons.injEq, and_true] at e3
  subst e3
  have b3 := bounds_u8 b3
  obtain ⟨k3, rfl⟩ := Int.eq_ofNat_of_zero_le b3.1
  obtain ⟨n4, e4, _, b4⟩ := DataW.trod_int Tryz.underlying5 g4
  simp only [List.cons.injEq, and_true] at e4
  subst e4
  have b4 := bounds_u8 b4
  obtain ⟨k4, rfl⟩ := Int.eq_ofNat_of_zero_le b4.1
  refine ⟨⟨k0, k1, k2, k3, k4⟩, ⟨by simp only; omega, by simp only; omega, by simp only; omega, by simp only; omega, by simp only; omega⟩, .agg _ [.int .u8 (k0 : Nat), .int .u8 (k1 : Nat), .int .u8 (k2 : Nat), .int .u8 (k3 : Nat), .int .u8 (k4 : Nat)] rfl fun i x hx => ?_⟩
  match i, hx with
  | 0, hx => obtain rfl : AV.int .u8 (k0 : Nat) = x := Option.some.inj hx; exact .int _ _
  | 1, hx => obtain rfl : AV.int .u8 (k1 : Nat) = x := Option.some.inj hx; exact .int _ _
  | 2, hx => obtain rfl : AV.int .u8 (k2 : Nat) = x := Option.some.inj hx; exact .int _ _
  | 3, hx => obtain rfl : AV.int .u8 (k3 : Nat) = x := Option.some.inj hx; exact .int _ _
  | 4, hx => obtain rfl : AV.int .u8 (k4 : Nat) = x := Option.some.inj hx; exact .int _ _
end
end Go.Proofs.YtiighcpimecehaaGreat
end
section
namespace Go.Proofs.YtiighcpimecehaaGreat
open Go.Proofs

def failP (most : Int) (e : Nat → Int) (n : Nat) : Int × Int := if most < n then (0, 3) else match firstBad e 0 n with | some k => ((k : Int), e k) | none => (0, 0)
theorem failE_eq (most : Int) (e : Nat → Int) (n : Nat) : failE most e n = .tup [.int .i64 (failP most e n).1, .int .i64 (failP most e n).2] := by
  unfold failE failP atE
  split
  · rfl
  · cases firstBad e 0 n <;> rfl
theorem failP_zero {most : Int} {e : Nat → Int} {n : Nat} (h : (failP most e n).2 = 0) : failP most e n = (0, 0) ∧ n ≤ most ∧ firstBad e 0 n = none := by
  unfold failP at h ⊢
  split
  · rename_i h1; rw [if_pos h1] at h; cases h
  · rename_i h1
    rw [if_neg h1] at h
    cases hf : firstBad e 0 n with
    | some k => rw [hf] at h; exact absurd h (firstBad_some hf).2.2.1
    | none => exact ⟨rfl, by omega, rfl⟩
def whoI (m : Mo) (i : Nat) : Int := match m.who[i]? with | some s => whoE m.who i s | none => 0
def sumI (m : Mo) (i : Nat) : Int := match m.sums[i]? with | some x => sumE m i x | none => 0
def wordI (m : Mo) (i : Nat) : Int := match m.words[i]? with | some w => wordE m i w | none => 0
def paidI (m : Mo) (i : Nat) : Int := match m.paid[i]? with | some p => paidE m p | none => 0
def partM (m : Mo) : Nat → Int × Int
  | 0 => failP 4 (whoI m) m.who.length
  | 1 => failP 5 (sumI m) m.sums.length
  | 2 => failP 6 (wordI m) m.words.length
  | _ => failP 5 (paidI m) m.paid.length
def checkM (m : Mo) : Int × Int × Int :=
  if (partM m 0).2 ≠ 0 then (1, partM m 0) else if (partM m 1).2 ≠ 0 then (2, partM m 1) else if (partM m 2).2 ≠ 0 then (3, partM m 2) else if (partM m 3).2 ≠ 0 then (4, partM m 3) else (0, 0, 0)
theorem eMc_under (n : Nat) (d : Mo) : underL n (eMc d) = true := by simp only [eMc, go_sem, ↓reduceIte, simprocAttr]
theorem m93 (d : Mo) (hd : d.fits) (h : Heap) : callPure (EW tabX) 93 [eM d] h = some (tup3 (checkM d), h) := by
  have h123 := m123 124 [.ref 0 0] 4 d.who 0 d.zw hd.zw ⟨[.cells (eMc d)], []⟩ hd.lw (whoI d) (fun k c hx u => by
    have := m124 d hd 0 k c hx ⟨[.cells (eMc d)] ++ u, []⟩ rfl
    simp only [go_sem, ↓reduceIte, simprocAttr, eSt] at this ⊢
    rw [this, whoI, hx])
  have h127 := fun (h4 : d.who.length ≤ 4) => m127 128 [.ref 0 0] 5 d.sums 0 d.zs hd.zs ⟨[.cells (eMc d)], []⟩ hd.ls (sumI d) (fun k c hx u => by
    have := m128 d hd h4 0 k c hx ⟨[.cells (eMc d)] ++ u, []⟩ rfl
    simp only [go_sem, ↓reduceIte, simprocAttr, eSu] at this ⊢
    rw [this, sumI, hx])
  have h131 := m131 132 [.ref 0 0] 6 d.words 0 d.zo hd.zo ⟨[.cells (eMc d)], []⟩ hd.lo (wordI d) (fun k c hx u => by
    have := m132 d hd 0 k c ⟨[.cells (eMc d)] ++ u, []⟩ rfl
    simp only [go_sem, ↓reduceIte, simprocAttr, eWo] at this ⊢
    rw [this, wordI, hx])
  have h133 := m133 134 [.ref 0 0] 5 d.paid 0 d.zp hd.zp ⟨[.cells (eMc d)], []⟩ hd.lp (paidI d) (fun k c hx u => by
    have := m134 d hd 0 k c ⟨[.cells (eMc d)] ++ u, []⟩ rfl
    simp only [go_sem, ↓reduceIte, simprocAttr, ePd] at this ⊢
    rw [this, paidI, hx])
  have e0 : failP 4 (whoI d) d.who.length = partM d 0 := rfl
  have e1 : failP 5 (sumI d) d.sums.length = partM d 1 := rfl
  have e2 : failP 6 (wordI d) d.words.length = partM d 2 := rfl
  have e3 : failP 5 (paidI d) d.paid.length = partM d 3 := rfl
  rw [callPure_eq, w_call _ fn_93 rfl]
  simp only [failE_eq, eMc, e0, e1, e2, e3] at h123 h127 h131 h133
  unfold checkM
  by_cases n0 : (partM d 0).2 = 0
  · have h4 : d.who.length ≤ 4 := by have := (failP_zero (show (failP 4 (whoI d) d.who.length).2 = 0 from n0)).2.1; omega
    have h127 := h127 h4
    by_cases n1 : (partM d 1).2 = 0
    · by_cases n2 : (partM d 2).2 = 0
      · by_cases n3 : (partM d 3).2 = 0
        · simp only [go_sem, ↓reduceIte, simprocAttr, eM, eMc, h123, h127, h131, h133, n0, n1, n2, n3, ne_eq, not_true, tup3, bne_self_eq_false, if_false]
        · have b3 : ((partM d 3).2 != 0) = true := by simpa using n3
          simp only [go_sem, ↓reduceIte, simprocAttr, eM, eMc, h123, h127, h131, h133, n0, n1, n2, n3, b3, ne_eq, not_true, not_false_eq_true, tup3, bne_self_eq_false, if_false]
      · have b2 : ((partM d 2).2 != 0) = true := by simpa using n2
        simp only [go_sem, ↓reduceIte, simprocAttr, eM, eMc, h123, h127, h131, n0, n1, n2, b2, ne_eq, not_true, not_false_eq_true, tup3, bne_self_eq_false, if_false]
    · have b1 : ((partM d 1).2 != 0) = true := by simpa using n1
      simp only [go_sem, ↓reduceIte, simprocAttr, eM, eMc, h123, h127, n0, n1, b1, ne_eq, not_true, not_false_eq_true, tup3, bne_self_eq_false, if_false]
  · have b0 : ((partM d 0).2 != 0) = true := by simpa using n0
    simp only [go_sem, ↓reduceIte, simprocAttr, eM, eMc, h123, n0, b0, ne_eq, not_true, not_false_eq_true, tup3, bne_self_eq_false, if_false]
end Go.Proofs.YtiighcpimecehaaGreat
end
section
namespace Go.Proofs.YtiighcpimecehaaGreat
open Go.Proofs

def cellB (wear : Int) (a b : List Int) (many i k : Nat) : Bool := allTo (fun n => inR (a.getD (i + n) 0 - b.getD (k + n) 0) (0 - wear) wear) many
def rowB2 (wear : Int) (a b : List Int) (many i : Nat) : Bool := !allTo (fun k => !cellB wear a b many i k) (b.length + 1 - many)
def nearB (wear : Int) (a b : List Int) (many : Nat) : Bool := !allTo (fun i => !rowB2 wear a b many i) (a.length + 1 - many)

end Go.Proofs.YtiighcpimecehaaGreat
end
section
namespace Go.Proofs.YtiighcpimecehaaGreat
open Go.Proofs

end Go.Proofs.YtiighcpimecehaaGreat
end
section
namespace Go.Proofs.YtiighcpimecehaaGreat
open Go.Proofs

end Go.Proofs.YtiighcpimecehaaGreat
end
section
namespace Go.Proofs.YtiighcpimecehaaGreat
open Go.Proofs

section
variable (X : Tab) {E : Eng} {L : List Nat} {all : List Oper}
theorem d_nil (b : List Nat) (n0 : Nat × Nat) (i : Nat) (s : St) : runDraw X E L b all n0 false [] i s = some s := _root_.id rfl
theorem d_c (b : List Nat) (n0 : Nat × Nat) (i : Nat) (d : Option Tmp) (op : Op) (ty : TypeId) (po : String) (af : Array Edge) (os : List Oper) (fr : Frm) (h : Heap) (ms : List Nat) :
    runDraw X E L b all n0 false (⟨d, op, ty, po, af, none⟩ :: os) i ⟨fr, h, ms⟩ = bindW (opAt X E (!boundAll b all i) (n0.1 + i, n0.2 + i) op fr h) (fun r => runDraw X E L b all n0 false os (i + 1) ⟨setD L fr d r.1, r.2, ms⟩) .mk := by
  have e : runDraw X E L b all n0 false (⟨d, op, ty, po, af, none⟩ :: os) i ⟨fr, h, ms⟩ = oneOp X E L all (false || !boundAll b all i) (posAt n0 false i) ⟨d, op, ty, po, af, none⟩ ⟨fr, h, ms⟩ (runDraw X E L b all n0 false os (i + 1)) := rfl
  rw [e]
  simp only [oneOp, thenK_eq, Bool.false_or, bindW]
  rfl
end
section
variable {X : Tab} {f : Nat} {rd : Option Nat} {b : Code}
end

abbrev Pl := Nat × Nat × Nat
def Own (tag z n : Nat) (t : List Bool) : Prop := (tag = 1 ∧ n = 0) ∨ ∃ q, tag = q + 2 ∧ z = 3 ∧ t[q]? = some true
end Go.Proofs.YtiighcpimecehaaGreat
end
section
namespace Go.Proofs.YtiighcpimecehaaGreat
open Go.Proofs
attribute [go_sem] d_nil d_c opMapUpdate

def fitB (d : Dr) (e c s : Nat) : Bool := besideB d.wear (d.cards.getD c ⟨default, []⟩).edge (d.halves.getD e ⟨default, []⟩).edge s
def P3 (d : Dr) (e c k : Nat) : List Pl := ((List.range k).filter fun s => fitB d e c s).map fun s => (e, c, s)
def P2 (d : Dr) (e k : Nat) : List Pl := (List.range k).flatMap fun c => P3 d e c d.steps.toNat
def P1 (d : Dr) (k : Nat) : List Pl := (List.range k).flatMap fun e => P2 d e d.cards.length
theorem Own.more {tag z n : Nat} {t : List Bool} (h : Own tag z n t) (u : List Bool) : Own tag z n (t ++ u) := by
  rcases h with h | ⟨q, h1, h2, h3⟩
  · exact .inl h
  · exact .inr ⟨q, h1, h2, old h3 u⟩
end Go.Proofs.YtiighcpimecehaaGreat
end
section
namespace Go.Proofs.YtiighcpimecehaaGreat
open Go.Proofs

end Go.Proofs.YtiighcpimecehaaGreat
end
section
namespace Go.Proofs.YtiighcpimecehaaGreat
open Go.Proofs
attribute [go_sem] opLookup

end Go.Proofs.YtiighcpimecehaaGreat
end
section
namespace Go.Proofs.YtiighcpimecehaaGreat
open Go.Proofs

def ownT (T0 : List Bool) (l : List Int) : AV := .lst (tagT T0 l.length) (zT 1 l.length) (I l)
theorem ownT_clean (T0 : List Bool) (l : List Int) : (ownT T0 l).clean = some (vI l) := by simp only [ownT, vI, go_sem, ↓reduceIte, simprocAttr]
theorem ownT_under (T0 : List Bool) (n : Nat) (l : List Int) : (ownT T0 l).under n = true := by simp only [ownT, go_sem, ↓reduceIte, simprocAttr]
theorem ownT_app (T0 : List Bool) (l : List Int) (x : Int) (hl : l.length < 1000) (B : List ABlk) :
    appendAV tabX 30 (T T0 l.length).length ⟨B, T T0 l.length⟩ (ownT T0 l) (.lst 1 1 [.int .i64 x]) = some (ownT T0 (l ++ [x]), ⟨B, T T0 (l ++ [x]).length⟩) := by
  have := append_step (X := tabX) (t := 30) (e := 3) (sz := 1) T0 l.length B (zT 1 l.length) 1 1 (I l) [.int .i64 x] (by simp only [go_sem, ↓reduceIte, simprocAttr]) (by simp only [go_sem, ↓reduceIte, simprocAttr])
    (by rcases Nat.eq_zero_or_pos l.length with e | e; exact .inl ⟨e, by rw [I_len, e]⟩; exact .inr (zT_pos e)) (.inl rfl) (by omega) (by simp only [go_sem, ↓reduceIte, simprocAttr]; omega) (by simp only [go_sem, ↓reduceIte, simprocAttr]; omega) (by simp only [go_sem, ↓reduceIte, simprocAttr]) (by simp only [go_sem, ↓reduceIte, simprocAttr])
  have e : (l ++ [x]).length = l.length + 1 := by simp
  rw [ownT, this, ownT, e, I_snoc]; rfl

end Go.Proofs.YtiighcpimecehaaGreat
end
section
namespace Go.Proofs.YtiighcpimecehaaGreat
open Go.Proofs

def cpl : List Int → List Int → Nat
  | x :: xs, y :: ys => if x = y then cpl xs ys + 1 else 0
  | _, _ => 0
theorem cpl_le1 : ∀ a b : List Int, cpl a b ≤ a.length
  | [], _ => by simp [cpl]
  | x :: xs, [] => by simp [cpl]
  | x :: xs, y :: ys => by unfold cpl; split; have := cpl_le1 xs ys; simp; omega; omega
theorem cpl_le2 : ∀ a b : List Int, cpl a b ≤ b.length
  | [], _ => by simp [cpl]
  | x :: xs, [] => by simp [cpl]
  | x :: xs, y :: ys => by unfold cpl; split; have := cpl_le2 xs ys; simp; omega; omega
theorem cpl_eq : ∀ (a b : List Int) (k : Nat), k < cpl a b → a[k]? = b[k]?
  | [], b, k, h => by simp [cpl] at h
  | x :: xs, [], k, h => by simp [cpl] at h
  | x :: xs, y :: ys, k, h => by
    unfold cpl at h
    split at h
    · rename_i e
      cases k with
      | zero => simp [e]
      | succ k => simpa using cpl_eq xs ys k (by omega)
    · omega
theorem cpl_ne : ∀ (a b : List Int) (x y : Int), a[cpl a b]? = some x → b[cpl a b]? = some y → x ≠ y
  | [], b, x, y, h, _ => by simp [cpl] at h
  | u :: us, [], x, y, _, h => by simp [cpl] at h
  | u :: us, v :: vs, x, y, h1, h2 => by
    unfold cpl at h1 h2
    split at h1
    · rename_i e
      rw [if_pos e] at h2
      exact cpl_ne us vs x y (by simpa using h1) (by simpa using h2)
    · rename_i e
      rw [if_neg e] at h2
      simp at h1 h2
      rw [← h1, ← h2]; exact e
def ltB : List Int → List Int → Bool
  | _, [] => false
  | [], _ :: _ => true
  | x :: xs, y :: ys => if x = y then ltB xs ys else decide (x < y)
theorem ltB_cpl : ∀ a b : List Int, ltB a b = if cpl a b = b.length then false else (decide (cpl a b = a.length) || decide (a.getD (cpl a b) 0 < b.getD (cpl a b) 0))
  | [], [] => rfl
  | [], y :: ys => by simp [ltB, cpl]
  | x :: xs, [] => by simp [ltB, cpl]
  | x :: xs, y :: ys => by
    unfold ltB cpl
    by_cases e : x = y
    · rw [if_pos e, if_pos e, ltB_cpl xs ys]
      simp
    · rw [if_neg e, if_neg e]
      simp
theorem ltB_irrefl : ∀ a : List Int, ltB a a = false
  | [] => rfl
  | x :: xs => by unfold ltB; rw [if_pos rfl]; exact ltB_irrefl xs
theorem ltB_eq : ∀ a b : List Int, (decide (a.length = b.length) && (!ltB a b && !ltB b a)) = decide (a = b)
  | [], [] => rfl
  | [], y :: ys => by simp
  | x :: xs, [] => by simp
  | x :: xs, y :: ys => by
    have ih := ltB_eq xs ys
    simp only [ltB]
    by_cases e : x = y
    · subst e
      rw [if_pos rfl, if_pos rfl]
      simpa using ih
    · have e' : ¬ y = x := fun h => e h.symm
      rw [if_neg e, if_neg e']
      simp [e]
      omega

theorem c46 (a b : List Int) (za zb : Nat) (hza : a ≠ [] → za = 1) (hzb : b ≠ [] → zb = 1) (la : a.length < 1000000000000000000) (lb : b.length < 1000000000000000000) (h : Heap) :
    callPure (EW tabX) 48 [.lst 0 za (I a), .lst 0 zb (I b)] h = some (.bool (ltB a b), h) := by
  rw [callPure_eq, w_call _ fn_48 rfl]
  simp only [go_sem, ↓reduceIte, simprocAttr]
  have h1 := cpl_le1 a b
  have h2 := cpl_le2 a b
  rw [w_rounds_u (fun k => [(5, .int .i64 k)]) (cpl a b) (.exit 0) [(5, .int .i64 (cpl a b))] ?_ ?_ ?_ rfl]
  · rw [ltB_cpl]
    by_cases e : cpl a b = b.length
    · simp only [go_sem, ↓reduceIte, simprocAttr, e]
    · have e' : (((cpl a b : Nat) : Int) == b.length) = false := by simp; omega
      have hzb1 := hzb (by intro h; rw [h] at e; simp [cpl] at e)
      have hb : b[cpl a b]? = some (b.getD (cpl a b) 0) := by
        rw [List.getD_eq_getElem?_getD, List.getElem?_eq_getElem (show cpl a b < b.length by omega)]; rfl
      by_cases f : cpl a b = a.length
      · have f' : (((cpl a b : Nat) : Int) == a.length) = true := by simp [f]
        have fd : decide (cpl a b = a.length) = true := by simp [f]
        simp only [go_sem, ↓reduceIte, simprocAttr, e', e, f', fd]
      · have f' : (((cpl a b : Nat) : Int) == a.length) = false := by simp; omega
        have fd : decide (cpl a b = a.length) = false := by simp [f]
        have hza1 := hza (by intro h; rw [h] at h1; simp at h1; rw [h] at f; simp at f; omega)
        have ha : a[cpl a b]? = some (a.getD (cpl a b) 0) := by
          rw [List.getD_eq_getElem?_getD, List.getElem?_eq_getElem (show cpl a b < a.length by omega)]; rfl
        simp only [go_sem, ↓reduceIte, simprocAttr, e', e, f', fd, ha, hb, hza1, hzb1]
  · simp only [go_sem, ↓reduceIte, simprocAttr]
  · intro k hk
    have ka : k < a.length := by omega
    have kb : k < b.length := by omega
    have kai : (k : Int) < a.length := by omega
    have kbi : (k : Int) < b.length := by omega
    have hx := List.getElem?_eq_getElem ka
    have hy := List.getElem?_eq_getElem kb
    have he := cpl_eq a b k hk
    rw [hx, hy] at he
    simp only [Option.some.injEq] at he
    have hza1 := hza (by intro h; rw [h] at ka; simp at ka)
    have hzb1 := hzb (by intro h; rw [h] at kb; simp at kb)
    simp (disch := omega) only [go_sem, ↓reduceIte, simprocAttr, kai, kbi, hx, hy, he, hza1, hzb1, wrap_i64]
  · by_cases f : cpl a b < a.length
    · have fi : ((cpl a b : Nat) : Int) < a.length := by omega
      by_cases g : cpl a b < b.length
      · have gi : ((cpl a b : Nat) : Int) < b.length := by omega
        have hx := List.getElem?_eq_getElem f
        have hy := List.getElem?_eq_getElem g
        have hne := cpl_ne a b _ _ hx hy
        have hne' : (a[cpl a b] == b[cpl a b]) = false := by simpa using hne
        have hza1 := hza (by intro h; rw [h] at f; simp at f)
        have hzb1 := hzb (by intro h; rw [h] at g; simp at g)
        simp (disch := omega) only [go_sem, ↓reduceIte, simprocAttr, fi, gi, hx, hy, hne', hza1, hzb1]
      · have gi : ¬ ((cpl a b : Nat) : Int) < b.length := by omega
        simp (disch := omega) only [go_sem, ↓reduceIte, simprocAttr, fi, gi]
    · have fi : ¬ ((cpl a b : Nat) : Int) < a.length := by omega
      simp (disch := omega) only [go_sem, ↓reduceIte, simprocAttr, fi]
theorem c20 (a b : List Int) (za zb : Nat) (hza : a ≠ [] → za = 1) (hzb : b ≠ [] → zb = 1) (la : a.length < 1000000000000000000) (lb : b.length < 1000000000000000000) (h : Heap) :
    callPure (EW tabX) 12 [.lst 0 za (I a), .lst 0 zb (I b)] h = some (.bool (decide (a = b)), h) := by
  have h1 := c46 a b za zb hza hzb la lb
  have h2 := c46 b a zb za hzb hza lb la
  rw [callPure_eq, w_call _ fn_12 rfl, ← ltB_eq]
  have e : ((a.length : Int) == b.length) = decide (a.length = b.length) := by rw [Bool.eq_iff_iff]; simp; omega
  simp only [go_sem, ↓reduceIte, simprocAttr, h1, h2, e]
theorem any_succ {α : Type} (p : α → Bool) {l : List α} {k : Nat} {x : α} (h : l[k]? = some x) : (l.take (k + 1)).any p = ((l.take k).any p || p x) := by
  rw [List.take_add_one, h]; simp
def lostL (l : List Int) (n : Nat) : List Int := ((List.range n).filter fun i => decide (l.getD i 0 = -1)).map fun (i : Nat) => (i : Int)
end Go.Proofs.YtiighcpimecehaaGreat
end
section
namespace Go.Proofs.YtiighcpimecehaaGreat
open Go.Proofs

def bitsL (s n : Nat) : List Int := ((List.range n).filter fun i => s.testBit i).map fun (i : Nat) => (i : Int)
theorem bitsL_succ (s n : Nat) : bitsL s (n + 1) = if s.testBit n = true then bitsL s n ++ [(n : Int)] else bitsL s n := by
  unfold bitsL
  rw [List.range_succ, List.filter_append, List.map_append]
  have e : (List.filter (fun i => s.testBit i) [n]) = if s.testBit n = true then [n] else [] := by simp only [List.filter_cons, List.filter_nil]
  rw [e]
  split <;> simp
theorem bitsL_len (s n : Nat) : (bitsL s n).length ≤ n := by
  unfold bitsL; rw [List.length_map]; have := List.length_filter_le (fun i => s.testBit i) (List.range n); simpa using this
theorem c85 (x : Int) (h : Heap) : callPure (EW tabX) 136 [.int .i64 x] h = some (.bool false, h) := by
  rw [callPure_eq, w_call _ fn_136 rfl]
  simp only [go_sem, ↓reduceIte, simprocAttr]
def cmpI (x y : Int) : Int := if x < y then -1 else if y < x then 1 else 0
theorem c77 (x y : Int) (h : Heap) : callPure (EW tabX) 95 [.int .i64 x, .int .i64 y] h = some (.int .i64 (cmpI x y), h) := by
  rw [callPure_eq, w_call _ fn_95 rfl]
  unfold cmpI
  by_cases h1 : x < y
  · simp only [go_sem, ↓reduceIte, simprocAttr, c85, h1]
  · by_cases h2 : y < x
    · simp only [go_sem, ↓reduceIte, simprocAttr, c85, h1, h2]
    · simp only [go_sem, ↓reduceIte, simprocAttr, c85, h1, h2]
def cmpL (a b : List Int) : Int := if ltB a b then -1 else if a = b then 0 else 1
theorem cmpL_neg (a b : List Int) : decide (cmpL a b < 0) = ltB a b := by
  unfold cmpL
  cases ltB a b with
  | true => rfl
  | false => simp only [Bool.false_eq_true, if_false]; split <;> rfl
theorem c64 (a b : List Int) (za zb : Nat) (hza : a ≠ [] → za = 1) (hzb : b ≠ [] → zb = 1) (la : a.length < 1000000000000000000) (lb : b.length < 1000000000000000000) (h : Heap) :
    callPure (EW tabX) 47 [.lst 0 za (I a), .lst 0 zb (I b)] h = some (.int .i64 (cmpL a b), h) := by
  rw [callPure_eq, w_call _ fn_47 rfl]
  simp only [go_sem, ↓reduceIte, simprocAttr]
  have h1 := cpl_le1 a b
  have h2 := cpl_le2 a b
  have hlt := ltB_cpl a b
  have heq := ltB_eq a b
  have round : ∀ k, k < cpl a b → ∃ x, a[k]? = some x ∧ b[k]? = some x ∧ (k : Int) < a.length ∧ ¬ (b.length : Int) ≤ k ∧ za = 1 ∧ zb = 1 := fun k hk => by
    have ka : k < a.length := by omega
    have kb : k < b.length := by omega
    have hx := List.getElem?_eq_getElem ka
    have he := cpl_eq a b k hk
    exact ⟨a[k], hx, by rw [← he]; exact hx, by omega, by omega, hza (by intro h; rw [h] at ka; simp at ka), hzb (by intro h; rw [h] at kb; simp at kb)⟩
  have cz : ∀ x, cmpI x x = 0 := fun x => by unfold cmpI; rw [if_neg (by omega), if_neg (by omega)]
  by_cases e : cpl a b = a.length
  · rw [w_rounds_u (fun k => [(11, .int .i64 k)]) (cpl a b) (.exit 0) [(11, .int .i64 (cpl a b))] ?_ ?_ ?_ rfl]
    · by_cases f : a.length < b.length
      · have fi : (a.length : Int) < b.length := by omega
        have hl : ltB a b = true := by rw [hlt, if_neg (by omega), e]; simp
        simp only [go_sem, ↓reduceIte, simprocAttr, fi, cmpL, hl]
      · have fi : ¬ (a.length : Int) < b.length := by omega
        have hl : ltB a b = false := by rw [hlt, if_pos (by omega)]
        have hab : a = b := by
          apply List.ext_getElem? 
          intro k
          by_cases hk : k < cpl a b
          · exact cpl_eq a b k hk
          · rw [List.getElem?_eq_none (by omega), List.getElem?_eq_none (by omega)]
        subst hab
        simp only [go_sem, ↓reduceIte, simprocAttr, cmpL, hl]
    · simp only [go_sem, ↓reduceIte, simprocAttr]
    · intro k hk
      obtain ⟨x, x1, x2, x3, x4, x5, x6⟩ := round k hk
      simp (disch := omega) only [go_sem, ↓reduceIte, simprocAttr, x1, x2, x3, x4, x5, x6, c77, cz, wrap_i64]
    · simp only [go_sem, ↓reduceIte, simprocAttr, e]
  · have g : cpl a b < a.length := by omega
    have gi : ((cpl a b : Nat) : Int) < a.length := by omega
    have hx := List.getElem?_eq_getElem g
    have hza1 := hza (by intro h; rw [h] at g; simp at g)
    by_cases f : cpl a b = b.length
    · have fi : (b.length : Int) ≤ (cpl a b : Nat) := by omega
      have hl : ltB a b = false := by rw [hlt, if_pos f]
      have hab : ¬ a = b := fun h => by rw [h] at g f; omega
      rw [w_rounds_u (fun k => [(11, .int .i64 k)]) (cpl a b) .ret [(4, .int .i64 1), (5, .int .i64 (cpl a b)), (6, .int .i64 a[cpl a b]), (11, .int .i64 (cpl a b))] ?_ ?_ ?_ rfl]
      · simp only [go_sem, ↓reduceIte, simprocAttr, cmpL, hl, hab]
      · simp only [go_sem, ↓reduceIte, simprocAttr]
      · intro k hk
        obtain ⟨x, x1, x2, x3, x4, x5, x6⟩ := round k hk
        simp (disch := omega) only [go_sem, ↓reduceIte, simprocAttr, x1, x2, x3, x4, x5, x6, c77, cz, wrap_i64]
      · simp only [go_sem, ↓reduceIte, simprocAttr, hx, gi, hza1, fi]
    · have g2 : cpl a b < b.length := by omega
      have gi2 : ¬ (b.length : Int) ≤ (cpl a b : Nat) := by omega
      have hy := List.getElem?_eq_getElem g2
      have hzb1 := hzb (by intro h; rw [h] at g2; simp at g2)
      have hne := cpl_ne a b _ _ hx hy
      have ea : a.getD (cpl a b) 0 = a[cpl a b] := by simp [g]
      have eb : b.getD (cpl a b) 0 = b[cpl a b] := by simp [g2]
      have hab : ¬ a = b := fun h => by subst h; exact hne rfl
      have hl : ltB a b = decide (a[cpl a b] < b[cpl a b]) := by rw [hlt, if_neg f, ea, eb]; simp [e]
      have hc : cmpL a b = cmpI a[cpl a b] b[cpl a b] := by
        unfold cmpL cmpI
        rw [hl, if_neg hab]
        by_cases q : a[cpl a b] < b[cpl a b]
        · simp [q]
        · have q2 : b[cpl a b] < a[cpl a b] := by omega
          simp [q, q2]
      have hn0 : (cmpI a[cpl a b] b[cpl a b] != 0) = true := by
        unfold cmpI
        by_cases q : a[cpl a b] < b[cpl a b]
        · simp [q]
        · have q2 : b[cpl a b] < a[cpl a b] := by omega
          simp [q, q2]
      rw [w_rounds_u (fun k => [(11, .int .i64 k)]) (cpl a b) .ret [(4, .int .i64 (cmpI a[cpl a b] b[cpl a b])), (5, .int .i64 (cpl a b)), (6, .int .i64 a[cpl a b]), (7, .int .i64 b[cpl a b]), (8, .int .i64 (cmpI a[cpl a b] b[cpl a b])), (11, .int .i64 (cpl a b))] ?_ ?_ ?_ rfl]
      · simp only [go_sem, ↓reduceIte, simprocAttr, hc]
      · simp only [go_sem, ↓reduceIte, simprocAttr]
      · intro k hk
        obtain ⟨x, x1, x2, x3, x4, x5, x6⟩ := round k hk
        simp (disch := omega) only [go_sem, ↓reduceIte, simprocAttr, x1, x2, x3, x4, x5, x6, c77, cz, wrap_i64]
      · simp only [go_sem, ↓reduceIte, simprocAttr, hx, hy, gi, gi2, hza1, hzb1, c77, hn0]
end Go.Proofs.YtiighcpimecehaaGreat
end
section
namespace Go.Proofs.YtiighcpimecehaaGreat
open Go.Proofs

section
variable {X : Tab} {f : Nat} {rd : Option Nat} {b : Code}
theorem w_rounds_sk {σ : Type} {G : Prop} {g : Slots} {h : Heap} {ms : List Nat} {x : Option (AExit × St)} (hx : (EW X).code f rd (.loop b) ⟨⟨g, []⟩, h, ms⟩ = x)
    (U : Nat → σ → Slots) (Hp : σ → Heap) (R : Nat → σ → Prop) (n : Nat) (e : AExit) (V : σ → Slots) (hr : isNormal e = false) (s0 : σ) (h0 : puts g (U 0 s0) = g) (hh : Hp s0 = h) (hR : R 0 s0)
    (hs : ∀ k s, k < n → R k s → ∃ s', cutS ⟨⟨puts g (U k s), []⟩, Hp s, ms⟩ ((EW X).code f rd b ⟨⟨puts g (U k s), []⟩, Hp s, ms⟩) = some (.normal, ⟨⟨puts g (U (k + 1) s'), []⟩, Hp s', ms⟩) ∧ R (k + 1) s')
    (he : ∀ s, R n s → cutS ⟨⟨puts g (U n s), []⟩, Hp s, ms⟩ ((EW X).code f rd b ⟨⟨puts g (U n s), []⟩, Hp s, ms⟩) = some (e, ⟨⟨puts g (V s), []⟩, Hp s, ms⟩))
    (hG : ∀ s, x = some (e, ⟨⟨puts g (V s), []⟩, Hp s, ms⟩) → R n s → G) (hm : mapLoop b = none := by rfl) : G := by
  obtain ⟨e', s', h1, s, rfl, rfl, h2⟩ := w_rounds_ex hx (fun k q => ∃ s, q = ⟨⟨puts g (U k s), []⟩, Hp s, ms⟩ ∧ R k s) n (fun e' q => ∃ s, e' = e ∧ q = ⟨⟨puts g (V s), []⟩, Hp s, ms⟩ ∧ R n s)
    ⟨s0, by rw [h0, hh], hR⟩ (fun k q hk ⟨s, hq1, hq2⟩ => by
      subst hq1
      obtain ⟨s', a, c⟩ := hs k s hk hq2
      exact ⟨_, a, s', rfl, c⟩)
    (fun q ⟨s, hq1, hq2⟩ => by
      subst hq1
      exact ⟨e, _, he s hq2, hr, s, rfl, rfl, hq2⟩) hm
  exact hG s h1 h2
end

def OwnS (sz tag z n : Nat) (t : List Bool) : Prop := (tag = 1 ∧ n = 0) ∨ ∃ q, tag = q + 2 ∧ z = sz ∧ t[q]? = some true
theorem app_gen {X : Tab} {ty e : TypeId} {sz : Nat} {tag z : Nat} {t : List Bool} {xs : List AV} (hn : OwnS sz tag z xs.length t) (u z' : Nat) (ys : List AV) (ht : trow X ty = .slice e) (hs : tsz X e = sz) (h0 : 0 < sz) (hz' : z' = sz ∨ ys.length = 0)
    (hy : (xs.length + ys.length) * tbytes X e ≤ 140737488355328) (hy2 : xs.length + ys.length ≤ 140737488355328) (hf : zeroFits X e = true) (hv : ys.all AV.var = true) :
    ∃ t2, (∀ B, appendAV X ty t.length ⟨B, t⟩ (.lst tag z xs) (.lst u z' ys) = some (.lst (t.length + 2) sz (xs ++ ys), ⟨B, t2⟩)) ∧ t2.length = t.length + 1 ∧ t2[t.length]? = some true ∧ ∀ k, tag ≠ k + 2 → t[k]? = some true → t2[k]? = some true := by
  have hc : (z' = tsz X e ∨ ys.length = 0) ∧ 0 < tsz X e ∧ (xs.length + ys.length) * tbytes X e ≤ appLimit ∧ xs.length + ys.length ≤ appLimit ∧ zeroFits X e = true ∧ ys.all AV.var = true := by
    rw [hs]; exact ⟨hz', h0, hy, hy2, hf, hv⟩
  unfold appendAV
  simp only [ht, if_pos hc]
  rcases hn with ⟨rfl, hn0⟩ | ⟨q, rfl, hq, hqt⟩
  · have hx : z = tsz X e ∨ xs.length = 0 := .inr hn0
    refine ⟨t ++ [true], fun B => ?_, by simp, by simp, fun k _ hk => old hk _⟩
    rw [if_pos ⟨hx, .inl (by omega)⟩]
    simp only [hs, lset, Nat.lt_irrefl, if_false]
  · have hx : z = tsz X e := by rw [hs, hq]
    refine ⟨t.set q false ++ [true], fun B => ?_, by simp, by simp, fun k hne hk => ?_⟩
    · simp only [hqt]
      rw [if_pos hx]
      simp only [hs, lset, List.length_set, Nat.lt_irrefl, if_false]
    · refine old ?_ _
      rw [List.getElem?_set_ne (by omega)]; exact hk

def Rows (xs : List AV) (ts : List (List Int)) : Prop := xs.length = ts.length ∧ ∀ (i : Nat) (t : List Int), ts[i]? = some t → ∃ tg z, xs[i]? = some (.lst tg z (I t)) ∧ (t ≠ [] → z = 1)
theorem Rows.snoc {xs : List AV} {ts : List (List Int)} (h : Rows xs ts) (tg : Nat) (t : List Int) : Rows (xs ++ [.lst tg 1 (I t)]) (ts ++ [t]) := by
  refine ⟨by simp [h.1], fun i u hu => ?_⟩
  rw [List.getElem?_append] at hu
  split at hu
  · obtain ⟨a, z, h1, h2⟩ := h.2 i u hu
    exact ⟨a, z, old h1 _, h2⟩
  · rename_i hi
    have : i = ts.length := by
      by_cases e : i - ts.length = 0
      · omega
      · rw [List.getElem?_eq_none (by simp; omega)] at hu; cases hu
    subst this
    simp at hu; subst hu
    refine ⟨tg, 1, ?_, fun _ => rfl⟩
    rw [← h.1]; simp
theorem Rows.under {xs : List AV} {ts : List (List Int)} (h : Rows xs ts) (n : Nat) : underL n xs = true := by
  refine underL_of fun x hx => ?_
  obtain ⟨i, hi, e⟩ := List.mem_iff_getElem.1 hx
  have hi2 : i < ts.length := by rw [← h.1]; exact hi
  obtain ⟨a, z, h1, _⟩ := h.2 i ts[i] (List.getElem?_eq_getElem hi2)
  rw [List.getElem?_eq_getElem hi, e] at h1
  simp only [Option.some.injEq] at h1
  rw [h1]; simp only [go_sem, ↓reduceIte, simprocAttr]
theorem Rows.var {xs : List AV} {ts : List (List Int)} (h : Rows xs ts) : xs.all AV.var = true := by
  rw [List.all_eq_true]
  intro x hx
  obtain ⟨i, hi, e⟩ := List.mem_iff_getElem.1 hx
  have hi2 : i < ts.length := by rw [← h.1]; exact hi
  obtain ⟨a, z, h1, _⟩ := h.2 i ts[i] (List.getElem?_eq_getElem hi2)
  rw [List.getElem?_eq_getElem hi, e] at h1
  simp only [Option.some.injEq] at h1
  rw [h1]; rfl
theorem Rows.clean : ∀ {xs : List AV} {ts : List (List Int)}, Rows xs ts → ∃ ys, cleanL xs = some ys ∧ Rows ys ts ∧ cleanL ys = some ys
  | [], ts, h => ⟨[], cleanL_nil, h, cleanL_nil⟩
  | x :: xs, [], h => by have := h.1; simp at this
  | x :: xs, t :: ts, h => by
    have h' : Rows xs ts := ⟨by have := h.1; simpa using this, fun i u hu => by simpa using h.2 (i + 1) u (by simpa using hu)⟩
    obtain ⟨ys, h1, h2, h3⟩ := h'.clean
    obtain ⟨a, z, h4, h5⟩ := h.2 0 t rfl
    simp only [List.getElem?_cons_zero, Option.some.injEq] at h4
    subst h4
    refine ⟨.lst 0 z (I t) :: ys, by simp only [go_sem, ↓reduceIte, simprocAttr, h1], ⟨by have := h2.1; simp [this], fun i u hu => ?_⟩, by simp only [go_sem, ↓reduceIte, simprocAttr, h3]⟩
    cases i with
    | zero => simp at hu; subst hu; exact ⟨0, z, rfl, h5⟩
    | succ i => simpa using h2.2 i u (by simpa using hu)

def okHC (d : Dr) (e c : Nat) : Bool := decide (0 < (fitsL d (d.cards.getD c ⟨default, []⟩) (d.halves.getD e ⟨default, []⟩) d.steps.toNat).length)
def may (d : Dr) (e : Nat) (t : List Int) : Nat → Bool
  | 0 => true
  | k + 1 => !(t.any fun x => x == (k : Int)) && okHC d e k
def extK (d : Dr) (e : Nat) (t : List Int) (k : Nat) : List (List Int) := ((List.range k).filter fun i => may d e t i).map fun (i : Nat) => t ++ [(i : Int) - 1]
def truthsL (d : Dr) : Nat → List (List Int)
  | 0 => [[]]
  | e + 1 => (truthsL d e).flatMap fun t => extK d e t (d.cards.length + 1)
end Go.Proofs.YtiighcpimecehaaGreat
end
section
namespace Go.Proofs.YtiighcpimecehaaGreat
open Go.Proofs

structure RS where
  tg : Nat
  z : Nat
  xs : List AV
  t : List Bool
def RS.v (s : RS) : AV := .lst s.tg s.z s.xs
def RS.is (s : RS) (ts : List (List Int)) : Prop := Rows s.xs ts ∧ OwnS 1 s.tg s.z s.xs.length s.t

theorem flat_len {α β : Type} (f : α → List β) (m : Nat) : ∀ l : List α, (∀ x ∈ l, (f x).length ≤ m) → (l.flatMap f).length ≤ l.length * m
  | [], _ => by simp
  | x :: l, h => by
    have a := h x (by simp)
    have b := flat_len f m l fun y hy => h y (by simp [hy])
    rw [List.flatMap_cons, List.length_append, List.length_cons, Nat.succ_mul]
    omega
end Go.Proofs.YtiighcpimecehaaGreat
end
section
namespace Go.Proofs.YtiighcpimecehaaGreat
open Go.Proofs

def lostN (t : List Int) : Nat := (lostL t t.length).length
def leastN (l : List (List Int)) (m : Nat) : Nat := l.foldl (fun m t => min m (lostN t)) m
def fairL (d : Dr) : List (List Int) := (truthsL d d.halves.length).filter fun t => decide (lostN t = leastN (truthsL d d.halves.length) d.halves.length)
end Go.Proofs.YtiighcpimecehaaGreat
end
section
namespace Go.Proofs.YtiighcpimecehaaGreat
open Go.Proofs

def first (d : Dr) : List Int := (fairL d).headD []
theorem zT_ne {l : List Int} (h : l ≠ []) : zT 1 l.length = 1 := zT_pos (List.length_pos_iff.2 h)

end Go.Proofs.YtiighcpimecehaaGreat
end
section
namespace Go.Proofs.YtiighcpimecehaaGreat
open Go.Proofs

end Go.Proofs.YtiighcpimecehaaGreat
end
section
namespace Go.Proofs.YtiighcpimecehaaGreat
open Go.Proofs

def cardE (d : Dr) (c : Nat) : List Int := (d.cards.getD c ⟨default, []⟩).edge
end Go.Proofs.YtiighcpimecehaaGreat
end
section
namespace Go.Proofs.YtiighcpimecehaaGreat
open Go.Proofs

def anyTo (p : Nat → Bool) (n : Nat) : Bool := !allTo (fun i => !p i) n
theorem anyTo_succ (p : Nat → Bool) (n : Nat) : anyTo p (n + 1) = (anyTo p n || p n) := by simp [anyTo, allTo_succ]
end Go.Proofs.YtiighcpimecehaaGreat
end
section
namespace Go.Proofs.YtiighcpimecehaaGreat
open Go.Proofs

end Go.Proofs.YtiighcpimecehaaGreat
end
section
namespace Go.Proofs.YtiighcpimecehaaGreat
open Go.Proofs

end Go.Proofs.YtiighcpimecehaaGreat
end
section
namespace Go.Proofs.YtiighcpimecehaaGreat
open Go.Proofs

theorem allTo_iff {p : Nat → Bool} {n : Nat} : allTo p n = true ↔ ∀ k, k < n → p k = true := by
  constructor
  · intro h k hk; exact allTo_at h hk
  · intro h
    induction n with
    | zero => rfl
    | succ n ih => rw [allTo_succ, ih fun k hk => h k (by omega), h n (by omega)]; rfl
theorem anyTo_iff {p : Nat → Bool} {n : Nat} : anyTo p n = true ↔ ∃ k, k < n ∧ p k = true := by
  unfold anyTo
  constructor
  · intro h
    have h : allTo (fun i => !p i) n = false := by simpa using h
    obtain ⟨k, h1, _, h2⟩ := allTo_false h
    exact ⟨k, h1, by simpa using h2⟩
  · rintro ⟨k, h1, h2⟩
    cases ha : allTo (fun i => !p i) n with
    | false => rfl
    | true => have := allTo_at ha h1; rw [h2] at this; cases this
theorem nearB_iff {w : Int} {a b : List Int} {m : Nat} : nearB w a b m = true ↔ ∃ i k, i + m ≤ a.length ∧ k + m ≤ b.length ∧ ∀ n, n < m → inR (a.getD (i + n) 0 - b.getD (k + n) 0) (0 - w) w = true := by
  have e : nearB w a b m = anyTo (fun i => anyTo (fun k => cellB w a b m i k) (b.length + 1 - m)) (a.length + 1 - m) := by
    unfold nearB anyTo
    congr 2
  rw [e, anyTo_iff]
  constructor
  · rintro ⟨i, hi, h⟩
    obtain ⟨k, hk, h⟩ := anyTo_iff.1 h
    exact ⟨i, k, by omega, by omega, fun n hn => allTo_iff.1 h n hn⟩
  · rintro ⟨i, k, h1, h2, h3⟩
    exact ⟨i, by omega, anyTo_iff.2 ⟨k, by omega, allTo_iff.2 h3⟩⟩
theorem nearB_less {w : Int} {a b : List Int} {m n : Nat} (h : nearB w a b n = true) (hm : m ≤ n) : nearB w a b m = true := by
  obtain ⟨i, k, h1, h2, h3⟩ := nearB_iff.1 h
  exact nearB_iff.2 ⟨i, k, by omega, by omega, fun j hj => h3 j (by omega)⟩

def metI (d : Dr) (i m : Nat) : Bool := anyTo (fun i => anyTo (fun k => nearB d.wear (cardE d i) (cardE d k) m) i) i
def metK (d : Dr) (i k m : Nat) : Bool := metI d i m || anyTo (fun k => nearB d.wear (cardE d i) (cardE d k) m) k
theorem metK_succ (d : Dr) (i k m : Nat) : metK d i (k + 1) m = (metK d i k m || nearB d.wear (cardE d i) (cardE d k) m) := by unfold metK; rw [anyTo_succ, Bool.or_assoc]
theorem metI_less {d : Dr} {i m n : Nat} (h : metI d i n = true) (hm : m ≤ n) : metI d i m = true := by
  obtain ⟨i', h1, h2⟩ := anyTo_iff.1 h
  obtain ⟨k, h3, h4⟩ := anyTo_iff.1 h2
  exact anyTo_iff.2 ⟨i', h1, anyTo_iff.2 ⟨k, h3, nearB_less h4 hm⟩⟩
theorem metK_less {d : Dr} {i k m n : Nat} (h : metK d i k n = true) (hm : m ≤ n) : metK d i k m = true := by
  unfold metK at h ⊢
  rw [Bool.or_eq_true] at h ⊢
  rcases h with h | h
  · exact .inl (metI_less h hm)
  · obtain ⟨k', h3, h4⟩ := anyTo_iff.1 h
    exact .inr (anyTo_iff.2 ⟨k', h3, nearB_less h4 hm⟩)
def Clm (S : Nat) (P : Nat → Bool) (m : Nat) : Prop := 1 ≤ m ∧ m ≤ S + 1 ∧ (∀ j, 1 ≤ j → j < m → P j = true) ∧ (m ≤ S → P m = false)
theorem Clm.step {S m n : Nat} {d : Dr} {i k : Nat} (h : Clm S (metK d i k) m) (h1 : ∀ j, j < n → m + j ≤ S ∧ nearB d.wear (cardE d i) (cardE d k) (m + j) = true) (h2 : m + n ≤ S + 1) (h3 : m + n ≤ S → nearB d.wear (cardE d i) (cardE d k) (m + n) = false) :
    Clm S (metK d i (k + 1)) (m + n) := by
  obtain ⟨a, b, c, e⟩ := h
  refine ⟨by omega, h2, fun j j1 j2 => ?_, fun hS => ?_⟩
  · rw [metK_succ, Bool.or_eq_true]
    by_cases hj : j < m
    · exact .inl (c j j1 hj)
    · have := (h1 (j - m) (by omega)).2
      rw [show m + (j - m) = j by omega] at this
      exact .inr this
  · rw [metK_succ, Bool.or_eq_false_iff]
    refine ⟨?_, h3 hS⟩
    cases hm : metK d i k (m + n) with
    | false => rfl
    | true => have := metK_less hm (show m ≤ m + n by omega); rw [e (by omega)] at this; cases this
end Go.Proofs.YtiighcpimecehaaGreat
end
section
namespace Go.Proofs.YtiighcpimecehaaGreat
open Go.Proofs

structure Mo.Ok (m : Mo) : Prop where
  w4 : m.who.length ≤ 4
  s5 : m.sums.length ≤ 5
  o6 : m.words.length ≤ 6
  p5 : m.paid.length ≤ 5
  sums : ∀ x ∈ m.sums, 1 ≤ x.pence ∧ x.pence ≤ 99 ∧ 1 ≤ x.fr ∧ x.fr ≤ 2 ^ m.who.length - 1
  words : ∀ (i : Nat) w, m.words[i]? = some w → 0 ≤ w.says ∧ w.says ≤ 3 ∧ 0 ≤ w.sum ∧ w.sum < m.sums.length ∧ 0 ≤ w.of ∧ (2 ≤ w.says → w.of < m.sums.length ∧ w.of ≠ w.sum) ∧ (w.says < 2 → w.of < m.who.length) ∧ -1 ≤ w.back ∧ w.back < m.words.length ∧ w.back ≠ i
  paid : ∀ p ∈ m.paid, 0 ≤ p.sum ∧ p.sum < m.sums.length ∧ 0 ≤ p.who ∧ p.who < m.who.length
theorem out_false {lo hi n : Int} (h : out lo hi n = false) : lo ≤ n ∧ n ≤ hi := by
  unfold out at h
  rw [Bool.or_eq_false_iff, decide_eq_false_iff_not, decide_eq_false_iff_not] at h
  omega
theorem ok_of_checkM {m : Mo} (h : (checkM m).2.2 = 0) : m.Ok ∧ checkM m = (0, 0, 0) := by
  unfold checkM at h ⊢
  by_cases n0 : (partM m 0).2 = 0
  · by_cases n1 : (partM m 1).2 = 0
    · by_cases n2 : (partM m 2).2 = 0
      · by_cases n3 : (partM m 3).2 = 0
        · simp only [n0, n1, n2, n3, ne_eq, not_true, if_false, and_true]
          obtain ⟨_, l0, f0⟩ := failP_zero (show (failP 4 (whoI m) m.who.length).2 = 0 from n0)
          obtain ⟨_, l1, f1⟩ := failP_zero (show (failP 5 (sumI m) m.sums.length).2 = 0 from n1)
          obtain ⟨_, l2, f2⟩ := failP_zero (show (failP 6 (wordI m) m.words.length).2 = 0 from n2)
          obtain ⟨_, l3, f3⟩ := failP_zero (show (failP 5 (paidI m) m.paid.length).2 = 0 from n3)
          refine ⟨by omega, by omega, by omega, by omega, ?_, ?_, ?_⟩
          · intro x hx
            obtain ⟨i, hi, hxi⟩ := mem_get hx
            have := firstBad_none f1 i (Nat.zero_le _) (by omega)
            simp only [sumI, hxi, sumE] at this
            split at this
            · split at this
              · cases this
              · split at this
                · cases this
                · rename_i h3
                  have h3 : (out 1 99 x.pence || out 1 (bitsN m.who.length) x.fr) = false := by simpa using h3
                  rw [Bool.or_eq_false_iff] at h3
                  have a := out_false h3.1
                  have b := out_false h3.2
                  unfold bitsN at b
                  omega
            · cases this
          · intro i w hw
            have hi := (List.getElem?_eq_some_iff.1 hw).1
            have := firstBad_none f2 i (Nat.zero_le _) (by omega)
            simp only [wordI, hw, wordE] at this
            by_cases a1 : out 0 3 w.says = true
            · rw [if_pos a1] at this; cases this
            rw [if_neg a1] at this
            by_cases a2 : (out 0 ((m.sums.length : Int) - 1) w.sum || (out 0 ((if 2 ≤ w.says then (m.sums.length : Int) else m.who.length) - 1) w.of || out (-1) ((m.words.length : Int) - 1) w.back)) = true
            · rw [if_pos a2] at this; cases this
            rw [if_neg a2] at this
            by_cases a3 : (w.back == (i : Int) || (decide (2 ≤ w.says) && w.of == w.sum)) = true
            · rw [if_pos a3] at this; cases this
            have a1 := out_false (Bool.not_eq_true _ ▸ a1)
            have a2 := Bool.not_eq_true _ ▸ a2
            rw [Bool.or_eq_false_iff, Bool.or_eq_false_iff] at a2
            obtain ⟨b1, b2, b3⟩ := a2
            have b1 := out_false b1
            have b2 := out_false b2
            have b3 := out_false b3
            simp only [Bool.or_eq_true, Bool.and_eq_true, beq_iff_eq, decide_eq_true_eq, not_or, not_and] at a3
            refine ⟨a1.1, a1.2, b1.1, by omega, b2.1, fun h2 => ?_, fun h2 => ?_, b3.1, by omega, a3.1⟩
            · rw [if_pos h2] at b2; exact ⟨by omega, a3.2 h2⟩
            · rw [if_neg (by omega)] at b2; omega
          · intro p hp
            obtain ⟨i, hi, hxi⟩ := mem_get hp
            have := firstBad_none f3 i (Nat.zero_le _) (by omega)
            simp only [paidI, hxi, paidE] at this
            split at this
            · cases this
            rename_i h3
            have h3 : (out 0 ((m.sums.length : Int) - 1) p.sum || out 0 ((m.who.length : Int) - 1) p.who) = false := by simpa using h3
            rw [Bool.or_eq_false_iff] at h3
            have a := out_false h3.1
            have b := out_false h3.2
            omega
        · simp only [n0, n1, n2, n3, ne_eq, not_true, not_false_eq_true, if_false, if_true] at h
      · simp only [n0, n1, n2, ne_eq, not_true, not_false_eq_true, if_false, if_true] at h
    · simp only [n0, n1, ne_eq, not_true, not_false_eq_true, if_false, if_true] at h
  · simp only [n0, ne_eq, not_false_eq_true, if_true] at h

def eLc (m : Mo) (came : Nat) (q : Nat) (ev : List Int) : List AV := [.lst 0 m.zw (S m.who), .lst 0 m.zs (m.sums.map eSu), .lst 0 m.zo (m.words.map eWo), .lst 0 m.zp (m.paid.map ePd), .int .i64 came, .mapr q] ++ I ev
def backAt (m : Mo) (i at' : Nat) : Bool := match m.words[i]? with | some w => w.back == (at' : Int) | none => false
def countB (m : Mo) (came at' : Nat) : Bool := allTo (fun i => !(backAt m i at' && came.testBit i)) m.words.length && came.testBit at'
theorem shr64 : ∀ s : Fin 64, ∀ i : Fin 6, (IntKind.i64.wrap (BitVec.ofInt 64 (((s.1 : Nat) : Int).fdiv (2 ^ (min i.1 64))) &&& 1#64).toNat == 1) = s.1.testBit i.1 := by decide +kernel
theorem shr_c {s i : Nat} (hs : s < 64) (hi : i < 6) : (IntKind.i64.wrap (BitVec.ofInt 64 ((s : Int).fdiv (2 ^ (min i 64))) &&& 1#64).toNat == 1) = s.testBit i := shr64 ⟨s, hs⟩ ⟨i, hi⟩
def firstE (p : Nat → Bool) (i : Nat) : Int := if p i then 0 else 1
theorem firstE_all {p : Nat → Bool} {n : Nat} : firstBad (firstE p) 0 n = none ↔ allTo p n = true := by
  constructor
  · intro h
    rw [allTo_iff]
    intro k hk
    have := firstBad_none h k (Nat.zero_le _) (by omega)
    unfold firstE at this
    split at this
    · assumption
    · cases this
  · intro h
    cases hf : firstBad (firstE p) 0 n with
    | none => rfl
    | some k =>
      obtain ⟨_, h1, h2, _⟩ := firstBad_some hf
      exact absurd (by unfold firstE; rw [if_pos (allTo_iff.1 h k (by omega))]) h2
theorem firstE_zero {p : Nat → Bool} {i : Nat} : firstE p i = 0 ↔ p i = true := by
  unfold firstE; split
  · rename_i h; simp [h]
  · rename_i h; simp [h]
theorem m162 (m : Mo) (hm : m.fits) (ho : m.Ok) (came : Nat) (hc : came < 64) (q : Nat) (ev : List Int) (r at' : Nat) (hat : at' < m.words.length) (h : Heap) (hr : h.b[r]? = some (.cells (eLc m came q ev))) :
   (EW tabX).call 162 [.ref r 0, .int .i64 at'] h = some (.bool (countB m came at'), h) := by
  obtain ⟨B, ht⟩ := h
  have hr : B[r]? = some (.cells (eLc m came q ev)) := hr
  simp only [eLc, List.cons_append, List.nil_append] at hr
  have oR := old hr
  have o6 := ho.o6
  have hz := fun (hne : 0 < m.words.length) => hm.zo (by intro e; rw [e] at hne; simp at hne)
  have hsa := shr_c hc (show at' < 6 by omega)
  have step : ∀ k c, m.words[k]? = some c → B ++ (m.words.take (k + 1)).map bWo = B ++ (m.words.take k).map bWo ++ [bWo c] := fun k c hx => by rw [map_succ _ hx, List.append_assoc]
  rw [w_call _ fn_162 rfl]
  simp only [go_sem, ↓reduceIte, simprocAttr, hr, oR]
  rw [w_first (fun k => [(13, .int .i64 k)]) (fun k => ⟨B ++ (m.words.take k).map bWo, ht⟩) (firstE fun i => !(backAt m i at' && came.testBit i)) m.words.length .ret (fun n => [(4, .bool false), (5, .int .i64 n), (6, .ref (B ++ (m.words.take n).map bWo).length 0), (13, .int .i64 n)]) (fun n => ⟨B ++ (m.words.take (n + 1)).map bWo, ht⟩) (.exit 0) [(13, .int .i64 m.words.length)] ⟨B ++ m.words.map bWo, ht⟩ ?_ ?_ ?_ ?_ ?_ rfl rfl]
  · unfold firstW countB
    cases hf : firstBad (firstE fun i => !(backAt m i at' && came.testBit i)) 0 m.words.length with
    | some n =>
      have : allTo (fun i => !(backAt m i at' && came.testBit i)) m.words.length = false := by
        cases ha : allTo (fun i => !(backAt m i at' && came.testBit i)) m.words.length with
        | false => rfl
        | true => rw [firstE_all.2 ha] at hf; cases hf
      rw [this]
      simp only [go_sem, ↓reduceIte, simprocAttr]
    | none =>
      rw [firstE_all.1 hf]
      simp only [go_sem, ↓reduceIte, simprocAttr, oR]
      generalize hgg : (IntKind.i64.wrap _ == (1 : Int)) = bb
      obtain rfl : bb = came.testBit at' := hgg.symm.trans hsa
      rfl
  · simp only [go_sem, ↓reduceIte, simprocAttr]
  · simp only [go_sem, ↓reduceIte, simprocAttr]
  · intro k hk h0
    have hx := List.getElem?_eq_getElem hk
    have hki : (k : Int) < m.words.length := by omega
    have hz1 := hz (by omega)
    have h0 := firstE_zero.1 h0
    have hsk := shr_c hc (show k < 6 by omega)
    have hb : backAt m k at' = (m.words[k].back == (at' : Int)) := by unfold backAt; rw [hx]
    rw [hb] at h0
    rw [step k _ hx]
    have oC := old hr ((m.words.take k).map bWo)
    generalize B ++ (m.words.take k).map bWo = C at oC ⊢
    have oC2 := old oC
    cases h1 : m.words[k].back == (at' : Int) with
    | false => simp (disch := omega) only [go_sem, ↓reduceIte, simprocAttr, hki, hz1, eWo_get, hx, eWo, bWo, oC, oC2, wrap_i64, h1]
    | true =>
      rw [h1] at h0
      have h2 : came.testBit k = false := by simpa using h0
      rw [h2] at hsk
      simp (disch := omega) only [go_sem, ↓reduceIte, simprocAttr, hki, hz1, eWo_get, hx, eWo, bWo, oC, oC2, wrap_i64, h1]
      rw [if_neg (by intro hh; exact Bool.false_ne_true (hsk.symm.trans hh))]
  · intro k hk h0
    have hx := List.getElem?_eq_getElem hk
    have hki : (k : Int) < m.words.length := by omega
    have hz1 := hz (by omega)
    have hsk := shr_c hc (show k < 6 by omega)
    have hb : backAt m k at' = (m.words[k].back == (at' : Int)) := by unfold backAt; rw [hx]
    have h0 : (!(backAt m k at' && came.testBit k)) = false := by
      cases hh : (!(backAt m k at' && came.testBit k)) with
      | false => rfl
      | true => exact absurd (firstE_zero.2 hh) h0
    rw [hb] at h0
    have h1 : (m.words[k].back == (at' : Int)) = true ∧ came.testBit k = true := by simpa using h0
    rw [h1.2] at hsk
    rw [step k _ hx]
    have oC := old hr ((m.words.take k).map bWo)
    generalize B ++ (m.words.take k).map bWo = C at oC ⊢
    have oC2 := old oC
    simp (disch := omega) only [go_sem, ↓reduceIte, simprocAttr, hki, hz1, eWo_get, hx, eWo, bWo, oC, oC2, wrap_i64, h1.1]
    rw [if_pos (by exact hsk)]
  · simp only [go_sem, ↓reduceIte, simprocAttr, Int.lt_irrefl]
end Go.Proofs.YtiighcpimecehaaGreat
end
section
namespace Go.Proofs.YtiighcpimecehaaGreat
open Go.Proofs

section
variable (X : Tab) {E : Eng} {L : List Nat} {all : List Oper}
noncomputable def guardM (E : Eng) (L : List Nat) (all : List Oper) (n0 : Nat × Nat) (c : Bool) (i : Nat) (d : Option Tmp) (op : Op) (r : List (Nat × Bool)) (t : Tmp) (want : Bool) (s : St) (b : Option Bool) : Option St := match b with
  | some b => if b = want then
      bindW (opAt X E (!c) (n0.1 + (all.length - 1 - i), n0.2 + i) op (setF L s.fr t (.bool want)) s.h) (fun x => runL X E L all n0 r ⟨setD L (setF L s.fr t (.bool want)) d x.1, x.2, s.ms⟩) .mk
    else runL X E L all n0 r ⟨setD L (setF L s.fr t (.bool !want)) d .und, s.h, s.ms⟩
  | none => runL X E L all n0 r ⟨setD L s.fr d .und, s.h, s.ms⟩
theorem guardM_some (n0 c i d op r t want s b) : guardM X E L all n0 c i d op r t want s (some b) = if b = want then
      bindW (opAt X E (!c) (n0.1 + (all.length - 1 - i), n0.2 + i) op (setF L s.fr t (.bool want)) s.h) (fun x => runL X E L all n0 r ⟨setD L (setF L s.fr t (.bool want)) d x.1, x.2, s.ms⟩) .mk
    else runL X E L all n0 r ⟨setD L (setF L s.fr t (.bool !want)) d .und, s.h, s.ms⟩ := _root_.id rfl
theorem guardM_none (n0 c i d op r t want s) : guardM X E L all n0 c i d op r t want s none = runL X E L all n0 r ⟨setD L s.fr d .und, s.h, s.ms⟩ := _root_.id rfl
theorem m_g (n0 : Nat × Nat) (c : Bool) (i : Nat) (d : Option Tmp) (op : Op) (ty : TypeId) (po : String) (af : Array Edge) (gi : Nat) (want : Bool) (r : List (Nat × Bool)) (s : St) :
    oneM X E L all n0 c i ⟨d, op, ty, po, af, some (gi, want)⟩ r s = bindW (guardOf all (gi, want)) (fun g => guardW (getF s.fr g.1) (guardM X E L all n0 c i d op r g.1 g.2 s) .mk) .mk := by
  simp only [oneM, oneOp, thenK_eq, setFK_eq, setDstK_eq]
  cases guardOf all (gi, want) with
  | none => rfl
  | some tw =>
    obtain ⟨t, w⟩ := tw
    simp only [bindW, Option.bind_some, guardW, guardM]
    cases getF s.fr t <;> rfl
end
attribute [go_sem] guardM_some guardM_none m_g
def eSay : List AV := [.clo 165 [] [], .clo 166 [] [], .clo 165 [] [], .clo 166 [] []]
theorem m161 (h : Heap) : callPure (EW tabX) 161 [] h = some (.agg eSay, h) := by
  rw [callPure_eq, w_call _ fn_161 rfl]
  simp only [go_sem, ↓reduceIte, simprocAttr, zipFrom_nil, eSay]
theorem m165 (x y : Int) (h : Heap) : callPure (EW tabX) 165 [.int .i64 x, .int .i64 y] h = some (.bool (x == y), h) := by
  rw [callPure_eq, w_call _ fn_165 rfl]
  simp only [go_sem, ↓reduceIte, simprocAttr]
theorem m166 (x y : Int) (h : Heap) : callPure (EW tabX) 166 [.int .i64 x, .int .i64 y] h = some (.bool (x != y), h) := by
  rw [callPure_eq, w_call _ fn_166 rfl]
  simp only [go_sem, ↓reduceIte, simprocAttr]
def soB (w : Wo) (a : List Int) : Bool :=
  let x := a.getD w.sum.toNat 0
  let y := if 2 ≤ w.says then a.getD w.of.toNat 0 else w.of
  if w.says = 0 ∨ w.says = 2 then x == y else x != y
def lastW (w : Wo) : Int := if 2 ≤ w.says then max w.sum w.of else w.sum
def okW (m : Mo) (came : Nat) (a : List Int) (sum : Nat) (i : Nat) : Bool := match m.words[i]? with
  | some w => !(lastW w == (sum : Int) && (countB m came i && !soB w a))
  | none => true
def keptB (m : Mo) (came : Nat) (a : List Int) (sum : Nat) : Bool := allTo (okW m came a sum) m.words.length
theorem max_lt (x y : Int) : (if x < y then y else x) = max x y := by omega
set_option maxHeartbeats 2000000 in
theorem m154 (m : Mo) (hm : m.fits) (ho : m.Ok) (came : Nat) (hc : came < 64) (q : Nat) (ev : List Int) (r : Nat) (a : List Int) (ha : a.length = 5) (sum : Nat) (h : Heap) (hr : h.b[r]? = some (.cells (eLc m came q ev))) :
   ∃ F, (EW tabX).call 154 [.ref r 0, .agg (I a), .int .i64 sum] h = some (.bool (keptB m came a sum), ⟨h.b, h.t ++ F⟩) := by
  obtain ⟨B, ht⟩ := h
  have hr : B[r]? = some (.cells (eLc m came q ev)) := hr
  have o6 := ho.o6
  have o5 := ho.s5
  have h162 := fun (k : Nat) (hk : k < m.words.length) (C : List ABlk) (t : List Bool) (hC : C[r]? = some (.cells (eLc m came q ev))) => m162 m hm ho came hc q ev r k hk ⟨C, t⟩ hC
  have hrl := (List.getElem?_eq_some_iff.1 hr).1
  simp only [eLc, List.cons_append, List.nil_append] at hr h162
  have oR := old hr
  have hz := fun (hne : 0 < m.words.length) => hm.zo (by intro e; rw [e] at hne; simp at hne)
  have hlB : ∀ k, r < B.length + k := fun k => by omega
  rw [w_call _ fn_154 rfl]
  simp only [go_sem, ↓reduceIte, simprocAttr, hr, oR, m161, eSay, hlB]
  generalize hx : (EW tabX).code 154 none (Code.loop _) _ = x
  refine w_rounds_sq hx (fun k (s : List ABlk × List Bool) => [(22, .int .i64 k)]) (fun s => ⟨B ++ (.cells (I a) :: .cells eSay :: s.1), ht ++ s.2⟩) (fun k s => allTo (okW m came a sum) k = true) m.words.length
    (fun e V s => (e = .exit 0 ∧ keptB m came a sum = true ∧ V = [(22, .int .i64 m.words.length)]) ∨ (e = .ret ∧ keptB m came a sum = false ∧ ∃ x9 x10 x11 x12 x22, V = [(6, .bool false), (9, x9), (10, x10), (11, x11), (12, x12), (22, x22)])) ([], []) ?_ ?_ ?_ ?_ ?_ ?_
  · simp only [go_sem, ↓reduceIte, simprocAttr]
  · simp only [go_sem, ↓reduceIte, simprocAttr, eSay]
  · rfl
  · intro k s hk hR
    obtain ⟨J, F⟩ := s
    simp only
    have hx := List.getElem?_eq_getElem hk
    have hki : (k : Int) < m.words.length := by omega
    have hz1 := hz (by omega)
    obtain ⟨w1, w2, w3, w4, w5, w6, w7, w8, w9, w10⟩ := ho.words k _ hx
    generalize m.words[k] = w at hx w1 w2 w3 w4 w5 w6 w7 w8 w9 w10
    obtain ⟨says, sm, of, back, cm⟩ := w
    simp only at w1 w2 w3 w4 w5 w6 w7 w8 w9 w10
    have oC := old hr (.cells (I a) :: .cells eSay :: J)
    have oA : (B ++ (.cells (I a) :: .cells eSay :: J))[B.length]? = some (.cells (I a)) := by simp
    have oS : (B ++ (.cells (I a) :: .cells eSay :: J))[B.length + 1]? = some (.cells eSay) := by simp
    generalize hC : B ++ (.cells (I a) :: .cells eSay :: J) = C at oC oA oS ⊢
    have oC2 := old oC
    have oA2 := old oA
    have oS2 := old oS
    simp only [eSay] at oS2
    obtain ⟨p, rfl⟩ := Int.eq_ofNat_of_zero_le w3
    have hp5 : p < a.length := by omega
    have hpi : (p : Int) < 5 := by omega
    have hpn : p < 5 := by omega
    have hpa := List.getElem?_eq_getElem hp5
    have hpd : (List.drop p a)[0]? = some a[p] := by rw [List.getElem?_drop, Nat.add_zero]; exact hpa
    have hs : says = 0 ∨ says = 1 ∨ says = 2 ∨ says = 3 := by omega
    rcases hs with rfl | rfl | rfl | rfl
    · have hw : okW m came a sum k = !((p : Int) == (sum : Int) && (countB m came k && !(a[p] == of))) := by unfold okW; rw [hx]; simp [soB, lastW, hpa]
      simp (disch := omega) only [go_sem, ↓reduceIte, simprocAttr, hki, hz1, eWo_get, hx, eWo, bWo, oC, oC2, oA2, oS2, wrap_i64]
      generalize hcf : okFam _ _ _ = cf
      obtain rfl : cf = true := by rw [← hcf]; kernel_rfl
      generalize List.replicate _ ABlk.none = N
      generalize List.replicate _ false = Z
      have h162 := h162 k hk (C ++ (bWo ⟨0, p, of, back, cm⟩ :: N)) (ht ++ (F ++ Z)) (old oC _)
      simp only [bWo] at h162
      cases e1 : (p : Int) == (sum : Int) with
      | false => exact .inl ⟨⟨J ++ (bWo ⟨0, p, of, back, cm⟩ :: N), F ++ Z⟩, by simp (disch := omega) only [go_sem, ↓reduceIte, simprocAttr, oC2, oA2, oS2, wrap_i64, e1]; simp only [← hC, bWo, List.append_assoc, List.cons_append, List.nil_append], by rw [allTo_succ, hR, hw]; simp [e1]⟩
      | true =>
        cases e2 : countB m came k with
        | false => exact .inl ⟨⟨J ++ (bWo ⟨0, p, of, back, cm⟩ :: N), F ++ Z⟩, by simp (disch := omega) only [go_sem, ↓reduceIte, simprocAttr, oC2, oA2, oS2, wrap_i64, e1, h162, e2]; simp only [← hC, bWo, List.append_assoc, List.cons_append, List.nil_append], by rw [allTo_succ, hR, hw]; simp [e1, e2]⟩
        | true =>
          cases e3 : a[p] == of with
          | true => exact .inl ⟨⟨J ++ (bWo ⟨0, p, of, back, cm⟩ :: N), F ++ Z⟩, by simp (disch := omega) only [go_sem, ↓reduceIte, simprocAttr, oC2, oA2, oS2, wrap_i64, e1, h162, e2, hpi, hpn, Nat.mul_one, hpd, I_drop, I_get, m165, e3]; simp only [← hC, bWo, List.append_assoc, List.cons_append, List.nil_append], by rw [allTo_succ, hR, hw]; simp [e1, e2, e3]⟩
          | false => exact .inr ⟨_, [(6, .bool false), (9, .int .i64 k), (10, .ref C.length 0), (11, .int .i64 ((p : Int))), (12, .int .i64 (of)), (22, .int .i64 k)], ⟨J ++ (bWo ⟨0, p, of, back, cm⟩ :: N), F ++ Z⟩, by simp (disch := omega) only [go_sem, ↓reduceIte, simprocAttr, oC2, oA2, oS2, wrap_i64, e1, h162, e2, hpi, hpn, Nat.mul_one, hpd, I_drop, I_get, m165, e3]; simp only [← hC, bWo, List.append_assoc, List.cons_append, List.nil_append], rfl, .inr ⟨rfl, by unfold keptB; exact Bool.eq_false_iff.2 (fun h => by have := allTo_iff.1 h k hk; rw [hw] at this; simp [e1, e2, e3] at this), _, _, _, _, _, rfl⟩⟩
    · have hw : okW m came a sum k = !((p : Int) == (sum : Int) && (countB m came k && !(a[p] != of))) := by unfold okW; rw [hx]; simp [soB, lastW, hpa]
      simp (disch := omega) only [go_sem, ↓reduceIte, simprocAttr, hki, hz1, eWo_get, hx, eWo, bWo, oC, oC2, oA2, oS2, wrap_i64]
      generalize hcf : okFam _ _ _ = cf
      obtain rfl : cf = true := by rw [← hcf]; kernel_rfl
      generalize List.replicate _ ABlk.none = N
      generalize List.replicate _ false = Z
      have h162 := h162 k hk (C ++ (bWo ⟨1, p, of, back, cm⟩ :: N)) (ht ++ (F ++ Z)) (old oC _)
      simp only [bWo] at h162
      cases e1 : (p : Int) == (sum : Int) with
      | false => exact .inl ⟨⟨J ++ (bWo ⟨1, p, of, back, cm⟩ :: N), F ++ Z⟩, by simp (disch := omega) only [go_sem, ↓reduceIte, simprocAttr, oC2, oA2, oS2, wrap_i64, e1]; simp only [← hC, bWo, List.append_assoc, List.cons_append, List.nil_append], by rw [allTo_succ, hR, hw]; simp [e1]⟩
      | true =>
        cases e2 : countB m came k with
        | false => exact .inl ⟨⟨J ++ (bWo ⟨1, p, of, back, cm⟩ :: N), F ++ Z⟩, by simp (disch := omega) only [go_sem, ↓reduceIte, simprocAttr, oC2, oA2, oS2, wrap_i64, e1, h162, e2]; simp only [← hC, bWo, List.append_assoc, List.cons_append, List.nil_append], by rw [allTo_succ, hR, hw]; simp [e1, e2]⟩
        | true =>
          cases e3 : a[p] != of with
          | true => exact .inl ⟨⟨J ++ (bWo ⟨1, p, of, back, cm⟩ :: N), F ++ Z⟩, by simp (disch := omega) only [go_sem, ↓reduceIte, simprocAttr, oC2, oA2, oS2, wrap_i64, e1, h162, e2, hpi, hpn, Nat.mul_one, hpd, I_drop, I_get, m166, e3]; simp only [← hC, bWo, List.append_assoc, List.cons_append, List.nil_append], by rw [allTo_succ, hR, hw]; simp [e1, e2, e3]⟩
          | false => exact .inr ⟨_, [(6, .bool false), (9, .int .i64 k), (10, .ref C.length 0), (11, .int .i64 ((p : Int))), (12, .int .i64 (of)), (22, .int .i64 k)], ⟨J ++ (bWo ⟨1, p, of, back, cm⟩ :: N), F ++ Z⟩, by simp (disch := omega) only [go_sem, ↓reduceIte, simprocAttr, oC2, oA2, oS2, wrap_i64, e1, h162, e2, hpi, hpn, Nat.mul_one, hpd, I_drop, I_get, m166, e3]; simp only [← hC, bWo, List.append_assoc, List.cons_append, List.nil_append], rfl, .inr ⟨rfl, by unfold keptB; exact Bool.eq_false_iff.2 (fun h => by have := allTo_iff.1 h k hk; rw [hw] at this; simp [e1, e2, e3] at this), _, _, _, _, _, rfl⟩⟩
    · obtain ⟨o, rfl⟩ := Int.eq_ofNat_of_zero_le w5
      have ho5 : o < a.length := by have := w6 (by omega); omega
      have hoi : (o : Int) < 5 := by omega
      have hon : o < 5 := by omega
      have hoa := List.getElem?_eq_getElem ho5
      have hod : (List.drop o a)[0]? = some a[o] := by rw [List.getElem?_drop, Nat.add_zero]; exact hoa
      have hw : okW m came a sum k = !(max (p : Int) o == (sum : Int) && (countB m came k && !(a[p] == a[o]))) := by unfold okW; rw [hx]; simp [soB, lastW, hpa, hoa]
      simp (disch := omega) only [go_sem, ↓reduceIte, simprocAttr, hki, hz1, eWo_get, hx, eWo, bWo, oC, oC2, oA2, oS2, wrap_i64, hoi, hon, Nat.mul_one, hod, I_drop, I_get, opMax, max_lt]
      generalize hcf : okFam _ _ _ = cf
      obtain rfl : cf = true := by rw [← hcf]; kernel_rfl
      generalize List.replicate _ ABlk.none = N
      generalize List.replicate _ false = Z
      have h162 := h162 k hk (C ++ (bWo ⟨2, p, o, back, cm⟩ :: N)) (ht ++ (F ++ Z)) (old oC _)
      simp only [bWo] at h162
      cases e1 : max (p : Int) o == (sum : Int) with
      | false => exact .inl ⟨⟨J ++ (bWo ⟨2, p, o, back, cm⟩ :: N), F ++ Z⟩, by simp (disch := omega) only [go_sem, ↓reduceIte, simprocAttr, oC2, oA2, oS2, wrap_i64, max_lt, e1]; simp only [← hC, bWo, List.append_assoc, List.cons_append, List.nil_append], by rw [allTo_succ, hR, hw]; simp [e1]⟩
      | true =>
        cases e2 : countB m came k with
        | false => exact .inl ⟨⟨J ++ (bWo ⟨2, p, o, back, cm⟩ :: N), F ++ Z⟩, by simp (disch := omega) only [go_sem, ↓reduceIte, simprocAttr, oC2, oA2, oS2, wrap_i64, max_lt, e1, h162, e2]; simp only [← hC, bWo, List.append_assoc, List.cons_append, List.nil_append], by rw [allTo_succ, hR, hw]; simp [e1, e2]⟩
        | true =>
          cases e3 : a[p] == a[o] with
          | true => exact .inl ⟨⟨J ++ (bWo ⟨2, p, o, back, cm⟩ :: N), F ++ Z⟩, by simp (disch := omega) only [go_sem, ↓reduceIte, simprocAttr, oC2, oA2, oS2, wrap_i64, max_lt, e1, h162, e2, hpi, hpn, Nat.mul_one, hpd, I_drop, I_get, m165, e3]; simp only [← hC, bWo, List.append_assoc, List.cons_append, List.nil_append], by rw [allTo_succ, hR, hw]; simp [e1, e2, e3]⟩
          | false => exact .inr ⟨_, [(6, .bool false), (9, .int .i64 k), (10, .ref C.length 0), (11, .int .i64 (max (p : Int) o)), (12, .int .i64 (a[o])), (22, .int .i64 k)], ⟨J ++ (bWo ⟨2, p, o, back, cm⟩ :: N), F ++ Z⟩, by simp (disch := omega) only [go_sem, ↓reduceIte, simprocAttr, oC2, oA2, oS2, wrap_i64, max_lt, e1, h162, e2, hpi, hpn, Nat.mul_one, hpd, I_drop, I_get, m165, e3]; simp only [← hC, bWo, List.append_assoc, List.cons_append, List.nil_append], rfl, .inr ⟨rfl, by unfold keptB; exact Bool.eq_false_iff.2 (fun h => by have := allTo_iff.1 h k hk; rw [hw] at this; simp [e1, e2, e3] at this), _, _, _, _, _, rfl⟩⟩
    · obtain ⟨o, rfl⟩ := Int.eq_ofNat_of_zero_le w5
      have ho5 : o < a.length := by have := w6 (by omega); omega
      have hoi : (o : Int) < 5 := by omega
      have hon : o < 5 := by omega
      have hoa := List.getElem?_eq_getElem ho5
      have hod : (List.drop o a)[0]? = some a[o] := by rw [List.getElem?_drop, Nat.add_zero]; exact hoa
      have hw : okW m came a sum k = !(max (p : Int) o == (sum : Int) && (countB m came k && !(a[p] != a[o]))) := by unfold okW; rw [hx]; simp [soB, lastW, hpa, hoa]
      simp (disch := omega) only [go_sem, ↓reduceIte, simprocAttr, hki, hz1, eWo_get, hx, eWo, bWo, oC, oC2, oA2, oS2, wrap_i64, hoi, hon, Nat.mul_one, hod, I_drop, I_get, opMax, max_lt]
      generalize hcf : okFam _ _ _ = cf
      obtain rfl : cf = true := by rw [← hcf]; kernel_rfl
      generalize List.replicate _ ABlk.none = N
      generalize List.replicate _ false = Z
      have h162 := h162 k hk (C ++ (bWo ⟨3, p, o, back, cm⟩ :: N)) (ht ++ (F ++ Z)) (old oC _)
      simp only [bWo] at h162
      cases e1 : max (p : Int) o == (sum : Int) with
      | false => exact .inl ⟨⟨J ++ (bWo ⟨3, p, o, back, cm⟩ :: N), F ++ Z⟩, by simp (disch := omega) only [go_sem, ↓reduceIte, simprocAttr, oC2, oA2, oS2, wrap_i64, max_lt, e1]; simp only [← hC, bWo, List.append_assoc, List.cons_append, List.nil_append], by rw [allTo_succ, hR, hw]; simp [e1]⟩
      | true =>
        cases e2 : countB m came k with
        | false => exact .inl ⟨⟨J ++ (bWo ⟨3, p, o, back, cm⟩ :: N), F ++ Z⟩, by simp (disch := omega) only [go_sem, ↓reduceIte, simprocAttr, oC2, oA2, oS2, wrap_i64, max_lt, e1, h162, e2]; simp only [← hC, bWo, List.append_assoc, List.cons_append, List.nil_append], by rw [allTo_succ, hR, hw]; simp [e1, e2]⟩
        | true =>
          cases e3 : a[p] != a[o] with
          | true => exact .inl ⟨⟨J ++ (bWo ⟨3, p, o, back, cm⟩ :: N), F ++ Z⟩, by simp (disch := omega) only [go_sem, ↓reduceIte, simprocAttr, oC2, oA2, oS2, wrap_i64, max_lt, e1, h162, e2, hpi, hpn, Nat.mul_one, hpd, I_drop, I_get, m166, e3]; simp only [← hC, bWo, List.append_assoc, List.cons_append, List.nil_append], by rw [allTo_succ, hR, hw]; simp [e1, e2, e3]⟩
          | false => exact .inr ⟨_, [(6, .bool false), (9, .int .i64 k), (10, .ref C.length 0), (11, .int .i64 (max (p : Int) o)), (12, .int .i64 (a[o])), (22, .int .i64 k)], ⟨J ++ (bWo ⟨3, p, o, back, cm⟩ :: N), F ++ Z⟩, by simp (disch := omega) only [go_sem, ↓reduceIte, simprocAttr, oC2, oA2, oS2, wrap_i64, max_lt, e1, h162, e2, hpi, hpn, Nat.mul_one, hpd, I_drop, I_get, m166, e3]; simp only [← hC, bWo, List.append_assoc, List.cons_append, List.nil_append], rfl, .inr ⟨rfl, by unfold keptB; exact Bool.eq_false_iff.2 (fun h => by have := allTo_iff.1 h k hk; rw [hw] at this; simp [e1, e2, e3] at this), _, _, _, _, _, rfl⟩⟩
  · intro s hR
    refine ⟨.exit 0, [(22, .int .i64 m.words.length)], s, ?_, rfl, .inl ⟨rfl, hR, rfl⟩⟩
    simp only [go_sem, ↓reduceIte, simprocAttr, Int.lt_irrefl]
  · intro e V s h1 h2
    refine ⟨s.2, ?_⟩
    rcases h2 with ⟨rfl, h2, rfl⟩ | ⟨rfl, h2, x9, x10, x11, x12, x22, rfl⟩
    · rw [h1, h2]
      simp only [go_sem, ↓reduceIte, simprocAttr]
    · rw [h1, h2]
      simp only [go_sem, ↓reduceIte, simprocAttr]
end Go.Proofs.YtiighcpimecehaaGreat
end
section
namespace Go.Proofs.YtiighcpimecehaaGreat
open Go.Proofs

end Go.Proofs.YtiighcpimecehaaGreat
end
section
namespace Go.Proofs.YtiighcpimecehaaGreat
open Go.Proofs

end Go.Proofs.YtiighcpimecehaaGreat
end
section
namespace Go.Proofs.YtiighcpimecehaaGreat
open Go.Proofs

def arrOf (t : List Int) : List Int := t.map (· + 1) ++ List.replicate (4 - t.length) 0
structure FS where
  arr : List Int
  ls : List (List Int)
  least : Nat
  tg : Nat
  z : Nat
  t : List Bool
def OwnQ (sz tag z n : Nat) (t : List Bool) : Prop := (tag = 1 ∧ (n = 0 ∨ z = sz)) ∨ ∃ q, tag = q + 2 ∧ z = sz ∧ t[q]? = some true
def FS.Good (s : FS) (H : Nat) : Prop := OwnQ 4 s.tg s.z s.ls.length s.t ∧ (s.ls = [] → H < s.least) ∧ (∀ u ∈ s.ls, u.length = H) ∧ s.least ≤ H + 1
def eA (t : List Int) : AV := .agg (I (arrOf t))
def FS.l (s : FS) : AV := .lst s.tg s.z (s.ls.map eA)
theorem I_set (l : List Int) (i : Nat) (x : Int) : (I l).set i (.int .i64 x) = I (l.set i x) := by unfold I; rw [List.map_set]
theorem splice1 (c : List AV) (off : Nat) (v : AV) : splice c off [v] = c.set off v := id rfl
theorem callAV_yld2 (X : Tab) (E : Eng) (l : Nat) (args : List AV) (h : Heap) : callAV X E false (.yld l) args h = stepRound X E l args h := id rfl
end Go.Proofs.YtiighcpimecehaaGreat
end
section
namespace Go.Proofs.YtiighcpimecehaaGreat
open Go.Proofs

theorem w_range (X : Tab) (f : Nat) (g : Operand) (ps : Array Tmp) (asg body : Code) (fr : Frm) (hb : List ABlk) (ht : List Bool) (ms : List Nat) {gf : Nat} {fst cap : List AV} (hg : evo fr g = .clo gf fst cap) :
    (EW X).code f none (.rangeFunc g ps asg body) ⟨fr, ⟨hb, ht⟩, ms⟩ = ((EW X).call gf (fst ++ [.yld (hb.length + 1)] ++ cap) ⟨hb ++ [.mark] ++ [.loop false .normal false f fr ps.toList asg body], ht⟩).bind fun r => afterRange (hb.length + 1) fr (hb.length :: ms) r.2 := by
  rw [ew_code]
  show enterRange (EW X) f (evo fr g) ps.toList asg body fr ⟨hb ++ [.mark], ht⟩ (hb.length :: ms) = _
  rw [hg, enterRange_eq]
  simp
theorem splice4 (x0 x1 x2 x3 : AV) (l : List Int) (h : l.length = 4) : splice [x0, x1, x2, x3] 0 (I l) = I l := by
  match l, h with
  | [a, b, c, d], _ => rfl
theorem y2 (L : List Nat) (fr : Frm) (a b : Tmp) (x y : AV) : yieldFr L fr [a, b] [x, y] = some (setF L (setF L fr a x) b y) := by
  simp only [yieldFr, setFK_eq]
end Go.Proofs.YtiighcpimecehaaGreat
end
section
namespace Go.Proofs.YtiighcpimecehaaGreat
open Go.Proofs

def arr5 (t : List Int) : List Int := t ++ List.replicate (5 - t.length) 0
theorem arr5_len {t : List Int} (h : t.length ≤ 5) : (arr5 t).length = 5 := by simp [arr5]; omega
theorem arr5_snoc {t : List Int} (h : t.length < 5) (x : Int) : (arr5 t).set t.length x = arr5 (t ++ [x]) := by
  unfold arr5
  rw [List.set_append_right _ _ (by simp)]
  obtain ⟨k, hk⟩ : ∃ k, 5 - t.length = k + 1 := ⟨5 - t.length - 1, by omega⟩
  have hk2 : 5 - (t ++ [x]).length = k := by simp; omega
  rw [hk2, hk, List.replicate_succ]
  simp
theorem arr5_zero {t : List Int} (h : t.length < 5) : (arr5 t).set t.length 0 = arr5 t := by
  unfold arr5
  rw [List.set_append_right _ _ (by simp)]
  obtain ⟨k, hk⟩ : ∃ k, 5 - t.length = k + 1 := ⟨5 - t.length - 1, by omega⟩
  rw [hk, List.replicate_succ]
  simp
theorem arr5_get {t : List Int} {i : Nat} (h : i < t.length) : (arr5 t)[i]? = t[i]? := by
  unfold arr5; rw [List.getElem?_append_left h]
def forB (m : Mo) (s c : Nat) : Bool := match m.sums[s]? with | some x => x.fr.toNat.testBit c | none => false
def mayM (m : Mo) (came : Nat) (t : List Int) (c : Nat) : Bool := forB m t.length c && keptB m came (arr5 (t ++ [(c : Int)])) t.length
def nextM (m : Mo) (came : Nat) (t : List Int) (k : Nat) : List (List Int) := ((List.range k).filter (mayM m came t)).map fun (c : Nat) => t ++ [(c : Int)]
theorem nextM_succ (m : Mo) (came : Nat) (t : List Int) (k : Nat) : nextM m came t (k + 1) = if mayM m came t k = true then nextM m came t k ++ [t ++ [(k : Int)]] else nextM m came t k := by
  unfold nextM
  rw [List.range_succ, List.filter_append, List.filter_cons, List.filter_nil]
  split <;> simp
theorem nextM_zero (m : Mo) (came : Nat) (t : List Int) : nextM m came t 0 = [] := rfl
def dfsM (m : Mo) (came : Nat) : Nat → List Int → List (List Int)
  | 0, t => [t]
  | n + 1, t => (nextM m came t m.who.length).flatMap (dfsM m came n)
def RowOk (m : Mo) (t : List Int) : Prop := t.length ≤ m.sums.length ∧ ∀ x ∈ t, 0 ≤ x ∧ x < m.who.length
theorem RowOk.snoc {m : Mo} {t : List Int} (h : RowOk m t) (hl : t.length < m.sums.length) {c : Nat} (hc : c < m.who.length) : RowOk m (t ++ [(c : Int)]) := by
  refine ⟨by simp; omega, fun x hx => ?_⟩
  rcases List.mem_append.1 hx with hx | hx
  · exact h.2 x hx
  · simp at hx; subst hx; omega
theorem shrF : ∀ s : Fin 16, ∀ i : Fin 4, (IntKind.i64.wrap (BitVec.ofInt 64 (((s.1 : Nat) : Int).fdiv (2 ^ (min i.1 64))) &&& 1#64).toNat == 0) = !s.1.testBit i.1 := by decide +kernel
theorem shr0_c {s i : Nat} (hs : s < 16) (hi : i < 4) : (IntKind.i64.wrap (((@HAnd.hAnd (BitVec 64) (BitVec 64) (BitVec 64) (@instHAndOfAndOp (BitVec IntKind.i64.bits) (BitVec.instAndOp : AndOp (BitVec IntKind.i64.bits))) (BitVec.ofInt 64 ((s : Int).fdiv (2 ^ (min i 64)))) (1#64)).toNat : Nat) : Int) == 0) = !s.testBit i := shrF ⟨s, hs⟩ ⟨i, hi⟩
structure SP (m : Mo) (came : Nat) (r q b : Nat) (P : List (List Int) → List ABlk) : Prop where
  len : ∀ ts, (P ts).length = b
  at' : ∀ ts, ∃ ev, (P ts)[r]? = some (.cells (eLc m came q ev))
  lt : r < b
def HM (P : List (List Int) → List ABlk) (r b : Nat) (LB : ABlk) (ts : List (List Int)) (arr : List Int) (E : List ABlk) : List ABlk :=
  P ts ++ (.cells [.ref r 0] :: .mark :: LB :: .cells [.yld (b + 2)] :: .cells (I arr) :: .cells [.clo 153 [] [.ref b 0, .ref (b + 3) 0, .ref (b + 4) 0, .ref (b + 5) 0]] :: E)
def RoundM (m : Mo) (P : List (List Int) → List ABlk) (r b : Nat) (LB : ABlk) : Prop :=
  ∀ (ts : List (List Int)) (t : List Int) (E : List ABlk) (tb : List Bool), RowOk m t → t.length = m.sums.length → t ∉ ts → (∀ u ∈ ts, RowOk m u ∧ u.length = m.sums.length) → ∃ J F, stepRound tabX (EW tabX) (b + 2) [.agg (I (arr5 t))] ⟨HM P r b LB ts (arr5 t) E, tb⟩ = some (.bool true, ⟨HM P r b LB (ts ++ [t]) (arr5 t) (E ++ J), tb ++ F⟩)
theorem mem_nextM {m : Mo} {came : Nat} {t u : List Int} {k : Nat} : u ∈ nextM m came t k ↔ ∃ c, c < k ∧ mayM m came t c = true ∧ u = t ++ [(c : Int)] := by
  unfold nextM
  rw [List.mem_map]
  constructor
  · rintro ⟨c, hc, rfl⟩
    obtain ⟨h1, h2⟩ := List.mem_filter.1 hc
    exact ⟨c, List.mem_range.1 h1, h2, rfl⟩
  · rintro ⟨c, h1, h2, rfl⟩
    exact ⟨c, List.mem_filter.2 ⟨List.mem_range.2 h1, h2⟩, rfl⟩
theorem dfsM_pre {m : Mo} {came : Nat} : ∀ {n : Nat} {t u : List Int}, u ∈ dfsM m came n t → ∃ s, u = t ++ s ∧ s.length = n
  | 0, t, u, h => by
    obtain rfl : u = t := by simpa [dfsM] using h
    exact ⟨[], by simp, rfl⟩
  | n + 1, t, u, h => by
    obtain ⟨v, hv, hu⟩ := List.mem_flatMap.1 h
    obtain ⟨c, _, _, rfl⟩ := mem_nextM.1 hv
    obtain ⟨s, rfl, hs⟩ := dfsM_pre hu
    exact ⟨(c : Int) :: s, by simp, by simp [hs]⟩
theorem dfsM_apart {m : Mo} {came : Nat} {n : Nat} {t u : List Int} {k : Nat} (h : u ∈ dfsM m came n (t ++ [(k : Int)])) : u ∉ (nextM m came t k).flatMap (dfsM m came n) := fun h2 => by
  obtain ⟨v, hv, hu⟩ := List.mem_flatMap.1 h2
  obtain ⟨c, hc, _, rfl⟩ := mem_nextM.1 hv
  obtain ⟨s, e1, _⟩ := dfsM_pre h
  obtain ⟨s', e2, _⟩ := dfsM_pre hu
  rw [e1] at e2
  simp only [List.append_assoc, List.singleton_append, List.append_cancel_left_eq, List.cons.injEq] at e2
  omega
theorem dfsM_ok {m : Mo} {came : Nat} : ∀ {n : Nat} {t u : List Int}, RowOk m t → t.length + n = m.sums.length → u ∈ dfsM m came n t → RowOk m u ∧ u.length = m.sums.length
  | 0, t, u, h, hl, hu => by
    obtain rfl : u = t := by simpa [dfsM] using hu
    exact ⟨h, by omega⟩
  | n + 1, t, u, h, hl, hu => by
    obtain ⟨v, hv, hu⟩ := List.mem_flatMap.1 hu
    obtain ⟨c, hc, _, rfl⟩ := mem_nextM.1 hv
    exact dfsM_ok (h.snoc (by omega) hc) (by simp; omega) hu
structure MS where
  ts : List (List Int)
  x : Int
  J : List ABlk
  F : List Bool
set_option maxHeartbeats 2000000 in
theorem m153 (m : Mo) (hm : m.fits) (ho : m.Ok) (came : Nat) (hc : came < 64) (r q b : Nat) (P : List (List Int) → List ABlk) (hP : SP m came r q b P) (LB : ABlk) (hY : RoundM m P r b LB) :
    ∀ (n : Nat) (t : List Int) (ts : List (List Int)) (E : List ABlk) (tb : List Bool), t.length + n = m.sums.length → RowOk m t → (∀ u ∈ dfsM m came n t, u ∉ ts) → (∀ u ∈ ts, RowOk m u ∧ u.length = m.sums.length) →
    ∃ F, (EW tabX).call 153 [.int .i64 t.length, .ref b 0, .ref (b + 3) 0, .ref (b + 4) 0, .ref (b + 5) 0] ⟨HM P r b LB ts (arr5 t) E, tb⟩ = some (.bool true, ⟨HM P r b LB (ts ++ dfsM m came n t) (arr5 t) E, tb ++ F⟩)
  | 0, t, ts, E, tb, hn, hrow, hfr0, hts0 => by
    obtain ⟨J, F, hy⟩ := hY ts t E tb hrow (by omega) (hfr0 t (by simp [dfsM])) hts0
    obtain ⟨ev, hr⟩ := hP.at' ts
    have hlen := hP.len ts
    have hlen2 := hP.len (ts ++ [t])
    have hlt := hP.lt
    refine ⟨F, ?_⟩
    have s5 := ho.s5
    have hth : (t.length : Int) = m.sums.length := by omega
    rw [w_call _ fn_153 rfl]
    simp only [eLc, List.cons_append, List.nil_append] at hr
    simp only [HM] at hy ⊢
    have h4 : 5 ≤ (arr5 t).length := by rw [arr5_len (by omega)]; omega
    have h4' : (arr5 t).take 5 = arr5 t := List.take_of_length_le (by rw [arr5_len (by omega)]; omega)
    generalize hP1 : P ts = P1 at hr hlen hy ⊢
    generalize hP2 : P (ts ++ [t]) = P2 at hlen2 hy
    subst hlen
    have oR := old hr
    have e1 : dfsM m came 0 t = [t] := rfl
    rw [e1, hP2]
    simp only [go_sem, ↓reduceIte, simprocAttr, oR, hth, h4, h4', callAV_yld2, hy]
    rw [← hlen2]
    simp only [List.take_length_add_append, List.take_succ_cons, List.take_left']
  | n + 1, t, ts, E, tb, hn, hrow, hfr0, hts0 => by
    have ih := m153 m hm ho came hc r q b P hP LB hY n
    have hlt := hP.lt
    have s5 := ho.s5
    have w4 := ho.w4
    have ht5 : t.length < 5 := by omega
    have hth : ((t.length : Int) == m.sums.length) = false := by simp; omega
    have hal := arr5_len (t := t) (by omega)
    have hx := List.getElem?_eq_getElem (show t.length < m.sums.length by omega)
    have hzs := hm.zs (by intro e; rw [e] at hn; simp at hn)
    have hfr := ho.sums m.sums[t.length] (List.getElem_mem _)
    have hbw := bitsN_le w4
    obtain ⟨f, hf⟩ := Int.eq_ofNat_of_zero_le (show 0 ≤ m.sums[t.length].fr by omega)
    have hf16 : f < 16 := by omega
    obtain ⟨ev0, hr0⟩ := hP.at' ts
    simp only [eLc, List.cons_append, List.nil_append] at hr0
    have hthI : (t.length : Int) < m.sums.length := by omega
    have ht4 : t.length ≤ 4 := by omega
    have hti : (t.length : Int) < 5 := by omega
    rw [w_call _ fn_153 rfl]
    simp only [HM]
    have hl : ∀ u, (P u).length = b := hP.len
    have hb0 : ∀ (u : List (List Int)) (X : List ABlk), (P u ++ X)[b]? = X[0]? := fun u X => by rw [← hl u]; exact get_at0 _ _
    have hbk : ∀ (u : List (List Int)) (X : List ABlk) (k : Nat), (P u ++ X)[b + k]? = X[k]? := fun u X k => by rw [← hl u]; exact get_at _ _ _
    have hsk : ∀ (u : List (List Int)) (X : List ABlk) (k : Nat) (y : ABlk), (P u ++ X).set (b + k) y = P u ++ X.set k y := fun u X k y => by rw [← hl u]; exact set_at _ _ _ _
    have htk : ∀ (u : List (List Int)) (X : List ABlk) (k : Nat), (P u ++ X).take (b + k) = P u ++ X.take k := fun u X k => by rw [← hl u]; exact List.take_length_add_append _
    have oR0 := old hr0
    simp only [go_sem, ↓reduceIte, simprocAttr, hb0, hbk, oR0, hth]
    generalize hlx : (EW tabX).code 153 none (Code.loop _) _ = x
    refine w_rounds_sk hlx (fun k (s : MS) => [(25, .int .i64 k)]) (fun s => ⟨HM P r b LB s.ts ((arr5 t).set t.length s.x) (E ++ s.J), tb ++ s.F⟩) (fun k s => s.ts = ts ++ (nextM m came t k).flatMap (dfsM m came n)) m.who.length (.exit 0) (fun s => [(25, .int .i64 m.who.length)]) rfl ⟨ts, 0, [], []⟩ ?_ ?_ ?_ ?_ ?_ ?_
    · simp only [go_sem, ↓reduceIte, simprocAttr]
    · simp only [HM, arr5_zero ht5, List.append_nil]
    · simp only [nextM_zero, List.flatMap_nil, List.append_nil]
    · intro k s hk hR
      obtain ⟨ts1, x1, J, F⟩ := s
      simp only at hR ⊢
      subst hR
      generalize hts1 : ts ++ (nextM m came t k).flatMap (dfsM m came n) = ts1
      have hki : (k : Int) < m.who.length := by omega
      obtain ⟨ev, hr⟩ := hP.at' ts1
      have hsh := shr0_c hf16 (show k < 4 by omega)
      have hfb : forB m t.length k = f.testBit k := by unfold forB; rw [hx]; simp [hf]
      have hmay : mayM m came t k = (forB m t.length k && keptB m came (arr5 (t ++ [(k : Int)])) t.length) := rfl
      have hnx := nextM_succ m came t k
      have h5 : 5 ≤ (arr5 t).length := by omega
      have hset : ((arr5 t).set t.length x1).set t.length (k : Int) = arr5 (t ++ [(k : Int)]) := by rw [List.set_set]; exact arr5_snoc ht5 _
      have hgo : (arr5 t).set t.length (k : Int) = arr5 (t ++ [(k : Int)]) := arr5_snoc ht5 _
      have hl5 : ((arr5 t).set t.length x1).length = 5 := by rw [List.length_set]; exact hal
      have hla := arr5_len (t := t ++ [(k : Int)]) (by simp; omega)
      have hx5 : 5 ≤ (arr5 (t ++ [(k : Int)])).length := by omega
      have htake : (arr5 (t ++ [(k : Int)])).take 5 = arr5 (t ++ [(k : Int)]) := List.take_of_length_le (by omega)
      obtain ⟨F4, h154⟩ := m154 m hm ho came hc q ev r (arr5 (t ++ [(k : Int)])) hla t.length ⟨HM P r b LB ts1 (arr5 (t ++ [(k : Int)])) (E ++ J), tb ++ F⟩ (old hr _)
      simp only [eLc, List.cons_append, List.nil_append] at hr
      have oR := old hr
      simp only [HM] at h154 ⊢
      cases hbit : f.testBit k with
      | false =>
        rw [hbit] at hsh hfb
        refine ⟨⟨ts1, k, J, F⟩, ?_, ?_⟩
        · simp (disch := omega) only [go_sem, ↓reduceIte, simprocAttr, hl, hb0, hbk, hsk, oR, hki, hti, ht4, ht5, hl5, hx, hzs, hthI, eSu_get, eSu, hf, splice1, Nat.mul_one, I_set, hset, hgo, wrap_i64, hsh]
        · simp only [← hts1, hnx, hmay, hfb, Bool.false_and, Bool.false_eq_true, if_false]
      | true =>
        rw [hbit] at hsh hfb
        rw [hfb, Bool.true_and] at hmay
        cases hkept : keptB m came (arr5 (t ++ [(k : Int)])) t.length with
        | false =>
          rw [hkept] at hmay h154
          refine ⟨⟨ts1, k, J, F ++ F4⟩, ?_, ?_⟩
          · simp (disch := omega) only [go_sem, ↓reduceIte, simprocAttr, hl, hb0, hbk, hsk, oR, hki, hti, ht4, ht5, hl5, hx, hzs, hthI, eSu_get, eSu, hf, splice1, Nat.mul_one, I_set, hset, hgo, wrap_i64, hsh, hx5, htake, h154]
          · simp only [← hts1, hnx, hmay, Bool.false_eq_true, if_false]
        | true =>
          rw [hkept] at hmay h154
          obtain ⟨F5, h5⟩ := ih (t ++ [(k : Int)]) ts1 (E ++ J) (tb ++ (F ++ F4)) (by simp; omega) (hrow.snoc (by omega) hk) (fun u hu hm1 => by
            rw [← hts1] at hm1
            rcases List.mem_append.1 hm1 with h | h
            · refine hfr0 u ?_ h
              exact List.mem_flatMap.2 ⟨_, mem_nextM.2 ⟨k, hk, hmay, rfl⟩, hu⟩
            · exact dfsM_apart hu h) (fun u hu => by
            rw [← hts1] at hu
            rcases List.mem_append.1 hu with h | h
            · exact hts0 u h
            · obtain ⟨v, hv, hu⟩ := List.mem_flatMap.1 h
              obtain ⟨c, hcw, _, rfl⟩ := mem_nextM.1 hv
              exact dfsM_ok (hrow.snoc (by omega) (by omega)) (by simp; omega) hu)
          simp only [HM, List.length_append, List.length_singleton, Int.natCast_add, Int.natCast_one] at h5
          refine ⟨⟨ts1 ++ dfsM m came n (t ++ [(k : Int)]), k, J, F ++ (F4 ++ F5)⟩, ?_, ?_⟩
          · simp (disch := omega) only [go_sem, ↓reduceIte, simprocAttr, hl, hb0, hbk, hsk, oR, hki, hti, ht4, ht5, hl5, hx, hzs, hthI, eSu_get, eSu, hf, splice1, Nat.mul_one, I_set, hset, hgo, wrap_i64, hsh, hx5, htake, h154, h5]
          · simp only [← hts1, hnx, hmay, if_true, List.flatMap_append, List.flatMap_cons, List.flatMap_nil, List.append_nil, List.append_assoc]
    · intro s hR
      simp only [go_sem, ↓reduceIte, simprocAttr, Int.lt_irrefl]
    · intro s h1 h2
      obtain ⟨ts1, x1, J, F⟩ := s
      simp only at h2
      subst h2
      refine ⟨F, ?_⟩
      rw [h1]
      have e1 : dfsM m came (n + 1) t = (nextM m came t m.who.length).flatMap (dfsM m came n) := rfl
      simp (disch := omega) only [go_sem, ↓reduceIte, simprocAttr, HM, hl, hb0, hbk, hsk, htk, hti, ht4, ht5, hal, List.length_set, splice1, Nat.mul_one, I_set, List.set_set, arr5_zero ht5, e1, List.take_left']
      done
end Go.Proofs.YtiighcpimecehaaGreat
end
section
namespace Go.Proofs.YtiighcpimecehaaGreat
open Go.Proofs

def penceAt (m : Mo) (k : Nat) : Int := match m.sums[k]? with | some x => x.pence | none => 0
def dueC (m : Mo) (a : List Int) (c : Int) : Nat → Int
  | 0 => 0
  | k + 1 => dueC m a c k + (if a.getD k 0 = c then penceAt m k else 0)
def dueL (m : Mo) (a : List Int) (k : Nat) : List Int := [dueC m a 0 k, dueC m a 1 k, dueC m a 2 k, dueC m a 3 k]
theorem pence_bd {m : Mo} (ho : m.Ok) (k : Nat) : 0 ≤ penceAt m k ∧ penceAt m k ≤ 99 := by
  unfold penceAt
  cases h : m.sums[k]? with
  | none => simp
  | some x => have := ho.sums x (List.mem_of_getElem? h); simp only; omega
theorem dueC_bd {m : Mo} (ho : m.Ok) (a : List Int) (c : Int) : ∀ k : Nat, 0 ≤ dueC m a c k ∧ dueC m a c k ≤ 99 * k
  | 0 => by simp [dueC]
  | k + 1 => by
    have := dueC_bd ho a c k
    have := pence_bd ho k
    unfold dueC
    split <;> omega
@[go_sem] theorem hush_111_4 : tabX.hush 111 4 = false := id rfl
set_option maxHeartbeats 2000000 in
theorem m111 (m : Mo) (hm : m.fits) (ho : m.Ok) (came q : Nat) (ev : List Int) (r : Nat) (a : List Int) (ha : a.length = 5) (hrow : ∀ i, i < m.sums.length → ∃ c : Nat, a[i]? = some (c : Int) ∧ c < 4) (h : Heap) (hr : h.b[r]? = some (.cells (eLc m came q ev))) :
   ∃ F, (EW tabX).call 111 [.ref r 0, .agg (I a)] h = some (.agg (I (dueL m a m.sums.length)), ⟨h.b, h.t ++ F⟩) := by
  obtain ⟨B, ht⟩ := h
  have hr : B[r]? = some (.cells (eLc m came q ev)) := hr
  have s5 := ho.s5
  have hz := fun (hne : 0 < m.sums.length) => hm.zs (by intro e; rw [e] at hne; simp at hne)
  simp only [eLc, List.cons_append, List.nil_append] at hr
  have oR := old hr
  have h5 : 5 ≤ a.length := by omega
  rw [w_call _ fn_111 rfl]
  simp only [go_sem, ↓reduceIte, simprocAttr, hr, oR]
  generalize hlx : (EW tabX).code 111 none (Code.loop _) _ = x
  refine w_rounds_sk hlx (fun k (s : List Int × List ABlk × List Bool) => [(13, .int .i64 k)]) (fun s => ⟨B ++ (.cells (I a) :: .cells (I s.1) :: s.2.1), ht ++ s.2.2⟩) (fun k s => s.1 = dueL m a k) m.sums.length (.exit 0) (fun s => [(13, .int .i64 m.sums.length)]) rfl ([0, 0, 0, 0], [], []) ?_ ?_ ?_ ?_ ?_ ?_
  · simp only [go_sem, ↓reduceIte, simprocAttr]
  · simp only [I_c, I_nil, List.append_nil]
  · rfl
  · intro k s hk hR
    obtain ⟨D, J, F⟩ := s
    simp only at hR ⊢
    subst hR
    have hx := List.getElem?_eq_getElem hk
    have hki : (k : Int) < m.sums.length := by omega
    have hz1 := hz (by omega)
    obtain ⟨c, hac, hc4⟩ := hrow k hk
    have hk5 : k < 5 := by omega
    have hk5i : (k : Int) < 5 := by omega
    have hc4i : (c : Int) < 4 := by omega
    have hpe : penceAt m k = (m.sums[k]).pence := by unfold penceAt; rw [hx]
    have hpb := pence_bd ho k
    have b0 := dueC_bd ho a 0 k
    have b1 := dueC_bd ho a 1 k
    have b2 := dueC_bd ho a 2 k
    have b3 := dueC_bd ho a 3 k
    have had : (List.drop k a)[0]? = some (c : Int) := by rw [List.getElem?_drop, Nat.add_zero]; exact hac
    have hag : a.getD k 0 = (c : Int) := by simp [hac]
    have eD : dueL m a (k + 1) = [dueC m a 0 k + (if (c : Int) = 0 then penceAt m k else 0), dueC m a 1 k + (if (c : Int) = 1 then penceAt m k else 0), dueC m a 2 k + (if (c : Int) = 2 then penceAt m k else 0), dueC m a 3 k + (if (c : Int) = 3 then penceAt m k else 0)] := by
      simp only [dueL, dueC, hag]
    generalize dueL m a (k + 1) = D2 at eD ⊢
    simp only [dueL, I_c, I_nil]
    generalize dueC m a 0 k = d0 at *
    generalize dueC m a 1 k = d1 at *
    generalize dueC m a 2 k = d2 at *
    generalize dueC m a 3 k = d3 at *
    rw [hpe] at hpb eD
    generalize m.sums[k] = w at hx hpb eD
    obtain ⟨nm, pe, fr⟩ := w
    simp only at hpb eD
    simp (disch := omega) only [go_sem, ↓reduceIte, simprocAttr, hki, hz1, eSu_get, hx, eSu]
    generalize hcf : drawT _ _ _ = cf
    obtain rfl : cf = true := by rw [← hcf]; kernel_rfl
    generalize List.replicate _ ABlk.none = N
    generalize List.replicate _ false = Z
    have hcc : c = 0 ∨ c = 1 ∨ c = 2 ∨ c = 3 := by omega
    rcases hcc with rfl | rfl | rfl | rfl
    · obtain rfl : D2 = [d0 + pe, d1, d2, d3] := by rw [eD]; simp
      refine ⟨([d0 + pe, d1, d2, d3], J ++ (.cells [.str nm, .int .i64 pe, .int .i64 fr] :: N), F ++ Z), ?_, rfl⟩
      simp (disch := omega) only [go_sem, ↓reduceIte, simprocAttr, hk5, hk5i, had, I_drop, I_get, I_c, I_nil, Nat.mul_one, wrap_i64, splice1]
    · obtain rfl : D2 = [d0, d1 + pe, d2, d3] := by rw [eD]; simp
      refine ⟨([d0, d1 + pe, d2, d3], J ++ (.cells [.str nm, .int .i64 pe, .int .i64 fr] :: N), F ++ Z), ?_, rfl⟩
      simp (disch := omega) only [go_sem, ↓reduceIte, simprocAttr, hk5, hk5i, had, I_drop, I_get, I_c, I_nil, Nat.mul_one, wrap_i64, splice1]
    · obtain rfl : D2 = [d0, d1, d2 + pe, d3] := by rw [eD]; simp
      refine ⟨([d0, d1, d2 + pe, d3], J ++ (.cells [.str nm, .int .i64 pe, .int .i64 fr] :: N), F ++ Z), ?_, rfl⟩
      simp (disch := omega) only [go_sem, ↓reduceIte, simprocAttr, hk5, hk5i, had, I_drop, I_get, I_c, I_nil, Nat.mul_one, wrap_i64, splice1]
    · obtain rfl : D2 = [d0, d1, d2, d3 + pe] := by rw [eD]; simp
      refine ⟨([d0, d1, d2, d3 + pe], J ++ (.cells [.str nm, .int .i64 pe, .int .i64 fr] :: N), F ++ Z), ?_, rfl⟩
      simp (disch := omega) only [go_sem, ↓reduceIte, simprocAttr, hk5, hk5i, had, I_drop, I_get, I_c, I_nil, Nat.mul_one, wrap_i64, splice1]
  · intro s hR
    simp only [go_sem, ↓reduceIte, simprocAttr, Int.lt_irrefl]
  · intro s h1 h2
    obtain ⟨D, J, F⟩ := s
    simp only at h2
    subst h2
    refine ⟨F, ?_⟩
    rw [h1]
    simp only [go_sem, ↓reduceIte, simprocAttr, dueL, I_c, I_nil]
end Go.Proofs.YtiighcpimecehaaGreat
end
section
namespace Go.Proofs.YtiighcpimecehaaGreat
open Go.Proofs

theorem or64 : ∀ s : Fin 64, ∀ i : Fin 6, IntKind.i64.wrap (BitVec.ofInt 64 ((s.1 : Nat) : Int) ||| BitVec.ofInt 64 (2 ^ i.1)).toNat = ((s.1 ||| 2 ^ i.1 : Nat) : Int) := by decide +kernel
theorem or64_lt : ∀ s : Fin 64, ∀ i : Fin 6, (s.1 ||| 2 ^ i.1) < 64 := by decide +kernel
theorem or16_lt : ∀ s : Fin 16, ∀ i : Fin 4, (s.1 ||| 2 ^ i.1) < 16 := by decide +kernel
theorem or_c {s i : Nat} (hs : s < 64) (hi : i < 6) : IntKind.i64.wrap (((@HOr.hOr (BitVec 64) (BitVec 64) (BitVec 64) (@instHOrOfOrOp (BitVec IntKind.i64.bits) (BitVec.instOrOp : OrOp (BitVec IntKind.i64.bits))) (BitVec.ofInt 64 (s : Int)) (BitVec.ofInt 64 (2 ^ i))).toNat : Nat) : Int) = ((s ||| 2 ^ i : Nat) : Int) := or64 ⟨s, hs⟩ ⟨i, hi⟩
theorem shl6 {n : Nat} (h : n < 6) : IntKind.i64.wrap (1 * 2 ^ (min n 64)) = 2 ^ n := by
  have : n = 0 ∨ n = 1 ∨ n = 2 ∨ n = 3 ∨ n = 4 ∨ n = 5 := by omega
  rcases this with rfl | rfl | rfl | rfl | rfl | rfl <;> decide
def cameAt (m : Mo) (k : Nat) : Bool := match m.words[k]? with | some w => w.came | none => false
def cameK (m : Mo) (more : Nat) : Nat → Nat
  | 0 => more
  | k + 1 => if cameAt m k then cameK m more k ||| 2 ^ k else cameK m more k
def cameM (m : Mo) (more : Nat) : Nat := cameK m more m.words.length
theorem cameK_lt {m : Mo} {more : Nat} (h : more < 64) : ∀ {k : Nat}, k ≤ 6 → cameK m more k < 64
  | 0, _ => h
  | k + 1, hk => by
    unfold cameK
    have := cameK_lt (m := m) h (show k ≤ 6 by omega)
    split
    · exact or64_lt ⟨_, this⟩ ⟨k, by omega⟩
    · exact this
def esM (m : Mo) (ts : List (List Int)) : List (AV × AV) := ts.map fun t => (.agg (I (arr5 t)), .agg (I (dueL m (arr5 t) m.sums.length)))
def evN (ts : List (List Int)) (i : Nat) : Nat := ts.foldl (fun s t => s ||| 2 ^ (t.getD i 0).toNat) 0
def evA (m : Mo) (ts : List (List Int)) (i : Nat) : Int := if i < m.sums.length then (evN ts i : Nat) else 0
def evL (m : Mo) (ts : List (List Int)) : List Int := [evA m ts 0, evA m ts 1, evA m ts 2, evA m ts 3, evA m ts 4]
def PM (m : Mo) (came : Nat) (B J : List ABlk) (ts : List (List Int)) : List ABlk :=
  B ++ (.cells (eMc m) :: .map (esM m ts) :: .cells (eLc m came (B.length + 1) (evL m ts)) :: .cells [.ref (B.length + 2) 0] :: J)
theorem evN_snoc (ts : List (List Int)) (t : List Int) (i : Nat) : evN (ts ++ [t]) i = evN ts i ||| 2 ^ (t.getD i 0).toNat := by
  unfold evN; rw [List.foldl_append]; rfl
theorem evN_lt {m : Mo} (ho : m.Ok) {ts : List (List Int)} (h : ∀ v ∈ ts, RowOk m v ∧ v.length = m.sums.length) (i : Nat) : evN ts i < 16 := by
  have key : ∀ (l : List (List Int)) (s : Nat), s < 16 → (∀ v ∈ l, RowOk m v ∧ v.length = m.sums.length) → l.foldl (fun s t => s ||| 2 ^ (t.getD i 0).toNat) s < 16 := by
    intro l
    induction l with
    | nil => intro s hs _; exact hs
    | cons t l ih =>
      intro s hs hl
      rw [List.foldl_cons]
      refine ih _ ?_ fun v hv => hl v (List.mem_cons_of_mem _ hv)
      have hx : t.getD i 0 < 4 := by
        rw [List.getD_eq_getElem?_getD]
        cases e : t[i]? with
        | none => simp
        | some x => have := (hl t (by simp)).1.2 x (List.mem_of_getElem? e); have := ho.w4; simp only [Option.getD_some]; omega
      exact or16_lt ⟨s, hs⟩ ⟨(t.getD i 0).toNat, by omega⟩
  exact key ts 0 (by omega) h
def evP (m : Mo) (ts : List (List Int)) (t : List Int) (k : Nat) : List Int :=
  [if 0 < k then evA m (ts ++ [t]) 0 else evA m ts 0, if 1 < k then evA m (ts ++ [t]) 1 else evA m ts 1, if 2 < k then evA m (ts ++ [t]) 2 else evA m ts 2, if 3 < k then evA m (ts ++ [t]) 3 else evA m ts 3, if 4 < k then evA m (ts ++ [t]) 4 else evA m ts 4]
theorem evP_zero (m : Mo) (ts : List (List Int)) (t : List Int) : evP m ts t 0 = evL m ts := rfl
theorem evP_all (m : Mo) (ts : List (List Int)) (t : List Int) : evP m ts t m.sums.length = evL m (ts ++ [t]) := by
  have key : ∀ i, (if i < m.sums.length then evA m (ts ++ [t]) i else evA m ts i) = evA m (ts ++ [t]) i := fun i => by
    split
    · rfl
    · rename_i h; unfold evA; rw [if_neg h, if_neg h]
  unfold evP evL
  simp only [key]
theorem cast_one' : ((1 : Nat) : Int) = 1 := _root_.id rfl
theorem cast_two' : ((2 : Nat) : Int) = 2 := _root_.id rfl
theorem cast_three' : ((3 : Nat) : Int) = 3 := _root_.id rfl
theorem cast_four' : ((4 : Nat) : Int) = 4 := _root_.id rfl
@[go_sem] theorem hush_85_6 : tabX.hush 85 6 = false := id rfl
@[go_sem] theorem hush_85_14 : tabX.hush 85 14 = false := id rfl
theorem ev_nil (m : Mo) : evL m [] = [0, 0, 0, 0, 0] := by
  have : ∀ i, evA m [] i = 0 := fun i => by unfold evA evN; split <;> rfl
  unfold evL; simp only [this]
theorem m110 (r : Nat) (B : List ABlk) (t : List Bool) (hr : r < B.length) : (EW tabX).call 110 [.ref r 0] ⟨B, t⟩ = some (.clo 152 [] [.ref B.length 0], ⟨B ++ [.cells [.ref r 0]], t⟩) := by
  rw [w_call _ fn_110 rfl]
  have h1 : ¬ (B.length < B.length) := by omega
  have h2 : r < B.length + 1 := by omega
  simp only [go_sem, ↓reduceIte, simprocAttr, h1, h2]
theorem m152 (m : Mo) (hm : m.fits) (ho : m.Ok) (came : Nat) (hc : came < 64) (r q b : Nat) (P : List (List Int) → List ABlk) (hP : SP m came r q b P) (LB : ABlk) (hY : RoundM m P r b LB) (t : List Bool) :
    ∃ F v, (EW tabX).call 152 [.yld (b + 2), .ref b 0] ⟨P [] ++ [.cells [.ref r 0], .mark, LB], t⟩ = some (v, ⟨P (dfsM m came m.sums.length []) ++ [.cells [.ref r 0], .mark, LB], t ++ F⟩) := by
  obtain ⟨F, hc⟩ := m153 m hm ho came hc r q b P hP LB hY m.sums.length [] [] [] t (by simp) ⟨by simp, fun x hx => by cases hx⟩ (fun u _ h => by cases h) (fun u h => by cases h)
  have e0 : arr5 [] = [0, 0, 0, 0, 0] := rfl
  simp only [HM, List.length_nil, e0, I_c, I_nil, cast_zero, List.nil_append] at hc
  have hl : ∀ u, (P u).length = b := hP.len
  have hlt := hP.lt
  refine ⟨F, ?_⟩
  refine ⟨?_, ?_⟩
  rotate_left
  · rw [w_call _ fn_152 rfl]
    have h1 : ∀ k, r < b + k := fun k => by omega
    have h2 : ∀ k j, r < b + k + j := fun k j => by omega
    have h3 : ∀ a c d, (b + a < b + c + d) = (a < c + d) := fun a c d => by rw [Nat.add_assoc]; simp
    have hb0 : ∀ (u : List (List Int)) (X : List ABlk), (P u ++ X)[b]? = X[0]? := fun u X => by rw [← hl u]; exact get_at0 _ _
    have hbk : ∀ (u : List (List Int)) (X : List ABlk) (k : Nat), (P u ++ X)[b + k]? = X[k]? := fun u X k => by rw [← hl u]; exact get_at _ _ _
    have hsk : ∀ (u : List (List Int)) (X : List ABlk) (k : Nat) (y : ABlk), (P u ++ X).set (b + k) y = P u ++ X.set k y := fun u X k y => by rw [← hl u]; exact set_at _ _ _ _
    have htk : ∀ (u : List (List Int)) (X : List ABlk) (k : Nat), (P u ++ X).take (b + k) = P u ++ X.take k := fun u X k => by rw [← hl u]; exact List.take_length_add_append _
    have h4 : b < b + 5 + 1 := by omega
    simp only [go_sem, ↓reduceIte, simprocAttr, hl, hb0, hbk, hsk, htk, h1, h2, h3, h4, hc]
    rfl
structure PG (m : Mo) (came p r q s b : Nat) (P : List (AV × AV) → List Int → List ABlk) : Prop where
  len : ∀ es ev, (P es ev).length = b
  atR : ∀ es ev, (P es ev)[r]? = some (.cells (eLc m came q ev))
  atQ : ∀ es ev, (P es ev)[q]? = some (.map es)
  atS : ∀ es ev, (P es ev)[s]? = some (.cells [.ref r 0])
  at0 : ∀ es ev, (P es ev)[p]? = some (.cells (eMc m))
  setQ : ∀ es ev es', (P es ev).set q (.map es') = P es' ev
  setR : ∀ es ev ev', (P es ev).set r (.cells (eLc m came q ev')) = P es ev'
  rb : r < b
  qb : q < b
  sb : s < b
theorem eqI5 (l m : List Int) (hl : l.length = 5) (hm : m.length = 5) : eqCells [0, 0, 0, 0, 0] (I l) (I m) = some (decide (l = m)) := by
  match l, m, hl, hm with
  | [a, b, c, d, e], [x, y, z, w, v], _, _ =>
    simp only [eqCells, I_c, I_nil, if_true, Option.map_some]
    congr 1
    rw [Bool.eq_iff_iff]
    simp
theorem arr5_inj {t u : List Int} (h : t.length = u.length) (e : arr5 t = arr5 u) : t = u := by
  unfold arr5 at e
  exact (List.append_inj e h).1
theorem put_new (m : Mo) (t : List Int) (S : Nat) (hS : S ≤ 5) (ht : t.length = S) (v : AV) : ∀ (ts : List (List Int)), t ∉ ts → (∀ u ∈ ts, u.length = S) → putAV [0, 0, 0, 0, 0] (esM m ts) (I (arr5 t)) v = some (esM m ts ++ [(.agg (I (arr5 t)), v)])
  | [], _, _ => rfl
  | u :: ts, hn, hl => by
    have hu := hl u (by simp)
    have ih := put_new m t S hS ht v ts (fun h => hn (List.mem_cons_of_mem _ h)) (fun w hw => hl w (List.mem_cons_of_mem _ hw))
    have hne : arr5 t ≠ arr5 u := fun h => hn (by rw [arr5_inj (by omega) h]; simp)
    have he := eqI5 (arr5 t) (arr5 u) (arr5_len (by omega)) (arr5_len (by omega))
    rw [decide_eq_false hne] at he
    show putAV [0, 0, 0, 0, 0] ((.agg (I (arr5 u)), _) :: esM m ts) _ _ = _
    unfold putAV
    rw [he]
    simp only [ih]
    rfl
theorem splice5 (x0 x1 x2 x3 x4 : AV) (l : List Int) (h : l.length = 5) : splice [x0, x1, x2, x3, x4] 0 (I l) = I l := by
  match l, h with
  | [a, b, c, d, e], _ => rfl
theorem y1 (L : List Nat) (fr : Frm) (a : Tmp) (x : AV) : yieldFr L fr [a] [x] = some (setF L fr a x) := by
  simp only [yieldFr, setFK_eq]
set_option maxHeartbeats 2000000 in
theorem m85 (m : Mo) (hm : m.fits) (ho : m.Ok) (more : Nat) (hmo : more < 64) (h : Heap) :
   ∃ J F, (EW tabX).call 85 [eM m, .int .i64 more] h = some (.ref (h.b.length + 2) 0, ⟨PM m (cameM m more) h.b J (dfsM m (cameM m more) m.sums.length []), h.t ++ F⟩) := by
  obtain ⟨B, ht⟩ := h
  have o6 := ho.o6
  have s5 := ho.s5
  have hz := fun (hne : 0 < m.words.length) => hm.zo (by intro e; rw [e] at hne; simp at hne)
  have hun := eMc_under
  simp only [eMc] at hun
  have hq1 : B.length + 1 < B.length + 2 + 1 := by omega
  have hq2 : B.length + 2 < B.length + 3 + 1 := by omega
  rw [w_call _ fn_85 rfl]
  simp only [go_sem, ↓reduceIte, simprocAttr, eM, eMc, hq1, hq2]
  generalize hlx : (EW tabX).code 85 none (Code.loop _) _ = x
  refine w_rounds_sk hlx (fun k (s : Nat × List ABlk × List Bool) => [(18, .int .i64 k)]) (fun s => ⟨B ++ (.cells (eMc m) :: .map [] :: .cells (eLc m s.1 (B.length + 1) [0, 0, 0, 0, 0]) :: .cells [.ref (B.length + 2) 0] :: s.2.1), ht ++ s.2.2⟩) (fun k s => s.1 = cameK m more k) m.words.length (.exit 0) (fun s => [(18, .int .i64 m.words.length)]) rfl (more, [], []) ?_ ?_ ?_ ?_ ?_ ?_
  · simp only [go_sem, ↓reduceIte, simprocAttr]
  · simp only [eMc, eLc, I_c, I_nil, List.append_nil, List.cons_append, List.nil_append]
    done
  · rfl
  · intro k s hk hR
    obtain ⟨c, J, F⟩ := s
    simp only at hR ⊢
    subst hR
    have hx := List.getElem?_eq_getElem hk
    have hki : (k : Int) < m.words.length := by omega
    have hz1 := hz (by omega)
    have hlt := cameK_lt (m := m) hmo (show k ≤ 6 by omega)
    have hor := or_c hlt (show k < 6 by omega)
    have hsl := shl6 (show k < 6 by omega)
    have hca : cameAt m k = (m.words[k]).came := by unfold cameAt; rw [hx]
    have hK : cameK m more (k + 1) = if cameAt m k = true then cameK m more k ||| 2 ^ k else cameK m more k := rfl
    rw [hca] at hK
    generalize cameK m more (k + 1) = K1 at hK ⊢
    generalize cameK m more k = K at hK hlt hor ⊢
    generalize m.words[k] = w at hx hK
    obtain ⟨says, sm, of, back, cm⟩ := w
    simp only at hK
    cases cm with
    | false =>
      rw [if_neg (by decide)] at hK
      subst hK
      refine ⟨(K1, J ++ [bWo ⟨says, sm, of, back, false⟩], F), ?_, rfl⟩
      simp (disch := omega) only [go_sem, ↓reduceIte, simprocAttr, hki, hz1, eWo_get, hx, eWo, bWo, eMc, eLc, I_c, I_nil, wrap_i64]
      done
    | true =>
      rw [if_pos rfl] at hK
      subst hK
      simp (disch := omega) only [go_sem, ↓reduceIte, simprocAttr, hki, hz1, eWo_get, hx, eWo, bWo, eMc, eLc, I_c, I_nil, wrap_i64]
      generalize hcf : drawT _ _ _ = cf
      obtain rfl : cf = true := by rw [← hcf]; kernel_rfl
      generalize List.replicate _ ABlk.none = N
      generalize List.replicate _ false = Z
      refine ⟨(K ||| 2 ^ k, J ++ (bWo ⟨says, sm, of, back, true⟩ :: N), F ++ Z), ?_, rfl⟩
      simp (disch := omega) only [go_sem, ↓reduceIte, simprocAttr, hsl, hor, bWo, eMc, eLc, I_c, I_nil, wrap_i64]
      done
  · intro s hR
    simp only [go_sem, ↓reduceIte, simprocAttr, Int.lt_irrefl]
  · intro s h1 h2
    obtain ⟨c, J, F⟩ := s
    simp only at h2
    obtain rfl : c = cameM m more := h2
    rw [h1]
    have h110 := m110 (B.length + 2) (B ++ (.cells (eMc m) :: .map [] :: .cells (eLc m (cameM m more) (B.length + 1) [0, 0, 0, 0, 0]) :: .cells [.ref (B.length + 2) 0] :: J)) (ht ++ F) (by simp)
    simp only [go_sem, ↓reduceIte, simprocAttr, h110]
    generalize hb : B.length + (J.length + 1 + 1 + 1 + 1) = b
    obtain ⟨P, hPd⟩ : ∃ P : List (AV × AV) → List Int → List ABlk, P = fun es ev => B ++ (.cells (eMc m) :: .map es :: .cells (eLc m (cameM m more) (B.length + 1) ev) :: .cells [.ref (B.length + 2) 0] :: J) := ⟨_, rfl⟩
    have hP : PG m (cameM m more) B.length (B.length + 2) (B.length + 1) (B.length + 3) b P := by
      subst hPd
      refine ⟨fun es ev => by simp; omega, fun es ev => by simp, fun es ev => by simp, fun es ev => by simp, fun es ev => by simp, fun es ev es' => by simp, fun es ev ev' => by simp, by omega, by omega, by omega⟩
    have hP0 : ∀ X, B ++ (.cells (eMc m) :: .map [] :: .cells (eLc m (cameM m more) (B.length + 1) [0, 0, 0, 0, 0]) :: .cells [.ref (B.length + 2) 0] :: (J ++ X)) = P [] [0, 0, 0, 0, 0] ++ X := fun X => by rw [hPd]; simp
    rw [hP0]
    rw [w_range (gf := 152) (fst := []) (cap := [.ref b 0])]
    rotate_left
    · simp only [go_sem, ↓reduceIte, simprocAttr]
    generalize hLB : ABlk.loop false AExit.normal false 85 _ _ _ _ = LB
    have hc64 : cameM m more < 64 := cameK_lt (m := m) hmo (by omega)
    generalize hcm : cameM m more = came at hP hc64 hLB ⊢
    generalize hr0 : B.length + 2 = r at hP hLB ⊢
    generalize hq0 : B.length + 1 = q at hP hLB
    have hp0 := hP.at0
    generalize hs0 : B.length + 3 = s at hP hLB ⊢
    have hl : ∀ es ev, (P es ev).length = b := hP.len
    have hb0 : ∀ es ev (X : List ABlk), (P es ev ++ X)[b]? = X[0]? := fun es ev X => by rw [← hl es ev]; exact get_at0 _ _
    have hbk : ∀ es ev (X : List ABlk) (k : Nat), (P es ev ++ X)[b + k]? = X[k]? := fun es ev X k => by rw [← hl es ev]; exact get_at _ _ _
    have hsk : ∀ es ev (X : List ABlk) (k : Nat) (y : ABlk), (P es ev ++ X).set (b + k) y = P es ev ++ X.set k y := fun es ev X k y => by rw [← hl es ev]; exact set_at _ _ _ _
    have htk : ∀ es ev (X : List ABlk) (k : Nat), (P es ev ++ X).take (b + k) = P es ev ++ X.take k := fun es ev X k => by rw [← hl es ev]; exact List.take_length_add_append _
    have hS : ∀ es ev (X : List ABlk), (P es ev ++ X)[s]? = some (.cells [.ref r 0]) := fun es ev X => old (hP.atS es ev) X
    have hR : ∀ es ev (X : List ABlk), (P es ev ++ X)[r]? = some (.cells (eLc m came q ev)) := fun es ev X => old (hP.atR es ev) X
    have hQ : ∀ es ev (X : List ABlk), (P es ev ++ X)[q]? = some (.map es) := fun es ev X => old (hP.atQ es ev) X
    have h0 : ∀ es ev (X : List ABlk), (P es ev ++ X)[B.length]? = some (.cells (eMc m)) := fun es ev X => old (hP.at0 es ev) X
    have hSQ : ∀ es ev es' (X : List ABlk), (P es ev ++ X).set q (.map es') = P es' ev ++ X := fun es ev es' X => by rw [List.set_append_left _ _ (by rw [hl]; exact hP.qb), hP.setQ]
    have hSR : ∀ es ev ev' (X : List ABlk), (P es ev ++ X).set r (.cells (eLc m came q ev')) = P es ev' ++ X := fun es ev ev' X => by rw [List.set_append_left _ _ (by rw [hl]; exact hP.rb), hP.setR]
    have hY : RoundM m (fun ts => P (esM m ts) (evL m ts)) r b LB := by
      intro ts u E tb hrow hul hnew hlen
      obtain ⟨LB', b1, b2⟩ : ∃ LB', beginBlk LB = some LB' ∧ endBlk .normal LB' = some LB := by rw [← hLB]; exact ⟨_, rfl, rfl⟩
      have hat : (⟨HM (fun ts => P (esM m ts) (evL m ts)) r b LB ts (arr5 u) E, tb⟩ : Heap).b[b + 2]? = some LB := by simp only [HM, hbk, go_sem, ↓reduceIte, simprocAttr]
      have hat2 := hat.trans (congrArg some hLB.symm)
      rw [stepRound_eq tabX hat2]
      have h5 : 5 ≤ (arr5 u).length := by rw [arr5_len (by omega)]; omega
      have htake : (arr5 u).take 5 = arr5 u := List.take_of_length_le (by rw [arr5_len (by omega)]; omega)
      simp only [HM, y1, Option.bind_some, roundK]
      clear hLB hat hat2
      have hal := arr5_len (t := u) (by omega)
      have hpos : 0 < (arr5 u).length := by omega
      have hsp := fun x0 x1 x2 x3 x4 => splice5 x0 x1 x2 x3 x4 (arr5 u) hal
      simp only [go_sem, ↓reduceIte, simprocAttr, turnBlk, b1, b2, hbk, hsk, hS, hR, hQ, hl, hpos, hal, hsp]
      generalize hcf : okFam _ _ _ = cf
      obtain rfl : cf = true := by rw [← hcf]; kernel_rfl
      generalize List.replicate _ ABlk.none = N
      generalize List.replicate _ false = Z
      have hrw : ∀ i, i < m.sums.length → ∃ c : Nat, (arr5 u)[i]? = some (c : Int) ∧ c < 4 := fun i hi => by
        have hi2 : i < u.length := by omega
        rw [arr5_get hi2, List.getElem?_eq_getElem hi2]
        have := hrow.2 u[i] (List.getElem_mem _)
        have := ho.w4
        exact ⟨u[i].toNat, by congr 1; omega, by omega⟩
      obtain ⟨F1, h111⟩ := m111 m hm ho came q (evL m ts) r (arr5 u) hal hrw ⟨P (esM m ts) (evL m ts) ++ (.cells [.ref r 0] :: .mark :: LB' :: .cells [.yld (b + 2)] :: .cells (I (arr5 u)) :: .cells [.clo 153 [] [.ref b 0, .ref (b + 3) 0, .ref (b + 4) 0, .ref (b + 5) 0]] :: (E ++ (.cells (I (arr5 u)) :: N))), tb ++ Z⟩ (hR _ _ _)
      have hput := put_new m u m.sums.length s5 hul (.agg (I (dueL m (arr5 u) m.sums.length))) ts hnew (fun v hv => (hlen v hv).2)
      have heq := eqI5 (arr5 u) (arr5 u) hal hal
      rw [decide_eq_true rfl] at heq
      have hes : esM m ts ++ [(.agg (I (arr5 u)), .agg (I (dueL m (arr5 u) m.sums.length)))] = esM m (ts ++ [u]) := by simp [esM]
      rw [hes] at hput
      have hR0 := hR
      simp only [eLc, List.cons_append, List.nil_append] at hR0
      simp only [go_sem, ↓reduceIte, simprocAttr, hbk, hsk, hS, hR0, hQ, hl, hpos, hal, h5, htake, h111, heq, hput, opMapUpdate, hSQ, I_var, I_one, eLc, h0, eMc]
      have hbd := fun i => evN_lt ho (fun v hv => hlen v hv) i
      generalize hly : (EW tabX).code 85 (some (b + 2)) (Code.loop _) _ = y
      refine w_rounds_sk hly (fun k (x : List Int × List ABlk × List Bool) => [(49, .int .i64 k)]) (fun x => ⟨P (esM m (ts ++ [u])) x.1 ++ (.cells [.ref r 0] :: .mark :: LB' :: .cells [.yld (b + 2)] :: .cells (I (arr5 u)) :: .cells [.clo 153 [] [.ref b 0, .ref (b + 3) 0, .ref (b + 4) 0, .ref (b + 5) 0]] :: (E ++ (.cells (I (arr5 u)) :: (N ++ x.2.1)))), tb ++ (Z ++ (F1 ++ x.2.2))⟩)
        (fun k x => x.1 = evP m ts u k) m.sums.length (.exit 4) (fun x => [(49, .int .i64 m.sums.length)]) rfl (evL m ts, [], []) ?_ ?_ ?_ ?_ ?_ ?_
      · simp only [go_sem, ↓reduceIte, simprocAttr]
      · simp only [List.append_nil]
      · exact (evP_zero m ts u).symm
      · intro k x hk hR
        obtain ⟨ev, J1, F2⟩ := x
        simp only at hR ⊢
        subst hR
        have hki : (k : Int) < m.sums.length := by omega
        obtain ⟨c, hac, hc4⟩ := hrw k hk
        have had : (List.drop k (arr5 u))[0]? = some (c : Int) := by rw [List.getElem?_drop, Nat.add_zero]; exact hac
        have huc : (u.getD k 0).toNat = c := by
          rw [arr5_get (by omega)] at hac
          rw [List.getD_eq_getElem?_getD, hac]; simp
        have hD : evA m ts k = ((evN ts k : Nat) : Int) := by unfold evA; rw [if_pos hk]
        have hA : evA m (ts ++ [u]) k = ((evN ts k ||| 2 ^ c : Nat) : Int) := by unfold evA; rw [if_pos hk, evN_snoc, huc]
        have hor := or_c (show evN ts k < 64 by have := hbd k; omega) (show c < 6 by omega)
        have hsl := shl6 (show c < 6 by omega)
        have hc4i : (c : Int) < 5 := by omega
        have hSR' := fun (es : List (AV × AV)) (ev : List Int) (x0 x1 x2 x3 x4 : Int) (X : List ABlk) => hSR es ev [x0, x1, x2, x3, x4] X
        simp only [eLc, I_c, I_nil, List.cons_append, List.nil_append] at hSR'
        have hkk : k = 0 ∨ k = 1 ∨ k = 2 ∨ k = 3 ∨ k = 4 := by omega
        rcases hkk with rfl | rfl | rfl | rfl | rfl
        · have hki : (0 : Int) < m.sums.length := hki
          simp only [List.drop_zero] at had
          simp (disch := omega) only [go_sem, ↓reduceIte, simprocAttr, hki, evP, hbk, hsk, hS, hR0, hl, I_c, I_nil, h0, eMc, cast_zero, cast_one', cast_two', cast_three', cast_four']
          generalize hcf : drawT _ _ _ = cf
          obtain rfl : cf = true := by rw [← hcf]; kernel_rfl
          generalize List.replicate _ ABlk.none = N2
          generalize List.replicate _ false = Z2
          refine ⟨(evP m ts u 1, J1 ++ N2, F2 ++ Z2), ?_, rfl⟩
          simp (disch := omega) only [go_sem, ↓reduceIte, simprocAttr, hki, evP, hbk, hsk, hS, hR0, hl, I_c, I_nil, hD, hA, had, I_drop, I_get, hsl, hor, hSR', wrap_i64, splice1]
        · have hki : (1 : Int) < m.sums.length := hki
          simp (disch := omega) only [go_sem, ↓reduceIte, simprocAttr, hki, evP, hbk, hsk, hS, hR0, hl, I_c, I_nil, h0, eMc, cast_zero, cast_one', cast_two', cast_three', cast_four']
          generalize hcf : drawT _ _ _ = cf
          obtain rfl : cf = true := by rw [← hcf]; kernel_rfl
          generalize List.replicate _ ABlk.none = N2
          generalize List.replicate _ false = Z2
          refine ⟨(evP m ts u 2, J1 ++ N2, F2 ++ Z2), ?_, rfl⟩
          simp (disch := omega) only [go_sem, ↓reduceIte, simprocAttr, hki, evP, hbk, hsk, hS, hR0, hl, I_c, I_nil, hD, hA, had, I_drop, I_get, hsl, hor, hSR', wrap_i64, splice1]
        · have hki : (2 : Int) < m.sums.length := hki
          simp (disch := omega) only [go_sem, ↓reduceIte, simprocAttr, hki, evP, hbk, hsk, hS, hR0, hl, I_c, I_nil, h0, eMc, cast_zero, cast_one', cast_two', cast_three', cast_four']
          generalize hcf : drawT _ _ _ = cf
          obtain rfl : cf = true := by rw [← hcf]; kernel_rfl
          generalize List.replicate _ ABlk.none = N2
          generalize List.replicate _ false = Z2
          refine ⟨(evP m ts u 3, J1 ++ N2, F2 ++ Z2), ?_, rfl⟩
          simp (disch := omega) only [go_sem, ↓reduceIte, simprocAttr, hki, evP, hbk, hsk, hS, hR0, hl, I_c, I_nil, hD, hA, had, I_drop, I_get, hsl, hor, hSR', wrap_i64, splice1]
        · have hki : (3 : Int) < m.sums.length := hki
          simp (disch := omega) only [go_sem, ↓reduceIte, simprocAttr, hki, evP, hbk, hsk, hS, hR0, hl, I_c, I_nil, h0, eMc, cast_zero, cast_one', cast_two', cast_three', cast_four']
          generalize hcf : drawT _ _ _ = cf
          obtain rfl : cf = true := by rw [← hcf]; kernel_rfl
          generalize List.replicate _ ABlk.none = N2
          generalize List.replicate _ false = Z2
          refine ⟨(evP m ts u 4, J1 ++ N2, F2 ++ Z2), ?_, rfl⟩
          simp (disch := omega) only [go_sem, ↓reduceIte, simprocAttr, hki, evP, hbk, hsk, hS, hR0, hl, I_c, I_nil, hD, hA, had, I_drop, I_get, hsl, hor, hSR', wrap_i64, splice1]
        · have hki : (4 : Int) < m.sums.length := hki
          simp (disch := omega) only [go_sem, ↓reduceIte, simprocAttr, hki, evP, hbk, hsk, hS, hR0, hl, I_c, I_nil, h0, eMc, cast_zero, cast_one', cast_two', cast_three', cast_four']
          generalize hcf : drawT _ _ _ = cf
          obtain rfl : cf = true := by rw [← hcf]; kernel_rfl
          generalize List.replicate _ ABlk.none = N2
          generalize List.replicate _ false = Z2
          refine ⟨(evP m ts u 5, J1 ++ N2, F2 ++ Z2), ?_, rfl⟩
          simp (disch := omega) only [go_sem, ↓reduceIte, simprocAttr, hki, evP, hbk, hsk, hS, hR0, hl, I_c, I_nil, hD, hA, had, I_drop, I_get, hsl, hor, hSR', wrap_i64, splice1]
      · intro x hR
        simp only [go_sem, ↓reduceIte, simprocAttr, Int.lt_irrefl]
      · intro x h1 h2
        obtain ⟨ev, J1, F2⟩ := x
        simp only at h2
        rw [evP_all] at h2
        subst h2
        rw [h1]
        refine ⟨.cells (I (arr5 u)) :: (N ++ J1), Z ++ (F1 ++ F2), ?_⟩
        simp only [go_sem, ↓reduceIte, simprocAttr, hbk, hsk, b2, isNormal]
        done
    have hSP : SP m came r q b (fun ts => P (esM m ts) (evL m ts)) := ⟨fun ts => hP.len _ _, fun ts => ⟨_, hP.atR _ _⟩, hP.rb⟩
    obtain ⟨F3, v, h152⟩ := m152 m hm ho came hc64 r q b _ hSP LB hY (ht ++ F)
    have es0 : esM m [] = [] := rfl
    simp only [es0, ev_nil] at h152
    have hlt := hP.rb
    clear hY
    subst hLB
    have hb1 : ∀ k j, b + k + j = b + (k + j) := fun k j => Nat.add_assoc _ _ _
    simp only [List.append_assoc, List.cons_append, List.nil_append, List.length_append, List.length_cons, List.length_nil, hl, Nat.zero_add, hb1, Nat.reduceAdd, h152, Option.bind_some]
    have hr1 : ¬ r < B.length := by omega
    simp only [go_sem, ↓reduceIte, simprocAttr, afterRange, hbk, hsk, hS, hl, hr1]
    refine ⟨J ++ [.cells [.ref r 0], .none, .none], F ++ F3, ?_⟩
    rw [hPd]
    simp only [PM, hcm, hr0, hq0, List.append_assoc, List.cons_append]
end Go.Proofs.YtiighcpimecehaaGreat
end
