/- Parts of the proof, joined: New, by the program. Alike, by the program. Enough, by the program. Z-numbers. What a test of a list that is fine says; which words count; whether they are so. Z-numbers. Whether the words that count are so; what claimants are owed. Enough, by the program: the walk. All truths, in the order in which the program comes to them; the fair ones, as it gathers them. All truths, by the program: the function that calls itself. The fair truths, by the program. Z-numbers. The search for all truths of a list, by the program. Z-numbers. What claimants are owed in a truth. Z-numbers. A list is looked at: which words have come; the round that takes a truth in. Z-numbers. Numbers of a set; which sums are sure, and held; a list is entered. Z-numbers. For, Pay and Held, by the program. First, by the program. Z-numbers. First, by the program: a loop over a map in any order. Forged, by the program. Whose and Read, by the program. Read, by the program. Whether a row has ascending numbers. What truths are, in plain words. Z-numbers. The list of money that a drawer makes, in plain words: its truths are the fair ones. Z-numbers. The list of money that a drawer makes: it is valid; For and Pay say what Whose and Read say. Conditions: those of each law. -/
import Derived.Test.YtiighcpimecehaaGreatQ10
set_option linter.unusedSimpArgs false
set_option linter.unusedVariables false
section
namespace Go.Proofs.YtiighcpimecehaaGreat
open Go.Proofs

theorem or_bit' (s i : Nat) (hs : s < 16) (hi : i < 4) : IntKind.i64.wrap (BitVec.ofInt IntKind.i64.bits ((s : Nat) : Int) ||| BitVec.ofInt IntKind.i64.bits (IntKind.i64.wrap (1 * 2 ^ (min i IntKind.i64.bits)))).toNat = ((s ||| 2 ^ i : Nat) : Int) := or_bit ⟨s, hs⟩ ⟨i, hi⟩
def setN (p : Nat → Bool) : Nat → Nat
  | 0 => 0
  | k + 1 => if p k then setN p k ||| 2 ^ k else setN p k
theorem setN_succ (p : Nat → Bool) (k : Nat) : setN p (k + 1) = if p k = true then setN p k ||| 2 ^ k else setN p k := rfl
theorem setN_lt (p : Nat → Bool) : ∀ k, k ≤ 4 → setN p k < 16
  | 0, _ => by simp [setN]
  | k + 1, h => by
    have a := setN_lt p k (by omega)
    unfold setN
    split
    · exact or_lt ⟨_, a⟩ ⟨k, by omega⟩
    · exact a
theorem setN_test (p : Nat → Bool) : ∀ k, k ≤ 4 → ∀ j, j < 4 → (setN p k).testBit j = (decide (j < k) && p j)
  | 0, _, j, _ => by simp [setN]
  | k + 1, h, j, hj => by
    have a := setN_lt p k (by omega)
    have ih := setN_test p k (by omega) j hj
    unfold setN
    have e : decide (j < k + 1) = (decide (j < k) || decide (k = j)) := by rw [Bool.eq_iff_iff]; simp; omega
    cases hp : p k with
    | true =>
      simp only [if_true]
      have := or_test ⟨_, a⟩ ⟨k, by omega⟩ ⟨j, hj⟩
      simp only [Fin.mk.injEq] at this
      rw [this, ih, e]
      by_cases hk : k = j
      · subst hk; simp [hp]
      · simp [hk]
    | false =>
      simp only [Bool.false_eq_true, if_false]
      rw [ih, e]
      by_cases hk : k = j
      · subst hk; simp [hp]
      · simp [hk]
theorem bitsL_setN (p : Nat → Bool) (n : Nat) (hn : n ≤ 4) : bitsL (setN p n) n = ((List.range n).filter fun c => p c).map fun (c : Nat) => (c : Int) := by
  unfold bitsL
  congr 1
  apply List.filter_congr
  intro j hj
  have hj := List.mem_range.1 hj
  rw [setN_test p n hn j (by omega)]
  simp [hj]

theorem enterE_nil (d : Dr) (m : Int) : enterE d m [] = (checkT d).2.2 := by
  unfold enterE; simp only [List.any_nil, Bool.false_eq_true, if_false]; split
  · rename_i h; rw [h]
  · rfl
theorem enter_yes (d : Dr) (hd : d.fits) (m : Int) (hm : 0 ≤ m ∧ m < 1000000000000000000) (t z : Nat) (l : List Int) (hz : l ≠ [] → z = 1) (hl : l.length < 1000000000000000000) (he : enterE d m l = 0) :
    d.Ok ∧ ∃ B t' tag zz, (EW tabX).call 42 [eD d, .int .i64 m, .lst t z (I l)] ⟨[.cells (eDc d)], []⟩ = some (.tup [.ref 4 0, .int .i64 0], ⟨B, t'⟩) ∧ B[0]? = some (.cells (eDc d)) ∧
      B[4]? = some (.cells (eDc d ++ [.lst tag zz ((P1 d d.halves.length).map eL), .mapr 3])) ∧ B[3]? = some (.map (esL (num (P1 d d.halves.length)))) ∧ Own tag zz (P1 d d.halves.length).length t' := by
  obtain ⟨ho, h', h60, hH⟩ := c60_yes d hd m hm t z l hz hl he ⟨[.cells (eDc d)], []⟩
  obtain ⟨tag, z, junk, t', rfl, hown⟩ := hH
  exact ⟨ho, _, t', tag, z, h60, rfl, rfl, rfl, hown⟩

theorem c34_no (d : Dr) (hd : d.fits) (l : List Int) (z : Nat) (hz : l ≠ [] → z = 1) (hl : l.length < 1000000000000000000) (he : newE d l ≠ 0) (h : Heap) : callPure (EW tabX) 35 [eD d, .lst 0 z (I l)] h = some (.tup [vI [], .int .i64 (newE d l)], h) := by
  have hcl := eD_clean d
  have h51 := c51 0 9 l z hz
  rw [callPure_eq, w_call _ fn_35 rfl]
  unfold newE at he ⊢
  by_cases hc : (checkT d).2.2 = 0
  · rw [if_pos hc] at he ⊢
    obtain ⟨ho, B, t, tag, zz, h60, b0, b4, b3, hown⟩ := enter_yes d hd 0 (by omega) 1 0 [] (fun h => absurd rfl h) (by simp) (by rw [enterE_nil]; exact hc)
    simp only [eDc, List.cons_append, List.nil_append] at b0 b4
    by_cases h1 : ((l.length : Int) != d.steps) = true
    · rw [if_pos h1]
      simp only [go_sem, ↓reduceIte, simprocAttr, eD, eDc, eC_under] at hcl h60 ⊢
      simp only [go_sem, ↓reduceIte, simprocAttr, eC_clean, h60, b0, h1, vI_nil]
    · rw [if_neg h1] at he ⊢
      have h1' : ((l.length : Int) != d.steps) = false := by simpa using h1
      by_cases h2 : (l.all fun n => inR n 0 9) = false
      · rw [if_pos h2]
        have h2' : l.any (out 0 9) = true := by rw [← all_out, h2]; rfl
        simp only [go_sem, ↓reduceIte, simprocAttr, eD, eDc, eC_under] at hcl h60 ⊢
        simp only [go_sem, ↓reduceIte, simprocAttr, eC_clean, h60, b0, h1', h51 _ hl, h2', vI_nil]
      · rw [if_neg h2] at he; exact absurd rfl he
  · rw [if_neg hc]
    have h60 := c60_no d hd 0 (by omega) 1 0 [] (fun h => absurd rfl h) (by simp) (by rw [enterE_nil]; exact hc) ⟨[.cells (eDc d)], []⟩
    rw [enterE_nil] at h60
    have hb1 : ((checkT d).2.2 != 0) = true := by simpa using hc
    simp only [go_sem, ↓reduceIte, simprocAttr, eD, eDc, eC_under] at hcl h60 ⊢
    simp only [go_sem, ↓reduceIte, simprocAttr, eC_clean, h60, hb1, vI_nil]
theorem c34_yes (d : Dr) (hd : d.fits) (l : List Int) (z : Nat) (hz : l ≠ [] → z = 1) (hl : l.length < 1000000000000000000) (he : newE d l = 0) (h : Heap) : callPure (EW tabX) 35 [eD d, .lst 0 z (I l)] h = some (.tup [vI (newL d l d.cards.length), .int .i64 0], h) := by
  obtain ⟨hc, h1, h2⟩ := newE_yes he
  have hcl := eD_clean d
  have h51 := c51 0 9 l z hz
  have h1' : ((l.length : Int) != d.steps) = false := by simp [h1]
  have h2' : l.any (out 0 9) = false := by rw [← all_out, h2]; rfl
  obtain ⟨ho, B, t, tag, zz, h60, b0, b4, b3, hown⟩ := enter_yes d hd 0 (by omega) 1 0 [] (fun h => absurd rfl h) (by simp) (by rw [enterE_nil]; exact hc)
  have hc4 := ho.c4
  have h6 := ho.s6
  have hls := ho.ls
  have hl1 := ho.l1
  have hlow : LowK l := fun n hn => by
    rw [List.all_eq_true] at h2
    have := h2 n hn
    simp [inR] at this; omega
  have hlt : ((d.least.toNat : Nat) : Int) = d.least := by omega
  have b4' := b4
  have b0' := b0
  simp only [eDc, List.cons_append, List.nil_append] at b0' b4
  have h63 := c63 (setN (fun c => nearB d.wear l (cardE d c) d.least.toNat) d.cards.length) d.cards.length (setN_lt _ _ hc4) hc4
  rw [bitsL_setN _ _ hc4] at h63
  rw [callPure_eq, w_call _ fn_35 rfl]
  simp only [go_sem, ↓reduceIte, simprocAttr, eD, eDc, eC_under] at hcl h60 ⊢
  simp only [go_sem, ↓reduceIte, simprocAttr, eC_clean, h60, b0', h1', h51 _ hl, h2']
  rw [w_rounds_h (fun k => [(8, .int .i64 (setN (fun c => nearB d.wear l (cardE d c) d.least.toNat) k)), (32, .int .i64 k)]) (fun k => ⟨B ++ (d.cards.take k).map cellC, t⟩) d.cards.length (.exit 1) [(8, .int .i64 (setN (fun c => nearB d.wear l (cardE d c) d.least.toNat) d.cards.length)), (32, .int .i64 d.cards.length)] ⟨B ++ d.cards.map cellC, t⟩ ?_ ?_ ?_ ?_ rfl]
  · have b0'' := old b0'
    simp only [go_sem, ↓reduceIte, simprocAttr, b0'', h63, vI_clean, vI_under, newL]
  · simp only [go_sem, ↓reduceIte, simprocAttr, setN]
  · simp only [go_sem, ↓reduceIte, simprocAttr]
  · intro c hcc
    have hci : (c : Int) < d.cards.length := by omega
    obtain ⟨y1, y2, y3, y4⟩ := cardE_low ho hcc
    have hzc := hd.zc (by intro e; rw [e] at hcc; simp at hcc)
    have ca := card_at d c hcc
    have hst := setN_lt (fun c => nearB d.wear l (cardE d c) d.least.toNat) c (by omega)
    have hor := or_bit' _ c hst (by omega)
    have h65 := c65 d ⟨ho.w0, ho.w9⟩ l (cardE d c) d.least.toNat hlow y1 (by omega) y2 (by omega) 0 0 z 1 hz (fun _ => rfl) 4 _ ⟨B ++ (d.cards.take c).map cellC ++ [cellC (d.cards.getD c ⟨default, []⟩)], t⟩ (old (old b4' _) _)
    have b0'' := old (old b0' ((d.cards.take c).map cellC))
    rw [hlt] at h65
    rw [map_succ cellC ca, ← List.append_assoc]
    generalize B ++ (d.cards.take c).map cellC = C at h65 b0'' ⊢
    simp only [cellC, cardE] at h65
    rw [setN_succ]
    by_cases hb : nearB d.wear l (cardE d c) d.least.toNat = true
    · rw [if_pos hb]
      simp only [cardE] at hb hor
      rw [hb] at h65
      simp (disch := omega) only [go_sem, ↓reduceIte, simprocAttr, hci, eC_get, ca, hzc, eC, h65, cellC, b0'', wrap_i64, cardE]
      rw [← hor]
      rfl
    · rw [if_neg hb]
      have hb' : nearB d.wear l (cardE d c) d.least.toNat = false := by simpa using hb
      simp only [cardE] at hb'
      rw [hb'] at h65
      simp (disch := omega) only [go_sem, ↓reduceIte, simprocAttr, hci, eC_get, ca, hzc, eC, h65, cellC, b0'', wrap_i64, cardE]
  · simp only [go_sem, ↓reduceIte, simprocAttr]
end Go.Proofs.YtiighcpimecehaaGreat
end
section
namespace Go.Proofs.YtiighcpimecehaaGreat
open Go.Proofs

theorem enter_two (d : Dr) (a b below : Int) : enterE d below [a, b] = if askedE d a below = 0 then askedE d b below else askedE d a below := by
  unfold enterE askedE
  by_cases hc : (checkT d).2.2 = 0
  · simp only [if_pos hc, List.any_cons, List.any_nil, Bool.or_false, ← out_not]
    cases out 0 (below - 1) a <;> cases out 0 (below - 1) b <;> simp
  · simp only [if_neg hc]

theorem hush_33_6 : tabX.hush 33 6 = false := id rfl
theorem c30_yes (d : Dr) (hd : d.fits) (a b : Nat) (he : alikeE d a b = 0) (h : Heap) : callPure (EW tabX) 33 [eD d, .int .i64 a, .int .i64 b] h = some (.tup [.bool (alikeB d a b), .int .i64 0], h) := by
  have lc := hd.lc
  have hcl := eD_clean d
  have e2 := enter_two d a b d.cards.length
  unfold alikeE at he
  have ha : askedE d a d.cards.length = 0 := by
    by_cases ha : askedE d a d.cards.length = 0
    · exact ha
    · rw [if_neg ha] at he; exact he
  rw [if_pos ha] at he e2
  have hb : askedE d b d.cards.length = 0 := by
    by_cases hb : askedE d b d.cards.length = 0
    · exact hb
    · rw [if_neg hb] at he; exact he
  rw [if_pos hb] at he
  rw [hb] at e2
  have hab : ((a : Int) == b) = false := by
    cases hh : ((a : Int) == b) with
    | false => rfl
    | true => rw [if_pos (by simpa using hh)] at he; cases he
  obtain ⟨hk, a0, a1⟩ := asked_yes ha
  obtain ⟨_, b0, b1⟩ := asked_yes hb
  obtain ⟨ho, B, t, tag, zz, h60, m0, m4, m3, hown⟩ := enter_yes d hd d.cards.length (by omega) 1 1 [(a : Int), b] (fun _ => rfl) (by simp) e2
  have hl := ho.l1
  have hls := ho.ls
  have h6 := ho.s6
  obtain ⟨x1, x2, x3, x4⟩ := cardE_low ho (show a < d.cards.length by omega)
  obtain ⟨y1, y2, y3, y4⟩ := cardE_low ho (show b < d.cards.length by omega)
  have h65 := fun u t2 => c65 d ⟨ho.w0, ho.w9⟩ (cardE d a) (cardE d b) d.least.toNat x1 y1 x2 y2 (by omega) 0 0 1 1 (fun _ => rfl) (fun _ => rfl) 4 _ ⟨B ++ u, t2⟩ (old m4 u)
  have hlt : ((d.least.toNat : Nat) : Int) = d.least := by omega
  rw [hlt] at h65
  have hz := hd.zc (by intro e; rw [e] at a1; simp at a1; omega)
  have ca := card_at d a (by omega)
  have cb := card_at d b (by omega)
  simp only [eDc, List.cons_append, List.nil_append] at m0
  have m0' := old m0
  rw [callPure_eq, w_call _ fn_33 rfl]
  simp only [cardE] at h65
  simp only [go_sem, ↓reduceIte, simprocAttr, eD, eDc, eC_under, I_c, I_nil, hz] at hcl h60 ⊢
  try simp only [hz] at m0'
  try simp only [go_sem, ↓reduceIte, simprocAttr] at h65
  simp only [go_sem, ↓reduceIte, simprocAttr, eC_clean, h60, hab, hush_33_6]
  rw [if_pos (by kernel_rfl)]
  simp only [go_sem, ↓reduceIte, simprocAttr, m0', eC_get, ca, cb, eC]
  generalize hbb : boundAll _ _ _ = bb
  have hbt : bb = true := by rw [← hbb]; kernel_rfl
  subst hbt
  have h65' := fun u t2 => h65 u t2
  simp only [go_sem, ↓reduceIte, simprocAttr, h65, alikeB, cardE]
end Go.Proofs.YtiighcpimecehaaGreat
end
section
namespace Go.Proofs.YtiighcpimecehaaGreat
open Go.Proofs

theorem allTo_iff {p : Nat → Bool} {n : Nat} : allTo p n = true ↔ ∀ k, k < n → p k = true := by
  constructor
  · intro h k hk; exact allTo_at h hk
  · intro h
    induction n with
    | zero => rfl
    | succ n ih => rw [allTo_succ, ih fun k hk => h k (by omega), h n (by omega)]; rfl
theorem anyTo_iff {p : Nat → Bool} {n : Nat} : anyTo p n = true ↔ ∃ k, k < n ∧ p k = true := by
  unfold anyTo
  constructor
  · intro h
    have h : allTo (fun i => !p i) n = false := by simpa using h
    obtain ⟨k, h1, _, h2⟩ := allTo_false h
    exact ⟨k, h1, by simpa using h2⟩
  · rintro ⟨k, h1, h2⟩
    cases ha : allTo (fun i => !p i) n with
    | false => rfl
    | true => have := allTo_at ha h1; rw [h2] at this; cases this
theorem nearB_iff {w : Int} {a b : List Int} {m : Nat} : nearB w a b m = true ↔ ∃ i k, i + m ≤ a.length ∧ k + m ≤ b.length ∧ ∀ n, n < m → inR (a.getD (i + n) 0 - b.getD (k + n) 0) (0 - w) w = true := by
  have e : nearB w a b m = anyTo (fun i => anyTo (fun k => cellB w a b m i k) (b.length + 1 - m)) (a.length + 1 - m) := by
    unfold nearB anyTo
    congr 2
  rw [e, anyTo_iff]
  constructor
  · rintro ⟨i, hi, h⟩
    obtain ⟨k, hk, h⟩ := anyTo_iff.1 h
    exact ⟨i, k, by omega, by omega, fun n hn => allTo_iff.1 h n hn⟩
  · rintro ⟨i, k, h1, h2, h3⟩
    exact ⟨i, by omega, anyTo_iff.2 ⟨k, by omega, allTo_iff.2 h3⟩⟩
theorem nearB_less {w : Int} {a b : List Int} {m n : Nat} (h : nearB w a b n = true) (hm : m ≤ n) : nearB w a b m = true := by
  obtain ⟨i, k, h1, h2, h3⟩ := nearB_iff.1 h
  exact nearB_iff.2 ⟨i, k, by omega, by omega, fun j hj => h3 j (by omega)⟩

def metI (d : Dr) (i m : Nat) : Bool := anyTo (fun i => anyTo (fun k => nearB d.wear (cardE d i) (cardE d k) m) i) i
def metK (d : Dr) (i k m : Nat) : Bool := metI d i m || anyTo (fun k => nearB d.wear (cardE d i) (cardE d k) m) k
theorem metI_zero (d : Dr) (m : Nat) : metI d 0 m = false := rfl
theorem metK_zero (d : Dr) (i m : Nat) : metK d i 0 m = metI d i m := by unfold metK; rw [anyTo_zero]; simp
theorem metK_succ (d : Dr) (i k m : Nat) : metK d i (k + 1) m = (metK d i k m || nearB d.wear (cardE d i) (cardE d k) m) := by unfold metK; rw [anyTo_succ, Bool.or_assoc]
theorem metI_succ (d : Dr) (i m : Nat) : metI d (i + 1) m = metK d i i m := by
  have e : metI d (i + 1) m = (metI d i m || anyTo (fun k => nearB d.wear (cardE d i) (cardE d k) m) i) := anyTo_succ _ _
  rw [e]; rfl
theorem metI_less {d : Dr} {i m n : Nat} (h : metI d i n = true) (hm : m ≤ n) : metI d i m = true := by
  obtain ⟨i', h1, h2⟩ := anyTo_iff.1 h
  obtain ⟨k, h3, h4⟩ := anyTo_iff.1 h2
  exact anyTo_iff.2 ⟨i', h1, anyTo_iff.2 ⟨k, h3, nearB_less h4 hm⟩⟩
theorem metK_less {d : Dr} {i k m n : Nat} (h : metK d i k n = true) (hm : m ≤ n) : metK d i k m = true := by
  unfold metK at h ⊢
  rw [Bool.or_eq_true] at h ⊢
  rcases h with h | h
  · exact .inl (metI_less h hm)
  · obtain ⟨k', h3, h4⟩ := anyTo_iff.1 h
    exact .inr (anyTo_iff.2 ⟨k', h3, nearB_less h4 hm⟩)
theorem climb (p : Nat → Bool) (S : Nat) : ∀ (f m : Nat), S + 1 ≤ m + f → m ≤ S + 1 → ∃ n, (∀ k, k < n → m + k ≤ S ∧ p (m + k) = true) ∧ m + n ≤ S + 1 ∧ (m + n ≤ S → p (m + n) = false)
  | 0, m, h, hm => ⟨0, fun k hk => absurd hk (Nat.not_lt_zero _), hm, fun h => by omega⟩
  | f + 1, m, h, hm => by
    by_cases hS : m ≤ S
    · cases hp : p m with
      | false => exact ⟨0, fun k hk => absurd hk (Nat.not_lt_zero _), hm, fun _ => hp⟩
      | true =>
        obtain ⟨n, h1, h2, h3⟩ := climb p S f (m + 1) (by omega) (by omega)
        refine ⟨n + 1, fun k hk => ?_, by omega, fun h => by rw [show m + (n + 1) = m + 1 + n by omega]; exact h3 (by omega)⟩
        cases k with
        | zero => exact ⟨hS, hp⟩
        | succ k => rw [show m + (k + 1) = m + 1 + k by omega]; exact h1 k (by omega)
    · exact ⟨0, fun k hk => absurd hk (Nat.not_lt_zero _), hm, fun h => absurd h hS⟩
def Clm (S : Nat) (P : Nat → Bool) (m : Nat) : Prop := 1 ≤ m ∧ m ≤ S + 1 ∧ (∀ j, 1 ≤ j → j < m → P j = true) ∧ (m ≤ S → P m = false)
theorem Clm.step {S m n : Nat} {d : Dr} {i k : Nat} (h : Clm S (metK d i k) m) (h1 : ∀ j, j < n → m + j ≤ S ∧ nearB d.wear (cardE d i) (cardE d k) (m + j) = true) (h2 : m + n ≤ S + 1) (h3 : m + n ≤ S → nearB d.wear (cardE d i) (cardE d k) (m + n) = false) :
    Clm S (metK d i (k + 1)) (m + n) := by
  obtain ⟨a, b, c, e⟩ := h
  refine ⟨by omega, h2, fun j j1 j2 => ?_, fun hS => ?_⟩
  · rw [metK_succ, Bool.or_eq_true]
    by_cases hj : j < m
    · exact .inl (c j j1 hj)
    · have := (h1 (j - m) (by omega)).2
      rw [show m + (j - m) = j by omega] at this
      exact .inr this
  · rw [metK_succ, Bool.or_eq_false_iff]
    refine ⟨?_, h3 hS⟩
    cases hm : metK d i k (m + n) with
    | false => rfl
    | true => have := metK_less hm (show m ≤ m + n by omega); rw [e (by omega)] at this; cases this
theorem enough_of {d : Dr} {m : Nat} (hc : (checkT d).2.2 = 0) (h : Clm d.steps.toNat (metI d d.cards.length) m) : enoughR d = if m ≤ d.steps.toNat then ((m : Int), 0) else (0, 9) := by
  obtain ⟨a, b, c, e⟩ := h
  unfold enoughR
  rw [if_pos hc]
  have hm : ∀ j, metB d j = metI d d.cards.length j := fun j => rfl
  rcases find_range (fun k => !metB d (k + 1)) d.steps.toNat with ⟨f1, f2⟩ | ⟨n, f1, f2, f3, f4⟩
  · rw [f1]
    by_cases hS : m ≤ d.steps.toNat
    · have := allTo_at f2 (show m - 1 < d.steps.toNat by omega)
      rw [show m - 1 + 1 = m by omega, hm, e hS] at this
      cases this
    · rw [if_neg hS]
  · rw [f1]
    have hn : metI d d.cards.length (n + 1) = false := by rw [← hm]; simpa using f3
    have e1 : m = n + 1 := by
      by_cases hlt : n + 1 < m
      · have := c (n + 1) (by omega) hlt; rw [hn] at this; cases this
      · by_cases hgt : m < n + 1
        · have := allTo_at f4 (show m - 1 < n by omega)
          rw [show m - 1 + 1 = m by omega, hm, e (by omega)] at this
          cases this
        · omega
    subst e1
    rw [if_pos (by omega)]
    simp
end Go.Proofs.YtiighcpimecehaaGreat
end
section
namespace Go.Proofs.YtiighcpimecehaaGreat
open Go.Proofs

structure Mo.Ok (m : Mo) : Prop where
  w4 : m.who.length ≤ 4
  s5 : m.sums.length ≤ 5
  o6 : m.words.length ≤ 6
  p5 : m.paid.length ≤ 5
  sums : ∀ x ∈ m.sums, 1 ≤ x.pence ∧ x.pence ≤ 99 ∧ 1 ≤ x.fr ∧ x.fr ≤ 2 ^ m.who.length - 1
  words : ∀ (i : Nat) w, m.words[i]? = some w → 0 ≤ w.says ∧ w.says ≤ 3 ∧ 0 ≤ w.sum ∧ w.sum < m.sums.length ∧ 0 ≤ w.of ∧ (2 ≤ w.says → w.of < m.sums.length ∧ w.of ≠ w.sum) ∧ (w.says < 2 → w.of < m.who.length) ∧ -1 ≤ w.back ∧ w.back < m.words.length ∧ w.back ≠ i
  paid : ∀ p ∈ m.paid, 0 ≤ p.sum ∧ p.sum < m.sums.length ∧ 0 ≤ p.who ∧ p.who < m.who.length
theorem out_false {lo hi n : Int} (h : out lo hi n = false) : lo ≤ n ∧ n ≤ hi := by
  unfold out at h
  rw [Bool.or_eq_false_iff, decide_eq_false_iff_not, decide_eq_false_iff_not] at h
  omega
theorem ok_of_checkM {m : Mo} (h : (checkM m).2.2 = 0) : m.Ok ∧ checkM m = (0, 0, 0) := by
  unfold checkM at h ⊢
  by_cases n0 : (partM m 0).2 = 0
  · by_cases n1 : (partM m 1).2 = 0
    · by_cases n2 : (partM m 2).2 = 0
      · by_cases n3 : (partM m 3).2 = 0
        · simp only [n0, n1, n2, n3, ne_eq, not_true, if_false, and_true]
          obtain ⟨_, l0, f0⟩ := failP_zero (show (failP 4 (whoI m) m.who.length).2 = 0 from n0)
          obtain ⟨_, l1, f1⟩ := failP_zero (show (failP 5 (sumI m) m.sums.length).2 = 0 from n1)
          obtain ⟨_, l2, f2⟩ := failP_zero (show (failP 6 (wordI m) m.words.length).2 = 0 from n2)
          obtain ⟨_, l3, f3⟩ := failP_zero (show (failP 5 (paidI m) m.paid.length).2 = 0 from n3)
          refine ⟨by omega, by omega, by omega, by omega, ?_, ?_, ?_⟩
          · intro x hx
            obtain ⟨i, hi, hxi⟩ := mem_get hx
            have := firstBad_none f1 i (Nat.zero_le _) (by omega)
            simp only [sumI, hxi, sumE] at this
            split at this
            · split at this
              · cases this
              · split at this
                · cases this
                · rename_i h3
                  have h3 : (out 1 99 x.pence || out 1 (bitsN m.who.length) x.fr) = false := by simpa using h3
                  rw [Bool.or_eq_false_iff] at h3
                  have a := out_false h3.1
                  have b := out_false h3.2
                  unfold bitsN at b
                  omega
            · cases this
          · intro i w hw
            have hi := (List.getElem?_eq_some_iff.1 hw).1
            have := firstBad_none f2 i (Nat.zero_le _) (by omega)
            simp only [wordI, hw, wordE] at this
            by_cases a1 : out 0 3 w.says = true
            · rw [if_pos a1] at this; cases this
            rw [if_neg a1] at this
            by_cases a2 : (out 0 ((m.sums.length : Int) - 1) w.sum || (out 0 ((if 2 ≤ w.says then (m.sums.length : Int) else m.who.length) - 1) w.of || out (-1) ((m.words.length : Int) - 1) w.back)) = true
            · rw [if_pos a2] at this; cases this
            rw [if_neg a2] at this
            by_cases a3 : (w.back == (i : Int) || (decide (2 ≤ w.says) && w.of == w.sum)) = true
            · rw [if_pos a3] at this; cases this
            have a1 := out_false (Bool.not_eq_true _ ▸ a1)
            have a2 := Bool.not_eq_true _ ▸ a2
            rw [Bool.or_eq_false_iff, Bool.or_eq_false_iff] at a2
            obtain ⟨b1, b2, b3⟩ := a2
            have b1 := out_false b1
            have b2 := out_false b2
            have b3 := out_false b3
            simp only [Bool.or_eq_true, Bool.and_eq_true, beq_iff_eq, decide_eq_true_eq, not_or, not_and] at a3
            refine ⟨a1.1, a1.2, b1.1, by omega, b2.1, fun h2 => ?_, fun h2 => ?_, b3.1, by omega, a3.1⟩
            · rw [if_pos h2] at b2; exact ⟨by omega, a3.2 h2⟩
            · rw [if_neg (by omega)] at b2; omega
          · intro p hp
            obtain ⟨i, hi, hxi⟩ := mem_get hp
            have := firstBad_none f3 i (Nat.zero_le _) (by omega)
            simp only [paidI, hxi, paidE] at this
            split at this
            · cases this
            rename_i h3
            have h3 : (out 0 ((m.sums.length : Int) - 1) p.sum || out 0 ((m.who.length : Int) - 1) p.who) = false := by simpa using h3
            rw [Bool.or_eq_false_iff] at h3
            have a := out_false h3.1
            have b := out_false h3.2
            omega
        · simp only [n0, n1, n2, n3, ne_eq, not_true, not_false_eq_true, if_false, if_true] at h
      · simp only [n0, n1, n2, ne_eq, not_true, not_false_eq_true, if_false, if_true] at h
    · simp only [n0, n1, ne_eq, not_true, not_false_eq_true, if_false, if_true] at h
  · simp only [n0, ne_eq, not_false_eq_true, if_true] at h

def eLc (m : Mo) (came : Nat) (q : Nat) (ev : List Int) : List AV := [.lst 0 m.zw (S m.who), .lst 0 m.zs (m.sums.map eSu), .lst 0 m.zo (m.words.map eWo), .lst 0 m.zp (m.paid.map ePd), .int .i64 came, .mapr q] ++ I ev
def backAt (m : Mo) (i at' : Nat) : Bool := match m.words[i]? with | some w => w.back == (at' : Int) | none => false
def countB (m : Mo) (came at' : Nat) : Bool := allTo (fun i => !(backAt m i at' && came.testBit i)) m.words.length && came.testBit at'
theorem shr64 : ∀ s : Fin 64, ∀ i : Fin 6, (IntKind.i64.wrap (BitVec.ofInt 64 (((s.1 : Nat) : Int).fdiv (2 ^ (min i.1 64))) &&& 1#64).toNat == 1) = s.1.testBit i.1 := by decide +kernel
theorem shr_c {s i : Nat} (hs : s < 64) (hi : i < 6) : (IntKind.i64.wrap (BitVec.ofInt 64 ((s : Int).fdiv (2 ^ (min i 64))) &&& 1#64).toNat == 1) = s.testBit i := shr64 ⟨s, hs⟩ ⟨i, hi⟩
def firstE (p : Nat → Bool) (i : Nat) : Int := if p i then 0 else 1
theorem firstE_all {p : Nat → Bool} {n : Nat} : firstBad (firstE p) 0 n = none ↔ allTo p n = true := by
  constructor
  · intro h
    rw [allTo_iff]
    intro k hk
    have := firstBad_none h k (Nat.zero_le _) (by omega)
    unfold firstE at this
    split at this
    · assumption
    · cases this
  · intro h
    cases hf : firstBad (firstE p) 0 n with
    | none => rfl
    | some k =>
      obtain ⟨_, h1, h2, _⟩ := firstBad_some hf
      exact absurd (by unfold firstE; rw [if_pos (allTo_iff.1 h k (by omega))]) h2
theorem firstE_zero {p : Nat → Bool} {i : Nat} : firstE p i = 0 ↔ p i = true := by
  unfold firstE; split
  · rename_i h; simp [h]
  · rename_i h; simp [h]
theorem m162 (m : Mo) (hm : m.fits) (ho : m.Ok) (came : Nat) (hc : came < 64) (q : Nat) (ev : List Int) (r at' : Nat) (hat : at' < m.words.length) (h : Heap) (hr : h.b[r]? = some (.cells (eLc m came q ev))) :
   (EW tabX).call 162 [.ref r 0, .int .i64 at'] h = some (.bool (countB m came at'), h) := by
  obtain ⟨B, ht⟩ := h
  have hr : B[r]? = some (.cells (eLc m came q ev)) := hr
  simp only [eLc, List.cons_append, List.nil_append] at hr
  have oR := old hr
  have o6 := ho.o6
  have hz := fun (hne : 0 < m.words.length) => hm.zo (by intro e; rw [e] at hne; simp at hne)
  have hsa := shr_c hc (show at' < 6 by omega)
  have step : ∀ k c, m.words[k]? = some c → B ++ (m.words.take (k + 1)).map bWo = B ++ (m.words.take k).map bWo ++ [bWo c] := fun k c hx => by rw [map_succ _ hx, List.append_assoc]
  rw [w_call _ fn_162 rfl]
  simp only [go_sem, ↓reduceIte, simprocAttr, hr, oR]
  rw [w_first (fun k => [(13, .int .i64 k)]) (fun k => ⟨B ++ (m.words.take k).map bWo, ht⟩) (firstE fun i => !(backAt m i at' && came.testBit i)) m.words.length .ret (fun n => [(4, .bool false), (5, .int .i64 n), (6, .ref (B ++ (m.words.take n).map bWo).length 0), (13, .int .i64 n)]) (fun n => ⟨B ++ (m.words.take (n + 1)).map bWo, ht⟩) (.exit 0) [(13, .int .i64 m.words.length)] ⟨B ++ m.words.map bWo, ht⟩ ?_ ?_ ?_ ?_ ?_ rfl rfl]
  · unfold firstW countB
    cases hf : firstBad (firstE fun i => !(backAt m i at' && came.testBit i)) 0 m.words.length with
    | some n =>
      have : allTo (fun i => !(backAt m i at' && came.testBit i)) m.words.length = false := by
        cases ha : allTo (fun i => !(backAt m i at' && came.testBit i)) m.words.length with
        | false => rfl
        | true => rw [firstE_all.2 ha] at hf; cases hf
      rw [this]
      simp only [go_sem, ↓reduceIte, simprocAttr]
    | none =>
      rw [firstE_all.1 hf]
      simp only [go_sem, ↓reduceIte, simprocAttr, oR]
      generalize hgg : (IntKind.i64.wrap _ == (1 : Int)) = bb
      obtain rfl : bb = came.testBit at' := hgg.symm.trans hsa
      rfl
  · simp only [go_sem, ↓reduceIte, simprocAttr]
  · simp only [go_sem, ↓reduceIte, simprocAttr]
  · intro k hk h0
    have hx := List.getElem?_eq_getElem hk
    have hki : (k : Int) < m.words.length := by omega
    have hz1 := hz (by omega)
    have h0 := firstE_zero.1 h0
    have hsk := shr_c hc (show k < 6 by omega)
    have hb : backAt m k at' = (m.words[k].back == (at' : Int)) := by unfold backAt; rw [hx]
    rw [hb] at h0
    rw [step k _ hx]
    have oC := old hr ((m.words.take k).map bWo)
    generalize B ++ (m.words.take k).map bWo = C at oC ⊢
    have oC2 := old oC
    cases h1 : m.words[k].back == (at' : Int) with
    | false => simp (disch := omega) only [go_sem, ↓reduceIte, simprocAttr, hki, hz1, eWo_get, hx, eWo, bWo, oC, oC2, wrap_i64, h1]
    | true =>
      rw [h1] at h0
      have h2 : came.testBit k = false := by simpa using h0
      rw [h2] at hsk
      simp (disch := omega) only [go_sem, ↓reduceIte, simprocAttr, hki, hz1, eWo_get, hx, eWo, bWo, oC, oC2, wrap_i64, h1]
      rw [if_neg (by intro hh; exact Bool.false_ne_true (hsk.symm.trans hh))]
  · intro k hk h0
    have hx := List.getElem?_eq_getElem hk
    have hki : (k : Int) < m.words.length := by omega
    have hz1 := hz (by omega)
    have hsk := shr_c hc (show k < 6 by omega)
    have hb : backAt m k at' = (m.words[k].back == (at' : Int)) := by unfold backAt; rw [hx]
    have h0 : (!(backAt m k at' && came.testBit k)) = false := by
      cases hh : (!(backAt m k at' && came.testBit k)) with
      | false => rfl
      | true => exact absurd (firstE_zero.2 hh) h0
    rw [hb] at h0
    have h1 : (m.words[k].back == (at' : Int)) = true ∧ came.testBit k = true := by simpa using h0
    rw [h1.2] at hsk
    rw [step k _ hx]
    have oC := old hr ((m.words.take k).map bWo)
    generalize B ++ (m.words.take k).map bWo = C at oC ⊢
    have oC2 := old oC
    simp (disch := omega) only [go_sem, ↓reduceIte, simprocAttr, hki, hz1, eWo_get, hx, eWo, bWo, oC, oC2, wrap_i64, h1.1]
    rw [if_pos (by exact hsk)]
  · simp only [go_sem, ↓reduceIte, simprocAttr, Int.lt_irrefl]
end Go.Proofs.YtiighcpimecehaaGreat
end
section
namespace Go.Proofs.YtiighcpimecehaaGreat
open Go.Proofs

section
variable (X : Tab) {E : Eng} {L : List Nat} {all : List Oper}
noncomputable def guardM (E : Eng) (L : List Nat) (all : List Oper) (n0 : Nat × Nat) (c : Bool) (i : Nat) (d : Option Tmp) (op : Op) (r : List (Nat × Bool)) (t : Tmp) (want : Bool) (s : St) (b : Option Bool) : Option St := match b with
  | some b => if b = want then
      bindW (opAt X E (!c) (n0.1 + (all.length - 1 - i), n0.2 + i) op (setF L s.fr t (.bool want)) s.h) (fun x => runL X E L all n0 r ⟨setD L (setF L s.fr t (.bool want)) d x.1, x.2, s.ms⟩) .mk
    else runL X E L all n0 r ⟨setD L (setF L s.fr t (.bool !want)) d .und, s.h, s.ms⟩
  | none => runL X E L all n0 r ⟨setD L s.fr d .und, s.h, s.ms⟩
theorem guardM_some (n0 c i d op r t want s b) : guardM X E L all n0 c i d op r t want s (some b) = if b = want then
      bindW (opAt X E (!c) (n0.1 + (all.length - 1 - i), n0.2 + i) op (setF L s.fr t (.bool want)) s.h) (fun x => runL X E L all n0 r ⟨setD L (setF L s.fr t (.bool want)) d x.1, x.2, s.ms⟩) .mk
    else runL X E L all n0 r ⟨setD L (setF L s.fr t (.bool !want)) d .und, s.h, s.ms⟩ := _root_.id rfl
theorem guardM_none (n0 c i d op r t want s) : guardM X E L all n0 c i d op r t want s none = runL X E L all n0 r ⟨setD L s.fr d .und, s.h, s.ms⟩ := _root_.id rfl
theorem m_g (n0 : Nat × Nat) (c : Bool) (i : Nat) (d : Option Tmp) (op : Op) (ty : TypeId) (po : String) (af : Array Edge) (gi : Nat) (want : Bool) (r : List (Nat × Bool)) (s : St) :
    oneM X E L all n0 c i ⟨d, op, ty, po, af, some (gi, want)⟩ r s = bindW (guardOf all (gi, want)) (fun g => guardW (getF s.fr g.1) (guardM X E L all n0 c i d op r g.1 g.2 s) .mk) .mk := by
  simp only [oneM, oneOp, thenK_eq, setFK_eq, setDstK_eq]
  cases guardOf all (gi, want) with
  | none => rfl
  | some tw =>
    obtain ⟨t, w⟩ := tw
    simp only [bindW, Option.bind_some, guardW, guardM]
    cases getF s.fr t <;> rfl
end
attribute [go_sem] guardM_some guardM_none m_g
def eSay : List AV := [.clo 165 [] [], .clo 166 [] [], .clo 165 [] [], .clo 166 [] []]
theorem m161 (h : Heap) : callPure (EW tabX) 161 [] h = some (.agg eSay, h) := by
  rw [callPure_eq, w_call _ fn_161 rfl]
  simp only [go_sem, ↓reduceIte, simprocAttr, zipFrom_nil, eSay]
theorem m165 (x y : Int) (h : Heap) : callPure (EW tabX) 165 [.int .i64 x, .int .i64 y] h = some (.bool (x == y), h) := by
  rw [callPure_eq, w_call _ fn_165 rfl]
  simp only [go_sem, ↓reduceIte, simprocAttr]
theorem m166 (x y : Int) (h : Heap) : callPure (EW tabX) 166 [.int .i64 x, .int .i64 y] h = some (.bool (x != y), h) := by
  rw [callPure_eq, w_call _ fn_166 rfl]
  simp only [go_sem, ↓reduceIte, simprocAttr]
def soB (w : Wo) (a : List Int) : Bool :=
  let x := a.getD w.sum.toNat 0
  let y := if 2 ≤ w.says then a.getD w.of.toNat 0 else w.of
  if w.says = 0 ∨ w.says = 2 then x == y else x != y
def lastW (w : Wo) : Int := if 2 ≤ w.says then max w.sum w.of else w.sum
def okW (m : Mo) (came : Nat) (a : List Int) (sum : Nat) (i : Nat) : Bool := match m.words[i]? with
  | some w => !(lastW w == (sum : Int) && (countB m came i && !soB w a))
  | none => true
def keptB (m : Mo) (came : Nat) (a : List Int) (sum : Nat) : Bool := allTo (okW m came a sum) m.words.length
theorem max_lt (x y : Int) : (if x < y then y else x) = max x y := by omega
set_option maxHeartbeats 2000000 in
theorem m154 (m : Mo) (hm : m.fits) (ho : m.Ok) (came : Nat) (hc : came < 64) (q : Nat) (ev : List Int) (r : Nat) (a : List Int) (ha : a.length = 5) (sum : Nat) (h : Heap) (hr : h.b[r]? = some (.cells (eLc m came q ev))) :
   ∃ F, (EW tabX).call 154 [.ref r 0, .agg (I a), .int .i64 sum] h = some (.bool (keptB m came a sum), ⟨h.b, h.t ++ F⟩) := by
  obtain ⟨B, ht⟩ := h
  have hr : B[r]? = some (.cells (eLc m came q ev)) := hr
  have o6 := ho.o6
  have o5 := ho.s5
  have h162 := fun (k : Nat) (hk : k < m.words.length) (C : List ABlk) (t : List Bool) (hC : C[r]? = some (.cells (eLc m came q ev))) => m162 m hm ho came hc q ev r k hk ⟨C, t⟩ hC
  have hrl := (List.getElem?_eq_some_iff.1 hr).1
  simp only [eLc, List.cons_append, List.nil_append] at hr h162
  have oR := old hr
  have hz := fun (hne : 0 < m.words.length) => hm.zo (by intro e; rw [e] at hne; simp at hne)
  have hlB : ∀ k, r < B.length + k := fun k => by omega
  rw [w_call _ fn_154 rfl]
  simp only [go_sem, ↓reduceIte, simprocAttr, hr, oR, m161, eSay, hlB]
  generalize hx : (EW tabX).code 154 none (Code.loop _) _ = x
  refine w_rounds_sq hx (fun k (s : List ABlk × List Bool) => [(22, .int .i64 k)]) (fun s => ⟨B ++ (.cells (I a) :: .cells eSay :: s.1), ht ++ s.2⟩) (fun k s => allTo (okW m came a sum) k = true) m.words.length
    (fun e V s => (e = .exit 0 ∧ keptB m came a sum = true ∧ V = [(22, .int .i64 m.words.length)]) ∨ (e = .ret ∧ keptB m came a sum = false ∧ ∃ x9 x10 x11 x12 x22, V = [(6, .bool false), (9, x9), (10, x10), (11, x11), (12, x12), (22, x22)])) ([], []) ?_ ?_ ?_ ?_ ?_ ?_
  · simp only [go_sem, ↓reduceIte, simprocAttr]
  · simp only [go_sem, ↓reduceIte, simprocAttr, eSay]
  · rfl
  · intro k s hk hR
    obtain ⟨J, F⟩ := s
    simp only
    have hx := List.getElem?_eq_getElem hk
    have hki : (k : Int) < m.words.length := by omega
    have hz1 := hz (by omega)
    obtain ⟨w1, w2, w3, w4, w5, w6, w7, w8, w9, w10⟩ := ho.words k _ hx
    generalize m.words[k] = w at hx w1 w2 w3 w4 w5 w6 w7 w8 w9 w10
    obtain ⟨says, sm, of, back, cm⟩ := w
    simp only at w1 w2 w3 w4 w5 w6 w7 w8 w9 w10
    have oC := old hr (.cells (I a) :: .cells eSay :: J)
    have oA : (B ++ (.cells (I a) :: .cells eSay :: J))[B.length]? = some (.cells (I a)) := by simp
    have oS : (B ++ (.cells (I a) :: .cells eSay :: J))[B.length + 1]? = some (.cells eSay) := by simp
    generalize hC : B ++ (.cells (I a) :: .cells eSay :: J) = C at oC oA oS ⊢
    have oC2 := old oC
    have oA2 := old oA
    have oS2 := old oS
    simp only [eSay] at oS2
    obtain ⟨p, rfl⟩ := Int.eq_ofNat_of_zero_le w3
    have hp5 : p < a.length := by omega
    have hpi : (p : Int) < 5 := by omega
    have hpn : p < 5 := by omega
    have hpa := List.getElem?_eq_getElem hp5
    have hpd : (List.drop p a)[0]? = some a[p] := by rw [List.getElem?_drop, Nat.add_zero]; exact hpa
    have hs : says = 0 ∨ says = 1 ∨ says = 2 ∨ says = 3 := by omega
    rcases hs with rfl | rfl | rfl | rfl
    · have hw : okW m came a sum k = !((p : Int) == (sum : Int) && (countB m came k && !(a[p] == of))) := by unfold okW; rw [hx]; simp [soB, lastW, hpa]
      simp (disch := omega) only [go_sem, ↓reduceIte, simprocAttr, hki, hz1, eWo_get, hx, eWo, bWo, oC, oC2, oA2, oS2, wrap_i64]
      generalize hcf : okFam _ _ _ = cf
      obtain rfl : cf = true := by rw [← hcf]; kernel_rfl
      generalize List.replicate _ ABlk.none = N
      generalize List.replicate _ false = Z
      have h162 := h162 k hk (C ++ (bWo ⟨0, p, of, back, cm⟩ :: N)) (ht ++ (F ++ Z)) (old oC _)
      simp only [bWo] at h162
      cases e1 : (p : Int) == (sum : Int) with
      | false => exact .inl ⟨⟨J ++ (bWo ⟨0, p, of, back, cm⟩ :: N), F ++ Z⟩, by simp (disch := omega) only [go_sem, ↓reduceIte, simprocAttr, oC2, oA2, oS2, wrap_i64, e1]; simp only [← hC, bWo, List.append_assoc, List.cons_append, List.nil_append], by rw [allTo_succ, hR, hw]; simp [e1]⟩
      | true =>
        cases e2 : countB m came k with
        | false => exact .inl ⟨⟨J ++ (bWo ⟨0, p, of, back, cm⟩ :: N), F ++ Z⟩, by simp (disch := omega) only [go_sem, ↓reduceIte, simprocAttr, oC2, oA2, oS2, wrap_i64, e1, h162, e2]; simp only [← hC, bWo, List.append_assoc, List.cons_append, List.nil_append], by rw [allTo_succ, hR, hw]; simp [e1, e2]⟩
        | true =>
          cases e3 : a[p] == of with
          | true => exact .inl ⟨⟨J ++ (bWo ⟨0, p, of, back, cm⟩ :: N), F ++ Z⟩, by simp (disch := omega) only [go_sem, ↓reduceIte, simprocAttr, oC2, oA2, oS2, wrap_i64, e1, h162, e2, hpi, hpn, Nat.mul_one, hpd, I_drop, I_get, m165, e3]; simp only [← hC, bWo, List.append_assoc, List.cons_append, List.nil_append], by rw [allTo_succ, hR, hw]; simp [e1, e2, e3]⟩
          | false => exact .inr ⟨_, [(6, .bool false), (9, .int .i64 k), (10, .ref C.length 0), (11, .int .i64 ((p : Int))), (12, .int .i64 (of)), (22, .int .i64 k)], ⟨J ++ (bWo ⟨0, p, of, back, cm⟩ :: N), F ++ Z⟩, by simp (disch := omega) only [go_sem, ↓reduceIte, simprocAttr, oC2, oA2, oS2, wrap_i64, e1, h162, e2, hpi, hpn, Nat.mul_one, hpd, I_drop, I_get, m165, e3]; simp only [← hC, bWo, List.append_assoc, List.cons_append, List.nil_append], rfl, .inr ⟨rfl, by unfold keptB; exact Bool.eq_false_iff.2 (fun h => by have := allTo_iff.1 h k hk; rw [hw] at this; simp [e1, e2, e3] at this), _, _, _, _, _, rfl⟩⟩
    · have hw : okW m came a sum k = !((p : Int) == (sum : Int) && (countB m came k && !(a[p] != of))) := by unfold okW; rw [hx]; simp [soB, lastW, hpa]
      simp (disch := omega) only [go_sem, ↓reduceIte, simprocAttr, hki, hz1, eWo_get, hx, eWo, bWo, oC, oC2, oA2, oS2, wrap_i64]
      generalize hcf : okFam _ _ _ = cf
      obtain rfl : cf = true := by rw [← hcf]; kernel_rfl
      generalize List.replicate _ ABlk.none = N
      generalize List.replicate _ false = Z
      have h162 := h162 k hk (C ++ (bWo ⟨1, p, of, back, cm⟩ :: N)) (ht ++ (F ++ Z)) (old oC _)
      simp only [bWo] at h162
      cases e1 : (p : Int) == (sum : Int) with
      | false => exact .inl ⟨⟨J ++ (bWo ⟨1, p, of, back, cm⟩ :: N), F ++ Z⟩, by simp (disch := omega) only [go_sem, ↓reduceIte, simprocAttr, oC2, oA2, oS2, wrap_i64, e1]; simp only [← hC, bWo, List.append_assoc, List.cons_append, List.nil_append], by rw [allTo_succ, hR, hw]; simp [e1]⟩
      | true =>
        cases e2 : countB m came k with
        | false => exact .inl ⟨⟨J ++ (bWo ⟨1, p, of, back, cm⟩ :: N), F ++ Z⟩, by simp (disch := omega) only [go_sem, ↓reduceIte, simprocAttr, oC2, oA2, oS2, wrap_i64, e1, h162, e2]; simp only [← hC, bWo, List.append_assoc, List.cons_append, List.nil_append], by rw [allTo_succ, hR, hw]; simp [e1, e2]⟩
        | true =>
          cases e3 : a[p] != of with
          | true => exact .inl ⟨⟨J ++ (bWo ⟨1, p, of, back, cm⟩ :: N), F ++ Z⟩, by simp (disch := omega) only [go_sem, ↓reduceIte, simprocAttr, oC2, oA2, oS2, wrap_i64, e1, h162, e2, hpi, hpn, Nat.mul_one, hpd, I_drop, I_get, m166, e3]; simp only [← hC, bWo, List.append_assoc, List.cons_append, List.nil_append], by rw [allTo_succ, hR, hw]; simp [e1, e2, e3]⟩
          | false => exact .inr ⟨_, [(6, .bool false), (9, .int .i64 k), (10, .ref C.length 0), (11, .int .i64 ((p : Int))), (12, .int .i64 (of)), (22, .int .i64 k)], ⟨J ++ (bWo ⟨1, p, of, back, cm⟩ :: N), F ++ Z⟩, by simp (disch := omega) only [go_sem, ↓reduceIte, simprocAttr, oC2, oA2, oS2, wrap_i64, e1, h162, e2, hpi, hpn, Nat.mul_one, hpd, I_drop, I_get, m166, e3]; simp only [← hC, bWo, List.append_assoc, List.cons_append, List.nil_append], rfl, .inr ⟨rfl, by unfold keptB; exact Bool.eq_false_iff.2 (fun h => by have := allTo_iff.1 h k hk; rw [hw] at this; simp [e1, e2, e3] at this), _, _, _, _, _, rfl⟩⟩
    · obtain ⟨o, rfl⟩ := Int.eq_ofNat_of_zero_le w5
      have ho5 : o < a.length := by have := w6 (by omega); omega
      have hoi : (o : Int) < 5 := by omega
      have hon : o < 5 := by omega
      have hoa := List.getElem?_eq_getElem ho5
      have hod : (List.drop o a)[0]? = some a[o] := by rw [List.getElem?_drop, Nat.add_zero]; exact hoa
      have hw : okW m came a sum k = !(max (p : Int) o == (sum : Int) && (countB m came k && !(a[p] == a[o]))) := by unfold okW; rw [hx]; simp [soB, lastW, hpa, hoa]
      simp (disch := omega) only [go_sem, ↓reduceIte, simprocAttr, hki, hz1, eWo_get, hx, eWo, bWo, oC, oC2, oA2, oS2, wrap_i64, hoi, hon, Nat.mul_one, hod, I_drop, I_get, opMax, max_lt]
      generalize hcf : okFam _ _ _ = cf
      obtain rfl : cf = true := by rw [← hcf]; kernel_rfl
      generalize List.replicate _ ABlk.none = N
      generalize List.replicate _ false = Z
      have h162 := h162 k hk (C ++ (bWo ⟨2, p, o, back, cm⟩ :: N)) (ht ++ (F ++ Z)) (old oC _)
      simp only [bWo] at h162
      cases e1 : max (p : Int) o == (sum : Int) with
      | false => exact .inl ⟨⟨J ++ (bWo ⟨2, p, o, back, cm⟩ :: N), F ++ Z⟩, by simp (disch := omega) only [go_sem, ↓reduceIte, simprocAttr, oC2, oA2, oS2, wrap_i64, max_lt, e1]; simp only [← hC, bWo, List.append_assoc, List.cons_append, List.nil_append], by rw [allTo_succ, hR, hw]; simp [e1]⟩
      | true =>
        cases e2 : countB m came k with
        | false => exact .inl ⟨⟨J ++ (bWo ⟨2, p, o, back, cm⟩ :: N), F ++ Z⟩, by simp (disch := omega) only [go_sem, ↓reduceIte, simprocAttr, oC2, oA2, oS2, wrap_i64, max_lt, e1, h162, e2]; simp only [← hC, bWo, List.append_assoc, List.cons_append, List.nil_append], by rw [allTo_succ, hR, hw]; simp [e1, e2]⟩
        | true =>
          cases e3 : a[p] == a[o] with
          | true => exact .inl ⟨⟨J ++ (bWo ⟨2, p, o, back, cm⟩ :: N), F ++ Z⟩, by simp (disch := omega) only [go_sem, ↓reduceIte, simprocAttr, oC2, oA2, oS2, wrap_i64, max_lt, e1, h162, e2, hpi, hpn, Nat.mul_one, hpd, I_drop, I_get, m165, e3]; simp only [← hC, bWo, List.append_assoc, List.cons_append, List.nil_append], by rw [allTo_succ, hR, hw]; simp [e1, e2, e3]⟩
          | false => exact .inr ⟨_, [(6, .bool false), (9, .int .i64 k), (10, .ref C.length 0), (11, .int .i64 (max (p : Int) o)), (12, .int .i64 (a[o])), (22, .int .i64 k)], ⟨J ++ (bWo ⟨2, p, o, back, cm⟩ :: N), F ++ Z⟩, by simp (disch := omega) only [go_sem, ↓reduceIte, simprocAttr, oC2, oA2, oS2, wrap_i64, max_lt, e1, h162, e2, hpi, hpn, Nat.mul_one, hpd, I_drop, I_get, m165, e3]; simp only [← hC, bWo, List.append_assoc, List.cons_append, List.nil_append], rfl, .inr ⟨rfl, by unfold keptB; exact Bool.eq_false_iff.2 (fun h => by have := allTo_iff.1 h k hk; rw [hw] at this; simp [e1, e2, e3] at this), _, _, _, _, _, rfl⟩⟩
    · obtain ⟨o, rfl⟩ := Int.eq_ofNat_of_zero_le w5
      have ho5 : o < a.length := by have := w6 (by omega); omega
      have hoi : (o : Int) < 5 := by omega
      have hon : o < 5 := by omega
      have hoa := List.getElem?_eq_getElem ho5
      have hod : (List.drop o a)[0]? = some a[o] := by rw [List.getElem?_drop, Nat.add_zero]; exact hoa
      have hw : okW m came a sum k = !(max (p : Int) o == (sum : Int) && (countB m came k && !(a[p] != a[o]))) := by unfold okW; rw [hx]; simp [soB, lastW, hpa, hoa]
      simp (disch := omega) only [go_sem, ↓reduceIte, simprocAttr, hki, hz1, eWo_get, hx, eWo, bWo, oC, oC2, oA2, oS2, wrap_i64, hoi, hon, Nat.mul_one, hod, I_drop, I_get, opMax, max_lt]
      generalize hcf : okFam _ _ _ = cf
      obtain rfl : cf = true := by rw [← hcf]; kernel_rfl
      generalize List.replicate _ ABlk.none = N
      generalize List.replicate _ false = Z
      have h162 := h162 k hk (C ++ (bWo ⟨3, p, o, back, cm⟩ :: N)) (ht ++ (F ++ Z)) (old oC _)
      simp only [bWo] at h162
      cases e1 : max (p : Int) o == (sum : Int) with
      | false => exact .inl ⟨⟨J ++ (bWo ⟨3, p, o, back, cm⟩ :: N), F ++ Z⟩, by simp (disch := omega) only [go_sem, ↓reduceIte, simprocAttr, oC2, oA2, oS2, wrap_i64, max_lt, e1]; simp only [← hC, bWo, List.append_assoc, List.cons_append, List.nil_append], by rw [allTo_succ, hR, hw]; simp [e1]⟩
      | true =>
        cases e2 : countB m came k with
        | false => exact .inl ⟨⟨J ++ (bWo ⟨3, p, o, back, cm⟩ :: N), F ++ Z⟩, by simp (disch := omega) only [go_sem, ↓reduceIte, simprocAttr, oC2, oA2, oS2, wrap_i64, max_lt, e1, h162, e2]; simp only [← hC, bWo, List.append_assoc, List.cons_append, List.nil_append], by rw [allTo_succ, hR, hw]; simp [e1, e2]⟩
        | true =>
          cases e3 : a[p] != a[o] with
          | true => exact .inl ⟨⟨J ++ (bWo ⟨3, p, o, back, cm⟩ :: N), F ++ Z⟩, by simp (disch := omega) only [go_sem, ↓reduceIte, simprocAttr, oC2, oA2, oS2, wrap_i64, max_lt, e1, h162, e2, hpi, hpn, Nat.mul_one, hpd, I_drop, I_get, m166, e3]; simp only [← hC, bWo, List.append_assoc, List.cons_append, List.nil_append], by rw [allTo_succ, hR, hw]; simp [e1, e2, e3]⟩
          | false => exact .inr ⟨_, [(6, .bool false), (9, .int .i64 k), (10, .ref C.length 0), (11, .int .i64 (max (p : Int) o)), (12, .int .i64 (a[o])), (22, .int .i64 k)], ⟨J ++ (bWo ⟨3, p, o, back, cm⟩ :: N), F ++ Z⟩, by simp (disch := omega) only [go_sem, ↓reduceIte, simprocAttr, oC2, oA2, oS2, wrap_i64, max_lt, e1, h162, e2, hpi, hpn, Nat.mul_one, hpd, I_drop, I_get, m166, e3]; simp only [← hC, bWo, List.append_assoc, List.cons_append, List.nil_append], rfl, .inr ⟨rfl, by unfold keptB; exact Bool.eq_false_iff.2 (fun h => by have := allTo_iff.1 h k hk; rw [hw] at this; simp [e1, e2, e3] at this), _, _, _, _, _, rfl⟩⟩
  · intro s hR
    refine ⟨.exit 0, [(22, .int .i64 m.words.length)], s, ?_, rfl, .inl ⟨rfl, hR, rfl⟩⟩
    simp only [go_sem, ↓reduceIte, simprocAttr, Int.lt_irrefl]
  · intro e V s h1 h2
    refine ⟨s.2, ?_⟩
    rcases h2 with ⟨rfl, h2, rfl⟩ | ⟨rfl, h2, x9, x10, x11, x12, x22, rfl⟩
    · rw [h1, h2]
      simp only [go_sem, ↓reduceIte, simprocAttr]
    · rw [h1, h2]
      simp only [go_sem, ↓reduceIte, simprocAttr]
end Go.Proofs.YtiighcpimecehaaGreat
end
section
namespace Go.Proofs.YtiighcpimecehaaGreat
open Go.Proofs

theorem c32 (d : Dr) (hd : d.fits) (h : Heap) : callPure (EW tabX) 34 [eD d] h = some (.tup [.int .i64 (enoughR d).1, .int .i64 (enoughR d).2], h) := by
  have hcl := eD_clean d
  rw [callPure_eq, w_call _ fn_34 rfl]
  by_cases hc : (checkT d).2.2 = 0
  · obtain ⟨ho, B, t, tag, zz, h60, b0, b4, b3, hown⟩ := enter_yes d hd 0 (by omega) 1 0 [] (fun h => absurd rfl h) (by simp) (by rw [enterE_nil]; exact hc)
    have hc4 := ho.c4
    have h6 := ho.s6
    have hs1 := ho.s1
    have b4' := b4
    have b0' := b0
    simp only [eDc, List.cons_append, List.nil_append] at b0' b4
    simp only [go_sem, ↓reduceIte, simprocAttr, eD, eDc, eC_under] at hcl h60 ⊢
    simp only [go_sem, ↓reduceIte, simprocAttr, eC_clean, h60, b0']
    generalize hx : (EW tabX).code 34 none (Code.loop _) _ = x
    refine w_rounds_sk hx (fun i (s : List ABlk × Nat) => [(6, .int .i64 s.2), (22, .int .i64 i)]) (fun s => ⟨B ++ s.1, t⟩) (fun i s => Clm d.steps.toNat (metI d i) s.2) d.cards.length (.exit 0) (fun s => [(6, .int .i64 s.2), (22, .int .i64 d.cards.length)]) rfl ([], 1) ?_ ?_ ?_ ?_ ?_ ?_
    · simp only [go_sem, ↓reduceIte, simprocAttr]
    · simp only [go_sem, ↓reduceIte, simprocAttr]
    · exact ⟨by omega, by simp only; omega, fun j h1 h2 => by simp only at h2; omega, fun _ => metI_zero d 1⟩
    · intro i s hi hR
      obtain ⟨C, m⟩ := s
      have hii : (i : Int) < d.cards.length := by omega
      have hzc := hd.zc (by intro e; rw [e] at hi; simp at hi)
      have ci := card_at d i hi
      have o0 := old b0'
      have hile : i ≤ d.cards.length := by omega
      simp (disch := omega) only [go_sem, ↓reduceIte, simprocAttr, hii, eC_get, ci, hzc, eC, o0, hile]
      generalize hy : (EW tabX).code 34 none (Code.loop _) _ = y
      have hlen : (d.cards.take i).length = i := by rw [List.length_take]; omega
      simp only [List.length_take, List.length_map, Nat.min_eq_left hile] at hy
      refine w_rounds_sk hy (fun k (s : List ABlk × Nat) => [(6, .int .i64 s.2), (32, .int .i64 k)]) (fun s => ⟨B ++ (C ++ (cellC (d.cards.getD i ⟨default, []⟩) :: s.1)), t⟩) (fun k s => Clm d.steps.toNat (metK d i k) s.2) i (.exit 2) (fun s => [(6, .int .i64 s.2), (32, .int .i64 i)]) rfl ([], m) ?_ ?_ ?_ ?_ ?_ ?_
      · simp only [go_sem, ↓reduceIte, simprocAttr]
      · simp only [go_sem, ↓reduceIte, simprocAttr, cellC]
      · have e : metK d i 0 = metI d i := funext (metK_zero d i)
        rw [e]; exact hR
      · intro k s hk hR
        obtain ⟨D, m⟩ := s
        have hki : (k : Int) < i := by omega
        have ck := card_at d k (by omega)
        have hck : (d.cards.take i)[k]? = some (d.cards.getD k ⟨default, []⟩) := by rw [List.getElem?_take_of_lt hk]; exact ck
        have hmk : ((d.cards.map eC).take i)[k]? = some (eC (d.cards.getD k ⟨default, []⟩)) := by rw [← List.map_take, eC_get, hck]; rfl
        obtain ⟨n, n1, n2, n3⟩ := climb (fun j => nearB d.wear (cardE d i) (cardE d k) j) d.steps.toNat (d.steps.toNat + 1) m (by omega) hR.2.1
        have hm1 : 1 ≤ m := hR.1
        refine ⟨(D ++ [cellC (d.cards.getD k ⟨default, []⟩)], m + n), ?_, hR.step n1 n2 n3⟩
        obtain ⟨x1, x2, x3, x4⟩ := cardE_low ho hi
        obtain ⟨y1, y2, y3, y4⟩ := cardE_low ho (show k < d.cards.length by omega)
        have h65 : ∀ j, j ≤ n → ∀ E, (EW tabX).call 81 [.ref 4 0, .lst 0 1 (I (d.cards.getD i ⟨default, []⟩).edge), .lst 0 1 (I (d.cards.getD k ⟨default, []⟩).edge), .int .i64 ((m : Int) + j)] ⟨B ++ E, t⟩ = some (.bool (nearB d.wear (cardE d i) (cardE d k) (m + j)), ⟨B ++ E, t⟩) := fun j hj E => by
          have := c65 d ⟨ho.w0, ho.w9⟩ (cardE d i) (cardE d k) (m + j) x1 y1 x2 y2 (by omega) 0 0 1 1 (fun _ => rfl) (fun _ => rfl) 4 _ ⟨B ++ E, t⟩ (old b4' E)
          simpa only [cardE, Int.natCast_add] using this
        simp (disch := omega) only [go_sem, ↓reduceIte, simprocAttr, hki, hmk, eC, o0, cellC]
        rw [w_rounds_u (fun j => [(6, .int .i64 ((m : Int) + j))]) n (.exit 4) [(6, .int .i64 ((m : Int) + n))] ?_ ?_ ?_ rfl]
        · simp (disch := omega) only [go_sem, ↓reduceIte, simprocAttr, wrap_i64, cellC, Int.natCast_add]
        · simp only [go_sem, ↓reduceIte, simprocAttr, Int.add_zero]
        · intro j hj
          have hjs : (m : Int) + j ≤ d.steps := by have := (n1 j hj).1; omega
          have hn := (n1 j hj).2
          have h65' := h65 j (by omega)
          rw [hn] at h65'
          simp (disch := omega) only [go_sem, ↓reduceIte, simprocAttr, o0, hjs, h65', wrap_i64, cellC, Int.add_assoc]
        · by_cases hS : m + n ≤ d.steps.toNat
          · have hjs : (m : Int) + n ≤ d.steps := by omega
            have hn := n3 hS
            have h65' := h65 n (by omega)
            rw [hn] at h65'
            simp (disch := omega) only [go_sem, ↓reduceIte, simprocAttr, o0, hjs, h65', wrap_i64, cellC]
          · have hjs : ¬ ((m : Int) + n ≤ d.steps) := by omega
            simp (disch := omega) only [go_sem, ↓reduceIte, simprocAttr, o0, hjs, wrap_i64, cellC]
      · intro s hR
        simp only [go_sem, ↓reduceIte, simprocAttr]
      · intro s e1 hR
        subst e1
        refine ⟨(C ++ (cellC (d.cards.getD i ⟨default, []⟩) :: s.1), s.2), ?_, by have e : metI d (i + 1) = metK d i i := funext (metI_succ d i); rw [e]; exact hR⟩
        simp (disch := omega) only [go_sem, ↓reduceIte, simprocAttr, wrap_i64]
    · intro s hR
      simp only [go_sem, ↓reduceIte, simprocAttr]
    · intro s e1 hR
      subst e1
      rw [enough_of hc hR]
      have o0 := old b0'
      by_cases hS : s.2 ≤ d.steps.toNat
      · rw [if_pos hS]
        have h1 : ¬ (d.steps < (s.2 : Int)) := by omega
        simp only [go_sem, ↓reduceIte, simprocAttr, o0, h1]
      · rw [if_neg hS]
        have h1 : d.steps < (s.2 : Int) := by have := hR.2.1; omega
        simp only [go_sem, ↓reduceIte, simprocAttr, o0, h1]
  · have h60 := c60_no d hd 0 (by omega) 1 0 [] (fun h => absurd rfl h) (by simp) (by rw [enterE_nil]; exact hc) ⟨[.cells (eDc d)], []⟩
    rw [enterE_nil] at h60
    have hb1 : ((checkT d).2.2 != 0) = true := by simpa using hc
    unfold enoughR
    rw [if_neg hc]
    simp only [go_sem, ↓reduceIte, simprocAttr, eD, eDc, eC_under] at hcl h60 ⊢
    simp only [go_sem, ↓reduceIte, simprocAttr, eC_clean, h60, hb1]
end Go.Proofs.YtiighcpimecehaaGreat
end
section
namespace Go.Proofs.YtiighcpimecehaaGreat
open Go.Proofs

theorem flatMap_same {α β : Type} {f g : α → List β} : ∀ {l : List α}, (∀ x ∈ l, f x = g x) → l.flatMap f = l.flatMap g
  | [], _ => rfl
  | x :: l, h => by rw [List.flatMap_cons, List.flatMap_cons, h x (by simp), flatMap_same fun y hy => h y (by simp [hy])]
def dfs (d : Dr) : Nat → List Int → List (List Int)
  | 0, t => [t]
  | n + 1, t => (extK d t.length t (d.cards.length + 1)).flatMap (dfs d n)
theorem dfs_truths (d : Dr) : ∀ n k, truthsL d (k + n) = (truthsL d k).flatMap (dfs d n)
  | 0, k => by simp [dfs]
  | n + 1, k => by
    rw [show k + (n + 1) = (k + 1) + n by omega, dfs_truths d n (k + 1)]
    have e : truthsL d (k + 1) = (truthsL d k).flatMap fun t => extK d k t (d.cards.length + 1) := rfl
    rw [e, List.flatMap_assoc]
    refine flatMap_same fun t ht => ?_
    rw [dfs, truthsL_mem d k t ht]
theorem dfs_all (d : Dr) : dfs d d.halves.length [] = truthsL d d.halves.length := by
  have := dfs_truths d d.halves.length 0
  rw [Nat.zero_add] at this
  rw [this]; simp [truthsL]

def gath (s : List (List Int) × Nat) (t : List Int) : List (List Int) × Nat :=
  if lostN t < s.2 then ([t], lostN t) else if lostN t = s.2 ∧ s.1.getLast? ≠ some t then (s.1 ++ [t], s.2) else s
theorem leastN_app (l : List (List Int)) (t : List Int) (m : Nat) : leastN (l ++ [t]) m = min (leastN l m) (lostN t) := by
  unfold leastN; rw [List.foldl_append]; rfl
theorem gath_of (l : List (List Int)) (H : Nat) (hl : ∀ t ∈ l, lostN t ≤ H) (hn : l.Nodup) :
    l.foldl gath ([], H + 1) = (l.filter fun t => decide (lostN t = leastN l (H + 1)), leastN l (H + 1)) := by
  have key : ∀ k, k ≤ l.length → (l.take k).foldl gath ([], H + 1) = ((l.take k).filter fun t => decide (lostN t = leastN (l.take k) (H + 1)), leastN (l.take k) (H + 1)) := by
    intro k
    induction k with
    | zero => intro _; rfl
    | succ k ih =>
      intro hk
      have hx := List.getElem?_eq_getElem (show k < l.length by omega)
      rw [List.take_add_one, hx, Option.toList_some, List.foldl_append, ih (by omega), leastN_app]
      have hle := fun t ht => (leastN_le (l.take k) (H + 1)).2 t ht
      have hlt := hl _ (List.getElem_mem (show k < l.length by omega))
      generalize hm : leastN (l.take k) (H + 1) = m at *
      have hnew : l[k] ∉ l.take k := fun h => by
        obtain ⟨j, hj, e⟩ := List.mem_take_iff_getElem.1 h
        exact (List.pairwise_iff_getElem.1 hn j k (by omega) (by omega) (by omega)) e
      show gath _ _ = _
      unfold gath
      simp only
      by_cases h1 : lostN l[k] < m
      · rw [if_pos h1, List.filter_append]
        have e1 : min m (lostN l[k]) = lostN l[k] := by omega
        rw [e1]
        have e2 : (l.take k).filter (fun t => decide (lostN t = lostN l[k])) = [] := by
          rw [List.filter_eq_nil_iff]
          intro t ht
          have := hle t ht
          simp; omega
        rw [e2]; simp
      · rw [if_neg h1]
        have e1 : min m (lostN l[k]) = m := by omega
        rw [e1, List.filter_append]
        by_cases h2 : lostN l[k] = m
        · rw [if_pos ⟨h2, fun h => hnew (by
            have := List.mem_of_getLast? h
            exact (List.mem_filter.1 this).1)⟩]
          simp [h2]
        · rw [if_neg (fun h => h2 h.1)]
          simp [h2]
  have := key l.length (Nat.le_refl _)
  rwa [List.take_length] at this
theorem extK_nodup (d : Dr) (e : Nat) (t : List Int) (k : Nat) : (extK d e t k).Nodup := by
  unfold extK
  unfold List.Nodup
  rw [List.pairwise_map]
  refine List.Pairwise.imp ?_ (List.Pairwise.filter _ List.nodup_range)
  intro a b h e
  simp at e
  exact h (by omega)
theorem truthsL_nodup (d : Dr) : ∀ e, (truthsL d e).Nodup
  | 0 => by simp [truthsL]
  | e + 1 => by
    unfold truthsL
    unfold List.Nodup
    rw [List.pairwise_flatMap]
    refine ⟨fun t _ => extK_nodup d e t _, ?_⟩
    refine List.Pairwise.imp ?_ (truthsL_nodup d e)
    intro a b hab x h1 y h2 hxy
    subst hxy
    unfold extK at h1 h2
    obtain ⟨i, _, rfl⟩ := List.mem_map.1 h1
    obtain ⟨j, _, e2⟩ := List.mem_map.1 h2
    have := List.append_inj_left' e2 rfl
    exact hab this.symm
theorem leastN_big (l : List (List Int)) (H : Nat) (hl : ∀ t ∈ l, lostN t ≤ H) (hne : l ≠ []) : leastN l (H + 1) = leastN l H := by
  cases l with
  | nil => exact absurd rfl hne
  | cons t l =>
    have e : ∀ m, leastN (t :: l) m = leastN l (min m (lostN t)) := fun m => rfl
    have := hl t (by simp)
    rw [e, e, show min (H + 1) (lostN t) = min H (lostN t) by omega]
theorem gath_fair (d : Dr) : (dfs d d.halves.length []).foldl gath ([], d.halves.length + 1) = (fairL d, leastN (truthsL d d.halves.length) d.halves.length) := by
  have hm : ∀ t ∈ truthsL d d.halves.length, lostN t ≤ d.halves.length := fun t ht => by have := lostN_le t; have := truthsL_mem d _ t ht; omega
  rw [dfs_all, gath_of _ _ hm (truthsL_nodup d _), leastN_big _ _ hm (truthsL_ne d _)]
  rfl
end Go.Proofs.YtiighcpimecehaaGreat
end
section
namespace Go.Proofs.YtiighcpimecehaaGreat
open Go.Proofs

def arrOf (t : List Int) : List Int := t.map (· + 1) ++ List.replicate (4 - t.length) 0
theorem arrOf_len {t : List Int} (h : t.length ≤ 4) : (arrOf t).length = 4 := by simp [arrOf]; omega
structure FS where
  arr : List Int
  ls : List (List Int)
  least : Nat
  tg : Nat
  z : Nat
  t : List Bool
def OwnQ (sz tag z n : Nat) (t : List Bool) : Prop := (tag = 1 ∧ (n = 0 ∨ z = sz)) ∨ ∃ q, tag = q + 2 ∧ z = sz ∧ t[q]? = some true
def FS.Good (s : FS) (H : Nat) : Prop := OwnQ 4 s.tg s.z s.ls.length s.t ∧ (s.ls = [] → H < s.least) ∧ (∀ u ∈ s.ls, u.length = H) ∧ s.least ≤ H + 1
def eA (t : List Int) : AV := .agg (I (arrOf t))
def FS.l (s : FS) : AV := .lst s.tg s.z (s.ls.map eA)
def HB (P : List ABlk) (r : Nat) (LB : ABlk) (s : FS) (E : List ABlk) : List ABlk :=
  P ++ (.cells [s.l] :: .cells [.int .i64 s.least] :: .cells [.ref r 0] :: .mark :: LB :: .cells [.yld (P.length + 4)] :: .cells (I s.arr) :: .cells [.clo 121 [.ref r 0] []] :: .cells [.clo 122 [] [.ref (P.length + 2) 0, .ref (P.length + 5) 0, .ref (P.length + 6) 0, .ref (P.length + 8) 0, .ref (P.length + 7) 0]] :: E)
def RoundOk (P : List ABlk) (r : Nat) (LB : ABlk) (H : Nat) : Prop :=
  ∀ (s : FS) (t : List Int) (E : List ABlk), s.Good H → t.length = H → s.arr = arrOf t → s.ls.length ≤ 700 → ∃ s' J, stepRound tabX (EW tabX) (P.length + 4) [.agg (I s.arr), .int .i64 (lostN t)] ⟨HB P r LB s E, s.t⟩ = some (.bool true, ⟨HB P r LB s' (E ++ J), s'.t⟩) ∧
    s'.arr = s.arr ∧ s'.Good H ∧ (s'.ls, s'.least) = gath (s.ls, s.least) t
theorem gath_len (s : List (List Int) × Nat) (t : List Int) : (gath s t).1.length ≤ s.1.length + 1 := by
  unfold gath
  split
  · simp
  · split
    · simp
    · simp
theorem gathL_len (l : List (List Int)) : ∀ (s : List (List Int) × Nat), (l.foldl gath s).1.length ≤ s.1.length + l.length := by
  induction l with
  | nil => intro s; simp
  | cons t l ih =>
    intro s
    have a := ih (gath s t)
    have b := gath_len s t
    simp only [List.foldl_cons, List.length_cons]
    omega
theorem fitsB_ok (d : Dr) (e c : Nat) (he : e < d.halves.length) (hc : c < d.cards.length) : fitsB d (P1 d d.halves.length) e c = okHC d e c := by
  have key : ∀ s, s < d.steps.toNat → decide (((e, c, s) : Pl) ∈ P1 d d.halves.length) = fitB d e c s := fun s hs => by
    cases hb : fitB d e c s with
    | true =>
      rw [decide_eq_true_eq]
      unfold P1 P2 P3
      exact List.mem_flatMap.2 ⟨e, by simpa using he, List.mem_flatMap.2 ⟨c, by simpa using hc, List.mem_map.2 ⟨s, List.mem_filter.2 ⟨by simpa using hs, hb⟩, rfl⟩⟩⟩
    | false =>
      rw [decide_eq_false_iff_not]
      intro hm
      unfold P1 P2 P3 at hm
      obtain ⟨e', _, hm⟩ := List.mem_flatMap.1 hm
      obtain ⟨c', _, hm⟩ := List.mem_flatMap.1 hm
      obtain ⟨s', hs', heq⟩ := List.mem_map.1 hm
      simp only [Prod.mk.injEq] at heq
      obtain ⟨rfl, rfl, rfl⟩ := heq
      have := (List.mem_filter.1 hs').2
      rw [hb] at this; cases this
  have e1 : fitsB d (P1 d d.halves.length) e c = anyTo (fun s => fitB d e c s) d.steps.toNat := by
    unfold fitsB anyTo
    congr 1
    rw [Bool.eq_iff_iff, allTo_iff, allTo_iff]
    constructor
    · intro h k hk; have := h k hk; rw [key k hk] at this; exact this
    · intro h k hk; have := h k hk; rw [key k hk]; exact this
  rw [e1, Bool.eq_iff_iff, anyTo_iff]
  unfold okHC
  rw [decide_eq_true_eq, List.length_pos_iff, fitsL]
  constructor
  · rintro ⟨k, h1, h2⟩ h
    rw [List.map_eq_nil_iff, List.filter_eq_nil_iff] at h
    exact h k (by simpa using h1) h2
  · intro h
    obtain ⟨x, hx⟩ := List.exists_mem_of_ne_nil _ h
    obtain ⟨k, hk, rfl⟩ := List.mem_map.1 hx
    obtain ⟨h1, h2⟩ := List.mem_filter.1 hk
    exact ⟨k, by simpa using h1, h2⟩
theorem flat_mono (d : Dr) (t : List Int) (n : Nat) : ∀ {j k : Nat}, j ≤ k → ((extK d t.length t j).flatMap (dfs d n)).length ≤ ((extK d t.length t k).flatMap (dfs d n)).length := fun {j k} h => by
  induction k with
  | zero => obtain rfl : j = 0 := by omega
            exact Nat.le_refl _
  | succ k ih =>
    by_cases e : j = k + 1
    · subst e; exact Nat.le_refl _
    · have := ih (by omega)
      rw [extK_succ]
      split
      · rw [List.flatMap_append, List.length_append]; omega
      · exact this
theorem extK_one (d : Dr) (t : List Int) : extK d t.length t 1 = [t ++ [-1]] := by
  rw [extK_succ]; rfl
theorem hush_122_11 : tabX.hush 122 11 = false := id rfl
def UsedOk (used : Nat) (t : List Int) : Prop := used < 16 ∧ ∀ c, c < 4 → used.testBit c = t.any fun x => x == (c : Int)

theorem lostN_snoc (t : List Int) (x : Int) : lostN (t ++ [x]) = lostN t + (if x = -1 then 1 else 0) := by
  have e : lostL (t ++ [x]) t.length = lostL t t.length := by
    unfold lostL
    congr 1
    apply List.filter_congr
    intro i hi
    have hi := List.mem_range.1 hi
    rw [List.getD_eq_getElem?_getD, List.getElem?_append_left hi, ← List.getD_eq_getElem?_getD]
  have e2 : (t ++ [x]).getD t.length 0 = x := by simp
  unfold lostN
  rw [List.length_append, List.length_singleton, lostL_succ, e, e2]
  split
  · rename_i h; rw [if_pos (by simpa using h)]; simp
  · rename_i h; rw [if_neg (by simpa using h)]; simp
theorem I_set (l : List Int) (i : Nat) (x : Int) : (I l).set i (.int .i64 x) = I (l.set i x) := by unfold I; rw [List.map_set]
theorem splice1 (c : List AV) (off : Nat) (v : AV) : splice c off [v] = c.set off v := id rfl
theorem arr_snoc {t : List Int} (h : t.length < 4) (x : Int) : (arrOf t).set t.length (x + 1) = arrOf (t ++ [x]) := by
  unfold arrOf
  rw [List.set_append_right _ _ (by simp)]
  obtain ⟨k, hk⟩ : ∃ k, 4 - t.length = k + 1 := ⟨4 - t.length - 1, by omega⟩
  have hk2 : 4 - (t ++ [x]).length = k := by simp; omega
  rw [hk2, hk, List.replicate_succ]
  simp
theorem arr_zero {t : List Int} (h : t.length < 4) : (arrOf t).set t.length 0 = arrOf t := by
  unfold arrOf
  rw [List.set_append_right _ _ (by simp)]
  obtain ⟨k, hk⟩ : ∃ k, 4 - t.length = k + 1 := ⟨4 - t.length - 1, by omega⟩
  rw [hk, List.replicate_succ]
  simp
theorem arr_none {t : List Int} (h : t.length < 4) : arrOf (t ++ [-1]) = arrOf t := by
  rw [← arr_snoc h (-1)]; exact arr_zero h
theorem arr_back {t : List Int} (h : t.length < 4) (x : Int) : ((arrOf t).set t.length x).set t.length 0 = arrOf t := by
  rw [List.set_set]; exact arr_zero h
theorem callAV_yld2 (X : Tab) (E : Eng) (l : Nat) (args : List AV) (h : Heap) : callAV X E false (.yld l) args h = stepRound X E l args h := id rfl
theorem c84 (d : Dr) (ho : d.Ok) (P : List ABlk) (r m : Nat) (o : AV) (hr : P[r]? = some (.cells (eDc d ++ [o, .mapr m]))) (hm : P[m]? = some (.map (esL (num (P1 d d.halves.length))))) (LB : ABlk) (hY : RoundOk P r LB d.halves.length) :
    ∀ (n : Nat) (t : List Int) (used : Nat) (s : FS) (E : List ABlk), t.length + n = d.halves.length → UsedOk used t → s.Good d.halves.length → s.arr = arrOf t → s.ls.length + (dfs d n t).length ≤ 700 →
    ∃ s', (EW tabX).call 122 [.int .i64 t.length, .int .i64 used, .int .i64 (lostN t), .ref (P.length + 2) 0, .ref (P.length + 5) 0, .ref (P.length + 6) 0, .ref (P.length + 8) 0, .ref (P.length + 7) 0] ⟨HB P r LB s E, s.t⟩ = some (.bool true, ⟨HB P r LB s' E, s'.t⟩) ∧
      s'.arr = s.arr ∧ s'.Good d.halves.length ∧ (s'.ls, s'.least) = (dfs d n t).foldl gath (s.ls, s.least)
  | 0, t, used, s, E, hn, hu, hg, ha, hl => by
    have hr : P[r]? = some (.cells (eDc d ++ [o, .mapr m])) := hr
    simp only [eDc, List.cons_append, List.nil_append] at hr
    have oR := old hr
    obtain ⟨s', J, hy, h1, h2, h3⟩ := hY s t E hg (by omega) ha (by simp [dfs] at hl; omega)
    refine ⟨s', ?_, h1, h2, h3⟩
    have hth : (t.length : Int) = d.halves.length := by omega
    rw [w_call _ fn_122 rfl]
    simp only [HB, FS.l] at hy ⊢
    have h4 : 4 ≤ s.arr.length := by rw [ha, arrOf_len (by have := ho.h4; omega)]; omega
    have h4' : s.arr.take 4 = s.arr := List.take_of_length_le (by rw [ha, arrOf_len (by have := ho.h4; omega)]; omega)
    simp only [go_sem, ↓reduceIte, simprocAttr, oR, hth, h4, h4', callAV_yld2, hy, List.take_length_add_append]
  | n + 1, t, used, s, E, hn, hu, hg, ha, hl => by
    have ih := c84 d ho P r m o hr hm LB hY n
    simp only [eDc, List.cons_append, List.nil_append] at hr
    have oR := old hr
    have h4 := ho.h4
    have hc4 := ho.c4
    have ht4 : t.length < 4 := by omega
    have hth : ((t.length : Int) == d.halves.length) = false := by simp; omega
    have hal := arrOf_len (t := t) (by omega)
    rw [w_call _ fn_122 rfl]
    obtain ⟨arr, ls, least, tg, z, st⟩ := s
    simp only at ha hg hl
    subst ha
    simp only [HB, FS.l]
    have hb1 : (t.length : Int) < (arrOf t).length := by omega
    have ih1 := ih (t ++ [-1]) used ⟨arrOf t, ls, least, tg, z, st⟩ E (by simp; omega) (by
      refine ⟨hu.1, fun c hc => ?_⟩
      rw [hu.2 c hc, List.any_append]
      simp) hg (arr_none ht4).symm (by
      have : (dfs d n (t ++ [-1])).length ≤ (dfs d (n + 1) t).length := by
        have := flat_mono d t n (show 1 ≤ d.cards.length + 1 by omega)
        rw [extK_one] at this
        simpa [dfs] using this
      simp only; omega)
    obtain ⟨s1, hc1, a1, g1, f1⟩ := ih1
    simp only [HB, FS.l, List.length_append, List.length_singleton, lostN_snoc, if_true, Int.natCast_add, Int.natCast_one] at hc1
    have hln := lostN_le t
    have ht3 : t.length ≤ 3 := by omega
    simp (disch := omega) only [go_sem, ↓reduceIte, simprocAttr, oR, hth, hb1, hal, ht4, ht3, splice1, Nat.mul_one, I_set, arr_zero ht4, hc1, wrap_i64]
    generalize hx : (EW tabX).code 122 none (Code.loop _) _ = x
    refine w_rounds_sk hx (fun k (p : FS × List ABlk) => [(41, .int .i64 k)]) (fun p => ⟨HB P r LB p.1 (E ++ p.2), p.1.t⟩) (fun k p => (∃ x, p.1.arr = (arrOf t).set t.length x) ∧ p.1.Good d.halves.length ∧ (p.1.ls, p.1.least) = ((extK d t.length t (k + 1)).flatMap (dfs d n)).foldl gath (ls, least)) d.cards.length (.exit 0) (fun p => [(41, .int .i64 d.cards.length)]) rfl (s1, []) ?_ ?_ ?_ ?_ ?_ ?_
    · simp only [go_sem, ↓reduceIte, simprocAttr]
    · simp only [HB, FS.l, List.append_nil]
    · refine ⟨⟨0, ?_⟩, g1, ?_⟩
      · simp only [a1]; exact (arr_zero ht4).symm
      · rw [f1, extK_one]; simp
    · intro k p hk hR
      obtain ⟨⟨arr2, ls2, least2, tg2, z2, st2⟩, J⟩ := p
      obtain ⟨⟨x2, ha2⟩, g2, f2⟩ := hR
      simp only at ha2 f2
      subst ha2
      have hki : (k : Int) < d.cards.length := by omega
      have hsh := shr_and ⟨used, hu.1⟩ ⟨k, by omega⟩
      have h83 : ∀ X u, (EW tabX).call 121 [.ref r 0, .int .i64 t.length, .int .i64 k] ⟨P ++ X, u⟩ = some (.bool (okHC d t.length k), ⟨P ++ X, u⟩) := fun X u => by
        rw [← fitsB_ok d t.length k (by omega) hk]
        exact c83 d ⟨by have := ho.s1; omega, ho.s6⟩ (P1 d d.halves.length) t.length k r m o ⟨P ++ X, u⟩ (by simp only [eDc, List.cons_append, List.nil_append]; exact old hr X) (old hm X)
      have hmay : may d t.length t (k + 1) = (!(used.testBit k) && okHC d t.length k) := by rw [hu.2 k (by omega)]; rfl
      have hex := extK_succ d t.length t (k + 1)
      cases hused : used.testBit k with
      | true =>
        simp only [hused] at hsh hmay
        rw [hmay] at hex
        refine ⟨⟨⟨(arrOf t).set t.length x2, ls2, least2, tg2, z2, st2⟩, J⟩, ?_, ⟨x2, rfl⟩, g2, by rw [hex]; exact f2⟩
        simp only [HB, FS.l]
        simp (disch := omega) only [go_sem, ↓reduceIte, simprocAttr, hki, oR, wrap_i64]
        generalize hgg : (IntKind.i64.wrap _ == (1 : Int)) = bb
        obtain rfl : bb = true := hgg.symm.trans hsh
        simp (disch := omega) only [go_sem, ↓reduceIte, simprocAttr, wrap_i64]
      | false =>
        simp only [hused] at hsh hmay
        simp only [HB, FS.l]
        cases hfit : okHC d t.length k with
        | false =>
          rw [hmay, hfit] at hex
          refine ⟨⟨⟨(arrOf t).set t.length x2, ls2, least2, tg2, z2, st2⟩, J⟩, ?_, ⟨x2, rfl⟩, g2, by rw [hex]; exact f2⟩
          simp (disch := omega) only [go_sem, ↓reduceIte, simprocAttr, hki, oR, wrap_i64, h83, hfit]
        | true =>
          rw [hmay, hfit] at hex
          have hex : extK d t.length t (k + 1 + 1) = extK d t.length t (k + 1) ++ [t ++ [(k : Int)]] := by rw [hex]; simp
          simp (disch := omega) only [go_sem, ↓reduceIte, simprocAttr, hki, oR, wrap_i64, h83, hfit]
          generalize hgg : (IntKind.i64.wrap _ == (1 : Int)) = bb
          obtain rfl : bb = false := hgg.symm.trans hsh
          have hb2 : t.length < ((arrOf t).set t.length x2).length := by simp; omega
          have hb3 : ((arrOf t).set t.length x2).length = 4 := by simp; omega
          simp (disch := omega) only [go_sem, ↓reduceIte, simprocAttr, oR, wrap_i64, ht4, ht3, hb3, splice1, Nat.mul_one, I_set, List.set_set, arr_snoc ht4, hush_122_11]
          generalize hcf : drawT _ _ _ = cf
          obtain rfl : cf = true := by rw [← hcf]; kernel_rfl
          generalize hbb : boundAll _ _ _ = bb
          obtain rfl : bb = true := by rw [← hbb]; kernel_rfl
          generalize List.replicate _ ABlk.none = N
          generalize List.replicate _ false = F
          generalize hog : IntKind.i64.wrap _ = ug
          obtain rfl : ug = ((used ||| 2 ^ k : Nat) : Int) := hog.symm.trans (or_bit ⟨used, hu.1⟩ ⟨k, by omega⟩)
          have hlen2 : ls2.length + (dfs d n (t ++ [(k : Int)])).length ≤ 700 := by
            have e1 : ls2.length ≤ ls.length + ((extK d t.length t (k + 1)).flatMap (dfs d n)).length := by
              have := gathL_len ((extK d t.length t (k + 1)).flatMap (dfs d n)) (ls, least)
              rw [← f2] at this; exact this
            have e2 := flat_mono d t n (show k + 1 + 1 ≤ d.cards.length + 1 by omega)
            rw [hex, List.flatMap_append, List.length_append] at e2
            simp only [List.flatMap_cons, List.flatMap_nil, List.append_nil] at e2
            have e3 : (dfs d (n + 1) t).length = ((extK d t.length t (d.cards.length + 1)).flatMap (dfs d n)).length := rfl
            omega
          have ih2 := ih (t ++ [(k : Int)]) (used ||| 2 ^ k) ⟨arrOf (t ++ [(k : Int)]), ls2, least2, tg2, z2, st2 ++ F⟩ (E ++ (J ++ N)) (by simp; omega) (by
            refine ⟨or_lt ⟨used, hu.1⟩ ⟨k, by omega⟩, fun c hc => ?_⟩
            have := or_test ⟨used, hu.1⟩ ⟨k, by omega⟩ ⟨c, hc⟩
            simp only [Fin.mk.injEq] at this
            rw [this, hu.2 c hc, List.any_append]
            congr 1
            simp only [List.any_cons, List.any_nil, Bool.or_false]
            rw [Bool.eq_iff_iff]; simp; omega) (by
            obtain ⟨q1, q2⟩ := g2
            refine ⟨?_, q2⟩
            rcases q1 with h | ⟨q, h1, h2, h3⟩
            · exact .inl h
            · exact .inr ⟨q, h1, h2, old h3 F⟩) rfl hlen2
          obtain ⟨s3, hc3, a3, g3, f3⟩ := ih2
          have hne : ((k : Int) = -1) = False := by simp
          simp only [HB, FS.l, List.length_append, List.length_singleton, lostN_snoc, hne, if_false, Nat.add_zero, Int.natCast_add, Int.natCast_one] at hc3
          refine ⟨(s3, J ++ N), ?_, ⟨(k : Int) + 1, by rw [a3, arr_snoc ht4]⟩, g3, ?_⟩
          · simp (disch := omega) only [go_sem, ↓reduceIte, simprocAttr, hc3, wrap_i64]
          · rw [f3, hex, List.flatMap_append, List.foldl_append, ← f2]
            simp only [List.flatMap_cons, List.flatMap_nil, List.append_nil]
    · intro p hR
      simp only [go_sem, ↓reduceIte, simprocAttr]
    · intro p e1 hR
      subst e1
      obtain ⟨⟨arr2, ls2, least2, tg2, z2, st2⟩, J⟩ := p
      obtain ⟨⟨x2, ha2⟩, g2, f2⟩ := hR
      simp only at ha2 f2
      subst ha2
      have hb3 : ((arrOf t).set t.length x2).length = 4 := by simp; omega
      refine ⟨⟨arrOf t, ls2, least2, tg2, z2, st2⟩, ?_, rfl, g2, f2⟩
      simp only [HB, FS.l]
      simp (disch := omega) only [go_sem, ↓reduceIte, simprocAttr, oR, wrap_i64, ht4, ht3, hb3, splice1, Nat.mul_one, I_set, arr_back ht4, List.take_length_add_append]
end Go.Proofs.YtiighcpimecehaaGreat
end
section
namespace Go.Proofs.YtiighcpimecehaaGreat
open Go.Proofs

theorem w_range (X : Tab) (f : Nat) (g : Operand) (ps : Array Tmp) (asg body : Code) (fr : Frm) (hb : List ABlk) (ht : List Bool) (ms : List Nat) {gf : Nat} {fst cap : List AV} (hg : evo fr g = .clo gf fst cap) :
    (EW X).code f none (.rangeFunc g ps asg body) ⟨fr, ⟨hb, ht⟩, ms⟩ = ((EW X).call gf (fst ++ [.yld (hb.length + 1)] ++ cap) ⟨hb ++ [.mark] ++ [.loop false .normal false f fr ps.toList asg body], ht⟩).bind fun r => afterRange (hb.length + 1) fr (hb.length :: ms) r.2 := by
  rw [ew_code]
  show enterRange (EW X) f (evo fr g) ps.toList asg body fr ⟨hb ++ [.mark], ht⟩ (hb.length :: ms) = _
  rw [hg, enterRange_eq]
  simp
theorem app_gen2 {X : Tab} {ty e : TypeId} {sz : Nat} {tag z : Nat} {t : List Bool} {xs : List AV} (hn : OwnQ sz tag z xs.length t) (u z' : Nat) (ys : List AV) (ht : trow X ty = .slice e) (hs : tsz X e = sz) (h0 : 0 < sz) (hz' : z' = sz ∨ ys.length = 0)
    (hy : (xs.length + ys.length) * tbytes X e ≤ 140737488355328) (hy2 : xs.length + ys.length ≤ 140737488355328) (hf : zeroFits X e = true) (hv : ys.all AV.var = true) (hpy : xs.length = 0 ∨ 0 < ys.length := by exact .inr (Nat.succ_pos _)) :
    ∃ t2, (∀ B, appendAV X ty t.length ⟨B, t⟩ (.lst tag z xs) (.lst u z' ys) = some (.lst (t.length + 2) sz (xs ++ ys), ⟨B, t2⟩)) ∧ t2[t.length]? = some true := by
  have hc : (z' = tsz X e ∨ ys.length = 0) ∧ 0 < tsz X e ∧ (xs.length + ys.length) * tbytes X e ≤ appLimit ∧ xs.length + ys.length ≤ appLimit ∧ zeroFits X e = true ∧ ys.all AV.var = true := by
    rw [hs]; exact ⟨hz', h0, hy, hy2, hf, hv⟩
  unfold appendAV
  simp only [ht, if_pos hc]
  rcases hn with ⟨rfl, hn0⟩ | ⟨q, rfl, hq, hqt⟩
  · have hx : z = tsz X e ∨ xs.length = 0 := by rw [hs]; exact hn0.symm
    refine ⟨t ++ [true], fun B => ?_, by simp⟩
    rw [if_pos ⟨hx, hpy⟩]
    simp only [hs, lset, Nat.lt_irrefl, if_false]
  · have hx : z = tsz X e := by rw [hs, hq]
    refine ⟨t.set q false ++ [true], fun B => ?_, by simp⟩
    simp only [hqt]
    rw [if_pos hx]
    simp only [hs, lset, List.length_set, Nat.lt_irrefl, if_false]
theorem c76 (r : Nat) (B : List ABlk) (t : List Bool) (hr : r < B.length) : (EW tabX).call 92 [.ref r 0] ⟨B, t⟩ = some (.clo 120 [] [.ref B.length 0], ⟨B ++ [.cells [.ref r 0]], t⟩) := by
  rw [w_call _ fn_92 rfl]
  have h1 : ¬ (B.length < B.length) := by omega
  have h2 : r < B.length + 1 := by omega
  simp only [go_sem, ↓reduceIte, simprocAttr, h1, h2]
theorem c82 (d : Dr) (ho : d.Ok) (P : List ABlk) (r m : Nat) (o : AV) (hr : P[r]? = some (.cells (eDc d ++ [o, .mapr m]))) (hm : P[m]? = some (.map (esL (num (P1 d d.halves.length))))) (LB : ABlk) (hY : RoundOk P r LB d.halves.length) (t : List Bool) :
    ∃ tg t' v, (EW tabX).call 120 [.yld (P.length + 4), .ref (P.length + 2) 0] ⟨P ++ [.cells [.lst 1 0 []], .cells [.int .i64 (d.halves.length + 1)], .cells [.ref r 0], .mark, LB], t⟩ =
      some (v, ⟨P ++ [.cells [.lst tg 4 ((fairL d).map eA)], .cells [.int .i64 (leastN (truthsL d d.halves.length) d.halves.length)], .cells [.ref r 0], .mark, LB], t'⟩) := by
  have hlt : r < P.length := (List.getElem?_eq_some_iff.1 hr).1
  have h4 := ho.h4
  have h625 : (dfs d d.halves.length []).length ≤ 625 := by
    rw [dfs_all]
    have := truthsL_len d ho.c4 d.halves.length
    have : 5 ^ d.halves.length ≤ 5 ^ 4 := Nat.pow_le_pow_right (by omega) h4
    omega
  obtain ⟨s', hc, a1, g1, f1⟩ := c84 d ho P r m o hr hm LB hY d.halves.length [] 0 ⟨arrOf [], [], d.halves.length + 1, 1, 0, t⟩ [] (by simp) ⟨by omega, fun c hc => by simp⟩ ⟨.inl ⟨rfl, .inl rfl⟩, fun _ => by simp only; omega, fun u hu => by simp at hu, by simp only; omega⟩ rfl (by simp only [List.length_nil]; omega)
  obtain ⟨arr2, ls2, least2, tg2, z2, st2⟩ := s'
  simp only at f1
  rw [gath_fair] at f1
  simp only [Prod.mk.injEq] at f1
  obtain ⟨rfl, rfl⟩ := f1
  have hz : z2 = 4 := by
    rcases g1.1 with ⟨_, h | h⟩ | ⟨_, _, h, _⟩
    · exact absurd (List.eq_nil_of_length_eq_zero h) (fairL_ne d)
    · exact h
    · exact h
  subst hz
  have e0 : arrOf [] = [0, 0, 0, 0] := rfl
  have e1 : lostN [] = 0 := rfl
  simp only [HB, FS.l, List.length_nil, List.map_nil, e0, e1, Int.natCast_add, Int.natCast_one, I_c, I_nil, cast_zero] at hc
  have o2 := hlt
  refine ⟨tg2, st2, ?_, ?_⟩
  rotate_left
  · rw [w_call _ fn_120 rfl]
    have h1 : ∀ k, r < P.length + k := fun k => by omega
    have h2 : ∀ k j, r < P.length + k + j := fun k j => by omega
    have h3 : ∀ a b c, (P.length + a < P.length + b + c) = (a < b + c) := fun a b c => by rw [Nat.add_assoc]; simp
    simp only [go_sem, ↓reduceIte, simprocAttr, h1, h2, h3, hc, List.take_length_add_append]
    rfl
theorem splice4 (x0 x1 x2 x3 : AV) (l : List Int) (h : l.length = 4) : splice [x0, x1, x2, x3] 0 (I l) = I l := by
  match l, h with
  | [a, b, c, d], _ => rfl
theorem eqI4 (l m : List Int) (hl : l.length = 4) (hm : m.length = 4) : eqCells [0, 0, 0, 0] (I l) (I m) = some (decide (l = m)) := by
  match l, m, hl, hm with
  | [a, b, c, d], [x, y, z, w], _, _ =>
    simp only [eqCells, I_c, I_nil, if_true, Option.map_some]
    congr 1
    rw [Bool.eq_iff_iff]
    simp
theorem arr_inj {t u : List Int} (h : t.length = u.length) (e : arrOf t = arrOf u) : t = u := by
  unfold arrOf at e
  have := (List.append_inj e (by simpa using h)).1
  have inj : ∀ (a b : List Int), a.map (· + 1) = b.map (· + 1) → a = b := by
    intro a
    induction a with
    | nil => intro b hb; cases b with
      | nil => rfl
      | cons y b => simp at hb
    | cons x a ih => intro b hb; cases b with
      | nil => simp at hb
      | cons y b =>
        simp only [List.map_cons, List.cons.injEq] at hb
        rw [ih b hb.2, show x = y by omega]
  exact inj t u this
theorem y2 (L : List Nat) (fr : Frm) (a b : Tmp) (x y : AV) : yieldFr L fr [a, b] [x, y] = some (setF L (setF L fr a x) b y) := by
  simp only [yieldFr, setFK_eq]
theorem hush_43_9 : tabX.hush 43 9 = false := id rfl
theorem c62 (d : Dr) (ho : d.Ok) (P : List ABlk) (r m : Nat) (o : AV) (hr : P[r]? = some (.cells (eDc d ++ [o, .mapr m]))) (hm : P[m]? = some (.map (esL (num (P1 d d.halves.length))))) (t : List Bool) :
    ∃ tg t', (EW tabX).call 43 [.ref r 0] ⟨P, t⟩ = some (.tup [.lst tg 4 ((fairL d).map eA), .int .i64 (leastN (truthsL d d.halves.length) d.halves.length)], ⟨P, t'⟩) := by
  have hr' := hr
  have hlt : r < P.length := (List.getElem?_eq_some_iff.1 hr).1
  simp only [eDc, List.cons_append, List.nil_append] at hr'
  have oR := old hr'
  have h4 := ho.h4
  have h76 := c76 r (P ++ [.cells [.lst 1 0 []], .cells [.int .i64 (d.halves.length + 1)]]) t (by simp; omega)
  rw [w_call _ fn_43 rfl]
  simp only [go_sem, ↓reduceIte, simprocAttr] at h76
  simp (disch := omega) only [go_sem, ↓reduceIte, simprocAttr, oR, wrap_i64, h76]
  rw [w_range (gf := 120) (fst := []) (cap := [.ref (P.length + 2) 0])]
  rotate_left
  · simp only [go_sem, ↓reduceIte, simprocAttr]
  generalize hLB : ABlk.loop false AExit.normal false 43 _ _ _ _ = LB
  have hY : RoundOk P r LB d.halves.length := by
    intro s u E hg hu ha hls
    obtain ⟨LB', b1, b2⟩ : ∃ LB', beginBlk LB = some LB' ∧ endBlk .normal LB' = some LB := by rw [← hLB]; exact ⟨_, rfl, rfl⟩
    have hat : (⟨HB P r LB s E, s.t⟩ : Heap).b[P.length + 4]? = some LB := by simp only [HB, go_sem, ↓reduceIte, simprocAttr]
    have hat2 := hat.trans (congrArg some hLB.symm)
    rw [stepRound_eq tabX hat2]
    obtain ⟨arr, ls, least, tg, z, st⟩ := s
    obtain ⟨gq, gl, gu, gm⟩ := hg
    simp only at ha hls gq gl gu gm
    subst ha
    have hal := arrOf_len (t := u) (by omega)
    have h4' : (arrOf u).take 4 = arrOf u := List.take_of_length_le (by omega)
    simp only [HB, FS.l, y2, Option.bind_some, roundK]
    clear hLB hat hat2
    have hpos : 0 < (arrOf u).length := by omega
    have hsp := fun x0 x1 x2 x3 => splice4 x0 x1 x2 x3 (arrOf u) hal
    have h44 : 4 ≤ (arrOf u).length := by omega
    by_cases c1 : lostN u < least
    · have c1' : (lostN u : Int) < least := by omega
      have eg : gath (ls, least) u = ([u], lostN u) := by unfold gath; rw [if_pos c1]
      rw [eg]
      simp (disch := omega) only [go_sem, ↓reduceIte, simprocAttr, turnBlk, b1, b2, c1', hpos, hal, hsp, h44, h4', isNormal]
      exact ⟨⟨arrOf u, [u], lostN u, 1, 4, st⟩, [.cells (I (arrOf u))], rfl, rfl, ⟨.inl ⟨rfl, .inr rfl⟩, fun h => (by cases h), fun v hv => (by simp at hv; subst hv; exact hu), by simp only; omega⟩, rfl⟩
    · have c1' : ¬ ((lostN u : Int) < least) := by omega
      by_cases c2 : lostN u = least
      · have c2' : ((lostN u : Int) == least) = true := by simp [c2]
        have hne : ls ≠ [] := fun h => by have := gl h; have := lostN_le u; omega
        obtain ⟨w, hw⟩ : ∃ w, ls.getLast? = some w := by
          cases h : ls.getLast? with
          | none => exact absurd (List.getLast?_eq_none_iff.1 h) hne
          | some w => exact ⟨w, rfl⟩
        have hlen : 0 < ls.length := List.length_pos_iff.2 hne
        have hwl : w.length = d.halves.length := gu w (List.mem_of_getLast? hw)
        have hget : (ls.map eA)[ls.length - 1]? = some (eA w) := by
          rw [List.getElem?_map, ← List.getLast?_eq_getElem?, hw]; rfl
        have i1 : ((ls.length : Int) - 1 < 0) = False := by simp; omega
        have i2 : ((ls.length : Int) - 1).toNat = ls.length - 1 := by omega
        have i3 : z = 4 := by
          rcases gq with ⟨_, h | h⟩ | ⟨_, _, h, _⟩
          · omega
          · exact h
          · exact h
        subst i3
        have hwal := arrOf_len (t := w) (by omega)
        have hw4 : 4 ≤ (arrOf w).length := by omega
        have hw4' : (arrOf w).take 4 = arrOf w := List.take_of_length_le (by omega)
        have heq := eqI4 (arrOf w) (arrOf u) hwal hal
        have hdec : decide (arrOf w = arrOf u) = decide (w = u) := by
          by_cases e : w = u
          · subst e; simp
          · have e2 : ¬ arrOf w = arrOf u := fun h => e (arr_inj (by omega) h)
            simp [e, e2]
        rw [hdec] at heq
        by_cases hwu : w = u
        · have eg : gath (ls, least) u = (ls, least) := by unfold gath; rw [if_neg c1, if_neg (fun h => h.2 (by rw [hw, hwu]))]
          rw [eg]
          rw [decide_eq_true hwu] at heq
          simp (disch := omega) only [go_sem, ↓reduceIte, simprocAttr, turnBlk, b1, b2, c1', c2', hpos, hal, hsp, h44, h4', isNormal, wrap_i64, i1, i2, hget, eA, hw4, hw4', aggBin, heq]
          exact ⟨⟨arrOf u, ls, least, tg, 4, st⟩, [.cells (I (arrOf u))], rfl, rfl, ⟨gq, gl, gu, gm⟩, rfl⟩
        · have eg : gath (ls, least) u = (ls ++ [u], least) := by unfold gath; rw [if_neg c1, if_pos ⟨c2, fun h => hwu (by rw [hw] at h; exact Option.some.inj h)⟩]
          rw [eg]
          rw [decide_eq_false hwu] at heq
          have hun : ∀ n, underL n (ls.map eA) = true := fun n => underL_map (fun x => by simp only [eA, go_sem, ↓reduceIte, simprocAttr]) ls
          obtain ⟨t2, p1, p2⟩ := app_gen2 (X := tabX) (ty := 95) (e := 99) (sz := 4) (tag := tg) (z := 4) (t := st) (xs := ls.map eA) (by simpa using gq) 1 4 [.agg (I (arrOf u))] (by simp only [go_sem, ↓reduceIte, simprocAttr]) (by simp only [go_sem, ↓reduceIte, simprocAttr]) (by omega) (.inl rfl) (by simp only [go_sem, ↓reduceIte, simprocAttr, List.length_map]; omega) (by simp only [go_sem, ↓reduceIte, simprocAttr, List.length_map]; omega) (by simp only [go_sem, ↓reduceIte, simprocAttr]) (by simp only [go_sem, ↓reduceIte, simprocAttr])
          simp (disch := omega) only [go_sem, ↓reduceIte, simprocAttr, turnBlk, b1, b2, c1', c2', hpos, hal, hsp, h44, h4', isNormal, wrap_i64, i1, i2, hget, eA, hw4, hw4', aggBin, heq, p1, hun]
          exact ⟨⟨arrOf u, ls ++ [u], least, st.length + 2, 4, t2⟩, [.cells (I (arrOf u))], by simp only [List.map_append, List.map_cons, List.map_nil, eA], rfl, ⟨.inr ⟨st.length, rfl, rfl, p2⟩, fun h => by simp at h, fun v hv => by
            rcases List.mem_append.1 hv with h | h
            · exact gu v h
            · simp at h; subst h; exact hu, gm⟩, rfl⟩
      · have c2' : ((lostN u : Int) == least) = false := by simp; omega
        have eg : gath (ls, least) u = (ls, least) := by unfold gath; rw [if_neg c1, if_neg (fun h => c2 h.1)]
        rw [eg]
        simp (disch := omega) only [go_sem, ↓reduceIte, simprocAttr, turnBlk, b1, b2, c1', c2', hpos, hal, hsp, h44, h4', isNormal]
        exact ⟨⟨arrOf u, ls, least, tg, z, st⟩, [.cells (I (arrOf u))], rfl, rfl, ⟨gq, gl, gu, gm⟩, rfl⟩
  obtain ⟨tg, t', v, h82⟩ := c82 d ho P r m o hr hm LB hY t
  subst hLB
  have hun : ∀ n, underL n ((fairL d).map eA) = true := fun n => underL_map (fun x => by simp only [eA, go_sem, ↓reduceIte, simprocAttr]) (fairL d)
  refine ⟨tg, ?_⟩
  simp only [go_sem, ↓reduceIte, simprocAttr] at h82 ⊢
  have h31 : P.length + 3 + 1 = P.length + 4 := rfl
  simp only [go_sem, ↓reduceIte, simprocAttr, h82, afterRange, hush_43_9, h31]
  unfold drawT
  generalize hpf : pairsFine _ _ = pf
  obtain rfl : pf = true := by rw [← hpf]; kernel_rfl
  generalize hcl : conflicts _ _ = cl
  obtain rfl : cl = [(3, 2)] := by rw [← hcl]; kernel_rfl
  have hap : ((P.length + 1) != P.length) = true := by simp
  generalize List.replicate _ ABlk.none = N
  generalize List.replicate _ false = F
  simp only [go_sem, ↓reduceIte, simprocAttr, refsApart, hap, hun]
  exact ⟨_, rfl⟩
end Go.Proofs.YtiighcpimecehaaGreat
end
section
namespace Go.Proofs.YtiighcpimecehaaGreat
open Go.Proofs

def arr5 (t : List Int) : List Int := t ++ List.replicate (5 - t.length) 0
theorem arr5_len {t : List Int} (h : t.length ≤ 5) : (arr5 t).length = 5 := by simp [arr5]; omega
theorem arr5_snoc {t : List Int} (h : t.length < 5) (x : Int) : (arr5 t).set t.length x = arr5 (t ++ [x]) := by
  unfold arr5
  rw [List.set_append_right _ _ (by simp)]
  obtain ⟨k, hk⟩ : ∃ k, 5 - t.length = k + 1 := ⟨5 - t.length - 1, by omega⟩
  have hk2 : 5 - (t ++ [x]).length = k := by simp; omega
  rw [hk2, hk, List.replicate_succ]
  simp
theorem arr5_zero {t : List Int} (h : t.length < 5) : (arr5 t).set t.length 0 = arr5 t := by
  unfold arr5
  rw [List.set_append_right _ _ (by simp)]
  obtain ⟨k, hk⟩ : ∃ k, 5 - t.length = k + 1 := ⟨5 - t.length - 1, by omega⟩
  rw [hk, List.replicate_succ]
  simp
theorem arr5_get {t : List Int} {i : Nat} (h : i < t.length) : (arr5 t)[i]? = t[i]? := by
  unfold arr5; rw [List.getElem?_append_left h]
def forB (m : Mo) (s c : Nat) : Bool := match m.sums[s]? with | some x => x.fr.toNat.testBit c | none => false
def mayM (m : Mo) (came : Nat) (t : List Int) (c : Nat) : Bool := forB m t.length c && keptB m came (arr5 (t ++ [(c : Int)])) t.length
def nextM (m : Mo) (came : Nat) (t : List Int) (k : Nat) : List (List Int) := ((List.range k).filter (mayM m came t)).map fun (c : Nat) => t ++ [(c : Int)]
theorem nextM_succ (m : Mo) (came : Nat) (t : List Int) (k : Nat) : nextM m came t (k + 1) = if mayM m came t k = true then nextM m came t k ++ [t ++ [(k : Int)]] else nextM m came t k := by
  unfold nextM
  rw [List.range_succ, List.filter_append, List.filter_cons, List.filter_nil]
  split <;> simp
theorem nextM_zero (m : Mo) (came : Nat) (t : List Int) : nextM m came t 0 = [] := rfl
def dfsM (m : Mo) (came : Nat) : Nat → List Int → List (List Int)
  | 0, t => [t]
  | n + 1, t => (nextM m came t m.who.length).flatMap (dfsM m came n)
def RowOk (m : Mo) (t : List Int) : Prop := t.length ≤ m.sums.length ∧ ∀ x ∈ t, 0 ≤ x ∧ x < m.who.length
theorem RowOk.snoc {m : Mo} {t : List Int} (h : RowOk m t) (hl : t.length < m.sums.length) {c : Nat} (hc : c < m.who.length) : RowOk m (t ++ [(c : Int)]) := by
  refine ⟨by simp; omega, fun x hx => ?_⟩
  rcases List.mem_append.1 hx with hx | hx
  · exact h.2 x hx
  · simp at hx; subst hx; omega
theorem shrF : ∀ s : Fin 16, ∀ i : Fin 4, (IntKind.i64.wrap (BitVec.ofInt 64 (((s.1 : Nat) : Int).fdiv (2 ^ (min i.1 64))) &&& 1#64).toNat == 0) = !s.1.testBit i.1 := by decide +kernel
theorem shr0_c {s i : Nat} (hs : s < 16) (hi : i < 4) : (IntKind.i64.wrap (((@HAnd.hAnd (BitVec 64) (BitVec 64) (BitVec 64) (@instHAndOfAndOp (BitVec IntKind.i64.bits) (BitVec.instAndOp : AndOp (BitVec IntKind.i64.bits))) (BitVec.ofInt 64 ((s : Int).fdiv (2 ^ (min i 64)))) (1#64)).toNat : Nat) : Int) == 0) = !s.testBit i := shrF ⟨s, hs⟩ ⟨i, hi⟩
structure SP (m : Mo) (came : Nat) (r q b : Nat) (P : List (List Int) → List ABlk) : Prop where
  len : ∀ ts, (P ts).length = b
  at' : ∀ ts, ∃ ev, (P ts)[r]? = some (.cells (eLc m came q ev))
  lt : r < b
def HM (P : List (List Int) → List ABlk) (r b : Nat) (LB : ABlk) (ts : List (List Int)) (arr : List Int) (E : List ABlk) : List ABlk :=
  P ts ++ (.cells [.ref r 0] :: .mark :: LB :: .cells [.yld (b + 2)] :: .cells (I arr) :: .cells [.clo 153 [] [.ref b 0, .ref (b + 3) 0, .ref (b + 4) 0, .ref (b + 5) 0]] :: E)
def RoundM (m : Mo) (P : List (List Int) → List ABlk) (r b : Nat) (LB : ABlk) : Prop :=
  ∀ (ts : List (List Int)) (t : List Int) (E : List ABlk) (tb : List Bool), RowOk m t → t.length = m.sums.length → t ∉ ts → (∀ u ∈ ts, RowOk m u ∧ u.length = m.sums.length) → ∃ J F, stepRound tabX (EW tabX) (b + 2) [.agg (I (arr5 t))] ⟨HM P r b LB ts (arr5 t) E, tb⟩ = some (.bool true, ⟨HM P r b LB (ts ++ [t]) (arr5 t) (E ++ J), tb ++ F⟩)
theorem mem_nextM {m : Mo} {came : Nat} {t u : List Int} {k : Nat} : u ∈ nextM m came t k ↔ ∃ c, c < k ∧ mayM m came t c = true ∧ u = t ++ [(c : Int)] := by
  unfold nextM
  rw [List.mem_map]
  constructor
  · rintro ⟨c, hc, rfl⟩
    obtain ⟨h1, h2⟩ := List.mem_filter.1 hc
    exact ⟨c, List.mem_range.1 h1, h2, rfl⟩
  · rintro ⟨c, h1, h2, rfl⟩
    exact ⟨c, List.mem_filter.2 ⟨List.mem_range.2 h1, h2⟩, rfl⟩
theorem dfsM_pre {m : Mo} {came : Nat} : ∀ {n : Nat} {t u : List Int}, u ∈ dfsM m came n t → ∃ s, u = t ++ s ∧ s.length = n
  | 0, t, u, h => by
    obtain rfl : u = t := by simpa [dfsM] using h
    exact ⟨[], by simp, rfl⟩
  | n + 1, t, u, h => by
    obtain ⟨v, hv, hu⟩ := List.mem_flatMap.1 h
    obtain ⟨c, _, _, rfl⟩ := mem_nextM.1 hv
    obtain ⟨s, rfl, hs⟩ := dfsM_pre hu
    exact ⟨(c : Int) :: s, by simp, by simp [hs]⟩
theorem dfsM_apart {m : Mo} {came : Nat} {n : Nat} {t u : List Int} {k : Nat} (h : u ∈ dfsM m came n (t ++ [(k : Int)])) : u ∉ (nextM m came t k).flatMap (dfsM m came n) := fun h2 => by
  obtain ⟨v, hv, hu⟩ := List.mem_flatMap.1 h2
  obtain ⟨c, hc, _, rfl⟩ := mem_nextM.1 hv
  obtain ⟨s, e1, _⟩ := dfsM_pre h
  obtain ⟨s', e2, _⟩ := dfsM_pre hu
  rw [e1] at e2
  simp only [List.append_assoc, List.singleton_append, List.append_cancel_left_eq, List.cons.injEq] at e2
  omega
theorem dfsM_ok {m : Mo} {came : Nat} : ∀ {n : Nat} {t u : List Int}, RowOk m t → t.length + n = m.sums.length → u ∈ dfsM m came n t → RowOk m u ∧ u.length = m.sums.length
  | 0, t, u, h, hl, hu => by
    obtain rfl : u = t := by simpa [dfsM] using hu
    exact ⟨h, by omega⟩
  | n + 1, t, u, h, hl, hu => by
    obtain ⟨v, hv, hu⟩ := List.mem_flatMap.1 hu
    obtain ⟨c, hc, _, rfl⟩ := mem_nextM.1 hv
    exact dfsM_ok (h.snoc (by omega) hc) (by simp; omega) hu
structure MS where
  ts : List (List Int)
  x : Int
  J : List ABlk
  F : List Bool
set_option maxHeartbeats 2000000 in
theorem m153 (m : Mo) (hm : m.fits) (ho : m.Ok) (came : Nat) (hc : came < 64) (r q b : Nat) (P : List (List Int) → List ABlk) (hP : SP m came r q b P) (LB : ABlk) (hY : RoundM m P r b LB) :
    ∀ (n : Nat) (t : List Int) (ts : List (List Int)) (E : List ABlk) (tb : List Bool), t.length + n = m.sums.length → RowOk m t → (∀ u ∈ dfsM m came n t, u ∉ ts) → (∀ u ∈ ts, RowOk m u ∧ u.length = m.sums.length) →
    ∃ F, (EW tabX).call 153 [.int .i64 t.length, .ref b 0, .ref (b + 3) 0, .ref (b + 4) 0, .ref (b + 5) 0] ⟨HM P r b LB ts (arr5 t) E, tb⟩ = some (.bool true, ⟨HM P r b LB (ts ++ dfsM m came n t) (arr5 t) E, tb ++ F⟩)
  | 0, t, ts, E, tb, hn, hrow, hfr0, hts0 => by
    obtain ⟨J, F, hy⟩ := hY ts t E tb hrow (by omega) (hfr0 t (by simp [dfsM])) hts0
    obtain ⟨ev, hr⟩ := hP.at' ts
    have hlen := hP.len ts
    have hlen2 := hP.len (ts ++ [t])
    have hlt := hP.lt
    refine ⟨F, ?_⟩
    have s5 := ho.s5
    have hth : (t.length : Int) = m.sums.length := by omega
    rw [w_call _ fn_153 rfl]
    simp only [eLc, List.cons_append, List.nil_append] at hr
    simp only [HM] at hy ⊢
    have h4 : 5 ≤ (arr5 t).length := by rw [arr5_len (by omega)]; omega
    have h4' : (arr5 t).take 5 = arr5 t := List.take_of_length_le (by rw [arr5_len (by omega)]; omega)
    generalize hP1 : P ts = P1 at hr hlen hy ⊢
    generalize hP2 : P (ts ++ [t]) = P2 at hlen2 hy
    subst hlen
    have oR := old hr
    have e1 : dfsM m came 0 t = [t] := rfl
    rw [e1, hP2]
    simp only [go_sem, ↓reduceIte, simprocAttr, oR, hth, h4, h4', callAV_yld2, hy]
    rw [← hlen2]
    simp only [List.take_length_add_append, List.take_succ_cons, List.take_left']
  | n + 1, t, ts, E, tb, hn, hrow, hfr0, hts0 => by
    have ih := m153 m hm ho came hc r q b P hP LB hY n
    have hlt := hP.lt
    have s5 := ho.s5
    have w4 := ho.w4
    have ht5 : t.length < 5 := by omega
    have hth : ((t.length : Int) == m.sums.length) = false := by simp; omega
    have hal := arr5_len (t := t) (by omega)
    have hx := List.getElem?_eq_getElem (show t.length < m.sums.length by omega)
    have hzs := hm.zs (by intro e; rw [e] at hn; simp at hn)
    have hfr := ho.sums m.sums[t.length] (List.getElem_mem _)
    have hbw := bitsN_le w4
    obtain ⟨f, hf⟩ := Int.eq_ofNat_of_zero_le (show 0 ≤ m.sums[t.length].fr by omega)
    have hf16 : f < 16 := by omega
    obtain ⟨ev0, hr0⟩ := hP.at' ts
    simp only [eLc, List.cons_append, List.nil_append] at hr0
    have hthI : (t.length : Int) < m.sums.length := by omega
    have ht4 : t.length ≤ 4 := by omega
    have hti : (t.length : Int) < 5 := by omega
    rw [w_call _ fn_153 rfl]
    simp only [HM]
    have hl : ∀ u, (P u).length = b := hP.len
    have hb0 : ∀ (u : List (List Int)) (X : List ABlk), (P u ++ X)[b]? = X[0]? := fun u X => by rw [← hl u]; exact get_at0 _ _
    have hbk : ∀ (u : List (List Int)) (X : List ABlk) (k : Nat), (P u ++ X)[b + k]? = X[k]? := fun u X k => by rw [← hl u]; exact get_at _ _ _
    have hsk : ∀ (u : List (List Int)) (X : List ABlk) (k : Nat) (y : ABlk), (P u ++ X).set (b + k) y = P u ++ X.set k y := fun u X k y => by rw [← hl u]; exact set_at _ _ _ _
    have htk : ∀ (u : List (List Int)) (X : List ABlk) (k : Nat), (P u ++ X).take (b + k) = P u ++ X.take k := fun u X k => by rw [← hl u]; exact List.take_length_add_append _
    have oR0 := old hr0
    simp only [go_sem, ↓reduceIte, simprocAttr, hb0, hbk, oR0, hth]
    generalize hlx : (EW tabX).code 153 none (Code.loop _) _ = x
    refine w_rounds_sk hlx (fun k (s : MS) => [(25, .int .i64 k)]) (fun s => ⟨HM P r b LB s.ts ((arr5 t).set t.length s.x) (E ++ s.J), tb ++ s.F⟩) (fun k s => s.ts = ts ++ (nextM m came t k).flatMap (dfsM m came n)) m.who.length (.exit 0) (fun s => [(25, .int .i64 m.who.length)]) rfl ⟨ts, 0, [], []⟩ ?_ ?_ ?_ ?_ ?_ ?_
    · simp only [go_sem, ↓reduceIte, simprocAttr]
    · simp only [HM, arr5_zero ht5, List.append_nil]
    · simp only [nextM_zero, List.flatMap_nil, List.append_nil]
    · intro k s hk hR
      obtain ⟨ts1, x1, J, F⟩ := s
      simp only at hR ⊢
      subst hR
      generalize hts1 : ts ++ (nextM m came t k).flatMap (dfsM m came n) = ts1
      have hki : (k : Int) < m.who.length := by omega
      obtain ⟨ev, hr⟩ := hP.at' ts1
      have hsh := shr0_c hf16 (show k < 4 by omega)
      have hfb : forB m t.length k = f.testBit k := by unfold forB; rw [hx]; simp [hf]
      have hmay : mayM m came t k = (forB m t.length k && keptB m came (arr5 (t ++ [(k : Int)])) t.length) := rfl
      have hnx := nextM_succ m came t k
      have h5 : 5 ≤ (arr5 t).length := by omega
      have hset : ((arr5 t).set t.length x1).set t.length (k : Int) = arr5 (t ++ [(k : Int)]) := by rw [List.set_set]; exact arr5_snoc ht5 _
      have hgo : (arr5 t).set t.length (k : Int) = arr5 (t ++ [(k : Int)]) := arr5_snoc ht5 _
      have hl5 : ((arr5 t).set t.length x1).length = 5 := by rw [List.length_set]; exact hal
      have hla := arr5_len (t := t ++ [(k : Int)]) (by simp; omega)
      have hx5 : 5 ≤ (arr5 (t ++ [(k : Int)])).length := by omega
      have htake : (arr5 (t ++ [(k : Int)])).take 5 = arr5 (t ++ [(k : Int)]) := List.take_of_length_le (by omega)
      obtain ⟨F4, h154⟩ := m154 m hm ho came hc q ev r (arr5 (t ++ [(k : Int)])) hla t.length ⟨HM P r b LB ts1 (arr5 (t ++ [(k : Int)])) (E ++ J), tb ++ F⟩ (old hr _)
      simp only [eLc, List.cons_append, List.nil_append] at hr
      have oR := old hr
      simp only [HM] at h154 ⊢
      cases hbit : f.testBit k with
      | false =>
        rw [hbit] at hsh hfb
        refine ⟨⟨ts1, k, J, F⟩, ?_, ?_⟩
        · simp (disch := omega) only [go_sem, ↓reduceIte, simprocAttr, hl, hb0, hbk, hsk, oR, hki, hti, ht4, ht5, hl5, hx, hzs, hthI, eSu_get, eSu, hf, splice1, Nat.mul_one, I_set, hset, hgo, wrap_i64, hsh]
        · simp only [← hts1, hnx, hmay, hfb, Bool.false_and, Bool.false_eq_true, if_false]
      | true =>
        rw [hbit] at hsh hfb
        rw [hfb, Bool.true_and] at hmay
        cases hkept : keptB m came (arr5 (t ++ [(k : Int)])) t.length with
        | false =>
          rw [hkept] at hmay h154
          refine ⟨⟨ts1, k, J, F ++ F4⟩, ?_, ?_⟩
          · simp (disch := omega) only [go_sem, ↓reduceIte, simprocAttr, hl, hb0, hbk, hsk, oR, hki, hti, ht4, ht5, hl5, hx, hzs, hthI, eSu_get, eSu, hf, splice1, Nat.mul_one, I_set, hset, hgo, wrap_i64, hsh, hx5, htake, h154]
          · simp only [← hts1, hnx, hmay, Bool.false_eq_true, if_false]
        | true =>
          rw [hkept] at hmay h154
          obtain ⟨F5, h5⟩ := ih (t ++ [(k : Int)]) ts1 (E ++ J) (tb ++ (F ++ F4)) (by simp; omega) (hrow.snoc (by omega) hk) (fun u hu hm1 => by
            rw [← hts1] at hm1
            rcases List.mem_append.1 hm1 with h | h
            · refine hfr0 u ?_ h
              exact List.mem_flatMap.2 ⟨_, mem_nextM.2 ⟨k, hk, hmay, rfl⟩, hu⟩
            · exact dfsM_apart hu h) (fun u hu => by
            rw [← hts1] at hu
            rcases List.mem_append.1 hu with h | h
            · exact hts0 u h
            · obtain ⟨v, hv, hu⟩ := List.mem_flatMap.1 h
              obtain ⟨c, hcw, _, rfl⟩ := mem_nextM.1 hv
              exact dfsM_ok (hrow.snoc (by omega) (by omega)) (by simp; omega) hu)
          simp only [HM, List.length_append, List.length_singleton, Int.natCast_add, Int.natCast_one] at h5
          refine ⟨⟨ts1 ++ dfsM m came n (t ++ [(k : Int)]), k, J, F ++ (F4 ++ F5)⟩, ?_, ?_⟩
          · simp (disch := omega) only [go_sem, ↓reduceIte, simprocAttr, hl, hb0, hbk, hsk, oR, hki, hti, ht4, ht5, hl5, hx, hzs, hthI, eSu_get, eSu, hf, splice1, Nat.mul_one, I_set, hset, hgo, wrap_i64, hsh, hx5, htake, h154, h5]
          · simp only [← hts1, hnx, hmay, if_true, List.flatMap_append, List.flatMap_cons, List.flatMap_nil, List.append_nil, List.append_assoc]
    · intro s hR
      simp only [go_sem, ↓reduceIte, simprocAttr, Int.lt_irrefl]
    · intro s h1 h2
      obtain ⟨ts1, x1, J, F⟩ := s
      simp only at h2
      subst h2
      refine ⟨F, ?_⟩
      rw [h1]
      have e1 : dfsM m came (n + 1) t = (nextM m came t m.who.length).flatMap (dfsM m came n) := rfl
      simp (disch := omega) only [go_sem, ↓reduceIte, simprocAttr, HM, hl, hb0, hbk, hsk, htk, hti, ht4, ht5, hal, List.length_set, splice1, Nat.mul_one, I_set, List.set_set, arr5_zero ht5, e1, List.take_left']
      done
end Go.Proofs.YtiighcpimecehaaGreat
end
section
namespace Go.Proofs.YtiighcpimecehaaGreat
open Go.Proofs

def penceAt (m : Mo) (k : Nat) : Int := match m.sums[k]? with | some x => x.pence | none => 0
def dueC (m : Mo) (a : List Int) (c : Int) : Nat → Int
  | 0 => 0
  | k + 1 => dueC m a c k + (if a.getD k 0 = c then penceAt m k else 0)
def dueL (m : Mo) (a : List Int) (k : Nat) : List Int := [dueC m a 0 k, dueC m a 1 k, dueC m a 2 k, dueC m a 3 k]
theorem pence_bd {m : Mo} (ho : m.Ok) (k : Nat) : 0 ≤ penceAt m k ∧ penceAt m k ≤ 99 := by
  unfold penceAt
  cases h : m.sums[k]? with
  | none => simp
  | some x => have := ho.sums x (List.mem_of_getElem? h); simp only; omega
theorem dueC_bd {m : Mo} (ho : m.Ok) (a : List Int) (c : Int) : ∀ k : Nat, 0 ≤ dueC m a c k ∧ dueC m a c k ≤ 99 * k
  | 0 => by simp [dueC]
  | k + 1 => by
    have := dueC_bd ho a c k
    have := pence_bd ho k
    unfold dueC
    split <;> omega
@[go_sem] theorem hush_111_4 : tabX.hush 111 4 = false := id rfl
set_option maxHeartbeats 2000000 in
theorem m111 (m : Mo) (hm : m.fits) (ho : m.Ok) (came q : Nat) (ev : List Int) (r : Nat) (a : List Int) (ha : a.length = 5) (hrow : ∀ i, i < m.sums.length → ∃ c : Nat, a[i]? = some (c : Int) ∧ c < 4) (h : Heap) (hr : h.b[r]? = some (.cells (eLc m came q ev))) :
   ∃ F, (EW tabX).call 111 [.ref r 0, .agg (I a)] h = some (.agg (I (dueL m a m.sums.length)), ⟨h.b, h.t ++ F⟩) := by
  obtain ⟨B, ht⟩ := h
  have hr : B[r]? = some (.cells (eLc m came q ev)) := hr
  have s5 := ho.s5
  have hz := fun (hne : 0 < m.sums.length) => hm.zs (by intro e; rw [e] at hne; simp at hne)
  simp only [eLc, List.cons_append, List.nil_append] at hr
  have oR := old hr
  have h5 : 5 ≤ a.length := by omega
  rw [w_call _ fn_111 rfl]
  simp only [go_sem, ↓reduceIte, simprocAttr, hr, oR]
  generalize hlx : (EW tabX).code 111 none (Code.loop _) _ = x
  refine w_rounds_sk hlx (fun k (s : List Int × List ABlk × List Bool) => [(13, .int .i64 k)]) (fun s => ⟨B ++ (.cells (I a) :: .cells (I s.1) :: s.2.1), ht ++ s.2.2⟩) (fun k s => s.1 = dueL m a k) m.sums.length (.exit 0) (fun s => [(13, .int .i64 m.sums.length)]) rfl ([0, 0, 0, 0], [], []) ?_ ?_ ?_ ?_ ?_ ?_
  · simp only [go_sem, ↓reduceIte, simprocAttr]
  · simp only [I_c, I_nil, List.append_nil]
  · rfl
  · intro k s hk hR
    obtain ⟨D, J, F⟩ := s
    simp only at hR ⊢
    subst hR
    have hx := List.getElem?_eq_getElem hk
    have hki : (k : Int) < m.sums.length := by omega
    have hz1 := hz (by omega)
    obtain ⟨c, hac, hc4⟩ := hrow k hk
    have hk5 : k < 5 := by omega
    have hk5i : (k : Int) < 5 := by omega
    have hc4i : (c : Int) < 4 := by omega
    have hpe : penceAt m k = (m.sums[k]).pence := by unfold penceAt; rw [hx]
    have hpb := pence_bd ho k
    have b0 := dueC_bd ho a 0 k
    have b1 := dueC_bd ho a 1 k
    have b2 := dueC_bd ho a 2 k
    have b3 := dueC_bd ho a 3 k
    have had : (List.drop k a)[0]? = some (c : Int) := by rw [List.getElem?_drop, Nat.add_zero]; exact hac
    have hag : a.getD k 0 = (c : Int) := by simp [hac]
    have eD : dueL m a (k + 1) = [dueC m a 0 k + (if (c : Int) = 0 then penceAt m k else 0), dueC m a 1 k + (if (c : Int) = 1 then penceAt m k else 0), dueC m a 2 k + (if (c : Int) = 2 then penceAt m k else 0), dueC m a 3 k + (if (c : Int) = 3 then penceAt m k else 0)] := by
      simp only [dueL, dueC, hag]
    generalize dueL m a (k + 1) = D2 at eD ⊢
    simp only [dueL, I_c, I_nil]
    generalize dueC m a 0 k = d0 at *
    generalize dueC m a 1 k = d1 at *
    generalize dueC m a 2 k = d2 at *
    generalize dueC m a 3 k = d3 at *
    rw [hpe] at hpb eD
    generalize m.sums[k] = w at hx hpb eD
    obtain ⟨nm, pe, fr⟩ := w
    simp only at hpb eD
    simp (disch := omega) only [go_sem, ↓reduceIte, simprocAttr, hki, hz1, eSu_get, hx, eSu]
    generalize hcf : drawT _ _ _ = cf
    obtain rfl : cf = true := by rw [← hcf]; kernel_rfl
    generalize List.replicate _ ABlk.none = N
    generalize List.replicate _ false = Z
    have hcc : c = 0 ∨ c = 1 ∨ c = 2 ∨ c = 3 := by omega
    rcases hcc with rfl | rfl | rfl | rfl
    · obtain rfl : D2 = [d0 + pe, d1, d2, d3] := by rw [eD]; simp
      refine ⟨([d0 + pe, d1, d2, d3], J ++ (.cells [.str nm, .int .i64 pe, .int .i64 fr] :: N), F ++ Z), ?_, rfl⟩
      simp (disch := omega) only [go_sem, ↓reduceIte, simprocAttr, hk5, hk5i, had, I_drop, I_get, I_c, I_nil, Nat.mul_one, wrap_i64, splice1]
    · obtain rfl : D2 = [d0, d1 + pe, d2, d3] := by rw [eD]; simp
      refine ⟨([d0, d1 + pe, d2, d3], J ++ (.cells [.str nm, .int .i64 pe, .int .i64 fr] :: N), F ++ Z), ?_, rfl⟩
      simp (disch := omega) only [go_sem, ↓reduceIte, simprocAttr, hk5, hk5i, had, I_drop, I_get, I_c, I_nil, Nat.mul_one, wrap_i64, splice1]
    · obtain rfl : D2 = [d0, d1, d2 + pe, d3] := by rw [eD]; simp
      refine ⟨([d0, d1, d2 + pe, d3], J ++ (.cells [.str nm, .int .i64 pe, .int .i64 fr] :: N), F ++ Z), ?_, rfl⟩
      simp (disch := omega) only [go_sem, ↓reduceIte, simprocAttr, hk5, hk5i, had, I_drop, I_get, I_c, I_nil, Nat.mul_one, wrap_i64, splice1]
    · obtain rfl : D2 = [d0, d1, d2, d3 + pe] := by rw [eD]; simp
      refine ⟨([d0, d1, d2, d3 + pe], J ++ (.cells [.str nm, .int .i64 pe, .int .i64 fr] :: N), F ++ Z), ?_, rfl⟩
      simp (disch := omega) only [go_sem, ↓reduceIte, simprocAttr, hk5, hk5i, had, I_drop, I_get, I_c, I_nil, Nat.mul_one, wrap_i64, splice1]
  · intro s hR
    simp only [go_sem, ↓reduceIte, simprocAttr, Int.lt_irrefl]
  · intro s h1 h2
    obtain ⟨D, J, F⟩ := s
    simp only at h2
    subst h2
    refine ⟨F, ?_⟩
    rw [h1]
    simp only [go_sem, ↓reduceIte, simprocAttr, dueL, I_c, I_nil]
end Go.Proofs.YtiighcpimecehaaGreat
end
section
namespace Go.Proofs.YtiighcpimecehaaGreat
open Go.Proofs

theorem or64 : ∀ s : Fin 64, ∀ i : Fin 6, IntKind.i64.wrap (BitVec.ofInt 64 ((s.1 : Nat) : Int) ||| BitVec.ofInt 64 (2 ^ i.1)).toNat = ((s.1 ||| 2 ^ i.1 : Nat) : Int) := by decide +kernel
theorem or64_lt : ∀ s : Fin 64, ∀ i : Fin 6, (s.1 ||| 2 ^ i.1) < 64 := by decide +kernel
theorem or16_lt : ∀ s : Fin 16, ∀ i : Fin 4, (s.1 ||| 2 ^ i.1) < 16 := by decide +kernel
theorem or_c {s i : Nat} (hs : s < 64) (hi : i < 6) : IntKind.i64.wrap (((@HOr.hOr (BitVec 64) (BitVec 64) (BitVec 64) (@instHOrOfOrOp (BitVec IntKind.i64.bits) (BitVec.instOrOp : OrOp (BitVec IntKind.i64.bits))) (BitVec.ofInt 64 (s : Int)) (BitVec.ofInt 64 (2 ^ i))).toNat : Nat) : Int) = ((s ||| 2 ^ i : Nat) : Int) := or64 ⟨s, hs⟩ ⟨i, hi⟩
theorem shl6 {n : Nat} (h : n < 6) : IntKind.i64.wrap (1 * 2 ^ (min n 64)) = 2 ^ n := by
  have : n = 0 ∨ n = 1 ∨ n = 2 ∨ n = 3 ∨ n = 4 ∨ n = 5 := by omega
  rcases this with rfl | rfl | rfl | rfl | rfl | rfl <;> decide
def cameAt (m : Mo) (k : Nat) : Bool := match m.words[k]? with | some w => w.came | none => false
def cameK (m : Mo) (more : Nat) : Nat → Nat
  | 0 => more
  | k + 1 => if cameAt m k then cameK m more k ||| 2 ^ k else cameK m more k
def cameM (m : Mo) (more : Nat) : Nat := cameK m more m.words.length
theorem cameK_lt {m : Mo} {more : Nat} (h : more < 64) : ∀ {k : Nat}, k ≤ 6 → cameK m more k < 64
  | 0, _ => h
  | k + 1, hk => by
    unfold cameK
    have := cameK_lt (m := m) h (show k ≤ 6 by omega)
    split
    · exact or64_lt ⟨_, this⟩ ⟨k, by omega⟩
    · exact this
def esM (m : Mo) (ts : List (List Int)) : List (AV × AV) := ts.map fun t => (.agg (I (arr5 t)), .agg (I (dueL m (arr5 t) m.sums.length)))
def evN (ts : List (List Int)) (i : Nat) : Nat := ts.foldl (fun s t => s ||| 2 ^ (t.getD i 0).toNat) 0
def evA (m : Mo) (ts : List (List Int)) (i : Nat) : Int := if i < m.sums.length then (evN ts i : Nat) else 0
def evL (m : Mo) (ts : List (List Int)) : List Int := [evA m ts 0, evA m ts 1, evA m ts 2, evA m ts 3, evA m ts 4]
def PM (m : Mo) (came : Nat) (B J : List ABlk) (ts : List (List Int)) : List ABlk :=
  B ++ (.cells (eMc m) :: .map (esM m ts) :: .cells (eLc m came (B.length + 1) (evL m ts)) :: .cells [.ref (B.length + 2) 0] :: J)
theorem evN_snoc (ts : List (List Int)) (t : List Int) (i : Nat) : evN (ts ++ [t]) i = evN ts i ||| 2 ^ (t.getD i 0).toNat := by
  unfold evN; rw [List.foldl_append]; rfl
theorem evN_lt {m : Mo} (ho : m.Ok) {ts : List (List Int)} (h : ∀ v ∈ ts, RowOk m v ∧ v.length = m.sums.length) (i : Nat) : evN ts i < 16 := by
  have key : ∀ (l : List (List Int)) (s : Nat), s < 16 → (∀ v ∈ l, RowOk m v ∧ v.length = m.sums.length) → l.foldl (fun s t => s ||| 2 ^ (t.getD i 0).toNat) s < 16 := by
    intro l
    induction l with
    | nil => intro s hs _; exact hs
    | cons t l ih =>
      intro s hs hl
      rw [List.foldl_cons]
      refine ih _ ?_ fun v hv => hl v (List.mem_cons_of_mem _ hv)
      have hx : t.getD i 0 < 4 := by
        rw [List.getD_eq_getElem?_getD]
        cases e : t[i]? with
        | none => simp
        | some x => have := (hl t (by simp)).1.2 x (List.mem_of_getElem? e); have := ho.w4; simp only [Option.getD_some]; omega
      exact or16_lt ⟨s, hs⟩ ⟨(t.getD i 0).toNat, by omega⟩
  exact key ts 0 (by omega) h
def evP (m : Mo) (ts : List (List Int)) (t : List Int) (k : Nat) : List Int :=
  [if 0 < k then evA m (ts ++ [t]) 0 else evA m ts 0, if 1 < k then evA m (ts ++ [t]) 1 else evA m ts 1, if 2 < k then evA m (ts ++ [t]) 2 else evA m ts 2, if 3 < k then evA m (ts ++ [t]) 3 else evA m ts 3, if 4 < k then evA m (ts ++ [t]) 4 else evA m ts 4]
theorem evP_zero (m : Mo) (ts : List (List Int)) (t : List Int) : evP m ts t 0 = evL m ts := rfl
theorem evP_all (m : Mo) (ts : List (List Int)) (t : List Int) : evP m ts t m.sums.length = evL m (ts ++ [t]) := by
  have key : ∀ i, (if i < m.sums.length then evA m (ts ++ [t]) i else evA m ts i) = evA m (ts ++ [t]) i := fun i => by
    split
    · rfl
    · rename_i h; unfold evA; rw [if_neg h, if_neg h]
  unfold evP evL
  simp only [key]
theorem cast_one' : ((1 : Nat) : Int) = 1 := _root_.id rfl
theorem cast_two' : ((2 : Nat) : Int) = 2 := _root_.id rfl
theorem cast_three' : ((3 : Nat) : Int) = 3 := _root_.id rfl
theorem cast_four' : ((4 : Nat) : Int) = 4 := _root_.id rfl
@[go_sem] theorem hush_85_6 : tabX.hush 85 6 = false := id rfl
@[go_sem] theorem hush_85_14 : tabX.hush 85 14 = false := id rfl
theorem ev_nil (m : Mo) : evL m [] = [0, 0, 0, 0, 0] := by
  have : ∀ i, evA m [] i = 0 := fun i => by unfold evA evN; split <;> rfl
  unfold evL; simp only [this]
theorem m110 (r : Nat) (B : List ABlk) (t : List Bool) (hr : r < B.length) : (EW tabX).call 110 [.ref r 0] ⟨B, t⟩ = some (.clo 152 [] [.ref B.length 0], ⟨B ++ [.cells [.ref r 0]], t⟩) := by
  rw [w_call _ fn_110 rfl]
  have h1 : ¬ (B.length < B.length) := by omega
  have h2 : r < B.length + 1 := by omega
  simp only [go_sem, ↓reduceIte, simprocAttr, h1, h2]
theorem m152 (m : Mo) (hm : m.fits) (ho : m.Ok) (came : Nat) (hc : came < 64) (r q b : Nat) (P : List (List Int) → List ABlk) (hP : SP m came r q b P) (LB : ABlk) (hY : RoundM m P r b LB) (t : List Bool) :
    ∃ F v, (EW tabX).call 152 [.yld (b + 2), .ref b 0] ⟨P [] ++ [.cells [.ref r 0], .mark, LB], t⟩ = some (v, ⟨P (dfsM m came m.sums.length []) ++ [.cells [.ref r 0], .mark, LB], t ++ F⟩) := by
  obtain ⟨F, hc⟩ := m153 m hm ho came hc r q b P hP LB hY m.sums.length [] [] [] t (by simp) ⟨by simp, fun x hx => by cases hx⟩ (fun u _ h => by cases h) (fun u h => by cases h)
  have e0 : arr5 [] = [0, 0, 0, 0, 0] := rfl
  simp only [HM, List.length_nil, e0, I_c, I_nil, cast_zero, List.nil_append] at hc
  have hl : ∀ u, (P u).length = b := hP.len
  have hlt := hP.lt
  refine ⟨F, ?_⟩
  refine ⟨?_, ?_⟩
  rotate_left
  · rw [w_call _ fn_152 rfl]
    have h1 : ∀ k, r < b + k := fun k => by omega
    have h2 : ∀ k j, r < b + k + j := fun k j => by omega
    have h3 : ∀ a c d, (b + a < b + c + d) = (a < c + d) := fun a c d => by rw [Nat.add_assoc]; simp
    have hb0 : ∀ (u : List (List Int)) (X : List ABlk), (P u ++ X)[b]? = X[0]? := fun u X => by rw [← hl u]; exact get_at0 _ _
    have hbk : ∀ (u : List (List Int)) (X : List ABlk) (k : Nat), (P u ++ X)[b + k]? = X[k]? := fun u X k => by rw [← hl u]; exact get_at _ _ _
    have hsk : ∀ (u : List (List Int)) (X : List ABlk) (k : Nat) (y : ABlk), (P u ++ X).set (b + k) y = P u ++ X.set k y := fun u X k y => by rw [← hl u]; exact set_at _ _ _ _
    have htk : ∀ (u : List (List Int)) (X : List ABlk) (k : Nat), (P u ++ X).take (b + k) = P u ++ X.take k := fun u X k => by rw [← hl u]; exact List.take_length_add_append _
    have h4 : b < b + 5 + 1 := by omega
    simp only [go_sem, ↓reduceIte, simprocAttr, hl, hb0, hbk, hsk, htk, h1, h2, h3, h4, hc]
    rfl
structure PG (m : Mo) (came p r q s b : Nat) (P : List (AV × AV) → List Int → List ABlk) : Prop where
  len : ∀ es ev, (P es ev).length = b
  atR : ∀ es ev, (P es ev)[r]? = some (.cells (eLc m came q ev))
  atQ : ∀ es ev, (P es ev)[q]? = some (.map es)
  atS : ∀ es ev, (P es ev)[s]? = some (.cells [.ref r 0])
  at0 : ∀ es ev, (P es ev)[p]? = some (.cells (eMc m))
  setQ : ∀ es ev es', (P es ev).set q (.map es') = P es' ev
  setR : ∀ es ev ev', (P es ev).set r (.cells (eLc m came q ev')) = P es ev'
  rb : r < b
  qb : q < b
  sb : s < b
theorem eqI5 (l m : List Int) (hl : l.length = 5) (hm : m.length = 5) : eqCells [0, 0, 0, 0, 0] (I l) (I m) = some (decide (l = m)) := by
  match l, m, hl, hm with
  | [a, b, c, d, e], [x, y, z, w, v], _, _ =>
    simp only [eqCells, I_c, I_nil, if_true, Option.map_some]
    congr 1
    rw [Bool.eq_iff_iff]
    simp
theorem arr5_inj {t u : List Int} (h : t.length = u.length) (e : arr5 t = arr5 u) : t = u := by
  unfold arr5 at e
  exact (List.append_inj e h).1
theorem put_new (m : Mo) (t : List Int) (S : Nat) (hS : S ≤ 5) (ht : t.length = S) (v : AV) : ∀ (ts : List (List Int)), t ∉ ts → (∀ u ∈ ts, u.length = S) → putAV [0, 0, 0, 0, 0] (esM m ts) (I (arr5 t)) v = some (esM m ts ++ [(.agg (I (arr5 t)), v)])
  | [], _, _ => rfl
  | u :: ts, hn, hl => by
    have hu := hl u (by simp)
    have ih := put_new m t S hS ht v ts (fun h => hn (List.mem_cons_of_mem _ h)) (fun w hw => hl w (List.mem_cons_of_mem _ hw))
    have hne : arr5 t ≠ arr5 u := fun h => hn (by rw [arr5_inj (by omega) h]; simp)
    have he := eqI5 (arr5 t) (arr5 u) (arr5_len (by omega)) (arr5_len (by omega))
    rw [decide_eq_false hne] at he
    show putAV [0, 0, 0, 0, 0] ((.agg (I (arr5 u)), _) :: esM m ts) _ _ = _
    unfold putAV
    rw [he]
    simp only [ih]
    rfl
theorem splice5 (x0 x1 x2 x3 x4 : AV) (l : List Int) (h : l.length = 5) : splice [x0, x1, x2, x3, x4] 0 (I l) = I l := by
  match l, h with
  | [a, b, c, d, e], _ => rfl
theorem y1 (L : List Nat) (fr : Frm) (a : Tmp) (x : AV) : yieldFr L fr [a] [x] = some (setF L fr a x) := by
  simp only [yieldFr, setFK_eq]
set_option maxHeartbeats 2000000 in
theorem m85 (m : Mo) (hm : m.fits) (ho : m.Ok) (more : Nat) (hmo : more < 64) (h : Heap) :
   ∃ J F, (EW tabX).call 85 [eM m, .int .i64 more] h = some (.ref (h.b.length + 2) 0, ⟨PM m (cameM m more) h.b J (dfsM m (cameM m more) m.sums.length []), h.t ++ F⟩) := by
  obtain ⟨B, ht⟩ := h
  have o6 := ho.o6
  have s5 := ho.s5
  have hz := fun (hne : 0 < m.words.length) => hm.zo (by intro e; rw [e] at hne; simp at hne)
  have hun := eMc_under
  simp only [eMc] at hun
  have hq1 : B.length + 1 < B.length + 2 + 1 := by omega
  have hq2 : B.length + 2 < B.length + 3 + 1 := by omega
  rw [w_call _ fn_85 rfl]
  simp only [go_sem, ↓reduceIte, simprocAttr, eM, eMc, hq1, hq2]
  generalize hlx : (EW tabX).code 85 none (Code.loop _) _ = x
  refine w_rounds_sk hlx (fun k (s : Nat × List ABlk × List Bool) => [(18, .int .i64 k)]) (fun s => ⟨B ++ (.cells (eMc m) :: .map [] :: .cells (eLc m s.1 (B.length + 1) [0, 0, 0, 0, 0]) :: .cells [.ref (B.length + 2) 0] :: s.2.1), ht ++ s.2.2⟩) (fun k s => s.1 = cameK m more k) m.words.length (.exit 0) (fun s => [(18, .int .i64 m.words.length)]) rfl (more, [], []) ?_ ?_ ?_ ?_ ?_ ?_
  · simp only [go_sem, ↓reduceIte, simprocAttr]
  · simp only [eMc, eLc, I_c, I_nil, List.append_nil, List.cons_append, List.nil_append]
    done
  · rfl
  · intro k s hk hR
    obtain ⟨c, J, F⟩ := s
    simp only at hR ⊢
    subst hR
    have hx := List.getElem?_eq_getElem hk
    have hki : (k : Int) < m.words.length := by omega
    have hz1 := hz (by omega)
    have hlt := cameK_lt (m := m) hmo (show k ≤ 6 by omega)
    have hor := or_c hlt (show k < 6 by omega)
    have hsl := shl6 (show k < 6 by omega)
    have hca : cameAt m k = (m.words[k]).came := by unfold cameAt; rw [hx]
    have hK : cameK m more (k + 1) = if cameAt m k = true then cameK m more k ||| 2 ^ k else cameK m more k := rfl
    rw [hca] at hK
    generalize cameK m more (k + 1) = K1 at hK ⊢
    generalize cameK m more k = K at hK hlt hor ⊢
    generalize m.words[k] = w at hx hK
    obtain ⟨says, sm, of, back, cm⟩ := w
    simp only at hK
    cases cm with
    | false =>
      rw [if_neg (by decide)] at hK
      subst hK
      refine ⟨(K1, J ++ [bWo ⟨says, sm, of, back, false⟩], F), ?_, rfl⟩
      simp (disch := omega) only [go_sem, ↓reduceIte, simprocAttr, hki, hz1, eWo_get, hx, eWo, bWo, eMc, eLc, I_c, I_nil, wrap_i64]
      done
    | true =>
      rw [if_pos rfl] at hK
      subst hK
      simp (disch := omega) only [go_sem, ↓reduceIte, simprocAttr, hki, hz1, eWo_get, hx, eWo, bWo, eMc, eLc, I_c, I_nil, wrap_i64]
      generalize hcf : drawT _ _ _ = cf
      obtain rfl : cf = true := by rw [← hcf]; kernel_rfl
      generalize List.replicate _ ABlk.none = N
      generalize List.replicate _ false = Z
      refine ⟨(K ||| 2 ^ k, J ++ (bWo ⟨says, sm, of, back, true⟩ :: N), F ++ Z), ?_, rfl⟩
      simp (disch := omega) only [go_sem, ↓reduceIte, simprocAttr, hsl, hor, bWo, eMc, eLc, I_c, I_nil, wrap_i64]
      done
  · intro s hR
    simp only [go_sem, ↓reduceIte, simprocAttr, Int.lt_irrefl]
  · intro s h1 h2
    obtain ⟨c, J, F⟩ := s
    simp only at h2
    obtain rfl : c = cameM m more := h2
    rw [h1]
    have h110 := m110 (B.length + 2) (B ++ (.cells (eMc m) :: .map [] :: .cells (eLc m (cameM m more) (B.length + 1) [0, 0, 0, 0, 0]) :: .cells [.ref (B.length + 2) 0] :: J)) (ht ++ F) (by simp)
    simp only [go_sem, ↓reduceIte, simprocAttr, h110]
    generalize hb : B.length + (J.length + 1 + 1 + 1 + 1) = b
    obtain ⟨P, hPd⟩ : ∃ P : List (AV × AV) → List Int → List ABlk, P = fun es ev => B ++ (.cells (eMc m) :: .map es :: .cells (eLc m (cameM m more) (B.length + 1) ev) :: .cells [.ref (B.length + 2) 0] :: J) := ⟨_, rfl⟩
    have hP : PG m (cameM m more) B.length (B.length + 2) (B.length + 1) (B.length + 3) b P := by
      subst hPd
      refine ⟨fun es ev => by simp; omega, fun es ev => by simp, fun es ev => by simp, fun es ev => by simp, fun es ev => by simp, fun es ev es' => by simp, fun es ev ev' => by simp, by omega, by omega, by omega⟩
    have hP0 : ∀ X, B ++ (.cells (eMc m) :: .map [] :: .cells (eLc m (cameM m more) (B.length + 1) [0, 0, 0, 0, 0]) :: .cells [.ref (B.length + 2) 0] :: (J ++ X)) = P [] [0, 0, 0, 0, 0] ++ X := fun X => by rw [hPd]; simp
    rw [hP0]
    rw [w_range (gf := 152) (fst := []) (cap := [.ref b 0])]
    rotate_left
    · simp only [go_sem, ↓reduceIte, simprocAttr]
    generalize hLB : ABlk.loop false AExit.normal false 85 _ _ _ _ = LB
    have hc64 : cameM m more < 64 := cameK_lt (m := m) hmo (by omega)
    generalize hcm : cameM m more = came at hP hc64 hLB ⊢
    generalize hr0 : B.length + 2 = r at hP hLB ⊢
    generalize hq0 : B.length + 1 = q at hP hLB
    have hp0 := hP.at0
    generalize hs0 : B.length + 3 = s at hP hLB ⊢
    have hl : ∀ es ev, (P es ev).length = b := hP.len
    have hb0 : ∀ es ev (X : List ABlk), (P es ev ++ X)[b]? = X[0]? := fun es ev X => by rw [← hl es ev]; exact get_at0 _ _
    have hbk : ∀ es ev (X : List ABlk) (k : Nat), (P es ev ++ X)[b + k]? = X[k]? := fun es ev X k => by rw [← hl es ev]; exact get_at _ _ _
    have hsk : ∀ es ev (X : List ABlk) (k : Nat) (y : ABlk), (P es ev ++ X).set (b + k) y = P es ev ++ X.set k y := fun es ev X k y => by rw [← hl es ev]; exact set_at _ _ _ _
    have htk : ∀ es ev (X : List ABlk) (k : Nat), (P es ev ++ X).take (b + k) = P es ev ++ X.take k := fun es ev X k => by rw [← hl es ev]; exact List.take_length_add_append _
    have hS : ∀ es ev (X : List ABlk), (P es ev ++ X)[s]? = some (.cells [.ref r 0]) := fun es ev X => old (hP.atS es ev) X
    have hR : ∀ es ev (X : List ABlk), (P es ev ++ X)[r]? = some (.cells (eLc m came q ev)) := fun es ev X => old (hP.atR es ev) X
    have hQ : ∀ es ev (X : List ABlk), (P es ev ++ X)[q]? = some (.map es) := fun es ev X => old (hP.atQ es ev) X
    have h0 : ∀ es ev (X : List ABlk), (P es ev ++ X)[B.length]? = some (.cells (eMc m)) := fun es ev X => old (hP.at0 es ev) X
    have hSQ : ∀ es ev es' (X : List ABlk), (P es ev ++ X).set q (.map es') = P es' ev ++ X := fun es ev es' X => by rw [List.set_append_left _ _ (by rw [hl]; exact hP.qb), hP.setQ]
    have hSR : ∀ es ev ev' (X : List ABlk), (P es ev ++ X).set r (.cells (eLc m came q ev')) = P es ev' ++ X := fun es ev ev' X => by rw [List.set_append_left _ _ (by rw [hl]; exact hP.rb), hP.setR]
    have hY : RoundM m (fun ts => P (esM m ts) (evL m ts)) r b LB := by
      intro ts u E tb hrow hul hnew hlen
      obtain ⟨LB', b1, b2⟩ : ∃ LB', beginBlk LB = some LB' ∧ endBlk .normal LB' = some LB := by rw [← hLB]; exact ⟨_, rfl, rfl⟩
      have hat : (⟨HM (fun ts => P (esM m ts) (evL m ts)) r b LB ts (arr5 u) E, tb⟩ : Heap).b[b + 2]? = some LB := by simp only [HM, hbk, go_sem, ↓reduceIte, simprocAttr]
      have hat2 := hat.trans (congrArg some hLB.symm)
      rw [stepRound_eq tabX hat2]
      have h5 : 5 ≤ (arr5 u).length := by rw [arr5_len (by omega)]; omega
      have htake : (arr5 u).take 5 = arr5 u := List.take_of_length_le (by rw [arr5_len (by omega)]; omega)
      simp only [HM, y1, Option.bind_some, roundK]
      clear hLB hat hat2
      have hal := arr5_len (t := u) (by omega)
      have hpos : 0 < (arr5 u).length := by omega
      have hsp := fun x0 x1 x2 x3 x4 => splice5 x0 x1 x2 x3 x4 (arr5 u) hal
      simp only [go_sem, ↓reduceIte, simprocAttr, turnBlk, b1, b2, hbk, hsk, hS, hR, hQ, hl, hpos, hal, hsp]
      generalize hcf : okFam _ _ _ = cf
      obtain rfl : cf = true := by rw [← hcf]; kernel_rfl
      generalize List.replicate _ ABlk.none = N
      generalize List.replicate _ false = Z
      have hrw : ∀ i, i < m.sums.length → ∃ c : Nat, (arr5 u)[i]? = some (c : Int) ∧ c < 4 := fun i hi => by
        have hi2 : i < u.length := by omega
        rw [arr5_get hi2, List.getElem?_eq_getElem hi2]
        have := hrow.2 u[i] (List.getElem_mem _)
        have := ho.w4
        exact ⟨u[i].toNat, by congr 1; omega, by omega⟩
      obtain ⟨F1, h111⟩ := m111 m hm ho came q (evL m ts) r (arr5 u) hal hrw ⟨P (esM m ts) (evL m ts) ++ (.cells [.ref r 0] :: .mark :: LB' :: .cells [.yld (b + 2)] :: .cells (I (arr5 u)) :: .cells [.clo 153 [] [.ref b 0, .ref (b + 3) 0, .ref (b + 4) 0, .ref (b + 5) 0]] :: (E ++ (.cells (I (arr5 u)) :: N))), tb ++ Z⟩ (hR _ _ _)
      have hput := put_new m u m.sums.length s5 hul (.agg (I (dueL m (arr5 u) m.sums.length))) ts hnew (fun v hv => (hlen v hv).2)
      have heq := eqI5 (arr5 u) (arr5 u) hal hal
      rw [decide_eq_true rfl] at heq
      have hes : esM m ts ++ [(.agg (I (arr5 u)), .agg (I (dueL m (arr5 u) m.sums.length)))] = esM m (ts ++ [u]) := by simp [esM]
      rw [hes] at hput
      have hR0 := hR
      simp only [eLc, List.cons_append, List.nil_append] at hR0
      simp only [go_sem, ↓reduceIte, simprocAttr, hbk, hsk, hS, hR0, hQ, hl, hpos, hal, h5, htake, h111, heq, hput, opMapUpdate, hSQ, I_var, I_one, eLc, h0, eMc]
      have hbd := fun i => evN_lt ho (fun v hv => hlen v hv) i
      generalize hly : (EW tabX).code 85 (some (b + 2)) (Code.loop _) _ = y
      refine w_rounds_sk hly (fun k (x : List Int × List ABlk × List Bool) => [(49, .int .i64 k)]) (fun x => ⟨P (esM m (ts ++ [u])) x.1 ++ (.cells [.ref r 0] :: .mark :: LB' :: .cells [.yld (b + 2)] :: .cells (I (arr5 u)) :: .cells [.clo 153 [] [.ref b 0, .ref (b + 3) 0, .ref (b + 4) 0, .ref (b + 5) 0]] :: (E ++ (.cells (I (arr5 u)) :: (N ++ x.2.1)))), tb ++ (Z ++ (F1 ++ x.2.2))⟩)
        (fun k x => x.1 = evP m ts u k) m.sums.length (.exit 4) (fun x => [(49, .int .i64 m.sums.length)]) rfl (evL m ts, [], []) ?_ ?_ ?_ ?_ ?_ ?_
      · simp only [go_sem, ↓reduceIte, simprocAttr]
      · simp only [List.append_nil]
      · exact (evP_zero m ts u).symm
      · intro k x hk hR
        obtain ⟨ev, J1, F2⟩ := x
        simp only at hR ⊢
        subst hR
        have hki : (k : Int) < m.sums.length := by omega
        obtain ⟨c, hac, hc4⟩ := hrw k hk
        have had : (List.drop k (arr5 u))[0]? = some (c : Int) := by rw [List.getElem?_drop, Nat.add_zero]; exact hac
        have huc : (u.getD k 0).toNat = c := by
          rw [arr5_get (by omega)] at hac
          rw [List.getD_eq_getElem?_getD, hac]; simp
        have hD : evA m ts k = ((evN ts k : Nat) : Int) := by unfold evA; rw [if_pos hk]
        have hA : evA m (ts ++ [u]) k = ((evN ts k ||| 2 ^ c : Nat) : Int) := by unfold evA; rw [if_pos hk, evN_snoc, huc]
        have hor := or_c (show evN ts k < 64 by have := hbd k; omega) (show c < 6 by omega)
        have hsl := shl6 (show c < 6 by omega)
        have hc4i : (c : Int) < 5 := by omega
        have hSR' := fun (es : List (AV × AV)) (ev : List Int) (x0 x1 x2 x3 x4 : Int) (X : List ABlk) => hSR es ev [x0, x1, x2, x3, x4] X
        simp only [eLc, I_c, I_nil, List.cons_append, List.nil_append] at hSR'
        have hkk : k = 0 ∨ k = 1 ∨ k = 2 ∨ k = 3 ∨ k = 4 := by omega
        rcases hkk with rfl | rfl | rfl | rfl | rfl
        · have hki : (0 : Int) < m.sums.length := hki
          simp only [List.drop_zero] at had
          simp (disch := omega) only [go_sem, ↓reduceIte, simprocAttr, hki, evP, hbk, hsk, hS, hR0, hl, I_c, I_nil, h0, eMc, cast_zero, cast_one', cast_two', cast_three', cast_four']
          generalize hcf : drawT _ _ _ = cf
          obtain rfl : cf = true := by rw [← hcf]; kernel_rfl
          generalize List.replicate _ ABlk.none = N2
          generalize List.replicate _ false = Z2
          refine ⟨(evP m ts u 1, J1 ++ N2, F2 ++ Z2), ?_, rfl⟩
          simp (disch := omega) only [go_sem, ↓reduceIte, simprocAttr, hki, evP, hbk, hsk, hS, hR0, hl, I_c, I_nil, hD, hA, had, I_drop, I_get, hsl, hor, hSR', wrap_i64, splice1]
        · have hki : (1 : Int) < m.sums.length := hki
          simp (disch := omega) only [go_sem, ↓reduceIte, simprocAttr, hki, evP, hbk, hsk, hS, hR0, hl, I_c, I_nil, h0, eMc, cast_zero, cast_one', cast_two', cast_three', cast_four']
          generalize hcf : drawT _ _ _ = cf
          obtain rfl : cf = true := by rw [← hcf]; kernel_rfl
          generalize List.replicate _ ABlk.none = N2
          generalize List.replicate _ false = Z2
          refine ⟨(evP m ts u 2, J1 ++ N2, F2 ++ Z2), ?_, rfl⟩
          simp (disch := omega) only [go_sem, ↓reduceIte, simprocAttr, hki, evP, hbk, hsk, hS, hR0, hl, I_c, I_nil, hD, hA, had, I_drop, I_get, hsl, hor, hSR', wrap_i64, splice1]
        · have hki : (2 : Int) < m.sums.length := hki
          simp (disch := omega) only [go_sem, ↓reduceIte, simprocAttr, hki, evP, hbk, hsk, hS, hR0, hl, I_c, I_nil, h0, eMc, cast_zero, cast_one', cast_two', cast_three', cast_four']
          generalize hcf : drawT _ _ _ = cf
          obtain rfl : cf = true := by rw [← hcf]; kernel_rfl
          generalize List.replicate _ ABlk.none = N2
          generalize List.replicate _ false = Z2
          refine ⟨(evP m ts u 3, J1 ++ N2, F2 ++ Z2), ?_, rfl⟩
          simp (disch := omega) only [go_sem, ↓reduceIte, simprocAttr, hki, evP, hbk, hsk, hS, hR0, hl, I_c, I_nil, hD, hA, had, I_drop, I_get, hsl, hor, hSR', wrap_i64, splice1]
        · have hki : (3 : Int) < m.sums.length := hki
          simp (disch := omega) only [go_sem, ↓reduceIte, simprocAttr, hki, evP, hbk, hsk, hS, hR0, hl, I_c, I_nil, h0, eMc, cast_zero, cast_one', cast_two', cast_three', cast_four']
          generalize hcf : drawT _ _ _ = cf
          obtain rfl : cf = true := by rw [← hcf]; kernel_rfl
          generalize List.replicate _ ABlk.none = N2
          generalize List.replicate _ false = Z2
          refine ⟨(evP m ts u 4, J1 ++ N2, F2 ++ Z2), ?_, rfl⟩
          simp (disch := omega) only [go_sem, ↓reduceIte, simprocAttr, hki, evP, hbk, hsk, hS, hR0, hl, I_c, I_nil, hD, hA, had, I_drop, I_get, hsl, hor, hSR', wrap_i64, splice1]
        · have hki : (4 : Int) < m.sums.length := hki
          simp (disch := omega) only [go_sem, ↓reduceIte, simprocAttr, hki, evP, hbk, hsk, hS, hR0, hl, I_c, I_nil, h0, eMc, cast_zero, cast_one', cast_two', cast_three', cast_four']
          generalize hcf : drawT _ _ _ = cf
          obtain rfl : cf = true := by rw [← hcf]; kernel_rfl
          generalize List.replicate _ ABlk.none = N2
          generalize List.replicate _ false = Z2
          refine ⟨(evP m ts u 5, J1 ++ N2, F2 ++ Z2), ?_, rfl⟩
          simp (disch := omega) only [go_sem, ↓reduceIte, simprocAttr, hki, evP, hbk, hsk, hS, hR0, hl, I_c, I_nil, hD, hA, had, I_drop, I_get, hsl, hor, hSR', wrap_i64, splice1]
      · intro x hR
        simp only [go_sem, ↓reduceIte, simprocAttr, Int.lt_irrefl]
      · intro x h1 h2
        obtain ⟨ev, J1, F2⟩ := x
        simp only at h2
        rw [evP_all] at h2
        subst h2
        rw [h1]
        refine ⟨.cells (I (arr5 u)) :: (N ++ J1), Z ++ (F1 ++ F2), ?_⟩
        simp only [go_sem, ↓reduceIte, simprocAttr, hbk, hsk, b2, isNormal]
        done
    have hSP : SP m came r q b (fun ts => P (esM m ts) (evL m ts)) := ⟨fun ts => hP.len _ _, fun ts => ⟨_, hP.atR _ _⟩, hP.rb⟩
    obtain ⟨F3, v, h152⟩ := m152 m hm ho came hc64 r q b _ hSP LB hY (ht ++ F)
    have es0 : esM m [] = [] := rfl
    simp only [es0, ev_nil] at h152
    have hlt := hP.rb
    clear hY
    subst hLB
    have hb1 : ∀ k j, b + k + j = b + (k + j) := fun k j => Nat.add_assoc _ _ _
    simp only [List.append_assoc, List.cons_append, List.nil_append, List.length_append, List.length_cons, List.length_nil, hl, Nat.zero_add, hb1, Nat.reduceAdd, h152, Option.bind_some]
    have hr1 : ¬ r < B.length := by omega
    simp only [go_sem, ↓reduceIte, simprocAttr, afterRange, hbk, hsk, hS, hl, hr1]
    refine ⟨J ++ [.cells [.ref r 0], .none, .none], F ++ F3, ?_⟩
    rw [hPd]
    simp only [PM, hcm, hr0, hq0, List.append_assoc, List.cons_append]
end Go.Proofs.YtiighcpimecehaaGreat
end
section
namespace Go.Proofs.YtiighcpimecehaaGreat
open Go.Proofs

theorem m52 (s n : Nat) (hs : s < 64) (hn : n ≤ 6) (h : Heap) : callPure (EW tabX) 52 [.int .i64 s, .int .i64 n] h = some (vI (bitsL s n), h) := by
  rw [callPure_eq, w_call _ fn_52 rfl]
  simp only [go_sem, ↓reduceIte, simprocAttr]
  rw [w_rounds_h (fun k => [(4, ownT [] (bitsL s k)), (7, .int .i64 k)]) (fun k => ⟨[], T [] (bitsL s k).length⟩) n (.exit 0) [(4, ownT [] (bitsL s n)), (7, .int .i64 n)] ⟨[], T [] (bitsL s n).length⟩ ?_ ?_ ?_ ?_ rfl]
  · simp only [go_sem, ↓reduceIte, simprocAttr, ownT_clean, ownT_under]
  · simp only [go_sem, ↓reduceIte, simprocAttr]; rfl
  · rfl
  · intro k hk
    have hki : (k : Int) < n := by omega
    have hb := shr_c hs (show k < 6 by omega)
    have hln := bitsL_len s k
    have hap := ownT_app [] (bitsL s k) k (by omega)
    rw [bitsL_succ]
    cases e : s.testBit k with
    | true =>
      rw [e] at hb
      simp (disch := omega) only [go_sem, ↓reduceIte, simprocAttr, hki, wrap_i64, hap]
      rw [if_pos (by exact hb)]
    | false =>
      rw [e] at hb
      simp (disch := omega) only [go_sem, ↓reduceIte, simprocAttr, hki, wrap_i64]
      rw [if_neg (by intro hh; exact Bool.false_ne_true (hb.symm.trans hh))]
      try simp (disch := omega) only [go_sem, ↓reduceIte, simprocAttr, wrap_i64]
  · simp only [go_sem, ↓reduceIte, simprocAttr]
def sureB (s : Nat) : Bool := decide ((bitsL s 4).length ≤ 1)
theorem sure16 : ∀ s : Fin 16, (IntKind.i64.wrap (BitVec.ofInt 64 ((s.1 : Nat) : Int) &&& BitVec.ofInt 64 (((s.1 : Nat) : Int) - 1)).toNat == 0) = sureB s.1 := by decide +kernel
theorem sure_c {s : Nat} (hs : s < 16) : (IntKind.i64.wrap (((@HAnd.hAnd (BitVec 64) (BitVec 64) (BitVec 64) (@instHAndOfAndOp (BitVec IntKind.i64.bits) (BitVec.instAndOp : AndOp (BitVec IntKind.i64.bits))) (BitVec.ofInt 64 (s : Int)) (BitVec.ofInt 64 ((s : Int) - 1))).toNat : Nat) : Int) == 0) = sureB s := sure16 ⟨s, hs⟩
theorem m51 (m : Mo) (came q : Nat) (ev : List Int) (hev : ev.length = 5) (r k : Nat) (hk : k < 5) (s : Nat) (hs : s < 16) (hx : ev[k]? = some (s : Int)) (h : Heap) (hr : h.b[r]? = some (.cells (eLc m came q ev))) :
   (EW tabX).call 51 [.ref r 0, .int .i64 k] h = some (.bool (sureB s), h) := by
  obtain ⟨B, ht⟩ := h
  have hr : B[r]? = some (.cells (eLc m came q ev)) := hr
  obtain ⟨e0, e1, e2, e3, e4, rfl⟩ : ∃ a b c d e, ev = [a, b, c, d, e] := by
    match ev, hev with
    | [a, b, c, d, e], _ => exact ⟨a, b, c, d, e, rfl⟩
  simp only [eLc, I_c, I_nil, List.cons_append, List.nil_append] at hr
  have hsu := sure_c hs
  rw [w_call _ fn_51 rfl]
  have hkk : k = 0 ∨ k = 1 ∨ k = 2 ∨ k = 3 ∨ k = 4 := by omega
  rcases hkk with rfl | rfl | rfl | rfl | rfl
  all_goals
    simp only [List.getElem?_cons_zero, List.getElem?_cons_succ, Option.some.injEq] at hx
    subst hx
    simp (disch := omega) only [go_sem, ↓reduceIte, simprocAttr, hr, hsu, wrap_i64, cast_zero, cast_one', cast_two', cast_three', cast_four']
def heldK (e : Nat → Nat) (k : Nat) : List Int := ((List.range k).filter fun i => !sureB (e i)).map fun (i : Nat) => (i : Int)
theorem heldK_succ (e : Nat → Nat) (k : Nat) : heldK e (k + 1) = if sureB (e k) = true then heldK e k else heldK e k ++ [(k : Int)] := by
  unfold heldK
  rw [List.range_succ, List.filter_append, List.filter_cons, List.filter_nil]
  cases sureB (e k) <;> simp
theorem heldK_len (e : Nat → Nat) (k : Nat) : (heldK e k).length ≤ k := by
  unfold heldK; rw [List.length_map]; have := List.length_filter_le (fun i => !sureB (e i)) (List.range k); simpa using this
theorem m82 (m : Mo) (ho : m.Ok) (came q : Nat) (ev : List Int) (hev : ev.length = 5) (e : Nat → Nat) (he : ∀ k, k < m.sums.length → ev[k]? = some ((e k : Nat) : Int) ∧ e k < 16) (r : Nat) (B : List ABlk) (t : List Bool) (hr : B[r]? = some (.cells (eLc m came q ev))) :
   (EW tabX).call 82 [.ref r 0] ⟨B, t⟩ = some (ownT t (heldK e m.sums.length), ⟨B, T t (heldK e m.sums.length).length⟩) := by
  have s5 := ho.s5
  have hr' := hr
  simp only [eLc, List.cons_append, List.nil_append] at hr'
  rw [w_call _ fn_82 rfl]
  simp only [go_sem, ↓reduceIte, simprocAttr, hr']
  rw [w_rounds_h (fun k => [(2, ownT t (heldK e k)), (10, .int .i64 k)]) (fun k => ⟨B, T t (heldK e k).length⟩) m.sums.length (.exit 0) [(2, ownT t (heldK e m.sums.length)), (10, .int .i64 m.sums.length)] ⟨B, T t (heldK e m.sums.length).length⟩ ?_ ?_ ?_ ?_ rfl]
  · simp only [go_sem, ↓reduceIte, simprocAttr, ownT_under]
  · simp only [go_sem, ↓reduceIte, simprocAttr]; rfl
  · rfl
  · intro k hk
    have hki : (k : Int) < m.sums.length := by omega
    have hln := heldK_len e k
    have hap := ownT_app t (heldK e k) k (by omega)
    have h51 := fun t => m51 m came q ev hev r k (by omega) (e k) (he k hk).2 (he k hk).1 ⟨B, t⟩ hr
    rw [heldK_succ]
    cases hsu : sureB (e k) with
    | true =>
      rw [hsu] at h51
      simp (disch := omega) only [go_sem, ↓reduceIte, simprocAttr, hki, wrap_i64, h51]
    | false =>
      rw [hsu] at h51
      simp (disch := omega) only [go_sem, ↓reduceIte, simprocAttr, hki, wrap_i64, h51, hap]
  · simp only [go_sem, ↓reduceIte, simprocAttr]

def truthsM (m : Mo) (more : Nat) : List (List Int) := dfsM m (cameM m more) m.sums.length []
def enterM (m : Mo) (many : Int) (nums : List Int) : Int := if (checkM m).2.2 ≠ 0 then (checkM m).2.2 else if nums.any (out 0 (many - 1)) then 4 else if truthsM m 0 = [] then 8 else 0
theorem m46_no (m : Mo) (hm : m.fits) (many : Int) (hmany : (checkM m).2.2 = 0 → -1000 < many ∧ many < 1000) (nums : List Int) (z : Nat) (hz : nums ≠ [] → z = 1) (hnl : nums.length < 1000) (he : enterM m many nums ≠ 0) (h : Heap) (t0 : Nat) :
   ∃ F, (EW tabX).call 46 [eM m, .int .i64 many, .lst t0 z (I nums)] h = some (.tup [.nilp, .int .i64 (enterM m many nums)], ⟨h.b, h.t ++ F⟩) := by
  obtain ⟨B, ht⟩ := h
  have h93 := m93 m hm
  have h94 := m94 0 (many - 1) nums z hz
  have hun := eMc_under
  unfold enterM at he ⊢
  simp only [eM, eMc] at h93 hun
  rw [w_call _ fn_46 rfl]
  by_cases n0 : (checkM m).2.2 = 0
  · rw [if_neg (by simpa using n0)] at he ⊢
    have hmany := hmany n0
    cases hn : nums.any (out 0 (many - 1)) with
    | true =>
      refine ⟨[], ?_⟩
      simp (disch := omega) only [go_sem, ↓reduceIte, simprocAttr, eM, eMc, h93, tup3, n0, h94, hn, wrap_i64]
      done
    | false =>
      have ho := (ok_of_checkM n0).1
      obtain ⟨J, F, h85⟩ := m85 m hm ho 0 (by omega) ⟨B ++ [.cells (eMc m)], ht⟩
      rw [hn] at he
      have hnil : truthsM m 0 = [] := by
        by_cases e : truthsM m 0 = []
        · exact e
        · rw [if_neg (by decide), if_neg e] at he; exact absurd rfl he
      have hd : dfsM m (cameM m 0) m.sums.length [] = [] := hnil
      refine ⟨F, ?_⟩
      simp only [PM, hd, eM, eMc, eLc, List.append_assoc, List.cons_append, List.nil_append, cast_zero] at h85
      have hes : esM m [] = [] := rfl
      rw [hes] at h85
      have hlr : B.length + 1 + 2 = B.length + 3 := rfl
      have hlq : B.length + 1 + 1 = B.length + 2 := rfl
      simp only [List.length_append, List.length_cons, List.length_nil, Nat.zero_add, hlr, hlq] at h85
      simp (disch := omega) only [go_sem, ↓reduceIte, simprocAttr, eM, eMc, h93, tup3, n0, h94, hn, wrap_i64, h85, hnil]
      done
  · rw [if_pos (by simpa using n0)] at he ⊢
    have b0 : ((checkM m).2.2 != 0) = true := by simpa using n0
    refine ⟨[], ?_⟩
    simp (disch := omega) only [go_sem, ↓reduceIte, simprocAttr, eM, eMc, h93, tup3, b0, wrap_i64]
    done
theorem m46_yes (m : Mo) (hm : m.fits) (many : Int) (hmany : (checkM m).2.2 = 0 → -1000 < many ∧ many < 1000) (nums : List Int) (z : Nat) (hz : nums ≠ [] → z = 1) (hnl : nums.length < 1000) (he : enterM m many nums = 0) (h : Heap) (t0 : Nat) :
   ∃ J F, (EW tabX).call 46 [eM m, .int .i64 many, .lst t0 z (I nums)] h = some (.tup [.ref (h.b.length + 3) 0, .int .i64 0], ⟨PM m (cameM m 0) (h.b ++ [.cells (eMc m)]) J (truthsM m 0), h.t ++ F⟩) := by
  obtain ⟨B, ht⟩ := h
  have h93 := m93 m hm
  have h94 := m94 0 (many - 1) nums z hz
  have hun := eMc_under
  unfold enterM at he
  simp only [eM, eMc] at h93 hun
  rw [w_call _ fn_46 rfl]
  by_cases n0 : (checkM m).2.2 = 0
  · rw [if_neg (by simpa using n0)] at he
    have hmany := hmany n0
    cases hn : nums.any (out 0 (many - 1)) with
    | true => rw [hn, if_pos rfl] at he; cases he
    | false =>
      have ho := (ok_of_checkM n0).1
      obtain ⟨J, F, h85⟩ := m85 m hm ho 0 (by omega) ⟨B ++ [.cells (eMc m)], ht⟩
      rw [hn] at he
      have hnil : ¬ truthsM m 0 = [] := fun e => by rw [if_neg (by decide), if_pos e] at he; cases he
      have hd : dfsM m (cameM m 0) m.sums.length [] = truthsM m 0 := rfl
      rw [hd] at h85
      have hpos : (((esM m (truthsM m 0)).length : Int) == 0) = false := by
        have := List.length_pos_iff.2 hnil
        simp [esM]; exact hnil
      refine ⟨J, F, ?_⟩
      generalize truthsM m 0 = ts at *
      have hlr : B.length + 1 + 2 = B.length + 3 := rfl
      have hlq : B.length + 1 + 1 = B.length + 2 := rfl
      simp only [PM, eM, eMc, eLc, List.append_assoc, List.cons_append, List.nil_append, cast_zero, List.length_append, List.length_cons, List.length_nil, Nat.zero_add, hlr, hlq] at h85 ⊢
      have hlr2 : ¬ B.length + 3 < B.length := by omega
      simp (disch := omega) only [go_sem, ↓reduceIte, simprocAttr, eM, eMc, h93, tup3, n0, h94, hn, wrap_i64, h85, hpos, hlr2]
      done
  · rw [if_pos (by simpa using n0)] at he
    exact absurd he n0
end Go.Proofs.YtiighcpimecehaaGreat
end
section
namespace Go.Proofs.YtiighcpimecehaaGreat
open Go.Proofs

theorem eM_clean (m : Mo) : (eM m).clean = some (eM m) := by simp only [go_sem, ↓reduceIte, simprocAttr, eM, eMc]
def EM (m : Mo) (ts : List (List Int)) (J : List ABlk) : List ABlk :=
  .cells (eMc m) :: .cells (eMc m) :: .cells (eMc m) :: .map (esM m ts) :: .cells (eLc m (cameM m 0) 3 (evL m ts)) :: .cells [.ref 4 0] :: J
theorem enterY (m : Mo) (hm : m.fits) (many : Int) (hmany : (checkM m).2.2 = 0 → -1000 < many ∧ many < 1000) (nums : List Int) (z : Nat) (hz : nums ≠ [] → z = 1) (hnl : nums.length < 1000) (he : enterM m many nums = 0) (t0 : Nat) :
   ∃ J t, (EW tabX).call 46 [eM m, .int .i64 many, .lst t0 z (I nums)] ⟨[.cells (eMc m)], []⟩ = some (.tup [.ref 4 0, .int .i64 0], ⟨EM m (truthsM m 0) J, t⟩) := by
  obtain ⟨J, F, h⟩ := m46_yes m hm many hmany nums z hz hnl he ⟨[.cells (eMc m)], []⟩ t0
  exact ⟨J, F, h⟩
theorem enterM_zero {m : Mo} {many : Int} {nums : List Int} (h : enterM m many nums = 0) : (checkM m).2.2 = 0 ∧ nums.any (out 0 (many - 1)) = false ∧ truthsM m 0 ≠ [] := by
  unfold enterM at h
  by_cases n0 : (checkM m).2.2 = 0
  · rw [if_neg (by simpa using n0)] at h
    cases hn : nums.any (out 0 (many - 1)) with
    | true => rw [hn, if_pos rfl] at h; cases h
    | false =>
      rw [hn, if_neg (by decide)] at h
      refine ⟨n0, rfl, fun e => ?_⟩
      rw [if_pos e] at h; cases h
  · rw [if_pos (by simpa using n0)] at h
    exact absurd h n0
theorem truthsM_ok {m : Mo} {more : Nat} {t : List Int} (h : t ∈ truthsM m more) : RowOk m t ∧ t.length = m.sums.length :=
  dfsM_ok ⟨by simp, fun x hx => by cases hx⟩ (by simp) h
theorem ev_lt {m : Mo} (ho : m.Ok) (more i : Nat) : evN (truthsM m more) i < 16 := evN_lt ho (fun v hv => truthsM_ok hv) i
theorem evA_at {m : Mo} {ts : List (List Int)} {i : Nat} (h : i < m.sums.length) : evA m ts i = ((evN ts i : Nat) : Int) := by unfold evA; rw [if_pos h]
def forV (m : Mo) (sum : Int) : AV := if enterM m m.sums.length [sum] ≠ 0 then .tup [vI [], .int .i64 (enterM m m.sums.length [sum])] else .tup [vI (bitsL (evN (truthsM m 0) sum.toNat) m.who.length), .int .i64 0]
theorem many_ok {m : Mo} (h : (checkM m).2.2 = 0) : -1000 < (m.sums.length : Int) ∧ (m.sums.length : Int) < 1000 := by
  have := (ok_of_checkM h).1.s5
  omega
theorem many_ok' {m : Mo} (h : (checkM m).2.2 = 0) : -1000 < (m.who.length : Int) ∧ (m.who.length : Int) < 1000 := by
  have := (ok_of_checkM h).1.w4
  omega
theorem m16 (m : Mo) (hm : m.fits) (sum : Int) (h : Heap) : callPure (EW tabX) 16 [eM m, .int .i64 sum] h = some (forV m sum, h) := by
  have hcl := eM_clean m
  unfold forV
  rw [callPure_eq, w_call _ fn_16 rfl]
  by_cases he : enterM m m.sums.length [sum] = 0
  · rw [if_neg (by simpa using he)]
    obtain ⟨h0, h1, h2⟩ := enterM_zero he
    have ho := (ok_of_checkM h0).1
    obtain ⟨J, t, h46⟩ := enterY m hm m.sums.length many_ok [sum] 1 (fun _ => rfl) (by simp) he 1
    simp only [List.any_cons, List.any_nil, Bool.or_false] at h1
    have hr := out_false h1
    obtain ⟨k, rfl⟩ := Int.eq_ofNat_of_zero_le hr.1
    have hk : k < m.sums.length := by omega
    have hev := evA_at (ts := truthsM m 0) hk
    have hlt := ev_lt ho 0 k
    have s5 := ho.s5
    have w4 := ho.w4
    have h52 := m52 (evN (truthsM m 0) k) m.who.length (by omega) (by omega)
    simp only [eM, eMc, EM, eLc, evL, I_c, I_nil, List.cons_append, List.nil_append] at h46 hcl
    simp only [Int.toNat_natCast]
    have hkk : k = 0 ∨ k = 1 ∨ k = 2 ∨ k = 3 ∨ k = 4 := by omega
    rcases hkk with rfl | rfl | rfl | rfl | rfl
    all_goals
      simp only [hev, cast_zero, cast_one', cast_two', cast_three', cast_four'] at h46
      simp (disch := omega) only [go_sem, ↓reduceIte, simprocAttr, eM, eMc, hcl, h46, h52, vI_clean, vI_under, cast_zero, cast_one', cast_two', cast_three', cast_four']
  · rw [if_pos (by simpa using he)]
    obtain ⟨F, h46⟩ := m46_no m hm m.sums.length many_ok [sum] 1 (fun _ => rfl) (by simp) he ⟨[.cells (eMc m)], []⟩ 1
    have hb : (enterM m m.sums.length [sum] != 0) = true := by simpa using he
    simp only [eM, eMc, I_c, I_nil] at h46 hcl
    simp (disch := omega) only [go_sem, ↓reduceIte, simprocAttr, eM, eMc, hcl, h46, hb, vI_nil]
theorem testBit_or (a j k : Nat) : (a ||| 2 ^ j).testBit k = (a.testBit k || decide (j = k)) := by
  rw [Nat.testBit_or, Nat.testBit_two_pow]
theorem evN_bit (ts : List (List Int)) (i j : Nat) : (evN ts i).testBit j = ts.any fun t => decide ((t.getD i 0).toNat = j) := by
  have key : ∀ (l : List (List Int)) (s : Nat), (l.foldl (fun s t => s ||| 2 ^ (t.getD i 0).toNat) s).testBit j = (s.testBit j || l.any fun t => decide ((t.getD i 0).toNat = j)) := by
    intro l
    induction l with
    | nil => intro s; simp
    | cons t l ih => intro s; rw [List.foldl_cons, ih, testBit_or, List.any_cons, Bool.or_assoc]
  unfold evN
  rw [key]; simp
theorem mem_bitsL {s n : Nat} {x : Int} : x ∈ bitsL s n ↔ ∃ i : Nat, i < n ∧ s.testBit i = true ∧ x = (i : Int) := by
  unfold bitsL
  rw [List.mem_map]
  constructor
  · rintro ⟨i, hi, rfl⟩
    obtain ⟨h1, h2⟩ := List.mem_filter.1 hi
    exact ⟨i, List.mem_range.1 h1, h2, rfl⟩
  · rintro ⟨i, h1, h2, rfl⟩
    exact ⟨i, List.mem_filter.2 ⟨List.mem_range.2 h1, h2⟩, rfl⟩
theorem row_at {m : Mo} {t : List Int} (h : RowOk m t ∧ t.length = m.sums.length) {k : Nat} (hk : k < m.sums.length) : ∃ c : Nat, t.getD k 0 = (c : Int) ∧ t[k]? = some (c : Int) ∧ c < m.who.length := by
  have hk2 : k < t.length := by omega
  have hx := List.getElem?_eq_getElem hk2
  have := h.1.2 t[k] (List.getElem_mem _)
  refine ⟨t[k].toNat, ?_, ?_, by omega⟩
  · rw [List.getD_eq_getElem?_getD, hx, Option.getD_some]; omega
  · rw [hx]; congr 1; omega
theorem ev_ne {m : Mo} {more k : Nat} (h : truthsM m more ≠ []) (hk : k < m.sums.length) : bitsL (evN (truthsM m more) k) m.who.length ≠ [] := by
  obtain ⟨t, ht⟩ := List.exists_mem_of_ne_nil _ h
  obtain ⟨c, h1, _, h3⟩ := row_at (truthsM_ok ht) hk
  have : (c : Int) ∈ bitsL (evN (truthsM m more) k) m.who.length := mem_bitsL.2 ⟨c, h3, by rw [evN_bit, List.any_eq_true]; exact ⟨t, ht, by rw [h1]; simp⟩, rfl⟩
  exact List.ne_nil_of_mem this
def payV (m : Mo) (sum : Int) : AV := if enterM m m.sums.length [sum] ≠ 0 then .tup [.int .i64 0, .int .i64 (enterM m m.sums.length [sum])] else
  if sureB (evN (truthsM m 0) sum.toNat) = true then .tup [.int .i64 ((bitsL (evN (truthsM m 0) sum.toNat) m.who.length).headD 0), .int .i64 0] else .tup [.int .i64 0, .int .i64 9]
theorem evL_len (m : Mo) (ts : List (List Int)) : (evL m ts).length = 5 := rfl
theorem evL_get {m : Mo} (ho : m.Ok) {ts : List (List Int)} {k : Nat} (hk : k < m.sums.length) : (evL m ts)[k]? = some ((evN ts k : Nat) : Int) := by
  have s5 := ho.s5
  have h := evA_at (ts := ts) hk
  have hkk : k = 0 ∨ k = 1 ∨ k = 2 ∨ k = 3 ∨ k = 4 := by omega
  rcases hkk with rfl | rfl | rfl | rfl | rfl
  all_goals
    rw [← h]; rfl
theorem m15 (m : Mo) (hm : m.fits) (sum : Int) (h : Heap) : callPure (EW tabX) 15 [eM m, .int .i64 sum] h = some (payV m sum, h) := by
  have hcl := eM_clean m
  unfold payV
  rw [callPure_eq, w_call _ fn_15 rfl]
  by_cases he : enterM m m.sums.length [sum] = 0
  · rw [if_neg (by simpa using he)]
    obtain ⟨h0, h1, h2⟩ := enterM_zero he
    have ho := (ok_of_checkM h0).1
    obtain ⟨J, t, h46⟩ := enterY m hm m.sums.length many_ok [sum] 1 (fun _ => rfl) (by simp) he 1
    simp only [List.any_cons, List.any_nil, Bool.or_false] at h1
    have hr := out_false h1
    obtain ⟨k, rfl⟩ := Int.eq_ofNat_of_zero_le hr.1
    have hk : k < m.sums.length := by omega
    have hev := evA_at (ts := truthsM m 0) hk
    have hlt := ev_lt ho 0 k
    have s5 := ho.s5
    have w4 := ho.w4
    have h52 := m52 (evN (truthsM m 0) k) m.who.length (by omega) (by omega)
    have hne := ev_ne h2 hk
    have h51 := m51 m (cameM m 0) 3 (evL m (truthsM m 0)) (evL_len _ _) 4 k (by omega) (evN (truthsM m 0) k) hlt (evL_get ho hk) ⟨EM m (truthsM m 0) J, t⟩ rfl
    simp only [eM, eMc, EM, eLc, evL, I_c, I_nil, List.cons_append, List.nil_append] at h46 hcl h51
    simp only [Int.toNat_natCast]
    obtain ⟨x, l, hbl⟩ : ∃ x l, bitsL (evN (truthsM m 0) k) m.who.length = x :: l := by
      cases hb : bitsL (evN (truthsM m 0) k) m.who.length with
      | nil => exact absurd hb hne
      | cons x l => exact ⟨x, l, rfl⟩
    rw [hbl] at h52 ⊢
    simp only [vI, zT, I_c, List.length_cons] at h52
    have hkk : k = 0 ∨ k = 1 ∨ k = 2 ∨ k = 3 ∨ k = 4 := by omega
    cases hsu : sureB (evN (truthsM m 0) k) with
    | true =>
      rw [hsu] at h51
      rcases hkk with rfl | rfl | rfl | rfl | rfl
      all_goals
        simp only [hev, cast_zero, cast_one', cast_two', cast_three', cast_four'] at h46 h51
        simp (disch := omega) only [go_sem, ↓reduceIte, simprocAttr, eM, eMc, hcl, h46, h51, h52, List.headD_cons, cast_zero, cast_one', cast_two', cast_three', cast_four']
        done
    | false =>
      rw [hsu] at h51
      rcases hkk with rfl | rfl | rfl | rfl | rfl
      all_goals
        simp only [hev, cast_zero, cast_one', cast_two', cast_three', cast_four'] at h46 h51
        simp (disch := omega) only [go_sem, ↓reduceIte, simprocAttr, eM, eMc, hcl, h46, h51, cast_zero, cast_one', cast_two', cast_three', cast_four']
        done
  · rw [if_pos (by simpa using he)]
    obtain ⟨F, h46⟩ := m46_no m hm m.sums.length many_ok [sum] 1 (fun _ => rfl) (by simp) he ⟨[.cells (eMc m)], []⟩ 1
    have hb : (enterM m m.sums.length [sum] != 0) = true := by simpa using he
    simp only [eM, eMc, I_c, I_nil] at h46 hcl
    simp (disch := omega) only [go_sem, ↓reduceIte, simprocAttr, eM, eMc, hcl, h46, hb]
def heldV (m : Mo) : AV := if enterM m 0 [] ≠ 0 then .tup [vI [], .int .i64 (enterM m 0 [])] else .tup [vI (heldK (evN (truthsM m 0)) m.sums.length), .int .i64 0]
theorem m37 (m : Mo) (hm : m.fits) (h : Heap) : callPure (EW tabX) 37 [eM m] h = some (heldV m, h) := by
  have hcl := eM_clean m
  unfold heldV
  rw [callPure_eq, w_call _ fn_37 rfl]
  by_cases he : enterM m 0 [] = 0
  · rw [if_neg (by simpa using he)]
    obtain ⟨h0, h1, h2⟩ := enterM_zero he
    have ho := (ok_of_checkM h0).1
    obtain ⟨J, t, h46⟩ := enterY m hm 0 (fun _ => by omega) [] 0 (fun h => absurd rfl h) (by simp) he 1
    have h82 := m82 m ho (cameM m 0) 3 (evL m (truthsM m 0)) (evL_len _ _) (evN (truthsM m 0)) (fun k hk => ⟨evL_get ho hk, ev_lt ho 0 k⟩) 4 (EM m (truthsM m 0) J) t rfl
    simp only [eM, eMc, I_nil] at h46 hcl
    simp (disch := omega) only [go_sem, ↓reduceIte, simprocAttr, eM, eMc, hcl, h46, h82, ownT_clean, ownT_under]
    done
  · rw [if_pos (by simpa using he)]
    obtain ⟨F, h46⟩ := m46_no m hm 0 (fun _ => by omega) [] 0 (fun h => absurd rfl h) (by simp) he ⟨[.cells (eMc m)], []⟩ 1
    have hb : (enterM m 0 [] != 0) = true := by simpa using he
    simp only [eM, eMc, I_nil] at h46 hcl
    simp (disch := omega) only [go_sem, ↓reduceIte, simprocAttr, eM, eMc, hcl, h46, hb, vI_nil]
    done
end Go.Proofs.YtiighcpimecehaaGreat
end
section
namespace Go.Proofs.YtiighcpimecehaaGreat
open Go.Proofs

theorem truth_rng (d : Dr) : ∀ (e : Nat) (t : List Int), t ∈ truthsL d e → ∀ x ∈ t, -1 ≤ x ∧ x < d.cards.length
  | 0, t, h, x, hx => by simp [truthsL] at h; subst h; cases hx
  | e + 1, t, h, x, hx => by
    unfold truthsL at h
    obtain ⟨u, hu, ht⟩ := List.mem_flatMap.1 h
    unfold extK at ht
    obtain ⟨i, hi, rfl⟩ := List.mem_map.1 ht
    rcases List.mem_append.1 hx with h1 | h1
    · exact truth_rng d e u hu x h1
    · simp at h1; subst h1
      have := List.mem_range.1 (List.mem_filter.1 hi).1
      omega
theorem first_lost (d : Dr) : lostN (first d) = leastN (truthsL d d.halves.length) d.halves.length := by
  have := (List.mem_filter.1 (first_mem d)).2
  simpa using this
theorem fairL_get (d : Dr) (k : Nat) {t : List Int} (h : (fairL d)[k]? = some t) : ((fairL d).map eA)[k]? = some (eA t) := by rw [List.getElem?_map, h]; rfl
theorem rowsOf_I (l : List Int) : ∀ n off, off + n ≤ l.length → rowsOf 1 (I l) off n = some (((I l).drop off).take n)
  | 0, off, _ => by simp [rowsOf]
  | n + 1, off, h => by
    have hlt : off < l.length := by omega
    have hx : (I l)[off]? = some (.int .i64 l[off]) := by rw [I_get, List.getElem?_eq_getElem hlt]; rfl
    have hr : rowAt 1 (I l) off = some (.int .i64 l[off]) := by simp [rowAt, hx, AV.one]
    have hd : (I l).drop off = .int .i64 l[off] :: (I l).drop (off + 1) := by
      have hl : off < (I l).length := by rw [I_len]; exact hlt
      rw [List.drop_eq_getElem_cons hl]
      congr 1
      rw [List.getElem?_eq_getElem hl] at hx
      exact Option.some.inj hx
    rw [rowsOf, hr, rowsOf_I l n (off + 1) (by omega), hd]
    rfl
theorem frz_int (h : Heap) (k : Nat) (q : IntKind) (n : Int) : frz h (k + 1) (.int q n) = some (.int q n) := by simp [frz, AV.clean]
theorem frz_I (h : Heap) (k : Nat) : ∀ l : List Int, optL ((I l).map (frz h (k + 1))) = some (I l)
  | [] => rfl
  | x :: l => by
    have e : optL ((I (x :: l)).map (frz h (k + 1))) = match frz h (k + 1) (.int .i64 x), optL ((I l).map (frz h (k + 1))) with
      | some y, some ys => some (y :: ys)
      | _, _ => none := rfl
    rw [e, frz_int, frz_I h k l]; rfl
theorem frz_bsl (h : Heap) (k b n : Nat) (l : List Int) (hb : h.b[b]? = some (.cells (I l))) (hn : n = l.length) : frz h (k + 2) (.bsl b 0 n 1) = some (.lst 0 1 (I l)) := by
  have hr := rowsOf_I l n 0 (by omega)
  have ht : ((I l).drop 0).take n = I l := by rw [List.drop_zero]; exact List.take_of_length_le (by rw [I_len]; omega)
  rw [ht] at hr
  have e : frz h (k + 2) (.bsl b 0 n 1) = match h.b[b]? with
      | some (.cells c) => match rowsOf 1 c 0 n with
        | some xs => match optL (xs.map (frz h (k + 1))) with
          | some ys => some (.lst 0 1 ys)
          | none => none
        | none => none
      | _ => none := rfl
  rw [e, hb]
  simp only
  rw [hr]
  simp only
  rw [frz_I h k l]
def mix (t : List Int) (k : Nat) : List Int := t.take k ++ (t.drop k).map (· + 1)
theorem mix_len (t : List Int) (k : Nat) : (mix t k).length = t.length := by simp [mix]; omega
theorem mix_get {t : List Int} {k : Nat} (h : k < t.length) : (mix t k)[k]? = some (t[k] + 1) := by
  unfold mix
  rw [List.getElem?_append_right (by rw [List.length_take]; omega), List.length_take, Nat.min_eq_left (by omega), Nat.sub_self]
  rw [List.drop_eq_getElem_cons h]; rfl
theorem mix_set {t : List Int} {k : Nat} (h : k < t.length) : (mix t k).set k t[k] = mix t (k + 1) := by
  unfold mix
  have hl : (t.take k).length = k := by rw [List.length_take]; omega
  rw [List.set_append_right _ _ (by omega), hl, Nat.sub_self, List.drop_eq_getElem_cons h, List.map_cons, List.set_cons_zero, List.take_add_one, List.getElem?_eq_getElem h, Option.toList_some, List.append_assoc]
  rfl
theorem mix_zero (t : List Int) : mix t 0 = t.map (· + 1) := by simp [mix]
theorem mix_all (t : List Int) : mix t t.length = t := by simp [mix]
theorem arr_take (t : List Int) : (arrOf t).take t.length = mix t 0 := by
  rw [mix_zero]; unfold arrOf
  rw [List.take_append_of_le_length (by simp)]
  exact List.take_of_length_le (by simp)
theorem splice_len (vs : List AV) : ∀ (c : List AV) (off : Nat), off + vs.length ≤ c.length → splice c off vs = c.take off ++ vs ++ c.drop (off + vs.length) := by
  induction vs with
  | nil => intro c off h; simp [splice]
  | cons v vs ih =>
    intro c off h
    simp only [List.length_cons] at h
    have e : splice c off (v :: vs) = splice (c.set off v) (off + 1) vs := rfl
    rw [e, ih _ _ (by simp; omega)]
    have h1 : (c.set off v).take (off + 1) = c.take off ++ [v] := by
      rw [List.take_add_one, List.getElem?_set_self (by omega), List.take_set_of_le (Nat.le_refl _)]; rfl
    have h2 : (c.set off v).drop (off + 1 + vs.length) = c.drop (off + (vs.length + 1)) := by
      rw [List.drop_set_of_lt (by omega)]; congr 1; omega
    rw [h1, h2]; simp
theorem splice_all (c vs : List AV) (h : vs.length = c.length) : splice c 0 vs = vs := by
  rw [splice_len vs c 0 (by omega)]; simp [h]
theorem c22_yes (d : Dr) (hd : d.fits) (he : (checkT d).2.2 = 0) (h : Heap) : callPure (EW tabX) 8 [eD d] h = some (.tup [.lst 0 1 (I (first d)), .int .i64 (lostN (first d)), .int .i64 0], h) := by
  have hcl := eD_clean d
  obtain ⟨ho, B, t, tag, zz, h60, b0, b4, b3, hown⟩ := enter_yes d hd 0 (by omega) 1 0 [] (fun h => absurd rfl h) (by simp) (by rw [enterE_nil]; exact he)
  obtain ⟨tg, t', h62⟩ := c62 d ho B 4 3 _ b4 b3 t
  have hf0 := fairL_get d 0 (fairL_zero d)
  have hfl := (fairL_mem (first_mem d)).2
  have h4 := ho.h4
  rw [← first_lost] at h62
  simp only [eDc, List.cons_append, List.nil_append] at b0
  have o0 := old b0
  rw [callPure_eq, w_call _ fn_8 rfl]
  simp only [go_sem, ↓reduceIte, simprocAttr, eD, eDc, eC_under] at hcl h60 ⊢
  have hm : (d.halves.length : Int) ≤ 4096 := by omega
  have hm2 : ((d.halves.length : Int) ≤ 4096) = True := by simp; omega
  have hp0 : (0 : Int) ≤ d.halves.length := by omega
  have hal := arrOf_len (t := first d) (by omega)
  have h44 : 4 ≤ (arrOf (first d)).length := by omega
  have h4' : (arrOf (first d)).take 4 = arrOf (first d) := List.take_of_length_le (by omega)
  have hfz : ∀ B' : List ABlk, frz ⟨B ++ [.cells (I (first d))], t'⟩ 6 (.tup [.bsl B.length 0 d.halves.length 1, .int .i64 (lostN (first d)), .int .i64 0]) = some (.tup [.lst 0 1 (I (first d)), .int .i64 (lostN (first d)), .int .i64 0]) := fun _ => by
    have h1 := frz_bsl ⟨B ++ [.cells (I (first d))], t'⟩ 3 B.length d.halves.length (first d) (by simp) hfl.symm
    have e : frz ⟨B ++ [.cells (I (first d))], t'⟩ 6 (.tup [.bsl B.length 0 d.halves.length 1, .int .i64 (lostN (first d)), .int .i64 0]) = match optL [frz ⟨B ++ [.cells (I (first d))], t'⟩ 5 (.bsl B.length 0 d.halves.length 1), frz ⟨B ++ [.cells (I (first d))], t'⟩ 5 (.int .i64 (lostN (first d))), frz ⟨B ++ [.cells (I (first d))], t'⟩ 5 (.int .i64 0)] with
      | some ys => some (.tup ys)
      | none => none := rfl
    rw [e, h1, frz_int, frz_int]; rfl
  have hnu : ¬ (B.length < 0) := by omega
  by_cases h0 : d.halves.length = 0
  · have hnil : first d = [] := List.eq_nil_of_length_eq_zero (by omega)
    rw [h0] at hfz
    rw [hnil] at hfz
    have hfz := hfz []
    simp only [I_nil] at hfz
    simp only [go_sem, ↓reduceIte, simprocAttr, eC_clean, h60, h62, b0, opMakeSlice, opCopy, hf0, eA, h0, o0, hal, h44, h4']
    rw [w_rounds_u (fun k => [(32, .int .i64 k)]) 0 (.exit 0) [(32, .int .i64 0)] ?_ ?_ ?_ rfl]
    · simp only [go_sem, ↓reduceIte, simprocAttr, hnu, orW_none, hfz, hnil]
    · simp only [go_sem, ↓reduceIte, simprocAttr]
    · intro k hk; omega
    · simp only [go_sem, ↓reduceIte, simprocAttr]
  · have hpos : 0 < d.halves.length := by omega
    have hat := arr_take (first d)
    rw [hfl] at hat
    have hml := mix_len (first d) 0
    have hsp := splice_all (List.replicate d.halves.length (AV.int .i64 0)) (I (mix (first d) 0)) (by rw [I_len, List.length_replicate]; omega)
    have hrl : (List.replicate d.halves.length (AV.int .i64 0)).length = d.halves.length := List.length_replicate
    simp only [go_sem, ↓reduceIte, simprocAttr, eC_clean, h60, h62, b0, opMakeSlice, opCopy, hm, hf0, eA, hp0, o0, hal, h44, h4', hat, hsp, hrl, hpos]
    rw [w_rounds_h (fun k => [(32, .int .i64 k)]) (fun k => ⟨B ++ [.cells (I (mix (first d) k))], t'⟩) d.halves.length (.exit 0) [(32, .int .i64 d.halves.length)] ⟨B ++ [.cells (I (first d))], t'⟩ ?_ ?_ ?_ ?_ rfl]
    · simp only [go_sem, ↓reduceIte, simprocAttr, hnu, orW_none, hfz []]
    · simp only [go_sem, ↓reduceIte, simprocAttr]
    · simp only [go_sem, ↓reduceIte, simprocAttr]
    · intro k hk
      have hk' : k < (first d).length := by omega
      have hki : (k : Int) < d.halves.length := by omega
      have hgk := mix_get hk'
      have hml := mix_len (first d) k
      have hst := mix_set hk'
      have hr := truth_rng d _ _ (fairL_mem (first_mem d)).1 (first d)[k] (List.getElem_mem hk')
      have hc4 := ho.c4
      have hw : (first d)[k] + 1 - 1 = (first d)[k] := by omega
      have hk1 : k + 1 ≤ (first d).length := by omega
      simp (disch := omega) only [go_sem, ↓reduceIte, simprocAttr, hki, hk, hgk, hml, wrap_i64, Nat.mul_one, List.getElem?_drop, hw, hk1, splice1, I_set, hst]
    · have e := mix_all (first d)
      rw [hfl] at e
      simp only [go_sem, ↓reduceIte, simprocAttr, e]
end Go.Proofs.YtiighcpimecehaaGreat
end
section
namespace Go.Proofs.YtiighcpimecehaaGreat
open Go.Proofs

theorem cast_five : ((5 : Nat) : Int) = 5 := _root_.id rfl
theorem m47 (a b : List Int) (ha : a.length = 5) (hb : b.length = 5) (p q : Nat) (h : Heap) (hp : h.b[p]? = some (.cells (I a))) (hq : h.b[q]? = some (.cells (I b))) :
    (EW tabX).call 47 [.bsl p 0 5 1, .bsl q 0 5 1] h = some (.int .i64 (cmpL a b), h) := by
  obtain ⟨B, ht⟩ := h
  have hp : B[p]? = some (.cells (I a)) := hp
  have hq : B[q]? = some (.cells (I b)) := hq
  have h1 := cpl_le1 a b
  have h2 := cpl_le2 a b
  have hlt := ltB_cpl a b
  have h5a : 5 ≤ a.length := by omega
  have h5b : 5 ≤ b.length := by omega
  rw [w_call _ fn_47 rfl]
  simp only [go_sem, ↓reduceIte, simprocAttr, hp, hq]
  have round : ∀ k, k < cpl a b → ∃ x, (List.drop k a)[0]? = some x ∧ (List.drop k b)[0]? = some x ∧ (k : Int) < 5 ∧ ¬ (5 : Int) ≤ k ∧ k < 5 ∧ k < a.length ∧ k < b.length := fun k hk => by
    have ka : k < a.length := by omega
    have kb : k < b.length := by omega
    have hx := List.getElem?_eq_getElem ka
    have he := cpl_eq a b k hk
    refine ⟨a[k], ?_, ?_, by omega, by omega, by omega, ka, kb⟩
    · rw [List.getElem?_drop, Nat.add_zero]; exact hx
    · rw [List.getElem?_drop, Nat.add_zero, ← he]; exact hx
  have cz : ∀ x, cmpI x x = 0 := fun x => by unfold cmpI; rw [if_neg (by omega), if_neg (by omega)]
  by_cases e : cpl a b = 5
  · have hab : a = b := by
      apply List.ext_getElem?
      intro k
      by_cases hk : k < cpl a b
      · exact cpl_eq a b k hk
      · rw [List.getElem?_eq_none (by omega), List.getElem?_eq_none (by omega)]
    rw [w_rounds_u (fun k => [(11, .int .i64 k)]) (cpl a b) (.exit 0) [(11, .int .i64 (cpl a b))] ?_ ?_ ?_ rfl]
    · subst hab
      simp only [go_sem, ↓reduceIte, simprocAttr, cmpL, ltB_irrefl]
    · simp only [go_sem, ↓reduceIte, simprocAttr]
    · intro k hk
      obtain ⟨x, x1, x2, x3, x4, x5, x6, x7⟩ := round k hk
      simp (disch := omega) only [go_sem, ↓reduceIte, simprocAttr, hp, hq, x1, x2, x3, x4, x5, x6, x7, I_drop, Nat.mul_one, c77, cz, wrap_i64]
    · rw [e]; simp only [go_sem, ↓reduceIte, simprocAttr, Int.lt_irrefl, cast_five]
  · have g : cpl a b < a.length := by omega
    have g5 : cpl a b < 5 := by omega
    have gi : ((cpl a b : Nat) : Int) < 5 := by omega
    have hx := List.getElem?_eq_getElem g
    have g2 : cpl a b < b.length := by omega
    have gi2 : ¬ (5 : Int) ≤ (cpl a b : Nat) := by omega
    have hy := List.getElem?_eq_getElem g2
    have hne := cpl_ne a b _ _ hx hy
    have ea : a.getD (cpl a b) 0 = a[cpl a b] := by simp [g]
    have eb : b.getD (cpl a b) 0 = b[cpl a b] := by simp [g2]
    have hab : ¬ a = b := fun h => by subst h; exact hne rfl
    have hl : ltB a b = decide (a[cpl a b] < b[cpl a b]) := by rw [hlt, if_neg (by omega), ea, eb]; simp; omega
    have hc : cmpL a b = cmpI a[cpl a b] b[cpl a b] := by
      unfold cmpL cmpI
      rw [hl, if_neg hab]
      by_cases q : a[cpl a b] < b[cpl a b]
      · simp [q]
      · have q2 : b[cpl a b] < a[cpl a b] := by omega
        simp [q, q2]
    have hn0 : (cmpI a[cpl a b] b[cpl a b] != 0) = true := by
      unfold cmpI
      by_cases q : a[cpl a b] < b[cpl a b]
      · simp [q]
      · have q2 : b[cpl a b] < a[cpl a b] := by omega
        simp [q, q2]
    have hdx : (List.drop (cpl a b) a)[0]? = some a[cpl a b] := by rw [List.getElem?_drop, Nat.add_zero]; exact hx
    have hdy : (List.drop (cpl a b) b)[0]? = some b[cpl a b] := by rw [List.getElem?_drop, Nat.add_zero]; exact hy
    rw [w_rounds_u (fun k => [(11, .int .i64 k)]) (cpl a b) .ret [(4, .int .i64 (cmpI a[cpl a b] b[cpl a b])), (5, .int .i64 (cpl a b)), (6, .int .i64 a[cpl a b]), (7, .int .i64 b[cpl a b]), (8, .int .i64 (cmpI a[cpl a b] b[cpl a b])), (11, .int .i64 (cpl a b))] ?_ ?_ ?_ rfl]
    · simp only [go_sem, ↓reduceIte, simprocAttr, hc]
    · simp only [go_sem, ↓reduceIte, simprocAttr]
    · intro k hk
      obtain ⟨x, x1, x2, x3, x4, x5, x6, x7⟩ := round k hk
      simp (disch := omega) only [go_sem, ↓reduceIte, simprocAttr, hp, hq, x1, x2, x3, x4, x5, x6, x7, I_drop, Nat.mul_one, c77, cz, wrap_i64]
    · simp (disch := omega) only [go_sem, ↓reduceIte, simprocAttr, hp, hq, hdx, hdy, g, g2, g5, gi, gi2, I_drop, Nat.mul_one, c77, hn0, wrap_i64]
theorem ltB_pre (p : List Int) (x y : Int) (s s' : List Int) (h : x < y) : ltB (p ++ x :: s) (p ++ y :: s') = true := by
  induction p with
  | nil => show ltB (x :: s) (y :: s') = true; unfold ltB; rw [if_neg (by omega)]; simpa using h
  | cons z p ih => show ltB (z :: (p ++ x :: s)) (z :: (p ++ y :: s')) = true; unfold ltB; rw [if_pos rfl]; exact ih
theorem dfsM_sorted (m : Mo) (came : Nat) : ∀ (n : Nat) (t : List Int), (dfsM m came n t).Pairwise fun u v => ltB u v = true
  | 0, t => by simp [dfsM]
  | n + 1, t => by
    show ((nextM m came t m.who.length).flatMap (dfsM m came n)).Pairwise _
    rw [List.pairwise_flatMap]
    refine ⟨fun v hv => ?_, ?_⟩
    · exact dfsM_sorted m came n v
    · unfold nextM
      rw [List.pairwise_map]
      refine List.Pairwise.imp ?_ (List.Pairwise.filter _ List.pairwise_lt_range)
      intro a b hab u hu v hv
      obtain ⟨s, rfl, _⟩ := dfsM_pre hu
      obtain ⟨s', rfl, _⟩ := dfsM_pre hv
      rw [List.append_assoc, List.append_assoc]
      exact ltB_pre t a b s s' (by omega)
theorem ltB_app : ∀ {u v : List Int} (s : List Int), u.length = v.length → ltB u v = true → ltB (u ++ s) (v ++ s) = true
  | [], [], s, _, h => by simp [ltB] at h
  | x :: u, y :: v, s, hl, h => by
    unfold ltB at h
    show ltB (x :: (u ++ s)) (y :: (v ++ s)) = true
    unfold ltB
    split
    · rename_i e; rw [if_pos e] at h; exact ltB_app s (by simpa using hl) h
    · rename_i e; rw [if_neg e] at h; exact h
theorem ltB_asym : ∀ {u v : List Int}, ltB u v = true → ltB v u = false
  | _, [], h => by simp [ltB] at h
  | [], _ :: _, _ => by simp [ltB]
  | x :: u, y :: v, h => by
    unfold ltB at h ⊢
    by_cases e : x = y
    · rw [if_pos e] at h; rw [if_pos e.symm]; exact ltB_asym h
    · rw [if_neg e] at h; rw [if_neg (fun h => e h.symm)]
      have : x < y := by simpa using h
      simp; omega
theorem rows_cmp {m : Mo} (ho : m.Ok) {more i j : Nat} {u v : List Int} (hu : (truthsM m more)[i]? = some u) (hv : (truthsM m more)[j]? = some v) : decide (cmpL (arr5 u) (arr5 v) < 0) = decide (i < j) := by
  have hs := dfsM_sorted m (cameM m more) m.sums.length []
  have lu := (truthsM_ok (List.mem_of_getElem? hu)).2
  have lv := (truthsM_ok (List.mem_of_getElem? hv)).2
  obtain ⟨hi, ei⟩ := List.getElem?_eq_some_iff.1 hu
  obtain ⟨hj, ej⟩ := List.getElem?_eq_some_iff.1 hv
  have hp := List.pairwise_iff_getElem.1 hs
  have e5 : 5 - u.length = 5 - v.length := by omega
  rw [cmpL_neg]
  by_cases h : i < j
  · have := hp i j hi hj h
    have : ltB u v = true := by rw [← ei, ← ej]; exact this
    rw [decide_eq_true h]
    unfold arr5
    rw [e5]
    exact ltB_app _ (by omega) this
  · rw [decide_eq_false h]
    by_cases e : i = j
    · subst e
      have : u = v := by rw [← ei, ← ej]
      subst this
      exact ltB_irrefl _
    · have := hp j i hj hi (by omega)
      have : ltB v u = true := by rw [← ei, ← ej]; exact this
      apply ltB_asym
      unfold arr5
      rw [e5]
      exact ltB_app _ (by omega) this
def flZ (Z : List Bool) : Nat → List Bool
  | 0 => []
  | k + 1 => flZ Z k ++ Z
def bestA (ts : List (List Int)) (o : Option Nat) : List Int := match o with | none => [0, 0, 0, 0, 0] | some i => arr5 (ts.getD i [])
structure Vis (n : Nat) (left : List Nat) (cnt : Nat) (o : Option Nat) : Prop where
  nd : left.Nodup
  lt : ∀ i ∈ left, i < n
  len : left.length + cnt = n
  no : o = none → cnt = 0 ∧ ∀ k, k < n → k ∈ left
  so : ∀ j, o = some j → 0 < cnt ∧ j < n ∧ j ∉ left ∧ ∀ k, k < n → k ∉ left → j ≤ k
def stepO (o : Option Nat) (i : Nat) : Option Nat := match o with | none => some i | some j => if i < j then some i else some j
theorem Vis.step {n : Nat} {left : List Nat} {cnt : Nat} {o : Option Nat} (h : Vis n left cnt o) {i : Nat} (hi : i ∈ left) : Vis n (left.erase i) (cnt + 1) (stepO o i) := by
  have hm : ∀ k, k ∉ left.erase i ↔ k = i ∨ k ∉ left := fun k => by
    rw [h.nd.mem_erase_iff]
    by_cases e : k = i
    · simp [e]
    · simp [e]
  have hl := h.len
  have hpos := List.length_pos_of_mem hi
  refine ⟨h.nd.erase i, fun k hk => h.lt k (List.mem_of_mem_erase hk), by rw [List.length_erase_of_mem hi]; omega, fun e => ?_, fun j e => ?_⟩
  · unfold stepO at e
    split at e
    · cases e
    · split at e <;> cases e
  · cases o with
    | none =>
      obtain ⟨h0, hall⟩ := h.no rfl
      obtain rfl : i = j := by simpa [stepO] using e
      refine ⟨by omega, h.lt _ hi, (hm _).2 (.inl rfl), fun k hk hn => ?_⟩
      rcases (hm k).1 hn with rfl | hn
      · exact Nat.le_refl _
      · exact absurd (hall k hk) hn
    | some j0 =>
      obtain ⟨h0, h1, h2, h3⟩ := h.so j0 rfl
      unfold stepO at e
      simp only at e
      split at e
      · rename_i hlt
        cases e
        refine ⟨by omega, h.lt _ hi, (hm _).2 (.inl rfl), fun k hk hn => ?_⟩
        rcases (hm k).1 hn with rfl | hn
        · exact Nat.le_refl _
        · have := h3 k hk hn; omega
      · rename_i hlt
        cases e
        refine ⟨by omega, h1, (hm _).2 (.inr h2), fun k hk hn => ?_⟩
        rcases (hm k).1 hn with rfl | hn
        · omega
        · exact h3 k hk hn
theorem Vis.start (n : Nat) : Vis n (List.range n) 0 none := ⟨List.nodup_range, fun i hi => List.mem_range.1 hi, by simp, fun _ => ⟨rfl, fun k hk => List.mem_range.2 hk⟩, fun j e => by cases e⟩
theorem Vis.all {n cnt : Nat} {o : Option Nat} (h : Vis n [] cnt o) (hn : 0 < n) : cnt = n ∧ o = some 0 := by
  have hl := h.len
  simp only [List.length_nil] at hl
  refine ⟨by omega, ?_⟩
  cases o with
  | none => exact absurd ((h.no rfl).2 0 hn) (by simp)
  | some j =>
    have := (h.so j rfl).2.2.2 0 hn (by simp)
    congr 1; omega
end Go.Proofs.YtiighcpimecehaaGreat
end
section
namespace Go.Proofs.YtiighcpimecehaaGreat
open Go.Proofs

def cellA (t : List Int) : ABlk := .cells (I (arrOf t))
theorem arr_get {t : List Int} {k : Nat} (h : k < t.length) : (arrOf t)[k]? = some (t.getD k 0 + 1) := by
  unfold arrOf
  rw [List.getElem?_append_left (by simpa using h), List.getElem?_map, List.getD_eq_getElem?_getD, List.getElem?_eq_getElem h]; rfl
def bestN (d : Dr) (k : Nat) : List Int := bestL (lostT (first d)) (((fairL d).drop 1).take k)
def bestV (d : Dr) : Nat → AV
  | 0 => .lst 1 0 []
  | k + 1 => vI (bestN d k)
theorem bestN_len (d : Dr) (h4 : d.halves.length ≤ 4) (k : Nat) : (bestN d k).length ≤ 4 := by
  refine bestL_len 4 _ _ ?_ ?_
  · have := lostN_le (first d); have := (fairL_mem (first_mem d)).2; unfold lostN at *; unfold lostT; omega
  · intro t ht
    have := (fairL_mem (List.mem_of_mem_drop (List.mem_of_mem_take ht))).2; omega
theorem bestV_zero (d : Dr) : bestV d 0 = .lst 1 0 [] := rfl
theorem lostT_bits {t : List Int} (h : t.length ≤ 4) : bitsL (setN (fun i => decide (t.getD i 0 = -1)) t.length) t.length = lostT t := by
  rw [bitsL_setN _ _ h]; rfl
theorem c24_yes (d : Dr) (hd : d.fits) (he : (checkT d).2.2 = 0) (h : Heap) : callPure (EW tabX) 32 [eD d] h = some (.tup [vI (forged d), .int .i64 0], h) := by
  have hcl := eD_clean d
  obtain ⟨ho, B, t, tag, zz, h60, b0, b4, b3, hown⟩ := enter_yes d hd 0 (by omega) 1 0 [] (fun h => absurd rfl h) (by simp) (by rw [enterE_nil]; exact he)
  obtain ⟨tg, t', h62⟩ := c62 d ho B 4 3 _ b4 b3 t
  have h4 := ho.h4
  have hfl := fairL_len d ho
  simp only [eDc, List.cons_append, List.nil_append] at b0
  have o0 := old b0
  have hpos : 0 < (fairL d).length := List.length_pos_iff.2 (fairL_ne d)
  rw [callPure_eq, w_call _ fn_32 rfl]
  simp only [go_sem, ↓reduceIte, simprocAttr, eD, eDc, eC_under] at hcl h60 ⊢
  simp only [go_sem, ↓reduceIte, simprocAttr, eC_clean, h60, h62, b0]
  rw [w_rounds_h (fun k => [(2, bestV d k), (27, .int .i64 k)]) (fun k => ⟨B ++ ((fairL d).take k).map cellA, t'⟩) (fairL d).length (.exit 0) [(2, vI (forged d)), (27, .int .i64 (fairL d).length)] ⟨B ++ (fairL d).map cellA, t'⟩ ?_ ?_ ?_ ?_ rfl]
  · simp only [go_sem, ↓reduceIte, simprocAttr, vI_clean, vI_under]
  · simp only [go_sem, ↓reduceIte, simprocAttr, bestV_zero]
  · simp only [go_sem, ↓reduceIte, simprocAttr]
  · intro k hk
    have hx := List.getElem?_eq_getElem hk
    have hki : (k : Int) < (fairL d).length := by omega
    have hm := fairL_mem (List.getElem_mem hk)
    have hge := fairL_get d k hx
    rw [map_succ cellA hx, ← List.append_assoc]
    have c0 := old b0 (((fairL d).take k).map cellA)
    generalize hu : (fairL d)[k] = u at hx hm hge ⊢
    generalize B ++ ((fairL d).take k).map cellA = C at c0 ⊢
    have c0' := old c0
    have hul := hm.2
    have hal := arrOf_len (t := u) (by omega)
    have hpos4 : 0 < (arrOf u).length := by omega
    have h44 : 4 ≤ (arrOf u).length := by omega
    have h4' : (arrOf u).take 4 = arrOf u := List.take_of_length_le (by omega)
    have hsp := fun x0 x1 x2 x3 => splice4 x0 x1 x2 x3 (arrOf u) hal
    have hst4 := setN_lt (fun i => decide (u.getD i 0 = -1)) d.halves.length h4
    have h63 := c63 (setN (fun i => decide (u.getD i 0 = -1)) d.halves.length) d.halves.length hst4 h4
    have hbits := lostT_bits (t := u) (by omega)
    rw [hul] at hbits
    rw [hbits] at h63
    simp (disch := omega) only [go_sem, ↓reduceIte, simprocAttr, hki, hge, eA, hal, hpos4, h44, h4', hsp, c0']
    rw [w_rounds_u (fun j => [(9, .int .i64 (setN (fun i => decide (u.getD i 0 = -1)) j)), (35, .int .i64 j)]) d.halves.length (.exit 2) [(9, .int .i64 (setN (fun i => decide (u.getD i 0 = -1)) d.halves.length)), (35, .int .i64 d.halves.length)] ?_ ?_ ?_ rfl]
    · cases k with
      | zero =>
        have hu0 : u = first d := by rw [fairL_zero] at hx; exact (Option.some.inj hx).symm
        have e : bestV d (0 + 1) = vI (lostT u) := by rw [hu0]; rfl
        rw [e]
        simp (disch := omega) only [go_sem, ↓reduceIte, simprocAttr, c0', h63, vI_clean, vI_under, wrap_i64, cellA]
      | succ k =>
        have hk0 : (((k : Int) + 1) == 0) = false := by rw [beq_eq_false_iff_ne]; omega
        have hx1 : ((fairL d).drop 1)[k]? = some u := by rw [List.getElem?_drop, Nat.add_comm]; exact hx
        have hbs : bestN d (k + 1) = if ltB (lostT u) (bestN d k) then lostT u else bestN d k := bestL_succ _ hx1
        have hbl := bestN_len d h4 k
        have h64 := c64 (lostT u) (bestN d k) (zT 1 (lostT u).length) (zT 1 (bestN d k).length) zT_ne zT_ne (by have := lostN_le u; unfold lostN at this; unfold lostT; omega) (by omega)
        have hneg := cmpL_neg (lostT u) (bestN d k)
        have e1 : bestV d (k + 1) = vI (bestN d k) := rfl
        have e2 : bestV d (k + 1 + 1) = vI (bestN d (k + 1)) := rfl
        have h64' : ∀ h, callPure (EW tabX) 47 [vI (lostT u), vI (bestN d k)] h = some (.int .i64 (cmpL (lostT u) (bestN d k)), h) := h64
        rw [e1, e2, hbs]
        cases hlt : ltB (lostT u) (bestN d k) with
        | true =>
          rw [hlt] at hneg
          simp (disch := omega) only [go_sem, ↓reduceIte, simprocAttr, c0', h63, vI_clean, vI_under, wrap_i64, cellA, hk0, h64', hneg]
        | false =>
          rw [hlt] at hneg
          simp (disch := omega) only [go_sem, ↓reduceIte, simprocAttr, c0', h63, vI_clean, vI_under, wrap_i64, cellA, hk0, h64', hneg]
    · simp only [go_sem, ↓reduceIte, simprocAttr, setN]
    · intro j hj
      have hji : (j : Int) < d.halves.length := by omega
      have hj4 : j < 4 := by omega
      have hgj := arr_get (t := u) (k := j) (by omega)
      have hst := setN_lt (fun i => decide (u.getD i 0 = -1)) j (by omega)
      have hor := or_bit' _ j hst hj4
      rw [setN_succ]
      by_cases hb : u.getD j 0 = -1
      · rw [if_pos (by simpa using hb)]
        have hz : (u.getD j 0 + 1 == 0) = true := by rw [hb]; rfl
        simp (disch := omega) only [go_sem, ↓reduceIte, simprocAttr, hji, hj4, hgj, hz, wrap_i64, Nat.mul_one, List.getElem?_drop]
        rw [← hor]
        rfl
      · rw [if_neg (by simpa using hb)]
        have hz : (u.getD j 0 + 1 == 0) = false := by rw [beq_eq_false_iff_ne]; omega
        simp (disch := omega) only [go_sem, ↓reduceIte, simprocAttr, hji, hj4, hgj, hz, wrap_i64, Nat.mul_one, List.getElem?_drop]
    · simp only [go_sem, ↓reduceIte, simprocAttr]
  · have e : bestV d (fairL d).length = vI (forged d) := by
      obtain ⟨m, hm⟩ : ∃ m, (fairL d).length = m + 1 := ⟨(fairL d).length - 1, by omega⟩
      rw [hm]
      show vI (bestL (lostT (first d)) (((fairL d).drop 1).take m)) = vI (forged d)
      rw [List.take_of_length_le (by rw [List.length_drop]; omega)]
      rfl
    simp only [go_sem, ↓reduceIte, simprocAttr, e]
end Go.Proofs.YtiighcpimecehaaGreat
end
section
namespace Go.Proofs.YtiighcpimecehaaGreat
open Go.Proofs

theorem enter_one (d : Dr) (n below : Int) : enterE d below [n] = askedE d n below := by
  unfold askedE enterE
  split
  · simp only [List.any_cons, List.any_nil, Bool.or_false]
    have := out_not 0 (below - 1) n
    cases ho : out 0 (below - 1) n <;> rw [ho] at this <;> rw [← this] <;> rfl
  · rfl
def whoN (e : Nat) : List (List Int) → Nat → Nat
  | _, 0 => 0
  | l, k + 1 => if 0 ≤ (l.getD k []).getD e 0 then whoN e l k ||| 2 ^ ((l.getD k []).getD e 0).toNat else whoN e l k
theorem whoN_succ (e : Nat) (l : List (List Int)) (k : Nat) : whoN e l (k + 1) = if 0 ≤ (l.getD k []).getD e 0 then whoN e l k ||| 2 ^ ((l.getD k []).getD e 0).toNat else whoN e l k := rfl
theorem whoN_zero (e : Nat) (l : List (List Int)) : whoN e l 0 = 0 := rfl
theorem whoN_lt (e : Nat) (l : List (List Int)) (hr : ∀ k, k < l.length → (l.getD k []).getD e 0 < 4) : ∀ k, k ≤ l.length → whoN e l k < 16
  | 0, _ => by simp [whoN]
  | k + 1, h => by
    have a := whoN_lt e l hr k (by omega)
    have b := hr k (by omega)
    rw [whoN_succ]
    split
    · exact or_lt ⟨_, a⟩ ⟨((l.getD k []).getD e 0).toNat, by omega⟩
    · exact a
theorem whoN_test (e : Nat) (l : List (List Int)) (hr : ∀ k, k < l.length → (l.getD k []).getD e 0 < 4) (c : Nat) (hc : c < 4) : ∀ k, k ≤ l.length → (whoN e l k).testBit c = (l.take k).any fun t => t.getD e 0 == (c : Int)
  | 0, _ => by simp [whoN]
  | k + 1, h => by
    have a := whoN_lt e l hr k (by omega)
    have b := hr k (by omega)
    have ih := whoN_test e l hr c hc k (by omega)
    have hx := List.getElem?_eq_getElem (show k < l.length by omega)
    have e1 : l.getD k [] = l[k] := by rw [List.getD_eq_getElem?_getD, hx]; rfl
    rw [List.take_add_one, hx, Option.toList_some, List.any_append, ← ih]
    simp only [List.any_cons, List.any_nil, Bool.or_false]
    rw [whoN_succ]
    rw [e1] at b ⊢
    by_cases h0 : 0 ≤ l[k].getD e 0
    · rw [if_pos h0]
      have := or_test ⟨_, a⟩ ⟨(l[k].getD e 0).toNat, by omega⟩ ⟨c, hc⟩
      simp only [Fin.mk.injEq] at this
      rw [this]
      congr 1
      rw [Bool.eq_iff_iff]
      rw [decide_eq_true_eq, beq_iff_eq]
      omega
    · rw [if_neg h0]
      have : (l[k].getD e 0 == (c : Int)) = false := by rw [beq_eq_false_iff_ne]; omega
      rw [this, Bool.or_false]
theorem whoN_bits (d : Dr) (ho : d.Ok) (e : Nat) (hr : ∀ k, k < (fairL d).length → ((fairL d).getD k []).getD e 0 < 4) : bitsL (whoN e (fairL d) (fairL d).length) d.cards.length = whoseL d e d.cards.length := by
  have hc4 := ho.c4
  unfold bitsL whoseL
  congr 1
  apply List.filter_congr
  intro c hc
  have hc := List.mem_range.1 hc
  rw [whoN_test e (fairL d) hr c (by omega) _ (Nat.le_refl _), List.take_length]
theorem fair_rng (d : Dr) (ho : d.Ok) (e : Nat) (he : e < d.halves.length) (k : Nat) (hk : k < (fairL d).length) : -1 ≤ ((fairL d).getD k []).getD e 0 ∧ ((fairL d).getD k []).getD e 0 < 4 := by
  have hx := List.getElem?_eq_getElem hk
  have e1 : (fairL d).getD k [] = (fairL d)[k] := by rw [List.getD_eq_getElem?_getD, hx]; rfl
  have hm := fairL_mem (List.getElem_mem hk)
  have hl : e < (fairL d)[k].length := by omega
  have := truth_rng d _ _ hm.1 (fairL d)[k][e] (List.getElem_mem hl)
  have e2 : (fairL d)[k].getD e 0 = (fairL d)[k][e] := by rw [List.getD_eq_getElem?_getD, List.getElem?_eq_getElem hl]; rfl
  have := ho.c4
  rw [e1, e2]; omega
theorem c26_yes (d : Dr) (hd : d.fits) (e : Nat) (he : askedE d e d.halves.length = 0) (h : Heap) : callPure (EW tabX) 9 [eD d, .int .i64 e] h = some (.tup [vI (whoseL d e d.cards.length), .int .i64 0], h) := by
  have hcl := eD_clean d
  have lh := hd.lh
  obtain ⟨ho, B, t, tag, zz, h60, b0, b4, b3, hown⟩ := enter_yes d hd d.halves.length (by omega) 1 1 [(e : Int)] (fun _ => rfl) (by simp) (by rw [enter_one]; exact he)
  obtain ⟨_, a0, a1⟩ := asked_yes he
  have heh : e < d.halves.length := by omega
  obtain ⟨tg, t', h62⟩ := c62 d ho B 4 3 _ b4 b3 t
  have h4 := ho.h4
  have hfl := fairL_len d ho
  have hrng := fair_rng d ho e heh
  have hlt := whoN_lt e (fairL d) (fun k hk => (hrng k hk).2)
  simp only [eDc, List.cons_append, List.nil_append] at b0
  have o0 := old b0
  have h63 := c63 (whoN e (fairL d) (fairL d).length) d.cards.length (hlt _ (Nat.le_refl _)) ho.c4
  rw [whoN_bits d ho e fun k hk => (hrng k hk).2] at h63
  rw [callPure_eq, w_call _ fn_9 rfl]
  simp only [go_sem, ↓reduceIte, simprocAttr, eD, eDc, eC_under, I_c, I_nil] at hcl h60 ⊢
  simp only [go_sem, ↓reduceIte, simprocAttr, eC_clean, h60, h62, b0]
  rw [w_rounds_h (fun k => [(8, .int .i64 (whoN e (fairL d) k)), (33, .int .i64 k)]) (fun k => ⟨B ++ ((fairL d).take k).map cellA, t'⟩) (fairL d).length (.exit 0) [(8, .int .i64 (whoN e (fairL d) (fairL d).length)), (33, .int .i64 (fairL d).length)] ⟨B ++ (fairL d).map cellA, t'⟩ ?_ ?_ ?_ ?_ rfl]
  · simp only [go_sem, ↓reduceIte, simprocAttr, o0, h63, vI_clean, vI_under]
  · simp only [go_sem, ↓reduceIte, simprocAttr, whoN_zero]
  · simp only [go_sem, ↓reduceIte, simprocAttr]
  · intro k hk
    have hx := List.getElem?_eq_getElem hk
    have hki : (k : Int) < (fairL d).length := by omega
    have hm := fairL_mem (List.getElem_mem hk)
    have hge := fairL_get d k hx
    have hrk := hrng k hk
    have hltk := hlt k (by omega)
    have e1 : (fairL d).getD k [] = (fairL d)[k] := by rw [List.getD_eq_getElem?_getD, hx]; rfl
    rw [map_succ cellA hx, ← List.append_assoc]
    have c0 := old b0 (((fairL d).take k).map cellA)
    rw [whoN_succ]
    rw [e1] at hrk ⊢
    generalize hu : (fairL d)[k] = u at hx hm hge hrk ⊢
    generalize B ++ ((fairL d).take k).map cellA = C at c0 ⊢
    have c0' := old c0
    have hul := hm.2
    have hal := arrOf_len (t := u) (by omega)
    have hpos4 : 0 < (arrOf u).length := by omega
    have h44 : 4 ≤ (arrOf u).length := by omega
    have h4' : (arrOf u).take 4 = arrOf u := List.take_of_length_le (by omega)
    have hsp := fun x0 x1 x2 x3 => splice4 x0 x1 x2 x3 (arrOf u) hal
    have hgj := arr_get (t := u) (k := e) (by omega)
    have he4 : e < 4 := by omega
    by_cases hp : 0 ≤ u.getD e 0
    · rw [if_pos hp]
      have hz : (0 < u.getD e 0 + 1) = True := by simp only [eq_iff_iff, iff_true]; omega
      have hsub : u.getD e 0 + 1 - 1 = (((u.getD e 0).toNat : Nat) : Int) := by omega
      have hor := or_bit' _ (u.getD e 0).toNat hltk (by omega)
      simp (disch := omega) only [go_sem, ↓reduceIte, simprocAttr, hki, hge, eA, hal, hpos4, h44, h4', hsp, c0', he4, hgj, hz, hsub, wrap_i64, Nat.mul_one, List.getElem?_drop, cellA]
      rw [← hor]
      rfl
    · rw [if_neg hp]
      have hz : (0 < u.getD e 0 + 1) = False := by simp only [eq_iff_iff, iff_false]; omega
      simp (disch := omega) only [go_sem, ↓reduceIte, simprocAttr, hki, hge, eA, hal, hpos4, h44, h4', hsp, c0', he4, hgj, hz, wrap_i64, Nat.mul_one, List.getElem?_drop, cellA]
  · simp only [go_sem, ↓reduceIte, simprocAttr]
end Go.Proofs.YtiighcpimecehaaGreat
end
section
namespace Go.Proofs.YtiighcpimecehaaGreat
open Go.Proofs

def okK (d : Dr) (e k : Nat) : Bool := ((fairL d).getD k []).getD e 0 == (first d).getD e 0 && (first d).getD e 0 != -1
theorem card_yes {d : Dr} {e : Nat} (h : allTo (okK d e) (fairL d).length = true) : cardV d e = (first d).getD e 0 ∧ (first d).getD e 0 ≠ -1 := by
  have hpos : 0 < (fairL d).length := List.length_pos_iff.2 (fairL_ne d)
  have h0 := allTo_at h hpos
  unfold okK at h0
  simp only [Bool.and_eq_true, bne_iff_ne] at h0
  refine ⟨?_, h0.2⟩
  unfold cardV readV
  rw [if_pos]
  rw [List.all_eq_true]
  intro t ht
  obtain ⟨i, hi, e1⟩ := List.mem_iff_getElem.1 ht
  rw [List.length_drop] at hi
  have := allTo_at h (show i + 1 < (fairL d).length by omega)
  unfold okK at this
  simp only [Bool.and_eq_true] at this
  have e2 : (fairL d).getD (i + 1) [] = t := by
    rw [List.getD_eq_getElem?_getD, List.getElem?_eq_getElem (show i + 1 < (fairL d).length by omega), ← e1, List.getElem_drop]
    simp only [Nat.add_comm, Option.getD_some]
  rw [e2] at this
  exact this.1
theorem card_no {d : Dr} {e : Nat} (h : allTo (okK d e) (fairL d).length = false) : cardV d e = -1 := by
  obtain ⟨k, hk, _, h2⟩ := allTo_false h
  unfold okK at h2
  unfold cardV readV
  by_cases hc : (first d).getD e 0 = -1
  · rw [hc]; split <;> rfl
  · have h3 : ((fairL d).getD k []).getD e 0 ≠ (first d).getD e 0 := by
      intro h4
      rw [h4] at h2
      simp at h2
      exact hc h2
    rw [if_neg]
    intro ha
    rw [List.all_eq_true] at ha
    have hx := List.getElem?_eq_getElem hk
    have e1 : (fairL d).getD k [] = (fairL d)[k] := by rw [List.getD_eq_getElem?_getD, hx]; rfl
    cases k with
    | zero =>
      rw [fairL_zero] at hx
      rw [e1, ← Option.some.inj hx] at h3
      exact h3 rfl
    | succ k =>
      have hm : (fairL d)[k + 1] ∈ (fairL d).drop 1 := by
        refine List.mem_of_getElem? (i := k) ?_
        rw [List.getElem?_drop, Nat.add_comm]; exact hx
      have := ha _ hm
      rw [e1] at h3
      exact h3 (by simpa using this)
theorem c28_yes (d : Dr) (hd : d.fits) (e : Nat) (he : askedE d e d.halves.length = 0) (h : Heap) : callPure (EW tabX) 14 [eD d, .int .i64 e] h = some (.tup [.int .i64 (if cardV d e = -1 then 0 else cardV d e), .int .i64 (if cardV d e = -1 then 9 else 0)], h) := by
  have hcl := eD_clean d
  have lh := hd.lh
  obtain ⟨ho, B, t, tag, zz, h60, b0, b4, b3, hown⟩ := enter_yes d hd d.halves.length (by omega) 1 1 [(e : Int)] (fun _ => rfl) (by simp) (by rw [enter_one]; exact he)
  obtain ⟨_, a0, a1⟩ := asked_yes he
  have heh : e < d.halves.length := by omega
  obtain ⟨tg, t', h62⟩ := c62 d ho B 4 3 _ b4 b3 t
  have h4 := ho.h4
  have he4 : e < 4 := by omega
  have hfl := fairL_len d ho
  have hrng := fair_rng d ho e heh
  have hpos : 0 < (fairL d).length := List.length_pos_iff.2 (fairL_ne d)
  simp only [eDc, List.cons_append, List.nil_append] at b0
  have o0 := old b0
  have hf0 := fairL_get d 0 (fairL_zero d)
  have hfl0 := (fairL_mem (first_mem d)).2
  have hal0 := arrOf_len (t := first d) (by omega)
  have hg0 := arr_get (t := first d) (k := e) (by omega)
  have hr0 : -1 ≤ (first d).getD e 0 ∧ (first d).getD e 0 < 4 := by
    have := hrng 0 hpos
    have e1 : (fairL d).getD 0 [] = first d := by rw [List.getD_eq_getElem?_getD, fairL_zero]; rfl
    rwa [e1] at this
  have elt : ∀ k, k < (fairL d).length → ∃ u, (fairL d)[k]? = some u ∧ (fairL d).getD k [] = u ∧ ((fairL d).map eA)[k]? = some (eA u) ∧ (arrOf u).length = 4 ∧ (arrOf u)[e]? = some (u.getD e 0 + 1) ∧ (k : Int) < (fairL d).length := fun k hk => by
    have hx := List.getElem?_eq_getElem hk
    have hm := fairL_mem (List.getElem_mem hk)
    exact ⟨_, hx, by rw [List.getD_eq_getElem?_getD, hx]; rfl, fairL_get d k hx, arrOf_len (by omega), arr_get (by omega), by omega⟩
  rw [callPure_eq, w_call _ fn_14 rfl]
  simp only [go_sem, ↓reduceIte, simprocAttr, eD, eDc, eC_under, I_c, I_nil] at hcl h60 ⊢
  simp only [go_sem, ↓reduceIte, simprocAttr, eC_clean, h60, h62, b0, hf0, eA, hal0, hg0, he4, Nat.mul_one, List.getElem?_drop]
  have p4 : ∀ {u : List Int}, (arrOf u).length = 4 → (arrOf u).take 4 = arrOf u := fun h => List.take_of_length_le (by omega)
  cases ha : allTo (okK d e) (fairL d).length with
  | true =>
    obtain ⟨q1, q2⟩ := card_yes ha
    rw [q1, if_neg q2, if_neg q2]
    rw [w_rounds_h (fun k => [(38, .int .i64 k)]) (fun k => ⟨B ++ ((fairL d).take k).map cellA, t'⟩) (fairL d).length (.exit 0) [(38, .int .i64 (fairL d).length)] ⟨B ++ (fairL d).map cellA, t'⟩ ?_ ?_ ?_ ?_ rfl]
    · have hw : (first d).getD e 0 + 1 - 1 = (first d).getD e 0 := by omega
      simp (disch := omega) only [go_sem, ↓reduceIte, simprocAttr, wrap_i64, hw]
    · simp only [go_sem, ↓reduceIte, simprocAttr]
    · simp only [go_sem, ↓reduceIte, simprocAttr]
    · intro k hk
      obtain ⟨u, hx, e1, hge, hal, hgj, hki⟩ := elt k hk
      have hok := allTo_at ha hk
      unfold okK at hok
      rw [e1] at hok
      simp only [Bool.and_eq_true, beq_iff_eq] at hok
      have hz : (u.getD e 0 + 1 != (first d).getD e 0 + 1) = false := by rw [hok.1]; simp
      have hz2 : ((first d).getD e 0 + 1 == 0) = false := by rw [beq_eq_false_iff_ne]; omega
      rw [map_succ cellA hx, ← List.append_assoc]
      generalize B ++ ((fairL d).take k).map cellA = C
      have hpos4 : 0 < (arrOf u).length := by omega
      have h44 : 4 ≤ (arrOf u).length := by omega
      have h4' := p4 hal
      have hsp := fun x0 x1 x2 x3 => splice4 x0 x1 x2 x3 (arrOf u) hal
      simp (disch := omega) only [go_sem, ↓reduceIte, simprocAttr, hki, hge, eA, hal, hpos4, h44, h4', hsp, he4, hgj, hz, hz2, wrap_i64, Nat.mul_one, List.getElem?_drop, cellA]
    · simp only [go_sem, ↓reduceIte, simprocAttr]
  | false =>
    rw [card_no ha, if_pos rfl, if_pos rfl]
    obtain ⟨n, hn, g1, g2⟩ := allTo_false ha
    obtain ⟨un, hxn, _⟩ := elt n hn
    rw [w_rounds_h (fun k => [(38, .int .i64 k)]) (fun k => ⟨B ++ ((fairL d).take k).map cellA, t'⟩) n .ret [(4, .int .i64 0), (5, .int .i64 9), (12, .ref (B.length + n) 0), (38, .int .i64 n)] ⟨B ++ ((fairL d).take (n + 1)).map cellA, t'⟩ ?_ ?_ ?_ ?_ rfl]
    · simp only [go_sem, ↓reduceIte, simprocAttr]
    · simp only [go_sem, ↓reduceIte, simprocAttr]
    · simp only [go_sem, ↓reduceIte, simprocAttr]
    · intro k hk
      obtain ⟨u, hx, e1, hge, hal, hgj, hki⟩ := elt k (by omega)
      have hok := allTo_at g1 hk
      unfold okK at hok
      rw [e1] at hok
      simp only [Bool.and_eq_true, beq_iff_eq, bne_iff_ne] at hok
      have hz : (u.getD e 0 + 1 != (first d).getD e 0 + 1) = false := by rw [hok.1]; simp
      have hz2 : ((first d).getD e 0 + 1 == 0) = false := by rw [beq_eq_false_iff_ne]; omega
      rw [map_succ cellA hx, ← List.append_assoc]
      generalize B ++ ((fairL d).take k).map cellA = C
      have hpos4 : 0 < (arrOf u).length := by omega
      have h44 : 4 ≤ (arrOf u).length := by omega
      have h4' := p4 hal
      have hsp := fun x0 x1 x2 x3 => splice4 x0 x1 x2 x3 (arrOf u) hal
      simp (disch := omega) only [go_sem, ↓reduceIte, simprocAttr, hki, hge, eA, hal, hpos4, h44, h4', hsp, he4, hgj, hz, hz2, wrap_i64, Nat.mul_one, List.getElem?_drop, cellA]
    · obtain ⟨u, hx, e1, hge, hal, hgj, hki⟩ := elt n hn
      unfold okK at g2
      rw [e1] at g2
      have hlen : (B ++ ((fairL d).take n).map cellA).length = B.length + n := by
        rw [List.length_append, List.length_map, List.length_take]; omega
      rw [map_succ cellA hx, ← List.append_assoc]
      generalize B ++ ((fairL d).take n).map cellA = C at hlen ⊢
      rw [← hlen]
      have hpos4 : 0 < (arrOf u).length := by omega
      have h44 : 4 ≤ (arrOf u).length := by omega
      have h4' := p4 hal
      have hsp := fun x0 x1 x2 x3 => splice4 x0 x1 x2 x3 (arrOf u) hal
      by_cases hne : u.getD e 0 = (first d).getD e 0
      · have hm1 : (first d).getD e 0 = -1 := by
          rw [hne] at g2; simpa using g2
        have hz : (u.getD e 0 + 1 != (first d).getD e 0 + 1) = false := by rw [hne]; simp
        have hz2 : ((first d).getD e 0 + 1 == 0) = true := by rw [hm1]; rfl
        simp (disch := omega) only [go_sem, ↓reduceIte, simprocAttr, hki, hge, eA, hal, hpos4, h44, h4', hsp, he4, hgj, hz, hz2, wrap_i64, Nat.mul_one, List.getElem?_drop, cellA]
      · have hz : (u.getD e 0 + 1 != (first d).getD e 0 + 1) = true := by rw [bne_iff_ne]; omega
        simp (disch := omega) only [go_sem, ↓reduceIte, simprocAttr, hki, hge, eA, hal, hpos4, h44, h4', hsp, he4, hgj, hz, wrap_i64, Nat.mul_one, List.getElem?_drop, cellA]
end Go.Proofs.YtiighcpimecehaaGreat
end
section
namespace Go.Proofs.YtiighcpimecehaaGreat
open Go.Proofs

end Go.Proofs.YtiighcpimecehaaGreat
end
section
namespace Go.Proofs.YtiighcpimecehaaGreat
open Go.Proofs

def IsTruth (d : Dr) (e : Nat) (t : List Int) : Prop := t.length = e ∧ ∀ i, i < e → t.getD i 0 = -1 ∨ ∃ c : Nat, c < d.cards.length ∧ t.getD i 0 = (c : Int) ∧ okHC d i c = true ∧ ∀ j, j < i → t.getD j 0 ≠ (c : Int)
theorem getD_app_lt {t : List Int} {x : Int} {i : Nat} (h : i < t.length) : (t ++ [x]).getD i 0 = t.getD i 0 := by
  rw [List.getD_eq_getElem?_getD, List.getElem?_append_left h, ← List.getD_eq_getElem?_getD]
theorem getD_app_eq (t : List Int) (x : Int) : (t ++ [x]).getD t.length 0 = x := by simp
theorem any_getD (t : List Int) (c : Int) : (t.any fun x => x == c) = true ↔ ∃ j, j < t.length ∧ t.getD j 0 = c := by
  rw [List.any_eq_true]
  constructor
  · rintro ⟨x, hx, h⟩
    obtain ⟨i, hi, e⟩ := List.mem_iff_getElem.1 hx
    refine ⟨i, hi, ?_⟩
    rw [List.getD_eq_getElem?_getD, List.getElem?_eq_getElem hi, e]
    simpa using h
  · rintro ⟨j, hj, h⟩
    rw [List.getD_eq_getElem?_getD, List.getElem?_eq_getElem hj] at h
    exact ⟨_, List.getElem_mem hj, by simpa using h⟩
theorem mem_extK {d : Dr} {e : Nat} {u t : List Int} {n : Nat} : t ∈ extK d e u n ↔ ∃ k, k < n ∧ may d e u k = true ∧ t = u ++ [(k : Int) - 1] := by
  unfold extK
  rw [List.mem_map]
  constructor
  · rintro ⟨k, hk, rfl⟩
    obtain ⟨h1, h2⟩ := List.mem_filter.1 hk
    exact ⟨k, by simpa using h1, h2, rfl⟩
  · rintro ⟨k, h1, h2, rfl⟩
    exact ⟨k, List.mem_filter.2 ⟨by simpa using h1, h2⟩, rfl⟩
theorem mem_truths (d : Dr) : ∀ (e : Nat) (t : List Int), t ∈ truthsL d e ↔ IsTruth d e t
  | 0, t => by
    simp only [truthsL, List.mem_singleton, IsTruth]
    constructor
    · rintro rfl; exact ⟨rfl, fun i hi => absurd hi (Nat.not_lt_zero _)⟩
    · rintro ⟨h, _⟩; exact List.eq_nil_of_length_eq_zero h
  | e + 1, t => by
    unfold truthsL
    rw [List.mem_flatMap]
    constructor
    · rintro ⟨u, hu, ht⟩
      obtain ⟨k, hk, hm, rfl⟩ := mem_extK.1 ht
      obtain ⟨hl, hi⟩ := (mem_truths d e u).1 hu
      subst hl
      refine ⟨by simp, fun i hi' => ?_⟩
      by_cases h : i < u.length
      · rw [getD_app_lt h]
        rcases hi i h with h1 | ⟨c, h1, h2, h3, h4⟩
        · exact .inl h1
        · exact .inr ⟨c, h1, h2, h3, fun j hj => by rw [getD_app_lt (by omega)]; exact h4 j hj⟩
      · obtain rfl : i = u.length := by omega
        rw [getD_app_eq]
        cases k with
        | zero => exact .inl (by simp)
        | succ c =>
          unfold may at hm
          simp only [Bool.and_eq_true, Bool.not_eq_true'] at hm
          refine .inr ⟨c, by omega, by omega, hm.2, fun j hj => ?_⟩
          rw [getD_app_lt hj]
          intro h
          have := (any_getD u c).2 ⟨j, hj, h⟩
          rw [hm.1] at this; cases this
    · rintro ⟨hl, hi⟩
      have hne : t ≠ [] := by intro h; rw [h] at hl; simp at hl
      obtain ⟨u, x, rfl⟩ : ∃ u x, t = u ++ [x] := ⟨t.dropLast, t.getLast hne, (List.dropLast_concat_getLast hne).symm⟩
      have hul : u.length = e := by simpa using hl
      subst hul
      have hx := hi u.length (by omega)
      rw [getD_app_eq] at hx
      refine ⟨u, (mem_truths d u.length u).2 ⟨rfl, fun i h => ?_⟩, mem_extK.2 ?_⟩
      · have := hi i (by omega)
        rw [getD_app_lt h] at this
        rcases this with h1 | ⟨c, h1, h2, h3, h4⟩
        · exact .inl h1
        · refine .inr ⟨c, h1, h2, h3, fun j hj => ?_⟩
          have := h4 j hj
          rwa [getD_app_lt (by omega)] at this
      · rcases hx with h1 | ⟨c, h1, h2, h3, h4⟩
        · exact ⟨0, by omega, rfl, by rw [h1]; simp⟩
        · refine ⟨c + 1, by omega, ?_, by rw [h2]; simp⟩
          unfold may
          simp only [Bool.and_eq_true, Bool.not_eq_true']
          refine ⟨?_, h3⟩
          cases ha : u.any fun x => x == (c : Int) with
          | false => rfl
          | true =>
            obtain ⟨j, hj, he⟩ := (any_getD u c).1 ha
            have := h4 j hj
            rw [getD_app_lt hj] at this
            exact absurd he this
theorem fair_truth {d : Dr} {t : List Int} (h : t ∈ fairL d) : IsTruth d d.halves.length t := (mem_truths d _ t).1 (fairL_mem h).1
theorem IsTruth.apart {d : Dr} {e : Nat} {t : List Int} (h : IsTruth d e t) {i j : Nat} (hi : i < e) (hj : j < i) (he : t.getD i 0 = t.getD j 0) : t.getD i 0 = -1 := by
  rcases h.2 i hi with h1 | ⟨c, h1, h2, h3, h4⟩
  · exact h1
  · exact absurd (he.symm.trans h2) (h4 j hj)
theorem IsTruth.rng {d : Dr} {e : Nat} {t : List Int} (h : IsTruth d e t) {i : Nat} (hi : i < e) : -1 ≤ t.getD i 0 ∧ t.getD i 0 < d.cards.length := by
  rcases h.2 i hi with h1 | ⟨c, h1, h2, h3, h4⟩ <;> omega
theorem mem_fair {d : Dr} {t : List Int} : t ∈ fairL d ↔ IsTruth d d.halves.length t ∧ lostN t = leastN (truthsL d d.halves.length) d.halves.length := by
  unfold fairL
  rw [List.mem_filter, mem_truths, decide_eq_true_eq]
theorem mem_whose {d : Dr} {e n : Nat} {x : Int} : x ∈ whoseL d e n ↔ ∃ c : Nat, c < n ∧ x = c ∧ ∃ t ∈ fairL d, t.getD e 0 = (c : Int) := by
  unfold whoseL
  rw [List.mem_map]
  constructor
  · rintro ⟨c, hc, rfl⟩
    obtain ⟨h1, h2⟩ := List.mem_filter.1 hc
    rw [List.any_eq_true] at h2
    obtain ⟨t, ht, h⟩ := h2
    exact ⟨c, by simpa using h1, rfl, t, ht, by simpa using h⟩
  · rintro ⟨c, h1, rfl, t, ht, h⟩
    exact ⟨c, List.mem_filter.2 ⟨by simpa using h1, List.any_eq_true.2 ⟨t, ht, by simpa using h⟩⟩, rfl⟩
theorem card_all {d : Dr} {e : Nat} (h : cardV d e ≠ -1) : ∀ t ∈ fairL d, t.getD e 0 = cardV d e := by
  have hk : allTo (okK d e) (fairL d).length = true := by
    cases ha : allTo (okK d e) (fairL d).length with
    | true => rfl
    | false => exact absurd (card_no ha) h
  obtain ⟨q1, q2⟩ := card_yes hk
  intro t ht
  obtain ⟨i, hi, e1⟩ := List.mem_iff_getElem.1 ht
  have := allTo_at hk hi
  unfold okK at this
  simp only [Bool.and_eq_true, beq_iff_eq] at this
  rw [q1, ← this.1, List.getD_eq_getElem?_getD (l := fairL d), List.getElem?_eq_getElem hi, e1]; rfl
theorem whose_one {d : Dr} {e : Nat} (he : e < d.halves.length) (h : cardV d e ≠ -1) : whoseL d e d.cards.length = [cardV d e] := by
  have hall := card_all h
  have hf := first_mem d
  have hr := (fair_truth hf).rng he
  rw [hall _ hf] at hr
  obtain ⟨c, hc⟩ : ∃ c : Nat, cardV d e = c := ⟨(cardV d e).toNat, by omega⟩
  have e1 : whoseL d e d.cards.length = ((List.range d.cards.length).filter fun x => decide (x = c)).map fun (c : Nat) => (c : Int) := by
    unfold whoseL
    congr 1
    apply List.filter_congr
    intro x hx
    rw [Bool.eq_iff_iff, List.any_eq_true, decide_eq_true_eq]
    constructor
    · rintro ⟨t, ht, h⟩
      have := hall t ht
      have h : t.getD e 0 = (x : Int) := by simpa using h
      omega
    · rintro rfl
      exact ⟨first d, hf, by rw [hall _ hf, hc]; simp⟩
  rw [e1, hc]
  have : ∀ n, c < n → (List.range n).filter (fun x => decide (x = c)) = [c] := by
    intro n
    induction n with
    | zero => intro h; omega
    | succ n ih =>
      intro h
      rw [List.range_succ, List.filter_append]
      by_cases hn : c = n
      · subst hn
        have : (List.range c).filter (fun x => decide (x = c)) = [] := by
          rw [List.filter_eq_nil_iff]; intro x hx; have := List.mem_range.1 hx; simp; omega
        rw [this]; simp
      · rw [ih (by omega)]
        have : ¬ n = c := fun h => hn h.symm
        simp [this]
  rw [this _ (by omega)]
  rfl
end Go.Proofs.YtiighcpimecehaaGreat
end
section
namespace Go.Proofs.YtiighcpimecehaaGreat
open Go.Proofs

def whB (d : Dr) (i c : Nat) : Bool := (fairL d).any fun t => t.getD i 0 == (c : Int)
def bitsD (d : Dr) (i : Nat) : Nat := setN (whB d i) d.cards.length
def halfD (d : Dr) (i : Nat) : Su := ⟨(d.halves.getD i ⟨default, []⟩).name, 1 + (i : Int), (bitsD d i : Nat)⟩
def wordD (i k : Nat) : Wo := ⟨3, (i : Nat), (k : Nat), -1, true⟩
def wordsD : Nat → List Wo
  | 0 => []
  | i + 1 => wordsD i ++ (List.range i).map (wordD i)
def mD (d : Dr) : Mo := { who := d.cards.map Card.name, sums := (List.range d.halves.length).map (halfD d), words := wordsD d.halves.length, paid := [], zw := zT 1 d.cards.length, zs := zT 3 d.halves.length, zo := zT 5 (wordsD d.halves.length).length, zp := 0 }
theorem mem_wordsD {w : Wo} : ∀ {n : Nat}, w ∈ wordsD n ↔ ∃ i k : Nat, k < i ∧ i < n ∧ w = wordD i k
  | 0 => by simp [wordsD]
  | n + 1 => by
    unfold wordsD
    rw [List.mem_append, mem_wordsD, List.mem_map]
    constructor
    · rintro (⟨i, k, h1, h2, h3⟩ | ⟨k, h1, h2⟩)
      · exact ⟨i, k, h1, by omega, h3⟩
      · exact ⟨n, k, List.mem_range.1 h1, by omega, h2.symm⟩
    · rintro ⟨i, k, h1, h2, h3⟩
      by_cases e : i = n
      · subst e; exact .inr ⟨k, List.mem_range.2 h1, h3.symm⟩
      · exact .inl ⟨i, k, h1, by omega, h3⟩
theorem wordsD_len {n : Nat} (h : n ≤ 4) : (wordsD n).length ≤ 6 := by
  have : n = 0 ∨ n = 1 ∨ n = 2 ∨ n = 3 ∨ n = 4 := by omega
  rcases this with rfl | rfl | rfl | rfl | rfl <;> simp [wordsD]
theorem cameK_test (m : Mo) (more j : Nat) : ∀ k : Nat, (cameK m more k).testBit j = (more.testBit j || (decide (j < k) && cameAt m j))
  | 0 => by simp [cameK]
  | k + 1 => by
    unfold cameK
    have ih := cameK_test m more j k
    by_cases e : j = k
    · subst e
      cases hc : cameAt m j with
      | true => simp [Nat.testBit_or, Nat.testBit_two_pow]
      | false => simp [ih, hc]
    · have : decide (j < k + 1) = decide (j < k) := by
        rw [Bool.eq_iff_iff, decide_eq_true_eq, decide_eq_true_eq]; omega
      rw [this, ← ih]
      split
      · rw [Nat.testBit_or, Nat.testBit_two_pow, decide_eq_false (by omega), Bool.or_false]
      · rfl
theorem word_at {d : Dr} {j : Nat} (hj : j < (mD d).words.length) : ∃ i k : Nat, k < i ∧ i < d.halves.length ∧ (mD d).words[j]? = some (wordD i k) := by
  obtain ⟨i, k, h1, h2, h3⟩ := mem_wordsD.1 (List.getElem_mem (l := wordsD d.halves.length) hj)
  exact ⟨i, k, h1, h2, by rw [List.getElem?_eq_getElem hj, ← h3]; rfl⟩
theorem count_D (d : Dr) {j : Nat} (hj : j < (mD d).words.length) : countB (mD d) (cameM (mD d) 0) j = true := by
  unfold countB
  rw [Bool.and_eq_true]
  constructor
  · rw [allTo_iff]
    intro i hi
    obtain ⟨a, b, _, _, e⟩ := word_at hi
    have : backAt (mD d) i j = false := by
      unfold backAt
      rw [e]
      simp [wordD]
    rw [this]; rfl
  · unfold cameM
    rw [cameK_test]
    obtain ⟨a, b, _, _, e⟩ := word_at hj
    have : cameAt (mD d) j = true := by unfold cameAt; rw [e]; rfl
    rw [this, decide_eq_true hj]; simp
theorem arr5_at {u : List Int} {i : Nat} (h : i < u.length) : (arr5 u).getD i 0 = u.getD i 0 := by
  rw [List.getD_eq_getElem?_getD, arr5_get h, ← List.getD_eq_getElem?_getD]
theorem kept_D {d : Dr} {t : List Int} {c : Nat} (ht : t.length < d.halves.length) :
    keptB (mD d) (cameM (mD d) 0) (arr5 (t ++ [(c : Int)])) t.length = true ↔ ∀ k, k < t.length → t.getD k 0 ≠ (c : Int) := by
  have hget : ∀ k, k < t.length → (arr5 (t ++ [(c : Int)])).getD k 0 = t.getD k 0 := fun k hk => by rw [arr5_at (by simp; omega), getD_app_lt hk]
  have hlast : (arr5 (t ++ [(c : Int)])).getD t.length 0 = (c : Int) := by rw [arr5_at (by simp), getD_app_eq]
  unfold keptB
  rw [allTo_iff]
  constructor
  · intro h k hk
    have hm : wordD t.length k ∈ (mD d).words := mem_wordsD.2 ⟨_, _, hk, ht, rfl⟩
    obtain ⟨j, hj, e⟩ := List.mem_iff_getElem.1 hm
    have hw := h j hj
    unfold okW at hw
    rw [List.getElem?_eq_getElem hj, e, count_D d hj] at hw
    have hl : lastW (wordD t.length k) = (t.length : Int) := by simp [lastW, wordD]; omega
    have hs : soB (wordD t.length k) (arr5 (t ++ [(c : Int)])) = ((c : Int) != t.getD k 0) := by
      simp [soB, wordD, -List.getD_eq_getElem?_getD, hlast, hget k hk]
    have hw : (!(lastW (wordD t.length k) == (t.length : Int) && (true && !soB (wordD t.length k) (arr5 (t ++ [(c : Int)]))))) = true := hw
    rw [hl, hs] at hw
    intro e2
    rw [e2] at hw
    simp at hw
  · intro h j hj
    obtain ⟨i, k, h1, h2, e⟩ := word_at hj
    unfold okW
    rw [e, count_D d hj]
    have hl : lastW (wordD i k) = (i : Int) := by simp [lastW, wordD]; omega
    show (!(lastW (wordD i k) == (t.length : Int) && (true && !soB (wordD i k) (arr5 (t ++ [(c : Int)]))))) = true
    rw [hl]
    by_cases hi : i = t.length
    · subst hi
      have hs : soB (wordD t.length k) (arr5 (t ++ [(c : Int)])) = ((c : Int) != t.getD k 0) := by
        simp [soB, wordD, -List.getD_eq_getElem?_getD, hlast, hget k h1]
      have := h k h1
      have hne : ((c : Int) != t.getD k 0) = true := by rw [bne_iff_ne]; exact fun e => this e.symm
      rw [hs, hne]; simp
    · have : ((i : Int) == (t.length : Int)) = false := by simp; omega
      simp only [this]; simp
theorem for_D {d : Dr} (ho : d.Ok) {s c : Nat} (hs : s < d.halves.length) (hc : c < d.cards.length) : forB (mD d) s c = whB d s c := by
  have c4 := ho.c4
  have e : (mD d).sums[s]? = some (halfD d s) := by
    show ((List.range d.halves.length).map (halfD d))[s]? = _
    rw [List.getElem?_map, List.getElem?_range hs]; rfl
  unfold forB
  rw [e]
  show (((bitsD d s : Nat) : Int).toNat).testBit c = _
  rw [Int.toNat_natCast]
  unfold bitsD
  rw [setN_test _ _ c4 _ (by omega), decide_eq_true hc]; rfl
theorem may_D {d : Dr} (ho : d.Ok) {t : List Int} {c : Nat} (ht : t.length < d.halves.length) (hc : c < d.cards.length) :
    mayM (mD d) (cameM (mD d) 0) t c = true ↔ whB d t.length c = true ∧ ∀ k, k < t.length → t.getD k 0 ≠ (c : Int) := by
  unfold mayM
  rw [Bool.and_eq_true, for_D ho ht hc, kept_D ht]
theorem getD_take {u : List Int} {i k : Nat} (h : k < i) : (u.take i).getD k 0 = u.getD k 0 := by
  rw [List.getD_eq_getElem?_getD, List.getElem?_take_of_lt h, ← List.getD_eq_getElem?_getD]
theorem mem_dfsM {m : Mo} {came : Nat} : ∀ {n : Nat} {t u : List Int}, u ∈ dfsM m came n t ↔ u.length = t.length + n ∧ u.take t.length = t ∧ ∀ i, t.length ≤ i → i < u.length → ∃ c : Nat, c < m.who.length ∧ u[i]? = some (c : Int) ∧ mayM m came (u.take i) c = true
  | 0, t, u => by
    show u ∈ [t] ↔ _
    rw [List.mem_singleton]
    constructor
    · rintro rfl
      exact ⟨by omega, List.take_length, fun i h1 h2 => by omega⟩
    · rintro ⟨h1, h2, _⟩
      rw [List.take_of_length_le (by omega)] at h2; exact h2
  | n + 1, t, u => by
    show u ∈ (nextM m came t m.who.length).flatMap (dfsM m came n) ↔ _
    rw [List.mem_flatMap]
    constructor
    · rintro ⟨v, hv, hu⟩
      obtain ⟨c, hc, hm, rfl⟩ := mem_nextM.1 hv
      obtain ⟨h1, h2, h3⟩ := mem_dfsM.1 hu
      simp only [List.length_append, List.length_cons, List.length_nil, Nat.zero_add] at h1 h2 h3
      have htk : u.take t.length = t := by
        have := congrArg (List.take t.length) h2
        rw [List.take_take, Nat.min_eq_left (by omega), List.take_left] at this; exact this
      refine ⟨by omega, htk, fun i hi hl => ?_⟩
      by_cases e : i = t.length
      · subst e
        refine ⟨c, hc, ?_, by rw [htk]; exact hm⟩
        have := congrArg (fun l => l[t.length]?) h2
        simp only [List.getElem?_take_of_lt (Nat.lt_succ_self _)] at this
        rw [this, List.getElem?_append_right (Nat.le_refl _), Nat.sub_self]; rfl
      · exact h3 i (by omega) hl
    · rintro ⟨h1, h2, h3⟩
      obtain ⟨c, hc, hg, hm⟩ := h3 t.length (Nat.le_refl _) (by omega)
      rw [h2] at hm
      refine ⟨_, mem_nextM.2 ⟨c, hc, hm, rfl⟩, mem_dfsM.2 ⟨by simp; omega, ?_, fun i hi hl => h3 i (by simp at hi; omega) hl⟩⟩
      have hlen : t.length < u.length := by omega
      rw [List.getElem?_eq_getElem hlen] at hg
      simp only [List.length_append, List.length_cons, List.length_nil, Nat.zero_add]
      rw [← List.take_append_getElem hlen, h2, Option.some.inj hg]
theorem mem_truthsM {m : Mo} {more : Nat} {u : List Int} : u ∈ truthsM m more ↔ u.length = m.sums.length ∧ ∀ i, i < u.length → ∃ c : Nat, c < m.who.length ∧ u[i]? = some (c : Int) ∧ mayM m (cameM m more) (u.take i) c = true := by
  unfold truthsM
  rw [mem_dfsM]
  simp
theorem sorted_eq {α : Type} {r : α → α → Prop} (ha : ∀ a b, r a b → ¬ r b a) : ∀ {l l' : List α}, l.Pairwise r → l'.Pairwise r → (∀ x, x ∈ l ↔ x ∈ l') → l = l'
  | [], [], _, _, _ => rfl
  | [], b :: l', _, _, h => by have := (h b).2 (by simp); cases this
  | a :: l, [], _, _, h => by have := (h a).1 (by simp); cases this
  | a :: l, b :: l', h1, h2, h => by
    obtain ⟨p1, p2⟩ := List.pairwise_cons.1 h1
    obtain ⟨q1, q2⟩ := List.pairwise_cons.1 h2
    have e : a = b := by
      rcases List.mem_cons.1 ((h a).1 (by simp)) with e | e
      · exact e
      · rcases List.mem_cons.1 ((h b).2 (by simp)) with e2 | e2
        · exact e2.symm
        · exact absurd (p1 b e2) (ha _ _ (q1 a e))
    subst e
    have : l = l' := sorted_eq ha p2 q2 fun x => by
      constructor
      · intro hx
        rcases List.mem_cons.1 ((h x).1 (List.mem_cons_of_mem _ hx)) with e | e
        · subst e; exact absurd (p1 x hx) (ha _ _ (p1 x hx))
        · exact e
      · intro hx
        rcases List.mem_cons.1 ((h x).2 (List.mem_cons_of_mem _ hx)) with e | e
        · subst e; exact absurd (q1 x hx) (ha _ _ (q1 x hx))
        · exact e
    rw [this]
theorem ltB_app2 : ∀ {u v : List Int} (s s' : List Int), u.length = v.length → ltB u v = true → ltB (u ++ s) (v ++ s') = true
  | [], [], _, _, _, h => by simp [ltB] at h
  | x :: u, y :: v, s, s', hl, h => by
    unfold ltB at h
    show ltB (x :: (u ++ s)) (y :: (v ++ s')) = true
    unfold ltB
    split
    · rename_i e; rw [if_pos e] at h; exact ltB_app2 s s' (by simpa using hl) h
    · rename_i e; rw [if_neg e] at h; exact h
theorem truthsL_sorted (d : Dr) : ∀ e : Nat, (truthsL d e).Pairwise fun u v => ltB u v = true
  | 0 => by simp [truthsL]
  | e + 1 => by
    unfold truthsL
    rw [List.pairwise_flatMap]
    refine ⟨fun v hv => ?_, ?_⟩
    · unfold extK
      rw [List.pairwise_map]
      refine List.Pairwise.imp ?_ (List.Pairwise.filter _ List.pairwise_lt_range)
      intro a b hab
      exact ltB_pre v ((a : Int) - 1) ((b : Int) - 1) [] [] (by omega)
    · refine List.Pairwise.imp_of_mem ?_ (truthsL_sorted d e)
      intro a b ha hb hab x hx y hy
      obtain ⟨_, _, _, rfl⟩ := mem_extK.1 hx
      obtain ⟨_, _, _, rfl⟩ := mem_extK.1 hy
      exact ltB_app2 _ _ (by rw [truthsL_mem d e a ha, truthsL_mem d e b hb]) hab
theorem fairL_sorted (d : Dr) : (fairL d).Pairwise fun u v => ltB u v = true := List.Pairwise.filter _ (truthsL_sorted d _)
theorem lost_none {t : List Int} : lostN t = 0 ↔ ∀ i, i < t.length → t.getD i 0 ≠ -1 := by
  unfold lostN lostL
  rw [List.length_map, List.length_eq_zero_iff, List.filter_eq_nil_iff]
  constructor
  · intro h i hi e
    exact h i (List.mem_range.2 hi) (by simpa using e)
  · intro h i hi
    have := h i (List.mem_range.1 hi)
    simpa using this
theorem getD_get {t : List Int} {i : Nat} (h : i < t.length) : t[i]? = some (t.getD i 0) := by
  rw [List.getD_eq_getElem?_getD, List.getElem?_eq_getElem h]; rfl
theorem truths_D {d : Dr} (ho : d.Ok) (hf : lostN (first d) = 0) : truthsM (mD d) 0 = fairL d := by
  have hl0 : leastN (truthsL d d.halves.length) d.halves.length = 0 := by rw [← first_lost]; exact hf
  have hS : (mD d).sums.length = d.halves.length := by show ((List.range d.halves.length).map (halfD d)).length = _; simp
  have hW : (mD d).who.length = d.cards.length := by show (d.cards.map Card.name).length = _; simp
  refine sorted_eq (r := fun u v => ltB u v = true) (fun a b h1 h2 => by rw [ltB_asym h1] at h2; cases h2) (dfsM_sorted _ _ _ _) (fairL_sorted d) fun u => ?_
  rw [mem_truthsM, mem_fair, hl0, lost_none, hS, hW]
  constructor
  · rintro ⟨h1, h2⟩
    have key : ∀ i, i < u.length → ∃ c : Nat, c < d.cards.length ∧ u.getD i 0 = (c : Int) ∧ whB d i c = true ∧ ∀ k, k < i → u.getD k 0 ≠ (c : Int) := by
      intro i hi
      obtain ⟨c, hc, hg, hm⟩ := h2 i hi
      have hli : (u.take i).length = i := by rw [List.length_take]; omega
      rw [may_D ho (by omega) hc, hli] at hm
      refine ⟨c, hc, ?_, hm.1, fun k hk => ?_⟩
      · rw [getD_get hi] at hg; exact Option.some.inj hg
      · have := hm.2 k hk
        rw [getD_take hk] at this; exact this
    refine ⟨⟨h1, fun i hi => .inr ?_⟩, fun i hi => ?_⟩
    · obtain ⟨c, hc, hg, hm, hd⟩ := key i (by omega)
      refine ⟨c, hc, hg, ?_, hd⟩
      unfold whB at hm
      obtain ⟨t, ht, e⟩ := List.any_eq_true.1 hm
      have e : t.getD i 0 = (c : Int) := by simpa using e
      rcases (fair_truth ht).2 i hi with h3 | ⟨c', _, h4, h5, _⟩
      · omega
      · have : c' = c := by omega
        subst this; exact h5
    · obtain ⟨c, hc, hg, _, _⟩ := key i hi
      omega
  · rintro ⟨ht, hn⟩
    have hlen := ht.1
    refine ⟨hlen, fun i hi => ?_⟩
    rcases ht.2 i (by omega) with h1 | ⟨c, hc, hg, hok, hd⟩
    · exact absurd h1 (hn i hi)
    · refine ⟨c, hc, by rw [getD_get hi, hg], ?_⟩
      have hli : (u.take i).length = i := by rw [List.length_take]; omega
      rw [may_D ho (by omega) hc, hli]
      refine ⟨?_, fun k hk => by rw [getD_take hk]; exact hd k hk⟩
      unfold whB
      rw [List.any_eq_true]
      exact ⟨u, mem_fair.2 ⟨ht, by rw [hl0]; exact lost_none.2 hn⟩, by rw [hg]; simp⟩
end Go.Proofs.YtiighcpimecehaaGreat
end
section
namespace Go.Proofs.YtiighcpimecehaaGreat
open Go.Proofs

theorem setN_bit (p : Nat → Bool) (j : Nat) : ∀ k : Nat, (setN p k).testBit j = (decide (j < k) && p j)
  | 0 => by simp [setN]
  | k + 1 => by
    rw [setN_succ]
    have ih := setN_bit p j k
    by_cases e : j = k
    · subst e
      cases hc : p j with
      | true => simp [Nat.testBit_or, Nat.testBit_two_pow]
      | false => simp [ih, hc]
    · have : decide (j < k + 1) = decide (j < k) := by
        rw [Bool.eq_iff_iff, decide_eq_true_eq, decide_eq_true_eq]; omega
      rw [this, ← ih]
      split
      · rw [Nat.testBit_or, Nat.testBit_two_pow, decide_eq_false (by omega), Bool.or_false]
      · rfl
theorem setN_pow (p : Nat → Bool) (k : Nat) : setN p k < 2 ^ k := by
  refine Nat.lt_pow_two_of_testBit _ fun i hi => ?_
  rw [setN_bit, decide_eq_false (by omega)]; rfl
theorem bits_pos {s i : Nat} (h : s.testBit i = true) : 1 ≤ s := by
  cases s with
  | zero => simp at h
  | succ n => omega
section
variable {d : Dr} (ho : d.Ok) (hf : lostN (first d) = 0)
include hf in
theorem fair_all {t : List Int} (ht : t ∈ fairL d) : t.length = d.halves.length ∧ ∀ i, i < d.halves.length → ∃ c : Nat, c < d.cards.length ∧ t.getD i 0 = (c : Int) := by
  obtain ⟨h1, h2⟩ := mem_fair.1 ht
  rw [← first_lost, hf, lost_none] at h2
  refine ⟨h1.1, fun i hi => ?_⟩
  rcases h1.2 i hi with h3 | ⟨c, hc, hg, _⟩
  · exact absurd h3 (h2 i (by rw [h1.1]; exact hi))
  · exact ⟨c, hc, hg⟩
include hf in
theorem some_D {i : Nat} (hi : i < d.halves.length) : ∃ c : Nat, c < d.cards.length ∧ whB d i c = true := by
  obtain ⟨_, h⟩ := fair_all hf (first_mem d)
  obtain ⟨c, hc, hg⟩ := h i hi
  refine ⟨c, hc, ?_⟩
  unfold whB
  rw [List.any_eq_true]
  exact ⟨_, first_mem d, by rw [hg]; simp⟩
theorem whose_wh (d : Dr) (i : Nat) : whoseL d i d.cards.length = ((List.range d.cards.length).filter (whB d i)).map fun (c : Nat) => (c : Int) := rfl
theorem who_len (d : Dr) : (mD d).who.length = d.cards.length := by show (d.cards.map Card.name).length = _; simp
theorem sums_len (d : Dr) : (mD d).sums.length = d.halves.length := by show ((List.range d.halves.length).map (halfD d)).length = _; simp
theorem sum_at {i : Nat} (hi : i < d.halves.length) : (mD d).sums[i]? = some (halfD d i) := by
  show ((List.range d.halves.length).map (halfD d))[i]? = _
  rw [List.getElem?_map, List.getElem?_range hi]; rfl
theorem bad_none {e : Nat → Int} {n : Nat} (h : ∀ i, i < n → e i = 0) : firstBad e 0 n = none := by
  cases hb : firstBad e 0 n with
  | none => rfl
  | some j =>
    obtain ⟨_, h1, h2, _⟩ := firstBad_some hb
    exact absurd (h j (by omega)) h2
theorem failP_ok {most : Int} {e : Nat → Int} {n : Nat} (hn : (n : Int) ≤ most) (h : ∀ i, i < n → e i = 0) : failP most e n = (0, 0) := by
  unfold failP
  rw [if_neg (by omega), bad_none h]
theorem any_take {α : Type} {l : List α} {i : Nat} {p : α → Bool} (h : ∀ j x, j < i → l[j]? = some x → p x = false) : (l.take i).any p = false := by
  rw [List.any_eq_false]
  intro x hx
  obtain ⟨j, hj, e⟩ := List.mem_iff_getElem.1 hx
  have hji : j < i := by rw [List.length_take] at hj; omega
  have : l[j]? = some x := by
    rw [← e, ← List.getElem?_eq_getElem hj, List.getElem?_take_of_lt hji]
  rw [h j x hji this]; simp
include ho hf in
theorem check_D : checkM (mD d) = (0, 0, 0) := by
  have c4 := ho.c4
  have h4 := ho.h4
  have p0 : partM (mD d) 0 = (0, 0) := by
    refine failP_ok (by rw [who_len]; omega) fun i hi => ?_
    rw [who_len] at hi
    have hx := List.getElem?_eq_getElem hi
    have e : (mD d).who[i]? = some (d.cards[i]).name := by show (d.cards.map Card.name)[i]? = _; rw [List.getElem?_map, hx]; rfl
    unfold whoI
    rw [e]
    show whoE (d.cards.map Card.name) i (d.cards[i]).name = 0
    unfold whoE
    rw [if_pos (ho.ck _ (List.getElem_mem hi)), any_take, if_neg (by decide)]
    intro j x hj hy
    rw [List.getElem?_map] at hy
    obtain ⟨y, hy2, rfl⟩ := Option.map_eq_some_iff.1 hy
    have := ho.cn i j _ y hx hy2 hj
    cases hb : y.name == d.cards[i].name with
    | false => rfl
    | true => exact absurd ((ba_beq _ _).1 hb) this
  have p1 : partM (mD d) 1 = (0, 0) := by
    refine failP_ok (by rw [sums_len]; omega) fun i hi => ?_
    rw [sums_len] at hi
    have hx := List.getElem?_eq_getElem hi
    have hgd : d.halves.getD i ⟨default, []⟩ = d.halves[i] := by rw [List.getD_eq_getElem?_getD, hx]; rfl
    unfold sumI
    rw [sum_at hi]
    show sumE (mD d) i (halfD d i) = 0
    obtain ⟨c, hc, hw⟩ := some_D hf hi
    have hb1 : 1 ≤ bitsD d i := bits_pos (i := c) (by unfold bitsD; rw [setN_bit, decide_eq_true hc, hw]; rfl)
    have hb2 : bitsD d i < 2 ^ d.cards.length := setN_pow _ _
    have hb3 : ((bitsD d i : Nat) : Int) < (2 : Int) ^ d.cards.length := by exact_mod_cast hb2
    have ha : ((mD d).sums.take i).any (fun y => y.name == (halfD d i).name) = false := by
      refine any_take fun j x hj hy => ?_
      have hjl : j < d.halves.length := by omega
      rw [sum_at hjl] at hy
      cases hy
      have hy := List.getElem?_eq_getElem hjl
      have hgj : d.halves.getD j ⟨default, []⟩ = d.halves[j] := by rw [List.getD_eq_getElem?_getD, hy]; rfl
      have := ho.hn i j _ _ hx hy hj
      show ((d.halves.getD j ⟨default, []⟩).name == (d.halves.getD i ⟨default, []⟩).name) = false
      rw [hgd, hgj]
      cases hb : d.halves[j].name == d.halves[i].name with
      | false => rfl
      | true => exact absurd ((ba_beq _ _).1 hb) this
    have ho1 : out 1 99 (halfD d i).pence = false := by
      show out 1 99 (1 + (i : Int)) = false
      simp only [out, Bool.or_eq_false_iff, decide_eq_false_iff_not]; omega
    have ho2 : out 1 (bitsN (mD d).who.length) (halfD d i).fr = false := by
      show out 1 (bitsN (mD d).who.length) ((bitsD d i : Nat) : Int) = false
      rw [who_len]
      unfold bitsN
      simp only [out, Bool.or_eq_false_iff, decide_eq_false_iff_not]; omega
    unfold sumE
    rw [ha, ho1, ho2]
    show (if nameOk (d.halves.getD i ⟨default, []⟩).name = true then (if false = true then (5 : Int) else if (false || false) = true then 7 else 0) else 6) = 0
    rw [hgd, if_pos (ho.hk _ (List.getElem_mem hi))]; rfl
  have p2 : partM (mD d) 2 = (0, 0) := by
    have hl := wordsD_len h4
    have hl : (mD d).words.length ≤ 6 := hl
    refine failP_ok (by omega) fun i hi => ?_
    obtain ⟨a, b, h1, h2, e⟩ := word_at hi
    unfold wordI
    rw [e]
    show wordE (mD d) i (wordD a b) = 0
    unfold wordE
    rw [sums_len, who_len]
    have e1 : out 0 3 (wordD a b).says = false := rfl
    have e2 : out 0 ((d.halves.length : Int) - 1) (wordD a b).sum = false := by
      show out 0 ((d.halves.length : Int) - 1) (a : Int) = false
      simp only [out, Bool.or_eq_false_iff, decide_eq_false_iff_not]; omega
    have e3 : out 0 ((if 2 ≤ (wordD a b).says then (d.halves.length : Int) else d.cards.length) - 1) (wordD a b).of = false := by
      show out 0 ((if (2 : Int) ≤ 3 then (d.halves.length : Int) else d.cards.length) - 1) (b : Int) = false
      rw [if_pos (by decide)]
      simp only [out, Bool.or_eq_false_iff, decide_eq_false_iff_not]; omega
    have e4 : out (-1) (((mD d).words.length : Int) - 1) (wordD a b).back = false := by
      show out (-1) (((mD d).words.length : Int) - 1) (-1) = false
      simp only [out, Bool.or_eq_false_iff, decide_eq_false_iff_not]; omega
    have e5 : ((wordD a b).back == (i : Int)) = false := by show ((-1 : Int) == (i : Int)) = false; simp
    have e6 : ((wordD a b).of == (wordD a b).sum) = false := by show ((b : Int) == (a : Int)) = false; simp; omega
    rw [e1, e2, e3, e4, e5, e6]; simp
  have p3 : partM (mD d) 3 = (0, 0) := failP_ok (e := paidI (mD d)) (n := 0) (most := 5) (by omega) fun i hi => absurd hi (Nat.not_lt_zero i)
  unfold checkM
  rw [p0, p1, p2, p3]
  rfl
include ho hf in
theorem truths_ne : truthsM (mD d) 0 ≠ [] := by rw [truths_D ho hf]; exact fairL_ne d
include ho hf in
theorem enter_D : enterM (mD d) 0 [] = 0 := by
  unfold enterM
  rw [check_D ho hf, if_neg (by decide), if_neg (by decide), if_neg (truths_ne ho hf)]
include ho hf in
theorem enter_Di {i : Nat} (hi : i < d.halves.length) : enterM (mD d) (mD d).sums.length [(i : Int)] = 0 := by
  unfold enterM
  rw [check_D ho hf, if_neg (by decide), if_neg, if_neg (truths_ne ho hf)]
  rw [sums_len]
  simp only [List.any_cons, List.any_nil, Bool.or_false, out, Bool.or_eq_true, decide_eq_true_eq]; omega
include ho hf in
theorem bits_D {i : Nat} (hi : i < d.halves.length) : bitsL (evN (truthsM (mD d) 0) i) d.cards.length = whoseL d i d.cards.length := by
  rw [whose_wh, truths_D ho hf]
  unfold bitsL
  congr 1
  refine List.filter_congr fun c _ => ?_
  rw [evN_bit, Bool.eq_iff_iff, List.any_eq_true]
  unfold whB
  rw [List.any_eq_true]
  constructor
  · rintro ⟨t, ht, e⟩
    obtain ⟨c', _, hg⟩ := (fair_all hf ht).2 i hi
    refine ⟨t, ht, ?_⟩
    rw [decide_eq_true_eq] at e
    rw [hg] at e ⊢
    rw [Int.toNat_natCast] at e
    rw [e]; simp
  · rintro ⟨t, ht, e⟩
    refine ⟨t, ht, ?_⟩
    have e : t.getD i 0 = (c : Int) := by simpa using e
    rw [e, decide_eq_true_eq, Int.toNat_natCast]
include ho hf in
theorem bits4_D {i : Nat} (hi : i < d.halves.length) : bitsL (evN (truthsM (mD d) 0) i) 4 = whoseL d i d.cards.length := by
  rw [← bits_D ho hf hi]
  have key : ∀ n, d.cards.length + n ≤ 4 → bitsL (evN (truthsM (mD d) 0) i) (d.cards.length + n) = bitsL (evN (truthsM (mD d) 0) i) d.cards.length := by
    intro n
    induction n with
    | zero => intro _; rfl
    | succ n ih =>
      intro hn
      rw [← ih (by omega), ← Nat.add_assoc, bitsL_succ, if_neg]
      rw [evN_bit, truths_D ho hf]
      intro h
      obtain ⟨t, ht, e⟩ := List.any_eq_true.1 h
      obtain ⟨c', hc, hg⟩ := (fair_all hf ht).2 i hi
      rw [decide_eq_true_eq, hg, Int.toNat_natCast] at e
      omega
  have := key (4 - d.cards.length) (by have := ho.c4; omega)
  rw [← this]; congr 1
  have := ho.c4; omega
include ho hf in
theorem for_V {i : Nat} (hi : i < d.halves.length) : forV (mD d) i = .tup [vI (whoseL d i d.cards.length), .int .i64 0] := by
  unfold forV
  rw [enter_Di ho hf hi, if_neg (by decide), Int.toNat_natCast, who_len, bits_D ho hf hi]
include ho hf in
theorem pay_V {i : Nat} (hi : i < d.halves.length) : payV (mD d) i = .tup [.int .i64 (if cardV d i = -1 then 0 else cardV d i), .int .i64 (if cardV d i = -1 then 9 else 0)] := by
  unfold payV
  rw [enter_Di ho hf hi, if_neg (by decide), Int.toNat_natCast, who_len, bits_D ho hf hi]
  unfold sureB
  rw [bits4_D ho hf hi]
  by_cases hc : cardV d i = -1
  · rw [if_pos hc, if_pos hc, if_neg]
    rw [decide_eq_true_eq]
    have hk : allTo (okK d i) (fairL d).length = false := by
      cases hh : allTo (okK d i) (fairL d).length with
      | false => rfl
      | true => obtain ⟨q1, q2⟩ := card_yes hh; exact absurd (q1 ▸ hc) q2
    obtain ⟨k, hkl, _, hkf⟩ := allTo_false hk
    obtain ⟨c1, h1, g1⟩ := (fair_all hf (first_mem d)).2 i hi
    obtain ⟨c2, h2, g2⟩ := (fair_all hf (List.getElem_mem hkl)).2 i hi
    have hgk : (fairL d).getD k [] = (fairL d)[k] := by rw [List.getD_eq_getElem?_getD, List.getElem?_eq_getElem hkl]; rfl
    unfold okK at hkf
    rw [hgk, g1, g2] at hkf
    have hne : c1 ≠ c2 := by
      intro e; subst e; simp at hkf
    have m1 : (c1 : Int) ∈ whoseL d i d.cards.length := mem_whose.2 ⟨c1, h1, rfl, _, first_mem d, g1⟩
    have m2 : (c2 : Int) ∈ whoseL d i d.cards.length := mem_whose.2 ⟨c2, h2, rfl, _, List.getElem_mem hkl, g2⟩
    intro hl
    generalize whoseL d i d.cards.length = L at m1 m2 hl
    match L, m1, m2, hl with
    | [x], m1, m2, _ =>
      rw [List.mem_singleton] at m1 m2
      omega
    | x :: y :: l, _, _, hl => simp at hl
  · rw [if_neg hc, if_neg hc, whose_one hi hc, if_pos (by rw [decide_eq_true_eq]; exact Nat.le_refl _)]; rfl
end
theorem mD_fits {d : Dr} (hd : d.fits) (ho : d.Ok) : (mD d).fits := by
  have c4 := ho.c4
  have h4 := ho.h4
  refine ⟨fun h => zT_pos ?_, fun h => zT_pos ?_, fun h => zT_pos ?_, fun h => absurd rfl h, ?_, ?_, ?_, ?_, fun s hs => ?_, fun x hx => ?_⟩
  · rcases Nat.eq_zero_or_pos d.cards.length with e | e
    · exact absurd (List.eq_nil_of_length_eq_zero (by rw [who_len]; exact e)) h
    · exact e
  · rcases Nat.eq_zero_or_pos d.halves.length with e | e
    · exact absurd (List.eq_nil_of_length_eq_zero (by rw [sums_len]; exact e)) h
    · exact e
  · rcases Nat.eq_zero_or_pos (wordsD d.halves.length).length with e | e
    · exact absurd (List.eq_nil_of_length_eq_zero e) h
    · exact e
  · rw [who_len]; omega
  · rw [sums_len]; omega
  · have := wordsD_len h4
    show (wordsD d.halves.length).length < _
    omega
  · show (0 : Nat) < _; omega
  · obtain ⟨c, hc, rfl⟩ := List.mem_map.1 hs
    exact (hd.nc c hc).1
  · obtain ⟨i, hi, rfl⟩ := List.mem_map.1 hx
    have hi := List.mem_range.1 hi
    show (d.halves.getD i ⟨default, []⟩).name.size < _
    rw [List.getD_eq_getElem?_getD, List.getElem?_eq_getElem hi]
    exact (hd.nh _ (List.getElem_mem hi)).1
end Go.Proofs.YtiighcpimecehaaGreat
end
