/- Parts of the proof, joined: New, by the program. Alike, by the program. Enough, by the program. Enough, by the program: the walk. All truths, in the order in which the program comes to them; the fair ones, as it gathers them. All truths, by the program: the function that calls itself. The fair truths, by the program. First, by the program. Forged, by the program. Whose and Read, by the program. Read, by the program. Whether a row has ascending numbers. The drawers of the examples. Conditions: those of each law. -/
import Derived.Test.YtbfodfepgefloaaQ12
set_option linter.unusedSimpArgs false
set_option linter.unusedVariables false
section
namespace Go.Proofs.Ytbfodfepgefloaa
open Go.Proofs

theorem or_bit' (s i : Nat) (hs : s < 16) (hi : i < 4) : IntKind.i64.wrap (BitVec.ofInt IntKind.i64.bits ((s : Nat) : Int) ||| BitVec.ofInt IntKind.i64.bits (IntKind.i64.wrap (1 * 2 ^ (min i IntKind.i64.bits)))).toNat = ((s ||| 2 ^ i : Nat) : Int) := or_bit ⟨s, hs⟩ ⟨i, hi⟩
/-- A set of cards, as a number. -/
def setN (p : Nat → Bool) : Nat → Nat
  | 0 => 0
  | k + 1 => if p k then setN p k ||| 2 ^ k else setN p k
theorem setN_succ (p : Nat → Bool) (k : Nat) : setN p (k + 1) = if p k = true then setN p k ||| 2 ^ k else setN p k := rfl
theorem setN_lt (p : Nat → Bool) : ∀ k, k ≤ 4 → setN p k < 16
  | 0, _ => by simp [setN]
  | k + 1, h => by
    have a := setN_lt p k (by omega)
    unfold setN
    split
    · exact or_lt ⟨_, a⟩ ⟨k, by omega⟩
    · exact a
theorem setN_test (p : Nat → Bool) : ∀ k, k ≤ 4 → ∀ j, j < 4 → (setN p k).testBit j = (decide (j < k) && p j)
  | 0, _, j, _ => by simp [setN]
  | k + 1, h, j, hj => by
    have a := setN_lt p k (by omega)
    have ih := setN_test p k (by omega) j hj
    unfold setN
    have e : decide (j < k + 1) = (decide (j < k) || decide (k = j)) := by rw [Bool.eq_iff_iff]; simp; omega
    cases hp : p k with
    | true =>
      simp only [if_true]
      have := or_test ⟨_, a⟩ ⟨k, by omega⟩ ⟨j, hj⟩
      simp only [Fin.mk.injEq] at this
      rw [this, ih, e]
      by_cases hk : k = j
      · subst hk; simp [hp]
      · simp [hk]
    | false =>
      simp only [Bool.false_eq_true, if_false]
      rw [ih, e]
      by_cases hk : k = j
      · subst hk; simp [hp]
      · simp [hk]
theorem bitsL_setN (p : Nat → Bool) (n : Nat) (hn : n ≤ 4) : bitsL (setN p n) n = ((List.range n).filter fun c => p c).map fun (c : Nat) => (c : Int) := by
  unfold bitsL
  congr 1
  apply List.filter_congr
  intro j hj
  have hj := List.mem_range.1 hj
  rw [setN_test p n hn j (by omega)]
  simp [hj]

theorem enterE_nil (d : Dr) (m : Int) : enterE d m [] = (checkT d).2.2 := by
  unfold enterE; simp only [List.any_nil, Bool.false_eq_true, if_false]; split
  · rename_i h; rw [h]
  · rfl
/-- Entering with no numbers. -/
theorem enter_yes (d : Dr) (hd : d.fits) (m : Int) (hm : 0 ≤ m ∧ m < 1000000000000000000) (t z : Nat) (l : List Int) (hz : l ≠ [] → z = 1) (hl : l.length < 1000000000000000000) (he : enterE d m l = 0) :
    d.Ok ∧ ∃ B t' tag zz, (EW tabX).call 60 [eD d, .int .i64 m, .lst t z (I l)] ⟨[.cells (eDc d)], []⟩ = some (.tup [.ref 4 0, .int .i64 0], ⟨B, t'⟩) ∧ B[0]? = some (.cells (eDc d)) ∧
      B[4]? = some (.cells (eDc d ++ [.lst tag zz ((P1 d d.halves.length).map eL), .mapr 3])) ∧ B[3]? = some (.map (esL (num (P1 d d.halves.length)))) ∧ Own tag zz (P1 d d.halves.length).length t' := by
  obtain ⟨ho, h', h60, hH⟩ := c60_yes d hd m hm t z l hz hl he ⟨[.cells (eDc d)], []⟩
  obtain ⟨tag, z, junk, t', rfl, hown⟩ := hH
  exact ⟨ho, _, t', tag, z, h60, rfl, rfl, rfl, hown⟩

theorem c34_no (d : Dr) (hd : d.fits) (l : List Int) (z : Nat) (hz : l ≠ [] → z = 1) (hl : l.length < 1000000000000000000) (he : newE d l ≠ 0) (h : Heap) : callPure (EW tabX) 34 [eD d, .lst 0 z (I l)] h = some (.tup [vI [], .int .i64 (newE d l)], h) := by
  have hcl := eD_clean d
  have h51 := c51 0 9 l z hz
  rw [callPure_eq, w_call _ fn_34 rfl]
  unfold newE at he ⊢
  by_cases hc : (checkT d).2.2 = 0
  · rw [if_pos hc] at he ⊢
    obtain ⟨ho, B, t, tag, zz, h60, b0, b4, b3, hown⟩ := enter_yes d hd 0 (by omega) 1 0 [] (fun h => absurd rfl h) (by simp) (by rw [enterE_nil]; exact hc)
    simp only [eDc, List.cons_append, List.nil_append] at b0 b4
    by_cases h1 : ((l.length : Int) != d.steps) = true
    · rw [if_pos h1]
      simp only [go_sem, ↓reduceIte, Nat.reduceBEq, Nat.reduceEqDiff, Nat.reduceLT, Nat.reduceLeDiff, Nat.reduceAdd, Nat.reduceMul, Nat.reduceSub, reduceCtorEq, Int.reduceLT, Int.reduceLE, Int.reduceEq, Int.reduceBEq, Int.reduceBNe, Int.reduceToNat, Int.reduceAdd, Int.reduceNeg, Int.reduceSub, eD, eDc, eC_under] at hcl h60 ⊢
      simp only [go_sem, ↓reduceIte, Nat.reduceBEq, Nat.reduceEqDiff, Nat.reduceLT, Nat.reduceLeDiff, Nat.reduceAdd, Nat.reduceMul, Nat.reduceSub, reduceCtorEq, Int.reduceLT, Int.reduceLE, Int.reduceEq, Int.reduceBEq, Int.reduceBNe, Int.reduceToNat, Int.reduceAdd, Int.reduceNeg, Int.reduceSub, eC_clean, h60, b0, h1, vI_nil]
    · rw [if_neg h1] at he ⊢
      have h1' : ((l.length : Int) != d.steps) = false := by simpa using h1
      by_cases h2 : (l.all fun n => inR n 0 9) = false
      · rw [if_pos h2]
        have h2' : l.any (out 0 9) = true := by rw [← all_out, h2]; rfl
        simp only [go_sem, ↓reduceIte, Nat.reduceBEq, Nat.reduceEqDiff, Nat.reduceLT, Nat.reduceLeDiff, Nat.reduceAdd, Nat.reduceMul, Nat.reduceSub, reduceCtorEq, Int.reduceLT, Int.reduceLE, Int.reduceEq, Int.reduceBEq, Int.reduceBNe, Int.reduceToNat, Int.reduceAdd, Int.reduceNeg, Int.reduceSub, eD, eDc, eC_under] at hcl h60 ⊢
        simp only [go_sem, ↓reduceIte, Nat.reduceBEq, Nat.reduceEqDiff, Nat.reduceLT, Nat.reduceLeDiff, Nat.reduceAdd, Nat.reduceMul, Nat.reduceSub, reduceCtorEq, Int.reduceLT, Int.reduceLE, Int.reduceEq, Int.reduceBEq, Int.reduceBNe, Int.reduceToNat, Int.reduceAdd, Int.reduceNeg, Int.reduceSub, eC_clean, h60, b0, h1', h51 _ hl, h2', vI_nil]
      · rw [if_neg h2] at he; exact absurd rfl he
  · rw [if_neg hc]
    have h60 := c60_no d hd 0 (by omega) 1 0 [] (fun h => absurd rfl h) (by simp) (by rw [enterE_nil]; exact hc) ⟨[.cells (eDc d)], []⟩
    rw [enterE_nil] at h60
    have hb1 : ((checkT d).2.2 != 0) = true := by simpa using hc
    simp only [go_sem, ↓reduceIte, Nat.reduceBEq, Nat.reduceEqDiff, Nat.reduceLT, Nat.reduceLeDiff, Nat.reduceAdd, Nat.reduceMul, Nat.reduceSub, reduceCtorEq, Int.reduceLT, Int.reduceLE, Int.reduceEq, Int.reduceBEq, Int.reduceBNe, Int.reduceToNat, Int.reduceAdd, Int.reduceNeg, Int.reduceSub, eD, eDc, eC_under] at hcl h60 ⊢
    simp only [go_sem, ↓reduceIte, Nat.reduceBEq, Nat.reduceEqDiff, Nat.reduceLT, Nat.reduceLeDiff, Nat.reduceAdd, Nat.reduceMul, Nat.reduceSub, reduceCtorEq, Int.reduceLT, Int.reduceLE, Int.reduceEq, Int.reduceBEq, Int.reduceBNe, Int.reduceToNat, Int.reduceAdd, Int.reduceNeg, Int.reduceSub, eC_clean, h60, hb1, vI_nil]
theorem c34_yes (d : Dr) (hd : d.fits) (l : List Int) (z : Nat) (hz : l ≠ [] → z = 1) (hl : l.length < 1000000000000000000) (he : newE d l = 0) (h : Heap) : callPure (EW tabX) 34 [eD d, .lst 0 z (I l)] h = some (.tup [vI (newL d l d.cards.length), .int .i64 0], h) := by
  obtain ⟨hc, h1, h2⟩ := newE_yes he
  have hcl := eD_clean d
  have h51 := c51 0 9 l z hz
  have h1' : ((l.length : Int) != d.steps) = false := by simp [h1]
  have h2' : l.any (out 0 9) = false := by rw [← all_out, h2]; rfl
  obtain ⟨ho, B, t, tag, zz, h60, b0, b4, b3, hown⟩ := enter_yes d hd 0 (by omega) 1 0 [] (fun h => absurd rfl h) (by simp) (by rw [enterE_nil]; exact hc)
  have hc4 := ho.c4
  have h6 := ho.s6
  have hls := ho.ls
  have hl1 := ho.l1
  have hlow : Low l := fun n hn => by
    rw [List.all_eq_true] at h2
    have := h2 n hn
    simp [inR] at this; omega
  have hlt : ((d.least.toNat : Nat) : Int) = d.least := by omega
  have b4' := b4
  have b0' := b0
  simp only [eDc, List.cons_append, List.nil_append] at b0' b4
  have h63 := c63 (setN (fun c => nearB d.wear l (cardE d c) d.least.toNat) d.cards.length) d.cards.length (setN_lt _ _ hc4) hc4
  rw [bitsL_setN _ _ hc4] at h63
  rw [callPure_eq, w_call _ fn_34 rfl]
  simp only [go_sem, ↓reduceIte, Nat.reduceBEq, Nat.reduceEqDiff, Nat.reduceLT, Nat.reduceLeDiff, Nat.reduceAdd, Nat.reduceMul, Nat.reduceSub, reduceCtorEq, Int.reduceLT, Int.reduceLE, Int.reduceEq, Int.reduceBEq, Int.reduceBNe, Int.reduceToNat, Int.reduceAdd, Int.reduceNeg, Int.reduceSub, eD, eDc, eC_under] at hcl h60 ⊢
  simp only [go_sem, ↓reduceIte, Nat.reduceBEq, Nat.reduceEqDiff, Nat.reduceLT, Nat.reduceLeDiff, Nat.reduceAdd, Nat.reduceMul, Nat.reduceSub, reduceCtorEq, Int.reduceLT, Int.reduceLE, Int.reduceEq, Int.reduceBEq, Int.reduceBNe, Int.reduceToNat, Int.reduceAdd, Int.reduceNeg, Int.reduceSub, eC_clean, h60, b0', h1', h51 _ hl, h2']
  rw [w_rounds_h (fun k => [(8, .int .i64 (setN (fun c => nearB d.wear l (cardE d c) d.least.toNat) k)), (32, .int .i64 k)]) (fun k => ⟨B ++ (d.cards.take k).map cellC, t⟩) d.cards.length (.exit 1) [(8, .int .i64 (setN (fun c => nearB d.wear l (cardE d c) d.least.toNat) d.cards.length)), (32, .int .i64 d.cards.length)] ⟨B ++ d.cards.map cellC, t⟩ ?_ ?_ ?_ ?_ rfl]
  · have b0'' := old b0'
    simp only [go_sem, ↓reduceIte, Nat.reduceBEq, Nat.reduceEqDiff, Nat.reduceLT, Nat.reduceLeDiff, Nat.reduceAdd, Nat.reduceMul, Nat.reduceSub, reduceCtorEq, Int.reduceLT, Int.reduceLE, Int.reduceEq, Int.reduceBEq, Int.reduceBNe, Int.reduceToNat, Int.reduceAdd, Int.reduceNeg, Int.reduceSub, b0'', h63, vI_clean, vI_under, newL]
  · simp only [go_sem, ↓reduceIte, Nat.reduceBEq, Nat.reduceEqDiff, Nat.reduceLT, Nat.reduceLeDiff, Nat.reduceAdd, Nat.reduceMul, Nat.reduceSub, reduceCtorEq, Int.reduceLT, Int.reduceLE, Int.reduceEq, Int.reduceBEq, Int.reduceBNe, Int.reduceToNat, Int.reduceAdd, Int.reduceNeg, Int.reduceSub, setN]
  · simp only [go_sem, ↓reduceIte, Nat.reduceBEq, Nat.reduceEqDiff, Nat.reduceLT, Nat.reduceLeDiff, Nat.reduceAdd, Nat.reduceMul, Nat.reduceSub, reduceCtorEq, Int.reduceLT, Int.reduceLE, Int.reduceEq, Int.reduceBEq, Int.reduceBNe, Int.reduceToNat, Int.reduceAdd, Int.reduceNeg, Int.reduceSub]
  · intro c hcc
    have hci : (c : Int) < d.cards.length := by omega
    obtain ⟨y1, y2, y3, y4⟩ := cardE_low ho hcc
    have hzc := hd.zc (by intro e; rw [e] at hcc; simp at hcc)
    have ca := card_at d c hcc
    have hst := setN_lt (fun c => nearB d.wear l (cardE d c) d.least.toNat) c (by omega)
    have hor := or_bit' _ c hst (by omega)
    have h65 := c65 d ⟨ho.w0, ho.w9⟩ l (cardE d c) d.least.toNat hlow y1 (by omega) y2 (by omega) 0 0 z 1 hz (fun _ => rfl) 4 _ ⟨B ++ (d.cards.take c).map cellC ++ [cellC (d.cards.getD c ⟨default, []⟩)], t⟩ (old (old b4' _) _)
    have b0'' := old (old b0' ((d.cards.take c).map cellC))
    rw [hlt] at h65
    rw [map_succ cellC ca, ← List.append_assoc]
    generalize B ++ (d.cards.take c).map cellC = C at h65 b0'' ⊢
    simp only [cellC, cardE] at h65
    rw [setN_succ]
    by_cases hb : nearB d.wear l (cardE d c) d.least.toNat = true
    · rw [if_pos hb]
      simp only [cardE] at hb hor
      rw [hb] at h65
      simp (disch := omega) only [go_sem, ↓reduceIte, Nat.reduceBEq, Nat.reduceEqDiff, Nat.reduceLT, Nat.reduceLeDiff, Nat.reduceAdd, Nat.reduceMul, Nat.reduceSub, reduceCtorEq, Int.reduceLT, Int.reduceLE, Int.reduceEq, Int.reduceBEq, Int.reduceBNe, Int.reduceToNat, Int.reduceAdd, Int.reduceNeg, Int.reduceSub, hci, eC_get, ca, hzc, eC, h65, cellC, b0'', wrap_i64, cardE]
      rw [← hor]
      rfl
    · rw [if_neg hb]
      have hb' : nearB d.wear l (cardE d c) d.least.toNat = false := by simpa using hb
      simp only [cardE] at hb'
      rw [hb'] at h65
      simp (disch := omega) only [go_sem, ↓reduceIte, Nat.reduceBEq, Nat.reduceEqDiff, Nat.reduceLT, Nat.reduceLeDiff, Nat.reduceAdd, Nat.reduceMul, Nat.reduceSub, reduceCtorEq, Int.reduceLT, Int.reduceLE, Int.reduceEq, Int.reduceBEq, Int.reduceBNe, Int.reduceToNat, Int.reduceAdd, Int.reduceNeg, Int.reduceSub, hci, eC_get, ca, hzc, eC, h65, cellC, b0'', wrap_i64, cardE]
  · simp only [go_sem, ↓reduceIte, Nat.reduceBEq, Nat.reduceEqDiff, Nat.reduceLT, Nat.reduceLeDiff, Nat.reduceAdd, Nat.reduceMul, Nat.reduceSub, reduceCtorEq, Int.reduceLT, Int.reduceLE, Int.reduceEq, Int.reduceBEq, Int.reduceBNe, Int.reduceToNat, Int.reduceAdd, Int.reduceNeg, Int.reduceSub]
end Go.Proofs.Ytbfodfepgefloaa
end
section
namespace Go.Proofs.Ytbfodfepgefloaa
open Go.Proofs

theorem enter_two (d : Dr) (a b below : Int) : enterE d below [a, b] = if askedE d a below = 0 then askedE d b below else askedE d a below := by
  unfold enterE askedE
  by_cases hc : (checkT d).2.2 = 0
  · simp only [if_pos hc, List.any_cons, List.any_nil, Bool.or_false, ← out_not]
    cases out 0 (below - 1) a <;> cases out 0 (below - 1) b <;> simp
  · simp only [if_neg hc]

theorem c30_no (d : Dr) (hd : d.fits) (a b : Int) (he : alikeE d a b ≠ 0) (h : Heap) : callPure (EW tabX) 30 [eD d, .int .i64 a, .int .i64 b] h = some (.tup [.bool false, .int .i64 (alikeE d a b)], h) := by
  have lc := hd.lc
  have hcl := eD_clean d
  have e2 := enter_two d a b d.cards.length
  rw [callPure_eq, w_call _ fn_30 rfl]
  unfold alikeE at he ⊢
  by_cases hz : enterE d d.cards.length [a, b] = 0
  · obtain ⟨ho, B, t, tag, zz, h60, b0, b4, b3, hown⟩ := enter_yes d hd d.cards.length (by omega) 1 1 [a, b] (fun _ => rfl) (by simp) hz
    simp only [eDc, List.cons_append, List.nil_append] at b0 b4
    rw [hz] at e2
    have ha : askedE d a d.cards.length = 0 := by
      by_cases ha : askedE d a d.cards.length = 0
      · exact ha
      · rw [if_neg ha] at e2; exact e2.symm
    rw [if_pos ha] at e2 he ⊢
    rw [if_pos e2.symm] at he ⊢
    by_cases hab : a = b
    · rw [if_pos hab]
      have hab' : (a == b) = true := by simpa using hab
      simp only [go_sem, ↓reduceIte, Nat.reduceBEq, Nat.reduceEqDiff, Nat.reduceLT, Nat.reduceLeDiff, Nat.reduceAdd, Nat.reduceMul, Nat.reduceSub, reduceCtorEq, Int.reduceLT, Int.reduceLE, Int.reduceEq, Int.reduceBEq, Int.reduceBNe, Int.reduceToNat, Int.reduceAdd, Int.reduceNeg, Int.reduceSub, eD, eDc, eC_under, I_c, I_nil] at hcl h60 ⊢
      simp only [go_sem, ↓reduceIte, Nat.reduceBEq, Nat.reduceEqDiff, Nat.reduceLT, Nat.reduceLeDiff, Nat.reduceAdd, Nat.reduceMul, Nat.reduceSub, reduceCtorEq, Int.reduceLT, Int.reduceLE, Int.reduceEq, Int.reduceBEq, Int.reduceBNe, Int.reduceToNat, Int.reduceAdd, Int.reduceNeg, Int.reduceSub, eC_clean, h60, hab']
    · rw [if_neg hab] at he; exact absurd rfl he
  · have h60 := c60_no d hd d.cards.length (by omega) 1 1 [a, b] (fun _ => rfl) (by simp) hz ⟨[.cells (eDc d)], []⟩
    have hne : (enterE d d.cards.length [a, b] != 0) = true := by simpa using hz
    have e3 : (if askedE d a d.cards.length = 0 then (if askedE d b d.cards.length = 0 then (if a = b then 2 else 0) else askedE d b d.cards.length) else askedE d a d.cards.length) = enterE d d.cards.length [a, b] := by
      rw [e2] at hz ⊢
      by_cases ha : askedE d a d.cards.length = 0
      · rw [if_pos ha] at hz ⊢
        rw [if_neg hz, if_pos ha]
      · rw [if_neg ha, if_neg ha]
    rw [e3]
    simp only [go_sem, ↓reduceIte, Nat.reduceBEq, Nat.reduceEqDiff, Nat.reduceLT, Nat.reduceLeDiff, Nat.reduceAdd, Nat.reduceMul, Nat.reduceSub, reduceCtorEq, Int.reduceLT, Int.reduceLE, Int.reduceEq, Int.reduceBEq, Int.reduceBNe, Int.reduceToNat, Int.reduceAdd, Int.reduceNeg, Int.reduceSub, eD, eDc, eC_under, I_c, I_nil] at hcl h60 ⊢
    simp only [go_sem, ↓reduceIte, Nat.reduceBEq, Nat.reduceEqDiff, Nat.reduceLT, Nat.reduceLeDiff, Nat.reduceAdd, Nat.reduceMul, Nat.reduceSub, reduceCtorEq, Int.reduceLT, Int.reduceLE, Int.reduceEq, Int.reduceBEq, Int.reduceBNe, Int.reduceToNat, Int.reduceAdd, Int.reduceNeg, Int.reduceSub, eC_clean, h60, hne]
theorem hush_30_6 : tabX.hush 30 6 = false := id rfl
theorem c30_yes (d : Dr) (hd : d.fits) (a b : Nat) (he : alikeE d a b = 0) (h : Heap) : callPure (EW tabX) 30 [eD d, .int .i64 a, .int .i64 b] h = some (.tup [.bool (alikeB d a b), .int .i64 0], h) := by
  have lc := hd.lc
  have hcl := eD_clean d
  have e2 := enter_two d a b d.cards.length
  unfold alikeE at he
  have ha : askedE d a d.cards.length = 0 := by
    by_cases ha : askedE d a d.cards.length = 0
    · exact ha
    · rw [if_neg ha] at he; exact he
  rw [if_pos ha] at he e2
  have hb : askedE d b d.cards.length = 0 := by
    by_cases hb : askedE d b d.cards.length = 0
    · exact hb
    · rw [if_neg hb] at he; exact he
  rw [if_pos hb] at he
  rw [hb] at e2
  have hab : ((a : Int) == b) = false := by
    cases hh : ((a : Int) == b) with
    | false => rfl
    | true => rw [if_pos (by simpa using hh)] at he; cases he
  obtain ⟨hk, a0, a1⟩ := asked_yes ha
  obtain ⟨_, b0, b1⟩ := asked_yes hb
  obtain ⟨ho, B, t, tag, zz, h60, m0, m4, m3, hown⟩ := enter_yes d hd d.cards.length (by omega) 1 1 [(a : Int), b] (fun _ => rfl) (by simp) e2
  have hl := ho.l1
  have hls := ho.ls
  have h6 := ho.s6
  obtain ⟨x1, x2, x3, x4⟩ := cardE_low ho (show a < d.cards.length by omega)
  obtain ⟨y1, y2, y3, y4⟩ := cardE_low ho (show b < d.cards.length by omega)
  have h65 := fun u t2 => c65 d ⟨ho.w0, ho.w9⟩ (cardE d a) (cardE d b) d.least.toNat x1 y1 x2 y2 (by omega) 0 0 1 1 (fun _ => rfl) (fun _ => rfl) 4 _ ⟨B ++ u, t2⟩ (old m4 u)
  have hlt : ((d.least.toNat : Nat) : Int) = d.least := by omega
  rw [hlt] at h65
  have hz := hd.zc (by intro e; rw [e] at a1; simp at a1; omega)
  have ca := card_at d a (by omega)
  have cb := card_at d b (by omega)
  simp only [eDc, List.cons_append, List.nil_append] at m0
  have m0' := old m0
  rw [callPure_eq, w_call _ fn_30 rfl]
  simp only [cardE] at h65
  simp only [go_sem, ↓reduceIte, Nat.reduceBEq, Nat.reduceEqDiff, Nat.reduceLT, Nat.reduceLeDiff, Nat.reduceAdd, Nat.reduceMul, Nat.reduceSub, reduceCtorEq, Int.reduceLT, Int.reduceLE, Int.reduceEq, Int.reduceBEq, Int.reduceBNe, Int.reduceToNat, Int.reduceAdd, Int.reduceNeg, Int.reduceSub, eD, eDc, eC_under, I_c, I_nil, hz] at hcl h60 ⊢
  try simp only [hz] at m0'
  try simp only [go_sem, ↓reduceIte, Nat.reduceBEq, Nat.reduceEqDiff, Nat.reduceLT, Nat.reduceLeDiff, Nat.reduceAdd, Nat.reduceMul, Nat.reduceSub, reduceCtorEq, Int.reduceLT, Int.reduceLE, Int.reduceEq, Int.reduceBEq, Int.reduceBNe, Int.reduceToNat, Int.reduceAdd, Int.reduceNeg, Int.reduceSub] at h65
  simp only [go_sem, ↓reduceIte, Nat.reduceBEq, Nat.reduceEqDiff, Nat.reduceLT, Nat.reduceLeDiff, Nat.reduceAdd, Nat.reduceMul, Nat.reduceSub, reduceCtorEq, Int.reduceLT, Int.reduceLE, Int.reduceEq, Int.reduceBEq, Int.reduceBNe, Int.reduceToNat, Int.reduceAdd, Int.reduceNeg, Int.reduceSub, eC_clean, h60, hab, hush_30_6]
  rw [if_pos (by kernel_rfl)]
  simp only [go_sem, ↓reduceIte, Nat.reduceBEq, Nat.reduceEqDiff, Nat.reduceLT, Nat.reduceLeDiff, Nat.reduceAdd, Nat.reduceMul, Nat.reduceSub, reduceCtorEq, Int.reduceLT, Int.reduceLE, Int.reduceEq, Int.reduceBEq, Int.reduceBNe, Int.reduceToNat, Int.reduceAdd, Int.reduceNeg, Int.reduceSub, m0', eC_get, ca, cb, eC]
  generalize hbb : boundAll _ _ _ = bb
  have hbt : bb = true := by rw [← hbb]; kernel_rfl
  subst hbt
  have h65' := fun u t2 => h65 u t2
  simp only [go_sem, ↓reduceIte, Nat.reduceBEq, Nat.reduceEqDiff, Nat.reduceLT, Nat.reduceLeDiff, Nat.reduceAdd, Nat.reduceMul, Nat.reduceSub, reduceCtorEq, Int.reduceLT, Int.reduceLE, Int.reduceEq, Int.reduceBEq, Int.reduceBNe, Int.reduceToNat, Int.reduceAdd, Int.reduceNeg, Int.reduceSub, h65, alikeB, cardE]
end Go.Proofs.Ytbfodfepgefloaa
end
section
namespace Go.Proofs.Ytbfodfepgefloaa
open Go.Proofs

theorem allTo_mono {p : Nat → Bool} {n m : Nat} (h : allTo p n = true) (hm : m ≤ n) : allTo p m = true := by
  induction n with
  | zero => obtain rfl : m = 0 := by omega
            exact h
  | succ n ih =>
    rw [allTo_succ] at h
    simp only [Bool.and_eq_true] at h
    by_cases e : m = n + 1
    · subst e; rw [allTo_succ]; simp [h.1, h.2]
    · exact ih h.1 (by omega)
theorem allTo_iff {p : Nat → Bool} {n : Nat} : allTo p n = true ↔ ∀ k, k < n → p k = true := by
  constructor
  · intro h k hk; exact allTo_at h hk
  · intro h
    induction n with
    | zero => rfl
    | succ n ih => rw [allTo_succ, ih fun k hk => h k (by omega), h n (by omega)]; rfl
theorem anyTo_iff {p : Nat → Bool} {n : Nat} : anyTo p n = true ↔ ∃ k, k < n ∧ p k = true := by
  unfold anyTo
  constructor
  · intro h
    have h : allTo (fun i => !p i) n = false := by simpa using h
    obtain ⟨k, h1, _, h2⟩ := allTo_false h
    exact ⟨k, h1, by simpa using h2⟩
  · rintro ⟨k, h1, h2⟩
    cases ha : allTo (fun i => !p i) n with
    | false => rfl
    | true => have := allTo_at ha h1; rw [h2] at this; cases this
theorem nearB_iff {w : Int} {a b : List Int} {m : Nat} : nearB w a b m = true ↔ ∃ i k, i + m ≤ a.length ∧ k + m ≤ b.length ∧ ∀ n, n < m → inR (a.getD (i + n) 0 - b.getD (k + n) 0) (0 - w) w = true := by
  have e : nearB w a b m = anyTo (fun i => anyTo (fun k => cellB w a b m i k) (b.length + 1 - m)) (a.length + 1 - m) := by
    unfold nearB anyTo
    congr 2
  rw [e, anyTo_iff]
  constructor
  · rintro ⟨i, hi, h⟩
    obtain ⟨k, hk, h⟩ := anyTo_iff.1 h
    exact ⟨i, k, by omega, by omega, fun n hn => allTo_iff.1 h n hn⟩
  · rintro ⟨i, k, h1, h2, h3⟩
    exact ⟨i, by omega, anyTo_iff.2 ⟨k, by omega, allTo_iff.2 h3⟩⟩
theorem nearB_less {w : Int} {a b : List Int} {m n : Nat} (h : nearB w a b n = true) (hm : m ≤ n) : nearB w a b m = true := by
  obtain ⟨i, k, h1, h2, h3⟩ := nearB_iff.1 h
  exact nearB_iff.2 ⟨i, k, by omega, by omega, fun j hj => h3 j (by omega)⟩

/-- Two cards before the i-th, the one before the other, are alike for so many steps. -/
def metI (d : Dr) (i m : Nat) : Bool := anyTo (fun i => anyTo (fun k => nearB d.wear (cardE d i) (cardE d k) m) i) i
def metK (d : Dr) (i k m : Nat) : Bool := metI d i m || anyTo (fun k => nearB d.wear (cardE d i) (cardE d k) m) k
theorem metI_zero (d : Dr) (m : Nat) : metI d 0 m = false := rfl
theorem metK_zero (d : Dr) (i m : Nat) : metK d i 0 m = metI d i m := by unfold metK; rw [anyTo_zero]; simp
theorem metK_succ (d : Dr) (i k m : Nat) : metK d i (k + 1) m = (metK d i k m || nearB d.wear (cardE d i) (cardE d k) m) := by unfold metK; rw [anyTo_succ, Bool.or_assoc]
theorem metI_succ (d : Dr) (i m : Nat) : metI d (i + 1) m = metK d i i m := by
  have e : metI d (i + 1) m = (metI d i m || anyTo (fun k => nearB d.wear (cardE d i) (cardE d k) m) i) := anyTo_succ _ _
  rw [e]; rfl
theorem metI_less {d : Dr} {i m n : Nat} (h : metI d i n = true) (hm : m ≤ n) : metI d i m = true := by
  obtain ⟨i', h1, h2⟩ := anyTo_iff.1 h
  obtain ⟨k, h3, h4⟩ := anyTo_iff.1 h2
  exact anyTo_iff.2 ⟨i', h1, anyTo_iff.2 ⟨k, h3, nearB_less h4 hm⟩⟩
theorem metK_less {d : Dr} {i k m n : Nat} (h : metK d i k n = true) (hm : m ≤ n) : metK d i k m = true := by
  unfold metK at h ⊢
  rw [Bool.or_eq_true] at h ⊢
  rcases h with h | h
  · exact .inl (metI_less h hm)
  · obtain ⟨k', h3, h4⟩ := anyTo_iff.1 h
    exact .inr (anyTo_iff.2 ⟨k', h3, nearB_less h4 hm⟩)
/-- How far one climbs. -/
theorem climb (p : Nat → Bool) (S : Nat) : ∀ (f m : Nat), S + 1 ≤ m + f → m ≤ S + 1 → ∃ n, (∀ k, k < n → m + k ≤ S ∧ p (m + k) = true) ∧ m + n ≤ S + 1 ∧ (m + n ≤ S → p (m + n) = false)
  | 0, m, h, hm => ⟨0, fun k hk => absurd hk (Nat.not_lt_zero _), hm, fun h => by omega⟩
  | f + 1, m, h, hm => by
    by_cases hS : m ≤ S
    · cases hp : p m with
      | false => exact ⟨0, fun k hk => absurd hk (Nat.not_lt_zero _), hm, fun _ => hp⟩
      | true =>
        obtain ⟨n, h1, h2, h3⟩ := climb p S f (m + 1) (by omega) (by omega)
        refine ⟨n + 1, fun k hk => ?_, by omega, fun h => by rw [show m + (n + 1) = m + 1 + n by omega]; exact h3 (by omega)⟩
        cases k with
        | zero => exact ⟨hS, hp⟩
        | succ k => rw [show m + (k + 1) = m + 1 + k by omega]; exact h1 k (by omega)
    · exact ⟨0, fun k hk => absurd hk (Nat.not_lt_zero _), hm, fun h => absurd h hS⟩
/-- What is known of the number so far. -/
def Clm (S : Nat) (P : Nat → Bool) (m : Nat) : Prop := 1 ≤ m ∧ m ≤ S + 1 ∧ (∀ j, 1 ≤ j → j < m → P j = true) ∧ (m ≤ S → P m = false)
theorem Clm.step {S m n : Nat} {d : Dr} {i k : Nat} (h : Clm S (metK d i k) m) (h1 : ∀ j, j < n → m + j ≤ S ∧ nearB d.wear (cardE d i) (cardE d k) (m + j) = true) (h2 : m + n ≤ S + 1) (h3 : m + n ≤ S → nearB d.wear (cardE d i) (cardE d k) (m + n) = false) :
    Clm S (metK d i (k + 1)) (m + n) := by
  obtain ⟨a, b, c, e⟩ := h
  refine ⟨by omega, h2, fun j j1 j2 => ?_, fun hS => ?_⟩
  · rw [metK_succ, Bool.or_eq_true]
    by_cases hj : j < m
    · exact .inl (c j j1 hj)
    · have := (h1 (j - m) (by omega)).2
      rw [show m + (j - m) = j by omega] at this
      exact .inr this
  · rw [metK_succ, Bool.or_eq_false_iff]
    refine ⟨?_, h3 hS⟩
    cases hm : metK d i k (m + n) with
    | false => rfl
    | true => have := metK_less hm (show m ≤ m + n by omega); rw [e (by omega)] at this; cases this
theorem enough_of {d : Dr} {m : Nat} (hc : (checkT d).2.2 = 0) (h : Clm d.steps.toNat (metI d d.cards.length) m) : enoughR d = if m ≤ d.steps.toNat then ((m : Int), 0) else (0, 9) := by
  obtain ⟨a, b, c, e⟩ := h
  unfold enoughR
  rw [if_pos hc]
  have hm : ∀ j, metB d j = metI d d.cards.length j := fun j => rfl
  rcases find_range (fun k => !metB d (k + 1)) d.steps.toNat with ⟨f1, f2⟩ | ⟨n, f1, f2, f3, f4⟩
  · rw [f1]
    by_cases hS : m ≤ d.steps.toNat
    · have := allTo_at f2 (show m - 1 < d.steps.toNat by omega)
      rw [show m - 1 + 1 = m by omega, hm, e hS] at this
      cases this
    · rw [if_neg hS]
  · rw [f1]
    have hn : metI d d.cards.length (n + 1) = false := by rw [← hm]; simpa using f3
    have e1 : m = n + 1 := by
      by_cases hlt : n + 1 < m
      · have := c (n + 1) (by omega) hlt; rw [hn] at this; cases this
      · by_cases hgt : m < n + 1
        · have := allTo_at f4 (show m - 1 < n by omega)
          rw [show m - 1 + 1 = m by omega, hm, e (by omega)] at this
          cases this
        · omega
    subst e1
    rw [if_pos (by omega)]
    simp
end Go.Proofs.Ytbfodfepgefloaa
end
section
namespace Go.Proofs.Ytbfodfepgefloaa
open Go.Proofs

theorem c32 (d : Dr) (hd : d.fits) (h : Heap) : callPure (EW tabX) 32 [eD d] h = some (.tup [.int .i64 (enoughR d).1, .int .i64 (enoughR d).2], h) := by
  have hcl := eD_clean d
  rw [callPure_eq, w_call _ fn_32 rfl]
  by_cases hc : (checkT d).2.2 = 0
  · obtain ⟨ho, B, t, tag, zz, h60, b0, b4, b3, hown⟩ := enter_yes d hd 0 (by omega) 1 0 [] (fun h => absurd rfl h) (by simp) (by rw [enterE_nil]; exact hc)
    have hc4 := ho.c4
    have h6 := ho.s6
    have hs1 := ho.s1
    have b4' := b4
    have b0' := b0
    simp only [eDc, List.cons_append, List.nil_append] at b0' b4
    simp only [go_sem, ↓reduceIte, Nat.reduceBEq, Nat.reduceEqDiff, Nat.reduceLT, Nat.reduceLeDiff, Nat.reduceAdd, Nat.reduceMul, Nat.reduceSub, reduceCtorEq, Int.reduceLT, Int.reduceLE, Int.reduceEq, Int.reduceBEq, Int.reduceBNe, Int.reduceToNat, Int.reduceAdd, Int.reduceNeg, Int.reduceSub, eD, eDc, eC_under] at hcl h60 ⊢
    simp only [go_sem, ↓reduceIte, Nat.reduceBEq, Nat.reduceEqDiff, Nat.reduceLT, Nat.reduceLeDiff, Nat.reduceAdd, Nat.reduceMul, Nat.reduceSub, reduceCtorEq, Int.reduceLT, Int.reduceLE, Int.reduceEq, Int.reduceBEq, Int.reduceBNe, Int.reduceToNat, Int.reduceAdd, Int.reduceNeg, Int.reduceSub, eC_clean, h60, b0']
    generalize hx : (EW tabX).code 32 none (Code.loop _) _ = x
    refine w_rounds_sk hx (fun i (s : List ABlk × Nat) => [(6, .int .i64 s.2), (22, .int .i64 i)]) (fun s => ⟨B ++ s.1, t⟩) (fun i s => Clm d.steps.toNat (metI d i) s.2) d.cards.length (.exit 0) (fun s => [(6, .int .i64 s.2), (22, .int .i64 d.cards.length)]) rfl ([], 1) ?_ ?_ ?_ ?_ ?_ ?_
    · simp only [go_sem, ↓reduceIte, Nat.reduceBEq, Nat.reduceEqDiff, Nat.reduceLT, Nat.reduceLeDiff, Nat.reduceAdd, Nat.reduceMul, Nat.reduceSub, reduceCtorEq, Int.reduceLT, Int.reduceLE, Int.reduceEq, Int.reduceBEq, Int.reduceBNe, Int.reduceToNat, Int.reduceAdd, Int.reduceNeg, Int.reduceSub]
    · simp only [go_sem, ↓reduceIte, Nat.reduceBEq, Nat.reduceEqDiff, Nat.reduceLT, Nat.reduceLeDiff, Nat.reduceAdd, Nat.reduceMul, Nat.reduceSub, reduceCtorEq, Int.reduceLT, Int.reduceLE, Int.reduceEq, Int.reduceBEq, Int.reduceBNe, Int.reduceToNat, Int.reduceAdd, Int.reduceNeg, Int.reduceSub]
    · exact ⟨by omega, by simp only; omega, fun j h1 h2 => by simp only at h2; omega, fun _ => metI_zero d 1⟩
    · intro i s hi hR
      obtain ⟨C, m⟩ := s
      have hii : (i : Int) < d.cards.length := by omega
      have hzc := hd.zc (by intro e; rw [e] at hi; simp at hi)
      have ci := card_at d i hi
      have o0 := old b0'
      have hile : i ≤ d.cards.length := by omega
      simp (disch := omega) only [go_sem, ↓reduceIte, Nat.reduceBEq, Nat.reduceEqDiff, Nat.reduceLT, Nat.reduceLeDiff, Nat.reduceAdd, Nat.reduceMul, Nat.reduceSub, reduceCtorEq, Int.reduceLT, Int.reduceLE, Int.reduceEq, Int.reduceBEq, Int.reduceBNe, Int.reduceToNat, Int.reduceAdd, Int.reduceNeg, Int.reduceSub, hii, eC_get, ci, hzc, eC, o0, hile]
      generalize hy : (EW tabX).code 32 none (Code.loop _) _ = y
      have hlen : (d.cards.take i).length = i := by rw [List.length_take]; omega
      simp only [List.length_take, List.length_map, Nat.min_eq_left hile] at hy
      refine w_rounds_sk hy (fun k (s : List ABlk × Nat) => [(6, .int .i64 s.2), (32, .int .i64 k)]) (fun s => ⟨B ++ (C ++ (cellC (d.cards.getD i ⟨default, []⟩) :: s.1)), t⟩) (fun k s => Clm d.steps.toNat (metK d i k) s.2) i (.exit 2) (fun s => [(6, .int .i64 s.2), (32, .int .i64 i)]) rfl ([], m) ?_ ?_ ?_ ?_ ?_ ?_
      · simp only [go_sem, ↓reduceIte, Nat.reduceBEq, Nat.reduceEqDiff, Nat.reduceLT, Nat.reduceLeDiff, Nat.reduceAdd, Nat.reduceMul, Nat.reduceSub, reduceCtorEq, Int.reduceLT, Int.reduceLE, Int.reduceEq, Int.reduceBEq, Int.reduceBNe, Int.reduceToNat, Int.reduceAdd, Int.reduceNeg, Int.reduceSub]
      · simp only [go_sem, ↓reduceIte, Nat.reduceBEq, Nat.reduceEqDiff, Nat.reduceLT, Nat.reduceLeDiff, Nat.reduceAdd, Nat.reduceMul, Nat.reduceSub, reduceCtorEq, Int.reduceLT, Int.reduceLE, Int.reduceEq, Int.reduceBEq, Int.reduceBNe, Int.reduceToNat, Int.reduceAdd, Int.reduceNeg, Int.reduceSub, cellC]
      · have e : metK d i 0 = metI d i := funext (metK_zero d i)
        rw [e]; exact hR
      · intro k s hk hR
        obtain ⟨D, m⟩ := s
        have hki : (k : Int) < i := by omega
        have ck := card_at d k (by omega)
        have hck : (d.cards.take i)[k]? = some (d.cards.getD k ⟨default, []⟩) := by rw [List.getElem?_take_of_lt hk]; exact ck
        have hmk : ((d.cards.map eC).take i)[k]? = some (eC (d.cards.getD k ⟨default, []⟩)) := by rw [← List.map_take, eC_get, hck]; rfl
        obtain ⟨n, n1, n2, n3⟩ := climb (fun j => nearB d.wear (cardE d i) (cardE d k) j) d.steps.toNat (d.steps.toNat + 1) m (by omega) hR.2.1
        have hm1 : 1 ≤ m := hR.1
        refine ⟨(D ++ [cellC (d.cards.getD k ⟨default, []⟩)], m + n), ?_, hR.step n1 n2 n3⟩
        obtain ⟨x1, x2, x3, x4⟩ := cardE_low ho hi
        obtain ⟨y1, y2, y3, y4⟩ := cardE_low ho (show k < d.cards.length by omega)
        have h65 : ∀ j, j ≤ n → ∀ E, (EW tabX).call 65 [.ref 4 0, .lst 0 1 (I (d.cards.getD i ⟨default, []⟩).edge), .lst 0 1 (I (d.cards.getD k ⟨default, []⟩).edge), .int .i64 ((m : Int) + j)] ⟨B ++ E, t⟩ = some (.bool (nearB d.wear (cardE d i) (cardE d k) (m + j)), ⟨B ++ E, t⟩) := fun j hj E => by
          have := c65 d ⟨ho.w0, ho.w9⟩ (cardE d i) (cardE d k) (m + j) x1 y1 x2 y2 (by omega) 0 0 1 1 (fun _ => rfl) (fun _ => rfl) 4 _ ⟨B ++ E, t⟩ (old b4' E)
          simpa only [cardE, Int.natCast_add] using this
        simp (disch := omega) only [go_sem, ↓reduceIte, Nat.reduceBEq, Nat.reduceEqDiff, Nat.reduceLT, Nat.reduceLeDiff, Nat.reduceAdd, Nat.reduceMul, Nat.reduceSub, reduceCtorEq, Int.reduceLT, Int.reduceLE, Int.reduceEq, Int.reduceBEq, Int.reduceBNe, Int.reduceToNat, Int.reduceAdd, Int.reduceNeg, Int.reduceSub, hki, hmk, eC, o0, cellC]
        rw [w_rounds_u (fun j => [(6, .int .i64 ((m : Int) + j))]) n (.exit 4) [(6, .int .i64 ((m : Int) + n))] ?_ ?_ ?_ rfl]
        · simp (disch := omega) only [go_sem, ↓reduceIte, Nat.reduceBEq, Nat.reduceEqDiff, Nat.reduceLT, Nat.reduceLeDiff, Nat.reduceAdd, Nat.reduceMul, Nat.reduceSub, reduceCtorEq, Int.reduceLT, Int.reduceLE, Int.reduceEq, Int.reduceBEq, Int.reduceBNe, Int.reduceToNat, Int.reduceAdd, Int.reduceNeg, Int.reduceSub, wrap_i64, cellC, Int.natCast_add]
        · simp only [go_sem, ↓reduceIte, Nat.reduceBEq, Nat.reduceEqDiff, Nat.reduceLT, Nat.reduceLeDiff, Nat.reduceAdd, Nat.reduceMul, Nat.reduceSub, reduceCtorEq, Int.reduceLT, Int.reduceLE, Int.reduceEq, Int.reduceBEq, Int.reduceBNe, Int.reduceToNat, Int.reduceAdd, Int.reduceNeg, Int.reduceSub, Int.add_zero]
        · intro j hj
          have hjs : (m : Int) + j ≤ d.steps := by have := (n1 j hj).1; omega
          have hn := (n1 j hj).2
          have h65' := h65 j (by omega)
          rw [hn] at h65'
          simp (disch := omega) only [go_sem, ↓reduceIte, Nat.reduceBEq, Nat.reduceEqDiff, Nat.reduceLT, Nat.reduceLeDiff, Nat.reduceAdd, Nat.reduceMul, Nat.reduceSub, reduceCtorEq, Int.reduceLT, Int.reduceLE, Int.reduceEq, Int.reduceBEq, Int.reduceBNe, Int.reduceToNat, Int.reduceAdd, Int.reduceNeg, Int.reduceSub, o0, hjs, h65', wrap_i64, cellC, Int.add_assoc]
        · by_cases hS : m + n ≤ d.steps.toNat
          · have hjs : (m : Int) + n ≤ d.steps := by omega
            have hn := n3 hS
            have h65' := h65 n (by omega)
            rw [hn] at h65'
            simp (disch := omega) only [go_sem, ↓reduceIte, Nat.reduceBEq, Nat.reduceEqDiff, Nat.reduceLT, Nat.reduceLeDiff, Nat.reduceAdd, Nat.reduceMul, Nat.reduceSub, reduceCtorEq, Int.reduceLT, Int.reduceLE, Int.reduceEq, Int.reduceBEq, Int.reduceBNe, Int.reduceToNat, Int.reduceAdd, Int.reduceNeg, Int.reduceSub, o0, hjs, h65', wrap_i64, cellC]
          · have hjs : ¬ ((m : Int) + n ≤ d.steps) := by omega
            simp (disch := omega) only [go_sem, ↓reduceIte, Nat.reduceBEq, Nat.reduceEqDiff, Nat.reduceLT, Nat.reduceLeDiff, Nat.reduceAdd, Nat.reduceMul, Nat.reduceSub, reduceCtorEq, Int.reduceLT, Int.reduceLE, Int.reduceEq, Int.reduceBEq, Int.reduceBNe, Int.reduceToNat, Int.reduceAdd, Int.reduceNeg, Int.reduceSub, o0, hjs, wrap_i64, cellC]
      · intro s hR
        simp only [go_sem, ↓reduceIte, Nat.reduceBEq, Nat.reduceEqDiff, Nat.reduceLT, Nat.reduceLeDiff, Nat.reduceAdd, Nat.reduceMul, Nat.reduceSub, reduceCtorEq, Int.reduceLT, Int.reduceLE, Int.reduceEq, Int.reduceBEq, Int.reduceBNe, Int.reduceToNat, Int.reduceAdd, Int.reduceNeg, Int.reduceSub]
      · intro s e1 hR
        subst e1
        refine ⟨(C ++ (cellC (d.cards.getD i ⟨default, []⟩) :: s.1), s.2), ?_, by have e : metI d (i + 1) = metK d i i := funext (metI_succ d i); rw [e]; exact hR⟩
        simp (disch := omega) only [go_sem, ↓reduceIte, Nat.reduceBEq, Nat.reduceEqDiff, Nat.reduceLT, Nat.reduceLeDiff, Nat.reduceAdd, Nat.reduceMul, Nat.reduceSub, reduceCtorEq, Int.reduceLT, Int.reduceLE, Int.reduceEq, Int.reduceBEq, Int.reduceBNe, Int.reduceToNat, Int.reduceAdd, Int.reduceNeg, Int.reduceSub, wrap_i64]
    · intro s hR
      simp only [go_sem, ↓reduceIte, Nat.reduceBEq, Nat.reduceEqDiff, Nat.reduceLT, Nat.reduceLeDiff, Nat.reduceAdd, Nat.reduceMul, Nat.reduceSub, reduceCtorEq, Int.reduceLT, Int.reduceLE, Int.reduceEq, Int.reduceBEq, Int.reduceBNe, Int.reduceToNat, Int.reduceAdd, Int.reduceNeg, Int.reduceSub]
    · intro s e1 hR
      subst e1
      rw [enough_of hc hR]
      have o0 := old b0'
      by_cases hS : s.2 ≤ d.steps.toNat
      · rw [if_pos hS]
        have h1 : ¬ (d.steps < (s.2 : Int)) := by omega
        simp only [go_sem, ↓reduceIte, Nat.reduceBEq, Nat.reduceEqDiff, Nat.reduceLT, Nat.reduceLeDiff, Nat.reduceAdd, Nat.reduceMul, Nat.reduceSub, reduceCtorEq, Int.reduceLT, Int.reduceLE, Int.reduceEq, Int.reduceBEq, Int.reduceBNe, Int.reduceToNat, Int.reduceAdd, Int.reduceNeg, Int.reduceSub, o0, h1]
      · rw [if_neg hS]
        have h1 : d.steps < (s.2 : Int) := by have := hR.2.1; omega
        simp only [go_sem, ↓reduceIte, Nat.reduceBEq, Nat.reduceEqDiff, Nat.reduceLT, Nat.reduceLeDiff, Nat.reduceAdd, Nat.reduceMul, Nat.reduceSub, reduceCtorEq, Int.reduceLT, Int.reduceLE, Int.reduceEq, Int.reduceBEq, Int.reduceBNe, Int.reduceToNat, Int.reduceAdd, Int.reduceNeg, Int.reduceSub, o0, h1]
  · have h60 := c60_no d hd 0 (by omega) 1 0 [] (fun h => absurd rfl h) (by simp) (by rw [enterE_nil]; exact hc) ⟨[.cells (eDc d)], []⟩
    rw [enterE_nil] at h60
    have hb1 : ((checkT d).2.2 != 0) = true := by simpa using hc
    unfold enoughR
    rw [if_neg hc]
    simp only [go_sem, ↓reduceIte, Nat.reduceBEq, Nat.reduceEqDiff, Nat.reduceLT, Nat.reduceLeDiff, Nat.reduceAdd, Nat.reduceMul, Nat.reduceSub, reduceCtorEq, Int.reduceLT, Int.reduceLE, Int.reduceEq, Int.reduceBEq, Int.reduceBNe, Int.reduceToNat, Int.reduceAdd, Int.reduceNeg, Int.reduceSub, eD, eDc, eC_under] at hcl h60 ⊢
    simp only [go_sem, ↓reduceIte, Nat.reduceBEq, Nat.reduceEqDiff, Nat.reduceLT, Nat.reduceLeDiff, Nat.reduceAdd, Nat.reduceMul, Nat.reduceSub, reduceCtorEq, Int.reduceLT, Int.reduceLE, Int.reduceEq, Int.reduceBEq, Int.reduceBNe, Int.reduceToNat, Int.reduceAdd, Int.reduceNeg, Int.reduceSub, eC_clean, h60, hb1]
end Go.Proofs.Ytbfodfepgefloaa
end
section
namespace Go.Proofs.Ytbfodfepgefloaa
open Go.Proofs

theorem flatMap_same {α β : Type} {f g : α → List β} : ∀ {l : List α}, (∀ x ∈ l, f x = g x) → l.flatMap f = l.flatMap g
  | [], _ => rfl
  | x :: l, h => by rw [List.flatMap_cons, List.flatMap_cons, h x (by simp), flatMap_same fun y hy => h y (by simp [hy])]
/-- All truths that begin so, with so many halves more. -/
def dfs (d : Dr) : Nat → List Int → List (List Int)
  | 0, t => [t]
  | n + 1, t => (extK d t.length t (d.cards.length + 1)).flatMap (dfs d n)
theorem extK_len1 {d : Dr} {e : Nat} {t u : List Int} {k : Nat} (h : u ∈ extK d e t k) : u.length = t.length + 1 := by
  unfold extK at h
  obtain ⟨i, _, rfl⟩ := List.mem_map.1 h
  simp
theorem dfs_truths (d : Dr) : ∀ n k, truthsL d (k + n) = (truthsL d k).flatMap (dfs d n)
  | 0, k => by simp [dfs]
  | n + 1, k => by
    rw [show k + (n + 1) = (k + 1) + n by omega, dfs_truths d n (k + 1)]
    have e : truthsL d (k + 1) = (truthsL d k).flatMap fun t => extK d k t (d.cards.length + 1) := rfl
    rw [e, List.flatMap_assoc]
    refine flatMap_same fun t ht => ?_
    rw [dfs, truthsL_mem d k t ht]
theorem dfs_all (d : Dr) : dfs d d.halves.length [] = truthsL d d.halves.length := by
  have := dfs_truths d d.halves.length 0
  rw [Nat.zero_add] at this
  rw [this]; simp [truthsL]

/-- How the fair ones are gathered. -/
def gath (s : List (List Int) × Nat) (t : List Int) : List (List Int) × Nat :=
  if lostN t < s.2 then ([t], lostN t) else if lostN t = s.2 ∧ s.1.getLast? ≠ some t then (s.1 ++ [t], s.2) else s
theorem leastN_app (l : List (List Int)) (t : List Int) (m : Nat) : leastN (l ++ [t]) m = min (leastN l m) (lostN t) := by
  unfold leastN; rw [List.foldl_append]; rfl
/-- What has been gathered of some, no two of the same. -/
theorem gath_of (l : List (List Int)) (H : Nat) (hl : ∀ t ∈ l, lostN t ≤ H) (hn : l.Nodup) :
    l.foldl gath ([], H + 1) = (l.filter fun t => decide (lostN t = leastN l (H + 1)), leastN l (H + 1)) := by
  have key : ∀ k, k ≤ l.length → (l.take k).foldl gath ([], H + 1) = ((l.take k).filter fun t => decide (lostN t = leastN (l.take k) (H + 1)), leastN (l.take k) (H + 1)) := by
    intro k
    induction k with
    | zero => intro _; rfl
    | succ k ih =>
      intro hk
      have hx := List.getElem?_eq_getElem (show k < l.length by omega)
      rw [List.take_add_one, hx, Option.toList_some, List.foldl_append, ih (by omega), leastN_app]
      have hle := fun t ht => (leastN_le (l.take k) (H + 1)).2 t ht
      have hlt := hl _ (List.getElem_mem (show k < l.length by omega))
      generalize hm : leastN (l.take k) (H + 1) = m at *
      have hnew : l[k] ∉ l.take k := fun h => by
        obtain ⟨j, hj, e⟩ := List.mem_take_iff_getElem.1 h
        exact (List.pairwise_iff_getElem.1 hn j k (by omega) (by omega) (by omega)) e
      show gath _ _ = _
      unfold gath
      simp only
      by_cases h1 : lostN l[k] < m
      · rw [if_pos h1, List.filter_append]
        have e1 : min m (lostN l[k]) = lostN l[k] := by omega
        rw [e1]
        have e2 : (l.take k).filter (fun t => decide (lostN t = lostN l[k])) = [] := by
          rw [List.filter_eq_nil_iff]
          intro t ht
          have := hle t ht
          simp; omega
        rw [e2]; simp
      · rw [if_neg h1]
        have e1 : min m (lostN l[k]) = m := by omega
        rw [e1, List.filter_append]
        by_cases h2 : lostN l[k] = m
        · rw [if_pos ⟨h2, fun h => hnew (by
            have := List.mem_of_getLast? h
            exact (List.mem_filter.1 this).1)⟩]
          simp [h2]
        · rw [if_neg (fun h => h2 h.1)]
          simp [h2]
  have := key l.length (Nat.le_refl _)
  rwa [List.take_length] at this
theorem extK_nodup (d : Dr) (e : Nat) (t : List Int) (k : Nat) : (extK d e t k).Nodup := by
  unfold extK
  unfold List.Nodup
  rw [List.pairwise_map]
  refine List.Pairwise.imp ?_ (List.Pairwise.filter _ List.nodup_range)
  intro a b h e
  simp at e
  exact h (by omega)
theorem truthsL_nodup (d : Dr) : ∀ e, (truthsL d e).Nodup
  | 0 => by simp [truthsL]
  | e + 1 => by
    unfold truthsL
    unfold List.Nodup
    rw [List.pairwise_flatMap]
    refine ⟨fun t _ => extK_nodup d e t _, ?_⟩
    refine List.Pairwise.imp ?_ (truthsL_nodup d e)
    intro a b hab x h1 y h2 hxy
    subst hxy
    unfold extK at h1 h2
    obtain ⟨i, _, rfl⟩ := List.mem_map.1 h1
    obtain ⟨j, _, e2⟩ := List.mem_map.1 h2
    have := List.append_inj_left' e2 rfl
    exact hab this.symm
theorem leastN_big (l : List (List Int)) (H : Nat) (hl : ∀ t ∈ l, lostN t ≤ H) (hne : l ≠ []) : leastN l (H + 1) = leastN l H := by
  cases l with
  | nil => exact absurd rfl hne
  | cons t l =>
    have e : ∀ m, leastN (t :: l) m = leastN l (min m (lostN t)) := fun m => rfl
    have := hl t (by simp)
    rw [e, e, show min (H + 1) (lostN t) = min H (lostN t) by omega]
/-- The fair truths, as they are gathered. -/
theorem gath_fair (d : Dr) : (dfs d d.halves.length []).foldl gath ([], d.halves.length + 1) = (fairL d, leastN (truthsL d d.halves.length) d.halves.length) := by
  have hm : ∀ t ∈ truthsL d d.halves.length, lostN t ≤ d.halves.length := fun t ht => by have := lostN_le t; have := truthsL_mem d _ t ht; omega
  rw [dfs_all, gath_of _ _ hm (truthsL_nodup d _), leastN_big _ _ hm (truthsL_ne d _)]
  rfl
end Go.Proofs.Ytbfodfepgefloaa
end
section
namespace Go.Proofs.Ytbfodfepgefloaa
open Go.Proofs

/-- A truth, as the program lays it down. -/
def arrOf (t : List Int) : List Int := t.map (· + 1) ++ List.replicate (4 - t.length) 0
theorem arrOf_len {t : List Int} (h : t.length ≤ 4) : (arrOf t).length = 4 := by simp [arrOf]; omega
/-- What the program has laid: the truth that is made, those that are gathered, the fewest forged. -/
structure FS where
  arr : List Int
  ls : List (List Int)
  least : Nat
  tg : Nat
  z : Nat
  t : List Bool
def OwnQ (sz tag z n : Nat) (t : List Bool) : Prop := (tag = 1 ∧ (n = 0 ∨ z = sz)) ∨ ∃ q, tag = q + 2 ∧ z = sz ∧ t[q]? = some true
def FS.Good (s : FS) (H : Nat) : Prop := OwnQ 4 s.tg s.z s.ls.length s.t ∧ (s.ls = [] → H < s.least) ∧ (∀ u ∈ s.ls, u.length = H) ∧ s.least ≤ H + 1
def eA (t : List Int) : AV := .agg (I (arrOf t))
def FS.l (s : FS) : AV := .lst s.tg s.z (s.ls.map eA)
/-- The heap in which it runs. -/
def HB (P : List ABlk) (r : Nat) (LB : ABlk) (s : FS) (E : List ABlk) : List ABlk :=
  P ++ (.cells [s.l] :: .cells [.int .i64 s.least] :: .cells [.ref r 0] :: .mark :: LB :: .cells [.yld (P.length + 4)] :: .cells (I s.arr) :: .cells [.clo 83 [.ref r 0] []] :: .cells [.clo 84 [] [.ref (P.length + 2) 0, .ref (P.length + 5) 0, .ref (P.length + 6) 0, .ref (P.length + 8) 0, .ref (P.length + 7) 0]] :: E)
/-- What a round does. -/
def RoundOk (P : List ABlk) (r : Nat) (LB : ABlk) (H : Nat) : Prop :=
  ∀ (s : FS) (t : List Int) (E : List ABlk), s.Good H → t.length = H → s.arr = arrOf t → s.ls.length ≤ 700 → ∃ s' J, stepRound tabX (EW tabX) (P.length + 4) [.agg (I s.arr), .int .i64 (lostN t)] ⟨HB P r LB s E, s.t⟩ = some (.bool true, ⟨HB P r LB s' (E ++ J), s'.t⟩) ∧
    s'.arr = s.arr ∧ s'.Good H ∧ (s'.ls, s'.least) = gath (s.ls, s.least) t
theorem gath_len (s : List (List Int) × Nat) (t : List Int) : (gath s t).1.length ≤ s.1.length + 1 := by
  unfold gath
  split
  · simp
  · split
    · simp
    · simp
theorem gathL_len (l : List (List Int)) : ∀ (s : List (List Int) × Nat), (l.foldl gath s).1.length ≤ s.1.length + l.length := by
  induction l with
  | nil => intro s; simp
  | cons t l ih =>
    intro s
    have a := ih (gath s t)
    have b := gath_len s t
    simp only [List.foldl_cons, List.length_cons]
    omega
theorem fitsB_ok (d : Dr) (e c : Nat) (he : e < d.halves.length) (hc : c < d.cards.length) : fitsB d (P1 d d.halves.length) e c = okHC d e c := by
  have key : ∀ s, s < d.steps.toNat → decide (((e, c, s) : Pl) ∈ P1 d d.halves.length) = fitB d e c s := fun s hs => by
    cases hb : fitB d e c s with
    | true =>
      rw [decide_eq_true_eq]
      unfold P1 P2 P3
      exact List.mem_flatMap.2 ⟨e, by simpa using he, List.mem_flatMap.2 ⟨c, by simpa using hc, List.mem_map.2 ⟨s, List.mem_filter.2 ⟨by simpa using hs, hb⟩, rfl⟩⟩⟩
    | false =>
      rw [decide_eq_false_iff_not]
      intro hm
      unfold P1 P2 P3 at hm
      obtain ⟨e', _, hm⟩ := List.mem_flatMap.1 hm
      obtain ⟨c', _, hm⟩ := List.mem_flatMap.1 hm
      obtain ⟨s', hs', heq⟩ := List.mem_map.1 hm
      simp only [Prod.mk.injEq] at heq
      obtain ⟨rfl, rfl, rfl⟩ := heq
      have := (List.mem_filter.1 hs').2
      rw [hb] at this; cases this
  have e1 : fitsB d (P1 d d.halves.length) e c = anyTo (fun s => fitB d e c s) d.steps.toNat := by
    unfold fitsB anyTo
    congr 1
    rw [Bool.eq_iff_iff, allTo_iff, allTo_iff]
    constructor
    · intro h k hk; have := h k hk; rw [key k hk] at this; exact this
    · intro h k hk; have := h k hk; rw [key k hk]; exact this
  rw [e1, Bool.eq_iff_iff, anyTo_iff]
  unfold okHC
  rw [decide_eq_true_eq, List.length_pos_iff, fitsL]
  constructor
  · rintro ⟨k, h1, h2⟩ h
    rw [List.map_eq_nil_iff, List.filter_eq_nil_iff] at h
    exact h k (by simpa using h1) h2
  · intro h
    obtain ⟨x, hx⟩ := List.exists_mem_of_ne_nil _ h
    obtain ⟨k, hk, rfl⟩ := List.mem_map.1 hx
    obtain ⟨h1, h2⟩ := List.mem_filter.1 hk
    exact ⟨k, by simpa using h1, h2⟩
theorem flat_mono (d : Dr) (t : List Int) (n : Nat) : ∀ {j k : Nat}, j ≤ k → ((extK d t.length t j).flatMap (dfs d n)).length ≤ ((extK d t.length t k).flatMap (dfs d n)).length := fun {j k} h => by
  induction k with
  | zero => obtain rfl : j = 0 := by omega
            exact Nat.le_refl _
  | succ k ih =>
    by_cases e : j = k + 1
    · subst e; exact Nat.le_refl _
    · have := ih (by omega)
      rw [extK_succ]
      split
      · rw [List.flatMap_append, List.length_append]; omega
      · exact this
theorem extK_one (d : Dr) (t : List Int) : extK d t.length t 1 = [t ++ [-1]] := by
  rw [extK_succ]; rfl
theorem shr_and' (s i : Nat) (hs : s < 16) (hi : i < 4) : (IntKind.i64.wrap (BitVec.ofInt IntKind.i64.bits (((s : Nat) : Int).fdiv (2 ^ (min i IntKind.i64.bits))) &&& BitVec.ofInt IntKind.i64.bits 1).toNat == 1) = s.testBit i := shr_and ⟨s, hs⟩ ⟨i, hi⟩
theorem hush_84_11 : tabX.hush 84 11 = false := id rfl
/-- Whether the cards of a row are those of a set. -/
def UsedOk (used : Nat) (t : List Int) : Prop := used < 16 ∧ ∀ c, c < 4 → used.testBit c = t.any fun x => x == (c : Int)

theorem lostN_snoc (t : List Int) (x : Int) : lostN (t ++ [x]) = lostN t + (if x = -1 then 1 else 0) := by
  have e : lostL (t ++ [x]) t.length = lostL t t.length := by
    unfold lostL
    congr 1
    apply List.filter_congr
    intro i hi
    have hi := List.mem_range.1 hi
    rw [List.getD_eq_getElem?_getD, List.getElem?_append_left hi, ← List.getD_eq_getElem?_getD]
  have e2 : (t ++ [x]).getD t.length 0 = x := by simp
  unfold lostN
  rw [List.length_append, List.length_singleton, lostL_succ, e, e2]
  split
  · rename_i h; rw [if_pos (by simpa using h)]; simp
  · rename_i h; rw [if_neg (by simpa using h)]; simp
theorem I_set (l : List Int) (i : Nat) (x : Int) : (I l).set i (.int .i64 x) = I (l.set i x) := by unfold I; rw [List.map_set]
theorem splice1 (c : List AV) (off : Nat) (v : AV) : splice c off [v] = c.set off v := id rfl
theorem arr_snoc {t : List Int} (h : t.length < 4) (x : Int) : (arrOf t).set t.length (x + 1) = arrOf (t ++ [x]) := by
  unfold arrOf
  rw [List.set_append_right _ _ (by simp)]
  obtain ⟨k, hk⟩ : ∃ k, 4 - t.length = k + 1 := ⟨4 - t.length - 1, by omega⟩
  have hk2 : 4 - (t ++ [x]).length = k := by simp; omega
  rw [hk2, hk, List.replicate_succ]
  simp
theorem arr_zero {t : List Int} (h : t.length < 4) : (arrOf t).set t.length 0 = arrOf t := by
  unfold arrOf
  rw [List.set_append_right _ _ (by simp)]
  obtain ⟨k, hk⟩ : ∃ k, 4 - t.length = k + 1 := ⟨4 - t.length - 1, by omega⟩
  rw [hk, List.replicate_succ]
  simp
theorem arr_none {t : List Int} (h : t.length < 4) : arrOf (t ++ [-1]) = arrOf t := by
  rw [← arr_snoc h (-1)]; exact arr_zero h
theorem arr_back {t : List Int} (h : t.length < 4) (x : Int) : ((arrOf t).set t.length x).set t.length 0 = arrOf t := by
  rw [List.set_set]; exact arr_zero h
theorem callAV_yld2 (X : Tab) (E : Eng) (l : Nat) (args : List AV) (h : Heap) : callAV X E false (.yld l) args h = stepRound X E l args h := id rfl
theorem c84 (d : Dr) (ho : d.Ok) (P : List ABlk) (r m : Nat) (o : AV) (hr : P[r]? = some (.cells (eDc d ++ [o, .mapr m]))) (hm : P[m]? = some (.map (esL (num (P1 d d.halves.length))))) (LB : ABlk) (hY : RoundOk P r LB d.halves.length) :
    ∀ (n : Nat) (t : List Int) (used : Nat) (s : FS) (E : List ABlk), t.length + n = d.halves.length → UsedOk used t → s.Good d.halves.length → s.arr = arrOf t → s.ls.length + (dfs d n t).length ≤ 700 →
    ∃ s', (EW tabX).call 84 [.int .i64 t.length, .int .i64 used, .int .i64 (lostN t), .ref (P.length + 2) 0, .ref (P.length + 5) 0, .ref (P.length + 6) 0, .ref (P.length + 8) 0, .ref (P.length + 7) 0] ⟨HB P r LB s E, s.t⟩ = some (.bool true, ⟨HB P r LB s' E, s'.t⟩) ∧
      s'.arr = s.arr ∧ s'.Good d.halves.length ∧ (s'.ls, s'.least) = (dfs d n t).foldl gath (s.ls, s.least)
  | 0, t, used, s, E, hn, hu, hg, ha, hl => by
    have hr : P[r]? = some (.cells (eDc d ++ [o, .mapr m])) := hr
    simp only [eDc, List.cons_append, List.nil_append] at hr
    have oR := old hr
    obtain ⟨s', J, hy, h1, h2, h3⟩ := hY s t E hg (by omega) ha (by simp [dfs] at hl; omega)
    refine ⟨s', ?_, h1, h2, h3⟩
    have hth : (t.length : Int) = d.halves.length := by omega
    rw [w_call _ fn_84 rfl]
    simp only [HB, FS.l] at hy ⊢
    have h4 : 4 ≤ s.arr.length := by rw [ha, arrOf_len (by have := ho.h4; omega)]; omega
    have h4' : s.arr.take 4 = s.arr := List.take_of_length_le (by rw [ha, arrOf_len (by have := ho.h4; omega)]; omega)
    simp only [go_sem, ↓reduceIte, Nat.reduceBEq, Nat.reduceEqDiff, Nat.reduceLT, Nat.reduceLeDiff, Nat.reduceAdd, Nat.reduceMul, Nat.reduceSub, reduceCtorEq, Int.reduceLT, Int.reduceLE, Int.reduceEq, Int.reduceBEq, Int.reduceBNe, Int.reduceToNat, Int.reduceAdd, Int.reduceNeg, Int.reduceSub, oR, hth, h4, h4', callAV_yld2, hy, List.take_length_add_append]
  | n + 1, t, used, s, E, hn, hu, hg, ha, hl => by
    have ih := c84 d ho P r m o hr hm LB hY n
    simp only [eDc, List.cons_append, List.nil_append] at hr
    have oR := old hr
    have h4 := ho.h4
    have hc4 := ho.c4
    have ht4 : t.length < 4 := by omega
    have hth : ((t.length : Int) == d.halves.length) = false := by simp; omega
    have hal := arrOf_len (t := t) (by omega)
    rw [w_call _ fn_84 rfl]
    obtain ⟨arr, ls, least, tg, z, st⟩ := s
    simp only at ha hg hl
    subst ha
    simp only [HB, FS.l]
    have hb1 : (t.length : Int) < (arrOf t).length := by omega
    have ih1 := ih (t ++ [-1]) used ⟨arrOf t, ls, least, tg, z, st⟩ E (by simp; omega) (by
      refine ⟨hu.1, fun c hc => ?_⟩
      rw [hu.2 c hc, List.any_append]
      simp) hg (arr_none ht4).symm (by
      have : (dfs d n (t ++ [-1])).length ≤ (dfs d (n + 1) t).length := by
        have := flat_mono d t n (show 1 ≤ d.cards.length + 1 by omega)
        rw [extK_one] at this
        simpa [dfs] using this
      simp only; omega)
    obtain ⟨s1, hc1, a1, g1, f1⟩ := ih1
    simp only [HB, FS.l, List.length_append, List.length_singleton, lostN_snoc, if_true, Int.natCast_add, Int.natCast_one] at hc1
    have hln := lostN_le t
    have ht3 : t.length ≤ 3 := by omega
    simp (disch := omega) only [go_sem, ↓reduceIte, Nat.reduceBEq, Nat.reduceEqDiff, Nat.reduceLT, Nat.reduceLeDiff, Nat.reduceAdd, Nat.reduceMul, Nat.reduceSub, reduceCtorEq, Int.reduceLT, Int.reduceLE, Int.reduceEq, Int.reduceBEq, Int.reduceBNe, Int.reduceToNat, Int.reduceAdd, Int.reduceNeg, Int.reduceSub, oR, hth, hb1, hal, ht4, ht3, splice1, Nat.mul_one, I_set, arr_zero ht4, hc1, wrap_i64]
    generalize hx : (EW tabX).code 84 none (Code.loop _) _ = x
    refine w_rounds_sk hx (fun k (p : FS × List ABlk) => [(41, .int .i64 k)]) (fun p => ⟨HB P r LB p.1 (E ++ p.2), p.1.t⟩) (fun k p => (∃ x, p.1.arr = (arrOf t).set t.length x) ∧ p.1.Good d.halves.length ∧ (p.1.ls, p.1.least) = ((extK d t.length t (k + 1)).flatMap (dfs d n)).foldl gath (ls, least)) d.cards.length (.exit 0) (fun p => [(41, .int .i64 d.cards.length)]) rfl (s1, []) ?_ ?_ ?_ ?_ ?_ ?_
    · simp only [go_sem, ↓reduceIte, Nat.reduceBEq, Nat.reduceEqDiff, Nat.reduceLT, Nat.reduceLeDiff, Nat.reduceAdd, Nat.reduceMul, Nat.reduceSub, reduceCtorEq, Int.reduceLT, Int.reduceLE, Int.reduceEq, Int.reduceBEq, Int.reduceBNe, Int.reduceToNat, Int.reduceAdd, Int.reduceNeg, Int.reduceSub]
    · simp only [HB, FS.l, List.append_nil]
    · refine ⟨⟨0, ?_⟩, g1, ?_⟩
      · simp only [a1]; exact (arr_zero ht4).symm
      · rw [f1, extK_one]; simp
    · intro k p hk hR
      obtain ⟨⟨arr2, ls2, least2, tg2, z2, st2⟩, J⟩ := p
      obtain ⟨⟨x2, ha2⟩, g2, f2⟩ := hR
      simp only at ha2 f2
      subst ha2
      have hki : (k : Int) < d.cards.length := by omega
      have hsh := shr_and ⟨used, hu.1⟩ ⟨k, by omega⟩
      have h83 : ∀ X u, (EW tabX).call 83 [.ref r 0, .int .i64 t.length, .int .i64 k] ⟨P ++ X, u⟩ = some (.bool (okHC d t.length k), ⟨P ++ X, u⟩) := fun X u => by
        rw [← fitsB_ok d t.length k (by omega) hk]
        exact c83 d ⟨by have := ho.s1; omega, ho.s6⟩ (P1 d d.halves.length) t.length k r m o ⟨P ++ X, u⟩ (by simp only [eDc, List.cons_append, List.nil_append]; exact old hr X) (old hm X)
      have hmay : may d t.length t (k + 1) = (!(used.testBit k) && okHC d t.length k) := by rw [hu.2 k (by omega)]; rfl
      have hex := extK_succ d t.length t (k + 1)
      cases hused : used.testBit k with
      | true =>
        simp only [hused] at hsh hmay
        rw [hmay] at hex
        refine ⟨⟨⟨(arrOf t).set t.length x2, ls2, least2, tg2, z2, st2⟩, J⟩, ?_, ⟨x2, rfl⟩, g2, by rw [hex]; exact f2⟩
        simp only [HB, FS.l]
        simp (disch := omega) only [go_sem, ↓reduceIte, Nat.reduceBEq, Nat.reduceEqDiff, Nat.reduceLT, Nat.reduceLeDiff, Nat.reduceAdd, Nat.reduceMul, Nat.reduceSub, reduceCtorEq, Int.reduceLT, Int.reduceLE, Int.reduceEq, Int.reduceBEq, Int.reduceBNe, Int.reduceToNat, Int.reduceAdd, Int.reduceNeg, Int.reduceSub, hki, oR, wrap_i64]
        generalize hgg : (IntKind.i64.wrap _ == (1 : Int)) = bb
        obtain rfl : bb = true := hgg.symm.trans hsh
        simp (disch := omega) only [go_sem, ↓reduceIte, Nat.reduceBEq, Nat.reduceEqDiff, Nat.reduceLT, Nat.reduceLeDiff, Nat.reduceAdd, Nat.reduceMul, Nat.reduceSub, reduceCtorEq, Int.reduceLT, Int.reduceLE, Int.reduceEq, Int.reduceBEq, Int.reduceBNe, Int.reduceToNat, Int.reduceAdd, Int.reduceNeg, Int.reduceSub, wrap_i64]
      | false =>
        simp only [hused] at hsh hmay
        simp only [HB, FS.l]
        cases hfit : okHC d t.length k with
        | false =>
          rw [hmay, hfit] at hex
          refine ⟨⟨⟨(arrOf t).set t.length x2, ls2, least2, tg2, z2, st2⟩, J⟩, ?_, ⟨x2, rfl⟩, g2, by rw [hex]; exact f2⟩
          simp (disch := omega) only [go_sem, ↓reduceIte, Nat.reduceBEq, Nat.reduceEqDiff, Nat.reduceLT, Nat.reduceLeDiff, Nat.reduceAdd, Nat.reduceMul, Nat.reduceSub, reduceCtorEq, Int.reduceLT, Int.reduceLE, Int.reduceEq, Int.reduceBEq, Int.reduceBNe, Int.reduceToNat, Int.reduceAdd, Int.reduceNeg, Int.reduceSub, hki, oR, wrap_i64, h83, hfit]
        | true =>
          rw [hmay, hfit] at hex
          have hex : extK d t.length t (k + 1 + 1) = extK d t.length t (k + 1) ++ [t ++ [(k : Int)]] := by rw [hex]; simp
          simp (disch := omega) only [go_sem, ↓reduceIte, Nat.reduceBEq, Nat.reduceEqDiff, Nat.reduceLT, Nat.reduceLeDiff, Nat.reduceAdd, Nat.reduceMul, Nat.reduceSub, reduceCtorEq, Int.reduceLT, Int.reduceLE, Int.reduceEq, Int.reduceBEq, Int.reduceBNe, Int.reduceToNat, Int.reduceAdd, Int.reduceNeg, Int.reduceSub, hki, oR, wrap_i64, h83, hfit]
          generalize hgg : (IntKind.i64.wrap _ == (1 : Int)) = bb
          obtain rfl : bb = false := hgg.symm.trans hsh
          have hb2 : t.length < ((arrOf t).set t.length x2).length := by simp; omega
          have hb3 : ((arrOf t).set t.length x2).length = 4 := by simp; omega
          simp (disch := omega) only [go_sem, ↓reduceIte, Nat.reduceBEq, Nat.reduceEqDiff, Nat.reduceLT, Nat.reduceLeDiff, Nat.reduceAdd, Nat.reduceMul, Nat.reduceSub, reduceCtorEq, Int.reduceLT, Int.reduceLE, Int.reduceEq, Int.reduceBEq, Int.reduceBNe, Int.reduceToNat, Int.reduceAdd, Int.reduceNeg, Int.reduceSub, oR, wrap_i64, ht4, ht3, hb3, splice1, Nat.mul_one, I_set, List.set_set, arr_snoc ht4, hush_84_11]
          generalize hcf : List.all (conflicts _ _) _ = cf
          obtain rfl : cf = true := by rw [← hcf]; kernel_rfl
          generalize hbb : boundAll _ _ _ = bb
          obtain rfl : bb = true := by rw [← hbb]; kernel_rfl
          generalize List.replicate _ ABlk.none = N
          generalize List.replicate _ false = F
          generalize hog : IntKind.i64.wrap _ = ug
          obtain rfl : ug = ((used ||| 2 ^ k : Nat) : Int) := hog.symm.trans (or_bit ⟨used, hu.1⟩ ⟨k, by omega⟩)
          have hlen2 : ls2.length + (dfs d n (t ++ [(k : Int)])).length ≤ 700 := by
            have e1 : ls2.length ≤ ls.length + ((extK d t.length t (k + 1)).flatMap (dfs d n)).length := by
              have := gathL_len ((extK d t.length t (k + 1)).flatMap (dfs d n)) (ls, least)
              rw [← f2] at this; exact this
            have e2 := flat_mono d t n (show k + 1 + 1 ≤ d.cards.length + 1 by omega)
            rw [hex, List.flatMap_append, List.length_append] at e2
            simp only [List.flatMap_cons, List.flatMap_nil, List.append_nil] at e2
            have e3 : (dfs d (n + 1) t).length = ((extK d t.length t (d.cards.length + 1)).flatMap (dfs d n)).length := rfl
            omega
          have ih2 := ih (t ++ [(k : Int)]) (used ||| 2 ^ k) ⟨arrOf (t ++ [(k : Int)]), ls2, least2, tg2, z2, st2 ++ F⟩ (E ++ (J ++ N)) (by simp; omega) (by
            refine ⟨or_lt ⟨used, hu.1⟩ ⟨k, by omega⟩, fun c hc => ?_⟩
            have := or_test ⟨used, hu.1⟩ ⟨k, by omega⟩ ⟨c, hc⟩
            simp only [Fin.mk.injEq] at this
            rw [this, hu.2 c hc, List.any_append]
            congr 1
            simp only [List.any_cons, List.any_nil, Bool.or_false]
            rw [Bool.eq_iff_iff]; simp; omega) (by
            obtain ⟨q1, q2⟩ := g2
            refine ⟨?_, q2⟩
            rcases q1 with h | ⟨q, h1, h2, h3⟩
            · exact .inl h
            · exact .inr ⟨q, h1, h2, old h3 F⟩) rfl hlen2
          obtain ⟨s3, hc3, a3, g3, f3⟩ := ih2
          have hne : ((k : Int) = -1) = False := by simp
          simp only [HB, FS.l, List.length_append, List.length_singleton, lostN_snoc, hne, if_false, Nat.add_zero, Int.natCast_add, Int.natCast_one] at hc3
          refine ⟨(s3, J ++ N), ?_, ⟨(k : Int) + 1, by rw [a3, arr_snoc ht4]⟩, g3, ?_⟩
          · simp (disch := omega) only [go_sem, ↓reduceIte, Nat.reduceBEq, Nat.reduceEqDiff, Nat.reduceLT, Nat.reduceLeDiff, Nat.reduceAdd, Nat.reduceMul, Nat.reduceSub, reduceCtorEq, Int.reduceLT, Int.reduceLE, Int.reduceEq, Int.reduceBEq, Int.reduceBNe, Int.reduceToNat, Int.reduceAdd, Int.reduceNeg, Int.reduceSub, hc3, wrap_i64]
          · rw [f3, hex, List.flatMap_append, List.foldl_append, ← f2]
            simp only [List.flatMap_cons, List.flatMap_nil, List.append_nil]
    · intro p hR
      simp only [go_sem, ↓reduceIte, Nat.reduceBEq, Nat.reduceEqDiff, Nat.reduceLT, Nat.reduceLeDiff, Nat.reduceAdd, Nat.reduceMul, Nat.reduceSub, reduceCtorEq, Int.reduceLT, Int.reduceLE, Int.reduceEq, Int.reduceBEq, Int.reduceBNe, Int.reduceToNat, Int.reduceAdd, Int.reduceNeg, Int.reduceSub]
    · intro p e1 hR
      subst e1
      obtain ⟨⟨arr2, ls2, least2, tg2, z2, st2⟩, J⟩ := p
      obtain ⟨⟨x2, ha2⟩, g2, f2⟩ := hR
      simp only at ha2 f2
      subst ha2
      have hb3 : ((arrOf t).set t.length x2).length = 4 := by simp; omega
      refine ⟨⟨arrOf t, ls2, least2, tg2, z2, st2⟩, ?_, rfl, g2, f2⟩
      simp only [HB, FS.l]
      simp (disch := omega) only [go_sem, ↓reduceIte, Nat.reduceBEq, Nat.reduceEqDiff, Nat.reduceLT, Nat.reduceLeDiff, Nat.reduceAdd, Nat.reduceMul, Nat.reduceSub, reduceCtorEq, Int.reduceLT, Int.reduceLE, Int.reduceEq, Int.reduceBEq, Int.reduceBNe, Int.reduceToNat, Int.reduceAdd, Int.reduceNeg, Int.reduceSub, oR, wrap_i64, ht4, ht3, hb3, splice1, Nat.mul_one, I_set, arr_back ht4, List.take_length_add_append]
end Go.Proofs.Ytbfodfepgefloaa
end
section
namespace Go.Proofs.Ytbfodfepgefloaa
open Go.Proofs

theorem w_range (X : Tab) (f : Nat) (g : Operand) (ps : Array Tmp) (asg body : Code) (fr : Frm) (hb : List ABlk) (ht : List Bool) (ms : List Nat) {gf : Nat} {fst cap : List AV} (hg : evo fr g = .clo gf fst cap) :
    (EW X).code f none (.rangeFunc g ps asg body) ⟨fr, ⟨hb, ht⟩, ms⟩ = ((EW X).call gf (fst ++ [.yld (hb.length + 1)] ++ cap) ⟨hb ++ [.mark] ++ [.loop false .normal false f fr ps.toList asg body], ht⟩).bind fun r => afterRange (hb.length + 1) fr (hb.length :: ms) r.2 := by
  rw [ew_code]
  show enterRange (EW X) f (evo fr g) ps.toList asg body fr ⟨hb ++ [.mark], ht⟩ (hb.length :: ms) = _
  rw [hg, enterRange_eq]
  simp
theorem app_gen2 {X : Tab} {ty e : TypeId} {sz : Nat} {tag z : Nat} {t : List Bool} {xs : List AV} (hn : OwnQ sz tag z xs.length t) (u z' : Nat) (ys : List AV) (ht : trow X ty = .slice e) (hs : tsz X e = sz) (h0 : 0 < sz) (hz' : z' = sz ∨ ys.length = 0)
    (hy : (xs.length + ys.length) * tbytes X e ≤ 1048576) (hy2 : xs.length + ys.length ≤ 1048576) (hf : zeroFits X e = true) (hv : ys.all AV.var = true) :
    ∃ t2, (∀ B, appendAV X ty t.length ⟨B, t⟩ (.lst tag z xs) (.lst u z' ys) = some (.lst (t.length + 2) sz (xs ++ ys), ⟨B, t2⟩)) ∧ t2[t.length]? = some true := by
  have hc : (z' = tsz X e ∨ ys.length = 0) ∧ 0 < tsz X e ∧ (xs.length + ys.length) * tbytes X e ≤ appLimit ∧ xs.length + ys.length ≤ appLimit ∧ zeroFits X e = true ∧ ys.all AV.var = true := by
    rw [hs]; exact ⟨hz', h0, hy, hy2, hf, hv⟩
  unfold appendAV
  simp only [ht, if_pos hc]
  rcases hn with ⟨rfl, hn0⟩ | ⟨q, rfl, hq, hqt⟩
  · have hx : z = tsz X e ∨ xs.length = 0 := by rw [hs]; exact hn0.symm
    refine ⟨t ++ [true], fun B => ?_, by simp⟩
    rw [if_pos hx]
    simp only [hs, lset, Nat.lt_irrefl, if_false]
  · have hx : z = tsz X e := by rw [hs, hq]
    refine ⟨t.set q false ++ [true], fun B => ?_, by simp⟩
    simp only [hqt]
    rw [if_pos hx]
    simp only [hs, lset, List.length_set, Nat.lt_irrefl, if_false]
theorem c76 (r : Nat) (B : List ABlk) (t : List Bool) (hr : r < B.length) : (EW tabX).call 76 [.ref r 0] ⟨B, t⟩ = some (.clo 82 [] [.ref B.length 0], ⟨B ++ [.cells [.ref r 0]], t⟩) := by
  rw [w_call _ fn_76 rfl]
  have h1 : ¬ (B.length < B.length) := by omega
  have h2 : r < B.length + 1 := by omega
  simp only [go_sem, ↓reduceIte, Nat.reduceBEq, Nat.reduceEqDiff, Nat.reduceLT, Nat.reduceLeDiff, Nat.reduceAdd, Nat.reduceMul, Nat.reduceSub, reduceCtorEq, Int.reduceLT, Int.reduceLE, Int.reduceEq, Int.reduceBEq, Int.reduceBNe, Int.reduceToNat, Int.reduceAdd, Int.reduceNeg, Int.reduceSub, h1, h2]
theorem c82 (d : Dr) (ho : d.Ok) (P : List ABlk) (r m : Nat) (o : AV) (hr : P[r]? = some (.cells (eDc d ++ [o, .mapr m]))) (hm : P[m]? = some (.map (esL (num (P1 d d.halves.length))))) (LB : ABlk) (hY : RoundOk P r LB d.halves.length) (t : List Bool) :
    ∃ tg t' v, (EW tabX).call 82 [.yld (P.length + 4), .ref (P.length + 2) 0] ⟨P ++ [.cells [.lst 1 0 []], .cells [.int .i64 (d.halves.length + 1)], .cells [.ref r 0], .mark, LB], t⟩ =
      some (v, ⟨P ++ [.cells [.lst tg 4 ((fairL d).map eA)], .cells [.int .i64 (leastN (truthsL d d.halves.length) d.halves.length)], .cells [.ref r 0], .mark, LB], t'⟩) := by
  have hlt : r < P.length := (List.getElem?_eq_some_iff.1 hr).1
  have h4 := ho.h4
  have h625 : (dfs d d.halves.length []).length ≤ 625 := by
    rw [dfs_all]
    have := truthsL_len d ho.c4 d.halves.length
    have : 5 ^ d.halves.length ≤ 5 ^ 4 := Nat.pow_le_pow_right (by omega) h4
    omega
  obtain ⟨s', hc, a1, g1, f1⟩ := c84 d ho P r m o hr hm LB hY d.halves.length [] 0 ⟨arrOf [], [], d.halves.length + 1, 1, 0, t⟩ [] (by simp) ⟨by omega, fun c hc => by simp⟩ ⟨.inl ⟨rfl, .inl rfl⟩, fun _ => by simp only; omega, fun u hu => by simp at hu, by simp only; omega⟩ rfl (by simp only [List.length_nil]; omega)
  obtain ⟨arr2, ls2, least2, tg2, z2, st2⟩ := s'
  simp only at f1
  rw [gath_fair] at f1
  simp only [Prod.mk.injEq] at f1
  obtain ⟨rfl, rfl⟩ := f1
  have hz : z2 = 4 := by
    rcases g1.1 with ⟨_, h | h⟩ | ⟨_, _, h, _⟩
    · exact absurd (List.eq_nil_of_length_eq_zero h) (fairL_ne d)
    · exact h
    · exact h
  subst hz
  have e0 : arrOf [] = [0, 0, 0, 0] := rfl
  have e1 : lostN [] = 0 := rfl
  simp only [HB, FS.l, List.length_nil, List.map_nil, e0, e1, Int.natCast_add, Int.natCast_one, I_c, I_nil, cast_zero] at hc
  have o2 := hlt
  refine ⟨tg2, st2, ?_, ?_⟩
  rotate_left
  · rw [w_call _ fn_82 rfl]
    have h1 : ∀ k, r < P.length + k := fun k => by omega
    have h2 : ∀ k j, r < P.length + k + j := fun k j => by omega
    have h3 : ∀ a b c, (P.length + a < P.length + b + c) = (a < b + c) := fun a b c => by rw [Nat.add_assoc]; simp
    simp only [go_sem, ↓reduceIte, Nat.reduceBEq, Nat.reduceEqDiff, Nat.reduceLT, Nat.reduceLeDiff, Nat.reduceAdd, Nat.reduceMul, Nat.reduceSub, reduceCtorEq, Int.reduceLT, Int.reduceLE, Int.reduceEq, Int.reduceBEq, Int.reduceBNe, Int.reduceToNat, Int.reduceAdd, Int.reduceNeg, Int.reduceSub, h1, h2, h3, hc, List.take_length_add_append]
    rfl
theorem splice4 (x0 x1 x2 x3 : AV) (l : List Int) (h : l.length = 4) : splice [x0, x1, x2, x3] 0 (I l) = I l := by
  match l, h with
  | [a, b, c, d], _ => rfl
theorem eqI4 (l m : List Int) (hl : l.length = 4) (hm : m.length = 4) : eqCells [0, 0, 0, 0] (I l) (I m) = some (decide (l = m)) := by
  match l, m, hl, hm with
  | [a, b, c, d], [x, y, z, w], _, _ =>
    simp only [eqCells, I_c, I_nil, if_true, Option.map_some]
    congr 1
    rw [Bool.eq_iff_iff]
    simp
theorem arr_inj {t u : List Int} (h : t.length = u.length) (e : arrOf t = arrOf u) : t = u := by
  unfold arrOf at e
  have := (List.append_inj e (by simpa using h)).1
  have inj : ∀ (a b : List Int), a.map (· + 1) = b.map (· + 1) → a = b := by
    intro a
    induction a with
    | nil => intro b hb; cases b with
      | nil => rfl
      | cons y b => simp at hb
    | cons x a ih => intro b hb; cases b with
      | nil => simp at hb
      | cons y b =>
        simp only [List.map_cons, List.cons.injEq] at hb
        rw [ih b hb.2, show x = y by omega]
  exact inj t u this
theorem y2 (L : List Nat) (fr : Frm) (a b : Tmp) (x y : AV) : yieldFr L fr [a, b] [x, y] = some (setF L (setF L fr a x) b y) := by
  simp only [yieldFr, setFK_eq]
theorem hush_62_9 : tabX.hush 62 9 = false := id rfl
theorem c62 (d : Dr) (ho : d.Ok) (P : List ABlk) (r m : Nat) (o : AV) (hr : P[r]? = some (.cells (eDc d ++ [o, .mapr m]))) (hm : P[m]? = some (.map (esL (num (P1 d d.halves.length))))) (t : List Bool) :
    ∃ tg t', (EW tabX).call 62 [.ref r 0] ⟨P, t⟩ = some (.tup [.lst tg 4 ((fairL d).map eA), .int .i64 (leastN (truthsL d d.halves.length) d.halves.length)], ⟨P, t'⟩) := by
  have hr' := hr
  have hlt : r < P.length := (List.getElem?_eq_some_iff.1 hr).1
  simp only [eDc, List.cons_append, List.nil_append] at hr'
  have oR := old hr'
  have h4 := ho.h4
  have h76 := c76 r (P ++ [.cells [.lst 1 0 []], .cells [.int .i64 (d.halves.length + 1)]]) t (by simp; omega)
  rw [w_call _ fn_62 rfl]
  simp only [go_sem, ↓reduceIte, Nat.reduceBEq, Nat.reduceEqDiff, Nat.reduceLT, Nat.reduceLeDiff, Nat.reduceAdd, Nat.reduceMul, Nat.reduceSub, reduceCtorEq, Int.reduceLT, Int.reduceLE, Int.reduceEq, Int.reduceBEq, Int.reduceBNe, Int.reduceToNat, Int.reduceAdd, Int.reduceNeg, Int.reduceSub] at h76
  simp (disch := omega) only [go_sem, ↓reduceIte, Nat.reduceBEq, Nat.reduceEqDiff, Nat.reduceLT, Nat.reduceLeDiff, Nat.reduceAdd, Nat.reduceMul, Nat.reduceSub, reduceCtorEq, Int.reduceLT, Int.reduceLE, Int.reduceEq, Int.reduceBEq, Int.reduceBNe, Int.reduceToNat, Int.reduceAdd, Int.reduceNeg, Int.reduceSub, oR, wrap_i64, h76]
  rw [w_range (gf := 82) (fst := []) (cap := [.ref (P.length + 2) 0])]
  rotate_left
  · simp only [go_sem, ↓reduceIte, Nat.reduceBEq, Nat.reduceEqDiff, Nat.reduceLT, Nat.reduceLeDiff, Nat.reduceAdd, Nat.reduceMul, Nat.reduceSub, reduceCtorEq, Int.reduceLT, Int.reduceLE, Int.reduceEq, Int.reduceBEq, Int.reduceBNe, Int.reduceToNat, Int.reduceAdd, Int.reduceNeg, Int.reduceSub]
  generalize hLB : ABlk.loop false AExit.normal false 62 _ _ _ _ = LB
  have hY : RoundOk P r LB d.halves.length := by
    intro s u E hg hu ha hls
    obtain ⟨LB', b1, b2⟩ : ∃ LB', beginBlk LB = some LB' ∧ endBlk .normal LB' = some LB := by rw [← hLB]; exact ⟨_, rfl, rfl⟩
    have hat : (⟨HB P r LB s E, s.t⟩ : Heap).b[P.length + 4]? = some LB := by simp only [HB, go_sem, ↓reduceIte, Nat.reduceBEq, Nat.reduceEqDiff, Nat.reduceLT, Nat.reduceLeDiff, Nat.reduceAdd, Nat.reduceMul, Nat.reduceSub, reduceCtorEq, Int.reduceLT, Int.reduceLE, Int.reduceEq, Int.reduceBEq, Int.reduceBNe, Int.reduceToNat, Int.reduceAdd, Int.reduceNeg, Int.reduceSub]
    have hat2 := hat.trans (congrArg some hLB.symm)
    rw [stepRound_eq tabX hat2]
    obtain ⟨arr, ls, least, tg, z, st⟩ := s
    obtain ⟨gq, gl, gu, gm⟩ := hg
    simp only at ha hls gq gl gu gm
    subst ha
    have hal := arrOf_len (t := u) (by omega)
    have h4' : (arrOf u).take 4 = arrOf u := List.take_of_length_le (by omega)
    simp only [HB, FS.l, y2, Option.bind_some, roundK]
    clear hLB hat hat2
    have hpos : 0 < (arrOf u).length := by omega
    have hsp := fun x0 x1 x2 x3 => splice4 x0 x1 x2 x3 (arrOf u) hal
    have h44 : 4 ≤ (arrOf u).length := by omega
    by_cases c1 : lostN u < least
    · have c1' : (lostN u : Int) < least := by omega
      have eg : gath (ls, least) u = ([u], lostN u) := by unfold gath; rw [if_pos c1]
      rw [eg]
      simp (disch := omega) only [go_sem, ↓reduceIte, Nat.reduceBEq, Nat.reduceEqDiff, Nat.reduceLT, Nat.reduceLeDiff, Nat.reduceAdd, Nat.reduceMul, Nat.reduceSub, reduceCtorEq, Int.reduceLT, Int.reduceLE, Int.reduceEq, Int.reduceBEq, Int.reduceBNe, Int.reduceToNat, Int.reduceAdd, Int.reduceNeg, Int.reduceSub, turnBlk, b1, b2, c1', hpos, hal, hsp, h44, h4', isNormal]
      exact ⟨⟨arrOf u, [u], lostN u, 1, 4, st⟩, [.cells (I (arrOf u))], rfl, rfl, ⟨.inl ⟨rfl, .inr rfl⟩, fun h => (by cases h), fun v hv => (by simp at hv; subst hv; exact hu), by simp only; omega⟩, rfl⟩
    · have c1' : ¬ ((lostN u : Int) < least) := by omega
      by_cases c2 : lostN u = least
      · have c2' : ((lostN u : Int) == least) = true := by simp [c2]
        have hne : ls ≠ [] := fun h => by have := gl h; have := lostN_le u; omega
        obtain ⟨w, hw⟩ : ∃ w, ls.getLast? = some w := by
          cases h : ls.getLast? with
          | none => exact absurd (List.getLast?_eq_none_iff.1 h) hne
          | some w => exact ⟨w, rfl⟩
        have hlen : 0 < ls.length := List.length_pos_iff.2 hne
        have hwl : w.length = d.halves.length := gu w (List.mem_of_getLast? hw)
        have hget : (ls.map eA)[ls.length - 1]? = some (eA w) := by
          rw [List.getElem?_map, ← List.getLast?_eq_getElem?, hw]; rfl
        have i1 : ((ls.length : Int) - 1 < 0) = False := by simp; omega
        have i2 : ((ls.length : Int) - 1).toNat = ls.length - 1 := by omega
        have i3 : z = 4 := by
          rcases gq with ⟨_, h | h⟩ | ⟨_, _, h, _⟩
          · omega
          · exact h
          · exact h
        subst i3
        have hwal := arrOf_len (t := w) (by omega)
        have hw4 : 4 ≤ (arrOf w).length := by omega
        have hw4' : (arrOf w).take 4 = arrOf w := List.take_of_length_le (by omega)
        have heq := eqI4 (arrOf w) (arrOf u) hwal hal
        have hdec : decide (arrOf w = arrOf u) = decide (w = u) := by
          by_cases e : w = u
          · subst e; simp
          · have e2 : ¬ arrOf w = arrOf u := fun h => e (arr_inj (by omega) h)
            simp [e, e2]
        rw [hdec] at heq
        by_cases hwu : w = u
        · have eg : gath (ls, least) u = (ls, least) := by unfold gath; rw [if_neg c1, if_neg (fun h => h.2 (by rw [hw, hwu]))]
          rw [eg]
          rw [decide_eq_true hwu] at heq
          simp (disch := omega) only [go_sem, ↓reduceIte, Nat.reduceBEq, Nat.reduceEqDiff, Nat.reduceLT, Nat.reduceLeDiff, Nat.reduceAdd, Nat.reduceMul, Nat.reduceSub, reduceCtorEq, Int.reduceLT, Int.reduceLE, Int.reduceEq, Int.reduceBEq, Int.reduceBNe, Int.reduceToNat, Int.reduceAdd, Int.reduceNeg, Int.reduceSub, turnBlk, b1, b2, c1', c2', hpos, hal, hsp, h44, h4', isNormal, wrap_i64, i1, i2, hget, eA, hw4, hw4', aggBin, heq]
          exact ⟨⟨arrOf u, ls, least, tg, 4, st⟩, [.cells (I (arrOf u))], rfl, rfl, ⟨gq, gl, gu, gm⟩, rfl⟩
        · have eg : gath (ls, least) u = (ls ++ [u], least) := by unfold gath; rw [if_neg c1, if_pos ⟨c2, fun h => hwu (by rw [hw] at h; exact Option.some.inj h)⟩]
          rw [eg]
          rw [decide_eq_false hwu] at heq
          have hun : ∀ n, underL n (ls.map eA) = true := fun n => underL_map (fun x => by simp only [eA, go_sem, ↓reduceIte, Nat.reduceBEq, Nat.reduceEqDiff, Nat.reduceLT, Nat.reduceLeDiff, Nat.reduceAdd, Nat.reduceMul, Nat.reduceSub, reduceCtorEq, Int.reduceLT, Int.reduceLE, Int.reduceEq, Int.reduceBEq, Int.reduceBNe, Int.reduceToNat, Int.reduceAdd, Int.reduceNeg, Int.reduceSub]) ls
          obtain ⟨t2, p1, p2⟩ := app_gen2 (X := tabX) (ty := 92) (e := 96) (sz := 4) (tag := tg) (z := 4) (t := st) (xs := ls.map eA) (by simpa using gq) 1 4 [.agg (I (arrOf u))] (by simp only [go_sem, ↓reduceIte, Nat.reduceBEq, Nat.reduceEqDiff, Nat.reduceLT, Nat.reduceLeDiff, Nat.reduceAdd, Nat.reduceMul, Nat.reduceSub, reduceCtorEq, Int.reduceLT, Int.reduceLE, Int.reduceEq, Int.reduceBEq, Int.reduceBNe, Int.reduceToNat, Int.reduceAdd, Int.reduceNeg, Int.reduceSub]) (by simp only [go_sem, ↓reduceIte, Nat.reduceBEq, Nat.reduceEqDiff, Nat.reduceLT, Nat.reduceLeDiff, Nat.reduceAdd, Nat.reduceMul, Nat.reduceSub, reduceCtorEq, Int.reduceLT, Int.reduceLE, Int.reduceEq, Int.reduceBEq, Int.reduceBNe, Int.reduceToNat, Int.reduceAdd, Int.reduceNeg, Int.reduceSub]) (by omega) (.inl rfl) (by simp only [go_sem, ↓reduceIte, Nat.reduceBEq, Nat.reduceEqDiff, Nat.reduceLT, Nat.reduceLeDiff, Nat.reduceAdd, Nat.reduceMul, Nat.reduceSub, reduceCtorEq, Int.reduceLT, Int.reduceLE, Int.reduceEq, Int.reduceBEq, Int.reduceBNe, Int.reduceToNat, Int.reduceAdd, Int.reduceNeg, Int.reduceSub, List.length_map]; omega) (by simp only [go_sem, ↓reduceIte, Nat.reduceBEq, Nat.reduceEqDiff, Nat.reduceLT, Nat.reduceLeDiff, Nat.reduceAdd, Nat.reduceMul, Nat.reduceSub, reduceCtorEq, Int.reduceLT, Int.reduceLE, Int.reduceEq, Int.reduceBEq, Int.reduceBNe, Int.reduceToNat, Int.reduceAdd, Int.reduceNeg, Int.reduceSub, List.length_map]; omega) (by simp only [go_sem, ↓reduceIte, Nat.reduceBEq, Nat.reduceEqDiff, Nat.reduceLT, Nat.reduceLeDiff, Nat.reduceAdd, Nat.reduceMul, Nat.reduceSub, reduceCtorEq, Int.reduceLT, Int.reduceLE, Int.reduceEq, Int.reduceBEq, Int.reduceBNe, Int.reduceToNat, Int.reduceAdd, Int.reduceNeg, Int.reduceSub]) (by simp only [go_sem, ↓reduceIte, Nat.reduceBEq, Nat.reduceEqDiff, Nat.reduceLT, Nat.reduceLeDiff, Nat.reduceAdd, Nat.reduceMul, Nat.reduceSub, reduceCtorEq, Int.reduceLT, Int.reduceLE, Int.reduceEq, Int.reduceBEq, Int.reduceBNe, Int.reduceToNat, Int.reduceAdd, Int.reduceNeg, Int.reduceSub])
          simp (disch := omega) only [go_sem, ↓reduceIte, Nat.reduceBEq, Nat.reduceEqDiff, Nat.reduceLT, Nat.reduceLeDiff, Nat.reduceAdd, Nat.reduceMul, Nat.reduceSub, reduceCtorEq, Int.reduceLT, Int.reduceLE, Int.reduceEq, Int.reduceBEq, Int.reduceBNe, Int.reduceToNat, Int.reduceAdd, Int.reduceNeg, Int.reduceSub, turnBlk, b1, b2, c1', c2', hpos, hal, hsp, h44, h4', isNormal, wrap_i64, i1, i2, hget, eA, hw4, hw4', aggBin, heq, p1, hun]
          exact ⟨⟨arrOf u, ls ++ [u], least, st.length + 2, 4, t2⟩, [.cells (I (arrOf u))], by simp only [List.map_append, List.map_cons, List.map_nil, eA], rfl, ⟨.inr ⟨st.length, rfl, rfl, p2⟩, fun h => by simp at h, fun v hv => by
            rcases List.mem_append.1 hv with h | h
            · exact gu v h
            · simp at h; subst h; exact hu, gm⟩, rfl⟩
      · have c2' : ((lostN u : Int) == least) = false := by simp; omega
        have eg : gath (ls, least) u = (ls, least) := by unfold gath; rw [if_neg c1, if_neg (fun h => c2 h.1)]
        rw [eg]
        simp (disch := omega) only [go_sem, ↓reduceIte, Nat.reduceBEq, Nat.reduceEqDiff, Nat.reduceLT, Nat.reduceLeDiff, Nat.reduceAdd, Nat.reduceMul, Nat.reduceSub, reduceCtorEq, Int.reduceLT, Int.reduceLE, Int.reduceEq, Int.reduceBEq, Int.reduceBNe, Int.reduceToNat, Int.reduceAdd, Int.reduceNeg, Int.reduceSub, turnBlk, b1, b2, c1', c2', hpos, hal, hsp, h44, h4', isNormal]
        exact ⟨⟨arrOf u, ls, least, tg, z, st⟩, [.cells (I (arrOf u))], rfl, rfl, ⟨gq, gl, gu, gm⟩, rfl⟩
  obtain ⟨tg, t', v, h82⟩ := c82 d ho P r m o hr hm LB hY t
  subst hLB
  have hun : ∀ n, underL n ((fairL d).map eA) = true := fun n => underL_map (fun x => by simp only [eA, go_sem, ↓reduceIte, Nat.reduceBEq, Nat.reduceEqDiff, Nat.reduceLT, Nat.reduceLeDiff, Nat.reduceAdd, Nat.reduceMul, Nat.reduceSub, reduceCtorEq, Int.reduceLT, Int.reduceLE, Int.reduceEq, Int.reduceBEq, Int.reduceBNe, Int.reduceToNat, Int.reduceAdd, Int.reduceNeg, Int.reduceSub]) (fairL d)
  refine ⟨tg, ?_⟩
  simp only [go_sem, ↓reduceIte, Nat.reduceBEq, Nat.reduceEqDiff, Nat.reduceLT, Nat.reduceLeDiff, Nat.reduceAdd, Nat.reduceMul, Nat.reduceSub, reduceCtorEq, Int.reduceLT, Int.reduceLE, Int.reduceEq, Int.reduceBEq, Int.reduceBNe, Int.reduceToNat, Int.reduceAdd, Int.reduceNeg, Int.reduceSub] at h82 ⊢
  have h31 : P.length + 3 + 1 = P.length + 4 := rfl
  simp only [go_sem, ↓reduceIte, Nat.reduceBEq, Nat.reduceEqDiff, Nat.reduceLT, Nat.reduceLeDiff, Nat.reduceAdd, Nat.reduceMul, Nat.reduceSub, reduceCtorEq, Int.reduceLT, Int.reduceLE, Int.reduceEq, Int.reduceBEq, Int.reduceBNe, Int.reduceToNat, Int.reduceAdd, Int.reduceNeg, Int.reduceSub, h82, afterRange, hush_62_9, h31]
  generalize hcl : conflicts _ _ = cl
  obtain rfl : cl = [(3, 2)] := by rw [← hcl]; kernel_rfl
  have hap : ((P.length + 1) != P.length) = true := by simp
  generalize List.replicate _ ABlk.none = N
  generalize List.replicate _ false = F
  simp only [go_sem, ↓reduceIte, Nat.reduceBEq, Nat.reduceEqDiff, Nat.reduceLT, Nat.reduceLeDiff, Nat.reduceAdd, Nat.reduceMul, Nat.reduceSub, reduceCtorEq, Int.reduceLT, Int.reduceLE, Int.reduceEq, Int.reduceBEq, Int.reduceBNe, Int.reduceToNat, Int.reduceAdd, Int.reduceNeg, Int.reduceSub, refsApart, hap, hun]
  exact ⟨_, rfl⟩
end Go.Proofs.Ytbfodfepgefloaa
end
section
namespace Go.Proofs.Ytbfodfepgefloaa
open Go.Proofs

theorem truth_rng (d : Dr) : ∀ (e : Nat) (t : List Int), t ∈ truthsL d e → ∀ x ∈ t, -1 ≤ x ∧ x < d.cards.length
  | 0, t, h, x, hx => by simp [truthsL] at h; subst h; cases hx
  | e + 1, t, h, x, hx => by
    unfold truthsL at h
    obtain ⟨u, hu, ht⟩ := List.mem_flatMap.1 h
    unfold extK at ht
    obtain ⟨i, hi, rfl⟩ := List.mem_map.1 ht
    rcases List.mem_append.1 hx with h1 | h1
    · exact truth_rng d e u hu x h1
    · simp at h1; subst h1
      have := List.mem_range.1 (List.mem_filter.1 hi).1
      omega
theorem first_lost (d : Dr) : lostN (first d) = leastN (truthsL d d.halves.length) d.halves.length := by
  have := (List.mem_filter.1 (first_mem d)).2
  simpa using this
theorem fairL_get (d : Dr) (k : Nat) {t : List Int} (h : (fairL d)[k]? = some t) : ((fairL d).map eA)[k]? = some (eA t) := by rw [List.getElem?_map, h]; rfl
theorem rowsOf_I (l : List Int) : ∀ n off, off + n ≤ l.length → rowsOf 1 (I l) off n = some (((I l).drop off).take n)
  | 0, off, _ => by simp [rowsOf]
  | n + 1, off, h => by
    have hlt : off < l.length := by omega
    have hx : (I l)[off]? = some (.int .i64 l[off]) := by rw [I_get, List.getElem?_eq_getElem hlt]; rfl
    have hr : rowAt 1 (I l) off = some (.int .i64 l[off]) := by simp [rowAt, hx, AV.one]
    have hd : (I l).drop off = .int .i64 l[off] :: (I l).drop (off + 1) := by
      have hl : off < (I l).length := by rw [I_len]; exact hlt
      rw [List.drop_eq_getElem_cons hl]
      congr 1
      rw [List.getElem?_eq_getElem hl] at hx
      exact Option.some.inj hx
    rw [rowsOf, hr, rowsOf_I l n (off + 1) (by omega), hd]
    rfl
theorem frz_int (h : Heap) (k : Nat) (q : IntKind) (n : Int) : frz h (k + 1) (.int q n) = some (.int q n) := by simp [frz, AV.clean]
theorem frz_I (h : Heap) (k : Nat) : ∀ l : List Int, optL ((I l).map (frz h (k + 1))) = some (I l)
  | [] => rfl
  | x :: l => by
    have e : optL ((I (x :: l)).map (frz h (k + 1))) = match frz h (k + 1) (.int .i64 x), optL ((I l).map (frz h (k + 1))) with
      | some y, some ys => some (y :: ys)
      | _, _ => none := rfl
    rw [e, frz_int, frz_I h k l]; rfl
theorem frz_bsl (h : Heap) (k b n : Nat) (l : List Int) (hb : h.b[b]? = some (.cells (I l))) (hn : n = l.length) : frz h (k + 2) (.bsl b 0 n 1) = some (.lst 0 1 (I l)) := by
  have hr := rowsOf_I l n 0 (by omega)
  have ht : ((I l).drop 0).take n = I l := by rw [List.drop_zero]; exact List.take_of_length_le (by rw [I_len]; omega)
  rw [ht] at hr
  have e : frz h (k + 2) (.bsl b 0 n 1) = match h.b[b]? with
      | some (.cells c) => match rowsOf 1 c 0 n with
        | some xs => match optL (xs.map (frz h (k + 1))) with
          | some ys => some (.lst 0 1 ys)
          | none => none
        | none => none
      | _ => none := rfl
  rw [e, hb]
  simp only
  rw [hr]
  simp only
  rw [frz_I h k l]
/-- Partly lowered by one. -/
def mix (t : List Int) (k : Nat) : List Int := t.take k ++ (t.drop k).map (· + 1)
theorem mix_len (t : List Int) (k : Nat) : (mix t k).length = t.length := by simp [mix]; omega
theorem mix_get {t : List Int} {k : Nat} (h : k < t.length) : (mix t k)[k]? = some (t[k] + 1) := by
  unfold mix
  rw [List.getElem?_append_right (by rw [List.length_take]; omega), List.length_take, Nat.min_eq_left (by omega), Nat.sub_self]
  rw [List.drop_eq_getElem_cons h]; rfl
theorem mix_set {t : List Int} {k : Nat} (h : k < t.length) : (mix t k).set k t[k] = mix t (k + 1) := by
  unfold mix
  have hl : (t.take k).length = k := by rw [List.length_take]; omega
  rw [List.set_append_right _ _ (by omega), hl, Nat.sub_self, List.drop_eq_getElem_cons h, List.map_cons, List.set_cons_zero, List.take_add_one, List.getElem?_eq_getElem h, Option.toList_some, List.append_assoc]
  rfl
theorem mix_zero (t : List Int) : mix t 0 = t.map (· + 1) := by simp [mix]
theorem mix_all (t : List Int) : mix t t.length = t := by simp [mix]
theorem arr_take (t : List Int) : (arrOf t).take t.length = mix t 0 := by
  rw [mix_zero]; unfold arrOf
  rw [List.take_append_of_le_length (by simp)]
  exact List.take_of_length_le (by simp)
theorem splice_len (vs : List AV) : ∀ (c : List AV) (off : Nat), off + vs.length ≤ c.length → splice c off vs = c.take off ++ vs ++ c.drop (off + vs.length) := by
  induction vs with
  | nil => intro c off h; simp [splice]
  | cons v vs ih =>
    intro c off h
    simp only [List.length_cons] at h
    have e : splice c off (v :: vs) = splice (c.set off v) (off + 1) vs := rfl
    rw [e, ih _ _ (by simp; omega)]
    have h1 : (c.set off v).take (off + 1) = c.take off ++ [v] := by
      rw [List.take_add_one, List.getElem?_set_self (by omega), List.take_set_of_le (Nat.le_refl _)]; rfl
    have h2 : (c.set off v).drop (off + 1 + vs.length) = c.drop (off + (vs.length + 1)) := by
      rw [List.drop_set_of_lt (by omega)]; congr 1; omega
    rw [h1, h2]; simp
theorem splice_all (c vs : List AV) (h : vs.length = c.length) : splice c 0 vs = vs := by
  rw [splice_len vs c 0 (by omega)]; simp [h]
theorem c22_no (d : Dr) (hd : d.fits) (he : (checkT d).2.2 ≠ 0) (h : Heap) : callPure (EW tabX) 22 [eD d] h = some (.tup [vI [], .int .i64 0, .int .i64 (checkT d).2.2], h) := by
  have hcl := eD_clean d
  have h60 := c60_no d hd 0 (by omega) 1 0 [] (fun h => absurd rfl h) (by simp) (by rw [enterE_nil]; exact he) ⟨[.cells (eDc d)], []⟩
  rw [enterE_nil] at h60
  have hb1 : ((checkT d).2.2 != 0) = true := by simpa using he
  rw [callPure_eq, w_call _ fn_22 rfl]
  simp only [go_sem, ↓reduceIte, Nat.reduceBEq, Nat.reduceEqDiff, Nat.reduceLT, Nat.reduceLeDiff, Nat.reduceAdd, Nat.reduceMul, Nat.reduceSub, reduceCtorEq, Int.reduceLT, Int.reduceLE, Int.reduceEq, Int.reduceBEq, Int.reduceBNe, Int.reduceToNat, Int.reduceAdd, Int.reduceNeg, Int.reduceSub, eD, eDc, eC_under] at hcl h60 ⊢
  simp only [go_sem, ↓reduceIte, Nat.reduceBEq, Nat.reduceEqDiff, Nat.reduceLT, Nat.reduceLeDiff, Nat.reduceAdd, Nat.reduceMul, Nat.reduceSub, reduceCtorEq, Int.reduceLT, Int.reduceLE, Int.reduceEq, Int.reduceBEq, Int.reduceBNe, Int.reduceToNat, Int.reduceAdd, Int.reduceNeg, Int.reduceSub, eC_clean, h60, hb1, vI_nil]
theorem c22_yes (d : Dr) (hd : d.fits) (he : (checkT d).2.2 = 0) (h : Heap) : callPure (EW tabX) 22 [eD d] h = some (.tup [.lst 0 1 (I (first d)), .int .i64 (lostN (first d)), .int .i64 0], h) := by
  have hcl := eD_clean d
  obtain ⟨ho, B, t, tag, zz, h60, b0, b4, b3, hown⟩ := enter_yes d hd 0 (by omega) 1 0 [] (fun h => absurd rfl h) (by simp) (by rw [enterE_nil]; exact he)
  obtain ⟨tg, t', h62⟩ := c62 d ho B 4 3 _ b4 b3 t
  have hf0 := fairL_get d 0 (fairL_zero d)
  have hfl := (fairL_mem (first_mem d)).2
  have h4 := ho.h4
  rw [← first_lost] at h62
  simp only [eDc, List.cons_append, List.nil_append] at b0
  have o0 := old b0
  rw [callPure_eq, w_call _ fn_22 rfl]
  simp only [go_sem, ↓reduceIte, Nat.reduceBEq, Nat.reduceEqDiff, Nat.reduceLT, Nat.reduceLeDiff, Nat.reduceAdd, Nat.reduceMul, Nat.reduceSub, reduceCtorEq, Int.reduceLT, Int.reduceLE, Int.reduceEq, Int.reduceBEq, Int.reduceBNe, Int.reduceToNat, Int.reduceAdd, Int.reduceNeg, Int.reduceSub, eD, eDc, eC_under] at hcl h60 ⊢
  have hm : (d.halves.length : Int) ≤ 4096 := by omega
  have hm2 : ((d.halves.length : Int) ≤ 4096) = True := by simp; omega
  have hp0 : (0 : Int) ≤ d.halves.length := by omega
  have hal := arrOf_len (t := first d) (by omega)
  have h44 : 4 ≤ (arrOf (first d)).length := by omega
  have h4' : (arrOf (first d)).take 4 = arrOf (first d) := List.take_of_length_le (by omega)
  have hfz : ∀ B' : List ABlk, frz ⟨B ++ [.cells (I (first d))], t'⟩ 6 (.tup [.bsl B.length 0 d.halves.length 1, .int .i64 (lostN (first d)), .int .i64 0]) = some (.tup [.lst 0 1 (I (first d)), .int .i64 (lostN (first d)), .int .i64 0]) := fun _ => by
    have h1 := frz_bsl ⟨B ++ [.cells (I (first d))], t'⟩ 3 B.length d.halves.length (first d) (by simp) hfl.symm
    have e : frz ⟨B ++ [.cells (I (first d))], t'⟩ 6 (.tup [.bsl B.length 0 d.halves.length 1, .int .i64 (lostN (first d)), .int .i64 0]) = match optL [frz ⟨B ++ [.cells (I (first d))], t'⟩ 5 (.bsl B.length 0 d.halves.length 1), frz ⟨B ++ [.cells (I (first d))], t'⟩ 5 (.int .i64 (lostN (first d))), frz ⟨B ++ [.cells (I (first d))], t'⟩ 5 (.int .i64 0)] with
      | some ys => some (.tup ys)
      | none => none := rfl
    rw [e, h1, frz_int, frz_int]; rfl
  have hnu : ¬ (B.length < 0) := by omega
  by_cases h0 : d.halves.length = 0
  · have hnil : first d = [] := List.eq_nil_of_length_eq_zero (by omega)
    rw [h0] at hfz
    rw [hnil] at hfz
    have hfz := hfz []
    simp only [I_nil] at hfz
    simp only [go_sem, ↓reduceIte, Nat.reduceBEq, Nat.reduceEqDiff, Nat.reduceLT, Nat.reduceLeDiff, Nat.reduceAdd, Nat.reduceMul, Nat.reduceSub, reduceCtorEq, Int.reduceLT, Int.reduceLE, Int.reduceEq, Int.reduceBEq, Int.reduceBNe, Int.reduceToNat, Int.reduceAdd, Int.reduceNeg, Int.reduceSub, eC_clean, h60, h62, b0, opMakeSlice, opCopy, hf0, eA, h0, o0, hal, h44, h4']
    rw [w_rounds_u (fun k => [(32, .int .i64 k)]) 0 (.exit 0) [(32, .int .i64 0)] ?_ ?_ ?_ rfl]
    · simp only [go_sem, ↓reduceIte, Nat.reduceBEq, Nat.reduceEqDiff, Nat.reduceLT, Nat.reduceLeDiff, Nat.reduceAdd, Nat.reduceMul, Nat.reduceSub, reduceCtorEq, Int.reduceLT, Int.reduceLE, Int.reduceEq, Int.reduceBEq, Int.reduceBNe, Int.reduceToNat, Int.reduceAdd, Int.reduceNeg, Int.reduceSub, hnu, orW_none, hfz, hnil]
    · simp only [go_sem, ↓reduceIte, Nat.reduceBEq, Nat.reduceEqDiff, Nat.reduceLT, Nat.reduceLeDiff, Nat.reduceAdd, Nat.reduceMul, Nat.reduceSub, reduceCtorEq, Int.reduceLT, Int.reduceLE, Int.reduceEq, Int.reduceBEq, Int.reduceBNe, Int.reduceToNat, Int.reduceAdd, Int.reduceNeg, Int.reduceSub]
    · intro k hk; omega
    · simp only [go_sem, ↓reduceIte, Nat.reduceBEq, Nat.reduceEqDiff, Nat.reduceLT, Nat.reduceLeDiff, Nat.reduceAdd, Nat.reduceMul, Nat.reduceSub, reduceCtorEq, Int.reduceLT, Int.reduceLE, Int.reduceEq, Int.reduceBEq, Int.reduceBNe, Int.reduceToNat, Int.reduceAdd, Int.reduceNeg, Int.reduceSub]
  · have hpos : 0 < d.halves.length := by omega
    have hat := arr_take (first d)
    rw [hfl] at hat
    have hml := mix_len (first d) 0
    have hsp := splice_all (List.replicate d.halves.length (AV.int .i64 0)) (I (mix (first d) 0)) (by rw [I_len, List.length_replicate]; omega)
    have hrl : (List.replicate d.halves.length (AV.int .i64 0)).length = d.halves.length := List.length_replicate
    simp only [go_sem, ↓reduceIte, Nat.reduceBEq, Nat.reduceEqDiff, Nat.reduceLT, Nat.reduceLeDiff, Nat.reduceAdd, Nat.reduceMul, Nat.reduceSub, reduceCtorEq, Int.reduceLT, Int.reduceLE, Int.reduceEq, Int.reduceBEq, Int.reduceBNe, Int.reduceToNat, Int.reduceAdd, Int.reduceNeg, Int.reduceSub, eC_clean, h60, h62, b0, opMakeSlice, opCopy, hm, hf0, eA, hp0, o0, hal, h44, h4', hat, hsp, hrl, hpos]
    rw [w_rounds_h (fun k => [(32, .int .i64 k)]) (fun k => ⟨B ++ [.cells (I (mix (first d) k))], t'⟩) d.halves.length (.exit 0) [(32, .int .i64 d.halves.length)] ⟨B ++ [.cells (I (first d))], t'⟩ ?_ ?_ ?_ ?_ rfl]
    · simp only [go_sem, ↓reduceIte, Nat.reduceBEq, Nat.reduceEqDiff, Nat.reduceLT, Nat.reduceLeDiff, Nat.reduceAdd, Nat.reduceMul, Nat.reduceSub, reduceCtorEq, Int.reduceLT, Int.reduceLE, Int.reduceEq, Int.reduceBEq, Int.reduceBNe, Int.reduceToNat, Int.reduceAdd, Int.reduceNeg, Int.reduceSub, hnu, orW_none, hfz []]
    · simp only [go_sem, ↓reduceIte, Nat.reduceBEq, Nat.reduceEqDiff, Nat.reduceLT, Nat.reduceLeDiff, Nat.reduceAdd, Nat.reduceMul, Nat.reduceSub, reduceCtorEq, Int.reduceLT, Int.reduceLE, Int.reduceEq, Int.reduceBEq, Int.reduceBNe, Int.reduceToNat, Int.reduceAdd, Int.reduceNeg, Int.reduceSub]
    · simp only [go_sem, ↓reduceIte, Nat.reduceBEq, Nat.reduceEqDiff, Nat.reduceLT, Nat.reduceLeDiff, Nat.reduceAdd, Nat.reduceMul, Nat.reduceSub, reduceCtorEq, Int.reduceLT, Int.reduceLE, Int.reduceEq, Int.reduceBEq, Int.reduceBNe, Int.reduceToNat, Int.reduceAdd, Int.reduceNeg, Int.reduceSub]
    · intro k hk
      have hk' : k < (first d).length := by omega
      have hki : (k : Int) < d.halves.length := by omega
      have hgk := mix_get hk'
      have hml := mix_len (first d) k
      have hst := mix_set hk'
      have hr := truth_rng d _ _ (fairL_mem (first_mem d)).1 (first d)[k] (List.getElem_mem hk')
      have hc4 := ho.c4
      have hw : (first d)[k] + 1 - 1 = (first d)[k] := by omega
      have hk1 : k + 1 ≤ (first d).length := by omega
      simp (disch := omega) only [go_sem, ↓reduceIte, Nat.reduceBEq, Nat.reduceEqDiff, Nat.reduceLT, Nat.reduceLeDiff, Nat.reduceAdd, Nat.reduceMul, Nat.reduceSub, reduceCtorEq, Int.reduceLT, Int.reduceLE, Int.reduceEq, Int.reduceBEq, Int.reduceBNe, Int.reduceToNat, Int.reduceAdd, Int.reduceNeg, Int.reduceSub, hki, hk, hgk, hml, wrap_i64, Nat.mul_one, List.getElem?_drop, hw, hk1, splice1, I_set, hst]
    · have e := mix_all (first d)
      rw [hfl] at e
      simp only [go_sem, ↓reduceIte, Nat.reduceBEq, Nat.reduceEqDiff, Nat.reduceLT, Nat.reduceLeDiff, Nat.reduceAdd, Nat.reduceMul, Nat.reduceSub, reduceCtorEq, Int.reduceLT, Int.reduceLE, Int.reduceEq, Int.reduceBEq, Int.reduceBNe, Int.reduceToNat, Int.reduceAdd, Int.reduceNeg, Int.reduceSub, e]
end Go.Proofs.Ytbfodfepgefloaa
end
section
namespace Go.Proofs.Ytbfodfepgefloaa
open Go.Proofs

def cellA (t : List Int) : ABlk := .cells (I (arrOf t))
theorem arr_get {t : List Int} {k : Nat} (h : k < t.length) : (arrOf t)[k]? = some (t.getD k 0 + 1) := by
  unfold arrOf
  rw [List.getElem?_append_left (by simpa using h), List.getElem?_map, List.getD_eq_getElem?_getD, List.getElem?_eq_getElem h]; rfl
/-- The best so far, behind so many truths. -/
def bestN (d : Dr) (k : Nat) : List Int := bestL (lostT (first d)) (((fairL d).drop 1).take k)
def bestV (d : Dr) : Nat → AV
  | 0 => .lst 1 0 []
  | k + 1 => vI (bestN d k)
theorem bestN_len (d : Dr) (h4 : d.halves.length ≤ 4) (k : Nat) : (bestN d k).length ≤ 4 := by
  refine bestL_len 4 _ _ ?_ ?_
  · have := lostN_le (first d); have := (fairL_mem (first_mem d)).2; unfold lostN at *; unfold lostT; omega
  · intro t ht
    have := (fairL_mem (List.mem_of_mem_drop (List.mem_of_mem_take ht))).2; omega
theorem bestV_zero (d : Dr) : bestV d 0 = .lst 1 0 [] := rfl
theorem bestV_under (d : Dr) (n k : Nat) : (bestV d k).under n = true := by cases k <;> simp only [bestV, vI_under, go_sem, ↓reduceIte, Nat.reduceBEq, Nat.reduceEqDiff, Nat.reduceLT, Nat.reduceLeDiff, Nat.reduceAdd, Nat.reduceMul, Nat.reduceSub, reduceCtorEq, Int.reduceLT, Int.reduceLE, Int.reduceEq, Int.reduceBEq, Int.reduceBNe, Int.reduceToNat, Int.reduceAdd, Int.reduceNeg, Int.reduceSub]
theorem lostT_bits {t : List Int} (h : t.length ≤ 4) : bitsL (setN (fun i => decide (t.getD i 0 = -1)) t.length) t.length = lostT t := by
  rw [bitsL_setN _ _ h]; rfl
theorem c24_no (d : Dr) (hd : d.fits) (he : (checkT d).2.2 ≠ 0) (h : Heap) : callPure (EW tabX) 24 [eD d] h = some (.tup [vI [], .int .i64 (checkT d).2.2], h) := by
  have hcl := eD_clean d
  have h60 := c60_no d hd 0 (by omega) 1 0 [] (fun h => absurd rfl h) (by simp) (by rw [enterE_nil]; exact he) ⟨[.cells (eDc d)], []⟩
  rw [enterE_nil] at h60
  have hb1 : ((checkT d).2.2 != 0) = true := by simpa using he
  rw [callPure_eq, w_call _ fn_24 rfl]
  simp only [go_sem, ↓reduceIte, Nat.reduceBEq, Nat.reduceEqDiff, Nat.reduceLT, Nat.reduceLeDiff, Nat.reduceAdd, Nat.reduceMul, Nat.reduceSub, reduceCtorEq, Int.reduceLT, Int.reduceLE, Int.reduceEq, Int.reduceBEq, Int.reduceBNe, Int.reduceToNat, Int.reduceAdd, Int.reduceNeg, Int.reduceSub, eD, eDc, eC_under] at hcl h60 ⊢
  simp only [go_sem, ↓reduceIte, Nat.reduceBEq, Nat.reduceEqDiff, Nat.reduceLT, Nat.reduceLeDiff, Nat.reduceAdd, Nat.reduceMul, Nat.reduceSub, reduceCtorEq, Int.reduceLT, Int.reduceLE, Int.reduceEq, Int.reduceBEq, Int.reduceBNe, Int.reduceToNat, Int.reduceAdd, Int.reduceNeg, Int.reduceSub, eC_clean, h60, hb1, vI_nil]
theorem c24_yes (d : Dr) (hd : d.fits) (he : (checkT d).2.2 = 0) (h : Heap) : callPure (EW tabX) 24 [eD d] h = some (.tup [vI (forged d), .int .i64 0], h) := by
  have hcl := eD_clean d
  obtain ⟨ho, B, t, tag, zz, h60, b0, b4, b3, hown⟩ := enter_yes d hd 0 (by omega) 1 0 [] (fun h => absurd rfl h) (by simp) (by rw [enterE_nil]; exact he)
  obtain ⟨tg, t', h62⟩ := c62 d ho B 4 3 _ b4 b3 t
  have h4 := ho.h4
  have hfl := fairL_len d ho
  simp only [eDc, List.cons_append, List.nil_append] at b0
  have o0 := old b0
  have hpos : 0 < (fairL d).length := List.length_pos_iff.2 (fairL_ne d)
  rw [callPure_eq, w_call _ fn_24 rfl]
  simp only [go_sem, ↓reduceIte, Nat.reduceBEq, Nat.reduceEqDiff, Nat.reduceLT, Nat.reduceLeDiff, Nat.reduceAdd, Nat.reduceMul, Nat.reduceSub, reduceCtorEq, Int.reduceLT, Int.reduceLE, Int.reduceEq, Int.reduceBEq, Int.reduceBNe, Int.reduceToNat, Int.reduceAdd, Int.reduceNeg, Int.reduceSub, eD, eDc, eC_under] at hcl h60 ⊢
  simp only [go_sem, ↓reduceIte, Nat.reduceBEq, Nat.reduceEqDiff, Nat.reduceLT, Nat.reduceLeDiff, Nat.reduceAdd, Nat.reduceMul, Nat.reduceSub, reduceCtorEq, Int.reduceLT, Int.reduceLE, Int.reduceEq, Int.reduceBEq, Int.reduceBNe, Int.reduceToNat, Int.reduceAdd, Int.reduceNeg, Int.reduceSub, eC_clean, h60, h62, b0]
  rw [w_rounds_h (fun k => [(2, bestV d k), (27, .int .i64 k)]) (fun k => ⟨B ++ ((fairL d).take k).map cellA, t'⟩) (fairL d).length (.exit 0) [(2, vI (forged d)), (27, .int .i64 (fairL d).length)] ⟨B ++ (fairL d).map cellA, t'⟩ ?_ ?_ ?_ ?_ rfl]
  · simp only [go_sem, ↓reduceIte, Nat.reduceBEq, Nat.reduceEqDiff, Nat.reduceLT, Nat.reduceLeDiff, Nat.reduceAdd, Nat.reduceMul, Nat.reduceSub, reduceCtorEq, Int.reduceLT, Int.reduceLE, Int.reduceEq, Int.reduceBEq, Int.reduceBNe, Int.reduceToNat, Int.reduceAdd, Int.reduceNeg, Int.reduceSub, vI_clean, vI_under]
  · simp only [go_sem, ↓reduceIte, Nat.reduceBEq, Nat.reduceEqDiff, Nat.reduceLT, Nat.reduceLeDiff, Nat.reduceAdd, Nat.reduceMul, Nat.reduceSub, reduceCtorEq, Int.reduceLT, Int.reduceLE, Int.reduceEq, Int.reduceBEq, Int.reduceBNe, Int.reduceToNat, Int.reduceAdd, Int.reduceNeg, Int.reduceSub, bestV_zero]
  · simp only [go_sem, ↓reduceIte, Nat.reduceBEq, Nat.reduceEqDiff, Nat.reduceLT, Nat.reduceLeDiff, Nat.reduceAdd, Nat.reduceMul, Nat.reduceSub, reduceCtorEq, Int.reduceLT, Int.reduceLE, Int.reduceEq, Int.reduceBEq, Int.reduceBNe, Int.reduceToNat, Int.reduceAdd, Int.reduceNeg, Int.reduceSub]
  · intro k hk
    have hx := List.getElem?_eq_getElem hk
    have hki : (k : Int) < (fairL d).length := by omega
    have hm := fairL_mem (List.getElem_mem hk)
    have hge := fairL_get d k hx
    rw [map_succ cellA hx, ← List.append_assoc]
    have c0 := old b0 (((fairL d).take k).map cellA)
    generalize hu : (fairL d)[k] = u at hx hm hge ⊢
    generalize B ++ ((fairL d).take k).map cellA = C at c0 ⊢
    have c0' := old c0
    have hul := hm.2
    have hal := arrOf_len (t := u) (by omega)
    have hpos4 : 0 < (arrOf u).length := by omega
    have h44 : 4 ≤ (arrOf u).length := by omega
    have h4' : (arrOf u).take 4 = arrOf u := List.take_of_length_le (by omega)
    have hsp := fun x0 x1 x2 x3 => splice4 x0 x1 x2 x3 (arrOf u) hal
    have hst4 := setN_lt (fun i => decide (u.getD i 0 = -1)) d.halves.length h4
    have h63 := c63 (setN (fun i => decide (u.getD i 0 = -1)) d.halves.length) d.halves.length hst4 h4
    have hbits := lostT_bits (t := u) (by omega)
    rw [hul] at hbits
    rw [hbits] at h63
    simp (disch := omega) only [go_sem, ↓reduceIte, Nat.reduceBEq, Nat.reduceEqDiff, Nat.reduceLT, Nat.reduceLeDiff, Nat.reduceAdd, Nat.reduceMul, Nat.reduceSub, reduceCtorEq, Int.reduceLT, Int.reduceLE, Int.reduceEq, Int.reduceBEq, Int.reduceBNe, Int.reduceToNat, Int.reduceAdd, Int.reduceNeg, Int.reduceSub, hki, hge, eA, hal, hpos4, h44, h4', hsp, c0']
    rw [w_rounds_u (fun j => [(9, .int .i64 (setN (fun i => decide (u.getD i 0 = -1)) j)), (35, .int .i64 j)]) d.halves.length (.exit 2) [(9, .int .i64 (setN (fun i => decide (u.getD i 0 = -1)) d.halves.length)), (35, .int .i64 d.halves.length)] ?_ ?_ ?_ rfl]
    · cases k with
      | zero =>
        have hu0 : u = first d := by rw [fairL_zero] at hx; exact (Option.some.inj hx).symm
        have e : bestV d (0 + 1) = vI (lostT u) := by rw [hu0]; rfl
        rw [e]
        simp (disch := omega) only [go_sem, ↓reduceIte, Nat.reduceBEq, Nat.reduceEqDiff, Nat.reduceLT, Nat.reduceLeDiff, Nat.reduceAdd, Nat.reduceMul, Nat.reduceSub, reduceCtorEq, Int.reduceLT, Int.reduceLE, Int.reduceEq, Int.reduceBEq, Int.reduceBNe, Int.reduceToNat, Int.reduceAdd, Int.reduceNeg, Int.reduceSub, c0', h63, vI_clean, vI_under, wrap_i64, cellA]
      | succ k =>
        have hk0 : (((k : Int) + 1) == 0) = false := by rw [beq_eq_false_iff_ne]; omega
        have hx1 : ((fairL d).drop 1)[k]? = some u := by rw [List.getElem?_drop, Nat.add_comm]; exact hx
        have hbs : bestN d (k + 1) = if ltB (lostT u) (bestN d k) then lostT u else bestN d k := bestL_succ _ hx1
        have hbl := bestN_len d h4 k
        have h64 := c64 (lostT u) (bestN d k) (zT 1 (lostT u).length) (zT 1 (bestN d k).length) zT_ne zT_ne (by have := lostN_le u; unfold lostN at this; unfold lostT; omega) (by omega)
        have hneg := cmpL_neg (lostT u) (bestN d k)
        have e1 : bestV d (k + 1) = vI (bestN d k) := rfl
        have e2 : bestV d (k + 1 + 1) = vI (bestN d (k + 1)) := rfl
        have h64' : ∀ h, callPure (EW tabX) 64 [vI (lostT u), vI (bestN d k)] h = some (.int .i64 (cmpL (lostT u) (bestN d k)), h) := h64
        rw [e1, e2, hbs]
        cases hlt : ltB (lostT u) (bestN d k) with
        | true =>
          rw [hlt] at hneg
          simp (disch := omega) only [go_sem, ↓reduceIte, Nat.reduceBEq, Nat.reduceEqDiff, Nat.reduceLT, Nat.reduceLeDiff, Nat.reduceAdd, Nat.reduceMul, Nat.reduceSub, reduceCtorEq, Int.reduceLT, Int.reduceLE, Int.reduceEq, Int.reduceBEq, Int.reduceBNe, Int.reduceToNat, Int.reduceAdd, Int.reduceNeg, Int.reduceSub, c0', h63, vI_clean, vI_under, wrap_i64, cellA, hk0, h64', hneg]
        | false =>
          rw [hlt] at hneg
          simp (disch := omega) only [go_sem, ↓reduceIte, Nat.reduceBEq, Nat.reduceEqDiff, Nat.reduceLT, Nat.reduceLeDiff, Nat.reduceAdd, Nat.reduceMul, Nat.reduceSub, reduceCtorEq, Int.reduceLT, Int.reduceLE, Int.reduceEq, Int.reduceBEq, Int.reduceBNe, Int.reduceToNat, Int.reduceAdd, Int.reduceNeg, Int.reduceSub, c0', h63, vI_clean, vI_under, wrap_i64, cellA, hk0, h64', hneg]
    · simp only [go_sem, ↓reduceIte, Nat.reduceBEq, Nat.reduceEqDiff, Nat.reduceLT, Nat.reduceLeDiff, Nat.reduceAdd, Nat.reduceMul, Nat.reduceSub, reduceCtorEq, Int.reduceLT, Int.reduceLE, Int.reduceEq, Int.reduceBEq, Int.reduceBNe, Int.reduceToNat, Int.reduceAdd, Int.reduceNeg, Int.reduceSub, setN]
    · intro j hj
      have hji : (j : Int) < d.halves.length := by omega
      have hj4 : j < 4 := by omega
      have hgj := arr_get (t := u) (k := j) (by omega)
      have hst := setN_lt (fun i => decide (u.getD i 0 = -1)) j (by omega)
      have hor := or_bit' _ j hst hj4
      rw [setN_succ]
      by_cases hb : u.getD j 0 = -1
      · rw [if_pos (by simpa using hb)]
        have hz : (u.getD j 0 + 1 == 0) = true := by rw [hb]; rfl
        simp (disch := omega) only [go_sem, ↓reduceIte, Nat.reduceBEq, Nat.reduceEqDiff, Nat.reduceLT, Nat.reduceLeDiff, Nat.reduceAdd, Nat.reduceMul, Nat.reduceSub, reduceCtorEq, Int.reduceLT, Int.reduceLE, Int.reduceEq, Int.reduceBEq, Int.reduceBNe, Int.reduceToNat, Int.reduceAdd, Int.reduceNeg, Int.reduceSub, hji, hj4, hgj, hz, wrap_i64, Nat.mul_one, List.getElem?_drop]
        rw [← hor]
        rfl
      · rw [if_neg (by simpa using hb)]
        have hz : (u.getD j 0 + 1 == 0) = false := by rw [beq_eq_false_iff_ne]; omega
        simp (disch := omega) only [go_sem, ↓reduceIte, Nat.reduceBEq, Nat.reduceEqDiff, Nat.reduceLT, Nat.reduceLeDiff, Nat.reduceAdd, Nat.reduceMul, Nat.reduceSub, reduceCtorEq, Int.reduceLT, Int.reduceLE, Int.reduceEq, Int.reduceBEq, Int.reduceBNe, Int.reduceToNat, Int.reduceAdd, Int.reduceNeg, Int.reduceSub, hji, hj4, hgj, hz, wrap_i64, Nat.mul_one, List.getElem?_drop]
    · simp only [go_sem, ↓reduceIte, Nat.reduceBEq, Nat.reduceEqDiff, Nat.reduceLT, Nat.reduceLeDiff, Nat.reduceAdd, Nat.reduceMul, Nat.reduceSub, reduceCtorEq, Int.reduceLT, Int.reduceLE, Int.reduceEq, Int.reduceBEq, Int.reduceBNe, Int.reduceToNat, Int.reduceAdd, Int.reduceNeg, Int.reduceSub]
  · have e : bestV d (fairL d).length = vI (forged d) := by
      obtain ⟨m, hm⟩ : ∃ m, (fairL d).length = m + 1 := ⟨(fairL d).length - 1, by omega⟩
      rw [hm]
      show vI (bestL (lostT (first d)) (((fairL d).drop 1).take m)) = vI (forged d)
      rw [List.take_of_length_le (by rw [List.length_drop]; omega)]
      rfl
    simp only [go_sem, ↓reduceIte, Nat.reduceBEq, Nat.reduceEqDiff, Nat.reduceLT, Nat.reduceLeDiff, Nat.reduceAdd, Nat.reduceMul, Nat.reduceSub, reduceCtorEq, Int.reduceLT, Int.reduceLE, Int.reduceEq, Int.reduceBEq, Int.reduceBNe, Int.reduceToNat, Int.reduceAdd, Int.reduceNeg, Int.reduceSub, e]
end Go.Proofs.Ytbfodfepgefloaa
end
section
namespace Go.Proofs.Ytbfodfepgefloaa
open Go.Proofs

theorem enter_one (d : Dr) (n below : Int) : enterE d below [n] = askedE d n below := by
  unfold askedE enterE
  split
  · simp only [List.any_cons, List.any_nil, Bool.or_false]
    have := out_not 0 (below - 1) n
    cases ho : out 0 (below - 1) n <;> rw [ho] at this <;> rw [← this] <;> rfl
  · rfl
/-- The cards that a half is of in some of the truths, as a number. -/
def whoN (e : Nat) : List (List Int) → Nat → Nat
  | _, 0 => 0
  | l, k + 1 => if 0 ≤ (l.getD k []).getD e 0 then whoN e l k ||| 2 ^ ((l.getD k []).getD e 0).toNat else whoN e l k
theorem whoN_succ (e : Nat) (l : List (List Int)) (k : Nat) : whoN e l (k + 1) = if 0 ≤ (l.getD k []).getD e 0 then whoN e l k ||| 2 ^ ((l.getD k []).getD e 0).toNat else whoN e l k := rfl
theorem whoN_zero (e : Nat) (l : List (List Int)) : whoN e l 0 = 0 := rfl
theorem whoN_lt (e : Nat) (l : List (List Int)) (hr : ∀ k, k < l.length → (l.getD k []).getD e 0 < 4) : ∀ k, k ≤ l.length → whoN e l k < 16
  | 0, _ => by simp [whoN]
  | k + 1, h => by
    have a := whoN_lt e l hr k (by omega)
    have b := hr k (by omega)
    rw [whoN_succ]
    split
    · exact or_lt ⟨_, a⟩ ⟨((l.getD k []).getD e 0).toNat, by omega⟩
    · exact a
theorem whoN_test (e : Nat) (l : List (List Int)) (hr : ∀ k, k < l.length → (l.getD k []).getD e 0 < 4) (c : Nat) (hc : c < 4) : ∀ k, k ≤ l.length → (whoN e l k).testBit c = (l.take k).any fun t => t.getD e 0 == (c : Int)
  | 0, _ => by simp [whoN]
  | k + 1, h => by
    have a := whoN_lt e l hr k (by omega)
    have b := hr k (by omega)
    have ih := whoN_test e l hr c hc k (by omega)
    have hx := List.getElem?_eq_getElem (show k < l.length by omega)
    have e1 : l.getD k [] = l[k] := by rw [List.getD_eq_getElem?_getD, hx]; rfl
    rw [List.take_add_one, hx, Option.toList_some, List.any_append, ← ih]
    simp only [List.any_cons, List.any_nil, Bool.or_false]
    rw [whoN_succ]
    rw [e1] at b ⊢
    by_cases h0 : 0 ≤ l[k].getD e 0
    · rw [if_pos h0]
      have := or_test ⟨_, a⟩ ⟨(l[k].getD e 0).toNat, by omega⟩ ⟨c, hc⟩
      simp only [Fin.mk.injEq] at this
      rw [this]
      congr 1
      rw [Bool.eq_iff_iff]
      rw [decide_eq_true_eq, beq_iff_eq]
      omega
    · rw [if_neg h0]
      have : (l[k].getD e 0 == (c : Int)) = false := by rw [beq_eq_false_iff_ne]; omega
      rw [this, Bool.or_false]
theorem whoN_bits (d : Dr) (ho : d.Ok) (e : Nat) (hr : ∀ k, k < (fairL d).length → ((fairL d).getD k []).getD e 0 < 4) : bitsL (whoN e (fairL d) (fairL d).length) d.cards.length = whoseL d e d.cards.length := by
  have hc4 := ho.c4
  unfold bitsL whoseL
  congr 1
  apply List.filter_congr
  intro c hc
  have hc := List.mem_range.1 hc
  rw [whoN_test e (fairL d) hr c (by omega) _ (Nat.le_refl _), List.take_length]
theorem fair_rng (d : Dr) (ho : d.Ok) (e : Nat) (he : e < d.halves.length) (k : Nat) (hk : k < (fairL d).length) : -1 ≤ ((fairL d).getD k []).getD e 0 ∧ ((fairL d).getD k []).getD e 0 < 4 := by
  have hx := List.getElem?_eq_getElem hk
  have e1 : (fairL d).getD k [] = (fairL d)[k] := by rw [List.getD_eq_getElem?_getD, hx]; rfl
  have hm := fairL_mem (List.getElem_mem hk)
  have hl : e < (fairL d)[k].length := by omega
  have := truth_rng d _ _ hm.1 (fairL d)[k][e] (List.getElem_mem hl)
  have e2 : (fairL d)[k].getD e 0 = (fairL d)[k][e] := by rw [List.getD_eq_getElem?_getD, List.getElem?_eq_getElem hl]; rfl
  have := ho.c4
  rw [e1, e2]; omega
theorem c26_no (d : Dr) (hd : d.fits) (e : Int) (he : askedE d e d.halves.length ≠ 0) (h : Heap) : callPure (EW tabX) 26 [eD d, .int .i64 e] h = some (.tup [vI [], .int .i64 (askedE d e d.halves.length)], h) := by
  have lh := hd.lh
  have hcl := eD_clean d
  have h60 := c60_no d hd d.halves.length (by omega) 1 1 [e] (fun _ => rfl) (by simp) (by rw [enter_one]; exact he) ⟨[.cells (eDc d)], []⟩
  rw [enter_one] at h60
  have hb1 : (askedE d e d.halves.length != 0) = true := by simpa using he
  rw [callPure_eq, w_call _ fn_26 rfl]
  simp only [go_sem, ↓reduceIte, Nat.reduceBEq, Nat.reduceEqDiff, Nat.reduceLT, Nat.reduceLeDiff, Nat.reduceAdd, Nat.reduceMul, Nat.reduceSub, reduceCtorEq, Int.reduceLT, Int.reduceLE, Int.reduceEq, Int.reduceBEq, Int.reduceBNe, Int.reduceToNat, Int.reduceAdd, Int.reduceNeg, Int.reduceSub, eD, eDc, eC_under, I_c, I_nil] at hcl h60 ⊢
  simp only [go_sem, ↓reduceIte, Nat.reduceBEq, Nat.reduceEqDiff, Nat.reduceLT, Nat.reduceLeDiff, Nat.reduceAdd, Nat.reduceMul, Nat.reduceSub, reduceCtorEq, Int.reduceLT, Int.reduceLE, Int.reduceEq, Int.reduceBEq, Int.reduceBNe, Int.reduceToNat, Int.reduceAdd, Int.reduceNeg, Int.reduceSub, eC_clean, h60, hb1, vI_nil]
theorem c26_yes (d : Dr) (hd : d.fits) (e : Nat) (he : askedE d e d.halves.length = 0) (h : Heap) : callPure (EW tabX) 26 [eD d, .int .i64 e] h = some (.tup [vI (whoseL d e d.cards.length), .int .i64 0], h) := by
  have hcl := eD_clean d
  have lh := hd.lh
  obtain ⟨ho, B, t, tag, zz, h60, b0, b4, b3, hown⟩ := enter_yes d hd d.halves.length (by omega) 1 1 [(e : Int)] (fun _ => rfl) (by simp) (by rw [enter_one]; exact he)
  obtain ⟨_, a0, a1⟩ := asked_yes he
  have heh : e < d.halves.length := by omega
  obtain ⟨tg, t', h62⟩ := c62 d ho B 4 3 _ b4 b3 t
  have h4 := ho.h4
  have hfl := fairL_len d ho
  have hrng := fair_rng d ho e heh
  have hlt := whoN_lt e (fairL d) (fun k hk => (hrng k hk).2)
  simp only [eDc, List.cons_append, List.nil_append] at b0
  have o0 := old b0
  have h63 := c63 (whoN e (fairL d) (fairL d).length) d.cards.length (hlt _ (Nat.le_refl _)) ho.c4
  rw [whoN_bits d ho e fun k hk => (hrng k hk).2] at h63
  rw [callPure_eq, w_call _ fn_26 rfl]
  simp only [go_sem, ↓reduceIte, Nat.reduceBEq, Nat.reduceEqDiff, Nat.reduceLT, Nat.reduceLeDiff, Nat.reduceAdd, Nat.reduceMul, Nat.reduceSub, reduceCtorEq, Int.reduceLT, Int.reduceLE, Int.reduceEq, Int.reduceBEq, Int.reduceBNe, Int.reduceToNat, Int.reduceAdd, Int.reduceNeg, Int.reduceSub, eD, eDc, eC_under, I_c, I_nil] at hcl h60 ⊢
  simp only [go_sem, ↓reduceIte, Nat.reduceBEq, Nat.reduceEqDiff, Nat.reduceLT, Nat.reduceLeDiff, Nat.reduceAdd, Nat.reduceMul, Nat.reduceSub, reduceCtorEq, Int.reduceLT, Int.reduceLE, Int.reduceEq, Int.reduceBEq, Int.reduceBNe, Int.reduceToNat, Int.reduceAdd, Int.reduceNeg, Int.reduceSub, eC_clean, h60, h62, b0]
  rw [w_rounds_h (fun k => [(8, .int .i64 (whoN e (fairL d) k)), (33, .int .i64 k)]) (fun k => ⟨B ++ ((fairL d).take k).map cellA, t'⟩) (fairL d).length (.exit 0) [(8, .int .i64 (whoN e (fairL d) (fairL d).length)), (33, .int .i64 (fairL d).length)] ⟨B ++ (fairL d).map cellA, t'⟩ ?_ ?_ ?_ ?_ rfl]
  · simp only [go_sem, ↓reduceIte, Nat.reduceBEq, Nat.reduceEqDiff, Nat.reduceLT, Nat.reduceLeDiff, Nat.reduceAdd, Nat.reduceMul, Nat.reduceSub, reduceCtorEq, Int.reduceLT, Int.reduceLE, Int.reduceEq, Int.reduceBEq, Int.reduceBNe, Int.reduceToNat, Int.reduceAdd, Int.reduceNeg, Int.reduceSub, o0, h63, vI_clean, vI_under]
  · simp only [go_sem, ↓reduceIte, Nat.reduceBEq, Nat.reduceEqDiff, Nat.reduceLT, Nat.reduceLeDiff, Nat.reduceAdd, Nat.reduceMul, Nat.reduceSub, reduceCtorEq, Int.reduceLT, Int.reduceLE, Int.reduceEq, Int.reduceBEq, Int.reduceBNe, Int.reduceToNat, Int.reduceAdd, Int.reduceNeg, Int.reduceSub, whoN_zero]
  · simp only [go_sem, ↓reduceIte, Nat.reduceBEq, Nat.reduceEqDiff, Nat.reduceLT, Nat.reduceLeDiff, Nat.reduceAdd, Nat.reduceMul, Nat.reduceSub, reduceCtorEq, Int.reduceLT, Int.reduceLE, Int.reduceEq, Int.reduceBEq, Int.reduceBNe, Int.reduceToNat, Int.reduceAdd, Int.reduceNeg, Int.reduceSub]
  · intro k hk
    have hx := List.getElem?_eq_getElem hk
    have hki : (k : Int) < (fairL d).length := by omega
    have hm := fairL_mem (List.getElem_mem hk)
    have hge := fairL_get d k hx
    have hrk := hrng k hk
    have hltk := hlt k (by omega)
    have e1 : (fairL d).getD k [] = (fairL d)[k] := by rw [List.getD_eq_getElem?_getD, hx]; rfl
    rw [map_succ cellA hx, ← List.append_assoc]
    have c0 := old b0 (((fairL d).take k).map cellA)
    rw [whoN_succ]
    rw [e1] at hrk ⊢
    generalize hu : (fairL d)[k] = u at hx hm hge hrk ⊢
    generalize B ++ ((fairL d).take k).map cellA = C at c0 ⊢
    have c0' := old c0
    have hul := hm.2
    have hal := arrOf_len (t := u) (by omega)
    have hpos4 : 0 < (arrOf u).length := by omega
    have h44 : 4 ≤ (arrOf u).length := by omega
    have h4' : (arrOf u).take 4 = arrOf u := List.take_of_length_le (by omega)
    have hsp := fun x0 x1 x2 x3 => splice4 x0 x1 x2 x3 (arrOf u) hal
    have hgj := arr_get (t := u) (k := e) (by omega)
    have he4 : e < 4 := by omega
    by_cases hp : 0 ≤ u.getD e 0
    · rw [if_pos hp]
      have hz : (0 < u.getD e 0 + 1) = True := by simp only [eq_iff_iff, iff_true]; omega
      have hsub : u.getD e 0 + 1 - 1 = (((u.getD e 0).toNat : Nat) : Int) := by omega
      have hor := or_bit' _ (u.getD e 0).toNat hltk (by omega)
      simp (disch := omega) only [go_sem, ↓reduceIte, Nat.reduceBEq, Nat.reduceEqDiff, Nat.reduceLT, Nat.reduceLeDiff, Nat.reduceAdd, Nat.reduceMul, Nat.reduceSub, reduceCtorEq, Int.reduceLT, Int.reduceLE, Int.reduceEq, Int.reduceBEq, Int.reduceBNe, Int.reduceToNat, Int.reduceAdd, Int.reduceNeg, Int.reduceSub, hki, hge, eA, hal, hpos4, h44, h4', hsp, c0', he4, hgj, hz, hsub, wrap_i64, Nat.mul_one, List.getElem?_drop, cellA]
      rw [← hor]
      rfl
    · rw [if_neg hp]
      have hz : (0 < u.getD e 0 + 1) = False := by simp only [eq_iff_iff, iff_false]; omega
      simp (disch := omega) only [go_sem, ↓reduceIte, Nat.reduceBEq, Nat.reduceEqDiff, Nat.reduceLT, Nat.reduceLeDiff, Nat.reduceAdd, Nat.reduceMul, Nat.reduceSub, reduceCtorEq, Int.reduceLT, Int.reduceLE, Int.reduceEq, Int.reduceBEq, Int.reduceBNe, Int.reduceToNat, Int.reduceAdd, Int.reduceNeg, Int.reduceSub, hki, hge, eA, hal, hpos4, h44, h4', hsp, c0', he4, hgj, hz, wrap_i64, Nat.mul_one, List.getElem?_drop, cellA]
  · simp only [go_sem, ↓reduceIte, Nat.reduceBEq, Nat.reduceEqDiff, Nat.reduceLT, Nat.reduceLeDiff, Nat.reduceAdd, Nat.reduceMul, Nat.reduceSub, reduceCtorEq, Int.reduceLT, Int.reduceLE, Int.reduceEq, Int.reduceBEq, Int.reduceBNe, Int.reduceToNat, Int.reduceAdd, Int.reduceNeg, Int.reduceSub]
end Go.Proofs.Ytbfodfepgefloaa
end
section
namespace Go.Proofs.Ytbfodfepgefloaa
open Go.Proofs

def okK (d : Dr) (e k : Nat) : Bool := ((fairL d).getD k []).getD e 0 == (first d).getD e 0 && (first d).getD e 0 != -1
theorem fairL_cons (d : Dr) : fairL d = first d :: (fairL d).drop 1 := by
  have h := fairL_zero d
  cases hf : fairL d with
  | nil => exact absurd hf (fairL_ne d)
  | cons a l => rw [hf] at h; simp at h; rw [h]; rfl
theorem card_yes {d : Dr} {e : Nat} (h : allTo (okK d e) (fairL d).length = true) : cardV d e = (first d).getD e 0 ∧ (first d).getD e 0 ≠ -1 := by
  have hpos : 0 < (fairL d).length := List.length_pos_iff.2 (fairL_ne d)
  have h0 := allTo_at h hpos
  unfold okK at h0
  simp only [Bool.and_eq_true, bne_iff_ne] at h0
  refine ⟨?_, h0.2⟩
  unfold cardV readV
  rw [if_pos]
  rw [List.all_eq_true]
  intro t ht
  obtain ⟨i, hi, e1⟩ := List.mem_iff_getElem.1 ht
  rw [List.length_drop] at hi
  have := allTo_at h (show i + 1 < (fairL d).length by omega)
  unfold okK at this
  simp only [Bool.and_eq_true] at this
  have e2 : (fairL d).getD (i + 1) [] = t := by
    rw [List.getD_eq_getElem?_getD, List.getElem?_eq_getElem (show i + 1 < (fairL d).length by omega), ← e1, List.getElem_drop]
    simp only [Nat.add_comm, Option.getD_some]
  rw [e2] at this
  exact this.1
theorem card_no {d : Dr} {e : Nat} (h : allTo (okK d e) (fairL d).length = false) : cardV d e = -1 := by
  obtain ⟨k, hk, _, h2⟩ := allTo_false h
  unfold okK at h2
  unfold cardV readV
  by_cases hc : (first d).getD e 0 = -1
  · rw [hc]; split <;> rfl
  · have h3 : ((fairL d).getD k []).getD e 0 ≠ (first d).getD e 0 := by
      intro h4
      rw [h4] at h2
      simp at h2
      exact hc h2
    rw [if_neg]
    intro ha
    rw [List.all_eq_true] at ha
    have hx := List.getElem?_eq_getElem hk
    have e1 : (fairL d).getD k [] = (fairL d)[k] := by rw [List.getD_eq_getElem?_getD, hx]; rfl
    cases k with
    | zero =>
      rw [fairL_zero] at hx
      rw [e1, ← Option.some.inj hx] at h3
      exact h3 rfl
    | succ k =>
      have hm : (fairL d)[k + 1] ∈ (fairL d).drop 1 := by
        refine List.mem_of_getElem? (i := k) ?_
        rw [List.getElem?_drop, Nat.add_comm]; exact hx
      have := ha _ hm
      rw [e1] at h3
      exact h3 (by simpa using this)
theorem c28_no (d : Dr) (hd : d.fits) (e : Int) (he : askedE d e d.halves.length ≠ 0) (h : Heap) : callPure (EW tabX) 28 [eD d, .int .i64 e] h = some (.tup [.int .i64 0, .int .i64 (askedE d e d.halves.length)], h) := by
  have lh := hd.lh
  have hcl := eD_clean d
  have h60 := c60_no d hd d.halves.length (by omega) 1 1 [e] (fun _ => rfl) (by simp) (by rw [enter_one]; exact he) ⟨[.cells (eDc d)], []⟩
  rw [enter_one] at h60
  have hb1 : (askedE d e d.halves.length != 0) = true := by simpa using he
  rw [callPure_eq, w_call _ fn_28 rfl]
  simp only [go_sem, ↓reduceIte, Nat.reduceBEq, Nat.reduceEqDiff, Nat.reduceLT, Nat.reduceLeDiff, Nat.reduceAdd, Nat.reduceMul, Nat.reduceSub, reduceCtorEq, Int.reduceLT, Int.reduceLE, Int.reduceEq, Int.reduceBEq, Int.reduceBNe, Int.reduceToNat, Int.reduceAdd, Int.reduceNeg, Int.reduceSub, eD, eDc, eC_under, I_c, I_nil] at hcl h60 ⊢
  simp only [go_sem, ↓reduceIte, Nat.reduceBEq, Nat.reduceEqDiff, Nat.reduceLT, Nat.reduceLeDiff, Nat.reduceAdd, Nat.reduceMul, Nat.reduceSub, reduceCtorEq, Int.reduceLT, Int.reduceLE, Int.reduceEq, Int.reduceBEq, Int.reduceBNe, Int.reduceToNat, Int.reduceAdd, Int.reduceNeg, Int.reduceSub, eC_clean, h60, hb1]
theorem c28_yes (d : Dr) (hd : d.fits) (e : Nat) (he : askedE d e d.halves.length = 0) (h : Heap) : callPure (EW tabX) 28 [eD d, .int .i64 e] h = some (.tup [.int .i64 (if cardV d e = -1 then 0 else cardV d e), .int .i64 (if cardV d e = -1 then 9 else 0)], h) := by
  have hcl := eD_clean d
  have lh := hd.lh
  obtain ⟨ho, B, t, tag, zz, h60, b0, b4, b3, hown⟩ := enter_yes d hd d.halves.length (by omega) 1 1 [(e : Int)] (fun _ => rfl) (by simp) (by rw [enter_one]; exact he)
  obtain ⟨_, a0, a1⟩ := asked_yes he
  have heh : e < d.halves.length := by omega
  obtain ⟨tg, t', h62⟩ := c62 d ho B 4 3 _ b4 b3 t
  have h4 := ho.h4
  have he4 : e < 4 := by omega
  have hfl := fairL_len d ho
  have hrng := fair_rng d ho e heh
  have hpos : 0 < (fairL d).length := List.length_pos_iff.2 (fairL_ne d)
  simp only [eDc, List.cons_append, List.nil_append] at b0
  have o0 := old b0
  have hf0 := fairL_get d 0 (fairL_zero d)
  have hfl0 := (fairL_mem (first_mem d)).2
  have hal0 := arrOf_len (t := first d) (by omega)
  have hg0 := arr_get (t := first d) (k := e) (by omega)
  have hr0 : -1 ≤ (first d).getD e 0 ∧ (first d).getD e 0 < 4 := by
    have := hrng 0 hpos
    have e1 : (fairL d).getD 0 [] = first d := by rw [List.getD_eq_getElem?_getD, fairL_zero]; rfl
    rwa [e1] at this
  have elt : ∀ k, k < (fairL d).length → ∃ u, (fairL d)[k]? = some u ∧ (fairL d).getD k [] = u ∧ ((fairL d).map eA)[k]? = some (eA u) ∧ (arrOf u).length = 4 ∧ (arrOf u)[e]? = some (u.getD e 0 + 1) ∧ (k : Int) < (fairL d).length := fun k hk => by
    have hx := List.getElem?_eq_getElem hk
    have hm := fairL_mem (List.getElem_mem hk)
    exact ⟨_, hx, by rw [List.getD_eq_getElem?_getD, hx]; rfl, fairL_get d k hx, arrOf_len (by omega), arr_get (by omega), by omega⟩
  rw [callPure_eq, w_call _ fn_28 rfl]
  simp only [go_sem, ↓reduceIte, Nat.reduceBEq, Nat.reduceEqDiff, Nat.reduceLT, Nat.reduceLeDiff, Nat.reduceAdd, Nat.reduceMul, Nat.reduceSub, reduceCtorEq, Int.reduceLT, Int.reduceLE, Int.reduceEq, Int.reduceBEq, Int.reduceBNe, Int.reduceToNat, Int.reduceAdd, Int.reduceNeg, Int.reduceSub, eD, eDc, eC_under, I_c, I_nil] at hcl h60 ⊢
  simp only [go_sem, ↓reduceIte, Nat.reduceBEq, Nat.reduceEqDiff, Nat.reduceLT, Nat.reduceLeDiff, Nat.reduceAdd, Nat.reduceMul, Nat.reduceSub, reduceCtorEq, Int.reduceLT, Int.reduceLE, Int.reduceEq, Int.reduceBEq, Int.reduceBNe, Int.reduceToNat, Int.reduceAdd, Int.reduceNeg, Int.reduceSub, eC_clean, h60, h62, b0, hf0, eA, hal0, hg0, he4, Nat.mul_one, List.getElem?_drop]
  have p4 : ∀ {u : List Int}, (arrOf u).length = 4 → (arrOf u).take 4 = arrOf u := fun h => List.take_of_length_le (by omega)
  cases ha : allTo (okK d e) (fairL d).length with
  | true =>
    obtain ⟨q1, q2⟩ := card_yes ha
    rw [q1, if_neg q2, if_neg q2]
    rw [w_rounds_h (fun k => [(38, .int .i64 k)]) (fun k => ⟨B ++ ((fairL d).take k).map cellA, t'⟩) (fairL d).length (.exit 0) [(38, .int .i64 (fairL d).length)] ⟨B ++ (fairL d).map cellA, t'⟩ ?_ ?_ ?_ ?_ rfl]
    · have hw : (first d).getD e 0 + 1 - 1 = (first d).getD e 0 := by omega
      simp (disch := omega) only [go_sem, ↓reduceIte, Nat.reduceBEq, Nat.reduceEqDiff, Nat.reduceLT, Nat.reduceLeDiff, Nat.reduceAdd, Nat.reduceMul, Nat.reduceSub, reduceCtorEq, Int.reduceLT, Int.reduceLE, Int.reduceEq, Int.reduceBEq, Int.reduceBNe, Int.reduceToNat, Int.reduceAdd, Int.reduceNeg, Int.reduceSub, wrap_i64, hw]
    · simp only [go_sem, ↓reduceIte, Nat.reduceBEq, Nat.reduceEqDiff, Nat.reduceLT, Nat.reduceLeDiff, Nat.reduceAdd, Nat.reduceMul, Nat.reduceSub, reduceCtorEq, Int.reduceLT, Int.reduceLE, Int.reduceEq, Int.reduceBEq, Int.reduceBNe, Int.reduceToNat, Int.reduceAdd, Int.reduceNeg, Int.reduceSub]
    · simp only [go_sem, ↓reduceIte, Nat.reduceBEq, Nat.reduceEqDiff, Nat.reduceLT, Nat.reduceLeDiff, Nat.reduceAdd, Nat.reduceMul, Nat.reduceSub, reduceCtorEq, Int.reduceLT, Int.reduceLE, Int.reduceEq, Int.reduceBEq, Int.reduceBNe, Int.reduceToNat, Int.reduceAdd, Int.reduceNeg, Int.reduceSub]
    · intro k hk
      obtain ⟨u, hx, e1, hge, hal, hgj, hki⟩ := elt k hk
      have hok := allTo_at ha hk
      unfold okK at hok
      rw [e1] at hok
      simp only [Bool.and_eq_true, beq_iff_eq] at hok
      have hz : (u.getD e 0 + 1 != (first d).getD e 0 + 1) = false := by rw [hok.1]; simp
      have hz2 : ((first d).getD e 0 + 1 == 0) = false := by rw [beq_eq_false_iff_ne]; omega
      rw [map_succ cellA hx, ← List.append_assoc]
      generalize B ++ ((fairL d).take k).map cellA = C
      have hpos4 : 0 < (arrOf u).length := by omega
      have h44 : 4 ≤ (arrOf u).length := by omega
      have h4' := p4 hal
      have hsp := fun x0 x1 x2 x3 => splice4 x0 x1 x2 x3 (arrOf u) hal
      simp (disch := omega) only [go_sem, ↓reduceIte, Nat.reduceBEq, Nat.reduceEqDiff, Nat.reduceLT, Nat.reduceLeDiff, Nat.reduceAdd, Nat.reduceMul, Nat.reduceSub, reduceCtorEq, Int.reduceLT, Int.reduceLE, Int.reduceEq, Int.reduceBEq, Int.reduceBNe, Int.reduceToNat, Int.reduceAdd, Int.reduceNeg, Int.reduceSub, hki, hge, eA, hal, hpos4, h44, h4', hsp, he4, hgj, hz, hz2, wrap_i64, Nat.mul_one, List.getElem?_drop, cellA]
    · simp only [go_sem, ↓reduceIte, Nat.reduceBEq, Nat.reduceEqDiff, Nat.reduceLT, Nat.reduceLeDiff, Nat.reduceAdd, Nat.reduceMul, Nat.reduceSub, reduceCtorEq, Int.reduceLT, Int.reduceLE, Int.reduceEq, Int.reduceBEq, Int.reduceBNe, Int.reduceToNat, Int.reduceAdd, Int.reduceNeg, Int.reduceSub]
  | false =>
    rw [card_no ha, if_pos rfl, if_pos rfl]
    obtain ⟨n, hn, g1, g2⟩ := allTo_false ha
    obtain ⟨un, hxn, _⟩ := elt n hn
    rw [w_rounds_h (fun k => [(38, .int .i64 k)]) (fun k => ⟨B ++ ((fairL d).take k).map cellA, t'⟩) n .ret [(4, .int .i64 0), (5, .int .i64 9), (12, .ref (B.length + n) 0), (38, .int .i64 n)] ⟨B ++ ((fairL d).take (n + 1)).map cellA, t'⟩ ?_ ?_ ?_ ?_ rfl]
    · simp only [go_sem, ↓reduceIte, Nat.reduceBEq, Nat.reduceEqDiff, Nat.reduceLT, Nat.reduceLeDiff, Nat.reduceAdd, Nat.reduceMul, Nat.reduceSub, reduceCtorEq, Int.reduceLT, Int.reduceLE, Int.reduceEq, Int.reduceBEq, Int.reduceBNe, Int.reduceToNat, Int.reduceAdd, Int.reduceNeg, Int.reduceSub]
    · simp only [go_sem, ↓reduceIte, Nat.reduceBEq, Nat.reduceEqDiff, Nat.reduceLT, Nat.reduceLeDiff, Nat.reduceAdd, Nat.reduceMul, Nat.reduceSub, reduceCtorEq, Int.reduceLT, Int.reduceLE, Int.reduceEq, Int.reduceBEq, Int.reduceBNe, Int.reduceToNat, Int.reduceAdd, Int.reduceNeg, Int.reduceSub]
    · simp only [go_sem, ↓reduceIte, Nat.reduceBEq, Nat.reduceEqDiff, Nat.reduceLT, Nat.reduceLeDiff, Nat.reduceAdd, Nat.reduceMul, Nat.reduceSub, reduceCtorEq, Int.reduceLT, Int.reduceLE, Int.reduceEq, Int.reduceBEq, Int.reduceBNe, Int.reduceToNat, Int.reduceAdd, Int.reduceNeg, Int.reduceSub]
    · intro k hk
      obtain ⟨u, hx, e1, hge, hal, hgj, hki⟩ := elt k (by omega)
      have hok := allTo_at g1 hk
      unfold okK at hok
      rw [e1] at hok
      simp only [Bool.and_eq_true, beq_iff_eq, bne_iff_ne] at hok
      have hz : (u.getD e 0 + 1 != (first d).getD e 0 + 1) = false := by rw [hok.1]; simp
      have hz2 : ((first d).getD e 0 + 1 == 0) = false := by rw [beq_eq_false_iff_ne]; omega
      rw [map_succ cellA hx, ← List.append_assoc]
      generalize B ++ ((fairL d).take k).map cellA = C
      have hpos4 : 0 < (arrOf u).length := by omega
      have h44 : 4 ≤ (arrOf u).length := by omega
      have h4' := p4 hal
      have hsp := fun x0 x1 x2 x3 => splice4 x0 x1 x2 x3 (arrOf u) hal
      simp (disch := omega) only [go_sem, ↓reduceIte, Nat.reduceBEq, Nat.reduceEqDiff, Nat.reduceLT, Nat.reduceLeDiff, Nat.reduceAdd, Nat.reduceMul, Nat.reduceSub, reduceCtorEq, Int.reduceLT, Int.reduceLE, Int.reduceEq, Int.reduceBEq, Int.reduceBNe, Int.reduceToNat, Int.reduceAdd, Int.reduceNeg, Int.reduceSub, hki, hge, eA, hal, hpos4, h44, h4', hsp, he4, hgj, hz, hz2, wrap_i64, Nat.mul_one, List.getElem?_drop, cellA]
    · obtain ⟨u, hx, e1, hge, hal, hgj, hki⟩ := elt n hn
      unfold okK at g2
      rw [e1] at g2
      have hlen : (B ++ ((fairL d).take n).map cellA).length = B.length + n := by
        rw [List.length_append, List.length_map, List.length_take]; omega
      rw [map_succ cellA hx, ← List.append_assoc]
      generalize B ++ ((fairL d).take n).map cellA = C at hlen ⊢
      rw [← hlen]
      have hpos4 : 0 < (arrOf u).length := by omega
      have h44 : 4 ≤ (arrOf u).length := by omega
      have h4' := p4 hal
      have hsp := fun x0 x1 x2 x3 => splice4 x0 x1 x2 x3 (arrOf u) hal
      by_cases hne : u.getD e 0 = (first d).getD e 0
      · have hm1 : (first d).getD e 0 = -1 := by
          rw [hne] at g2; simpa using g2
        have hz : (u.getD e 0 + 1 != (first d).getD e 0 + 1) = false := by rw [hne]; simp
        have hz2 : ((first d).getD e 0 + 1 == 0) = true := by rw [hm1]; rfl
        simp (disch := omega) only [go_sem, ↓reduceIte, Nat.reduceBEq, Nat.reduceEqDiff, Nat.reduceLT, Nat.reduceLeDiff, Nat.reduceAdd, Nat.reduceMul, Nat.reduceSub, reduceCtorEq, Int.reduceLT, Int.reduceLE, Int.reduceEq, Int.reduceBEq, Int.reduceBNe, Int.reduceToNat, Int.reduceAdd, Int.reduceNeg, Int.reduceSub, hki, hge, eA, hal, hpos4, h44, h4', hsp, he4, hgj, hz, hz2, wrap_i64, Nat.mul_one, List.getElem?_drop, cellA]
      · have hz : (u.getD e 0 + 1 != (first d).getD e 0 + 1) = true := by rw [bne_iff_ne]; omega
        simp (disch := omega) only [go_sem, ↓reduceIte, Nat.reduceBEq, Nat.reduceEqDiff, Nat.reduceLT, Nat.reduceLeDiff, Nat.reduceAdd, Nat.reduceMul, Nat.reduceSub, reduceCtorEq, Int.reduceLT, Int.reduceLE, Int.reduceEq, Int.reduceBEq, Int.reduceBNe, Int.reduceToNat, Int.reduceAdd, Int.reduceNeg, Int.reduceSub, hki, hge, eA, hal, hpos4, h44, h4', hsp, he4, hgj, hz, wrap_i64, Nat.mul_one, List.getElem?_drop, cellA]
end Go.Proofs.Ytbfodfepgefloaa
end
section
namespace Go.Proofs.Ytbfodfepgefloaa
open Go.Proofs

def lastAt (l : List Int) : Nat → Int
  | 0 => -1
  | k + 1 => l.getD k 0
theorem lastAt_zero (l : List Int) : lastAt l 0 = -1 := rfl
theorem lastAt_succ (l : List Int) (k : Nat) : lastAt l (k + 1) = l.getD k 0 := rfl
def risAt (l : List Int) (below : Int) (k : Nat) : Bool := !(decide (l.getD k 0 ≤ lastAt l k) || decide (below ≤ l.getD k 0))
def risB (l : List Int) (below : Int) : Bool := allTo (risAt l below) l.length
theorem c41 (l : List Int) (below : Int) (z : Nat) (hz : l ≠ [] → z = 1) (hl : l.length < 1000000000000000000) (h : Heap) :
    callPure (EW tabX) 41 [.lst 0 z (I l), .int .i64 below] h = some (.bool (risB l below), h) := by
  rw [callPure_eq, w_call _ fn_41 rfl]
  simp only [go_sem, ↓reduceIte, Nat.reduceBEq, Nat.reduceEqDiff, Nat.reduceLT, Nat.reduceLeDiff, Nat.reduceAdd, Nat.reduceMul, Nat.reduceSub, reduceCtorEq, Int.reduceLT, Int.reduceLE, Int.reduceEq, Int.reduceBEq, Int.reduceBNe, Int.reduceToNat, Int.reduceAdd, Int.reduceNeg, Int.reduceSub]
  have idx : ∀ k, k < l.length → l[k]? = some (l.getD k 0) ∧ (k : Int) < l.length ∧ z = 1 := fun k hk =>
    ⟨by rw [List.getD_eq_getElem?_getD, List.getElem?_eq_getElem hk]; rfl, by omega, hz (by intro e; rw [e] at hk; simp at hk)⟩
  cases ha : allTo (risAt l below) l.length with
  | true =>
    rw [w_rounds_u (fun k => [(5, .int .i64 (lastAt l k)), (6, .int .i64 k)]) l.length (.exit 0) [(5, .int .i64 (lastAt l l.length)), (6, .int .i64 l.length)] ?_ ?_ ?_ rfl]
    · simp only [go_sem, ↓reduceIte, Nat.reduceBEq, Nat.reduceEqDiff, Nat.reduceLT, Nat.reduceLeDiff, Nat.reduceAdd, Nat.reduceMul, Nat.reduceSub, reduceCtorEq, Int.reduceLT, Int.reduceLE, Int.reduceEq, Int.reduceBEq, Int.reduceBNe, Int.reduceToNat, Int.reduceAdd, Int.reduceNeg, Int.reduceSub, risB, ha]
    · simp only [go_sem, ↓reduceIte, Nat.reduceBEq, Nat.reduceEqDiff, Nat.reduceLT, Nat.reduceLeDiff, Nat.reduceAdd, Nat.reduceMul, Nat.reduceSub, reduceCtorEq, Int.reduceLT, Int.reduceLE, Int.reduceEq, Int.reduceBEq, Int.reduceBNe, Int.reduceToNat, Int.reduceAdd, Int.reduceNeg, Int.reduceSub, lastAt_zero]
    · intro k hk
      obtain ⟨h1, h2, h3⟩ := idx k hk
      have hr := allTo_at ha hk
      have hr : (decide (l.getD k 0 ≤ lastAt l k) || decide (below ≤ l.getD k 0)) = false := by simpa only [risAt, Bool.not_eq_true'] using hr
      simp (disch := omega) only [go_sem, ↓reduceIte, Nat.reduceBEq, Nat.reduceEqDiff, Nat.reduceLT, Nat.reduceLeDiff, Nat.reduceAdd, Nat.reduceMul, Nat.reduceSub, reduceCtorEq, Int.reduceLT, Int.reduceLE, Int.reduceEq, Int.reduceBEq, Int.reduceBNe, Int.reduceToNat, Int.reduceAdd, Int.reduceNeg, Int.reduceSub, h1, h2, h3, hr, wrap_i64, lastAt_succ]
    · simp only [go_sem, ↓reduceIte, Nat.reduceBEq, Nat.reduceEqDiff, Nat.reduceLT, Nat.reduceLeDiff, Nat.reduceAdd, Nat.reduceMul, Nat.reduceSub, reduceCtorEq, Int.reduceLT, Int.reduceLE, Int.reduceEq, Int.reduceBEq, Int.reduceBNe, Int.reduceToNat, Int.reduceAdd, Int.reduceNeg, Int.reduceSub]
  | false =>
    obtain ⟨n, hn, g1, g2⟩ := allTo_false ha
    rw [w_rounds_u (fun k => [(5, .int .i64 (lastAt l k)), (6, .int .i64 k)]) n .ret [(4, .bool false), (5, .int .i64 (lastAt l n)), (6, .int .i64 n)] ?_ ?_ ?_ rfl]
    · simp only [go_sem, ↓reduceIte, Nat.reduceBEq, Nat.reduceEqDiff, Nat.reduceLT, Nat.reduceLeDiff, Nat.reduceAdd, Nat.reduceMul, Nat.reduceSub, reduceCtorEq, Int.reduceLT, Int.reduceLE, Int.reduceEq, Int.reduceBEq, Int.reduceBNe, Int.reduceToNat, Int.reduceAdd, Int.reduceNeg, Int.reduceSub, risB, ha]
    · simp only [go_sem, ↓reduceIte, Nat.reduceBEq, Nat.reduceEqDiff, Nat.reduceLT, Nat.reduceLeDiff, Nat.reduceAdd, Nat.reduceMul, Nat.reduceSub, reduceCtorEq, Int.reduceLT, Int.reduceLE, Int.reduceEq, Int.reduceBEq, Int.reduceBNe, Int.reduceToNat, Int.reduceAdd, Int.reduceNeg, Int.reduceSub, lastAt_zero]
    · intro k hk
      obtain ⟨h1, h2, h3⟩ := idx k (by omega)
      have hr := allTo_at g1 hk
      have hr : (decide (l.getD k 0 ≤ lastAt l k) || decide (below ≤ l.getD k 0)) = false := by simpa only [risAt, Bool.not_eq_true'] using hr
      simp (disch := omega) only [go_sem, ↓reduceIte, Nat.reduceBEq, Nat.reduceEqDiff, Nat.reduceLT, Nat.reduceLeDiff, Nat.reduceAdd, Nat.reduceMul, Nat.reduceSub, reduceCtorEq, Int.reduceLT, Int.reduceLE, Int.reduceEq, Int.reduceBEq, Int.reduceBNe, Int.reduceToNat, Int.reduceAdd, Int.reduceNeg, Int.reduceSub, h1, h2, h3, hr, wrap_i64, lastAt_succ]
    · obtain ⟨h1, h2, h3⟩ := idx n hn
      have hr : (decide (l.getD n 0 ≤ lastAt l n) || decide (below ≤ l.getD n 0)) = true := by simpa only [risAt, Bool.not_eq_false'] using g2
      simp (disch := omega) only [go_sem, ↓reduceIte, Nat.reduceBEq, Nat.reduceEqDiff, Nat.reduceLT, Nat.reduceLeDiff, Nat.reduceAdd, Nat.reduceMul, Nat.reduceSub, reduceCtorEq, Int.reduceLT, Int.reduceLE, Int.reduceEq, Int.reduceBEq, Int.reduceBNe, Int.reduceToNat, Int.reduceAdd, Int.reduceNeg, Int.reduceSub, h1, h2, h3, hr]
end Go.Proofs.Ytbfodfepgefloaa
end
section
namespace Go.Proofs.Ytbfodfepgefloaa
open Go.Proofs

def dA : Dr := ⟨4, 2, 1, [⟨⟨#[97, 110, 97]⟩, [3, 5, 2, 7]⟩, ⟨⟨#[98, 101, 110]⟩, [3, 4, 2, 1]⟩, ⟨⟨#[99, 111, 114, 97]⟩, [8, 8, 1, 6]⟩], [⟨⟨#[116, 97, 108, 108]⟩, [3, 5, 2, 6]⟩, ⟨⟨#[115, 104, 111, 114, 116]⟩, [2, 1]⟩], 2, 2⟩
def dF : Dr := { dA with halves := dA.halves ++ [⟨⟨#[116, 111, 114, 110]⟩, [-1, 2]⟩] }
theorem c36_false (h : Heap) : callPure (EW tabX) 36 [.bool false] h = some (eD dA, h) := by
  rw [callPure_eq, w_call _ fn_36 rfl]
  simp only [go_sem, ↓reduceIte, Nat.reduceBEq, Nat.reduceEqDiff, Nat.reduceLT, Nat.reduceLeDiff, Nat.reduceAdd, Nat.reduceMul, Nat.reduceSub, reduceCtorEq, Int.reduceLT, Int.reduceLE, Int.reduceEq, Int.reduceBEq, Int.reduceBNe, Int.reduceToNat, Int.reduceAdd, Int.reduceNeg, Int.reduceSub, List.isEmpty]
  rfl
theorem c36_true (h : Heap) : callPure (EW tabX) 36 [.bool true] h = some (eD dF, h) := by
  rw [callPure_eq, w_call _ fn_36 rfl]
  simp only [go_sem, ↓reduceIte, Nat.reduceBEq, Nat.reduceEqDiff, Nat.reduceLT, Nat.reduceLeDiff, Nat.reduceAdd, Nat.reduceMul, Nat.reduceSub, reduceCtorEq, Int.reduceLT, Int.reduceLE, Int.reduceEq, Int.reduceBEq, Int.reduceBNe, Int.reduceToNat, Int.reduceAdd, Int.reduceNeg, Int.reduceSub, appendAV, true_or, or_false, or_self]
  rfl
end Go.Proofs.Ytbfodfepgefloaa
end
