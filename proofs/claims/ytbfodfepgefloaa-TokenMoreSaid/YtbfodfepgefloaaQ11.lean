/- Parts of the proof, joined: Where a half fits, by the program: fits, enter, Fits. Where a half fits a card: the program's Fits. Rows of numbers: which comes first, the same, has, lost. Small sets as numbers; rows held against each other by the library. Loops whose slots are said by a relation; slices of slices that grow. All truths, by the reference. All fair truths, by the reference. First, Forged, Whose and Read, by the reference. Whose and Read, by the reference. Alike, Enough and New, by the reference. Enough, by the reference. New, by the program. Alike, by the program. Enough, by the program. Enough, by the program: the walk. All truths, in the order in which the program comes to them; the fair ones, as it gathers them. All truths, by the program: the function that calls itself. Conditions: those of each law. -/
import Derived.Test.YtbfodfepgefloaaQ10
set_option linter.unusedSimpArgs false
set_option linter.unusedVariables false
section
namespace Go.Proofs.Ytbfodfepgefloaa
open Go.Proofs
attribute [go_sem] opLookup

def fitsB (d : Dr) (ps : List Pl) (e c : Nat) : Bool := !allTo (fun s => !decide (((e, c, s) : Pl) ∈ ps)) d.steps.toNat
theorem c83 (d : Dr) (hs : 0 ≤ d.steps ∧ d.steps ≤ 6) (ps : List Pl) (e c : Nat) (r m : Nat) (o : AV) (h : Heap) (hr : h.b[r]? = some (.cells (eDc d ++ [o, .mapr m]))) (hm : h.b[m]? = some (.map (esL (num ps)))) :
    (EW tabX).call 83 [.ref r 0, .int .i64 e, .int .i64 c] h = some (.bool (fitsB d ps e c), h) := by
  obtain ⟨B, ht⟩ := h
  have hr : B[r]? = some (.cells (eDc d ++ [o, .mapr m])) := hr
  have hm : B[m]? = some (.map (esL (num ps))) := hm
  simp only [eDc, List.cons_append, List.nil_append] at hr
  rw [w_call _ fn_83 rfl]
  simp only [go_sem, ↓reduceIte, Nat.reduceBEq, Nat.reduceEqDiff, Nat.reduceLT, Nat.reduceLeDiff, Nat.reduceAdd, Nat.reduceMul, Nat.reduceSub, reduceCtorEq, Int.reduceLT, Int.reduceLE, Int.reduceEq, Int.reduceBEq, Int.reduceBNe, Int.reduceToNat, Int.reduceAdd, Int.reduceNeg, Int.reduceSub, hr]
  have look : ∀ s : Nat, eqCells [0, 0, 0] [.int .i64 e, .int .i64 c, .int .i64 s] [.int .i64 e, .int .i64 c, .int .i64 s] = some true ∧
      lookAV [0, 0, 0] (esL (num ps)) [.int .i64 e, .int .i64 c, .int .i64 s] = some (((num ps).find? fun x => decide (((e, c, s) : Pl) = x.1)).map fun x => .int .i64 x.2) := fun s =>
    ⟨by have := eqKey (e, c, s) (e, c, s); simpa [keyL] using this, look_es (e, c, s) (num ps)⟩
  have round : ∀ s : Nat, decide (((e, c, s) : Pl) ∈ ps) = (match (num ps).find? (fun x => decide (((e, c, s) : Pl) = x.1)) with | some x => decide (0 < x.2) | none => false) := fun s => by
    rw [← num_find]
    cases (num ps).find? (fun x => decide (((e, c, s) : Pl) = x.1)) <;> rfl
  cases ha : allTo (fun s => !decide (((e, c, s) : Pl) ∈ ps)) d.steps.toNat with
  | true =>
    rw [w_rounds_u (fun k => [(13, .int .i64 k)]) d.steps.toNat (.exit 0) [(13, .int .i64 d.steps.toNat)] ?_ ?_ ?_ rfl]
    · simp only [go_sem, ↓reduceIte, Nat.reduceBEq, Nat.reduceEqDiff, Nat.reduceLT, Nat.reduceLeDiff, Nat.reduceAdd, Nat.reduceMul, Nat.reduceSub, reduceCtorEq, Int.reduceLT, Int.reduceLE, Int.reduceEq, Int.reduceBEq, Int.reduceBNe, Int.reduceToNat, Int.reduceAdd, Int.reduceNeg, Int.reduceSub, fitsB, ha]
    · simp only [go_sem, ↓reduceIte, Nat.reduceBEq, Nat.reduceEqDiff, Nat.reduceLT, Nat.reduceLeDiff, Nat.reduceAdd, Nat.reduceMul, Nat.reduceSub, reduceCtorEq, Int.reduceLT, Int.reduceLE, Int.reduceEq, Int.reduceBEq, Int.reduceBNe, Int.reduceToNat, Int.reduceAdd, Int.reduceNeg, Int.reduceSub]
    · intro s hk
      have hsi : (s : Int) < d.steps := by omega
      have hn := allTo_at ha hk
      have hn : decide (((e, c, s) : Pl) ∈ ps) = false := by simpa using hn
      rw [round s] at hn
      obtain ⟨l1, l2⟩ := look s
      cases hf : (num ps).find? (fun x => decide (((e, c, s) : Pl) = x.1)) with
      | some x =>
        rw [hf] at hn l2
        simp only [Option.map_some] at l2
        simp only at hn
        simp (disch := omega) only [go_sem, ↓reduceIte, Nat.reduceBEq, Nat.reduceEqDiff, Nat.reduceLT, Nat.reduceLeDiff, Nat.reduceAdd, Nat.reduceMul, Nat.reduceSub, reduceCtorEq, Int.reduceLT, Int.reduceLE, Int.reduceEq, Int.reduceBEq, Int.reduceBNe, Int.reduceToNat, Int.reduceAdd, Int.reduceNeg, Int.reduceSub, hsi, hr, hm, l1, l2, hn, wrap_i64]
      | none =>
        rw [hf] at l2
        simp only [Option.map_none] at l2
        simp (disch := omega) only [go_sem, ↓reduceIte, Nat.reduceBEq, Nat.reduceEqDiff, Nat.reduceLT, Nat.reduceLeDiff, Nat.reduceAdd, Nat.reduceMul, Nat.reduceSub, reduceCtorEq, Int.reduceLT, Int.reduceLE, Int.reduceEq, Int.reduceBEq, Int.reduceBNe, Int.reduceToNat, Int.reduceAdd, Int.reduceNeg, Int.reduceSub, hsi, hr, hm, l1, l2, wrap_i64]
    · have hn : ((d.steps.toNat : Nat) : Int) = d.steps := by omega
      simp only [go_sem, ↓reduceIte, Nat.reduceBEq, Nat.reduceEqDiff, Nat.reduceLT, Nat.reduceLeDiff, Nat.reduceAdd, Nat.reduceMul, Nat.reduceSub, reduceCtorEq, Int.reduceLT, Int.reduceLE, Int.reduceEq, Int.reduceBEq, Int.reduceBNe, Int.reduceToNat, Int.reduceAdd, Int.reduceNeg, Int.reduceSub, hn]
  | false =>
    obtain ⟨n, hn, h1, h2⟩ := allTo_false ha
    rw [w_rounds_u (fun k => [(13, .int .i64 k)]) n .ret [(6, .bool true), (7, .int .i64 n), (13, .int .i64 n)] ?_ ?_ ?_ rfl]
    · simp only [go_sem, ↓reduceIte, Nat.reduceBEq, Nat.reduceEqDiff, Nat.reduceLT, Nat.reduceLeDiff, Nat.reduceAdd, Nat.reduceMul, Nat.reduceSub, reduceCtorEq, Int.reduceLT, Int.reduceLE, Int.reduceEq, Int.reduceBEq, Int.reduceBNe, Int.reduceToNat, Int.reduceAdd, Int.reduceNeg, Int.reduceSub, fitsB, ha]
    · simp only [go_sem, ↓reduceIte, Nat.reduceBEq, Nat.reduceEqDiff, Nat.reduceLT, Nat.reduceLeDiff, Nat.reduceAdd, Nat.reduceMul, Nat.reduceSub, reduceCtorEq, Int.reduceLT, Int.reduceLE, Int.reduceEq, Int.reduceBEq, Int.reduceBNe, Int.reduceToNat, Int.reduceAdd, Int.reduceNeg, Int.reduceSub]
    · intro s hk
      have hsi : (s : Int) < d.steps := by omega
      have hn := allTo_at h1 hk
      have hn : decide (((e, c, s) : Pl) ∈ ps) = false := by simpa using hn
      rw [round s] at hn
      obtain ⟨l1, l2⟩ := look s
      cases hf : (num ps).find? (fun x => decide (((e, c, s) : Pl) = x.1)) with
      | some x =>
        rw [hf] at hn l2
        simp only [Option.map_some] at l2
        simp only at hn
        simp (disch := omega) only [go_sem, ↓reduceIte, Nat.reduceBEq, Nat.reduceEqDiff, Nat.reduceLT, Nat.reduceLeDiff, Nat.reduceAdd, Nat.reduceMul, Nat.reduceSub, reduceCtorEq, Int.reduceLT, Int.reduceLE, Int.reduceEq, Int.reduceBEq, Int.reduceBNe, Int.reduceToNat, Int.reduceAdd, Int.reduceNeg, Int.reduceSub, hsi, hr, hm, l1, l2, hn, wrap_i64]
      | none =>
        rw [hf] at l2
        simp only [Option.map_none] at l2
        simp (disch := omega) only [go_sem, ↓reduceIte, Nat.reduceBEq, Nat.reduceEqDiff, Nat.reduceLT, Nat.reduceLeDiff, Nat.reduceAdd, Nat.reduceMul, Nat.reduceSub, reduceCtorEq, Int.reduceLT, Int.reduceLE, Int.reduceEq, Int.reduceBEq, Int.reduceBNe, Int.reduceToNat, Int.reduceAdd, Int.reduceNeg, Int.reduceSub, hsi, hr, hm, l1, l2, wrap_i64]
    · have hsi : (n : Int) < d.steps := by omega
      have hn : decide (((e, c, n) : Pl) ∈ ps) = true := by simpa using h2
      rw [round n] at hn
      obtain ⟨l1, l2⟩ := look n
      cases hf : (num ps).find? (fun x => decide (((e, c, n) : Pl) = x.1)) with
      | some x =>
        rw [hf] at hn l2
        simp only [Option.map_some] at l2
        simp only at hn
        simp (disch := omega) only [go_sem, ↓reduceIte, Nat.reduceBEq, Nat.reduceEqDiff, Nat.reduceLT, Nat.reduceLeDiff, Nat.reduceAdd, Nat.reduceMul, Nat.reduceSub, reduceCtorEq, Int.reduceLT, Int.reduceLE, Int.reduceEq, Int.reduceBEq, Int.reduceBNe, Int.reduceToNat, Int.reduceAdd, Int.reduceNeg, Int.reduceSub, hsi, hr, hm, l1, l2, hn, wrap_i64]
      | none => rw [hf] at hn; cases hn

/-- What 'enter' says: its error. -/
def enterE (d : Dr) (many : Int) (l : List Int) : Int := if (checkT d).2.2 = 0 then (if l.any (out 0 (many - 1)) then 4 else 0) else (checkT d).2.2
theorem c60_no (d : Dr) (hd : d.fits) (many : Int) (hm : 0 ≤ many ∧ many < 1000000000000000000) (t z : Nat) (l : List Int) (hz : l ≠ [] → z = 1) (hl : l.length < 1000000000000000000) (he : enterE d many l ≠ 0) (h : Heap) :
    (EW tabX).call 60 [eD d, .int .i64 many, .lst t z (I l)] h = some (.tup [.nilp, .int .i64 (enterE d many l)], h) := by
  obtain ⟨B, ht⟩ := h
  have h16 := c16 d hd
  have h51 := c51 0 (many - 1) l z hz
  have hcl := eD_clean d
  have h3 : ∀ x y z, (tup3 (x, y, z)) = .tup [.int .i64 x, .int .i64 y, .int .i64 z] := fun _ _ _ => rfl
  unfold enterE at he ⊢
  rw [w_call _ fn_60 rfl]
  by_cases hc : (checkT d).2.2 = 0
  · rw [if_pos hc] at he ⊢
    have ha : l.any (out 0 (many - 1)) = true := by
      cases hh : l.any (out 0 (many - 1)) with
      | true => rfl
      | false => rw [hh] at he; exact absurd rfl he
    have hk : checkT d = (0, 0, 0) := (ok_of_check hc).2
    rw [hk] at h16
    simp only [go_sem, ↓reduceIte, Nat.reduceBEq, Nat.reduceEqDiff, Nat.reduceLT, Nat.reduceLeDiff, Nat.reduceAdd, Nat.reduceMul, Nat.reduceSub, reduceCtorEq, Int.reduceLT, Int.reduceLE, Int.reduceEq, Int.reduceBEq, Int.reduceBNe, Int.reduceToNat, Int.reduceAdd, Int.reduceNeg, Int.reduceSub, eD, eDc, eC_under, h3] at hcl h16 ⊢
    simp (disch := omega) only [go_sem, ↓reduceIte, Nat.reduceBEq, Nat.reduceEqDiff, Nat.reduceLT, Nat.reduceLeDiff, Nat.reduceAdd, Nat.reduceMul, Nat.reduceSub, reduceCtorEq, Int.reduceLT, Int.reduceLE, Int.reduceEq, Int.reduceBEq, Int.reduceBNe, Int.reduceToNat, Int.reduceAdd, Int.reduceNeg, Int.reduceSub, eC_clean, h16, h51 _ hl, ha, wrap_i64]
  · rw [if_neg hc] at he ⊢
    have hne : ((checkT d).2.2 != 0) = true := by simpa using hc
    simp only [go_sem, ↓reduceIte, Nat.reduceBEq, Nat.reduceEqDiff, Nat.reduceLT, Nat.reduceLeDiff, Nat.reduceAdd, Nat.reduceMul, Nat.reduceSub, reduceCtorEq, Int.reduceLT, Int.reduceLE, Int.reduceEq, Int.reduceBEq, Int.reduceBNe, Int.reduceToNat, Int.reduceAdd, Int.reduceNeg, Int.reduceSub, eD, eDc, eC_under, tup3] at hcl h16 ⊢
    simp (disch := omega) only [go_sem, ↓reduceIte, Nat.reduceBEq, Nat.reduceEqDiff, Nat.reduceLT, Nat.reduceLeDiff, Nat.reduceAdd, Nat.reduceMul, Nat.reduceSub, reduceCtorEq, Int.reduceLT, Int.reduceLE, Int.reduceEq, Int.reduceBEq, Int.reduceBNe, Int.reduceToNat, Int.reduceAdd, Int.reduceNeg, Int.reduceSub, eC_clean, h16, hne]
theorem c60_yes (d : Dr) (hd : d.fits) (many : Int) (hm : 0 ≤ many ∧ many < 1000000000000000000) (t z : Nat) (l : List Int) (hz : l ≠ [] → z = 1) (hl : l.length < 1000000000000000000) (he : enterE d many l = 0) (h : Heap) :
    d.Ok ∧ ∃ h', (EW tabX).call 60 [eD d, .int .i64 many, .lst t z (I l)] h = some (.tup [.ref (h.b.length + 3) 0, .int .i64 0], h') ∧ HL (h.b ++ [.cells (eDc d)]) d (P1 d d.halves.length) h' := by
  obtain ⟨B, ht⟩ := h
  have h16 := c16 d hd
  have h51 := c51 0 (many - 1) l z hz
  have hcl := eD_clean d
  have h3 : ∀ x y z, (tup3 (x, y, z)) = .tup [.int .i64 x, .int .i64 y, .int .i64 z] := fun _ _ _ => rfl
  unfold enterE at he
  have hc : (checkT d).2.2 = 0 := by
    by_cases hc : (checkT d).2.2 = 0
    · exact hc
    · rw [if_neg hc] at he; exact he
  rw [if_pos hc] at he
  have ha : l.any (out 0 (many - 1)) = false := by
    cases hh : l.any (out 0 (many - 1)) with
    | false => rfl
    | true => rw [hh] at he; cases he
  obtain ⟨ho, hk⟩ := ok_of_check hc
  refine ⟨ho, ?_⟩
  rw [hk] at h16
  obtain ⟨h', h75, hH⟩ := c75 d hd ho ⟨B ++ [.cells (eDc d)], ht⟩
  refine ⟨h', ?_, hH⟩
  obtain ⟨tag, zz, junk, t, rfl, hown⟩ := hH
  have hnu : ¬ (B.length + 1 + 2 < B.length) := by omega
  rw [w_call _ fn_60 rfl]
  simp only [go_sem, ↓reduceIte, Nat.reduceBEq, Nat.reduceEqDiff, Nat.reduceLT, Nat.reduceLeDiff, Nat.reduceAdd, Nat.reduceMul, Nat.reduceSub, reduceCtorEq, Int.reduceLT, Int.reduceLE, Int.reduceEq, Int.reduceBEq, Int.reduceBNe, Int.reduceToNat, Int.reduceAdd, Int.reduceNeg, Int.reduceSub, eD, eDc, eC_under, h3] at hcl h16 h75 ⊢
  simp (disch := omega) only [go_sem, ↓reduceIte, Nat.reduceBEq, Nat.reduceEqDiff, Nat.reduceLT, Nat.reduceLeDiff, Nat.reduceAdd, Nat.reduceMul, Nat.reduceSub, reduceCtorEq, Int.reduceLT, Int.reduceLE, Int.reduceEq, Int.reduceBEq, Int.reduceBNe, Int.reduceToNat, Int.reduceAdd, Int.reduceNeg, Int.reduceSub, eC_clean, h16, h51 _ hl, ha, wrap_i64, h75, hnu]
end Go.Proofs.Ytbfodfepgefloaa
end
section
namespace Go.Proofs.Ytbfodfepgefloaa
open Go.Proofs

def ownT (T0 : List Bool) (l : List Int) : AV := .lst (tagT T0 l.length) (zT 1 l.length) (I l)
theorem ownT_clean (T0 : List Bool) (l : List Int) : (ownT T0 l).clean = some (vI l) := by simp only [ownT, vI, go_sem, ↓reduceIte, Nat.reduceBEq, Nat.reduceEqDiff, Nat.reduceLT, Nat.reduceLeDiff, Nat.reduceAdd, Nat.reduceMul, Nat.reduceSub, reduceCtorEq, Int.reduceLT, Int.reduceLE, Int.reduceEq, Int.reduceBEq, Int.reduceBNe, Int.reduceToNat, Int.reduceAdd, Int.reduceNeg, Int.reduceSub]
theorem ownT_nil (T0 : List Bool) : ownT T0 [] = .lst 1 0 [] := rfl
theorem ownT_under (T0 : List Bool) (n : Nat) (l : List Int) : (ownT T0 l).under n = true := by simp only [ownT, go_sem, ↓reduceIte, Nat.reduceBEq, Nat.reduceEqDiff, Nat.reduceLT, Nat.reduceLeDiff, Nat.reduceAdd, Nat.reduceMul, Nat.reduceSub, reduceCtorEq, Int.reduceLT, Int.reduceLE, Int.reduceEq, Int.reduceBEq, Int.reduceBNe, Int.reduceToNat, Int.reduceAdd, Int.reduceNeg, Int.reduceSub]
theorem ownT_app (T0 : List Bool) (l : List Int) (x : Int) (hl : l.length < 1000) (B : List ABlk) :
    appendAV tabX 29 (T T0 l.length).length ⟨B, T T0 l.length⟩ (ownT T0 l) (.lst 1 1 [.int .i64 x]) = some (ownT T0 (l ++ [x]), ⟨B, T T0 (l ++ [x]).length⟩) := by
  have := append_step (X := tabX) (t := 29) (e := 3) (sz := 1) T0 l.length B (zT 1 l.length) 1 1 (I l) [.int .i64 x] (by simp only [go_sem, ↓reduceIte, Nat.reduceBEq, Nat.reduceEqDiff, Nat.reduceLT, Nat.reduceLeDiff, Nat.reduceAdd, Nat.reduceMul, Nat.reduceSub, reduceCtorEq, Int.reduceLT, Int.reduceLE, Int.reduceEq, Int.reduceBEq, Int.reduceBNe, Int.reduceToNat, Int.reduceAdd, Int.reduceNeg, Int.reduceSub]) (by simp only [go_sem, ↓reduceIte, Nat.reduceBEq, Nat.reduceEqDiff, Nat.reduceLT, Nat.reduceLeDiff, Nat.reduceAdd, Nat.reduceMul, Nat.reduceSub, reduceCtorEq, Int.reduceLT, Int.reduceLE, Int.reduceEq, Int.reduceBEq, Int.reduceBNe, Int.reduceToNat, Int.reduceAdd, Int.reduceNeg, Int.reduceSub])
    (by rcases Nat.eq_zero_or_pos l.length with e | e; exact .inl ⟨e, by rw [I_len, e]⟩; exact .inr (zT_pos e)) (.inl rfl) (by omega) (by simp only [go_sem, ↓reduceIte, Nat.reduceBEq, Nat.reduceEqDiff, Nat.reduceLT, Nat.reduceLeDiff, Nat.reduceAdd, Nat.reduceMul, Nat.reduceSub, reduceCtorEq, Int.reduceLT, Int.reduceLE, Int.reduceEq, Int.reduceBEq, Int.reduceBNe, Int.reduceToNat, Int.reduceAdd, Int.reduceNeg, Int.reduceSub]; omega) (by simp only [go_sem, ↓reduceIte, Nat.reduceBEq, Nat.reduceEqDiff, Nat.reduceLT, Nat.reduceLeDiff, Nat.reduceAdd, Nat.reduceMul, Nat.reduceSub, reduceCtorEq, Int.reduceLT, Int.reduceLE, Int.reduceEq, Int.reduceBEq, Int.reduceBNe, Int.reduceToNat, Int.reduceAdd, Int.reduceNeg, Int.reduceSub]; omega) (by simp only [go_sem, ↓reduceIte, Nat.reduceBEq, Nat.reduceEqDiff, Nat.reduceLT, Nat.reduceLeDiff, Nat.reduceAdd, Nat.reduceMul, Nat.reduceSub, reduceCtorEq, Int.reduceLT, Int.reduceLE, Int.reduceEq, Int.reduceBEq, Int.reduceBNe, Int.reduceToNat, Int.reduceAdd, Int.reduceNeg, Int.reduceSub]) (by simp only [go_sem, ↓reduceIte, Nat.reduceBEq, Nat.reduceEqDiff, Nat.reduceLT, Nat.reduceLeDiff, Nat.reduceAdd, Nat.reduceMul, Nat.reduceSub, reduceCtorEq, Int.reduceLT, Int.reduceLE, Int.reduceEq, Int.reduceBEq, Int.reduceBNe, Int.reduceToNat, Int.reduceAdd, Int.reduceNeg, Int.reduceSub])
  have e : (l ++ [x]).length = l.length + 1 := by simp
  rw [ownT, this, ownT, e, I_snoc]; rfl

/-- The steps of those places that are of a half and a card. -/
def stepsOf (e c : Nat) (ps : List Pl) : List Int := (ps.filter fun p => decide (p = (e, c, p.2.2))).map fun p => (p.2.2 : Int)
theorem stepsOf_succ (e c : Nat) {ps : List Pl} {k : Nat} {p : Pl} (h : ps[k]? = some p) : stepsOf e c (ps.take (k + 1)) = if decide (p = (e, c, p.2.2)) = true then stepsOf e c (ps.take k) ++ [(p.2.2 : Int)] else stepsOf e c (ps.take k) := by
  unfold stepsOf
  rw [List.take_add_one, h, Option.toList_some, List.filter_append, List.map_append]
  cases hd : decide (p = (e, c, p.2.2)) <;> simp [hd]
theorem stepsOf_len (e c : Nat) (ps : List Pl) : (stepsOf e c ps).length ≤ ps.length := by
  unfold stepsOf; rw [List.length_map]; exact List.length_filter_le _ _
theorem stepsOf_app (e c : Nat) (a b : List Pl) : stepsOf e c (a ++ b) = stepsOf e c a ++ stepsOf e c b := by simp [stepsOf]
theorem stepsOf_no {e c : Nat} {ps : List Pl} (h : ∀ p ∈ ps, p.1 ≠ e ∨ p.2.1 ≠ c) : stepsOf e c ps = [] := by
  unfold stepsOf
  rw [List.filter_eq_nil_iff.2]
  · rfl
  · intro p hp
    obtain ⟨x, y, z⟩ := p
    rcases h _ hp with h | h <;> simp_all
theorem stepsOf_P3 (d : Dr) (e c k : Nat) : stepsOf e c (P3 d e c k) = ((List.range k).filter fun s => fitB d e c s).map fun (s : Nat) => (s : Int) := by
  unfold stepsOf P3
  rw [List.filter_eq_self.2]
  · simp
  · intro p hp
    obtain ⟨s, _, rfl⟩ := List.mem_map.1 hp
    simp
theorem stepsOf_P2 (d : Dr) (e c : Nat) : ∀ k, c < k → stepsOf e c (P2 d e k) = stepsOf e c (P3 d e c d.steps.toNat)
  | 0, h => by omega
  | k + 1, h => by
    rw [P2_succ, stepsOf_app]
    by_cases hk : c = k
    · subst hk
      rw [stepsOf_no (ps := P2 d e c) fun p hp => .inr (by have := (P2_mem hp).2; omega)]
      rfl
    · rw [stepsOf_P2 d e c k (by omega), stepsOf_no (ps := P3 d e k d.steps.toNat) fun p hp => .inr (by have := (P3_mem hp).2.1; omega)]
      simp
theorem stepsOf_P1 (d : Dr) (e c : Nat) (hc : c < d.cards.length) : ∀ k, e < k → stepsOf e c (P1 d k) = stepsOf e c (P3 d e c d.steps.toNat)
  | 0, h => by omega
  | k + 1, h => by
    rw [P1_succ, stepsOf_app]
    by_cases hk : e = k
    · subst hk
      rw [stepsOf_no (ps := P1 d e) fun p hp => .inl (by have := P1_mem hp; omega), stepsOf_P2 d e c _ hc]
      rfl
    · rw [stepsOf_P1 d e c hc k (by omega), stepsOf_no (ps := P2 d k d.cards.length) fun p hp => .inl (by have := (P2_mem hp).1; omega)]
      simp
theorem stepsOf_all (d : Dr) (e c : Nat) (he : e < d.halves.length) (hc : c < d.cards.length) : stepsOf e c (P1 d d.halves.length) = fitsL d (d.cards.getD c ⟨default, []⟩) (d.halves.getD e ⟨default, []⟩) d.steps.toNat := by
  rw [stepsOf_P1 d e c hc _ he, stepsOf_P3]; rfl

/-- What Fits answers. -/
def fitsAV (d : Dr) (c e : Int) : AV := if askedE d c d.cards.length = 0 then (if askedE d e d.halves.length = 0 then .tup [vI (fitsL d (d.cards.getD c.toNat ⟨default, []⟩) (d.halves.getD e.toNat ⟨default, []⟩) d.steps.toNat), .int .i64 0] else .tup [vI [], .int .i64 (askedE d e d.halves.length)]) else .tup [vI [], .int .i64 (askedE d c d.cards.length)]

def cellP (p : Pl) : ABlk := .cells (keyL p)
theorem c18 (d : Dr) (hd : d.fits) (c e : Int) (h : Heap) : callPure (EW tabX) 18 [eD d, .int .i64 c, .int .i64 e] h = some (fitsAV d c e, h) := by
  have lc := hd.lc
  have lh := hd.lh
  have hcl := eD_clean d
  have asked1 : ∀ n below, askedE d n below = enterE d below [n] := fun n below => by
    unfold askedE enterE
    split
    · simp only [List.any_cons, List.any_nil, Bool.or_false]
      have := out_not 0 (below - 1) n
      cases ho : out 0 (below - 1) n <;> rw [ho] at this <;> rw [← this] <;> rfl
    · rfl
  rw [callPure_eq, w_call _ fn_18 rfl]
  unfold fitsAV
  by_cases h1 : askedE d c d.cards.length = 0
  · rw [if_pos h1]
    have h1' := h1
    rw [asked1] at h1'
    obtain ⟨ho, h', h60, hH⟩ := c60_yes d hd d.cards.length (by omega) 1 1 [c] (fun _ => rfl) (by simp) h1' ⟨[.cells (eDc d)], []⟩
    obtain ⟨tag, z, junk, t, rfl, hown⟩ := hH
    have hB0 : ([.cells (eDc d)] ++ [.cells (eDc d)] ++ (.cells (eDc d) :: .map (esL (num (P1 d d.halves.length))) :: .cells (eDc d ++ [.lst tag z ((P1 d d.halves.length).map eL), .mapr (([.cells (eDc d)] ++ [.cells (eDc d)] : List ABlk).length + 1)]) :: junk))[0]? = some (.cells (eDc d)) := rfl
    have hB4 : ([.cells (eDc d)] ++ [.cells (eDc d)] ++ (.cells (eDc d) :: .map (esL (num (P1 d d.halves.length))) :: .cells (eDc d ++ [.lst tag z ((P1 d d.halves.length).map eL), .mapr (([.cells (eDc d)] ++ [.cells (eDc d)] : List ABlk).length + 1)]) :: junk))[4]? = some (.cells (eDc d ++ [.lst tag z ((P1 d d.halves.length).map eL), .mapr 3])) := rfl
    have hlen : (P1 d d.halves.length).length ≤ 200 := by
      have a1 := P1_len d d.halves.length
      have := ho.c4; have := ho.h4; have := ho.s6
      have m1 : d.halves.length * (d.cards.length * d.steps.toNat) ≤ 4 * (4 * 6) := Nat.mul_le_mul (by omega) (Nat.mul_le_mul (by omega) (by omega))
      omega
    generalize [.cells (eDc d)] ++ [.cells (eDc d)] ++ (.cells (eDc d) :: .map (esL (num (P1 d d.halves.length))) :: .cells (eDc d ++ [.lst tag z ((P1 d d.halves.length).map eL), .mapr (([.cells (eDc d)] ++ [.cells (eDc d)] : List ABlk).length + 1)]) :: junk) = B at h60 hB0 hB4
    simp only [eDc, List.cons_append, List.nil_append] at hB0 hB4
    have hc0 : (checkT d).2.2 = 0 := by
      unfold askedE at h1
      split at h1
      · assumption
      · rename_i hx; exact absurd h1 hx
    have hci : inR c 0 (d.cards.length - 1) = true := by
      unfold askedE at h1; rw [if_pos hc0] at h1
      cases hh : inR c 0 (d.cards.length - 1) with
      | true => rfl
      | false => rw [hh] at h1; cases h1
    by_cases h2 : askedE d e d.halves.length = 0
    · rw [if_pos h2]
      have hei : inR e 0 (d.halves.length - 1) = true := by
        unfold askedE at h2; rw [if_pos hc0] at h2
        cases hh : inR e 0 (d.halves.length - 1) with
        | true => rfl
        | false => rw [hh] at h2; cases h2
      have heo : out 0 ((d.halves.length : Int) - 1) e = false := by rw [← Bool.not_not (out 0 ((d.halves.length : Int) - 1) e), out_not, hei]; rfl
      simp only [inR, Bool.and_eq_true, decide_eq_true_eq] at hci hei
      obtain ⟨c, rfl⟩ : ∃ n : Nat, c = n := ⟨c.toNat, by omega⟩
      obtain ⟨e, rfl⟩ : ∃ n : Nat, e = n := ⟨e.toNat, by omega⟩
      simp only [go_sem, ↓reduceIte, Nat.reduceBEq, Nat.reduceEqDiff, Nat.reduceLT, Nat.reduceLeDiff, Nat.reduceAdd, Nat.reduceMul, Nat.reduceSub, reduceCtorEq, Int.reduceLT, Int.reduceLE, Int.reduceEq, Int.reduceBEq, Int.reduceBNe, Int.reduceToNat, Int.reduceAdd, Int.reduceNeg, Int.reduceSub, eD, eDc, eC_under, I_c, I_nil] at hcl h60 ⊢
      simp (disch := omega) only [go_sem, ↓reduceIte, Nat.reduceBEq, Nat.reduceEqDiff, Nat.reduceLT, Nat.reduceLeDiff, Nat.reduceAdd, Nat.reduceMul, Nat.reduceSub, reduceCtorEq, Int.reduceLT, Int.reduceLE, Int.reduceEq, Int.reduceBEq, Int.reduceBNe, Int.reduceToNat, Int.reduceAdd, Int.reduceNeg, Int.reduceSub, eC_clean, h60, wrap_i64, c51_1, heo, hB0, hB4]
      rw [← stepsOf_all d e c (by omega) (by omega)]
      generalize P1 d d.halves.length = ps at hlen hown ⊢
      rw [w_rounds_h (fun k => [(6, ownT t (stepsOf e c (ps.take k))), (38, .int .i64 k)]) (fun k => ⟨B ++ (ps.take k).map cellP, T t (stepsOf e c (ps.take k)).length⟩) ps.length (.exit 1) [(6, ownT t (stepsOf e c ps)), (38, .int .i64 ps.length)] ⟨B ++ ps.map cellP, T t (stepsOf e c ps).length⟩ ?_ ?_ ?_ ?_ rfl]
      · simp only [go_sem, ↓reduceIte, Nat.reduceBEq, Nat.reduceEqDiff, Nat.reduceLT, Nat.reduceLeDiff, Nat.reduceAdd, Nat.reduceMul, Nat.reduceSub, reduceCtorEq, Int.reduceLT, Int.reduceLE, Int.reduceEq, Int.reduceBEq, Int.reduceBNe, Int.reduceToNat, Int.reduceAdd, Int.reduceNeg, Int.reduceSub, ownT_clean, ownT_under]
      · simp only [go_sem, ↓reduceIte, Nat.reduceBEq, Nat.reduceEqDiff, Nat.reduceLT, Nat.reduceLeDiff, Nat.reduceAdd, Nat.reduceMul, Nat.reduceSub, reduceCtorEq, Int.reduceLT, Int.reduceLE, Int.reduceEq, Int.reduceBEq, Int.reduceBNe, Int.reduceToNat, Int.reduceAdd, Int.reduceNeg, Int.reduceSub, stepsOf, List.filter_nil, List.map_nil, ownT_nil]
      · simp only [go_sem, ↓reduceIte, Nat.reduceBEq, Nat.reduceEqDiff, Nat.reduceLT, Nat.reduceLeDiff, Nat.reduceAdd, Nat.reduceMul, Nat.reduceSub, reduceCtorEq, Int.reduceLT, Int.reduceLE, Int.reduceEq, Int.reduceBEq, Int.reduceBNe, Int.reduceToNat, Int.reduceAdd, Int.reduceNeg, Int.reduceSub, stepsOf, List.filter_nil, List.map_nil, List.append_nil]
      · intro k hk
        have hx := List.getElem?_eq_getElem hk
        have hki : (k : Int) < ps.length := by omega
        have hz : z = 3 := by
          rcases hown with ⟨_, h0⟩ | ⟨_, _, h0, _⟩
          · omega
          · exact h0
        have hkey : eqCells [0, 0, 0] [.int .i64 ps[k].1, .int .i64 ps[k].2.1, .int .i64 ps[k].2.2] [.int .i64 e, .int .i64 c, .int .i64 ps[k].2.2] = some (decide (ps[k] = (e, c, ps[k].2.2))) := by
          have := eqKey ps[k] (e, c, ps[k].2.2)
          simpa only [keyL] using this
        have hsl := stepsOf_len e c (ps.take k)
        have htk : (ps.take k).length ≤ 200 := by rw [List.length_take]; omega
        have hap := ownT_app t (stepsOf e c (ps.take k)) (ps[k].2.2) (by omega)
        have hget : (ps.map eL)[k]? = some (eL ps[k]) := by simp [hk]
        rw [stepsOf_succ e c hx, map_succ cellP hx, ← List.append_assoc]
        generalize B ++ (ps.take k).map cellP = C
        cases hd2 : decide (ps[k] = (e, c, ps[k].2.2)) with
        | true =>
          rw [hd2] at hkey
          simp (disch := omega) only [go_sem, ↓reduceIte, Nat.reduceBEq, Nat.reduceEqDiff, Nat.reduceLT, Nat.reduceLeDiff, Nat.reduceAdd, Nat.reduceMul, Nat.reduceSub, reduceCtorEq, Int.reduceLT, Int.reduceLE, Int.reduceEq, Int.reduceBEq, Int.reduceBNe, Int.reduceToNat, Int.reduceAdd, Int.reduceNeg, Int.reduceSub, hki, hget, hz, eL, cellP, keyL, hkey, hap, wrap_i64, aggBin]
        | false =>
          rw [hd2] at hkey
          simp (disch := omega) only [go_sem, ↓reduceIte, Nat.reduceBEq, Nat.reduceEqDiff, Nat.reduceLT, Nat.reduceLeDiff, Nat.reduceAdd, Nat.reduceMul, Nat.reduceSub, reduceCtorEq, Int.reduceLT, Int.reduceLE, Int.reduceEq, Int.reduceBEq, Int.reduceBNe, Int.reduceToNat, Int.reduceAdd, Int.reduceNeg, Int.reduceSub, hki, hget, hz, eL, cellP, keyL, hkey, wrap_i64, aggBin]
      · simp only [go_sem, ↓reduceIte, Nat.reduceBEq, Nat.reduceEqDiff, Nat.reduceLT, Nat.reduceLeDiff, Nat.reduceAdd, Nat.reduceMul, Nat.reduceSub, reduceCtorEq, Int.reduceLT, Int.reduceLE, Int.reduceEq, Int.reduceBEq, Int.reduceBNe, Int.reduceToNat, Int.reduceAdd, Int.reduceNeg, Int.reduceSub]
    · rw [if_neg h2]
      have he4 : askedE d e d.halves.length = 4 := by
        unfold askedE at h2 ⊢; rw [if_pos hc0] at h2 ⊢
        split
        · rename_i hh; rw [if_pos hh] at h2; exact absurd rfl h2
        · rfl
      have heo : out 0 ((d.halves.length : Int) - 1) e = true := by
        rw [← Bool.not_not (out 0 ((d.halves.length : Int) - 1) e), out_not]
        cases hh : inR e 0 ((d.halves.length : Int) - 1) with
        | false => rfl
        | true => unfold askedE at h2; rw [if_pos hc0, if_pos hh] at h2; exact absurd rfl h2
      rw [he4]
      simp only [inR, Bool.and_eq_true, decide_eq_true_eq] at hci
      simp only [go_sem, ↓reduceIte, Nat.reduceBEq, Nat.reduceEqDiff, Nat.reduceLT, Nat.reduceLeDiff, Nat.reduceAdd, Nat.reduceMul, Nat.reduceSub, reduceCtorEq, Int.reduceLT, Int.reduceLE, Int.reduceEq, Int.reduceBEq, Int.reduceBNe, Int.reduceToNat, Int.reduceAdd, Int.reduceNeg, Int.reduceSub, eD, eDc, eC_under, I_c, I_nil] at hcl h60 ⊢
      simp (disch := omega) only [go_sem, ↓reduceIte, Nat.reduceBEq, Nat.reduceEqDiff, Nat.reduceLT, Nat.reduceLeDiff, Nat.reduceAdd, Nat.reduceMul, Nat.reduceSub, reduceCtorEq, Int.reduceLT, Int.reduceLE, Int.reduceEq, Int.reduceBEq, Int.reduceBNe, Int.reduceToNat, Int.reduceAdd, Int.reduceNeg, Int.reduceSub, eC_clean, h60, wrap_i64, c51_1, heo, hB0, vI_nil]
  · rw [if_neg h1]
    have h1' := h1
    rw [asked1] at h1'
    have h60 := c60_no d hd d.cards.length (by omega) 1 1 [c] (fun _ => rfl) (by simp) h1' ⟨[.cells (eDc d)], []⟩
    have hne : (enterE d d.cards.length [c] != 0) = true := by simpa using h1'
    rw [asked1]
    simp only [go_sem, ↓reduceIte, Nat.reduceBEq, Nat.reduceEqDiff, Nat.reduceLT, Nat.reduceLeDiff, Nat.reduceAdd, Nat.reduceMul, Nat.reduceSub, reduceCtorEq, Int.reduceLT, Int.reduceLE, Int.reduceEq, Int.reduceBEq, Int.reduceBNe, Int.reduceToNat, Int.reduceAdd, Int.reduceNeg, Int.reduceSub, eD, eDc, eC_under, I_c, I_nil] at hcl h60 ⊢
    simp (disch := omega) only [go_sem, ↓reduceIte, Nat.reduceBEq, Nat.reduceEqDiff, Nat.reduceLT, Nat.reduceLeDiff, Nat.reduceAdd, Nat.reduceMul, Nat.reduceSub, reduceCtorEq, Int.reduceLT, Int.reduceLE, Int.reduceEq, Int.reduceBEq, Int.reduceBNe, Int.reduceToNat, Int.reduceAdd, Int.reduceNeg, Int.reduceSub, eC_clean, h60, hne, vI_nil]
end Go.Proofs.Ytbfodfepgefloaa
end
section
namespace Go.Proofs.Ytbfodfepgefloaa
open Go.Proofs

/-- How many numbers two rows begin with alike. -/
def cpl : List Int → List Int → Nat
  | x :: xs, y :: ys => if x = y then cpl xs ys + 1 else 0
  | _, _ => 0
theorem cpl_le1 : ∀ a b : List Int, cpl a b ≤ a.length
  | [], _ => by simp [cpl]
  | x :: xs, [] => by simp [cpl]
  | x :: xs, y :: ys => by unfold cpl; split; have := cpl_le1 xs ys; simp; omega; omega
theorem cpl_le2 : ∀ a b : List Int, cpl a b ≤ b.length
  | [], _ => by simp [cpl]
  | x :: xs, [] => by simp [cpl]
  | x :: xs, y :: ys => by unfold cpl; split; have := cpl_le2 xs ys; simp; omega; omega
theorem cpl_eq : ∀ (a b : List Int) (k : Nat), k < cpl a b → a[k]? = b[k]?
  | [], b, k, h => by simp [cpl] at h
  | x :: xs, [], k, h => by simp [cpl] at h
  | x :: xs, y :: ys, k, h => by
    unfold cpl at h
    split at h
    · rename_i e
      cases k with
      | zero => simp [e]
      | succ k => simpa using cpl_eq xs ys k (by omega)
    · omega
theorem cpl_ne : ∀ (a b : List Int) (x y : Int), a[cpl a b]? = some x → b[cpl a b]? = some y → x ≠ y
  | [], b, x, y, h, _ => by simp [cpl] at h
  | u :: us, [], x, y, _, h => by simp [cpl] at h
  | u :: us, v :: vs, x, y, h1, h2 => by
    unfold cpl at h1 h2
    split at h1
    · rename_i e
      rw [if_pos e] at h2
      exact cpl_ne us vs x y (by simpa using h1) (by simpa using h2)
    · rename_i e
      rw [if_neg e] at h2
      simp at h1 h2
      rw [← h1, ← h2]; exact e
/-- Whether a row comes before another one. -/
def ltB : List Int → List Int → Bool
  | _, [] => false
  | [], _ :: _ => true
  | x :: xs, y :: ys => if x = y then ltB xs ys else decide (x < y)
theorem ltB_cpl : ∀ a b : List Int, ltB a b = if cpl a b = b.length then false else (decide (cpl a b = a.length) || decide (a.getD (cpl a b) 0 < b.getD (cpl a b) 0))
  | [], [] => rfl
  | [], y :: ys => by simp [ltB, cpl]
  | x :: xs, [] => by simp [ltB, cpl]
  | x :: xs, y :: ys => by
    unfold ltB cpl
    by_cases e : x = y
    · rw [if_pos e, if_pos e, ltB_cpl xs ys]
      simp
    · rw [if_neg e, if_neg e]
      simp
theorem ltB_irrefl : ∀ a : List Int, ltB a a = false
  | [] => rfl
  | x :: xs => by unfold ltB; rw [if_pos rfl]; exact ltB_irrefl xs
theorem ltB_eq : ∀ a b : List Int, (decide (a.length = b.length) && (!ltB a b && !ltB b a)) = decide (a = b)
  | [], [] => rfl
  | [], y :: ys => by simp
  | x :: xs, [] => by simp
  | x :: xs, y :: ys => by
    have ih := ltB_eq xs ys
    simp only [ltB]
    by_cases e : x = y
    · subst e
      rw [if_pos rfl, if_pos rfl]
      simpa using ih
    · have e' : ¬ y = x := fun h => e h.symm
      rw [if_neg e, if_neg e']
      simp [e]
      omega

theorem c46 (a b : List Int) (za zb : Nat) (hza : a ≠ [] → za = 1) (hzb : b ≠ [] → zb = 1) (la : a.length < 1000000000000000000) (lb : b.length < 1000000000000000000) (h : Heap) :
    callPure (EW tabX) 46 [.lst 0 za (I a), .lst 0 zb (I b)] h = some (.bool (ltB a b), h) := by
  rw [callPure_eq, w_call _ fn_46 rfl]
  simp only [go_sem, ↓reduceIte, Nat.reduceBEq, Nat.reduceEqDiff, Nat.reduceLT, Nat.reduceLeDiff, Nat.reduceAdd, Nat.reduceMul, Nat.reduceSub, reduceCtorEq, Int.reduceLT, Int.reduceLE, Int.reduceEq, Int.reduceBEq, Int.reduceBNe, Int.reduceToNat, Int.reduceAdd, Int.reduceNeg, Int.reduceSub]
  have h1 := cpl_le1 a b
  have h2 := cpl_le2 a b
  rw [w_rounds_u (fun k => [(5, .int .i64 k)]) (cpl a b) (.exit 0) [(5, .int .i64 (cpl a b))] ?_ ?_ ?_ rfl]
  · rw [ltB_cpl]
    by_cases e : cpl a b = b.length
    · simp only [go_sem, ↓reduceIte, Nat.reduceBEq, Nat.reduceEqDiff, Nat.reduceLT, Nat.reduceLeDiff, Nat.reduceAdd, Nat.reduceMul, Nat.reduceSub, reduceCtorEq, Int.reduceLT, Int.reduceLE, Int.reduceEq, Int.reduceBEq, Int.reduceBNe, Int.reduceToNat, Int.reduceAdd, Int.reduceNeg, Int.reduceSub, e]
    · have e' : (((cpl a b : Nat) : Int) == b.length) = false := by simp; omega
      have hzb1 := hzb (by intro h; rw [h] at e; simp [cpl] at e)
      have hb : b[cpl a b]? = some (b.getD (cpl a b) 0) := by
        rw [List.getD_eq_getElem?_getD, List.getElem?_eq_getElem (show cpl a b < b.length by omega)]; rfl
      by_cases f : cpl a b = a.length
      · have f' : (((cpl a b : Nat) : Int) == a.length) = true := by simp [f]
        have fd : decide (cpl a b = a.length) = true := by simp [f]
        simp only [go_sem, ↓reduceIte, Nat.reduceBEq, Nat.reduceEqDiff, Nat.reduceLT, Nat.reduceLeDiff, Nat.reduceAdd, Nat.reduceMul, Nat.reduceSub, reduceCtorEq, Int.reduceLT, Int.reduceLE, Int.reduceEq, Int.reduceBEq, Int.reduceBNe, Int.reduceToNat, Int.reduceAdd, Int.reduceNeg, Int.reduceSub, e', e, f', fd]
      · have f' : (((cpl a b : Nat) : Int) == a.length) = false := by simp; omega
        have fd : decide (cpl a b = a.length) = false := by simp [f]
        have hza1 := hza (by intro h; rw [h] at h1; simp at h1; rw [h] at f; simp at f; omega)
        have ha : a[cpl a b]? = some (a.getD (cpl a b) 0) := by
          rw [List.getD_eq_getElem?_getD, List.getElem?_eq_getElem (show cpl a b < a.length by omega)]; rfl
        simp only [go_sem, ↓reduceIte, Nat.reduceBEq, Nat.reduceEqDiff, Nat.reduceLT, Nat.reduceLeDiff, Nat.reduceAdd, Nat.reduceMul, Nat.reduceSub, reduceCtorEq, Int.reduceLT, Int.reduceLE, Int.reduceEq, Int.reduceBEq, Int.reduceBNe, Int.reduceToNat, Int.reduceAdd, Int.reduceNeg, Int.reduceSub, e', e, f', fd, ha, hb, hza1, hzb1]
  · simp only [go_sem, ↓reduceIte, Nat.reduceBEq, Nat.reduceEqDiff, Nat.reduceLT, Nat.reduceLeDiff, Nat.reduceAdd, Nat.reduceMul, Nat.reduceSub, reduceCtorEq, Int.reduceLT, Int.reduceLE, Int.reduceEq, Int.reduceBEq, Int.reduceBNe, Int.reduceToNat, Int.reduceAdd, Int.reduceNeg, Int.reduceSub]
  · intro k hk
    have ka : k < a.length := by omega
    have kb : k < b.length := by omega
    have kai : (k : Int) < a.length := by omega
    have kbi : (k : Int) < b.length := by omega
    have hx := List.getElem?_eq_getElem ka
    have hy := List.getElem?_eq_getElem kb
    have he := cpl_eq a b k hk
    rw [hx, hy] at he
    simp only [Option.some.injEq] at he
    have hza1 := hza (by intro h; rw [h] at ka; simp at ka)
    have hzb1 := hzb (by intro h; rw [h] at kb; simp at kb)
    simp (disch := omega) only [go_sem, ↓reduceIte, Nat.reduceBEq, Nat.reduceEqDiff, Nat.reduceLT, Nat.reduceLeDiff, Nat.reduceAdd, Nat.reduceMul, Nat.reduceSub, reduceCtorEq, Int.reduceLT, Int.reduceLE, Int.reduceEq, Int.reduceBEq, Int.reduceBNe, Int.reduceToNat, Int.reduceAdd, Int.reduceNeg, Int.reduceSub, kai, kbi, hx, hy, he, hza1, hzb1, wrap_i64]
  · by_cases f : cpl a b < a.length
    · have fi : ((cpl a b : Nat) : Int) < a.length := by omega
      by_cases g : cpl a b < b.length
      · have gi : ((cpl a b : Nat) : Int) < b.length := by omega
        have hx := List.getElem?_eq_getElem f
        have hy := List.getElem?_eq_getElem g
        have hne := cpl_ne a b _ _ hx hy
        have hne' : (a[cpl a b] == b[cpl a b]) = false := by simpa using hne
        have hza1 := hza (by intro h; rw [h] at f; simp at f)
        have hzb1 := hzb (by intro h; rw [h] at g; simp at g)
        simp (disch := omega) only [go_sem, ↓reduceIte, Nat.reduceBEq, Nat.reduceEqDiff, Nat.reduceLT, Nat.reduceLeDiff, Nat.reduceAdd, Nat.reduceMul, Nat.reduceSub, reduceCtorEq, Int.reduceLT, Int.reduceLE, Int.reduceEq, Int.reduceBEq, Int.reduceBNe, Int.reduceToNat, Int.reduceAdd, Int.reduceNeg, Int.reduceSub, fi, gi, hx, hy, hne', hza1, hzb1]
      · have gi : ¬ ((cpl a b : Nat) : Int) < b.length := by omega
        simp (disch := omega) only [go_sem, ↓reduceIte, Nat.reduceBEq, Nat.reduceEqDiff, Nat.reduceLT, Nat.reduceLeDiff, Nat.reduceAdd, Nat.reduceMul, Nat.reduceSub, reduceCtorEq, Int.reduceLT, Int.reduceLE, Int.reduceEq, Int.reduceBEq, Int.reduceBNe, Int.reduceToNat, Int.reduceAdd, Int.reduceNeg, Int.reduceSub, fi, gi]
    · have fi : ¬ ((cpl a b : Nat) : Int) < a.length := by omega
      simp (disch := omega) only [go_sem, ↓reduceIte, Nat.reduceBEq, Nat.reduceEqDiff, Nat.reduceLT, Nat.reduceLeDiff, Nat.reduceAdd, Nat.reduceMul, Nat.reduceSub, reduceCtorEq, Int.reduceLT, Int.reduceLE, Int.reduceEq, Int.reduceBEq, Int.reduceBNe, Int.reduceToNat, Int.reduceAdd, Int.reduceNeg, Int.reduceSub, fi]
theorem c20 (a b : List Int) (za zb : Nat) (hza : a ≠ [] → za = 1) (hzb : b ≠ [] → zb = 1) (la : a.length < 1000000000000000000) (lb : b.length < 1000000000000000000) (h : Heap) :
    callPure (EW tabX) 20 [.lst 0 za (I a), .lst 0 zb (I b)] h = some (.bool (decide (a = b)), h) := by
  have h1 := c46 a b za zb hza hzb la lb
  have h2 := c46 b a zb za hzb hza lb la
  rw [callPure_eq, w_call _ fn_20 rfl, ← ltB_eq]
  have e : ((a.length : Int) == b.length) = decide (a.length = b.length) := by rw [Bool.eq_iff_iff]; simp; omega
  simp only [go_sem, ↓reduceIte, Nat.reduceBEq, Nat.reduceEqDiff, Nat.reduceLT, Nat.reduceLeDiff, Nat.reduceAdd, Nat.reduceMul, Nat.reduceSub, reduceCtorEq, Int.reduceLT, Int.reduceLE, Int.reduceEq, Int.reduceBEq, Int.reduceBNe, Int.reduceToNat, Int.reduceAdd, Int.reduceNeg, Int.reduceSub, h1, h2, e]
theorem any_succ {α : Type} (p : α → Bool) {l : List α} {k : Nat} {x : α} (h : l[k]? = some x) : (l.take (k + 1)).any p = ((l.take k).any p || p x) := by
  rw [List.take_add_one, h]; simp
theorem c39 (l : List Int) (n : Int) (z : Nat) (hz : l ≠ [] → z = 1) (hl : l.length < 1000000000000000000) (h : Heap) :
    callPure (EW tabX) 39 [.lst 0 z (I l), .int .i64 n] h = some (.bool (l.any fun x => x == n), h) := by
  rw [callPure_eq, w_call _ fn_39 rfl]
  simp only [go_sem, ↓reduceIte, Nat.reduceBEq, Nat.reduceEqDiff, Nat.reduceLT, Nat.reduceLeDiff, Nat.reduceAdd, Nat.reduceMul, Nat.reduceSub, reduceCtorEq, Int.reduceLT, Int.reduceLE, Int.reduceEq, Int.reduceBEq, Int.reduceBNe, Int.reduceToNat, Int.reduceAdd, Int.reduceNeg, Int.reduceSub]
  rw [w_rounds_u (fun k => [(5, .bool ((l.take k).any fun x => x == n)), (6, .int .i64 k)]) l.length (.exit 0) [(5, .bool (l.any fun x => x == n)), (6, .int .i64 l.length)] ?_ ?_ ?_ rfl]
  · simp only [go_sem, ↓reduceIte, Nat.reduceBEq, Nat.reduceEqDiff, Nat.reduceLT, Nat.reduceLeDiff, Nat.reduceAdd, Nat.reduceMul, Nat.reduceSub, reduceCtorEq, Int.reduceLT, Int.reduceLE, Int.reduceEq, Int.reduceBEq, Int.reduceBNe, Int.reduceToNat, Int.reduceAdd, Int.reduceNeg, Int.reduceSub]
  · simp only [go_sem, ↓reduceIte, Nat.reduceBEq, Nat.reduceEqDiff, Nat.reduceLT, Nat.reduceLeDiff, Nat.reduceAdd, Nat.reduceMul, Nat.reduceSub, reduceCtorEq, Int.reduceLT, Int.reduceLE, Int.reduceEq, Int.reduceBEq, Int.reduceBNe, Int.reduceToNat, Int.reduceAdd, Int.reduceNeg, Int.reduceSub, List.any_nil]
  · intro k hk
    have hki : (k : Int) < l.length := by omega
    have hx := List.getElem?_eq_getElem hk
    have hz1 := hz (by intro e; rw [e] at hk; simp at hk)
    subst hz1
    simp (disch := omega) only [go_sem, ↓reduceIte, Nat.reduceBEq, Nat.reduceEqDiff, Nat.reduceLT, Nat.reduceLeDiff, Nat.reduceAdd, Nat.reduceMul, Nat.reduceSub, reduceCtorEq, Int.reduceLT, Int.reduceLE, Int.reduceEq, Int.reduceBEq, Int.reduceBNe, Int.reduceToNat, Int.reduceAdd, Int.reduceNeg, Int.reduceSub, hki, hx, wrap_i64, any_succ _ hx]
  · simp only [go_sem, ↓reduceIte, Nat.reduceBEq, Nat.reduceEqDiff, Nat.reduceLT, Nat.reduceLeDiff, Nat.reduceAdd, Nat.reduceMul, Nat.reduceSub, reduceCtorEq, Int.reduceLT, Int.reduceLE, Int.reduceEq, Int.reduceBEq, Int.reduceBNe, Int.reduceToNat, Int.reduceAdd, Int.reduceNeg, Int.reduceSub]

/-- The places at which a row has ToForged. -/
def lostL (l : List Int) (n : Nat) : List Int := ((List.range n).filter fun i => decide (l.getD i 0 = -1)).map fun (i : Nat) => (i : Int)
theorem lostL_succ (l : List Int) (n : Nat) : lostL l (n + 1) = if decide (l.getD n 0 = -1) = true then lostL l n ++ [(n : Int)] else lostL l n := by
  unfold lostL
  rw [List.range_succ, List.filter_append, List.map_append]
  have e : (List.filter (fun i => decide (l.getD i 0 = -1)) [n]) = if decide (l.getD n 0 = -1) = true then [n] else [] := by simp only [List.filter_cons, List.filter_nil]
  rw [e]
  split <;> simp
theorem lostL_len (l : List Int) (n : Nat) : (lostL l n).length ≤ n := by
  unfold lostL; rw [List.length_map]; have := List.length_filter_le (fun i => decide (l.getD i 0 = -1)) (List.range n); simpa using this
theorem c45 (l : List Int) (z : Nat) (hz : l ≠ [] → z = 1) (hl : l.length < 900) (h : Heap) :
    callPure (EW tabX) 45 [.lst 0 z (I l)] h = some (vI (lostL l l.length), h) := by
  rw [callPure_eq, w_call _ fn_45 rfl]
  simp only [go_sem, ↓reduceIte, Nat.reduceBEq, Nat.reduceEqDiff, Nat.reduceLT, Nat.reduceLeDiff, Nat.reduceAdd, Nat.reduceMul, Nat.reduceSub, reduceCtorEq, Int.reduceLT, Int.reduceLE, Int.reduceEq, Int.reduceBEq, Int.reduceBNe, Int.reduceToNat, Int.reduceAdd, Int.reduceNeg, Int.reduceSub]
  rw [w_rounds_h (fun k => [(3, ownT [] (lostL l k)), (4, .int .i64 k)]) (fun k => ⟨[], T [] (lostL l k).length⟩) l.length (.exit 0) [(3, ownT [] (lostL l l.length)), (4, .int .i64 l.length)] ⟨[], T [] (lostL l l.length).length⟩ ?_ ?_ ?_ ?_ rfl]
  · simp only [go_sem, ↓reduceIte, Nat.reduceBEq, Nat.reduceEqDiff, Nat.reduceLT, Nat.reduceLeDiff, Nat.reduceAdd, Nat.reduceMul, Nat.reduceSub, reduceCtorEq, Int.reduceLT, Int.reduceLE, Int.reduceEq, Int.reduceBEq, Int.reduceBNe, Int.reduceToNat, Int.reduceAdd, Int.reduceNeg, Int.reduceSub, ownT_clean, ownT_under]
  · simp only [go_sem, ↓reduceIte, Nat.reduceBEq, Nat.reduceEqDiff, Nat.reduceLT, Nat.reduceLeDiff, Nat.reduceAdd, Nat.reduceMul, Nat.reduceSub, reduceCtorEq, Int.reduceLT, Int.reduceLE, Int.reduceEq, Int.reduceBEq, Int.reduceBNe, Int.reduceToNat, Int.reduceAdd, Int.reduceNeg, Int.reduceSub]; rfl
  · rfl
  · intro k hk
    have hki : (k : Int) < l.length := by omega
    have hx := List.getElem?_eq_getElem hk
    have hz1 := hz (by intro e; rw [e] at hk; simp at hk)
    subst hz1
    have hg : l.getD k 0 = l[k] := by simp [hk]
    have hln := lostL_len l k
    have hap := ownT_app [] (lostL l k) k (by omega)
    rw [lostL_succ, hg]
    by_cases e : l[k] = -1
    · simp (disch := omega) only [go_sem, ↓reduceIte, Nat.reduceBEq, Nat.reduceEqDiff, Nat.reduceLT, Nat.reduceLeDiff, Nat.reduceAdd, Nat.reduceMul, Nat.reduceSub, reduceCtorEq, Int.reduceLT, Int.reduceLE, Int.reduceEq, Int.reduceBEq, Int.reduceBNe, Int.reduceToNat, Int.reduceAdd, Int.reduceNeg, Int.reduceSub, hki, hx, wrap_i64, e, hap]
    · have e' : (l[k] == -1) = false := by simpa using e
      simp (disch := omega) only [go_sem, ↓reduceIte, Nat.reduceBEq, Nat.reduceEqDiff, Nat.reduceLT, Nat.reduceLeDiff, Nat.reduceAdd, Nat.reduceMul, Nat.reduceSub, reduceCtorEq, Int.reduceLT, Int.reduceLE, Int.reduceEq, Int.reduceBEq, Int.reduceBNe, Int.reduceToNat, Int.reduceAdd, Int.reduceNeg, Int.reduceSub, hki, hx, wrap_i64, e, e']
  · simp only [go_sem, ↓reduceIte, Nat.reduceBEq, Nat.reduceEqDiff, Nat.reduceLT, Nat.reduceLeDiff, Nat.reduceAdd, Nat.reduceMul, Nat.reduceSub, reduceCtorEq, Int.reduceLT, Int.reduceLE, Int.reduceEq, Int.reduceBEq, Int.reduceBNe, Int.reduceToNat, Int.reduceAdd, Int.reduceNeg, Int.reduceSub]
end Go.Proofs.Ytbfodfepgefloaa
end
section
namespace Go.Proofs.Ytbfodfepgefloaa
open Go.Proofs

theorem shr_and : ∀ s : Fin 16, ∀ i : Fin 4, (IntKind.i64.wrap (BitVec.ofInt 64 (((s.1 : Nat) : Int).fdiv (2 ^ (min i.1 64))) &&& BitVec.ofInt 64 1).toNat == 1) = s.1.testBit i.1 := by decide
theorem or_bit : ∀ s : Fin 16, ∀ i : Fin 4, IntKind.i64.wrap (BitVec.ofInt 64 ((s.1 : Nat) : Int) ||| BitVec.ofInt 64 (IntKind.i64.wrap (1 * 2 ^ (min i.1 64)))).toNat = ((s.1 ||| 2 ^ i.1 : Nat) : Int) := by decide
theorem or_lt : ∀ s : Fin 16, ∀ i : Fin 4, (s.1 ||| 2 ^ i.1) < 16 := by decide
theorem or_test : ∀ s : Fin 16, ∀ i : Fin 4, ∀ j : Fin 4, (s.1 ||| 2 ^ i.1).testBit j.1 = (s.1.testBit j.1 || decide (i = j)) := by decide

/-- The members of a small set. -/
def bitsL (s n : Nat) : List Int := ((List.range n).filter fun i => s.testBit i).map fun (i : Nat) => (i : Int)
theorem bitsL_succ (s n : Nat) : bitsL s (n + 1) = if s.testBit n = true then bitsL s n ++ [(n : Int)] else bitsL s n := by
  unfold bitsL
  rw [List.range_succ, List.filter_append, List.map_append]
  have e : (List.filter (fun i => s.testBit i) [n]) = if s.testBit n = true then [n] else [] := by simp only [List.filter_cons, List.filter_nil]
  rw [e]
  split <;> simp
theorem bitsL_len (s n : Nat) : (bitsL s n).length ≤ n := by
  unfold bitsL; rw [List.length_map]; have := List.length_filter_le (fun i => s.testBit i) (List.range n); simpa using this
theorem c63 (s n : Nat) (hs : s < 16) (hn : n ≤ 4) (h : Heap) : callPure (EW tabX) 63 [.int .i64 s, .int .i64 n] h = some (vI (bitsL s n), h) := by
  rw [callPure_eq, w_call _ fn_63 rfl]
  simp only [go_sem, ↓reduceIte, Nat.reduceBEq, Nat.reduceEqDiff, Nat.reduceLT, Nat.reduceLeDiff, Nat.reduceAdd, Nat.reduceMul, Nat.reduceSub, reduceCtorEq, Int.reduceLT, Int.reduceLE, Int.reduceEq, Int.reduceBEq, Int.reduceBNe, Int.reduceToNat, Int.reduceAdd, Int.reduceNeg, Int.reduceSub]
  rw [w_rounds_h (fun k => [(4, ownT [] (bitsL s k)), (7, .int .i64 k)]) (fun k => ⟨[], T [] (bitsL s k).length⟩) n (.exit 0) [(4, ownT [] (bitsL s n)), (7, .int .i64 n)] ⟨[], T [] (bitsL s n).length⟩ ?_ ?_ ?_ ?_ rfl]
  · simp only [go_sem, ↓reduceIte, Nat.reduceBEq, Nat.reduceEqDiff, Nat.reduceLT, Nat.reduceLeDiff, Nat.reduceAdd, Nat.reduceMul, Nat.reduceSub, reduceCtorEq, Int.reduceLT, Int.reduceLE, Int.reduceEq, Int.reduceBEq, Int.reduceBNe, Int.reduceToNat, Int.reduceAdd, Int.reduceNeg, Int.reduceSub, ownT_clean, ownT_under]
  · simp only [go_sem, ↓reduceIte, Nat.reduceBEq, Nat.reduceEqDiff, Nat.reduceLT, Nat.reduceLeDiff, Nat.reduceAdd, Nat.reduceMul, Nat.reduceSub, reduceCtorEq, Int.reduceLT, Int.reduceLE, Int.reduceEq, Int.reduceBEq, Int.reduceBNe, Int.reduceToNat, Int.reduceAdd, Int.reduceNeg, Int.reduceSub]; rfl
  · rfl
  · intro k hk
    have hki : (k : Int) < n := by omega
    have hb := shr_and ⟨s, hs⟩ ⟨k, by omega⟩
    have hln := bitsL_len s k
    have hap := ownT_app [] (bitsL s k) k (by omega)
    rw [bitsL_succ]
    cases e : s.testBit k with
    | true =>
      simp only [e] at hb
      simp (disch := omega) only [go_sem, ↓reduceIte, Nat.reduceBEq, Nat.reduceEqDiff, Nat.reduceLT, Nat.reduceLeDiff, Nat.reduceAdd, Nat.reduceMul, Nat.reduceSub, reduceCtorEq, Int.reduceLT, Int.reduceLE, Int.reduceEq, Int.reduceBEq, Int.reduceBNe, Int.reduceToNat, Int.reduceAdd, Int.reduceNeg, Int.reduceSub, hki, wrap_i64, hap]
      rw [if_pos (by exact hb)]
    | false =>
      simp only [e] at hb
      simp (disch := omega) only [go_sem, ↓reduceIte, Nat.reduceBEq, Nat.reduceEqDiff, Nat.reduceLT, Nat.reduceLeDiff, Nat.reduceAdd, Nat.reduceMul, Nat.reduceSub, reduceCtorEq, Int.reduceLT, Int.reduceLE, Int.reduceEq, Int.reduceBEq, Int.reduceBNe, Int.reduceToNat, Int.reduceAdd, Int.reduceNeg, Int.reduceSub, hki, wrap_i64]
      rw [if_neg (by intro hh; exact Bool.false_ne_true (hb.symm.trans hh))]
      try simp (disch := omega) only [go_sem, ↓reduceIte, Nat.reduceBEq, Nat.reduceEqDiff, Nat.reduceLT, Nat.reduceLeDiff, Nat.reduceAdd, Nat.reduceMul, Nat.reduceSub, reduceCtorEq, Int.reduceLT, Int.reduceLE, Int.reduceEq, Int.reduceBEq, Int.reduceBNe, Int.reduceToNat, Int.reduceAdd, Int.reduceNeg, Int.reduceSub, wrap_i64]
  · simp only [go_sem, ↓reduceIte, Nat.reduceBEq, Nat.reduceEqDiff, Nat.reduceLT, Nat.reduceLeDiff, Nat.reduceAdd, Nat.reduceMul, Nat.reduceSub, reduceCtorEq, Int.reduceLT, Int.reduceLE, Int.reduceEq, Int.reduceBEq, Int.reduceBNe, Int.reduceToNat, Int.reduceAdd, Int.reduceNeg, Int.reduceSub]

theorem c85 (x : Int) (h : Heap) : callPure (EW tabX) 85 [.int .i64 x] h = some (.bool false, h) := by
  rw [callPure_eq, w_call _ fn_85 rfl]
  simp only [go_sem, ↓reduceIte, Nat.reduceBEq, Nat.reduceEqDiff, Nat.reduceLT, Nat.reduceLeDiff, Nat.reduceAdd, Nat.reduceMul, Nat.reduceSub, reduceCtorEq, Int.reduceLT, Int.reduceLE, Int.reduceEq, Int.reduceBEq, Int.reduceBNe, Int.reduceToNat, Int.reduceAdd, Int.reduceNeg, Int.reduceSub]
def cmpI (x y : Int) : Int := if x < y then -1 else if y < x then 1 else 0
theorem c77 (x y : Int) (h : Heap) : callPure (EW tabX) 77 [.int .i64 x, .int .i64 y] h = some (.int .i64 (cmpI x y), h) := by
  rw [callPure_eq, w_call _ fn_77 rfl]
  unfold cmpI
  by_cases h1 : x < y
  · simp only [go_sem, ↓reduceIte, Nat.reduceBEq, Nat.reduceEqDiff, Nat.reduceLT, Nat.reduceLeDiff, Nat.reduceAdd, Nat.reduceMul, Nat.reduceSub, reduceCtorEq, Int.reduceLT, Int.reduceLE, Int.reduceEq, Int.reduceBEq, Int.reduceBNe, Int.reduceToNat, Int.reduceAdd, Int.reduceNeg, Int.reduceSub, c85, h1]
  · by_cases h2 : y < x
    · simp only [go_sem, ↓reduceIte, Nat.reduceBEq, Nat.reduceEqDiff, Nat.reduceLT, Nat.reduceLeDiff, Nat.reduceAdd, Nat.reduceMul, Nat.reduceSub, reduceCtorEq, Int.reduceLT, Int.reduceLE, Int.reduceEq, Int.reduceBEq, Int.reduceBNe, Int.reduceToNat, Int.reduceAdd, Int.reduceNeg, Int.reduceSub, c85, h1, h2]
    · simp only [go_sem, ↓reduceIte, Nat.reduceBEq, Nat.reduceEqDiff, Nat.reduceLT, Nat.reduceLeDiff, Nat.reduceAdd, Nat.reduceMul, Nat.reduceSub, reduceCtorEq, Int.reduceLT, Int.reduceLE, Int.reduceEq, Int.reduceBEq, Int.reduceBNe, Int.reduceToNat, Int.reduceAdd, Int.reduceNeg, Int.reduceSub, c85, h1, h2]
def cmpL (a b : List Int) : Int := if ltB a b then -1 else if a = b then 0 else 1
theorem cmpL_neg (a b : List Int) : decide (cmpL a b < 0) = ltB a b := by
  unfold cmpL
  cases ltB a b with
  | true => rfl
  | false => simp only [Bool.false_eq_true, if_false]; split <;> rfl
theorem c64 (a b : List Int) (za zb : Nat) (hza : a ≠ [] → za = 1) (hzb : b ≠ [] → zb = 1) (la : a.length < 1000000000000000000) (lb : b.length < 1000000000000000000) (h : Heap) :
    callPure (EW tabX) 64 [.lst 0 za (I a), .lst 0 zb (I b)] h = some (.int .i64 (cmpL a b), h) := by
  rw [callPure_eq, w_call _ fn_64 rfl]
  simp only [go_sem, ↓reduceIte, Nat.reduceBEq, Nat.reduceEqDiff, Nat.reduceLT, Nat.reduceLeDiff, Nat.reduceAdd, Nat.reduceMul, Nat.reduceSub, reduceCtorEq, Int.reduceLT, Int.reduceLE, Int.reduceEq, Int.reduceBEq, Int.reduceBNe, Int.reduceToNat, Int.reduceAdd, Int.reduceNeg, Int.reduceSub]
  have h1 := cpl_le1 a b
  have h2 := cpl_le2 a b
  have hlt := ltB_cpl a b
  have heq := ltB_eq a b
  have round : ∀ k, k < cpl a b → ∃ x, a[k]? = some x ∧ b[k]? = some x ∧ (k : Int) < a.length ∧ ¬ (b.length : Int) ≤ k ∧ za = 1 ∧ zb = 1 := fun k hk => by
    have ka : k < a.length := by omega
    have kb : k < b.length := by omega
    have hx := List.getElem?_eq_getElem ka
    have he := cpl_eq a b k hk
    exact ⟨a[k], hx, by rw [← he]; exact hx, by omega, by omega, hza (by intro h; rw [h] at ka; simp at ka), hzb (by intro h; rw [h] at kb; simp at kb)⟩
  have cz : ∀ x, cmpI x x = 0 := fun x => by unfold cmpI; rw [if_neg (by omega), if_neg (by omega)]
  by_cases e : cpl a b = a.length
  · rw [w_rounds_u (fun k => [(11, .int .i64 k)]) (cpl a b) (.exit 0) [(11, .int .i64 (cpl a b))] ?_ ?_ ?_ rfl]
    · by_cases f : a.length < b.length
      · have fi : (a.length : Int) < b.length := by omega
        have hl : ltB a b = true := by rw [hlt, if_neg (by omega), e]; simp
        simp only [go_sem, ↓reduceIte, Nat.reduceBEq, Nat.reduceEqDiff, Nat.reduceLT, Nat.reduceLeDiff, Nat.reduceAdd, Nat.reduceMul, Nat.reduceSub, reduceCtorEq, Int.reduceLT, Int.reduceLE, Int.reduceEq, Int.reduceBEq, Int.reduceBNe, Int.reduceToNat, Int.reduceAdd, Int.reduceNeg, Int.reduceSub, fi, cmpL, hl]
      · have fi : ¬ (a.length : Int) < b.length := by omega
        have hl : ltB a b = false := by rw [hlt, if_pos (by omega)]
        have hab : a = b := by
          apply List.ext_getElem? 
          intro k
          by_cases hk : k < cpl a b
          · exact cpl_eq a b k hk
          · rw [List.getElem?_eq_none (by omega), List.getElem?_eq_none (by omega)]
        subst hab
        simp only [go_sem, ↓reduceIte, Nat.reduceBEq, Nat.reduceEqDiff, Nat.reduceLT, Nat.reduceLeDiff, Nat.reduceAdd, Nat.reduceMul, Nat.reduceSub, reduceCtorEq, Int.reduceLT, Int.reduceLE, Int.reduceEq, Int.reduceBEq, Int.reduceBNe, Int.reduceToNat, Int.reduceAdd, Int.reduceNeg, Int.reduceSub, cmpL, hl]
    · simp only [go_sem, ↓reduceIte, Nat.reduceBEq, Nat.reduceEqDiff, Nat.reduceLT, Nat.reduceLeDiff, Nat.reduceAdd, Nat.reduceMul, Nat.reduceSub, reduceCtorEq, Int.reduceLT, Int.reduceLE, Int.reduceEq, Int.reduceBEq, Int.reduceBNe, Int.reduceToNat, Int.reduceAdd, Int.reduceNeg, Int.reduceSub]
    · intro k hk
      obtain ⟨x, x1, x2, x3, x4, x5, x6⟩ := round k hk
      simp (disch := omega) only [go_sem, ↓reduceIte, Nat.reduceBEq, Nat.reduceEqDiff, Nat.reduceLT, Nat.reduceLeDiff, Nat.reduceAdd, Nat.reduceMul, Nat.reduceSub, reduceCtorEq, Int.reduceLT, Int.reduceLE, Int.reduceEq, Int.reduceBEq, Int.reduceBNe, Int.reduceToNat, Int.reduceAdd, Int.reduceNeg, Int.reduceSub, x1, x2, x3, x4, x5, x6, c77, cz, wrap_i64]
    · simp only [go_sem, ↓reduceIte, Nat.reduceBEq, Nat.reduceEqDiff, Nat.reduceLT, Nat.reduceLeDiff, Nat.reduceAdd, Nat.reduceMul, Nat.reduceSub, reduceCtorEq, Int.reduceLT, Int.reduceLE, Int.reduceEq, Int.reduceBEq, Int.reduceBNe, Int.reduceToNat, Int.reduceAdd, Int.reduceNeg, Int.reduceSub, e]
  · have g : cpl a b < a.length := by omega
    have gi : ((cpl a b : Nat) : Int) < a.length := by omega
    have hx := List.getElem?_eq_getElem g
    have hza1 := hza (by intro h; rw [h] at g; simp at g)
    by_cases f : cpl a b = b.length
    · have fi : (b.length : Int) ≤ (cpl a b : Nat) := by omega
      have hl : ltB a b = false := by rw [hlt, if_pos f]
      have hab : ¬ a = b := fun h => by rw [h] at g f; omega
      rw [w_rounds_u (fun k => [(11, .int .i64 k)]) (cpl a b) .ret [(4, .int .i64 1), (5, .int .i64 (cpl a b)), (6, .int .i64 a[cpl a b]), (11, .int .i64 (cpl a b))] ?_ ?_ ?_ rfl]
      · simp only [go_sem, ↓reduceIte, Nat.reduceBEq, Nat.reduceEqDiff, Nat.reduceLT, Nat.reduceLeDiff, Nat.reduceAdd, Nat.reduceMul, Nat.reduceSub, reduceCtorEq, Int.reduceLT, Int.reduceLE, Int.reduceEq, Int.reduceBEq, Int.reduceBNe, Int.reduceToNat, Int.reduceAdd, Int.reduceNeg, Int.reduceSub, cmpL, hl, hab]
      · simp only [go_sem, ↓reduceIte, Nat.reduceBEq, Nat.reduceEqDiff, Nat.reduceLT, Nat.reduceLeDiff, Nat.reduceAdd, Nat.reduceMul, Nat.reduceSub, reduceCtorEq, Int.reduceLT, Int.reduceLE, Int.reduceEq, Int.reduceBEq, Int.reduceBNe, Int.reduceToNat, Int.reduceAdd, Int.reduceNeg, Int.reduceSub]
      · intro k hk
        obtain ⟨x, x1, x2, x3, x4, x5, x6⟩ := round k hk
        simp (disch := omega) only [go_sem, ↓reduceIte, Nat.reduceBEq, Nat.reduceEqDiff, Nat.reduceLT, Nat.reduceLeDiff, Nat.reduceAdd, Nat.reduceMul, Nat.reduceSub, reduceCtorEq, Int.reduceLT, Int.reduceLE, Int.reduceEq, Int.reduceBEq, Int.reduceBNe, Int.reduceToNat, Int.reduceAdd, Int.reduceNeg, Int.reduceSub, x1, x2, x3, x4, x5, x6, c77, cz, wrap_i64]
      · simp only [go_sem, ↓reduceIte, Nat.reduceBEq, Nat.reduceEqDiff, Nat.reduceLT, Nat.reduceLeDiff, Nat.reduceAdd, Nat.reduceMul, Nat.reduceSub, reduceCtorEq, Int.reduceLT, Int.reduceLE, Int.reduceEq, Int.reduceBEq, Int.reduceBNe, Int.reduceToNat, Int.reduceAdd, Int.reduceNeg, Int.reduceSub, hx, gi, hza1, fi]
    · have g2 : cpl a b < b.length := by omega
      have gi2 : ¬ (b.length : Int) ≤ (cpl a b : Nat) := by omega
      have hy := List.getElem?_eq_getElem g2
      have hzb1 := hzb (by intro h; rw [h] at g2; simp at g2)
      have hne := cpl_ne a b _ _ hx hy
      have ea : a.getD (cpl a b) 0 = a[cpl a b] := by simp [g]
      have eb : b.getD (cpl a b) 0 = b[cpl a b] := by simp [g2]
      have hab : ¬ a = b := fun h => by subst h; exact hne rfl
      have hl : ltB a b = decide (a[cpl a b] < b[cpl a b]) := by rw [hlt, if_neg f, ea, eb]; simp [e]
      have hc : cmpL a b = cmpI a[cpl a b] b[cpl a b] := by
        unfold cmpL cmpI
        rw [hl, if_neg hab]
        by_cases q : a[cpl a b] < b[cpl a b]
        · simp [q]
        · have q2 : b[cpl a b] < a[cpl a b] := by omega
          simp [q, q2]
      have hn0 : (cmpI a[cpl a b] b[cpl a b] != 0) = true := by
        unfold cmpI
        by_cases q : a[cpl a b] < b[cpl a b]
        · simp [q]
        · have q2 : b[cpl a b] < a[cpl a b] := by omega
          simp [q, q2]
      rw [w_rounds_u (fun k => [(11, .int .i64 k)]) (cpl a b) .ret [(4, .int .i64 (cmpI a[cpl a b] b[cpl a b])), (5, .int .i64 (cpl a b)), (6, .int .i64 a[cpl a b]), (7, .int .i64 b[cpl a b]), (8, .int .i64 (cmpI a[cpl a b] b[cpl a b])), (11, .int .i64 (cpl a b))] ?_ ?_ ?_ rfl]
      · simp only [go_sem, ↓reduceIte, Nat.reduceBEq, Nat.reduceEqDiff, Nat.reduceLT, Nat.reduceLeDiff, Nat.reduceAdd, Nat.reduceMul, Nat.reduceSub, reduceCtorEq, Int.reduceLT, Int.reduceLE, Int.reduceEq, Int.reduceBEq, Int.reduceBNe, Int.reduceToNat, Int.reduceAdd, Int.reduceNeg, Int.reduceSub, hc]
      · simp only [go_sem, ↓reduceIte, Nat.reduceBEq, Nat.reduceEqDiff, Nat.reduceLT, Nat.reduceLeDiff, Nat.reduceAdd, Nat.reduceMul, Nat.reduceSub, reduceCtorEq, Int.reduceLT, Int.reduceLE, Int.reduceEq, Int.reduceBEq, Int.reduceBNe, Int.reduceToNat, Int.reduceAdd, Int.reduceNeg, Int.reduceSub]
      · intro k hk
        obtain ⟨x, x1, x2, x3, x4, x5, x6⟩ := round k hk
        simp (disch := omega) only [go_sem, ↓reduceIte, Nat.reduceBEq, Nat.reduceEqDiff, Nat.reduceLT, Nat.reduceLeDiff, Nat.reduceAdd, Nat.reduceMul, Nat.reduceSub, reduceCtorEq, Int.reduceLT, Int.reduceLE, Int.reduceEq, Int.reduceBEq, Int.reduceBNe, Int.reduceToNat, Int.reduceAdd, Int.reduceNeg, Int.reduceSub, x1, x2, x3, x4, x5, x6, c77, cz, wrap_i64]
      · simp only [go_sem, ↓reduceIte, Nat.reduceBEq, Nat.reduceEqDiff, Nat.reduceLT, Nat.reduceLeDiff, Nat.reduceAdd, Nat.reduceMul, Nat.reduceSub, reduceCtorEq, Int.reduceLT, Int.reduceLE, Int.reduceEq, Int.reduceBEq, Int.reduceBNe, Int.reduceToNat, Int.reduceAdd, Int.reduceNeg, Int.reduceSub, hx, hy, gi, gi2, hza1, hzb1, c77, hn0]
end Go.Proofs.Ytbfodfepgefloaa
end
section
namespace Go.Proofs.Ytbfodfepgefloaa
open Go.Proofs

section
variable {X : Tab} {f : Nat} {rd : Option Nat} {b : Code}
/-- A loop whose slots and heap hang on something that a relation says. -/
theorem w_rounds_sk {σ : Type} {G : Prop} {g : Slots} {h : Heap} {ms : List Nat} {x : Option (AExit × St)} (hx : (EW X).code f rd (.loop b) ⟨⟨g, []⟩, h, ms⟩ = x)
    (U : Nat → σ → Slots) (Hp : σ → Heap) (R : Nat → σ → Prop) (n : Nat) (e : AExit) (V : σ → Slots) (hr : isNormal e = false) (s0 : σ) (h0 : puts g (U 0 s0) = g) (hh : Hp s0 = h) (hR : R 0 s0)
    (hs : ∀ k s, k < n → R k s → ∃ s', cutS ⟨⟨puts g (U k s), []⟩, Hp s, ms⟩ ((EW X).code f rd b ⟨⟨puts g (U k s), []⟩, Hp s, ms⟩) = some (.normal, ⟨⟨puts g (U (k + 1) s'), []⟩, Hp s', ms⟩) ∧ R (k + 1) s')
    (he : ∀ s, R n s → cutS ⟨⟨puts g (U n s), []⟩, Hp s, ms⟩ ((EW X).code f rd b ⟨⟨puts g (U n s), []⟩, Hp s, ms⟩) = some (e, ⟨⟨puts g (V s), []⟩, Hp s, ms⟩))
    (hG : ∀ s, x = some (e, ⟨⟨puts g (V s), []⟩, Hp s, ms⟩) → R n s → G) : G := by
  obtain ⟨e', s', h1, s, rfl, rfl, h2⟩ := w_rounds_ex hx (fun k q => ∃ s, q = ⟨⟨puts g (U k s), []⟩, Hp s, ms⟩ ∧ R k s) n (fun e' q => ∃ s, e' = e ∧ q = ⟨⟨puts g (V s), []⟩, Hp s, ms⟩ ∧ R n s)
    ⟨s0, by rw [h0, hh], hR⟩ (fun k q hk ⟨s, hq1, hq2⟩ => by
      subst hq1
      obtain ⟨s', a, c⟩ := hs k s hk hq2
      exact ⟨_, a, s', rfl, c⟩)
    (fun q ⟨s, hq1, hq2⟩ => by
      subst hq1
      exact ⟨e, _, he s hq2, hr, s, rfl, rfl, hq2⟩)
  exact hG s h1 h2
end

/-- A slice whose end is owned. -/
def OwnS (sz tag z n : Nat) (t : List Bool) : Prop := (tag = 1 ∧ n = 0) ∨ ∃ q, tag = q + 2 ∧ z = sz ∧ t[q]? = some true
theorem app_gen {X : Tab} {ty e : TypeId} {sz : Nat} {tag z : Nat} {t : List Bool} {xs : List AV} (hn : OwnS sz tag z xs.length t) (u z' : Nat) (ys : List AV) (ht : trow X ty = .slice e) (hs : tsz X e = sz) (h0 : 0 < sz) (hz' : z' = sz ∨ ys.length = 0)
    (hy : (xs.length + ys.length) * tbytes X e ≤ 1048576) (hy2 : xs.length + ys.length ≤ 1048576) (hf : zeroFits X e = true) (hv : ys.all AV.var = true) :
    ∃ t2, (∀ B, appendAV X ty t.length ⟨B, t⟩ (.lst tag z xs) (.lst u z' ys) = some (.lst (t.length + 2) sz (xs ++ ys), ⟨B, t2⟩)) ∧ t2.length = t.length + 1 ∧ t2[t.length]? = some true ∧ ∀ k, tag ≠ k + 2 → t[k]? = some true → t2[k]? = some true := by
  have hc : (z' = tsz X e ∨ ys.length = 0) ∧ 0 < tsz X e ∧ (xs.length + ys.length) * tbytes X e ≤ appLimit ∧ xs.length + ys.length ≤ appLimit ∧ zeroFits X e = true ∧ ys.all AV.var = true := by
    rw [hs]; exact ⟨hz', h0, hy, hy2, hf, hv⟩
  unfold appendAV
  simp only [ht, if_pos hc]
  rcases hn with ⟨rfl, hn0⟩ | ⟨q, rfl, hq, hqt⟩
  · have hx : z = tsz X e ∨ xs.length = 0 := .inr hn0
    refine ⟨t ++ [true], fun B => ?_, by simp, by simp, fun k _ hk => old hk _⟩
    rw [if_pos hx]
    simp only [hs, lset, Nat.lt_irrefl, if_false]
  · have hx : z = tsz X e := by rw [hs, hq]
    refine ⟨t.set q false ++ [true], fun B => ?_, by simp, by simp, fun k hne hk => ?_⟩
    · simp only [hqt]
      rw [if_pos hx]
      simp only [hs, lset, List.length_set, Nat.lt_irrefl, if_false]
    · refine old ?_ _
      rw [List.getElem?_set_ne (by omega)]; exact hk

/-- Rows of numbers, one by one, whatever is owned of each. -/
def Rows (xs : List AV) (ts : List (List Int)) : Prop := xs.length = ts.length ∧ ∀ (i : Nat) (t : List Int), ts[i]? = some t → ∃ tg z, xs[i]? = some (.lst tg z (I t)) ∧ (t ≠ [] → z = 1)
theorem Rows.snoc {xs : List AV} {ts : List (List Int)} (h : Rows xs ts) (tg : Nat) (t : List Int) : Rows (xs ++ [.lst tg 1 (I t)]) (ts ++ [t]) := by
  refine ⟨by simp [h.1], fun i u hu => ?_⟩
  rw [List.getElem?_append] at hu
  split at hu
  · obtain ⟨a, z, h1, h2⟩ := h.2 i u hu
    exact ⟨a, z, old h1 _, h2⟩
  · rename_i hi
    have : i = ts.length := by
      by_cases e : i - ts.length = 0
      · omega
      · rw [List.getElem?_eq_none (by simp; omega)] at hu; cases hu
    subst this
    simp at hu; subst hu
    refine ⟨tg, 1, ?_, fun _ => rfl⟩
    rw [← h.1]; simp
theorem Rows.under {xs : List AV} {ts : List (List Int)} (h : Rows xs ts) (n : Nat) : underL n xs = true := by
  refine underL_of fun x hx => ?_
  obtain ⟨i, hi, e⟩ := List.mem_iff_getElem.1 hx
  have hi2 : i < ts.length := by rw [← h.1]; exact hi
  obtain ⟨a, z, h1, _⟩ := h.2 i ts[i] (List.getElem?_eq_getElem hi2)
  rw [List.getElem?_eq_getElem hi, e] at h1
  simp only [Option.some.injEq] at h1
  rw [h1]; simp only [go_sem, ↓reduceIte, Nat.reduceBEq, Nat.reduceEqDiff, Nat.reduceLT, Nat.reduceLeDiff, Nat.reduceAdd, Nat.reduceMul, Nat.reduceSub, reduceCtorEq, Int.reduceLT, Int.reduceLE, Int.reduceEq, Int.reduceBEq, Int.reduceBNe, Int.reduceToNat, Int.reduceAdd, Int.reduceNeg, Int.reduceSub]
theorem Rows.var {xs : List AV} {ts : List (List Int)} (h : Rows xs ts) : xs.all AV.var = true := by
  rw [List.all_eq_true]
  intro x hx
  obtain ⟨i, hi, e⟩ := List.mem_iff_getElem.1 hx
  have hi2 : i < ts.length := by rw [← h.1]; exact hi
  obtain ⟨a, z, h1, _⟩ := h.2 i ts[i] (List.getElem?_eq_getElem hi2)
  rw [List.getElem?_eq_getElem hi, e] at h1
  simp only [Option.some.injEq] at h1
  rw [h1]; rfl
/-- As plain data. -/
theorem Rows.clean : ∀ {xs : List AV} {ts : List (List Int)}, Rows xs ts → ∃ ys, cleanL xs = some ys ∧ Rows ys ts ∧ cleanL ys = some ys
  | [], ts, h => ⟨[], cleanL_nil, h, cleanL_nil⟩
  | x :: xs, [], h => by have := h.1; simp at this
  | x :: xs, t :: ts, h => by
    have h' : Rows xs ts := ⟨by have := h.1; simpa using this, fun i u hu => by simpa using h.2 (i + 1) u (by simpa using hu)⟩
    obtain ⟨ys, h1, h2, h3⟩ := h'.clean
    obtain ⟨a, z, h4, h5⟩ := h.2 0 t rfl
    simp only [List.getElem?_cons_zero, Option.some.injEq] at h4
    subst h4
    refine ⟨.lst 0 z (I t) :: ys, by simp only [go_sem, ↓reduceIte, Nat.reduceBEq, Nat.reduceEqDiff, Nat.reduceLT, Nat.reduceLeDiff, Nat.reduceAdd, Nat.reduceMul, Nat.reduceSub, reduceCtorEq, Int.reduceLT, Int.reduceLE, Int.reduceEq, Int.reduceBEq, Int.reduceBNe, Int.reduceToNat, Int.reduceAdd, Int.reduceNeg, Int.reduceSub, h1], ⟨by have := h2.1; simp [this], fun i u hu => ?_⟩, by simp only [go_sem, ↓reduceIte, Nat.reduceBEq, Nat.reduceEqDiff, Nat.reduceLT, Nat.reduceLeDiff, Nat.reduceAdd, Nat.reduceMul, Nat.reduceSub, reduceCtorEq, Int.reduceLT, Int.reduceLE, Int.reduceEq, Int.reduceBEq, Int.reduceBNe, Int.reduceToNat, Int.reduceAdd, Int.reduceNeg, Int.reduceSub, h3]⟩
    cases i with
    | zero => simp at hu; subst hu; exact ⟨0, z, rfl, h5⟩
    | succ i => simpa using h2.2 i u (by simpa using hu)

/-- All truths of so many halves, in order. -/
def okHC (d : Dr) (e c : Nat) : Bool := decide (0 < (fitsL d (d.cards.getD c ⟨default, []⟩) (d.halves.getD e ⟨default, []⟩) d.steps.toNat).length)
/-- Whether a half can be of the card before the k-th (0: forged). -/
def may (d : Dr) (e : Nat) (t : List Int) : Nat → Bool
  | 0 => true
  | k + 1 => !(t.any fun x => x == (k : Int)) && okHC d e k
def extK (d : Dr) (e : Nat) (t : List Int) (k : Nat) : List (List Int) := ((List.range k).filter fun i => may d e t i).map fun (i : Nat) => t ++ [(i : Int) - 1]
def truthsL (d : Dr) : Nat → List (List Int)
  | 0 => [[]]
  | e + 1 => (truthsL d e).flatMap fun t => extK d e t (d.cards.length + 1)
theorem extK_succ (d : Dr) (e : Nat) (t : List Int) (k : Nat) : extK d e t (k + 1) = if may d e t k = true then extK d e t k ++ [t ++ [(k : Int) - 1]] else extK d e t k := by
  unfold extK
  rw [List.range_succ, List.filter_append, List.map_append]
  have h : (List.filter (fun i => may d e t i) [k]) = if may d e t k = true then [k] else [] := by simp only [List.filter_cons, List.filter_nil]
  rw [h]
  split <;> simp
theorem extK_len (d : Dr) (e : Nat) (t : List Int) (k : Nat) : (extK d e t k).length ≤ k := by
  unfold extK; rw [List.length_map]; have := List.length_filter_le (fun i => may d e t i) (List.range k); simpa using this
end Go.Proofs.Ytbfodfepgefloaa
end
section
namespace Go.Proofs.Ytbfodfepgefloaa
open Go.Proofs

structure RS where
  tg : Nat
  z : Nat
  xs : List AV
  t : List Bool
def RS.v (s : RS) : AV := .lst s.tg s.z s.xs
/-- The rows of a slice that is appended to. -/
def RS.is (s : RS) (ts : List (List Int)) : Prop := Rows s.xs ts ∧ OwnS 1 s.tg s.z s.xs.length s.t

theorem truthsL_ne (d : Dr) : ∀ e, truthsL d e ≠ []
  | 0 => by simp [truthsL]
  | e + 1 => by
    intro h
    unfold truthsL at h
    rw [List.flatMap_eq_nil_iff] at h
    obtain ⟨t, ht⟩ := List.exists_mem_of_ne_nil _ (truthsL_ne d e)
    have := h t ht
    have h2 : (0 : Nat) ∈ (List.range (d.cards.length + 1)).filter fun i => may d e t i := List.mem_filter.2 ⟨by simp, rfl⟩
    unfold extK at this
    rw [List.map_eq_nil_iff] at this
    rw [this] at h2; cases h2
theorem truthsL_mem (d : Dr) : ∀ (e : Nat) (t : List Int), t ∈ truthsL d e → t.length = e
  | 0, t, h => by simp [truthsL] at h; simp [h]
  | e + 1, t, h => by
    unfold truthsL at h
    obtain ⟨u, hu, ht⟩ := List.mem_flatMap.1 h
    unfold extK at ht
    obtain ⟨i, _, rfl⟩ := List.mem_map.1 ht
    simp [truthsL_mem d e u hu]
theorem flat_len {α β : Type} (f : α → List β) (m : Nat) : ∀ l : List α, (∀ x ∈ l, (f x).length ≤ m) → (l.flatMap f).length ≤ l.length * m
  | [], _ => by simp
  | x :: l, h => by
    have a := h x (by simp)
    have b := flat_len f m l fun y hy => h y (by simp [hy])
    rw [List.flatMap_cons, List.length_append, List.length_cons, Nat.succ_mul]
    omega
theorem truthsL_len (d : Dr) (hc : d.cards.length ≤ 4) : ∀ e, (truthsL d e).length ≤ 5 ^ e
  | 0 => by simp [truthsL]
  | e + 1 => by
    have a := flat_len (fun t => extK d e t (d.cards.length + 1)) 5 (truthsL d e) fun t _ => by have := extK_len d e t (d.cards.length + 1); omega
    have b := truthsL_len d hc e
    unfold truthsL
    rw [Nat.pow_succ]
    exact Nat.le_trans a (Nat.mul_le_mul_right 5 b)

theorem c44 (d : Dr) (hd : d.fits) (ho : d.Ok) : ∃ ys, Rows ys (truthsL d d.halves.length) ∧ cleanL ys = some ys ∧ ∀ h, callPure (EW tabX) 44 [eD d] h = some (.lst 0 1 ys, h) := by
  have hc4 := ho.c4
  have hh4 := ho.h4
  have hcl := eD_clean d
  have key : ∃ s : RS, Rows s.xs (truthsL d d.halves.length) ∧ s.z = 1 ∧ ∃ h1, (EW tabX).call 44 [eD d] ⟨[], []⟩ = some (s.v, h1) := by
    rw [w_call _ fn_44 rfl]
    simp only [go_sem, ↓reduceIte, Nat.reduceBEq, Nat.reduceEqDiff, Nat.reduceLT, Nat.reduceLeDiff, Nat.reduceAdd, Nat.reduceMul, Nat.reduceSub, reduceCtorEq, Int.reduceLT, Int.reduceLE, Int.reduceEq, Int.reduceBEq, Int.reduceBNe, Int.reduceToNat, Int.reduceAdd, Int.reduceNeg, Int.reduceSub, eD, eDc, eC_under]
    generalize hx : (EW tabX).code 44 none (Code.loop _) _ = x
    refine w_rounds_sk hx (fun k (s : RS) => [(3, s.v), (4, .int .i64 k)]) (fun s => ⟨[.cells (eDc d)], s.t⟩) (fun k s => Rows s.xs (truthsL d k) ∧ s.z = 1) d.halves.length (.exit 0) (fun s => [(3, s.v), (4, .int .i64 d.halves.length)]) rfl ⟨1, 1, [.lst 1 0 []], []⟩ ?_ ?_ ?_ ?_ ?_ ?_
    · simp only [go_sem, ↓reduceIte, Nat.reduceBEq, Nat.reduceEqDiff, Nat.reduceLT, Nat.reduceLeDiff, Nat.reduceAdd, Nat.reduceMul, Nat.reduceSub, reduceCtorEq, Int.reduceLT, Int.reduceLE, Int.reduceEq, Int.reduceBEq, Int.reduceBNe, Int.reduceToNat, Int.reduceAdd, Int.reduceNeg, Int.reduceSub, RS.v]
    · simp only [eDc]
    · refine ⟨⟨rfl, fun i t hi => ?_⟩, rfl⟩
      cases i with
      | zero => simp [truthsL] at hi; subst hi; exact ⟨1, 0, rfl, fun h => absurd rfl h⟩
      | succ i => simp [truthsL] at hi
    · intro e s he hR
      obtain ⟨hrow, hz⟩ := hR
      obtain ⟨tg, z, xs, t⟩ := s
      simp only at hrow hz
      subst hz
      have hei : (e : Int) < d.halves.length := by omega
      have hxl := hrow.1
      have hlen := truthsL_len d hc4 e
      have hp : 5 ^ e ≤ 125 := by
        have : 5 ^ e ≤ 5 ^ 3 := Nat.pow_le_pow_right (by omega) (by omega)
        omega
      simp only [go_sem, ↓reduceIte, Nat.reduceBEq, Nat.reduceEqDiff, Nat.reduceLT, Nat.reduceLeDiff, Nat.reduceAdd, Nat.reduceMul, Nat.reduceSub, reduceCtorEq, Int.reduceLT, Int.reduceLE, Int.reduceEq, Int.reduceBEq, Int.reduceBNe, Int.reduceToNat, Int.reduceAdd, Int.reduceNeg, Int.reduceSub, hei, eDc, RS.v]
      generalize hy : (EW tabX).code 44 none (Code.loop _) _ = y
      refine w_rounds_sk hy (fun k (s : RS) => [(5, s.v), (6, .int .i64 k)]) (fun s => ⟨[.cells (eDc d)], s.t⟩) (fun k s => s.is (((truthsL d e).take k).flatMap fun t => extK d e t (d.cards.length + 1))) (truthsL d e).length (.exit 2) (fun s => [(5, s.v), (6, .int .i64 (truthsL d e).length)]) rfl ⟨1, 0, [], t⟩ ?_ ?_ ?_ ?_ ?_ ?_
      · simp only [go_sem, ↓reduceIte, Nat.reduceBEq, Nat.reduceEqDiff, Nat.reduceLT, Nat.reduceLeDiff, Nat.reduceAdd, Nat.reduceMul, Nat.reduceSub, reduceCtorEq, Int.reduceLT, Int.reduceLE, Int.reduceEq, Int.reduceBEq, Int.reduceBNe, Int.reduceToNat, Int.reduceAdd, Int.reduceNeg, Int.reduceSub, RS.v]
      · simp only [eDc]
      · exact ⟨⟨rfl, fun i t hi => by simp at hi⟩, .inl ⟨rfl, rfl⟩⟩
      · intro k s hk hR
        obtain ⟨ntg, nz, nxs, nt⟩ := s
        have hki : (k : Int) < xs.length := by omega
        have htk := List.getElem?_eq_getElem hk
        obtain ⟨otg, oz, hox, hoz⟩ := hrow.2 k _ htk
        have htl := truthsL_mem d e _ (List.getElem_mem hk)
        have hflat : ((truthsL d e).take (k + 1)).flatMap (fun t => extK d e t (d.cards.length + 1)) = ((truthsL d e).take k).flatMap (fun t => extK d e t (d.cards.length + 1)) ++ extK d e (truthsL d e)[k] (d.cards.length + 1) := by
          rw [List.take_add_one, htk, List.flatMap_append]; simp
        have hpl : (((truthsL d e).take k).flatMap fun t => extK d e t (d.cards.length + 1)).length ≤ 125 * 5 := by
          have a := flat_len (fun t => extK d e t (d.cards.length + 1)) 5 ((truthsL d e).take k) fun t _ => by have := extK_len d e t (d.cards.length + 1); omega
          have b : ((truthsL d e).take k).length ≤ 125 := by rw [List.length_take]; omega
          exact Nat.le_trans a (Nat.mul_le_mul_right 5 b)
        rw [hflat]
        generalize (((truthsL d e).take k).flatMap fun t => extK d e t (d.cards.length + 1)) = pre at hR hpl ⊢
        generalize (truthsL d e)[k] = tt at hox hoz htl ⊢
        simp (disch := omega) only [go_sem, ↓reduceIte, Nat.reduceBEq, Nat.reduceEqDiff, Nat.reduceLT, Nat.reduceLeDiff, Nat.reduceAdd, Nat.reduceMul, Nat.reduceSub, reduceCtorEq, Int.reduceLT, Int.reduceLE, Int.reduceEq, Int.reduceBEq, Int.reduceBNe, Int.reduceToNat, Int.reduceAdd, Int.reduceNeg, Int.reduceSub, hki, eDc, RS.v, wrap_i64]
        generalize hz : (EW tabX).code 44 none (Code.loop _) _ = w
        refine w_rounds_sk hz (fun k (s : RS) => [(5, s.v), (7, .int .i64 ((k : Int) - 1))]) (fun s => ⟨[.cells (eDc d)], s.t⟩) (fun j s => s.is (pre ++ extK d e tt j)) (d.cards.length + 1) (.exit 4) (fun s => [(5, s.v), (7, .int .i64 d.cards.length)]) rfl ⟨ntg, nz, nxs, nt⟩ ?_ ?_ ?_ ?_ ?_ ?_
        · simp only [go_sem, ↓reduceIte, Nat.reduceBEq, Nat.reduceEqDiff, Nat.reduceLT, Nat.reduceLeDiff, Nat.reduceAdd, Nat.reduceMul, Nat.reduceSub, reduceCtorEq, Int.reduceLT, Int.reduceLE, Int.reduceEq, Int.reduceBEq, Int.reduceBNe, Int.reduceToNat, Int.reduceAdd, Int.reduceNeg, Int.reduceSub, RS.v]
        · simp only [eDc]
        · simpa [extK] using hR
        · intro j s hj hR
          obtain ⟨jtg, jz, jxs, jt⟩ := s
          obtain ⟨hrj, hoj⟩ := hR
          simp only at hrj hoj
          have hji : (j : Int) - 1 < d.cards.length := by omega
          have hjl := hrj.1
          have hel := extK_len d e tt j
          have hjn : jxs.length ≤ 640 := by rw [hjl, List.length_append]; omega
          have hoxt : xs[k]? = some (.lst otg oz (I tt)) := hox
          rw [extK_succ]
          have hws : IntKind.i64.wrap ((j : Int) - 1 + 1) = (j : Int) + 1 - 1 := by rw [wrap_i64 (by omega)]; omega
          obtain ⟨t2, a1, b1, c1, d1⟩ := app_gen (X := tabX) (ty := 29) (e := 3) (sz := 1) (tag := 1) (z := 1) (t := jt) (xs := []) (.inl ⟨rfl, rfl⟩) otg oz (I tt) (by simp only [go_sem, ↓reduceIte, Nat.reduceBEq, Nat.reduceEqDiff, Nat.reduceLT, Nat.reduceLeDiff, Nat.reduceAdd, Nat.reduceMul, Nat.reduceSub, reduceCtorEq, Int.reduceLT, Int.reduceLE, Int.reduceEq, Int.reduceBEq, Int.reduceBNe, Int.reduceToNat, Int.reduceAdd, Int.reduceNeg, Int.reduceSub]) (by simp only [go_sem, ↓reduceIte, Nat.reduceBEq, Nat.reduceEqDiff, Nat.reduceLT, Nat.reduceLeDiff, Nat.reduceAdd, Nat.reduceMul, Nat.reduceSub, reduceCtorEq, Int.reduceLT, Int.reduceLE, Int.reduceEq, Int.reduceBEq, Int.reduceBNe, Int.reduceToNat, Int.reduceAdd, Int.reduceNeg, Int.reduceSub]) (by omega)
            (by by_cases h : tt = []; exact .inr (by rw [h]; rfl); exact .inl (hoz h)) (by simp only [go_sem, ↓reduceIte, Nat.reduceBEq, Nat.reduceEqDiff, Nat.reduceLT, Nat.reduceLeDiff, Nat.reduceAdd, Nat.reduceMul, Nat.reduceSub, reduceCtorEq, Int.reduceLT, Int.reduceLE, Int.reduceEq, Int.reduceBEq, Int.reduceBNe, Int.reduceToNat, Int.reduceAdd, Int.reduceNeg, Int.reduceSub]; omega) (by simp only [go_sem, ↓reduceIte, Nat.reduceBEq, Nat.reduceEqDiff, Nat.reduceLT, Nat.reduceLeDiff, Nat.reduceAdd, Nat.reduceMul, Nat.reduceSub, reduceCtorEq, Int.reduceLT, Int.reduceLE, Int.reduceEq, Int.reduceBEq, Int.reduceBNe, Int.reduceToNat, Int.reduceAdd, Int.reduceNeg, Int.reduceSub]; omega) (by simp only [go_sem, ↓reduceIte, Nat.reduceBEq, Nat.reduceEqDiff, Nat.reduceLT, Nat.reduceLeDiff, Nat.reduceAdd, Nat.reduceMul, Nat.reduceSub, reduceCtorEq, Int.reduceLT, Int.reduceLE, Int.reduceEq, Int.reduceBEq, Int.reduceBNe, Int.reduceToNat, Int.reduceAdd, Int.reduceNeg, Int.reduceSub]) (by simp only [go_sem, ↓reduceIte, Nat.reduceBEq, Nat.reduceEqDiff, Nat.reduceLT, Nat.reduceLeDiff, Nat.reduceAdd, Nat.reduceMul, Nat.reduceSub, reduceCtorEq, Int.reduceLT, Int.reduceLE, Int.reduceEq, Int.reduceBEq, Int.reduceBNe, Int.reduceToNat, Int.reduceAdd, Int.reduceNeg, Int.reduceSub])
          obtain ⟨t3, a2, b2, c2, d2⟩ := app_gen (X := tabX) (ty := 29) (e := 3) (sz := 1) (tag := jt.length + 2) (z := 1) (t := t2) (xs := I tt) (.inr ⟨jt.length, rfl, rfl, c1⟩) 1 1 [.int .i64 ((j : Int) - 1)] (by simp only [go_sem, ↓reduceIte, Nat.reduceBEq, Nat.reduceEqDiff, Nat.reduceLT, Nat.reduceLeDiff, Nat.reduceAdd, Nat.reduceMul, Nat.reduceSub, reduceCtorEq, Int.reduceLT, Int.reduceLE, Int.reduceEq, Int.reduceBEq, Int.reduceBNe, Int.reduceToNat, Int.reduceAdd, Int.reduceNeg, Int.reduceSub]) (by simp only [go_sem, ↓reduceIte, Nat.reduceBEq, Nat.reduceEqDiff, Nat.reduceLT, Nat.reduceLeDiff, Nat.reduceAdd, Nat.reduceMul, Nat.reduceSub, reduceCtorEq, Int.reduceLT, Int.reduceLE, Int.reduceEq, Int.reduceBEq, Int.reduceBNe, Int.reduceToNat, Int.reduceAdd, Int.reduceNeg, Int.reduceSub]) (by omega)
            (.inl rfl) (by simp only [go_sem, ↓reduceIte, Nat.reduceBEq, Nat.reduceEqDiff, Nat.reduceLT, Nat.reduceLeDiff, Nat.reduceAdd, Nat.reduceMul, Nat.reduceSub, reduceCtorEq, Int.reduceLT, Int.reduceLE, Int.reduceEq, Int.reduceBEq, Int.reduceBNe, Int.reduceToNat, Int.reduceAdd, Int.reduceNeg, Int.reduceSub]; omega) (by simp only [go_sem, ↓reduceIte, Nat.reduceBEq, Nat.reduceEqDiff, Nat.reduceLT, Nat.reduceLeDiff, Nat.reduceAdd, Nat.reduceMul, Nat.reduceSub, reduceCtorEq, Int.reduceLT, Int.reduceLE, Int.reduceEq, Int.reduceBEq, Int.reduceBNe, Int.reduceToNat, Int.reduceAdd, Int.reduceNeg, Int.reduceSub]; omega) (by simp only [go_sem, ↓reduceIte, Nat.reduceBEq, Nat.reduceEqDiff, Nat.reduceLT, Nat.reduceLeDiff, Nat.reduceAdd, Nat.reduceMul, Nat.reduceSub, reduceCtorEq, Int.reduceLT, Int.reduceLE, Int.reduceEq, Int.reduceBEq, Int.reduceBNe, Int.reduceToNat, Int.reduceAdd, Int.reduceNeg, Int.reduceSub]) (by simp only [go_sem, ↓reduceIte, Nat.reduceBEq, Nat.reduceEqDiff, Nat.reduceLT, Nat.reduceLeDiff, Nat.reduceAdd, Nat.reduceMul, Nat.reduceSub, reduceCtorEq, Int.reduceLT, Int.reduceLE, Int.reduceEq, Int.reduceBEq, Int.reduceBNe, Int.reduceToNat, Int.reduceAdd, Int.reduceNeg, Int.reduceSub])
          have hown3 : OwnS 1 jtg jz jxs.length t3 := by
            rcases hoj with h | ⟨q, h1, h2, h3⟩
            · exact .inl h
            · have hq : q < jt.length := (List.getElem?_eq_some_iff.1 h3).1
              exact .inr ⟨q, h1, h2, d2 q (by omega) (d1 q (by omega) h3)⟩
          obtain ⟨t4, a3, b3, c3, d3⟩ := app_gen (X := tabX) (ty := 55) (e := 29) (sz := 1) hown3 1 1 [.lst (t2.length + 2) 1 (I (tt ++ [(j : Int) - 1]))] (by simp only [go_sem, ↓reduceIte, Nat.reduceBEq, Nat.reduceEqDiff, Nat.reduceLT, Nat.reduceLeDiff, Nat.reduceAdd, Nat.reduceMul, Nat.reduceSub, reduceCtorEq, Int.reduceLT, Int.reduceLE, Int.reduceEq, Int.reduceBEq, Int.reduceBNe, Int.reduceToNat, Int.reduceAdd, Int.reduceNeg, Int.reduceSub]) (by simp only [go_sem, ↓reduceIte, Nat.reduceBEq, Nat.reduceEqDiff, Nat.reduceLT, Nat.reduceLeDiff, Nat.reduceAdd, Nat.reduceMul, Nat.reduceSub, reduceCtorEq, Int.reduceLT, Int.reduceLE, Int.reduceEq, Int.reduceBEq, Int.reduceBNe, Int.reduceToNat, Int.reduceAdd, Int.reduceNeg, Int.reduceSub]) (by omega)
            (.inl rfl) (by simp only [go_sem, ↓reduceIte, Nat.reduceBEq, Nat.reduceEqDiff, Nat.reduceLT, Nat.reduceLeDiff, Nat.reduceAdd, Nat.reduceMul, Nat.reduceSub, reduceCtorEq, Int.reduceLT, Int.reduceLE, Int.reduceEq, Int.reduceBEq, Int.reduceBNe, Int.reduceToNat, Int.reduceAdd, Int.reduceNeg, Int.reduceSub]; omega) (by simp only [go_sem, ↓reduceIte, Nat.reduceBEq, Nat.reduceEqDiff, Nat.reduceLT, Nat.reduceLeDiff, Nat.reduceAdd, Nat.reduceMul, Nat.reduceSub, reduceCtorEq, Int.reduceLT, Int.reduceLE, Int.reduceEq, Int.reduceBEq, Int.reduceBNe, Int.reduceToNat, Int.reduceAdd, Int.reduceNeg, Int.reduceSub]; omega) (by simp only [go_sem, ↓reduceIte, Nat.reduceBEq, Nat.reduceEqDiff, Nat.reduceLT, Nat.reduceLeDiff, Nat.reduceAdd, Nat.reduceMul, Nat.reduceSub, reduceCtorEq, Int.reduceLT, Int.reduceLE, Int.reduceEq, Int.reduceBEq, Int.reduceBNe, Int.reduceToNat, Int.reduceAdd, Int.reduceNeg, Int.reduceSub]) (by simp only [go_sem, ↓reduceIte, Nat.reduceBEq, Nat.reduceEqDiff, Nat.reduceLT, Nat.reduceLeDiff, Nat.reduceAdd, Nat.reduceMul, Nat.reduceSub, reduceCtorEq, Int.reduceLT, Int.reduceLE, Int.reduceEq, Int.reduceBEq, Int.reduceBNe, Int.reduceToNat, Int.reduceAdd, Int.reduceNeg, Int.reduceSub])
          have hyes : RS.is ⟨t3.length + 2, 1, jxs ++ [.lst (t2.length + 2) 1 (I (tt ++ [(j : Int) - 1]))], t4⟩ (pre ++ (extK d e tt j ++ [tt ++ [(j : Int) - 1]])) := by
            refine ⟨?_, .inr ⟨t3.length, rfl, rfl, c3⟩⟩
            rw [← List.append_assoc]
            exact hrj.snoc _ _
          simp only [List.nil_append] at a1
          cases j with
          | zero =>
            simp only [may, if_true]
            simp only [cast_zero, Int.zero_sub] at a1 a2 a3 hyes hws hji ⊢
            refine ⟨_, ?_, hyes⟩
            simp (disch := omega) only [go_sem, ↓reduceIte, Nat.reduceBEq, Nat.reduceEqDiff, Nat.reduceLT, Nat.reduceLeDiff, Nat.reduceAdd, Nat.reduceMul, Nat.reduceSub, reduceCtorEq, Int.reduceLT, Int.reduceLE, Int.reduceEq, Int.reduceBEq, Int.reduceBNe, Int.reduceToNat, Int.reduceAdd, Int.reduceNeg, Int.reduceSub, hji, hki, hoxt, eDc, RS.v, wrap_i64, a1, a2, a3, I_snoc]
          | succ i =>
            have hji' : ((i : Int) + 1 - 1) = i := by omega
            have hcc : d.cards[i]? = some (d.cards.getD i ⟨default, []⟩) := by
              rw [List.getD_eq_getElem?_getD, List.getElem?_eq_getElem (show i < d.cards.length by omega)]; rfl
            have hee : d.halves[e]? = some (d.halves.getD e ⟨default, []⟩) := by
              rw [List.getD_eq_getElem?_getD, List.getElem?_eq_getElem (show e < d.halves.length by omega)]; rfl
            have h43 := c43 d hd ho i e _ _ hcc hee
            have h39 := c39 tt i oz hoz (by omega)
            have hne : ((i : Int) == -1) = false := by simp
            have hok : decide (0 < ((fitsL d (d.cards.getD i ⟨default, []⟩) (d.halves.getD e ⟨default, []⟩) d.steps.toNat).length : Int)) = okHC d e i := by
              unfold okHC; rw [Bool.eq_iff_iff]; simp only [decide_eq_true_eq]; omega
            simp only [cast_succ, hji'] at a2 a3 hyes hws hji ⊢
            simp only [go_sem, ↓reduceIte, Nat.reduceBEq, Nat.reduceEqDiff, Nat.reduceLT, Nat.reduceLeDiff, Nat.reduceAdd, Nat.reduceMul, Nat.reduceSub, reduceCtorEq, Int.reduceLT, Int.reduceLE, Int.reduceEq, Int.reduceBEq, Int.reduceBNe, Int.reduceToNat, Int.reduceAdd, Int.reduceNeg, Int.reduceSub, eD, eDc, vI] at h43 hcl
            cases hm : may d e tt (i + 1) with
            | true =>
              simp only [if_true]
              simp only [may] at hm
              refine ⟨_, ?_, hyes⟩
              simp (disch := omega) only [go_sem, ↓reduceIte, Nat.reduceBEq, Nat.reduceEqDiff, Nat.reduceLT, Nat.reduceLeDiff, Nat.reduceAdd, Nat.reduceMul, Nat.reduceSub, reduceCtorEq, Int.reduceLT, Int.reduceLE, Int.reduceEq, Int.reduceBEq, Int.reduceBNe, Int.reduceToNat, Int.reduceAdd, Int.reduceNeg, Int.reduceSub, hji, hji', hki, hoxt, eDc, RS.v, a1, a2, a3, I_snoc, hne, h39, h43, hok, hm, eC_clean, hws]
            | false =>
              simp only [Bool.false_eq_true, if_false]
              simp only [may] at hm
              refine ⟨⟨jtg, jz, jxs, jt⟩, ?_, hrj, hoj⟩
              simp (disch := omega) only [go_sem, ↓reduceIte, Nat.reduceBEq, Nat.reduceEqDiff, Nat.reduceLT, Nat.reduceLeDiff, Nat.reduceAdd, Nat.reduceMul, Nat.reduceSub, reduceCtorEq, Int.reduceLT, Int.reduceLE, Int.reduceEq, Int.reduceBEq, Int.reduceBNe, Int.reduceToNat, Int.reduceAdd, Int.reduceNeg, Int.reduceSub, hji, hji', hki, hoxt, eDc, RS.v, I_snoc, hne, h39, h43, hok, hm, eC_clean, hws]
        · intro s hR
          have e1 : (d.cards.length : Int) + 1 - 1 = d.cards.length := by omega
          simp only [go_sem, ↓reduceIte, Nat.reduceBEq, Nat.reduceEqDiff, Nat.reduceLT, Nat.reduceLeDiff, Nat.reduceAdd, Nat.reduceMul, Nat.reduceSub, reduceCtorEq, Int.reduceLT, Int.reduceLE, Int.reduceEq, Int.reduceBEq, Int.reduceBNe, Int.reduceToNat, Int.reduceAdd, Int.reduceNeg, Int.reduceSub, RS.v, eDc, e1]
        · intro s h1 hR
          subst h1
          exact ⟨s, by simp (disch := omega) only [go_sem, ↓reduceIte, Nat.reduceBEq, Nat.reduceEqDiff, Nat.reduceLT, Nat.reduceLeDiff, Nat.reduceAdd, Nat.reduceMul, Nat.reduceSub, reduceCtorEq, Int.reduceLT, Int.reduceLE, Int.reduceEq, Int.reduceBEq, Int.reduceBNe, Int.reduceToNat, Int.reduceAdd, Int.reduceNeg, Int.reduceSub, RS.v, eDc, wrap_i64], hR⟩
      · intro s hR
        simp only [go_sem, ↓reduceIte, Nat.reduceBEq, Nat.reduceEqDiff, Nat.reduceLT, Nat.reduceLeDiff, Nat.reduceAdd, Nat.reduceMul, Nat.reduceSub, reduceCtorEq, Int.reduceLT, Int.reduceLE, Int.reduceEq, Int.reduceBEq, Int.reduceBNe, Int.reduceToNat, Int.reduceAdd, Int.reduceNeg, Int.reduceSub, RS.v, eDc, hxl]
      · intro s h1 hR
        subst h1
        rw [List.take_length] at hR
        refine ⟨s, by simp (disch := omega) only [go_sem, ↓reduceIte, Nat.reduceBEq, Nat.reduceEqDiff, Nat.reduceLT, Nat.reduceLeDiff, Nat.reduceAdd, Nat.reduceMul, Nat.reduceSub, reduceCtorEq, Int.reduceLT, Int.reduceLE, Int.reduceEq, Int.reduceBEq, Int.reduceBNe, Int.reduceToNat, Int.reduceAdd, Int.reduceNeg, Int.reduceSub, RS.v, eDc, wrap_i64], hR.1, ?_⟩
        rcases hR.2 with ⟨_, h0⟩ | ⟨_, _, h0, _⟩
        · rw [hR.1.1] at h0
          exact absurd (List.eq_nil_of_length_eq_zero h0) (truthsL_ne d (e + 1))
        · exact h0
    · intro s hR
      simp only [go_sem, ↓reduceIte, Nat.reduceBEq, Nat.reduceEqDiff, Nat.reduceLT, Nat.reduceLeDiff, Nat.reduceAdd, Nat.reduceMul, Nat.reduceSub, reduceCtorEq, Int.reduceLT, Int.reduceLE, Int.reduceEq, Int.reduceBEq, Int.reduceBNe, Int.reduceToNat, Int.reduceAdd, Int.reduceNeg, Int.reduceSub, RS.v, eDc]
    · intro s h1 hR
      subst h1
      have hun := hR.1.under 0
      exact ⟨s, hR.1, hR.2, ⟨[], s.t⟩, by simp only [go_sem, ↓reduceIte, Nat.reduceBEq, Nat.reduceEqDiff, Nat.reduceLT, Nat.reduceLeDiff, Nat.reduceAdd, Nat.reduceMul, Nat.reduceSub, reduceCtorEq, Int.reduceLT, Int.reduceLE, Int.reduceEq, Int.reduceBEq, Int.reduceBNe, Int.reduceToNat, Int.reduceAdd, Int.reduceNeg, Int.reduceSub, RS.v, hun]⟩
  obtain ⟨s, hrow, hz, h1, hcall⟩ := key
  obtain ⟨ys, hys, hr2, hc2⟩ := hrow.clean
  refine ⟨ys, hr2, hc2, fun h => pure_of hcall ?_⟩
  simp only [RS.v, go_sem, ↓reduceIte, Nat.reduceBEq, Nat.reduceEqDiff, Nat.reduceLT, Nat.reduceLeDiff, Nat.reduceAdd, Nat.reduceMul, Nat.reduceSub, reduceCtorEq, Int.reduceLT, Int.reduceLE, Int.reduceEq, Int.reduceBEq, Int.reduceBNe, Int.reduceToNat, Int.reduceAdd, Int.reduceNeg, Int.reduceSub, hys, hz]
end Go.Proofs.Ytbfodfepgefloaa
end
section
namespace Go.Proofs.Ytbfodfepgefloaa
open Go.Proofs

theorem Rows.snoc' {xs : List AV} {ts : List (List Int)} (h : Rows xs ts) (tg z : Nat) (t : List Int) (hz : t ≠ [] → z = 1) : Rows (xs ++ [.lst tg z (I t)]) (ts ++ [t]) := by
  refine ⟨by simp [h.1], fun i u hu => ?_⟩
  rw [List.getElem?_append] at hu
  split at hu
  · obtain ⟨a, z, h1, h2⟩ := h.2 i u hu
    exact ⟨a, z, old h1 _, h2⟩
  · rename_i hi
    have : i = ts.length := by
      by_cases e : i - ts.length = 0
      · omega
      · rw [List.getElem?_eq_none (by simp; omega)] at hu; cases hu
    subst this
    simp at hu; subst hu
    refine ⟨tg, z, ?_, hz⟩
    rw [← h.1]; simp

/-- How many halves are forged in a truth. -/
def lostN (t : List Int) : Nat := (lostL t t.length).length
def leastN (l : List (List Int)) (m : Nat) : Nat := l.foldl (fun m t => min m (lostN t)) m
theorem leastN_succ (m : Nat) {l : List (List Int)} {k : Nat} {t : List Int} (h : l[k]? = some t) : leastN (l.take (k + 1)) m = min (leastN (l.take k) m) (lostN t) := by
  unfold leastN; rw [List.take_add_one, h, List.foldl_append]; rfl
theorem leastN_le (l : List (List Int)) : ∀ m, leastN l m ≤ m ∧ ∀ t ∈ l, leastN l m ≤ lostN t := by
  induction l with
  | nil => intro m; exact ⟨Nat.le_refl _, fun t h => by cases h⟩
  | cons u l ih =>
    intro m
    have := ih (min m (lostN u))
    have e : leastN (u :: l) m = leastN l (min m (lostN u)) := rfl
    rw [e]
    refine ⟨by omega, fun t ht => ?_⟩
    rcases List.mem_cons.1 ht with h | h
    · subst h; omega
    · exact this.2 t h
theorem leastN_mem (l : List (List Int)) : ∀ m, (∀ t ∈ l, lostN t ≤ m) → l ≠ [] → ∃ t ∈ l, lostN t = leastN l m := by
  induction l with
  | nil => intro m _ h; exact absurd rfl h
  | cons u l ih =>
    intro m hm _
    have e : leastN (u :: l) m = leastN l (min m (lostN u)) := rfl
    have hu := hm u (by simp)
    have e2 : min m (lostN u) = lostN u := by omega
    rw [e, e2]
    by_cases hl : l = []
    · subst hl; exact ⟨u, by simp, rfl⟩
    · by_cases hall : ∀ t ∈ l, lostN t ≤ lostN u
      · obtain ⟨t, ht, h⟩ := ih _ hall hl
        exact ⟨t, by simp [ht], h⟩
      · by_cases hs : leastN l (lostN u) = lostN u
        · exact ⟨u, by simp, hs.symm⟩
        · have h1 := (leastN_le l (lostN u)).1
          have : ∀ (l : List (List Int)) (m : Nat), leastN l m = m ∨ ∃ t ∈ l, lostN t = leastN l m := by
            intro l
            induction l with
            | nil => intro m; exact .inl rfl
            | cons v l ih2 =>
              intro m
              have e3 : leastN (v :: l) m = leastN l (min m (lostN v)) := rfl
              rw [e3]
              rcases ih2 (min m (lostN v)) with h | ⟨t, ht, h⟩
              · by_cases q : m ≤ lostN v
                · left; rw [h]; omega
                · right; exact ⟨v, by simp, by rw [h]; omega⟩
              · right; exact ⟨t, by simp [ht], h⟩
          rcases this l (lostN u) with h | ⟨t, ht, h⟩
          · exact absurd h hs
          · exact ⟨t, by simp [ht], h⟩
theorem lostN_le (t : List Int) : lostN t ≤ t.length := lostL_len t t.length
/-- All fair truths. -/
def fairL (d : Dr) : List (List Int) := (truthsL d d.halves.length).filter fun t => decide (lostN t = leastN (truthsL d d.halves.length) d.halves.length)
theorem fairL_ne (d : Dr) : fairL d ≠ [] := by
  obtain ⟨t, ht, h⟩ := leastN_mem (truthsL d d.halves.length) d.halves.length (fun t ht => by have := lostN_le t; have := truthsL_mem d _ t ht; omega) (truthsL_ne d _)
  intro h0
  have : t ∈ fairL d := List.mem_filter.2 ⟨ht, by simpa using h⟩
  rw [h0] at this; cases this

theorem c40 (d : Dr) (hd : d.fits) (ho : d.Ok) : ∃ ys, Rows ys (fairL d) ∧ cleanL ys = some ys ∧ ∀ h, callPure (EW tabX) 40 [eD d] h = some (.lst 0 1 ys, h) := by
  have hc4 := ho.c4
  have hh4 := ho.h4
  have hcl := eD_clean d
  obtain ⟨xs, hrow, hxc, h44⟩ := c44 d hd ho
  have hxl := hrow.1
  have hlen := truthsL_len d hc4 d.halves.length
  have hp : 5 ^ d.halves.length ≤ 625 := by
    have : 5 ^ d.halves.length ≤ 5 ^ 4 := Nat.pow_le_pow_right (by omega) (by omega)
    omega
  have hmem := truthsL_mem d d.halves.length
  have hne := fairL_ne d
  unfold fairL at hne ⊢
  generalize truthsL d d.halves.length = all at hrow hxl hlen hmem hne ⊢
  have key : ∃ s : RS, Rows s.xs (all.filter fun t => decide (lostN t = leastN all d.halves.length)) ∧ s.z = 1 ∧ ∃ h1, (EW tabX).call 40 [eD d] ⟨[], []⟩ = some (s.v, h1) := by
    rw [w_call _ fn_40 rfl]
    simp only [go_sem, ↓reduceIte, Nat.reduceBEq, Nat.reduceEqDiff, Nat.reduceLT, Nat.reduceLeDiff, Nat.reduceAdd, Nat.reduceMul, Nat.reduceSub, reduceCtorEq, Int.reduceLT, Int.reduceLE, Int.reduceEq, Int.reduceBEq, Int.reduceBNe, Int.reduceToNat, Int.reduceAdd, Int.reduceNeg, Int.reduceSub, eD, eDc, eC_under] at h44 hcl ⊢
    simp only [go_sem, ↓reduceIte, Nat.reduceBEq, Nat.reduceEqDiff, Nat.reduceLT, Nat.reduceLeDiff, Nat.reduceAdd, Nat.reduceMul, Nat.reduceSub, reduceCtorEq, Int.reduceLT, Int.reduceLE, Int.reduceEq, Int.reduceBEq, Int.reduceBNe, Int.reduceToNat, Int.reduceAdd, Int.reduceNeg, Int.reduceSub, eC_clean, h44]
    have elt : ∀ k, k < all.length → ∃ t tg z, all[k]? = some t ∧ xs[k]? = some (.lst tg z (I t)) ∧ (t ≠ [] → z = 1) ∧ t.length < 900 ∧ (k : Int) < xs.length := fun k hk => by
      have hx := List.getElem?_eq_getElem hk
      obtain ⟨tg, z, h1, h2⟩ := hrow.2 k _ hx
      have := hmem _ (List.getElem_mem hk)
      exact ⟨_, tg, z, hx, h1, h2, by omega, by omega⟩
    rw [w_rounds_u (fun k => [(4, .int .i64 (leastN (all.take k) d.halves.length)), (5, .int .i64 k)]) all.length (.exit 0) [(4, .int .i64 (leastN all d.halves.length)), (5, .int .i64 all.length)] ?_ ?_ ?_ rfl]
    rotate_left
    · simp only [go_sem, ↓reduceIte, Nat.reduceBEq, Nat.reduceEqDiff, Nat.reduceLT, Nat.reduceLeDiff, Nat.reduceAdd, Nat.reduceMul, Nat.reduceSub, reduceCtorEq, Int.reduceLT, Int.reduceLE, Int.reduceEq, Int.reduceBEq, Int.reduceBNe, Int.reduceToNat, Int.reduceAdd, Int.reduceNeg, Int.reduceSub, leastN, List.foldl_nil]
    · intro k hk
      obtain ⟨t, tg, z, h1, h2, h3, h4, h5⟩ := elt k hk
      have h45 := c45 t z h3 h4
      have hmin : (if ((lostN t : Nat) : Int) < leastN (all.take k) d.halves.length then ((lostN t : Nat) : Int) else leastN (all.take k) d.halves.length) = ((leastN (all.take (k + 1)) d.halves.length : Nat) : Int) := by
        rw [leastN_succ _ h1]; split <;> omega
      have hln : ((lostL t t.length).length : Int) = lostN t := rfl
      simp (disch := omega) only [go_sem, ↓reduceIte, Nat.reduceBEq, Nat.reduceEqDiff, Nat.reduceLT, Nat.reduceLeDiff, Nat.reduceAdd, Nat.reduceMul, Nat.reduceSub, reduceCtorEq, Int.reduceLT, Int.reduceLE, Int.reduceEq, Int.reduceBEq, Int.reduceBNe, Int.reduceToNat, Int.reduceAdd, Int.reduceNeg, Int.reduceSub, h2, h5, h45, vI, hln, hmin, wrap_i64]
    · simp only [go_sem, ↓reduceIte, Nat.reduceBEq, Nat.reduceEqDiff, Nat.reduceLT, Nat.reduceLeDiff, Nat.reduceAdd, Nat.reduceMul, Nat.reduceSub, reduceCtorEq, Int.reduceLT, Int.reduceLE, Int.reduceEq, Int.reduceBEq, Int.reduceBNe, Int.reduceToNat, Int.reduceAdd, Int.reduceNeg, Int.reduceSub, hxl]
    simp only [go_sem, ↓reduceIte, Nat.reduceBEq, Nat.reduceEqDiff, Nat.reduceLT, Nat.reduceLeDiff, Nat.reduceAdd, Nat.reduceMul, Nat.reduceSub, reduceCtorEq, Int.reduceLT, Int.reduceLE, Int.reduceEq, Int.reduceBEq, Int.reduceBNe, Int.reduceToNat, Int.reduceAdd, Int.reduceNeg, Int.reduceSub]
    generalize hx : (EW tabX).code 40 none (Code.loop _) _ = x
    refine w_rounds_sk hx (fun k (s : RS) => [(6, s.v), (7, .int .i64 k)]) (fun s => ⟨[.cells (eDc d)], s.t⟩) (fun k s => s.is ((all.take k).filter fun t => decide (lostN t = leastN all d.halves.length))) all.length (.exit 2) (fun s => [(6, s.v), (7, .int .i64 all.length)]) rfl ⟨1, 0, [], []⟩ ?_ ?_ ?_ ?_ ?_ ?_
    · simp only [go_sem, ↓reduceIte, Nat.reduceBEq, Nat.reduceEqDiff, Nat.reduceLT, Nat.reduceLeDiff, Nat.reduceAdd, Nat.reduceMul, Nat.reduceSub, reduceCtorEq, Int.reduceLT, Int.reduceLE, Int.reduceEq, Int.reduceBEq, Int.reduceBNe, Int.reduceToNat, Int.reduceAdd, Int.reduceNeg, Int.reduceSub, RS.v]
    · simp only [eDc]
    · exact ⟨⟨rfl, fun i t hi => by simp at hi⟩, .inl ⟨rfl, rfl⟩⟩
    · intro k s hk hR
      obtain ⟨stg, sz, sxs, st⟩ := s
      obtain ⟨hr1, hr2⟩ := hR
      simp only at hr1 hr2
      obtain ⟨t, tg, z, h1, h2, h3, h4, h5⟩ := elt k hk
      have h45 := c45 t z h3 h4
      have hln : ((lostL t t.length).length : Int) = lostN t := rfl
      have hsl : sxs.length ≤ 625 := by
        rw [hr1.1]
        have := List.length_filter_le (fun t => decide (lostN t = leastN all d.halves.length)) (all.take k)
        rw [List.length_take] at this
        omega
      have hfil : (all.take (k + 1)).filter (fun t => decide (lostN t = leastN all d.halves.length)) = if decide (lostN t = leastN all d.halves.length) = true then (all.take k).filter (fun t => decide (lostN t = leastN all d.halves.length)) ++ [t] else (all.take k).filter (fun t => decide (lostN t = leastN all d.halves.length)) := by
        rw [List.take_add_one, h1, Option.toList_some, List.filter_append]
        have e : List.filter (fun t => decide (lostN t = leastN all d.halves.length)) [t] = if decide (lostN t = leastN all d.halves.length) = true then [t] else [] := by simp only [List.filter_cons, List.filter_nil]
        rw [e]; split <;> simp
      rw [hfil]
      obtain ⟨t2, a1, b1, c1, d1⟩ := app_gen (X := tabX) (ty := 55) (e := 29) (sz := 1) hr2 1 1 [.lst tg z (I t)] (by simp only [go_sem, ↓reduceIte, Nat.reduceBEq, Nat.reduceEqDiff, Nat.reduceLT, Nat.reduceLeDiff, Nat.reduceAdd, Nat.reduceMul, Nat.reduceSub, reduceCtorEq, Int.reduceLT, Int.reduceLE, Int.reduceEq, Int.reduceBEq, Int.reduceBNe, Int.reduceToNat, Int.reduceAdd, Int.reduceNeg, Int.reduceSub]) (by simp only [go_sem, ↓reduceIte, Nat.reduceBEq, Nat.reduceEqDiff, Nat.reduceLT, Nat.reduceLeDiff, Nat.reduceAdd, Nat.reduceMul, Nat.reduceSub, reduceCtorEq, Int.reduceLT, Int.reduceLE, Int.reduceEq, Int.reduceBEq, Int.reduceBNe, Int.reduceToNat, Int.reduceAdd, Int.reduceNeg, Int.reduceSub]) (by omega) (.inl rfl) (by simp only [go_sem, ↓reduceIte, Nat.reduceBEq, Nat.reduceEqDiff, Nat.reduceLT, Nat.reduceLeDiff, Nat.reduceAdd, Nat.reduceMul, Nat.reduceSub, reduceCtorEq, Int.reduceLT, Int.reduceLE, Int.reduceEq, Int.reduceBEq, Int.reduceBNe, Int.reduceToNat, Int.reduceAdd, Int.reduceNeg, Int.reduceSub]; omega) (by simp only [go_sem, ↓reduceIte, Nat.reduceBEq, Nat.reduceEqDiff, Nat.reduceLT, Nat.reduceLeDiff, Nat.reduceAdd, Nat.reduceMul, Nat.reduceSub, reduceCtorEq, Int.reduceLT, Int.reduceLE, Int.reduceEq, Int.reduceBEq, Int.reduceBNe, Int.reduceToNat, Int.reduceAdd, Int.reduceNeg, Int.reduceSub]; omega) (by simp only [go_sem, ↓reduceIte, Nat.reduceBEq, Nat.reduceEqDiff, Nat.reduceLT, Nat.reduceLeDiff, Nat.reduceAdd, Nat.reduceMul, Nat.reduceSub, reduceCtorEq, Int.reduceLT, Int.reduceLE, Int.reduceEq, Int.reduceBEq, Int.reduceBNe, Int.reduceToNat, Int.reduceAdd, Int.reduceNeg, Int.reduceSub]) (by simp only [go_sem, ↓reduceIte, Nat.reduceBEq, Nat.reduceEqDiff, Nat.reduceLT, Nat.reduceLeDiff, Nat.reduceAdd, Nat.reduceMul, Nat.reduceSub, reduceCtorEq, Int.reduceLT, Int.reduceLE, Int.reduceEq, Int.reduceBEq, Int.reduceBNe, Int.reduceToNat, Int.reduceAdd, Int.reduceNeg, Int.reduceSub])
      by_cases he : lostN t = leastN all d.halves.length
      · rw [if_pos (by simpa using he)]
        have he' : ((lostN t : Int) == leastN all d.halves.length) = true := by simp [he]
        refine ⟨⟨st.length + 2, 1, sxs ++ [.lst tg z (I t)], t2⟩, ?_, hr1.snoc' tg z t h3, .inr ⟨st.length, rfl, rfl, c1⟩⟩
        simp (disch := omega) only [go_sem, ↓reduceIte, Nat.reduceBEq, Nat.reduceEqDiff, Nat.reduceLT, Nat.reduceLeDiff, Nat.reduceAdd, Nat.reduceMul, Nat.reduceSub, reduceCtorEq, Int.reduceLT, Int.reduceLE, Int.reduceEq, Int.reduceBEq, Int.reduceBNe, Int.reduceToNat, Int.reduceAdd, Int.reduceNeg, Int.reduceSub, RS.v, eDc, h2, h5, h45, vI, hln, he', a1, wrap_i64]
      · rw [if_neg (by simpa using he)]
        have he' : ((lostN t : Int) == leastN all d.halves.length) = false := by simp; omega
        refine ⟨⟨stg, sz, sxs, st⟩, ?_, hr1, hr2⟩
        simp (disch := omega) only [go_sem, ↓reduceIte, Nat.reduceBEq, Nat.reduceEqDiff, Nat.reduceLT, Nat.reduceLeDiff, Nat.reduceAdd, Nat.reduceMul, Nat.reduceSub, reduceCtorEq, Int.reduceLT, Int.reduceLE, Int.reduceEq, Int.reduceBEq, Int.reduceBNe, Int.reduceToNat, Int.reduceAdd, Int.reduceNeg, Int.reduceSub, RS.v, eDc, h2, h5, h45, vI, hln, he', wrap_i64]
    · intro s hR
      simp only [go_sem, ↓reduceIte, Nat.reduceBEq, Nat.reduceEqDiff, Nat.reduceLT, Nat.reduceLeDiff, Nat.reduceAdd, Nat.reduceMul, Nat.reduceSub, reduceCtorEq, Int.reduceLT, Int.reduceLE, Int.reduceEq, Int.reduceBEq, Int.reduceBNe, Int.reduceToNat, Int.reduceAdd, Int.reduceNeg, Int.reduceSub, RS.v, eDc, hxl]
    · intro s h1 hR
      subst h1
      rw [List.take_length] at hR
      have hun := hR.1.under 0
      have hz : s.z = 1 := by
        rcases hR.2 with ⟨_, h0⟩ | ⟨_, _, h0, _⟩
        · rw [hR.1.1] at h0
          exact absurd (List.eq_nil_of_length_eq_zero h0) hne
        · exact h0
      exact ⟨s, hR.1, hz, ⟨[], s.t⟩, by simp only [go_sem, ↓reduceIte, Nat.reduceBEq, Nat.reduceEqDiff, Nat.reduceLT, Nat.reduceLeDiff, Nat.reduceAdd, Nat.reduceMul, Nat.reduceSub, reduceCtorEq, Int.reduceLT, Int.reduceLE, Int.reduceEq, Int.reduceBEq, Int.reduceBNe, Int.reduceToNat, Int.reduceAdd, Int.reduceNeg, Int.reduceSub, RS.v, hun]⟩
  obtain ⟨s, hrow, hz, h1, hcall⟩ := key
  obtain ⟨ys, hys, hr2, hc2⟩ := hrow.clean
  refine ⟨ys, hr2, hc2, fun h => pure_of hcall ?_⟩
  simp only [RS.v, go_sem, ↓reduceIte, Nat.reduceBEq, Nat.reduceEqDiff, Nat.reduceLT, Nat.reduceLeDiff, Nat.reduceAdd, Nat.reduceMul, Nat.reduceSub, reduceCtorEq, Int.reduceLT, Int.reduceLE, Int.reduceEq, Int.reduceBEq, Int.reduceBNe, Int.reduceToNat, Int.reduceAdd, Int.reduceNeg, Int.reduceSub, hys, hz]
end Go.Proofs.Ytbfodfepgefloaa
end
section
namespace Go.Proofs.Ytbfodfepgefloaa
open Go.Proofs

/-- The list of forged halves. -/
def lostT (t : List Int) : List Int := lostL t t.length
/-- The first fair truth. -/
def first (d : Dr) : List Int := (fairL d).headD []
theorem fairL_mem {d : Dr} {t : List Int} (h : t ∈ fairL d) : t ∈ truthsL d d.halves.length ∧ t.length = d.halves.length := by
  have := (List.mem_filter.1 h).1
  exact ⟨this, truthsL_mem d _ t this⟩
theorem fairL_zero (d : Dr) : (fairL d)[0]? = some (first d) := by
  unfold first
  cases h : fairL d with
  | nil => exact absurd h (fairL_ne d)
  | cons t l => rfl
theorem first_mem (d : Dr) : first d ∈ fairL d := List.mem_of_getElem? (fairL_zero d)
theorem fairL_len (d : Dr) (ho : d.Ok) : (fairL d).length ≤ 625 := by
  have a := truthsL_len d ho.c4 d.halves.length
  have b : (fairL d).length ≤ (truthsL d d.halves.length).length := List.length_filter_le _ _
  have c : 5 ^ d.halves.length ≤ 5 ^ 4 := Nat.pow_le_pow_right (by omega) ho.h4
  omega
theorem tup3_0 : tup3 (0, 0, 0) = .tup [.int .i64 0, .int .i64 0, .int .i64 0] := rfl

theorem c23_no (d : Dr) (hd : d.fits) (he : (checkT d).2.2 ≠ 0) (h : Heap) : callPure (EW tabX) 23 [eD d] h = some (.tup [vI [], .int .i64 0, .int .i64 (checkT d).2.2], h) := by
  have h17 := c17 d hd
  have hcl := eD_clean d
  have hne : ((checkT d).2.2 != 0) = true := by simpa using he
  rw [callPure_eq, w_call _ fn_23 rfl]
  simp only [go_sem, ↓reduceIte, Nat.reduceBEq, Nat.reduceEqDiff, Nat.reduceLT, Nat.reduceLeDiff, Nat.reduceAdd, Nat.reduceMul, Nat.reduceSub, reduceCtorEq, Int.reduceLT, Int.reduceLE, Int.reduceEq, Int.reduceBEq, Int.reduceBNe, Int.reduceToNat, Int.reduceAdd, Int.reduceNeg, Int.reduceSub, eD, eDc, eC_under, tup3] at hcl h17 ⊢
  simp only [go_sem, ↓reduceIte, Nat.reduceBEq, Nat.reduceEqDiff, Nat.reduceLT, Nat.reduceLeDiff, Nat.reduceAdd, Nat.reduceMul, Nat.reduceSub, reduceCtorEq, Int.reduceLT, Int.reduceLE, Int.reduceEq, Int.reduceBEq, Int.reduceBNe, Int.reduceToNat, Int.reduceAdd, Int.reduceNeg, Int.reduceSub, eC_clean, h17, hne, vI_nil]
theorem c23_yes (d : Dr) (hd : d.fits) (he : (checkT d).2.2 = 0) : ∃ z, (first d ≠ [] → z = 1) ∧ ∀ h, callPure (EW tabX) 23 [eD d] h = some (.tup [.lst 0 z (I (first d)), .int .i64 (lostN (first d)), .int .i64 0], h) := by
  obtain ⟨ho, hk⟩ := ok_of_check he
  have h17 := c17 d hd
  rw [hk] at h17
  have hcl := eD_clean d
  obtain ⟨ys, hrow, hyc, h40⟩ := c40 d hd ho
  obtain ⟨tg, z, h1, h2⟩ := hrow.2 0 _ (fairL_zero d)
  have hcl0 : tg = 0 := by
    cases ys with
    | nil => cases h1
    | cons y ys =>
      simp at h1; subst h1
      simp only [go_sem, ↓reduceIte, Nat.reduceBEq, Nat.reduceEqDiff, Nat.reduceLT, Nat.reduceLeDiff, Nat.reduceAdd, Nat.reduceMul, Nat.reduceSub, reduceCtorEq, Int.reduceLT, Int.reduceLE, Int.reduceEq, Int.reduceBEq, Int.reduceBNe, Int.reduceToNat, Int.reduceAdd, Int.reduceNeg, Int.reduceSub] at hyc
      cases hc : cleanL ys with
      | none => rw [hc] at hyc; simp only [go_sem, ↓reduceIte, Nat.reduceBEq, Nat.reduceEqDiff, Nat.reduceLT, Nat.reduceLeDiff, Nat.reduceAdd, Nat.reduceMul, Nat.reduceSub, reduceCtorEq, Int.reduceLT, Int.reduceLE, Int.reduceEq, Int.reduceBEq, Int.reduceBNe, Int.reduceToNat, Int.reduceAdd, Int.reduceNeg, Int.reduceSub] at hyc
      | some zs => rw [hc] at hyc; simp only [go_sem, ↓reduceIte, Nat.reduceBEq, Nat.reduceEqDiff, Nat.reduceLT, Nat.reduceLeDiff, Nat.reduceAdd, Nat.reduceMul, Nat.reduceSub, reduceCtorEq, Int.reduceLT, Int.reduceLE, Int.reduceEq, Int.reduceBEq, Int.reduceBNe, Int.reduceToNat, Int.reduceAdd, Int.reduceNeg, Int.reduceSub] at hyc; simp at hyc; exact hyc.1.symm
  subst hcl0
  have hl := (fairL_mem (first_mem d)).2
  have := ho.h4
  have h45 := c45 (first d) z h2 (by omega)
  have hln : ((lostL (first d) (first d).length).length : Int) = lostN (first d) := rfl
  refine ⟨z, h2, fun h => ?_⟩
  rw [callPure_eq, w_call _ fn_23 rfl]
  simp only [go_sem, ↓reduceIte, Nat.reduceBEq, Nat.reduceEqDiff, Nat.reduceLT, Nat.reduceLeDiff, Nat.reduceAdd, Nat.reduceMul, Nat.reduceSub, reduceCtorEq, Int.reduceLT, Int.reduceLE, Int.reduceEq, Int.reduceBEq, Int.reduceBNe, Int.reduceToNat, Int.reduceAdd, Int.reduceNeg, Int.reduceSub, eD, eDc, eC_under, tup3_0] at hcl h17 h40 ⊢
  simp only [go_sem, ↓reduceIte, Nat.reduceBEq, Nat.reduceEqDiff, Nat.reduceLT, Nat.reduceLeDiff, Nat.reduceAdd, Nat.reduceMul, Nat.reduceSub, reduceCtorEq, Int.reduceLT, Int.reduceLE, Int.reduceEq, Int.reduceBEq, Int.reduceBNe, Int.reduceToNat, Int.reduceAdd, Int.reduceNeg, Int.reduceSub, eC_clean, h17, h40, h1, h45, vI, hln]

/-- The first list of forged halves among some. -/
def bestL (b : List Int) (l : List (List Int)) : List Int := l.foldl (fun b t => if ltB (lostT t) b then lostT t else b) b
theorem bestL_succ (b : List Int) {l : List (List Int)} {k : Nat} {t : List Int} (h : l[k]? = some t) : bestL b (l.take (k + 1)) = if ltB (lostT t) (bestL b (l.take k)) then lostT t else bestL b (l.take k) := by
  unfold bestL; rw [List.take_add_one, h, List.foldl_append]; rfl
theorem bestL_len (n : Nat) : ∀ (l : List (List Int)) (b : List Int), b.length ≤ n → (∀ t ∈ l, t.length ≤ n) → (bestL b l).length ≤ n
  | [], b, hb, _ => hb
  | t :: l, b, hb, h => by
    have e : bestL b (t :: l) = bestL (if ltB (lostT t) b then lostT t else b) l := rfl
    rw [e]
    refine bestL_len n l _ ?_ fun u hu => h u (by simp [hu])
    split
    · have := lostN_le t; have := h t (by simp); unfold lostN at *; unfold lostT; omega
    · exact hb
def forged (d : Dr) : List Int := bestL (lostT (first d)) ((fairL d).drop 1)
theorem zT_ne {l : List Int} (h : l ≠ []) : zT 1 l.length = 1 := zT_pos (List.length_pos_iff.2 h)

theorem c25_no (d : Dr) (hd : d.fits) (he : (checkT d).2.2 ≠ 0) (h : Heap) : callPure (EW tabX) 25 [eD d] h = some (.tup [vI [], .int .i64 (checkT d).2.2], h) := by
  have h17 := c17 d hd
  have hcl := eD_clean d
  have hne : ((checkT d).2.2 != 0) = true := by simpa using he
  rw [callPure_eq, w_call _ fn_25 rfl]
  simp only [go_sem, ↓reduceIte, Nat.reduceBEq, Nat.reduceEqDiff, Nat.reduceLT, Nat.reduceLeDiff, Nat.reduceAdd, Nat.reduceMul, Nat.reduceSub, reduceCtorEq, Int.reduceLT, Int.reduceLE, Int.reduceEq, Int.reduceBEq, Int.reduceBNe, Int.reduceToNat, Int.reduceAdd, Int.reduceNeg, Int.reduceSub, eD, eDc, eC_under, tup3] at hcl h17 ⊢
  simp only [go_sem, ↓reduceIte, Nat.reduceBEq, Nat.reduceEqDiff, Nat.reduceLT, Nat.reduceLeDiff, Nat.reduceAdd, Nat.reduceMul, Nat.reduceSub, reduceCtorEq, Int.reduceLT, Int.reduceLE, Int.reduceEq, Int.reduceBEq, Int.reduceBNe, Int.reduceToNat, Int.reduceAdd, Int.reduceNeg, Int.reduceSub, eC_clean, h17, hne, vI_nil]
theorem c25_yes (d : Dr) (hd : d.fits) (he : (checkT d).2.2 = 0) (h : Heap) : callPure (EW tabX) 25 [eD d] h = some (.tup [vI (forged d), .int .i64 0], h) := by
  obtain ⟨ho, hk⟩ := ok_of_check he
  have h17 := c17 d hd
  rw [hk] at h17
  have hcl := eD_clean d
  obtain ⟨ys, hrow, hyc, h40⟩ := c40 d hd ho
  have h4 := ho.h4
  have hfl := fairL_len d ho
  have hpos : 0 < (fairL d).length := List.length_pos_iff.2 (fairL_ne d)
  have elt : ∀ k, k < (fairL d).length → ∃ t tg z, (fairL d)[k]? = some t ∧ ys[k]? = some (.lst tg z (I t)) ∧ (t ≠ [] → z = 1) ∧ t.length < 900 ∧ t.length ≤ 4 ∧ (k : Int) < ys.length := fun k hk => by
    have hx := List.getElem?_eq_getElem hk
    obtain ⟨tg, z, h1, h2⟩ := hrow.2 k _ hx
    have := (fairL_mem (List.getElem_mem hk)).2
    have := hrow.1
    exact ⟨_, tg, z, hx, h1, h2, by omega, by omega, by omega⟩
  obtain ⟨t0, tg, z, e1, e2, e3, e4, e5, e6⟩ := elt 0 hpos
  have e0 : t0 = first d := by rw [fairL_zero] at e1; exact (Option.some.inj e1).symm
  subst e0
  have h45 := c45 (first d) z e3 e4
  rw [callPure_eq, w_call _ fn_25 rfl]
  simp only [go_sem, ↓reduceIte, Nat.reduceBEq, Nat.reduceEqDiff, Nat.reduceLT, Nat.reduceLeDiff, Nat.reduceAdd, Nat.reduceMul, Nat.reduceSub, reduceCtorEq, Int.reduceLT, Int.reduceLE, Int.reduceEq, Int.reduceBEq, Int.reduceBNe, Int.reduceToNat, Int.reduceAdd, Int.reduceNeg, Int.reduceSub, eD, eDc, eC_under, tup3_0] at hcl h17 h40 ⊢
  simp only [go_sem, ↓reduceIte, Nat.reduceBEq, Nat.reduceEqDiff, Nat.reduceLT, Nat.reduceLeDiff, Nat.reduceAdd, Nat.reduceMul, Nat.reduceSub, reduceCtorEq, Int.reduceLT, Int.reduceLE, Int.reduceEq, Int.reduceBEq, Int.reduceBNe, Int.reduceToNat, Int.reduceAdd, Int.reduceNeg, Int.reduceSub, eC_clean, h17, h40, e2, h45]
  have hdl : ((fairL d).drop 1).length = (fairL d).length - 1 := List.length_drop
  have hb : ∀ k, (bestL (lostT (first d)) (((fairL d).drop 1).take k)).length ≤ 4 := fun k => bestL_len 4 _ _ (by have := lostN_le (first d); unfold lostN at this; unfold lostT; omega) fun t ht => by
    have := (fairL_mem (List.mem_of_mem_drop (List.mem_of_mem_take ht))).2; omega
  rw [w_rounds_u (fun k => [(8, vI (bestL (lostT (first d)) (((fairL d).drop 1).take k))), (9, .int .i64 ((k : Int) + 1))]) ((fairL d).length - 1) (.exit 0) [(8, vI (forged d)), (9, .int .i64 (fairL d).length)] ?_ ?_ ?_ rfl]
  · simp only [go_sem, ↓reduceIte, Nat.reduceBEq, Nat.reduceEqDiff, Nat.reduceLT, Nat.reduceLeDiff, Nat.reduceAdd, Nat.reduceMul, Nat.reduceSub, reduceCtorEq, Int.reduceLT, Int.reduceLE, Int.reduceEq, Int.reduceBEq, Int.reduceBNe, Int.reduceToNat, Int.reduceAdd, Int.reduceNeg, Int.reduceSub, vI_clean, vI_under]
  · simp only [go_sem, ↓reduceIte, Nat.reduceBEq, Nat.reduceEqDiff, Nat.reduceLT, Nat.reduceLeDiff, Nat.reduceAdd, Nat.reduceMul, Nat.reduceSub, reduceCtorEq, Int.reduceLT, Int.reduceLE, Int.reduceEq, Int.reduceBEq, Int.reduceBNe, Int.reduceToNat, Int.reduceAdd, Int.reduceNeg, Int.reduceSub, bestL, List.foldl_nil, lostT]
  · intro k hk
    obtain ⟨t, tg, z, f1, f2, f3, f4, f5, f6⟩ := elt (k + 1) (by omega)
    have f1' : ((fairL d).drop 1)[k]? = some t := by rw [List.getElem?_drop, Nat.add_comm]; exact f1
    have f6' : (k : Int) + 1 < ys.length := by omega
    have hidx : ((k : Int) + 1 < 0) = False := by simp; omega
    have htn : ((k : Int) + 1).toNat = k + 1 := by omega
    have h45 := c45 t z f3 f4
    have hbk := hb k
    have h46 := c46 (lostT t) (bestL (lostT (first d)) (((fairL d).drop 1).take k)) (zT 1 (lostT t).length) (zT 1 (bestL (lostT (first d)) (((fairL d).drop 1).take k)).length) zT_ne zT_ne (by have := lostN_le t; unfold lostN at this; unfold lostT; omega) (by omega)
    rw [bestL_succ _ f1']
    by_cases hlt : ltB (lostT t) (bestL (lostT (first d)) (((fairL d).drop 1).take k)) = true
    · rw [if_pos hlt]
      rw [hlt] at h46
      simp only [lostT, vI] at h46 h45 ⊢
      simp (disch := omega) only [go_sem, ↓reduceIte, Nat.reduceBEq, Nat.reduceEqDiff, Nat.reduceLT, Nat.reduceLeDiff, Nat.reduceAdd, Nat.reduceMul, Nat.reduceSub, reduceCtorEq, Int.reduceLT, Int.reduceLE, Int.reduceEq, Int.reduceBEq, Int.reduceBNe, Int.reduceToNat, Int.reduceAdd, Int.reduceNeg, Int.reduceSub, f2, f6', hidx, htn, h45, h46, wrap_i64]
    · rw [if_neg hlt]
      have hlf : ltB (lostT t) (bestL (lostT (first d)) (((fairL d).drop 1).take k)) = false := by simpa using hlt
      rw [hlf] at h46
      simp only [lostT, vI] at h46 h45 ⊢
      simp (disch := omega) only [go_sem, ↓reduceIte, Nat.reduceBEq, Nat.reduceEqDiff, Nat.reduceLT, Nat.reduceLeDiff, Nat.reduceAdd, Nat.reduceMul, Nat.reduceSub, reduceCtorEq, Int.reduceLT, Int.reduceLE, Int.reduceEq, Int.reduceBEq, Int.reduceBNe, Int.reduceToNat, Int.reduceAdd, Int.reduceNeg, Int.reduceSub, f2, f6', hidx, htn, h45, h46, wrap_i64]
  · have hyl := hrow.1
    have hfin : ((fairL d).drop 1).take ((fairL d).length - 1) = (fairL d).drop 1 := by rw [← hdl]; exact List.take_length
    have hni : ¬ ((((fairL d).length - 1 : Nat) : Int) + 1 < ys.length) := by omega
    have hnn : (((fairL d).length - 1 : Nat) : Int) + 1 = (fairL d).length := by omega
    simp only [go_sem, ↓reduceIte, Nat.reduceBEq, Nat.reduceEqDiff, Nat.reduceLT, Nat.reduceLeDiff, Nat.reduceAdd, Nat.reduceMul, Nat.reduceSub, reduceCtorEq, Int.reduceLT, Int.reduceLE, Int.reduceEq, Int.reduceBEq, Int.reduceBNe, Int.reduceToNat, Int.reduceAdd, Int.reduceNeg, Int.reduceSub, hfin, hni, hnn, forged, hyl]
end Go.Proofs.Ytbfodfepgefloaa
end
section
namespace Go.Proofs.Ytbfodfepgefloaa
open Go.Proofs

/-- The card that a half is of in some truths, if it is one. -/
def readV (c0 : Int) (e : Nat) (l : List (List Int)) : Int := if l.all (fun t => t.getD e 0 == c0) then c0 else -1
theorem readV_succ (c0 : Int) (e : Nat) {l : List (List Int)} {k : Nat} {t : List Int} (h : l[k]? = some t) : readV c0 e (l.take (k + 1)) = if (t.getD e 0 != readV c0 e (l.take k)) = true then -1 else readV c0 e (l.take k) := by
  unfold readV
  rw [all_succ _ h]
  cases h1 : (l.take k).all (fun t => t.getD e 0 == c0) with
  | true =>
    simp only [Bool.true_and, if_true]
    by_cases h2 : t.getD e 0 = c0
    · rw [h2]; simp
    · have h3 : (t.getD e 0 == c0) = false := by simpa using h2
      have h4 : (t.getD e 0 != c0) = true := by simpa using h2
      rw [h3, h4]; rfl
  | false =>
    simp only [Bool.false_and, Bool.false_eq_true, if_false]
    split <;> rfl
def cardV (d : Dr) (e : Nat) : Int := readV ((first d).getD e 0) e ((fairL d).drop 1)
/-- What is known of a row of the fair truths. -/
theorem fair_elt (d : Dr) {ys : List AV} (hrow : Rows ys (fairL d)) (ho : d.Ok) (k : Nat) (hk : k < (fairL d).length) :
    ∃ t tg, (fairL d)[k]? = some t ∧ t.length = d.halves.length ∧ (0 < d.halves.length → ys[k]? = some (.lst tg 1 (I t))) ∧ (k : Int) < ys.length := by
  have hx := List.getElem?_eq_getElem hk
  obtain ⟨tg, z, h1, h2⟩ := hrow.2 k _ hx
  have h3 := (fairL_mem (List.getElem_mem hk)).2
  have := hrow.1
  refine ⟨_, tg, hx, h3, fun hp => ?_, by omega⟩
  rw [h1, h2 (by intro e; rw [e] at h3; simp at h3; omega)]

theorem c29_no (d : Dr) (hd : d.fits) (e : Int) (he : askedE d e d.halves.length ≠ 0) (h : Heap) : callPure (EW tabX) 29 [eD d, .int .i64 e] h = some (.tup [.int .i64 0, .int .i64 (askedE d e d.halves.length)], h) := by
  have lh := hd.lh
  have h61 := c61 d hd e d.halves.length (by omega)
  have hcl := eD_clean d
  have hne : (askedE d e d.halves.length != 0) = true := by simpa using he
  rw [callPure_eq, w_call _ fn_29 rfl]
  simp only [go_sem, ↓reduceIte, Nat.reduceBEq, Nat.reduceEqDiff, Nat.reduceLT, Nat.reduceLeDiff, Nat.reduceAdd, Nat.reduceMul, Nat.reduceSub, reduceCtorEq, Int.reduceLT, Int.reduceLE, Int.reduceEq, Int.reduceBEq, Int.reduceBNe, Int.reduceToNat, Int.reduceAdd, Int.reduceNeg, Int.reduceSub, eD, eDc, eC_under] at hcl h61 ⊢
  simp only [go_sem, ↓reduceIte, Nat.reduceBEq, Nat.reduceEqDiff, Nat.reduceLT, Nat.reduceLeDiff, Nat.reduceAdd, Nat.reduceMul, Nat.reduceSub, reduceCtorEq, Int.reduceLT, Int.reduceLE, Int.reduceEq, Int.reduceBEq, Int.reduceBNe, Int.reduceToNat, Int.reduceAdd, Int.reduceNeg, Int.reduceSub, eC_clean, h61, hne]
theorem asked_yes {d : Dr} {n below : Int} (h : askedE d n below = 0) : (checkT d).2.2 = 0 ∧ 0 ≤ n ∧ n < below := by
  unfold askedE at h
  split at h
  · rename_i h0
    split at h
    · rename_i hr; simp [inR] at hr; exact ⟨h0, by omega, by omega⟩
    · cases h
  · rename_i h0; exact absurd h h0
theorem c29_yes (d : Dr) (hd : d.fits) (e : Nat) (he : askedE d e d.halves.length = 0) (h : Heap) : callPure (EW tabX) 29 [eD d, .int .i64 e] h = some (.tup [.int .i64 (if cardV d e = -1 then 0 else cardV d e), .int .i64 (if cardV d e = -1 then 9 else 0)], h) := by
  obtain ⟨hk, e0, e1⟩ := asked_yes he
  obtain ⟨ho, _⟩ := ok_of_check hk
  have lh := hd.lh
  have h61 := c61 d hd e d.halves.length (by omega)
  rw [he] at h61
  have hcl := eD_clean d
  obtain ⟨ys, hrow, hyc, h40⟩ := c40 d hd ho
  have hfl := fairL_len d ho
  have hyl := hrow.1
  have hpos : 0 < (fairL d).length := List.length_pos_iff.2 (fairL_ne d)
  have hdl : ((fairL d).drop 1).length = (fairL d).length - 1 := List.length_drop
  have hH : 0 < d.halves.length := by omega
  have heH : e < d.halves.length := by omega
  obtain ⟨t0, tg, f1, f2, f3, f4⟩ := fair_elt d hrow ho 0 hpos
  have e0' : t0 = first d := by rw [fairL_zero] at f1; exact (Option.some.inj f1).symm
  subst e0'
  have f3 := f3 hH
  have g0 : (first d)[e]? = some ((first d).getD e 0) := by
    rw [List.getD_eq_getElem?_getD, List.getElem?_eq_getElem (show e < (first d).length by omega)]; rfl
  rw [callPure_eq, w_call _ fn_29 rfl]
  simp only [go_sem, ↓reduceIte, Nat.reduceBEq, Nat.reduceEqDiff, Nat.reduceLT, Nat.reduceLeDiff, Nat.reduceAdd, Nat.reduceMul, Nat.reduceSub, reduceCtorEq, Int.reduceLT, Int.reduceLE, Int.reduceEq, Int.reduceBEq, Int.reduceBNe, Int.reduceToNat, Int.reduceAdd, Int.reduceNeg, Int.reduceSub, eD, eDc, eC_under] at hcl h61 h40 ⊢
  simp only [go_sem, ↓reduceIte, Nat.reduceBEq, Nat.reduceEqDiff, Nat.reduceLT, Nat.reduceLeDiff, Nat.reduceAdd, Nat.reduceMul, Nat.reduceSub, reduceCtorEq, Int.reduceLT, Int.reduceLE, Int.reduceEq, Int.reduceBEq, Int.reduceBNe, Int.reduceToNat, Int.reduceAdd, Int.reduceNeg, Int.reduceSub, eC_clean, h61, h40, f3, g0]
  rw [w_rounds_u (fun k => [(8, .int .i64 (readV ((first d).getD e 0) e (((fairL d).drop 1).take k))), (9, .int .i64 ((k : Int) + 1))]) ((fairL d).length - 1) (.exit 0) [(8, .int .i64 (cardV d e)), (9, .int .i64 (fairL d).length)] ?_ ?_ ?_ rfl]
  · by_cases hc : cardV d e = -1
    · simp only [go_sem, ↓reduceIte, Nat.reduceBEq, Nat.reduceEqDiff, Nat.reduceLT, Nat.reduceLeDiff, Nat.reduceAdd, Nat.reduceMul, Nat.reduceSub, reduceCtorEq, Int.reduceLT, Int.reduceLE, Int.reduceEq, Int.reduceBEq, Int.reduceBNe, Int.reduceToNat, Int.reduceAdd, Int.reduceNeg, Int.reduceSub, hc]
    · have hc' : (cardV d e == -1) = false := by simpa using hc
      simp only [go_sem, ↓reduceIte, Nat.reduceBEq, Nat.reduceEqDiff, Nat.reduceLT, Nat.reduceLeDiff, Nat.reduceAdd, Nat.reduceMul, Nat.reduceSub, reduceCtorEq, Int.reduceLT, Int.reduceLE, Int.reduceEq, Int.reduceBEq, Int.reduceBNe, Int.reduceToNat, Int.reduceAdd, Int.reduceNeg, Int.reduceSub, hc, hc']
  · simp only [go_sem, ↓reduceIte, Nat.reduceBEq, Nat.reduceEqDiff, Nat.reduceLT, Nat.reduceLeDiff, Nat.reduceAdd, Nat.reduceMul, Nat.reduceSub, reduceCtorEq, Int.reduceLT, Int.reduceLE, Int.reduceEq, Int.reduceBEq, Int.reduceBNe, Int.reduceToNat, Int.reduceAdd, Int.reduceNeg, Int.reduceSub, readV, List.all_nil]
  · intro k hk
    obtain ⟨t, tg, f1, f2, f3, f4⟩ := fair_elt d hrow ho (k + 1) (by omega)
    have f1' : ((fairL d).drop 1)[k]? = some t := by rw [List.getElem?_drop, Nat.add_comm]; exact f1
    have f6' : (k : Int) + 1 < ys.length := by omega
    have hidx : ((k : Int) + 1 < 0) = False := by simp; omega
    have htn : ((k : Int) + 1).toNat = k + 1 := by omega
    have f3 := f3 hH
    have g0 : t[e]? = some (t.getD e 0) := by
      rw [List.getD_eq_getElem?_getD, List.getElem?_eq_getElem (show e < t.length by omega)]; rfl
    rw [readV_succ _ _ f1']
    by_cases hb : (t.getD e 0 != readV ((first d).getD e 0) e (((fairL d).drop 1).take k)) = true
    · rw [if_pos hb]
      simp (disch := omega) only [go_sem, ↓reduceIte, Nat.reduceBEq, Nat.reduceEqDiff, Nat.reduceLT, Nat.reduceLeDiff, Nat.reduceAdd, Nat.reduceMul, Nat.reduceSub, reduceCtorEq, Int.reduceLT, Int.reduceLE, Int.reduceEq, Int.reduceBEq, Int.reduceBNe, Int.reduceToNat, Int.reduceAdd, Int.reduceNeg, Int.reduceSub, f6', hidx, htn, f3, g0, hb, wrap_i64]
    · rw [if_neg hb]
      have hb' : (t.getD e 0 != readV ((first d).getD e 0) e (((fairL d).drop 1).take k)) = false := by simpa using hb
      simp (disch := omega) only [go_sem, ↓reduceIte, Nat.reduceBEq, Nat.reduceEqDiff, Nat.reduceLT, Nat.reduceLeDiff, Nat.reduceAdd, Nat.reduceMul, Nat.reduceSub, reduceCtorEq, Int.reduceLT, Int.reduceLE, Int.reduceEq, Int.reduceBEq, Int.reduceBNe, Int.reduceToNat, Int.reduceAdd, Int.reduceNeg, Int.reduceSub, f6', hidx, htn, f3, g0, hb', wrap_i64]
  · have hfin : ((fairL d).drop 1).take ((fairL d).length - 1) = (fairL d).drop 1 := by rw [← hdl]; exact List.take_length
    have hni : ¬ ((((fairL d).length - 1 : Nat) : Int) + 1 < ys.length) := by omega
    have hnn : (((fairL d).length - 1 : Nat) : Int) + 1 = (fairL d).length := by omega
    simp only [go_sem, ↓reduceIte, Nat.reduceBEq, Nat.reduceEqDiff, Nat.reduceLT, Nat.reduceLeDiff, Nat.reduceAdd, Nat.reduceMul, Nat.reduceSub, reduceCtorEq, Int.reduceLT, Int.reduceLE, Int.reduceEq, Int.reduceBEq, Int.reduceBNe, Int.reduceToNat, Int.reduceAdd, Int.reduceNeg, Int.reduceSub, hfin, hni, hnn, cardV, hyl]

/-- The cards that a half can be of. -/
def whoseL (d : Dr) (e n : Nat) : List Int := ((List.range n).filter fun (c : Nat) => (fairL d).any fun t => t.getD e 0 == (c : Int)).map fun (c : Nat) => (c : Int)
theorem whoseL_succ (d : Dr) (e n : Nat) : whoseL d e (n + 1) = if ((fairL d).any fun t => t.getD e 0 == (n : Int)) = true then whoseL d e n ++ [(n : Int)] else whoseL d e n := by
  unfold whoseL
  rw [List.range_succ, List.filter_append, List.map_append]
  have h : (List.filter (fun c : Nat => (fairL d).any fun t => t.getD e 0 == (c : Int)) [n]) = if ((fairL d).any fun t => t.getD e 0 == (n : Int)) = true then [n] else [] := by simp only [List.filter_cons, List.filter_nil]
  rw [h]
  split <;> simp
theorem whoseL_len (d : Dr) (e n : Nat) : (whoseL d e n).length ≤ n := by
  unfold whoseL; rw [List.length_map]; have := List.length_filter_le (fun c : Nat => (fairL d).any fun t => t.getD e 0 == (c : Int)) (List.range n); simpa using this
theorem c27_no (d : Dr) (hd : d.fits) (e : Int) (he : askedE d e d.halves.length ≠ 0) (h : Heap) : callPure (EW tabX) 27 [eD d, .int .i64 e] h = some (.tup [vI [], .int .i64 (askedE d e d.halves.length)], h) := by
  have lh := hd.lh
  have h61 := c61 d hd e d.halves.length (by omega)
  have hcl := eD_clean d
  have hne : (askedE d e d.halves.length != 0) = true := by simpa using he
  rw [callPure_eq, w_call _ fn_27 rfl]
  simp only [go_sem, ↓reduceIte, Nat.reduceBEq, Nat.reduceEqDiff, Nat.reduceLT, Nat.reduceLeDiff, Nat.reduceAdd, Nat.reduceMul, Nat.reduceSub, reduceCtorEq, Int.reduceLT, Int.reduceLE, Int.reduceEq, Int.reduceBEq, Int.reduceBNe, Int.reduceToNat, Int.reduceAdd, Int.reduceNeg, Int.reduceSub, eD, eDc, eC_under] at hcl h61 ⊢
  simp only [go_sem, ↓reduceIte, Nat.reduceBEq, Nat.reduceEqDiff, Nat.reduceLT, Nat.reduceLeDiff, Nat.reduceAdd, Nat.reduceMul, Nat.reduceSub, reduceCtorEq, Int.reduceLT, Int.reduceLE, Int.reduceEq, Int.reduceBEq, Int.reduceBNe, Int.reduceToNat, Int.reduceAdd, Int.reduceNeg, Int.reduceSub, eC_clean, h61, hne, vI_nil]
theorem c27_yes (d : Dr) (hd : d.fits) (e : Nat) (he : askedE d e d.halves.length = 0) (h : Heap) : callPure (EW tabX) 27 [eD d, .int .i64 e] h = some (.tup [vI (whoseL d e d.cards.length), .int .i64 0], h) := by
  obtain ⟨hk, e0, e1⟩ := asked_yes he
  obtain ⟨ho, _⟩ := ok_of_check hk
  have lh := hd.lh
  have h61 := c61 d hd e d.halves.length (by omega)
  rw [he] at h61
  have hcl := eD_clean d
  have hc4 := ho.c4
  obtain ⟨ys, hrow, hyc, h40⟩ := c40 d hd ho
  have hfl := fairL_len d ho
  have hyl := hrow.1
  have hH : 0 < d.halves.length := by omega
  rw [callPure_eq, w_call _ fn_27 rfl]
  simp only [go_sem, ↓reduceIte, Nat.reduceBEq, Nat.reduceEqDiff, Nat.reduceLT, Nat.reduceLeDiff, Nat.reduceAdd, Nat.reduceMul, Nat.reduceSub, reduceCtorEq, Int.reduceLT, Int.reduceLE, Int.reduceEq, Int.reduceBEq, Int.reduceBNe, Int.reduceToNat, Int.reduceAdd, Int.reduceNeg, Int.reduceSub, eD, eDc, eC_under] at hcl h61 h40 ⊢
  simp only [go_sem, ↓reduceIte, Nat.reduceBEq, Nat.reduceEqDiff, Nat.reduceLT, Nat.reduceLeDiff, Nat.reduceAdd, Nat.reduceMul, Nat.reduceSub, reduceCtorEq, Int.reduceLT, Int.reduceLE, Int.reduceEq, Int.reduceBEq, Int.reduceBNe, Int.reduceToNat, Int.reduceAdd, Int.reduceNeg, Int.reduceSub, eC_clean, h61, h40]
  rw [w_rounds_h (fun k => [(8, ownT [] (whoseL d e k)), (9, .int .i64 k)]) (fun k => ⟨[.cells (eDc d)], T [] (whoseL d e k).length⟩) d.cards.length (.exit 0) [(8, ownT [] (whoseL d e d.cards.length)), (9, .int .i64 d.cards.length)] ⟨[.cells (eDc d)], T [] (whoseL d e d.cards.length).length⟩ ?_ ?_ ?_ ?_ rfl]
  · simp only [go_sem, ↓reduceIte, Nat.reduceBEq, Nat.reduceEqDiff, Nat.reduceLT, Nat.reduceLeDiff, Nat.reduceAdd, Nat.reduceMul, Nat.reduceSub, reduceCtorEq, Int.reduceLT, Int.reduceLE, Int.reduceEq, Int.reduceBEq, Int.reduceBNe, Int.reduceToNat, Int.reduceAdd, Int.reduceNeg, Int.reduceSub, ownT_clean, ownT_under]
  · simp only [go_sem, ↓reduceIte, Nat.reduceBEq, Nat.reduceEqDiff, Nat.reduceLT, Nat.reduceLeDiff, Nat.reduceAdd, Nat.reduceMul, Nat.reduceSub, reduceCtorEq, Int.reduceLT, Int.reduceLE, Int.reduceEq, Int.reduceBEq, Int.reduceBNe, Int.reduceToNat, Int.reduceAdd, Int.reduceNeg, Int.reduceSub]; rfl
  · simp only [eDc]; rfl
  · intro c hc
    have hci : (c : Int) < d.cards.length := by omega
    have hwl := whoseL_len d e c
    have hap := ownT_app [] (whoseL d e c) c (by omega)
    simp only [go_sem, ↓reduceIte, Nat.reduceBEq, Nat.reduceEqDiff, Nat.reduceLT, Nat.reduceLeDiff, Nat.reduceAdd, Nat.reduceMul, Nat.reduceSub, reduceCtorEq, Int.reduceLT, Int.reduceLE, Int.reduceEq, Int.reduceBEq, Int.reduceBNe, Int.reduceToNat, Int.reduceAdd, Int.reduceNeg, Int.reduceSub, eDc, hci]
    rw [w_rounds_u (fun k => [(10, .bool (((fairL d).take k).any fun t => t.getD e 0 == (c : Int))), (11, .int .i64 k)]) (fairL d).length (.exit 2) [(10, .bool ((fairL d).any fun t => t.getD e 0 == (c : Int))), (11, .int .i64 (fairL d).length)] ?_ ?_ ?_ rfl]
    · rw [whoseL_succ]
      by_cases hb : ((fairL d).any fun t => t.getD e 0 == (c : Int)) = true
      · rw [if_pos hb]
        simp (disch := omega) only [go_sem, ↓reduceIte, Nat.reduceBEq, Nat.reduceEqDiff, Nat.reduceLT, Nat.reduceLeDiff, Nat.reduceAdd, Nat.reduceMul, Nat.reduceSub, reduceCtorEq, Int.reduceLT, Int.reduceLE, Int.reduceEq, Int.reduceBEq, Int.reduceBNe, Int.reduceToNat, Int.reduceAdd, Int.reduceNeg, Int.reduceSub, hb, hap, wrap_i64]
      · rw [if_neg hb]
        have hb' : ((fairL d).any fun t => t.getD e 0 == (c : Int)) = false := by simpa using hb
        simp (disch := omega) only [go_sem, ↓reduceIte, Nat.reduceBEq, Nat.reduceEqDiff, Nat.reduceLT, Nat.reduceLeDiff, Nat.reduceAdd, Nat.reduceMul, Nat.reduceSub, reduceCtorEq, Int.reduceLT, Int.reduceLE, Int.reduceEq, Int.reduceBEq, Int.reduceBNe, Int.reduceToNat, Int.reduceAdd, Int.reduceNeg, Int.reduceSub, hb', wrap_i64]
    · simp only [go_sem, ↓reduceIte, Nat.reduceBEq, Nat.reduceEqDiff, Nat.reduceLT, Nat.reduceLeDiff, Nat.reduceAdd, Nat.reduceMul, Nat.reduceSub, reduceCtorEq, Int.reduceLT, Int.reduceLE, Int.reduceEq, Int.reduceBEq, Int.reduceBNe, Int.reduceToNat, Int.reduceAdd, Int.reduceNeg, Int.reduceSub, List.any_nil]
    · intro k hk
      obtain ⟨t, tg, f1, f2, f3, f4⟩ := fair_elt d hrow ho k hk
      have f3 := f3 hH
      have g0 : t[e]? = some (t.getD e 0) := by
        rw [List.getD_eq_getElem?_getD, List.getElem?_eq_getElem (show e < t.length by omega)]; rfl
      simp (disch := omega) only [go_sem, ↓reduceIte, Nat.reduceBEq, Nat.reduceEqDiff, Nat.reduceLT, Nat.reduceLeDiff, Nat.reduceAdd, Nat.reduceMul, Nat.reduceSub, reduceCtorEq, Int.reduceLT, Int.reduceLE, Int.reduceEq, Int.reduceBEq, Int.reduceBNe, Int.reduceToNat, Int.reduceAdd, Int.reduceNeg, Int.reduceSub, f4, f3, g0, wrap_i64, any_succ _ f1]
    · simp only [go_sem, ↓reduceIte, Nat.reduceBEq, Nat.reduceEqDiff, Nat.reduceLT, Nat.reduceLeDiff, Nat.reduceAdd, Nat.reduceMul, Nat.reduceSub, reduceCtorEq, Int.reduceLT, Int.reduceLE, Int.reduceEq, Int.reduceBEq, Int.reduceBNe, Int.reduceToNat, Int.reduceAdd, Int.reduceNeg, Int.reduceSub, hyl]
  · simp only [go_sem, ↓reduceIte, Nat.reduceBEq, Nat.reduceEqDiff, Nat.reduceLT, Nat.reduceLeDiff, Nat.reduceAdd, Nat.reduceMul, Nat.reduceSub, reduceCtorEq, Int.reduceLT, Int.reduceLE, Int.reduceEq, Int.reduceBEq, Int.reduceBNe, Int.reduceToNat, Int.reduceAdd, Int.reduceNeg, Int.reduceSub, eDc]
end Go.Proofs.Ytbfodfepgefloaa
end
section
namespace Go.Proofs.Ytbfodfepgefloaa
open Go.Proofs

def cardE (d : Dr) (c : Nat) : List Int := (d.cards.getD c ⟨default, []⟩).edge
theorem card_at (d : Dr) (c : Nat) (hc : c < d.cards.length) : d.cards[c]? = some (d.cards.getD c ⟨default, []⟩) := by
  rw [List.getD_eq_getElem?_getD, List.getElem?_eq_getElem hc]; rfl
theorem cardE_low {d : Dr} (ho : d.Ok) {c : Nat} (hc : c < d.cards.length) : Low (cardE d c) ∧ (cardE d c).length < 1000 ∧ ((cardE d c).length : Int) = d.steps ∧ cardE d c ≠ [] := by
  have hm := List.mem_of_getElem? (card_at d c hc)
  have h := ho.ce _ hm
  have h1 := ho.s1
  have h6 := ho.s6
  refine ⟨fun n hn => by have := h.2 n hn; omega, ?_, h.1, fun e => ?_⟩
  · have := h.1; unfold cardE; omega
  · have := h.1; unfold cardE at e; rw [e] at this; simp at this; omega
/-- What Alike says: its error. -/
def alikeE (d : Dr) (a b : Int) : Int := if askedE d a d.cards.length = 0 then (if askedE d b d.cards.length = 0 then (if a = b then 2 else 0) else askedE d b d.cards.length) else askedE d a d.cards.length
def alikeB (d : Dr) (a b : Nat) : Bool := nearB d.wear (cardE d a) (cardE d b) d.least.toNat
theorem c31_no (d : Dr) (hd : d.fits) (a b : Int) (he : alikeE d a b ≠ 0) (h : Heap) : callPure (EW tabX) 31 [eD d, .int .i64 a, .int .i64 b] h = some (.tup [.bool false, .int .i64 (alikeE d a b)], h) := by
  have lc := hd.lc
  have h1 := c61 d hd a d.cards.length (by omega)
  have h2 := c61 d hd b d.cards.length (by omega)
  have hcl := eD_clean d
  rw [callPure_eq, w_call _ fn_31 rfl]
  unfold alikeE at he ⊢
  by_cases ha : askedE d a d.cards.length = 0
  · rw [if_pos ha] at he ⊢
    by_cases hb : askedE d b d.cards.length = 0
    · rw [if_pos hb] at he ⊢
      by_cases hab : a = b
      · subst hab
        rw [if_pos rfl]
        rw [ha] at h1
        simp only [go_sem, ↓reduceIte, Nat.reduceBEq, Nat.reduceEqDiff, Nat.reduceLT, Nat.reduceLeDiff, Nat.reduceAdd, Nat.reduceMul, Nat.reduceSub, reduceCtorEq, Int.reduceLT, Int.reduceLE, Int.reduceEq, Int.reduceBEq, Int.reduceBNe, Int.reduceToNat, Int.reduceAdd, Int.reduceNeg, Int.reduceSub, eD, eDc, eC_under] at hcl h1 ⊢
        simp only [go_sem, ↓reduceIte, Nat.reduceBEq, Nat.reduceEqDiff, Nat.reduceLT, Nat.reduceLeDiff, Nat.reduceAdd, Nat.reduceMul, Nat.reduceSub, reduceCtorEq, Int.reduceLT, Int.reduceLE, Int.reduceEq, Int.reduceBEq, Int.reduceBNe, Int.reduceToNat, Int.reduceAdd, Int.reduceNeg, Int.reduceSub, eC_clean, h1]
      · rw [if_neg hab] at he; exact absurd rfl he
    · rw [if_neg hb]
      have hb1 : (askedE d b d.cards.length != 0) = true := by simpa using hb
      have hb2 : (askedE d b d.cards.length == 0) = false := by simpa using hb
      rw [ha] at h1
      simp only [go_sem, ↓reduceIte, Nat.reduceBEq, Nat.reduceEqDiff, Nat.reduceLT, Nat.reduceLeDiff, Nat.reduceAdd, Nat.reduceMul, Nat.reduceSub, reduceCtorEq, Int.reduceLT, Int.reduceLE, Int.reduceEq, Int.reduceBEq, Int.reduceBNe, Int.reduceToNat, Int.reduceAdd, Int.reduceNeg, Int.reduceSub, eD, eDc, eC_under] at hcl h1 h2 ⊢
      simp only [go_sem, ↓reduceIte, Nat.reduceBEq, Nat.reduceEqDiff, Nat.reduceLT, Nat.reduceLeDiff, Nat.reduceAdd, Nat.reduceMul, Nat.reduceSub, reduceCtorEq, Int.reduceLT, Int.reduceLE, Int.reduceEq, Int.reduceBEq, Int.reduceBNe, Int.reduceToNat, Int.reduceAdd, Int.reduceNeg, Int.reduceSub, eC_clean, h1, h2, hb1, hb2]
  · rw [if_neg ha]
    have hb1 : (askedE d a d.cards.length != 0) = true := by simpa using ha
    have hb2 : (askedE d a d.cards.length == 0) = false := by simpa using ha
    simp only [go_sem, ↓reduceIte, Nat.reduceBEq, Nat.reduceEqDiff, Nat.reduceLT, Nat.reduceLeDiff, Nat.reduceAdd, Nat.reduceMul, Nat.reduceSub, reduceCtorEq, Int.reduceLT, Int.reduceLE, Int.reduceEq, Int.reduceBEq, Int.reduceBNe, Int.reduceToNat, Int.reduceAdd, Int.reduceNeg, Int.reduceSub, eD, eDc, eC_under] at hcl h1 h2 ⊢
    simp only [go_sem, ↓reduceIte, Nat.reduceBEq, Nat.reduceEqDiff, Nat.reduceLT, Nat.reduceLeDiff, Nat.reduceAdd, Nat.reduceMul, Nat.reduceSub, reduceCtorEq, Int.reduceLT, Int.reduceLE, Int.reduceEq, Int.reduceBEq, Int.reduceBNe, Int.reduceToNat, Int.reduceAdd, Int.reduceNeg, Int.reduceSub, eC_clean, h1, h2, hb1, hb2]
theorem c31_yes (d : Dr) (hd : d.fits) (a b : Nat) (he : alikeE d a b = 0) (h : Heap) : callPure (EW tabX) 31 [eD d, .int .i64 a, .int .i64 b] h = some (.tup [.bool (alikeB d a b), .int .i64 0], h) := by
  have lc := hd.lc
  have h1 := c61 d hd a d.cards.length (by omega)
  have h2 := c61 d hd b d.cards.length (by omega)
  have hcl := eD_clean d
  unfold alikeE at he
  have ha : askedE d a d.cards.length = 0 := by
    by_cases ha : askedE d a d.cards.length = 0
    · exact ha
    · rw [if_neg ha] at he; exact he
  rw [if_pos ha] at he
  have hb : askedE d b d.cards.length = 0 := by
    by_cases hb : askedE d b d.cards.length = 0
    · exact hb
    · rw [if_neg hb] at he; exact he
  rw [if_pos hb] at he
  have hab : ((a : Int) == b) = false := by
    cases hh : ((a : Int) == b) with
    | false => rfl
    | true => rw [if_pos (by simpa using hh)] at he; cases he
  obtain ⟨hk, a0, a1⟩ := asked_yes ha
  obtain ⟨_, b0, b1⟩ := asked_yes hb
  obtain ⟨ho, _⟩ := ok_of_check hk
  have hl := ho.l1
  have hls := ho.ls
  have h6 := ho.s6
  obtain ⟨x1, x2, x3, x4⟩ := cardE_low ho (show a < d.cards.length by omega)
  obtain ⟨y1, y2, y3, y4⟩ := cardE_low ho (show b < d.cards.length by omega)
  have h66 := c66 d ⟨ho.w0, ho.w9⟩ (cardE d a) (cardE d b) d.least.toNat x1 y1 x2 y2 (by omega) 1 1 (fun _ => rfl) (fun _ => rfl)
  have hlt : ((d.least.toNat : Nat) : Int) = d.least := by omega
  rw [hlt] at h66
  rw [ha] at h1
  rw [hb] at h2
  have hz := hd.zc (by intro e; rw [e] at a1; simp at a1; omega)
  have ca := card_at d a (by omega)
  have cb := card_at d b (by omega)
  rw [callPure_eq, w_call _ fn_31 rfl]
  simp only [cardE] at h66
  simp only [go_sem, ↓reduceIte, Nat.reduceBEq, Nat.reduceEqDiff, Nat.reduceLT, Nat.reduceLeDiff, Nat.reduceAdd, Nat.reduceMul, Nat.reduceSub, reduceCtorEq, Int.reduceLT, Int.reduceLE, Int.reduceEq, Int.reduceBEq, Int.reduceBNe, Int.reduceToNat, Int.reduceAdd, Int.reduceNeg, Int.reduceSub, eD, eDc, eC_under, hz] at hcl h1 h2 h66 ⊢
  simp only [go_sem, ↓reduceIte, Nat.reduceBEq, Nat.reduceEqDiff, Nat.reduceLT, Nat.reduceLeDiff, Nat.reduceAdd, Nat.reduceMul, Nat.reduceSub, reduceCtorEq, Int.reduceLT, Int.reduceLE, Int.reduceEq, Int.reduceBEq, Int.reduceBNe, Int.reduceToNat, Int.reduceAdd, Int.reduceNeg, Int.reduceSub, eC_clean, h1, h2, hab, eC_get, ca, cb, eC, h66, alikeB, cardE]

/-- What New says: its error. -/
def newE (d : Dr) (l : List Int) : Int := if (checkT d).2.2 = 0 then (if ((l.length : Int) != d.steps) = true then 3 else if (l.all fun n => inR n 0 9) = false then 7 else 0) else (checkT d).2.2
def newL (d : Dr) (l : List Int) (n : Nat) : List Int := ((List.range n).filter fun (c : Nat) => nearB d.wear l (cardE d c) d.least.toNat).map fun (c : Nat) => (c : Int)
theorem newL_succ (d : Dr) (l : List Int) (n : Nat) : newL d l (n + 1) = if nearB d.wear l (cardE d n) d.least.toNat = true then newL d l n ++ [(n : Int)] else newL d l n := by
  unfold newL
  rw [List.range_succ, List.filter_append, List.map_append]
  have h : (List.filter (fun c : Nat => nearB d.wear l (cardE d c) d.least.toNat) [n]) = if nearB d.wear l (cardE d n) d.least.toNat = true then [n] else [] := by simp only [List.filter_cons, List.filter_nil]
  rw [h]
  split <;> simp
theorem newL_len (d : Dr) (l : List Int) (n : Nat) : (newL d l n).length ≤ n := by
  unfold newL; rw [List.length_map]; have := List.length_filter_le (fun c : Nat => nearB d.wear l (cardE d c) d.least.toNat) (List.range n); simpa using this
theorem c35_no (d : Dr) (hd : d.fits) (l : List Int) (z : Nat) (hz : l ≠ [] → z = 1) (hl : l.length < 1000000000000000000) (he : newE d l ≠ 0) (h : Heap) : callPure (EW tabX) 35 [eD d, .lst 0 z (I l)] h = some (.tup [vI [], .int .i64 (newE d l)], h) := by
  have h17 := c17 d hd
  have h59 := c59 l 0 z hz hl
  have hcl := eD_clean d
  rw [callPure_eq, w_call _ fn_35 rfl]
  unfold newE at he ⊢
  by_cases hc : (checkT d).2.2 = 0
  · rw [if_pos hc] at he ⊢
    rw [(ok_of_check hc).2] at h17
    by_cases h1 : ((l.length : Int) != d.steps) = true
    · rw [if_pos h1]
      simp only [go_sem, ↓reduceIte, Nat.reduceBEq, Nat.reduceEqDiff, Nat.reduceLT, Nat.reduceLeDiff, Nat.reduceAdd, Nat.reduceMul, Nat.reduceSub, reduceCtorEq, Int.reduceLT, Int.reduceLE, Int.reduceEq, Int.reduceBEq, Int.reduceBNe, Int.reduceToNat, Int.reduceAdd, Int.reduceNeg, Int.reduceSub, eD, eDc, eC_under, tup3_0] at hcl h17 ⊢
      simp only [go_sem, ↓reduceIte, Nat.reduceBEq, Nat.reduceEqDiff, Nat.reduceLT, Nat.reduceLeDiff, Nat.reduceAdd, Nat.reduceMul, Nat.reduceSub, reduceCtorEq, Int.reduceLT, Int.reduceLE, Int.reduceEq, Int.reduceBEq, Int.reduceBNe, Int.reduceToNat, Int.reduceAdd, Int.reduceNeg, Int.reduceSub, eC_clean, h17, h1, vI_nil]
    · rw [if_neg h1] at he ⊢
      have h1' : ((l.length : Int) != d.steps) = false := by simpa using h1
      by_cases h2 : (l.all fun n => inR n 0 9) = false
      · rw [if_pos h2]
        simp only [go_sem, ↓reduceIte, Nat.reduceBEq, Nat.reduceEqDiff, Nat.reduceLT, Nat.reduceLeDiff, Nat.reduceAdd, Nat.reduceMul, Nat.reduceSub, reduceCtorEq, Int.reduceLT, Int.reduceLE, Int.reduceEq, Int.reduceBEq, Int.reduceBNe, Int.reduceToNat, Int.reduceAdd, Int.reduceNeg, Int.reduceSub, eD, eDc, eC_under, tup3_0] at hcl h17 ⊢
        simp only [go_sem, ↓reduceIte, Nat.reduceBEq, Nat.reduceEqDiff, Nat.reduceLT, Nat.reduceLeDiff, Nat.reduceAdd, Nat.reduceMul, Nat.reduceSub, reduceCtorEq, Int.reduceLT, Int.reduceLE, Int.reduceEq, Int.reduceBEq, Int.reduceBNe, Int.reduceToNat, Int.reduceAdd, Int.reduceNeg, Int.reduceSub, eC_clean, h17, h1', h59, h2, vI_nil]
      · rw [if_neg h2] at he; exact absurd rfl he
  · rw [if_neg hc]
    have hb1 : ((checkT d).2.2 != 0) = true := by simpa using hc
    have hb2 : ((checkT d).2.2 == 0) = false := by simpa using hc
    simp only [go_sem, ↓reduceIte, Nat.reduceBEq, Nat.reduceEqDiff, Nat.reduceLT, Nat.reduceLeDiff, Nat.reduceAdd, Nat.reduceMul, Nat.reduceSub, reduceCtorEq, Int.reduceLT, Int.reduceLE, Int.reduceEq, Int.reduceBEq, Int.reduceBNe, Int.reduceToNat, Int.reduceAdd, Int.reduceNeg, Int.reduceSub, eD, eDc, eC_under, tup3] at hcl h17 ⊢
    simp only [go_sem, ↓reduceIte, Nat.reduceBEq, Nat.reduceEqDiff, Nat.reduceLT, Nat.reduceLeDiff, Nat.reduceAdd, Nat.reduceMul, Nat.reduceSub, reduceCtorEq, Int.reduceLT, Int.reduceLE, Int.reduceEq, Int.reduceBEq, Int.reduceBNe, Int.reduceToNat, Int.reduceAdd, Int.reduceNeg, Int.reduceSub, eC_clean, h17, hb1, hb2, vI_nil]
theorem newE_yes {d : Dr} {l : List Int} (he : newE d l = 0) : (checkT d).2.2 = 0 ∧ (l.length : Int) = d.steps ∧ (l.all fun n => inR n 0 9) = true := by
  unfold newE at he
  by_cases hc : (checkT d).2.2 = 0
  · rw [if_pos hc] at he
    by_cases h1 : ((l.length : Int) != d.steps) = true
    · rw [if_pos h1] at he; cases he
    · rw [if_neg h1] at he
      by_cases h2 : (l.all fun n => inR n 0 9) = false
      · rw [if_pos h2] at he; cases he
      · exact ⟨hc, by simpa using h1, by simpa using h2⟩
  · rw [if_neg hc] at he; exact absurd he hc
theorem c35_yes (d : Dr) (hd : d.fits) (l : List Int) (z : Nat) (hz : l ≠ [] → z = 1) (hl : l.length < 1000000000000000000) (he : newE d l = 0) (h : Heap) : callPure (EW tabX) 35 [eD d, .lst 0 z (I l)] h = some (.tup [vI (newL d l d.cards.length), .int .i64 0], h) := by
  obtain ⟨hc, h1, h2⟩ := newE_yes he
  obtain ⟨ho, hk⟩ := ok_of_check hc
  have h17 := c17 d hd
  rw [hk] at h17
  have h59 := c59 l 0 z hz hl
  have hcl := eD_clean d
  have h1' : ((l.length : Int) != d.steps) = false := by simp [h1]
  have hc4 := ho.c4
  have h6 := ho.s6
  have hls := ho.ls
  have hl1 := ho.l1
  have hlow : Low l := fun n hn => by
    rw [List.all_eq_true] at h2
    have := h2 n hn
    simp [inR] at this; omega
  have hlt : ((d.least.toNat : Nat) : Int) = d.least := by omega
  rw [callPure_eq, w_call _ fn_35 rfl]
  simp only [go_sem, ↓reduceIte, Nat.reduceBEq, Nat.reduceEqDiff, Nat.reduceLT, Nat.reduceLeDiff, Nat.reduceAdd, Nat.reduceMul, Nat.reduceSub, reduceCtorEq, Int.reduceLT, Int.reduceLE, Int.reduceEq, Int.reduceBEq, Int.reduceBNe, Int.reduceToNat, Int.reduceAdd, Int.reduceNeg, Int.reduceSub, eD, eDc, eC_under, tup3_0] at hcl h17 ⊢
  simp only [go_sem, ↓reduceIte, Nat.reduceBEq, Nat.reduceEqDiff, Nat.reduceLT, Nat.reduceLeDiff, Nat.reduceAdd, Nat.reduceMul, Nat.reduceSub, reduceCtorEq, Int.reduceLT, Int.reduceLE, Int.reduceEq, Int.reduceBEq, Int.reduceBNe, Int.reduceToNat, Int.reduceAdd, Int.reduceNeg, Int.reduceSub, eC_clean, h17, h1', h59, h2]
  rw [w_rounds_h (fun k => [(9, ownT [] (newL d l k)), (10, .int .i64 k)]) (fun k => ⟨[.cells (eDc d)], T [] (newL d l k).length⟩) d.cards.length (.exit 0) [(9, ownT [] (newL d l d.cards.length)), (10, .int .i64 d.cards.length)] ⟨[.cells (eDc d)], T [] (newL d l d.cards.length).length⟩ ?_ ?_ ?_ ?_ rfl]
  · simp only [go_sem, ↓reduceIte, Nat.reduceBEq, Nat.reduceEqDiff, Nat.reduceLT, Nat.reduceLeDiff, Nat.reduceAdd, Nat.reduceMul, Nat.reduceSub, reduceCtorEq, Int.reduceLT, Int.reduceLE, Int.reduceEq, Int.reduceBEq, Int.reduceBNe, Int.reduceToNat, Int.reduceAdd, Int.reduceNeg, Int.reduceSub, ownT_clean, ownT_under]
  · simp only [go_sem, ↓reduceIte, Nat.reduceBEq, Nat.reduceEqDiff, Nat.reduceLT, Nat.reduceLeDiff, Nat.reduceAdd, Nat.reduceMul, Nat.reduceSub, reduceCtorEq, Int.reduceLT, Int.reduceLE, Int.reduceEq, Int.reduceBEq, Int.reduceBNe, Int.reduceToNat, Int.reduceAdd, Int.reduceNeg, Int.reduceSub]; rfl
  · simp only [eDc]; rfl
  · intro c hcc
    have hci : (c : Int) < d.cards.length := by omega
    have hwl := newL_len d l c
    have hap := ownT_app [] (newL d l c) c (by omega)
    obtain ⟨y1, y2, y3, y4⟩ := cardE_low ho hcc
    have h66 := c66 d ⟨ho.w0, ho.w9⟩ l (cardE d c) d.least.toNat hlow y1 (by omega) y2 (by omega) z 1 hz (fun _ => rfl)
    rw [hlt] at h66
    have hzc := hd.zc (by intro e; rw [e] at hcc; simp at hcc)
    have ca := card_at d c hcc
    rw [newL_succ]
    by_cases hb : nearB d.wear l (cardE d c) d.least.toNat = true
    · rw [if_pos hb]
      rw [hb] at h66
      simp only [cardE] at h66
      simp only [go_sem, ↓reduceIte, Nat.reduceBEq, Nat.reduceEqDiff, Nat.reduceLT, Nat.reduceLeDiff, Nat.reduceAdd, Nat.reduceMul, Nat.reduceSub, reduceCtorEq, Int.reduceLT, Int.reduceLE, Int.reduceEq, Int.reduceBEq, Int.reduceBNe, Int.reduceToNat, Int.reduceAdd, Int.reduceNeg, Int.reduceSub, eD, eDc, eC_under, hzc] at hcl h66 ⊢
      simp (disch := omega) only [go_sem, ↓reduceIte, Nat.reduceBEq, Nat.reduceEqDiff, Nat.reduceLT, Nat.reduceLeDiff, Nat.reduceAdd, Nat.reduceMul, Nat.reduceSub, reduceCtorEq, Int.reduceLT, Int.reduceLE, Int.reduceEq, Int.reduceBEq, Int.reduceBNe, Int.reduceToNat, Int.reduceAdd, Int.reduceNeg, Int.reduceSub, hci, eC_clean, eC_get, ca, eC, h66, hap, wrap_i64]
    · rw [if_neg hb]
      have hb' : nearB d.wear l (cardE d c) d.least.toNat = false := by simpa using hb
      rw [hb'] at h66
      simp only [cardE] at h66
      simp only [go_sem, ↓reduceIte, Nat.reduceBEq, Nat.reduceEqDiff, Nat.reduceLT, Nat.reduceLeDiff, Nat.reduceAdd, Nat.reduceMul, Nat.reduceSub, reduceCtorEq, Int.reduceLT, Int.reduceLE, Int.reduceEq, Int.reduceBEq, Int.reduceBNe, Int.reduceToNat, Int.reduceAdd, Int.reduceNeg, Int.reduceSub, eD, eDc, eC_under, hzc] at hcl h66 ⊢
      simp (disch := omega) only [go_sem, ↓reduceIte, Nat.reduceBEq, Nat.reduceEqDiff, Nat.reduceLT, Nat.reduceLeDiff, Nat.reduceAdd, Nat.reduceMul, Nat.reduceSub, reduceCtorEq, Int.reduceLT, Int.reduceLE, Int.reduceEq, Int.reduceBEq, Int.reduceBNe, Int.reduceToNat, Int.reduceAdd, Int.reduceNeg, Int.reduceSub, hci, eC_clean, eC_get, ca, eC, h66, wrap_i64]
  · simp only [go_sem, ↓reduceIte, Nat.reduceBEq, Nat.reduceEqDiff, Nat.reduceLT, Nat.reduceLeDiff, Nat.reduceAdd, Nat.reduceMul, Nat.reduceSub, reduceCtorEq, Int.reduceLT, Int.reduceLE, Int.reduceEq, Int.reduceBEq, Int.reduceBNe, Int.reduceToNat, Int.reduceAdd, Int.reduceNeg, Int.reduceSub, eDc]
end Go.Proofs.Ytbfodfepgefloaa
end
section
namespace Go.Proofs.Ytbfodfepgefloaa
open Go.Proofs

def anyTo (p : Nat → Bool) (n : Nat) : Bool := !allTo (fun i => !p i) n
theorem anyTo_succ (p : Nat → Bool) (n : Nat) : anyTo p (n + 1) = (anyTo p n || p n) := by simp [anyTo, allTo_succ]
theorem anyTo_zero (p : Nat → Bool) : anyTo p 0 = false := rfl
/-- Two cards, the one before the other, are alike for so many steps. -/
def metB (d : Dr) (m : Nat) : Bool := anyTo (fun i => anyTo (fun k => nearB d.wear (cardE d i) (cardE d k) m) i) d.cards.length
/-- What Enough answers. -/
def enoughR (d : Dr) : Int × Int := if (checkT d).2.2 = 0 then (match (List.range d.steps.toNat).find? (fun k => !metB d (k + 1)) with | some k => ((k : Int) + 1, 0) | none => (0, 9)) else (0, (checkT d).2.2)
theorem find_range (p : Nat → Bool) : ∀ n, (List.range n).find? p = none ∧ allTo (fun i => !p i) n = true ∨ ∃ k, (List.range n).find? p = some k ∧ k < n ∧ p k = true ∧ allTo (fun i => !p i) k = true
  | 0 => .inl ⟨rfl, rfl⟩
  | n + 1 => by
    rw [List.range_succ, List.find?_append]
    rcases find_range p n with ⟨h1, h2⟩ | ⟨k, h1, h2, h3, h4⟩
    · rw [h1]
      cases hp : p n with
      | true => exact .inr ⟨n, by simp [hp], by omega, hp, h2⟩
      | false => exact .inl ⟨by simp [hp], by rw [allTo_succ, h2, hp]; rfl⟩
    · exact .inr ⟨k, by rw [h1]; rfl, by omega, h3, h4⟩

theorem c33 (d : Dr) (hd : d.fits) (h : Heap) : callPure (EW tabX) 33 [eD d] h = some (.tup [.int .i64 (enoughR d).1, .int .i64 (enoughR d).2], h) := by
  have h17 := c17 d hd
  have hcl := eD_clean d
  rw [callPure_eq, w_call _ fn_33 rfl]
  unfold enoughR
  by_cases hc : (checkT d).2.2 = 0
  · rw [if_pos hc]
    obtain ⟨ho, hk⟩ := ok_of_check hc
    rw [hk] at h17
    have h6 := ho.s6
    have h1 := ho.s1
    have hc4 := ho.c4
    simp only [go_sem, ↓reduceIte, Nat.reduceBEq, Nat.reduceEqDiff, Nat.reduceLT, Nat.reduceLeDiff, Nat.reduceAdd, Nat.reduceMul, Nat.reduceSub, reduceCtorEq, Int.reduceLT, Int.reduceLE, Int.reduceEq, Int.reduceBEq, Int.reduceBNe, Int.reduceToNat, Int.reduceAdd, Int.reduceNeg, Int.reduceSub, eD, eDc, eC_under, tup3_0] at hcl h17 ⊢
    simp only [go_sem, ↓reduceIte, Nat.reduceBEq, Nat.reduceEqDiff, Nat.reduceLT, Nat.reduceLeDiff, Nat.reduceAdd, Nat.reduceMul, Nat.reduceSub, reduceCtorEq, Int.reduceLT, Int.reduceLE, Int.reduceEq, Int.reduceBEq, Int.reduceBNe, Int.reduceToNat, Int.reduceAdd, Int.reduceNeg, Int.reduceSub, eC_clean, h17]
    have inner : ∀ m : Nat, m < 7 → ∀ i k, i < d.cards.length → k < d.cards.length → ∀ h, callPure (EW tabX) 66 [.agg [.int .i64 d.steps, .int .i64 d.least, .int .i64 d.wear, .lst 0 d.zc (d.cards.map eC), .lst 0 d.zh (d.halves.map eC)], .lst 0 1 (I (d.cards.getD i ⟨default, []⟩).edge), .lst 0 1 (I (d.cards.getD k ⟨default, []⟩).edge), .int .i64 m] h = some (.bool (nearB d.wear (cardE d i) (cardE d k) m), h) := fun m hm i k hi hk h => by
      obtain ⟨x1, x2, x3, x4⟩ := cardE_low ho hi
      obtain ⟨y1, y2, y3, y4⟩ := cardE_low ho hk
      exact c66 d ⟨ho.w0, ho.w9⟩ (cardE d i) (cardE d k) m x1 y1 x2 y2 (by omega) 1 1 (fun _ => rfl) (fun _ => rfl) h
    rcases find_range (fun k => !metB d (k + 1)) d.steps.toNat with ⟨f1, f2⟩ | ⟨n, f1, f2, f3, f4⟩
    · rw [f1]
      rw [w_rounds_u (fun k => [(7, .int .i64 ((k : Int) + 1))]) d.steps.toNat (.exit 0) [(7, .int .i64 (d.steps + 1))] ?_ ?_ ?_ rfl]
      rotate_left
      · simp only [go_sem, ↓reduceIte, Nat.reduceBEq, Nat.reduceEqDiff, Nat.reduceLT, Nat.reduceLeDiff, Nat.reduceAdd, Nat.reduceMul, Nat.reduceSub, reduceCtorEq, Int.reduceLT, Int.reduceLE, Int.reduceEq, Int.reduceBEq, Int.reduceBNe, Int.reduceToNat, Int.reduceAdd, Int.reduceNeg, Int.reduceSub]
      · intro m hm
        have hmi : (m : Int) + 1 ≤ d.steps := by omega
        have hmet := allTo_at f2 hm
        have hmet : metB d (m + 1) = true := by simpa using hmet
        simp (disch := omega) only [go_sem, ↓reduceIte, Nat.reduceBEq, Nat.reduceEqDiff, Nat.reduceLT, Nat.reduceLeDiff, Nat.reduceAdd, Nat.reduceMul, Nat.reduceSub, reduceCtorEq, Int.reduceLT, Int.reduceLE, Int.reduceEq, Int.reduceBEq, Int.reduceBNe, Int.reduceToNat, Int.reduceAdd, Int.reduceNeg, Int.reduceSub, eDc, hmi, wrap_i64]
        rw [w_rounds_u (fun i => [(8, .bool (anyTo (fun i => anyTo (fun k => nearB d.wear (cardE d i) (cardE d k) (m + 1)) i) i)), (9, .int .i64 i)]) d.cards.length (.exit 2) [(8, .bool (metB d (m + 1))), (9, .int .i64 d.cards.length)] ?_ ?_ ?_ rfl]
        · simp (disch := omega) only [go_sem, ↓reduceIte, Nat.reduceBEq, Nat.reduceEqDiff, Nat.reduceLT, Nat.reduceLeDiff, Nat.reduceAdd, Nat.reduceMul, Nat.reduceSub, reduceCtorEq, Int.reduceLT, Int.reduceLE, Int.reduceEq, Int.reduceBEq, Int.reduceBNe, Int.reduceToNat, Int.reduceAdd, Int.reduceNeg, Int.reduceSub, eDc, hmet, wrap_i64]
        · simp only [go_sem, ↓reduceIte, Nat.reduceBEq, Nat.reduceEqDiff, Nat.reduceLT, Nat.reduceLeDiff, Nat.reduceAdd, Nat.reduceMul, Nat.reduceSub, reduceCtorEq, Int.reduceLT, Int.reduceLE, Int.reduceEq, Int.reduceBEq, Int.reduceBNe, Int.reduceToNat, Int.reduceAdd, Int.reduceNeg, Int.reduceSub, anyTo_zero]
        · intro i hi
          have hii : (i : Int) < d.cards.length := by omega
          simp (disch := omega) only [go_sem, ↓reduceIte, Nat.reduceBEq, Nat.reduceEqDiff, Nat.reduceLT, Nat.reduceLeDiff, Nat.reduceAdd, Nat.reduceMul, Nat.reduceSub, reduceCtorEq, Int.reduceLT, Int.reduceLE, Int.reduceEq, Int.reduceBEq, Int.reduceBNe, Int.reduceToNat, Int.reduceAdd, Int.reduceNeg, Int.reduceSub, eDc, hii, wrap_i64]
          rw [w_rounds_u (fun k => [(8, .bool (anyTo (fun i => anyTo (fun k => nearB d.wear (cardE d i) (cardE d k) (m + 1)) i) i || anyTo (fun k => nearB d.wear (cardE d i) (cardE d k) (m + 1)) k)), (10, .int .i64 k)]) i (.exit 4) [(8, .bool (anyTo (fun i => anyTo (fun k => nearB d.wear (cardE d i) (cardE d k) (m + 1)) i) (i + 1))), (10, .int .i64 i)] ?_ ?_ ?_ rfl]
          · simp (disch := omega) only [go_sem, ↓reduceIte, Nat.reduceBEq, Nat.reduceEqDiff, Nat.reduceLT, Nat.reduceLeDiff, Nat.reduceAdd, Nat.reduceMul, Nat.reduceSub, reduceCtorEq, Int.reduceLT, Int.reduceLE, Int.reduceEq, Int.reduceBEq, Int.reduceBNe, Int.reduceToNat, Int.reduceAdd, Int.reduceNeg, Int.reduceSub, wrap_i64]
          · simp only [go_sem, ↓reduceIte, Nat.reduceBEq, Nat.reduceEqDiff, Nat.reduceLT, Nat.reduceLeDiff, Nat.reduceAdd, Nat.reduceMul, Nat.reduceSub, reduceCtorEq, Int.reduceLT, Int.reduceLE, Int.reduceEq, Int.reduceBEq, Int.reduceBNe, Int.reduceToNat, Int.reduceAdd, Int.reduceNeg, Int.reduceSub, anyTo_zero]
          · intro k hk
            have hki : (k : Int) < i := by omega
            have hzc := hd.zc (by intro e; rw [e] at hi; simp at hi)
            have h66 := inner (m + 1) (by omega) i k hi (by omega)
            simp only [cast_succ, hzc] at h66
            have ci := card_at d i hi
            have ck := card_at d k (by omega)
            simp (disch := omega) only [go_sem, ↓reduceIte, Nat.reduceBEq, Nat.reduceEqDiff, Nat.reduceLT, Nat.reduceLeDiff, Nat.reduceAdd, Nat.reduceMul, Nat.reduceSub, reduceCtorEq, Int.reduceLT, Int.reduceLE, Int.reduceEq, Int.reduceBEq, Int.reduceBNe, Int.reduceToNat, Int.reduceAdd, Int.reduceNeg, Int.reduceSub, eDc, hki, hzc, eC_clean, eC_get, ci, ck, eC, h66, wrap_i64, anyTo_succ, Bool.or_assoc]
          · simp only [go_sem, ↓reduceIte, Nat.reduceBEq, Nat.reduceEqDiff, Nat.reduceLT, Nat.reduceLeDiff, Nat.reduceAdd, Nat.reduceMul, Nat.reduceSub, reduceCtorEq, Int.reduceLT, Int.reduceLE, Int.reduceEq, Int.reduceBEq, Int.reduceBNe, Int.reduceToNat, Int.reduceAdd, Int.reduceNeg, Int.reduceSub, anyTo_succ]
        · simp only [go_sem, ↓reduceIte, Nat.reduceBEq, Nat.reduceEqDiff, Nat.reduceLT, Nat.reduceLeDiff, Nat.reduceAdd, Nat.reduceMul, Nat.reduceSub, reduceCtorEq, Int.reduceLT, Int.reduceLE, Int.reduceEq, Int.reduceBEq, Int.reduceBNe, Int.reduceToNat, Int.reduceAdd, Int.reduceNeg, Int.reduceSub, metB, eDc]
      · have hn : ((d.steps.toNat : Nat) : Int) = d.steps := by omega
        have hni : ¬ (d.steps + 1 ≤ d.steps) := by omega
        simp only [go_sem, ↓reduceIte, Nat.reduceBEq, Nat.reduceEqDiff, Nat.reduceLT, Nat.reduceLeDiff, Nat.reduceAdd, Nat.reduceMul, Nat.reduceSub, reduceCtorEq, Int.reduceLT, Int.reduceLE, Int.reduceEq, Int.reduceBEq, Int.reduceBNe, Int.reduceToNat, Int.reduceAdd, Int.reduceNeg, Int.reduceSub, hn, hni, eDc]
      simp only [go_sem, ↓reduceIte, Nat.reduceBEq, Nat.reduceEqDiff, Nat.reduceLT, Nat.reduceLeDiff, Nat.reduceAdd, Nat.reduceMul, Nat.reduceSub, reduceCtorEq, Int.reduceLT, Int.reduceLE, Int.reduceEq, Int.reduceBEq, Int.reduceBNe, Int.reduceToNat, Int.reduceAdd, Int.reduceNeg, Int.reduceSub]
    · rw [f1]
      rw [w_rounds_u (fun k => [(7, .int .i64 ((k : Int) + 1))]) n .ret [(2, .int .i64 ((n : Int) + 1)), (7, .int .i64 ((n : Int) + 1)), (8, .bool false), (9, .int .i64 d.cards.length)] ?_ ?_ ?_ rfl]
      rotate_left
      · simp only [go_sem, ↓reduceIte, Nat.reduceBEq, Nat.reduceEqDiff, Nat.reduceLT, Nat.reduceLeDiff, Nat.reduceAdd, Nat.reduceMul, Nat.reduceSub, reduceCtorEq, Int.reduceLT, Int.reduceLE, Int.reduceEq, Int.reduceBEq, Int.reduceBNe, Int.reduceToNat, Int.reduceAdd, Int.reduceNeg, Int.reduceSub]
      · intro m hm
        have hmi : (m : Int) + 1 ≤ d.steps := by omega
        have hmet := allTo_at f4 hm
        have hmet : metB d (m + 1) = true := by simpa using hmet
        simp (disch := omega) only [go_sem, ↓reduceIte, Nat.reduceBEq, Nat.reduceEqDiff, Nat.reduceLT, Nat.reduceLeDiff, Nat.reduceAdd, Nat.reduceMul, Nat.reduceSub, reduceCtorEq, Int.reduceLT, Int.reduceLE, Int.reduceEq, Int.reduceBEq, Int.reduceBNe, Int.reduceToNat, Int.reduceAdd, Int.reduceNeg, Int.reduceSub, eDc, hmi, wrap_i64]
        rw [w_rounds_u (fun i => [(8, .bool (anyTo (fun i => anyTo (fun k => nearB d.wear (cardE d i) (cardE d k) (m + 1)) i) i)), (9, .int .i64 i)]) d.cards.length (.exit 2) [(8, .bool (metB d (m + 1))), (9, .int .i64 d.cards.length)] ?_ ?_ ?_ rfl]
        · simp (disch := omega) only [go_sem, ↓reduceIte, Nat.reduceBEq, Nat.reduceEqDiff, Nat.reduceLT, Nat.reduceLeDiff, Nat.reduceAdd, Nat.reduceMul, Nat.reduceSub, reduceCtorEq, Int.reduceLT, Int.reduceLE, Int.reduceEq, Int.reduceBEq, Int.reduceBNe, Int.reduceToNat, Int.reduceAdd, Int.reduceNeg, Int.reduceSub, eDc, hmet, wrap_i64]
        · simp only [go_sem, ↓reduceIte, Nat.reduceBEq, Nat.reduceEqDiff, Nat.reduceLT, Nat.reduceLeDiff, Nat.reduceAdd, Nat.reduceMul, Nat.reduceSub, reduceCtorEq, Int.reduceLT, Int.reduceLE, Int.reduceEq, Int.reduceBEq, Int.reduceBNe, Int.reduceToNat, Int.reduceAdd, Int.reduceNeg, Int.reduceSub, anyTo_zero]
        · intro i hi
          have hii : (i : Int) < d.cards.length := by omega
          simp (disch := omega) only [go_sem, ↓reduceIte, Nat.reduceBEq, Nat.reduceEqDiff, Nat.reduceLT, Nat.reduceLeDiff, Nat.reduceAdd, Nat.reduceMul, Nat.reduceSub, reduceCtorEq, Int.reduceLT, Int.reduceLE, Int.reduceEq, Int.reduceBEq, Int.reduceBNe, Int.reduceToNat, Int.reduceAdd, Int.reduceNeg, Int.reduceSub, eDc, hii, wrap_i64]
          rw [w_rounds_u (fun k => [(8, .bool (anyTo (fun i => anyTo (fun k => nearB d.wear (cardE d i) (cardE d k) (m + 1)) i) i || anyTo (fun k => nearB d.wear (cardE d i) (cardE d k) (m + 1)) k)), (10, .int .i64 k)]) i (.exit 4) [(8, .bool (anyTo (fun i => anyTo (fun k => nearB d.wear (cardE d i) (cardE d k) (m + 1)) i) (i + 1))), (10, .int .i64 i)] ?_ ?_ ?_ rfl]
          · simp (disch := omega) only [go_sem, ↓reduceIte, Nat.reduceBEq, Nat.reduceEqDiff, Nat.reduceLT, Nat.reduceLeDiff, Nat.reduceAdd, Nat.reduceMul, Nat.reduceSub, reduceCtorEq, Int.reduceLT, Int.reduceLE, Int.reduceEq, Int.reduceBEq, Int.reduceBNe, Int.reduceToNat, Int.reduceAdd, Int.reduceNeg, Int.reduceSub, wrap_i64]
          · simp only [go_sem, ↓reduceIte, Nat.reduceBEq, Nat.reduceEqDiff, Nat.reduceLT, Nat.reduceLeDiff, Nat.reduceAdd, Nat.reduceMul, Nat.reduceSub, reduceCtorEq, Int.reduceLT, Int.reduceLE, Int.reduceEq, Int.reduceBEq, Int.reduceBNe, Int.reduceToNat, Int.reduceAdd, Int.reduceNeg, Int.reduceSub, anyTo_zero]
          · intro k hk
            have hki : (k : Int) < i := by omega
            have hzc := hd.zc (by intro e; rw [e] at hi; simp at hi)
            have h66 := inner (m + 1) (by omega) i k hi (by omega)
            simp only [cast_succ, hzc] at h66
            have ci := card_at d i hi
            have ck := card_at d k (by omega)
            simp (disch := omega) only [go_sem, ↓reduceIte, Nat.reduceBEq, Nat.reduceEqDiff, Nat.reduceLT, Nat.reduceLeDiff, Nat.reduceAdd, Nat.reduceMul, Nat.reduceSub, reduceCtorEq, Int.reduceLT, Int.reduceLE, Int.reduceEq, Int.reduceBEq, Int.reduceBNe, Int.reduceToNat, Int.reduceAdd, Int.reduceNeg, Int.reduceSub, eDc, hki, hzc, eC_clean, eC_get, ci, ck, eC, h66, wrap_i64, anyTo_succ, Bool.or_assoc]
          · simp only [go_sem, ↓reduceIte, Nat.reduceBEq, Nat.reduceEqDiff, Nat.reduceLT, Nat.reduceLeDiff, Nat.reduceAdd, Nat.reduceMul, Nat.reduceSub, reduceCtorEq, Int.reduceLT, Int.reduceLE, Int.reduceEq, Int.reduceBEq, Int.reduceBNe, Int.reduceToNat, Int.reduceAdd, Int.reduceNeg, Int.reduceSub, anyTo_succ]
        · simp only [go_sem, ↓reduceIte, Nat.reduceBEq, Nat.reduceEqDiff, Nat.reduceLT, Nat.reduceLeDiff, Nat.reduceAdd, Nat.reduceMul, Nat.reduceSub, reduceCtorEq, Int.reduceLT, Int.reduceLE, Int.reduceEq, Int.reduceBEq, Int.reduceBNe, Int.reduceToNat, Int.reduceAdd, Int.reduceNeg, Int.reduceSub, metB, eDc]
      · have hmi : (n : Int) + 1 ≤ d.steps := by omega
        have hmet : metB d (n + 1) = false := by simpa using f3
        simp (disch := omega) only [go_sem, ↓reduceIte, Nat.reduceBEq, Nat.reduceEqDiff, Nat.reduceLT, Nat.reduceLeDiff, Nat.reduceAdd, Nat.reduceMul, Nat.reduceSub, reduceCtorEq, Int.reduceLT, Int.reduceLE, Int.reduceEq, Int.reduceBEq, Int.reduceBNe, Int.reduceToNat, Int.reduceAdd, Int.reduceNeg, Int.reduceSub, eDc, hmi, wrap_i64]
        rw [w_rounds_u (fun i => [(8, .bool (anyTo (fun i => anyTo (fun k => nearB d.wear (cardE d i) (cardE d k) (n + 1)) i) i)), (9, .int .i64 i)]) d.cards.length (.exit 2) [(8, .bool (metB d (n + 1))), (9, .int .i64 d.cards.length)] ?_ ?_ ?_ rfl]
        · simp (disch := omega) only [go_sem, ↓reduceIte, Nat.reduceBEq, Nat.reduceEqDiff, Nat.reduceLT, Nat.reduceLeDiff, Nat.reduceAdd, Nat.reduceMul, Nat.reduceSub, reduceCtorEq, Int.reduceLT, Int.reduceLE, Int.reduceEq, Int.reduceBEq, Int.reduceBNe, Int.reduceToNat, Int.reduceAdd, Int.reduceNeg, Int.reduceSub, eDc, hmet, wrap_i64]
        · simp only [go_sem, ↓reduceIte, Nat.reduceBEq, Nat.reduceEqDiff, Nat.reduceLT, Nat.reduceLeDiff, Nat.reduceAdd, Nat.reduceMul, Nat.reduceSub, reduceCtorEq, Int.reduceLT, Int.reduceLE, Int.reduceEq, Int.reduceBEq, Int.reduceBNe, Int.reduceToNat, Int.reduceAdd, Int.reduceNeg, Int.reduceSub, anyTo_zero]
        · intro i hi
          have hii : (i : Int) < d.cards.length := by omega
          simp (disch := omega) only [go_sem, ↓reduceIte, Nat.reduceBEq, Nat.reduceEqDiff, Nat.reduceLT, Nat.reduceLeDiff, Nat.reduceAdd, Nat.reduceMul, Nat.reduceSub, reduceCtorEq, Int.reduceLT, Int.reduceLE, Int.reduceEq, Int.reduceBEq, Int.reduceBNe, Int.reduceToNat, Int.reduceAdd, Int.reduceNeg, Int.reduceSub, eDc, hii, wrap_i64]
          rw [w_rounds_u (fun k => [(8, .bool (anyTo (fun i => anyTo (fun k => nearB d.wear (cardE d i) (cardE d k) (n + 1)) i) i || anyTo (fun k => nearB d.wear (cardE d i) (cardE d k) (n + 1)) k)), (10, .int .i64 k)]) i (.exit 4) [(8, .bool (anyTo (fun i => anyTo (fun k => nearB d.wear (cardE d i) (cardE d k) (n + 1)) i) (i + 1))), (10, .int .i64 i)] ?_ ?_ ?_ rfl]
          · simp (disch := omega) only [go_sem, ↓reduceIte, Nat.reduceBEq, Nat.reduceEqDiff, Nat.reduceLT, Nat.reduceLeDiff, Nat.reduceAdd, Nat.reduceMul, Nat.reduceSub, reduceCtorEq, Int.reduceLT, Int.reduceLE, Int.reduceEq, Int.reduceBEq, Int.reduceBNe, Int.reduceToNat, Int.reduceAdd, Int.reduceNeg, Int.reduceSub, wrap_i64]
          · simp only [go_sem, ↓reduceIte, Nat.reduceBEq, Nat.reduceEqDiff, Nat.reduceLT, Nat.reduceLeDiff, Nat.reduceAdd, Nat.reduceMul, Nat.reduceSub, reduceCtorEq, Int.reduceLT, Int.reduceLE, Int.reduceEq, Int.reduceBEq, Int.reduceBNe, Int.reduceToNat, Int.reduceAdd, Int.reduceNeg, Int.reduceSub, anyTo_zero]
          · intro k hk
            have hki : (k : Int) < i := by omega
            have hzc := hd.zc (by intro e; rw [e] at hi; simp at hi)
            have h66 := inner (n + 1) (by omega) i k hi (by omega)
            simp only [cast_succ, hzc] at h66
            have ci := card_at d i hi
            have ck := card_at d k (by omega)
            simp (disch := omega) only [go_sem, ↓reduceIte, Nat.reduceBEq, Nat.reduceEqDiff, Nat.reduceLT, Nat.reduceLeDiff, Nat.reduceAdd, Nat.reduceMul, Nat.reduceSub, reduceCtorEq, Int.reduceLT, Int.reduceLE, Int.reduceEq, Int.reduceBEq, Int.reduceBNe, Int.reduceToNat, Int.reduceAdd, Int.reduceNeg, Int.reduceSub, eDc, hki, hzc, eC_clean, eC_get, ci, ck, eC, h66, wrap_i64, anyTo_succ, Bool.or_assoc]
          · simp only [go_sem, ↓reduceIte, Nat.reduceBEq, Nat.reduceEqDiff, Nat.reduceLT, Nat.reduceLeDiff, Nat.reduceAdd, Nat.reduceMul, Nat.reduceSub, reduceCtorEq, Int.reduceLT, Int.reduceLE, Int.reduceEq, Int.reduceBEq, Int.reduceBNe, Int.reduceToNat, Int.reduceAdd, Int.reduceNeg, Int.reduceSub, anyTo_succ]
        · simp only [go_sem, ↓reduceIte, Nat.reduceBEq, Nat.reduceEqDiff, Nat.reduceLT, Nat.reduceLeDiff, Nat.reduceAdd, Nat.reduceMul, Nat.reduceSub, reduceCtorEq, Int.reduceLT, Int.reduceLE, Int.reduceEq, Int.reduceBEq, Int.reduceBNe, Int.reduceToNat, Int.reduceAdd, Int.reduceNeg, Int.reduceSub, metB, eDc]
      simp only [go_sem, ↓reduceIte, Nat.reduceBEq, Nat.reduceEqDiff, Nat.reduceLT, Nat.reduceLeDiff, Nat.reduceAdd, Nat.reduceMul, Nat.reduceSub, reduceCtorEq, Int.reduceLT, Int.reduceLE, Int.reduceEq, Int.reduceBEq, Int.reduceBNe, Int.reduceToNat, Int.reduceAdd, Int.reduceNeg, Int.reduceSub]
  · rw [if_neg hc]
    have hb1 : ((checkT d).2.2 != 0) = true := by simpa using hc
    simp only [go_sem, ↓reduceIte, Nat.reduceBEq, Nat.reduceEqDiff, Nat.reduceLT, Nat.reduceLeDiff, Nat.reduceAdd, Nat.reduceMul, Nat.reduceSub, reduceCtorEq, Int.reduceLT, Int.reduceLE, Int.reduceEq, Int.reduceBEq, Int.reduceBNe, Int.reduceToNat, Int.reduceAdd, Int.reduceNeg, Int.reduceSub, eD, eDc, eC_under, tup3] at hcl h17 ⊢
    simp only [go_sem, ↓reduceIte, Nat.reduceBEq, Nat.reduceEqDiff, Nat.reduceLT, Nat.reduceLeDiff, Nat.reduceAdd, Nat.reduceMul, Nat.reduceSub, reduceCtorEq, Int.reduceLT, Int.reduceLE, Int.reduceEq, Int.reduceBEq, Int.reduceBNe, Int.reduceToNat, Int.reduceAdd, Int.reduceNeg, Int.reduceSub, eC_clean, h17, hb1]
end Go.Proofs.Ytbfodfepgefloaa
end
section
namespace Go.Proofs.Ytbfodfepgefloaa
open Go.Proofs

theorem or_bit' (s i : Nat) (hs : s < 16) (hi : i < 4) : IntKind.i64.wrap (BitVec.ofInt IntKind.i64.bits ((s : Nat) : Int) ||| BitVec.ofInt IntKind.i64.bits (IntKind.i64.wrap (1 * 2 ^ (min i IntKind.i64.bits)))).toNat = ((s ||| 2 ^ i : Nat) : Int) := or_bit ⟨s, hs⟩ ⟨i, hi⟩
/-- A set of cards, as a number. -/
def setN (p : Nat → Bool) : Nat → Nat
  | 0 => 0
  | k + 1 => if p k then setN p k ||| 2 ^ k else setN p k
theorem setN_succ (p : Nat → Bool) (k : Nat) : setN p (k + 1) = if p k = true then setN p k ||| 2 ^ k else setN p k := rfl
theorem setN_lt (p : Nat → Bool) : ∀ k, k ≤ 4 → setN p k < 16
  | 0, _ => by simp [setN]
  | k + 1, h => by
    have a := setN_lt p k (by omega)
    unfold setN
    split
    · exact or_lt ⟨_, a⟩ ⟨k, by omega⟩
    · exact a
theorem setN_test (p : Nat → Bool) : ∀ k, k ≤ 4 → ∀ j, j < 4 → (setN p k).testBit j = (decide (j < k) && p j)
  | 0, _, j, _ => by simp [setN]
  | k + 1, h, j, hj => by
    have a := setN_lt p k (by omega)
    have ih := setN_test p k (by omega) j hj
    unfold setN
    have e : decide (j < k + 1) = (decide (j < k) || decide (k = j)) := by rw [Bool.eq_iff_iff]; simp; omega
    cases hp : p k with
    | true =>
      simp only [if_true]
      have := or_test ⟨_, a⟩ ⟨k, by omega⟩ ⟨j, hj⟩
      simp only [Fin.mk.injEq] at this
      rw [this, ih, e]
      by_cases hk : k = j
      · subst hk; simp [hp]
      · simp [hk]
    | false =>
      simp only [Bool.false_eq_true, if_false]
      rw [ih, e]
      by_cases hk : k = j
      · subst hk; simp [hp]
      · simp [hk]
theorem bitsL_setN (p : Nat → Bool) (n : Nat) (hn : n ≤ 4) : bitsL (setN p n) n = ((List.range n).filter fun c => p c).map fun (c : Nat) => (c : Int) := by
  unfold bitsL
  congr 1
  apply List.filter_congr
  intro j hj
  have hj := List.mem_range.1 hj
  rw [setN_test p n hn j (by omega)]
  simp [hj]

theorem enterE_nil (d : Dr) (m : Int) : enterE d m [] = (checkT d).2.2 := by
  unfold enterE; simp only [List.any_nil, Bool.false_eq_true, if_false]; split
  · rename_i h; rw [h]
  · rfl
/-- Entering with no numbers. -/
theorem enter_yes (d : Dr) (hd : d.fits) (m : Int) (hm : 0 ≤ m ∧ m < 1000000000000000000) (t z : Nat) (l : List Int) (hz : l ≠ [] → z = 1) (hl : l.length < 1000000000000000000) (he : enterE d m l = 0) :
    d.Ok ∧ ∃ B t' tag zz, (EW tabX).call 60 [eD d, .int .i64 m, .lst t z (I l)] ⟨[.cells (eDc d)], []⟩ = some (.tup [.ref 4 0, .int .i64 0], ⟨B, t'⟩) ∧ B[0]? = some (.cells (eDc d)) ∧
      B[4]? = some (.cells (eDc d ++ [.lst tag zz ((P1 d d.halves.length).map eL), .mapr 3])) ∧ B[3]? = some (.map (esL (num (P1 d d.halves.length)))) ∧ Own tag zz (P1 d d.halves.length).length t' := by
  obtain ⟨ho, h', h60, hH⟩ := c60_yes d hd m hm t z l hz hl he ⟨[.cells (eDc d)], []⟩
  obtain ⟨tag, z, junk, t', rfl, hown⟩ := hH
  exact ⟨ho, _, t', tag, z, h60, rfl, rfl, rfl, hown⟩

theorem c34_no (d : Dr) (hd : d.fits) (l : List Int) (z : Nat) (hz : l ≠ [] → z = 1) (hl : l.length < 1000000000000000000) (he : newE d l ≠ 0) (h : Heap) : callPure (EW tabX) 34 [eD d, .lst 0 z (I l)] h = some (.tup [vI [], .int .i64 (newE d l)], h) := by
  have hcl := eD_clean d
  have h51 := c51 0 9 l z hz
  rw [callPure_eq, w_call _ fn_34 rfl]
  unfold newE at he ⊢
  by_cases hc : (checkT d).2.2 = 0
  · rw [if_pos hc] at he ⊢
    obtain ⟨ho, B, t, tag, zz, h60, b0, b4, b3, hown⟩ := enter_yes d hd 0 (by omega) 1 0 [] (fun h => absurd rfl h) (by simp) (by rw [enterE_nil]; exact hc)
    simp only [eDc, List.cons_append, List.nil_append] at b0 b4
    by_cases h1 : ((l.length : Int) != d.steps) = true
    · rw [if_pos h1]
      simp only [go_sem, ↓reduceIte, Nat.reduceBEq, Nat.reduceEqDiff, Nat.reduceLT, Nat.reduceLeDiff, Nat.reduceAdd, Nat.reduceMul, Nat.reduceSub, reduceCtorEq, Int.reduceLT, Int.reduceLE, Int.reduceEq, Int.reduceBEq, Int.reduceBNe, Int.reduceToNat, Int.reduceAdd, Int.reduceNeg, Int.reduceSub, eD, eDc, eC_under] at hcl h60 ⊢
      simp only [go_sem, ↓reduceIte, Nat.reduceBEq, Nat.reduceEqDiff, Nat.reduceLT, Nat.reduceLeDiff, Nat.reduceAdd, Nat.reduceMul, Nat.reduceSub, reduceCtorEq, Int.reduceLT, Int.reduceLE, Int.reduceEq, Int.reduceBEq, Int.reduceBNe, Int.reduceToNat, Int.reduceAdd, Int.reduceNeg, Int.reduceSub, eC_clean, h60, b0, h1, vI_nil]
    · rw [if_neg h1] at he ⊢
      have h1' : ((l.length : Int) != d.steps) = false := by simpa using h1
      by_cases h2 : (l.all fun n => inR n 0 9) = false
      · rw [if_pos h2]
        have h2' : l.any (out 0 9) = true := by rw [← all_out, h2]; rfl
        simp only [go_sem, ↓reduceIte, Nat.reduceBEq, Nat.reduceEqDiff, Nat.reduceLT, Nat.reduceLeDiff, Nat.reduceAdd, Nat.reduceMul, Nat.reduceSub, reduceCtorEq, Int.reduceLT, Int.reduceLE, Int.reduceEq, Int.reduceBEq, Int.reduceBNe, Int.reduceToNat, Int.reduceAdd, Int.reduceNeg, Int.reduceSub, eD, eDc, eC_under] at hcl h60 ⊢
        simp only [go_sem, ↓reduceIte, Nat.reduceBEq, Nat.reduceEqDiff, Nat.reduceLT, Nat.reduceLeDiff, Nat.reduceAdd, Nat.reduceMul, Nat.reduceSub, reduceCtorEq, Int.reduceLT, Int.reduceLE, Int.reduceEq, Int.reduceBEq, Int.reduceBNe, Int.reduceToNat, Int.reduceAdd, Int.reduceNeg, Int.reduceSub, eC_clean, h60, b0, h1', h51 _ hl, h2', vI_nil]
      · rw [if_neg h2] at he; exact absurd rfl he
  · rw [if_neg hc]
    have h60 := c60_no d hd 0 (by omega) 1 0 [] (fun h => absurd rfl h) (by simp) (by rw [enterE_nil]; exact hc) ⟨[.cells (eDc d)], []⟩
    rw [enterE_nil] at h60
    have hb1 : ((checkT d).2.2 != 0) = true := by simpa using hc
    simp only [go_sem, ↓reduceIte, Nat.reduceBEq, Nat.reduceEqDiff, Nat.reduceLT, Nat.reduceLeDiff, Nat.reduceAdd, Nat.reduceMul, Nat.reduceSub, reduceCtorEq, Int.reduceLT, Int.reduceLE, Int.reduceEq, Int.reduceBEq, Int.reduceBNe, Int.reduceToNat, Int.reduceAdd, Int.reduceNeg, Int.reduceSub, eD, eDc, eC_under] at hcl h60 ⊢
    simp only [go_sem, ↓reduceIte, Nat.reduceBEq, Nat.reduceEqDiff, Nat.reduceLT, Nat.reduceLeDiff, Nat.reduceAdd, Nat.reduceMul, Nat.reduceSub, reduceCtorEq, Int.reduceLT, Int.reduceLE, Int.reduceEq, Int.reduceBEq, Int.reduceBNe, Int.reduceToNat, Int.reduceAdd, Int.reduceNeg, Int.reduceSub, eC_clean, h60, hb1, vI_nil]
theorem c34_yes (d : Dr) (hd : d.fits) (l : List Int) (z : Nat) (hz : l ≠ [] → z = 1) (hl : l.length < 1000000000000000000) (he : newE d l = 0) (h : Heap) : callPure (EW tabX) 34 [eD d, .lst 0 z (I l)] h = some (.tup [vI (newL d l d.cards.length), .int .i64 0], h) := by
  obtain ⟨hc, h1, h2⟩ := newE_yes he
  have hcl := eD_clean d
  have h51 := c51 0 9 l z hz
  have h1' : ((l.length : Int) != d.steps) = false := by simp [h1]
  have h2' : l.any (out 0 9) = false := by rw [← all_out, h2]; rfl
  obtain ⟨ho, B, t, tag, zz, h60, b0, b4, b3, hown⟩ := enter_yes d hd 0 (by omega) 1 0 [] (fun h => absurd rfl h) (by simp) (by rw [enterE_nil]; exact hc)
  have hc4 := ho.c4
  have h6 := ho.s6
  have hls := ho.ls
  have hl1 := ho.l1
  have hlow : Low l := fun n hn => by
    rw [List.all_eq_true] at h2
    have := h2 n hn
    simp [inR] at this; omega
  have hlt : ((d.least.toNat : Nat) : Int) = d.least := by omega
  have b4' := b4
  have b0' := b0
  simp only [eDc, List.cons_append, List.nil_append] at b0' b4
  have h63 := c63 (setN (fun c => nearB d.wear l (cardE d c) d.least.toNat) d.cards.length) d.cards.length (setN_lt _ _ hc4) hc4
  rw [bitsL_setN _ _ hc4] at h63
  rw [callPure_eq, w_call _ fn_34 rfl]
  simp only [go_sem, ↓reduceIte, Nat.reduceBEq, Nat.reduceEqDiff, Nat.reduceLT, Nat.reduceLeDiff, Nat.reduceAdd, Nat.reduceMul, Nat.reduceSub, reduceCtorEq, Int.reduceLT, Int.reduceLE, Int.reduceEq, Int.reduceBEq, Int.reduceBNe, Int.reduceToNat, Int.reduceAdd, Int.reduceNeg, Int.reduceSub, eD, eDc, eC_under] at hcl h60 ⊢
  simp only [go_sem, ↓reduceIte, Nat.reduceBEq, Nat.reduceEqDiff, Nat.reduceLT, Nat.reduceLeDiff, Nat.reduceAdd, Nat.reduceMul, Nat.reduceSub, reduceCtorEq, Int.reduceLT, Int.reduceLE, Int.reduceEq, Int.reduceBEq, Int.reduceBNe, Int.reduceToNat, Int.reduceAdd, Int.reduceNeg, Int.reduceSub, eC_clean, h60, b0', h1', h51 _ hl, h2']
  rw [w_rounds_h (fun k => [(8, .int .i64 (setN (fun c => nearB d.wear l (cardE d c) d.least.toNat) k)), (32, .int .i64 k)]) (fun k => ⟨B ++ (d.cards.take k).map cellC, t⟩) d.cards.length (.exit 1) [(8, .int .i64 (setN (fun c => nearB d.wear l (cardE d c) d.least.toNat) d.cards.length)), (32, .int .i64 d.cards.length)] ⟨B ++ d.cards.map cellC, t⟩ ?_ ?_ ?_ ?_ rfl]
  · have b0'' := old b0'
    simp only [go_sem, ↓reduceIte, Nat.reduceBEq, Nat.reduceEqDiff, Nat.reduceLT, Nat.reduceLeDiff, Nat.reduceAdd, Nat.reduceMul, Nat.reduceSub, reduceCtorEq, Int.reduceLT, Int.reduceLE, Int.reduceEq, Int.reduceBEq, Int.reduceBNe, Int.reduceToNat, Int.reduceAdd, Int.reduceNeg, Int.reduceSub, b0'', h63, vI_clean, vI_under, newL]
  · simp only [go_sem, ↓reduceIte, Nat.reduceBEq, Nat.reduceEqDiff, Nat.reduceLT, Nat.reduceLeDiff, Nat.reduceAdd, Nat.reduceMul, Nat.reduceSub, reduceCtorEq, Int.reduceLT, Int.reduceLE, Int.reduceEq, Int.reduceBEq, Int.reduceBNe, Int.reduceToNat, Int.reduceAdd, Int.reduceNeg, Int.reduceSub, setN]
  · simp only [go_sem, ↓reduceIte, Nat.reduceBEq, Nat.reduceEqDiff, Nat.reduceLT, Nat.reduceLeDiff, Nat.reduceAdd, Nat.reduceMul, Nat.reduceSub, reduceCtorEq, Int.reduceLT, Int.reduceLE, Int.reduceEq, Int.reduceBEq, Int.reduceBNe, Int.reduceToNat, Int.reduceAdd, Int.reduceNeg, Int.reduceSub]
  · intro c hcc
    have hci : (c : Int) < d.cards.length := by omega
    obtain ⟨y1, y2, y3, y4⟩ := cardE_low ho hcc
    have hzc := hd.zc (by intro e; rw [e] at hcc; simp at hcc)
    have ca := card_at d c hcc
    have hst := setN_lt (fun c => nearB d.wear l (cardE d c) d.least.toNat) c (by omega)
    have hor := or_bit' _ c hst (by omega)
    have h65 := c65 d ⟨ho.w0, ho.w9⟩ l (cardE d c) d.least.toNat hlow y1 (by omega) y2 (by omega) 0 0 z 1 hz (fun _ => rfl) 4 _ ⟨B ++ (d.cards.take c).map cellC ++ [cellC (d.cards.getD c ⟨default, []⟩)], t⟩ (old (old b4' _) _)
    have b0'' := old (old b0' ((d.cards.take c).map cellC))
    rw [hlt] at h65
    rw [map_succ cellC ca, ← List.append_assoc]
    generalize B ++ (d.cards.take c).map cellC = C at h65 b0'' ⊢
    simp only [cellC, cardE] at h65
    rw [setN_succ]
    by_cases hb : nearB d.wear l (cardE d c) d.least.toNat = true
    · rw [if_pos hb]
      simp only [cardE] at hb hor
      rw [hb] at h65
      simp (disch := omega) only [go_sem, ↓reduceIte, Nat.reduceBEq, Nat.reduceEqDiff, Nat.reduceLT, Nat.reduceLeDiff, Nat.reduceAdd, Nat.reduceMul, Nat.reduceSub, reduceCtorEq, Int.reduceLT, Int.reduceLE, Int.reduceEq, Int.reduceBEq, Int.reduceBNe, Int.reduceToNat, Int.reduceAdd, Int.reduceNeg, Int.reduceSub, hci, eC_get, ca, hzc, eC, h65, cellC, b0'', wrap_i64, cardE]
      rw [← hor]
      rfl
    · rw [if_neg hb]
      have hb' : nearB d.wear l (cardE d c) d.least.toNat = false := by simpa using hb
      simp only [cardE] at hb'
      rw [hb'] at h65
      simp (disch := omega) only [go_sem, ↓reduceIte, Nat.reduceBEq, Nat.reduceEqDiff, Nat.reduceLT, Nat.reduceLeDiff, Nat.reduceAdd, Nat.reduceMul, Nat.reduceSub, reduceCtorEq, Int.reduceLT, Int.reduceLE, Int.reduceEq, Int.reduceBEq, Int.reduceBNe, Int.reduceToNat, Int.reduceAdd, Int.reduceNeg, Int.reduceSub, hci, eC_get, ca, hzc, eC, h65, cellC, b0'', wrap_i64, cardE]
  · simp only [go_sem, ↓reduceIte, Nat.reduceBEq, Nat.reduceEqDiff, Nat.reduceLT, Nat.reduceLeDiff, Nat.reduceAdd, Nat.reduceMul, Nat.reduceSub, reduceCtorEq, Int.reduceLT, Int.reduceLE, Int.reduceEq, Int.reduceBEq, Int.reduceBNe, Int.reduceToNat, Int.reduceAdd, Int.reduceNeg, Int.reduceSub]
end Go.Proofs.Ytbfodfepgefloaa
end
section
namespace Go.Proofs.Ytbfodfepgefloaa
open Go.Proofs

theorem enter_two (d : Dr) (a b below : Int) : enterE d below [a, b] = if askedE d a below = 0 then askedE d b below else askedE d a below := by
  unfold enterE askedE
  by_cases hc : (checkT d).2.2 = 0
  · simp only [if_pos hc, List.any_cons, List.any_nil, Bool.or_false, ← out_not]
    cases out 0 (below - 1) a <;> cases out 0 (below - 1) b <;> simp
  · simp only [if_neg hc]

theorem c30_no (d : Dr) (hd : d.fits) (a b : Int) (he : alikeE d a b ≠ 0) (h : Heap) : callPure (EW tabX) 30 [eD d, .int .i64 a, .int .i64 b] h = some (.tup [.bool false, .int .i64 (alikeE d a b)], h) := by
  have lc := hd.lc
  have hcl := eD_clean d
  have e2 := enter_two d a b d.cards.length
  rw [callPure_eq, w_call _ fn_30 rfl]
  unfold alikeE at he ⊢
  by_cases hz : enterE d d.cards.length [a, b] = 0
  · obtain ⟨ho, B, t, tag, zz, h60, b0, b4, b3, hown⟩ := enter_yes d hd d.cards.length (by omega) 1 1 [a, b] (fun _ => rfl) (by simp) hz
    simp only [eDc, List.cons_append, List.nil_append] at b0 b4
    rw [hz] at e2
    have ha : askedE d a d.cards.length = 0 := by
      by_cases ha : askedE d a d.cards.length = 0
      · exact ha
      · rw [if_neg ha] at e2; exact e2.symm
    rw [if_pos ha] at e2 he ⊢
    rw [if_pos e2.symm] at he ⊢
    by_cases hab : a = b
    · rw [if_pos hab]
      have hab' : (a == b) = true := by simpa using hab
      simp only [go_sem, ↓reduceIte, Nat.reduceBEq, Nat.reduceEqDiff, Nat.reduceLT, Nat.reduceLeDiff, Nat.reduceAdd, Nat.reduceMul, Nat.reduceSub, reduceCtorEq, Int.reduceLT, Int.reduceLE, Int.reduceEq, Int.reduceBEq, Int.reduceBNe, Int.reduceToNat, Int.reduceAdd, Int.reduceNeg, Int.reduceSub, eD, eDc, eC_under, I_c, I_nil] at hcl h60 ⊢
      simp only [go_sem, ↓reduceIte, Nat.reduceBEq, Nat.reduceEqDiff, Nat.reduceLT, Nat.reduceLeDiff, Nat.reduceAdd, Nat.reduceMul, Nat.reduceSub, reduceCtorEq, Int.reduceLT, Int.reduceLE, Int.reduceEq, Int.reduceBEq, Int.reduceBNe, Int.reduceToNat, Int.reduceAdd, Int.reduceNeg, Int.reduceSub, eC_clean, h60, hab']
    · rw [if_neg hab] at he; exact absurd rfl he
  · have h60 := c60_no d hd d.cards.length (by omega) 1 1 [a, b] (fun _ => rfl) (by simp) hz ⟨[.cells (eDc d)], []⟩
    have hne : (enterE d d.cards.length [a, b] != 0) = true := by simpa using hz
    have e3 : (if askedE d a d.cards.length = 0 then (if askedE d b d.cards.length = 0 then (if a = b then 2 else 0) else askedE d b d.cards.length) else askedE d a d.cards.length) = enterE d d.cards.length [a, b] := by
      rw [e2] at hz ⊢
      by_cases ha : askedE d a d.cards.length = 0
      · rw [if_pos ha] at hz ⊢
        rw [if_neg hz, if_pos ha]
      · rw [if_neg ha, if_neg ha]
    rw [e3]
    simp only [go_sem, ↓reduceIte, Nat.reduceBEq, Nat.reduceEqDiff, Nat.reduceLT, Nat.reduceLeDiff, Nat.reduceAdd, Nat.reduceMul, Nat.reduceSub, reduceCtorEq, Int.reduceLT, Int.reduceLE, Int.reduceEq, Int.reduceBEq, Int.reduceBNe, Int.reduceToNat, Int.reduceAdd, Int.reduceNeg, Int.reduceSub, eD, eDc, eC_under, I_c, I_nil] at hcl h60 ⊢
    simp only [go_sem, ↓reduceIte, Nat.reduceBEq, Nat.reduceEqDiff, Nat.reduceLT, Nat.reduceLeDiff, Nat.reduceAdd, Nat.reduceMul, Nat.reduceSub, reduceCtorEq, Int.reduceLT, Int.reduceLE, Int.reduceEq, Int.reduceBEq, Int.reduceBNe, Int.reduceToNat, Int.reduceAdd, Int.reduceNeg, Int.reduceSub, eC_clean, h60, hne]
theorem hush_30_6 : tabX.hush 30 6 = false := id rfl
theorem c30_yes (d : Dr) (hd : d.fits) (a b : Nat) (he : alikeE d a b = 0) (h : Heap) : callPure (EW tabX) 30 [eD d, .int .i64 a, .int .i64 b] h = some (.tup [.bool (alikeB d a b), .int .i64 0], h) := by
  have lc := hd.lc
  have hcl := eD_clean d
  have e2 := enter_two d a b d.cards.length
  unfold alikeE at he
  have ha : askedE d a d.cards.length = 0 := by
    by_cases ha : askedE d a d.cards.length = 0
    · exact ha
    · rw [if_neg ha] at he; exact he
  rw [if_pos ha] at he e2
  have hb : askedE d b d.cards.length = 0 := by
    by_cases hb : askedE d b d.cards.length = 0
    · exact hb
    · rw [if_neg hb] at he; exact he
  rw [if_pos hb] at he
  rw [hb] at e2
  have hab : ((a : Int) == b) = false := by
    cases hh : ((a : Int) == b) with
    | false => rfl
    | true => rw [if_pos (by simpa using hh)] at he; cases he
  obtain ⟨hk, a0, a1⟩ := asked_yes ha
  obtain ⟨_, b0, b1⟩ := asked_yes hb
  obtain ⟨ho, B, t, tag, zz, h60, m0, m4, m3, hown⟩ := enter_yes d hd d.cards.length (by omega) 1 1 [(a : Int), b] (fun _ => rfl) (by simp) e2
  have hl := ho.l1
  have hls := ho.ls
  have h6 := ho.s6
  obtain ⟨x1, x2, x3, x4⟩ := cardE_low ho (show a < d.cards.length by omega)
  obtain ⟨y1, y2, y3, y4⟩ := cardE_low ho (show b < d.cards.length by omega)
  have h65 := fun u t2 => c65 d ⟨ho.w0, ho.w9⟩ (cardE d a) (cardE d b) d.least.toNat x1 y1 x2 y2 (by omega) 0 0 1 1 (fun _ => rfl) (fun _ => rfl) 4 _ ⟨B ++ u, t2⟩ (old m4 u)
  have hlt : ((d.least.toNat : Nat) : Int) = d.least := by omega
  rw [hlt] at h65
  have hz := hd.zc (by intro e; rw [e] at a1; simp at a1; omega)
  have ca := card_at d a (by omega)
  have cb := card_at d b (by omega)
  simp only [eDc, List.cons_append, List.nil_append] at m0
  have m0' := old m0
  rw [callPure_eq, w_call _ fn_30 rfl]
  simp only [cardE] at h65
  simp only [go_sem, ↓reduceIte, Nat.reduceBEq, Nat.reduceEqDiff, Nat.reduceLT, Nat.reduceLeDiff, Nat.reduceAdd, Nat.reduceMul, Nat.reduceSub, reduceCtorEq, Int.reduceLT, Int.reduceLE, Int.reduceEq, Int.reduceBEq, Int.reduceBNe, Int.reduceToNat, Int.reduceAdd, Int.reduceNeg, Int.reduceSub, eD, eDc, eC_under, I_c, I_nil, hz] at hcl h60 ⊢
  try simp only [hz] at m0'
  try simp only [go_sem, ↓reduceIte, Nat.reduceBEq, Nat.reduceEqDiff, Nat.reduceLT, Nat.reduceLeDiff, Nat.reduceAdd, Nat.reduceMul, Nat.reduceSub, reduceCtorEq, Int.reduceLT, Int.reduceLE, Int.reduceEq, Int.reduceBEq, Int.reduceBNe, Int.reduceToNat, Int.reduceAdd, Int.reduceNeg, Int.reduceSub] at h65
  simp only [go_sem, ↓reduceIte, Nat.reduceBEq, Nat.reduceEqDiff, Nat.reduceLT, Nat.reduceLeDiff, Nat.reduceAdd, Nat.reduceMul, Nat.reduceSub, reduceCtorEq, Int.reduceLT, Int.reduceLE, Int.reduceEq, Int.reduceBEq, Int.reduceBNe, Int.reduceToNat, Int.reduceAdd, Int.reduceNeg, Int.reduceSub, eC_clean, h60, hab, hush_30_6]
  rw [if_pos (by kernel_rfl)]
  simp only [go_sem, ↓reduceIte, Nat.reduceBEq, Nat.reduceEqDiff, Nat.reduceLT, Nat.reduceLeDiff, Nat.reduceAdd, Nat.reduceMul, Nat.reduceSub, reduceCtorEq, Int.reduceLT, Int.reduceLE, Int.reduceEq, Int.reduceBEq, Int.reduceBNe, Int.reduceToNat, Int.reduceAdd, Int.reduceNeg, Int.reduceSub, m0', eC_get, ca, cb, eC]
  generalize hbb : boundAll _ _ _ = bb
  have hbt : bb = true := by rw [← hbb]; kernel_rfl
  subst hbt
  have h65' := fun u t2 => h65 u t2
  simp only [go_sem, ↓reduceIte, Nat.reduceBEq, Nat.reduceEqDiff, Nat.reduceLT, Nat.reduceLeDiff, Nat.reduceAdd, Nat.reduceMul, Nat.reduceSub, reduceCtorEq, Int.reduceLT, Int.reduceLE, Int.reduceEq, Int.reduceBEq, Int.reduceBNe, Int.reduceToNat, Int.reduceAdd, Int.reduceNeg, Int.reduceSub, h65, alikeB, cardE]
end Go.Proofs.Ytbfodfepgefloaa
end
section
namespace Go.Proofs.Ytbfodfepgefloaa
open Go.Proofs

theorem allTo_mono {p : Nat → Bool} {n m : Nat} (h : allTo p n = true) (hm : m ≤ n) : allTo p m = true := by
  induction n with
  | zero => obtain rfl : m = 0 := by omega
            exact h
  | succ n ih =>
    rw [allTo_succ] at h
    simp only [Bool.and_eq_true] at h
    by_cases e : m = n + 1
    · subst e; rw [allTo_succ]; simp [h.1, h.2]
    · exact ih h.1 (by omega)
theorem allTo_iff {p : Nat → Bool} {n : Nat} : allTo p n = true ↔ ∀ k, k < n → p k = true := by
  constructor
  · intro h k hk; exact allTo_at h hk
  · intro h
    induction n with
    | zero => rfl
    | succ n ih => rw [allTo_succ, ih fun k hk => h k (by omega), h n (by omega)]; rfl
theorem anyTo_iff {p : Nat → Bool} {n : Nat} : anyTo p n = true ↔ ∃ k, k < n ∧ p k = true := by
  unfold anyTo
  constructor
  · intro h
    have h : allTo (fun i => !p i) n = false := by simpa using h
    obtain ⟨k, h1, _, h2⟩ := allTo_false h
    exact ⟨k, h1, by simpa using h2⟩
  · rintro ⟨k, h1, h2⟩
    cases ha : allTo (fun i => !p i) n with
    | false => rfl
    | true => have := allTo_at ha h1; rw [h2] at this; cases this
theorem nearB_iff {w : Int} {a b : List Int} {m : Nat} : nearB w a b m = true ↔ ∃ i k, i + m ≤ a.length ∧ k + m ≤ b.length ∧ ∀ n, n < m → inR (a.getD (i + n) 0 - b.getD (k + n) 0) (0 - w) w = true := by
  have e : nearB w a b m = anyTo (fun i => anyTo (fun k => cellB w a b m i k) (b.length + 1 - m)) (a.length + 1 - m) := by
    unfold nearB anyTo
    congr 2
  rw [e, anyTo_iff]
  constructor
  · rintro ⟨i, hi, h⟩
    obtain ⟨k, hk, h⟩ := anyTo_iff.1 h
    exact ⟨i, k, by omega, by omega, fun n hn => allTo_iff.1 h n hn⟩
  · rintro ⟨i, k, h1, h2, h3⟩
    exact ⟨i, by omega, anyTo_iff.2 ⟨k, by omega, allTo_iff.2 h3⟩⟩
theorem nearB_less {w : Int} {a b : List Int} {m n : Nat} (h : nearB w a b n = true) (hm : m ≤ n) : nearB w a b m = true := by
  obtain ⟨i, k, h1, h2, h3⟩ := nearB_iff.1 h
  exact nearB_iff.2 ⟨i, k, by omega, by omega, fun j hj => h3 j (by omega)⟩

/-- Two cards before the i-th, the one before the other, are alike for so many steps. -/
def metI (d : Dr) (i m : Nat) : Bool := anyTo (fun i => anyTo (fun k => nearB d.wear (cardE d i) (cardE d k) m) i) i
def metK (d : Dr) (i k m : Nat) : Bool := metI d i m || anyTo (fun k => nearB d.wear (cardE d i) (cardE d k) m) k
theorem metI_zero (d : Dr) (m : Nat) : metI d 0 m = false := rfl
theorem metK_zero (d : Dr) (i m : Nat) : metK d i 0 m = metI d i m := by unfold metK; rw [anyTo_zero]; simp
theorem metK_succ (d : Dr) (i k m : Nat) : metK d i (k + 1) m = (metK d i k m || nearB d.wear (cardE d i) (cardE d k) m) := by unfold metK; rw [anyTo_succ, Bool.or_assoc]
theorem metI_succ (d : Dr) (i m : Nat) : metI d (i + 1) m = metK d i i m := by
  have e : metI d (i + 1) m = (metI d i m || anyTo (fun k => nearB d.wear (cardE d i) (cardE d k) m) i) := anyTo_succ _ _
  rw [e]; rfl
theorem metI_less {d : Dr} {i m n : Nat} (h : metI d i n = true) (hm : m ≤ n) : metI d i m = true := by
  obtain ⟨i', h1, h2⟩ := anyTo_iff.1 h
  obtain ⟨k, h3, h4⟩ := anyTo_iff.1 h2
  exact anyTo_iff.2 ⟨i', h1, anyTo_iff.2 ⟨k, h3, nearB_less h4 hm⟩⟩
theorem metK_less {d : Dr} {i k m n : Nat} (h : metK d i k n = true) (hm : m ≤ n) : metK d i k m = true := by
  unfold metK at h ⊢
  rw [Bool.or_eq_true] at h ⊢
  rcases h with h | h
  · exact .inl (metI_less h hm)
  · obtain ⟨k', h3, h4⟩ := anyTo_iff.1 h
    exact .inr (anyTo_iff.2 ⟨k', h3, nearB_less h4 hm⟩)
/-- How far one climbs. -/
theorem climb (p : Nat → Bool) (S : Nat) : ∀ (f m : Nat), S + 1 ≤ m + f → m ≤ S + 1 → ∃ n, (∀ k, k < n → m + k ≤ S ∧ p (m + k) = true) ∧ m + n ≤ S + 1 ∧ (m + n ≤ S → p (m + n) = false)
  | 0, m, h, hm => ⟨0, fun k hk => absurd hk (Nat.not_lt_zero _), hm, fun h => by omega⟩
  | f + 1, m, h, hm => by
    by_cases hS : m ≤ S
    · cases hp : p m with
      | false => exact ⟨0, fun k hk => absurd hk (Nat.not_lt_zero _), hm, fun _ => hp⟩
      | true =>
        obtain ⟨n, h1, h2, h3⟩ := climb p S f (m + 1) (by omega) (by omega)
        refine ⟨n + 1, fun k hk => ?_, by omega, fun h => by rw [show m + (n + 1) = m + 1 + n by omega]; exact h3 (by omega)⟩
        cases k with
        | zero => exact ⟨hS, hp⟩
        | succ k => rw [show m + (k + 1) = m + 1 + k by omega]; exact h1 k (by omega)
    · exact ⟨0, fun k hk => absurd hk (Nat.not_lt_zero _), hm, fun h => absurd h hS⟩
/-- What is known of the number so far. -/
def Clm (S : Nat) (P : Nat → Bool) (m : Nat) : Prop := 1 ≤ m ∧ m ≤ S + 1 ∧ (∀ j, 1 ≤ j → j < m → P j = true) ∧ (m ≤ S → P m = false)
theorem Clm.step {S m n : Nat} {d : Dr} {i k : Nat} (h : Clm S (metK d i k) m) (h1 : ∀ j, j < n → m + j ≤ S ∧ nearB d.wear (cardE d i) (cardE d k) (m + j) = true) (h2 : m + n ≤ S + 1) (h3 : m + n ≤ S → nearB d.wear (cardE d i) (cardE d k) (m + n) = false) :
    Clm S (metK d i (k + 1)) (m + n) := by
  obtain ⟨a, b, c, e⟩ := h
  refine ⟨by omega, h2, fun j j1 j2 => ?_, fun hS => ?_⟩
  · rw [metK_succ, Bool.or_eq_true]
    by_cases hj : j < m
    · exact .inl (c j j1 hj)
    · have := (h1 (j - m) (by omega)).2
      rw [show m + (j - m) = j by omega] at this
      exact .inr this
  · rw [metK_succ, Bool.or_eq_false_iff]
    refine ⟨?_, h3 hS⟩
    cases hm : metK d i k (m + n) with
    | false => rfl
    | true => have := metK_less hm (show m ≤ m + n by omega); rw [e (by omega)] at this; cases this
theorem enough_of {d : Dr} {m : Nat} (hc : (checkT d).2.2 = 0) (h : Clm d.steps.toNat (metI d d.cards.length) m) : enoughR d = if m ≤ d.steps.toNat then ((m : Int), 0) else (0, 9) := by
  obtain ⟨a, b, c, e⟩ := h
  unfold enoughR
  rw [if_pos hc]
  have hm : ∀ j, metB d j = metI d d.cards.length j := fun j => rfl
  rcases find_range (fun k => !metB d (k + 1)) d.steps.toNat with ⟨f1, f2⟩ | ⟨n, f1, f2, f3, f4⟩
  · rw [f1]
    by_cases hS : m ≤ d.steps.toNat
    · have := allTo_at f2 (show m - 1 < d.steps.toNat by omega)
      rw [show m - 1 + 1 = m by omega, hm, e hS] at this
      cases this
    · rw [if_neg hS]
  · rw [f1]
    have hn : metI d d.cards.length (n + 1) = false := by rw [← hm]; simpa using f3
    have e1 : m = n + 1 := by
      by_cases hlt : n + 1 < m
      · have := c (n + 1) (by omega) hlt; rw [hn] at this; cases this
      · by_cases hgt : m < n + 1
        · have := allTo_at f4 (show m - 1 < n by omega)
          rw [show m - 1 + 1 = m by omega, hm, e (by omega)] at this
          cases this
        · omega
    subst e1
    rw [if_pos (by omega)]
    simp
end Go.Proofs.Ytbfodfepgefloaa
end
section
namespace Go.Proofs.Ytbfodfepgefloaa
open Go.Proofs

theorem c32 (d : Dr) (hd : d.fits) (h : Heap) : callPure (EW tabX) 32 [eD d] h = some (.tup [.int .i64 (enoughR d).1, .int .i64 (enoughR d).2], h) := by
  have hcl := eD_clean d
  rw [callPure_eq, w_call _ fn_32 rfl]
  by_cases hc : (checkT d).2.2 = 0
  · obtain ⟨ho, B, t, tag, zz, h60, b0, b4, b3, hown⟩ := enter_yes d hd 0 (by omega) 1 0 [] (fun h => absurd rfl h) (by simp) (by rw [enterE_nil]; exact hc)
    have hc4 := ho.c4
    have h6 := ho.s6
    have hs1 := ho.s1
    have b4' := b4
    have b0' := b0
    simp only [eDc, List.cons_append, List.nil_append] at b0' b4
    simp only [go_sem, ↓reduceIte, Nat.reduceBEq, Nat.reduceEqDiff, Nat.reduceLT, Nat.reduceLeDiff, Nat.reduceAdd, Nat.reduceMul, Nat.reduceSub, reduceCtorEq, Int.reduceLT, Int.reduceLE, Int.reduceEq, Int.reduceBEq, Int.reduceBNe, Int.reduceToNat, Int.reduceAdd, Int.reduceNeg, Int.reduceSub, eD, eDc, eC_under] at hcl h60 ⊢
    simp only [go_sem, ↓reduceIte, Nat.reduceBEq, Nat.reduceEqDiff, Nat.reduceLT, Nat.reduceLeDiff, Nat.reduceAdd, Nat.reduceMul, Nat.reduceSub, reduceCtorEq, Int.reduceLT, Int.reduceLE, Int.reduceEq, Int.reduceBEq, Int.reduceBNe, Int.reduceToNat, Int.reduceAdd, Int.reduceNeg, Int.reduceSub, eC_clean, h60, b0']
    generalize hx : (EW tabX).code 32 none (Code.loop _) _ = x
    refine w_rounds_sk hx (fun i (s : List ABlk × Nat) => [(6, .int .i64 s.2), (22, .int .i64 i)]) (fun s => ⟨B ++ s.1, t⟩) (fun i s => Clm d.steps.toNat (metI d i) s.2) d.cards.length (.exit 0) (fun s => [(6, .int .i64 s.2), (22, .int .i64 d.cards.length)]) rfl ([], 1) ?_ ?_ ?_ ?_ ?_ ?_
    · simp only [go_sem, ↓reduceIte, Nat.reduceBEq, Nat.reduceEqDiff, Nat.reduceLT, Nat.reduceLeDiff, Nat.reduceAdd, Nat.reduceMul, Nat.reduceSub, reduceCtorEq, Int.reduceLT, Int.reduceLE, Int.reduceEq, Int.reduceBEq, Int.reduceBNe, Int.reduceToNat, Int.reduceAdd, Int.reduceNeg, Int.reduceSub]
    · simp only [go_sem, ↓reduceIte, Nat.reduceBEq, Nat.reduceEqDiff, Nat.reduceLT, Nat.reduceLeDiff, Nat.reduceAdd, Nat.reduceMul, Nat.reduceSub, reduceCtorEq, Int.reduceLT, Int.reduceLE, Int.reduceEq, Int.reduceBEq, Int.reduceBNe, Int.reduceToNat, Int.reduceAdd, Int.reduceNeg, Int.reduceSub]
    · exact ⟨by omega, by simp only; omega, fun j h1 h2 => by simp only at h2; omega, fun _ => metI_zero d 1⟩
    · intro i s hi hR
      obtain ⟨C, m⟩ := s
      have hii : (i : Int) < d.cards.length := by omega
      have hzc := hd.zc (by intro e; rw [e] at hi; simp at hi)
      have ci := card_at d i hi
      have o0 := old b0'
      have hile : i ≤ d.cards.length := by omega
      simp (disch := omega) only [go_sem, ↓reduceIte, Nat.reduceBEq, Nat.reduceEqDiff, Nat.reduceLT, Nat.reduceLeDiff, Nat.reduceAdd, Nat.reduceMul, Nat.reduceSub, reduceCtorEq, Int.reduceLT, Int.reduceLE, Int.reduceEq, Int.reduceBEq, Int.reduceBNe, Int.reduceToNat, Int.reduceAdd, Int.reduceNeg, Int.reduceSub, hii, eC_get, ci, hzc, eC, o0, hile]
      generalize hy : (EW tabX).code 32 none (Code.loop _) _ = y
      have hlen : (d.cards.take i).length = i := by rw [List.length_take]; omega
      simp only [List.length_take, List.length_map, Nat.min_eq_left hile] at hy
      refine w_rounds_sk hy (fun k (s : List ABlk × Nat) => [(6, .int .i64 s.2), (32, .int .i64 k)]) (fun s => ⟨B ++ (C ++ (cellC (d.cards.getD i ⟨default, []⟩) :: s.1)), t⟩) (fun k s => Clm d.steps.toNat (metK d i k) s.2) i (.exit 2) (fun s => [(6, .int .i64 s.2), (32, .int .i64 i)]) rfl ([], m) ?_ ?_ ?_ ?_ ?_ ?_
      · simp only [go_sem, ↓reduceIte, Nat.reduceBEq, Nat.reduceEqDiff, Nat.reduceLT, Nat.reduceLeDiff, Nat.reduceAdd, Nat.reduceMul, Nat.reduceSub, reduceCtorEq, Int.reduceLT, Int.reduceLE, Int.reduceEq, Int.reduceBEq, Int.reduceBNe, Int.reduceToNat, Int.reduceAdd, Int.reduceNeg, Int.reduceSub]
      · simp only [go_sem, ↓reduceIte, Nat.reduceBEq, Nat.reduceEqDiff, Nat.reduceLT, Nat.reduceLeDiff, Nat.reduceAdd, Nat.reduceMul, Nat.reduceSub, reduceCtorEq, Int.reduceLT, Int.reduceLE, Int.reduceEq, Int.reduceBEq, Int.reduceBNe, Int.reduceToNat, Int.reduceAdd, Int.reduceNeg, Int.reduceSub, cellC]
      · have e : metK d i 0 = metI d i := funext (metK_zero d i)
        rw [e]; exact hR
      · intro k s hk hR
        obtain ⟨D, m⟩ := s
        have hki : (k : Int) < i := by omega
        have ck := card_at d k (by omega)
        have hck : (d.cards.take i)[k]? = some (d.cards.getD k ⟨default, []⟩) := by rw [List.getElem?_take_of_lt hk]; exact ck
        have hmk : ((d.cards.map eC).take i)[k]? = some (eC (d.cards.getD k ⟨default, []⟩)) := by rw [← List.map_take, eC_get, hck]; rfl
        obtain ⟨n, n1, n2, n3⟩ := climb (fun j => nearB d.wear (cardE d i) (cardE d k) j) d.steps.toNat (d.steps.toNat + 1) m (by omega) hR.2.1
        have hm1 : 1 ≤ m := hR.1
        refine ⟨(D ++ [cellC (d.cards.getD k ⟨default, []⟩)], m + n), ?_, hR.step n1 n2 n3⟩
        obtain ⟨x1, x2, x3, x4⟩ := cardE_low ho hi
        obtain ⟨y1, y2, y3, y4⟩ := cardE_low ho (show k < d.cards.length by omega)
        have h65 : ∀ j, j ≤ n → ∀ E, (EW tabX).call 65 [.ref 4 0, .lst 0 1 (I (d.cards.getD i ⟨default, []⟩).edge), .lst 0 1 (I (d.cards.getD k ⟨default, []⟩).edge), .int .i64 ((m : Int) + j)] ⟨B ++ E, t⟩ = some (.bool (nearB d.wear (cardE d i) (cardE d k) (m + j)), ⟨B ++ E, t⟩) := fun j hj E => by
          have := c65 d ⟨ho.w0, ho.w9⟩ (cardE d i) (cardE d k) (m + j) x1 y1 x2 y2 (by omega) 0 0 1 1 (fun _ => rfl) (fun _ => rfl) 4 _ ⟨B ++ E, t⟩ (old b4' E)
          simpa only [cardE, Int.natCast_add] using this
        simp (disch := omega) only [go_sem, ↓reduceIte, Nat.reduceBEq, Nat.reduceEqDiff, Nat.reduceLT, Nat.reduceLeDiff, Nat.reduceAdd, Nat.reduceMul, Nat.reduceSub, reduceCtorEq, Int.reduceLT, Int.reduceLE, Int.reduceEq, Int.reduceBEq, Int.reduceBNe, Int.reduceToNat, Int.reduceAdd, Int.reduceNeg, Int.reduceSub, hki, hmk, eC, o0, cellC]
        rw [w_rounds_u (fun j => [(6, .int .i64 ((m : Int) + j))]) n (.exit 4) [(6, .int .i64 ((m : Int) + n))] ?_ ?_ ?_ rfl]
        · simp (disch := omega) only [go_sem, ↓reduceIte, Nat.reduceBEq, Nat.reduceEqDiff, Nat.reduceLT, Nat.reduceLeDiff, Nat.reduceAdd, Nat.reduceMul, Nat.reduceSub, reduceCtorEq, Int.reduceLT, Int.reduceLE, Int.reduceEq, Int.reduceBEq, Int.reduceBNe, Int.reduceToNat, Int.reduceAdd, Int.reduceNeg, Int.reduceSub, wrap_i64, cellC, Int.natCast_add]
        · simp only [go_sem, ↓reduceIte, Nat.reduceBEq, Nat.reduceEqDiff, Nat.reduceLT, Nat.reduceLeDiff, Nat.reduceAdd, Nat.reduceMul, Nat.reduceSub, reduceCtorEq, Int.reduceLT, Int.reduceLE, Int.reduceEq, Int.reduceBEq, Int.reduceBNe, Int.reduceToNat, Int.reduceAdd, Int.reduceNeg, Int.reduceSub, Int.add_zero]
        · intro j hj
          have hjs : (m : Int) + j ≤ d.steps := by have := (n1 j hj).1; omega
          have hn := (n1 j hj).2
          have h65' := h65 j (by omega)
          rw [hn] at h65'
          simp (disch := omega) only [go_sem, ↓reduceIte, Nat.reduceBEq, Nat.reduceEqDiff, Nat.reduceLT, Nat.reduceLeDiff, Nat.reduceAdd, Nat.reduceMul, Nat.reduceSub, reduceCtorEq, Int.reduceLT, Int.reduceLE, Int.reduceEq, Int.reduceBEq, Int.reduceBNe, Int.reduceToNat, Int.reduceAdd, Int.reduceNeg, Int.reduceSub, o0, hjs, h65', wrap_i64, cellC, Int.add_assoc]
        · by_cases hS : m + n ≤ d.steps.toNat
          · have hjs : (m : Int) + n ≤ d.steps := by omega
            have hn := n3 hS
            have h65' := h65 n (by omega)
            rw [hn] at h65'
            simp (disch := omega) only [go_sem, ↓reduceIte, Nat.reduceBEq, Nat.reduceEqDiff, Nat.reduceLT, Nat.reduceLeDiff, Nat.reduceAdd, Nat.reduceMul, Nat.reduceSub, reduceCtorEq, Int.reduceLT, Int.reduceLE, Int.reduceEq, Int.reduceBEq, Int.reduceBNe, Int.reduceToNat, Int.reduceAdd, Int.reduceNeg, Int.reduceSub, o0, hjs, h65', wrap_i64, cellC]
          · have hjs : ¬ ((m : Int) + n ≤ d.steps) := by omega
            simp (disch := omega) only [go_sem, ↓reduceIte, Nat.reduceBEq, Nat.reduceEqDiff, Nat.reduceLT, Nat.reduceLeDiff, Nat.reduceAdd, Nat.reduceMul, Nat.reduceSub, reduceCtorEq, Int.reduceLT, Int.reduceLE, Int.reduceEq, Int.reduceBEq, Int.reduceBNe, Int.reduceToNat, Int.reduceAdd, Int.reduceNeg, Int.reduceSub, o0, hjs, wrap_i64, cellC]
      · intro s hR
        simp only [go_sem, ↓reduceIte, Nat.reduceBEq, Nat.reduceEqDiff, Nat.reduceLT, Nat.reduceLeDiff, Nat.reduceAdd, Nat.reduceMul, Nat.reduceSub, reduceCtorEq, Int.reduceLT, Int.reduceLE, Int.reduceEq, Int.reduceBEq, Int.reduceBNe, Int.reduceToNat, Int.reduceAdd, Int.reduceNeg, Int.reduceSub]
      · intro s e1 hR
        subst e1
        refine ⟨(C ++ (cellC (d.cards.getD i ⟨default, []⟩) :: s.1), s.2), ?_, by have e : metI d (i + 1) = metK d i i := funext (metI_succ d i); rw [e]; exact hR⟩
        simp (disch := omega) only [go_sem, ↓reduceIte, Nat.reduceBEq, Nat.reduceEqDiff, Nat.reduceLT, Nat.reduceLeDiff, Nat.reduceAdd, Nat.reduceMul, Nat.reduceSub, reduceCtorEq, Int.reduceLT, Int.reduceLE, Int.reduceEq, Int.reduceBEq, Int.reduceBNe, Int.reduceToNat, Int.reduceAdd, Int.reduceNeg, Int.reduceSub, wrap_i64]
    · intro s hR
      simp only [go_sem, ↓reduceIte, Nat.reduceBEq, Nat.reduceEqDiff, Nat.reduceLT, Nat.reduceLeDiff, Nat.reduceAdd, Nat.reduceMul, Nat.reduceSub, reduceCtorEq, Int.reduceLT, Int.reduceLE, Int.reduceEq, Int.reduceBEq, Int.reduceBNe, Int.reduceToNat, Int.reduceAdd, Int.reduceNeg, Int.reduceSub]
    · intro s e1 hR
      subst e1
      rw [enough_of hc hR]
      have o0 := old b0'
      by_cases hS : s.2 ≤ d.steps.toNat
      · rw [if_pos hS]
        have h1 : ¬ (d.steps < (s.2 : Int)) := by omega
        simp only [go_sem, ↓reduceIte, Nat.reduceBEq, Nat.reduceEqDiff, Nat.reduceLT, Nat.reduceLeDiff, Nat.reduceAdd, Nat.reduceMul, Nat.reduceSub, reduceCtorEq, Int.reduceLT, Int.reduceLE, Int.reduceEq, Int.reduceBEq, Int.reduceBNe, Int.reduceToNat, Int.reduceAdd, Int.reduceNeg, Int.reduceSub, o0, h1]
      · rw [if_neg hS]
        have h1 : d.steps < (s.2 : Int) := by have := hR.2.1; omega
        simp only [go_sem, ↓reduceIte, Nat.reduceBEq, Nat.reduceEqDiff, Nat.reduceLT, Nat.reduceLeDiff, Nat.reduceAdd, Nat.reduceMul, Nat.reduceSub, reduceCtorEq, Int.reduceLT, Int.reduceLE, Int.reduceEq, Int.reduceBEq, Int.reduceBNe, Int.reduceToNat, Int.reduceAdd, Int.reduceNeg, Int.reduceSub, o0, h1]
  · have h60 := c60_no d hd 0 (by omega) 1 0 [] (fun h => absurd rfl h) (by simp) (by rw [enterE_nil]; exact hc) ⟨[.cells (eDc d)], []⟩
    rw [enterE_nil] at h60
    have hb1 : ((checkT d).2.2 != 0) = true := by simpa using hc
    unfold enoughR
    rw [if_neg hc]
    simp only [go_sem, ↓reduceIte, Nat.reduceBEq, Nat.reduceEqDiff, Nat.reduceLT, Nat.reduceLeDiff, Nat.reduceAdd, Nat.reduceMul, Nat.reduceSub, reduceCtorEq, Int.reduceLT, Int.reduceLE, Int.reduceEq, Int.reduceBEq, Int.reduceBNe, Int.reduceToNat, Int.reduceAdd, Int.reduceNeg, Int.reduceSub, eD, eDc, eC_under] at hcl h60 ⊢
    simp only [go_sem, ↓reduceIte, Nat.reduceBEq, Nat.reduceEqDiff, Nat.reduceLT, Nat.reduceLeDiff, Nat.reduceAdd, Nat.reduceMul, Nat.reduceSub, reduceCtorEq, Int.reduceLT, Int.reduceLE, Int.reduceEq, Int.reduceBEq, Int.reduceBNe, Int.reduceToNat, Int.reduceAdd, Int.reduceNeg, Int.reduceSub, eC_clean, h60, hb1]
end Go.Proofs.Ytbfodfepgefloaa
end
section
namespace Go.Proofs.Ytbfodfepgefloaa
open Go.Proofs

theorem flatMap_same {α β : Type} {f g : α → List β} : ∀ {l : List α}, (∀ x ∈ l, f x = g x) → l.flatMap f = l.flatMap g
  | [], _ => rfl
  | x :: l, h => by rw [List.flatMap_cons, List.flatMap_cons, h x (by simp), flatMap_same fun y hy => h y (by simp [hy])]
/-- All truths that begin so, with so many halves more. -/
def dfs (d : Dr) : Nat → List Int → List (List Int)
  | 0, t => [t]
  | n + 1, t => (extK d t.length t (d.cards.length + 1)).flatMap (dfs d n)
theorem extK_len1 {d : Dr} {e : Nat} {t u : List Int} {k : Nat} (h : u ∈ extK d e t k) : u.length = t.length + 1 := by
  unfold extK at h
  obtain ⟨i, _, rfl⟩ := List.mem_map.1 h
  simp
theorem dfs_truths (d : Dr) : ∀ n k, truthsL d (k + n) = (truthsL d k).flatMap (dfs d n)
  | 0, k => by simp [dfs]
  | n + 1, k => by
    rw [show k + (n + 1) = (k + 1) + n by omega, dfs_truths d n (k + 1)]
    have e : truthsL d (k + 1) = (truthsL d k).flatMap fun t => extK d k t (d.cards.length + 1) := rfl
    rw [e, List.flatMap_assoc]
    refine flatMap_same fun t ht => ?_
    rw [dfs, truthsL_mem d k t ht]
theorem dfs_all (d : Dr) : dfs d d.halves.length [] = truthsL d d.halves.length := by
  have := dfs_truths d d.halves.length 0
  rw [Nat.zero_add] at this
  rw [this]; simp [truthsL]

/-- How the fair ones are gathered. -/
def gath (s : List (List Int) × Nat) (t : List Int) : List (List Int) × Nat :=
  if lostN t < s.2 then ([t], lostN t) else if lostN t = s.2 ∧ s.1.getLast? ≠ some t then (s.1 ++ [t], s.2) else s
theorem leastN_app (l : List (List Int)) (t : List Int) (m : Nat) : leastN (l ++ [t]) m = min (leastN l m) (lostN t) := by
  unfold leastN; rw [List.foldl_append]; rfl
/-- What has been gathered of some, no two of the same. -/
theorem gath_of (l : List (List Int)) (H : Nat) (hl : ∀ t ∈ l, lostN t ≤ H) (hn : l.Nodup) :
    l.foldl gath ([], H + 1) = (l.filter fun t => decide (lostN t = leastN l (H + 1)), leastN l (H + 1)) := by
  have key : ∀ k, k ≤ l.length → (l.take k).foldl gath ([], H + 1) = ((l.take k).filter fun t => decide (lostN t = leastN (l.take k) (H + 1)), leastN (l.take k) (H + 1)) := by
    intro k
    induction k with
    | zero => intro _; rfl
    | succ k ih =>
      intro hk
      have hx := List.getElem?_eq_getElem (show k < l.length by omega)
      rw [List.take_add_one, hx, Option.toList_some, List.foldl_append, ih (by omega), leastN_app]
      have hle := fun t ht => (leastN_le (l.take k) (H + 1)).2 t ht
      have hlt := hl _ (List.getElem_mem (show k < l.length by omega))
      generalize hm : leastN (l.take k) (H + 1) = m at *
      have hnew : l[k] ∉ l.take k := fun h => by
        obtain ⟨j, hj, e⟩ := List.mem_take_iff_getElem.1 h
        exact (List.pairwise_iff_getElem.1 hn j k (by omega) (by omega) (by omega)) e
      show gath _ _ = _
      unfold gath
      simp only
      by_cases h1 : lostN l[k] < m
      · rw [if_pos h1, List.filter_append]
        have e1 : min m (lostN l[k]) = lostN l[k] := by omega
        rw [e1]
        have e2 : (l.take k).filter (fun t => decide (lostN t = lostN l[k])) = [] := by
          rw [List.filter_eq_nil_iff]
          intro t ht
          have := hle t ht
          simp; omega
        rw [e2]; simp
      · rw [if_neg h1]
        have e1 : min m (lostN l[k]) = m := by omega
        rw [e1, List.filter_append]
        by_cases h2 : lostN l[k] = m
        · rw [if_pos ⟨h2, fun h => hnew (by
            have := List.mem_of_getLast? h
            exact (List.mem_filter.1 this).1)⟩]
          simp [h2]
        · rw [if_neg (fun h => h2 h.1)]
          simp [h2]
  have := key l.length (Nat.le_refl _)
  rwa [List.take_length] at this
theorem extK_nodup (d : Dr) (e : Nat) (t : List Int) (k : Nat) : (extK d e t k).Nodup := by
  unfold extK
  unfold List.Nodup
  rw [List.pairwise_map]
  refine List.Pairwise.imp ?_ (List.Pairwise.filter _ List.nodup_range)
  intro a b h e
  simp at e
  exact h (by omega)
theorem truthsL_nodup (d : Dr) : ∀ e, (truthsL d e).Nodup
  | 0 => by simp [truthsL]
  | e + 1 => by
    unfold truthsL
    unfold List.Nodup
    rw [List.pairwise_flatMap]
    refine ⟨fun t _ => extK_nodup d e t _, ?_⟩
    refine List.Pairwise.imp ?_ (truthsL_nodup d e)
    intro a b hab x h1 y h2 hxy
    subst hxy
    unfold extK at h1 h2
    obtain ⟨i, _, rfl⟩ := List.mem_map.1 h1
    obtain ⟨j, _, e2⟩ := List.mem_map.1 h2
    have := List.append_inj_left' e2 rfl
    exact hab this.symm
theorem leastN_big (l : List (List Int)) (H : Nat) (hl : ∀ t ∈ l, lostN t ≤ H) (hne : l ≠ []) : leastN l (H + 1) = leastN l H := by
  cases l with
  | nil => exact absurd rfl hne
  | cons t l =>
    have e : ∀ m, leastN (t :: l) m = leastN l (min m (lostN t)) := fun m => rfl
    have := hl t (by simp)
    rw [e, e, show min (H + 1) (lostN t) = min H (lostN t) by omega]
/-- The fair truths, as they are gathered. -/
theorem gath_fair (d : Dr) : (dfs d d.halves.length []).foldl gath ([], d.halves.length + 1) = (fairL d, leastN (truthsL d d.halves.length) d.halves.length) := by
  have hm : ∀ t ∈ truthsL d d.halves.length, lostN t ≤ d.halves.length := fun t ht => by have := lostN_le t; have := truthsL_mem d _ t ht; omega
  rw [dfs_all, gath_of _ _ hm (truthsL_nodup d _), leastN_big _ _ hm (truthsL_ne d _)]
  rfl
end Go.Proofs.Ytbfodfepgefloaa
end
section
namespace Go.Proofs.Ytbfodfepgefloaa
open Go.Proofs

/-- A truth, as the program lays it down. -/
def arrOf (t : List Int) : List Int := t.map (· + 1) ++ List.replicate (4 - t.length) 0
theorem arrOf_len {t : List Int} (h : t.length ≤ 4) : (arrOf t).length = 4 := by simp [arrOf]; omega
/-- What the program has laid: the truth that is made, those that are gathered, the fewest forged. -/
structure FS where
  arr : List Int
  ls : List (List Int)
  least : Nat
  tg : Nat
  z : Nat
  t : List Bool
def OwnQ (sz tag z n : Nat) (t : List Bool) : Prop := (tag = 1 ∧ (n = 0 ∨ z = sz)) ∨ ∃ q, tag = q + 2 ∧ z = sz ∧ t[q]? = some true
def FS.Good (s : FS) (H : Nat) : Prop := OwnQ 4 s.tg s.z s.ls.length s.t ∧ (s.ls = [] → H < s.least) ∧ (∀ u ∈ s.ls, u.length = H) ∧ s.least ≤ H + 1
def eA (t : List Int) : AV := .agg (I (arrOf t))
def FS.l (s : FS) : AV := .lst s.tg s.z (s.ls.map eA)
/-- The heap in which it runs. -/
def HB (P : List ABlk) (r : Nat) (LB : ABlk) (s : FS) (E : List ABlk) : List ABlk :=
  P ++ (.cells [s.l] :: .cells [.int .i64 s.least] :: .cells [.ref r 0] :: .mark :: LB :: .cells [.yld (P.length + 4)] :: .cells (I s.arr) :: .cells [.clo 83 [.ref r 0] []] :: .cells [.clo 84 [] [.ref (P.length + 2) 0, .ref (P.length + 5) 0, .ref (P.length + 6) 0, .ref (P.length + 8) 0, .ref (P.length + 7) 0]] :: E)
/-- What a round does. -/
def RoundOk (P : List ABlk) (r : Nat) (LB : ABlk) (H : Nat) : Prop :=
  ∀ (s : FS) (t : List Int) (E : List ABlk), s.Good H → t.length = H → s.arr = arrOf t → s.ls.length ≤ 700 → ∃ s' J, stepRound tabX (EW tabX) (P.length + 4) [.agg (I s.arr), .int .i64 (lostN t)] ⟨HB P r LB s E, s.t⟩ = some (.bool true, ⟨HB P r LB s' (E ++ J), s'.t⟩) ∧
    s'.arr = s.arr ∧ s'.Good H ∧ (s'.ls, s'.least) = gath (s.ls, s.least) t
theorem gath_len (s : List (List Int) × Nat) (t : List Int) : (gath s t).1.length ≤ s.1.length + 1 := by
  unfold gath
  split
  · simp
  · split
    · simp
    · simp
theorem gathL_len (l : List (List Int)) : ∀ (s : List (List Int) × Nat), (l.foldl gath s).1.length ≤ s.1.length + l.length := by
  induction l with
  | nil => intro s; simp
  | cons t l ih =>
    intro s
    have a := ih (gath s t)
    have b := gath_len s t
    simp only [List.foldl_cons, List.length_cons]
    omega
theorem fitsB_ok (d : Dr) (e c : Nat) (he : e < d.halves.length) (hc : c < d.cards.length) : fitsB d (P1 d d.halves.length) e c = okHC d e c := by
  have key : ∀ s, s < d.steps.toNat → decide (((e, c, s) : Pl) ∈ P1 d d.halves.length) = fitB d e c s := fun s hs => by
    cases hb : fitB d e c s with
    | true =>
      rw [decide_eq_true_eq]
      unfold P1 P2 P3
      exact List.mem_flatMap.2 ⟨e, by simpa using he, List.mem_flatMap.2 ⟨c, by simpa using hc, List.mem_map.2 ⟨s, List.mem_filter.2 ⟨by simpa using hs, hb⟩, rfl⟩⟩⟩
    | false =>
      rw [decide_eq_false_iff_not]
      intro hm
      unfold P1 P2 P3 at hm
      obtain ⟨e', _, hm⟩ := List.mem_flatMap.1 hm
      obtain ⟨c', _, hm⟩ := List.mem_flatMap.1 hm
      obtain ⟨s', hs', heq⟩ := List.mem_map.1 hm
      simp only [Prod.mk.injEq] at heq
      obtain ⟨rfl, rfl, rfl⟩ := heq
      have := (List.mem_filter.1 hs').2
      rw [hb] at this; cases this
  have e1 : fitsB d (P1 d d.halves.length) e c = anyTo (fun s => fitB d e c s) d.steps.toNat := by
    unfold fitsB anyTo
    congr 1
    rw [Bool.eq_iff_iff, allTo_iff, allTo_iff]
    constructor
    · intro h k hk; have := h k hk; rw [key k hk] at this; exact this
    · intro h k hk; have := h k hk; rw [key k hk]; exact this
  rw [e1, Bool.eq_iff_iff, anyTo_iff]
  unfold okHC
  rw [decide_eq_true_eq, List.length_pos_iff, fitsL]
  constructor
  · rintro ⟨k, h1, h2⟩ h
    rw [List.map_eq_nil_iff, List.filter_eq_nil_iff] at h
    exact h k (by simpa using h1) h2
  · intro h
    obtain ⟨x, hx⟩ := List.exists_mem_of_ne_nil _ h
    obtain ⟨k, hk, rfl⟩ := List.mem_map.1 hx
    obtain ⟨h1, h2⟩ := List.mem_filter.1 hk
    exact ⟨k, by simpa using h1, h2⟩
theorem flat_mono (d : Dr) (t : List Int) (n : Nat) : ∀ {j k : Nat}, j ≤ k → ((extK d t.length t j).flatMap (dfs d n)).length ≤ ((extK d t.length t k).flatMap (dfs d n)).length := fun {j k} h => by
  induction k with
  | zero => obtain rfl : j = 0 := by omega
            exact Nat.le_refl _
  | succ k ih =>
    by_cases e : j = k + 1
    · subst e; exact Nat.le_refl _
    · have := ih (by omega)
      rw [extK_succ]
      split
      · rw [List.flatMap_append, List.length_append]; omega
      · exact this
theorem extK_one (d : Dr) (t : List Int) : extK d t.length t 1 = [t ++ [-1]] := by
  rw [extK_succ]; rfl
theorem shr_and' (s i : Nat) (hs : s < 16) (hi : i < 4) : (IntKind.i64.wrap (BitVec.ofInt IntKind.i64.bits (((s : Nat) : Int).fdiv (2 ^ (min i IntKind.i64.bits))) &&& BitVec.ofInt IntKind.i64.bits 1).toNat == 1) = s.testBit i := shr_and ⟨s, hs⟩ ⟨i, hi⟩
theorem hush_84_11 : tabX.hush 84 11 = false := id rfl
/-- Whether the cards of a row are those of a set. -/
def UsedOk (used : Nat) (t : List Int) : Prop := used < 16 ∧ ∀ c, c < 4 → used.testBit c = t.any fun x => x == (c : Int)

theorem lostN_snoc (t : List Int) (x : Int) : lostN (t ++ [x]) = lostN t + (if x = -1 then 1 else 0) := by
  have e : lostL (t ++ [x]) t.length = lostL t t.length := by
    unfold lostL
    congr 1
    apply List.filter_congr
    intro i hi
    have hi := List.mem_range.1 hi
    rw [List.getD_eq_getElem?_getD, List.getElem?_append_left hi, ← List.getD_eq_getElem?_getD]
  have e2 : (t ++ [x]).getD t.length 0 = x := by simp
  unfold lostN
  rw [List.length_append, List.length_singleton, lostL_succ, e, e2]
  split
  · rename_i h; rw [if_pos (by simpa using h)]; simp
  · rename_i h; rw [if_neg (by simpa using h)]; simp
theorem I_set (l : List Int) (i : Nat) (x : Int) : (I l).set i (.int .i64 x) = I (l.set i x) := by unfold I; rw [List.map_set]
theorem splice1 (c : List AV) (off : Nat) (v : AV) : splice c off [v] = c.set off v := id rfl
theorem arr_snoc {t : List Int} (h : t.length < 4) (x : Int) : (arrOf t).set t.length (x + 1) = arrOf (t ++ [x]) := by
  unfold arrOf
  rw [List.set_append_right _ _ (by simp)]
  obtain ⟨k, hk⟩ : ∃ k, 4 - t.length = k + 1 := ⟨4 - t.length - 1, by omega⟩
  have hk2 : 4 - (t ++ [x]).length = k := by simp; omega
  rw [hk2, hk, List.replicate_succ]
  simp
theorem arr_zero {t : List Int} (h : t.length < 4) : (arrOf t).set t.length 0 = arrOf t := by
  unfold arrOf
  rw [List.set_append_right _ _ (by simp)]
  obtain ⟨k, hk⟩ : ∃ k, 4 - t.length = k + 1 := ⟨4 - t.length - 1, by omega⟩
  rw [hk, List.replicate_succ]
  simp
theorem arr_none {t : List Int} (h : t.length < 4) : arrOf (t ++ [-1]) = arrOf t := by
  rw [← arr_snoc h (-1)]; exact arr_zero h
theorem arr_back {t : List Int} (h : t.length < 4) (x : Int) : ((arrOf t).set t.length x).set t.length 0 = arrOf t := by
  rw [List.set_set]; exact arr_zero h
theorem callAV_yld2 (X : Tab) (E : Eng) (l : Nat) (args : List AV) (h : Heap) : callAV X E false (.yld l) args h = stepRound X E l args h := id rfl
theorem c84 (d : Dr) (ho : d.Ok) (P : List ABlk) (r m : Nat) (o : AV) (hr : P[r]? = some (.cells (eDc d ++ [o, .mapr m]))) (hm : P[m]? = some (.map (esL (num (P1 d d.halves.length))))) (LB : ABlk) (hY : RoundOk P r LB d.halves.length) :
    ∀ (n : Nat) (t : List Int) (used : Nat) (s : FS) (E : List ABlk), t.length + n = d.halves.length → UsedOk used t → s.Good d.halves.length → s.arr = arrOf t → s.ls.length + (dfs d n t).length ≤ 700 →
    ∃ s', (EW tabX).call 84 [.int .i64 t.length, .int .i64 used, .int .i64 (lostN t), .ref (P.length + 2) 0, .ref (P.length + 5) 0, .ref (P.length + 6) 0, .ref (P.length + 8) 0, .ref (P.length + 7) 0] ⟨HB P r LB s E, s.t⟩ = some (.bool true, ⟨HB P r LB s' E, s'.t⟩) ∧
      s'.arr = s.arr ∧ s'.Good d.halves.length ∧ (s'.ls, s'.least) = (dfs d n t).foldl gath (s.ls, s.least)
  | 0, t, used, s, E, hn, hu, hg, ha, hl => by
    have hr : P[r]? = some (.cells (eDc d ++ [o, .mapr m])) := hr
    simp only [eDc, List.cons_append, List.nil_append] at hr
    have oR := old hr
    obtain ⟨s', J, hy, h1, h2, h3⟩ := hY s t E hg (by omega) ha (by simp [dfs] at hl; omega)
    refine ⟨s', ?_, h1, h2, h3⟩
    have hth : (t.length : Int) = d.halves.length := by omega
    rw [w_call _ fn_84 rfl]
    simp only [HB, FS.l] at hy ⊢
    have h4 : 4 ≤ s.arr.length := by rw [ha, arrOf_len (by have := ho.h4; omega)]; omega
    have h4' : s.arr.take 4 = s.arr := List.take_of_length_le (by rw [ha, arrOf_len (by have := ho.h4; omega)]; omega)
    simp only [go_sem, ↓reduceIte, Nat.reduceBEq, Nat.reduceEqDiff, Nat.reduceLT, Nat.reduceLeDiff, Nat.reduceAdd, Nat.reduceMul, Nat.reduceSub, reduceCtorEq, Int.reduceLT, Int.reduceLE, Int.reduceEq, Int.reduceBEq, Int.reduceBNe, Int.reduceToNat, Int.reduceAdd, Int.reduceNeg, Int.reduceSub, oR, hth, h4, h4', callAV_yld2, hy, List.take_length_add_append]
  | n + 1, t, used, s, E, hn, hu, hg, ha, hl => by
    have ih := c84 d ho P r m o hr hm LB hY n
    simp only [eDc, List.cons_append, List.nil_append] at hr
    have oR := old hr
    have h4 := ho.h4
    have hc4 := ho.c4
    have ht4 : t.length < 4 := by omega
    have hth : ((t.length : Int) == d.halves.length) = false := by simp; omega
    have hal := arrOf_len (t := t) (by omega)
    rw [w_call _ fn_84 rfl]
    obtain ⟨arr, ls, least, tg, z, st⟩ := s
    simp only at ha hg hl
    subst ha
    simp only [HB, FS.l]
    have hb1 : (t.length : Int) < (arrOf t).length := by omega
    have ih1 := ih (t ++ [-1]) used ⟨arrOf t, ls, least, tg, z, st⟩ E (by simp; omega) (by
      refine ⟨hu.1, fun c hc => ?_⟩
      rw [hu.2 c hc, List.any_append]
      simp) hg (arr_none ht4).symm (by
      have : (dfs d n (t ++ [-1])).length ≤ (dfs d (n + 1) t).length := by
        have := flat_mono d t n (show 1 ≤ d.cards.length + 1 by omega)
        rw [extK_one] at this
        simpa [dfs] using this
      simp only; omega)
    obtain ⟨s1, hc1, a1, g1, f1⟩ := ih1
    simp only [HB, FS.l, List.length_append, List.length_singleton, lostN_snoc, if_true, Int.natCast_add, Int.natCast_one] at hc1
    have hln := lostN_le t
    have ht3 : t.length ≤ 3 := by omega
    simp (disch := omega) only [go_sem, ↓reduceIte, Nat.reduceBEq, Nat.reduceEqDiff, Nat.reduceLT, Nat.reduceLeDiff, Nat.reduceAdd, Nat.reduceMul, Nat.reduceSub, reduceCtorEq, Int.reduceLT, Int.reduceLE, Int.reduceEq, Int.reduceBEq, Int.reduceBNe, Int.reduceToNat, Int.reduceAdd, Int.reduceNeg, Int.reduceSub, oR, hth, hb1, hal, ht4, ht3, splice1, Nat.mul_one, I_set, arr_zero ht4, hc1, wrap_i64]
    generalize hx : (EW tabX).code 84 none (Code.loop _) _ = x
    refine w_rounds_sk hx (fun k (p : FS × List ABlk) => [(41, .int .i64 k)]) (fun p => ⟨HB P r LB p.1 (E ++ p.2), p.1.t⟩) (fun k p => (∃ x, p.1.arr = (arrOf t).set t.length x) ∧ p.1.Good d.halves.length ∧ (p.1.ls, p.1.least) = ((extK d t.length t (k + 1)).flatMap (dfs d n)).foldl gath (ls, least)) d.cards.length (.exit 0) (fun p => [(41, .int .i64 d.cards.length)]) rfl (s1, []) ?_ ?_ ?_ ?_ ?_ ?_
    · simp only [go_sem, ↓reduceIte, Nat.reduceBEq, Nat.reduceEqDiff, Nat.reduceLT, Nat.reduceLeDiff, Nat.reduceAdd, Nat.reduceMul, Nat.reduceSub, reduceCtorEq, Int.reduceLT, Int.reduceLE, Int.reduceEq, Int.reduceBEq, Int.reduceBNe, Int.reduceToNat, Int.reduceAdd, Int.reduceNeg, Int.reduceSub]
    · simp only [HB, FS.l, List.append_nil]
    · refine ⟨⟨0, ?_⟩, g1, ?_⟩
      · simp only [a1]; exact (arr_zero ht4).symm
      · rw [f1, extK_one]; simp
    · intro k p hk hR
      obtain ⟨⟨arr2, ls2, least2, tg2, z2, st2⟩, J⟩ := p
      obtain ⟨⟨x2, ha2⟩, g2, f2⟩ := hR
      simp only at ha2 f2
      subst ha2
      have hki : (k : Int) < d.cards.length := by omega
      have hsh := shr_and ⟨used, hu.1⟩ ⟨k, by omega⟩
      have h83 : ∀ X u, (EW tabX).call 83 [.ref r 0, .int .i64 t.length, .int .i64 k] ⟨P ++ X, u⟩ = some (.bool (okHC d t.length k), ⟨P ++ X, u⟩) := fun X u => by
        rw [← fitsB_ok d t.length k (by omega) hk]
        exact c83 d ⟨by have := ho.s1; omega, ho.s6⟩ (P1 d d.halves.length) t.length k r m o ⟨P ++ X, u⟩ (by simp only [eDc, List.cons_append, List.nil_append]; exact old hr X) (old hm X)
      have hmay : may d t.length t (k + 1) = (!(used.testBit k) && okHC d t.length k) := by rw [hu.2 k (by omega)]; rfl
      have hex := extK_succ d t.length t (k + 1)
      cases hused : used.testBit k with
      | true =>
        simp only [hused] at hsh hmay
        rw [hmay] at hex
        refine ⟨⟨⟨(arrOf t).set t.length x2, ls2, least2, tg2, z2, st2⟩, J⟩, ?_, ⟨x2, rfl⟩, g2, by rw [hex]; exact f2⟩
        simp only [HB, FS.l]
        simp (disch := omega) only [go_sem, ↓reduceIte, Nat.reduceBEq, Nat.reduceEqDiff, Nat.reduceLT, Nat.reduceLeDiff, Nat.reduceAdd, Nat.reduceMul, Nat.reduceSub, reduceCtorEq, Int.reduceLT, Int.reduceLE, Int.reduceEq, Int.reduceBEq, Int.reduceBNe, Int.reduceToNat, Int.reduceAdd, Int.reduceNeg, Int.reduceSub, hki, oR, wrap_i64]
        generalize hgg : (IntKind.i64.wrap _ == (1 : Int)) = bb
        obtain rfl : bb = true := hgg.symm.trans hsh
        simp (disch := omega) only [go_sem, ↓reduceIte, Nat.reduceBEq, Nat.reduceEqDiff, Nat.reduceLT, Nat.reduceLeDiff, Nat.reduceAdd, Nat.reduceMul, Nat.reduceSub, reduceCtorEq, Int.reduceLT, Int.reduceLE, Int.reduceEq, Int.reduceBEq, Int.reduceBNe, Int.reduceToNat, Int.reduceAdd, Int.reduceNeg, Int.reduceSub, wrap_i64]
      | false =>
        simp only [hused] at hsh hmay
        simp only [HB, FS.l]
        cases hfit : okHC d t.length k with
        | false =>
          rw [hmay, hfit] at hex
          refine ⟨⟨⟨(arrOf t).set t.length x2, ls2, least2, tg2, z2, st2⟩, J⟩, ?_, ⟨x2, rfl⟩, g2, by rw [hex]; exact f2⟩
          simp (disch := omega) only [go_sem, ↓reduceIte, Nat.reduceBEq, Nat.reduceEqDiff, Nat.reduceLT, Nat.reduceLeDiff, Nat.reduceAdd, Nat.reduceMul, Nat.reduceSub, reduceCtorEq, Int.reduceLT, Int.reduceLE, Int.reduceEq, Int.reduceBEq, Int.reduceBNe, Int.reduceToNat, Int.reduceAdd, Int.reduceNeg, Int.reduceSub, hki, oR, wrap_i64, h83, hfit]
        | true =>
          rw [hmay, hfit] at hex
          have hex : extK d t.length t (k + 1 + 1) = extK d t.length t (k + 1) ++ [t ++ [(k : Int)]] := by rw [hex]; simp
          simp (disch := omega) only [go_sem, ↓reduceIte, Nat.reduceBEq, Nat.reduceEqDiff, Nat.reduceLT, Nat.reduceLeDiff, Nat.reduceAdd, Nat.reduceMul, Nat.reduceSub, reduceCtorEq, Int.reduceLT, Int.reduceLE, Int.reduceEq, Int.reduceBEq, Int.reduceBNe, Int.reduceToNat, Int.reduceAdd, Int.reduceNeg, Int.reduceSub, hki, oR, wrap_i64, h83, hfit]
          generalize hgg : (IntKind.i64.wrap _ == (1 : Int)) = bb
          obtain rfl : bb = false := hgg.symm.trans hsh
          have hb2 : t.length < ((arrOf t).set t.length x2).length := by simp; omega
          have hb3 : ((arrOf t).set t.length x2).length = 4 := by simp; omega
          simp (disch := omega) only [go_sem, ↓reduceIte, Nat.reduceBEq, Nat.reduceEqDiff, Nat.reduceLT, Nat.reduceLeDiff, Nat.reduceAdd, Nat.reduceMul, Nat.reduceSub, reduceCtorEq, Int.reduceLT, Int.reduceLE, Int.reduceEq, Int.reduceBEq, Int.reduceBNe, Int.reduceToNat, Int.reduceAdd, Int.reduceNeg, Int.reduceSub, oR, wrap_i64, ht4, ht3, hb3, splice1, Nat.mul_one, I_set, List.set_set, arr_snoc ht4, hush_84_11]
          generalize hcf : List.all (conflicts _ _) _ = cf
          obtain rfl : cf = true := by rw [← hcf]; kernel_rfl
          generalize hbb : boundAll _ _ _ = bb
          obtain rfl : bb = true := by rw [← hbb]; kernel_rfl
          generalize List.replicate _ ABlk.none = N
          generalize List.replicate _ false = F
          generalize hog : IntKind.i64.wrap _ = ug
          obtain rfl : ug = ((used ||| 2 ^ k : Nat) : Int) := hog.symm.trans (or_bit ⟨used, hu.1⟩ ⟨k, by omega⟩)
          have hlen2 : ls2.length + (dfs d n (t ++ [(k : Int)])).length ≤ 700 := by
            have e1 : ls2.length ≤ ls.length + ((extK d t.length t (k + 1)).flatMap (dfs d n)).length := by
              have := gathL_len ((extK d t.length t (k + 1)).flatMap (dfs d n)) (ls, least)
              rw [← f2] at this; exact this
            have e2 := flat_mono d t n (show k + 1 + 1 ≤ d.cards.length + 1 by omega)
            rw [hex, List.flatMap_append, List.length_append] at e2
            simp only [List.flatMap_cons, List.flatMap_nil, List.append_nil] at e2
            have e3 : (dfs d (n + 1) t).length = ((extK d t.length t (d.cards.length + 1)).flatMap (dfs d n)).length := rfl
            omega
          have ih2 := ih (t ++ [(k : Int)]) (used ||| 2 ^ k) ⟨arrOf (t ++ [(k : Int)]), ls2, least2, tg2, z2, st2 ++ F⟩ (E ++ (J ++ N)) (by simp; omega) (by
            refine ⟨or_lt ⟨used, hu.1⟩ ⟨k, by omega⟩, fun c hc => ?_⟩
            have := or_test ⟨used, hu.1⟩ ⟨k, by omega⟩ ⟨c, hc⟩
            simp only [Fin.mk.injEq] at this
            rw [this, hu.2 c hc, List.any_append]
            congr 1
            simp only [List.any_cons, List.any_nil, Bool.or_false]
            rw [Bool.eq_iff_iff]; simp; omega) (by
            obtain ⟨q1, q2⟩ := g2
            refine ⟨?_, q2⟩
            rcases q1 with h | ⟨q, h1, h2, h3⟩
            · exact .inl h
            · exact .inr ⟨q, h1, h2, old h3 F⟩) rfl hlen2
          obtain ⟨s3, hc3, a3, g3, f3⟩ := ih2
          have hne : ((k : Int) = -1) = False := by simp
          simp only [HB, FS.l, List.length_append, List.length_singleton, lostN_snoc, hne, if_false, Nat.add_zero, Int.natCast_add, Int.natCast_one] at hc3
          refine ⟨(s3, J ++ N), ?_, ⟨(k : Int) + 1, by rw [a3, arr_snoc ht4]⟩, g3, ?_⟩
          · simp (disch := omega) only [go_sem, ↓reduceIte, Nat.reduceBEq, Nat.reduceEqDiff, Nat.reduceLT, Nat.reduceLeDiff, Nat.reduceAdd, Nat.reduceMul, Nat.reduceSub, reduceCtorEq, Int.reduceLT, Int.reduceLE, Int.reduceEq, Int.reduceBEq, Int.reduceBNe, Int.reduceToNat, Int.reduceAdd, Int.reduceNeg, Int.reduceSub, hc3, wrap_i64]
          · rw [f3, hex, List.flatMap_append, List.foldl_append, ← f2]
            simp only [List.flatMap_cons, List.flatMap_nil, List.append_nil]
    · intro p hR
      simp only [go_sem, ↓reduceIte, Nat.reduceBEq, Nat.reduceEqDiff, Nat.reduceLT, Nat.reduceLeDiff, Nat.reduceAdd, Nat.reduceMul, Nat.reduceSub, reduceCtorEq, Int.reduceLT, Int.reduceLE, Int.reduceEq, Int.reduceBEq, Int.reduceBNe, Int.reduceToNat, Int.reduceAdd, Int.reduceNeg, Int.reduceSub]
    · intro p e1 hR
      subst e1
      obtain ⟨⟨arr2, ls2, least2, tg2, z2, st2⟩, J⟩ := p
      obtain ⟨⟨x2, ha2⟩, g2, f2⟩ := hR
      simp only at ha2 f2
      subst ha2
      have hb3 : ((arrOf t).set t.length x2).length = 4 := by simp; omega
      refine ⟨⟨arrOf t, ls2, least2, tg2, z2, st2⟩, ?_, rfl, g2, f2⟩
      simp only [HB, FS.l]
      simp (disch := omega) only [go_sem, ↓reduceIte, Nat.reduceBEq, Nat.reduceEqDiff, Nat.reduceLT, Nat.reduceLeDiff, Nat.reduceAdd, Nat.reduceMul, Nat.reduceSub, reduceCtorEq, Int.reduceLT, Int.reduceLE, Int.reduceEq, Int.reduceBEq, Int.reduceBNe, Int.reduceToNat, Int.reduceAdd, Int.reduceNeg, Int.reduceSub, oR, wrap_i64, ht4, ht3, hb3, splice1, Nat.mul_one, I_set, arr_back ht4, List.take_length_add_append]
end Go.Proofs.Ytbfodfepgefloaa
end
