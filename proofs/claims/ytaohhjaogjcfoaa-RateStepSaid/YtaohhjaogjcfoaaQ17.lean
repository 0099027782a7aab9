/- Parts of the proof, joined: The examples of layer 8: their houses, and what is said of them. What the laws' own tests compute: valid, some, rows of numbers, houses without some entries. Truths of a house, of one without some entries, of one with others: in plain lists. A house with one entry more; least and greatest numbers of lists. A house whose days come in the other order, in plain lists. A house whose entries are those of some rates, in plain lists. A house with a greater step and wider spans, and one without steps, in plain lists. Conditions: those of each law. -/
import Derived.Test.YtaohhjaogjcfoaaQ16
import Derived.KernelRfl
set_option linter.unusedSimpArgs false
set_option linter.unusedVariables false
section
namespace Go.Proofs.Ytaohhjaogjcfoaa
open Go.Proofs

def lima : ByteArray := ⟨#[108, 105, 109, 97]⟩
def cadiz : ByteArray := ⟨#[99, 97, 100, 105, 122]⟩
def hX (far : Int) : Ho := ⟨2, [(10, 14), (8, 16)], 2, [⟨lima, 1, 0⟩, ⟨cadiz, 3, 1⟩], [⟨0, 0, 26, 30⟩, ⟨1, 1, 18, far⟩], 2, 3, 4⟩
theorem c35 (a b : Int) (h : Heap) : callPure (EW tabX) 35 [.int .i64 a, .int .i64 b] h = some (eSp (a, b), h) := by
  rw [callPure_eq, w_call _ fn_35 rfl]
  simp only [go_sem, ↓reduceIte, Nat.reduceBEq, Nat.reduceEqDiff, Nat.reduceLT, Nat.reduceLeDiff, Nat.reduceAdd, Nat.reduceMul, Nat.reduceSub, reduceCtorEq, Int.reduceLT, Int.reduceLE, Int.reduceEq, Int.reduceBEq, Int.reduceBNe, Int.reduceToNat, Int.reduceAdd, Int.reduceNeg, Int.reduceSub, eSp]
theorem c34 (far : Int) (hf : -1 ≤ far) (h : Heap) : callPure (EW tabX) 34 [.int .i64 far] h = some (eH (hX far), h) := by
  have hm : (if far > -1 then far else -1) = far := by split <;> omega
  rw [callPure_eq, w_call _ fn_34 rfl]
  simp only [go_sem, ↓reduceIte, Nat.reduceBEq, Nat.reduceEqDiff, Nat.reduceLT, Nat.reduceLeDiff, Nat.reduceAdd, Nat.reduceMul, Nat.reduceSub, reduceCtorEq, Int.reduceLT, Int.reduceLE, Int.reduceEq, Int.reduceBEq, Int.reduceBNe, Int.reduceToNat, Int.reduceAdd, Int.reduceNeg, Int.reduceSub, c35, eSp, eH, eHc, hX, hm, List.map_cons, List.map_nil, eAg, eEn, lima, cadiz]
  skip
theorem fits_X (far : Int) : (hX far).fits := ⟨fun _ => rfl, fun _ => rfl, fun _ => rfl, by simp [hX], by simp [hX], by simp [hX], by intro c hc; simp only [hX, List.mem_cons, List.mem_nil_iff, or_false] at hc; rcases hc with rfl | rfl <;> decide⟩
theorem k18 (h : Heap) : callPure (EW tabX) 18 [eH (hX (-1))] h = some (v3 ([12, 10], 5, 0), h) := (c18 _ (fits_X _) h).trans (congrArg (fun v => some (v3 v, h)) (by kernel_rfl))
theorem k21 (h : Heap) : callPure (EW tabX) 21 [eH (hX (-1)), .int .i64 1] h = some (vS ((10, 14), 0), h) := (c21 _ (fits_X _) 1 h).trans (congrArg (fun v => some (vS v, h)) (by kernel_rfl))
theorem k21b (h : Heap) : callPure (EW tabX) 21 [eH (hX 24), .int .i64 0] h = some (vS ((0, 0), 8), h) := (c21 _ (fits_X _) 0 h).trans (congrArg (fun v => some (vS v, h)) (by kernel_rfl))
theorem k24 (h : Heap) : callPure (EW tabX) 24 [eH (hX (-1)), .int .i64 0, .int .i64 1, .int .i64 21] h = some (vS ((20, 28), 0), h) := (c24 _ (fits_X _) 0 1 21 h).trans (congrArg (fun v => some (vS v, h)) (by kernel_rfl))
theorem k26 (h : Heap) : callPure (EW tabX) 26 [eH (hX (-1)), .int .i64 1] h = some (vS ((15, 21), 0), h) := (c26 _ (fits_X _) 1 h).trans (congrArg (fun v => some (vS v, h)) (by kernel_rfl))
theorem k28 (h : Heap) : callPure (EW tabX) 28 [eH (hX 17), .int .i64 1] h = some (v2 (0, 0), h) := (c28 _ (fits_X _) 1 h).trans (congrArg (fun v => some (v2 v, h)) (by kernel_rfl))
theorem k28b (h : Heap) : callPure (EW tabX) 28 [eH (hX 24), .int .i64 1] h = some (v2 (2, 0), h) := (c28 _ (fits_X _) 1 h).trans (congrArg (fun v => some (v2 v, h)) (by kernel_rfl))
theorem k28c (h : Heap) : callPure (EW tabX) 28 [eH (hX (-1)), .int .i64 1] h = some (v2 (0, 2), h) := (c28 _ (fits_X _) 1 h).trans (congrArg (fun v => some (v2 v, h)) (by kernel_rfl))
theorem k30 (h : Heap) : callPure (EW tabX) 30 [eH (hX 24)] h = some (vL ([0], 0), h) := (c30 _ (fits_X _) h).trans (congrArg (fun v => some (vL v, h)) (by kernel_rfl))
theorem k30b (h : Heap) : callPure (EW tabX) 30 [eH (hX 17)] h = some (vL ([], 0), h) := (c30 _ (fits_X _) h).trans (congrArg (fun v => some (vL v, h)) (by kernel_rfl))
theorem k32 (h : Heap) : callPure (EW tabX) 32 [eH (hX (-1)), .int .i64 0, .int .i64 30] h = some (tup3 (0, 26, 0), h) := (c32 _ (fits_X _) 0 30 h).trans (congrArg (fun v => some (tup3 v, h)) (by kernel_rfl))
set_option maxRecDepth 100000 in
theorem c23 (h : Heap) : callPure (EW tabX) 23 [] h = some (.bool true, h) := by
  have i1 := c34 (-1) (by omega)
  have i2 := c34 17 (by omega)
  have i3 := c34 24 (by omega)
  have q1 := k18
  have q2 := k21
  have q3 := k21b
  have q4 := k24
  have q5 := k26
  have q6 := k28
  have q7 := k28b
  have q8 := k28c
  have q9 := k30
  have q10 := k30b
  have q11 := k32
  have e1 := c20 [12, 10] [12, 10] 1 1 (fun _ => rfl) (fun _ => rfl) (by decide) (by decide)
  have e2 := c20 [0] [0] 1 1 (fun _ => rfl) (fun _ => rfl) (by decide) (by decide)
  have cl := fun (far : Int) => eH_clean (hX far)
  have un : ∀ (far : Int) n, (eH (hX far)).under n = true := fun far n => by simp only [eH, eHc, go_sem, ↓reduceIte, Nat.reduceBEq, Nat.reduceEqDiff, Nat.reduceLT, Nat.reduceLeDiff, Nat.reduceAdd, Nat.reduceMul, Nat.reduceSub, reduceCtorEq, Int.reduceLT, Int.reduceLE, Int.reduceEq, Int.reduceBEq, Int.reduceBNe, Int.reduceToNat, Int.reduceAdd, Int.reduceNeg, Int.reduceSub]
  have eX : ∀ far : Int, eH (hX far) = .agg [.int .i64 2, .lst 0 2 ((hX far).rates.map eSp), .int .i64 2, .lst 0 3 ((hX far).agents.map eAg), .lst 0 4 ((hX far).entries.map eEn)] := fun far => rfl
  rw [callPure_eq, w_call _ fn_23 rfl]
  simp only [eX, v3, vI, vS, v2, vL, tup3, eSp, I_c, I_nil, decide_true] at *
  simp only [go_sem, ↓reduceIte, Nat.reduceBEq, Nat.reduceEqDiff, Nat.reduceLT, Nat.reduceLeDiff, Nat.reduceAdd, Nat.reduceMul, Nat.reduceSub, reduceCtorEq, Int.reduceLT, Int.reduceLE, Int.reduceEq, Int.reduceBEq, Int.reduceBNe, Int.reduceToNat, Int.reduceAdd, Int.reduceNeg, Int.reduceSub, zipFrom_nil, List.append_eq, i1, i2, i3, q1, q2, q3, q4, q5, q6, q7, q8, q9, q10, q11, e1, e2, c35, eSp, I_c, I_nil, aggBin, eqCells2, decide_true]
  skip
end Go.Proofs.Ytaohhjaogjcfoaa
end
section
namespace Go.Proofs.Ytaohhjaogjcfoaa
open Go.Proofs

theorem c36 (d : Ho) (hd : d.fits) (h : Heap) : callPure (EW tabX) 36 [eH d] h = some (.bool (checkE d == 0), h) := by
  have h17 := c17 d hd
  have hcl := eH_clean d
  have hce : (checkH d).2.2 = checkE d := rfl
  simp only [eH, eHc, tup3, hce] at h17 hcl
  rw [callPure_eq, w_call _ fn_36 rfl]
  simp only [go_sem, ↓reduceIte, Nat.reduceBEq, Nat.reduceEqDiff, Nat.reduceLT, Nat.reduceLeDiff, Nat.reduceAdd, Nat.reduceMul, Nat.reduceSub, reduceCtorEq, Int.reduceLT, Int.reduceLE, Int.reduceEq, Int.reduceBEq, Int.reduceBNe, Int.reduceToNat, Int.reduceAdd, Int.reduceNeg, Int.reduceSub, eH, eHc, h17]
def someE (d : Ho) : Bool := (checkE d == 0) && decide (0 < (truthsL d []).length)
theorem c44 (d : Ho) (hd : d.fits) (h : Heap) : callPure (EW tabX) 44 [eH d] h = some (.bool (someE d), h) := by
  have h36 := c36 d hd
  have hcl := eH_clean d
  rw [callPure_eq, w_call _ fn_44 rfl]
  simp only [eH, eHc] at h36 hcl
  unfold someE
  by_cases h0 : checkE d = 0
  · have h45 := c45 d hd (ok_of_E h0) [] 0 (fun h => absurd rfl h) (by decide)
    simp only [eH, eHc, vR, I_nil] at h45
    have hb : (checkE d == 0) = true := by simpa using h0
    have hl : decide ((0 : Int) < (truthsL d []).length) = decide (0 < (truthsL d []).length) := by rw [Bool.eq_iff_iff]; simp
    simp only [go_sem, ↓reduceIte, Nat.reduceBEq, Nat.reduceEqDiff, Nat.reduceLT, Nat.reduceLeDiff, Nat.reduceAdd, Nat.reduceMul, Nat.reduceSub, reduceCtorEq, Int.reduceLT, Int.reduceLE, Int.reduceEq, Int.reduceBEq, Int.reduceBNe, Int.reduceToNat, Int.reduceAdd, Int.reduceNeg, Int.reduceSub, eH, eHc, h36, h45, hb]
    first | (rw [hl]; done) | skip
  · have hb : (checkE d == 0) = false := by simpa using h0
    simp only [go_sem, ↓reduceIte, Nat.reduceBEq, Nat.reduceEqDiff, Nat.reduceLT, Nat.reduceLeDiff, Nat.reduceAdd, Nat.reduceMul, Nat.reduceSub, reduceCtorEq, Int.reduceLT, Int.reduceLE, Int.reduceEq, Int.reduceBEq, Int.reduceBNe, Int.reduceToNat, Int.reduceAdd, Int.reduceNeg, Int.reduceSub, eH, eHc, h36, hb]

def allTo (p : Nat → Bool) (n : Nat) : Bool := (List.range n).all p
theorem allTo_succ (p : Nat → Bool) (n : Nat) : allTo p (n + 1) = (allTo p n && p n) := by simp [allTo, List.range_succ]
theorem allTo_at {p : Nat → Bool} {n : Nat} (h : allTo p n = true) {k : Nat} (hk : k < n) : p k = true := List.all_eq_true.1 h k (by simpa using hk)
theorem allTo_false {p : Nat → Bool} : ∀ {n : Nat}, allTo p n = false → ∃ k, k < n ∧ allTo p k = true ∧ p k = false
  | 0, h => by simp [allTo] at h
  | n + 1, h => by
    rw [allTo_succ] at h
    cases hp : allTo p n with
    | true => rw [hp, Bool.true_and] at h; exact ⟨n, by omega, hp, h⟩
    | false => obtain ⟨k, h1, h2⟩ := allTo_false hp; exact ⟨k, by omega, h2⟩
def lastAt (l : List Int) : Nat → Int
  | 0 => -1
  | k + 1 => l.getD k 0
theorem lastAt_zero (l : List Int) : lastAt l 0 = -1 := rfl
theorem lastAt_succ (l : List Int) (k : Nat) : lastAt l (k + 1) = l.getD k 0 := rfl
def risAt (l : List Int) (below : Int) (k : Nat) : Bool := !(decide (l.getD k 0 ≤ lastAt l k) || decide (below ≤ l.getD k 0))
def risB (l : List Int) (below : Int) : Bool := allTo (risAt l below) l.length
theorem c41 (l : List Int) (below : Int) (z : Nat) (hz : l ≠ [] → z = 1) (hl : l.length < 1000000000000000000) (h : Heap) :
    callPure (EW tabX) 41 [.lst 0 z (I l), .int .i64 below] h = some (.bool (risB l below), h) := by
  rw [callPure_eq, w_call _ fn_41 rfl]
  simp only [go_sem, ↓reduceIte, Nat.reduceBEq, Nat.reduceEqDiff, Nat.reduceLT, Nat.reduceLeDiff, Nat.reduceAdd, Nat.reduceMul, Nat.reduceSub, reduceCtorEq, Int.reduceLT, Int.reduceLE, Int.reduceEq, Int.reduceBEq, Int.reduceBNe, Int.reduceToNat, Int.reduceAdd, Int.reduceNeg, Int.reduceSub]
  have idx : ∀ k, k < l.length → l[k]? = some (l.getD k 0) ∧ (k : Int) < l.length ∧ z = 1 := fun k hk =>
    ⟨by rw [List.getD_eq_getElem?_getD, List.getElem?_eq_getElem hk]; rfl, by omega, hz (by intro e; rw [e] at hk; simp at hk)⟩
  cases ha : allTo (risAt l below) l.length with
  | true =>
    rw [w_rounds_u (fun k => [(5, .int .i64 (lastAt l k)), (6, .int .i64 k)]) l.length (.exit 0) [(5, .int .i64 (lastAt l l.length)), (6, .int .i64 l.length)] ?_ ?_ ?_ rfl]
    · simp only [go_sem, ↓reduceIte, Nat.reduceBEq, Nat.reduceEqDiff, Nat.reduceLT, Nat.reduceLeDiff, Nat.reduceAdd, Nat.reduceMul, Nat.reduceSub, reduceCtorEq, Int.reduceLT, Int.reduceLE, Int.reduceEq, Int.reduceBEq, Int.reduceBNe, Int.reduceToNat, Int.reduceAdd, Int.reduceNeg, Int.reduceSub, risB, ha]
    · simp only [go_sem, ↓reduceIte, Nat.reduceBEq, Nat.reduceEqDiff, Nat.reduceLT, Nat.reduceLeDiff, Nat.reduceAdd, Nat.reduceMul, Nat.reduceSub, reduceCtorEq, Int.reduceLT, Int.reduceLE, Int.reduceEq, Int.reduceBEq, Int.reduceBNe, Int.reduceToNat, Int.reduceAdd, Int.reduceNeg, Int.reduceSub, lastAt_zero]
    · intro k hk
      obtain ⟨h1, h2, h3⟩ := idx k hk
      have hr := allTo_at ha hk
      have hr : (decide (l.getD k 0 ≤ lastAt l k) || decide (below ≤ l.getD k 0)) = false := by simpa only [risAt, Bool.not_eq_true'] using hr
      simp (disch := omega) only [go_sem, ↓reduceIte, Nat.reduceBEq, Nat.reduceEqDiff, Nat.reduceLT, Nat.reduceLeDiff, Nat.reduceAdd, Nat.reduceMul, Nat.reduceSub, reduceCtorEq, Int.reduceLT, Int.reduceLE, Int.reduceEq, Int.reduceBEq, Int.reduceBNe, Int.reduceToNat, Int.reduceAdd, Int.reduceNeg, Int.reduceSub, h1, h2, h3, hr, wrap_i64, lastAt_succ]
    · simp only [go_sem, ↓reduceIte, Nat.reduceBEq, Nat.reduceEqDiff, Nat.reduceLT, Nat.reduceLeDiff, Nat.reduceAdd, Nat.reduceMul, Nat.reduceSub, reduceCtorEq, Int.reduceLT, Int.reduceLE, Int.reduceEq, Int.reduceBEq, Int.reduceBNe, Int.reduceToNat, Int.reduceAdd, Int.reduceNeg, Int.reduceSub]
  | false =>
    obtain ⟨n, hn, g1, g2⟩ := allTo_false ha
    rw [w_rounds_u (fun k => [(5, .int .i64 (lastAt l k)), (6, .int .i64 k)]) n .ret [(4, .bool false), (5, .int .i64 (lastAt l n)), (6, .int .i64 n)] ?_ ?_ ?_ rfl]
    · simp only [go_sem, ↓reduceIte, Nat.reduceBEq, Nat.reduceEqDiff, Nat.reduceLT, Nat.reduceLeDiff, Nat.reduceAdd, Nat.reduceMul, Nat.reduceSub, reduceCtorEq, Int.reduceLT, Int.reduceLE, Int.reduceEq, Int.reduceBEq, Int.reduceBNe, Int.reduceToNat, Int.reduceAdd, Int.reduceNeg, Int.reduceSub, risB, ha]
    · simp only [go_sem, ↓reduceIte, Nat.reduceBEq, Nat.reduceEqDiff, Nat.reduceLT, Nat.reduceLeDiff, Nat.reduceAdd, Nat.reduceMul, Nat.reduceSub, reduceCtorEq, Int.reduceLT, Int.reduceLE, Int.reduceEq, Int.reduceBEq, Int.reduceBNe, Int.reduceToNat, Int.reduceAdd, Int.reduceNeg, Int.reduceSub, lastAt_zero]
    · intro k hk
      obtain ⟨h1, h2, h3⟩ := idx k (by omega)
      have hr := allTo_at g1 hk
      have hr : (decide (l.getD k 0 ≤ lastAt l k) || decide (below ≤ l.getD k 0)) = false := by simpa only [risAt, Bool.not_eq_true'] using hr
      simp (disch := omega) only [go_sem, ↓reduceIte, Nat.reduceBEq, Nat.reduceEqDiff, Nat.reduceLT, Nat.reduceLeDiff, Nat.reduceAdd, Nat.reduceMul, Nat.reduceSub, reduceCtorEq, Int.reduceLT, Int.reduceLE, Int.reduceEq, Int.reduceBEq, Int.reduceBNe, Int.reduceToNat, Int.reduceAdd, Int.reduceNeg, Int.reduceSub, h1, h2, h3, hr, wrap_i64, lastAt_succ]
    · obtain ⟨h1, h2, h3⟩ := idx n hn
      have hr : (decide (l.getD n 0 ≤ lastAt l n) || decide (below ≤ l.getD n 0)) = true := by simpa only [risAt, Bool.not_eq_false'] using g2
      simp (disch := omega) only [go_sem, ↓reduceIte, Nat.reduceBEq, Nat.reduceEqDiff, Nat.reduceLT, Nat.reduceLeDiff, Nat.reduceAdd, Nat.reduceMul, Nat.reduceSub, reduceCtorEq, Int.reduceLT, Int.reduceLE, Int.reduceEq, Int.reduceBEq, Int.reduceBNe, Int.reduceToNat, Int.reduceAdd, Int.reduceNeg, Int.reduceSub, h1, h2, h3, hr]
def fewB (a b : List Int) : Bool := if a.length = b.length then ltB a b else decide (a.length < b.length)
theorem c42 (a b : List Int) (za zb : Nat) (hza : a ≠ [] → za = 1) (hzb : b ≠ [] → zb = 1) (la : a.length < 1000000000000000000) (lb : b.length < 1000000000000000000) (h : Heap) :
    callPure (EW tabX) 42 [.lst 0 za (I a), .lst 0 zb (I b)] h = some (.bool (fewB a b), h) := by
  have h66 := c66 a b za zb hza hzb la lb
  rw [callPure_eq, w_call _ fn_42 rfl]
  unfold fewB
  by_cases hl : a.length = b.length
  · have hb : ((a.length : Int) != b.length) = false := by simp [hl]
    simp only [go_sem, ↓reduceIte, Nat.reduceBEq, Nat.reduceEqDiff, Nat.reduceLT, Nat.reduceLeDiff, Nat.reduceAdd, Nat.reduceMul, Nat.reduceSub, reduceCtorEq, Int.reduceLT, Int.reduceLE, Int.reduceEq, Int.reduceBEq, Int.reduceBNe, Int.reduceToNat, Int.reduceAdd, Int.reduceNeg, Int.reduceSub, h66, hb, hl, bne_self_eq_false]
  · have hb : ((a.length : Int) != b.length) = true := by simp; omega
    have hd : decide ((a.length : Int) < b.length) = decide (a.length < b.length) := by rw [Bool.eq_iff_iff]; simp
    simp only [go_sem, ↓reduceIte, Nat.reduceBEq, Nat.reduceEqDiff, Nat.reduceLT, Nat.reduceLeDiff, Nat.reduceAdd, Nat.reduceMul, Nat.reduceSub, reduceCtorEq, Int.reduceLT, Int.reduceLE, Int.reduceEq, Int.reduceBEq, Int.reduceBNe, Int.reduceToNat, Int.reduceAdd, Int.reduceNeg, Int.reduceSub, h66, hb, hl, hd]
def inS (a b : Int × Int) : Bool := decide (a.1 ≥ b.1) && decide (a.2 ≤ b.2)
theorem c43 (a b : Int × Int) (h : Heap) : callPure (EW tabX) 43 [eSp a, eSp b] h = some (.bool (inS a b), h) := by
  rw [callPure_eq, w_call _ fn_43 rfl]
  unfold inS
  by_cases h1 : a.1 ≥ b.1 <;> by_cases h2 : a.2 ≤ b.2
  all_goals simp only [go_sem, ↓reduceIte, Nat.reduceBEq, Nat.reduceEqDiff, Nat.reduceLT, Nat.reduceLeDiff, Nat.reduceAdd, Nat.reduceMul, Nat.reduceSub, reduceCtorEq, Int.reduceLT, Int.reduceLE, Int.reduceEq, Int.reduceBEq, Int.reduceBNe, Int.reduceToNat, Int.reduceAdd, Int.reduceNeg, Int.reduceSub, eSp, h1, h2, ge_iff_le]
  all_goals first | done | simp_all

def butTo (d : Ho) (l : List Int) : Nat → List En
  | 0 => []
  | k + 1 => if (l.any fun x => x == (k : Int)) = true then butTo d l k else butTo d l k ++ [d.en0 k]
theorem butTo_len (d : Ho) (l : List Int) : ∀ k, (butTo d l k).length ≤ k
  | 0 => by simp [butTo]
  | k + 1 => by
    have := butTo_len d l k
    unfold butTo
    split
    · omega
    · rw [List.length_append, List.length_singleton]; omega
def Ho.but (d : Ho) (l : List Int) : Ho := { d with entries := butTo d l d.entries.length, ze := zT 4 (butTo d l d.entries.length).length }
def ownE (T0 : List Bool) (l : List En) : AV := .lst (tagT T0 l.length) (zT 4 l.length) (l.map eEn)
theorem ownE_clean (T0 : List Bool) (l : List En) : (ownE T0 l).clean = some (.lst 0 (zT 4 l.length) (l.map eEn)) := by simp only [ownE, go_sem, ↓reduceIte, Nat.reduceBEq, Nat.reduceEqDiff, Nat.reduceLT, Nat.reduceLeDiff, Nat.reduceAdd, Nat.reduceMul, Nat.reduceSub, reduceCtorEq, Int.reduceLT, Int.reduceLE, Int.reduceEq, Int.reduceBEq, Int.reduceBNe, Int.reduceToNat, Int.reduceAdd, Int.reduceNeg, Int.reduceSub]
theorem ownE_under (T0 : List Bool) (n : Nat) (l : List En) : (ownE T0 l).under n = true := by simp only [ownE, go_sem, ↓reduceIte, Nat.reduceBEq, Nat.reduceEqDiff, Nat.reduceLT, Nat.reduceLeDiff, Nat.reduceAdd, Nat.reduceMul, Nat.reduceSub, reduceCtorEq, Int.reduceLT, Int.reduceLE, Int.reduceEq, Int.reduceBEq, Int.reduceBNe, Int.reduceToNat, Int.reduceAdd, Int.reduceNeg, Int.reduceSub]
theorem ownE_var (T0 : List Bool) (l : List En) : (ownE T0 l).var = true := rfl
theorem ownE_one (T0 : List Bool) (l : List En) : (ownE T0 l).one = true := rfl
theorem ownE_cells (T0 : List Bool) (l : List En) : (ownE T0 l).cells = [ownE T0 l] := rfl
theorem ownE_nil (T0 : List Bool) : ownE T0 [] = .lst 1 0 [] := rfl
theorem ownE_app (T0 : List Bool) (l : List En) (x : En) (hl : l.length < 1000) (B : List ABlk) :
    appendAV tabX 24 (T T0 l.length).length ⟨B, T T0 l.length⟩ (ownE T0 l) (.lst 1 4 [eEn x]) = some (ownE T0 (l ++ [x]), ⟨B, T T0 (l ++ [x]).length⟩) := by
  have := append_step (X := tabX) (t := 24) (e := 58) (sz := 4) T0 l.length B (zT 4 l.length) 1 4 (l.map eEn) [eEn x] (by simp only [go_sem, ↓reduceIte, Nat.reduceBEq, Nat.reduceEqDiff, Nat.reduceLT, Nat.reduceLeDiff, Nat.reduceAdd, Nat.reduceMul, Nat.reduceSub, reduceCtorEq, Int.reduceLT, Int.reduceLE, Int.reduceEq, Int.reduceBEq, Int.reduceBNe, Int.reduceToNat, Int.reduceAdd, Int.reduceNeg, Int.reduceSub]) (by simp only [go_sem, ↓reduceIte, Nat.reduceBEq, Nat.reduceEqDiff, Nat.reduceLT, Nat.reduceLeDiff, Nat.reduceAdd, Nat.reduceMul, Nat.reduceSub, reduceCtorEq, Int.reduceLT, Int.reduceLE, Int.reduceEq, Int.reduceBEq, Int.reduceBNe, Int.reduceToNat, Int.reduceAdd, Int.reduceNeg, Int.reduceSub])
    (by rcases Nat.eq_zero_or_pos l.length with e | e; exact .inl ⟨e, by rw [List.length_map, e]⟩; exact .inr (zT_pos e)) (.inl rfl) (by omega) (by simp only [go_sem, ↓reduceIte, Nat.reduceBEq, Nat.reduceEqDiff, Nat.reduceLT, Nat.reduceLeDiff, Nat.reduceAdd, Nat.reduceMul, Nat.reduceSub, reduceCtorEq, Int.reduceLT, Int.reduceLE, Int.reduceEq, Int.reduceBEq, Int.reduceBNe, Int.reduceToNat, Int.reduceAdd, Int.reduceNeg, Int.reduceSub]; omega) (by simp only [go_sem, ↓reduceIte, Nat.reduceBEq, Nat.reduceEqDiff, Nat.reduceLT, Nat.reduceLeDiff, Nat.reduceAdd, Nat.reduceMul, Nat.reduceSub, reduceCtorEq, Int.reduceLT, Int.reduceLE, Int.reduceEq, Int.reduceBEq, Int.reduceBNe, Int.reduceToNat, Int.reduceAdd, Int.reduceNeg, Int.reduceSub]; omega) (by simp only [go_sem, ↓reduceIte, Nat.reduceBEq, Nat.reduceEqDiff, Nat.reduceLT, Nat.reduceLeDiff, Nat.reduceAdd, Nat.reduceMul, Nat.reduceSub, reduceCtorEq, Int.reduceLT, Int.reduceLE, Int.reduceEq, Int.reduceBEq, Int.reduceBNe, Int.reduceToNat, Int.reduceAdd, Int.reduceNeg, Int.reduceSub]) (by simp only [go_sem, ↓reduceIte, Nat.reduceBEq, Nat.reduceEqDiff, Nat.reduceLT, Nat.reduceLeDiff, Nat.reduceAdd, Nat.reduceMul, Nat.reduceSub, reduceCtorEq, Int.reduceLT, Int.reduceLE, Int.reduceEq, Int.reduceBEq, Int.reduceBNe, Int.reduceToNat, Int.reduceAdd, Int.reduceNeg, Int.reduceSub, eEn])
  have e : (l ++ [x]).length = l.length + 1 := by simp
  have e2 : (l ++ [x]).map eEn = l.map eEn ++ [eEn x] := by simp
  rw [ownE, this, ownE, e, e2]; rfl
def zHc : List AV := [.int .i64 0, .lst 1 0 [], .int .i64 0, .lst 1 0 [], .lst 1 0 []]
theorem c40 (d : Ho) (hd : d.fits) (he : d.entries.length < 1000) (l : List Int) (z : Nat) (hz : l ≠ [] → z = 1) (hl : l.length < 1000000000000000000) (h : Heap) : callPure (EW tabX) 40 [eH d, .lst 0 z (I l)] h = some (eH (d.but l), h) := by
  have hcl := eH_clean d
  rw [callPure_eq, w_call _ fn_40 rfl]
  simp only [go_sem, ↓reduceIte, Nat.reduceBEq, Nat.reduceEqDiff, Nat.reduceLT, Nat.reduceLeDiff, Nat.reduceAdd, Nat.reduceMul, Nat.reduceSub, reduceCtorEq, Int.reduceLT, Int.reduceLE, Int.reduceEq, Int.reduceBEq, Int.reduceBNe, Int.reduceToNat, Int.reduceAdd, Int.reduceNeg, Int.reduceSub, eH, eHc]
  have hb := butTo_len d l
  rw [w_rounds_h (fun k => [(5, ownE [] (butTo d l k)), (6, .int .i64 k)]) (fun k => ⟨[.cells (eHc d), .cells zHc], T [] (butTo d l k).length⟩) d.entries.length (.exit 0) [(5, ownE [] (butTo d l d.entries.length)), (6, .int .i64 d.entries.length)] ⟨[.cells (eHc d), .cells zHc], T [] (butTo d l d.entries.length).length⟩ ?_ ?_ ?_ ?_ rfl]
  · simp only [go_sem, ↓reduceIte, Nat.reduceBEq, Nat.reduceEqDiff, Nat.reduceLT, Nat.reduceLeDiff, Nat.reduceAdd, Nat.reduceMul, Nat.reduceSub, reduceCtorEq, Int.reduceLT, Int.reduceLE, Int.reduceEq, Int.reduceBEq, Int.reduceBNe, Int.reduceToNat, Int.reduceAdd, Int.reduceNeg, Int.reduceSub, eHc, zHc, ownE, Ho.but]
    skip
  · simp only [go_sem, ↓reduceIte, Nat.reduceBEq, Nat.reduceEqDiff, Nat.reduceLT, Nat.reduceLeDiff, Nat.reduceAdd, Nat.reduceMul, Nat.reduceSub, reduceCtorEq, Int.reduceLT, Int.reduceLE, Int.reduceEq, Int.reduceBEq, Int.reduceBNe, Int.reduceToNat, Int.reduceAdd, Int.reduceNeg, Int.reduceSub, butTo, ownE_nil]
  · simp only [go_sem, ↓reduceIte, Nat.reduceBEq, Nat.reduceEqDiff, Nat.reduceLT, Nat.reduceLeDiff, Nat.reduceAdd, Nat.reduceMul, Nat.reduceSub, reduceCtorEq, Int.reduceLT, Int.reduceLE, Int.reduceEq, Int.reduceBEq, Int.reduceBNe, Int.reduceToNat, Int.reduceAdd, Int.reduceNeg, Int.reduceSub, eHc, zHc, butTo]
  · intro k hk
    have hki : (k : Int) < d.entries.length := by omega
    have hx := List.getElem?_eq_getElem hk
    have hze := hd.ze (by intro e; rw [e] at hk; simp at hk)
    have e0 : d.en0 k = d.entries[k] := by simp [Ho.en0, hk]
    have h89 := c89 l k z hz hl
    have hap := ownE_app [] (butTo d l k) d.entries[k] (by have := hb k; omega)
    have hst : butTo d l (k + 1) = if (l.any fun x => x == (k : Int)) = true then butTo d l k else butTo d l k ++ [d.entries[k]] := by rw [← e0]; rfl
    rw [hst]
    generalize d.entries[k] = x at *
    cases h2 : l.any (fun x => x == (k : Int)) with
    | true =>
      rw [h2] at h89
      simp (disch := omega) only [go_sem, ↓reduceIte, Nat.reduceBEq, Nat.reduceEqDiff, Nat.reduceLT, Nat.reduceLeDiff, Nat.reduceAdd, Nat.reduceMul, Nat.reduceSub, reduceCtorEq, Int.reduceLT, Int.reduceLE, Int.reduceEq, Int.reduceBEq, Int.reduceBNe, Int.reduceToNat, Int.reduceAdd, Int.reduceNeg, Int.reduceSub, eHc, hki, hze, h89, wrap_i64]
    | false =>
      rw [h2] at h89
      simp only [eEn] at hap
      simp (disch := omega) only [go_sem, ↓reduceIte, Nat.reduceBEq, Nat.reduceEqDiff, Nat.reduceLT, Nat.reduceLeDiff, Nat.reduceAdd, Nat.reduceMul, Nat.reduceSub, reduceCtorEq, Int.reduceLT, Int.reduceLE, Int.reduceEq, Int.reduceBEq, Int.reduceBNe, Int.reduceToNat, Int.reduceAdd, Int.reduceNeg, Int.reduceSub, eHc, hki, hze, h89, hx, eEn, hap, wrap_i64]
  · simp only [go_sem, ↓reduceIte, Nat.reduceBEq, Nat.reduceEqDiff, Nat.reduceLT, Nat.reduceLeDiff, Nat.reduceAdd, Nat.reduceMul, Nat.reduceSub, reduceCtorEq, Int.reduceLT, Int.reduceLE, Int.reduceEq, Int.reduceBEq, Int.reduceBNe, Int.reduceToNat, Int.reduceAdd, Int.reduceNeg, Int.reduceSub, eHc, Int.lt_irrefl]
end Go.Proofs.Ytaohhjaogjcfoaa
end
section
namespace Go.Proofs.Ytaohhjaogjcfoaa
open Go.Proofs

theorem ratesL_congr {h k : Ho} (hr : h.rates = k.rates) (hs : h.step = k.step) : ∀ n, ratesL h n = ratesL k n
  | 0 => rfl
  | n + 1 => by
    unfold ratesL
    rw [ratesL_congr hr hs n]
    congr 1
    funext t
    unfold extR mayR Ho.width Ho.hi Ho.lo
    rw [hr, hs]
theorem agreesB_congr {h k : Ho} (ha : h.agents = k.agents) (x : En) (r : List Int) : agreesB h x r = agreesB k x r := by
  unfold agreesB Ho.ag0; rw [ha]
theorem range_all {α : Type} (l : List α) (d : α) (p : α → Bool) : ∀ k, k ≤ l.length → (List.range k).all (fun i => p (l.getD i d)) = (l.take k).all p
  | 0, _ => by simp
  | k + 1, hk => by
    have hx := List.getElem?_eq_getElem (show k < l.length by omega)
    rw [List.range_succ, List.all_append, range_all l d p k (by omega), List.take_add_one, List.all_append, hx]
    simp [List.getD_eq_getElem?_getD, hx]
theorem agreeTo_nil (h : Ho) (r : List Int) : agreeTo h [] r h.entries.length = h.entries.all fun x => agreesB h x r := by
  unfold agreeTo
  have := range_all h.entries ⟨0, 0, 0, 0⟩ (fun x => agreesB h x r) h.entries.length (Nat.le_refl _)
  rw [List.take_length] at this
  rw [← this]
  apply List.all_congr rfl
  intro i
  simp [Ho.en0]
theorem truthsL_nil (h : Ho) : truthsL h [] = (ratesL h h.rates.length).filter fun r => h.entries.all fun x => agreesB h x r := by
  unfold truthsL
  congr 1
  funext r
  exact agreeTo_nil h r
theorem butTo_all (d : Ho) (l : List Int) (p : En → Bool) : ∀ k, (butTo d l k).all p = (List.range k).all fun i => (l.any fun x => x == (i : Int)) || p (d.en0 i)
  | 0 => rfl
  | k + 1 => by
    have e : butTo d l (k + 1) = if (l.any fun x => x == (k : Int)) = true then butTo d l k else butTo d l k ++ [d.en0 k] := rfl
    rw [List.range_succ, List.all_append, ← butTo_all d l p k, e]
    simp only [List.all_cons, List.all_nil, Bool.and_true]
    cases h : l.any (fun x => x == (k : Int)) with
    | true => rw [if_pos rfl, Bool.true_or, Bool.and_true]
    | false => rw [if_neg (by decide), Bool.false_or, List.all_append]; simp only [List.all_cons, List.all_nil, Bool.and_true]
theorem but_truths (d : Ho) (l : List Int) : truthsL (d.but l) [] = truthsL d l := by
  rw [truthsL_nil]
  unfold truthsL
  have e : ratesL (d.but l) (d.but l).rates.length = ratesL d d.rates.length := ratesL_congr (h := d.but l) (k := d) rfl rfl d.rates.length
  rw [e]
  congr 1
  funext r
  show (butTo d l d.entries.length).all (fun x => agreesB (d.but l) x r) = _
  rw [butTo_all]
  rfl
theorem butTo_mem (d : Ho) (l : List Int) : ∀ k, k ≤ d.entries.length → ∀ x ∈ butTo d l k, x ∈ d.entries
  | 0, _, x, hx => by cases hx
  | k + 1, hk, x, hx => by
    have ih := butTo_mem d l k (by omega)
    unfold butTo at hx
    split at hx
    · exact ih x hx
    · rcases List.mem_append.1 hx with h | h
      · exact ih x h
      · simp at h
        subst h
        rw [Ho.en0, List.getD_eq_getElem?_getD, List.getElem?_eq_getElem (show k < d.entries.length by omega)]
        exact List.getElem_mem _
theorem Ho.Ok.but {d : Ho} (ho : d.Ok) (l : List Int) : (d.but l).Ok :=
  ⟨ho.d1, ho.d3, ho.rd, ho.sp, ho.st, ho.a3, ho.ag, ho.an, by have := butTo_len d l d.entries.length; have := ho.e5; show (butTo d l d.entries.length).length ≤ 5; omega,
    fun x hx => ho.en x (butTo_mem d l d.entries.length (Nat.le_refl _) x hx)⟩
theorem fits_but {d : Ho} (hd : d.fits) (l : List Int) : (d.but l).fits :=
  ⟨hd.zr, hd.za, fun h => zT_pos (List.length_pos_iff.2 h), hd.lr, hd.la, by have := butTo_len d l d.entries.length; have := hd.le; show (butTo d l d.entries.length).length < _; omega, hd.na⟩
theorem checkE_ok {d : Ho} (ho : d.Ok) : checkE d = 0 := by unfold checkE; rw [check_of_ok ho]
theorem firstV_but {d : Ho} (ho : d.Ok) (l : List Int) : (firstV (d.but l)).2.2 = if someB d l = true then 0 else 8 := by
  unfold firstV knownE someB
  rw [checkE_ok (ho.but l), if_pos rfl, but_truths]
  by_cases h : truthsL d l = []
  · rw [if_pos h, if_neg (by decide)]
    have : ¬ 0 < (truthsL d l).length := by rw [h]; decide
    rw [decide_eq_false this]; rfl
  · rw [if_neg h, if_pos rfl]
    have := List.length_pos_iff.2 h
    rw [decide_eq_true this]; rfl

def chkF (n : Nat) : Bool :=
  ((List.range (2 ^ n)).all fun s => (List.range (2 ^ n)).all fun t => fewB (bitsL s n) (bitsL t n) == lexB (rkW n s) (rkW n t)) && (List.range (2 ^ n)).all fun s => risB (bitsL s n) n
theorem chkF_all : (List.range 6).all chkF = true := by kernel_rfl
theorem chkF_of {n : Nat} (hn : n ≤ 5) : chkF n = true := List.all_eq_true.1 chkF_all n (by simp; omega)
theorem few_rk {n : Nat} (hn : n ≤ 5) {s t : Nat} (hs : s < 2 ^ n) (ht : t < 2 ^ n) : fewB (bitsL s n) (bitsL t n) = lexB (rkW n s) (rkW n t) := by
  have h := chkF_of hn
  unfold chkF at h
  simp only [Bool.and_eq_true] at h
  have := List.all_eq_true.1 (List.all_eq_true.1 h.1 s (by simpa using hs)) t (by simpa using ht)
  simpa using this
theorem ris_bits {n : Nat} (hn : n ≤ 5) {s : Nat} (hs : s < 2 ^ n) : risB (bitsL s n) n = true := by
  have h := chkF_of hn
  unfold chkF at h
  simp only [Bool.and_eq_true] at h
  exact List.all_eq_true.1 h.2 s (by simpa using hs)
theorem bitsL_mod (s n : Nat) : bitsL (s % 2 ^ n) n = bitsL s n := by
  unfold bitsL
  congr 1
  apply List.filter_congr
  intro i hi
  have := List.mem_range.1 hi
  rw [Nat.testBit_mod_two_pow]
  simp [this]
theorem wrong_few {d : Ho} (ho : d.Ok) : ((wrongR d).2 = 0 ∧ ∃ t, t < 2 ^ d.entries.length ∧ (wrongR d).1 = bitsL t d.entries.length ∧ someB d (wrongR d).1 = true ∧ ∀ s, someB d (bitsL s d.entries.length) = true → fewB (bitsL s d.entries.length) (wrongR d).1 = false) ∨
    (wrongR d = ([], 9) ∧ ∀ s, someB d (bitsL s d.entries.length) = false) := by
  have he := ho.e5
  obtain ⟨b1, b2⟩ := best_inv d he (2 ^ d.entries.length) (Nat.le_refl _)
  have hpos : 0 < 2 ^ d.entries.length := Nat.pow_pos (by decide)
  rw [wrongR_best d he]
  cases hb : bestW d d.entries.length (2 ^ d.entries.length) with
  | some t =>
    obtain ⟨t1, t2, t3⟩ := b2 t hb
    refine .inl ⟨rfl, t, t1, rfl, t2, fun s hs => ?_⟩
    have hlt : s % 2 ^ d.entries.length < 2 ^ d.entries.length := Nat.mod_lt _ hpos
    rw [← bitsL_mod] at hs ⊢
    show fewB _ (bitsL t d.entries.length) = false
    rw [few_rk he hlt t1]
    exact t3 _ hlt hs
  | none =>
    refine .inr ⟨rfl, fun s => ?_⟩
    rw [← bitsL_mod]
    exact b1 hb _ (Nat.mod_lt _ hpos)
end Go.Proofs.Ytaohhjaogjcfoaa
end
section
namespace Go.Proofs.Ytaohhjaogjcfoaa
open Go.Proofs

theorem joinS_bd (s : Int × Int) (n : Int) : (joinS s n).1 ≤ s.1 ∧ (joinS s n).1 ≤ n ∧ s.2 ≤ (joinS s n).2 ∧ n ≤ (joinS s n).2 := by
  unfold joinS
  simp only
  refine ⟨?_, ?_, ?_, ?_⟩ <;> split <;> omega
theorem foldJ_bd (f : List Int → Int) : ∀ (l : List (List Int)) (s : Int × Int), ((l.foldl (fun s r => joinS s (f r)) s).1 ≤ s.1 ∧ s.2 ≤ (l.foldl (fun s r => joinS s (f r)) s).2) ∧ ∀ r ∈ l, (l.foldl (fun s r => joinS s (f r)) s).1 ≤ f r ∧ f r ≤ (l.foldl (fun s r => joinS s (f r)) s).2
  | [], s => ⟨⟨Int.le_refl _, Int.le_refl _⟩, fun r hr => by cases hr⟩
  | t :: l, s => by
    obtain ⟨⟨a, b⟩, c⟩ := foldJ_bd f l (joinS s (f t))
    obtain ⟨e1, e2, e3, e4⟩ := joinS_bd s (f t)
    rw [List.foldl_cons]
    refine ⟨⟨by omega, by omega⟩, fun r hr => ?_⟩
    rcases List.mem_cons.1 hr with rfl | hr
    · exact ⟨by omega, by omega⟩
    · exact c r hr
theorem foldJ_at (f : List Int → Int) : ∀ (l : List (List Int)) (s : Int × Int), ((l.foldl (fun s r => joinS s (f r)) s).1 = s.1 ∨ ∃ r ∈ l, (l.foldl (fun s r => joinS s (f r)) s).1 = f r) ∧ ((l.foldl (fun s r => joinS s (f r)) s).2 = s.2 ∨ ∃ r ∈ l, (l.foldl (fun s r => joinS s (f r)) s).2 = f r)
  | [], s => ⟨.inl rfl, .inl rfl⟩
  | t :: l, s => by
    obtain ⟨a, b⟩ := foldJ_at f l (joinS s (f t))
    rw [List.foldl_cons]
    have j1 : (joinS s (f t)).1 = s.1 ∨ (joinS s (f t)).1 = f t := by unfold joinS; simp only; split <;> simp
    have j2 : (joinS s (f t)).2 = s.2 ∨ (joinS s (f t)).2 = f t := by unfold joinS; simp only; split <;> simp
    constructor
    · rcases a with a | ⟨r, hr, a⟩
      · rcases j1 with j | j
        · exact .inl (a.trans j)
        · exact .inr ⟨t, by simp, a.trans j⟩
      · exact .inr ⟨r, by simp [hr], a⟩
    · rcases b with b | ⟨r, hr, b⟩
      · rcases j2 with j | j
        · exact .inl (b.trans j)
        · exact .inr ⟨t, by simp, b.trans j⟩
      · exact .inr ⟨r, by simp [hr], b⟩
theorem foldS_bd (f : List Int → Int) {l : List (List Int)} {r : List Int} (hr : r ∈ l) : (foldS f l).1 ≤ f r ∧ f r ≤ (foldS f l).2 := by
  cases l with
  | nil => cases hr
  | cons t l =>
    obtain ⟨⟨a, b⟩, c⟩ := foldJ_bd f l (f t, f t)
    have e : foldS f (t :: l) = l.foldl (fun s r => joinS s (f r)) (f t, f t) := rfl
    rw [e]
    rcases List.mem_cons.1 hr with rfl | hr
    · exact ⟨a, b⟩
    · exact c r hr
theorem foldS_at (f : List Int → Int) {l : List (List Int)} (hl : l ≠ []) : (∃ r ∈ l, (foldS f l).1 = f r) ∧ ∃ r ∈ l, (foldS f l).2 = f r := by
  cases l with
  | nil => exact absurd rfl hl
  | cons t l =>
    obtain ⟨a, b⟩ := foldJ_at f l (f t, f t)
    have e : foldS f (t :: l) = l.foldl (fun s r => joinS s (f r)) (f t, f t) := rfl
    rw [e]
    constructor
    · rcases a with a | ⟨r, hr, a⟩
      · exact ⟨t, by simp, a⟩
      · exact ⟨r, by simp [hr], a⟩
    · rcases b with b | ⟨r, hr, b⟩
      · exact ⟨t, by simp, b⟩
      · exact ⟨r, by simp [hr], b⟩
theorem foldS_sub (f : List Int → Int) {l k : List (List Int)} (hk : k ≠ []) (hs : ∀ r ∈ k, r ∈ l) : inS (foldS f k) (foldS f l) = true := by
  obtain ⟨⟨r, hr, e1⟩, ⟨u, hu, e2⟩⟩ := foldS_at f hk
  have a := (foldS_bd f (hs r hr)).1
  have b := (foldS_bd f (hs u hu)).2
  unfold inS
  rw [e1, e2, decide_eq_true a, decide_eq_true b]; rfl

def Ho.more (d : Ho) (x : En) : Ho := { d with entries := d.entries ++ [x], ze := 4 }
theorem fits_more {d : Ho} (hd : d.fits) (x : En) (hl : d.entries.length < 4398046511104) : (d.more x).fits :=
  ⟨hd.zr, hd.za, fun _ => rfl, hd.lr, hd.la, by show (d.entries ++ [x]).length < _; simp; omega, hd.na⟩
theorem more_len (d : Ho) (x : En) : (d.more x).entries.length = d.entries.length + 1 := by show (d.entries ++ [x]).length = _; simp
theorem more_en (d : Ho) (x : En) {i : Nat} (hi : i < d.entries.length) : (d.more x).en0 i = d.en0 i := by
  show (d.entries ++ [x]).getD i _ = d.entries.getD i _
  rw [List.getD_eq_getElem?_getD, List.getElem?_append_left hi, List.getD_eq_getElem?_getD]
theorem more_last (d : Ho) (x : En) : (d.more x).en0 d.entries.length = x := by
  show (d.entries ++ [x]).getD _ _ = x
  rw [List.getD_eq_getElem?_getD, List.getElem?_append_right (Nat.le_refl _)]; simp
theorem all_range_congr {p q : Nat → Bool} {n : Nat} (h : ∀ i, i < n → p i = q i) : (List.range n).all p = (List.range n).all q := by
  rw [Bool.eq_iff_iff, List.all_eq_true, List.all_eq_true]
  constructor <;> intro hh i hi
  · rw [← h i (List.mem_range.1 hi)]; exact hh i hi
  · rw [h i (List.mem_range.1 hi)]; exact hh i hi
theorem any_bits (s n : Nat) (k : Nat) : ((bitsL s n).any fun x => x == (k : Int)) = (decide (k < n) && s.testBit k) := by
  by_cases hk : k < n
  · rw [bitsL_any s n k hk]; simp [hk]
  · rw [decide_eq_false hk, Bool.false_and]
    rw [List.any_eq_false]
    intro x hx
    unfold bitsL at hx
    obtain ⟨i, hi, rfl⟩ := List.mem_map.1 hx
    have := List.mem_range.1 (List.mem_filter.1 hi).1
    simp
    omega
theorem agreeTo_bits (h : Ho) (s n m : Nat) (r : List Int) (hm : h.entries.length ≤ n) : agreeTo h (bitsL s n) r h.entries.length = agreeTo h (bitsL s h.entries.length) r h.entries.length := by
  unfold agreeTo
  apply all_range_congr
  intro i hi
  rw [any_bits, any_bits]
  simp [hi, show i < n by omega]
theorem more_agree (d : Ho) (x : En) (s : Nat) (r : List Int) : agreeTo (d.more x) (bitsL s (d.entries.length + 1)) r (d.entries.length + 1) = (agreeTo d (bitsL s d.entries.length) r d.entries.length && (s.testBit d.entries.length || agreesB d x r)) := by
  rw [agreeTo_succ, more_last, any_bits]
  have e1 : agreeTo (d.more x) (bitsL s (d.entries.length + 1)) r d.entries.length = agreeTo d (bitsL s d.entries.length) r d.entries.length := by
    unfold agreeTo
    apply all_range_congr
    intro i hi
    rw [any_bits, any_bits, more_en d x hi]
    have e2 : agreesB (d.more x) (d.en0 i) r = agreesB d (d.en0 i) r := agreesB_congr rfl _ r
    rw [e2]
    simp [hi, show i < d.entries.length + 1 by omega]
  have e3 : agreesB (d.more x) x r = agreesB d x r := agreesB_congr rfl x r
  rw [e1, e3]
  simp
theorem more_rates (d : Ho) (x : En) : ratesL (d.more x) (d.more x).rates.length = ratesL d d.rates.length := ratesL_congr (h := d.more x) (k := d) rfl rfl d.rates.length
theorem more_truths (d : Ho) (x : En) (s : Nat) : truthsL (d.more x) (bitsL s (d.entries.length + 1)) = (truthsL d (bitsL s d.entries.length)).filter fun r => s.testBit d.entries.length || agreesB d x r := by
  unfold truthsL
  rw [more_rates, more_len, List.filter_filter]
  apply List.filter_congr
  intro r _
  rw [more_agree, Bool.and_comm]
theorem more_nil (d : Ho) (x : En) : truthsL (d.more x) [] = (truthsL d []).filter fun r => agreesB d x r := by
  have := more_truths d x 0
  rw [bitsL_zero, bitsL_zero] at this
  rw [this]
  simp
theorem some_of_more {d : Ho} {x : En} {s : Nat} (h : someB (d.more x) (bitsL s (d.entries.length + 1)) = true) : someB d (bitsL s d.entries.length) = true := by
  unfold someB at h ⊢
  rw [more_truths] at h
  have h := of_decide_eq_true h
  have := List.length_filter_le (fun r => s.testBit d.entries.length || agreesB d x r) (truthsL d (bitsL s d.entries.length))
  exact decide_eq_true (by omega)
theorem more_of_some {d : Ho} (x : En) {t : Nat} (ht : t < 2 ^ d.entries.length) (h : someB d (bitsL t d.entries.length) = true) : someB (d.more x) (bitsL (t ||| 2 ^ d.entries.length) (d.entries.length + 1)) = true := by
  have hb : (t ||| 2 ^ d.entries.length).testBit d.entries.length = true := by simp
  have he : bitsL (t ||| 2 ^ d.entries.length) d.entries.length = bitsL t d.entries.length := by
    unfold bitsL
    congr 1
    apply List.filter_congr
    intro i hi
    have := List.mem_range.1 hi
    rw [Nat.testBit_or, Nat.testBit_two_pow]
    have : ¬ d.entries.length = i := by omega
    simp [this]
  unfold someB at h ⊢
  rw [more_truths, he, hb]
  have e : (truthsL d (bitsL t d.entries.length)).filter (fun r => true || agreesB d x r) = truthsL d (bitsL t d.entries.length) := by
    rw [List.filter_eq_self]
    intro r _
    rfl
  rw [e]
  exact h
theorem bits_more (s n : Nat) : (bitsL s n).length ≤ (bitsL s (n + 1)).length := by
  rw [bitsL_succ]; split
  · simp
  · exact Nat.le_refl _
theorem few_len {a b : List Int} (h : fewB a b = false) : b.length ≤ a.length := by
  unfold fewB at h
  split at h
  · omega
  · have := of_decide_eq_false h; omega
theorem wrong_more {d : Ho} {x : En} (ho : d.Ok) (hm : (d.more x).Ok) : (wrongR d).2 = (wrongR (d.more x)).2 ∧ (wrongR d).1.length ≤ (wrongR (d.more x)).1.length := by
  rcases wrong_few ho with ⟨a1, t, a2, a3, a4, a5⟩ | ⟨a1, a2⟩
  · rcases wrong_few hm with ⟨b1, s, b2, b3, b4, b5⟩ | ⟨b1, b2⟩
    · rw [more_len] at b2 b3
      refine ⟨by rw [a1, b1], ?_⟩
      rw [b3] at b4
      have c := a5 s (some_of_more b4)
      have := few_len c
      have := bits_more s d.entries.length
      rw [b3]; omega
    · exfalso
      rw [a3] at a4
      have := more_of_some x a2 a4
      rw [more_len] at b2
      rw [b2] at this; cases this
  · rcases wrong_few hm with ⟨b1, s, b2, b3, b4, b5⟩ | ⟨b1, b2⟩
    · exfalso
      rw [more_len] at b3
      rw [b3] at b4
      have := some_of_more b4
      rw [a2] at this; cases this
    · rw [a1, b1]; exact ⟨rfl, Nat.le_refl _⟩
end Go.Proofs.Ytaohhjaogjcfoaa
end
section
namespace Go.Proofs.Ytaohhjaogjcfoaa
open Go.Proofs

theorem getD_snoc (u : List Int) (x : Int) (k : Nat) : (u ++ [x]).getD k 0 = if k < u.length then u.getD k 0 else if k = u.length then x else 0 := by
  rw [List.getD_eq_getElem?_getD, List.getElem?_append]
  split
  · rw [List.getD_eq_getElem?_getD]
  · rename_i h
    split
    · rename_i h2; subst h2; simp
    · rename_i h2
      have : k - u.length ≠ 0 := by omega
      rw [List.getElem?_eq_none (by simp; omega)]; rfl
def Steady (h : Ho) (n : Nat) (t : List Int) : Prop := t.length = n ∧ (∀ k, k < n → h.lo k ≤ t.getD k 0 ∧ t.getD k 0 ≤ h.hi k) ∧ ∀ k, k + 1 < n → inR (t.getD (k + 1) 0 - t.getD k 0) (0 - h.step) h.step = true
theorem mem_ratesL (h : Ho) : ∀ (n : Nat) (t : List Int), t ∈ ratesL h n ↔ Steady h n t
  | 0, t => by
    simp only [ratesL, List.mem_singleton, Steady]
    constructor
    · rintro rfl; exact ⟨rfl, fun k hk => by omega, fun k hk => by omega⟩
    · exact fun hh => List.eq_nil_of_length_eq_zero hh.1
  | n + 1, t => by
    have e : t ∈ ratesL h (n + 1) ↔ ∃ u ∈ ratesL h n, ∃ i, i < h.width n ∧ mayR h n u i = true ∧ t = u ++ [h.lo n + (i : Int)] := by
      rw [ratesL, List.mem_flatMap]
      constructor
      · rintro ⟨u, hu, ht⟩
        obtain ⟨i, hi, rfl⟩ := List.mem_map.1 ht
        obtain ⟨h1, h2⟩ := List.mem_filter.1 hi
        exact ⟨u, hu, i, List.mem_range.1 h1, h2, rfl⟩
      · rintro ⟨u, hu, i, h1, h2, rfl⟩
        exact ⟨u, hu, List.mem_map.2 ⟨i, List.mem_filter.2 ⟨List.mem_range.2 h1, h2⟩, rfl⟩⟩
    rw [e]
    constructor
    · rintro ⟨u, hu, i, hi, hm, rfl⟩
      obtain ⟨h1, h2, h3⟩ := (mem_ratesL h n u).1 hu
      unfold Ho.width at hi
      refine ⟨by simp [h1], fun k hk => ?_, fun k hk => ?_⟩
      · rw [getD_snoc]
        split
        · exact h2 k (by omega)
        · rw [if_pos (by omega)]
          obtain rfl : k = n := by omega
          omega
      · rw [getD_snoc, getD_snoc]
        rw [if_pos (show k < u.length by omega)]
        split
        · exact h3 k (by omega)
        · rw [if_pos (by omega)]
          obtain rfl : n = k + 1 := by omega
          unfold mayR at hm
          rw [decide_eq_false (by omega), Bool.false_or] at hm
          exact hm
    · rintro ⟨h1, h2, h3⟩
      have hn := h2 n (by omega)
      have ht : t = t.take n ++ [t.getD n 0] := by
        have hx : t[n]? = some t[n] := List.getElem?_eq_getElem (by omega)
        have := List.take_add_one (l := t) (i := n)
        rw [List.take_of_length_le (by omega), hx] at this
        rw [List.getD_eq_getElem?_getD, hx]
        exact this
      have hg : ∀ k, k < n → (t.take n).getD k 0 = t.getD k 0 := fun k hk => by
        rw [List.getD_eq_getElem?_getD, List.getElem?_take_of_lt hk, ← List.getD_eq_getElem?_getD]
      refine ⟨t.take n, (mem_ratesL h n _).2 ⟨by simp; omega, fun k hk => by rw [hg k hk]; exact h2 k (by omega), fun k hk => by rw [hg k (by omega), hg _ hk]; exact h3 k (by omega)⟩, (t.getD n 0 - h.lo n).toNat, ?_, ?_, ?_⟩
      · unfold Ho.width; omega
      · unfold mayR
        by_cases h0 : n = 0
        · rw [decide_eq_true h0]; rfl
        · rw [decide_eq_false h0, Bool.false_or, hg _ (by omega)]
          have := h3 (n - 1) (by omega)
          have e2 : n - 1 + 1 = n := by omega
          rw [e2] at this
          have e3 : h.lo n + (((t.getD n 0 - h.lo n).toNat : Nat) : Int) = t.getD n 0 := by omega
          rw [e3]; exact this
      · have e3 : h.lo n + (((t.getD n 0 - h.lo n).toNat : Nat) : Int) = t.getD n 0 := by omega
        rw [e3]; exact ht
theorem ratesL_nodup (h : Ho) : ∀ n, (ratesL h n).Nodup
  | 0 => by simp [ratesL]
  | n + 1 => by
    rw [ratesL, List.Nodup, List.pairwise_flatMap]
    refine ⟨fun u _ => ?_, ?_⟩
    · unfold extR
      rw [List.pairwise_map]
      refine (List.Pairwise.filter _ List.nodup_range).imp ?_
      intro a b hab e
      have := List.append_cancel_left e
      simp at this
      omega
    · have hp : List.Pairwise (fun a b : List Int => a ≠ b) (ratesL h n) := ratesL_nodup h n
      refine (List.Pairwise.and_mem.1 hp).imp ?_
      rintro a b ⟨ha, hb, hab⟩ x hx y hy e
      unfold extR at hx hy
      obtain ⟨i, _, rfl⟩ := List.mem_map.1 hx
      obtain ⟨j, _, rfl⟩ := List.mem_map.1 hy
      exact hab (List.append_inj_left e (by rw [ratesL_mem h n a ha, ratesL_mem h n b hb]))
theorem nodup_sub {α : Type} [BEq α] [LawfulBEq α] : ∀ {l m : List α}, l.Nodup → (∀ x ∈ l, x ∈ m) → l.length ≤ m.length
  | [], _, _, _ => Nat.zero_le _
  | x :: l, m, hn, hs => by
    have hx := hs x (by simp)
    have hn' := List.nodup_cons.1 hn
    have := nodup_sub (l := l) (m := m.erase x) hn'.2 fun y hy => (List.mem_erase_of_ne (by intro e; rw [e] at hy; exact hn'.1 hy)).2 (hs y (by simp [hy]))
    have hl := List.length_erase_of_mem hx
    have := List.length_pos_of_mem hx
    rw [List.length_cons]
    omega

def turnE (h : Ho) (x : En) : En := ⟨x.agent, h.days - 1 - x.day, x.near, x.far⟩
def Ho.turned (h : Ho) : Ho := { h with rates := h.rates.reverse, entries := h.entries.map (turnE h), zr := zT 2 h.rates.length, ze := zT 4 h.entries.length }
theorem rev_getD (t : List Int) {k : Nat} (hk : k < t.length) : t.reverse.getD k 0 = t.getD (t.length - 1 - k) 0 := by
  rw [List.getD_eq_getElem?_getD, List.getElem?_reverse hk, ← List.getD_eq_getElem?_getD]
theorem turned_lo (h : Ho) {k : Nat} (hk : k < h.rates.length) : h.turned.lo k = h.lo (h.rates.length - 1 - k) ∧ h.turned.hi k = h.hi (h.rates.length - 1 - k) := by
  have e : h.rates.reverse.getD k (0, 0) = h.rates.getD (h.rates.length - 1 - k) (0, 0) := by
    rw [List.getD_eq_getElem?_getD, List.getElem?_reverse hk, ← List.getD_eq_getElem?_getD]
  exact ⟨by show (h.rates.reverse.getD k (0, 0)).1 = _; rw [e]; rfl, by show (h.rates.reverse.getD k (0, 0)).2 = _; rw [e]; rfl⟩
theorem turned_en0 (h : Ho) {i : Nat} (hi : i < h.entries.length) : h.turned.en0 i = turnE h (h.en0 i) := by
  show (h.entries.map (turnE h)).getD i _ = turnE h (h.entries.getD i _)
  simp [List.getD_eq_getElem?_getD, List.getElem?_eq_getElem hi]
theorem turned_len (h : Ho) : h.turned.entries.length = h.entries.length ∧ h.turned.rates.length = h.rates.length := ⟨List.length_map _, List.length_reverse⟩
theorem steady_rev {h : Ho} {t : List Int} (ht : Steady h h.rates.length t) : Steady h.turned h.rates.length t.reverse := by
  obtain ⟨h1, h2, h3⟩ := ht
  refine ⟨by simp [h1], fun k hk => ?_, fun k hk => ?_⟩
  · rw [rev_getD t (by omega), (turned_lo h hk).1, (turned_lo h hk).2, h1]
    exact h2 _ (by omega)
  · rw [rev_getD t (by omega), rev_getD t (by omega), h1]
    have := h3 (h.rates.length - 1 - (k + 1)) (by omega)
    have e : h.rates.length - 1 - (k + 1) + 1 = h.rates.length - 1 - k := by omega
    rw [e] at this
    show inR _ (0 - h.step) h.step = true
    simp only [inR, Bool.and_eq_true, decide_eq_true_eq] at this ⊢
    omega
theorem turned_turned {h : Ho} (hz : h.rates.length ≠ 0) : h.turned.turned.rates = h.rates ∧ h.turned.turned.entries = h.entries ∧ h.turned.turned.step = h.step ∧ h.turned.turned.agents = h.agents := by
  refine ⟨List.reverse_reverse _, ?_, rfl, rfl⟩
  show (h.entries.map (turnE h)).map (turnE h.turned) = h.entries
  rw [List.map_map]
  have : ∀ x ∈ h.entries, (turnE h.turned ∘ turnE h) x = x := fun x _ => by
    show (⟨x.agent, h.days - 1 - (h.days - 1 - x.day), x.near, x.far⟩ : En) = x
    have : h.days - 1 - (h.days - 1 - x.day) = x.day := by omega
    rw [this]
  rw [List.map_congr_left this, List.map_id']
theorem mem_rev {h : Ho} (ho : h.Ok) {t : List Int} : t.reverse ∈ ratesL h.turned h.turned.rates.length ↔ t ∈ ratesL h h.rates.length := by
  rw [(turned_len h).2, mem_ratesL, mem_ratesL]
  constructor
  · intro hh
    have e : h.turned.rates.length = h.rates.length := (turned_len h).2
    have := steady_rev (h := h.turned) (t := t.reverse) (by rw [e]; exact hh)
    rw [List.reverse_reverse, e] at this
    obtain ⟨a, b, c⟩ := this
    have hr := ho.rd
    have hd := ho.d1
    obtain ⟨t1, _, _, _⟩ := turned_turned (h := h) (by omega)
    refine ⟨a, fun k hk => ?_, c⟩
    have := b k hk
    unfold Ho.lo Ho.hi at this ⊢
    rw [t1] at this
    exact this
  · exact steady_rev
theorem rev_day {h : Ho} (ho : h.Ok) {x : En} (hx : x ∈ h.entries) {t : List Int} (ht : t.length = h.rates.length) : t.reverse.getD (turnE h x).day.toNat 0 = t.getD x.day.toNat 0 := by
  obtain ⟨_, _, a3, a4, _⟩ := ho.en x hx
  have hr := ho.rd
  show t.reverse.getD (h.days - 1 - x.day).toNat 0 = _
  rw [rev_getD t (by omega)]
  congr 1
  omega
theorem agrees_rev {h : Ho} (ho : h.Ok) {x : En} (hx : x ∈ h.entries) {t : List Int} (ht : t.length = h.rates.length) : agreesB h.turned (turnE h x) t.reverse = agreesB h x t := by
  unfold agreesB
  rw [rev_day ho hx ht]
  rfl
theorem en0_mem (h : Ho) {i : Nat} (hi : i < h.entries.length) : h.en0 i ∈ h.entries := by rw [en0_at h hi]; exact List.getElem_mem hi
theorem agreeTo_rev {h : Ho} (ho : h.Ok) (but : List Int) {t : List Int} (ht : t.length = h.rates.length) : agreeTo h.turned but t.reverse h.turned.entries.length = agreeTo h but t h.entries.length := by
  rw [(turned_len h).1]
  unfold agreeTo
  apply all_range_congr
  intro i hi
  rw [turned_en0 h hi, agrees_rev ho (en0_mem h hi) ht]
theorem truth_rev {h : Ho} (ho : h.Ok) (but : List Int) {t : List Int} : t.reverse ∈ truthsL h.turned but ↔ t ∈ truthsL h but := by
  unfold truthsL
  rw [List.mem_filter, List.mem_filter, mem_rev ho]
  constructor
  · rintro ⟨a, b⟩
    exact ⟨a, by rw [← b]; exact (agreeTo_rev ho but (ratesL_mem _ _ t a)).symm⟩
  · rintro ⟨a, b⟩
    exact ⟨a, by rw [← b]; exact agreeTo_rev ho but (ratesL_mem _ _ t a)⟩
theorem truths_nodup (h : Ho) (but : List Int) : (truthsL h but).Nodup := List.Pairwise.filter _ (ratesL_nodup h _)
theorem rev_nodup {l : List (List Int)} (hl : l.Nodup) : (l.map List.reverse).Nodup := by
  rw [List.Nodup, List.pairwise_map]
  exact List.Pairwise.imp (fun hab e => hab (by have := congrArg List.reverse e; simpa using this)) hl
theorem truth_len {h : Ho} (ho : h.Ok) (but : List Int) : (truthsL h.turned but).length = (truthsL h but).length := by
  apply Nat.le_antisymm
  · have := nodup_sub (l := (truthsL h.turned but).map List.reverse) (m := truthsL h but) (rev_nodup (truths_nodup _ _)) fun x hx => by
      obtain ⟨r, hr, rfl⟩ := List.mem_map.1 hx
      exact (truth_rev ho but).1 (by rw [List.reverse_reverse]; exact hr)
    simpa using this
  · have := nodup_sub (l := (truthsL h but).map List.reverse) (m := truthsL h.turned but) (rev_nodup (truths_nodup _ _)) fun x hx => by
      obtain ⟨r, hr, rfl⟩ := List.mem_map.1 hx
      exact (truth_rev ho but).2 hr
    simpa using this
theorem some_rev {h : Ho} (ho : h.Ok) (but : List Int) : someB h.turned but = someB h but := by unfold someB; rw [truth_len ho]
theorem wrong_rev {h : Ho} (ho : h.Ok) : wrongR h.turned = wrongR h := by
  have e : hitK h.turned = hitK h := by
    funext k
    unfold hitK
    have : ∀ l, hitC h.turned l = hitC h l := fun l => by funext i; unfold hitC; rw [some_rev ho]
    rw [(turned_len h).1, this]
  have e2 : hitC h.turned = hitC h := by funext l i; unfold hitC; rw [some_rev ho]
  unfold wrongR
  rw [e, e2, (turned_len h).1]
theorem foldS_same (f g : List Int → Int) {l k : List (List Int)} (hl : l ≠ []) (hk : k ≠ []) (h1 : ∀ r ∈ l, ∃ s ∈ k, f r = g s) (h2 : ∀ s ∈ k, ∃ r ∈ l, f r = g s) : foldS f l = foldS g k := by
  obtain ⟨⟨r1, a1, e1⟩, r2, a2, e2⟩ := foldS_at f hl
  obtain ⟨⟨s1, b1, f1⟩, s2, b2, f2⟩ := foldS_at g hk
  obtain ⟨u1, c1, g1⟩ := h1 r1 a1
  obtain ⟨u2, c2, g2⟩ := h1 r2 a2
  obtain ⟨v1, d1, i1⟩ := h2 s1 b1
  obtain ⟨v2, d2, i2⟩ := h2 s2 b2
  have x1 := (foldS_bd g c1).1
  have x2 := (foldS_bd g c2).2
  have x3 := (foldS_bd f d1).1
  have x4 := (foldS_bd f d2).2
  apply Prod.ext <;> omega
theorem fold_rev {h : Ho} (ho : h.Ok) (hne : truthsL h [] ≠ []) (f g : List Int → Int) (hfg : ∀ r ∈ truthsL h [], g r.reverse = f r) : foldS g (truthsL h.turned []) = foldS f (truthsL h []) := by
  have hl := truth_len ho []
  have hp := List.length_pos_iff.2 hne
  refine (foldS_same f g hne (List.length_pos_iff.1 (by omega)) (fun r hr => ⟨r.reverse, (truth_rev ho []).2 hr, (hfg r hr).symm⟩) fun s hs => ?_).symm
  have hs' : s.reverse ∈ truthsL h [] := (truth_rev ho []).1 (by rw [List.reverse_reverse]; exact hs)
  exact ⟨s.reverse, hs', by have := hfg _ hs'; rw [List.reverse_reverse] at this; exact this.symm⟩
theorem truths_mem {h : Ho} {but r : List Int} (hr : r ∈ truthsL h but) : r.length = h.rates.length := ratesL_mem _ _ r (List.mem_filter.1 hr).1
theorem pay_rev {h : Ho} (ho : h.Ok) {x : En} (hx : x ∈ h.entries) {r : List Int} (hr : r.length = h.rates.length) : payAt h.turned x.agent (turnE h x).day x.near r.reverse = payAt h x.agent x.day x.near r := by
  unfold payAt
  rw [rev_day ho hx hr]
  rfl
theorem sum_rev {h : Ho} (ho : h.Ok) (who : Int) {r : List Int} (hr : r.length = h.rates.length) : sumAll h.turned who r.reverse = sumAll h who r := by
  unfold sumAll
  rw [(turned_len h).1]
  have : ∀ k, k ≤ h.entries.length → sumTo h.turned who r.reverse k = sumTo h who r k := by
    intro k
    induction k with
    | zero => intro _; rfl
    | succ k ih =>
      intro hk
      unfold sumTo
      rw [ih (by omega), turned_en0 h (by omega)]
      have := pay_rev ho (en0_mem h (show k < h.entries.length by omega)) hr
      have e : (turnE h (h.en0 k)).agent = (h.en0 k).agent := rfl
      rw [e]
      by_cases hw : (h.en0 k).agent = who
      · rw [if_pos hw, if_pos hw]
        rw [hw] at this
        exact congrArg (sumTo h who r k + ·) this
      · rw [if_neg hw, if_neg hw]
  exact this _ (Nat.le_refl _)
theorem Ho.Ok.turned {h : Ho} (ho : h.Ok) : h.turned.Ok :=
  ⟨ho.d1, ho.d3, by rw [(turned_len h).2]; exact ho.rd, fun s hs => ho.sp s (List.mem_reverse.1 hs), ho.st, ho.a3, ho.ag, ho.an, by rw [(turned_len h).1]; exact ho.e5, fun x hx => by
    obtain ⟨y, hy, rfl⟩ := List.mem_map.1 hx
    obtain ⟨a1, a2, a3, a4, a5⟩ := ho.en y hy
    exact ⟨a1, a2, by show 0 ≤ h.days - 1 - y.day; omega, by show h.days - 1 - y.day < h.days; omega, a5⟩⟩
theorem fits_turned {h : Ho} (hd : h.fits) : h.turned.fits :=
  ⟨fun he => zT_pos (List.length_pos_iff.2 (by intro e; exact he (by show h.rates.reverse = []; rw [e]; rfl))), hd.za, fun he => zT_pos (List.length_pos_iff.2 (by intro e; exact he (by show h.entries.map _ = []; rw [e]; rfl))), by rw [(turned_len h).2]; exact hd.lr, hd.la, by rw [(turned_len h).1]; exact hd.le, hd.na⟩
theorem known_rev {h : Ho} (ho : h.Ok) (e : Int) : knownE h.turned e = knownE h e := by
  unfold knownE
  have hl := truth_len ho []
  by_cases hn : truthsL h [] = []
  · have : truthsL h.turned [] = [] := List.eq_nil_of_length_eq_zero (by rw [hl, hn]; rfl)
    rw [if_pos hn, if_pos this]
  · have : truthsL h.turned [] ≠ [] := fun e => hn (List.eq_nil_of_length_eq_zero (by rw [← hl, e]; rfl))
    rw [if_neg hn, if_neg this]
theorem known_ne {h : Ho} {e : Int} (hk : knownE h e = 0) : truthsL h [] ≠ [] := (knownE_zero hk).2
theorem rate_rev {h : Ho} (ho : h.Ok) {day : Int} (hd : 0 ≤ day ∧ day < h.days) : rateV h.turned (h.days - 1 - day) = rateV h day := by
  have hr := ho.rd
  have e1 : indexE h.turned (h.days - 1 - day) h.turned.days = 0 := by
    unfold indexE
    rw [if_pos (checkE_ok ho.turned)]
    have : inR (h.days - 1 - day) 0 (h.turned.days - 1) = true := by show inR (h.days - 1 - day) 0 (h.days - 1) = true; simp [inR]; omega
    rw [if_pos this]
  have e2 : indexE h day h.days = 0 := by
    unfold indexE
    rw [if_pos (checkE_ok ho)]
    have : inR day 0 (h.days - 1) = true := by simp [inR]; omega
    rw [if_pos this]
  unfold rateV
  rw [e1, e2, known_rev ho]
  by_cases hk : knownE h 0 = 0
  · rw [if_pos hk, if_pos hk]
    congr 1
    refine fold_rev ho (known_ne hk) (fun r => r.getD day.toNat 0) (fun r => r.getD (h.days - 1 - day).toNat 0) fun r hr' => ?_
    have := truths_mem hr'
    show r.reverse.getD _ 0 = _
    rw [rev_getD r (by omega)]
    congr 1
    omega
  · rw [if_neg hk, if_neg hk]
theorem paid_rev {h : Ho} (ho : h.Ok) (who : Int) : paidV h.turned who = paidV h who := by
  have e : indexE h.turned who h.turned.agents.length = indexE h who h.agents.length := by
    unfold indexE
    rw [checkE_ok ho.turned, checkE_ok ho]; rfl
  unfold paidV
  rw [e, known_rev ho]
  by_cases hk : knownE h (indexE h who h.agents.length) = 0
  · rw [if_pos hk, if_pos hk]
    congr 1
    exact fold_rev ho (known_ne hk) _ _ fun r hr => sum_rev ho who (truths_mem hr)
  · rw [if_neg hk, if_neg hk]
theorem first_rev {h : Ho} (ho : h.Ok) : (firstV h.turned).2 = (firstV h).2 := by
  unfold firstV
  rw [checkE_ok ho.turned, checkE_ok ho, known_rev ho, truth_len ho]
  split <;> rfl
end Go.Proofs.Ytaohhjaogjcfoaa
end
section
namespace Go.Proofs.Ytaohhjaogjcfoaa
open Go.Proofs

def toldE (d : Ho) (r : List Int) (x : En) : En := if x.far = -1 then x else ⟨x.agent, x.day, x.near, payR (d.ag0 x.agent) x.near (r.getD x.day.toNat 0)⟩
def Ho.told (d : Ho) (r : List Int) : Ho := { d with entries := d.entries.map (toldE d r), ze := 4 }
theorem told_len (d : Ho) (r : List Int) : (d.told r).entries.length = d.entries.length := List.length_map _
theorem told_en0 (d : Ho) (r : List Int) {i : Nat} (hi : i < d.entries.length) : (d.told r).en0 i = toldE d r (d.en0 i) := by
  show (d.entries.map (toldE d r)).getD i _ = toldE d r (d.entries.getD i _)
  simp [List.getD_eq_getElem?_getD, List.getElem?_eq_getElem hi]
theorem told_agrees (d : Ho) (r : List Int) (x : En) : agreesB (d.told r) (toldE d r x) r = true := by
  unfold agreesB toldE
  by_cases h : x.far = -1
  · rw [if_pos h, h]; rfl
  · rw [if_neg h]
    have : (payR ((d.told r).ag0 x.agent) x.near (r.getD x.day.toNat 0) == payR (d.ag0 x.agent) x.near (r.getD x.day.toNat 0)) = true := beq_self_eq_true _
    rw [this, Bool.or_true]
theorem told_truth {d : Ho} {r : List Int} (hr : r ∈ ratesL d d.rates.length) (but : List Int) : r ∈ truthsL (d.told r) but := by
  unfold truthsL
  rw [List.mem_filter]
  refine ⟨by rw [ratesL_congr (h := d.told r) (k := d) rfl rfl]; exact hr, ?_⟩
  unfold agreeTo
  rw [List.all_eq_true]
  intro i hi
  have hi := List.mem_range.1 hi
  rw [told_len] at hi
  rw [told_en0 d r hi, told_agrees, Bool.or_true]
theorem told_some {d : Ho} {r : List Int} (hr : r ∈ ratesL d d.rates.length) (but : List Int) : someB (d.told r) but = true := by
  unfold someB
  exact decide_eq_true (List.length_pos_of_mem (told_truth hr but))
theorem pay_entry {d : Ho} (ho : d.Ok) {x : En} (hx : x ∈ d.entries) {r : List Int} (hr : r ∈ ratesL d d.rates.length) : 0 ≤ payR (d.ag0 x.agent) x.near (r.getD x.day.toNat 0) ∧ payR (d.ag0 x.agent) x.near (r.getD x.day.toNat 0) ≤ 198 := by
  obtain ⟨a1, a2, a3, a4, a5, a6, _⟩ := ho.en x hx
  have h1 := ratesL_mem d _ r hr
  have h2 := ratesL_bd ho _ (Nat.le_refl _) r hr
  have hrd := ho.rd
  have hl : x.day.toNat < r.length := by omega
  have e1 : r.getD x.day.toNat 0 = r[x.day.toNat] := by simp [hl]
  have h3 := h2 _ (List.getElem_mem hl)
  have ha : x.agent.toNat < d.agents.length := by omega
  have e2 : d.ag0 x.agent = d.agents[x.agent.toNat] := by simp [Ho.ag0, ha]
  obtain ⟨b1, b2, _⟩ := ho.ag _ (List.getElem_mem ha)
  rw [e1, e2]
  exact payR_bd ⟨b1, b2⟩ ⟨a5, a6⟩ ⟨by omega, h3.2⟩
theorem Ho.Ok.told {d : Ho} (ho : d.Ok) {r : List Int} (hr : r ∈ ratesL d d.rates.length) : (d.told r).Ok :=
  ⟨ho.d1, ho.d3, ho.rd, ho.sp, ho.st, ho.a3, ho.ag, ho.an, by rw [told_len]; exact ho.e5, fun y hy => by
    obtain ⟨x, hx, rfl⟩ := List.mem_map.1 hy
    obtain ⟨a1, a2, a3, a4, a5, a6, a7, a8⟩ := ho.en x hx
    have hp := pay_entry ho hx hr
    unfold toldE
    split
    · exact ⟨a1, a2, a3, a4, a5, a6, a7, a8⟩
    · exact ⟨a1, a2, a3, a4, a5, a6, by show -1 ≤ payR _ _ _; omega, hp.2⟩⟩
theorem fits_told {d : Ho} (hd : d.fits) (r : List Int) : (d.told r).fits := ⟨hd.zr, hd.za, fun _ => rfl, hd.lr, hd.la, by rw [told_len]; exact hd.le, hd.na⟩
theorem wrong_none {d : Ho} (ho : d.Ok) (h : someB d [] = true) : wrongR d = ([], 0) := by
  rcases wrong_few ho with ⟨h1, t, ht, h2, h3, h4⟩ | ⟨_, h2⟩
  · have h5 := h4 0 (by rw [bitsL_zero]; exact h)
    rw [bitsL_zero] at h5
    have hl : (wrongR d).1 = [] := by
      unfold fewB at h5
      cases hw : (wrongR d).1 with
      | nil => rfl
      | cons x l => rw [hw, if_neg (by simp)] at h5; simp at h5
    exact Prod.ext hl h1
  · have := h2 0
    rw [bitsL_zero, h] at this; cases this
theorem wrong_down {d : Ho} (ho : d.Ok) (h : ratesL d d.rates.length = []) : wrongR d = ([], 9) := by
  rcases wrong_few ho with ⟨_, t, _, _, h3, _⟩ | ⟨h1, _⟩
  · unfold someB truthsL at h3
    rw [h] at h3
    cases h3
  · exact h1
theorem told_first {d : Ho} (ho : d.Ok) {r : List Int} (hr : r ∈ ratesL d d.rates.length) : (firstV (d.told r)).2 = (((truthsL (d.told r) []).length : Int), 0) ∧ 1 ≤ (truthsL (d.told r) []).length := by
  have hp := List.length_pos_of_mem (told_truth hr [])
  have hne : truthsL (d.told r) [] ≠ [] := List.length_pos_iff.1 hp
  refine ⟨?_, hp⟩
  unfold firstV knownE
  rw [checkE_ok (ho.told hr), if_pos rfl, if_neg hne, if_pos rfl]
theorem told_wrong {d : Ho} (ho : d.Ok) {r : List Int} (hr : r ∈ ratesL d d.rates.length) : wrongV (d.told r) = ([], 0) := by
  unfold wrongV
  rw [if_pos (checkE_ok (ho.told hr)), wrong_none (ho.told hr) (told_some hr [])]
theorem told_rate {d : Ho} (ho : d.Ok) {r : List Int} (hr : r ∈ ratesL d d.rates.length) {k : Nat} (hk : (k : Int) < d.days) : ∃ s, rateV (d.told r) k = (s, 0) ∧ s.1 ≤ r.getD k 0 ∧ r.getD k 0 ≤ s.2 := by
  have ht := told_truth hr []
  have hne : truthsL (d.told r) [] ≠ [] := List.ne_nil_of_mem ht
  refine ⟨foldS (fun r => r.getD k 0) (truthsL (d.told r) []), ?_, (foldS_bd (fun r => r.getD k 0) ht).1, (foldS_bd (fun r => r.getD k 0) ht).2⟩
  unfold rateV knownE indexE
  have : inR (k : Int) 0 ((d.told r).days - 1) = true := by show inR (k : Int) 0 (d.days - 1) = true; simp [inR]; omega
  rw [if_pos (checkE_ok (ho.told hr)), if_pos this, if_pos rfl, if_neg hne, if_pos rfl]
  rfl
theorem told_agree {d : Ho} (ho : d.Ok) {r : List Int} (hr : r ∈ ratesL d d.rates.length) {k : Nat} (hk : k < d.entries.length) :
    if (toldE d r (d.en0 k)).far = -1 then agreeV (d.told r) k = (0, 2) else ∃ n, agreeV (d.told r) k = (n, 0) ∧ n ≠ 2 := by
  have hi : indexE (d.told r) k (d.told r).entries.length = 0 := by
    unfold indexE
    rw [if_pos (checkE_ok (ho.told hr)), told_len]
    have : inR (k : Int) 0 ((d.entries.length : Int) - 1) = true := by simp [inR]; omega
    rw [if_pos this]
  have he : (d.told r).en0 (k : Int).toNat = toldE d r (d.en0 k) := told_en0 d r hk
  unfold agreeV agreeE
  rw [hi, if_pos rfl, he]
  split
  · rename_i hf
    rw [if_neg (by decide)]
  · rename_i hf
    have ht := told_truth hr [(k : Int)]
    rw [if_pos rfl, if_neg (List.ne_nil_of_mem ht)]
    refine ⟨_, rfl, ?_⟩
    have hn : 1 ≤ agreeN (d.told r) k := by
      unfold agreeN
      rw [he]
      have : r ∈ (truthsL (d.told r) [(k : Int)]).filter fun r_1 => agreesB (d.told r) (toldE d r (d.en0 k)) r_1 := List.mem_filter.2 ⟨ht, told_agrees d r _⟩
      have := List.length_pos_of_mem this
      omega
    unfold settled
    split
    · decide
    · rw [if_neg (by omega)]; decide
theorem told_paid {d : Ho} (ho : d.Ok) {r : List Int} (hr : r ∈ ratesL d d.rates.length) {k : Nat} (hk : k < d.agents.length) : ∃ s, paidV (d.told r) k = (s, 0) ∧ s.1 ≤ sumTo (d.told r) k r d.entries.length ∧ sumTo (d.told r) k r d.entries.length ≤ s.2 := by
  have ht := told_truth hr []
  have hne : truthsL (d.told r) [] ≠ [] := List.ne_nil_of_mem ht
  have e : sumTo (d.told r) k r d.entries.length = sumAll (d.told r) k r := by unfold sumAll; rw [told_len]
  rw [e]
  refine ⟨foldS (sumAll (d.told r) k) (truthsL (d.told r) []), ?_, (foldS_bd _ ht).1, (foldS_bd _ ht).2⟩
  unfold paidV knownE indexE
  have : inR (k : Int) 0 (((d.told r).agents.length : Int) - 1) = true := by show inR (k : Int) 0 ((d.agents.length : Int) - 1) = true; simp [inR]; omega
  rw [if_pos (checkE_ok (ho.told hr)), if_pos this, if_pos rfl, if_neg hne, if_pos rfl]

theorem fm_len {α : Type} {c : α → List AV} {n : Nat} (hc : ∀ x, (c x).length = n) : ∀ l : List α, (l.flatMap c).length = l.length * n
  | [] => by simp
  | x :: l => by rw [List.flatMap_cons, List.length_append, hc, fm_len hc l, List.length_cons, Nat.succ_mul]; omega
theorem fm_drop {α : Type} {c : α → List AV} {n : Nat} (hc : ∀ x, (c x).length = n) : ∀ (l : List α) (k : Nat), (l.flatMap c).drop (k * n) = (l.drop k).flatMap c
  | l, 0 => by simp
  | [], k + 1 => by simp
  | x :: l, k + 1 => by
    rw [List.flatMap_cons, List.drop_succ_cons, ← fm_drop hc l k, Nat.succ_mul, Nat.add_comm, ← List.drop_drop]
    congr 1
    rw [← hc x, List.drop_left]
theorem fm_at {α : Type} {c : α → List AV} {n : Nat} (hc : ∀ x, (c x).length = n) {l : List α} {k : Nat} {x : α} (h : l[k]? = some x) : ((l.flatMap c).drop (k * n)).take n = c x ∧ n ≤ ((l.flatMap c).drop (k * n)).length := by
  rw [fm_drop hc]
  have hk : k < l.length := (List.getElem?_eq_some_iff.1 h).1
  have e : l.drop k = x :: l.drop (k + 1) := by
    rw [List.drop_eq_getElem_cons hk]
    congr 1
    exact (List.getElem?_eq_some_iff.1 h).2
  rw [e, List.flatMap_cons]
  refine ⟨?_, by rw [List.length_append, hc]; omega⟩
  rw [← hc x, List.take_left]
theorem splice_at (a m b d : List AV) (h : d.length = m.length) : splice (a ++ m ++ b) a.length d = a ++ d ++ b := by
  induction d generalizing a m with
  | nil =>
    have : m = [] := List.eq_nil_of_length_eq_zero (by simpa using h.symm)
    subst this; rfl
  | cons x d ih =>
    cases m with
    | nil => simp at h
    | cons y m =>
      rw [splice]
      have e1 : (a ++ (y :: m) ++ b).set a.length x = (a ++ [x]) ++ m ++ b := by simp
      have := ih (a ++ [x]) m (by simpa using h)
      rw [e1]
      rw [List.length_append] at this
      simp only [List.length_cons, List.length_nil, Nat.zero_add] at this
      rw [this]
      simp
theorem fm_set {α : Type} {c : α → List AV} {n : Nat} (hc : ∀ x, (c x).length = n) {l : List α} {k : Nat} (hk : k < l.length) (y : α) : splice (l.flatMap c) (k * n) (c y) = (l.set k y).flatMap c := by
  have e : l = l.take k ++ [l[k]] ++ l.drop (k + 1) := by simp
  have e2 : l.set k y = l.take k ++ [y] ++ l.drop (k + 1) := by
    rw [List.set_eq_take_append_cons_drop, if_pos hk]; simp
  have hlen : ((l.take k).flatMap c).length = k * n := by rw [fm_len hc, List.length_take, Nat.min_eq_left (by omega)]
  rw [e2]
  conv => lhs; rw [e]
  simp only [List.flatMap_append, List.flatMap_cons, List.flatMap_nil, List.append_nil]
  rw [← hlen]
  exact splice_at _ _ _ _ (by rw [hc, hc])
theorem rows_fm {α : Type} {c : α → List AV} {n : Nat} (hc : ∀ x, (c x).length = n) (hn : n ≠ 1) : ∀ (l : List α) (a : List AV) (b : List AV), rowsOf n (a ++ l.flatMap c ++ b) a.length l.length = some (l.map fun x => .agg (c x))
  | [], a, b => rfl
  | x :: l, a, b => by
    have ih := rows_fm hc hn l (a ++ c x) b
    rw [List.length_append, hc] at ih
    rw [List.length_cons, rowsOf]
    have e : a ++ (x :: l).flatMap c ++ b = a ++ c x ++ l.flatMap c ++ b := by simp
    have hr : rowAt n (a ++ (x :: l).flatMap c ++ b) a.length = some (.agg (c x)) := by
      unfold rowAt
      rw [if_neg hn, if_pos (by simp [hc])]
      congr 2
      rw [e, List.append_assoc, List.append_assoc, List.drop_left, ← hc x, List.take_left]
    rw [hr, e, ih]
    rfl
end Go.Proofs.Ytaohhjaogjcfoaa
end
section
namespace Go.Proofs.Ytaohhjaogjcfoaa
open Go.Proofs

def wideS (w : Int) (s : Int × Int) : Int × Int := (if s.1 - w > 1 then s.1 - w else 1, if s.2 + w < 20 then s.2 + w else 20)
def Ho.wider (d : Ho) (u w : Int) : Ho := { d with step := if d.step + u < 20 then d.step + u else 20, rates := d.rates.map (wideS w), zr := 2 }
def Ho.still (d : Ho) : Ho := { d with step := 0 }
theorem fits_wider {d : Ho} (hd : d.fits) (u w : Int) : (d.wider u w).fits := ⟨fun _ => rfl, hd.za, hd.ze, by show (d.rates.map (wideS w)).length < _; rw [List.length_map]; exact hd.lr, hd.la, hd.le, hd.na⟩
theorem fits_still {d : Ho} (hd : d.fits) : d.still.fits := ⟨hd.zr, hd.za, hd.ze, hd.lr, hd.la, hd.le, hd.na⟩
theorem Ho.Ok.wider {d : Ho} (ho : d.Ok) {u w : Int} (hu : 0 ≤ u) (hw : 0 ≤ w) : (d.wider u w).Ok :=
  ⟨ho.d1, ho.d3, by show ((d.rates.map (wideS w)).length : Int) = d.days; rw [List.length_map]; exact ho.rd, fun s hs => by
    obtain ⟨t, ht, rfl⟩ := List.mem_map.1 hs
    obtain ⟨h1, h2, h3⟩ := ho.sp t ht
    unfold wideS
    refine ⟨?_, ?_, ?_⟩ <;> simp only <;> split <;> (try split) <;> omega,
   by have := ho.st; show 0 ≤ (if d.step + u < 20 then d.step + u else 20) ∧ (if d.step + u < 20 then d.step + u else 20) ≤ 20; split <;> omega, ho.a3, ho.ag, ho.an, ho.e5, ho.en⟩
theorem Ho.Ok.still {d : Ho} (ho : d.Ok) : d.still.Ok := ⟨ho.d1, ho.d3, ho.rd, ho.sp, by show (0 : Int) ≤ 0 ∧ (0 : Int) ≤ 20; omega, ho.a3, ho.ag, ho.an, ho.e5, ho.en⟩
theorem wider_rates {d : Ho} (ho : d.Ok) {u w : Int} (hu : 0 ≤ u) (hw : 0 ≤ w) {r : List Int} (hr : r ∈ ratesL d d.rates.length) : r ∈ ratesL (d.wider u w) (d.wider u w).rates.length := by
  have hl : (d.wider u w).rates.length = d.rates.length := List.length_map _
  rw [hl, mem_ratesL] at *
  obtain ⟨h1, h2, h3⟩ := hr
  refine ⟨h1, fun k hk => ?_, fun k hk => ?_⟩
  · have h4 := h2 k hk
    have e : (d.wider u w).rates.getD k (0, 0) = wideS w (d.rates.getD k (0, 0)) := by
      show (d.rates.map (wideS w)).getD k _ = _
      simp [List.getD_eq_getElem?_getD, List.getElem?_eq_getElem hk]
    have h5 := ho.day hk
    unfold Ho.lo Ho.hi at h4 h5 ⊢
    rw [e]
    unfold wideS
    refine ⟨?_, ?_⟩ <;> simp only <;> split <;> omega
  · have h4 := h3 k hk
    have hst := ho.st
    simp only [inR, Bool.and_eq_true, decide_eq_true_eq] at h4 ⊢
    show 0 - (if d.step + u < 20 then d.step + u else 20) ≤ _ ∧ _ ≤ (if d.step + u < 20 then d.step + u else 20)
    split <;> omega
theorem wider_truths {d : Ho} (ho : d.Ok) {u w : Int} (hu : 0 ≤ u) (hw : 0 ≤ w) {but r : List Int} (hr : r ∈ truthsL d but) : r ∈ truthsL (d.wider u w) but := by
  unfold truthsL at hr ⊢
  obtain ⟨h1, h2⟩ := List.mem_filter.1 hr
  exact List.mem_filter.2 ⟨wider_rates ho hu hw h1, h2⟩
theorem wider_some {d : Ho} (ho : d.Ok) {u w : Int} (hu : 0 ≤ u) (hw : 0 ≤ w) {but : List Int} (h : someB d but = true) : someB (d.wider u w) but = true := by
  unfold someB at h ⊢
  have h := of_decide_eq_true h
  obtain ⟨r, hr⟩ := List.exists_mem_of_length_pos h
  exact decide_eq_true (List.length_pos_of_mem (wider_truths ho hu hw hr))
theorem wider_wrong {d : Ho} (ho : d.Ok) {u w : Int} (hu : 0 ≤ u) (hw : 0 ≤ w) (h : (wrongR d).2 = 0) : (wrongR (d.wider u w)).2 = 0 ∧ (wrongR (d.wider u w)).1.length ≤ (wrongR d).1.length := by
  rcases wrong_few ho with ⟨_, t, ht, h2, h3, _⟩ | ⟨h1, _⟩
  · have h4 := wider_some ho hu hw h3
    rw [h2] at h4
    rcases wrong_few (ho.wider hu hw) with ⟨g1, s, hs, g2, g3, g4⟩ | ⟨_, g2⟩
    · have g5 := g4 t h4
      refine ⟨g1, ?_⟩
      have e : bitsL t (d.wider u w).entries.length = (wrongR d).1 := h2.symm
      rw [e] at g5
      unfold fewB at g5
      split at g5
      · omega
      · have := of_decide_eq_false g5; omega
    · have g3 := g2 t
      rw [show bitsL t (d.wider u w).entries.length = bitsL t d.entries.length from rfl, h4] at g3
      cases g3
  · rw [h1] at h; cases h
theorem wider_rate {d : Ho} (ho : d.Ok) {u w : Int} (hu : 0 ≤ u) (hw : 0 ≤ w) (hne : truthsL d [] ≠ []) {k : Nat} (hk : (k : Int) < d.days) :
    ∃ s t, rateV d k = (s, 0) ∧ rateV (d.wider u w) k = (t, 0) ∧ inS s t = true := by
  have hne2 : truthsL (d.wider u w) [] ≠ [] := by
    obtain ⟨r, hr⟩ := List.exists_mem_of_ne_nil _ hne
    exact List.ne_nil_of_mem (wider_truths ho hu hw hr)
  refine ⟨foldS (fun r => r.getD k 0) (truthsL d []), foldS (fun r => r.getD k 0) (truthsL (d.wider u w) []), ?_, ?_, foldS_sub _ hne fun r hr => wider_truths ho hu hw hr⟩
  · unfold rateV knownE indexE
    have : inR (k : Int) 0 (d.days - 1) = true := by simp [inR]; omega
    rw [if_pos (checkE_ok ho), if_pos this, if_pos rfl, if_neg hne, if_pos rfl]
    rfl
  · unfold rateV knownE indexE
    have : inR (k : Int) 0 ((d.wider u w).days - 1) = true := by show inR (k : Int) 0 (d.days - 1) = true; simp [inR]; omega
    rw [if_pos (checkE_ok (ho.wider hu hw)), if_pos this, if_pos rfl, if_neg hne2, if_pos rfl]
    rfl
theorem still_same {d : Ho} {r : List Int} (hr : r ∈ ratesL d.still d.still.rates.length) : r.length = d.rates.length ∧ ∀ k, k < r.length → r.getD k 0 = r.getD 0 0 := by
  obtain ⟨h1, _, h3⟩ := (mem_ratesL _ _ _).1 hr
  refine ⟨h1, fun k => ?_⟩
  induction k with
  | zero => intro _; rfl
  | succ k ih =>
    intro hk
    have h4 := h3 k (by rw [h1] at hk; exact hk)
    have h5 : 0 - (0 : Int) ≤ r.getD (k + 1) 0 - r.getD k 0 ∧ r.getD (k + 1) 0 - r.getD k 0 ≤ 0 := by
      have : inR (r.getD (k + 1) 0 - r.getD k 0) (0 - 0) 0 = true := h4
      simp only [inR, Bool.and_eq_true, decide_eq_true_eq] at this
      exact this
    rw [← ih (by omega)]
    omega
theorem still_first {d : Ho} (ho : d.Ok) : ((firstV d.still).2.2 = 8 ∧ someE d.still = false) ∨ ((firstV d.still).2.2 = 0 ∧ (firstV d.still).1.length = d.rates.length ∧ ∀ k, k < d.rates.length → (firstV d.still).1.getD k 0 = (firstV d.still).1.getD 0 0) := by
  unfold firstV knownE someE
  rw [checkE_ok ho.still, if_pos rfl]
  by_cases h : truthsL d.still [] = []
  · rw [if_pos h, if_neg (by decide), h]
    exact .inl ⟨rfl, rfl⟩
  · rw [if_neg h, if_pos rfl]
    refine .inr ⟨rfl, ?_⟩
    cases ht : truthsL d.still [] with
    | nil => exact absurd ht h
    | cons r l =>
      have hr : r ∈ truthsL d.still [] := by rw [ht]; simp
      obtain ⟨h1, h2⟩ := still_same (List.mem_filter.1 hr).1
      exact ⟨h1, fun k hk => h2 k (by omega)⟩
end Go.Proofs.Ytaohhjaogjcfoaa
end
