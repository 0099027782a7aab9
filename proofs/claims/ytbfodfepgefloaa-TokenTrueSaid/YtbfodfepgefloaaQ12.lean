/- Parts of the proof, joined: What it is for two edges to be alike, by the reference. What it is for two edges to be alike, by the program. Where a half fits, by the program. The drawer that is looked at: its map and its order of places. A drawer is looked at. A drawer is looked at: what 'look' leaves. Where a half fits, by the program: fits, enter, Fits. Where a half fits a card: the program's Fits. Rows of numbers: which comes first, the same, has, lost. Small sets as numbers; rows held against each other by the library. Loops whose slots are said by a relation; slices of slices that grow. All truths, by the reference. All fair truths, by the reference. First, Forged, Whose and Read, by the reference. Whose and Read, by the reference. Alike, Enough and New, by the reference. Enough, by the reference. Conditions: those of each law. -/
import Derived.Test.YtbfodfepgefloaaQ11
import Derived.KernelRfl
set_option linter.unusedSimpArgs false
set_option linter.unusedVariables false
section
namespace Go.Proofs.Ytbfodfepgefloaa
open Go.Proofs

def cellB (wear : Int) (a b : List Int) (many i k : Nat) : Bool := allTo (fun n => inR (a.getD (i + n) 0 - b.getD (k + n) 0) (0 - wear) wear) many
def rowB2 (wear : Int) (a b : List Int) (many i : Nat) : Bool := !allTo (fun k => !cellB wear a b many i k) (b.length + 1 - many)
def nearB (wear : Int) (a b : List Int) (many : Nat) : Bool := !allTo (fun i => !rowB2 wear a b many i) (a.length + 1 - many)

theorem c66 (d : Dr) (hw : 0 ≤ d.wear ∧ d.wear ≤ 9) (a b : List Int) (many : Nat) (ha : Low a) (hb : Low b) (la : a.length < 1000) (lb : b.length < 1000) (lm : many < 1000) (za zb : Nat) (hza : a ≠ [] → za = 1) (hzb : b ≠ [] → zb = 1) (h : Heap) :
    callPure (EW tabX) 66 [eD d, .lst 0 za (I a), .lst 0 zb (I b), .int .i64 many] h = some (.bool (nearB d.wear a b many), h) := by
  rw [callPure_eq, w_call _ fn_66 rfl]
  simp only [go_sem, ↓reduceIte, Nat.reduceBEq, Nat.reduceEqDiff, Nat.reduceLT, Nat.reduceLeDiff, Nat.reduceAdd, Nat.reduceMul, Nat.reduceSub, reduceCtorEq, Int.reduceLT, Int.reduceLE, Int.reduceEq, Int.reduceBEq, Int.reduceBNe, Int.reduceToNat, Int.reduceAdd, Int.reduceNeg, Int.reduceSub, eD, eDc, eC_under]
  have idx : ∀ i k n, i + many ≤ a.length → k + many ≤ b.length → n < many → za = 1 ∧ zb = 1 ∧ ((i : Int) + n < 0) = False ∧ ((i : Int) + n).toNat = i + n ∧ ((k : Int) + n < 0) = False ∧ ((k : Int) + n).toNat = k + n ∧ (n : Int) < many ∧
      a[i + n]? = some (a.getD (i + n) 0) ∧ b[k + n]? = some (b.getD (k + n) 0) ∧ -1 ≤ a.getD (i + n) 0 ∧ a.getD (i + n) 0 ≤ 9 ∧ -1 ≤ b.getD (k + n) 0 ∧ b.getD (k + n) 0 ≤ 9 := fun i k n h1 h2 h3 => by
    have x1 : i + n < a.length := by omega
    have x2 : k + n < b.length := by omega
    have y1 := ha.get x1
    have y2 := hb.get x2
    have e1 : a.getD (i + n) 0 = a[i + n] := by simp [x1]
    have e2 : b.getD (k + n) 0 = b[k + n] := by simp [x2]
    rw [e1, e2]
    exact ⟨hza (by intro e; rw [e] at x1; simp at x1), hzb (by intro e; rw [e] at x2; simp at x2), by simp; omega, by omega, by simp; omega, by omega, by omega, by simp, by simp, y1.1, y1.2, y2.1, y2.2⟩
  cases h1 : allTo (fun i => !rowB2 d.wear a b many i) (a.length + 1 - many) with
  | true =>
    rw [w_rounds_u (fun i => [(9, .int .i64 i)]) (a.length + 1 - many) (.exit 0) [(9, .int .i64 ((a.length + 1 - many : Nat) : Int))] ?_ ?_ ?_ rfl]
    · simp only [go_sem, ↓reduceIte, Nat.reduceBEq, Nat.reduceEqDiff, Nat.reduceLT, Nat.reduceLeDiff, Nat.reduceAdd, Nat.reduceMul, Nat.reduceSub, reduceCtorEq, Int.reduceLT, Int.reduceLE, Int.reduceEq, Int.reduceBEq, Int.reduceBNe, Int.reduceToNat, Int.reduceAdd, Int.reduceNeg, Int.reduceSub, nearB, h1]
    · simp only [go_sem, ↓reduceIte, Nat.reduceBEq, Nat.reduceEqDiff, Nat.reduceLT, Nat.reduceLeDiff, Nat.reduceAdd, Nat.reduceMul, Nat.reduceSub, reduceCtorEq, Int.reduceLT, Int.reduceLE, Int.reduceEq, Int.reduceBEq, Int.reduceBNe, Int.reduceToNat, Int.reduceAdd, Int.reduceNeg, Int.reduceSub]
    · intro i hi
      have hii : (i : Int) + many ≤ a.length := by omega
      have hr := allTo_at h1 hi
      have hr : allTo (fun k => !cellB d.wear a b many i k) (b.length + 1 - many) = true := by simpa [rowB2] using hr
      simp (disch := omega) only [go_sem, ↓reduceIte, Nat.reduceBEq, Nat.reduceEqDiff, Nat.reduceLT, Nat.reduceLeDiff, Nat.reduceAdd, Nat.reduceMul, Nat.reduceSub, reduceCtorEq, Int.reduceLT, Int.reduceLE, Int.reduceEq, Int.reduceBEq, Int.reduceBNe, Int.reduceToNat, Int.reduceAdd, Int.reduceNeg, Int.reduceSub, wrap_i64, hii]
      rw [w_rounds_u (fun k => [(10, .int .i64 k)]) (b.length + 1 - many) (.exit 2) [(10, .int .i64 ((b.length + 1 - many : Nat) : Int))] ?_ ?_ ?_ rfl]
      · simp (disch := omega) only [go_sem, ↓reduceIte, Nat.reduceBEq, Nat.reduceEqDiff, Nat.reduceLT, Nat.reduceLeDiff, Nat.reduceAdd, Nat.reduceMul, Nat.reduceSub, reduceCtorEq, Int.reduceLT, Int.reduceLE, Int.reduceEq, Int.reduceBEq, Int.reduceBNe, Int.reduceToNat, Int.reduceAdd, Int.reduceNeg, Int.reduceSub, wrap_i64]
      · simp only [go_sem, ↓reduceIte, Nat.reduceBEq, Nat.reduceEqDiff, Nat.reduceLT, Nat.reduceLeDiff, Nat.reduceAdd, Nat.reduceMul, Nat.reduceSub, reduceCtorEq, Int.reduceLT, Int.reduceLE, Int.reduceEq, Int.reduceBEq, Int.reduceBNe, Int.reduceToNat, Int.reduceAdd, Int.reduceNeg, Int.reduceSub]
      · intro k hk
        have hkk : (k : Int) + many ≤ b.length := by omega
        have hc := allTo_at hr hk
        have hc : cellB d.wear a b many i k = false := by simpa using hc
        simp (disch := omega) only [go_sem, ↓reduceIte, Nat.reduceBEq, Nat.reduceEqDiff, Nat.reduceLT, Nat.reduceLeDiff, Nat.reduceAdd, Nat.reduceMul, Nat.reduceSub, reduceCtorEq, Int.reduceLT, Int.reduceLE, Int.reduceEq, Int.reduceBEq, Int.reduceBNe, Int.reduceToNat, Int.reduceAdd, Int.reduceNeg, Int.reduceSub, wrap_i64, hkk]
        rw [w_rounds_u (fun n => [(11, .bool (allTo (fun n => inR (a.getD (i + n) 0 - b.getD (k + n) 0) (0 - d.wear) d.wear) n)), (12, .int .i64 n)]) many (.exit 4) [(11, .bool (cellB d.wear a b many i k)), (12, .int .i64 many)] ?_ ?_ ?_ rfl]
        · simp (disch := omega) only [go_sem, ↓reduceIte, Nat.reduceBEq, Nat.reduceEqDiff, Nat.reduceLT, Nat.reduceLeDiff, Nat.reduceAdd, Nat.reduceMul, Nat.reduceSub, reduceCtorEq, Int.reduceLT, Int.reduceLE, Int.reduceEq, Int.reduceBEq, Int.reduceBNe, Int.reduceToNat, Int.reduceAdd, Int.reduceNeg, Int.reduceSub, wrap_i64, hc]
        · simp only [go_sem, ↓reduceIte, Nat.reduceBEq, Nat.reduceEqDiff, Nat.reduceLT, Nat.reduceLeDiff, Nat.reduceAdd, Nat.reduceMul, Nat.reduceSub, reduceCtorEq, Int.reduceLT, Int.reduceLE, Int.reduceEq, Int.reduceBEq, Int.reduceBNe, Int.reduceToNat, Int.reduceAdd, Int.reduceNeg, Int.reduceSub, allTo_zero]
        · intro n hn
          obtain ⟨z1, z2, i1, i2, i3, i4, i5, i6, i7, i8, i9, i10, i11⟩ := idx i k n (by omega) (by omega) hn
          subst z1; subst z2
          simp (disch := omega) only [go_sem, ↓reduceIte, Nat.reduceBEq, Nat.reduceEqDiff, Nat.reduceLT, Nat.reduceLeDiff, Nat.reduceAdd, Nat.reduceMul, Nat.reduceSub, reduceCtorEq, Int.reduceLT, Int.reduceLE, Int.reduceEq, Int.reduceBEq, Int.reduceBNe, Int.reduceToNat, Int.reduceAdd, Int.reduceNeg, Int.reduceSub, wrap_i64, i1, i2, i3, i4, i5, i6, i7, c42, allTo_succ]
        · simp only [go_sem, ↓reduceIte, Nat.reduceBEq, Nat.reduceEqDiff, Nat.reduceLT, Nat.reduceLeDiff, Nat.reduceAdd, Nat.reduceMul, Nat.reduceSub, reduceCtorEq, Int.reduceLT, Int.reduceLE, Int.reduceEq, Int.reduceBEq, Int.reduceBNe, Int.reduceToNat, Int.reduceAdd, Int.reduceNeg, Int.reduceSub, Int.lt_irrefl, cellB]
      · have hn : ¬ (((b.length + 1 - many : Nat) : Int) + many ≤ b.length) := by omega
        simp (disch := omega) only [go_sem, ↓reduceIte, Nat.reduceBEq, Nat.reduceEqDiff, Nat.reduceLT, Nat.reduceLeDiff, Nat.reduceAdd, Nat.reduceMul, Nat.reduceSub, reduceCtorEq, Int.reduceLT, Int.reduceLE, Int.reduceEq, Int.reduceBEq, Int.reduceBNe, Int.reduceToNat, Int.reduceAdd, Int.reduceNeg, Int.reduceSub, wrap_i64, hn]
    · have hn : ¬ (((a.length + 1 - many : Nat) : Int) + many ≤ a.length) := by omega
      simp (disch := omega) only [go_sem, ↓reduceIte, Nat.reduceBEq, Nat.reduceEqDiff, Nat.reduceLT, Nat.reduceLeDiff, Nat.reduceAdd, Nat.reduceMul, Nat.reduceSub, reduceCtorEq, Int.reduceLT, Int.reduceLE, Int.reduceEq, Int.reduceBEq, Int.reduceBNe, Int.reduceToNat, Int.reduceAdd, Int.reduceNeg, Int.reduceSub, wrap_i64, hn]
  | false =>
    obtain ⟨i0, hi0, hb0, hr0⟩ := allTo_false h1
    have hr0 : allTo (fun k => !cellB d.wear a b many i0 k) (b.length + 1 - many) = false := by simpa [rowB2] using hr0
    obtain ⟨k0, hk0, hb1, hc0⟩ := allTo_false hr0
    have hc0 : cellB d.wear a b many i0 k0 = true := by simpa using hc0
    rw [w_rounds_u (fun i => [(9, .int .i64 i)]) i0 .ret [(8, .bool true), (9, .int .i64 i0), (10, .int .i64 k0), (11, .bool true), (12, .int .i64 many)] ?_ ?_ ?_ rfl]
    · simp only [go_sem, ↓reduceIte, Nat.reduceBEq, Nat.reduceEqDiff, Nat.reduceLT, Nat.reduceLeDiff, Nat.reduceAdd, Nat.reduceMul, Nat.reduceSub, reduceCtorEq, Int.reduceLT, Int.reduceLE, Int.reduceEq, Int.reduceBEq, Int.reduceBNe, Int.reduceToNat, Int.reduceAdd, Int.reduceNeg, Int.reduceSub, nearB, h1]
    · simp only [go_sem, ↓reduceIte, Nat.reduceBEq, Nat.reduceEqDiff, Nat.reduceLT, Nat.reduceLeDiff, Nat.reduceAdd, Nat.reduceMul, Nat.reduceSub, reduceCtorEq, Int.reduceLT, Int.reduceLE, Int.reduceEq, Int.reduceBEq, Int.reduceBNe, Int.reduceToNat, Int.reduceAdd, Int.reduceNeg, Int.reduceSub]
    · intro i hi
      have hii : (i : Int) + many ≤ a.length := by omega
      have hr := allTo_at hb0 hi
      have hr : allTo (fun k => !cellB d.wear a b many i k) (b.length + 1 - many) = true := by simpa [rowB2] using hr
      simp (disch := omega) only [go_sem, ↓reduceIte, Nat.reduceBEq, Nat.reduceEqDiff, Nat.reduceLT, Nat.reduceLeDiff, Nat.reduceAdd, Nat.reduceMul, Nat.reduceSub, reduceCtorEq, Int.reduceLT, Int.reduceLE, Int.reduceEq, Int.reduceBEq, Int.reduceBNe, Int.reduceToNat, Int.reduceAdd, Int.reduceNeg, Int.reduceSub, wrap_i64, hii]
      rw [w_rounds_u (fun k => [(10, .int .i64 k)]) (b.length + 1 - many) (.exit 2) [(10, .int .i64 ((b.length + 1 - many : Nat) : Int))] ?_ ?_ ?_ rfl]
      · simp (disch := omega) only [go_sem, ↓reduceIte, Nat.reduceBEq, Nat.reduceEqDiff, Nat.reduceLT, Nat.reduceLeDiff, Nat.reduceAdd, Nat.reduceMul, Nat.reduceSub, reduceCtorEq, Int.reduceLT, Int.reduceLE, Int.reduceEq, Int.reduceBEq, Int.reduceBNe, Int.reduceToNat, Int.reduceAdd, Int.reduceNeg, Int.reduceSub, wrap_i64]
      · simp only [go_sem, ↓reduceIte, Nat.reduceBEq, Nat.reduceEqDiff, Nat.reduceLT, Nat.reduceLeDiff, Nat.reduceAdd, Nat.reduceMul, Nat.reduceSub, reduceCtorEq, Int.reduceLT, Int.reduceLE, Int.reduceEq, Int.reduceBEq, Int.reduceBNe, Int.reduceToNat, Int.reduceAdd, Int.reduceNeg, Int.reduceSub]
      · intro k hk
        have hkk : (k : Int) + many ≤ b.length := by omega
        have hc := allTo_at hr hk
        have hc : cellB d.wear a b many i k = false := by simpa using hc
        simp (disch := omega) only [go_sem, ↓reduceIte, Nat.reduceBEq, Nat.reduceEqDiff, Nat.reduceLT, Nat.reduceLeDiff, Nat.reduceAdd, Nat.reduceMul, Nat.reduceSub, reduceCtorEq, Int.reduceLT, Int.reduceLE, Int.reduceEq, Int.reduceBEq, Int.reduceBNe, Int.reduceToNat, Int.reduceAdd, Int.reduceNeg, Int.reduceSub, wrap_i64, hkk]
        rw [w_rounds_u (fun n => [(11, .bool (allTo (fun n => inR (a.getD (i + n) 0 - b.getD (k + n) 0) (0 - d.wear) d.wear) n)), (12, .int .i64 n)]) many (.exit 4) [(11, .bool (cellB d.wear a b many i k)), (12, .int .i64 many)] ?_ ?_ ?_ rfl]
        · simp (disch := omega) only [go_sem, ↓reduceIte, Nat.reduceBEq, Nat.reduceEqDiff, Nat.reduceLT, Nat.reduceLeDiff, Nat.reduceAdd, Nat.reduceMul, Nat.reduceSub, reduceCtorEq, Int.reduceLT, Int.reduceLE, Int.reduceEq, Int.reduceBEq, Int.reduceBNe, Int.reduceToNat, Int.reduceAdd, Int.reduceNeg, Int.reduceSub, wrap_i64, hc]
        · simp only [go_sem, ↓reduceIte, Nat.reduceBEq, Nat.reduceEqDiff, Nat.reduceLT, Nat.reduceLeDiff, Nat.reduceAdd, Nat.reduceMul, Nat.reduceSub, reduceCtorEq, Int.reduceLT, Int.reduceLE, Int.reduceEq, Int.reduceBEq, Int.reduceBNe, Int.reduceToNat, Int.reduceAdd, Int.reduceNeg, Int.reduceSub, allTo_zero]
        · intro n hn
          obtain ⟨z1, z2, i1, i2, i3, i4, i5, i6, i7, i8, i9, i10, i11⟩ := idx i k n (by omega) (by omega) hn
          subst z1; subst z2
          simp (disch := omega) only [go_sem, ↓reduceIte, Nat.reduceBEq, Nat.reduceEqDiff, Nat.reduceLT, Nat.reduceLeDiff, Nat.reduceAdd, Nat.reduceMul, Nat.reduceSub, reduceCtorEq, Int.reduceLT, Int.reduceLE, Int.reduceEq, Int.reduceBEq, Int.reduceBNe, Int.reduceToNat, Int.reduceAdd, Int.reduceNeg, Int.reduceSub, wrap_i64, i1, i2, i3, i4, i5, i6, i7, c42, allTo_succ]
        · simp only [go_sem, ↓reduceIte, Nat.reduceBEq, Nat.reduceEqDiff, Nat.reduceLT, Nat.reduceLeDiff, Nat.reduceAdd, Nat.reduceMul, Nat.reduceSub, reduceCtorEq, Int.reduceLT, Int.reduceLE, Int.reduceEq, Int.reduceBEq, Int.reduceBNe, Int.reduceToNat, Int.reduceAdd, Int.reduceNeg, Int.reduceSub, Int.lt_irrefl, cellB]
      · have hn : ¬ (((b.length + 1 - many : Nat) : Int) + many ≤ b.length) := by omega
        simp (disch := omega) only [go_sem, ↓reduceIte, Nat.reduceBEq, Nat.reduceEqDiff, Nat.reduceLT, Nat.reduceLeDiff, Nat.reduceAdd, Nat.reduceMul, Nat.reduceSub, reduceCtorEq, Int.reduceLT, Int.reduceLE, Int.reduceEq, Int.reduceBEq, Int.reduceBNe, Int.reduceToNat, Int.reduceAdd, Int.reduceNeg, Int.reduceSub, wrap_i64, hn]
    · have hii : (i0 : Int) + many ≤ a.length := by omega
      simp (disch := omega) only [go_sem, ↓reduceIte, Nat.reduceBEq, Nat.reduceEqDiff, Nat.reduceLT, Nat.reduceLeDiff, Nat.reduceAdd, Nat.reduceMul, Nat.reduceSub, reduceCtorEq, Int.reduceLT, Int.reduceLE, Int.reduceEq, Int.reduceBEq, Int.reduceBNe, Int.reduceToNat, Int.reduceAdd, Int.reduceNeg, Int.reduceSub, wrap_i64, hii]
      rw [w_rounds_u (fun k => [(10, .int .i64 k)]) k0 .ret [(8, .bool true), (10, .int .i64 k0), (11, .bool true), (12, .int .i64 many)] ?_ ?_ ?_ rfl]
      · simp (disch := omega) only [go_sem, ↓reduceIte, Nat.reduceBEq, Nat.reduceEqDiff, Nat.reduceLT, Nat.reduceLeDiff, Nat.reduceAdd, Nat.reduceMul, Nat.reduceSub, reduceCtorEq, Int.reduceLT, Int.reduceLE, Int.reduceEq, Int.reduceBEq, Int.reduceBNe, Int.reduceToNat, Int.reduceAdd, Int.reduceNeg, Int.reduceSub, wrap_i64]
      · simp only [go_sem, ↓reduceIte, Nat.reduceBEq, Nat.reduceEqDiff, Nat.reduceLT, Nat.reduceLeDiff, Nat.reduceAdd, Nat.reduceMul, Nat.reduceSub, reduceCtorEq, Int.reduceLT, Int.reduceLE, Int.reduceEq, Int.reduceBEq, Int.reduceBNe, Int.reduceToNat, Int.reduceAdd, Int.reduceNeg, Int.reduceSub]
      · intro k hk
        have hkk : (k : Int) + many ≤ b.length := by omega
        have hc := allTo_at hb1 hk
        have hc : cellB d.wear a b many i0 k = false := by simpa using hc
        simp (disch := omega) only [go_sem, ↓reduceIte, Nat.reduceBEq, Nat.reduceEqDiff, Nat.reduceLT, Nat.reduceLeDiff, Nat.reduceAdd, Nat.reduceMul, Nat.reduceSub, reduceCtorEq, Int.reduceLT, Int.reduceLE, Int.reduceEq, Int.reduceBEq, Int.reduceBNe, Int.reduceToNat, Int.reduceAdd, Int.reduceNeg, Int.reduceSub, wrap_i64, hkk]
        rw [w_rounds_u (fun n => [(11, .bool (allTo (fun n => inR (a.getD (i0 + n) 0 - b.getD (k + n) 0) (0 - d.wear) d.wear) n)), (12, .int .i64 n)]) many (.exit 4) [(11, .bool (cellB d.wear a b many i0 k)), (12, .int .i64 many)] ?_ ?_ ?_ rfl]
        rotate_left
        · simp only [go_sem, ↓reduceIte, Nat.reduceBEq, Nat.reduceEqDiff, Nat.reduceLT, Nat.reduceLeDiff, Nat.reduceAdd, Nat.reduceMul, Nat.reduceSub, reduceCtorEq, Int.reduceLT, Int.reduceLE, Int.reduceEq, Int.reduceBEq, Int.reduceBNe, Int.reduceToNat, Int.reduceAdd, Int.reduceNeg, Int.reduceSub, allTo_zero]
        · intro n hn
          obtain ⟨z1, z2, i1, i2, i3, i4, i5, i6, i7, i8, i9, i10, i11⟩ := idx i0 k n (by omega) (by omega) hn
          subst z1; subst z2
          simp (disch := omega) only [go_sem, ↓reduceIte, Nat.reduceBEq, Nat.reduceEqDiff, Nat.reduceLT, Nat.reduceLeDiff, Nat.reduceAdd, Nat.reduceMul, Nat.reduceSub, reduceCtorEq, Int.reduceLT, Int.reduceLE, Int.reduceEq, Int.reduceBEq, Int.reduceBNe, Int.reduceToNat, Int.reduceAdd, Int.reduceNeg, Int.reduceSub, wrap_i64, i1, i2, i3, i4, i5, i6, i7, c42, allTo_succ]
        · simp only [go_sem, ↓reduceIte, Nat.reduceBEq, Nat.reduceEqDiff, Nat.reduceLT, Nat.reduceLeDiff, Nat.reduceAdd, Nat.reduceMul, Nat.reduceSub, reduceCtorEq, Int.reduceLT, Int.reduceLE, Int.reduceEq, Int.reduceBEq, Int.reduceBNe, Int.reduceToNat, Int.reduceAdd, Int.reduceNeg, Int.reduceSub, Int.lt_irrefl, cellB]
        simp (disch := omega) only [go_sem, ↓reduceIte, Nat.reduceBEq, Nat.reduceEqDiff, Nat.reduceLT, Nat.reduceLeDiff, Nat.reduceAdd, Nat.reduceMul, Nat.reduceSub, reduceCtorEq, Int.reduceLT, Int.reduceLE, Int.reduceEq, Int.reduceBEq, Int.reduceBNe, Int.reduceToNat, Int.reduceAdd, Int.reduceNeg, Int.reduceSub, wrap_i64, hc]
      · have hkk : (k0 : Int) + many ≤ b.length := by omega
        simp (disch := omega) only [go_sem, ↓reduceIte, Nat.reduceBEq, Nat.reduceEqDiff, Nat.reduceLT, Nat.reduceLeDiff, Nat.reduceAdd, Nat.reduceMul, Nat.reduceSub, reduceCtorEq, Int.reduceLT, Int.reduceLE, Int.reduceEq, Int.reduceBEq, Int.reduceBNe, Int.reduceToNat, Int.reduceAdd, Int.reduceNeg, Int.reduceSub, wrap_i64, hkk]
        rw [w_rounds_u (fun n => [(11, .bool (allTo (fun n => inR (a.getD (i0 + n) 0 - b.getD (k0 + n) 0) (0 - d.wear) d.wear) n)), (12, .int .i64 n)]) many (.exit 4) [(11, .bool (cellB d.wear a b many i0 k0)), (12, .int .i64 many)] ?_ ?_ ?_ rfl]
        rotate_left
        · simp only [go_sem, ↓reduceIte, Nat.reduceBEq, Nat.reduceEqDiff, Nat.reduceLT, Nat.reduceLeDiff, Nat.reduceAdd, Nat.reduceMul, Nat.reduceSub, reduceCtorEq, Int.reduceLT, Int.reduceLE, Int.reduceEq, Int.reduceBEq, Int.reduceBNe, Int.reduceToNat, Int.reduceAdd, Int.reduceNeg, Int.reduceSub, allTo_zero]
        · intro n hn
          obtain ⟨z1, z2, i1, i2, i3, i4, i5, i6, i7, i8, i9, i10, i11⟩ := idx i0 k0 n (by omega) (by omega) hn
          subst z1; subst z2
          simp (disch := omega) only [go_sem, ↓reduceIte, Nat.reduceBEq, Nat.reduceEqDiff, Nat.reduceLT, Nat.reduceLeDiff, Nat.reduceAdd, Nat.reduceMul, Nat.reduceSub, reduceCtorEq, Int.reduceLT, Int.reduceLE, Int.reduceEq, Int.reduceBEq, Int.reduceBNe, Int.reduceToNat, Int.reduceAdd, Int.reduceNeg, Int.reduceSub, wrap_i64, i1, i2, i3, i4, i5, i6, i7, c42, allTo_succ]
        · simp only [go_sem, ↓reduceIte, Nat.reduceBEq, Nat.reduceEqDiff, Nat.reduceLT, Nat.reduceLeDiff, Nat.reduceAdd, Nat.reduceMul, Nat.reduceSub, reduceCtorEq, Int.reduceLT, Int.reduceLE, Int.reduceEq, Int.reduceBEq, Int.reduceBNe, Int.reduceToNat, Int.reduceAdd, Int.reduceNeg, Int.reduceSub, Int.lt_irrefl, cellB]
        simp (disch := omega) only [go_sem, ↓reduceIte, Nat.reduceBEq, Nat.reduceEqDiff, Nat.reduceLT, Nat.reduceLeDiff, Nat.reduceAdd, Nat.reduceMul, Nat.reduceSub, reduceCtorEq, Int.reduceLT, Int.reduceLE, Int.reduceEq, Int.reduceBEq, Int.reduceBNe, Int.reduceToNat, Int.reduceAdd, Int.reduceNeg, Int.reduceSub, wrap_i64, hc0]
end Go.Proofs.Ytbfodfepgefloaa
end
section
namespace Go.Proofs.Ytbfodfepgefloaa
open Go.Proofs

theorem inR_neg (x w : Int) : (!out (0 - w) w x) = inR x (0 - w) w := out_not _ _ _
theorem c65 (d : Dr) (hw : 0 ≤ d.wear ∧ d.wear ≤ 9) (a b : List Int) (many : Nat) (ha : Low a) (hb : Low b) (la : a.length < 1000) (lb : b.length < 1000) (lm : many < 1000) (ta tb za zb : Nat) (hza : a ≠ [] → za = 1) (hzb : b ≠ [] → zb = 1)
    (r : Nat) (rest : List AV) (h : Heap) (hr : h.b[r]? = some (.cells (eDc d ++ rest))) :
    (EW tabX).call 65 [.ref r 0, .lst ta za (I a), .lst tb zb (I b), .int .i64 many] h = some (.bool (nearB d.wear a b many), h) := by
  obtain ⟨B, ht⟩ := h
  have hr : B[r]? = some (.cells (eDc d ++ rest)) := hr
  simp only [eDc, List.cons_append, List.nil_append] at hr
  rw [w_call _ fn_65 rfl]
  simp (disch := omega) only [go_sem, ↓reduceIte, Nat.reduceBEq, Nat.reduceEqDiff, Nat.reduceLT, Nat.reduceLeDiff, Nat.reduceAdd, Nat.reduceMul, Nat.reduceSub, reduceCtorEq, Int.reduceLT, Int.reduceLE, Int.reduceEq, Int.reduceBEq, Int.reduceBNe, Int.reduceToNat, Int.reduceAdd, Int.reduceNeg, Int.reduceSub, wrap_i64]
  have idx : ∀ i k n, i + many ≤ a.length → k + many ≤ b.length → n < many → za = 1 ∧ zb = 1 ∧ ((i : Int) + n < 0) = False ∧ ((i : Int) + n).toNat = i + n ∧ ((k : Int) + n < 0) = False ∧ ((k : Int) + n).toNat = k + n ∧ (n : Int) < many ∧
      a[i + n]? = some (a.getD (i + n) 0) ∧ b[k + n]? = some (b.getD (k + n) 0) ∧ -1 ≤ a.getD (i + n) 0 ∧ a.getD (i + n) 0 ≤ 9 ∧ -1 ≤ b.getD (k + n) 0 ∧ b.getD (k + n) 0 ≤ 9 := fun i k n h1 h2 h3 => by
    have x1 : i + n < a.length := by omega
    have x2 : k + n < b.length := by omega
    have y1 := ha.get x1
    have y2 := hb.get x2
    have e1 : a.getD (i + n) 0 = a[i + n] := by simp [x1]
    have e2 : b.getD (k + n) 0 = b[k + n] := by simp [x2]
    rw [e1, e2]
    exact ⟨hza (by intro e; rw [e] at x1; simp at x1), hzb (by intro e; rw [e] at x2; simp at x2), by simp; omega, by omega, by simp; omega, by omega, by omega, by simp, by simp, y1.1, y1.2, y2.1, y2.2⟩
  cases h1 : allTo (fun i => !rowB2 d.wear a b many i) (a.length + 1 - many) with
  | true =>
    rw [w_rounds_u (fun i => [(17, .int .i64 i)]) (a.length + 1 - many) (.exit 0) [(17, .int .i64 ((a.length + 1 - many : Nat) : Int))] ?_ ?_ ?_ rfl]
    · simp only [go_sem, ↓reduceIte, Nat.reduceBEq, Nat.reduceEqDiff, Nat.reduceLT, Nat.reduceLeDiff, Nat.reduceAdd, Nat.reduceMul, Nat.reduceSub, reduceCtorEq, Int.reduceLT, Int.reduceLE, Int.reduceEq, Int.reduceBEq, Int.reduceBNe, Int.reduceToNat, Int.reduceAdd, Int.reduceNeg, Int.reduceSub, nearB, h1]
    · simp only [go_sem, ↓reduceIte, Nat.reduceBEq, Nat.reduceEqDiff, Nat.reduceLT, Nat.reduceLeDiff, Nat.reduceAdd, Nat.reduceMul, Nat.reduceSub, reduceCtorEq, Int.reduceLT, Int.reduceLE, Int.reduceEq, Int.reduceBEq, Int.reduceBNe, Int.reduceToNat, Int.reduceAdd, Int.reduceNeg, Int.reduceSub]
    · intro i hi
      have hii : (i : Int) < a.length - many + 1 := by omega
      have hr2 := allTo_at h1 hi
      have hr2 : allTo (fun k => !cellB d.wear a b many i k) (b.length + 1 - many) = true := by simpa [rowB2] using hr2
      simp (disch := omega) only [go_sem, ↓reduceIte, Nat.reduceBEq, Nat.reduceEqDiff, Nat.reduceLT, Nat.reduceLeDiff, Nat.reduceAdd, Nat.reduceMul, Nat.reduceSub, reduceCtorEq, Int.reduceLT, Int.reduceLE, Int.reduceEq, Int.reduceBEq, Int.reduceBNe, Int.reduceToNat, Int.reduceAdd, Int.reduceNeg, Int.reduceSub, wrap_i64, hii]
      rw [w_rounds_u (fun k => [(25, .int .i64 k)]) (b.length + 1 - many) (.exit 2) [(25, .int .i64 ((b.length + 1 - many : Nat) : Int))] ?_ ?_ ?_ rfl]
      · simp (disch := omega) only [go_sem, ↓reduceIte, Nat.reduceBEq, Nat.reduceEqDiff, Nat.reduceLT, Nat.reduceLeDiff, Nat.reduceAdd, Nat.reduceMul, Nat.reduceSub, reduceCtorEq, Int.reduceLT, Int.reduceLE, Int.reduceEq, Int.reduceBEq, Int.reduceBNe, Int.reduceToNat, Int.reduceAdd, Int.reduceNeg, Int.reduceSub, wrap_i64]
      · simp only [go_sem, ↓reduceIte, Nat.reduceBEq, Nat.reduceEqDiff, Nat.reduceLT, Nat.reduceLeDiff, Nat.reduceAdd, Nat.reduceMul, Nat.reduceSub, reduceCtorEq, Int.reduceLT, Int.reduceLE, Int.reduceEq, Int.reduceBEq, Int.reduceBNe, Int.reduceToNat, Int.reduceAdd, Int.reduceNeg, Int.reduceSub]
      · intro k hk
        have hkk : (k : Int) < b.length - many + 1 := by omega
        have hc := allTo_at hr2 hk
        have hc : cellB d.wear a b many i k = false := by simpa using hc
        obtain ⟨n, hn, g1, g2⟩ := allTo_false hc
        simp (disch := omega) only [go_sem, ↓reduceIte, Nat.reduceBEq, Nat.reduceEqDiff, Nat.reduceLT, Nat.reduceLeDiff, Nat.reduceAdd, Nat.reduceMul, Nat.reduceSub, reduceCtorEq, Int.reduceLT, Int.reduceLE, Int.reduceEq, Int.reduceBEq, Int.reduceBNe, Int.reduceToNat, Int.reduceAdd, Int.reduceNeg, Int.reduceSub, wrap_i64, hkk]
        rw [w_rounds_u (fun n => [(11, .int .i64 n)]) n (.exit 4) [(11, .int .i64 n)] ?_ ?_ ?_ rfl]
        · have hne : ((n : Int) == many) = false := by simp; omega
          simp (disch := omega) only [go_sem, ↓reduceIte, Nat.reduceBEq, Nat.reduceEqDiff, Nat.reduceLT, Nat.reduceLeDiff, Nat.reduceAdd, Nat.reduceMul, Nat.reduceSub, reduceCtorEq, Int.reduceLT, Int.reduceLE, Int.reduceEq, Int.reduceBEq, Int.reduceBNe, Int.reduceToNat, Int.reduceAdd, Int.reduceNeg, Int.reduceSub, wrap_i64, hne]
        · simp only [go_sem, ↓reduceIte, Nat.reduceBEq, Nat.reduceEqDiff, Nat.reduceLT, Nat.reduceLeDiff, Nat.reduceAdd, Nat.reduceMul, Nat.reduceSub, reduceCtorEq, Int.reduceLT, Int.reduceLE, Int.reduceEq, Int.reduceBEq, Int.reduceBNe, Int.reduceToNat, Int.reduceAdd, Int.reduceNeg, Int.reduceSub]
        · intro n hn
          obtain ⟨z1, z2, i1, i2, i3, i4, i5, i6, i7, i8, i9, i10, i11⟩ := idx i k n (by omega) (by omega) (by omega)
          subst z1; subst z2
          have hg := allTo_at g1 hn
          simp (disch := omega) only [go_sem, ↓reduceIte, Nat.reduceBEq, Nat.reduceEqDiff, Nat.reduceLT, Nat.reduceLeDiff, Nat.reduceAdd, Nat.reduceMul, Nat.reduceSub, reduceCtorEq, Int.reduceLT, Int.reduceLE, Int.reduceEq, Int.reduceBEq, Int.reduceBNe, Int.reduceToNat, Int.reduceAdd, Int.reduceNeg, Int.reduceSub, hr, wrap_i64, i1, i2, i3, i4, i5, i6, i7, c51_1, inR_neg, hg]
        · obtain ⟨z1, z2, i1, i2, i3, i4, i5, i6, i7, i8, i9, i10, i11⟩ := idx i k n (by omega) (by omega) (by omega)
          subst z1; subst z2
          simp (disch := omega) only [go_sem, ↓reduceIte, Nat.reduceBEq, Nat.reduceEqDiff, Nat.reduceLT, Nat.reduceLeDiff, Nat.reduceAdd, Nat.reduceMul, Nat.reduceSub, reduceCtorEq, Int.reduceLT, Int.reduceLE, Int.reduceEq, Int.reduceBEq, Int.reduceBNe, Int.reduceToNat, Int.reduceAdd, Int.reduceNeg, Int.reduceSub, hr, wrap_i64, i1, i2, i3, i4, i5, i6, i7, c51_1, inR_neg, g2]
      · have hn : ¬ (((b.length + 1 - many : Nat) : Int) < b.length - many + 1) := by omega
        simp (disch := omega) only [go_sem, ↓reduceIte, Nat.reduceBEq, Nat.reduceEqDiff, Nat.reduceLT, Nat.reduceLeDiff, Nat.reduceAdd, Nat.reduceMul, Nat.reduceSub, reduceCtorEq, Int.reduceLT, Int.reduceLE, Int.reduceEq, Int.reduceBEq, Int.reduceBNe, Int.reduceToNat, Int.reduceAdd, Int.reduceNeg, Int.reduceSub, wrap_i64, hn]
    · have hn : ¬ (((a.length + 1 - many : Nat) : Int) < a.length - many + 1) := by omega
      simp (disch := omega) only [go_sem, ↓reduceIte, Nat.reduceBEq, Nat.reduceEqDiff, Nat.reduceLT, Nat.reduceLeDiff, Nat.reduceAdd, Nat.reduceMul, Nat.reduceSub, reduceCtorEq, Int.reduceLT, Int.reduceLE, Int.reduceEq, Int.reduceBEq, Int.reduceBNe, Int.reduceToNat, Int.reduceAdd, Int.reduceNeg, Int.reduceSub, wrap_i64, hn]
  | false =>
    obtain ⟨i0, hi0, hb0, hr0⟩ := allTo_false h1
    have hr0 : allTo (fun k => !cellB d.wear a b many i0 k) (b.length + 1 - many) = false := by simpa [rowB2] using hr0
    obtain ⟨k0, hk0, hb1, hc0⟩ := allTo_false hr0
    have hc0 : cellB d.wear a b many i0 k0 = true := by simpa using hc0
    rw [w_rounds_u (fun i => [(17, .int .i64 i)]) i0 .ret [(8, .bool true), (9, .int .i64 i0), (10, .int .i64 k0), (11, .int .i64 many), (17, .int .i64 i0), (24, .int .i64 (b.length - many + 1)), (25, .int .i64 k0)] ?_ ?_ ?_ rfl]
    · simp only [go_sem, ↓reduceIte, Nat.reduceBEq, Nat.reduceEqDiff, Nat.reduceLT, Nat.reduceLeDiff, Nat.reduceAdd, Nat.reduceMul, Nat.reduceSub, reduceCtorEq, Int.reduceLT, Int.reduceLE, Int.reduceEq, Int.reduceBEq, Int.reduceBNe, Int.reduceToNat, Int.reduceAdd, Int.reduceNeg, Int.reduceSub, nearB, h1]
    · simp only [go_sem, ↓reduceIte, Nat.reduceBEq, Nat.reduceEqDiff, Nat.reduceLT, Nat.reduceLeDiff, Nat.reduceAdd, Nat.reduceMul, Nat.reduceSub, reduceCtorEq, Int.reduceLT, Int.reduceLE, Int.reduceEq, Int.reduceBEq, Int.reduceBNe, Int.reduceToNat, Int.reduceAdd, Int.reduceNeg, Int.reduceSub]
    · intro i hi
      have hii : (i : Int) < a.length - many + 1 := by omega
      have hr2 := allTo_at hb0 hi
      have hr2 : allTo (fun k => !cellB d.wear a b many i k) (b.length + 1 - many) = true := by simpa [rowB2] using hr2
      simp (disch := omega) only [go_sem, ↓reduceIte, Nat.reduceBEq, Nat.reduceEqDiff, Nat.reduceLT, Nat.reduceLeDiff, Nat.reduceAdd, Nat.reduceMul, Nat.reduceSub, reduceCtorEq, Int.reduceLT, Int.reduceLE, Int.reduceEq, Int.reduceBEq, Int.reduceBNe, Int.reduceToNat, Int.reduceAdd, Int.reduceNeg, Int.reduceSub, wrap_i64, hii]
      rw [w_rounds_u (fun k => [(25, .int .i64 k)]) (b.length + 1 - many) (.exit 2) [(25, .int .i64 ((b.length + 1 - many : Nat) : Int))] ?_ ?_ ?_ rfl]
      · simp (disch := omega) only [go_sem, ↓reduceIte, Nat.reduceBEq, Nat.reduceEqDiff, Nat.reduceLT, Nat.reduceLeDiff, Nat.reduceAdd, Nat.reduceMul, Nat.reduceSub, reduceCtorEq, Int.reduceLT, Int.reduceLE, Int.reduceEq, Int.reduceBEq, Int.reduceBNe, Int.reduceToNat, Int.reduceAdd, Int.reduceNeg, Int.reduceSub, wrap_i64]
      · simp only [go_sem, ↓reduceIte, Nat.reduceBEq, Nat.reduceEqDiff, Nat.reduceLT, Nat.reduceLeDiff, Nat.reduceAdd, Nat.reduceMul, Nat.reduceSub, reduceCtorEq, Int.reduceLT, Int.reduceLE, Int.reduceEq, Int.reduceBEq, Int.reduceBNe, Int.reduceToNat, Int.reduceAdd, Int.reduceNeg, Int.reduceSub]
      · intro k hk
        have hkk : (k : Int) < b.length - many + 1 := by omega
        have hc := allTo_at hr2 hk
        have hc : cellB d.wear a b many i k = false := by simpa using hc
        obtain ⟨n, hn, g1, g2⟩ := allTo_false hc
        simp (disch := omega) only [go_sem, ↓reduceIte, Nat.reduceBEq, Nat.reduceEqDiff, Nat.reduceLT, Nat.reduceLeDiff, Nat.reduceAdd, Nat.reduceMul, Nat.reduceSub, reduceCtorEq, Int.reduceLT, Int.reduceLE, Int.reduceEq, Int.reduceBEq, Int.reduceBNe, Int.reduceToNat, Int.reduceAdd, Int.reduceNeg, Int.reduceSub, wrap_i64, hkk]
        rw [w_rounds_u (fun n => [(11, .int .i64 n)]) n (.exit 4) [(11, .int .i64 n)] ?_ ?_ ?_ rfl]
        · have hne : ((n : Int) == many) = false := by simp; omega
          simp (disch := omega) only [go_sem, ↓reduceIte, Nat.reduceBEq, Nat.reduceEqDiff, Nat.reduceLT, Nat.reduceLeDiff, Nat.reduceAdd, Nat.reduceMul, Nat.reduceSub, reduceCtorEq, Int.reduceLT, Int.reduceLE, Int.reduceEq, Int.reduceBEq, Int.reduceBNe, Int.reduceToNat, Int.reduceAdd, Int.reduceNeg, Int.reduceSub, wrap_i64, hne]
        · simp only [go_sem, ↓reduceIte, Nat.reduceBEq, Nat.reduceEqDiff, Nat.reduceLT, Nat.reduceLeDiff, Nat.reduceAdd, Nat.reduceMul, Nat.reduceSub, reduceCtorEq, Int.reduceLT, Int.reduceLE, Int.reduceEq, Int.reduceBEq, Int.reduceBNe, Int.reduceToNat, Int.reduceAdd, Int.reduceNeg, Int.reduceSub]
        · intro n hn
          obtain ⟨z1, z2, i1, i2, i3, i4, i5, i6, i7, i8, i9, i10, i11⟩ := idx i k n (by omega) (by omega) (by omega)
          subst z1; subst z2
          have hg := allTo_at g1 hn
          simp (disch := omega) only [go_sem, ↓reduceIte, Nat.reduceBEq, Nat.reduceEqDiff, Nat.reduceLT, Nat.reduceLeDiff, Nat.reduceAdd, Nat.reduceMul, Nat.reduceSub, reduceCtorEq, Int.reduceLT, Int.reduceLE, Int.reduceEq, Int.reduceBEq, Int.reduceBNe, Int.reduceToNat, Int.reduceAdd, Int.reduceNeg, Int.reduceSub, hr, wrap_i64, i1, i2, i3, i4, i5, i6, i7, c51_1, inR_neg, hg]
        · obtain ⟨z1, z2, i1, i2, i3, i4, i5, i6, i7, i8, i9, i10, i11⟩ := idx i k n (by omega) (by omega) (by omega)
          subst z1; subst z2
          simp (disch := omega) only [go_sem, ↓reduceIte, Nat.reduceBEq, Nat.reduceEqDiff, Nat.reduceLT, Nat.reduceLeDiff, Nat.reduceAdd, Nat.reduceMul, Nat.reduceSub, reduceCtorEq, Int.reduceLT, Int.reduceLE, Int.reduceEq, Int.reduceBEq, Int.reduceBNe, Int.reduceToNat, Int.reduceAdd, Int.reduceNeg, Int.reduceSub, hr, wrap_i64, i1, i2, i3, i4, i5, i6, i7, c51_1, inR_neg, g2]
      · have hn : ¬ (((b.length + 1 - many : Nat) : Int) < b.length - many + 1) := by omega
        simp (disch := omega) only [go_sem, ↓reduceIte, Nat.reduceBEq, Nat.reduceEqDiff, Nat.reduceLT, Nat.reduceLeDiff, Nat.reduceAdd, Nat.reduceMul, Nat.reduceSub, reduceCtorEq, Int.reduceLT, Int.reduceLE, Int.reduceEq, Int.reduceBEq, Int.reduceBNe, Int.reduceToNat, Int.reduceAdd, Int.reduceNeg, Int.reduceSub, wrap_i64, hn]
    · have hii : (i0 : Int) < a.length - many + 1 := by omega
      simp (disch := omega) only [go_sem, ↓reduceIte, Nat.reduceBEq, Nat.reduceEqDiff, Nat.reduceLT, Nat.reduceLeDiff, Nat.reduceAdd, Nat.reduceMul, Nat.reduceSub, reduceCtorEq, Int.reduceLT, Int.reduceLE, Int.reduceEq, Int.reduceBEq, Int.reduceBNe, Int.reduceToNat, Int.reduceAdd, Int.reduceNeg, Int.reduceSub, wrap_i64, hii]
      rw [w_rounds_u (fun k => [(25, .int .i64 k)]) k0 .ret [(8, .bool true), (10, .int .i64 k0), (11, .int .i64 many), (25, .int .i64 k0)] ?_ ?_ ?_ rfl]
      · simp (disch := omega) only [go_sem, ↓reduceIte, Nat.reduceBEq, Nat.reduceEqDiff, Nat.reduceLT, Nat.reduceLeDiff, Nat.reduceAdd, Nat.reduceMul, Nat.reduceSub, reduceCtorEq, Int.reduceLT, Int.reduceLE, Int.reduceEq, Int.reduceBEq, Int.reduceBNe, Int.reduceToNat, Int.reduceAdd, Int.reduceNeg, Int.reduceSub, wrap_i64]
      · simp only [go_sem, ↓reduceIte, Nat.reduceBEq, Nat.reduceEqDiff, Nat.reduceLT, Nat.reduceLeDiff, Nat.reduceAdd, Nat.reduceMul, Nat.reduceSub, reduceCtorEq, Int.reduceLT, Int.reduceLE, Int.reduceEq, Int.reduceBEq, Int.reduceBNe, Int.reduceToNat, Int.reduceAdd, Int.reduceNeg, Int.reduceSub]
      · intro k hk
        have hkk : (k : Int) < b.length - many + 1 := by omega
        have hc := allTo_at hb1 hk
        have hc : cellB d.wear a b many i0 k = false := by simpa using hc
        obtain ⟨n, hn, g1, g2⟩ := allTo_false hc
        simp (disch := omega) only [go_sem, ↓reduceIte, Nat.reduceBEq, Nat.reduceEqDiff, Nat.reduceLT, Nat.reduceLeDiff, Nat.reduceAdd, Nat.reduceMul, Nat.reduceSub, reduceCtorEq, Int.reduceLT, Int.reduceLE, Int.reduceEq, Int.reduceBEq, Int.reduceBNe, Int.reduceToNat, Int.reduceAdd, Int.reduceNeg, Int.reduceSub, wrap_i64, hkk]
        rw [w_rounds_u (fun n => [(11, .int .i64 n)]) n (.exit 4) [(11, .int .i64 n)] ?_ ?_ ?_ rfl]
        · have hne : ((n : Int) == many) = false := by simp; omega
          simp (disch := omega) only [go_sem, ↓reduceIte, Nat.reduceBEq, Nat.reduceEqDiff, Nat.reduceLT, Nat.reduceLeDiff, Nat.reduceAdd, Nat.reduceMul, Nat.reduceSub, reduceCtorEq, Int.reduceLT, Int.reduceLE, Int.reduceEq, Int.reduceBEq, Int.reduceBNe, Int.reduceToNat, Int.reduceAdd, Int.reduceNeg, Int.reduceSub, wrap_i64, hne]
        · simp only [go_sem, ↓reduceIte, Nat.reduceBEq, Nat.reduceEqDiff, Nat.reduceLT, Nat.reduceLeDiff, Nat.reduceAdd, Nat.reduceMul, Nat.reduceSub, reduceCtorEq, Int.reduceLT, Int.reduceLE, Int.reduceEq, Int.reduceBEq, Int.reduceBNe, Int.reduceToNat, Int.reduceAdd, Int.reduceNeg, Int.reduceSub]
        · intro n hn
          obtain ⟨z1, z2, i1, i2, i3, i4, i5, i6, i7, i8, i9, i10, i11⟩ := idx i0 k n (by omega) (by omega) (by omega)
          subst z1; subst z2
          have hg := allTo_at g1 hn
          simp (disch := omega) only [go_sem, ↓reduceIte, Nat.reduceBEq, Nat.reduceEqDiff, Nat.reduceLT, Nat.reduceLeDiff, Nat.reduceAdd, Nat.reduceMul, Nat.reduceSub, reduceCtorEq, Int.reduceLT, Int.reduceLE, Int.reduceEq, Int.reduceBEq, Int.reduceBNe, Int.reduceToNat, Int.reduceAdd, Int.reduceNeg, Int.reduceSub, hr, wrap_i64, i1, i2, i3, i4, i5, i6, i7, c51_1, inR_neg, hg]
        · obtain ⟨z1, z2, i1, i2, i3, i4, i5, i6, i7, i8, i9, i10, i11⟩ := idx i0 k n (by omega) (by omega) (by omega)
          subst z1; subst z2
          simp (disch := omega) only [go_sem, ↓reduceIte, Nat.reduceBEq, Nat.reduceEqDiff, Nat.reduceLT, Nat.reduceLeDiff, Nat.reduceAdd, Nat.reduceMul, Nat.reduceSub, reduceCtorEq, Int.reduceLT, Int.reduceLE, Int.reduceEq, Int.reduceBEq, Int.reduceBNe, Int.reduceToNat, Int.reduceAdd, Int.reduceNeg, Int.reduceSub, hr, wrap_i64, i1, i2, i3, i4, i5, i6, i7, c51_1, inR_neg, g2]
      · have hkk : (k0 : Int) < b.length - many + 1 := by omega
        simp (disch := omega) only [go_sem, ↓reduceIte, Nat.reduceBEq, Nat.reduceEqDiff, Nat.reduceLT, Nat.reduceLeDiff, Nat.reduceAdd, Nat.reduceMul, Nat.reduceSub, reduceCtorEq, Int.reduceLT, Int.reduceLE, Int.reduceEq, Int.reduceBEq, Int.reduceBNe, Int.reduceToNat, Int.reduceAdd, Int.reduceNeg, Int.reduceSub, wrap_i64, hkk]
        rw [w_rounds_u (fun n => [(11, .int .i64 n)]) many (.exit 4) [(11, .int .i64 many)] ?_ ?_ ?_ rfl]
        · simp (disch := omega) only [go_sem, ↓reduceIte, Nat.reduceBEq, Nat.reduceEqDiff, Nat.reduceLT, Nat.reduceLeDiff, Nat.reduceAdd, Nat.reduceMul, Nat.reduceSub, reduceCtorEq, Int.reduceLT, Int.reduceLE, Int.reduceEq, Int.reduceBEq, Int.reduceBNe, Int.reduceToNat, Int.reduceAdd, Int.reduceNeg, Int.reduceSub, wrap_i64]
        · simp only [go_sem, ↓reduceIte, Nat.reduceBEq, Nat.reduceEqDiff, Nat.reduceLT, Nat.reduceLeDiff, Nat.reduceAdd, Nat.reduceMul, Nat.reduceSub, reduceCtorEq, Int.reduceLT, Int.reduceLE, Int.reduceEq, Int.reduceBEq, Int.reduceBNe, Int.reduceToNat, Int.reduceAdd, Int.reduceNeg, Int.reduceSub]
        · intro n hn
          obtain ⟨z1, z2, i1, i2, i3, i4, i5, i6, i7, i8, i9, i10, i11⟩ := idx i0 k0 n (by omega) (by omega) (by omega)
          subst z1; subst z2
          have hg := allTo_at hc0 hn
          simp (disch := omega) only [go_sem, ↓reduceIte, Nat.reduceBEq, Nat.reduceEqDiff, Nat.reduceLT, Nat.reduceLeDiff, Nat.reduceAdd, Nat.reduceMul, Nat.reduceSub, reduceCtorEq, Int.reduceLT, Int.reduceLE, Int.reduceEq, Int.reduceBEq, Int.reduceBNe, Int.reduceToNat, Int.reduceAdd, Int.reduceNeg, Int.reduceSub, hr, wrap_i64, i1, i2, i3, i4, i5, i6, i7, c51_1, inR_neg, hg]
        · simp (disch := omega) only [go_sem, ↓reduceIte, Nat.reduceBEq, Nat.reduceEqDiff, Nat.reduceLT, Nat.reduceLeDiff, Nat.reduceAdd, Nat.reduceMul, Nat.reduceSub, reduceCtorEq, Int.reduceLT, Int.reduceLE, Int.reduceEq, Int.reduceBEq, Int.reduceBNe, Int.reduceToNat, Int.reduceAdd, Int.reduceNeg, Int.reduceSub, wrap_i64, Int.lt_irrefl]
end Go.Proofs.Ytbfodfepgefloaa
end
section
namespace Go.Proofs.Ytbfodfepgefloaa
open Go.Proofs

def eP (h c s : Int) : AV := .agg [.int .i64 h, .int .i64 c, .int .i64 s]
theorem c81 (d : Dr) (hd : d.fits) (ho : d.Ok) (e c s : Nat) (card half : Card) (hc : d.cards[c]? = some card) (he : d.halves[e]? = some half) (hs : (s : Int) < d.steps) (r : Nat) (rest : List AV) (h : Heap) (hr : h.b[r]? = some (.cells (eDc d ++ rest))) :
    (EW tabX).call 81 [.ref r 0, eP e c s] h = some (.bool (besideB d.wear card.edge half.edge s), h) := by
  obtain ⟨B, ht⟩ := h
  have hr : B[r]? = some (.cells (eDc d ++ rest)) := hr
  simp only [eDc, List.cons_append, List.nil_append] at hr
  have hr' := old hr
  have hci := ho.ce card (List.mem_of_getElem? hc)
  have hhi := ho.he half (List.mem_of_getElem? he)
  have lc : Low card.edge := fun n hn => by have := hci.2 n hn; omega
  have lh : Low half.edge := fun n hn => hhi.2.2 n hn
  have hst := ho.s6
  have hz := hd.zc (by intro e; rw [e] at hc; cases hc)
  have hz2 := hd.zh (by intro e'; rw [e'] at he; cases he)
  have hsl : s ≤ card.edge.length := by omega
  rw [w_call _ fn_81 rfl]
  simp only [go_sem, ↓reduceIte, Nat.reduceBEq, Nat.reduceEqDiff, Nat.reduceLT, Nat.reduceLeDiff, Nat.reduceAdd, Nat.reduceMul, Nat.reduceSub, reduceCtorEq, Int.reduceLT, Int.reduceLE, Int.reduceEq, Int.reduceBEq, Int.reduceBNe, Int.reduceToNat, Int.reduceAdd, Int.reduceNeg, Int.reduceSub, eP, eDc, hr', eC_get, hc, he, hz, hz2, eC, hsl]
  have hdl : (card.edge.drop s).length = card.edge.length - s := List.length_drop
  by_cases h1 : s + half.edge.length ≤ card.edge.length
  · have h1i : ¬ ((card.edge.drop s).length : Int) < half.edge.length := by rw [hdl]; omega
    simp only [go_sem, ↓reduceIte, Nat.reduceBEq, Nat.reduceEqDiff, Nat.reduceLT, Nat.reduceLeDiff, Nat.reduceAdd, Nat.reduceMul, Nat.reduceSub, reduceCtorEq, Int.reduceLT, Int.reduceLE, Int.reduceEq, Int.reduceBEq, Int.reduceBNe, Int.reduceToNat, Int.reduceAdd, Int.reduceNeg, Int.reduceSub, h1i]
    have idx : ∀ k, k < half.edge.length → (k : Int) < half.edge.length ∧ (card.edge.drop s)[k]? = some (card.edge.getD (s + k) 0) ∧ half.edge[k]? = some (half.edge.getD k 0) ∧ -1 ≤ card.edge.getD (s + k) 0 ∧ card.edge.getD (s + k) 0 ≤ 9 ∧ -1 ≤ half.edge.getD k 0 ∧ half.edge.getD k 0 ≤ 9 := fun k hk => by
      have hk2 : s + k < card.edge.length := by omega
      have a := lc.get hk2
      have b := lh.get hk
      have e1 : card.edge.getD (s + k) 0 = card.edge[s + k] := by simp [hk2]
      have e2 : half.edge.getD k 0 = half.edge[k] := by simp [hk]
      rw [e1, e2, List.getElem?_drop]
      exact ⟨by omega, by simp, by simp, a.1, a.2, b.1, b.2⟩
    have test : ∀ x y : Int, (y != -1 && out 0 d.wear (x - y)) = !fit1 d.wear x y := fun x y => by
      have e : out 0 d.wear (x - y) = !inR (x - y) 0 d.wear := by rw [← out_not, Bool.not_not]
      rw [e]
      simp only [fit1, bne]
      cases (y == -1) <;> cases inR (x - y) 0 d.wear <;> rfl
    cases ho : allTo (fun i => fit1 d.wear (card.edge.getD (s + i) 0) (half.edge.getD i 0)) half.edge.length with
    | true =>
      rw [w_rounds_u (fun k => [(39, .int .i64 k)]) half.edge.length (.exit 0) [(39, .int .i64 half.edge.length)] ?_ ?_ ?_ rfl]
      · simp only [go_sem, ↓reduceIte, Nat.reduceBEq, Nat.reduceEqDiff, Nat.reduceLT, Nat.reduceLeDiff, Nat.reduceAdd, Nat.reduceMul, Nat.reduceSub, reduceCtorEq, Int.reduceLT, Int.reduceLE, Int.reduceEq, Int.reduceBEq, Int.reduceBNe, Int.reduceToNat, Int.reduceAdd, Int.reduceNeg, Int.reduceSub, besideB, h1, ho]
      · simp only [go_sem, ↓reduceIte, Nat.reduceBEq, Nat.reduceEqDiff, Nat.reduceLT, Nat.reduceLeDiff, Nat.reduceAdd, Nat.reduceMul, Nat.reduceSub, reduceCtorEq, Int.reduceLT, Int.reduceLE, Int.reduceEq, Int.reduceBEq, Int.reduceBNe, Int.reduceToNat, Int.reduceAdd, Int.reduceNeg, Int.reduceSub]
      · intro k hk
        obtain ⟨i3, i4, i5, i6, i7, i8, i9⟩ := idx k hk
        have hf := allTo_at ho hk
        simp (disch := omega) only [go_sem, ↓reduceIte, Nat.reduceBEq, Nat.reduceEqDiff, Nat.reduceLT, Nat.reduceLeDiff, Nat.reduceAdd, Nat.reduceMul, Nat.reduceSub, reduceCtorEq, Int.reduceLT, Int.reduceLE, Int.reduceEq, Int.reduceBEq, Int.reduceBNe, Int.reduceToNat, Int.reduceAdd, Int.reduceNeg, Int.reduceSub, hr', wrap_i64, i3, i4, i5, c51_1, test, hf]
      · simp only [go_sem, ↓reduceIte, Nat.reduceBEq, Nat.reduceEqDiff, Nat.reduceLT, Nat.reduceLeDiff, Nat.reduceAdd, Nat.reduceMul, Nat.reduceSub, reduceCtorEq, Int.reduceLT, Int.reduceLE, Int.reduceEq, Int.reduceBEq, Int.reduceBNe, Int.reduceToNat, Int.reduceAdd, Int.reduceNeg, Int.reduceSub, Int.lt_irrefl]
    | false =>
      obtain ⟨n, hn, h2, h3⟩ := allTo_false ho
      rw [w_rounds_u (fun k => [(39, .int .i64 k)]) n .ret [(4, .bool false), (7, .int .i64 n), (8, .int .i64 (half.edge.getD n 0)), (39, .int .i64 n)] ?_ ?_ ?_ rfl]
      · simp only [go_sem, ↓reduceIte, Nat.reduceBEq, Nat.reduceEqDiff, Nat.reduceLT, Nat.reduceLeDiff, Nat.reduceAdd, Nat.reduceMul, Nat.reduceSub, reduceCtorEq, Int.reduceLT, Int.reduceLE, Int.reduceEq, Int.reduceBEq, Int.reduceBNe, Int.reduceToNat, Int.reduceAdd, Int.reduceNeg, Int.reduceSub, besideB, ho]
      · simp only [go_sem, ↓reduceIte, Nat.reduceBEq, Nat.reduceEqDiff, Nat.reduceLT, Nat.reduceLeDiff, Nat.reduceAdd, Nat.reduceMul, Nat.reduceSub, reduceCtorEq, Int.reduceLT, Int.reduceLE, Int.reduceEq, Int.reduceBEq, Int.reduceBNe, Int.reduceToNat, Int.reduceAdd, Int.reduceNeg, Int.reduceSub]
      · intro k hk
        obtain ⟨i3, i4, i5, i6, i7, i8, i9⟩ := idx k (by omega)
        have hf := allTo_at h2 hk
        simp (disch := omega) only [go_sem, ↓reduceIte, Nat.reduceBEq, Nat.reduceEqDiff, Nat.reduceLT, Nat.reduceLeDiff, Nat.reduceAdd, Nat.reduceMul, Nat.reduceSub, reduceCtorEq, Int.reduceLT, Int.reduceLE, Int.reduceEq, Int.reduceBEq, Int.reduceBNe, Int.reduceToNat, Int.reduceAdd, Int.reduceNeg, Int.reduceSub, hr', wrap_i64, i3, i4, i5, c51_1, test, hf]
      · obtain ⟨i3, i4, i5, i6, i7, i8, i9⟩ := idx n hn
        simp (disch := omega) only [go_sem, ↓reduceIte, Nat.reduceBEq, Nat.reduceEqDiff, Nat.reduceLT, Nat.reduceLeDiff, Nat.reduceAdd, Nat.reduceMul, Nat.reduceSub, reduceCtorEq, Int.reduceLT, Int.reduceLE, Int.reduceEq, Int.reduceBEq, Int.reduceBNe, Int.reduceToNat, Int.reduceAdd, Int.reduceNeg, Int.reduceSub, hr', wrap_i64, i3, i4, i5, c51_1, test, h3]
  · have h1i : ((card.edge.drop s).length : Int) < half.edge.length := by rw [hdl]; omega
    simp only [go_sem, ↓reduceIte, Nat.reduceBEq, Nat.reduceEqDiff, Nat.reduceLT, Nat.reduceLeDiff, Nat.reduceAdd, Nat.reduceMul, Nat.reduceSub, reduceCtorEq, Int.reduceLT, Int.reduceLE, Int.reduceEq, Int.reduceBEq, Int.reduceBNe, Int.reduceToNat, Int.reduceAdd, Int.reduceNeg, Int.reduceSub, h1i, besideB, h1]
end Go.Proofs.Ytbfodfepgefloaa
end
section
namespace Go.Proofs.Ytbfodfepgefloaa
open Go.Proofs

section
variable (X : Tab) {E : Eng} {L : List Nat} {all : List Oper}
theorem d_nil (b : List Nat) (n0 : Nat × Nat) (i : Nat) (s : St) : runDraw X E L b all n0 false [] i s = some s := _root_.id rfl
theorem d_c (b : List Nat) (n0 : Nat × Nat) (i : Nat) (d : Option Tmp) (op : Op) (ty : TypeId) (po : String) (af : Array Edge) (os : List Oper) (fr : Frm) (h : Heap) (ms : List Nat) :
    runDraw X E L b all n0 false (⟨d, op, ty, po, af, none⟩ :: os) i ⟨fr, h, ms⟩ = bindW (opAt X E (!boundAll b all i) (n0.1 + i, n0.2 + i) op fr h) (fun r => runDraw X E L b all n0 false os (i + 1) ⟨setD L fr d r.1, r.2, ms⟩) .mk := by
  have e : runDraw X E L b all n0 false (⟨d, op, ty, po, af, none⟩ :: os) i ⟨fr, h, ms⟩ = oneOp X E L all (false || !boundAll b all i) (posAt n0 false i) ⟨d, op, ty, po, af, none⟩ ⟨fr, h, ms⟩ (runDraw X E L b all n0 false os (i + 1)) := rfl
  rw [e]
  simp only [oneOp, thenK_eq, Bool.false_or, bindW]
  rfl
end
section
variable {X : Tab} {f : Nat} {rd : Option Nat} {b : Code}
/-- A loop that changes some slots, and the heap by a relation. -/
theorem w_rounds_hr {g : Slots} {h : Heap} {ms : List Nat} {x : Option (AExit × St)} (hx : (EW X).code f rd (.loop b) ⟨⟨g, []⟩, h, ms⟩ = x) (U : Nat → Slots) (H : Nat → Heap → Prop) (n : Nat) (e : AExit) (V : Slots) (h0 : puts g (U 0) = g) (hh : H 0 h)
    (hs : ∀ k h, k < n → H k h → ∃ h', cutS ⟨⟨puts g (U k), []⟩, h, ms⟩ ((EW X).code f rd b ⟨⟨puts g (U k), []⟩, h, ms⟩) = some (.normal, ⟨⟨puts g (U (k + 1)), []⟩, h', ms⟩) ∧ H (k + 1) h')
    (he : ∀ h, H n h → cutS ⟨⟨puts g (U n), []⟩, h, ms⟩ ((EW X).code f rd b ⟨⟨puts g (U n), []⟩, h, ms⟩) = some (e, ⟨⟨puts g V, []⟩, h, ms⟩)) (hr : isNormal e = false) :
    ∃ h', x = some (e, ⟨⟨puts g V, []⟩, h', ms⟩) ∧ H n h' := by
  obtain ⟨e', s', h1, h', rfl, rfl, h2⟩ := w_rounds_ex hx (fun k s => ∃ h, s = ⟨⟨puts g (U k), []⟩, h, ms⟩ ∧ H k h) n (fun e' s' => ∃ h', e' = e ∧ s' = ⟨⟨puts g V, []⟩, h', ms⟩ ∧ H n h')
    ⟨h, by rw [h0], hh⟩ (fun k s hk ⟨h, hs1, hs2⟩ => by
      subst hs1
      obtain ⟨h', a, c⟩ := hs k h hk hs2
      exact ⟨_, a, h', rfl, c⟩)
    (fun s ⟨h, hs1, hs2⟩ => by
      subst hs1
      exact ⟨e, _, he h hs2, hr, h, rfl, rfl, hs2⟩)
  exact ⟨h', h1, h2⟩
theorem w_rounds_hk {G : Prop} {g : Slots} {h : Heap} {ms : List Nat} {x : Option (AExit × St)} (hx : (EW X).code f rd (.loop b) ⟨⟨g, []⟩, h, ms⟩ = x) (U : Nat → Slots) (H : Nat → Heap → Prop) (n : Nat) (e : AExit) (V : Slots) (hr : isNormal e = false) (h0 : puts g (U 0) = g) (hh : H 0 h)
    (hs : ∀ k h, k < n → H k h → ∃ h', cutS ⟨⟨puts g (U k), []⟩, h, ms⟩ ((EW X).code f rd b ⟨⟨puts g (U k), []⟩, h, ms⟩) = some (.normal, ⟨⟨puts g (U (k + 1)), []⟩, h', ms⟩) ∧ H (k + 1) h')
    (he : ∀ h, H n h → cutS ⟨⟨puts g (U n), []⟩, h, ms⟩ ((EW X).code f rd b ⟨⟨puts g (U n), []⟩, h, ms⟩) = some (e, ⟨⟨puts g V, []⟩, h, ms⟩))
    (hG : ∀ h', x = some (e, ⟨⟨puts g V, []⟩, h', ms⟩) → H n h' → G) : G := by
  obtain ⟨h', a, c⟩ := w_rounds_hr hx U H n e V h0 hh hs he hr
  exact hG h' a c
end

/-- A place: a half, a card, a step. -/
abbrev Pl := Nat × Nat × Nat
def eL (p : Pl) : AV := .agg [.int .i64 p.1, .int .i64 p.2.1, .int .i64 p.2.2]
def keyL (p : Pl) : List AV := [.int .i64 p.1, .int .i64 p.2.1, .int .i64 p.2.2]
def esL (ps : List (Pl × Int)) : List (AV × AV) := ps.map fun x => (eL x.1, .int .i64 x.2)
theorem eqKey (p q : Pl) : eqCells [0, 0, 0] (keyL p) (keyL q) = some (decide (p = q)) := by
  obtain ⟨a, b, c⟩ := p
  obtain ⟨x, y, z⟩ := q
  simp only [eqCells, keyL, if_true, Option.map_some]
  congr 1
  rw [Bool.eq_iff_iff]
  simp
  omega
theorem look_es (q : Pl) : ∀ ps : List (Pl × Int), lookAV [0, 0, 0] (esL ps) (keyL q) = some ((ps.find? fun x => decide (q = x.1)).map fun x => .int .i64 x.2)
  | [] => rfl
  | x :: ps => by
    have e : lookAV [0, 0, 0] (esL (x :: ps)) (keyL q) = match eqCells [0, 0, 0] (keyL q) (keyL x.1) with
      | some true => some (some (.int .i64 x.2))
      | some false => lookAV [0, 0, 0] (esL ps) (keyL q)
      | none => none := rfl
    rw [e, eqKey, look_es q ps, List.find?_cons]
    cases decide (q = x.1) <;> rfl
theorem put_es (q : Pl) (v : Int) : ∀ ps : List (Pl × Int), (∀ x ∈ ps, q ≠ x.1) → putAV [0, 0, 0] (esL ps) (keyL q) (.int .i64 v) = some (esL (ps ++ [(q, v)]))
  | [], _ => rfl
  | x :: ps, h => by
    have e : putAV [0, 0, 0] (esL (x :: ps)) (keyL q) (.int .i64 v) = match eqCells [0, 0, 0] (keyL q) (keyL x.1) with
      | some true => some ((eL q, .int .i64 v) :: esL ps)
      | some false => (putAV [0, 0, 0] (esL ps) (keyL q) (.int .i64 v)).map ((eL x.1, .int .i64 x.2) :: ·)
      | none => none := rfl
    have hne : decide (q = x.1) = false := by simpa using h x (by simp)
    rw [e, eqKey, hne, put_es q v ps fun y hy => h y (by simp [hy])]
    rfl
/-- Places, each with its number. -/
def num (ps : List Pl) : List (Pl × Int) := ps.zipIdx.map fun x => (x.1, (x.2 : Int) + 1)
theorem num_snoc (ps : List Pl) (p : Pl) : num (ps ++ [p]) = num ps ++ [(p, (ps.length : Int) + 1)] := by
  unfold num; rw [List.zipIdx_append]; simp
theorem num_mem {ps : List Pl} {x : Pl × Int} (h : x ∈ num ps) : x.1 ∈ ps ∧ 0 < x.2 := by
  unfold num at h
  obtain ⟨y, hy, rfl⟩ := List.mem_map.1 h
  obtain ⟨a, i⟩ := y
  have := List.mem_zipIdx hy
  refine ⟨by simp only; rw [this.2.2]; exact List.getElem_mem _, by simp only; omega⟩
theorem num_find (q : Pl) (ps : List Pl) : (decide (0 < (match (num ps).find? (fun x => decide (q = x.1)) with | some x => x.2 | none => 0))) = decide (q ∈ ps) := by
  cases h : (num ps).find? fun x => decide (q = x.1) with
  | some x =>
    have h1 := List.find?_some h
    have h2 := num_mem (List.mem_of_find?_eq_some h)
    have e : q = x.1 := by simpa using h1
    rw [← e] at h2
    simp [h2.1, h2.2]
  | none =>
    have h1 := List.find?_eq_none.1 h
    have : q ∉ ps := fun hm => by
      obtain ⟨i, hi, e⟩ := List.mem_iff_getElem.1 hm
      have hz : (q, i) ∈ ps.zipIdx := by
        rw [List.mem_iff_getElem]
        exact ⟨i, by simpa using hi, by simp [e]⟩
      have := h1 (q, (i : Int) + 1) (List.mem_map.2 ⟨(q, i), hz, rfl⟩)
      simp at this
    simp [this]

def Own (tag z n : Nat) (t : List Bool) : Prop := (tag = 1 ∧ n = 0) ∨ ∃ q, tag = q + 2 ∧ z = 3 ∧ t[q]? = some true
/-- The heap in which a drawer is looked at, so far. -/
def HL (B : List ABlk) (d : Dr) (ps : List Pl) (h : Heap) : Prop :=
  ∃ tag z junk t, h = ⟨B ++ (.cells (eDc d) :: .map (esL (num ps)) :: .cells (eDc d ++ [.lst tag z (ps.map eL), .mapr (B.length + 1)]) :: junk), t⟩ ∧ Own tag z ps.length t
end Go.Proofs.Ytbfodfepgefloaa
end
section
namespace Go.Proofs.Ytbfodfepgefloaa
open Go.Proofs
attribute [go_sem] d_nil d_c opMapUpdate

def fitB (d : Dr) (e c s : Nat) : Bool := besideB d.wear (d.cards.getD c ⟨default, []⟩).edge (d.halves.getD e ⟨default, []⟩).edge s
def P3 (d : Dr) (e c k : Nat) : List Pl := ((List.range k).filter fun s => fitB d e c s).map fun s => (e, c, s)
def P2 (d : Dr) (e k : Nat) : List Pl := (List.range k).flatMap fun c => P3 d e c d.steps.toNat
def P1 (d : Dr) (k : Nat) : List Pl := (List.range k).flatMap fun e => P2 d e d.cards.length
theorem P3_succ (d : Dr) (e c k : Nat) : P3 d e c (k + 1) = if fitB d e c k = true then P3 d e c k ++ [(e, c, k)] else P3 d e c k := by
  unfold P3; rw [List.range_succ, List.filter_append, List.map_append]
  cases h : fitB d e c k <;> simp [h]
theorem P2_succ (d : Dr) (e k : Nat) : P2 d e (k + 1) = P2 d e k ++ P3 d e k d.steps.toNat := by unfold P2; rw [List.range_succ, List.flatMap_append]; simp
theorem P1_succ (d : Dr) (k : Nat) : P1 d (k + 1) = P1 d k ++ P2 d k d.cards.length := by unfold P1; rw [List.range_succ, List.flatMap_append]; simp
theorem P3_mem {d : Dr} {e c k : Nat} {p : Pl} (h : p ∈ P3 d e c k) : p.1 = e ∧ p.2.1 = c ∧ p.2.2 < k ∧ fitB d e c p.2.2 = true := by
  unfold P3 at h
  obtain ⟨s, hs, rfl⟩ := List.mem_map.1 h
  obtain ⟨h1, h2⟩ := List.mem_filter.1 hs
  exact ⟨rfl, rfl, by simpa using h1, h2⟩
theorem P2_mem {d : Dr} {e k : Nat} {p : Pl} (h : p ∈ P2 d e k) : p.1 = e ∧ p.2.1 < k := by
  unfold P2 at h
  obtain ⟨c, hc, hp⟩ := List.mem_flatMap.1 h
  have := P3_mem hp
  exact ⟨this.1, by rw [this.2.1]; simpa using hc⟩
theorem P1_mem {d : Dr} {k : Nat} {p : Pl} (h : p ∈ P1 d k) : p.1 < k := by
  unfold P1 at h
  obtain ⟨c, hc, hp⟩ := List.mem_flatMap.1 h
  have := P2_mem hp
  rw [this.1]; simpa using hc
theorem P3_len (d : Dr) (e c k : Nat) : (P3 d e c k).length ≤ k := by
  unfold P3; rw [List.length_map]; have := List.length_filter_le (fun s => fitB d e c s) (List.range k); simpa using this
theorem P2_len (d : Dr) (e : Nat) : ∀ k, (P2 d e k).length ≤ k * d.steps.toNat
  | 0 => by simp [P2]
  | k + 1 => by rw [P2_succ, List.length_append, Nat.succ_mul]; have := P2_len d e k; have := P3_len d e k d.steps.toNat; omega
theorem P1_len (d : Dr) : ∀ k, (P1 d k).length ≤ k * (d.cards.length * d.steps.toNat)
  | 0 => by simp [P1]
  | k + 1 => by rw [P1_succ, List.length_append, Nat.succ_mul]; have := P1_len d k; have := P2_len d k d.cards.length; omega
theorem P_new (d : Dr) (e c k : Nat) : ∀ x ∈ num (P1 d e ++ (P2 d e c ++ P3 d e c k)), ((e, c, k) : Pl) ≠ x.1 := fun x hx he => by
  have hm := (num_mem hx).1
  rw [← he] at hm
  rcases List.mem_append.1 hm with h | h
  · have := P1_mem h; simp at this
  · rcases List.mem_append.1 h with h | h
    · have := (P2_mem h).2; simp at this
    · have := (P3_mem h).2.2.1; simp at this

/-- A slice is appended to whose end is owned. -/
theorem app_own {t' e : TypeId} {sz : Nat} {tag z n : Nat} {t : List Bool} (hn : Own tag z n t) (hsz : sz = 3) (p : Nat) (hp : p < t.length) (u z' : Nat) (xs ys : List AV) (hl : xs.length = n) (ht : trow tabX t' = .slice e) (hs : tsz tabX e = sz) (hz' : z' = sz)
    (hy : (xs.length + ys.length) * tbytes tabX e ≤ 1048576) (hy2 : xs.length + ys.length ≤ 1048576) (hf : zeroFits tabX e = true) (hv : ys.all AV.var = true) :
    ∃ t2, (∀ B, appendAV tabX t' p ⟨B, t⟩ (.lst tag z xs) (.lst u z' ys) = some (.lst (p + 2) sz (xs ++ ys), ⟨B, t2⟩)) ∧ t2[p]? = some true ∧ t2.length = t.length := by
  have hc : (z' = tsz tabX e ∨ ys.length = 0) ∧ 0 < tsz tabX e ∧ (xs.length + ys.length) * tbytes tabX e ≤ appLimit ∧ xs.length + ys.length ≤ appLimit ∧ zeroFits tabX e = true ∧ ys.all AV.var = true := by
    rw [hs]; exact ⟨.inl hz', by omega, hy, hy2, hf, hv⟩
  unfold appendAV
  simp only [ht, if_pos hc]
  rcases hn with ⟨rfl, h0⟩ | ⟨q, rfl, hq, hqt⟩
  · have hx : z = tsz tabX e ∨ xs.length = 0 := .inr (by omega)
    refine ⟨t.set p true, fun B => ?_, by simp [hp], by simp⟩
    rw [if_pos hx]
    simp only [hs, lset, if_pos hp]
  · have hx : z = tsz tabX e := by rw [hs, hq, hsz]
    refine ⟨(t.set q false).set p true, fun B => ?_, by simp [hp], by simp⟩
    simp only [hqt]
    rw [if_pos hx]
    simp only [hs, lset, List.length_set, if_pos hp]
theorem Own.more {tag z n : Nat} {t : List Bool} (h : Own tag z n t) (u : List Bool) : Own tag z n (t ++ u) := by
  rcases h with h | ⟨q, h1, h2, h3⟩
  · exact .inl h
  · exact .inr ⟨q, h1, h2, old h3 u⟩
end Go.Proofs.Ytbfodfepgefloaa
end
section
namespace Go.Proofs.Ytbfodfepgefloaa
open Go.Proofs

theorem c75 (d : Dr) (hd : d.fits) (ho : d.Ok) (h : Heap) : ∃ h', (EW tabX).call 75 [eD d] h = some (.ref (h.b.length + 2) 0, h') ∧ HL h.b d (P1 d d.halves.length) h' := by
  obtain ⟨B, ht⟩ := h
  have hs6 := ho.s6
  have hs1 := ho.s1
  have hc4 := ho.c4
  have hh4 := ho.h4
  have hnu : ¬ (B.length + 2 < B.length) := by omega
  rw [w_call _ fn_75 rfl]
  have h12 : B.length + 1 < B.length + 2 + 1 := by omega
  simp only [go_sem, ↓reduceIte, Nat.reduceBEq, Nat.reduceEqDiff, Nat.reduceLT, Nat.reduceLeDiff, Nat.reduceAdd, Nat.reduceMul, Nat.reduceSub, reduceCtorEq, Int.reduceLT, Int.reduceLE, Int.reduceEq, Int.reduceBEq, Int.reduceBNe, Int.reduceToNat, Int.reduceAdd, Int.reduceNeg, Int.reduceSub, eD, eDc, eC_under, h12]
  generalize hx : (EW tabX).code 75 none (Code.loop _) _ = x
  refine w_rounds_hk hx (fun k => [(15, .int .i64 k)]) (fun k h => HL B d (P1 d k) h) d.halves.length (.exit 0) [(15, .int .i64 d.halves.length)] rfl ?_ ?_ ?_ ?_ ?_
  · simp only [go_sem, ↓reduceIte, Nat.reduceBEq, Nat.reduceEqDiff, Nat.reduceLT, Nat.reduceLeDiff, Nat.reduceAdd, Nat.reduceMul, Nat.reduceSub, reduceCtorEq, Int.reduceLT, Int.reduceLE, Int.reduceEq, Int.reduceBEq, Int.reduceBNe, Int.reduceToNat, Int.reduceAdd, Int.reduceNeg, Int.reduceSub]
  · exact ⟨1, 0, [], ht, by simp only [eDc, go_sem, ↓reduceIte, Nat.reduceBEq, Nat.reduceEqDiff, Nat.reduceLT, Nat.reduceLeDiff, Nat.reduceAdd, Nat.reduceMul, Nat.reduceSub, reduceCtorEq, Int.reduceLT, Int.reduceLE, Int.reduceEq, Int.reduceBEq, Int.reduceBNe, Int.reduceToNat, Int.reduceAdd, Int.reduceNeg, Int.reduceSub]; rfl, .inl ⟨rfl, rfl⟩⟩
  · intro e h he hH
    have hei : (e : Int) < d.halves.length := by omega
    obtain ⟨tag, z, junk, t, rfl, hown⟩ := hH
    simp only [go_sem, ↓reduceIte, Nat.reduceBEq, Nat.reduceEqDiff, Nat.reduceLT, Nat.reduceLeDiff, Nat.reduceAdd, Nat.reduceMul, Nat.reduceSub, reduceCtorEq, Int.reduceLT, Int.reduceLE, Int.reduceEq, Int.reduceBEq, Int.reduceBNe, Int.reduceToNat, Int.reduceAdd, Int.reduceNeg, Int.reduceSub, hei, eDc]
    generalize hy : (EW tabX).code 75 none (Code.loop _) _ = y
    refine w_rounds_hk hy (fun k => [(21, .int .i64 k)]) (fun k h => HL B d (P1 d e ++ P2 d e k) h) d.cards.length (.exit 2) [(21, .int .i64 d.cards.length)] rfl ?_ ?_ ?_ ?_ ?_
    · simp only [go_sem, ↓reduceIte, Nat.reduceBEq, Nat.reduceEqDiff, Nat.reduceLT, Nat.reduceLeDiff, Nat.reduceAdd, Nat.reduceMul, Nat.reduceSub, reduceCtorEq, Int.reduceLT, Int.reduceLE, Int.reduceEq, Int.reduceBEq, Int.reduceBNe, Int.reduceToNat, Int.reduceAdd, Int.reduceNeg, Int.reduceSub]
    · exact ⟨tag, z, junk, t, by simp only [eDc, go_sem, ↓reduceIte, Nat.reduceBEq, Nat.reduceEqDiff, Nat.reduceLT, Nat.reduceLeDiff, Nat.reduceAdd, Nat.reduceMul, Nat.reduceSub, reduceCtorEq, Int.reduceLT, Int.reduceLE, Int.reduceEq, Int.reduceBEq, Int.reduceBNe, Int.reduceToNat, Int.reduceAdd, Int.reduceNeg, Int.reduceSub, P2, List.range_zero, List.flatMap_nil], by simpa [P2] using hown⟩
    · intro c h hc hH
      have hci : (c : Int) < d.cards.length := by omega
      obtain ⟨tag, z, junk, t, rfl, hown⟩ := hH
      simp only [go_sem, ↓reduceIte, Nat.reduceBEq, Nat.reduceEqDiff, Nat.reduceLT, Nat.reduceLeDiff, Nat.reduceAdd, Nat.reduceMul, Nat.reduceSub, reduceCtorEq, Int.reduceLT, Int.reduceLE, Int.reduceEq, Int.reduceBEq, Int.reduceBNe, Int.reduceToNat, Int.reduceAdd, Int.reduceNeg, Int.reduceSub, hci, eDc]
      generalize hz : (EW tabX).code 75 none (Code.loop _) _ = w
      refine w_rounds_hk hz (fun k => [(26, .int .i64 k)]) (fun k h => HL B d (P1 d e ++ (P2 d e c ++ P3 d e c k)) h) d.steps.toNat (.exit 4) [(26, .int .i64 d.steps.toNat)] rfl ?_ ?_ ?_ ?_ ?_
      · simp only [go_sem, ↓reduceIte, Nat.reduceBEq, Nat.reduceEqDiff, Nat.reduceLT, Nat.reduceLeDiff, Nat.reduceAdd, Nat.reduceMul, Nat.reduceSub, reduceCtorEq, Int.reduceLT, Int.reduceLE, Int.reduceEq, Int.reduceBEq, Int.reduceBNe, Int.reduceToNat, Int.reduceAdd, Int.reduceNeg, Int.reduceSub]
      · exact ⟨tag, z, junk, t, by simp only [eDc, go_sem, ↓reduceIte, Nat.reduceBEq, Nat.reduceEqDiff, Nat.reduceLT, Nat.reduceLeDiff, Nat.reduceAdd, Nat.reduceMul, Nat.reduceSub, reduceCtorEq, Int.reduceLT, Int.reduceLE, Int.reduceEq, Int.reduceBEq, Int.reduceBNe, Int.reduceToNat, Int.reduceAdd, Int.reduceNeg, Int.reduceSub, P3, List.range_zero, List.filter_nil], by simpa [P3] using hown⟩
      · intro s h hs hH
        have hsi : (s : Int) < d.steps := by omega
        obtain ⟨tag, z, junk, t, rfl, hown⟩ := hH
        clear hx hy hz
        have hcc : d.cards[c]? = some (d.cards.getD c ⟨default, []⟩) := by
          rw [List.getD_eq_getElem?_getD, List.getElem?_eq_getElem (show c < d.cards.length by omega)]; rfl
        have hee : d.halves[e]? = some (d.halves.getD e ⟨default, []⟩) := by
          rw [List.getD_eq_getElem?_getD, List.getElem?_eq_getElem (show e < d.halves.length by omega)]; rfl
        have h81 := c81 d hd ho e c s _ _ hcc hee hsi (B.length + 2) [.lst tag z ((P1 d e ++ (P2 d e c ++ P3 d e c s)).map eL), .mapr (B.length + 1)] ⟨B ++ (.cells (eDc d) :: .map (esL (num (P1 d e ++ (P2 d e c ++ P3 d e c s)))) :: .cells (eDc d ++ [.lst tag z ((P1 d e ++ (P2 d e c ++ P3 d e c s)).map eL), .mapr (B.length + 1)]) :: (junk ++ [.cells [.int .i64 e, .int .i64 c, .int .i64 s]])), t⟩ (by
          show (B ++ _)[B.length + 2]? = _
          rw [get_at]; rfl)
        simp only [eP, eDc, go_sem, ↓reduceIte, Nat.reduceBEq, Nat.reduceEqDiff, Nat.reduceLT, Nat.reduceLeDiff, Nat.reduceAdd, Nat.reduceMul, Nat.reduceSub, reduceCtorEq, Int.reduceLT, Int.reduceLE, Int.reduceEq, Int.reduceBEq, Int.reduceBNe, Int.reduceToNat, Int.reduceAdd, Int.reduceNeg, Int.reduceSub] at h81
        have hlen : (P1 d e ++ (P2 d e c ++ P3 d e c s)).length ≤ 200 := by
          have a1 := P1_len d e
          have a2 := P2_len d e c
          have a3 := P3_len d e c s
          have m1 : e * (d.cards.length * d.steps.toNat) ≤ 4 * (4 * 6) := Nat.mul_le_mul (by omega) (Nat.mul_le_mul (by omega) (by omega))
          have m2 : c * d.steps.toNat ≤ 4 * 6 := Nat.mul_le_mul (by omega) (by omega)
          simp only [List.length_append]
          omega
        have hnew := P_new d e c s
        rw [P3_succ]
        change (EW tabX).call 81 _ _ = some (.bool (fitB d e c s), _) at h81
        cases hb : fitB d e c s with
        | false =>
          rw [hb] at h81
          refine ⟨_, ?_, ⟨tag, z, junk ++ [.cells [.int .i64 e, .int .i64 c, .int .i64 s]], t, rfl, hown⟩⟩
          simp (disch := omega) only [go_sem, ↓reduceIte, Nat.reduceBEq, Nat.reduceEqDiff, Nat.reduceLT, Nat.reduceLeDiff, Nat.reduceAdd, Nat.reduceMul, Nat.reduceSub, reduceCtorEq, Int.reduceLT, Int.reduceLE, Int.reduceEq, Int.reduceBEq, Int.reduceBNe, Int.reduceToNat, Int.reduceAdd, Int.reduceNeg, Int.reduceSub, hsi, eDc, h81, wrap_i64]
        | true =>
          rw [hb] at h81
          have hput := put_es (e, c, s) ((P1 d e ++ (P2 d e c ++ P3 d e c s)).length + 1) (num (P1 d e ++ (P2 d e c ++ P3 d e c s))) hnew
          rw [← num_snoc] at hput
          have hkey : eqCells [0, 0, 0] [.int .i64 e, .int .i64 c, .int .i64 s] [.int .i64 e, .int .i64 c, .int .i64 s] = some true := by
            have := eqKey (e, c, s) (e, c, s); simpa [keyL] using this
          simp only [keyL] at hput
          have happ : P1 d e ++ (P2 d e c ++ (P3 d e c s ++ [(e, c, s)])) = (P1 d e ++ (P2 d e c ++ P3 d e c s)) ++ [(e, c, s)] := by simp only [List.append_assoc]
          simp only [if_true]
          rw [happ]
          generalize P1 d e ++ (P2 d e c ++ P3 d e c s) = ps at hput hlen hown h81 ⊢
          have hl1 : ((ps.map eL).length : Int) = ps.length := by simp
          simp (disch := omega) only [go_sem, ↓reduceIte, Nat.reduceBEq, Nat.reduceEqDiff, Nat.reduceLT, Nat.reduceLeDiff, Nat.reduceAdd, Nat.reduceMul, Nat.reduceSub, reduceCtorEq, Int.reduceLT, Int.reduceLE, Int.reduceEq, Int.reduceBEq, Int.reduceBNe, Int.reduceToNat, Int.reduceAdd, Int.reduceNeg, Int.reduceSub, hsi, eDc, h81, wrap_i64]
          rw [if_pos (by kernel_rfl)]
          have hw : IntKind.i64.wrap ((ps.length : Int) + 1) = (ps.length : Int) + 1 := wrap_i64 (by omega)
          have hu : underL (B.length + 1 + 1) [.int .i64 ((ps.length : Int) + 1)] = true := by simp only [go_sem, ↓reduceIte, Nat.reduceBEq, Nat.reduceEqDiff, Nat.reduceLT, Nat.reduceLeDiff, Nat.reduceAdd, Nat.reduceMul, Nat.reduceSub, reduceCtorEq, Int.reduceLT, Int.reduceLE, Int.reduceEq, Int.reduceBEq, Int.reduceBNe, Int.reduceToNat, Int.reduceAdd, Int.reduceNeg, Int.reduceSub]
          simp only [go_sem, ↓reduceIte, Nat.reduceBEq, Nat.reduceEqDiff, Nat.reduceLT, Nat.reduceLeDiff, Nat.reduceAdd, Nat.reduceMul, Nat.reduceSub, reduceCtorEq, Int.reduceLT, Int.reduceLE, Int.reduceEq, Int.reduceBEq, Int.reduceBNe, Int.reduceToNat, Int.reduceAdd, Int.reduceNeg, Int.reduceSub, hkey, hw, hput, hu, eDc]
          rw [if_pos (by kernel_rfl)]
          generalize hT : t ++ (List.replicate _ false ++ List.replicate _ false) = T
          generalize hp : t.length + (List.replicate _ false).length + 7 = p
          have hpT : p < T.length := by
            rw [← hp, ← hT]
            simp only [List.length_append, List.length_replicate]
            simp
          have hownT : Own tag z ps.length T := by rw [← hT]; exact hown.more _
          obtain ⟨t2, ha, hb1, hb2⟩ := app_own (t' := 85) (e := 90) (sz := 3) hownT rfl p hpT 1 3 (ps.map eL) [.agg [.int .i64 e, .int .i64 c, .int .i64 s]] (by simp) (by simp only [go_sem, ↓reduceIte, Nat.reduceBEq, Nat.reduceEqDiff, Nat.reduceLT, Nat.reduceLeDiff, Nat.reduceAdd, Nat.reduceMul, Nat.reduceSub, reduceCtorEq, Int.reduceLT, Int.reduceLE, Int.reduceEq, Int.reduceBEq, Int.reduceBNe, Int.reduceToNat, Int.reduceAdd, Int.reduceNeg, Int.reduceSub]) (by simp only [go_sem, ↓reduceIte, Nat.reduceBEq, Nat.reduceEqDiff, Nat.reduceLT, Nat.reduceLeDiff, Nat.reduceAdd, Nat.reduceMul, Nat.reduceSub, reduceCtorEq, Int.reduceLT, Int.reduceLE, Int.reduceEq, Int.reduceBEq, Int.reduceBNe, Int.reduceToNat, Int.reduceAdd, Int.reduceNeg, Int.reduceSub]) rfl (by simp only [go_sem, ↓reduceIte, Nat.reduceBEq, Nat.reduceEqDiff, Nat.reduceLT, Nat.reduceLeDiff, Nat.reduceAdd, Nat.reduceMul, Nat.reduceSub, reduceCtorEq, Int.reduceLT, Int.reduceLE, Int.reduceEq, Int.reduceBEq, Int.reduceBNe, Int.reduceToNat, Int.reduceAdd, Int.reduceNeg, Int.reduceSub, List.length_map]; omega) (by simp only [go_sem, ↓reduceIte, Nat.reduceBEq, Nat.reduceEqDiff, Nat.reduceLT, Nat.reduceLeDiff, Nat.reduceAdd, Nat.reduceMul, Nat.reduceSub, reduceCtorEq, Int.reduceLT, Int.reduceLE, Int.reduceEq, Int.reduceBEq, Int.reduceBNe, Int.reduceToNat, Int.reduceAdd, Int.reduceNeg, Int.reduceSub, List.length_map]; omega) (by simp only [go_sem, ↓reduceIte, Nat.reduceBEq, Nat.reduceEqDiff, Nat.reduceLT, Nat.reduceLeDiff, Nat.reduceAdd, Nat.reduceMul, Nat.reduceSub, reduceCtorEq, Int.reduceLT, Int.reduceLE, Int.reduceEq, Int.reduceBEq, Int.reduceBNe, Int.reduceToNat, Int.reduceAdd, Int.reduceNeg, Int.reduceSub]) (by simp only [go_sem, ↓reduceIte, Nat.reduceBEq, Nat.reduceEqDiff, Nat.reduceLT, Nat.reduceLeDiff, Nat.reduceAdd, Nat.reduceMul, Nat.reduceSub, reduceCtorEq, Int.reduceLT, Int.reduceLE, Int.reduceEq, Int.reduceBEq, Int.reduceBNe, Int.reduceToNat, Int.reduceAdd, Int.reduceNeg, Int.reduceSub])
          have hul : ∀ n, underL n (ps.map eL) = true := fun n => underL_map (fun x => by simp only [eL, go_sem, ↓reduceIte, Nat.reduceBEq, Nat.reduceEqDiff, Nat.reduceLT, Nat.reduceLeDiff, Nat.reduceAdd, Nat.reduceMul, Nat.reduceSub, reduceCtorEq, Int.reduceLT, Int.reduceLE, Int.reduceEq, Int.reduceBEq, Int.reduceBNe, Int.reduceToNat, Int.reduceAdd, Int.reduceNeg, Int.reduceSub]) ps
          have hws : IntKind.i64.wrap ((s : Int) + 1) = (s : Int) + 1 := wrap_i64 (by omega)
          simp only [go_sem, ↓reduceIte, Nat.reduceBEq, Nat.reduceEqDiff, Nat.reduceLT, Nat.reduceLeDiff, Nat.reduceAdd, Nat.reduceMul, Nat.reduceSub, reduceCtorEq, Int.reduceLT, Int.reduceLE, Int.reduceEq, Int.reduceBEq, Int.reduceBNe, Int.reduceToNat, Int.reduceAdd, Int.reduceNeg, Int.reduceSub, ha, eDc, hul, hws]
          have hmap : ps.map eL ++ [.agg [.int .i64 e, .int .i64 c, .int .i64 s]] = (ps ++ [(e, c, s)]).map eL := by simp [eL]
          rw [hmap]
          exact ⟨_, rfl, p + 2, 3, _, t2, rfl, .inr ⟨p, rfl, rfl, hb1⟩⟩
      · intro h hH
        obtain ⟨tag, z, junk, t, rfl, hown⟩ := hH
        have hn : ((d.steps.toNat : Nat) : Int) = d.steps := by omega
        simp only [go_sem, ↓reduceIte, Nat.reduceBEq, Nat.reduceEqDiff, Nat.reduceLT, Nat.reduceLeDiff, Nat.reduceAdd, Nat.reduceMul, Nat.reduceSub, reduceCtorEq, Int.reduceLT, Int.reduceLE, Int.reduceEq, Int.reduceBEq, Int.reduceBNe, Int.reduceToNat, Int.reduceAdd, Int.reduceNeg, Int.reduceSub, eDc, hn]
      · intro h' e1 hH
        subst e1
        obtain ⟨tag, z, junk, t, rfl, hown⟩ := hH
        refine ⟨_, ?_, ⟨tag, z, junk, t, by rw [P2_succ], by rw [P2_succ]; exact hown⟩⟩
        simp (disch := omega) only [go_sem, ↓reduceIte, Nat.reduceBEq, Nat.reduceEqDiff, Nat.reduceLT, Nat.reduceLeDiff, Nat.reduceAdd, Nat.reduceMul, Nat.reduceSub, reduceCtorEq, Int.reduceLT, Int.reduceLE, Int.reduceEq, Int.reduceBEq, Int.reduceBNe, Int.reduceToNat, Int.reduceAdd, Int.reduceNeg, Int.reduceSub, eDc, wrap_i64]
    · intro h hH
      obtain ⟨tag, z, junk, t, rfl, hown⟩ := hH
      simp only [go_sem, ↓reduceIte, Nat.reduceBEq, Nat.reduceEqDiff, Nat.reduceLT, Nat.reduceLeDiff, Nat.reduceAdd, Nat.reduceMul, Nat.reduceSub, reduceCtorEq, Int.reduceLT, Int.reduceLE, Int.reduceEq, Int.reduceBEq, Int.reduceBNe, Int.reduceToNat, Int.reduceAdd, Int.reduceNeg, Int.reduceSub, eDc]
    · intro h' e1 hH
      subst e1
      obtain ⟨tag, z, junk, t, rfl, hown⟩ := hH
      refine ⟨_, ?_, ⟨tag, z, junk, t, by rw [P1_succ], by rw [P1_succ]; exact hown⟩⟩
      simp (disch := omega) only [go_sem, ↓reduceIte, Nat.reduceBEq, Nat.reduceEqDiff, Nat.reduceLT, Nat.reduceLeDiff, Nat.reduceAdd, Nat.reduceMul, Nat.reduceSub, reduceCtorEq, Int.reduceLT, Int.reduceLE, Int.reduceEq, Int.reduceBEq, Int.reduceBNe, Int.reduceToNat, Int.reduceAdd, Int.reduceNeg, Int.reduceSub, eDc, wrap_i64]
  · intro h hH
    obtain ⟨tag, z, junk, t, rfl, hown⟩ := hH
    simp only [go_sem, ↓reduceIte, Nat.reduceBEq, Nat.reduceEqDiff, Nat.reduceLT, Nat.reduceLeDiff, Nat.reduceAdd, Nat.reduceMul, Nat.reduceSub, reduceCtorEq, Int.reduceLT, Int.reduceLE, Int.reduceEq, Int.reduceBEq, Int.reduceBNe, Int.reduceToNat, Int.reduceAdd, Int.reduceNeg, Int.reduceSub]
  · intro h' e1 hH
    subst e1
    obtain ⟨tag, z, junk, t, rfl, hown⟩ := hH
    refine ⟨_, ?_, ⟨tag, z, junk, t, rfl, hown⟩⟩
    simp only [go_sem, ↓reduceIte, Nat.reduceBEq, Nat.reduceEqDiff, Nat.reduceLT, Nat.reduceLeDiff, Nat.reduceAdd, Nat.reduceMul, Nat.reduceSub, reduceCtorEq, Int.reduceLT, Int.reduceLE, Int.reduceEq, Int.reduceBEq, Int.reduceBNe, Int.reduceToNat, Int.reduceAdd, Int.reduceNeg, Int.reduceSub, hnu]
end Go.Proofs.Ytbfodfepgefloaa
end
section
namespace Go.Proofs.Ytbfodfepgefloaa
open Go.Proofs
attribute [go_sem] opLookup

def fitsB (d : Dr) (ps : List Pl) (e c : Nat) : Bool := !allTo (fun s => !decide (((e, c, s) : Pl) ∈ ps)) d.steps.toNat
theorem c83 (d : Dr) (hs : 0 ≤ d.steps ∧ d.steps ≤ 6) (ps : List Pl) (e c : Nat) (r m : Nat) (o : AV) (h : Heap) (hr : h.b[r]? = some (.cells (eDc d ++ [o, .mapr m]))) (hm : h.b[m]? = some (.map (esL (num ps)))) :
    (EW tabX).call 83 [.ref r 0, .int .i64 e, .int .i64 c] h = some (.bool (fitsB d ps e c), h) := by
  obtain ⟨B, ht⟩ := h
  have hr : B[r]? = some (.cells (eDc d ++ [o, .mapr m])) := hr
  have hm : B[m]? = some (.map (esL (num ps))) := hm
  simp only [eDc, List.cons_append, List.nil_append] at hr
  rw [w_call _ fn_83 rfl]
  simp only [go_sem, ↓reduceIte, Nat.reduceBEq, Nat.reduceEqDiff, Nat.reduceLT, Nat.reduceLeDiff, Nat.reduceAdd, Nat.reduceMul, Nat.reduceSub, reduceCtorEq, Int.reduceLT, Int.reduceLE, Int.reduceEq, Int.reduceBEq, Int.reduceBNe, Int.reduceToNat, Int.reduceAdd, Int.reduceNeg, Int.reduceSub, hr]
  have look : ∀ s : Nat, eqCells [0, 0, 0] [.int .i64 e, .int .i64 c, .int .i64 s] [.int .i64 e, .int .i64 c, .int .i64 s] = some true ∧
      lookAV [0, 0, 0] (esL (num ps)) [.int .i64 e, .int .i64 c, .int .i64 s] = some (((num ps).find? fun x => decide (((e, c, s) : Pl) = x.1)).map fun x => .int .i64 x.2) := fun s =>
    ⟨by have := eqKey (e, c, s) (e, c, s); simpa [keyL] using this, look_es (e, c, s) (num ps)⟩
  have round : ∀ s : Nat, decide (((e, c, s) : Pl) ∈ ps) = (match (num ps).find? (fun x => decide (((e, c, s) : Pl) = x.1)) with | some x => decide (0 < x.2) | none => false) := fun s => by
    rw [← num_find]
    cases (num ps).find? (fun x => decide (((e, c, s) : Pl) = x.1)) <;> rfl
  cases ha : allTo (fun s => !decide (((e, c, s) : Pl) ∈ ps)) d.steps.toNat with
  | true =>
    rw [w_rounds_u (fun k => [(13, .int .i64 k)]) d.steps.toNat (.exit 0) [(13, .int .i64 d.steps.toNat)] ?_ ?_ ?_ rfl]
    · simp only [go_sem, ↓reduceIte, Nat.reduceBEq, Nat.reduceEqDiff, Nat.reduceLT, Nat.reduceLeDiff, Nat.reduceAdd, Nat.reduceMul, Nat.reduceSub, reduceCtorEq, Int.reduceLT, Int.reduceLE, Int.reduceEq, Int.reduceBEq, Int.reduceBNe, Int.reduceToNat, Int.reduceAdd, Int.reduceNeg, Int.reduceSub, fitsB, ha]
    · simp only [go_sem, ↓reduceIte, Nat.reduceBEq, Nat.reduceEqDiff, Nat.reduceLT, Nat.reduceLeDiff, Nat.reduceAdd, Nat.reduceMul, Nat.reduceSub, reduceCtorEq, Int.reduceLT, Int.reduceLE, Int.reduceEq, Int.reduceBEq, Int.reduceBNe, Int.reduceToNat, Int.reduceAdd, Int.reduceNeg, Int.reduceSub]
    · intro s hk
      have hsi : (s : Int) < d.steps := by omega
      have hn := allTo_at ha hk
      have hn : decide (((e, c, s) : Pl) ∈ ps) = false := by simpa using hn
      rw [round s] at hn
      obtain ⟨l1, l2⟩ := look s
      cases hf : (num ps).find? (fun x => decide (((e, c, s) : Pl) = x.1)) with
      | some x =>
        rw [hf] at hn l2
        simp only [Option.map_some] at l2
        simp only at hn
        simp (disch := omega) only [go_sem, ↓reduceIte, Nat.reduceBEq, Nat.reduceEqDiff, Nat.reduceLT, Nat.reduceLeDiff, Nat.reduceAdd, Nat.reduceMul, Nat.reduceSub, reduceCtorEq, Int.reduceLT, Int.reduceLE, Int.reduceEq, Int.reduceBEq, Int.reduceBNe, Int.reduceToNat, Int.reduceAdd, Int.reduceNeg, Int.reduceSub, hsi, hr, hm, l1, l2, hn, wrap_i64]
      | none =>
        rw [hf] at l2
        simp only [Option.map_none] at l2
        simp (disch := omega) only [go_sem, ↓reduceIte, Nat.reduceBEq, Nat.reduceEqDiff, Nat.reduceLT, Nat.reduceLeDiff, Nat.reduceAdd, Nat.reduceMul, Nat.reduceSub, reduceCtorEq, Int.reduceLT, Int.reduceLE, Int.reduceEq, Int.reduceBEq, Int.reduceBNe, Int.reduceToNat, Int.reduceAdd, Int.reduceNeg, Int.reduceSub, hsi, hr, hm, l1, l2, wrap_i64]
    · have hn : ((d.steps.toNat : Nat) : Int) = d.steps := by omega
      simp only [go_sem, ↓reduceIte, Nat.reduceBEq, Nat.reduceEqDiff, Nat.reduceLT, Nat.reduceLeDiff, Nat.reduceAdd, Nat.reduceMul, Nat.reduceSub, reduceCtorEq, Int.reduceLT, Int.reduceLE, Int.reduceEq, Int.reduceBEq, Int.reduceBNe, Int.reduceToNat, Int.reduceAdd, Int.reduceNeg, Int.reduceSub, hn]
  | false =>
    obtain ⟨n, hn, h1, h2⟩ := allTo_false ha
    rw [w_rounds_u (fun k => [(13, .int .i64 k)]) n .ret [(6, .bool true), (7, .int .i64 n), (13, .int .i64 n)] ?_ ?_ ?_ rfl]
    · simp only [go_sem, ↓reduceIte, Nat.reduceBEq, Nat.reduceEqDiff, Nat.reduceLT, Nat.reduceLeDiff, Nat.reduceAdd, Nat.reduceMul, Nat.reduceSub, reduceCtorEq, Int.reduceLT, Int.reduceLE, Int.reduceEq, Int.reduceBEq, Int.reduceBNe, Int.reduceToNat, Int.reduceAdd, Int.reduceNeg, Int.reduceSub, fitsB, ha]
    · simp only [go_sem, ↓reduceIte, Nat.reduceBEq, Nat.reduceEqDiff, Nat.reduceLT, Nat.reduceLeDiff, Nat.reduceAdd, Nat.reduceMul, Nat.reduceSub, reduceCtorEq, Int.reduceLT, Int.reduceLE, Int.reduceEq, Int.reduceBEq, Int.reduceBNe, Int.reduceToNat, Int.reduceAdd, Int.reduceNeg, Int.reduceSub]
    · intro s hk
      have hsi : (s : Int) < d.steps := by omega
      have hn := allTo_at h1 hk
      have hn : decide (((e, c, s) : Pl) ∈ ps) = false := by simpa using hn
      rw [round s] at hn
      obtain ⟨l1, l2⟩ := look s
      cases hf : (num ps).find? (fun x => decide (((e, c, s) : Pl) = x.1)) with
      | some x =>
        rw [hf] at hn l2
        simp only [Option.map_some] at l2
        simp only at hn
        simp (disch := omega) only [go_sem, ↓reduceIte, Nat.reduceBEq, Nat.reduceEqDiff, Nat.reduceLT, Nat.reduceLeDiff, Nat.reduceAdd, Nat.reduceMul, Nat.reduceSub, reduceCtorEq, Int.reduceLT, Int.reduceLE, Int.reduceEq, Int.reduceBEq, Int.reduceBNe, Int.reduceToNat, Int.reduceAdd, Int.reduceNeg, Int.reduceSub, hsi, hr, hm, l1, l2, hn, wrap_i64]
      | none =>
        rw [hf] at l2
        simp only [Option.map_none] at l2
        simp (disch := omega) only [go_sem, ↓reduceIte, Nat.reduceBEq, Nat.reduceEqDiff, Nat.reduceLT, Nat.reduceLeDiff, Nat.reduceAdd, Nat.reduceMul, Nat.reduceSub, reduceCtorEq, Int.reduceLT, Int.reduceLE, Int.reduceEq, Int.reduceBEq, Int.reduceBNe, Int.reduceToNat, Int.reduceAdd, Int.reduceNeg, Int.reduceSub, hsi, hr, hm, l1, l2, wrap_i64]
    · have hsi : (n : Int) < d.steps := by omega
      have hn : decide (((e, c, n) : Pl) ∈ ps) = true := by simpa using h2
      rw [round n] at hn
      obtain ⟨l1, l2⟩ := look n
      cases hf : (num ps).find? (fun x => decide (((e, c, n) : Pl) = x.1)) with
      | some x =>
        rw [hf] at hn l2
        simp only [Option.map_some] at l2
        simp only at hn
        simp (disch := omega) only [go_sem, ↓reduceIte, Nat.reduceBEq, Nat.reduceEqDiff, Nat.reduceLT, Nat.reduceLeDiff, Nat.reduceAdd, Nat.reduceMul, Nat.reduceSub, reduceCtorEq, Int.reduceLT, Int.reduceLE, Int.reduceEq, Int.reduceBEq, Int.reduceBNe, Int.reduceToNat, Int.reduceAdd, Int.reduceNeg, Int.reduceSub, hsi, hr, hm, l1, l2, hn, wrap_i64]
      | none => rw [hf] at hn; cases hn

/-- What 'enter' says: its error. -/
def enterE (d : Dr) (many : Int) (l : List Int) : Int := if (checkT d).2.2 = 0 then (if l.any (out 0 (many - 1)) then 4 else 0) else (checkT d).2.2
theorem c60_no (d : Dr) (hd : d.fits) (many : Int) (hm : 0 ≤ many ∧ many < 1000000000000000000) (t z : Nat) (l : List Int) (hz : l ≠ [] → z = 1) (hl : l.length < 1000000000000000000) (he : enterE d many l ≠ 0) (h : Heap) :
    (EW tabX).call 60 [eD d, .int .i64 many, .lst t z (I l)] h = some (.tup [.nilp, .int .i64 (enterE d many l)], h) := by
  obtain ⟨B, ht⟩ := h
  have h16 := c16 d hd
  have h51 := c51 0 (many - 1) l z hz
  have hcl := eD_clean d
  have h3 : ∀ x y z, (tup3 (x, y, z)) = .tup [.int .i64 x, .int .i64 y, .int .i64 z] := fun _ _ _ => rfl
  unfold enterE at he ⊢
  rw [w_call _ fn_60 rfl]
  by_cases hc : (checkT d).2.2 = 0
  · rw [if_pos hc] at he ⊢
    have ha : l.any (out 0 (many - 1)) = true := by
      cases hh : l.any (out 0 (many - 1)) with
      | true => rfl
      | false => rw [hh] at he; exact absurd rfl he
    have hk : checkT d = (0, 0, 0) := (ok_of_check hc).2
    rw [hk] at h16
    simp only [go_sem, ↓reduceIte, Nat.reduceBEq, Nat.reduceEqDiff, Nat.reduceLT, Nat.reduceLeDiff, Nat.reduceAdd, Nat.reduceMul, Nat.reduceSub, reduceCtorEq, Int.reduceLT, Int.reduceLE, Int.reduceEq, Int.reduceBEq, Int.reduceBNe, Int.reduceToNat, Int.reduceAdd, Int.reduceNeg, Int.reduceSub, eD, eDc, eC_under, h3] at hcl h16 ⊢
    simp (disch := omega) only [go_sem, ↓reduceIte, Nat.reduceBEq, Nat.reduceEqDiff, Nat.reduceLT, Nat.reduceLeDiff, Nat.reduceAdd, Nat.reduceMul, Nat.reduceSub, reduceCtorEq, Int.reduceLT, Int.reduceLE, Int.reduceEq, Int.reduceBEq, Int.reduceBNe, Int.reduceToNat, Int.reduceAdd, Int.reduceNeg, Int.reduceSub, eC_clean, h16, h51 _ hl, ha, wrap_i64]
  · rw [if_neg hc] at he ⊢
    have hne : ((checkT d).2.2 != 0) = true := by simpa using hc
    simp only [go_sem, ↓reduceIte, Nat.reduceBEq, Nat.reduceEqDiff, Nat.reduceLT, Nat.reduceLeDiff, Nat.reduceAdd, Nat.reduceMul, Nat.reduceSub, reduceCtorEq, Int.reduceLT, Int.reduceLE, Int.reduceEq, Int.reduceBEq, Int.reduceBNe, Int.reduceToNat, Int.reduceAdd, Int.reduceNeg, Int.reduceSub, eD, eDc, eC_under, tup3] at hcl h16 ⊢
    simp (disch := omega) only [go_sem, ↓reduceIte, Nat.reduceBEq, Nat.reduceEqDiff, Nat.reduceLT, Nat.reduceLeDiff, Nat.reduceAdd, Nat.reduceMul, Nat.reduceSub, reduceCtorEq, Int.reduceLT, Int.reduceLE, Int.reduceEq, Int.reduceBEq, Int.reduceBNe, Int.reduceToNat, Int.reduceAdd, Int.reduceNeg, Int.reduceSub, eC_clean, h16, hne]
theorem c60_yes (d : Dr) (hd : d.fits) (many : Int) (hm : 0 ≤ many ∧ many < 1000000000000000000) (t z : Nat) (l : List Int) (hz : l ≠ [] → z = 1) (hl : l.length < 1000000000000000000) (he : enterE d many l = 0) (h : Heap) :
    d.Ok ∧ ∃ h', (EW tabX).call 60 [eD d, .int .i64 many, .lst t z (I l)] h = some (.tup [.ref (h.b.length + 3) 0, .int .i64 0], h') ∧ HL (h.b ++ [.cells (eDc d)]) d (P1 d d.halves.length) h' := by
  obtain ⟨B, ht⟩ := h
  have h16 := c16 d hd
  have h51 := c51 0 (many - 1) l z hz
  have hcl := eD_clean d
  have h3 : ∀ x y z, (tup3 (x, y, z)) = .tup [.int .i64 x, .int .i64 y, .int .i64 z] := fun _ _ _ => rfl
  unfold enterE at he
  have hc : (checkT d).2.2 = 0 := by
    by_cases hc : (checkT d).2.2 = 0
    · exact hc
    · rw [if_neg hc] at he; exact he
  rw [if_pos hc] at he
  have ha : l.any (out 0 (many - 1)) = false := by
    cases hh : l.any (out 0 (many - 1)) with
    | false => rfl
    | true => rw [hh] at he; cases he
  obtain ⟨ho, hk⟩ := ok_of_check hc
  refine ⟨ho, ?_⟩
  rw [hk] at h16
  obtain ⟨h', h75, hH⟩ := c75 d hd ho ⟨B ++ [.cells (eDc d)], ht⟩
  refine ⟨h', ?_, hH⟩
  obtain ⟨tag, zz, junk, t, rfl, hown⟩ := hH
  have hnu : ¬ (B.length + 1 + 2 < B.length) := by omega
  rw [w_call _ fn_60 rfl]
  simp only [go_sem, ↓reduceIte, Nat.reduceBEq, Nat.reduceEqDiff, Nat.reduceLT, Nat.reduceLeDiff, Nat.reduceAdd, Nat.reduceMul, Nat.reduceSub, reduceCtorEq, Int.reduceLT, Int.reduceLE, Int.reduceEq, Int.reduceBEq, Int.reduceBNe, Int.reduceToNat, Int.reduceAdd, Int.reduceNeg, Int.reduceSub, eD, eDc, eC_under, h3] at hcl h16 h75 ⊢
  simp (disch := omega) only [go_sem, ↓reduceIte, Nat.reduceBEq, Nat.reduceEqDiff, Nat.reduceLT, Nat.reduceLeDiff, Nat.reduceAdd, Nat.reduceMul, Nat.reduceSub, reduceCtorEq, Int.reduceLT, Int.reduceLE, Int.reduceEq, Int.reduceBEq, Int.reduceBNe, Int.reduceToNat, Int.reduceAdd, Int.reduceNeg, Int.reduceSub, eC_clean, h16, h51 _ hl, ha, wrap_i64, h75, hnu]
end Go.Proofs.Ytbfodfepgefloaa
end
section
namespace Go.Proofs.Ytbfodfepgefloaa
open Go.Proofs

def ownT (T0 : List Bool) (l : List Int) : AV := .lst (tagT T0 l.length) (zT 1 l.length) (I l)
theorem ownT_clean (T0 : List Bool) (l : List Int) : (ownT T0 l).clean = some (vI l) := by simp only [ownT, vI, go_sem, ↓reduceIte, Nat.reduceBEq, Nat.reduceEqDiff, Nat.reduceLT, Nat.reduceLeDiff, Nat.reduceAdd, Nat.reduceMul, Nat.reduceSub, reduceCtorEq, Int.reduceLT, Int.reduceLE, Int.reduceEq, Int.reduceBEq, Int.reduceBNe, Int.reduceToNat, Int.reduceAdd, Int.reduceNeg, Int.reduceSub]
theorem ownT_nil (T0 : List Bool) : ownT T0 [] = .lst 1 0 [] := rfl
theorem ownT_under (T0 : List Bool) (n : Nat) (l : List Int) : (ownT T0 l).under n = true := by simp only [ownT, go_sem, ↓reduceIte, Nat.reduceBEq, Nat.reduceEqDiff, Nat.reduceLT, Nat.reduceLeDiff, Nat.reduceAdd, Nat.reduceMul, Nat.reduceSub, reduceCtorEq, Int.reduceLT, Int.reduceLE, Int.reduceEq, Int.reduceBEq, Int.reduceBNe, Int.reduceToNat, Int.reduceAdd, Int.reduceNeg, Int.reduceSub]
theorem ownT_app (T0 : List Bool) (l : List Int) (x : Int) (hl : l.length < 1000) (B : List ABlk) :
    appendAV tabX 29 (T T0 l.length).length ⟨B, T T0 l.length⟩ (ownT T0 l) (.lst 1 1 [.int .i64 x]) = some (ownT T0 (l ++ [x]), ⟨B, T T0 (l ++ [x]).length⟩) := by
  have := append_step (X := tabX) (t := 29) (e := 3) (sz := 1) T0 l.length B (zT 1 l.length) 1 1 (I l) [.int .i64 x] (by simp only [go_sem, ↓reduceIte, Nat.reduceBEq, Nat.reduceEqDiff, Nat.reduceLT, Nat.reduceLeDiff, Nat.reduceAdd, Nat.reduceMul, Nat.reduceSub, reduceCtorEq, Int.reduceLT, Int.reduceLE, Int.reduceEq, Int.reduceBEq, Int.reduceBNe, Int.reduceToNat, Int.reduceAdd, Int.reduceNeg, Int.reduceSub]) (by simp only [go_sem, ↓reduceIte, Nat.reduceBEq, Nat.reduceEqDiff, Nat.reduceLT, Nat.reduceLeDiff, Nat.reduceAdd, Nat.reduceMul, Nat.reduceSub, reduceCtorEq, Int.reduceLT, Int.reduceLE, Int.reduceEq, Int.reduceBEq, Int.reduceBNe, Int.reduceToNat, Int.reduceAdd, Int.reduceNeg, Int.reduceSub])
    (by rcases Nat.eq_zero_or_pos l.length with e | e; exact .inl ⟨e, by rw [I_len, e]⟩; exact .inr (zT_pos e)) (.inl rfl) (by omega) (by simp only [go_sem, ↓reduceIte, Nat.reduceBEq, Nat.reduceEqDiff, Nat.reduceLT, Nat.reduceLeDiff, Nat.reduceAdd, Nat.reduceMul, Nat.reduceSub, reduceCtorEq, Int.reduceLT, Int.reduceLE, Int.reduceEq, Int.reduceBEq, Int.reduceBNe, Int.reduceToNat, Int.reduceAdd, Int.reduceNeg, Int.reduceSub]; omega) (by simp only [go_sem, ↓reduceIte, Nat.reduceBEq, Nat.reduceEqDiff, Nat.reduceLT, Nat.reduceLeDiff, Nat.reduceAdd, Nat.reduceMul, Nat.reduceSub, reduceCtorEq, Int.reduceLT, Int.reduceLE, Int.reduceEq, Int.reduceBEq, Int.reduceBNe, Int.reduceToNat, Int.reduceAdd, Int.reduceNeg, Int.reduceSub]; omega) (by simp only [go_sem, ↓reduceIte, Nat.reduceBEq, Nat.reduceEqDiff, Nat.reduceLT, Nat.reduceLeDiff, Nat.reduceAdd, Nat.reduceMul, Nat.reduceSub, reduceCtorEq, Int.reduceLT, Int.reduceLE, Int.reduceEq, Int.reduceBEq, Int.reduceBNe, Int.reduceToNat, Int.reduceAdd, Int.reduceNeg, Int.reduceSub]) (by simp only [go_sem, ↓reduceIte, Nat.reduceBEq, Nat.reduceEqDiff, Nat.reduceLT, Nat.reduceLeDiff, Nat.reduceAdd, Nat.reduceMul, Nat.reduceSub, reduceCtorEq, Int.reduceLT, Int.reduceLE, Int.reduceEq, Int.reduceBEq, Int.reduceBNe, Int.reduceToNat, Int.reduceAdd, Int.reduceNeg, Int.reduceSub])
  have e : (l ++ [x]).length = l.length + 1 := by simp
  rw [ownT, this, ownT, e, I_snoc]; rfl

/-- The steps of those places that are of a half and a card. -/
def stepsOf (e c : Nat) (ps : List Pl) : List Int := (ps.filter fun p => decide (p = (e, c, p.2.2))).map fun p => (p.2.2 : Int)
theorem stepsOf_succ (e c : Nat) {ps : List Pl} {k : Nat} {p : Pl} (h : ps[k]? = some p) : stepsOf e c (ps.take (k + 1)) = if decide (p = (e, c, p.2.2)) = true then stepsOf e c (ps.take k) ++ [(p.2.2 : Int)] else stepsOf e c (ps.take k) := by
  unfold stepsOf
  rw [List.take_add_one, h, Option.toList_some, List.filter_append, List.map_append]
  cases hd : decide (p = (e, c, p.2.2)) <;> simp [hd]
theorem stepsOf_len (e c : Nat) (ps : List Pl) : (stepsOf e c ps).length ≤ ps.length := by
  unfold stepsOf; rw [List.length_map]; exact List.length_filter_le _ _
theorem stepsOf_app (e c : Nat) (a b : List Pl) : stepsOf e c (a ++ b) = stepsOf e c a ++ stepsOf e c b := by simp [stepsOf]
theorem stepsOf_no {e c : Nat} {ps : List Pl} (h : ∀ p ∈ ps, p.1 ≠ e ∨ p.2.1 ≠ c) : stepsOf e c ps = [] := by
  unfold stepsOf
  rw [List.filter_eq_nil_iff.2]
  · rfl
  · intro p hp
    obtain ⟨x, y, z⟩ := p
    rcases h _ hp with h | h <;> simp_all
theorem stepsOf_P3 (d : Dr) (e c k : Nat) : stepsOf e c (P3 d e c k) = ((List.range k).filter fun s => fitB d e c s).map fun (s : Nat) => (s : Int) := by
  unfold stepsOf P3
  rw [List.filter_eq_self.2]
  · simp
  · intro p hp
    obtain ⟨s, _, rfl⟩ := List.mem_map.1 hp
    simp
theorem stepsOf_P2 (d : Dr) (e c : Nat) : ∀ k, c < k → stepsOf e c (P2 d e k) = stepsOf e c (P3 d e c d.steps.toNat)
  | 0, h => by omega
  | k + 1, h => by
    rw [P2_succ, stepsOf_app]
    by_cases hk : c = k
    · subst hk
      rw [stepsOf_no (ps := P2 d e c) fun p hp => .inr (by have := (P2_mem hp).2; omega)]
      rfl
    · rw [stepsOf_P2 d e c k (by omega), stepsOf_no (ps := P3 d e k d.steps.toNat) fun p hp => .inr (by have := (P3_mem hp).2.1; omega)]
      simp
theorem stepsOf_P1 (d : Dr) (e c : Nat) (hc : c < d.cards.length) : ∀ k, e < k → stepsOf e c (P1 d k) = stepsOf e c (P3 d e c d.steps.toNat)
  | 0, h => by omega
  | k + 1, h => by
    rw [P1_succ, stepsOf_app]
    by_cases hk : e = k
    · subst hk
      rw [stepsOf_no (ps := P1 d e) fun p hp => .inl (by have := P1_mem hp; omega), stepsOf_P2 d e c _ hc]
      rfl
    · rw [stepsOf_P1 d e c hc k (by omega), stepsOf_no (ps := P2 d k d.cards.length) fun p hp => .inl (by have := (P2_mem hp).1; omega)]
      simp
theorem stepsOf_all (d : Dr) (e c : Nat) (he : e < d.halves.length) (hc : c < d.cards.length) : stepsOf e c (P1 d d.halves.length) = fitsL d (d.cards.getD c ⟨default, []⟩) (d.halves.getD e ⟨default, []⟩) d.steps.toNat := by
  rw [stepsOf_P1 d e c hc _ he, stepsOf_P3]; rfl

/-- What Fits answers. -/
def fitsAV (d : Dr) (c e : Int) : AV := if askedE d c d.cards.length = 0 then (if askedE d e d.halves.length = 0 then .tup [vI (fitsL d (d.cards.getD c.toNat ⟨default, []⟩) (d.halves.getD e.toNat ⟨default, []⟩) d.steps.toNat), .int .i64 0] else .tup [vI [], .int .i64 (askedE d e d.halves.length)]) else .tup [vI [], .int .i64 (askedE d c d.cards.length)]

def cellP (p : Pl) : ABlk := .cells (keyL p)
theorem c18 (d : Dr) (hd : d.fits) (c e : Int) (h : Heap) : callPure (EW tabX) 18 [eD d, .int .i64 c, .int .i64 e] h = some (fitsAV d c e, h) := by
  have lc := hd.lc
  have lh := hd.lh
  have hcl := eD_clean d
  have asked1 : ∀ n below, askedE d n below = enterE d below [n] := fun n below => by
    unfold askedE enterE
    split
    · simp only [List.any_cons, List.any_nil, Bool.or_false]
      have := out_not 0 (below - 1) n
      cases ho : out 0 (below - 1) n <;> rw [ho] at this <;> rw [← this] <;> rfl
    · rfl
  rw [callPure_eq, w_call _ fn_18 rfl]
  unfold fitsAV
  by_cases h1 : askedE d c d.cards.length = 0
  · rw [if_pos h1]
    have h1' := h1
    rw [asked1] at h1'
    obtain ⟨ho, h', h60, hH⟩ := c60_yes d hd d.cards.length (by omega) 1 1 [c] (fun _ => rfl) (by simp) h1' ⟨[.cells (eDc d)], []⟩
    obtain ⟨tag, z, junk, t, rfl, hown⟩ := hH
    have hB0 : ([.cells (eDc d)] ++ [.cells (eDc d)] ++ (.cells (eDc d) :: .map (esL (num (P1 d d.halves.length))) :: .cells (eDc d ++ [.lst tag z ((P1 d d.halves.length).map eL), .mapr (([.cells (eDc d)] ++ [.cells (eDc d)] : List ABlk).length + 1)]) :: junk))[0]? = some (.cells (eDc d)) := rfl
    have hB4 : ([.cells (eDc d)] ++ [.cells (eDc d)] ++ (.cells (eDc d) :: .map (esL (num (P1 d d.halves.length))) :: .cells (eDc d ++ [.lst tag z ((P1 d d.halves.length).map eL), .mapr (([.cells (eDc d)] ++ [.cells (eDc d)] : List ABlk).length + 1)]) :: junk))[4]? = some (.cells (eDc d ++ [.lst tag z ((P1 d d.halves.length).map eL), .mapr 3])) := rfl
    have hlen : (P1 d d.halves.length).length ≤ 200 := by
      have a1 := P1_len d d.halves.length
      have := ho.c4; have := ho.h4; have := ho.s6
      have m1 : d.halves.length * (d.cards.length * d.steps.toNat) ≤ 4 * (4 * 6) := Nat.mul_le_mul (by omega) (Nat.mul_le_mul (by omega) (by omega))
      omega
    generalize [.cells (eDc d)] ++ [.cells (eDc d)] ++ (.cells (eDc d) :: .map (esL (num (P1 d d.halves.length))) :: .cells (eDc d ++ [.lst tag z ((P1 d d.halves.length).map eL), .mapr (([.cells (eDc d)] ++ [.cells (eDc d)] : List ABlk).length + 1)]) :: junk) = B at h60 hB0 hB4
    simp only [eDc, List.cons_append, List.nil_append] at hB0 hB4
    have hc0 : (checkT d).2.2 = 0 := by
      unfold askedE at h1
      split at h1
      · assumption
      · rename_i hx; exact absurd h1 hx
    have hci : inR c 0 (d.cards.length - 1) = true := by
      unfold askedE at h1; rw [if_pos hc0] at h1
      cases hh : inR c 0 (d.cards.length - 1) with
      | true => rfl
      | false => rw [hh] at h1; cases h1
    by_cases h2 : askedE d e d.halves.length = 0
    · rw [if_pos h2]
      have hei : inR e 0 (d.halves.length - 1) = true := by
        unfold askedE at h2; rw [if_pos hc0] at h2
        cases hh : inR e 0 (d.halves.length - 1) with
        | true => rfl
        | false => rw [hh] at h2; cases h2
      have heo : out 0 ((d.halves.length : Int) - 1) e = false := by rw [← Bool.not_not (out 0 ((d.halves.length : Int) - 1) e), out_not, hei]; rfl
      simp only [inR, Bool.and_eq_true, decide_eq_true_eq] at hci hei
      obtain ⟨c, rfl⟩ : ∃ n : Nat, c = n := ⟨c.toNat, by omega⟩
      obtain ⟨e, rfl⟩ : ∃ n : Nat, e = n := ⟨e.toNat, by omega⟩
      simp only [go_sem, ↓reduceIte, Nat.reduceBEq, Nat.reduceEqDiff, Nat.reduceLT, Nat.reduceLeDiff, Nat.reduceAdd, Nat.reduceMul, Nat.reduceSub, reduceCtorEq, Int.reduceLT, Int.reduceLE, Int.reduceEq, Int.reduceBEq, Int.reduceBNe, Int.reduceToNat, Int.reduceAdd, Int.reduceNeg, Int.reduceSub, eD, eDc, eC_under, I_c, I_nil] at hcl h60 ⊢
      simp (disch := omega) only [go_sem, ↓reduceIte, Nat.reduceBEq, Nat.reduceEqDiff, Nat.reduceLT, Nat.reduceLeDiff, Nat.reduceAdd, Nat.reduceMul, Nat.reduceSub, reduceCtorEq, Int.reduceLT, Int.reduceLE, Int.reduceEq, Int.reduceBEq, Int.reduceBNe, Int.reduceToNat, Int.reduceAdd, Int.reduceNeg, Int.reduceSub, eC_clean, h60, wrap_i64, c51_1, heo, hB0, hB4]
      rw [← stepsOf_all d e c (by omega) (by omega)]
      generalize P1 d d.halves.length = ps at hlen hown ⊢
      rw [w_rounds_h (fun k => [(6, ownT t (stepsOf e c (ps.take k))), (38, .int .i64 k)]) (fun k => ⟨B ++ (ps.take k).map cellP, T t (stepsOf e c (ps.take k)).length⟩) ps.length (.exit 1) [(6, ownT t (stepsOf e c ps)), (38, .int .i64 ps.length)] ⟨B ++ ps.map cellP, T t (stepsOf e c ps).length⟩ ?_ ?_ ?_ ?_ rfl]
      · simp only [go_sem, ↓reduceIte, Nat.reduceBEq, Nat.reduceEqDiff, Nat.reduceLT, Nat.reduceLeDiff, Nat.reduceAdd, Nat.reduceMul, Nat.reduceSub, reduceCtorEq, Int.reduceLT, Int.reduceLE, Int.reduceEq, Int.reduceBEq, Int.reduceBNe, Int.reduceToNat, Int.reduceAdd, Int.reduceNeg, Int.reduceSub, ownT_clean, ownT_under]
      · simp only [go_sem, ↓reduceIte, Nat.reduceBEq, Nat.reduceEqDiff, Nat.reduceLT, Nat.reduceLeDiff, Nat.reduceAdd, Nat.reduceMul, Nat.reduceSub, reduceCtorEq, Int.reduceLT, Int.reduceLE, Int.reduceEq, Int.reduceBEq, Int.reduceBNe, Int.reduceToNat, Int.reduceAdd, Int.reduceNeg, Int.reduceSub, stepsOf, List.filter_nil, List.map_nil, ownT_nil]
      · simp only [go_sem, ↓reduceIte, Nat.reduceBEq, Nat.reduceEqDiff, Nat.reduceLT, Nat.reduceLeDiff, Nat.reduceAdd, Nat.reduceMul, Nat.reduceSub, reduceCtorEq, Int.reduceLT, Int.reduceLE, Int.reduceEq, Int.reduceBEq, Int.reduceBNe, Int.reduceToNat, Int.reduceAdd, Int.reduceNeg, Int.reduceSub, stepsOf, List.filter_nil, List.map_nil, List.append_nil]
      · intro k hk
        have hx := List.getElem?_eq_getElem hk
        have hki : (k : Int) < ps.length := by omega
        have hz : z = 3 := by
          rcases hown with ⟨_, h0⟩ | ⟨_, _, h0, _⟩
          · omega
          · exact h0
        have hkey : eqCells [0, 0, 0] [.int .i64 ps[k].1, .int .i64 ps[k].2.1, .int .i64 ps[k].2.2] [.int .i64 e, .int .i64 c, .int .i64 ps[k].2.2] = some (decide (ps[k] = (e, c, ps[k].2.2))) := by
          have := eqKey ps[k] (e, c, ps[k].2.2)
          simpa only [keyL] using this
        have hsl := stepsOf_len e c (ps.take k)
        have htk : (ps.take k).length ≤ 200 := by rw [List.length_take]; omega
        have hap := ownT_app t (stepsOf e c (ps.take k)) (ps[k].2.2) (by omega)
        have hget : (ps.map eL)[k]? = some (eL ps[k]) := by simp [hk]
        rw [stepsOf_succ e c hx, map_succ cellP hx, ← List.append_assoc]
        generalize B ++ (ps.take k).map cellP = C
        cases hd2 : decide (ps[k] = (e, c, ps[k].2.2)) with
        | true =>
          rw [hd2] at hkey
          simp (disch := omega) only [go_sem, ↓reduceIte, Nat.reduceBEq, Nat.reduceEqDiff, Nat.reduceLT, Nat.reduceLeDiff, Nat.reduceAdd, Nat.reduceMul, Nat.reduceSub, reduceCtorEq, Int.reduceLT, Int.reduceLE, Int.reduceEq, Int.reduceBEq, Int.reduceBNe, Int.reduceToNat, Int.reduceAdd, Int.reduceNeg, Int.reduceSub, hki, hget, hz, eL, cellP, keyL, hkey, hap, wrap_i64, aggBin]
        | false =>
          rw [hd2] at hkey
          simp (disch := omega) only [go_sem, ↓reduceIte, Nat.reduceBEq, Nat.reduceEqDiff, Nat.reduceLT, Nat.reduceLeDiff, Nat.reduceAdd, Nat.reduceMul, Nat.reduceSub, reduceCtorEq, Int.reduceLT, Int.reduceLE, Int.reduceEq, Int.reduceBEq, Int.reduceBNe, Int.reduceToNat, Int.reduceAdd, Int.reduceNeg, Int.reduceSub, hki, hget, hz, eL, cellP, keyL, hkey, wrap_i64, aggBin]
      · simp only [go_sem, ↓reduceIte, Nat.reduceBEq, Nat.reduceEqDiff, Nat.reduceLT, Nat.reduceLeDiff, Nat.reduceAdd, Nat.reduceMul, Nat.reduceSub, reduceCtorEq, Int.reduceLT, Int.reduceLE, Int.reduceEq, Int.reduceBEq, Int.reduceBNe, Int.reduceToNat, Int.reduceAdd, Int.reduceNeg, Int.reduceSub]
    · rw [if_neg h2]
      have he4 : askedE d e d.halves.length = 4 := by
        unfold askedE at h2 ⊢; rw [if_pos hc0] at h2 ⊢
        split
        · rename_i hh; rw [if_pos hh] at h2; exact absurd rfl h2
        · rfl
      have heo : out 0 ((d.halves.length : Int) - 1) e = true := by
        rw [← Bool.not_not (out 0 ((d.halves.length : Int) - 1) e), out_not]
        cases hh : inR e 0 ((d.halves.length : Int) - 1) with
        | false => rfl
        | true => unfold askedE at h2; rw [if_pos hc0, if_pos hh] at h2; exact absurd rfl h2
      rw [he4]
      simp only [inR, Bool.and_eq_true, decide_eq_true_eq] at hci
      simp only [go_sem, ↓reduceIte, Nat.reduceBEq, Nat.reduceEqDiff, Nat.reduceLT, Nat.reduceLeDiff, Nat.reduceAdd, Nat.reduceMul, Nat.reduceSub, reduceCtorEq, Int.reduceLT, Int.reduceLE, Int.reduceEq, Int.reduceBEq, Int.reduceBNe, Int.reduceToNat, Int.reduceAdd, Int.reduceNeg, Int.reduceSub, eD, eDc, eC_under, I_c, I_nil] at hcl h60 ⊢
      simp (disch := omega) only [go_sem, ↓reduceIte, Nat.reduceBEq, Nat.reduceEqDiff, Nat.reduceLT, Nat.reduceLeDiff, Nat.reduceAdd, Nat.reduceMul, Nat.reduceSub, reduceCtorEq, Int.reduceLT, Int.reduceLE, Int.reduceEq, Int.reduceBEq, Int.reduceBNe, Int.reduceToNat, Int.reduceAdd, Int.reduceNeg, Int.reduceSub, eC_clean, h60, wrap_i64, c51_1, heo, hB0, vI_nil]
  · rw [if_neg h1]
    have h1' := h1
    rw [asked1] at h1'
    have h60 := c60_no d hd d.cards.length (by omega) 1 1 [c] (fun _ => rfl) (by simp) h1' ⟨[.cells (eDc d)], []⟩
    have hne : (enterE d d.cards.length [c] != 0) = true := by simpa using h1'
    rw [asked1]
    simp only [go_sem, ↓reduceIte, Nat.reduceBEq, Nat.reduceEqDiff, Nat.reduceLT, Nat.reduceLeDiff, Nat.reduceAdd, Nat.reduceMul, Nat.reduceSub, reduceCtorEq, Int.reduceLT, Int.reduceLE, Int.reduceEq, Int.reduceBEq, Int.reduceBNe, Int.reduceToNat, Int.reduceAdd, Int.reduceNeg, Int.reduceSub, eD, eDc, eC_under, I_c, I_nil] at hcl h60 ⊢
    simp (disch := omega) only [go_sem, ↓reduceIte, Nat.reduceBEq, Nat.reduceEqDiff, Nat.reduceLT, Nat.reduceLeDiff, Nat.reduceAdd, Nat.reduceMul, Nat.reduceSub, reduceCtorEq, Int.reduceLT, Int.reduceLE, Int.reduceEq, Int.reduceBEq, Int.reduceBNe, Int.reduceToNat, Int.reduceAdd, Int.reduceNeg, Int.reduceSub, eC_clean, h60, hne, vI_nil]
end Go.Proofs.Ytbfodfepgefloaa
end
section
namespace Go.Proofs.Ytbfodfepgefloaa
open Go.Proofs

/-- How many numbers two rows begin with alike. -/
def cpl : List Int → List Int → Nat
  | x :: xs, y :: ys => if x = y then cpl xs ys + 1 else 0
  | _, _ => 0
theorem cpl_le1 : ∀ a b : List Int, cpl a b ≤ a.length
  | [], _ => by simp [cpl]
  | x :: xs, [] => by simp [cpl]
  | x :: xs, y :: ys => by unfold cpl; split; have := cpl_le1 xs ys; simp; omega; omega
theorem cpl_le2 : ∀ a b : List Int, cpl a b ≤ b.length
  | [], _ => by simp [cpl]
  | x :: xs, [] => by simp [cpl]
  | x :: xs, y :: ys => by unfold cpl; split; have := cpl_le2 xs ys; simp; omega; omega
theorem cpl_eq : ∀ (a b : List Int) (k : Nat), k < cpl a b → a[k]? = b[k]?
  | [], b, k, h => by simp [cpl] at h
  | x :: xs, [], k, h => by simp [cpl] at h
  | x :: xs, y :: ys, k, h => by
    unfold cpl at h
    split at h
    · rename_i e
      cases k with
      | zero => simp [e]
      | succ k => simpa using cpl_eq xs ys k (by omega)
    · omega
theorem cpl_ne : ∀ (a b : List Int) (x y : Int), a[cpl a b]? = some x → b[cpl a b]? = some y → x ≠ y
  | [], b, x, y, h, _ => by simp [cpl] at h
  | u :: us, [], x, y, _, h => by simp [cpl] at h
  | u :: us, v :: vs, x, y, h1, h2 => by
    unfold cpl at h1 h2
    split at h1
    · rename_i e
      rw [if_pos e] at h2
      exact cpl_ne us vs x y (by simpa using h1) (by simpa using h2)
    · rename_i e
      rw [if_neg e] at h2
      simp at h1 h2
      rw [← h1, ← h2]; exact e
/-- Whether a row comes before another one. -/
def ltB : List Int → List Int → Bool
  | _, [] => false
  | [], _ :: _ => true
  | x :: xs, y :: ys => if x = y then ltB xs ys else decide (x < y)
theorem ltB_cpl : ∀ a b : List Int, ltB a b = if cpl a b = b.length then false else (decide (cpl a b = a.length) || decide (a.getD (cpl a b) 0 < b.getD (cpl a b) 0))
  | [], [] => rfl
  | [], y :: ys => by simp [ltB, cpl]
  | x :: xs, [] => by simp [ltB, cpl]
  | x :: xs, y :: ys => by
    unfold ltB cpl
    by_cases e : x = y
    · rw [if_pos e, if_pos e, ltB_cpl xs ys]
      simp
    · rw [if_neg e, if_neg e]
      simp
theorem ltB_irrefl : ∀ a : List Int, ltB a a = false
  | [] => rfl
  | x :: xs => by unfold ltB; rw [if_pos rfl]; exact ltB_irrefl xs
theorem ltB_eq : ∀ a b : List Int, (decide (a.length = b.length) && (!ltB a b && !ltB b a)) = decide (a = b)
  | [], [] => rfl
  | [], y :: ys => by simp
  | x :: xs, [] => by simp
  | x :: xs, y :: ys => by
    have ih := ltB_eq xs ys
    simp only [ltB]
    by_cases e : x = y
    · subst e
      rw [if_pos rfl, if_pos rfl]
      simpa using ih
    · have e' : ¬ y = x := fun h => e h.symm
      rw [if_neg e, if_neg e']
      simp [e]
      omega

theorem c46 (a b : List Int) (za zb : Nat) (hza : a ≠ [] → za = 1) (hzb : b ≠ [] → zb = 1) (la : a.length < 1000000000000000000) (lb : b.length < 1000000000000000000) (h : Heap) :
    callPure (EW tabX) 46 [.lst 0 za (I a), .lst 0 zb (I b)] h = some (.bool (ltB a b), h) := by
  rw [callPure_eq, w_call _ fn_46 rfl]
  simp only [go_sem, ↓reduceIte, Nat.reduceBEq, Nat.reduceEqDiff, Nat.reduceLT, Nat.reduceLeDiff, Nat.reduceAdd, Nat.reduceMul, Nat.reduceSub, reduceCtorEq, Int.reduceLT, Int.reduceLE, Int.reduceEq, Int.reduceBEq, Int.reduceBNe, Int.reduceToNat, Int.reduceAdd, Int.reduceNeg, Int.reduceSub]
  have h1 := cpl_le1 a b
  have h2 := cpl_le2 a b
  rw [w_rounds_u (fun k => [(5, .int .i64 k)]) (cpl a b) (.exit 0) [(5, .int .i64 (cpl a b))] ?_ ?_ ?_ rfl]
  · rw [ltB_cpl]
    by_cases e : cpl a b = b.length
    · simp only [go_sem, ↓reduceIte, Nat.reduceBEq, Nat.reduceEqDiff, Nat.reduceLT, Nat.reduceLeDiff, Nat.reduceAdd, Nat.reduceMul, Nat.reduceSub, reduceCtorEq, Int.reduceLT, Int.reduceLE, Int.reduceEq, Int.reduceBEq, Int.reduceBNe, Int.reduceToNat, Int.reduceAdd, Int.reduceNeg, Int.reduceSub, e]
    · have e' : (((cpl a b : Nat) : Int) == b.length) = false := by simp; omega
      have hzb1 := hzb (by intro h; rw [h] at e; simp [cpl] at e)
      have hb : b[cpl a b]? = some (b.getD (cpl a b) 0) := by
        rw [List.getD_eq_getElem?_getD, List.getElem?_eq_getElem (show cpl a b < b.length by omega)]; rfl
      by_cases f : cpl a b = a.length
      · have f' : (((cpl a b : Nat) : Int) == a.length) = true := by simp [f]
        have fd : decide (cpl a b = a.length) = true := by simp [f]
        simp only [go_sem, ↓reduceIte, Nat.reduceBEq, Nat.reduceEqDiff, Nat.reduceLT, Nat.reduceLeDiff, Nat.reduceAdd, Nat.reduceMul, Nat.reduceSub, reduceCtorEq, Int.reduceLT, Int.reduceLE, Int.reduceEq, Int.reduceBEq, Int.reduceBNe, Int.reduceToNat, Int.reduceAdd, Int.reduceNeg, Int.reduceSub, e', e, f', fd]
      · have f' : (((cpl a b : Nat) : Int) == a.length) = false := by simp; omega
        have fd : decide (cpl a b = a.length) = false := by simp [f]
        have hza1 := hza (by intro h; rw [h] at h1; simp at h1; rw [h] at f; simp at f; omega)
        have ha : a[cpl a b]? = some (a.getD (cpl a b) 0) := by
          rw [List.getD_eq_getElem?_getD, List.getElem?_eq_getElem (show cpl a b < a.length by omega)]; rfl
        simp only [go_sem, ↓reduceIte, Nat.reduceBEq, Nat.reduceEqDiff, Nat.reduceLT, Nat.reduceLeDiff, Nat.reduceAdd, Nat.reduceMul, Nat.reduceSub, reduceCtorEq, Int.reduceLT, Int.reduceLE, Int.reduceEq, Int.reduceBEq, Int.reduceBNe, Int.reduceToNat, Int.reduceAdd, Int.reduceNeg, Int.reduceSub, e', e, f', fd, ha, hb, hza1, hzb1]
  · simp only [go_sem, ↓reduceIte, Nat.reduceBEq, Nat.reduceEqDiff, Nat.reduceLT, Nat.reduceLeDiff, Nat.reduceAdd, Nat.reduceMul, Nat.reduceSub, reduceCtorEq, Int.reduceLT, Int.reduceLE, Int.reduceEq, Int.reduceBEq, Int.reduceBNe, Int.reduceToNat, Int.reduceAdd, Int.reduceNeg, Int.reduceSub]
  · intro k hk
    have ka : k < a.length := by omega
    have kb : k < b.length := by omega
    have kai : (k : Int) < a.length := by omega
    have kbi : (k : Int) < b.length := by omega
    have hx := List.getElem?_eq_getElem ka
    have hy := List.getElem?_eq_getElem kb
    have he := cpl_eq a b k hk
    rw [hx, hy] at he
    simp only [Option.some.injEq] at he
    have hza1 := hza (by intro h; rw [h] at ka; simp at ka)
    have hzb1 := hzb (by intro h; rw [h] at kb; simp at kb)
    simp (disch := omega) only [go_sem, ↓reduceIte, Nat.reduceBEq, Nat.reduceEqDiff, Nat.reduceLT, Nat.reduceLeDiff, Nat.reduceAdd, Nat.reduceMul, Nat.reduceSub, reduceCtorEq, Int.reduceLT, Int.reduceLE, Int.reduceEq, Int.reduceBEq, Int.reduceBNe, Int.reduceToNat, Int.reduceAdd, Int.reduceNeg, Int.reduceSub, kai, kbi, hx, hy, he, hza1, hzb1, wrap_i64]
  · by_cases f : cpl a b < a.length
    · have fi : ((cpl a b : Nat) : Int) < a.length := by omega
      by_cases g : cpl a b < b.length
      · have gi : ((cpl a b : Nat) : Int) < b.length := by omega
        have hx := List.getElem?_eq_getElem f
        have hy := List.getElem?_eq_getElem g
        have hne := cpl_ne a b _ _ hx hy
        have hne' : (a[cpl a b] == b[cpl a b]) = false := by simpa using hne
        have hza1 := hza (by intro h; rw [h] at f; simp at f)
        have hzb1 := hzb (by intro h; rw [h] at g; simp at g)
        simp (disch := omega) only [go_sem, ↓reduceIte, Nat.reduceBEq, Nat.reduceEqDiff, Nat.reduceLT, Nat.reduceLeDiff, Nat.reduceAdd, Nat.reduceMul, Nat.reduceSub, reduceCtorEq, Int.reduceLT, Int.reduceLE, Int.reduceEq, Int.reduceBEq, Int.reduceBNe, Int.reduceToNat, Int.reduceAdd, Int.reduceNeg, Int.reduceSub, fi, gi, hx, hy, hne', hza1, hzb1]
      · have gi : ¬ ((cpl a b : Nat) : Int) < b.length := by omega
        simp (disch := omega) only [go_sem, ↓reduceIte, Nat.reduceBEq, Nat.reduceEqDiff, Nat.reduceLT, Nat.reduceLeDiff, Nat.reduceAdd, Nat.reduceMul, Nat.reduceSub, reduceCtorEq, Int.reduceLT, Int.reduceLE, Int.reduceEq, Int.reduceBEq, Int.reduceBNe, Int.reduceToNat, Int.reduceAdd, Int.reduceNeg, Int.reduceSub, fi, gi]
    · have fi : ¬ ((cpl a b : Nat) : Int) < a.length := by omega
      simp (disch := omega) only [go_sem, ↓reduceIte, Nat.reduceBEq, Nat.reduceEqDiff, Nat.reduceLT, Nat.reduceLeDiff, Nat.reduceAdd, Nat.reduceMul, Nat.reduceSub, reduceCtorEq, Int.reduceLT, Int.reduceLE, Int.reduceEq, Int.reduceBEq, Int.reduceBNe, Int.reduceToNat, Int.reduceAdd, Int.reduceNeg, Int.reduceSub, fi]
theorem c20 (a b : List Int) (za zb : Nat) (hza : a ≠ [] → za = 1) (hzb : b ≠ [] → zb = 1) (la : a.length < 1000000000000000000) (lb : b.length < 1000000000000000000) (h : Heap) :
    callPure (EW tabX) 20 [.lst 0 za (I a), .lst 0 zb (I b)] h = some (.bool (decide (a = b)), h) := by
  have h1 := c46 a b za zb hza hzb la lb
  have h2 := c46 b a zb za hzb hza lb la
  rw [callPure_eq, w_call _ fn_20 rfl, ← ltB_eq]
  have e : ((a.length : Int) == b.length) = decide (a.length = b.length) := by rw [Bool.eq_iff_iff]; simp; omega
  simp only [go_sem, ↓reduceIte, Nat.reduceBEq, Nat.reduceEqDiff, Nat.reduceLT, Nat.reduceLeDiff, Nat.reduceAdd, Nat.reduceMul, Nat.reduceSub, reduceCtorEq, Int.reduceLT, Int.reduceLE, Int.reduceEq, Int.reduceBEq, Int.reduceBNe, Int.reduceToNat, Int.reduceAdd, Int.reduceNeg, Int.reduceSub, h1, h2, e]
theorem any_succ {α : Type} (p : α → Bool) {l : List α} {k : Nat} {x : α} (h : l[k]? = some x) : (l.take (k + 1)).any p = ((l.take k).any p || p x) := by
  rw [List.take_add_one, h]; simp
theorem c39 (l : List Int) (n : Int) (z : Nat) (hz : l ≠ [] → z = 1) (hl : l.length < 1000000000000000000) (h : Heap) :
    callPure (EW tabX) 39 [.lst 0 z (I l), .int .i64 n] h = some (.bool (l.any fun x => x == n), h) := by
  rw [callPure_eq, w_call _ fn_39 rfl]
  simp only [go_sem, ↓reduceIte, Nat.reduceBEq, Nat.reduceEqDiff, Nat.reduceLT, Nat.reduceLeDiff, Nat.reduceAdd, Nat.reduceMul, Nat.reduceSub, reduceCtorEq, Int.reduceLT, Int.reduceLE, Int.reduceEq, Int.reduceBEq, Int.reduceBNe, Int.reduceToNat, Int.reduceAdd, Int.reduceNeg, Int.reduceSub]
  rw [w_rounds_u (fun k => [(5, .bool ((l.take k).any fun x => x == n)), (6, .int .i64 k)]) l.length (.exit 0) [(5, .bool (l.any fun x => x == n)), (6, .int .i64 l.length)] ?_ ?_ ?_ rfl]
  · simp only [go_sem, ↓reduceIte, Nat.reduceBEq, Nat.reduceEqDiff, Nat.reduceLT, Nat.reduceLeDiff, Nat.reduceAdd, Nat.reduceMul, Nat.reduceSub, reduceCtorEq, Int.reduceLT, Int.reduceLE, Int.reduceEq, Int.reduceBEq, Int.reduceBNe, Int.reduceToNat, Int.reduceAdd, Int.reduceNeg, Int.reduceSub]
  · simp only [go_sem, ↓reduceIte, Nat.reduceBEq, Nat.reduceEqDiff, Nat.reduceLT, Nat.reduceLeDiff, Nat.reduceAdd, Nat.reduceMul, Nat.reduceSub, reduceCtorEq, Int.reduceLT, Int.reduceLE, Int.reduceEq, Int.reduceBEq, Int.reduceBNe, Int.reduceToNat, Int.reduceAdd, Int.reduceNeg, Int.reduceSub, List.any_nil]
  · intro k hk
    have hki : (k : Int) < l.length := by omega
    have hx := List.getElem?_eq_getElem hk
    have hz1 := hz (by intro e; rw [e] at hk; simp at hk)
    subst hz1
    simp (disch := omega) only [go_sem, ↓reduceIte, Nat.reduceBEq, Nat.reduceEqDiff, Nat.reduceLT, Nat.reduceLeDiff, Nat.reduceAdd, Nat.reduceMul, Nat.reduceSub, reduceCtorEq, Int.reduceLT, Int.reduceLE, Int.reduceEq, Int.reduceBEq, Int.reduceBNe, Int.reduceToNat, Int.reduceAdd, Int.reduceNeg, Int.reduceSub, hki, hx, wrap_i64, any_succ _ hx]
  · simp only [go_sem, ↓reduceIte, Nat.reduceBEq, Nat.reduceEqDiff, Nat.reduceLT, Nat.reduceLeDiff, Nat.reduceAdd, Nat.reduceMul, Nat.reduceSub, reduceCtorEq, Int.reduceLT, Int.reduceLE, Int.reduceEq, Int.reduceBEq, Int.reduceBNe, Int.reduceToNat, Int.reduceAdd, Int.reduceNeg, Int.reduceSub]

/-- The places at which a row has ToForged. -/
def lostL (l : List Int) (n : Nat) : List Int := ((List.range n).filter fun i => decide (l.getD i 0 = -1)).map fun (i : Nat) => (i : Int)
theorem lostL_succ (l : List Int) (n : Nat) : lostL l (n + 1) = if decide (l.getD n 0 = -1) = true then lostL l n ++ [(n : Int)] else lostL l n := by
  unfold lostL
  rw [List.range_succ, List.filter_append, List.map_append]
  have e : (List.filter (fun i => decide (l.getD i 0 = -1)) [n]) = if decide (l.getD n 0 = -1) = true then [n] else [] := by simp only [List.filter_cons, List.filter_nil]
  rw [e]
  split <;> simp
theorem lostL_len (l : List Int) (n : Nat) : (lostL l n).length ≤ n := by
  unfold lostL; rw [List.length_map]; have := List.length_filter_le (fun i => decide (l.getD i 0 = -1)) (List.range n); simpa using this
theorem c45 (l : List Int) (z : Nat) (hz : l ≠ [] → z = 1) (hl : l.length < 900) (h : Heap) :
    callPure (EW tabX) 45 [.lst 0 z (I l)] h = some (vI (lostL l l.length), h) := by
  rw [callPure_eq, w_call _ fn_45 rfl]
  simp only [go_sem, ↓reduceIte, Nat.reduceBEq, Nat.reduceEqDiff, Nat.reduceLT, Nat.reduceLeDiff, Nat.reduceAdd, Nat.reduceMul, Nat.reduceSub, reduceCtorEq, Int.reduceLT, Int.reduceLE, Int.reduceEq, Int.reduceBEq, Int.reduceBNe, Int.reduceToNat, Int.reduceAdd, Int.reduceNeg, Int.reduceSub]
  rw [w_rounds_h (fun k => [(3, ownT [] (lostL l k)), (4, .int .i64 k)]) (fun k => ⟨[], T [] (lostL l k).length⟩) l.length (.exit 0) [(3, ownT [] (lostL l l.length)), (4, .int .i64 l.length)] ⟨[], T [] (lostL l l.length).length⟩ ?_ ?_ ?_ ?_ rfl]
  · simp only [go_sem, ↓reduceIte, Nat.reduceBEq, Nat.reduceEqDiff, Nat.reduceLT, Nat.reduceLeDiff, Nat.reduceAdd, Nat.reduceMul, Nat.reduceSub, reduceCtorEq, Int.reduceLT, Int.reduceLE, Int.reduceEq, Int.reduceBEq, Int.reduceBNe, Int.reduceToNat, Int.reduceAdd, Int.reduceNeg, Int.reduceSub, ownT_clean, ownT_under]
  · simp only [go_sem, ↓reduceIte, Nat.reduceBEq, Nat.reduceEqDiff, Nat.reduceLT, Nat.reduceLeDiff, Nat.reduceAdd, Nat.reduceMul, Nat.reduceSub, reduceCtorEq, Int.reduceLT, Int.reduceLE, Int.reduceEq, Int.reduceBEq, Int.reduceBNe, Int.reduceToNat, Int.reduceAdd, Int.reduceNeg, Int.reduceSub]; rfl
  · rfl
  · intro k hk
    have hki : (k : Int) < l.length := by omega
    have hx := List.getElem?_eq_getElem hk
    have hz1 := hz (by intro e; rw [e] at hk; simp at hk)
    subst hz1
    have hg : l.getD k 0 = l[k] := by simp [hk]
    have hln := lostL_len l k
    have hap := ownT_app [] (lostL l k) k (by omega)
    rw [lostL_succ, hg]
    by_cases e : l[k] = -1
    · simp (disch := omega) only [go_sem, ↓reduceIte, Nat.reduceBEq, Nat.reduceEqDiff, Nat.reduceLT, Nat.reduceLeDiff, Nat.reduceAdd, Nat.reduceMul, Nat.reduceSub, reduceCtorEq, Int.reduceLT, Int.reduceLE, Int.reduceEq, Int.reduceBEq, Int.reduceBNe, Int.reduceToNat, Int.reduceAdd, Int.reduceNeg, Int.reduceSub, hki, hx, wrap_i64, e, hap]
    · have e' : (l[k] == -1) = false := by simpa using e
      simp (disch := omega) only [go_sem, ↓reduceIte, Nat.reduceBEq, Nat.reduceEqDiff, Nat.reduceLT, Nat.reduceLeDiff, Nat.reduceAdd, Nat.reduceMul, Nat.reduceSub, reduceCtorEq, Int.reduceLT, Int.reduceLE, Int.reduceEq, Int.reduceBEq, Int.reduceBNe, Int.reduceToNat, Int.reduceAdd, Int.reduceNeg, Int.reduceSub, hki, hx, wrap_i64, e, e']
  · simp only [go_sem, ↓reduceIte, Nat.reduceBEq, Nat.reduceEqDiff, Nat.reduceLT, Nat.reduceLeDiff, Nat.reduceAdd, Nat.reduceMul, Nat.reduceSub, reduceCtorEq, Int.reduceLT, Int.reduceLE, Int.reduceEq, Int.reduceBEq, Int.reduceBNe, Int.reduceToNat, Int.reduceAdd, Int.reduceNeg, Int.reduceSub]
end Go.Proofs.Ytbfodfepgefloaa
end
section
namespace Go.Proofs.Ytbfodfepgefloaa
open Go.Proofs

theorem shr_and : ∀ s : Fin 16, ∀ i : Fin 4, (IntKind.i64.wrap (BitVec.ofInt 64 (((s.1 : Nat) : Int).fdiv (2 ^ (min i.1 64))) &&& BitVec.ofInt 64 1).toNat == 1) = s.1.testBit i.1 := by decide
theorem or_bit : ∀ s : Fin 16, ∀ i : Fin 4, IntKind.i64.wrap (BitVec.ofInt 64 ((s.1 : Nat) : Int) ||| BitVec.ofInt 64 (IntKind.i64.wrap (1 * 2 ^ (min i.1 64)))).toNat = ((s.1 ||| 2 ^ i.1 : Nat) : Int) := by decide
theorem or_lt : ∀ s : Fin 16, ∀ i : Fin 4, (s.1 ||| 2 ^ i.1) < 16 := by decide
theorem or_test : ∀ s : Fin 16, ∀ i : Fin 4, ∀ j : Fin 4, (s.1 ||| 2 ^ i.1).testBit j.1 = (s.1.testBit j.1 || decide (i = j)) := by decide

/-- The members of a small set. -/
def bitsL (s n : Nat) : List Int := ((List.range n).filter fun i => s.testBit i).map fun (i : Nat) => (i : Int)
theorem bitsL_succ (s n : Nat) : bitsL s (n + 1) = if s.testBit n = true then bitsL s n ++ [(n : Int)] else bitsL s n := by
  unfold bitsL
  rw [List.range_succ, List.filter_append, List.map_append]
  have e : (List.filter (fun i => s.testBit i) [n]) = if s.testBit n = true then [n] else [] := by simp only [List.filter_cons, List.filter_nil]
  rw [e]
  split <;> simp
theorem bitsL_len (s n : Nat) : (bitsL s n).length ≤ n := by
  unfold bitsL; rw [List.length_map]; have := List.length_filter_le (fun i => s.testBit i) (List.range n); simpa using this
theorem c63 (s n : Nat) (hs : s < 16) (hn : n ≤ 4) (h : Heap) : callPure (EW tabX) 63 [.int .i64 s, .int .i64 n] h = some (vI (bitsL s n), h) := by
  rw [callPure_eq, w_call _ fn_63 rfl]
  simp only [go_sem, ↓reduceIte, Nat.reduceBEq, Nat.reduceEqDiff, Nat.reduceLT, Nat.reduceLeDiff, Nat.reduceAdd, Nat.reduceMul, Nat.reduceSub, reduceCtorEq, Int.reduceLT, Int.reduceLE, Int.reduceEq, Int.reduceBEq, Int.reduceBNe, Int.reduceToNat, Int.reduceAdd, Int.reduceNeg, Int.reduceSub]
  rw [w_rounds_h (fun k => [(4, ownT [] (bitsL s k)), (7, .int .i64 k)]) (fun k => ⟨[], T [] (bitsL s k).length⟩) n (.exit 0) [(4, ownT [] (bitsL s n)), (7, .int .i64 n)] ⟨[], T [] (bitsL s n).length⟩ ?_ ?_ ?_ ?_ rfl]
  · simp only [go_sem, ↓reduceIte, Nat.reduceBEq, Nat.reduceEqDiff, Nat.reduceLT, Nat.reduceLeDiff, Nat.reduceAdd, Nat.reduceMul, Nat.reduceSub, reduceCtorEq, Int.reduceLT, Int.reduceLE, Int.reduceEq, Int.reduceBEq, Int.reduceBNe, Int.reduceToNat, Int.reduceAdd, Int.reduceNeg, Int.reduceSub, ownT_clean, ownT_under]
  · simp only [go_sem, ↓reduceIte, Nat.reduceBEq, Nat.reduceEqDiff, Nat.reduceLT, Nat.reduceLeDiff, Nat.reduceAdd, Nat.reduceMul, Nat.reduceSub, reduceCtorEq, Int.reduceLT, Int.reduceLE, Int.reduceEq, Int.reduceBEq, Int.reduceBNe, Int.reduceToNat, Int.reduceAdd, Int.reduceNeg, Int.reduceSub]; rfl
  · rfl
  · intro k hk
    have hki : (k : Int) < n := by omega
    have hb := shr_and ⟨s, hs⟩ ⟨k, by omega⟩
    have hln := bitsL_len s k
    have hap := ownT_app [] (bitsL s k) k (by omega)
    rw [bitsL_succ]
    cases e : s.testBit k with
    | true =>
      simp only [e] at hb
      simp (disch := omega) only [go_sem, ↓reduceIte, Nat.reduceBEq, Nat.reduceEqDiff, Nat.reduceLT, Nat.reduceLeDiff, Nat.reduceAdd, Nat.reduceMul, Nat.reduceSub, reduceCtorEq, Int.reduceLT, Int.reduceLE, Int.reduceEq, Int.reduceBEq, Int.reduceBNe, Int.reduceToNat, Int.reduceAdd, Int.reduceNeg, Int.reduceSub, hki, wrap_i64, hap]
      rw [if_pos (by exact hb)]
    | false =>
      simp only [e] at hb
      simp (disch := omega) only [go_sem, ↓reduceIte, Nat.reduceBEq, Nat.reduceEqDiff, Nat.reduceLT, Nat.reduceLeDiff, Nat.reduceAdd, Nat.reduceMul, Nat.reduceSub, reduceCtorEq, Int.reduceLT, Int.reduceLE, Int.reduceEq, Int.reduceBEq, Int.reduceBNe, Int.reduceToNat, Int.reduceAdd, Int.reduceNeg, Int.reduceSub, hki, wrap_i64]
      rw [if_neg (by intro hh; exact Bool.false_ne_true (hb.symm.trans hh))]
      try simp (disch := omega) only [go_sem, ↓reduceIte, Nat.reduceBEq, Nat.reduceEqDiff, Nat.reduceLT, Nat.reduceLeDiff, Nat.reduceAdd, Nat.reduceMul, Nat.reduceSub, reduceCtorEq, Int.reduceLT, Int.reduceLE, Int.reduceEq, Int.reduceBEq, Int.reduceBNe, Int.reduceToNat, Int.reduceAdd, Int.reduceNeg, Int.reduceSub, wrap_i64]
  · simp only [go_sem, ↓reduceIte, Nat.reduceBEq, Nat.reduceEqDiff, Nat.reduceLT, Nat.reduceLeDiff, Nat.reduceAdd, Nat.reduceMul, Nat.reduceSub, reduceCtorEq, Int.reduceLT, Int.reduceLE, Int.reduceEq, Int.reduceBEq, Int.reduceBNe, Int.reduceToNat, Int.reduceAdd, Int.reduceNeg, Int.reduceSub]

theorem c85 (x : Int) (h : Heap) : callPure (EW tabX) 85 [.int .i64 x] h = some (.bool false, h) := by
  rw [callPure_eq, w_call _ fn_85 rfl]
  simp only [go_sem, ↓reduceIte, Nat.reduceBEq, Nat.reduceEqDiff, Nat.reduceLT, Nat.reduceLeDiff, Nat.reduceAdd, Nat.reduceMul, Nat.reduceSub, reduceCtorEq, Int.reduceLT, Int.reduceLE, Int.reduceEq, Int.reduceBEq, Int.reduceBNe, Int.reduceToNat, Int.reduceAdd, Int.reduceNeg, Int.reduceSub]
def cmpI (x y : Int) : Int := if x < y then -1 else if y < x then 1 else 0
theorem c77 (x y : Int) (h : Heap) : callPure (EW tabX) 77 [.int .i64 x, .int .i64 y] h = some (.int .i64 (cmpI x y), h) := by
  rw [callPure_eq, w_call _ fn_77 rfl]
  unfold cmpI
  by_cases h1 : x < y
  · simp only [go_sem, ↓reduceIte, Nat.reduceBEq, Nat.reduceEqDiff, Nat.reduceLT, Nat.reduceLeDiff, Nat.reduceAdd, Nat.reduceMul, Nat.reduceSub, reduceCtorEq, Int.reduceLT, Int.reduceLE, Int.reduceEq, Int.reduceBEq, Int.reduceBNe, Int.reduceToNat, Int.reduceAdd, Int.reduceNeg, Int.reduceSub, c85, h1]
  · by_cases h2 : y < x
    · simp only [go_sem, ↓reduceIte, Nat.reduceBEq, Nat.reduceEqDiff, Nat.reduceLT, Nat.reduceLeDiff, Nat.reduceAdd, Nat.reduceMul, Nat.reduceSub, reduceCtorEq, Int.reduceLT, Int.reduceLE, Int.reduceEq, Int.reduceBEq, Int.reduceBNe, Int.reduceToNat, Int.reduceAdd, Int.reduceNeg, Int.reduceSub, c85, h1, h2]
    · simp only [go_sem, ↓reduceIte, Nat.reduceBEq, Nat.reduceEqDiff, Nat.reduceLT, Nat.reduceLeDiff, Nat.reduceAdd, Nat.reduceMul, Nat.reduceSub, reduceCtorEq, Int.reduceLT, Int.reduceLE, Int.reduceEq, Int.reduceBEq, Int.reduceBNe, Int.reduceToNat, Int.reduceAdd, Int.reduceNeg, Int.reduceSub, c85, h1, h2]
def cmpL (a b : List Int) : Int := if ltB a b then -1 else if a = b then 0 else 1
theorem cmpL_neg (a b : List Int) : decide (cmpL a b < 0) = ltB a b := by
  unfold cmpL
  cases ltB a b with
  | true => rfl
  | false => simp only [Bool.false_eq_true, if_false]; split <;> rfl
theorem c64 (a b : List Int) (za zb : Nat) (hza : a ≠ [] → za = 1) (hzb : b ≠ [] → zb = 1) (la : a.length < 1000000000000000000) (lb : b.length < 1000000000000000000) (h : Heap) :
    callPure (EW tabX) 64 [.lst 0 za (I a), .lst 0 zb (I b)] h = some (.int .i64 (cmpL a b), h) := by
  rw [callPure_eq, w_call _ fn_64 rfl]
  simp only [go_sem, ↓reduceIte, Nat.reduceBEq, Nat.reduceEqDiff, Nat.reduceLT, Nat.reduceLeDiff, Nat.reduceAdd, Nat.reduceMul, Nat.reduceSub, reduceCtorEq, Int.reduceLT, Int.reduceLE, Int.reduceEq, Int.reduceBEq, Int.reduceBNe, Int.reduceToNat, Int.reduceAdd, Int.reduceNeg, Int.reduceSub]
  have h1 := cpl_le1 a b
  have h2 := cpl_le2 a b
  have hlt := ltB_cpl a b
  have heq := ltB_eq a b
  have round : ∀ k, k < cpl a b → ∃ x, a[k]? = some x ∧ b[k]? = some x ∧ (k : Int) < a.length ∧ ¬ (b.length : Int) ≤ k ∧ za = 1 ∧ zb = 1 := fun k hk => by
    have ka : k < a.length := by omega
    have kb : k < b.length := by omega
    have hx := List.getElem?_eq_getElem ka
    have he := cpl_eq a b k hk
    exact ⟨a[k], hx, by rw [← he]; exact hx, by omega, by omega, hza (by intro h; rw [h] at ka; simp at ka), hzb (by intro h; rw [h] at kb; simp at kb)⟩
  have cz : ∀ x, cmpI x x = 0 := fun x => by unfold cmpI; rw [if_neg (by omega), if_neg (by omega)]
  by_cases e : cpl a b = a.length
  · rw [w_rounds_u (fun k => [(11, .int .i64 k)]) (cpl a b) (.exit 0) [(11, .int .i64 (cpl a b))] ?_ ?_ ?_ rfl]
    · by_cases f : a.length < b.length
      · have fi : (a.length : Int) < b.length := by omega
        have hl : ltB a b = true := by rw [hlt, if_neg (by omega), e]; simp
        simp only [go_sem, ↓reduceIte, Nat.reduceBEq, Nat.reduceEqDiff, Nat.reduceLT, Nat.reduceLeDiff, Nat.reduceAdd, Nat.reduceMul, Nat.reduceSub, reduceCtorEq, Int.reduceLT, Int.reduceLE, Int.reduceEq, Int.reduceBEq, Int.reduceBNe, Int.reduceToNat, Int.reduceAdd, Int.reduceNeg, Int.reduceSub, fi, cmpL, hl]
      · have fi : ¬ (a.length : Int) < b.length := by omega
        have hl : ltB a b = false := by rw [hlt, if_pos (by omega)]
        have hab : a = b := by
          apply List.ext_getElem? 
          intro k
          by_cases hk : k < cpl a b
          · exact cpl_eq a b k hk
          · rw [List.getElem?_eq_none (by omega), List.getElem?_eq_none (by omega)]
        subst hab
        simp only [go_sem, ↓reduceIte, Nat.reduceBEq, Nat.reduceEqDiff, Nat.reduceLT, Nat.reduceLeDiff, Nat.reduceAdd, Nat.reduceMul, Nat.reduceSub, reduceCtorEq, Int.reduceLT, Int.reduceLE, Int.reduceEq, Int.reduceBEq, Int.reduceBNe, Int.reduceToNat, Int.reduceAdd, Int.reduceNeg, Int.reduceSub, cmpL, hl]
    · simp only [go_sem, ↓reduceIte, Nat.reduceBEq, Nat.reduceEqDiff, Nat.reduceLT, Nat.reduceLeDiff, Nat.reduceAdd, Nat.reduceMul, Nat.reduceSub, reduceCtorEq, Int.reduceLT, Int.reduceLE, Int.reduceEq, Int.reduceBEq, Int.reduceBNe, Int.reduceToNat, Int.reduceAdd, Int.reduceNeg, Int.reduceSub]
    · intro k hk
      obtain ⟨x, x1, x2, x3, x4, x5, x6⟩ := round k hk
      simp (disch := omega) only [go_sem, ↓reduceIte, Nat.reduceBEq, Nat.reduceEqDiff, Nat.reduceLT, Nat.reduceLeDiff, Nat.reduceAdd, Nat.reduceMul, Nat.reduceSub, reduceCtorEq, Int.reduceLT, Int.reduceLE, Int.reduceEq, Int.reduceBEq, Int.reduceBNe, Int.reduceToNat, Int.reduceAdd, Int.reduceNeg, Int.reduceSub, x1, x2, x3, x4, x5, x6, c77, cz, wrap_i64]
    · simp only [go_sem, ↓reduceIte, Nat.reduceBEq, Nat.reduceEqDiff, Nat.reduceLT, Nat.reduceLeDiff, Nat.reduceAdd, Nat.reduceMul, Nat.reduceSub, reduceCtorEq, Int.reduceLT, Int.reduceLE, Int.reduceEq, Int.reduceBEq, Int.reduceBNe, Int.reduceToNat, Int.reduceAdd, Int.reduceNeg, Int.reduceSub, e]
  · have g : cpl a b < a.length := by omega
    have gi : ((cpl a b : Nat) : Int) < a.length := by omega
    have hx := List.getElem?_eq_getElem g
    have hza1 := hza (by intro h; rw [h] at g; simp at g)
    by_cases f : cpl a b = b.length
    · have fi : (b.length : Int) ≤ (cpl a b : Nat) := by omega
      have hl : ltB a b = false := by rw [hlt, if_pos f]
      have hab : ¬ a = b := fun h => by rw [h] at g f; omega
      rw [w_rounds_u (fun k => [(11, .int .i64 k)]) (cpl a b) .ret [(4, .int .i64 1), (5, .int .i64 (cpl a b)), (6, .int .i64 a[cpl a b]), (11, .int .i64 (cpl a b))] ?_ ?_ ?_ rfl]
      · simp only [go_sem, ↓reduceIte, Nat.reduceBEq, Nat.reduceEqDiff, Nat.reduceLT, Nat.reduceLeDiff, Nat.reduceAdd, Nat.reduceMul, Nat.reduceSub, reduceCtorEq, Int.reduceLT, Int.reduceLE, Int.reduceEq, Int.reduceBEq, Int.reduceBNe, Int.reduceToNat, Int.reduceAdd, Int.reduceNeg, Int.reduceSub, cmpL, hl, hab]
      · simp only [go_sem, ↓reduceIte, Nat.reduceBEq, Nat.reduceEqDiff, Nat.reduceLT, Nat.reduceLeDiff, Nat.reduceAdd, Nat.reduceMul, Nat.reduceSub, reduceCtorEq, Int.reduceLT, Int.reduceLE, Int.reduceEq, Int.reduceBEq, Int.reduceBNe, Int.reduceToNat, Int.reduceAdd, Int.reduceNeg, Int.reduceSub]
      · intro k hk
        obtain ⟨x, x1, x2, x3, x4, x5, x6⟩ := round k hk
        simp (disch := omega) only [go_sem, ↓reduceIte, Nat.reduceBEq, Nat.reduceEqDiff, Nat.reduceLT, Nat.reduceLeDiff, Nat.reduceAdd, Nat.reduceMul, Nat.reduceSub, reduceCtorEq, Int.reduceLT, Int.reduceLE, Int.reduceEq, Int.reduceBEq, Int.reduceBNe, Int.reduceToNat, Int.reduceAdd, Int.reduceNeg, Int.reduceSub, x1, x2, x3, x4, x5, x6, c77, cz, wrap_i64]
      · simp only [go_sem, ↓reduceIte, Nat.reduceBEq, Nat.reduceEqDiff, Nat.reduceLT, Nat.reduceLeDiff, Nat.reduceAdd, Nat.reduceMul, Nat.reduceSub, reduceCtorEq, Int.reduceLT, Int.reduceLE, Int.reduceEq, Int.reduceBEq, Int.reduceBNe, Int.reduceToNat, Int.reduceAdd, Int.reduceNeg, Int.reduceSub, hx, gi, hza1, fi]
    · have g2 : cpl a b < b.length := by omega
      have gi2 : ¬ (b.length : Int) ≤ (cpl a b : Nat) := by omega
      have hy := List.getElem?_eq_getElem g2
      have hzb1 := hzb (by intro h; rw [h] at g2; simp at g2)
      have hne := cpl_ne a b _ _ hx hy
      have ea : a.getD (cpl a b) 0 = a[cpl a b] := by simp [g]
      have eb : b.getD (cpl a b) 0 = b[cpl a b] := by simp [g2]
      have hab : ¬ a = b := fun h => by subst h; exact hne rfl
      have hl : ltB a b = decide (a[cpl a b] < b[cpl a b]) := by rw [hlt, if_neg f, ea, eb]; simp [e]
      have hc : cmpL a b = cmpI a[cpl a b] b[cpl a b] := by
        unfold cmpL cmpI
        rw [hl, if_neg hab]
        by_cases q : a[cpl a b] < b[cpl a b]
        · simp [q]
        · have q2 : b[cpl a b] < a[cpl a b] := by omega
          simp [q, q2]
      have hn0 : (cmpI a[cpl a b] b[cpl a b] != 0) = true := by
        unfold cmpI
        by_cases q : a[cpl a b] < b[cpl a b]
        · simp [q]
        · have q2 : b[cpl a b] < a[cpl a b] := by omega
          simp [q, q2]
      rw [w_rounds_u (fun k => [(11, .int .i64 k)]) (cpl a b) .ret [(4, .int .i64 (cmpI a[cpl a b] b[cpl a b])), (5, .int .i64 (cpl a b)), (6, .int .i64 a[cpl a b]), (7, .int .i64 b[cpl a b]), (8, .int .i64 (cmpI a[cpl a b] b[cpl a b])), (11, .int .i64 (cpl a b))] ?_ ?_ ?_ rfl]
      · simp only [go_sem, ↓reduceIte, Nat.reduceBEq, Nat.reduceEqDiff, Nat.reduceLT, Nat.reduceLeDiff, Nat.reduceAdd, Nat.reduceMul, Nat.reduceSub, reduceCtorEq, Int.reduceLT, Int.reduceLE, Int.reduceEq, Int.reduceBEq, Int.reduceBNe, Int.reduceToNat, Int.reduceAdd, Int.reduceNeg, Int.reduceSub, hc]
      · simp only [go_sem, ↓reduceIte, Nat.reduceBEq, Nat.reduceEqDiff, Nat.reduceLT, Nat.reduceLeDiff, Nat.reduceAdd, Nat.reduceMul, Nat.reduceSub, reduceCtorEq, Int.reduceLT, Int.reduceLE, Int.reduceEq, Int.reduceBEq, Int.reduceBNe, Int.reduceToNat, Int.reduceAdd, Int.reduceNeg, Int.reduceSub]
      · intro k hk
        obtain ⟨x, x1, x2, x3, x4, x5, x6⟩ := round k hk
        simp (disch := omega) only [go_sem, ↓reduceIte, Nat.reduceBEq, Nat.reduceEqDiff, Nat.reduceLT, Nat.reduceLeDiff, Nat.reduceAdd, Nat.reduceMul, Nat.reduceSub, reduceCtorEq, Int.reduceLT, Int.reduceLE, Int.reduceEq, Int.reduceBEq, Int.reduceBNe, Int.reduceToNat, Int.reduceAdd, Int.reduceNeg, Int.reduceSub, x1, x2, x3, x4, x5, x6, c77, cz, wrap_i64]
      · simp only [go_sem, ↓reduceIte, Nat.reduceBEq, Nat.reduceEqDiff, Nat.reduceLT, Nat.reduceLeDiff, Nat.reduceAdd, Nat.reduceMul, Nat.reduceSub, reduceCtorEq, Int.reduceLT, Int.reduceLE, Int.reduceEq, Int.reduceBEq, Int.reduceBNe, Int.reduceToNat, Int.reduceAdd, Int.reduceNeg, Int.reduceSub, hx, hy, gi, gi2, hza1, hzb1, c77, hn0]
end Go.Proofs.Ytbfodfepgefloaa
end
section
namespace Go.Proofs.Ytbfodfepgefloaa
open Go.Proofs

section
variable {X : Tab} {f : Nat} {rd : Option Nat} {b : Code}
/-- A loop whose slots and heap hang on something that a relation says. -/
theorem w_rounds_sk {σ : Type} {G : Prop} {g : Slots} {h : Heap} {ms : List Nat} {x : Option (AExit × St)} (hx : (EW X).code f rd (.loop b) ⟨⟨g, []⟩, h, ms⟩ = x)
    (U : Nat → σ → Slots) (Hp : σ → Heap) (R : Nat → σ → Prop) (n : Nat) (e : AExit) (V : σ → Slots) (hr : isNormal e = false) (s0 : σ) (h0 : puts g (U 0 s0) = g) (hh : Hp s0 = h) (hR : R 0 s0)
    (hs : ∀ k s, k < n → R k s → ∃ s', cutS ⟨⟨puts g (U k s), []⟩, Hp s, ms⟩ ((EW X).code f rd b ⟨⟨puts g (U k s), []⟩, Hp s, ms⟩) = some (.normal, ⟨⟨puts g (U (k + 1) s'), []⟩, Hp s', ms⟩) ∧ R (k + 1) s')
    (he : ∀ s, R n s → cutS ⟨⟨puts g (U n s), []⟩, Hp s, ms⟩ ((EW X).code f rd b ⟨⟨puts g (U n s), []⟩, Hp s, ms⟩) = some (e, ⟨⟨puts g (V s), []⟩, Hp s, ms⟩))
    (hG : ∀ s, x = some (e, ⟨⟨puts g (V s), []⟩, Hp s, ms⟩) → R n s → G) : G := by
  obtain ⟨e', s', h1, s, rfl, rfl, h2⟩ := w_rounds_ex hx (fun k q => ∃ s, q = ⟨⟨puts g (U k s), []⟩, Hp s, ms⟩ ∧ R k s) n (fun e' q => ∃ s, e' = e ∧ q = ⟨⟨puts g (V s), []⟩, Hp s, ms⟩ ∧ R n s)
    ⟨s0, by rw [h0, hh], hR⟩ (fun k q hk ⟨s, hq1, hq2⟩ => by
      subst hq1
      obtain ⟨s', a, c⟩ := hs k s hk hq2
      exact ⟨_, a, s', rfl, c⟩)
    (fun q ⟨s, hq1, hq2⟩ => by
      subst hq1
      exact ⟨e, _, he s hq2, hr, s, rfl, rfl, hq2⟩)
  exact hG s h1 h2
end

/-- A slice whose end is owned. -/
def OwnS (sz tag z n : Nat) (t : List Bool) : Prop := (tag = 1 ∧ n = 0) ∨ ∃ q, tag = q + 2 ∧ z = sz ∧ t[q]? = some true
theorem app_gen {X : Tab} {ty e : TypeId} {sz : Nat} {tag z : Nat} {t : List Bool} {xs : List AV} (hn : OwnS sz tag z xs.length t) (u z' : Nat) (ys : List AV) (ht : trow X ty = .slice e) (hs : tsz X e = sz) (h0 : 0 < sz) (hz' : z' = sz ∨ ys.length = 0)
    (hy : (xs.length + ys.length) * tbytes X e ≤ 1048576) (hy2 : xs.length + ys.length ≤ 1048576) (hf : zeroFits X e = true) (hv : ys.all AV.var = true) :
    ∃ t2, (∀ B, appendAV X ty t.length ⟨B, t⟩ (.lst tag z xs) (.lst u z' ys) = some (.lst (t.length + 2) sz (xs ++ ys), ⟨B, t2⟩)) ∧ t2.length = t.length + 1 ∧ t2[t.length]? = some true ∧ ∀ k, tag ≠ k + 2 → t[k]? = some true → t2[k]? = some true := by
  have hc : (z' = tsz X e ∨ ys.length = 0) ∧ 0 < tsz X e ∧ (xs.length + ys.length) * tbytes X e ≤ appLimit ∧ xs.length + ys.length ≤ appLimit ∧ zeroFits X e = true ∧ ys.all AV.var = true := by
    rw [hs]; exact ⟨hz', h0, hy, hy2, hf, hv⟩
  unfold appendAV
  simp only [ht, if_pos hc]
  rcases hn with ⟨rfl, hn0⟩ | ⟨q, rfl, hq, hqt⟩
  · have hx : z = tsz X e ∨ xs.length = 0 := .inr hn0
    refine ⟨t ++ [true], fun B => ?_, by simp, by simp, fun k _ hk => old hk _⟩
    rw [if_pos hx]
    simp only [hs, lset, Nat.lt_irrefl, if_false]
  · have hx : z = tsz X e := by rw [hs, hq]
    refine ⟨t.set q false ++ [true], fun B => ?_, by simp, by simp, fun k hne hk => ?_⟩
    · simp only [hqt]
      rw [if_pos hx]
      simp only [hs, lset, List.length_set, Nat.lt_irrefl, if_false]
    · refine old ?_ _
      rw [List.getElem?_set_ne (by omega)]; exact hk

/-- Rows of numbers, one by one, whatever is owned of each. -/
def Rows (xs : List AV) (ts : List (List Int)) : Prop := xs.length = ts.length ∧ ∀ (i : Nat) (t : List Int), ts[i]? = some t → ∃ tg z, xs[i]? = some (.lst tg z (I t)) ∧ (t ≠ [] → z = 1)
theorem Rows.snoc {xs : List AV} {ts : List (List Int)} (h : Rows xs ts) (tg : Nat) (t : List Int) : Rows (xs ++ [.lst tg 1 (I t)]) (ts ++ [t]) := by
  refine ⟨by simp [h.1], fun i u hu => ?_⟩
  rw [List.getElem?_append] at hu
  split at hu
  · obtain ⟨a, z, h1, h2⟩ := h.2 i u hu
    exact ⟨a, z, old h1 _, h2⟩
  · rename_i hi
    have : i = ts.length := by
      by_cases e : i - ts.length = 0
      · omega
      · rw [List.getElem?_eq_none (by simp; omega)] at hu; cases hu
    subst this
    simp at hu; subst hu
    refine ⟨tg, 1, ?_, fun _ => rfl⟩
    rw [← h.1]; simp
theorem Rows.under {xs : List AV} {ts : List (List Int)} (h : Rows xs ts) (n : Nat) : underL n xs = true := by
  refine underL_of fun x hx => ?_
  obtain ⟨i, hi, e⟩ := List.mem_iff_getElem.1 hx
  have hi2 : i < ts.length := by rw [← h.1]; exact hi
  obtain ⟨a, z, h1, _⟩ := h.2 i ts[i] (List.getElem?_eq_getElem hi2)
  rw [List.getElem?_eq_getElem hi, e] at h1
  simp only [Option.some.injEq] at h1
  rw [h1]; simp only [go_sem, ↓reduceIte, Nat.reduceBEq, Nat.reduceEqDiff, Nat.reduceLT, Nat.reduceLeDiff, Nat.reduceAdd, Nat.reduceMul, Nat.reduceSub, reduceCtorEq, Int.reduceLT, Int.reduceLE, Int.reduceEq, Int.reduceBEq, Int.reduceBNe, Int.reduceToNat, Int.reduceAdd, Int.reduceNeg, Int.reduceSub]
theorem Rows.var {xs : List AV} {ts : List (List Int)} (h : Rows xs ts) : xs.all AV.var = true := by
  rw [List.all_eq_true]
  intro x hx
  obtain ⟨i, hi, e⟩ := List.mem_iff_getElem.1 hx
  have hi2 : i < ts.length := by rw [← h.1]; exact hi
  obtain ⟨a, z, h1, _⟩ := h.2 i ts[i] (List.getElem?_eq_getElem hi2)
  rw [List.getElem?_eq_getElem hi, e] at h1
  simp only [Option.some.injEq] at h1
  rw [h1]; rfl
/-- As plain data. -/
theorem Rows.clean : ∀ {xs : List AV} {ts : List (List Int)}, Rows xs ts → ∃ ys, cleanL xs = some ys ∧ Rows ys ts ∧ cleanL ys = some ys
  | [], ts, h => ⟨[], cleanL_nil, h, cleanL_nil⟩
  | x :: xs, [], h => by have := h.1; simp at this
  | x :: xs, t :: ts, h => by
    have h' : Rows xs ts := ⟨by have := h.1; simpa using this, fun i u hu => by simpa using h.2 (i + 1) u (by simpa using hu)⟩
    obtain ⟨ys, h1, h2, h3⟩ := h'.clean
    obtain ⟨a, z, h4, h5⟩ := h.2 0 t rfl
    simp only [List.getElem?_cons_zero, Option.some.injEq] at h4
    subst h4
    refine ⟨.lst 0 z (I t) :: ys, by simp only [go_sem, ↓reduceIte, Nat.reduceBEq, Nat.reduceEqDiff, Nat.reduceLT, Nat.reduceLeDiff, Nat.reduceAdd, Nat.reduceMul, Nat.reduceSub, reduceCtorEq, Int.reduceLT, Int.reduceLE, Int.reduceEq, Int.reduceBEq, Int.reduceBNe, Int.reduceToNat, Int.reduceAdd, Int.reduceNeg, Int.reduceSub, h1], ⟨by have := h2.1; simp [this], fun i u hu => ?_⟩, by simp only [go_sem, ↓reduceIte, Nat.reduceBEq, Nat.reduceEqDiff, Nat.reduceLT, Nat.reduceLeDiff, Nat.reduceAdd, Nat.reduceMul, Nat.reduceSub, reduceCtorEq, Int.reduceLT, Int.reduceLE, Int.reduceEq, Int.reduceBEq, Int.reduceBNe, Int.reduceToNat, Int.reduceAdd, Int.reduceNeg, Int.reduceSub, h3]⟩
    cases i with
    | zero => simp at hu; subst hu; exact ⟨0, z, rfl, h5⟩
    | succ i => simpa using h2.2 i u (by simpa using hu)

/-- All truths of so many halves, in order. -/
def okHC (d : Dr) (e c : Nat) : Bool := decide (0 < (fitsL d (d.cards.getD c ⟨default, []⟩) (d.halves.getD e ⟨default, []⟩) d.steps.toNat).length)
/-- Whether a half can be of the card before the k-th (0: forged). -/
def may (d : Dr) (e : Nat) (t : List Int) : Nat → Bool
  | 0 => true
  | k + 1 => !(t.any fun x => x == (k : Int)) && okHC d e k
def extK (d : Dr) (e : Nat) (t : List Int) (k : Nat) : List (List Int) := ((List.range k).filter fun i => may d e t i).map fun (i : Nat) => t ++ [(i : Int) - 1]
def truthsL (d : Dr) : Nat → List (List Int)
  | 0 => [[]]
  | e + 1 => (truthsL d e).flatMap fun t => extK d e t (d.cards.length + 1)
theorem extK_succ (d : Dr) (e : Nat) (t : List Int) (k : Nat) : extK d e t (k + 1) = if may d e t k = true then extK d e t k ++ [t ++ [(k : Int) - 1]] else extK d e t k := by
  unfold extK
  rw [List.range_succ, List.filter_append, List.map_append]
  have h : (List.filter (fun i => may d e t i) [k]) = if may d e t k = true then [k] else [] := by simp only [List.filter_cons, List.filter_nil]
  rw [h]
  split <;> simp
theorem extK_len (d : Dr) (e : Nat) (t : List Int) (k : Nat) : (extK d e t k).length ≤ k := by
  unfold extK; rw [List.length_map]; have := List.length_filter_le (fun i => may d e t i) (List.range k); simpa using this
end Go.Proofs.Ytbfodfepgefloaa
end
section
namespace Go.Proofs.Ytbfodfepgefloaa
open Go.Proofs

structure RS where
  tg : Nat
  z : Nat
  xs : List AV
  t : List Bool
def RS.v (s : RS) : AV := .lst s.tg s.z s.xs
/-- The rows of a slice that is appended to. -/
def RS.is (s : RS) (ts : List (List Int)) : Prop := Rows s.xs ts ∧ OwnS 1 s.tg s.z s.xs.length s.t

theorem truthsL_ne (d : Dr) : ∀ e, truthsL d e ≠ []
  | 0 => by simp [truthsL]
  | e + 1 => by
    intro h
    unfold truthsL at h
    rw [List.flatMap_eq_nil_iff] at h
    obtain ⟨t, ht⟩ := List.exists_mem_of_ne_nil _ (truthsL_ne d e)
    have := h t ht
    have h2 : (0 : Nat) ∈ (List.range (d.cards.length + 1)).filter fun i => may d e t i := List.mem_filter.2 ⟨by simp, rfl⟩
    unfold extK at this
    rw [List.map_eq_nil_iff] at this
    rw [this] at h2; cases h2
theorem truthsL_mem (d : Dr) : ∀ (e : Nat) (t : List Int), t ∈ truthsL d e → t.length = e
  | 0, t, h => by simp [truthsL] at h; simp [h]
  | e + 1, t, h => by
    unfold truthsL at h
    obtain ⟨u, hu, ht⟩ := List.mem_flatMap.1 h
    unfold extK at ht
    obtain ⟨i, _, rfl⟩ := List.mem_map.1 ht
    simp [truthsL_mem d e u hu]
theorem flat_len {α β : Type} (f : α → List β) (m : Nat) : ∀ l : List α, (∀ x ∈ l, (f x).length ≤ m) → (l.flatMap f).length ≤ l.length * m
  | [], _ => by simp
  | x :: l, h => by
    have a := h x (by simp)
    have b := flat_len f m l fun y hy => h y (by simp [hy])
    rw [List.flatMap_cons, List.length_append, List.length_cons, Nat.succ_mul]
    omega
theorem truthsL_len (d : Dr) (hc : d.cards.length ≤ 4) : ∀ e, (truthsL d e).length ≤ 5 ^ e
  | 0 => by simp [truthsL]
  | e + 1 => by
    have a := flat_len (fun t => extK d e t (d.cards.length + 1)) 5 (truthsL d e) fun t _ => by have := extK_len d e t (d.cards.length + 1); omega
    have b := truthsL_len d hc e
    unfold truthsL
    rw [Nat.pow_succ]
    exact Nat.le_trans a (Nat.mul_le_mul_right 5 b)

theorem c44 (d : Dr) (hd : d.fits) (ho : d.Ok) : ∃ ys, Rows ys (truthsL d d.halves.length) ∧ cleanL ys = some ys ∧ ∀ h, callPure (EW tabX) 44 [eD d] h = some (.lst 0 1 ys, h) := by
  have hc4 := ho.c4
  have hh4 := ho.h4
  have hcl := eD_clean d
  have key : ∃ s : RS, Rows s.xs (truthsL d d.halves.length) ∧ s.z = 1 ∧ ∃ h1, (EW tabX).call 44 [eD d] ⟨[], []⟩ = some (s.v, h1) := by
    rw [w_call _ fn_44 rfl]
    simp only [go_sem, ↓reduceIte, Nat.reduceBEq, Nat.reduceEqDiff, Nat.reduceLT, Nat.reduceLeDiff, Nat.reduceAdd, Nat.reduceMul, Nat.reduceSub, reduceCtorEq, Int.reduceLT, Int.reduceLE, Int.reduceEq, Int.reduceBEq, Int.reduceBNe, Int.reduceToNat, Int.reduceAdd, Int.reduceNeg, Int.reduceSub, eD, eDc, eC_under]
    generalize hx : (EW tabX).code 44 none (Code.loop _) _ = x
    refine w_rounds_sk hx (fun k (s : RS) => [(3, s.v), (4, .int .i64 k)]) (fun s => ⟨[.cells (eDc d)], s.t⟩) (fun k s => Rows s.xs (truthsL d k) ∧ s.z = 1) d.halves.length (.exit 0) (fun s => [(3, s.v), (4, .int .i64 d.halves.length)]) rfl ⟨1, 1, [.lst 1 0 []], []⟩ ?_ ?_ ?_ ?_ ?_ ?_
    · simp only [go_sem, ↓reduceIte, Nat.reduceBEq, Nat.reduceEqDiff, Nat.reduceLT, Nat.reduceLeDiff, Nat.reduceAdd, Nat.reduceMul, Nat.reduceSub, reduceCtorEq, Int.reduceLT, Int.reduceLE, Int.reduceEq, Int.reduceBEq, Int.reduceBNe, Int.reduceToNat, Int.reduceAdd, Int.reduceNeg, Int.reduceSub, RS.v]
    · simp only [eDc]
    · refine ⟨⟨rfl, fun i t hi => ?_⟩, rfl⟩
      cases i with
      | zero => simp [truthsL] at hi; subst hi; exact ⟨1, 0, rfl, fun h => absurd rfl h⟩
      | succ i => simp [truthsL] at hi
    · intro e s he hR
      obtain ⟨hrow, hz⟩ := hR
      obtain ⟨tg, z, xs, t⟩ := s
      simp only at hrow hz
      subst hz
      have hei : (e : Int) < d.halves.length := by omega
      have hxl := hrow.1
      have hlen := truthsL_len d hc4 e
      have hp : 5 ^ e ≤ 125 := by
        have : 5 ^ e ≤ 5 ^ 3 := Nat.pow_le_pow_right (by omega) (by omega)
        omega
      simp only [go_sem, ↓reduceIte, Nat.reduceBEq, Nat.reduceEqDiff, Nat.reduceLT, Nat.reduceLeDiff, Nat.reduceAdd, Nat.reduceMul, Nat.reduceSub, reduceCtorEq, Int.reduceLT, Int.reduceLE, Int.reduceEq, Int.reduceBEq, Int.reduceBNe, Int.reduceToNat, Int.reduceAdd, Int.reduceNeg, Int.reduceSub, hei, eDc, RS.v]
      generalize hy : (EW tabX).code 44 none (Code.loop _) _ = y
      refine w_rounds_sk hy (fun k (s : RS) => [(5, s.v), (6, .int .i64 k)]) (fun s => ⟨[.cells (eDc d)], s.t⟩) (fun k s => s.is (((truthsL d e).take k).flatMap fun t => extK d e t (d.cards.length + 1))) (truthsL d e).length (.exit 2) (fun s => [(5, s.v), (6, .int .i64 (truthsL d e).length)]) rfl ⟨1, 0, [], t⟩ ?_ ?_ ?_ ?_ ?_ ?_
      · simp only [go_sem, ↓reduceIte, Nat.reduceBEq, Nat.reduceEqDiff, Nat.reduceLT, Nat.reduceLeDiff, Nat.reduceAdd, Nat.reduceMul, Nat.reduceSub, reduceCtorEq, Int.reduceLT, Int.reduceLE, Int.reduceEq, Int.reduceBEq, Int.reduceBNe, Int.reduceToNat, Int.reduceAdd, Int.reduceNeg, Int.reduceSub, RS.v]
      · simp only [eDc]
      · exact ⟨⟨rfl, fun i t hi => by simp at hi⟩, .inl ⟨rfl, rfl⟩⟩
      · intro k s hk hR
        obtain ⟨ntg, nz, nxs, nt⟩ := s
        have hki : (k : Int) < xs.length := by omega
        have htk := List.getElem?_eq_getElem hk
        obtain ⟨otg, oz, hox, hoz⟩ := hrow.2 k _ htk
        have htl := truthsL_mem d e _ (List.getElem_mem hk)
        have hflat : ((truthsL d e).take (k + 1)).flatMap (fun t => extK d e t (d.cards.length + 1)) = ((truthsL d e).take k).flatMap (fun t => extK d e t (d.cards.length + 1)) ++ extK d e (truthsL d e)[k] (d.cards.length + 1) := by
          rw [List.take_add_one, htk, List.flatMap_append]; simp
        have hpl : (((truthsL d e).take k).flatMap fun t => extK d e t (d.cards.length + 1)).length ≤ 125 * 5 := by
          have a := flat_len (fun t => extK d e t (d.cards.length + 1)) 5 ((truthsL d e).take k) fun t _ => by have := extK_len d e t (d.cards.length + 1); omega
          have b : ((truthsL d e).take k).length ≤ 125 := by rw [List.length_take]; omega
          exact Nat.le_trans a (Nat.mul_le_mul_right 5 b)
        rw [hflat]
        generalize (((truthsL d e).take k).flatMap fun t => extK d e t (d.cards.length + 1)) = pre at hR hpl ⊢
        generalize (truthsL d e)[k] = tt at hox hoz htl ⊢
        simp (disch := omega) only [go_sem, ↓reduceIte, Nat.reduceBEq, Nat.reduceEqDiff, Nat.reduceLT, Nat.reduceLeDiff, Nat.reduceAdd, Nat.reduceMul, Nat.reduceSub, reduceCtorEq, Int.reduceLT, Int.reduceLE, Int.reduceEq, Int.reduceBEq, Int.reduceBNe, Int.reduceToNat, Int.reduceAdd, Int.reduceNeg, Int.reduceSub, hki, eDc, RS.v, wrap_i64]
        generalize hz : (EW tabX).code 44 none (Code.loop _) _ = w
        refine w_rounds_sk hz (fun k (s : RS) => [(5, s.v), (7, .int .i64 ((k : Int) - 1))]) (fun s => ⟨[.cells (eDc d)], s.t⟩) (fun j s => s.is (pre ++ extK d e tt j)) (d.cards.length + 1) (.exit 4) (fun s => [(5, s.v), (7, .int .i64 d.cards.length)]) rfl ⟨ntg, nz, nxs, nt⟩ ?_ ?_ ?_ ?_ ?_ ?_
        · simp only [go_sem, ↓reduceIte, Nat.reduceBEq, Nat.reduceEqDiff, Nat.reduceLT, Nat.reduceLeDiff, Nat.reduceAdd, Nat.reduceMul, Nat.reduceSub, reduceCtorEq, Int.reduceLT, Int.reduceLE, Int.reduceEq, Int.reduceBEq, Int.reduceBNe, Int.reduceToNat, Int.reduceAdd, Int.reduceNeg, Int.reduceSub, RS.v]
        · simp only [eDc]
        · simpa [extK] using hR
        · intro j s hj hR
          obtain ⟨jtg, jz, jxs, jt⟩ := s
          obtain ⟨hrj, hoj⟩ := hR
          simp only at hrj hoj
          have hji : (j : Int) - 1 < d.cards.length := by omega
          have hjl := hrj.1
          have hel := extK_len d e tt j
          have hjn : jxs.length ≤ 640 := by rw [hjl, List.length_append]; omega
          have hoxt : xs[k]? = some (.lst otg oz (I tt)) := hox
          rw [extK_succ]
          have hws : IntKind.i64.wrap ((j : Int) - 1 + 1) = (j : Int) + 1 - 1 := by rw [wrap_i64 (by omega)]; omega
          obtain ⟨t2, a1, b1, c1, d1⟩ := app_gen (X := tabX) (ty := 29) (e := 3) (sz := 1) (tag := 1) (z := 1) (t := jt) (xs := []) (.inl ⟨rfl, rfl⟩) otg oz (I tt) (by simp only [go_sem, ↓reduceIte, Nat.reduceBEq, Nat.reduceEqDiff, Nat.reduceLT, Nat.reduceLeDiff, Nat.reduceAdd, Nat.reduceMul, Nat.reduceSub, reduceCtorEq, Int.reduceLT, Int.reduceLE, Int.reduceEq, Int.reduceBEq, Int.reduceBNe, Int.reduceToNat, Int.reduceAdd, Int.reduceNeg, Int.reduceSub]) (by simp only [go_sem, ↓reduceIte, Nat.reduceBEq, Nat.reduceEqDiff, Nat.reduceLT, Nat.reduceLeDiff, Nat.reduceAdd, Nat.reduceMul, Nat.reduceSub, reduceCtorEq, Int.reduceLT, Int.reduceLE, Int.reduceEq, Int.reduceBEq, Int.reduceBNe, Int.reduceToNat, Int.reduceAdd, Int.reduceNeg, Int.reduceSub]) (by omega)
            (by by_cases h : tt = []; exact .inr (by rw [h]; rfl); exact .inl (hoz h)) (by simp only [go_sem, ↓reduceIte, Nat.reduceBEq, Nat.reduceEqDiff, Nat.reduceLT, Nat.reduceLeDiff, Nat.reduceAdd, Nat.reduceMul, Nat.reduceSub, reduceCtorEq, Int.reduceLT, Int.reduceLE, Int.reduceEq, Int.reduceBEq, Int.reduceBNe, Int.reduceToNat, Int.reduceAdd, Int.reduceNeg, Int.reduceSub]; omega) (by simp only [go_sem, ↓reduceIte, Nat.reduceBEq, Nat.reduceEqDiff, Nat.reduceLT, Nat.reduceLeDiff, Nat.reduceAdd, Nat.reduceMul, Nat.reduceSub, reduceCtorEq, Int.reduceLT, Int.reduceLE, Int.reduceEq, Int.reduceBEq, Int.reduceBNe, Int.reduceToNat, Int.reduceAdd, Int.reduceNeg, Int.reduceSub]; omega) (by simp only [go_sem, ↓reduceIte, Nat.reduceBEq, Nat.reduceEqDiff, Nat.reduceLT, Nat.reduceLeDiff, Nat.reduceAdd, Nat.reduceMul, Nat.reduceSub, reduceCtorEq, Int.reduceLT, Int.reduceLE, Int.reduceEq, Int.reduceBEq, Int.reduceBNe, Int.reduceToNat, Int.reduceAdd, Int.reduceNeg, Int.reduceSub]) (by simp only [go_sem, ↓reduceIte, Nat.reduceBEq, Nat.reduceEqDiff, Nat.reduceLT, Nat.reduceLeDiff, Nat.reduceAdd, Nat.reduceMul, Nat.reduceSub, reduceCtorEq, Int.reduceLT, Int.reduceLE, Int.reduceEq, Int.reduceBEq, Int.reduceBNe, Int.reduceToNat, Int.reduceAdd, Int.reduceNeg, Int.reduceSub])
          obtain ⟨t3, a2, b2, c2, d2⟩ := app_gen (X := tabX) (ty := 29) (e := 3) (sz := 1) (tag := jt.length + 2) (z := 1) (t := t2) (xs := I tt) (.inr ⟨jt.length, rfl, rfl, c1⟩) 1 1 [.int .i64 ((j : Int) - 1)] (by simp only [go_sem, ↓reduceIte, Nat.reduceBEq, Nat.reduceEqDiff, Nat.reduceLT, Nat.reduceLeDiff, Nat.reduceAdd, Nat.reduceMul, Nat.reduceSub, reduceCtorEq, Int.reduceLT, Int.reduceLE, Int.reduceEq, Int.reduceBEq, Int.reduceBNe, Int.reduceToNat, Int.reduceAdd, Int.reduceNeg, Int.reduceSub]) (by simp only [go_sem, ↓reduceIte, Nat.reduceBEq, Nat.reduceEqDiff, Nat.reduceLT, Nat.reduceLeDiff, Nat.reduceAdd, Nat.reduceMul, Nat.reduceSub, reduceCtorEq, Int.reduceLT, Int.reduceLE, Int.reduceEq, Int.reduceBEq, Int.reduceBNe, Int.reduceToNat, Int.reduceAdd, Int.reduceNeg, Int.reduceSub]) (by omega)
            (.inl rfl) (by simp only [go_sem, ↓reduceIte, Nat.reduceBEq, Nat.reduceEqDiff, Nat.reduceLT, Nat.reduceLeDiff, Nat.reduceAdd, Nat.reduceMul, Nat.reduceSub, reduceCtorEq, Int.reduceLT, Int.reduceLE, Int.reduceEq, Int.reduceBEq, Int.reduceBNe, Int.reduceToNat, Int.reduceAdd, Int.reduceNeg, Int.reduceSub]; omega) (by simp only [go_sem, ↓reduceIte, Nat.reduceBEq, Nat.reduceEqDiff, Nat.reduceLT, Nat.reduceLeDiff, Nat.reduceAdd, Nat.reduceMul, Nat.reduceSub, reduceCtorEq, Int.reduceLT, Int.reduceLE, Int.reduceEq, Int.reduceBEq, Int.reduceBNe, Int.reduceToNat, Int.reduceAdd, Int.reduceNeg, Int.reduceSub]; omega) (by simp only [go_sem, ↓reduceIte, Nat.reduceBEq, Nat.reduceEqDiff, Nat.reduceLT, Nat.reduceLeDiff, Nat.reduceAdd, Nat.reduceMul, Nat.reduceSub, reduceCtorEq, Int.reduceLT, Int.reduceLE, Int.reduceEq, Int.reduceBEq, Int.reduceBNe, Int.reduceToNat, Int.reduceAdd, Int.reduceNeg, Int.reduceSub]) (by simp only [go_sem, ↓reduceIte, Nat.reduceBEq, Nat.reduceEqDiff, Nat.reduceLT, Nat.reduceLeDiff, Nat.reduceAdd, Nat.reduceMul, Nat.reduceSub, reduceCtorEq, Int.reduceLT, Int.reduceLE, Int.reduceEq, Int.reduceBEq, Int.reduceBNe, Int.reduceToNat, Int.reduceAdd, Int.reduceNeg, Int.reduceSub])
          have hown3 : OwnS 1 jtg jz jxs.length t3 := by
            rcases hoj with h | ⟨q, h1, h2, h3⟩
            · exact .inl h
            · have hq : q < jt.length := (List.getElem?_eq_some_iff.1 h3).1
              exact .inr ⟨q, h1, h2, d2 q (by omega) (d1 q (by omega) h3)⟩
          obtain ⟨t4, a3, b3, c3, d3⟩ := app_gen (X := tabX) (ty := 55) (e := 29) (sz := 1) hown3 1 1 [.lst (t2.length + 2) 1 (I (tt ++ [(j : Int) - 1]))] (by simp only [go_sem, ↓reduceIte, Nat.reduceBEq, Nat.reduceEqDiff, Nat.reduceLT, Nat.reduceLeDiff, Nat.reduceAdd, Nat.reduceMul, Nat.reduceSub, reduceCtorEq, Int.reduceLT, Int.reduceLE, Int.reduceEq, Int.reduceBEq, Int.reduceBNe, Int.reduceToNat, Int.reduceAdd, Int.reduceNeg, Int.reduceSub]) (by simp only [go_sem, ↓reduceIte, Nat.reduceBEq, Nat.reduceEqDiff, Nat.reduceLT, Nat.reduceLeDiff, Nat.reduceAdd, Nat.reduceMul, Nat.reduceSub, reduceCtorEq, Int.reduceLT, Int.reduceLE, Int.reduceEq, Int.reduceBEq, Int.reduceBNe, Int.reduceToNat, Int.reduceAdd, Int.reduceNeg, Int.reduceSub]) (by omega)
            (.inl rfl) (by simp only [go_sem, ↓reduceIte, Nat.reduceBEq, Nat.reduceEqDiff, Nat.reduceLT, Nat.reduceLeDiff, Nat.reduceAdd, Nat.reduceMul, Nat.reduceSub, reduceCtorEq, Int.reduceLT, Int.reduceLE, Int.reduceEq, Int.reduceBEq, Int.reduceBNe, Int.reduceToNat, Int.reduceAdd, Int.reduceNeg, Int.reduceSub]; omega) (by simp only [go_sem, ↓reduceIte, Nat.reduceBEq, Nat.reduceEqDiff, Nat.reduceLT, Nat.reduceLeDiff, Nat.reduceAdd, Nat.reduceMul, Nat.reduceSub, reduceCtorEq, Int.reduceLT, Int.reduceLE, Int.reduceEq, Int.reduceBEq, Int.reduceBNe, Int.reduceToNat, Int.reduceAdd, Int.reduceNeg, Int.reduceSub]; omega) (by simp only [go_sem, ↓reduceIte, Nat.reduceBEq, Nat.reduceEqDiff, Nat.reduceLT, Nat.reduceLeDiff, Nat.reduceAdd, Nat.reduceMul, Nat.reduceSub, reduceCtorEq, Int.reduceLT, Int.reduceLE, Int.reduceEq, Int.reduceBEq, Int.reduceBNe, Int.reduceToNat, Int.reduceAdd, Int.reduceNeg, Int.reduceSub]) (by simp only [go_sem, ↓reduceIte, Nat.reduceBEq, Nat.reduceEqDiff, Nat.reduceLT, Nat.reduceLeDiff, Nat.reduceAdd, Nat.reduceMul, Nat.reduceSub, reduceCtorEq, Int.reduceLT, Int.reduceLE, Int.reduceEq, Int.reduceBEq, Int.reduceBNe, Int.reduceToNat, Int.reduceAdd, Int.reduceNeg, Int.reduceSub])
          have hyes : RS.is ⟨t3.length + 2, 1, jxs ++ [.lst (t2.length + 2) 1 (I (tt ++ [(j : Int) - 1]))], t4⟩ (pre ++ (extK d e tt j ++ [tt ++ [(j : Int) - 1]])) := by
            refine ⟨?_, .inr ⟨t3.length, rfl, rfl, c3⟩⟩
            rw [← List.append_assoc]
            exact hrj.snoc _ _
          simp only [List.nil_append] at a1
          cases j with
          | zero =>
            simp only [may, if_true]
            simp only [cast_zero, Int.zero_sub] at a1 a2 a3 hyes hws hji ⊢
            refine ⟨_, ?_, hyes⟩
            simp (disch := omega) only [go_sem, ↓reduceIte, Nat.reduceBEq, Nat.reduceEqDiff, Nat.reduceLT, Nat.reduceLeDiff, Nat.reduceAdd, Nat.reduceMul, Nat.reduceSub, reduceCtorEq, Int.reduceLT, Int.reduceLE, Int.reduceEq, Int.reduceBEq, Int.reduceBNe, Int.reduceToNat, Int.reduceAdd, Int.reduceNeg, Int.reduceSub, hji, hki, hoxt, eDc, RS.v, wrap_i64, a1, a2, a3, I_snoc]
          | succ i =>
            have hji' : ((i : Int) + 1 - 1) = i := by omega
            have hcc : d.cards[i]? = some (d.cards.getD i ⟨default, []⟩) := by
              rw [List.getD_eq_getElem?_getD, List.getElem?_eq_getElem (show i < d.cards.length by omega)]; rfl
            have hee : d.halves[e]? = some (d.halves.getD e ⟨default, []⟩) := by
              rw [List.getD_eq_getElem?_getD, List.getElem?_eq_getElem (show e < d.halves.length by omega)]; rfl
            have h43 := c43 d hd ho i e _ _ hcc hee
            have h39 := c39 tt i oz hoz (by omega)
            have hne : ((i : Int) == -1) = false := by simp
            have hok : decide (0 < ((fitsL d (d.cards.getD i ⟨default, []⟩) (d.halves.getD e ⟨default, []⟩) d.steps.toNat).length : Int)) = okHC d e i := by
              unfold okHC; rw [Bool.eq_iff_iff]; simp only [decide_eq_true_eq]; omega
            simp only [cast_succ, hji'] at a2 a3 hyes hws hji ⊢
            simp only [go_sem, ↓reduceIte, Nat.reduceBEq, Nat.reduceEqDiff, Nat.reduceLT, Nat.reduceLeDiff, Nat.reduceAdd, Nat.reduceMul, Nat.reduceSub, reduceCtorEq, Int.reduceLT, Int.reduceLE, Int.reduceEq, Int.reduceBEq, Int.reduceBNe, Int.reduceToNat, Int.reduceAdd, Int.reduceNeg, Int.reduceSub, eD, eDc, vI] at h43 hcl
            cases hm : may d e tt (i + 1) with
            | true =>
              simp only [if_true]
              simp only [may] at hm
              refine ⟨_, ?_, hyes⟩
              simp (disch := omega) only [go_sem, ↓reduceIte, Nat.reduceBEq, Nat.reduceEqDiff, Nat.reduceLT, Nat.reduceLeDiff, Nat.reduceAdd, Nat.reduceMul, Nat.reduceSub, reduceCtorEq, Int.reduceLT, Int.reduceLE, Int.reduceEq, Int.reduceBEq, Int.reduceBNe, Int.reduceToNat, Int.reduceAdd, Int.reduceNeg, Int.reduceSub, hji, hji', hki, hoxt, eDc, RS.v, a1, a2, a3, I_snoc, hne, h39, h43, hok, hm, eC_clean, hws]
            | false =>
              simp only [Bool.false_eq_true, if_false]
              simp only [may] at hm
              refine ⟨⟨jtg, jz, jxs, jt⟩, ?_, hrj, hoj⟩
              simp (disch := omega) only [go_sem, ↓reduceIte, Nat.reduceBEq, Nat.reduceEqDiff, Nat.reduceLT, Nat.reduceLeDiff, Nat.reduceAdd, Nat.reduceMul, Nat.reduceSub, reduceCtorEq, Int.reduceLT, Int.reduceLE, Int.reduceEq, Int.reduceBEq, Int.reduceBNe, Int.reduceToNat, Int.reduceAdd, Int.reduceNeg, Int.reduceSub, hji, hji', hki, hoxt, eDc, RS.v, I_snoc, hne, h39, h43, hok, hm, eC_clean, hws]
        · intro s hR
          have e1 : (d.cards.length : Int) + 1 - 1 = d.cards.length := by omega
          simp only [go_sem, ↓reduceIte, Nat.reduceBEq, Nat.reduceEqDiff, Nat.reduceLT, Nat.reduceLeDiff, Nat.reduceAdd, Nat.reduceMul, Nat.reduceSub, reduceCtorEq, Int.reduceLT, Int.reduceLE, Int.reduceEq, Int.reduceBEq, Int.reduceBNe, Int.reduceToNat, Int.reduceAdd, Int.reduceNeg, Int.reduceSub, RS.v, eDc, e1]
        · intro s h1 hR
          subst h1
          exact ⟨s, by simp (disch := omega) only [go_sem, ↓reduceIte, Nat.reduceBEq, Nat.reduceEqDiff, Nat.reduceLT, Nat.reduceLeDiff, Nat.reduceAdd, Nat.reduceMul, Nat.reduceSub, reduceCtorEq, Int.reduceLT, Int.reduceLE, Int.reduceEq, Int.reduceBEq, Int.reduceBNe, Int.reduceToNat, Int.reduceAdd, Int.reduceNeg, Int.reduceSub, RS.v, eDc, wrap_i64], hR⟩
      · intro s hR
        simp only [go_sem, ↓reduceIte, Nat.reduceBEq, Nat.reduceEqDiff, Nat.reduceLT, Nat.reduceLeDiff, Nat.reduceAdd, Nat.reduceMul, Nat.reduceSub, reduceCtorEq, Int.reduceLT, Int.reduceLE, Int.reduceEq, Int.reduceBEq, Int.reduceBNe, Int.reduceToNat, Int.reduceAdd, Int.reduceNeg, Int.reduceSub, RS.v, eDc, hxl]
      · intro s h1 hR
        subst h1
        rw [List.take_length] at hR
        refine ⟨s, by simp (disch := omega) only [go_sem, ↓reduceIte, Nat.reduceBEq, Nat.reduceEqDiff, Nat.reduceLT, Nat.reduceLeDiff, Nat.reduceAdd, Nat.reduceMul, Nat.reduceSub, reduceCtorEq, Int.reduceLT, Int.reduceLE, Int.reduceEq, Int.reduceBEq, Int.reduceBNe, Int.reduceToNat, Int.reduceAdd, Int.reduceNeg, Int.reduceSub, RS.v, eDc, wrap_i64], hR.1, ?_⟩
        rcases hR.2 with ⟨_, h0⟩ | ⟨_, _, h0, _⟩
        · rw [hR.1.1] at h0
          exact absurd (List.eq_nil_of_length_eq_zero h0) (truthsL_ne d (e + 1))
        · exact h0
    · intro s hR
      simp only [go_sem, ↓reduceIte, Nat.reduceBEq, Nat.reduceEqDiff, Nat.reduceLT, Nat.reduceLeDiff, Nat.reduceAdd, Nat.reduceMul, Nat.reduceSub, reduceCtorEq, Int.reduceLT, Int.reduceLE, Int.reduceEq, Int.reduceBEq, Int.reduceBNe, Int.reduceToNat, Int.reduceAdd, Int.reduceNeg, Int.reduceSub, RS.v, eDc]
    · intro s h1 hR
      subst h1
      have hun := hR.1.under 0
      exact ⟨s, hR.1, hR.2, ⟨[], s.t⟩, by simp only [go_sem, ↓reduceIte, Nat.reduceBEq, Nat.reduceEqDiff, Nat.reduceLT, Nat.reduceLeDiff, Nat.reduceAdd, Nat.reduceMul, Nat.reduceSub, reduceCtorEq, Int.reduceLT, Int.reduceLE, Int.reduceEq, Int.reduceBEq, Int.reduceBNe, Int.reduceToNat, Int.reduceAdd, Int.reduceNeg, Int.reduceSub, RS.v, hun]⟩
  obtain ⟨s, hrow, hz, h1, hcall⟩ := key
  obtain ⟨ys, hys, hr2, hc2⟩ := hrow.clean
  refine ⟨ys, hr2, hc2, fun h => pure_of hcall ?_⟩
  simp only [RS.v, go_sem, ↓reduceIte, Nat.reduceBEq, Nat.reduceEqDiff, Nat.reduceLT, Nat.reduceLeDiff, Nat.reduceAdd, Nat.reduceMul, Nat.reduceSub, reduceCtorEq, Int.reduceLT, Int.reduceLE, Int.reduceEq, Int.reduceBEq, Int.reduceBNe, Int.reduceToNat, Int.reduceAdd, Int.reduceNeg, Int.reduceSub, hys, hz]
end Go.Proofs.Ytbfodfepgefloaa
end
section
namespace Go.Proofs.Ytbfodfepgefloaa
open Go.Proofs

theorem Rows.snoc' {xs : List AV} {ts : List (List Int)} (h : Rows xs ts) (tg z : Nat) (t : List Int) (hz : t ≠ [] → z = 1) : Rows (xs ++ [.lst tg z (I t)]) (ts ++ [t]) := by
  refine ⟨by simp [h.1], fun i u hu => ?_⟩
  rw [List.getElem?_append] at hu
  split at hu
  · obtain ⟨a, z, h1, h2⟩ := h.2 i u hu
    exact ⟨a, z, old h1 _, h2⟩
  · rename_i hi
    have : i = ts.length := by
      by_cases e : i - ts.length = 0
      · omega
      · rw [List.getElem?_eq_none (by simp; omega)] at hu; cases hu
    subst this
    simp at hu; subst hu
    refine ⟨tg, z, ?_, hz⟩
    rw [← h.1]; simp

/-- How many halves are forged in a truth. -/
def lostN (t : List Int) : Nat := (lostL t t.length).length
def leastN (l : List (List Int)) (m : Nat) : Nat := l.foldl (fun m t => min m (lostN t)) m
theorem leastN_succ (m : Nat) {l : List (List Int)} {k : Nat} {t : List Int} (h : l[k]? = some t) : leastN (l.take (k + 1)) m = min (leastN (l.take k) m) (lostN t) := by
  unfold leastN; rw [List.take_add_one, h, List.foldl_append]; rfl
theorem leastN_le (l : List (List Int)) : ∀ m, leastN l m ≤ m ∧ ∀ t ∈ l, leastN l m ≤ lostN t := by
  induction l with
  | nil => intro m; exact ⟨Nat.le_refl _, fun t h => by cases h⟩
  | cons u l ih =>
    intro m
    have := ih (min m (lostN u))
    have e : leastN (u :: l) m = leastN l (min m (lostN u)) := rfl
    rw [e]
    refine ⟨by omega, fun t ht => ?_⟩
    rcases List.mem_cons.1 ht with h | h
    · subst h; omega
    · exact this.2 t h
theorem leastN_mem (l : List (List Int)) : ∀ m, (∀ t ∈ l, lostN t ≤ m) → l ≠ [] → ∃ t ∈ l, lostN t = leastN l m := by
  induction l with
  | nil => intro m _ h; exact absurd rfl h
  | cons u l ih =>
    intro m hm _
    have e : leastN (u :: l) m = leastN l (min m (lostN u)) := rfl
    have hu := hm u (by simp)
    have e2 : min m (lostN u) = lostN u := by omega
    rw [e, e2]
    by_cases hl : l = []
    · subst hl; exact ⟨u, by simp, rfl⟩
    · by_cases hall : ∀ t ∈ l, lostN t ≤ lostN u
      · obtain ⟨t, ht, h⟩ := ih _ hall hl
        exact ⟨t, by simp [ht], h⟩
      · by_cases hs : leastN l (lostN u) = lostN u
        · exact ⟨u, by simp, hs.symm⟩
        · have h1 := (leastN_le l (lostN u)).1
          have : ∀ (l : List (List Int)) (m : Nat), leastN l m = m ∨ ∃ t ∈ l, lostN t = leastN l m := by
            intro l
            induction l with
            | nil => intro m; exact .inl rfl
            | cons v l ih2 =>
              intro m
              have e3 : leastN (v :: l) m = leastN l (min m (lostN v)) := rfl
              rw [e3]
              rcases ih2 (min m (lostN v)) with h | ⟨t, ht, h⟩
              · by_cases q : m ≤ lostN v
                · left; rw [h]; omega
                · right; exact ⟨v, by simp, by rw [h]; omega⟩
              · right; exact ⟨t, by simp [ht], h⟩
          rcases this l (lostN u) with h | ⟨t, ht, h⟩
          · exact absurd h hs
          · exact ⟨t, by simp [ht], h⟩
theorem lostN_le (t : List Int) : lostN t ≤ t.length := lostL_len t t.length
/-- All fair truths. -/
def fairL (d : Dr) : List (List Int) := (truthsL d d.halves.length).filter fun t => decide (lostN t = leastN (truthsL d d.halves.length) d.halves.length)
theorem fairL_ne (d : Dr) : fairL d ≠ [] := by
  obtain ⟨t, ht, h⟩ := leastN_mem (truthsL d d.halves.length) d.halves.length (fun t ht => by have := lostN_le t; have := truthsL_mem d _ t ht; omega) (truthsL_ne d _)
  intro h0
  have : t ∈ fairL d := List.mem_filter.2 ⟨ht, by simpa using h⟩
  rw [h0] at this; cases this

theorem c40 (d : Dr) (hd : d.fits) (ho : d.Ok) : ∃ ys, Rows ys (fairL d) ∧ cleanL ys = some ys ∧ ∀ h, callPure (EW tabX) 40 [eD d] h = some (.lst 0 1 ys, h) := by
  have hc4 := ho.c4
  have hh4 := ho.h4
  have hcl := eD_clean d
  obtain ⟨xs, hrow, hxc, h44⟩ := c44 d hd ho
  have hxl := hrow.1
  have hlen := truthsL_len d hc4 d.halves.length
  have hp : 5 ^ d.halves.length ≤ 625 := by
    have : 5 ^ d.halves.length ≤ 5 ^ 4 := Nat.pow_le_pow_right (by omega) (by omega)
    omega
  have hmem := truthsL_mem d d.halves.length
  have hne := fairL_ne d
  unfold fairL at hne ⊢
  generalize truthsL d d.halves.length = all at hrow hxl hlen hmem hne ⊢
  have key : ∃ s : RS, Rows s.xs (all.filter fun t => decide (lostN t = leastN all d.halves.length)) ∧ s.z = 1 ∧ ∃ h1, (EW tabX).call 40 [eD d] ⟨[], []⟩ = some (s.v, h1) := by
    rw [w_call _ fn_40 rfl]
    simp only [go_sem, ↓reduceIte, Nat.reduceBEq, Nat.reduceEqDiff, Nat.reduceLT, Nat.reduceLeDiff, Nat.reduceAdd, Nat.reduceMul, Nat.reduceSub, reduceCtorEq, Int.reduceLT, Int.reduceLE, Int.reduceEq, Int.reduceBEq, Int.reduceBNe, Int.reduceToNat, Int.reduceAdd, Int.reduceNeg, Int.reduceSub, eD, eDc, eC_under] at h44 hcl ⊢
    simp only [go_sem, ↓reduceIte, Nat.reduceBEq, Nat.reduceEqDiff, Nat.reduceLT, Nat.reduceLeDiff, Nat.reduceAdd, Nat.reduceMul, Nat.reduceSub, reduceCtorEq, Int.reduceLT, Int.reduceLE, Int.reduceEq, Int.reduceBEq, Int.reduceBNe, Int.reduceToNat, Int.reduceAdd, Int.reduceNeg, Int.reduceSub, eC_clean, h44]
    have elt : ∀ k, k < all.length → ∃ t tg z, all[k]? = some t ∧ xs[k]? = some (.lst tg z (I t)) ∧ (t ≠ [] → z = 1) ∧ t.length < 900 ∧ (k : Int) < xs.length := fun k hk => by
      have hx := List.getElem?_eq_getElem hk
      obtain ⟨tg, z, h1, h2⟩ := hrow.2 k _ hx
      have := hmem _ (List.getElem_mem hk)
      exact ⟨_, tg, z, hx, h1, h2, by omega, by omega⟩
    rw [w_rounds_u (fun k => [(4, .int .i64 (leastN (all.take k) d.halves.length)), (5, .int .i64 k)]) all.length (.exit 0) [(4, .int .i64 (leastN all d.halves.length)), (5, .int .i64 all.length)] ?_ ?_ ?_ rfl]
    rotate_left
    · simp only [go_sem, ↓reduceIte, Nat.reduceBEq, Nat.reduceEqDiff, Nat.reduceLT, Nat.reduceLeDiff, Nat.reduceAdd, Nat.reduceMul, Nat.reduceSub, reduceCtorEq, Int.reduceLT, Int.reduceLE, Int.reduceEq, Int.reduceBEq, Int.reduceBNe, Int.reduceToNat, Int.reduceAdd, Int.reduceNeg, Int.reduceSub, leastN, List.foldl_nil]
    · intro k hk
      obtain ⟨t, tg, z, h1, h2, h3, h4, h5⟩ := elt k hk
      have h45 := c45 t z h3 h4
      have hmin : (if ((lostN t : Nat) : Int) < leastN (all.take k) d.halves.length then ((lostN t : Nat) : Int) else leastN (all.take k) d.halves.length) = ((leastN (all.take (k + 1)) d.halves.length : Nat) : Int) := by
        rw [leastN_succ _ h1]; split <;> omega
      have hln : ((lostL t t.length).length : Int) = lostN t := rfl
      simp (disch := omega) only [go_sem, ↓reduceIte, Nat.reduceBEq, Nat.reduceEqDiff, Nat.reduceLT, Nat.reduceLeDiff, Nat.reduceAdd, Nat.reduceMul, Nat.reduceSub, reduceCtorEq, Int.reduceLT, Int.reduceLE, Int.reduceEq, Int.reduceBEq, Int.reduceBNe, Int.reduceToNat, Int.reduceAdd, Int.reduceNeg, Int.reduceSub, h2, h5, h45, vI, hln, hmin, wrap_i64]
    · simp only [go_sem, ↓reduceIte, Nat.reduceBEq, Nat.reduceEqDiff, Nat.reduceLT, Nat.reduceLeDiff, Nat.reduceAdd, Nat.reduceMul, Nat.reduceSub, reduceCtorEq, Int.reduceLT, Int.reduceLE, Int.reduceEq, Int.reduceBEq, Int.reduceBNe, Int.reduceToNat, Int.reduceAdd, Int.reduceNeg, Int.reduceSub, hxl]
    simp only [go_sem, ↓reduceIte, Nat.reduceBEq, Nat.reduceEqDiff, Nat.reduceLT, Nat.reduceLeDiff, Nat.reduceAdd, Nat.reduceMul, Nat.reduceSub, reduceCtorEq, Int.reduceLT, Int.reduceLE, Int.reduceEq, Int.reduceBEq, Int.reduceBNe, Int.reduceToNat, Int.reduceAdd, Int.reduceNeg, Int.reduceSub]
    generalize hx : (EW tabX).code 40 none (Code.loop _) _ = x
    refine w_rounds_sk hx (fun k (s : RS) => [(6, s.v), (7, .int .i64 k)]) (fun s => ⟨[.cells (eDc d)], s.t⟩) (fun k s => s.is ((all.take k).filter fun t => decide (lostN t = leastN all d.halves.length))) all.length (.exit 2) (fun s => [(6, s.v), (7, .int .i64 all.length)]) rfl ⟨1, 0, [], []⟩ ?_ ?_ ?_ ?_ ?_ ?_
    · simp only [go_sem, ↓reduceIte, Nat.reduceBEq, Nat.reduceEqDiff, Nat.reduceLT, Nat.reduceLeDiff, Nat.reduceAdd, Nat.reduceMul, Nat.reduceSub, reduceCtorEq, Int.reduceLT, Int.reduceLE, Int.reduceEq, Int.reduceBEq, Int.reduceBNe, Int.reduceToNat, Int.reduceAdd, Int.reduceNeg, Int.reduceSub, RS.v]
    · simp only [eDc]
    · exact ⟨⟨rfl, fun i t hi => by simp at hi⟩, .inl ⟨rfl, rfl⟩⟩
    · intro k s hk hR
      obtain ⟨stg, sz, sxs, st⟩ := s
      obtain ⟨hr1, hr2⟩ := hR
      simp only at hr1 hr2
      obtain ⟨t, tg, z, h1, h2, h3, h4, h5⟩ := elt k hk
      have h45 := c45 t z h3 h4
      have hln : ((lostL t t.length).length : Int) = lostN t := rfl
      have hsl : sxs.length ≤ 625 := by
        rw [hr1.1]
        have := List.length_filter_le (fun t => decide (lostN t = leastN all d.halves.length)) (all.take k)
        rw [List.length_take] at this
        omega
      have hfil : (all.take (k + 1)).filter (fun t => decide (lostN t = leastN all d.halves.length)) = if decide (lostN t = leastN all d.halves.length) = true then (all.take k).filter (fun t => decide (lostN t = leastN all d.halves.length)) ++ [t] else (all.take k).filter (fun t => decide (lostN t = leastN all d.halves.length)) := by
        rw [List.take_add_one, h1, Option.toList_some, List.filter_append]
        have e : List.filter (fun t => decide (lostN t = leastN all d.halves.length)) [t] = if decide (lostN t = leastN all d.halves.length) = true then [t] else [] := by simp only [List.filter_cons, List.filter_nil]
        rw [e]; split <;> simp
      rw [hfil]
      obtain ⟨t2, a1, b1, c1, d1⟩ := app_gen (X := tabX) (ty := 55) (e := 29) (sz := 1) hr2 1 1 [.lst tg z (I t)] (by simp only [go_sem, ↓reduceIte, Nat.reduceBEq, Nat.reduceEqDiff, Nat.reduceLT, Nat.reduceLeDiff, Nat.reduceAdd, Nat.reduceMul, Nat.reduceSub, reduceCtorEq, Int.reduceLT, Int.reduceLE, Int.reduceEq, Int.reduceBEq, Int.reduceBNe, Int.reduceToNat, Int.reduceAdd, Int.reduceNeg, Int.reduceSub]) (by simp only [go_sem, ↓reduceIte, Nat.reduceBEq, Nat.reduceEqDiff, Nat.reduceLT, Nat.reduceLeDiff, Nat.reduceAdd, Nat.reduceMul, Nat.reduceSub, reduceCtorEq, Int.reduceLT, Int.reduceLE, Int.reduceEq, Int.reduceBEq, Int.reduceBNe, Int.reduceToNat, Int.reduceAdd, Int.reduceNeg, Int.reduceSub]) (by omega) (.inl rfl) (by simp only [go_sem, ↓reduceIte, Nat.reduceBEq, Nat.reduceEqDiff, Nat.reduceLT, Nat.reduceLeDiff, Nat.reduceAdd, Nat.reduceMul, Nat.reduceSub, reduceCtorEq, Int.reduceLT, Int.reduceLE, Int.reduceEq, Int.reduceBEq, Int.reduceBNe, Int.reduceToNat, Int.reduceAdd, Int.reduceNeg, Int.reduceSub]; omega) (by simp only [go_sem, ↓reduceIte, Nat.reduceBEq, Nat.reduceEqDiff, Nat.reduceLT, Nat.reduceLeDiff, Nat.reduceAdd, Nat.reduceMul, Nat.reduceSub, reduceCtorEq, Int.reduceLT, Int.reduceLE, Int.reduceEq, Int.reduceBEq, Int.reduceBNe, Int.reduceToNat, Int.reduceAdd, Int.reduceNeg, Int.reduceSub]; omega) (by simp only [go_sem, ↓reduceIte, Nat.reduceBEq, Nat.reduceEqDiff, Nat.reduceLT, Nat.reduceLeDiff, Nat.reduceAdd, Nat.reduceMul, Nat.reduceSub, reduceCtorEq, Int.reduceLT, Int.reduceLE, Int.reduceEq, Int.reduceBEq, Int.reduceBNe, Int.reduceToNat, Int.reduceAdd, Int.reduceNeg, Int.reduceSub]) (by simp only [go_sem, ↓reduceIte, Nat.reduceBEq, Nat.reduceEqDiff, Nat.reduceLT, Nat.reduceLeDiff, Nat.reduceAdd, Nat.reduceMul, Nat.reduceSub, reduceCtorEq, Int.reduceLT, Int.reduceLE, Int.reduceEq, Int.reduceBEq, Int.reduceBNe, Int.reduceToNat, Int.reduceAdd, Int.reduceNeg, Int.reduceSub])
      by_cases he : lostN t = leastN all d.halves.length
      · rw [if_pos (by simpa using he)]
        have he' : ((lostN t : Int) == leastN all d.halves.length) = true := by simp [he]
        refine ⟨⟨st.length + 2, 1, sxs ++ [.lst tg z (I t)], t2⟩, ?_, hr1.snoc' tg z t h3, .inr ⟨st.length, rfl, rfl, c1⟩⟩
        simp (disch := omega) only [go_sem, ↓reduceIte, Nat.reduceBEq, Nat.reduceEqDiff, Nat.reduceLT, Nat.reduceLeDiff, Nat.reduceAdd, Nat.reduceMul, Nat.reduceSub, reduceCtorEq, Int.reduceLT, Int.reduceLE, Int.reduceEq, Int.reduceBEq, Int.reduceBNe, Int.reduceToNat, Int.reduceAdd, Int.reduceNeg, Int.reduceSub, RS.v, eDc, h2, h5, h45, vI, hln, he', a1, wrap_i64]
      · rw [if_neg (by simpa using he)]
        have he' : ((lostN t : Int) == leastN all d.halves.length) = false := by simp; omega
        refine ⟨⟨stg, sz, sxs, st⟩, ?_, hr1, hr2⟩
        simp (disch := omega) only [go_sem, ↓reduceIte, Nat.reduceBEq, Nat.reduceEqDiff, Nat.reduceLT, Nat.reduceLeDiff, Nat.reduceAdd, Nat.reduceMul, Nat.reduceSub, reduceCtorEq, Int.reduceLT, Int.reduceLE, Int.reduceEq, Int.reduceBEq, Int.reduceBNe, Int.reduceToNat, Int.reduceAdd, Int.reduceNeg, Int.reduceSub, RS.v, eDc, h2, h5, h45, vI, hln, he', wrap_i64]
    · intro s hR
      simp only [go_sem, ↓reduceIte, Nat.reduceBEq, Nat.reduceEqDiff, Nat.reduceLT, Nat.reduceLeDiff, Nat.reduceAdd, Nat.reduceMul, Nat.reduceSub, reduceCtorEq, Int.reduceLT, Int.reduceLE, Int.reduceEq, Int.reduceBEq, Int.reduceBNe, Int.reduceToNat, Int.reduceAdd, Int.reduceNeg, Int.reduceSub, RS.v, eDc, hxl]
    · intro s h1 hR
      subst h1
      rw [List.take_length] at hR
      have hun := hR.1.under 0
      have hz : s.z = 1 := by
        rcases hR.2 with ⟨_, h0⟩ | ⟨_, _, h0, _⟩
        · rw [hR.1.1] at h0
          exact absurd (List.eq_nil_of_length_eq_zero h0) hne
        · exact h0
      exact ⟨s, hR.1, hz, ⟨[], s.t⟩, by simp only [go_sem, ↓reduceIte, Nat.reduceBEq, Nat.reduceEqDiff, Nat.reduceLT, Nat.reduceLeDiff, Nat.reduceAdd, Nat.reduceMul, Nat.reduceSub, reduceCtorEq, Int.reduceLT, Int.reduceLE, Int.reduceEq, Int.reduceBEq, Int.reduceBNe, Int.reduceToNat, Int.reduceAdd, Int.reduceNeg, Int.reduceSub, RS.v, hun]⟩
  obtain ⟨s, hrow, hz, h1, hcall⟩ := key
  obtain ⟨ys, hys, hr2, hc2⟩ := hrow.clean
  refine ⟨ys, hr2, hc2, fun h => pure_of hcall ?_⟩
  simp only [RS.v, go_sem, ↓reduceIte, Nat.reduceBEq, Nat.reduceEqDiff, Nat.reduceLT, Nat.reduceLeDiff, Nat.reduceAdd, Nat.reduceMul, Nat.reduceSub, reduceCtorEq, Int.reduceLT, Int.reduceLE, Int.reduceEq, Int.reduceBEq, Int.reduceBNe, Int.reduceToNat, Int.reduceAdd, Int.reduceNeg, Int.reduceSub, hys, hz]
end Go.Proofs.Ytbfodfepgefloaa
end
section
namespace Go.Proofs.Ytbfodfepgefloaa
open Go.Proofs

/-- The list of forged halves. -/
def lostT (t : List Int) : List Int := lostL t t.length
/-- The first fair truth. -/
def first (d : Dr) : List Int := (fairL d).headD []
theorem fairL_mem {d : Dr} {t : List Int} (h : t ∈ fairL d) : t ∈ truthsL d d.halves.length ∧ t.length = d.halves.length := by
  have := (List.mem_filter.1 h).1
  exact ⟨this, truthsL_mem d _ t this⟩
theorem fairL_zero (d : Dr) : (fairL d)[0]? = some (first d) := by
  unfold first
  cases h : fairL d with
  | nil => exact absurd h (fairL_ne d)
  | cons t l => rfl
theorem first_mem (d : Dr) : first d ∈ fairL d := List.mem_of_getElem? (fairL_zero d)
theorem fairL_len (d : Dr) (ho : d.Ok) : (fairL d).length ≤ 625 := by
  have a := truthsL_len d ho.c4 d.halves.length
  have b : (fairL d).length ≤ (truthsL d d.halves.length).length := List.length_filter_le _ _
  have c : 5 ^ d.halves.length ≤ 5 ^ 4 := Nat.pow_le_pow_right (by omega) ho.h4
  omega
theorem tup3_0 : tup3 (0, 0, 0) = .tup [.int .i64 0, .int .i64 0, .int .i64 0] := rfl

theorem c23_no (d : Dr) (hd : d.fits) (he : (checkT d).2.2 ≠ 0) (h : Heap) : callPure (EW tabX) 23 [eD d] h = some (.tup [vI [], .int .i64 0, .int .i64 (checkT d).2.2], h) := by
  have h17 := c17 d hd
  have hcl := eD_clean d
  have hne : ((checkT d).2.2 != 0) = true := by simpa using he
  rw [callPure_eq, w_call _ fn_23 rfl]
  simp only [go_sem, ↓reduceIte, Nat.reduceBEq, Nat.reduceEqDiff, Nat.reduceLT, Nat.reduceLeDiff, Nat.reduceAdd, Nat.reduceMul, Nat.reduceSub, reduceCtorEq, Int.reduceLT, Int.reduceLE, Int.reduceEq, Int.reduceBEq, Int.reduceBNe, Int.reduceToNat, Int.reduceAdd, Int.reduceNeg, Int.reduceSub, eD, eDc, eC_under, tup3] at hcl h17 ⊢
  simp only [go_sem, ↓reduceIte, Nat.reduceBEq, Nat.reduceEqDiff, Nat.reduceLT, Nat.reduceLeDiff, Nat.reduceAdd, Nat.reduceMul, Nat.reduceSub, reduceCtorEq, Int.reduceLT, Int.reduceLE, Int.reduceEq, Int.reduceBEq, Int.reduceBNe, Int.reduceToNat, Int.reduceAdd, Int.reduceNeg, Int.reduceSub, eC_clean, h17, hne, vI_nil]
theorem c23_yes (d : Dr) (hd : d.fits) (he : (checkT d).2.2 = 0) : ∃ z, (first d ≠ [] → z = 1) ∧ ∀ h, callPure (EW tabX) 23 [eD d] h = some (.tup [.lst 0 z (I (first d)), .int .i64 (lostN (first d)), .int .i64 0], h) := by
  obtain ⟨ho, hk⟩ := ok_of_check he
  have h17 := c17 d hd
  rw [hk] at h17
  have hcl := eD_clean d
  obtain ⟨ys, hrow, hyc, h40⟩ := c40 d hd ho
  obtain ⟨tg, z, h1, h2⟩ := hrow.2 0 _ (fairL_zero d)
  have hcl0 : tg = 0 := by
    cases ys with
    | nil => cases h1
    | cons y ys =>
      simp at h1; subst h1
      simp only [go_sem, ↓reduceIte, Nat.reduceBEq, Nat.reduceEqDiff, Nat.reduceLT, Nat.reduceLeDiff, Nat.reduceAdd, Nat.reduceMul, Nat.reduceSub, reduceCtorEq, Int.reduceLT, Int.reduceLE, Int.reduceEq, Int.reduceBEq, Int.reduceBNe, Int.reduceToNat, Int.reduceAdd, Int.reduceNeg, Int.reduceSub] at hyc
      cases hc : cleanL ys with
      | none => rw [hc] at hyc; simp only [go_sem, ↓reduceIte, Nat.reduceBEq, Nat.reduceEqDiff, Nat.reduceLT, Nat.reduceLeDiff, Nat.reduceAdd, Nat.reduceMul, Nat.reduceSub, reduceCtorEq, Int.reduceLT, Int.reduceLE, Int.reduceEq, Int.reduceBEq, Int.reduceBNe, Int.reduceToNat, Int.reduceAdd, Int.reduceNeg, Int.reduceSub] at hyc
      | some zs => rw [hc] at hyc; simp only [go_sem, ↓reduceIte, Nat.reduceBEq, Nat.reduceEqDiff, Nat.reduceLT, Nat.reduceLeDiff, Nat.reduceAdd, Nat.reduceMul, Nat.reduceSub, reduceCtorEq, Int.reduceLT, Int.reduceLE, Int.reduceEq, Int.reduceBEq, Int.reduceBNe, Int.reduceToNat, Int.reduceAdd, Int.reduceNeg, Int.reduceSub] at hyc; simp at hyc; exact hyc.1.symm
  subst hcl0
  have hl := (fairL_mem (first_mem d)).2
  have := ho.h4
  have h45 := c45 (first d) z h2 (by omega)
  have hln : ((lostL (first d) (first d).length).length : Int) = lostN (first d) := rfl
  refine ⟨z, h2, fun h => ?_⟩
  rw [callPure_eq, w_call _ fn_23 rfl]
  simp only [go_sem, ↓reduceIte, Nat.reduceBEq, Nat.reduceEqDiff, Nat.reduceLT, Nat.reduceLeDiff, Nat.reduceAdd, Nat.reduceMul, Nat.reduceSub, reduceCtorEq, Int.reduceLT, Int.reduceLE, Int.reduceEq, Int.reduceBEq, Int.reduceBNe, Int.reduceToNat, Int.reduceAdd, Int.reduceNeg, Int.reduceSub, eD, eDc, eC_under, tup3_0] at hcl h17 h40 ⊢
  simp only [go_sem, ↓reduceIte, Nat.reduceBEq, Nat.reduceEqDiff, Nat.reduceLT, Nat.reduceLeDiff, Nat.reduceAdd, Nat.reduceMul, Nat.reduceSub, reduceCtorEq, Int.reduceLT, Int.reduceLE, Int.reduceEq, Int.reduceBEq, Int.reduceBNe, Int.reduceToNat, Int.reduceAdd, Int.reduceNeg, Int.reduceSub, eC_clean, h17, h40, h1, h45, vI, hln]

/-- The first list of forged halves among some. -/
def bestL (b : List Int) (l : List (List Int)) : List Int := l.foldl (fun b t => if ltB (lostT t) b then lostT t else b) b
theorem bestL_succ (b : List Int) {l : List (List Int)} {k : Nat} {t : List Int} (h : l[k]? = some t) : bestL b (l.take (k + 1)) = if ltB (lostT t) (bestL b (l.take k)) then lostT t else bestL b (l.take k) := by
  unfold bestL; rw [List.take_add_one, h, List.foldl_append]; rfl
theorem bestL_len (n : Nat) : ∀ (l : List (List Int)) (b : List Int), b.length ≤ n → (∀ t ∈ l, t.length ≤ n) → (bestL b l).length ≤ n
  | [], b, hb, _ => hb
  | t :: l, b, hb, h => by
    have e : bestL b (t :: l) = bestL (if ltB (lostT t) b then lostT t else b) l := rfl
    rw [e]
    refine bestL_len n l _ ?_ fun u hu => h u (by simp [hu])
    split
    · have := lostN_le t; have := h t (by simp); unfold lostN at *; unfold lostT; omega
    · exact hb
def forged (d : Dr) : List Int := bestL (lostT (first d)) ((fairL d).drop 1)
theorem zT_ne {l : List Int} (h : l ≠ []) : zT 1 l.length = 1 := zT_pos (List.length_pos_iff.2 h)

theorem c25_no (d : Dr) (hd : d.fits) (he : (checkT d).2.2 ≠ 0) (h : Heap) : callPure (EW tabX) 25 [eD d] h = some (.tup [vI [], .int .i64 (checkT d).2.2], h) := by
  have h17 := c17 d hd
  have hcl := eD_clean d
  have hne : ((checkT d).2.2 != 0) = true := by simpa using he
  rw [callPure_eq, w_call _ fn_25 rfl]
  simp only [go_sem, ↓reduceIte, Nat.reduceBEq, Nat.reduceEqDiff, Nat.reduceLT, Nat.reduceLeDiff, Nat.reduceAdd, Nat.reduceMul, Nat.reduceSub, reduceCtorEq, Int.reduceLT, Int.reduceLE, Int.reduceEq, Int.reduceBEq, Int.reduceBNe, Int.reduceToNat, Int.reduceAdd, Int.reduceNeg, Int.reduceSub, eD, eDc, eC_under, tup3] at hcl h17 ⊢
  simp only [go_sem, ↓reduceIte, Nat.reduceBEq, Nat.reduceEqDiff, Nat.reduceLT, Nat.reduceLeDiff, Nat.reduceAdd, Nat.reduceMul, Nat.reduceSub, reduceCtorEq, Int.reduceLT, Int.reduceLE, Int.reduceEq, Int.reduceBEq, Int.reduceBNe, Int.reduceToNat, Int.reduceAdd, Int.reduceNeg, Int.reduceSub, eC_clean, h17, hne, vI_nil]
theorem c25_yes (d : Dr) (hd : d.fits) (he : (checkT d).2.2 = 0) (h : Heap) : callPure (EW tabX) 25 [eD d] h = some (.tup [vI (forged d), .int .i64 0], h) := by
  obtain ⟨ho, hk⟩ := ok_of_check he
  have h17 := c17 d hd
  rw [hk] at h17
  have hcl := eD_clean d
  obtain ⟨ys, hrow, hyc, h40⟩ := c40 d hd ho
  have h4 := ho.h4
  have hfl := fairL_len d ho
  have hpos : 0 < (fairL d).length := List.length_pos_iff.2 (fairL_ne d)
  have elt : ∀ k, k < (fairL d).length → ∃ t tg z, (fairL d)[k]? = some t ∧ ys[k]? = some (.lst tg z (I t)) ∧ (t ≠ [] → z = 1) ∧ t.length < 900 ∧ t.length ≤ 4 ∧ (k : Int) < ys.length := fun k hk => by
    have hx := List.getElem?_eq_getElem hk
    obtain ⟨tg, z, h1, h2⟩ := hrow.2 k _ hx
    have := (fairL_mem (List.getElem_mem hk)).2
    have := hrow.1
    exact ⟨_, tg, z, hx, h1, h2, by omega, by omega, by omega⟩
  obtain ⟨t0, tg, z, e1, e2, e3, e4, e5, e6⟩ := elt 0 hpos
  have e0 : t0 = first d := by rw [fairL_zero] at e1; exact (Option.some.inj e1).symm
  subst e0
  have h45 := c45 (first d) z e3 e4
  rw [callPure_eq, w_call _ fn_25 rfl]
  simp only [go_sem, ↓reduceIte, Nat.reduceBEq, Nat.reduceEqDiff, Nat.reduceLT, Nat.reduceLeDiff, Nat.reduceAdd, Nat.reduceMul, Nat.reduceSub, reduceCtorEq, Int.reduceLT, Int.reduceLE, Int.reduceEq, Int.reduceBEq, Int.reduceBNe, Int.reduceToNat, Int.reduceAdd, Int.reduceNeg, Int.reduceSub, eD, eDc, eC_under, tup3_0] at hcl h17 h40 ⊢
  simp only [go_sem, ↓reduceIte, Nat.reduceBEq, Nat.reduceEqDiff, Nat.reduceLT, Nat.reduceLeDiff, Nat.reduceAdd, Nat.reduceMul, Nat.reduceSub, reduceCtorEq, Int.reduceLT, Int.reduceLE, Int.reduceEq, Int.reduceBEq, Int.reduceBNe, Int.reduceToNat, Int.reduceAdd, Int.reduceNeg, Int.reduceSub, eC_clean, h17, h40, e2, h45]
  have hdl : ((fairL d).drop 1).length = (fairL d).length - 1 := List.length_drop
  have hb : ∀ k, (bestL (lostT (first d)) (((fairL d).drop 1).take k)).length ≤ 4 := fun k => bestL_len 4 _ _ (by have := lostN_le (first d); unfold lostN at this; unfold lostT; omega) fun t ht => by
    have := (fairL_mem (List.mem_of_mem_drop (List.mem_of_mem_take ht))).2; omega
  rw [w_rounds_u (fun k => [(8, vI (bestL (lostT (first d)) (((fairL d).drop 1).take k))), (9, .int .i64 ((k : Int) + 1))]) ((fairL d).length - 1) (.exit 0) [(8, vI (forged d)), (9, .int .i64 (fairL d).length)] ?_ ?_ ?_ rfl]
  · simp only [go_sem, ↓reduceIte, Nat.reduceBEq, Nat.reduceEqDiff, Nat.reduceLT, Nat.reduceLeDiff, Nat.reduceAdd, Nat.reduceMul, Nat.reduceSub, reduceCtorEq, Int.reduceLT, Int.reduceLE, Int.reduceEq, Int.reduceBEq, Int.reduceBNe, Int.reduceToNat, Int.reduceAdd, Int.reduceNeg, Int.reduceSub, vI_clean, vI_under]
  · simp only [go_sem, ↓reduceIte, Nat.reduceBEq, Nat.reduceEqDiff, Nat.reduceLT, Nat.reduceLeDiff, Nat.reduceAdd, Nat.reduceMul, Nat.reduceSub, reduceCtorEq, Int.reduceLT, Int.reduceLE, Int.reduceEq, Int.reduceBEq, Int.reduceBNe, Int.reduceToNat, Int.reduceAdd, Int.reduceNeg, Int.reduceSub, bestL, List.foldl_nil, lostT]
  · intro k hk
    obtain ⟨t, tg, z, f1, f2, f3, f4, f5, f6⟩ := elt (k + 1) (by omega)
    have f1' : ((fairL d).drop 1)[k]? = some t := by rw [List.getElem?_drop, Nat.add_comm]; exact f1
    have f6' : (k : Int) + 1 < ys.length := by omega
    have hidx : ((k : Int) + 1 < 0) = False := by simp; omega
    have htn : ((k : Int) + 1).toNat = k + 1 := by omega
    have h45 := c45 t z f3 f4
    have hbk := hb k
    have h46 := c46 (lostT t) (bestL (lostT (first d)) (((fairL d).drop 1).take k)) (zT 1 (lostT t).length) (zT 1 (bestL (lostT (first d)) (((fairL d).drop 1).take k)).length) zT_ne zT_ne (by have := lostN_le t; unfold lostN at this; unfold lostT; omega) (by omega)
    rw [bestL_succ _ f1']
    by_cases hlt : ltB (lostT t) (bestL (lostT (first d)) (((fairL d).drop 1).take k)) = true
    · rw [if_pos hlt]
      rw [hlt] at h46
      simp only [lostT, vI] at h46 h45 ⊢
      simp (disch := omega) only [go_sem, ↓reduceIte, Nat.reduceBEq, Nat.reduceEqDiff, Nat.reduceLT, Nat.reduceLeDiff, Nat.reduceAdd, Nat.reduceMul, Nat.reduceSub, reduceCtorEq, Int.reduceLT, Int.reduceLE, Int.reduceEq, Int.reduceBEq, Int.reduceBNe, Int.reduceToNat, Int.reduceAdd, Int.reduceNeg, Int.reduceSub, f2, f6', hidx, htn, h45, h46, wrap_i64]
    · rw [if_neg hlt]
      have hlf : ltB (lostT t) (bestL (lostT (first d)) (((fairL d).drop 1).take k)) = false := by simpa using hlt
      rw [hlf] at h46
      simp only [lostT, vI] at h46 h45 ⊢
      simp (disch := omega) only [go_sem, ↓reduceIte, Nat.reduceBEq, Nat.reduceEqDiff, Nat.reduceLT, Nat.reduceLeDiff, Nat.reduceAdd, Nat.reduceMul, Nat.reduceSub, reduceCtorEq, Int.reduceLT, Int.reduceLE, Int.reduceEq, Int.reduceBEq, Int.reduceBNe, Int.reduceToNat, Int.reduceAdd, Int.reduceNeg, Int.reduceSub, f2, f6', hidx, htn, h45, h46, wrap_i64]
  · have hyl := hrow.1
    have hfin : ((fairL d).drop 1).take ((fairL d).length - 1) = (fairL d).drop 1 := by rw [← hdl]; exact List.take_length
    have hni : ¬ ((((fairL d).length - 1 : Nat) : Int) + 1 < ys.length) := by omega
    have hnn : (((fairL d).length - 1 : Nat) : Int) + 1 = (fairL d).length := by omega
    simp only [go_sem, ↓reduceIte, Nat.reduceBEq, Nat.reduceEqDiff, Nat.reduceLT, Nat.reduceLeDiff, Nat.reduceAdd, Nat.reduceMul, Nat.reduceSub, reduceCtorEq, Int.reduceLT, Int.reduceLE, Int.reduceEq, Int.reduceBEq, Int.reduceBNe, Int.reduceToNat, Int.reduceAdd, Int.reduceNeg, Int.reduceSub, hfin, hni, hnn, forged, hyl]
end Go.Proofs.Ytbfodfepgefloaa
end
section
namespace Go.Proofs.Ytbfodfepgefloaa
open Go.Proofs

/-- The card that a half is of in some truths, if it is one. -/
def readV (c0 : Int) (e : Nat) (l : List (List Int)) : Int := if l.all (fun t => t.getD e 0 == c0) then c0 else -1
theorem readV_succ (c0 : Int) (e : Nat) {l : List (List Int)} {k : Nat} {t : List Int} (h : l[k]? = some t) : readV c0 e (l.take (k + 1)) = if (t.getD e 0 != readV c0 e (l.take k)) = true then -1 else readV c0 e (l.take k) := by
  unfold readV
  rw [all_succ _ h]
  cases h1 : (l.take k).all (fun t => t.getD e 0 == c0) with
  | true =>
    simp only [Bool.true_and, if_true]
    by_cases h2 : t.getD e 0 = c0
    · rw [h2]; simp
    · have h3 : (t.getD e 0 == c0) = false := by simpa using h2
      have h4 : (t.getD e 0 != c0) = true := by simpa using h2
      rw [h3, h4]; rfl
  | false =>
    simp only [Bool.false_and, Bool.false_eq_true, if_false]
    split <;> rfl
def cardV (d : Dr) (e : Nat) : Int := readV ((first d).getD e 0) e ((fairL d).drop 1)
/-- What is known of a row of the fair truths. -/
theorem fair_elt (d : Dr) {ys : List AV} (hrow : Rows ys (fairL d)) (ho : d.Ok) (k : Nat) (hk : k < (fairL d).length) :
    ∃ t tg, (fairL d)[k]? = some t ∧ t.length = d.halves.length ∧ (0 < d.halves.length → ys[k]? = some (.lst tg 1 (I t))) ∧ (k : Int) < ys.length := by
  have hx := List.getElem?_eq_getElem hk
  obtain ⟨tg, z, h1, h2⟩ := hrow.2 k _ hx
  have h3 := (fairL_mem (List.getElem_mem hk)).2
  have := hrow.1
  refine ⟨_, tg, hx, h3, fun hp => ?_, by omega⟩
  rw [h1, h2 (by intro e; rw [e] at h3; simp at h3; omega)]

theorem c29_no (d : Dr) (hd : d.fits) (e : Int) (he : askedE d e d.halves.length ≠ 0) (h : Heap) : callPure (EW tabX) 29 [eD d, .int .i64 e] h = some (.tup [.int .i64 0, .int .i64 (askedE d e d.halves.length)], h) := by
  have lh := hd.lh
  have h61 := c61 d hd e d.halves.length (by omega)
  have hcl := eD_clean d
  have hne : (askedE d e d.halves.length != 0) = true := by simpa using he
  rw [callPure_eq, w_call _ fn_29 rfl]
  simp only [go_sem, ↓reduceIte, Nat.reduceBEq, Nat.reduceEqDiff, Nat.reduceLT, Nat.reduceLeDiff, Nat.reduceAdd, Nat.reduceMul, Nat.reduceSub, reduceCtorEq, Int.reduceLT, Int.reduceLE, Int.reduceEq, Int.reduceBEq, Int.reduceBNe, Int.reduceToNat, Int.reduceAdd, Int.reduceNeg, Int.reduceSub, eD, eDc, eC_under] at hcl h61 ⊢
  simp only [go_sem, ↓reduceIte, Nat.reduceBEq, Nat.reduceEqDiff, Nat.reduceLT, Nat.reduceLeDiff, Nat.reduceAdd, Nat.reduceMul, Nat.reduceSub, reduceCtorEq, Int.reduceLT, Int.reduceLE, Int.reduceEq, Int.reduceBEq, Int.reduceBNe, Int.reduceToNat, Int.reduceAdd, Int.reduceNeg, Int.reduceSub, eC_clean, h61, hne]
theorem asked_yes {d : Dr} {n below : Int} (h : askedE d n below = 0) : (checkT d).2.2 = 0 ∧ 0 ≤ n ∧ n < below := by
  unfold askedE at h
  split at h
  · rename_i h0
    split at h
    · rename_i hr; simp [inR] at hr; exact ⟨h0, by omega, by omega⟩
    · cases h
  · rename_i h0; exact absurd h h0
theorem c29_yes (d : Dr) (hd : d.fits) (e : Nat) (he : askedE d e d.halves.length = 0) (h : Heap) : callPure (EW tabX) 29 [eD d, .int .i64 e] h = some (.tup [.int .i64 (if cardV d e = -1 then 0 else cardV d e), .int .i64 (if cardV d e = -1 then 9 else 0)], h) := by
  obtain ⟨hk, e0, e1⟩ := asked_yes he
  obtain ⟨ho, _⟩ := ok_of_check hk
  have lh := hd.lh
  have h61 := c61 d hd e d.halves.length (by omega)
  rw [he] at h61
  have hcl := eD_clean d
  obtain ⟨ys, hrow, hyc, h40⟩ := c40 d hd ho
  have hfl := fairL_len d ho
  have hyl := hrow.1
  have hpos : 0 < (fairL d).length := List.length_pos_iff.2 (fairL_ne d)
  have hdl : ((fairL d).drop 1).length = (fairL d).length - 1 := List.length_drop
  have hH : 0 < d.halves.length := by omega
  have heH : e < d.halves.length := by omega
  obtain ⟨t0, tg, f1, f2, f3, f4⟩ := fair_elt d hrow ho 0 hpos
  have e0' : t0 = first d := by rw [fairL_zero] at f1; exact (Option.some.inj f1).symm
  subst e0'
  have f3 := f3 hH
  have g0 : (first d)[e]? = some ((first d).getD e 0) := by
    rw [List.getD_eq_getElem?_getD, List.getElem?_eq_getElem (show e < (first d).length by omega)]; rfl
  rw [callPure_eq, w_call _ fn_29 rfl]
  simp only [go_sem, ↓reduceIte, Nat.reduceBEq, Nat.reduceEqDiff, Nat.reduceLT, Nat.reduceLeDiff, Nat.reduceAdd, Nat.reduceMul, Nat.reduceSub, reduceCtorEq, Int.reduceLT, Int.reduceLE, Int.reduceEq, Int.reduceBEq, Int.reduceBNe, Int.reduceToNat, Int.reduceAdd, Int.reduceNeg, Int.reduceSub, eD, eDc, eC_under] at hcl h61 h40 ⊢
  simp only [go_sem, ↓reduceIte, Nat.reduceBEq, Nat.reduceEqDiff, Nat.reduceLT, Nat.reduceLeDiff, Nat.reduceAdd, Nat.reduceMul, Nat.reduceSub, reduceCtorEq, Int.reduceLT, Int.reduceLE, Int.reduceEq, Int.reduceBEq, Int.reduceBNe, Int.reduceToNat, Int.reduceAdd, Int.reduceNeg, Int.reduceSub, eC_clean, h61, h40, f3, g0]
  rw [w_rounds_u (fun k => [(8, .int .i64 (readV ((first d).getD e 0) e (((fairL d).drop 1).take k))), (9, .int .i64 ((k : Int) + 1))]) ((fairL d).length - 1) (.exit 0) [(8, .int .i64 (cardV d e)), (9, .int .i64 (fairL d).length)] ?_ ?_ ?_ rfl]
  · by_cases hc : cardV d e = -1
    · simp only [go_sem, ↓reduceIte, Nat.reduceBEq, Nat.reduceEqDiff, Nat.reduceLT, Nat.reduceLeDiff, Nat.reduceAdd, Nat.reduceMul, Nat.reduceSub, reduceCtorEq, Int.reduceLT, Int.reduceLE, Int.reduceEq, Int.reduceBEq, Int.reduceBNe, Int.reduceToNat, Int.reduceAdd, Int.reduceNeg, Int.reduceSub, hc]
    · have hc' : (cardV d e == -1) = false := by simpa using hc
      simp only [go_sem, ↓reduceIte, Nat.reduceBEq, Nat.reduceEqDiff, Nat.reduceLT, Nat.reduceLeDiff, Nat.reduceAdd, Nat.reduceMul, Nat.reduceSub, reduceCtorEq, Int.reduceLT, Int.reduceLE, Int.reduceEq, Int.reduceBEq, Int.reduceBNe, Int.reduceToNat, Int.reduceAdd, Int.reduceNeg, Int.reduceSub, hc, hc']
  · simp only [go_sem, ↓reduceIte, Nat.reduceBEq, Nat.reduceEqDiff, Nat.reduceLT, Nat.reduceLeDiff, Nat.reduceAdd, Nat.reduceMul, Nat.reduceSub, reduceCtorEq, Int.reduceLT, Int.reduceLE, Int.reduceEq, Int.reduceBEq, Int.reduceBNe, Int.reduceToNat, Int.reduceAdd, Int.reduceNeg, Int.reduceSub, readV, List.all_nil]
  · intro k hk
    obtain ⟨t, tg, f1, f2, f3, f4⟩ := fair_elt d hrow ho (k + 1) (by omega)
    have f1' : ((fairL d).drop 1)[k]? = some t := by rw [List.getElem?_drop, Nat.add_comm]; exact f1
    have f6' : (k : Int) + 1 < ys.length := by omega
    have hidx : ((k : Int) + 1 < 0) = False := by simp; omega
    have htn : ((k : Int) + 1).toNat = k + 1 := by omega
    have f3 := f3 hH
    have g0 : t[e]? = some (t.getD e 0) := by
      rw [List.getD_eq_getElem?_getD, List.getElem?_eq_getElem (show e < t.length by omega)]; rfl
    rw [readV_succ _ _ f1']
    by_cases hb : (t.getD e 0 != readV ((first d).getD e 0) e (((fairL d).drop 1).take k)) = true
    · rw [if_pos hb]
      simp (disch := omega) only [go_sem, ↓reduceIte, Nat.reduceBEq, Nat.reduceEqDiff, Nat.reduceLT, Nat.reduceLeDiff, Nat.reduceAdd, Nat.reduceMul, Nat.reduceSub, reduceCtorEq, Int.reduceLT, Int.reduceLE, Int.reduceEq, Int.reduceBEq, Int.reduceBNe, Int.reduceToNat, Int.reduceAdd, Int.reduceNeg, Int.reduceSub, f6', hidx, htn, f3, g0, hb, wrap_i64]
    · rw [if_neg hb]
      have hb' : (t.getD e 0 != readV ((first d).getD e 0) e (((fairL d).drop 1).take k)) = false := by simpa using hb
      simp (disch := omega) only [go_sem, ↓reduceIte, Nat.reduceBEq, Nat.reduceEqDiff, Nat.reduceLT, Nat.reduceLeDiff, Nat.reduceAdd, Nat.reduceMul, Nat.reduceSub, reduceCtorEq, Int.reduceLT, Int.reduceLE, Int.reduceEq, Int.reduceBEq, Int.reduceBNe, Int.reduceToNat, Int.reduceAdd, Int.reduceNeg, Int.reduceSub, f6', hidx, htn, f3, g0, hb', wrap_i64]
  · have hfin : ((fairL d).drop 1).take ((fairL d).length - 1) = (fairL d).drop 1 := by rw [← hdl]; exact List.take_length
    have hni : ¬ ((((fairL d).length - 1 : Nat) : Int) + 1 < ys.length) := by omega
    have hnn : (((fairL d).length - 1 : Nat) : Int) + 1 = (fairL d).length := by omega
    simp only [go_sem, ↓reduceIte, Nat.reduceBEq, Nat.reduceEqDiff, Nat.reduceLT, Nat.reduceLeDiff, Nat.reduceAdd, Nat.reduceMul, Nat.reduceSub, reduceCtorEq, Int.reduceLT, Int.reduceLE, Int.reduceEq, Int.reduceBEq, Int.reduceBNe, Int.reduceToNat, Int.reduceAdd, Int.reduceNeg, Int.reduceSub, hfin, hni, hnn, cardV, hyl]

/-- The cards that a half can be of. -/
def whoseL (d : Dr) (e n : Nat) : List Int := ((List.range n).filter fun (c : Nat) => (fairL d).any fun t => t.getD e 0 == (c : Int)).map fun (c : Nat) => (c : Int)
theorem whoseL_succ (d : Dr) (e n : Nat) : whoseL d e (n + 1) = if ((fairL d).any fun t => t.getD e 0 == (n : Int)) = true then whoseL d e n ++ [(n : Int)] else whoseL d e n := by
  unfold whoseL
  rw [List.range_succ, List.filter_append, List.map_append]
  have h : (List.filter (fun c : Nat => (fairL d).any fun t => t.getD e 0 == (c : Int)) [n]) = if ((fairL d).any fun t => t.getD e 0 == (n : Int)) = true then [n] else [] := by simp only [List.filter_cons, List.filter_nil]
  rw [h]
  split <;> simp
theorem whoseL_len (d : Dr) (e n : Nat) : (whoseL d e n).length ≤ n := by
  unfold whoseL; rw [List.length_map]; have := List.length_filter_le (fun c : Nat => (fairL d).any fun t => t.getD e 0 == (c : Int)) (List.range n); simpa using this
theorem c27_no (d : Dr) (hd : d.fits) (e : Int) (he : askedE d e d.halves.length ≠ 0) (h : Heap) : callPure (EW tabX) 27 [eD d, .int .i64 e] h = some (.tup [vI [], .int .i64 (askedE d e d.halves.length)], h) := by
  have lh := hd.lh
  have h61 := c61 d hd e d.halves.length (by omega)
  have hcl := eD_clean d
  have hne : (askedE d e d.halves.length != 0) = true := by simpa using he
  rw [callPure_eq, w_call _ fn_27 rfl]
  simp only [go_sem, ↓reduceIte, Nat.reduceBEq, Nat.reduceEqDiff, Nat.reduceLT, Nat.reduceLeDiff, Nat.reduceAdd, Nat.reduceMul, Nat.reduceSub, reduceCtorEq, Int.reduceLT, Int.reduceLE, Int.reduceEq, Int.reduceBEq, Int.reduceBNe, Int.reduceToNat, Int.reduceAdd, Int.reduceNeg, Int.reduceSub, eD, eDc, eC_under] at hcl h61 ⊢
  simp only [go_sem, ↓reduceIte, Nat.reduceBEq, Nat.reduceEqDiff, Nat.reduceLT, Nat.reduceLeDiff, Nat.reduceAdd, Nat.reduceMul, Nat.reduceSub, reduceCtorEq, Int.reduceLT, Int.reduceLE, Int.reduceEq, Int.reduceBEq, Int.reduceBNe, Int.reduceToNat, Int.reduceAdd, Int.reduceNeg, Int.reduceSub, eC_clean, h61, hne, vI_nil]
theorem c27_yes (d : Dr) (hd : d.fits) (e : Nat) (he : askedE d e d.halves.length = 0) (h : Heap) : callPure (EW tabX) 27 [eD d, .int .i64 e] h = some (.tup [vI (whoseL d e d.cards.length), .int .i64 0], h) := by
  obtain ⟨hk, e0, e1⟩ := asked_yes he
  obtain ⟨ho, _⟩ := ok_of_check hk
  have lh := hd.lh
  have h61 := c61 d hd e d.halves.length (by omega)
  rw [he] at h61
  have hcl := eD_clean d
  have hc4 := ho.c4
  obtain ⟨ys, hrow, hyc, h40⟩ := c40 d hd ho
  have hfl := fairL_len d ho
  have hyl := hrow.1
  have hH : 0 < d.halves.length := by omega
  rw [callPure_eq, w_call _ fn_27 rfl]
  simp only [go_sem, ↓reduceIte, Nat.reduceBEq, Nat.reduceEqDiff, Nat.reduceLT, Nat.reduceLeDiff, Nat.reduceAdd, Nat.reduceMul, Nat.reduceSub, reduceCtorEq, Int.reduceLT, Int.reduceLE, Int.reduceEq, Int.reduceBEq, Int.reduceBNe, Int.reduceToNat, Int.reduceAdd, Int.reduceNeg, Int.reduceSub, eD, eDc, eC_under] at hcl h61 h40 ⊢
  simp only [go_sem, ↓reduceIte, Nat.reduceBEq, Nat.reduceEqDiff, Nat.reduceLT, Nat.reduceLeDiff, Nat.reduceAdd, Nat.reduceMul, Nat.reduceSub, reduceCtorEq, Int.reduceLT, Int.reduceLE, Int.reduceEq, Int.reduceBEq, Int.reduceBNe, Int.reduceToNat, Int.reduceAdd, Int.reduceNeg, Int.reduceSub, eC_clean, h61, h40]
  rw [w_rounds_h (fun k => [(8, ownT [] (whoseL d e k)), (9, .int .i64 k)]) (fun k => ⟨[.cells (eDc d)], T [] (whoseL d e k).length⟩) d.cards.length (.exit 0) [(8, ownT [] (whoseL d e d.cards.length)), (9, .int .i64 d.cards.length)] ⟨[.cells (eDc d)], T [] (whoseL d e d.cards.length).length⟩ ?_ ?_ ?_ ?_ rfl]
  · simp only [go_sem, ↓reduceIte, Nat.reduceBEq, Nat.reduceEqDiff, Nat.reduceLT, Nat.reduceLeDiff, Nat.reduceAdd, Nat.reduceMul, Nat.reduceSub, reduceCtorEq, Int.reduceLT, Int.reduceLE, Int.reduceEq, Int.reduceBEq, Int.reduceBNe, Int.reduceToNat, Int.reduceAdd, Int.reduceNeg, Int.reduceSub, ownT_clean, ownT_under]
  · simp only [go_sem, ↓reduceIte, Nat.reduceBEq, Nat.reduceEqDiff, Nat.reduceLT, Nat.reduceLeDiff, Nat.reduceAdd, Nat.reduceMul, Nat.reduceSub, reduceCtorEq, Int.reduceLT, Int.reduceLE, Int.reduceEq, Int.reduceBEq, Int.reduceBNe, Int.reduceToNat, Int.reduceAdd, Int.reduceNeg, Int.reduceSub]; rfl
  · simp only [eDc]; rfl
  · intro c hc
    have hci : (c : Int) < d.cards.length := by omega
    have hwl := whoseL_len d e c
    have hap := ownT_app [] (whoseL d e c) c (by omega)
    simp only [go_sem, ↓reduceIte, Nat.reduceBEq, Nat.reduceEqDiff, Nat.reduceLT, Nat.reduceLeDiff, Nat.reduceAdd, Nat.reduceMul, Nat.reduceSub, reduceCtorEq, Int.reduceLT, Int.reduceLE, Int.reduceEq, Int.reduceBEq, Int.reduceBNe, Int.reduceToNat, Int.reduceAdd, Int.reduceNeg, Int.reduceSub, eDc, hci]
    rw [w_rounds_u (fun k => [(10, .bool (((fairL d).take k).any fun t => t.getD e 0 == (c : Int))), (11, .int .i64 k)]) (fairL d).length (.exit 2) [(10, .bool ((fairL d).any fun t => t.getD e 0 == (c : Int))), (11, .int .i64 (fairL d).length)] ?_ ?_ ?_ rfl]
    · rw [whoseL_succ]
      by_cases hb : ((fairL d).any fun t => t.getD e 0 == (c : Int)) = true
      · rw [if_pos hb]
        simp (disch := omega) only [go_sem, ↓reduceIte, Nat.reduceBEq, Nat.reduceEqDiff, Nat.reduceLT, Nat.reduceLeDiff, Nat.reduceAdd, Nat.reduceMul, Nat.reduceSub, reduceCtorEq, Int.reduceLT, Int.reduceLE, Int.reduceEq, Int.reduceBEq, Int.reduceBNe, Int.reduceToNat, Int.reduceAdd, Int.reduceNeg, Int.reduceSub, hb, hap, wrap_i64]
      · rw [if_neg hb]
        have hb' : ((fairL d).any fun t => t.getD e 0 == (c : Int)) = false := by simpa using hb
        simp (disch := omega) only [go_sem, ↓reduceIte, Nat.reduceBEq, Nat.reduceEqDiff, Nat.reduceLT, Nat.reduceLeDiff, Nat.reduceAdd, Nat.reduceMul, Nat.reduceSub, reduceCtorEq, Int.reduceLT, Int.reduceLE, Int.reduceEq, Int.reduceBEq, Int.reduceBNe, Int.reduceToNat, Int.reduceAdd, Int.reduceNeg, Int.reduceSub, hb', wrap_i64]
    · simp only [go_sem, ↓reduceIte, Nat.reduceBEq, Nat.reduceEqDiff, Nat.reduceLT, Nat.reduceLeDiff, Nat.reduceAdd, Nat.reduceMul, Nat.reduceSub, reduceCtorEq, Int.reduceLT, Int.reduceLE, Int.reduceEq, Int.reduceBEq, Int.reduceBNe, Int.reduceToNat, Int.reduceAdd, Int.reduceNeg, Int.reduceSub, List.any_nil]
    · intro k hk
      obtain ⟨t, tg, f1, f2, f3, f4⟩ := fair_elt d hrow ho k hk
      have f3 := f3 hH
      have g0 : t[e]? = some (t.getD e 0) := by
        rw [List.getD_eq_getElem?_getD, List.getElem?_eq_getElem (show e < t.length by omega)]; rfl
      simp (disch := omega) only [go_sem, ↓reduceIte, Nat.reduceBEq, Nat.reduceEqDiff, Nat.reduceLT, Nat.reduceLeDiff, Nat.reduceAdd, Nat.reduceMul, Nat.reduceSub, reduceCtorEq, Int.reduceLT, Int.reduceLE, Int.reduceEq, Int.reduceBEq, Int.reduceBNe, Int.reduceToNat, Int.reduceAdd, Int.reduceNeg, Int.reduceSub, f4, f3, g0, wrap_i64, any_succ _ f1]
    · simp only [go_sem, ↓reduceIte, Nat.reduceBEq, Nat.reduceEqDiff, Nat.reduceLT, Nat.reduceLeDiff, Nat.reduceAdd, Nat.reduceMul, Nat.reduceSub, reduceCtorEq, Int.reduceLT, Int.reduceLE, Int.reduceEq, Int.reduceBEq, Int.reduceBNe, Int.reduceToNat, Int.reduceAdd, Int.reduceNeg, Int.reduceSub, hyl]
  · simp only [go_sem, ↓reduceIte, Nat.reduceBEq, Nat.reduceEqDiff, Nat.reduceLT, Nat.reduceLeDiff, Nat.reduceAdd, Nat.reduceMul, Nat.reduceSub, reduceCtorEq, Int.reduceLT, Int.reduceLE, Int.reduceEq, Int.reduceBEq, Int.reduceBNe, Int.reduceToNat, Int.reduceAdd, Int.reduceNeg, Int.reduceSub, eDc]
end Go.Proofs.Ytbfodfepgefloaa
end
section
namespace Go.Proofs.Ytbfodfepgefloaa
open Go.Proofs

def cardE (d : Dr) (c : Nat) : List Int := (d.cards.getD c ⟨default, []⟩).edge
theorem card_at (d : Dr) (c : Nat) (hc : c < d.cards.length) : d.cards[c]? = some (d.cards.getD c ⟨default, []⟩) := by
  rw [List.getD_eq_getElem?_getD, List.getElem?_eq_getElem hc]; rfl
theorem cardE_low {d : Dr} (ho : d.Ok) {c : Nat} (hc : c < d.cards.length) : Low (cardE d c) ∧ (cardE d c).length < 1000 ∧ ((cardE d c).length : Int) = d.steps ∧ cardE d c ≠ [] := by
  have hm := List.mem_of_getElem? (card_at d c hc)
  have h := ho.ce _ hm
  have h1 := ho.s1
  have h6 := ho.s6
  refine ⟨fun n hn => by have := h.2 n hn; omega, ?_, h.1, fun e => ?_⟩
  · have := h.1; unfold cardE; omega
  · have := h.1; unfold cardE at e; rw [e] at this; simp at this; omega
/-- What Alike says: its error. -/
def alikeE (d : Dr) (a b : Int) : Int := if askedE d a d.cards.length = 0 then (if askedE d b d.cards.length = 0 then (if a = b then 2 else 0) else askedE d b d.cards.length) else askedE d a d.cards.length
def alikeB (d : Dr) (a b : Nat) : Bool := nearB d.wear (cardE d a) (cardE d b) d.least.toNat
theorem c31_no (d : Dr) (hd : d.fits) (a b : Int) (he : alikeE d a b ≠ 0) (h : Heap) : callPure (EW tabX) 31 [eD d, .int .i64 a, .int .i64 b] h = some (.tup [.bool false, .int .i64 (alikeE d a b)], h) := by
  have lc := hd.lc
  have h1 := c61 d hd a d.cards.length (by omega)
  have h2 := c61 d hd b d.cards.length (by omega)
  have hcl := eD_clean d
  rw [callPure_eq, w_call _ fn_31 rfl]
  unfold alikeE at he ⊢
  by_cases ha : askedE d a d.cards.length = 0
  · rw [if_pos ha] at he ⊢
    by_cases hb : askedE d b d.cards.length = 0
    · rw [if_pos hb] at he ⊢
      by_cases hab : a = b
      · subst hab
        rw [if_pos rfl]
        rw [ha] at h1
        simp only [go_sem, ↓reduceIte, Nat.reduceBEq, Nat.reduceEqDiff, Nat.reduceLT, Nat.reduceLeDiff, Nat.reduceAdd, Nat.reduceMul, Nat.reduceSub, reduceCtorEq, Int.reduceLT, Int.reduceLE, Int.reduceEq, Int.reduceBEq, Int.reduceBNe, Int.reduceToNat, Int.reduceAdd, Int.reduceNeg, Int.reduceSub, eD, eDc, eC_under] at hcl h1 ⊢
        simp only [go_sem, ↓reduceIte, Nat.reduceBEq, Nat.reduceEqDiff, Nat.reduceLT, Nat.reduceLeDiff, Nat.reduceAdd, Nat.reduceMul, Nat.reduceSub, reduceCtorEq, Int.reduceLT, Int.reduceLE, Int.reduceEq, Int.reduceBEq, Int.reduceBNe, Int.reduceToNat, Int.reduceAdd, Int.reduceNeg, Int.reduceSub, eC_clean, h1]
      · rw [if_neg hab] at he; exact absurd rfl he
    · rw [if_neg hb]
      have hb1 : (askedE d b d.cards.length != 0) = true := by simpa using hb
      have hb2 : (askedE d b d.cards.length == 0) = false := by simpa using hb
      rw [ha] at h1
      simp only [go_sem, ↓reduceIte, Nat.reduceBEq, Nat.reduceEqDiff, Nat.reduceLT, Nat.reduceLeDiff, Nat.reduceAdd, Nat.reduceMul, Nat.reduceSub, reduceCtorEq, Int.reduceLT, Int.reduceLE, Int.reduceEq, Int.reduceBEq, Int.reduceBNe, Int.reduceToNat, Int.reduceAdd, Int.reduceNeg, Int.reduceSub, eD, eDc, eC_under] at hcl h1 h2 ⊢
      simp only [go_sem, ↓reduceIte, Nat.reduceBEq, Nat.reduceEqDiff, Nat.reduceLT, Nat.reduceLeDiff, Nat.reduceAdd, Nat.reduceMul, Nat.reduceSub, reduceCtorEq, Int.reduceLT, Int.reduceLE, Int.reduceEq, Int.reduceBEq, Int.reduceBNe, Int.reduceToNat, Int.reduceAdd, Int.reduceNeg, Int.reduceSub, eC_clean, h1, h2, hb1, hb2]
  · rw [if_neg ha]
    have hb1 : (askedE d a d.cards.length != 0) = true := by simpa using ha
    have hb2 : (askedE d a d.cards.length == 0) = false := by simpa using ha
    simp only [go_sem, ↓reduceIte, Nat.reduceBEq, Nat.reduceEqDiff, Nat.reduceLT, Nat.reduceLeDiff, Nat.reduceAdd, Nat.reduceMul, Nat.reduceSub, reduceCtorEq, Int.reduceLT, Int.reduceLE, Int.reduceEq, Int.reduceBEq, Int.reduceBNe, Int.reduceToNat, Int.reduceAdd, Int.reduceNeg, Int.reduceSub, eD, eDc, eC_under] at hcl h1 h2 ⊢
    simp only [go_sem, ↓reduceIte, Nat.reduceBEq, Nat.reduceEqDiff, Nat.reduceLT, Nat.reduceLeDiff, Nat.reduceAdd, Nat.reduceMul, Nat.reduceSub, reduceCtorEq, Int.reduceLT, Int.reduceLE, Int.reduceEq, Int.reduceBEq, Int.reduceBNe, Int.reduceToNat, Int.reduceAdd, Int.reduceNeg, Int.reduceSub, eC_clean, h1, h2, hb1, hb2]
theorem c31_yes (d : Dr) (hd : d.fits) (a b : Nat) (he : alikeE d a b = 0) (h : Heap) : callPure (EW tabX) 31 [eD d, .int .i64 a, .int .i64 b] h = some (.tup [.bool (alikeB d a b), .int .i64 0], h) := by
  have lc := hd.lc
  have h1 := c61 d hd a d.cards.length (by omega)
  have h2 := c61 d hd b d.cards.length (by omega)
  have hcl := eD_clean d
  unfold alikeE at he
  have ha : askedE d a d.cards.length = 0 := by
    by_cases ha : askedE d a d.cards.length = 0
    · exact ha
    · rw [if_neg ha] at he; exact he
  rw [if_pos ha] at he
  have hb : askedE d b d.cards.length = 0 := by
    by_cases hb : askedE d b d.cards.length = 0
    · exact hb
    · rw [if_neg hb] at he; exact he
  rw [if_pos hb] at he
  have hab : ((a : Int) == b) = false := by
    cases hh : ((a : Int) == b) with
    | false => rfl
    | true => rw [if_pos (by simpa using hh)] at he; cases he
  obtain ⟨hk, a0, a1⟩ := asked_yes ha
  obtain ⟨_, b0, b1⟩ := asked_yes hb
  obtain ⟨ho, _⟩ := ok_of_check hk
  have hl := ho.l1
  have hls := ho.ls
  have h6 := ho.s6
  obtain ⟨x1, x2, x3, x4⟩ := cardE_low ho (show a < d.cards.length by omega)
  obtain ⟨y1, y2, y3, y4⟩ := cardE_low ho (show b < d.cards.length by omega)
  have h66 := c66 d ⟨ho.w0, ho.w9⟩ (cardE d a) (cardE d b) d.least.toNat x1 y1 x2 y2 (by omega) 1 1 (fun _ => rfl) (fun _ => rfl)
  have hlt : ((d.least.toNat : Nat) : Int) = d.least := by omega
  rw [hlt] at h66
  rw [ha] at h1
  rw [hb] at h2
  have hz := hd.zc (by intro e; rw [e] at a1; simp at a1; omega)
  have ca := card_at d a (by omega)
  have cb := card_at d b (by omega)
  rw [callPure_eq, w_call _ fn_31 rfl]
  simp only [cardE] at h66
  simp only [go_sem, ↓reduceIte, Nat.reduceBEq, Nat.reduceEqDiff, Nat.reduceLT, Nat.reduceLeDiff, Nat.reduceAdd, Nat.reduceMul, Nat.reduceSub, reduceCtorEq, Int.reduceLT, Int.reduceLE, Int.reduceEq, Int.reduceBEq, Int.reduceBNe, Int.reduceToNat, Int.reduceAdd, Int.reduceNeg, Int.reduceSub, eD, eDc, eC_under, hz] at hcl h1 h2 h66 ⊢
  simp only [go_sem, ↓reduceIte, Nat.reduceBEq, Nat.reduceEqDiff, Nat.reduceLT, Nat.reduceLeDiff, Nat.reduceAdd, Nat.reduceMul, Nat.reduceSub, reduceCtorEq, Int.reduceLT, Int.reduceLE, Int.reduceEq, Int.reduceBEq, Int.reduceBNe, Int.reduceToNat, Int.reduceAdd, Int.reduceNeg, Int.reduceSub, eC_clean, h1, h2, hab, eC_get, ca, cb, eC, h66, alikeB, cardE]

/-- What New says: its error. -/
def newE (d : Dr) (l : List Int) : Int := if (checkT d).2.2 = 0 then (if ((l.length : Int) != d.steps) = true then 3 else if (l.all fun n => inR n 0 9) = false then 7 else 0) else (checkT d).2.2
def newL (d : Dr) (l : List Int) (n : Nat) : List Int := ((List.range n).filter fun (c : Nat) => nearB d.wear l (cardE d c) d.least.toNat).map fun (c : Nat) => (c : Int)
theorem newL_succ (d : Dr) (l : List Int) (n : Nat) : newL d l (n + 1) = if nearB d.wear l (cardE d n) d.least.toNat = true then newL d l n ++ [(n : Int)] else newL d l n := by
  unfold newL
  rw [List.range_succ, List.filter_append, List.map_append]
  have h : (List.filter (fun c : Nat => nearB d.wear l (cardE d c) d.least.toNat) [n]) = if nearB d.wear l (cardE d n) d.least.toNat = true then [n] else [] := by simp only [List.filter_cons, List.filter_nil]
  rw [h]
  split <;> simp
theorem newL_len (d : Dr) (l : List Int) (n : Nat) : (newL d l n).length ≤ n := by
  unfold newL; rw [List.length_map]; have := List.length_filter_le (fun c : Nat => nearB d.wear l (cardE d c) d.least.toNat) (List.range n); simpa using this
theorem c35_no (d : Dr) (hd : d.fits) (l : List Int) (z : Nat) (hz : l ≠ [] → z = 1) (hl : l.length < 1000000000000000000) (he : newE d l ≠ 0) (h : Heap) : callPure (EW tabX) 35 [eD d, .lst 0 z (I l)] h = some (.tup [vI [], .int .i64 (newE d l)], h) := by
  have h17 := c17 d hd
  have h59 := c59 l 0 z hz hl
  have hcl := eD_clean d
  rw [callPure_eq, w_call _ fn_35 rfl]
  unfold newE at he ⊢
  by_cases hc : (checkT d).2.2 = 0
  · rw [if_pos hc] at he ⊢
    rw [(ok_of_check hc).2] at h17
    by_cases h1 : ((l.length : Int) != d.steps) = true
    · rw [if_pos h1]
      simp only [go_sem, ↓reduceIte, Nat.reduceBEq, Nat.reduceEqDiff, Nat.reduceLT, Nat.reduceLeDiff, Nat.reduceAdd, Nat.reduceMul, Nat.reduceSub, reduceCtorEq, Int.reduceLT, Int.reduceLE, Int.reduceEq, Int.reduceBEq, Int.reduceBNe, Int.reduceToNat, Int.reduceAdd, Int.reduceNeg, Int.reduceSub, eD, eDc, eC_under, tup3_0] at hcl h17 ⊢
      simp only [go_sem, ↓reduceIte, Nat.reduceBEq, Nat.reduceEqDiff, Nat.reduceLT, Nat.reduceLeDiff, Nat.reduceAdd, Nat.reduceMul, Nat.reduceSub, reduceCtorEq, Int.reduceLT, Int.reduceLE, Int.reduceEq, Int.reduceBEq, Int.reduceBNe, Int.reduceToNat, Int.reduceAdd, Int.reduceNeg, Int.reduceSub, eC_clean, h17, h1, vI_nil]
    · rw [if_neg h1] at he ⊢
      have h1' : ((l.length : Int) != d.steps) = false := by simpa using h1
      by_cases h2 : (l.all fun n => inR n 0 9) = false
      · rw [if_pos h2]
        simp only [go_sem, ↓reduceIte, Nat.reduceBEq, Nat.reduceEqDiff, Nat.reduceLT, Nat.reduceLeDiff, Nat.reduceAdd, Nat.reduceMul, Nat.reduceSub, reduceCtorEq, Int.reduceLT, Int.reduceLE, Int.reduceEq, Int.reduceBEq, Int.reduceBNe, Int.reduceToNat, Int.reduceAdd, Int.reduceNeg, Int.reduceSub, eD, eDc, eC_under, tup3_0] at hcl h17 ⊢
        simp only [go_sem, ↓reduceIte, Nat.reduceBEq, Nat.reduceEqDiff, Nat.reduceLT, Nat.reduceLeDiff, Nat.reduceAdd, Nat.reduceMul, Nat.reduceSub, reduceCtorEq, Int.reduceLT, Int.reduceLE, Int.reduceEq, Int.reduceBEq, Int.reduceBNe, Int.reduceToNat, Int.reduceAdd, Int.reduceNeg, Int.reduceSub, eC_clean, h17, h1', h59, h2, vI_nil]
      · rw [if_neg h2] at he; exact absurd rfl he
  · rw [if_neg hc]
    have hb1 : ((checkT d).2.2 != 0) = true := by simpa using hc
    have hb2 : ((checkT d).2.2 == 0) = false := by simpa using hc
    simp only [go_sem, ↓reduceIte, Nat.reduceBEq, Nat.reduceEqDiff, Nat.reduceLT, Nat.reduceLeDiff, Nat.reduceAdd, Nat.reduceMul, Nat.reduceSub, reduceCtorEq, Int.reduceLT, Int.reduceLE, Int.reduceEq, Int.reduceBEq, Int.reduceBNe, Int.reduceToNat, Int.reduceAdd, Int.reduceNeg, Int.reduceSub, eD, eDc, eC_under, tup3] at hcl h17 ⊢
    simp only [go_sem, ↓reduceIte, Nat.reduceBEq, Nat.reduceEqDiff, Nat.reduceLT, Nat.reduceLeDiff, Nat.reduceAdd, Nat.reduceMul, Nat.reduceSub, reduceCtorEq, Int.reduceLT, Int.reduceLE, Int.reduceEq, Int.reduceBEq, Int.reduceBNe, Int.reduceToNat, Int.reduceAdd, Int.reduceNeg, Int.reduceSub, eC_clean, h17, hb1, hb2, vI_nil]
theorem newE_yes {d : Dr} {l : List Int} (he : newE d l = 0) : (checkT d).2.2 = 0 ∧ (l.length : Int) = d.steps ∧ (l.all fun n => inR n 0 9) = true := by
  unfold newE at he
  by_cases hc : (checkT d).2.2 = 0
  · rw [if_pos hc] at he
    by_cases h1 : ((l.length : Int) != d.steps) = true
    · rw [if_pos h1] at he; cases he
    · rw [if_neg h1] at he
      by_cases h2 : (l.all fun n => inR n 0 9) = false
      · rw [if_pos h2] at he; cases he
      · exact ⟨hc, by simpa using h1, by simpa using h2⟩
  · rw [if_neg hc] at he; exact absurd he hc
theorem c35_yes (d : Dr) (hd : d.fits) (l : List Int) (z : Nat) (hz : l ≠ [] → z = 1) (hl : l.length < 1000000000000000000) (he : newE d l = 0) (h : Heap) : callPure (EW tabX) 35 [eD d, .lst 0 z (I l)] h = some (.tup [vI (newL d l d.cards.length), .int .i64 0], h) := by
  obtain ⟨hc, h1, h2⟩ := newE_yes he
  obtain ⟨ho, hk⟩ := ok_of_check hc
  have h17 := c17 d hd
  rw [hk] at h17
  have h59 := c59 l 0 z hz hl
  have hcl := eD_clean d
  have h1' : ((l.length : Int) != d.steps) = false := by simp [h1]
  have hc4 := ho.c4
  have h6 := ho.s6
  have hls := ho.ls
  have hl1 := ho.l1
  have hlow : Low l := fun n hn => by
    rw [List.all_eq_true] at h2
    have := h2 n hn
    simp [inR] at this; omega
  have hlt : ((d.least.toNat : Nat) : Int) = d.least := by omega
  rw [callPure_eq, w_call _ fn_35 rfl]
  simp only [go_sem, ↓reduceIte, Nat.reduceBEq, Nat.reduceEqDiff, Nat.reduceLT, Nat.reduceLeDiff, Nat.reduceAdd, Nat.reduceMul, Nat.reduceSub, reduceCtorEq, Int.reduceLT, Int.reduceLE, Int.reduceEq, Int.reduceBEq, Int.reduceBNe, Int.reduceToNat, Int.reduceAdd, Int.reduceNeg, Int.reduceSub, eD, eDc, eC_under, tup3_0] at hcl h17 ⊢
  simp only [go_sem, ↓reduceIte, Nat.reduceBEq, Nat.reduceEqDiff, Nat.reduceLT, Nat.reduceLeDiff, Nat.reduceAdd, Nat.reduceMul, Nat.reduceSub, reduceCtorEq, Int.reduceLT, Int.reduceLE, Int.reduceEq, Int.reduceBEq, Int.reduceBNe, Int.reduceToNat, Int.reduceAdd, Int.reduceNeg, Int.reduceSub, eC_clean, h17, h1', h59, h2]
  rw [w_rounds_h (fun k => [(9, ownT [] (newL d l k)), (10, .int .i64 k)]) (fun k => ⟨[.cells (eDc d)], T [] (newL d l k).length⟩) d.cards.length (.exit 0) [(9, ownT [] (newL d l d.cards.length)), (10, .int .i64 d.cards.length)] ⟨[.cells (eDc d)], T [] (newL d l d.cards.length).length⟩ ?_ ?_ ?_ ?_ rfl]
  · simp only [go_sem, ↓reduceIte, Nat.reduceBEq, Nat.reduceEqDiff, Nat.reduceLT, Nat.reduceLeDiff, Nat.reduceAdd, Nat.reduceMul, Nat.reduceSub, reduceCtorEq, Int.reduceLT, Int.reduceLE, Int.reduceEq, Int.reduceBEq, Int.reduceBNe, Int.reduceToNat, Int.reduceAdd, Int.reduceNeg, Int.reduceSub, ownT_clean, ownT_under]
  · simp only [go_sem, ↓reduceIte, Nat.reduceBEq, Nat.reduceEqDiff, Nat.reduceLT, Nat.reduceLeDiff, Nat.reduceAdd, Nat.reduceMul, Nat.reduceSub, reduceCtorEq, Int.reduceLT, Int.reduceLE, Int.reduceEq, Int.reduceBEq, Int.reduceBNe, Int.reduceToNat, Int.reduceAdd, Int.reduceNeg, Int.reduceSub]; rfl
  · simp only [eDc]; rfl
  · intro c hcc
    have hci : (c : Int) < d.cards.length := by omega
    have hwl := newL_len d l c
    have hap := ownT_app [] (newL d l c) c (by omega)
    obtain ⟨y1, y2, y3, y4⟩ := cardE_low ho hcc
    have h66 := c66 d ⟨ho.w0, ho.w9⟩ l (cardE d c) d.least.toNat hlow y1 (by omega) y2 (by omega) z 1 hz (fun _ => rfl)
    rw [hlt] at h66
    have hzc := hd.zc (by intro e; rw [e] at hcc; simp at hcc)
    have ca := card_at d c hcc
    rw [newL_succ]
    by_cases hb : nearB d.wear l (cardE d c) d.least.toNat = true
    · rw [if_pos hb]
      rw [hb] at h66
      simp only [cardE] at h66
      simp only [go_sem, ↓reduceIte, Nat.reduceBEq, Nat.reduceEqDiff, Nat.reduceLT, Nat.reduceLeDiff, Nat.reduceAdd, Nat.reduceMul, Nat.reduceSub, reduceCtorEq, Int.reduceLT, Int.reduceLE, Int.reduceEq, Int.reduceBEq, Int.reduceBNe, Int.reduceToNat, Int.reduceAdd, Int.reduceNeg, Int.reduceSub, eD, eDc, eC_under, hzc] at hcl h66 ⊢
      simp (disch := omega) only [go_sem, ↓reduceIte, Nat.reduceBEq, Nat.reduceEqDiff, Nat.reduceLT, Nat.reduceLeDiff, Nat.reduceAdd, Nat.reduceMul, Nat.reduceSub, reduceCtorEq, Int.reduceLT, Int.reduceLE, Int.reduceEq, Int.reduceBEq, Int.reduceBNe, Int.reduceToNat, Int.reduceAdd, Int.reduceNeg, Int.reduceSub, hci, eC_clean, eC_get, ca, eC, h66, hap, wrap_i64]
    · rw [if_neg hb]
      have hb' : nearB d.wear l (cardE d c) d.least.toNat = false := by simpa using hb
      rw [hb'] at h66
      simp only [cardE] at h66
      simp only [go_sem, ↓reduceIte, Nat.reduceBEq, Nat.reduceEqDiff, Nat.reduceLT, Nat.reduceLeDiff, Nat.reduceAdd, Nat.reduceMul, Nat.reduceSub, reduceCtorEq, Int.reduceLT, Int.reduceLE, Int.reduceEq, Int.reduceBEq, Int.reduceBNe, Int.reduceToNat, Int.reduceAdd, Int.reduceNeg, Int.reduceSub, eD, eDc, eC_under, hzc] at hcl h66 ⊢
      simp (disch := omega) only [go_sem, ↓reduceIte, Nat.reduceBEq, Nat.reduceEqDiff, Nat.reduceLT, Nat.reduceLeDiff, Nat.reduceAdd, Nat.reduceMul, Nat.reduceSub, reduceCtorEq, Int.reduceLT, Int.reduceLE, Int.reduceEq, Int.reduceBEq, Int.reduceBNe, Int.reduceToNat, Int.reduceAdd, Int.reduceNeg, Int.reduceSub, hci, eC_clean, eC_get, ca, eC, h66, wrap_i64]
  · simp only [go_sem, ↓reduceIte, Nat.reduceBEq, Nat.reduceEqDiff, Nat.reduceLT, Nat.reduceLeDiff, Nat.reduceAdd, Nat.reduceMul, Nat.reduceSub, reduceCtorEq, Int.reduceLT, Int.reduceLE, Int.reduceEq, Int.reduceBEq, Int.reduceBNe, Int.reduceToNat, Int.reduceAdd, Int.reduceNeg, Int.reduceSub, eDc]
end Go.Proofs.Ytbfodfepgefloaa
end
section
namespace Go.Proofs.Ytbfodfepgefloaa
open Go.Proofs

def anyTo (p : Nat → Bool) (n : Nat) : Bool := !allTo (fun i => !p i) n
theorem anyTo_succ (p : Nat → Bool) (n : Nat) : anyTo p (n + 1) = (anyTo p n || p n) := by simp [anyTo, allTo_succ]
theorem anyTo_zero (p : Nat → Bool) : anyTo p 0 = false := rfl
/-- Two cards, the one before the other, are alike for so many steps. -/
def metB (d : Dr) (m : Nat) : Bool := anyTo (fun i => anyTo (fun k => nearB d.wear (cardE d i) (cardE d k) m) i) d.cards.length
/-- What Enough answers. -/
def enoughR (d : Dr) : Int × Int := if (checkT d).2.2 = 0 then (match (List.range d.steps.toNat).find? (fun k => !metB d (k + 1)) with | some k => ((k : Int) + 1, 0) | none => (0, 9)) else (0, (checkT d).2.2)
theorem find_range (p : Nat → Bool) : ∀ n, (List.range n).find? p = none ∧ allTo (fun i => !p i) n = true ∨ ∃ k, (List.range n).find? p = some k ∧ k < n ∧ p k = true ∧ allTo (fun i => !p i) k = true
  | 0 => .inl ⟨rfl, rfl⟩
  | n + 1 => by
    rw [List.range_succ, List.find?_append]
    rcases find_range p n with ⟨h1, h2⟩ | ⟨k, h1, h2, h3, h4⟩
    · rw [h1]
      cases hp : p n with
      | true => exact .inr ⟨n, by simp [hp], by omega, hp, h2⟩
      | false => exact .inl ⟨by simp [hp], by rw [allTo_succ, h2, hp]; rfl⟩
    · exact .inr ⟨k, by rw [h1]; rfl, by omega, h3, h4⟩

theorem c33 (d : Dr) (hd : d.fits) (h : Heap) : callPure (EW tabX) 33 [eD d] h = some (.tup [.int .i64 (enoughR d).1, .int .i64 (enoughR d).2], h) := by
  have h17 := c17 d hd
  have hcl := eD_clean d
  rw [callPure_eq, w_call _ fn_33 rfl]
  unfold enoughR
  by_cases hc : (checkT d).2.2 = 0
  · rw [if_pos hc]
    obtain ⟨ho, hk⟩ := ok_of_check hc
    rw [hk] at h17
    have h6 := ho.s6
    have h1 := ho.s1
    have hc4 := ho.c4
    simp only [go_sem, ↓reduceIte, Nat.reduceBEq, Nat.reduceEqDiff, Nat.reduceLT, Nat.reduceLeDiff, Nat.reduceAdd, Nat.reduceMul, Nat.reduceSub, reduceCtorEq, Int.reduceLT, Int.reduceLE, Int.reduceEq, Int.reduceBEq, Int.reduceBNe, Int.reduceToNat, Int.reduceAdd, Int.reduceNeg, Int.reduceSub, eD, eDc, eC_under, tup3_0] at hcl h17 ⊢
    simp only [go_sem, ↓reduceIte, Nat.reduceBEq, Nat.reduceEqDiff, Nat.reduceLT, Nat.reduceLeDiff, Nat.reduceAdd, Nat.reduceMul, Nat.reduceSub, reduceCtorEq, Int.reduceLT, Int.reduceLE, Int.reduceEq, Int.reduceBEq, Int.reduceBNe, Int.reduceToNat, Int.reduceAdd, Int.reduceNeg, Int.reduceSub, eC_clean, h17]
    have inner : ∀ m : Nat, m < 7 → ∀ i k, i < d.cards.length → k < d.cards.length → ∀ h, callPure (EW tabX) 66 [.agg [.int .i64 d.steps, .int .i64 d.least, .int .i64 d.wear, .lst 0 d.zc (d.cards.map eC), .lst 0 d.zh (d.halves.map eC)], .lst 0 1 (I (d.cards.getD i ⟨default, []⟩).edge), .lst 0 1 (I (d.cards.getD k ⟨default, []⟩).edge), .int .i64 m] h = some (.bool (nearB d.wear (cardE d i) (cardE d k) m), h) := fun m hm i k hi hk h => by
      obtain ⟨x1, x2, x3, x4⟩ := cardE_low ho hi
      obtain ⟨y1, y2, y3, y4⟩ := cardE_low ho hk
      exact c66 d ⟨ho.w0, ho.w9⟩ (cardE d i) (cardE d k) m x1 y1 x2 y2 (by omega) 1 1 (fun _ => rfl) (fun _ => rfl) h
    rcases find_range (fun k => !metB d (k + 1)) d.steps.toNat with ⟨f1, f2⟩ | ⟨n, f1, f2, f3, f4⟩
    · rw [f1]
      rw [w_rounds_u (fun k => [(7, .int .i64 ((k : Int) + 1))]) d.steps.toNat (.exit 0) [(7, .int .i64 (d.steps + 1))] ?_ ?_ ?_ rfl]
      rotate_left
      · simp only [go_sem, ↓reduceIte, Nat.reduceBEq, Nat.reduceEqDiff, Nat.reduceLT, Nat.reduceLeDiff, Nat.reduceAdd, Nat.reduceMul, Nat.reduceSub, reduceCtorEq, Int.reduceLT, Int.reduceLE, Int.reduceEq, Int.reduceBEq, Int.reduceBNe, Int.reduceToNat, Int.reduceAdd, Int.reduceNeg, Int.reduceSub]
      · intro m hm
        have hmi : (m : Int) + 1 ≤ d.steps := by omega
        have hmet := allTo_at f2 hm
        have hmet : metB d (m + 1) = true := by simpa using hmet
        simp (disch := omega) only [go_sem, ↓reduceIte, Nat.reduceBEq, Nat.reduceEqDiff, Nat.reduceLT, Nat.reduceLeDiff, Nat.reduceAdd, Nat.reduceMul, Nat.reduceSub, reduceCtorEq, Int.reduceLT, Int.reduceLE, Int.reduceEq, Int.reduceBEq, Int.reduceBNe, Int.reduceToNat, Int.reduceAdd, Int.reduceNeg, Int.reduceSub, eDc, hmi, wrap_i64]
        rw [w_rounds_u (fun i => [(8, .bool (anyTo (fun i => anyTo (fun k => nearB d.wear (cardE d i) (cardE d k) (m + 1)) i) i)), (9, .int .i64 i)]) d.cards.length (.exit 2) [(8, .bool (metB d (m + 1))), (9, .int .i64 d.cards.length)] ?_ ?_ ?_ rfl]
        · simp (disch := omega) only [go_sem, ↓reduceIte, Nat.reduceBEq, Nat.reduceEqDiff, Nat.reduceLT, Nat.reduceLeDiff, Nat.reduceAdd, Nat.reduceMul, Nat.reduceSub, reduceCtorEq, Int.reduceLT, Int.reduceLE, Int.reduceEq, Int.reduceBEq, Int.reduceBNe, Int.reduceToNat, Int.reduceAdd, Int.reduceNeg, Int.reduceSub, eDc, hmet, wrap_i64]
        · simp only [go_sem, ↓reduceIte, Nat.reduceBEq, Nat.reduceEqDiff, Nat.reduceLT, Nat.reduceLeDiff, Nat.reduceAdd, Nat.reduceMul, Nat.reduceSub, reduceCtorEq, Int.reduceLT, Int.reduceLE, Int.reduceEq, Int.reduceBEq, Int.reduceBNe, Int.reduceToNat, Int.reduceAdd, Int.reduceNeg, Int.reduceSub, anyTo_zero]
        · intro i hi
          have hii : (i : Int) < d.cards.length := by omega
          simp (disch := omega) only [go_sem, ↓reduceIte, Nat.reduceBEq, Nat.reduceEqDiff, Nat.reduceLT, Nat.reduceLeDiff, Nat.reduceAdd, Nat.reduceMul, Nat.reduceSub, reduceCtorEq, Int.reduceLT, Int.reduceLE, Int.reduceEq, Int.reduceBEq, Int.reduceBNe, Int.reduceToNat, Int.reduceAdd, Int.reduceNeg, Int.reduceSub, eDc, hii, wrap_i64]
          rw [w_rounds_u (fun k => [(8, .bool (anyTo (fun i => anyTo (fun k => nearB d.wear (cardE d i) (cardE d k) (m + 1)) i) i || anyTo (fun k => nearB d.wear (cardE d i) (cardE d k) (m + 1)) k)), (10, .int .i64 k)]) i (.exit 4) [(8, .bool (anyTo (fun i => anyTo (fun k => nearB d.wear (cardE d i) (cardE d k) (m + 1)) i) (i + 1))), (10, .int .i64 i)] ?_ ?_ ?_ rfl]
          · simp (disch := omega) only [go_sem, ↓reduceIte, Nat.reduceBEq, Nat.reduceEqDiff, Nat.reduceLT, Nat.reduceLeDiff, Nat.reduceAdd, Nat.reduceMul, Nat.reduceSub, reduceCtorEq, Int.reduceLT, Int.reduceLE, Int.reduceEq, Int.reduceBEq, Int.reduceBNe, Int.reduceToNat, Int.reduceAdd, Int.reduceNeg, Int.reduceSub, wrap_i64]
          · simp only [go_sem, ↓reduceIte, Nat.reduceBEq, Nat.reduceEqDiff, Nat.reduceLT, Nat.reduceLeDiff, Nat.reduceAdd, Nat.reduceMul, Nat.reduceSub, reduceCtorEq, Int.reduceLT, Int.reduceLE, Int.reduceEq, Int.reduceBEq, Int.reduceBNe, Int.reduceToNat, Int.reduceAdd, Int.reduceNeg, Int.reduceSub, anyTo_zero]
          · intro k hk
            have hki : (k : Int) < i := by omega
            have hzc := hd.zc (by intro e; rw [e] at hi; simp at hi)
            have h66 := inner (m + 1) (by omega) i k hi (by omega)
            simp only [cast_succ, hzc] at h66
            have ci := card_at d i hi
            have ck := card_at d k (by omega)
            simp (disch := omega) only [go_sem, ↓reduceIte, Nat.reduceBEq, Nat.reduceEqDiff, Nat.reduceLT, Nat.reduceLeDiff, Nat.reduceAdd, Nat.reduceMul, Nat.reduceSub, reduceCtorEq, Int.reduceLT, Int.reduceLE, Int.reduceEq, Int.reduceBEq, Int.reduceBNe, Int.reduceToNat, Int.reduceAdd, Int.reduceNeg, Int.reduceSub, eDc, hki, hzc, eC_clean, eC_get, ci, ck, eC, h66, wrap_i64, anyTo_succ, Bool.or_assoc]
          · simp only [go_sem, ↓reduceIte, Nat.reduceBEq, Nat.reduceEqDiff, Nat.reduceLT, Nat.reduceLeDiff, Nat.reduceAdd, Nat.reduceMul, Nat.reduceSub, reduceCtorEq, Int.reduceLT, Int.reduceLE, Int.reduceEq, Int.reduceBEq, Int.reduceBNe, Int.reduceToNat, Int.reduceAdd, Int.reduceNeg, Int.reduceSub, anyTo_succ]
        · simp only [go_sem, ↓reduceIte, Nat.reduceBEq, Nat.reduceEqDiff, Nat.reduceLT, Nat.reduceLeDiff, Nat.reduceAdd, Nat.reduceMul, Nat.reduceSub, reduceCtorEq, Int.reduceLT, Int.reduceLE, Int.reduceEq, Int.reduceBEq, Int.reduceBNe, Int.reduceToNat, Int.reduceAdd, Int.reduceNeg, Int.reduceSub, metB, eDc]
      · have hn : ((d.steps.toNat : Nat) : Int) = d.steps := by omega
        have hni : ¬ (d.steps + 1 ≤ d.steps) := by omega
        simp only [go_sem, ↓reduceIte, Nat.reduceBEq, Nat.reduceEqDiff, Nat.reduceLT, Nat.reduceLeDiff, Nat.reduceAdd, Nat.reduceMul, Nat.reduceSub, reduceCtorEq, Int.reduceLT, Int.reduceLE, Int.reduceEq, Int.reduceBEq, Int.reduceBNe, Int.reduceToNat, Int.reduceAdd, Int.reduceNeg, Int.reduceSub, hn, hni, eDc]
      simp only [go_sem, ↓reduceIte, Nat.reduceBEq, Nat.reduceEqDiff, Nat.reduceLT, Nat.reduceLeDiff, Nat.reduceAdd, Nat.reduceMul, Nat.reduceSub, reduceCtorEq, Int.reduceLT, Int.reduceLE, Int.reduceEq, Int.reduceBEq, Int.reduceBNe, Int.reduceToNat, Int.reduceAdd, Int.reduceNeg, Int.reduceSub]
    · rw [f1]
      rw [w_rounds_u (fun k => [(7, .int .i64 ((k : Int) + 1))]) n .ret [(2, .int .i64 ((n : Int) + 1)), (7, .int .i64 ((n : Int) + 1)), (8, .bool false), (9, .int .i64 d.cards.length)] ?_ ?_ ?_ rfl]
      rotate_left
      · simp only [go_sem, ↓reduceIte, Nat.reduceBEq, Nat.reduceEqDiff, Nat.reduceLT, Nat.reduceLeDiff, Nat.reduceAdd, Nat.reduceMul, Nat.reduceSub, reduceCtorEq, Int.reduceLT, Int.reduceLE, Int.reduceEq, Int.reduceBEq, Int.reduceBNe, Int.reduceToNat, Int.reduceAdd, Int.reduceNeg, Int.reduceSub]
      · intro m hm
        have hmi : (m : Int) + 1 ≤ d.steps := by omega
        have hmet := allTo_at f4 hm
        have hmet : metB d (m + 1) = true := by simpa using hmet
        simp (disch := omega) only [go_sem, ↓reduceIte, Nat.reduceBEq, Nat.reduceEqDiff, Nat.reduceLT, Nat.reduceLeDiff, Nat.reduceAdd, Nat.reduceMul, Nat.reduceSub, reduceCtorEq, Int.reduceLT, Int.reduceLE, Int.reduceEq, Int.reduceBEq, Int.reduceBNe, Int.reduceToNat, Int.reduceAdd, Int.reduceNeg, Int.reduceSub, eDc, hmi, wrap_i64]
        rw [w_rounds_u (fun i => [(8, .bool (anyTo (fun i => anyTo (fun k => nearB d.wear (cardE d i) (cardE d k) (m + 1)) i) i)), (9, .int .i64 i)]) d.cards.length (.exit 2) [(8, .bool (metB d (m + 1))), (9, .int .i64 d.cards.length)] ?_ ?_ ?_ rfl]
        · simp (disch := omega) only [go_sem, ↓reduceIte, Nat.reduceBEq, Nat.reduceEqDiff, Nat.reduceLT, Nat.reduceLeDiff, Nat.reduceAdd, Nat.reduceMul, Nat.reduceSub, reduceCtorEq, Int.reduceLT, Int.reduceLE, Int.reduceEq, Int.reduceBEq, Int.reduceBNe, Int.reduceToNat, Int.reduceAdd, Int.reduceNeg, Int.reduceSub, eDc, hmet, wrap_i64]
        · simp only [go_sem, ↓reduceIte, Nat.reduceBEq, Nat.reduceEqDiff, Nat.reduceLT, Nat.reduceLeDiff, Nat.reduceAdd, Nat.reduceMul, Nat.reduceSub, reduceCtorEq, Int.reduceLT, Int.reduceLE, Int.reduceEq, Int.reduceBEq, Int.reduceBNe, Int.reduceToNat, Int.reduceAdd, Int.reduceNeg, Int.reduceSub, anyTo_zero]
        · intro i hi
          have hii : (i : Int) < d.cards.length := by omega
          simp (disch := omega) only [go_sem, ↓reduceIte, Nat.reduceBEq, Nat.reduceEqDiff, Nat.reduceLT, Nat.reduceLeDiff, Nat.reduceAdd, Nat.reduceMul, Nat.reduceSub, reduceCtorEq, Int.reduceLT, Int.reduceLE, Int.reduceEq, Int.reduceBEq, Int.reduceBNe, Int.reduceToNat, Int.reduceAdd, Int.reduceNeg, Int.reduceSub, eDc, hii, wrap_i64]
          rw [w_rounds_u (fun k => [(8, .bool (anyTo (fun i => anyTo (fun k => nearB d.wear (cardE d i) (cardE d k) (m + 1)) i) i || anyTo (fun k => nearB d.wear (cardE d i) (cardE d k) (m + 1)) k)), (10, .int .i64 k)]) i (.exit 4) [(8, .bool (anyTo (fun i => anyTo (fun k => nearB d.wear (cardE d i) (cardE d k) (m + 1)) i) (i + 1))), (10, .int .i64 i)] ?_ ?_ ?_ rfl]
          · simp (disch := omega) only [go_sem, ↓reduceIte, Nat.reduceBEq, Nat.reduceEqDiff, Nat.reduceLT, Nat.reduceLeDiff, Nat.reduceAdd, Nat.reduceMul, Nat.reduceSub, reduceCtorEq, Int.reduceLT, Int.reduceLE, Int.reduceEq, Int.reduceBEq, Int.reduceBNe, Int.reduceToNat, Int.reduceAdd, Int.reduceNeg, Int.reduceSub, wrap_i64]
          · simp only [go_sem, ↓reduceIte, Nat.reduceBEq, Nat.reduceEqDiff, Nat.reduceLT, Nat.reduceLeDiff, Nat.reduceAdd, Nat.reduceMul, Nat.reduceSub, reduceCtorEq, Int.reduceLT, Int.reduceLE, Int.reduceEq, Int.reduceBEq, Int.reduceBNe, Int.reduceToNat, Int.reduceAdd, Int.reduceNeg, Int.reduceSub, anyTo_zero]
          · intro k hk
            have hki : (k : Int) < i := by omega
            have hzc := hd.zc (by intro e; rw [e] at hi; simp at hi)
            have h66 := inner (m + 1) (by omega) i k hi (by omega)
            simp only [cast_succ, hzc] at h66
            have ci := card_at d i hi
            have ck := card_at d k (by omega)
            simp (disch := omega) only [go_sem, ↓reduceIte, Nat.reduceBEq, Nat.reduceEqDiff, Nat.reduceLT, Nat.reduceLeDiff, Nat.reduceAdd, Nat.reduceMul, Nat.reduceSub, reduceCtorEq, Int.reduceLT, Int.reduceLE, Int.reduceEq, Int.reduceBEq, Int.reduceBNe, Int.reduceToNat, Int.reduceAdd, Int.reduceNeg, Int.reduceSub, eDc, hki, hzc, eC_clean, eC_get, ci, ck, eC, h66, wrap_i64, anyTo_succ, Bool.or_assoc]
          · simp only [go_sem, ↓reduceIte, Nat.reduceBEq, Nat.reduceEqDiff, Nat.reduceLT, Nat.reduceLeDiff, Nat.reduceAdd, Nat.reduceMul, Nat.reduceSub, reduceCtorEq, Int.reduceLT, Int.reduceLE, Int.reduceEq, Int.reduceBEq, Int.reduceBNe, Int.reduceToNat, Int.reduceAdd, Int.reduceNeg, Int.reduceSub, anyTo_succ]
        · simp only [go_sem, ↓reduceIte, Nat.reduceBEq, Nat.reduceEqDiff, Nat.reduceLT, Nat.reduceLeDiff, Nat.reduceAdd, Nat.reduceMul, Nat.reduceSub, reduceCtorEq, Int.reduceLT, Int.reduceLE, Int.reduceEq, Int.reduceBEq, Int.reduceBNe, Int.reduceToNat, Int.reduceAdd, Int.reduceNeg, Int.reduceSub, metB, eDc]
      · have hmi : (n : Int) + 1 ≤ d.steps := by omega
        have hmet : metB d (n + 1) = false := by simpa using f3
        simp (disch := omega) only [go_sem, ↓reduceIte, Nat.reduceBEq, Nat.reduceEqDiff, Nat.reduceLT, Nat.reduceLeDiff, Nat.reduceAdd, Nat.reduceMul, Nat.reduceSub, reduceCtorEq, Int.reduceLT, Int.reduceLE, Int.reduceEq, Int.reduceBEq, Int.reduceBNe, Int.reduceToNat, Int.reduceAdd, Int.reduceNeg, Int.reduceSub, eDc, hmi, wrap_i64]
        rw [w_rounds_u (fun i => [(8, .bool (anyTo (fun i => anyTo (fun k => nearB d.wear (cardE d i) (cardE d k) (n + 1)) i) i)), (9, .int .i64 i)]) d.cards.length (.exit 2) [(8, .bool (metB d (n + 1))), (9, .int .i64 d.cards.length)] ?_ ?_ ?_ rfl]
        · simp (disch := omega) only [go_sem, ↓reduceIte, Nat.reduceBEq, Nat.reduceEqDiff, Nat.reduceLT, Nat.reduceLeDiff, Nat.reduceAdd, Nat.reduceMul, Nat.reduceSub, reduceCtorEq, Int.reduceLT, Int.reduceLE, Int.reduceEq, Int.reduceBEq, Int.reduceBNe, Int.reduceToNat, Int.reduceAdd, Int.reduceNeg, Int.reduceSub, eDc, hmet, wrap_i64]
        · simp only [go_sem, ↓reduceIte, Nat.reduceBEq, Nat.reduceEqDiff, Nat.reduceLT, Nat.reduceLeDiff, Nat.reduceAdd, Nat.reduceMul, Nat.reduceSub, reduceCtorEq, Int.reduceLT, Int.reduceLE, Int.reduceEq, Int.reduceBEq, Int.reduceBNe, Int.reduceToNat, Int.reduceAdd, Int.reduceNeg, Int.reduceSub, anyTo_zero]
        · intro i hi
          have hii : (i : Int) < d.cards.length := by omega
          simp (disch := omega) only [go_sem, ↓reduceIte, Nat.reduceBEq, Nat.reduceEqDiff, Nat.reduceLT, Nat.reduceLeDiff, Nat.reduceAdd, Nat.reduceMul, Nat.reduceSub, reduceCtorEq, Int.reduceLT, Int.reduceLE, Int.reduceEq, Int.reduceBEq, Int.reduceBNe, Int.reduceToNat, Int.reduceAdd, Int.reduceNeg, Int.reduceSub, eDc, hii, wrap_i64]
          rw [w_rounds_u (fun k => [(8, .bool (anyTo (fun i => anyTo (fun k => nearB d.wear (cardE d i) (cardE d k) (n + 1)) i) i || anyTo (fun k => nearB d.wear (cardE d i) (cardE d k) (n + 1)) k)), (10, .int .i64 k)]) i (.exit 4) [(8, .bool (anyTo (fun i => anyTo (fun k => nearB d.wear (cardE d i) (cardE d k) (n + 1)) i) (i + 1))), (10, .int .i64 i)] ?_ ?_ ?_ rfl]
          · simp (disch := omega) only [go_sem, ↓reduceIte, Nat.reduceBEq, Nat.reduceEqDiff, Nat.reduceLT, Nat.reduceLeDiff, Nat.reduceAdd, Nat.reduceMul, Nat.reduceSub, reduceCtorEq, Int.reduceLT, Int.reduceLE, Int.reduceEq, Int.reduceBEq, Int.reduceBNe, Int.reduceToNat, Int.reduceAdd, Int.reduceNeg, Int.reduceSub, wrap_i64]
          · simp only [go_sem, ↓reduceIte, Nat.reduceBEq, Nat.reduceEqDiff, Nat.reduceLT, Nat.reduceLeDiff, Nat.reduceAdd, Nat.reduceMul, Nat.reduceSub, reduceCtorEq, Int.reduceLT, Int.reduceLE, Int.reduceEq, Int.reduceBEq, Int.reduceBNe, Int.reduceToNat, Int.reduceAdd, Int.reduceNeg, Int.reduceSub, anyTo_zero]
          · intro k hk
            have hki : (k : Int) < i := by omega
            have hzc := hd.zc (by intro e; rw [e] at hi; simp at hi)
            have h66 := inner (n + 1) (by omega) i k hi (by omega)
            simp only [cast_succ, hzc] at h66
            have ci := card_at d i hi
            have ck := card_at d k (by omega)
            simp (disch := omega) only [go_sem, ↓reduceIte, Nat.reduceBEq, Nat.reduceEqDiff, Nat.reduceLT, Nat.reduceLeDiff, Nat.reduceAdd, Nat.reduceMul, Nat.reduceSub, reduceCtorEq, Int.reduceLT, Int.reduceLE, Int.reduceEq, Int.reduceBEq, Int.reduceBNe, Int.reduceToNat, Int.reduceAdd, Int.reduceNeg, Int.reduceSub, eDc, hki, hzc, eC_clean, eC_get, ci, ck, eC, h66, wrap_i64, anyTo_succ, Bool.or_assoc]
          · simp only [go_sem, ↓reduceIte, Nat.reduceBEq, Nat.reduceEqDiff, Nat.reduceLT, Nat.reduceLeDiff, Nat.reduceAdd, Nat.reduceMul, Nat.reduceSub, reduceCtorEq, Int.reduceLT, Int.reduceLE, Int.reduceEq, Int.reduceBEq, Int.reduceBNe, Int.reduceToNat, Int.reduceAdd, Int.reduceNeg, Int.reduceSub, anyTo_succ]
        · simp only [go_sem, ↓reduceIte, Nat.reduceBEq, Nat.reduceEqDiff, Nat.reduceLT, Nat.reduceLeDiff, Nat.reduceAdd, Nat.reduceMul, Nat.reduceSub, reduceCtorEq, Int.reduceLT, Int.reduceLE, Int.reduceEq, Int.reduceBEq, Int.reduceBNe, Int.reduceToNat, Int.reduceAdd, Int.reduceNeg, Int.reduceSub, metB, eDc]
      simp only [go_sem, ↓reduceIte, Nat.reduceBEq, Nat.reduceEqDiff, Nat.reduceLT, Nat.reduceLeDiff, Nat.reduceAdd, Nat.reduceMul, Nat.reduceSub, reduceCtorEq, Int.reduceLT, Int.reduceLE, Int.reduceEq, Int.reduceBEq, Int.reduceBNe, Int.reduceToNat, Int.reduceAdd, Int.reduceNeg, Int.reduceSub]
  · rw [if_neg hc]
    have hb1 : ((checkT d).2.2 != 0) = true := by simpa using hc
    simp only [go_sem, ↓reduceIte, Nat.reduceBEq, Nat.reduceEqDiff, Nat.reduceLT, Nat.reduceLeDiff, Nat.reduceAdd, Nat.reduceMul, Nat.reduceSub, reduceCtorEq, Int.reduceLT, Int.reduceLE, Int.reduceEq, Int.reduceBEq, Int.reduceBNe, Int.reduceToNat, Int.reduceAdd, Int.reduceNeg, Int.reduceSub, eD, eDc, eC_under, tup3] at hcl h17 ⊢
    simp only [go_sem, ↓reduceIte, Nat.reduceBEq, Nat.reduceEqDiff, Nat.reduceLT, Nat.reduceLeDiff, Nat.reduceAdd, Nat.reduceMul, Nat.reduceSub, reduceCtorEq, Int.reduceLT, Int.reduceLE, Int.reduceEq, Int.reduceBEq, Int.reduceBNe, Int.reduceToNat, Int.reduceAdd, Int.reduceNeg, Int.reduceSub, eC_clean, h17, hb1]
end Go.Proofs.Ytbfodfepgefloaa
end
