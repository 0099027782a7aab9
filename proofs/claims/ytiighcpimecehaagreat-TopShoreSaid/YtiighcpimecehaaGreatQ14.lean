/- Parts of the proof, joined: Z-numbers. The examples of layer 7: their lists, and what is said of them. Z-numbers. Awake of layer 7. Z-numbers. The test of a list of money, by the reference. What the test of a house computes: the reference's. Rows of numbers: which comes first, the same, has, lost. Small sets as numbers; rows held against each other by the library. Loops whose slots are said by a relation; slices of slices that grow. What is known of a valid house; what an agent pays, and whether books agree, by the reference. All rates that days can have, and all truths, by the reference. All truths, and what asks for them, by the reference. Regions that draw their order, operation by operation; loops whose heap is said by a relation; spans that grow. Rates of a day, by the reference. What agents pay in all truths, by the reference. What an agent pays, by the program. What is paid for an entry, by the program; loops that may be left in more than one way. All truths, by the program: the function that calls itself. All truths, by the program: what begins the search. The program's search and the reference's list are the same. A house is looked at, and entered. A house is entered; numbers that have to be below others. The first truth, by the program. The least and the greatest number of all truths, by the program. Rates of a day, by the program. What an agent pays in all truths, by the program. What an agent has paid in all, by the program. Whether books agree, choices, the fewest entries that are false, and what to send, by the reference. Choices, the fewest entries that are false, and what to send, by the reference. The fewest entries that are false, and what to send, by the reference. What to send, by the program. Z-numbers. What is owed, paid out, in plain words. Conditions: those of each law. -/
import Derived.Test.YtiighcpimecehaaGreatQ13
import Derived.KernelRfl
set_option linter.unusedSimpArgs false
set_option linter.unusedVariables false
section
namespace Go.Proofs.YtiighcpimecehaaGreat
open Go.Proofs

def nAna : ByteArray := ⟨#[97, 110, 97]⟩
def nBen : ByteArray := ⟨#[98, 101, 110]⟩
def nCora : ByteArray := ⟨#[99, 111, 114, 97]⟩
def nFst : ByteArray := ⟨#[102, 105, 114, 115, 116]⟩
def nSnd : ByteArray := ⟨#[115, 101, 99, 111, 110, 100]⟩
def nTrd : ByteArray := ⟨#[116, 104, 105, 114, 100]⟩
def xw : List Wo := [⟨2, 0, 1, -1, true⟩, ⟨1, 2, 1, -1, true⟩, ⟨0, 2, 2, -1, false⟩, ⟨3, 0, 1, 0, false⟩]
def mX (ws : List Wo) (ps : List Pd) (z : Nat) : Mo := { zw := 1, who := [nAna, nBen, nCora], zs := 3, sums := [⟨nFst, 20, 3⟩, ⟨nSnd, 30, 6⟩, ⟨nTrd, 15, 7⟩], zo := 5, words := ws, zp := z, paid := ps }
def xp : List Pd := [⟨0, 0⟩, ⟨0, 1⟩, ⟨2, 2⟩]
def mA : Mo := mX xw [] 0
def mB : Mo := mX xw xp 2
def mC : Mo := mX (xw ++ [⟨0, 0, 0, -1, true⟩]) [] 0
theorem m36_false (h : Heap) : callPure (EW tabX) 36 [.bool false] h = some (eM mA, h) := by
  rw [callPure_eq, w_call _ fn_36 rfl]
  simp only [go_sem, ↓reduceIte, simprocAttr, eM, eMc, mA, mX, xw, List.map_cons, List.map_nil, eSu, eWo, nAna, nBen, nCora, nFst, nSnd, nTrd, S]
  done
theorem m36_true (h : Heap) : callPure (EW tabX) 36 [.bool true] h = some (eM mB, h) := by
  rw [callPure_eq, w_call _ fn_36 rfl]
  simp only [go_sem, ↓reduceIte, simprocAttr, eM, eMc, mB, mX, xw, xp, List.map_cons, List.map_nil, eSu, eWo, ePd, nAna, nBen, nCora, nFst, nSnd, nTrd, S]
  done
theorem m41 (a b : Int) (h : Heap) : callPure (EW tabX) 41 [.int .i64 a, .int .i64 b] h = some (.agg [.int .i64 a, .int .i64 b], h) := by
  rw [callPure_eq, w_call _ fn_41 rfl]
  simp only [go_sem, ↓reduceIte, simprocAttr]
theorem fits_X (ws : List Wo) (ps : List Pd) (z : Nat) (hz : ps ≠ [] → z = 2) (hw : ws.length < 1000000000000000000) (hp : ps.length < 1000000000000000000) : (mX ws ps z).fits := ⟨fun _ => rfl, fun _ => rfl, fun _ => rfl, hz, by simp [mX], by simp [mX], hw, hp, by intro c hc; simp only [mX, List.mem_cons, List.mem_nil_iff, or_false] at hc; rcases hc with rfl | rfl | rfl <;> decide, by intro c hc; simp only [mX, List.mem_cons, List.mem_nil_iff, or_false] at hc; rcases hc with rfl | rfl | rfl <;> decide⟩
theorem fits_mA : mA.fits := fits_X _ _ _ (fun h => absurd rfl h) (by decide) (by decide)
theorem fits_mB : mB.fits := fits_X _ _ _ (fun _ => rfl) (by decide) (by decide)
theorem fits_mC : mC.fits := fits_X _ _ _ (fun h => absurd rfl h) (by decide) (by decide)
theorem truths_mA : truthsM mA 0 = [[1, 1, 0], [1, 1, 2]] := by kernel_rfl
theorem ent_mA : enterM mA 0 [] = 0 := by kernel_rfl
theorem ent_mB : enterM mB 0 [] = 0 := by kernel_rfl
theorem k11 (h : Heap) : callPure (EW tabX) 11 [eM mA] h = some (.tup [vI [1, 1, 0], .int .i64 2, .int .i64 0], h) := by
  have := m11_yes mA fits_mA ent_mA h
  rw [truths_mA] at this; exact this
theorem k16 (h : Heap) : callPure (EW tabX) 16 [eM mA, .int .i64 2] h = some (.tup [vI [0, 2], .int .i64 0], h) := (m16 mA fits_mA 2 h).trans (congrArg (fun v => some (v, h)) (by kernel_rfl))
theorem k15a (h : Heap) : callPure (EW tabX) 15 [eM mA, .int .i64 1] h = some (.tup [.int .i64 1, .int .i64 0], h) := (m15 mA fits_mA 1 h).trans (congrArg (fun v => some (v, h)) (by kernel_rfl))
theorem k15b (h : Heap) : callPure (EW tabX) 15 [eM mA, .int .i64 2] h = some (.tup [.int .i64 0, .int .i64 9], h) := (m15 mA fits_mA 2 h).trans (congrArg (fun v => some (v, h)) (by kernel_rfl))
theorem k37a (h : Heap) : callPure (EW tabX) 37 [eM mA] h = some (.tup [vI [2], .int .i64 0], h) := (m37 mA fits_mA h).trans (congrArg (fun v => some (v, h)) (by kernel_rfl))
theorem k37c (h : Heap) : callPure (EW tabX) 37 [eM mC] h = some (.tup [vI [], .int .i64 8], h) := (m37 mC fits_mC h).trans (congrArg (fun v => some (v, h)) (by kernel_rfl))
theorem k38 (h : Heap) : callPure (EW tabX) 38 [eM mA] h = some (.tup [vI [2], .int .i64 0], h) := (m38 mA fits_mA ent_mA h).trans (congrArg (fun v => some (v, h)) (by kernel_rfl))
theorem dues_mA0 : duesM mA 0 = [15, 0] := by kernel_rfl
theorem dues_mA1 : duesM mA 1 = [50, 50] := by kernel_rfl
theorem k22a (h : Heap) : callPure (EW tabX) 22 [eM mA, .int .i64 0] h = some (.tup [.agg [.int .i64 0, .int .i64 15], .int .i64 0], h) :=
  m22 mA fits_mA 0 (by kernel_rfl) 0 15 (by show isMin (duesM mA 0) 0; rw [dues_mA0]; simp [isMin]) (by show isMax (duesM mA 0) 15; rw [dues_mA0]; simp [isMax]) h
theorem k22b (h : Heap) : callPure (EW tabX) 22 [eM mA, .int .i64 1] h = some (.tup [.agg [.int .i64 50, .int .i64 50], .int .i64 0], h) :=
  m22 mA fits_mA 1 (by kernel_rfl) 50 50 (by show isMin (duesM mA 1) 50; rw [dues_mA1]; simp [isMin]) (by show isMax (duesM mA 1) 50; rw [dues_mA1]; simp [isMax]) h
theorem k39 (h : Heap) : callPure (EW tabX) 39 [eM mA] h = some (.tup [.int .i64 50, .int .i64 65, .int .i64 0], h) := (m39 mA fits_mA ent_mA rfl h).trans (congrArg (fun v => some (v, h)) (by kernel_rfl))
theorem k40 (h : Heap) : callPure (EW tabX) 40 [eM mB] h = some (.tup [vI [0], .int .i64 0], h) := (m40 mB fits_mB ent_mB h).trans (congrArg (fun v => some (v, h)) (by kernel_rfl))
end Go.Proofs.YtiighcpimecehaaGreat
end
section
namespace Go.Proofs.YtiighcpimecehaaGreat
open Go.Proofs

theorem eqSp (a b c d : Int) : eqCells [0, 0] [.int .i64 a, .int .i64 b] [.int .i64 c, .int .i64 d] = some (a == c && b == d) := by simp [eqCells]
theorem app1 (B : List ABlk) (xs : List AV) (hl : xs.length = 4) (hv : xs.all AV.var = true) : appendAV tabX 35 0 ⟨B, []⟩ (.lst 1 5 []) (.lst 0 5 xs) = some (.lst 2 5 xs, ⟨B, [true]⟩) := by
  unfold appendAV
  simp only [go_sem, ↓reduceIte, simprocAttr, hl, hv]
theorem app2 (B : List ABlk) (xs : List AV) (hl : xs.length = 4) : appendAV tabX 35 1 ⟨B, [true]⟩ (.lst 2 5 xs) (.lst 1 5 [.agg [.int .i64 0, .int .i64 0, .int .i64 0, .int .i64 (-1), .bool true]]) = some (.lst 3 5 (xs ++ [.agg [.int .i64 0, .int .i64 0, .int .i64 0, .int .i64 (-1), .bool true]]), ⟨B, [false, true]⟩) := by
  unfold appendAV
  simp only [go_sem, ↓reduceIte, simprocAttr, hl]
set_option maxRecDepth 100000 in
set_option maxHeartbeats 4000000 in
theorem m7 (h : Heap) : callPure (EW tabX) 7 [] h = some (.bool true, h) := by
  have i1 := m36_false
  have i2 := m36_true
  have q1 := k11
  have q2 := k16
  have q3 := k15a
  have q4 := k15b
  have q5 := k37a
  have q6 := k37c
  have q7 := k38
  have q8 := k22a
  have q9 := k22b
  have q10 := k39
  have q11 := k40
  have e1 := fun h => k20' [1, 1, 0] (by decide) h (by decide)
  have e2 := fun h => k20' [0, 2] (by decide) h (by decide)
  have e3 := fun h => k20' [2] (by decide) h (by decide)
  have e4 := fun h => k20' [0] (by decide) h (by decide)
  have cl1 := eM_clean mA
  have cl2 := eM_clean mB
  have cl3 := eM_clean mC
  have w3 : mC.words.map eWo = mA.words.map eWo ++ [.agg [.int .i64 0, .int .i64 0, .int .i64 0, .int .i64 (-1), .bool true]] := rfl
  have sA : eMc mA = [.lst 0 1 (S mA.who), .lst 0 3 (mA.sums.map eSu), .lst 0 5 (mA.words.map eWo), .lst 0 0 []] := rfl
  have sB : eMc mB = [.lst 0 1 (S mA.who), .lst 0 3 (mA.sums.map eSu), .lst 0 5 (mA.words.map eWo), .lst 0 2 (mB.paid.map ePd)] := rfl
  have sC : eMc mC = [.lst 0 1 (S mA.who), .lst 0 3 (mA.sums.map eSu), .lst 0 5 (mC.words.map eWo), .lst 0 0 []] := rfl
  have wl : (mA.words.map eWo).length = 4 := rfl
  have wc := eWo_clean mA.words
  have cw := eWo_clean mC.words
  have uw := fun n => eWo_under n mC.words
  have wu := fun n => eWo_under n mA.words
  have wv := eWo_var mA.words
  have sc := eSu_clean mA.sums
  have su := fun n => eSu_under n mA.sums
  have pc := ePd_clean mB.paid
  have pu := fun n => ePd_under n mB.paid
  simp only [I_c, I_nil] at e1 e2 e3 e4
  rw [w3] at cw
  simp only [w3] at uw
  simp only [eM, sA, sB, sC, w3] at i1 i2 q1 q2 q3 q4 q5 q6 q7 q8 q9 q10 q11 cl1 cl2 cl3
  generalize mA.words.map eWo = xW at *
  generalize mA.sums.map eSu = xS at *
  generalize mB.paid.map ePd = xP at *
  have a1 := fun B => app1 B xW wl wv
  have a2 := fun B => app2 B xW wl
  rw [callPure_eq, w_call _ fn_7 rfl]
  simp only [go_sem, ↓reduceIte, simprocAttr, zipFrom_nil, List.append_eq, i1, i2, q1, q2, q3, q4, q5, q6, q7, q8, q9, q10, q11, cl1, cl2, cl3, wl, wc, wu, wv, sc, su, pc, pu, vI_clean, e1, e2, e3, e4, a1, a2, cw, uw, m41, eqSp, aggBin, beq_self_eq_true]
  done
end Go.Proofs.YtiighcpimecehaaGreat
end
section
namespace Go.Proofs.YtiighcpimecehaaGreat
open Go.Proofs

theorem notin (n lo hi : Int) : (!inR n lo hi) = out lo hi n := by rw [← out_not, Bool.not_not]
theorem m53 (n : Nat) (hn : n ≤ 4) (h : Heap) : callPure (EW tabX) 53 [.int .i64 n] h = some (.int .i64 (bitsN n), h) := by
  rw [callPure_eq, w_call _ fn_53 rfl]
  simp only [go_sem, ↓reduceIte, simprocAttr]
  rw [w_rounds_u (fun k => [(3, .int .i64 (bitsN k)), (4, .int .i64 k)]) n (.exit 0) [(3, .int .i64 (bitsN n)), (4, .int .i64 n)] ?_ ?_ ?_ rfl]
  · simp only [go_sem, ↓reduceIte, simprocAttr]
  · simp only [go_sem, ↓reduceIte, simprocAttr, bitsN]
  · intro k hk
    have hki : (k : Int) < n := by omega
    have h2 := bitsN_le (n := k) (by omega)
    have h3 : bitsN (k + 1) = 2 * bitsN k + 1 := by unfold bitsN; rw [Int.pow_succ]; omega
    rw [h3]
    have h4 : 0 ≤ bitsN k ∧ bitsN k ≤ 15 := by unfold bitsN; omega
    generalize bitsN k = b at *
    simp (disch := omega) only [go_sem, ↓reduceIte, simprocAttr, hki, wrap_i64]
  · simp only [go_sem, ↓reduceIte, simprocAttr, Int.lt_irrefl]
set_option maxHeartbeats 2000000 in
theorem m54 (m : Mo) (hm : m.fits) (k : Nat) (x : Wo) (hx : m.words[k]? = some x) (h : Heap) : callPure (EW tabX) 54 [eM m, .int .i64 k] h = some (.int .i64 (wordE m k x), h) := by
  have hk := (List.getElem?_eq_some_iff.1 hx).1
  have hki : (k : Int) < m.words.length := by omega
  have hz1 := hm.zo (by intro e; rw [e] at hk; simp at hk)
  have hls := hm.ls
  have hlw := hm.lw
  have hlo := hm.lo
  rw [callPure_eq, w_call _ fn_54 rfl]
  unfold wordE
  cases h0 : out 0 3 x.says with
  | true => simp (disch := omega) only [go_sem, ↓reduceIte, simprocAttr, eM, eMc, eWo_get, hx, eWo, hki, hz1, c42, notin, h0, wrap_i64]
  | false =>
  by_cases hs : 2 ≤ x.says
  · cases h1 : out 0 ((m.sums.length : Int) - 1) x.sum with
    | true => simp (disch := omega) only [go_sem, ↓reduceIte, simprocAttr, eM, eMc, eWo_get, hx, eWo, hki, hz1, c42, notin, h0, hs, h1, wrap_i64]
    | false =>
    cases h2 : out 0 ((m.sums.length : Int) - 1) x.of with
    | true => simp (disch := omega) only [go_sem, ↓reduceIte, simprocAttr, eM, eMc, eWo_get, hx, eWo, hki, hz1, c42, notin, h0, hs, h1, h2, wrap_i64]
    | false =>
    cases h3 : out (-1) ((m.words.length : Int) - 1) x.back with
    | true => simp (disch := omega) only [go_sem, ↓reduceIte, simprocAttr, eM, eMc, eWo_get, hx, eWo, hki, hz1, c42, notin, h0, hs, h1, h2, h3, wrap_i64]
    | false =>
    cases h4 : x.back == (k : Int) with
    | true => simp (disch := omega) only [go_sem, ↓reduceIte, simprocAttr, eM, eMc, eWo_get, hx, eWo, hki, hz1, c42, notin, h0, hs, h1, h2, h3, h4, wrap_i64]
    | false =>
    cases h5 : x.of == x.sum with
    | true => simp (disch := omega) only [go_sem, ↓reduceIte, simprocAttr, eM, eMc, eWo_get, hx, eWo, hki, hz1, c42, notin, h0, hs, h1, h2, h3, h4, h5, wrap_i64]
    | false => simp (disch := omega) only [go_sem, ↓reduceIte, simprocAttr, eM, eMc, eWo_get, hx, eWo, hki, hz1, c42, notin, h0, hs, h1, h2, h3, h4, h5, wrap_i64]
  · cases h1 : out 0 ((m.sums.length : Int) - 1) x.sum with
    | true => simp (disch := omega) only [go_sem, ↓reduceIte, simprocAttr, eM, eMc, eWo_get, hx, eWo, hki, hz1, c42, notin, h0, hs, h1, wrap_i64]
    | false =>
    cases h2 : out 0 ((m.who.length : Int) - 1) x.of with
    | true => simp (disch := omega) only [go_sem, ↓reduceIte, simprocAttr, eM, eMc, eWo_get, hx, eWo, hki, hz1, c42, notin, h0, hs, h1, h2, wrap_i64]
    | false =>
    cases h3 : out (-1) ((m.words.length : Int) - 1) x.back with
    | true => simp (disch := omega) only [go_sem, ↓reduceIte, simprocAttr, eM, eMc, eWo_get, hx, eWo, hki, hz1, c42, notin, h0, hs, h1, h2, h3, wrap_i64]
    | false =>
    cases h4 : x.back == (k : Int) with
    | true => simp (disch := omega) only [go_sem, ↓reduceIte, simprocAttr, eM, eMc, eWo_get, hx, eWo, hki, hz1, c42, notin, h0, hs, h1, h2, h3, h4, wrap_i64]
    | false => simp (disch := omega) only [go_sem, ↓reduceIte, simprocAttr, eM, eMc, eWo_get, hx, eWo, hki, hz1, c42, notin, h0, hs, h1, h2, h3, h4, wrap_i64]
theorem eM_cl (m : Mo) : (eM m).clean = some (eM m) := by simp only [go_sem, ↓reduceIte, simprocAttr, eM, eMc]
def sNames (l : List Su) : List ByteArray := l.map (·.name)
theorem sNames_any (l : List Su) (s : ByteArray) : (sNames l).any (fun x => x == s) = l.any (fun y => y.name == s) := by simp [sNames, List.any_map]; rfl
theorem sNames_succ {l : List Su} {k : Nat} {x : Su} (h : l[k]? = some x) : sNames (l.take (k + 1)) = sNames (l.take k) ++ [x.name] := map_succ _ h
set_option maxHeartbeats 4000000 in
theorem m17 (m : Mo) (hm : m.fits) (h : Heap) : callPure (EW tabX) 17 [eM m] h = some (tup3 (checkM m), h) := by
  have hls := hm.ls
  have hlw := hm.lw
  have hlo := hm.lo
  have hlp := hm.lp
  rw [callPure_eq, w_call _ fn_17 rfl]
  unfold checkM
  by_cases h1 : 4 < m.who.length
  · have h1i : (4 : Int) < m.who.length := by omega
    have p0 : partM m 0 = (0, 3) := by show failP 4 (whoI m) m.who.length = _; unfold failP; rw [if_pos h1i]
    rw [p0]
    simp only [go_sem, ↓reduceIte, simprocAttr, eM, eMc, h1i, tup3]
    done
  have h1i : ¬ (4 : Int) < m.who.length := by omega
  simp only [go_sem, ↓reduceIte, simprocAttr, eM, eMc, h1i]
  rw [w_first (fun k => [(5, .int .i64 k)]) (fun _ => ⟨[.cells (eMc m)], []⟩) (whoI m) m.who.length .ret (fun n => [(2, .int .i64 1), (3, .int .i64 n), (4, .int .i64 (whoI m n)), (5, .int .i64 n), (6, .int .i64 (whoI m n))]) (fun _ => ⟨[.cells (eMc m)], []⟩) (.exit 0) [(5, .int .i64 m.who.length)] ⟨[.cells (eMc m)], []⟩ ?_ ?_ ?_ ?_ ?_ rfl rfl]
  rotate_left
  · simp only [go_sem, ↓reduceIte, simprocAttr]
  · simp only [eMc]
  · intro k hk h0
    have hx := List.getElem?_eq_getElem hk
    have hki : (k : Int) < m.who.length := by omega
    have hkl : k ≤ m.who.length := by omega
    have hz := hm.zw (by intro e; rw [e] at hk; simp at hk)
    have hf := c58 (m.who.take k) m.who[k] 1 (fun _ => rfl) (by rw [List.length_take]; omega) (hm.nw _ (List.getElem_mem hk))
    have he : fresh m.who[k] (m.who.take k) = 0 := by
      have : whoI m k = whoE m.who k m.who[k] := by unfold whoI; rw [hx]
      rw [← h0, this]; rfl
    rw [he] at hf
    simp (disch := omega) only [go_sem, ↓reduceIte, simprocAttr, eMc, hki, hkl, hx, hz, S_take, hf, wrap_i64, bne_self_eq_false]
    done
  · intro k hk h0
    have hx := List.getElem?_eq_getElem hk
    have hki : (k : Int) < m.who.length := by omega
    have hkl : k ≤ m.who.length := by omega
    have hz := hm.zw (by intro e; rw [e] at hk; simp at hk)
    have hf := c58 (m.who.take k) m.who[k] 1 (fun _ => rfl) (by rw [List.length_take]; omega) (hm.nw _ (List.getElem_mem hk))
    have he : fresh m.who[k] (m.who.take k) = whoI m k := by
      have : whoI m k = whoE m.who k m.who[k] := by unfold whoI; rw [hx]
      rw [this]; rfl
    rw [he] at hf
    have hne : (whoI m k != 0) = true := by simpa using h0
    simp (disch := omega) only [go_sem, ↓reduceIte, simprocAttr, eMc, hki, hkl, hx, hz, S_take, hf, wrap_i64, hne]
    done
  · simp only [go_sem, ↓reduceIte, simprocAttr, eMc, Int.lt_irrefl]
  unfold firstW
  cases h3 : firstBad (whoI m) 0 m.who.length with
  | some n =>
    have p0 : partM m 0 = ((n : Int), whoI m n) := by show failP 4 (whoI m) m.who.length = _; unfold failP; rw [if_neg h1i, h3]
    rw [p0, if_pos (firstBad_some h3).2.2.1]
    simp only [go_sem, ↓reduceIte, simprocAttr, tup3]
  | none =>
    have p0 : partM m 0 = (0, 0) := by show failP 4 (whoI m) m.who.length = _; unfold failP; rw [if_neg h1i, h3]
    rw [p0, if_neg (by decide)]
    by_cases h5 : 5 < m.sums.length
    · have h5i : (5 : Int) < m.sums.length := by omega
      have p1 : partM m 1 = (0, 3) := by show failP 5 (sumI m) m.sums.length = _; unfold failP; rw [if_pos h5i]
      rw [p1]
      simp only [go_sem, ↓reduceIte, simprocAttr, eMc, h5i, tup3]
      done
    have h5i : ¬ (5 : Int) < m.sums.length := by omega
    simp only [go_sem, ↓reduceIte, simprocAttr, eMc, h5i]
    rw [w_first (fun k => [(7, .lst (tagT [] k) (zT 1 k) (S (sNames (m.sums.take k)))), (8, .int .i64 k)]) (fun k => ⟨[.cells (eMc m)], T [] k⟩) (sumI m) m.sums.length .ret
      (fun n => [(2, .int .i64 2), (3, .int .i64 n), (4, .int .i64 (sumI m n)), (7, .lst (tagT [] (n + 1)) 1 (S (sNames (m.sums.take (n + 1))))), (8, .int .i64 n), (9, .int .i64 (sumI m n))]) (fun n => ⟨[.cells (eMc m)], T [] (n + 1)⟩)
      (.exit 2) [(7, .lst (tagT [] m.sums.length) (zT 1 m.sums.length) (S (sNames m.sums))), (8, .int .i64 m.sums.length)] ⟨[.cells (eMc m)], T [] m.sums.length⟩ ?_ ?_ ?_ ?_ ?_ rfl rfl]
    rotate_left
    · simp only [go_sem, ↓reduceIte, simprocAttr, sNames]
    · simp only [go_sem, ↓reduceIte, simprocAttr, eMc]
    · intro k hk h0
      have hx := List.getElem?_eq_getElem hk
      have hki : (k : Int) < m.sums.length := by omega
      have hz := hm.zs (by intro e; rw [e] at hk; simp at hk)
      have hs := hm.ns _ (List.mem_of_getElem? hx)
      rw [sNames_succ hx, ← S_snoc]
      have hln : (sNames (m.sums.take k)).length = k := by simp [sNames]; omega
      have ha := fun B => append_step (X := tabX) (t := 33) (e := 9) (sz := 1) [] k B (zT 1 k) 1 1 (S (sNames (m.sums.take k))) [.str m.sums[k].name] (by simp only [go_sem, ↓reduceIte, simprocAttr]) (by simp only [go_sem, ↓reduceIte, simprocAttr])
        (by rcases Nat.eq_zero_or_pos k with e | e; exact .inl ⟨e, by rw [e]; simp [sNames, S]⟩; exact .inr (zT_pos e)) (.inl rfl) (by omega) (by simp only [go_sem, ↓reduceIte, simprocAttr, hln]; omega) (by simp only [go_sem, ↓reduceIte, simprocAttr, hln]; omega) (by simp only [go_sem, ↓reduceIte, simprocAttr]) (by simp only [go_sem, ↓reduceIte, simprocAttr])
      have hf := c58 (sNames (m.sums.take k)) m.sums[k].name (zT 1 k) (fun hne => zT_pos (by rcases Nat.eq_zero_or_pos k with e | e; rw [e] at hne; simp [sNames] at hne; exact e)) (by omega) hs
      have h53 := m53 m.who.length (by omega)
      have he : sumE m k m.sums[k] = 0 := by rw [← h0, sumI, hx]
      unfold sumE at he
      rw [← sNames_any] at he
      cases e1 : nameOk m.sums[k].name with
      | false => rw [e1] at he; cases he
      | true =>
        cases e2 : (sNames (m.sums.take k)).any (fun x => x == m.sums[k].name) with
        | true => rw [e1, e2] at he; cases he
        | false =>
          cases e3 : out 1 99 m.sums[k].pence with
          | true => rw [e1, e2, e3] at he; cases he
          | false =>
            cases e4 : out 1 (bitsN m.who.length) m.sums[k].fr with
            | true => rw [e1, e2, e3, e4] at he; cases he
            | false =>
              simp (disch := omega) only [go_sem, ↓reduceIte, simprocAttr, eMc, hki, eSu_get, hx, eSu, hz, hf, fresh, e1, e2, ha, h53, c42, notin, e3, e4, wrap_i64]
              done
    · intro k hk h0
      have hx := List.getElem?_eq_getElem hk
      have hki : (k : Int) < m.sums.length := by omega
      have hz := hm.zs (by intro e; rw [e] at hk; simp at hk)
      have hs := hm.ns _ (List.mem_of_getElem? hx)
      rw [sNames_succ hx, ← S_snoc]
      have hln : (sNames (m.sums.take k)).length = k := by simp [sNames]; omega
      have ha := fun B => append_step (X := tabX) (t := 33) (e := 9) (sz := 1) [] k B (zT 1 k) 1 1 (S (sNames (m.sums.take k))) [.str m.sums[k].name] (by simp only [go_sem, ↓reduceIte, simprocAttr]) (by simp only [go_sem, ↓reduceIte, simprocAttr])
        (by rcases Nat.eq_zero_or_pos k with e | e; exact .inl ⟨e, by rw [e]; simp [sNames, S]⟩; exact .inr (zT_pos e)) (.inl rfl) (by omega) (by simp only [go_sem, ↓reduceIte, simprocAttr, hln]; omega) (by simp only [go_sem, ↓reduceIte, simprocAttr, hln]; omega) (by simp only [go_sem, ↓reduceIte, simprocAttr]) (by simp only [go_sem, ↓reduceIte, simprocAttr])
      have hf := c58 (sNames (m.sums.take k)) m.sums[k].name (zT 1 k) (fun hne => zT_pos (by rcases Nat.eq_zero_or_pos k with e | e; rw [e] at hne; simp [sNames] at hne; exact e)) (by omega) hs
      have h53 := m53 m.who.length (by omega)
      have he : sumE m k m.sums[k] = sumI m k := by rw [sumI, hx]
      unfold sumE at he
      rw [← sNames_any] at he
      cases e1 : nameOk m.sums[k].name with
      | false =>
        rw [e1] at he
        have he : (6 : Int) = sumI m k := he
        rw [← he]
        simp (disch := omega) only [go_sem, ↓reduceIte, simprocAttr, eMc, hki, eSu_get, hx, eSu, hz, hf, fresh, e1, ha, wrap_i64]
      | true =>
        cases e2 : (sNames (m.sums.take k)).any (fun x => x == m.sums[k].name) with
        | true =>
          rw [e1, e2] at he
          have he : (5 : Int) = sumI m k := he
          rw [← he]
          simp (disch := omega) only [go_sem, ↓reduceIte, simprocAttr, eMc, hki, eSu_get, hx, eSu, hz, hf, fresh, e1, e2, ha, wrap_i64]
        | false =>
          cases e3 : out 1 99 m.sums[k].pence with
          | true =>
            rw [e1, e2, e3] at he
            have he : (7 : Int) = sumI m k := he
            rw [← he]
            simp (disch := omega) only [go_sem, ↓reduceIte, simprocAttr, eMc, hki, eSu_get, hx, eSu, hz, hf, fresh, e1, e2, ha, h53, c42, notin, e3, wrap_i64]
          | false =>
            cases e4 : out 1 (bitsN m.who.length) m.sums[k].fr with
            | true =>
              rw [e1, e2, e3, e4] at he
              have he : (7 : Int) = sumI m k := he
              rw [← he]
              simp (disch := omega) only [go_sem, ↓reduceIte, simprocAttr, eMc, hki, eSu_get, hx, eSu, hz, hf, fresh, e1, e2, ha, h53, c42, notin, e3, e4, wrap_i64]
            | false => rw [e1, e2, e3, e4] at he; exact absurd he.symm h0
    · simp only [go_sem, ↓reduceIte, simprocAttr, eMc, Int.lt_irrefl]
    unfold firstW
    cases h6 : firstBad (sumI m) 0 m.sums.length with
    | some n =>
      have p1 : partM m 1 = ((n : Int), sumI m n) := by show failP 5 (sumI m) m.sums.length = _; unfold failP; rw [if_neg h5i, h6]
      rw [p1, if_pos (firstBad_some h6).2.2.1]
      simp only [go_sem, ↓reduceIte, simprocAttr, tup3]
    | none =>
      have p1 : partM m 1 = (0, 0) := by show failP 5 (sumI m) m.sums.length = _; unfold failP; rw [if_neg h5i, h6]
      rw [p1, if_neg (by decide)]
      by_cases h7 : 6 < m.words.length
      · have h7i : (6 : Int) < m.words.length := by omega
        have p2 : partM m 2 = (0, 3) := by show failP 6 (wordI m) m.words.length = _; unfold failP; rw [if_pos h7i]
        rw [p2]
        simp only [go_sem, ↓reduceIte, simprocAttr, eMc, h7i, tup3]
        done
      have h7i : ¬ (6 : Int) < m.words.length := by omega
      have hcl := eM_cl m
      simp only [eM, eMc] at hcl
      simp only [go_sem, ↓reduceIte, simprocAttr, eMc, h7i]
      generalize T [] m.sums.length = TT
      rw [w_first (fun k => [(10, .int .i64 k)]) (fun _ => ⟨[.cells (eMc m)], TT⟩) (wordI m) m.words.length .ret (fun n => [(2, .int .i64 3), (3, .int .i64 n), (4, .int .i64 (wordI m n)), (10, .int .i64 n), (11, .int .i64 (wordI m n))]) (fun _ => ⟨[.cells (eMc m)], TT⟩) (.exit 4) [(10, .int .i64 m.words.length)] ⟨[.cells (eMc m)], TT⟩ ?_ ?_ ?_ ?_ ?_ rfl rfl]
      rotate_left
      · simp only [go_sem, ↓reduceIte, simprocAttr]
      · simp only [eMc]
      · intro k hk h0
        have hx := List.getElem?_eq_getElem hk
        have hki : (k : Int) < m.words.length := by omega
        have h54 := m54 m hm k _ hx
        have he : wordE m k m.words[k] = 0 := by rw [← h0, wordI, hx]
        rw [he] at h54
        simp only [eM, eMc] at h54
        simp (disch := omega) only [go_sem, ↓reduceIte, simprocAttr, eMc, hki, h54, hcl, wrap_i64, bne_self_eq_false]
        done
      · intro k hk h0
        have hx := List.getElem?_eq_getElem hk
        have hki : (k : Int) < m.words.length := by omega
        have h54 := m54 m hm k _ hx
        have he : wordE m k m.words[k] = wordI m k := by rw [wordI, hx]
        rw [he] at h54
        have hne : (wordI m k != 0) = true := by simpa using h0
        simp only [eM, eMc] at h54
        simp (disch := omega) only [go_sem, ↓reduceIte, simprocAttr, eMc, hki, h54, hcl, wrap_i64, hne]
        done
      · simp only [go_sem, ↓reduceIte, simprocAttr, eMc, Int.lt_irrefl]
      unfold firstW
      cases h8 : firstBad (wordI m) 0 m.words.length with
      | some n =>
        have p2 : partM m 2 = ((n : Int), wordI m n) := by show failP 6 (wordI m) m.words.length = _; unfold failP; rw [if_neg h7i, h8]
        rw [p2, if_pos (firstBad_some h8).2.2.1]
        simp only [go_sem, ↓reduceIte, simprocAttr, tup3]
      | none =>
        have p2 : partM m 2 = (0, 0) := by show failP 6 (wordI m) m.words.length = _; unfold failP; rw [if_neg h7i, h8]
        rw [p2, if_neg (by decide)]
        by_cases h9 : 5 < m.paid.length
        · have h9i : (5 : Int) < m.paid.length := by omega
          have p3 : partM m 3 = (0, 3) := by show failP 5 (paidI m) m.paid.length = _; unfold failP; rw [if_pos h9i]
          rw [p3]
          simp only [go_sem, ↓reduceIte, simprocAttr, eMc, h9i, tup3]
          done
        have h9i : ¬ (5 : Int) < m.paid.length := by omega
        simp only [go_sem, ↓reduceIte, simprocAttr, eMc, h9i]
        rw [w_first (fun k => [(12, .int .i64 k)]) (fun _ => ⟨[.cells (eMc m)], TT⟩) (paidI m) m.paid.length .ret (fun n => [(2, .int .i64 4), (3, .int .i64 n), (4, .int .i64 4), (12, .int .i64 n)]) (fun _ => ⟨[.cells (eMc m)], TT⟩) (.exit 6) [(12, .int .i64 m.paid.length)] ⟨[.cells (eMc m)], TT⟩ ?_ ?_ ?_ ?_ ?_ rfl rfl]
        rotate_left
        · simp only [go_sem, ↓reduceIte, simprocAttr]
        · simp only [eMc]
        · intro k hk h0
          have hx := List.getElem?_eq_getElem hk
          have hki : (k : Int) < m.paid.length := by omega
          have hz := hm.zp (by intro e; rw [e] at hk; simp at hk)
          have he : paidE m m.paid[k] = 0 := by rw [← h0, paidI, hx]
          unfold paidE at he
          cases e1 : out 0 ((m.sums.length : Int) - 1) m.paid[k].sum with
          | true => rw [e1] at he; cases he
          | false =>
            cases e2 : out 0 ((m.who.length : Int) - 1) m.paid[k].who with
            | true => rw [e1, e2] at he; cases he
            | false =>
              simp (disch := omega) only [go_sem, ↓reduceIte, simprocAttr, eMc, hki, hz, ePd_get, hx, ePd, c42, notin, e1, e2, wrap_i64]
              done
        · intro k hk h0
          have hx := List.getElem?_eq_getElem hk
          have hki : (k : Int) < m.paid.length := by omega
          have hz := hm.zp (by intro e; rw [e] at hk; simp at hk)
          have he : paidE m m.paid[k] ≠ 0 := by rw [paidI, hx] at h0; exact h0
          unfold paidE at he
          cases e1 : out 0 ((m.sums.length : Int) - 1) m.paid[k].sum with
          | true =>
            simp (disch := omega) only [go_sem, ↓reduceIte, simprocAttr, eMc, hki, hz, ePd_get, hx, ePd, c42, notin, e1, wrap_i64]
            done
          | false =>
            cases e2 : out 0 ((m.who.length : Int) - 1) m.paid[k].who with
            | true =>
              simp (disch := omega) only [go_sem, ↓reduceIte, simprocAttr, eMc, hki, hz, ePd_get, hx, ePd, c42, notin, e1, e2, wrap_i64]
              done
            | false => rw [e1, e2] at he; exact absurd rfl he
        · simp only [go_sem, ↓reduceIte, simprocAttr, eMc, Int.lt_irrefl]
        unfold firstW
        cases h10 : firstBad (paidI m) 0 m.paid.length with
        | some n =>
          have p3 : partM m 3 = ((n : Int), paidI m n) := by show failP 5 (paidI m) m.paid.length = _; unfold failP; rw [if_neg h9i, h10]
          obtain ⟨_, g1, g2, _⟩ := firstBad_some h10
          have e4 : paidI m n = 4 := by
            have hn : n < m.paid.length := by omega
            rw [paidI, List.getElem?_eq_getElem hn] at g2 ⊢
            simp only [paidE] at g2 ⊢
            split
            · rfl
            · rename_i hc; rw [if_neg hc] at g2; exact absurd rfl g2
          rw [p3, if_pos g2, e4]
          simp only [go_sem, ↓reduceIte, simprocAttr, tup3]
        | none =>
          have p3 : partM m 3 = (0, 0) := by show failP 5 (paidI m) m.paid.length = _; unfold failP; rw [if_neg h9i, h10]
          rw [p3, if_neg (by decide)]
          simp only [go_sem, ↓reduceIte, simprocAttr, tup3]
end Go.Proofs.YtiighcpimecehaaGreat
end
section
namespace Go.Proofs.YtiighcpimecehaaGreat.R8
open Go.Proofs

theorem c94 (l : List ByteArray) (s : ByteArray) (z : Nat) (hz : l ≠ [] → z = 1) (hl : l.length < 1000000000000000000) (h : Heap) :
   callPure (EW tabX) 78 [.lst 0 z (S l), .str s] h = some (.int .i64 (if l.findIdx (fun x => x == s) < l.length then l.findIdx (fun x => x == s) else -1), h) := by
  rw [callPure_eq, w_call _ fn_78 rfl]
  simp only [go_sem, ↓reduceIte, simprocAttr]
  rw [w_rounds_u (fun k => [(5, .int .i64 k)]) (l.findIdx (fun x => x == s)) (.exit 0) [(5, .int .i64 (l.findIdx (fun x => x == s)))] ?_ ?_ ?_ rfl]
  · by_cases hf : l.findIdx (fun x => x == s) < l.length
    · have hne : (((l.findIdx (fun x => x == s) : Nat) : Int) == (l.length : Int)) = false := by simp; omega
      simp only [go_sem, ↓reduceIte, simprocAttr, hne, hf]
    · have hn : l.findIdx (fun x => x == s) = l.length := by have := List.findIdx_le_length (p := fun x => x == s) (xs := l); omega
      simp only [go_sem, ↓reduceIte, simprocAttr, hn, Nat.lt_irrefl]
  · simp only [go_sem, ↓reduceIte, simprocAttr]
  · intro k hk
    have hlt : k < l.length := by have := List.findIdx_le_length (p := fun x => x == s) (xs := l); omega
    have hki : (k : Int) < l.length := by omega
    have hx := List.getElem?_eq_getElem hlt
    have hpf : (l[k] == s) = false := by simpa using List.not_of_lt_findIdx hk
    have hz1 := hz (by intro e; rw [e] at hlt; simp at hlt)
    subst hz1
    have hne : (l[k] != s) = true := by simp only [bne, hpf, Bool.not_false]
    simp (disch := omega) only [go_sem, ↓reduceIte, simprocAttr, hki, hx, hne, wrap_i64]
  · by_cases hf : l.findIdx (fun x => x == s) < l.length
    · have hx := List.getElem?_eq_getElem hf
      have hki : ((l.findIdx (fun x => x == s) : Nat) : Int) < l.length := by omega
      have hpt : (l[l.findIdx (fun x => x == s)] == s) = true := List.findIdx_getElem (p := fun x => x == s)
      have hne : (l[l.findIdx (fun x => x == s)] != s) = false := by simp only [bne, hpt, Bool.not_true]
      have hz1 := hz (by intro e; rw [e] at hf; simp at hf)
      subst hz1
      simp (disch := omega) only [go_sem, ↓reduceIte, simprocAttr, hki, hx, hne]
    · have hn : l.findIdx (fun x => x == s) = l.length := by have := List.findIdx_le_length (p := fun x => x == s) (xs := l); omega
      simp only [go_sem, ↓reduceIte, simprocAttr, hn, Int.lt_irrefl]

def fresh (s : ByteArray) (l : List ByteArray) : Int := if nameOk s then (if l.any (fun x => x == s) then 5 else 0) else 6
theorem c60 (l : List ByteArray) (s : ByteArray) (z : Nat) (hz : l ≠ [] → z = 1) (hl : l.length < 1000000000000000000) (hs : s.size < 1000000000000000000) (h : Heap) :
   callPure (EW tabX) 28 [.str s, .lst 0 z (S l)] h = some (.int .i64 (fresh s l), h) := by
  have h73 := c94 l s z hz hl
  have h74 := c95 s hs
  have ha := findIdx_any l (fun x => x == s)
  rw [callPure_eq, w_call _ fn_28 rfl]
  cases h1 : l.any (fun x => x == s) with
  | true =>
    rw [h1] at ha
    cases h2 : nameOk s with
    | true => simp only [go_sem, ↓reduceIte, simprocAttr, h73, h74, ha, h2, fresh, h1]
    | false => simp only [go_sem, ↓reduceIte, simprocAttr, h73, h74, ha, h2, fresh, h1]
  | false =>
    rw [h1] at ha
    cases h2 : nameOk s with
    | true => simp only [go_sem, ↓reduceIte, simprocAttr, h73, h74, ha, h2, fresh, h1]
    | false => simp only [go_sem, ↓reduceIte, simprocAttr, h73, h74, ha, h2, fresh, h1]

theorem c59 (s : Int × Int) (h : Heap) : callPure (EW tabX) 55 [eSp s, .int .i64 1, .int .i64 20] h = some (.int .i64 (spE s), h) := by
  rw [callPure_eq, w_call _ fn_55 rfl]
  have e : ((!inR s.1 1 20) || (!inR s.2 1 20)) = (out 1 20 s.1 || out 1 20 s.2) := by simp only [← out_not, Bool.not_not]
  cases h1 : out 1 20 s.1 || out 1 20 s.2 with
  | true => rw [h1] at e; simp only [go_sem, ↓reduceIte, simprocAttr, eSp, c46, e, h1, spE]
  | false =>
    rw [h1] at e
    by_cases h2 : s.2 < s.1
    · simp only [go_sem, ↓reduceIte, simprocAttr, eSp, c46, e, h1, spE, h2]
    · simp only [go_sem, ↓reduceIte, simprocAttr, eSp, c46, e, h1, spE, h2]
theorem c61 (a : Ag) (h : Heap) : callPure (EW tabX) 56 [eAg a] h = some (.int .i64 (if (out 0 20 a.fee || out 0 2 a.round) = true then 7 else 0), h) := by
  rw [callPure_eq, w_call _ fn_56 rfl]
  have e : ((!inR a.fee 0 20) || (!inR a.round 0 2)) = (out 0 20 a.fee || out 0 2 a.round) := by simp only [← out_not, Bool.not_not]
  cases h1 : out 0 20 a.fee || out 0 2 a.round with
  | true => rw [h1] at e; simp only [go_sem, ↓reduceIte, simprocAttr, eAg, c46, e]
  | false => rw [h1] at e; simp only [go_sem, ↓reduceIte, simprocAttr, eAg, c46, e]
def names (l : List Ag) : List ByteArray := l.map (·.name)
theorem names_any (l : List Ag) (s : ByteArray) : (names l).any (fun x => x == s) = l.any (fun y => y.name == s) := by simp [names, List.any_map]; rfl
theorem names_succ {l : List Ag} {k : Nat} {x : Ag} (h : l[k]? = some x) : names (l.take (k + 1)) = names (l.take k) ++ [x.name] := map_succ _ h
theorem notin (n lo hi : Int) : (!inR n lo hi) = out lo hi n := by rw [← out_not, Bool.not_not]
theorem c17 (d : Ho) (hd : d.fits) (h : Heap) : callPure (EW tabX) 18 [eH d] h = some (tup3 (checkH d), h) := by
  rw [callPure_eq, w_call _ fn_18 rfl]
  unfold checkH
  have hla := hd.la
  have hle := hd.le
  have hlr := hd.lr
  cases h1 : out 1 3 d.days with
  | true => simp only [go_sem, ↓reduceIte, simprocAttr, eH, eHc, c46, notin, h1, tup3]
  | false =>
    have hday : 1 ≤ d.days ∧ d.days ≤ 3 := by simp [out] at h1; exact ⟨h1.1, h1.2⟩
    by_cases h2 : (d.rates.length : Int) = d.days
    rotate_left
    · have h2b : ((d.rates.length : Int) != d.days) = true := by simpa using h2
      simp only [go_sem, ↓reduceIte, simprocAttr, eH, eHc, c46, notin, h1, tup3, h2b, h2, ne_eq, not_false_eq_true]
    have h2b : ((d.rates.length : Int) != d.days) = false := by simp [h2]
    simp only [go_sem, ↓reduceIte, simprocAttr, eH, eHc, c46, notin, h1, h2b, h2, ne_eq, not_true]
    rw [w_first (fun k => [(5, .int .i64 k)]) (fun _ => ⟨[.cells (eHc d)], []⟩) (rateE d) d.rates.length .ret (fun n => [(2, .int .i64 2), (3, .int .i64 n), (4, .int .i64 (rateE d n)), (5, .int .i64 n), (6, .int .i64 (rateE d n))]) (fun _ => ⟨[.cells (eHc d)], []⟩) (.exit 0) [(5, .int .i64 d.rates.length)] ⟨[.cells (eHc d)], []⟩ ?_ ?_ ?_ ?_ ?_ rfl rfl]
    rotate_left
    · simp only [go_sem, ↓reduceIte, simprocAttr]
    · simp only [eHc]
    · intro k hk h0
      have hx := List.getElem?_eq_getElem hk
      have hki : (k : Int) < d.rates.length := by omega
      have hz := hd.zr (by intro e; rw [e] at hk; simp at hk)
      have h59 := c59 d.rates[k]
      have he : spE d.rates[k] = 0 := by rw [← h0, rateE, hx]
      simp only [eSp, he] at h59
      simp (disch := omega) only [go_sem, ↓reduceIte, simprocAttr, eHc, hki, hx, eSp, hz, h59, wrap_i64, bne_self_eq_false]
    · intro k hk h0
      have hx := List.getElem?_eq_getElem hk
      have hki : (k : Int) < d.rates.length := by omega
      have hz := hd.zr (by intro e; rw [e] at hk; simp at hk)
      have h59 := c59 d.rates[k]
      have he : spE d.rates[k] = rateE d k := by rw [rateE, hx]
      have hne : (rateE d k != 0) = true := by simpa using h0
      simp only [eSp, he] at h59
      simp (disch := omega) only [go_sem, ↓reduceIte, simprocAttr, eHc, hki, hx, eSp, hz, h59, wrap_i64, hne]
    · simp only [go_sem, ↓reduceIte, simprocAttr, eHc, Int.lt_irrefl]
    unfold firstW
    cases h3 : firstBad (rateE d) 0 d.rates.length with
    | some n => simp only [go_sem, ↓reduceIte, simprocAttr, tup3]
    | none =>
      cases h4 : out 0 20 d.step with
      | true => simp only [go_sem, ↓reduceIte, simprocAttr, eHc, c46, notin, tup3, h4]
      | false =>
        by_cases h5 : 3 < d.agents.length
        · have h5i : (3 : Int) < d.agents.length := by omega
          simp only [go_sem, ↓reduceIte, simprocAttr, eHc, c46, notin, tup3, h4, h5, h5i]
        have h5i : ¬ (3 : Int) < d.agents.length := by omega
        simp only [go_sem, ↓reduceIte, simprocAttr, eHc, c46, notin, h4, h5, h5i]
        rw [w_first (fun k => [(7, .lst (tagT [] k) (zT 1 k) (S (names (d.agents.take k)))), (8, .int .i64 k)]) (fun k => ⟨[.cells (eHc d)], T [] k⟩) (agentE d) d.agents.length .ret
          (fun n => [(2, .int .i64 4), (3, .int .i64 n), (4, .int .i64 (agentE d n)), (7, .lst (tagT [] (n + 1)) 1 (S (names (d.agents.take (n + 1))))), (8, .int .i64 n), (9, .int .i64 (agentE d n))]) (fun n => ⟨[.cells (eHc d)], T [] (n + 1)⟩)
          (.exit 2) [(7, .lst (tagT [] d.agents.length) (zT 1 d.agents.length) (S (names d.agents))), (8, .int .i64 d.agents.length)] ⟨[.cells (eHc d)], T [] d.agents.length⟩ ?_ ?_ ?_ ?_ ?_ rfl rfl]
        rotate_left
        · simp only [go_sem, ↓reduceIte, simprocAttr, names]
        · simp only [go_sem, ↓reduceIte, simprocAttr, eHc]
        · intro k hk h0
          have hx := List.getElem?_eq_getElem hk
          have hki : (k : Int) < d.agents.length := by omega
          have hz := hd.za (by intro e; rw [e] at hk; simp at hk)
          have hs := hd.na _ (List.mem_of_getElem? hx)
          rw [names_succ hx, ← S_snoc]
          have hln : (names (d.agents.take k)).length = k := by simp [names]; omega
          have ha := fun B => append_step (X := tabX) (t := 33) (e := 9) (sz := 1) [] k B (zT 1 k) 1 1 (S (names (d.agents.take k))) [.str d.agents[k].name] (by simp only [go_sem, ↓reduceIte, simprocAttr]) (by simp only [go_sem, ↓reduceIte, simprocAttr])
            (by rcases Nat.eq_zero_or_pos k with e | e; exact .inl ⟨e, by rw [e]; simp [names, S]⟩; exact .inr (zT_pos e)) (.inl rfl) (by omega) (by simp only [go_sem, ↓reduceIte, simprocAttr, hln]; omega) (by simp only [go_sem, ↓reduceIte, simprocAttr, hln]; omega) (by simp only [go_sem, ↓reduceIte, simprocAttr]) (by simp only [go_sem, ↓reduceIte, simprocAttr])
          have hf := c60 (names (d.agents.take k)) d.agents[k].name (zT 1 k) (fun hne => zT_pos (by rcases Nat.eq_zero_or_pos k with e | e; rw [e] at hne; simp [names] at hne; exact e)) (by omega) hs
          have h61 := c61 d.agents[k]
          have he : agE d.agents k d.agents[k] = 0 := by rw [← h0, agentE, hx]
          unfold agE at he
          rw [← names_any] at he
          cases e1 : nameOk d.agents[k].name with
          | false => rw [e1] at he; cases he
          | true =>
            cases e2 : (names (d.agents.take k)).any (fun x => x == d.agents[k].name) with
            | true => rw [e1, e2] at he; cases he
            | false =>
              cases e3 : (out 0 20 d.agents[k].fee || out 0 2 d.agents[k].round) with
              | true => rw [e1, e2, e3] at he; cases he
              | false =>
                simp only [eAg, e3, Bool.false_eq_true, if_false] at h61
                simp (disch := omega) only [go_sem, ↓reduceIte, simprocAttr, eHc, hki, hx, eAg, hz, hf, fresh, e1, e2, ha, h61, wrap_i64]
        · intro k hk h0
          have hx := List.getElem?_eq_getElem hk
          have hki : (k : Int) < d.agents.length := by omega
          have hz := hd.za (by intro e; rw [e] at hk; simp at hk)
          have hs := hd.na _ (List.mem_of_getElem? hx)
          rw [names_succ hx, ← S_snoc]
          have hln : (names (d.agents.take k)).length = k := by simp [names]; omega
          have ha := fun B => append_step (X := tabX) (t := 33) (e := 9) (sz := 1) [] k B (zT 1 k) 1 1 (S (names (d.agents.take k))) [.str d.agents[k].name] (by simp only [go_sem, ↓reduceIte, simprocAttr]) (by simp only [go_sem, ↓reduceIte, simprocAttr])
            (by rcases Nat.eq_zero_or_pos k with e | e; exact .inl ⟨e, by rw [e]; simp [names, S]⟩; exact .inr (zT_pos e)) (.inl rfl) (by omega) (by simp only [go_sem, ↓reduceIte, simprocAttr, hln]; omega) (by simp only [go_sem, ↓reduceIte, simprocAttr, hln]; omega) (by simp only [go_sem, ↓reduceIte, simprocAttr]) (by simp only [go_sem, ↓reduceIte, simprocAttr])
          have hf := c60 (names (d.agents.take k)) d.agents[k].name (zT 1 k) (fun hne => zT_pos (by rcases Nat.eq_zero_or_pos k with e | e; rw [e] at hne; simp [names] at hne; exact e)) (by omega) hs
          have h61 := c61 d.agents[k]
          have he : agE d.agents k d.agents[k] = agentE d k := by rw [agentE, hx]
          unfold agE at he
          rw [← names_any] at he
          cases e1 : nameOk d.agents[k].name with
          | false =>
            rw [e1] at he
            have he : (6 : Int) = agentE d k := he
            rw [← he]
            simp (disch := omega) only [go_sem, ↓reduceIte, simprocAttr, eHc, hki, hx, eAg, hz, hf, fresh, e1, ha, wrap_i64]
          | true =>
            cases e2 : (names (d.agents.take k)).any (fun x => x == d.agents[k].name) with
            | true =>
              rw [e1, e2] at he
              have he : (5 : Int) = agentE d k := he
              rw [← he]
              simp (disch := omega) only [go_sem, ↓reduceIte, simprocAttr, eHc, hki, hx, eAg, hz, hf, fresh, e1, e2, ha, wrap_i64]
            | false =>
              cases e3 : (out 0 20 d.agents[k].fee || out 0 2 d.agents[k].round) with
              | true =>
                rw [e1, e2, e3] at he
                have he : (7 : Int) = agentE d k := he
                rw [← he]
                simp only [eAg, e3, if_true] at h61
                simp (disch := omega) only [go_sem, ↓reduceIte, simprocAttr, eHc, hki, hx, eAg, hz, hf, fresh, e1, e2, ha, h61, wrap_i64]
              | false => rw [e1, e2, e3] at he; exact absurd he.symm h0
        · simp only [go_sem, ↓reduceIte, simprocAttr, eHc, Int.lt_irrefl]
        unfold firstW
        cases h6 : firstBad (agentE d) 0 d.agents.length with
        | some n => simp only [go_sem, ↓reduceIte, simprocAttr, tup3]
        | none =>
          by_cases h7 : 5 < d.entries.length
          · have h7i : (5 : Int) < d.entries.length := by omega
            simp only [go_sem, ↓reduceIte, simprocAttr, eHc, tup3, h7, h7i]
          have h7i : ¬ (5 : Int) < d.entries.length := by omega
          simp only [go_sem, ↓reduceIte, simprocAttr, eHc, h7, h7i]
          rw [w_first (fun k => [(10, .int .i64 k)]) (fun k => ⟨[.cells (eHc d)] ++ (d.entries.take k).map bEn, T [] d.agents.length⟩) (entryE d) d.entries.length .ret
            (fun n => [(2, .int .i64 5), (3, .int .i64 n), (4, .int .i64 (entryE d n)), (10, .int .i64 n), (11, .ref ([ABlk.cells (eHc d)] ++ (d.entries.take n).map bEn).length 0)]) (fun n => ⟨[.cells (eHc d)] ++ (d.entries.take (n + 1)).map bEn, T [] d.agents.length⟩)
            (.exit 4) [(10, .int .i64 d.entries.length)] ⟨[.cells (eHc d)] ++ d.entries.map bEn, T [] d.agents.length⟩ ?_ ?_ ?_ ?_ ?_ rfl rfl]
          rotate_left
          · simp only [go_sem, ↓reduceIte, simprocAttr]
          · simp only [go_sem, ↓reduceIte, simprocAttr, eHc]
          · intro k hk h0
            have hx := List.getElem?_eq_getElem hk
            have hki : (k : Int) < d.entries.length := by omega
            have hz := hd.ze (by intro e; rw [e] at hk; simp at hk)
            have he : enE d d.entries[k] = 0 := by rw [← h0, entryE, hx]
            have hC : ([ABlk.cells (eHc d)] ++ (d.entries.take k).map bEn)[0]? = some (.cells (eHc d)) := rfl
            rw [map_succ bEn hx, ← List.append_assoc]
            generalize [ABlk.cells (eHc d)] ++ (d.entries.take k).map bEn = C at hC ⊢
            simp only [eHc] at hC
            have oC := old hC
            unfold enE at he
            cases e1 : out 0 ((d.agents.length : Int) - 1) d.entries[k].agent with
            | true => rw [e1] at he; cases he
            | false =>
              cases e2 : out 0 (d.days - 1) d.entries[k].day with
              | true => rw [e1, e2] at he; cases he
              | false =>
                cases e3 : out 0 99 d.entries[k].near with
                | true => rw [e1, e2, e3] at he; cases he
                | false =>
                  cases e4 : out (-1) 198 d.entries[k].far with
                  | true => rw [e1, e2, e3, e4] at he; cases he
                  | false =>
                    simp (disch := omega) only [go_sem, ↓reduceIte, simprocAttr, hC, oC, hki, hx, eEn, bEn, hz, c46, notin, e1, e2, e3, e4, wrap_i64]
          · intro k hk h0
            have hx := List.getElem?_eq_getElem hk
            have hki : (k : Int) < d.entries.length := by omega
            have hz := hd.ze (by intro e; rw [e] at hk; simp at hk)
            have he : enE d d.entries[k] = entryE d k := by rw [entryE, hx]
            have hC : ([ABlk.cells (eHc d)] ++ (d.entries.take k).map bEn)[0]? = some (.cells (eHc d)) := rfl
            rw [map_succ bEn hx, ← List.append_assoc]
            generalize [ABlk.cells (eHc d)] ++ (d.entries.take k).map bEn = C at hC ⊢
            simp only [eHc] at hC
            have oC := old hC
            unfold enE at he
            cases e1 : out 0 ((d.agents.length : Int) - 1) d.entries[k].agent with
            | true =>
              rw [e1] at he
              have he : (4 : Int) = entryE d k := he
              rw [← he]
              simp (disch := omega) only [go_sem, ↓reduceIte, simprocAttr, hC, oC, hki, hx, eEn, bEn, hz, c46, notin, e1, wrap_i64]
            | false =>
              cases e2 : out 0 (d.days - 1) d.entries[k].day with
              | true =>
                rw [e1, e2] at he
                have he : (4 : Int) = entryE d k := he
                rw [← he]
                simp (disch := omega) only [go_sem, ↓reduceIte, simprocAttr, hC, oC, hki, hx, eEn, bEn, hz, c46, notin, e1, e2, wrap_i64]
              | false =>
                cases e3 : out 0 99 d.entries[k].near with
                | true =>
                  rw [e1, e2, e3] at he
                  have he : (7 : Int) = entryE d k := he
                  rw [← he]
                  simp (disch := omega) only [go_sem, ↓reduceIte, simprocAttr, hC, oC, hki, hx, eEn, bEn, hz, c46, notin, e1, e2, e3, wrap_i64]
                | false =>
                  cases e4 : out (-1) 198 d.entries[k].far with
                  | true =>
                    rw [e1, e2, e3, e4] at he
                    have he : (7 : Int) = entryE d k := he
                    rw [← he]
                    simp (disch := omega) only [go_sem, ↓reduceIte, simprocAttr, hC, oC, hki, hx, eEn, bEn, hz, c46, notin, e1, e2, e3, e4, wrap_i64]
                  | false => rw [e1, e2, e3, e4] at he; exact absurd he.symm h0
          · have hC : ([ABlk.cells (eHc d)] ++ (d.entries.take d.entries.length).map bEn)[0]? = some (.cells (eHc d)) := rfl
            rw [List.take_length] at hC ⊢
            generalize [ABlk.cells (eHc d)] ++ d.entries.map bEn = C at hC ⊢
            simp only [eHc] at hC
            have oC := old hC
            simp only [go_sem, ↓reduceIte, simprocAttr, hC, oC, Int.lt_irrefl]
          unfold firstW
          cases h8 : firstBad (entryE d) 0 d.entries.length with
          | some n => simp only [go_sem, ↓reduceIte, simprocAttr, tup3]
          | none => simp only [go_sem, ↓reduceIte, simprocAttr, tup3]
end Go.Proofs.YtiighcpimecehaaGreat.R8
end
section
namespace Go.Proofs.YtiighcpimecehaaGreat.R8
open Go.Proofs

theorem vI_under (n : Nat) (l : List Int) : (vI l).under n = true := by simp only [vI, go_sem, ↓reduceIte, simprocAttr]
theorem vI_clean (l : List Int) : (vI l).clean = some (vI l) := by simp only [vI, go_sem, ↓reduceIte, simprocAttr]
theorem ownT_clean (T0 : List Bool) (l : List Int) : (ownT T0 l).clean = some (vI l) := by simp only [ownT, vI, go_sem, ↓reduceIte, simprocAttr]
theorem ownT_under (T0 : List Bool) (n : Nat) (l : List Int) : (ownT T0 l).under n = true := by simp only [ownT, go_sem, ↓reduceIte, simprocAttr]
theorem cpl_ne : ∀ (a b : List Int) (x y : Int), a[cpl a b]? = some x → b[cpl a b]? = some y → x ≠ y
  | [], b, x, y, h, _ => by simp [cpl] at h
  | u :: us, [], x, y, _, h => by simp [cpl] at h
  | u :: us, v :: vs, x, y, h1, h2 => by
    unfold cpl at h1 h2
    split at h1
    · rename_i e
      rw [if_pos e] at h2
      exact cpl_ne us vs x y (by simpa using h1) (by simpa using h2)
    · rename_i e
      rw [if_neg e] at h2
      simp at h1 h2
      rw [← h1, ← h2]; exact e
theorem c66 (a b : List Int) (za zb : Nat) (hza : a ≠ [] → za = 1) (hzb : b ≠ [] → zb = 1) (la : a.length < 1000000000000000000) (lb : b.length < 1000000000000000000) (h : Heap) :
    callPure (EW tabX) 48 [.lst 0 za (I a), .lst 0 zb (I b)] h = some (.bool (ltB a b), h) := by
  rw [callPure_eq, w_call _ fn_48 rfl]
  simp only [go_sem, ↓reduceIte, simprocAttr]
  have h1 := cpl_le1 a b
  have h2 := cpl_le2 a b
  rw [w_rounds_u (fun k => [(5, .int .i64 k)]) (cpl a b) (.exit 0) [(5, .int .i64 (cpl a b))] ?_ ?_ ?_ rfl]
  · rw [ltB_cpl]
    by_cases e : cpl a b = b.length
    · simp only [go_sem, ↓reduceIte, simprocAttr, e]
    · have e' : (((cpl a b : Nat) : Int) == b.length) = false := by simp; omega
      have hzb1 := hzb (by intro h; rw [h] at e; simp [cpl] at e)
      have hb : b[cpl a b]? = some (b.getD (cpl a b) 0) := by
        rw [List.getD_eq_getElem?_getD, List.getElem?_eq_getElem (show cpl a b < b.length by omega)]; rfl
      by_cases f : cpl a b = a.length
      · have f' : (((cpl a b : Nat) : Int) == a.length) = true := by simp [f]
        have fd : decide (cpl a b = a.length) = true := by simp [f]
        simp only [go_sem, ↓reduceIte, simprocAttr, e', e, f', fd]
      · have f' : (((cpl a b : Nat) : Int) == a.length) = false := by simp; omega
        have fd : decide (cpl a b = a.length) = false := by simp [f]
        have hza1 := hza (by intro h; rw [h] at h1; simp at h1; rw [h] at f; simp at f; omega)
        have ha : a[cpl a b]? = some (a.getD (cpl a b) 0) := by
          rw [List.getD_eq_getElem?_getD, List.getElem?_eq_getElem (show cpl a b < a.length by omega)]; rfl
        simp only [go_sem, ↓reduceIte, simprocAttr, e', e, f', fd, ha, hb, hza1, hzb1]
  · simp only [go_sem, ↓reduceIte, simprocAttr]
  · intro k hk
    have ka : k < a.length := by omega
    have kb : k < b.length := by omega
    have kai : (k : Int) < a.length := by omega
    have kbi : (k : Int) < b.length := by omega
    have hx := List.getElem?_eq_getElem ka
    have hy := List.getElem?_eq_getElem kb
    have he := cpl_eq a b k hk
    rw [hx, hy] at he
    simp only [Option.some.injEq] at he
    have hza1 := hza (by intro h; rw [h] at ka; simp at ka)
    have hzb1 := hzb (by intro h; rw [h] at kb; simp at kb)
    simp (disch := omega) only [go_sem, ↓reduceIte, simprocAttr, kai, kbi, hx, hy, he, hza1, hzb1, wrap_i64]
  · by_cases f : cpl a b < a.length
    · have fi : ((cpl a b : Nat) : Int) < a.length := by omega
      by_cases g : cpl a b < b.length
      · have gi : ((cpl a b : Nat) : Int) < b.length := by omega
        have hx := List.getElem?_eq_getElem f
        have hy := List.getElem?_eq_getElem g
        have hne := cpl_ne a b _ _ hx hy
        have hne' : (a[cpl a b] == b[cpl a b]) = false := by simpa using hne
        have hza1 := hza (by intro h; rw [h] at f; simp at f)
        have hzb1 := hzb (by intro h; rw [h] at g; simp at g)
        simp (disch := omega) only [go_sem, ↓reduceIte, simprocAttr, fi, gi, hx, hy, hne', hza1, hzb1]
      · have gi : ¬ ((cpl a b : Nat) : Int) < b.length := by omega
        simp (disch := omega) only [go_sem, ↓reduceIte, simprocAttr, fi, gi]
    · have fi : ¬ ((cpl a b : Nat) : Int) < a.length := by omega
      simp (disch := omega) only [go_sem, ↓reduceIte, simprocAttr, fi]
theorem c20 (a b : List Int) (za zb : Nat) (hza : a ≠ [] → za = 1) (hzb : b ≠ [] → zb = 1) (la : a.length < 1000000000000000000) (lb : b.length < 1000000000000000000) (h : Heap) :
    callPure (EW tabX) 12 [.lst 0 za (I a), .lst 0 zb (I b)] h = some (.bool (decide (a = b)), h) := by
  have h1 := c66 a b za zb hza hzb la lb
  have h2 := c66 b a zb za hzb hza lb la
  rw [callPure_eq, w_call _ fn_12 rfl, ← ltB_eq]
  have e : ((a.length : Int) == b.length) = decide (a.length = b.length) := by rw [Bool.eq_iff_iff]; simp; omega
  simp only [go_sem, ↓reduceIte, simprocAttr, h1, h2, e]
theorem c89 (l : List Int) (n : Int) (z : Nat) (hz : l ≠ [] → z = 1) (hl : l.length < 1000000000000000000) (h : Heap) :
    callPure (EW tabX) 45 [.lst 0 z (I l), .int .i64 n] h = some (.bool (l.any fun x => x == n), h) := by
  rw [callPure_eq, w_call _ fn_45 rfl]
  simp only [go_sem, ↓reduceIte, simprocAttr]
  rw [w_rounds_u (fun k => [(5, .bool ((l.take k).any fun x => x == n)), (6, .int .i64 k)]) l.length (.exit 0) [(5, .bool (l.any fun x => x == n)), (6, .int .i64 l.length)] ?_ ?_ ?_ rfl]
  · simp only [go_sem, ↓reduceIte, simprocAttr]
  · simp only [go_sem, ↓reduceIte, simprocAttr, List.any_nil]
  · intro k hk
    have hki : (k : Int) < l.length := by omega
    have hx := List.getElem?_eq_getElem hk
    have hz1 := hz (by intro e; rw [e] at hk; simp at hk)
    subst hz1
    simp (disch := omega) only [go_sem, ↓reduceIte, simprocAttr, hki, hx, wrap_i64, any_succ _ hx]
  · simp only [go_sem, ↓reduceIte, simprocAttr]

end Go.Proofs.YtiighcpimecehaaGreat.R8
end
section
namespace Go.Proofs.YtiighcpimecehaaGreat.R8
open Go.Proofs

theorem shr_and : ∀ s : Fin 32, ∀ i : Fin 5, (IntKind.i64.wrap (BitVec.ofInt 64 (((s.1 : Nat) : Int).fdiv (2 ^ (min i.1 64))) &&& BitVec.ofInt 64 1).toNat == 1) = s.1.testBit i.1 := by decide
def bitsL (s n : Nat) : List Int := ((List.range n).filter fun i => s.testBit i).map fun (i : Nat) => (i : Int)
theorem bitsL_succ (s n : Nat) : bitsL s (n + 1) = if s.testBit n = true then bitsL s n ++ [(n : Int)] else bitsL s n := by
  unfold bitsL
  rw [List.range_succ, List.filter_append, List.map_append]
  have e : (List.filter (fun i => s.testBit i) [n]) = if s.testBit n = true then [n] else [] := by simp only [List.filter_cons, List.filter_nil]
  rw [e]
  split <;> simp
theorem bitsL_len (s n : Nat) : (bitsL s n).length ≤ n := by
  unfold bitsL; rw [List.length_map]; have := List.length_filter_le (fun i => s.testBit i) (List.range n); simpa using this
theorem c81 (s n : Nat) (hs : s < 32) (hn : n ≤ 5) (h : Heap) : callPure (EW tabX) 102 [.int .i64 s, .int .i64 n] h = some (vI (bitsL s n), h) := by
  rw [callPure_eq, w_call _ fn_102 rfl]
  simp only [go_sem, ↓reduceIte, simprocAttr]
  rw [w_rounds_h (fun k => [(4, ownT [] (bitsL s k)), (7, .int .i64 k)]) (fun k => ⟨[], T [] (bitsL s k).length⟩) n (.exit 0) [(4, ownT [] (bitsL s n)), (7, .int .i64 n)] ⟨[], T [] (bitsL s n).length⟩ ?_ ?_ ?_ ?_ rfl]
  · simp only [go_sem, ↓reduceIte, simprocAttr, ownT_clean, ownT_under]
  · simp only [go_sem, ↓reduceIte, simprocAttr]; rfl
  · rfl
  · intro k hk
    have hki : (k : Int) < n := by omega
    have hb := shr_and ⟨s, hs⟩ ⟨k, by omega⟩
    have hln := bitsL_len s k
    have hap := ownT_app [] (bitsL s k) k (by omega)
    rw [bitsL_succ]
    cases e : s.testBit k with
    | true =>
      simp only [e] at hb
      simp (disch := omega) only [go_sem, ↓reduceIte, simprocAttr, hki, wrap_i64, hap]
      rw [if_pos (by exact hb)]
    | false =>
      simp only [e] at hb
      simp (disch := omega) only [go_sem, ↓reduceIte, simprocAttr, hki, wrap_i64]
      rw [if_neg (by intro hh; exact Bool.false_ne_true (hb.symm.trans hh))]
      try simp (disch := omega) only [go_sem, ↓reduceIte, simprocAttr, wrap_i64]
  · simp only [go_sem, ↓reduceIte, simprocAttr]

theorem c105 (x : Int) (h : Heap) : callPure (EW tabX) 136 [.int .i64 x] h = some (.bool false, h) := by
  rw [callPure_eq, w_call _ fn_136 rfl]
  simp only [go_sem, ↓reduceIte, simprocAttr]
theorem c99 (x y : Int) (h : Heap) : callPure (EW tabX) 95 [.int .i64 x, .int .i64 y] h = some (.int .i64 (cmpI x y), h) := by
  rw [callPure_eq, w_call _ fn_95 rfl]
  unfold cmpI
  by_cases h1 : x < y
  · simp only [go_sem, ↓reduceIte, simprocAttr, c105, h1]
  · by_cases h2 : y < x
    · simp only [go_sem, ↓reduceIte, simprocAttr, c105, h1, h2]
    · simp only [go_sem, ↓reduceIte, simprocAttr, c105, h1, h2]
theorem c82 (a b : List Int) (za zb : Nat) (hza : a ≠ [] → za = 1) (hzb : b ≠ [] → zb = 1) (la : a.length < 1000000000000000000) (lb : b.length < 1000000000000000000) (h : Heap) :
    callPure (EW tabX) 47 [.lst 0 za (I a), .lst 0 zb (I b)] h = some (.int .i64 (cmpL a b), h) := by
  rw [callPure_eq, w_call _ fn_47 rfl]
  simp only [go_sem, ↓reduceIte, simprocAttr]
  have h1 := cpl_le1 a b
  have h2 := cpl_le2 a b
  have hlt := ltB_cpl a b
  have heq := ltB_eq a b
  have round : ∀ k, k < cpl a b → ∃ x, a[k]? = some x ∧ b[k]? = some x ∧ (k : Int) < a.length ∧ ¬ (b.length : Int) ≤ k ∧ za = 1 ∧ zb = 1 := fun k hk => by
    have ka : k < a.length := by omega
    have kb : k < b.length := by omega
    have hx := List.getElem?_eq_getElem ka
    have he := cpl_eq a b k hk
    exact ⟨a[k], hx, by rw [← he]; exact hx, by omega, by omega, hza (by intro h; rw [h] at ka; simp at ka), hzb (by intro h; rw [h] at kb; simp at kb)⟩
  have cz : ∀ x, cmpI x x = 0 := fun x => by unfold cmpI; rw [if_neg (by omega), if_neg (by omega)]
  by_cases e : cpl a b = a.length
  · rw [w_rounds_u (fun k => [(11, .int .i64 k)]) (cpl a b) (.exit 0) [(11, .int .i64 (cpl a b))] ?_ ?_ ?_ rfl]
    · by_cases f : a.length < b.length
      · have fi : (a.length : Int) < b.length := by omega
        have hl : ltB a b = true := by rw [hlt, if_neg (by omega), e]; simp
        simp only [go_sem, ↓reduceIte, simprocAttr, fi, cmpL, hl]
      · have fi : ¬ (a.length : Int) < b.length := by omega
        have hl : ltB a b = false := by rw [hlt, if_pos (by omega)]
        have hab : a = b := by
          apply List.ext_getElem? 
          intro k
          by_cases hk : k < cpl a b
          · exact cpl_eq a b k hk
          · rw [List.getElem?_eq_none (by omega), List.getElem?_eq_none (by omega)]
        subst hab
        simp only [go_sem, ↓reduceIte, simprocAttr, cmpL, hl]
    · simp only [go_sem, ↓reduceIte, simprocAttr]
    · intro k hk
      obtain ⟨x, x1, x2, x3, x4, x5, x6⟩ := round k hk
      simp (disch := omega) only [go_sem, ↓reduceIte, simprocAttr, x1, x2, x3, x4, x5, x6, c99, cz, wrap_i64]
    · simp only [go_sem, ↓reduceIte, simprocAttr, e]
  · have g : cpl a b < a.length := by omega
    have gi : ((cpl a b : Nat) : Int) < a.length := by omega
    have hx := List.getElem?_eq_getElem g
    have hza1 := hza (by intro h; rw [h] at g; simp at g)
    by_cases f : cpl a b = b.length
    · have fi : (b.length : Int) ≤ (cpl a b : Nat) := by omega
      have hl : ltB a b = false := by rw [hlt, if_pos f]
      have hab : ¬ a = b := fun h => by rw [h] at g f; omega
      rw [w_rounds_u (fun k => [(11, .int .i64 k)]) (cpl a b) .ret [(4, .int .i64 1), (5, .int .i64 (cpl a b)), (6, .int .i64 a[cpl a b]), (11, .int .i64 (cpl a b))] ?_ ?_ ?_ rfl]
      · simp only [go_sem, ↓reduceIte, simprocAttr, cmpL, hl, hab]
      · simp only [go_sem, ↓reduceIte, simprocAttr]
      · intro k hk
        obtain ⟨x, x1, x2, x3, x4, x5, x6⟩ := round k hk
        simp (disch := omega) only [go_sem, ↓reduceIte, simprocAttr, x1, x2, x3, x4, x5, x6, c99, cz, wrap_i64]
      · simp only [go_sem, ↓reduceIte, simprocAttr, hx, gi, hza1, fi]
    · have g2 : cpl a b < b.length := by omega
      have gi2 : ¬ (b.length : Int) ≤ (cpl a b : Nat) := by omega
      have hy := List.getElem?_eq_getElem g2
      have hzb1 := hzb (by intro h; rw [h] at g2; simp at g2)
      have hne := cpl_ne a b _ _ hx hy
      have ea : a.getD (cpl a b) 0 = a[cpl a b] := by simp [g]
      have eb : b.getD (cpl a b) 0 = b[cpl a b] := by simp [g2]
      have hab : ¬ a = b := fun h => by subst h; exact hne rfl
      have hl : ltB a b = decide (a[cpl a b] < b[cpl a b]) := by rw [hlt, if_neg f, ea, eb]; simp [e]
      have hc : cmpL a b = cmpI a[cpl a b] b[cpl a b] := by
        unfold cmpL cmpI
        rw [hl, if_neg hab]
        by_cases q : a[cpl a b] < b[cpl a b]
        · simp [q]
        · have q2 : b[cpl a b] < a[cpl a b] := by omega
          simp [q, q2]
      have hn0 : (cmpI a[cpl a b] b[cpl a b] != 0) = true := by
        unfold cmpI
        by_cases q : a[cpl a b] < b[cpl a b]
        · simp [q]
        · have q2 : b[cpl a b] < a[cpl a b] := by omega
          simp [q, q2]
      rw [w_rounds_u (fun k => [(11, .int .i64 k)]) (cpl a b) .ret [(4, .int .i64 (cmpI a[cpl a b] b[cpl a b])), (5, .int .i64 (cpl a b)), (6, .int .i64 a[cpl a b]), (7, .int .i64 b[cpl a b]), (8, .int .i64 (cmpI a[cpl a b] b[cpl a b])), (11, .int .i64 (cpl a b))] ?_ ?_ ?_ rfl]
      · simp only [go_sem, ↓reduceIte, simprocAttr, hc]
      · simp only [go_sem, ↓reduceIte, simprocAttr]
      · intro k hk
        obtain ⟨x, x1, x2, x3, x4, x5, x6⟩ := round k hk
        simp (disch := omega) only [go_sem, ↓reduceIte, simprocAttr, x1, x2, x3, x4, x5, x6, c99, cz, wrap_i64]
      · simp only [go_sem, ↓reduceIte, simprocAttr, hx, hy, gi, gi2, hza1, hzb1, c99, hn0]
end Go.Proofs.YtiighcpimecehaaGreat.R8
end
section
namespace Go.Proofs.YtiighcpimecehaaGreat.R8
open Go.Proofs

section
variable {X : Tab} {f : Nat} {rd : Option Nat} {b : Code}
theorem w_rounds_sk {σ : Type} {G : Prop} {g : Slots} {h : Heap} {ms : List Nat} {x : Option (AExit × St)} (hx : (EW X).code f rd (.loop b) ⟨⟨g, []⟩, h, ms⟩ = x)
    (U : Nat → σ → Slots) (Hp : σ → Heap) (R : Nat → σ → Prop) (n : Nat) (e : AExit) (V : σ → Slots) (hr : isNormal e = false) (s0 : σ) (h0 : puts g (U 0 s0) = g) (hh : Hp s0 = h) (hR : R 0 s0)
    (hs : ∀ k s, k < n → R k s → ∃ s', cutS ⟨⟨puts g (U k s), []⟩, Hp s, ms⟩ ((EW X).code f rd b ⟨⟨puts g (U k s), []⟩, Hp s, ms⟩) = some (.normal, ⟨⟨puts g (U (k + 1) s'), []⟩, Hp s', ms⟩) ∧ R (k + 1) s')
    (he : ∀ s, R n s → cutS ⟨⟨puts g (U n s), []⟩, Hp s, ms⟩ ((EW X).code f rd b ⟨⟨puts g (U n s), []⟩, Hp s, ms⟩) = some (e, ⟨⟨puts g (V s), []⟩, Hp s, ms⟩))
    (hG : ∀ s, x = some (e, ⟨⟨puts g (V s), []⟩, Hp s, ms⟩) → R n s → G) (hm : mapLoop b = none := by rfl) : G := by
  obtain ⟨e', s', h1, s, rfl, rfl, h2⟩ := w_rounds_ex hx (fun k q => ∃ s, q = ⟨⟨puts g (U k s), []⟩, Hp s, ms⟩ ∧ R k s) n (fun e' q => ∃ s, e' = e ∧ q = ⟨⟨puts g (V s), []⟩, Hp s, ms⟩ ∧ R n s)
    ⟨s0, by rw [h0, hh], hR⟩ (fun k q hk ⟨s, hq1, hq2⟩ => by
      subst hq1
      obtain ⟨s', a, c⟩ := hs k s hk hq2
      exact ⟨_, a, s', rfl, c⟩)
    (fun q ⟨s, hq1, hq2⟩ => by
      subst hq1
      exact ⟨e, _, he s hq2, hr, s, rfl, rfl, hq2⟩) hm
  exact hG s h1 h2
end

theorem app_gen {X : Tab} {ty e : TypeId} {sz : Nat} {tag z : Nat} {t : List Bool} {xs : List AV} (hn : OwnS sz tag z xs.length t) (u z' : Nat) (ys : List AV) (ht : trow X ty = .slice e) (hs : tsz X e = sz) (h0 : 0 < sz) (hz' : z' = sz ∨ ys.length = 0)
    (hy : (xs.length + ys.length) * tbytes X e ≤ 140737488355328) (hy2 : xs.length + ys.length ≤ 140737488355328) (hf : zeroFits X e = true) (hv : ys.all AV.var = true) :
    ∃ t2, (∀ B, appendAV X ty t.length ⟨B, t⟩ (.lst tag z xs) (.lst u z' ys) = some (.lst (t.length + 2) sz (xs ++ ys), ⟨B, t2⟩)) ∧ t2.length = t.length + 1 ∧ t2[t.length]? = some true ∧ ∀ k, tag ≠ k + 2 → t[k]? = some true → t2[k]? = some true := by
  have hc : (z' = tsz X e ∨ ys.length = 0) ∧ 0 < tsz X e ∧ (xs.length + ys.length) * tbytes X e ≤ appLimit ∧ xs.length + ys.length ≤ appLimit ∧ zeroFits X e = true ∧ ys.all AV.var = true := by
    rw [hs]; exact ⟨hz', h0, hy, hy2, hf, hv⟩
  unfold appendAV
  simp only [ht, if_pos hc]
  rcases hn with ⟨rfl, hn0⟩ | ⟨q, rfl, hq, hqt⟩
  · have hx : z = tsz X e ∨ xs.length = 0 := .inr hn0
    refine ⟨t ++ [true], fun B => ?_, by simp, by simp, fun k _ hk => old hk _⟩
    rw [if_pos ⟨hx, .inl (by omega)⟩]
    simp only [hs, lset, Nat.lt_irrefl, if_false]
  · have hx : z = tsz X e := by rw [hs, hq]
    refine ⟨t.set q false ++ [true], fun B => ?_, by simp, by simp, fun k hne hk => ?_⟩
    · simp only [hqt]
      rw [if_pos hx]
      simp only [hs, lset, List.length_set, Nat.lt_irrefl, if_false]
    · refine old ?_ _
      rw [List.getElem?_set_ne (by omega)]; exact hk

def Rows (xs : List AV) (ts : List (List Int)) : Prop := xs.length = ts.length ∧ ∀ (i : Nat) (t : List Int), ts[i]? = some t → ∃ tg z, xs[i]? = some (.lst tg z (I t)) ∧ (t ≠ [] → z = 1)
theorem Rows.snoc {xs : List AV} {ts : List (List Int)} (h : Rows xs ts) (tg : Nat) (t : List Int) : Rows (xs ++ [.lst tg 1 (I t)]) (ts ++ [t]) := by
  refine ⟨by simp [h.1], fun i u hu => ?_⟩
  rw [List.getElem?_append] at hu
  split at hu
  · obtain ⟨a, z, h1, h2⟩ := h.2 i u hu
    exact ⟨a, z, old h1 _, h2⟩
  · rename_i hi
    have : i = ts.length := by
      by_cases e : i - ts.length = 0
      · omega
      · rw [List.getElem?_eq_none (by simp; omega)] at hu; cases hu
    subst this
    simp at hu; subst hu
    refine ⟨tg, 1, ?_, fun _ => rfl⟩
    rw [← h.1]; simp
theorem Rows.under {xs : List AV} {ts : List (List Int)} (h : Rows xs ts) (n : Nat) : underL n xs = true := by
  refine underL_of fun x hx => ?_
  obtain ⟨i, hi, e⟩ := List.mem_iff_getElem.1 hx
  have hi2 : i < ts.length := by rw [← h.1]; exact hi
  obtain ⟨a, z, h1, _⟩ := h.2 i ts[i] (List.getElem?_eq_getElem hi2)
  rw [List.getElem?_eq_getElem hi, e] at h1
  simp only [Option.some.injEq] at h1
  rw [h1]; simp only [go_sem, ↓reduceIte, simprocAttr]
theorem Rows.var {xs : List AV} {ts : List (List Int)} (h : Rows xs ts) : xs.all AV.var = true := by
  rw [List.all_eq_true]
  intro x hx
  obtain ⟨i, hi, e⟩ := List.mem_iff_getElem.1 hx
  have hi2 : i < ts.length := by rw [← h.1]; exact hi
  obtain ⟨a, z, h1, _⟩ := h.2 i ts[i] (List.getElem?_eq_getElem hi2)
  rw [List.getElem?_eq_getElem hi, e] at h1
  simp only [Option.some.injEq] at h1
  rw [h1]; rfl
theorem Rows.clean : ∀ {xs : List AV} {ts : List (List Int)}, Rows xs ts → ∃ ys, cleanL xs = some ys ∧ Rows ys ts ∧ cleanL ys = some ys
  | [], ts, h => ⟨[], cleanL_nil, h, cleanL_nil⟩
  | x :: xs, [], h => by have := h.1; simp at this
  | x :: xs, t :: ts, h => by
    have h' : Rows xs ts := ⟨by have := h.1; simpa using this, fun i u hu => by simpa using h.2 (i + 1) u (by simpa using hu)⟩
    obtain ⟨ys, h1, h2, h3⟩ := h'.clean
    obtain ⟨a, z, h4, h5⟩ := h.2 0 t rfl
    simp only [List.getElem?_cons_zero, Option.some.injEq] at h4
    subst h4
    refine ⟨.lst 0 z (I t) :: ys, by simp only [go_sem, ↓reduceIte, simprocAttr, h1], ⟨by have := h2.1; simp [this], fun i u hu => ?_⟩, by simp only [go_sem, ↓reduceIte, simprocAttr, h3]⟩
    cases i with
    | zero => simp at hu; subst hu; exact ⟨0, z, rfl, h5⟩
    | succ i => simpa using h2.2 i u (by simpa using hu)

end Go.Proofs.YtiighcpimecehaaGreat.R8
end
section
namespace Go.Proofs.YtiighcpimecehaaGreat.R8
open Go.Proofs

structure Ho.Ok (h : Ho) : Prop where
  d1 : 1 ≤ h.days
  d3 : h.days ≤ 3
  rd : (h.rates.length : Int) = h.days
  sp : ∀ s ∈ h.rates, 1 ≤ s.1 ∧ s.1 ≤ s.2 ∧ s.2 ≤ 20
  st : 0 ≤ h.step ∧ h.step ≤ 20
  a3 : h.agents.length ≤ 3
  ag : ∀ a ∈ h.agents, 0 ≤ a.fee ∧ a.fee ≤ 20 ∧ 0 ≤ a.round ∧ a.round ≤ 2 ∧ nameOk a.name = true
  an : ∀ (i : Nat) (x : Ag), h.agents[i]? = some x → (h.agents.take i).any (fun y => y.name == x.name) = false
  e5 : h.entries.length ≤ 5
  en : ∀ x ∈ h.entries, 0 ≤ x.agent ∧ x.agent < h.agents.length ∧ 0 ≤ x.day ∧ x.day < h.days ∧ 0 ≤ x.near ∧ x.near ≤ 99 ∧ -1 ≤ x.far ∧ x.far ≤ 198
theorem mem_get {α : Type} {l : List α} {x : α} (h : x ∈ l) : ∃ i, i < l.length ∧ l[i]? = some x := by
  obtain ⟨i, hi, e⟩ := List.mem_iff_getElem.1 h
  exact ⟨i, hi, by rw [← e]; exact List.getElem?_eq_getElem hi⟩
theorem spE_zero {s : Int × Int} (h : spE s = 0) : 1 ≤ s.1 ∧ s.1 ≤ s.2 ∧ s.2 ≤ 20 := by
  unfold spE at h
  split at h
  · cases h
  · rename_i h1
    split at h
    · cases h
    · rename_i h2
      simp [out] at h1
      omega
theorem agE_zero {l : List Ag} {i : Nat} {a : Ag} (h : agE l i a = 0) : nameOk a.name = true ∧ (l.take i).any (fun y => y.name == a.name) = false ∧ 0 ≤ a.fee ∧ a.fee ≤ 20 ∧ 0 ≤ a.round ∧ a.round ≤ 2 := by
  unfold agE at h
  split at h
  · rename_i h0
    split at h
    · cases h
    · rename_i h1
      split at h
      · cases h
      · rename_i h2
        simp [out] at h2
        exact ⟨h0, by simpa using h1, by omega, by omega, by omega, by omega⟩
  · cases h
theorem enE_zero {h : Ho} {x : En} (hx : enE h x = 0) : 0 ≤ x.agent ∧ x.agent < h.agents.length ∧ 0 ≤ x.day ∧ x.day < h.days ∧ 0 ≤ x.near ∧ x.near ≤ 99 ∧ -1 ≤ x.far ∧ x.far ≤ 198 := by
  unfold enE at hx
  split at hx
  · cases hx
  · rename_i h1
    split at hx
    · cases hx
    · rename_i h2
      simp [out] at h1 h2
      omega
theorem agE_fine {l : List Ag} {i : Nat} {a : Ag} (h : nameOk a.name = true ∧ (l.take i).any (fun y => y.name == a.name) = false ∧ 0 ≤ a.fee ∧ a.fee ≤ 20 ∧ 0 ≤ a.round ∧ a.round ≤ 2) : agE l i a = 0 := by
  unfold agE
  rw [if_pos h.1, h.2.1, if_neg (by decide), if_neg (by simp [out]; omega)]
theorem enE_fine {h : Ho} {x : En} (hx : 0 ≤ x.agent ∧ x.agent < h.agents.length ∧ 0 ≤ x.day ∧ x.day < h.days ∧ 0 ≤ x.near ∧ x.near ≤ 99 ∧ -1 ≤ x.far ∧ x.far ≤ 198) : enE h x = 0 := by
  unfold enE
  rw [if_neg (by simp [out]; omega), if_neg (by simp [out]; omega)]
theorem spE_fine {s : Int × Int} (h : 1 ≤ s.1 ∧ s.1 ≤ s.2 ∧ s.2 ≤ 20) : spE s = 0 := by
  unfold spE
  rw [if_neg (by simp [out]; omega), if_neg (by omega)]
theorem check_of_ok {h : Ho} (ho : h.Ok) : checkH h = (0, 0, 0) := by
  have h1 : out 1 3 h.days = false := by have := ho.d1; have := ho.d3; simp [out]; omega
  have h4 : out 0 20 h.step = false := by have := ho.st; simp [out]; omega
  have h5 := ho.a3
  have h7 := ho.e5
  have h3 : firstBad (rateE h) 0 h.rates.length = none := firstBad_zero fun i _ hi => by
    have hx := List.getElem?_eq_getElem (show i < h.rates.length by omega)
    rw [rateE, hx]; exact spE_fine (ho.sp _ (List.mem_of_getElem? hx))
  have h6 : firstBad (agentE h) 0 h.agents.length = none := firstBad_zero fun i _ hi => by
    have hx := List.getElem?_eq_getElem (show i < h.agents.length by omega)
    have a := ho.ag _ (List.mem_of_getElem? hx)
    rw [agentE, hx]; exact agE_fine ⟨a.2.2.2.2, ho.an i _ hx, a.1, a.2.1, a.2.2.1, a.2.2.2.1⟩
  have h8 : firstBad (entryE h) 0 h.entries.length = none := firstBad_zero fun i _ hi => by
    have hx := List.getElem?_eq_getElem (show i < h.entries.length by omega)
    rw [entryE, hx]; exact enE_fine (ho.en _ (List.mem_of_getElem? hx))
  unfold checkH
  rw [h1, if_neg (by decide), if_neg (by have := ho.rd; omega), h3]
  simp only
  rw [h4, if_neg (by decide), if_neg (by omega), h6]
  simp only
  rw [if_neg (by omega), h8]
theorem ok_of_check {h : Ho} (hc : (checkH h).2.2 = 0) : h.Ok ∧ checkH h = (0, 0, 0) := by
  have ho : h.Ok := by
    unfold checkH at hc
    cases h1 : out 1 3 h.days with
    | true => rw [h1] at hc; cases hc
    | false =>
      rw [h1, if_neg (by decide)] at hc
      by_cases h2 : (h.rates.length : Int) = h.days
      · rw [if_neg (by omega)] at hc
        cases h3 : firstBad (rateE h) 0 h.rates.length with
        | some i => rw [h3] at hc; exact absurd hc (firstBad_some h3).2.2.1
        | none =>
          rw [h3] at hc
          simp only at hc
          cases h4 : out 0 20 h.step with
          | true => rw [h4] at hc; cases hc
          | false =>
            rw [h4, if_neg (by decide)] at hc
            by_cases h5 : 3 < h.agents.length
            · rw [if_pos h5] at hc; cases hc
            · rw [if_neg h5] at hc
              cases h6 : firstBad (agentE h) 0 h.agents.length with
              | some i => rw [h6] at hc; exact absurd hc (firstBad_some h6).2.2.1
              | none =>
                rw [h6] at hc
                simp only at hc
                by_cases h7 : 5 < h.entries.length
                · rw [if_pos h7] at hc; cases hc
                · rw [if_neg h7] at hc
                  cases h8 : firstBad (entryE h) 0 h.entries.length with
                  | some i => rw [h8] at hc; exact absurd hc (firstBad_some h8).2.2.1
                  | none =>
                    have ha : ∀ i x, h.agents[i]? = some x → agE h.agents i x = 0 := fun i x hx => by
                      have := firstBad_none h6 i (by omega) (by have := (List.getElem?_eq_some_iff.1 hx).1; omega)
                      rwa [agentE, hx] at this
                    simp [out] at h1 h4
                    refine ⟨by omega, by omega, h2, fun s hs => ?_, by omega, by omega, fun a hs => ?_, fun i x hx => (agE_zero (ha i x hx)).2.1, by omega, fun x hs => ?_⟩
                    · obtain ⟨i, hi, hx⟩ := mem_get hs
                      have := firstBad_none h3 i (by omega) (by omega)
                      rw [rateE, hx] at this; exact spE_zero this
                    · obtain ⟨i, hi, hx⟩ := mem_get hs
                      have := agE_zero (ha i a hx)
                      exact ⟨this.2.2.1, this.2.2.2.1, this.2.2.2.2.1, this.2.2.2.2.2, this.1⟩
                    · obtain ⟨i, hi, hx⟩ := mem_get hs
                      have := firstBad_none h8 i (by omega) (by omega)
                      rw [entryE, hx] at this; exact enE_zero this
      · rw [if_pos h2] at hc; cases hc
  exact ⟨ho, check_of_ok ho⟩

def payN (a : Ag) (near rate : Int) : Int := (if near - a.fee > 0 then near - a.fee else 0) * rate
def payR (a : Ag) (near rate : Int) : Int := if a.round = 1 then (payN a near rate + 10 - 1) / 10 else if a.round = 2 then (payN a near rate + 5) / 10 else payN a near rate / 10
theorem payN_bd {a : Ag} (h0 : 0 ≤ a.fee ∧ a.fee ≤ 20) {n r : Int} (hn : 0 ≤ n ∧ n ≤ 99) (hr : 0 ≤ r ∧ r ≤ 20) : 0 ≤ payN a n r ∧ payN a n r ≤ 1980 := by
  unfold payN
  have key : ∀ m : Int, 0 ≤ m → m ≤ 99 → 0 ≤ m * r ∧ m * r ≤ 1980 := fun m h1 h2 => by
    refine ⟨Int.mul_nonneg h1 hr.1, ?_⟩
    have a := Int.mul_le_mul_of_nonneg_right h2 hr.1
    omega
  split
  · exact key _ (by omega) (by omega)
  · exact key 0 (by omega) (by omega)
theorem tdiv10 {n : Int} (h : 0 ≤ n) : n.tdiv 10 = n / 10 := Int.tdiv_eq_ediv_of_nonneg h
theorem payR_bd {a : Ag} (h0 : 0 ≤ a.fee ∧ a.fee ≤ 20) {n r : Int} (hn : 0 ≤ n ∧ n ≤ 99) (hr : 0 ≤ r ∧ r ≤ 20) : 0 ≤ payR a n r ∧ payR a n r ≤ 198 := by
  have := payN_bd h0 hn hr
  unfold payR
  split
  · omega
  · split <;> omega
theorem c47 (a : Ag) (h0 : 0 ≤ a.fee ∧ a.fee ≤ 20) (n r : Int) (hn : 0 ≤ n ∧ n ≤ 99) (hr : 0 ≤ r ∧ r ≤ 20) (h : Heap) : callPure (EW tabX) 26 [eAg a, .int .i64 n, .int .i64 r] h = some (.int .i64 (payR a n r), h) := by
  have hb := payN_bd h0 hn hr
  have hq : ∀ m, payN a n r ≤ m → m ≤ 3000 → 0 ≤ m / 10 ∧ m / 10 ≤ 3000 := fun m h1 h2 => by omega
  rw [callPure_eq, w_call _ fn_26 rfl]
  unfold payR
  have e0 : (if n - a.fee > 0 then n - a.fee else 0) * r = payN a n r := rfl
  by_cases h1 : a.round = 1
  · simp (disch := omega) only [go_sem, ↓reduceIte, simprocAttr, eAg, wrap_i64, h1, e0, tdiv10]
  · have h1b : (a.round == 1) = false := by simpa using h1
    by_cases h2 : a.round = 2
    · simp (disch := omega) only [go_sem, ↓reduceIte, simprocAttr, eAg, wrap_i64, h1, h1b, h2, e0, tdiv10]
    · have h2b : (a.round == 2) = false := by simpa using h2
      simp (disch := omega) only [go_sem, ↓reduceIte, simprocAttr, eAg, wrap_i64, h1, h1b, h2, h2b, e0, tdiv10]

def Ho.ag0 (h : Ho) (i : Int) : Ag := h.agents.getD i.toNat ⟨default, 0, 0⟩
def agreesB (h : Ho) (x : En) (r : List Int) : Bool := x.far == -1 || payR (h.ag0 x.agent) x.near (r.getD x.day.toNat 0) == x.far
theorem c79 (d : Ho) (hd : d.fits) (ho : d.Ok) (x : En) (hx : x ∈ d.entries) (r : List Int) (hr : (r.length : Int) = d.days) (hb : ∀ n ∈ r, 0 ≤ n ∧ n ≤ 20) (h : Heap) :
    callPure (EW tabX) 68 [eH d, eEn x, .lst 0 1 (I r)] h = some (.bool (agreesB d x r), h) := by
  obtain ⟨a1, a2, a3, a4, a5, a6, a7, a8⟩ := ho.en x hx
  obtain ⟨i, hi⟩ := Int.eq_ofNat_of_zero_le a1
  obtain ⟨j, hj⟩ := Int.eq_ofNat_of_zero_le a3
  have hil : i < d.agents.length := by omega
  have hjl : j < r.length := by omega
  have hz := hd.za (by intro e; rw [e] at hil; simp at hil)
  have hga := List.getElem?_eq_getElem hil
  have hgr := List.getElem?_eq_getElem hjl
  have h47 := c47 d.agents[i] (by have := ho.ag _ (List.getElem_mem hil); omega) x.near r[j] (by omega) (by have := hb _ (List.getElem_mem hjl); omega)
  simp only [eAg] at h47
  have e1 : d.ag0 x.agent = d.agents[i] := by simp [Ho.ag0, hi, hil]
  have e2 : r.getD x.day.toNat 0 = r[j] := by simp [hj, hjl]
  rw [callPure_eq, w_call _ fn_68 rfl]
  unfold agreesB
  rw [e1, e2]
  cases h1 : x.far == -1 with
  | true => simp only [go_sem, ↓reduceIte, simprocAttr, eH, eHc, eEn, h1]
  | false => simp only [go_sem, ↓reduceIte, simprocAttr, eH, eHc, eEn, h1, hi, hj, hga, hgr, hz, eAg, h47]
end Go.Proofs.YtiighcpimecehaaGreat.R8
end
section
namespace Go.Proofs.YtiighcpimecehaaGreat.R8
open Go.Proofs

structure RS where
  tg : Nat
  z : Nat
  xs : List AV
  t : List Bool
def RS.v (s : RS) : AV := .lst s.tg s.z s.xs
def RS.is (s : RS) (ts : List (List Int)) : Prop := Rows s.xs ts ∧ OwnS 1 s.tg s.z s.xs.length s.t ∧ (s.xs = [] → s.z = 0)
def Ho.lo (h : Ho) (d : Nat) : Int := (h.rates.getD d (0, 0)).1
def Ho.hi (h : Ho) (d : Nat) : Int := (h.rates.getD d (0, 0)).2
def Ho.width (h : Ho) (d : Nat) : Nat := (h.hi d + 1 - h.lo d).toNat
def mayR (h : Ho) (d : Nat) (t : List Int) (i : Nat) : Bool := decide (d = 0) || inR (h.lo d + (i : Int) - t.getD (d - 1) 0) (0 - h.step) h.step
def extR (h : Ho) (d : Nat) (t : List Int) (k : Nat) : List (List Int) := ((List.range k).filter fun i => mayR h d t i).map fun (i : Nat) => t ++ [h.lo d + (i : Int)]
def ratesL (h : Ho) : Nat → List (List Int)
  | 0 => [[]]
  | d + 1 => (ratesL h d).flatMap fun t => extR h d t (h.width d)
theorem extR_succ (h : Ho) (d : Nat) (t : List Int) (k : Nat) : extR h d t (k + 1) = if mayR h d t k = true then extR h d t k ++ [t ++ [h.lo d + (k : Int)]] else extR h d t k := by
  unfold extR
  rw [List.range_succ, List.filter_append, List.map_append]
  have e : (List.filter (fun i => mayR h d t i) [k]) = if mayR h d t k = true then [k] else [] := by simp only [List.filter_cons, List.filter_nil]
  rw [e]
  split <;> simp
theorem extR_len (h : Ho) (d : Nat) (t : List Int) (k : Nat) : (extR h d t k).length ≤ k := by
  unfold extR; rw [List.length_map]; have := List.length_filter_le (fun i => mayR h d t i) (List.range k); simpa using this
theorem ratesL_mem (h : Ho) : ∀ (d : Nat) (t : List Int), t ∈ ratesL h d → t.length = d
  | 0, t, hm => by simp [ratesL] at hm; simp [hm]
  | d + 1, t, hm => by
    unfold ratesL at hm
    obtain ⟨u, hu, ht⟩ := List.mem_flatMap.1 hm
    unfold extR at ht
    obtain ⟨i, _, rfl⟩ := List.mem_map.1 ht
    simp [ratesL_mem h d u hu]
theorem Ho.Ok.day {h : Ho} (ho : h.Ok) {d : Nat} (hd : d < h.rates.length) : h.rates[d]? = some (h.lo d, h.hi d) ∧ 1 ≤ h.lo d ∧ h.lo d ≤ h.hi d ∧ h.hi d ≤ 20 ∧ (h.width d : Int) = h.hi d + 1 - h.lo d ∧ h.width d ≤ 20 := by
  have hx := List.getElem?_eq_getElem hd
  have := ho.sp _ (List.getElem_mem hd)
  have e : h.rates.getD d (0, 0) = h.rates[d] := by simp [hd]
  unfold Ho.width Ho.lo Ho.hi
  rw [e]
  refine ⟨hx, this.1, this.2.1, this.2.2, ?_, ?_⟩ <;> omega
theorem ratesL_bd {h : Ho} (ho : h.Ok) : ∀ (d : Nat), d ≤ h.rates.length → ∀ t ∈ ratesL h d, ∀ n ∈ t, 1 ≤ n ∧ n ≤ 20
  | 0, _, t, hm, n, hn => by simp [ratesL] at hm; subst hm; cases hn
  | d + 1, hd, t, hm, n, hn => by
    unfold ratesL at hm
    obtain ⟨u, hu, ht⟩ := List.mem_flatMap.1 hm
    unfold extR at ht
    obtain ⟨i, hi, rfl⟩ := List.mem_map.1 ht
    have hi := List.mem_range.1 (List.mem_filter.1 hi).1
    obtain ⟨_, a, b, c, e, f⟩ := ho.day (show d < h.rates.length by omega)
    rcases List.mem_append.1 hn with h1 | h1
    · exact ratesL_bd ho d (by omega) u hu n h1
    · simp at h1; omega
theorem ratesL_len {h : Ho} (ho : h.Ok) : ∀ d, d ≤ h.rates.length → (ratesL h d).length ≤ 20 ^ d
  | 0, _ => by simp [ratesL]
  | d + 1, hd => by
    have hw := (ho.day (show d < h.rates.length by omega)).2.2.2.2.2
    have a := flat_len (fun t => extR h d t (h.width d)) 20 (ratesL h d) fun t _ => by have := extR_len h d t (h.width d); omega
    have b := ratesL_len ho d (by omega)
    unfold ratesL
    rw [Nat.pow_succ]
    exact Nat.le_trans a (Nat.mul_le_mul_right 20 b)

def eR (t : List Int) : AV := .lst 0 1 (I t)
def vR (ts : List (List Int)) : AV := .lst 0 (zT 1 ts.length) (ts.map eR)
theorem eR_clean (l : List (List Int)) : cleanL (l.map eR) = some (l.map eR) := cleanL_map (fun x => by simp only [eR, go_sem, ↓reduceIte, simprocAttr]) l
theorem eR_get (l : List (List Int)) (k : Nat) : (l.map eR)[k]? = (l[k]?).map eR := by simp
theorem eR_under (n : Nat) (l : List (List Int)) : underL n (l.map eR) = true := underL_map (fun x => by simp only [eR, go_sem, ↓reduceIte, simprocAttr]) l
theorem eR_var (l : List (List Int)) : (l.map eR).all AV.var = true := all_map (fun _ => rfl) l
attribute [go_sem] eR_clean eR_get eR_under eR_var
theorem Rows.clean_eq : ∀ {xs : List AV} {ts : List (List Int)}, Rows xs ts → (∀ t ∈ ts, t ≠ []) → cleanL xs = some (ts.map eR)
  | [], ts, h, _ => by
    have := h.1
    cases ts with
    | nil => exact cleanL_nil
    | cons t ts => simp at this
  | x :: xs, [], h, _ => by have := h.1; simp at this
  | x :: xs, t :: ts, h, hn => by
    have h' : Rows xs ts := ⟨by have := h.1; simpa using this, fun i u hu => by simpa using h.2 (i + 1) u (by simpa using hu)⟩
    have ih := Rows.clean_eq h' fun u hu => hn u (by simp [hu])
    obtain ⟨a, z, h4, h5⟩ := h.2 0 t rfl
    simp only [List.getElem?_cons_zero, Option.some.injEq] at h4
    subst h4
    have := h5 (hn t (by simp))
    subst this
    simp only [go_sem, ↓reduceIte, simprocAttr, ih, List.map_cons, eR]

theorem c88 (d : Ho) (hd : d.fits) (ho : d.Ok) (h : Heap) : callPure (EW tabX) 67 [eH d] h = some (vR (ratesL d d.rates.length), h) := by
  have hrd := ho.rd
  have hd1 := ho.d1
  have hd3 := ho.d3
  have hr3 : d.rates.length ≤ 3 := by omega
  have hst := ho.st
  have hzr := hd.zr (by intro e; rw [e] at hrd; simp at hrd; omega)
  have key : ∃ s : RS, Rows s.xs (ratesL d d.rates.length) ∧ (s.xs ≠ [] → s.z = 1) ∧ (s.xs = [] → s.z = 0) ∧ ∃ h1, (EW tabX).call 67 [eH d] ⟨[], []⟩ = some (s.v, h1) := by
    rw [w_call _ fn_67 rfl]
    simp only [go_sem, ↓reduceIte, simprocAttr, eH, eHc]
    generalize hx : (EW tabX).code 67 none (Code.loop _) _ = x
    refine w_rounds_sk hx (fun k (s : RS) => [(3, s.v), (4, .int .i64 k)]) (fun s => ⟨[.cells (eHc d)], s.t⟩) (fun k s => Rows s.xs (ratesL d k) ∧ (s.xs ≠ [] → s.z = 1) ∧ (s.xs = [] → s.z = 0)) d.rates.length (.exit 0) (fun s => [(3, s.v), (4, .int .i64 d.rates.length)]) rfl ⟨1, 1, [.lst 1 0 []], []⟩ ?_ ?_ ?_ ?_ ?_ ?_
    · simp only [go_sem, ↓reduceIte, simprocAttr, RS.v]
    · simp only [eHc]
    · refine ⟨⟨rfl, fun i t hi => ?_⟩, fun _ => rfl, fun h => (by cases h)⟩
      cases i with
      | zero => simp [ratesL] at hi; subst hi; exact ⟨1, 0, rfl, fun h => absurd rfl h⟩
      | succ i => simp [ratesL] at hi
    · intro e s he hR
      obtain ⟨hrow, hz, hz0⟩ := hR
      obtain ⟨tg, z, xs, t⟩ := s
      have hrow : Rows xs (ratesL d e) := hrow
      have hz : xs ≠ [] → z = 1 := hz
      have hei : (e : Int) < d.days := by omega
      have hxl := hrow.1
      have hlen := ratesL_len ho e (by omega)
      have hp : 20 ^ e ≤ 400 := by
        have : 20 ^ e ≤ 20 ^ 2 := Nat.pow_le_pow_right (by omega) (by omega)
        omega
      obtain ⟨hday, w1, w2, w3, w4, w5⟩ := ho.day he
      simp only [go_sem, ↓reduceIte, simprocAttr, hei, eHc, RS.v]
      generalize hy : (EW tabX).code 67 none (Code.loop _) _ = y
      refine w_rounds_sk hy (fun k (s : RS) => [(5, s.v), (6, .int .i64 k)]) (fun s => ⟨[.cells (eHc d)], s.t⟩) (fun k s => s.is (((ratesL d e).take k).flatMap fun t => extR d e t (d.width e))) (ratesL d e).length (.exit 2) (fun s => [(5, s.v), (6, .int .i64 (ratesL d e).length)]) rfl ⟨1, 0, [], t⟩ ?_ ?_ ?_ ?_ ?_ ?_
      · simp only [go_sem, ↓reduceIte, simprocAttr, RS.v]
      · simp only [eHc]
      · exact ⟨⟨rfl, fun i t hi => by simp at hi⟩, .inl ⟨rfl, rfl⟩, fun _ => rfl⟩
      · intro k s hk hR
        obtain ⟨ntg, nz, nxs, nt⟩ := s
        have hki : (k : Int) < xs.length := by omega
        have htk := List.getElem?_eq_getElem hk
        obtain ⟨otg, oz, hox, hoz⟩ := hrow.2 k _ htk
        have htl := ratesL_mem d e _ (List.getElem_mem hk)
        have htb := ratesL_bd ho e (by omega) _ (List.getElem_mem hk)
        have hz1 := hz (by intro h; rw [h] at hki; simp at hki; omega)
        subst hz1
        have hflat : ((ratesL d e).take (k + 1)).flatMap (fun t => extR d e t (d.width e)) = ((ratesL d e).take k).flatMap (fun t => extR d e t (d.width e)) ++ extR d e (ratesL d e)[k] (d.width e) := by
          rw [List.take_add_one, htk, List.flatMap_append]; simp
        have hpl : (((ratesL d e).take k).flatMap fun t => extR d e t (d.width e)).length ≤ 400 * 20 := by
          have a := flat_len (fun t => extR d e t (d.width e)) 20 ((ratesL d e).take k) fun t _ => by have := extR_len d e t (d.width e); omega
          have b : ((ratesL d e).take k).length ≤ 400 := by rw [List.length_take]; omega
          exact Nat.le_trans a (Nat.mul_le_mul_right 20 b)
        rw [hflat]
        generalize (((ratesL d e).take k).flatMap fun t => extR d e t (d.width e)) = pre at hR hpl ⊢
        generalize (ratesL d e)[k] = tt at hox hoz htl htb ⊢
        simp (disch := omega) only [go_sem, ↓reduceIte, simprocAttr, hki, eHc, RS.v, wrap_i64, hday, eSp, hzr]
        generalize hz : (EW tabX).code 67 none (Code.loop _) _ = w
        refine w_rounds_sk hz (fun k (s : RS) => [(5, s.v), (7, .int .i64 (d.lo e + (k : Int)))]) (fun s => ⟨[.cells (eHc d)], s.t⟩) (fun j s => s.is (pre ++ extR d e tt j)) (d.width e) (.exit 4) (fun s => [(5, s.v), (7, .int .i64 (d.hi e + 1))]) rfl ⟨ntg, nz, nxs, nt⟩ ?_ ?_ ?_ ?_ ?_ ?_
        · simp only [go_sem, ↓reduceIte, simprocAttr, RS.v, Int.add_zero]
        · simp only [eHc, hzr]
        · simpa [extR] using hR
        · intro j s hj hR
          obtain ⟨jtg, jz, jxs, jt⟩ := s
          obtain ⟨hrj, hoj, hj0⟩ := hR
          have hrj : Rows jxs (pre ++ extR d e tt j) := hrj
          have hoj : OwnS 1 jtg jz jxs.length jt := hoj
          have hji : d.lo e + (j : Int) ≤ d.hi e := by omega
          have hjl := hrj.1
          have hel := extR_len d e tt j
          have hjn : jxs.length ≤ 8100 := by rw [hjl, List.length_append]; omega
          have hoxt : xs[k]? = some (.lst otg oz (I tt)) := hox
          rw [extR_succ]
          have hws : IntKind.i64.wrap (d.lo e + (j : Int) + 1) = d.lo e + ((j : Int) + 1) := by rw [wrap_i64 (by omega)]; omega
          obtain ⟨t2, a1, b1, c1, d1⟩ := app_gen (X := tabX) (ty := 30) (e := 3) (sz := 1) (tag := 1) (z := 1) (t := jt) (xs := []) (.inl ⟨rfl, rfl⟩) otg oz (I tt) (by simp only [go_sem, ↓reduceIte, simprocAttr]) (by simp only [go_sem, ↓reduceIte, simprocAttr]) (by omega)
            (by by_cases h : tt = []; exact .inr (by rw [h]; rfl); exact .inl (hoz h)) (by simp only [go_sem, ↓reduceIte, simprocAttr]; omega) (by simp only [go_sem, ↓reduceIte, simprocAttr]; omega) (by simp only [go_sem, ↓reduceIte, simprocAttr]) (by simp only [go_sem, ↓reduceIte, simprocAttr])
          obtain ⟨t3, a2, b2, c2, d2⟩ := app_gen (X := tabX) (ty := 30) (e := 3) (sz := 1) (tag := jt.length + 2) (z := 1) (t := t2) (xs := I tt) (.inr ⟨jt.length, rfl, rfl, c1⟩) 1 1 [.int .i64 (d.lo e + (j : Int))] (by simp only [go_sem, ↓reduceIte, simprocAttr]) (by simp only [go_sem, ↓reduceIte, simprocAttr]) (by omega)
            (.inl rfl) (by simp only [go_sem, ↓reduceIte, simprocAttr]; omega) (by simp only [go_sem, ↓reduceIte, simprocAttr]; omega) (by simp only [go_sem, ↓reduceIte, simprocAttr]) (by simp only [go_sem, ↓reduceIte, simprocAttr])
          have hown3 : OwnS 1 jtg jz jxs.length t3 := by
            rcases hoj with h | ⟨q, h1, h2, h3⟩
            · exact .inl h
            · have hq : q < jt.length := (List.getElem?_eq_some_iff.1 h3).1
              exact .inr ⟨q, h1, h2, d2 q (by omega) (d1 q (by omega) h3)⟩
          obtain ⟨t4, a3, b3, c3, d3⟩ := app_gen (X := tabX) (ty := 51) (e := 30) (sz := 1) hown3 1 1 [.lst (t2.length + 2) 1 (I (tt ++ [d.lo e + (j : Int)]))] (by simp only [go_sem, ↓reduceIte, simprocAttr]) (by simp only [go_sem, ↓reduceIte, simprocAttr]) (by omega)
            (.inl rfl) (by simp only [go_sem, ↓reduceIte, simprocAttr]; omega) (by simp only [go_sem, ↓reduceIte, simprocAttr]; omega) (by simp only [go_sem, ↓reduceIte, simprocAttr]) (by simp only [go_sem, ↓reduceIte, simprocAttr])
          have hyes : RS.is ⟨t3.length + 2, 1, jxs ++ [.lst (t2.length + 2) 1 (I (tt ++ [d.lo e + (j : Int)]))], t4⟩ (pre ++ (extR d e tt j ++ [tt ++ [d.lo e + (j : Int)]])) := by
            refine ⟨?_, .inr ⟨t3.length, rfl, rfl, c3⟩, fun h => by simp at h⟩
            rw [← List.append_assoc]
            exact hrj.snoc _ _
          simp only [List.nil_append] at a1
          cases e with
          | zero =>
            have hm : mayR d 0 tt j = true := rfl
            rw [hm, if_pos rfl]
            refine ⟨_, ?_, hyes⟩
            simp (disch := omega) only [go_sem, ↓reduceIte, simprocAttr, hday, hji, hki, hoxt, eHc, eSp, hzr, RS.v, hws, a1, a2, a3, I_snoc]
          | succ e =>
            have hil : e < tt.length := by omega
            have hg := List.getElem?_eq_getElem hil
            have hoz1 := hoz (by intro h; rw [h] at hil; simp at hil)
            subst hoz1
            have hb := htb _ (List.getElem_mem hil)
            have hee : (e : Int) + 1 - 1 = e := by omega
            have hpos : (0 : Int) < (e : Int) + 1 := by omega
            have hng : ((e : Int) + 1 < 0) = False := by simp; omega
            have htn : ((e : Int) + 1).toNat = e + 1 := by omega
            have hmay : mayR d (e + 1) tt j = inR (d.lo (e + 1) + (j : Int) - tt[e]) (0 - d.step) d.step := by
              unfold mayR
              have e2 : tt.getD (e + 1 - 1) 0 = tt[e] := by simp [hil]
              rw [e2]; simp
            cases hm : mayR d (e + 1) tt j with
            | true =>
              rw [hm] at hmay
              rw [if_pos rfl]
              refine ⟨_, ?_, hyes⟩
              simp (disch := omega) only [go_sem, ↓reduceIte, simprocAttr, hday, hji, hki, hoxt, eHc, eSp, hzr, RS.v, hws, a1, a2, a3, I_snoc, hee, hpos, hng, htn, hg, c46, ← hmay, wrap_i64]
            | false =>
              rw [hm] at hmay
              rw [if_neg (by decide)]
              refine ⟨⟨jtg, jz, jxs, jt⟩, ?_, hrj, hoj, hj0⟩
              simp (disch := omega) only [go_sem, ↓reduceIte, simprocAttr, hday, hji, hki, hoxt, eHc, eSp, hzr, RS.v, hws, hee, hpos, hng, htn, hg, c46, ← hmay, wrap_i64]
        · intro s hR
          have e1 : d.lo e + (d.width e : Int) = d.hi e + 1 := by omega
          have e2 : ¬ (d.hi e + 1 ≤ d.hi e) := by omega
          simp only [go_sem, ↓reduceIte, simprocAttr, RS.v, eHc, hday, eSp, hzr, e1, e2]
        · intro s h1 hR
          subst h1
          exact ⟨s, by simp (disch := omega) only [go_sem, ↓reduceIte, simprocAttr, RS.v, eHc, wrap_i64, hzr], hR⟩
      · intro s hR
        simp only [go_sem, ↓reduceIte, simprocAttr, RS.v, eHc, hxl, hzr]
      · intro s h1 hR
        subst h1
        rw [List.take_length] at hR
        refine ⟨s, by simp (disch := omega) only [go_sem, ↓reduceIte, simprocAttr, RS.v, eHc, wrap_i64], hR.1, fun hne => ?_, fun hnil => ?_⟩
        · rcases hR.2.1 with ⟨_, h0⟩ | ⟨_, _, h0, _⟩
          · exact absurd (List.eq_nil_of_length_eq_zero h0) hne
          · exact h0
        · exact hR.2.2 hnil
    · intro s hR
      simp only [go_sem, ↓reduceIte, simprocAttr, RS.v, eHc, hrd]
    · intro s h1 hR
      subst h1
      have hun := hR.1.under 0
      exact ⟨s, hR.1, hR.2.1, hR.2.2, ⟨[], s.t⟩, by simp only [go_sem, ↓reduceIte, simprocAttr, RS.v, hun]⟩
  obtain ⟨s, hrow, hz, hz0, h1, hcall⟩ := key
  have hne : ∀ t ∈ ratesL d d.rates.length, t ≠ [] := fun t ht e => by
    have := ratesL_mem d _ t ht
    rw [e] at this; simp at this; omega
  have hcl := hrow.clean_eq hne
  refine pure_of hcall ?_
  have hzz : s.z = zT 1 (ratesL d d.rates.length).length := by
    cases hq : ratesL d d.rates.length with
    | nil =>
      have : s.xs = [] := List.eq_nil_of_length_eq_zero (by rw [hrow.1, hq]; rfl)
      rw [hz0 this]; rfl
    | cons a b =>
      have : s.xs ≠ [] := fun h => by have := hrow.1; rw [h, hq] at this; simp at this
      rw [hz this]; rfl
  simp only [RS.v, go_sem, ↓reduceIte, simprocAttr, hcl, vR, hzz]
end Go.Proofs.YtiighcpimecehaaGreat.R8
end
section
namespace Go.Proofs.YtiighcpimecehaaGreat.R8
open Go.Proofs

def ownR (T0 : List Bool) (l : List (List Int)) : AV := .lst (tagT T0 l.length) (zT 1 l.length) (l.map eR)
theorem ownR_clean (T0 : List Bool) (l : List (List Int)) : (ownR T0 l).clean = some (vR l) := by simp only [ownR, vR, go_sem, ↓reduceIte, simprocAttr]
theorem ownR_under (T0 : List Bool) (n : Nat) (l : List (List Int)) : (ownR T0 l).under n = true := by simp only [ownR, go_sem, ↓reduceIte, simprocAttr]
theorem ownR_app (T0 : List Bool) (l : List (List Int)) (x : List Int) (hl : l.length < 10000) (B : List ABlk) :
    appendAV tabX 51 (T T0 l.length).length ⟨B, T T0 l.length⟩ (ownR T0 l) (.lst 1 1 [.lst 0 1 (I x)]) = some (ownR T0 (l ++ [x]), ⟨B, T T0 (l ++ [x]).length⟩) := by
  have := append_step (X := tabX) (t := 51) (e := 30) (sz := 1) T0 l.length B (zT 1 l.length) 1 1 (l.map eR) [.lst 0 1 (I x)] (by simp only [go_sem, ↓reduceIte, simprocAttr]) (by simp only [go_sem, ↓reduceIte, simprocAttr])
    (by rcases Nat.eq_zero_or_pos l.length with e | e; exact .inl ⟨e, by rw [List.length_map, e]⟩; exact .inr (zT_pos e)) (.inl rfl) (by omega) (by simp only [go_sem, ↓reduceIte, simprocAttr]; omega) (by simp only [go_sem, ↓reduceIte, simprocAttr]; omega) (by simp only [go_sem, ↓reduceIte, simprocAttr]) (by simp only [go_sem, ↓reduceIte, simprocAttr])
  have e : (l ++ [x]).length = l.length + 1 := by simp
  have e2 : (l ++ [x]).map eR = l.map eR ++ [.lst 0 1 (I x)] := by simp [eR]
  rw [ownR, this, ownR, e, e2]; rfl

def Ho.en0 (h : Ho) (i : Nat) : En := h.entries.getD i ⟨0, 0, 0, 0⟩
def agreeTo (h : Ho) (but r : List Int) (k : Nat) : Bool := (List.range k).all fun i => (but.any fun x => x == (i : Int)) || agreesB h (h.en0 i) r
theorem agreeTo_succ (h : Ho) (but r : List Int) (k : Nat) : agreeTo h but r (k + 1) = (agreeTo h but r k && ((but.any fun x => x == (k : Int)) || agreesB h (h.en0 k) r)) := by simp [agreeTo, List.range_succ]
def truthsL (h : Ho) (but : List Int) : List (List Int) := (ratesL h h.rates.length).filter fun r => agreeTo h but r h.entries.length
theorem filter_succ {α : Type} (p : α → Bool) {l : List α} {k : Nat} {x : α} (h : l[k]? = some x) : (l.take (k + 1)).filter p = if p x = true then (l.take k).filter p ++ [x] else (l.take k).filter p := by
  rw [List.take_add_one, h, Option.toList_some, List.filter_append]
  cases hp : p x <;> simp [hp]
theorem Ho.Ok.len (h : Ho) (ho : h.Ok) : (ratesL h h.rates.length).length ≤ 8000 := by
  have a := ratesL_len ho h.rates.length (Nat.le_refl _)
  have b : 20 ^ h.rates.length ≤ 20 ^ 3 := Nat.pow_le_pow_right (by omega) (by have := ho.rd; have := ho.d3; omega)
  omega

theorem c45 (d : Ho) (hd : d.fits) (ho : d.Ok) (but : List Int) (zb : Nat) (hb : but ≠ [] → zb = 1) (hbl : but.length < 1000000000000000000) (h : Heap) : callPure (EW tabX) 21 [eH d, .lst 0 zb (I but)] h = some (vR (truthsL d but), h) := by
  have hrd := ho.rd
  have hd1 := ho.d1
  have hd3 := ho.d3
  have he5 := ho.e5
  have h88 := c88 d hd ho
  have hlen := Ho.Ok.len d ho
  have hcl := eH_clean d
  rw [callPure_eq, w_call _ fn_21 rfl]
  simp only [eH, eHc] at h88 hcl
  simp only [go_sem, ↓reduceIte, simprocAttr, eH, eHc, h88, vR]
  unfold truthsL
  have hmem : ∀ t ∈ ratesL d d.rates.length, (t.length : Int) = d.days ∧ ∀ n ∈ t, 1 ≤ n ∧ n ≤ 20 := fun t ht => ⟨by rw [ratesL_mem d _ t ht, hrd], ratesL_bd ho _ (Nat.le_refl _) t ht⟩
  generalize hall : ratesL d d.rates.length = all at hlen hmem
  rw [w_rounds_h (fun k => [(6, ownR [] ((all.take k).filter fun r => agreeTo d but r d.entries.length)), (7, .int .i64 k)]) (fun k => ⟨[.cells (eHc d)], T [] ((all.take k).filter fun r => agreeTo d but r d.entries.length).length⟩) all.length (.exit 0)
    [(6, ownR [] (all.filter fun r => agreeTo d but r d.entries.length)), (7, .int .i64 all.length)] ⟨[.cells (eHc d)], T [] (all.filter fun r => agreeTo d but r d.entries.length).length⟩ ?_ ?_ ?_ ?_ rfl]
  · simp only [go_sem, ↓reduceIte, simprocAttr, ownR_clean, ownR_under, vR]
  · simp only [go_sem, ↓reduceIte, simprocAttr]; rfl
  · simp only [go_sem, ↓reduceIte, simprocAttr, eHc, List.take_zero, List.filter_nil]
  · intro k hk
    have hki : (k : Int) < all.length := by omega
    have hx := List.getElem?_eq_getElem hk
    obtain ⟨m1, m2⟩ := hmem _ (List.getElem_mem hk)
    have hzz : zT 1 all.length = 1 := zT_pos (by omega)
    have hfl : ((all.take k).filter fun r => agreeTo d but r d.entries.length).length < 10000 := by
      have a := List.length_filter_le (fun r => agreeTo d but r d.entries.length) (all.take k)
      rw [List.length_take] at a
      omega
    rw [filter_succ _ hx]
    generalize ((all.take k).filter fun r => agreeTo d but r d.entries.length) = pre at hfl ⊢
    generalize hr : all[k] = r at hx m1 m2 ⊢
    simp (disch := omega) only [go_sem, ↓reduceIte, simprocAttr, eHc, hki, wrap_i64]
    rw [w_rounds_u (fun j => [(8, .bool (agreeTo d but r j)), (9, .int .i64 j)]) d.entries.length (.exit 2) [(8, .bool (agreeTo d but r d.entries.length)), (9, .int .i64 d.entries.length)] ?_ ?_ ?_ rfl]
    · cases hp : agreeTo d but r d.entries.length with
      | true =>
        have hap := ownR_app [] pre r hfl
        simp (disch := omega) only [go_sem, ↓reduceIte, simprocAttr, hx, eR, hzz, hap, wrap_i64]
      | false => simp (disch := omega) only [go_sem, ↓reduceIte, simprocAttr, hx, eR, hzz, wrap_i64]
    · simp only [go_sem, ↓reduceIte, simprocAttr]; rfl
    · intro j hj
      have hji : (j : Int) < d.entries.length := by omega
      have hxe := List.getElem?_eq_getElem hj
      have hze := hd.ze (by intro e; rw [e] at hj; simp at hj)
      have e0 : d.en0 j = d.entries[j] := by simp [Ho.en0, hj]
      have h79 := c79 d hd ho d.entries[j] (List.getElem_mem hj) r m1 (fun n hn => by have := m2 n hn; omega)
      have h89 := c89 but j zb hb hbl
      rw [agreeTo_succ, e0]
      simp only [eH, eHc, eEn, hze] at h79 hcl
      cases h1 : agreeTo d but r j with
      | false => simp (disch := omega) only [go_sem, ↓reduceIte, simprocAttr, hji, hze, h1, wrap_i64]
      | true =>
        cases h2 : but.any (fun x => x == (j : Int)) with
        | true =>
          rw [h2] at h89
          simp (disch := omega) only [go_sem, ↓reduceIte, simprocAttr, hji, hze, h89, wrap_i64]
        | false =>
          rw [h2] at h89
          simp (disch := omega) only [go_sem, ↓reduceIte, simprocAttr, hji, hze, h89, hxe, hx, eR, eEn, hzz, h79, wrap_i64]
    · simp only [go_sem, ↓reduceIte, simprocAttr]
  · simp only [go_sem, ↓reduceIte, simprocAttr, eHc, List.take_length]

theorem truthsL_mem {h : Ho} {but t : List Int} (hm : t ∈ truthsL h but) : t.length = h.rates.length := ratesL_mem h _ t (List.mem_filter.1 hm).1
def knownE (h : Ho) (e : Int) : Int := if e = 0 then (if truthsL h [] = [] then 8 else 0) else e
def checkE (h : Ho) : Int := (checkH h).2.2
def indexE (h : Ho) (n below : Int) : Int := if checkE h = 0 then (if inR n 0 (below - 1) = true then 0 else 4) else checkE h
def penceE (n most e : Int) : Int := if e = 0 then (if inR n 0 most = true then 0 else 7) else e
def firstV (h : Ho) : List Int × Int × Int := if knownE h (checkE h) = 0 then ((truthsL h []).headD [], ((truthsL h []).length : Int), 0) else ([], 0, knownE h (checkE h))
def v3 (x : List Int × Int × Int) : AV := .tup [vI x.1, .int .i64 x.2.1, .int .i64 x.2.2]
theorem ok_of_E {h : Ho} (hc : checkE h = 0) : h.Ok := (ok_of_check hc).1
theorem knownE_zero {h : Ho} {e : Int} (hk : knownE h e = 0) : e = 0 ∧ truthsL h [] ≠ [] := by
  unfold knownE at hk
  split at hk
  · rename_i h0
    split at hk
    · cases hk
    · rename_i h1; exact ⟨h0, h1⟩
  · rename_i h0; exact absurd hk h0
end Go.Proofs.YtiighcpimecehaaGreat.R8
end
section
namespace Go.Proofs.YtiighcpimecehaaGreat.R8
open Go.Proofs

section
variable (X : Tab) {E : Eng} {L : List Nat} {all : List Oper}
end
section
variable {X : Tab} {f : Nat} {rd : Option Nat} {b : Code}
end

attribute [go_sem] d_nil d_c opMapUpdate opLookup

def joinS (s : Int × Int) (n : Int) : Int × Int := (if n < s.1 then n else s.1, if s.2 < n then n else s.2)
def foldS (f : List Int → Int) (l : List (List Int)) : Int × Int := match l with
  | [] => (0, 0)
  | t :: ts => ts.foldl (fun s r => joinS s (f r)) (f t, f t)
theorem sux_neg (k : Nat) : ((k : Int) + 1 < 0) = False := by simp; omega
theorem sux_nat (k : Nat) : ((k : Int) + 1).toNat = k + 1 := by omega
attribute [go_sem] sux_neg sux_nat
end Go.Proofs.YtiighcpimecehaaGreat.R8
end
section
namespace Go.Proofs.YtiighcpimecehaaGreat.R8
open Go.Proofs

theorem indexE_zero {h : Ho} {n below : Int} (hi : indexE h n below = 0) : checkE h = 0 ∧ 0 ≤ n ∧ n < below := by
  unfold indexE at hi
  split at hi
  · rename_i h0
    split at hi
    · rename_i h1
      simp [inR] at h1
      exact ⟨h0, h1.1, by omega⟩
    · cases hi
  · rename_i h0; exact absurd hi h0
theorem truths_cons {h : Ho} (ho : h.Ok) (hn : truthsL h [] ≠ []) : ∃ t ts, truthsL h [] = t :: ts ∧ ∀ r ∈ t :: ts, r.length = h.rates.length ∧ ∀ n ∈ r, 1 ≤ n ∧ n ≤ 20 := by
  cases hq : truthsL h [] with
  | nil => exact absurd hq hn
  | cons t ts =>
    refine ⟨t, ts, rfl, fun r hr => ?_⟩
    rw [← hq] at hr
    exact ⟨truthsL_mem hr, ratesL_bd ho _ (Nat.le_refl _) r (List.mem_filter.1 hr).1⟩
theorem truthsL_len {h : Ho} (ho : h.Ok) (but : List Int) : (truthsL h but).length ≤ 8000 := by
  have a := Ho.Ok.len h ho
  have b := List.length_filter_le (fun r => agreeTo h but r h.entries.length) (ratesL h h.rates.length)
  unfold truthsL; omega
def rateV (h : Ho) (day : Int) : (Int × Int) × Int := if knownE h (indexE h day h.days) = 0 then (foldS (fun r => r.getD day.toNat 0) (truthsL h []), 0) else ((0, 0), knownE h (indexE h day h.days))
def vS (x : (Int × Int) × Int) : AV := .tup [eSp x.1, .int .i64 x.2]
end Go.Proofs.YtiighcpimecehaaGreat.R8
end
section
namespace Go.Proofs.YtiighcpimecehaaGreat.R8
open Go.Proofs

def payAt (h : Ho) (who day near : Int) (r : List Int) : Int := payR (h.ag0 who) near (r.getD day.toNat 0)
def worthE (h : Ho) (who day near : Int) : Int := knownE h (penceE near 99 (if indexE h who h.agents.length = 0 then indexE h day h.days else indexE h who h.agents.length))
def worthV (h : Ho) (who day near : Int) : (Int × Int) × Int := if worthE h who day near = 0 then (foldS (payAt h who day near) (truthsL h []), 0) else ((0, 0), worthE h who day near)
theorem penceE_zero {n most e : Int} (h : penceE n most e = 0) : e = 0 ∧ 0 ≤ n ∧ n ≤ most := by
  unfold penceE at h
  split at h
  · rename_i h0
    split at h
    · rename_i h1
      simp [inR] at h1
      exact ⟨h0, h1.1, h1.2⟩
    · cases h
  · rename_i h0; exact absurd h h0
theorem worthE_zero {h : Ho} {who day near : Int} (hw : worthE h who day near = 0) : checkE h = 0 ∧ (0 ≤ who ∧ who < h.agents.length) ∧ (0 ≤ day ∧ day < h.days) ∧ (0 ≤ near ∧ near ≤ 99) ∧ truthsL h [] ≠ [] := by
  unfold worthE at hw
  obtain ⟨k1, k2⟩ := knownE_zero hw
  obtain ⟨k3, k4⟩ := penceE_zero k1
  split at k3
  · rename_i h0
    obtain ⟨a1, a2⟩ := indexE_zero h0
    obtain ⟨b1, b2⟩ := indexE_zero k3
    exact ⟨a1, a2, b2, k4, k2⟩
  · rename_i h0; exact absurd k3 h0
def sumTo (h : Ho) (who : Int) (r : List Int) : Nat → Int
  | 0 => 0
  | k + 1 => sumTo h who r k + if (h.en0 k).agent = who then payAt h who (h.en0 k).day (h.en0 k).near r else 0
theorem en0_at (h : Ho) {k : Nat} (hk : k < h.entries.length) : h.en0 k = h.entries[k] := by simp [Ho.en0, hk]
theorem pay_at {d : Ho} (ho : d.Ok) {x : En} (hx : x ∈ d.entries) {r : List Int} (hr : r.length = d.rates.length ∧ ∀ n ∈ r, 1 ≤ n ∧ n ≤ 20) :
    ∃ (i j : Nat) (a : Ag) (v : Int), x.agent = (i : Int) ∧ x.day = (j : Int) ∧ d.agents[i]? = some a ∧ r[j]? = some v ∧ payAt d x.agent x.day x.near r = payR a x.near v ∧ (0 ≤ payR a x.near v ∧ payR a x.near v ≤ 198) ∧
      ∀ h, callPure (EW tabX) 26 [eAg a, .int .i64 x.near, .int .i64 v] h = some (.int .i64 (payR a x.near v), h) := by
  obtain ⟨a1, a2, a3, a4, a5, a6, a7, a8⟩ := ho.en x hx
  have hrd := ho.rd
  obtain ⟨i, hi⟩ := Int.eq_ofNat_of_zero_le a1
  obtain ⟨j, hj⟩ := Int.eq_ofNat_of_zero_le a3
  have hil : i < d.agents.length := by omega
  have hjl : j < r.length := by omega
  have hag := ho.ag _ (List.getElem_mem hil)
  have hb := hr.2 _ (List.getElem_mem hjl)
  refine ⟨i, j, d.agents[i], r[j], hi, hj, List.getElem?_eq_getElem hil, List.getElem?_eq_getElem hjl, ?_, payR_bd ⟨hag.1, hag.2.1⟩ ⟨a5, a6⟩ (by omega), c47 _ ⟨hag.1, hag.2.1⟩ x.near r[j] ⟨a5, a6⟩ (by omega)⟩
  unfold payAt
  rw [hi, hj]
  simp [Ho.ag0, hil, hjl]
theorem sumTo_bd {d : Ho} (ho : d.Ok) (who : Int) {r : List Int} (hr : r.length = d.rates.length ∧ ∀ n ∈ r, 1 ≤ n ∧ n ≤ 20) : ∀ k, k ≤ d.entries.length → 0 ≤ sumTo d who r k ∧ sumTo d who r k ≤ 198 * k
  | 0, _ => by simp [sumTo]
  | k + 1, hk => by
    have ih := sumTo_bd ho who hr k (by omega)
    have hk' : k < d.entries.length := by omega
    obtain ⟨i, j, a, v, _, _, _, _, e, b, _⟩ := pay_at ho (List.getElem_mem hk') hr
    unfold sumTo
    rw [en0_at d hk']
    split
    · rename_i hw
      rw [hw] at e
      rw [e]; omega
    · omega
def sumAll (h : Ho) (who : Int) (r : List Int) : Int := sumTo h who r h.entries.length
def paidV (h : Ho) (who : Int) : (Int × Int) × Int := if knownE h (indexE h who h.agents.length) = 0 then (foldS (sumAll h who) (truthsL h []), 0) else ((0, 0), knownE h (indexE h who h.agents.length))
end Go.Proofs.YtiighcpimecehaaGreat.R8
end
section
namespace Go.Proofs.YtiighcpimecehaaGreat.R8
open Go.Proofs

theorem pm_get {α : Type} (P t : List α) (m : Nat) (x : α) (i : Nat) : (P.set m x ++ t)[P.length + i]? = t[i]? := by
  have := get_at (P.set m x) t i
  rwa [List.length_set] at this
theorem pm_get0 {α : Type} (P t : List α) (m : Nat) (x : α) : (P.set m x ++ t)[P.length]? = t[0]? := by
  have := get_at0 (P.set m x) t
  rwa [List.length_set] at this
theorem pm_set {α : Type} (P t : List α) (m : Nat) (x : α) (i : Nat) (y : α) : (P.set m x ++ t).set (P.length + i) y = P.set m x ++ t.set i y := by
  have := set_at (P.set m x) t i y
  rwa [List.length_set] at this
theorem pm_set0 {α : Type} (P t : List α) (m : Nat) (x : α) (y : α) : (P.set m x ++ t).set P.length y = P.set m x ++ t.set 0 y := by
  have := set_at0 (P.set m x) t y
  rwa [List.length_set] at this
theorem pm_take {α : Type} (P t : List α) (m : Nat) (x : α) (i : Nat) : (P.set m x ++ t).take (P.length + i) = P.set m x ++ t.take i := by
  have := List.take_length_add_append (l₁ := P.set m x) (l₂ := t) (i := i)
  rwa [List.length_set] at this
theorem pm_take0 {α : Type} (P t : List α) (m : Nat) (x : α) : (P.set m x ++ t).take P.length = P.set m x := by
  have := pm_take P t m x 0
  rw [Nat.add_zero, List.take_zero, List.append_nil] at this
  exact this
attribute [go_sem] List.length_set pm_get pm_get0 pm_set pm_set0 pm_take pm_take0 List.take_length_add_append
theorem set_self {α : Type} {B : List α} {m : Nat} {x : α} (h : B[m]? = some x) : B.set m x = B := by
  apply List.ext_getElem?
  intro i
  rw [List.getElem?_set]
  split
  · rename_i e
    subst e
    split
    · exact h.symm
    · rename_i hn
      rw [List.getElem?_eq_none (by omega)] at h; cases h
  · rfl

abbrev Key := Int × Int × Int
def keyS (p : Key) : List AV := [.int .i64 p.1, .int .i64 p.2.1, .int .i64 p.2.2]
def esS (ps : List (Key × Int)) : List (AV × AV) := ps.map fun x => (.agg (keyS x.1), .int .i64 x.2)
theorem eqKey (p q : Key) : eqCells [0, 0, 0] (keyS p) (keyS q) = some (decide (p = q)) := by
  obtain ⟨a, b, c⟩ := p
  obtain ⟨x, y, z⟩ := q
  simp only [eqCells, keyS, if_true, Option.map_some]
  congr 1
  rw [Bool.eq_iff_iff]
  simp
theorem look_es (q : Key) : ∀ ps : List (Key × Int), lookAV [0, 0, 0] (esS ps) (keyS q) = some ((ps.find? fun x => decide (q = x.1)).map fun x => .int .i64 x.2)
  | [] => rfl
  | x :: ps => by
    have e : lookAV [0, 0, 0] (esS (x :: ps)) (keyS q) = match eqCells [0, 0, 0] (keyS q) (keyS x.1) with
      | some true => some (some (.int .i64 x.2))
      | some false => lookAV [0, 0, 0] (esS ps) (keyS q)
      | none => none := rfl
    rw [e, eqKey, look_es q ps, List.find?_cons]
    cases decide (q = x.1) <;> rfl
theorem put_es (q : Key) (v : Int) : ∀ ps : List (Key × Int), (∀ x ∈ ps, q ≠ x.1) → putAV [0, 0, 0] (esS ps) (keyS q) (.int .i64 v) = some (esS (ps ++ [(q, v)]))
  | [], _ => rfl
  | x :: ps, h => by
    have e : putAV [0, 0, 0] (esS (x :: ps)) (keyS q) (.int .i64 v) = match eqCells [0, 0, 0] (keyS q) (keyS x.1) with
      | some true => some ((.agg (keyS q), .int .i64 v) :: esS ps)
      | some false => (putAV [0, 0, 0] (esS ps) (keyS q) (.int .i64 v)).map ((.agg (keyS x.1), .int .i64 x.2) :: ·)
      | none => none := rfl
    have hne : decide (q = x.1) = false := by simpa using h x (by simp)
    rw [e, eqKey, hne, put_es q v ps fun y hy => h y (by simp [hy])]
    rfl
def KOk (d : Ho) (es : List (Key × Int)) : Prop := ∀ x ∈ es, ∀ (i : Nat) (a : Ag), x.1.1 = (i : Int) → d.agents[i]? = some a → x.2 = payR a x.1.2.1 x.1.2.2
def eHs (d : Ho) (but : Int) (m : Nat) : List AV := eHc d ++ [.int .i64 but, .clo 148 [] [], .clo 149 [] [], .clo 150 [] [], .mapr m]

theorem c100 (n : Int) (hn : 0 ≤ n ∧ n ≤ 100000) (h : Heap) : callPure (EW tabX) 148 [.int .i64 n] h = some (.int .i64 (n / 10), h) := by
  rw [callPure_eq, w_call _ fn_148 rfl]
  simp (disch := omega) only [go_sem, ↓reduceIte, simprocAttr, tdiv10, wrap_i64]
theorem c101 (n : Int) (hn : 0 ≤ n ∧ n ≤ 100000) (h : Heap) : callPure (EW tabX) 149 [.int .i64 n] h = some (.int .i64 ((n + 10 - 1) / 10), h) := by
  rw [callPure_eq, w_call _ fn_149 rfl]
  simp (disch := omega) only [go_sem, ↓reduceIte, simprocAttr, tdiv10, wrap_i64]
theorem tdiv20 {n : Int} (h : 0 ≤ n) : n.tdiv 20 = n / 20 := Int.tdiv_eq_ediv_of_nonneg h
theorem c102 (n : Int) (hn : 0 ≤ n ∧ n ≤ 100000) (h : Heap) : callPure (EW tabX) 150 [.int .i64 n] h = some (.int .i64 ((n + 5) / 10), h) := by
  rw [callPure_eq, w_call _ fn_150 rfl]
  have e : (2 * n + 10) / 20 = (n + 5) / 10 := by omega
  simp (disch := omega) only [go_sem, ↓reduceIte, simprocAttr, tdiv20, wrap_i64, e]

theorem c74 (d : Ho) (hd : d.fits) (ho : d.Ok) (but : Int) (r m i : Nat) (a : Ag) (ha : d.agents[i]? = some a) (near rate : Int) (hn : 0 ≤ near ∧ near ≤ 99) (hrt : 0 ≤ rate ∧ rate ≤ 20)
    (B : List ABlk) (t : List Bool) (es : List (Key × Int)) (hr : B[r]? = some (.cells (eHs d but m))) (hm : B[m]? = some (.map (esS es))) (hk : KOk d es) :
    ∃ es' F, KOk d es' ∧ (EW tabX).call 75 [.ref r 0, .agg [.int .i64 i, .int .i64 near, .int .i64 rate]] ⟨B, t⟩ = some (.int .i64 (payR a near rate), ⟨B.set m (.map (esS es')), t ++ F⟩) := by
  have hil : i < d.agents.length := (List.getElem?_eq_some_iff.1 ha).1
  have hza := hd.za (by intro e; rw [e] at hil; simp at hil)
  obtain ⟨f0, f1, r0, r1, _⟩ := ho.ag a (List.mem_of_getElem? ha)
  have hb := payN_bd ⟨f0, f1⟩ hn hrt
  simp only [eHs, eHc, List.cons_append, List.nil_append] at hr
  have oR := old hr
  have oM := old hm
  have hml : m < B.length := (List.getElem?_eq_some_iff.1 hm).1
  have hself : eqCells [0, 0, 0] [.int .i64 (i : Int), .int .i64 near, .int .i64 rate] [.int .i64 (i : Int), .int .i64 near, .int .i64 rate] = some true := by
    have := eqKey ((i : Int), near, rate) ((i : Int), near, rate)
    simp only [keyS, decide_true] at this
    exact this
  have hlook : lookAV [0, 0, 0] (esS es) [.int .i64 (i : Int), .int .i64 near, .int .i64 rate] = some ((es.find? fun x => decide (((i : Int), near, rate) = x.1)).map fun x => .int .i64 x.2) := look_es ((i : Int), near, rate) es
  have hset := set_self hm
  rw [w_call _ fn_75 rfl]
  by_cases h1 : near ≤ a.fee
  · have hp : payR a near rate = 0 := by
      have : payN a near rate = 0 := by unfold payN; rw [if_neg (by omega)]; simp
      unfold payR; rw [this]
      split
      · rfl
      · split <;> rfl
    refine ⟨es, List.replicate 11 false, hk, ?_⟩
    rw [hset, hp]
    simp (disch := omega) only [go_sem, ↓reduceIte, simprocAttr, oR, ha, eAg, hza, h1, List.size_toArray, Nat.add_lt_add_iff_left, Nat.add_assoc]
    generalize hcf : okFam _ _ _ = cf
    obtain rfl : cf = true := by rw [← hcf]; kernel_rfl
    simp (disch := omega) only [go_sem, ↓reduceIte, simprocAttr, oR, h1]
  · have hpn : payN a near rate = (near - a.fee) * rate := by unfold payN; rw [if_pos (by omega)]
    cases hf : es.find? (fun x => decide (((i : Int), near, rate) = x.1)) with
    | some x =>
      have hx := List.find?_some hf
      have hxm := List.mem_of_find?_eq_some hf
      have hx1 : ((i : Int), near, rate) = x.1 := by simpa using hx
      have hv : x.2 = payR a near rate := by
        have := hk x hxm i a (by rw [← hx1]) ha
        rw [← hx1] at this; exact this
      rw [hf, Option.map_some, hv] at hlook
      refine ⟨es, List.replicate 11 false, hk, ?_⟩
      rw [hset]
      simp (disch := omega) only [go_sem, ↓reduceIte, simprocAttr, oR, ha, eAg, hza, h1, List.size_toArray, Nat.add_lt_add_iff_left, Nat.add_assoc]
      generalize hcf : okFam _ _ _ = cf
      obtain rfl : cf = true := by rw [← hcf]; kernel_rfl
      simp (disch := omega) only [go_sem, ↓reduceIte, simprocAttr, oR, oM, h1, hself, hlook]
    | none =>
      have hnew : ∀ x ∈ es, ((i : Int), near, rate) ≠ x.1 := fun x hx => by
        have := List.find?_eq_none.1 hf x hx
        simpa using this
      rw [hf, Option.map_none] at hlook
      have hput := put_es ((i : Int), near, rate) (payR a near rate) es hnew
      simp only [keyS] at hput
      have hk' : KOk d (es ++ [(((i : Int), near, rate), payR a near rate)]) := fun x hx j b e1 e2 => by
        rcases List.mem_append.1 hx with h | h
        · exact hk x h j b e1 e2
        · simp at h
          subst h
          simp only at e1
          have : i = j := by omega
          subst this
          rw [ha] at e2
          cases e2
          rfl
      have hBm : ∀ y X, (B ++ X).set m y = B.set m y ++ X := fun y X => List.set_append_left _ _ hml
      have hrd : a.round = 0 ∨ a.round = 1 ∨ a.round = 2 := by omega
      refine ⟨_, List.replicate 18 false, hk', ?_⟩
      simp (disch := omega) only [go_sem, ↓reduceIte, simprocAttr, oR, ha, eAg, hza, h1, List.size_toArray, Nat.add_lt_add_iff_left, Nat.add_assoc]
      generalize hcf : okFam _ _ _ = cf
      obtain rfl : cf = true := by rw [← hcf]; kernel_rfl
      rcases hrd with e | e | e
      · have hp : payN a near rate / 10 = payR a near rate := by unfold payR; rw [e]; rfl
        have hc := c100 (payN a near rate) (by omega)
        rw [hp, hpn] at hc
        rw [hpn] at hb
        simp (disch := omega) only [go_sem, ↓reduceIte, simprocAttr, oR, oM, h1, hself, hlook, e, hc, wrap_i64]
        generalize hcf : drawT _ _ _ = cf
        obtain rfl : cf = true := by rw [← hcf]; kernel_rfl
        simp (disch := omega) only [go_sem, ↓reduceIte, simprocAttr, oR, oM, hself, hput, hBm, wrap_i64, List.size_toArray]
      · have hp : (payN a near rate + 10 - 1) / 10 = payR a near rate := by unfold payR; rw [if_pos e]
        have hc := c101 (payN a near rate) (by omega)
        rw [hp, hpn] at hc
        rw [hpn] at hb
        simp (disch := omega) only [go_sem, ↓reduceIte, simprocAttr, oR, oM, h1, hself, hlook, e, hc, wrap_i64]
        generalize hcf : drawT _ _ _ = cf
        obtain rfl : cf = true := by rw [← hcf]; kernel_rfl
        simp (disch := omega) only [go_sem, ↓reduceIte, simprocAttr, oR, oM, hself, hput, hBm, wrap_i64, List.size_toArray]
      · have hp : (payN a near rate + 5) / 10 = payR a near rate := by unfold payR; rw [if_neg (by omega), if_pos e]
        have hc := c102 (payN a near rate) (by omega)
        rw [hp, hpn] at hc
        rw [hpn] at hb
        simp (disch := omega) only [go_sem, ↓reduceIte, simprocAttr, oR, oM, h1, hself, hlook, e, hc, wrap_i64]
        generalize hcf : drawT _ _ _ = cf
        obtain rfl : cf = true := by rw [← hcf]; kernel_rfl
        simp (disch := omega) only [go_sem, ↓reduceIte, simprocAttr, oR, oM, hself, hput, hBm, wrap_i64, List.size_toArray]
end Go.Proofs.YtiighcpimecehaaGreat.R8
end
section
namespace Go.Proofs.YtiighcpimecehaaGreat.R8
open Go.Proofs

@[go_sem] theorem hush_58_12 : tabX.hush 58 12 = false := id rfl
@[go_sem] theorem hush_74_1 : tabX.hush 74 1 = false := id rfl
@[go_sem] theorem hush_75_8 : tabX.hush 75 8 = false := id rfl
@[go_sem] theorem hush_101_1 : tabX.hush 101 1 = false := id rfl
@[go_sem] theorem hush_139_5 : tabX.hush 139 5 = false := id rfl
section
variable {X : Tab} {f : Nat} {rd : Option Nat} {b : Code}
end

abbrev PM (P : List ABlk) (m : Nat) (es : List (Key × Int)) : List ABlk := P.set m (.map (esS es))
structure HAt (d : Ho) (but : Int) (r m : Nat) (P : List ABlk) : Prop where
  hr : P[r]? = some (.cells (eHs d but m))
  hm : m < P.length
  ne : r ≠ m
theorem HAt.house {d : Ho} {but : Int} {r m : Nat} {P : List ABlk} (h : HAt d but r m P) (x : ABlk) (X : List ABlk) : (P.set m x ++ X)[r]? = some (.cells (eHs d but m)) := by
  refine old ?_ X
  rw [List.getElem?_set_ne (fun e => h.ne e.symm)]; exact h.hr
theorem HAt.map {d : Ho} {but : Int} {r m : Nat} {P : List ABlk} (h : HAt d but r m P) (x : ABlk) (X : List ABlk) : (P.set m x ++ X)[m]? = some x := by
  refine old ?_ X
  rw [List.getElem?_set_self h.hm]
theorem HAt.put {d : Ho} {but : Int} {r m : Nat} {P : List ABlk} (h : HAt d but r m P) (x y : ABlk) (X : List ABlk) : (P.set m x ++ X).set m y = P.set m y ++ X := by
  rw [List.set_append_left _ _ (by rw [List.length_set]; exact h.hm), List.set_set]
theorem c74x (d : Ho) (hd : d.fits) (ho : d.Ok) (but : Int) {r m : Nat} {P : List ABlk} (hP : HAt d but r m P) (i : Nat) (a : Ag) (ha : d.agents[i]? = some a) (near rate : Int) (hn : 0 ≤ near ∧ near ≤ 99) (hrt : 0 ≤ rate ∧ rate ≤ 20)
    (X : List ABlk) (t : List Bool) (es : List (Key × Int)) (hk : KOk d es) :
    ∃ es' F, KOk d es' ∧ (EW tabX).call 75 [.ref r 0, .agg [.int .i64 i, .int .i64 near, .int .i64 rate]] ⟨PM P m es ++ X, t⟩ = some (.int .i64 (payR a near rate), ⟨PM P m es' ++ X, t ++ F⟩) := by
  obtain ⟨es', F, h1, h2⟩ := c74 d hd ho but r m i a ha near rate hn hrt (PM P m es ++ X) t es (hP.house _ _) (hP.map _ _) hk
  exact ⟨es', F, h1, by rw [h2, hP.put]⟩
theorem c78x (d : Ho) (hd : d.fits) (ho : d.Ok) (but : Int) {r m : Nat} {P : List ABlk} (hP : HAt d but r m P) (x : En) (hx : x ∈ d.entries) (R : List Int) (hR : R.length = 3) (v : Int) (hv : R[x.day.toNat]? = some v) (hrt : 0 ≤ v ∧ v ≤ 20)
    (X : List ABlk) (t : List Bool) (es : List (Key × Int)) (hk : KOk d es) :
    ∃ es' F, KOk d es' ∧ (EW tabX).call 101 [.ref r 0, eEn x, .agg (I R)] ⟨PM P m es ++ X, t⟩ = some (.int .i64 (payR (d.ag0 x.agent) x.near v), ⟨PM P m es' ++ X, t ++ F⟩) := by
  obtain ⟨a1, a2, a3, a4, a5, a6, a7, a8⟩ := ho.en x hx
  obtain ⟨i, hi⟩ := Int.eq_ofNat_of_zero_le a1
  obtain ⟨j, hj⟩ := Int.eq_ofNat_of_zero_le a3
  have hil : i < d.agents.length := by omega
  have hga := List.getElem?_eq_getElem hil
  have e1 : d.ag0 x.agent = d.agents[i] := by simp [Ho.ag0, hi, hil]
  have hj3 : j < 3 := by have := ho.d3; omega
  rw [hj, cast_toNat] at hv
  rw [e1, w_call _ fn_101 rfl]
  match R, hR, hv with
  | [x0, x1, x2], _, hv =>
    have key := fun X t => c74x d hd ho but hP i d.agents[i] hga x.near v ⟨a5, a6⟩ hrt X t es hk
    have hc : j = 0 ∨ j = 1 ∨ j = 2 := by omega
    rcases hc with rfl | rfl | rfl
    all_goals
      simp only [List.getElem?_cons_zero, List.getElem?_cons_succ, Option.some.injEq] at hv
      subst hv
      simp (disch := omega) only [go_sem, ↓reduceIte, simprocAttr, eEn, hi, hj]
      generalize hcf : drawT _ _ _ = cf
      obtain rfl : cf = true := by rw [← hcf]; kernel_rfl
      generalize List.replicate _ ABlk.none = N
      generalize List.replicate _ false = M
      simp (disch := omega) only [go_sem, ↓reduceIte, simprocAttr]
      generalize hbb : boundAll _ _ _ = bb
      obtain rfl : bb = true := by rw [← hbb]; kernel_rfl
      obtain ⟨es', F, h1, h2⟩ := key (X ++ (ABlk.cells [AV.int .i64 i, AV.int .i64 x.day, AV.int .i64 x.near, AV.int .i64 x.far] :: ABlk.cells (I [x0, x1, x2]) :: N)) (t ++ M)
      rw [hj] at h2
      refine ⟨es', M ++ F, h1, ?_⟩
      simp only [go_sem, ↓reduceIte, simprocAttr] at h2
      simp (disch := omega) only [go_sem, ↓reduceIte, simprocAttr, h2]
end Go.Proofs.YtiighcpimecehaaGreat.R8
end
section
namespace Go.Proofs.YtiighcpimecehaaGreat.R8
open Go.Proofs

section
variable {X : Tab} {f : Nat} {rd : Option Nat} {b : Code}
theorem w_rounds_sq {τ : Type} {G : Prop} {g : Slots} {h : Heap} {ms : List Nat} {x : Option (AExit × St)} (hx : (EW X).code f rd (.loop b) ⟨⟨g, []⟩, h, ms⟩ = x)
    (U : Nat → τ → Slots) (Hp : τ → Heap) (R : Nat → τ → Prop) (n : Nat) (Q : AExit → Slots → τ → Prop) (s0 : τ) (h0 : puts g (U 0 s0) = g) (hh : Hp s0 = h) (hR : R 0 s0)
    (hs : ∀ k s, k < n → R k s → (∃ s', cutS ⟨⟨puts g (U k s), []⟩, Hp s, ms⟩ ((EW X).code f rd b ⟨⟨puts g (U k s), []⟩, Hp s, ms⟩) = some (.normal, ⟨⟨puts g (U (k + 1) s'), []⟩, Hp s', ms⟩) ∧ R (k + 1) s') ∨
      ∃ e V s', cutS ⟨⟨puts g (U k s), []⟩, Hp s, ms⟩ ((EW X).code f rd b ⟨⟨puts g (U k s), []⟩, Hp s, ms⟩) = some (e, ⟨⟨puts g V, []⟩, Hp s', ms⟩) ∧ isNormal e = false ∧ Q e V s')
    (he : ∀ s, R n s → ∃ e V s', cutS ⟨⟨puts g (U n s), []⟩, Hp s, ms⟩ ((EW X).code f rd b ⟨⟨puts g (U n s), []⟩, Hp s, ms⟩) = some (e, ⟨⟨puts g V, []⟩, Hp s', ms⟩) ∧ isNormal e = false ∧ Q e V s')
    (hG : ∀ e V s, x = some (e, ⟨⟨puts g V, []⟩, Hp s, ms⟩) → Q e V s → G) (hm : mapLoop b = none := by rfl) : G := by
  refine w_rounds_q (hm := hm) hx (fun k q => ∃ s, q = ⟨⟨puts g (U k s), []⟩, Hp s, ms⟩ ∧ R k s) n (fun e q => ∃ V s, q = ⟨⟨puts g V, []⟩, Hp s, ms⟩ ∧ Q e V s) ⟨s0, by rw [h0, hh], hR⟩ ?_ ?_ ?_
  · rintro k q hk ⟨s, rfl, h2⟩
    rcases hs k s hk h2 with ⟨s', a, c⟩ | ⟨e, V, s', a, b, c⟩
    · exact .inl ⟨_, a, s', rfl, c⟩
    · exact .inr ⟨e, _, a, b, V, s', rfl, c⟩
  · rintro q ⟨s, rfl, h2⟩
    obtain ⟨e, V, s', a, b, c⟩ := he s h2
    exact ⟨e, _, a, b, V, s', rfl, c⟩
  · rintro e q h1 ⟨V, s, rfl, h2⟩
    exact hG e V s h1 h2
end
section
variable {α : Type} {Q : List α} {n : Nat} (h : Q.length = n)
include h
theorem q_get (t : List α) (i : Nat) : (Q ++ t)[n + i]? = t[i]? := by subst h; exact get_at Q t i
theorem q_get0 (t : List α) : (Q ++ t)[n]? = t[0]? := by subst h; exact get_at0 Q t
theorem q_set (t : List α) (i : Nat) (y : α) : (Q ++ t).set (n + i) y = Q ++ t.set i y := by subst h; exact set_at Q t i y
theorem q_set0 (t : List α) (y : α) : (Q ++ t).set n y = Q ++ t.set 0 y := by subst h; exact set_at0 Q t y
theorem q_take (t : List α) (i : Nat) : (Q ++ t).take (n + i) = Q ++ t.take i := by subst h; rw [List.take_length_add_append]
theorem q_take0 (t : List α) : (Q ++ t).take n = Q := by subst h; exact take_app Q t
end

def arrOf (t : List Int) : List Int := t ++ List.replicate (3 - t.length) 0
def loD (d : Ho) (t : List Int) : Int := if t.length = 0 then d.lo 0 else if d.lo t.length < t.getD (t.length - 1) 0 - d.step then t.getD (t.length - 1) 0 - d.step else d.lo t.length
def hiD (d : Ho) (t : List Int) : Int := if t.length = 0 then d.hi 0 else if t.getD (t.length - 1) 0 + d.step < d.hi t.length then t.getD (t.length - 1) 0 + d.step else d.hi t.length
def widthD (d : Ho) (t : List Int) : Nat := (hiD d t + 1 - loD d t).toNat
def skipB (d : Ho) (but day k : Nat) : Bool := !((d.en0 k).day == (day : Int)) || ((d.en0 k).far == -1 || but.testBit k)
def okDay (d : Ho) (but day : Nat) (v : Int) (k : Nat) : Bool := (List.range k).all fun i => skipB d but day i || payR (d.ag0 (d.en0 i).agent) (d.en0 i).near v == (d.en0 i).far
theorem okDay_succ (d : Ho) (but day : Nat) (v : Int) (k : Nat) : okDay d but day v (k + 1) = (okDay d but day v k && (skipB d but day k || payR (d.ag0 (d.en0 k).agent) (d.en0 k).near v == (d.en0 k).far)) := by simp [okDay, List.range_succ]
theorem okDay_no {d : Ho} {but day : Nat} {v : Int} : ∀ (j k : Nat), okDay d but day v (j + 1) = false → j < k → okDay d but day v k = false
  | j, 0, _, h => by omega
  | j, k + 1, h, hj => by
    by_cases e : j = k
    · subst e; exact h
    · rw [okDay_succ, okDay_no j k h (by omega)]; rfl
def nextK (d : Ho) (but : Nat) (t : List Int) (k : Nat) : List (List Int) := ((List.range k).filter fun (i : Nat) => okDay d but t.length (loD d t + (i : Int)) d.entries.length).map fun (i : Nat) => t ++ [loD d t + (i : Int)]
theorem nextK_succ (d : Ho) (but : Nat) (t : List Int) (k : Nat) : nextK d but t (k + 1) = if okDay d but t.length (loD d t + (k : Int)) d.entries.length = true then nextK d but t k ++ [t ++ [loD d t + (k : Int)]] else nextK d but t k := by
  unfold nextK
  rw [List.range_succ, List.filter_append, List.map_append]
  have e : (List.filter (fun i : Nat => okDay d but t.length (loD d t + (i : Int)) d.entries.length) [k]) = if okDay d but t.length (loD d t + (k : Int)) d.entries.length = true then [k] else [] := by simp only [List.filter_cons, List.filter_nil]
  rw [e]
  split <;> simp
def dfs (d : Ho) (but : Nat) : Nat → List Int → List (List Int)
  | 0, t => [t]
  | n + 1, t => (nextK d but t (widthD d t)).flatMap (dfs d but n)
theorem pre_split (d : Ho) (but n : Nat) (t : List Int) : ∀ {j k : Nat}, j ≤ k → ∃ rest, (nextK d but t k).flatMap (dfs d but n) = (nextK d but t j).flatMap (dfs d but n) ++ rest := fun {j k} h => by
  induction k with
  | zero => obtain rfl : j = 0 := by omega
            exact ⟨[], by simp⟩
  | succ k ih =>
    by_cases e : j = k + 1
    · subst e; exact ⟨[], by simp⟩
    · obtain ⟨rest, hr⟩ := ih (by omega)
      rw [nextK_succ]
      split
      · exact ⟨rest ++ dfs d but n (t ++ [loD d t + (k : Int)]), by rw [List.flatMap_append, hr, List.append_assoc]; simp⟩
      · exact ⟨rest, hr⟩
theorem pre_mono (d : Ho) (but n : Nat) (t : List Int) {j k : Nat} (h : j ≤ k) : ((nextK d but t j).flatMap (dfs d but n)).length ≤ ((nextK d but t k).flatMap (dfs d but n)).length := by
  obtain ⟨rest, hr⟩ := pre_split d but n t h
  rw [hr, List.length_append]; omega
def runC {σ : Type} (stp : σ → List Int → σ × Bool) : List (List Int) → σ → σ × Bool
  | [], s => (s, true)
  | t :: ts, s => if (stp s t).2 = true then runC stp ts (stp s t).1 else ((stp s t).1, false)
theorem runC_app {σ : Type} (stp : σ → List Int → σ × Bool) : ∀ (a b : List (List Int)) (s : σ), runC stp (a ++ b) s = if (runC stp a s).2 = true then runC stp b (runC stp a s).1 else runC stp a s
  | [], b, s => rfl
  | t :: a, b, s => by
    simp only [List.cons_append, runC]
    split
    · exact runC_app stp a b _
    · rfl

def NB (n l hb r : Nat) (arr : List Int) (E : List ABlk) : List ABlk :=
  .cells [.yld l] :: .cells [.clo 101 [.ref r 0] []] :: .cells (I arr) :: .cells [.clo 139 [] [.ref hb 0, .ref n 0, .ref (n + 2) 0, .ref (n + 1) 0, .ref (n + 3) 0]] :: E
structure Con (d : Ho) (but : Nat) (r m hb n l : Nat) (σ : Type) where
  PF : σ → List ABlk
  stp : σ → List Int → σ × Bool
  Inv : Nat → σ → Prop
  len : ∀ s, (PF s).length = n
  hat : ∀ s, HAt d but r m (PF s)
  bx : ∀ s, (PF s)[hb]? = some (.cells [.ref r 0])
  ne : hb ≠ m
  rnd : ∀ (k : Nat) (s : σ) (t : List Int) (E : List ABlk) (tb : List Bool) (es : List (Key × Int)), Inv k s → k < 8000 → t.length = d.rates.length → (∀ v ∈ t, 1 ≤ v ∧ v ≤ 20) → KOk d es →
    ∃ es' J F, KOk d es' ∧ ((stp s t).2 = true → Inv (k + 1) (stp s t).1) ∧ stepRound tabX (EW tabX) l [.agg (I (arrOf t))] ⟨PM (PF s) m es ++ NB n l hb r (arrOf t) E, tb⟩ = some (.bool (stp s t).2, ⟨PM (PF (stp s t).1) m es' ++ NB n l hb r (arrOf t) (E ++ J), tb ++ F⟩)
def AOk (d : Ho) (t arr : List Int) : Prop := arr.length = 3 ∧ arr.take t.length = t ∧ arr.drop d.rates.length = List.replicate (3 - d.rates.length) 0
theorem AOk.full {d : Ho} {t arr : List Int} (h : AOk d t arr) (e : t.length = d.rates.length) : arr = arrOf t := by
  obtain ⟨h1, h2, h3⟩ := h
  have := List.take_append_drop t.length arr
  rw [h2, e, h3] at this
  unfold arrOf; rw [e]; exact this.symm
theorem AOk.set {d : Ho} {t arr : List Int} (h : AOk d t arr) (hl : t.length < d.rates.length) (h3 : d.rates.length ≤ 3) (v : Int) : AOk d t (arr.set t.length v) ∧ AOk d (t ++ [v]) (arr.set t.length v) := by
  obtain ⟨a, b, c⟩ := h
  have hd : (arr.set t.length v).drop d.rates.length = List.replicate (3 - d.rates.length) 0 := by rw [List.drop_set_of_lt hl]; exact c
  have ht : (arr.set t.length v).take t.length = t := by
    rw [List.take_set_of_le (Nat.le_refl _)]; exact b
  refine ⟨⟨by simpa using a, ht, hd⟩, by simpa using a, ?_, hd⟩
  rw [List.length_append, List.length_singleton, List.take_add_one, ht, List.getElem?_set_self (by omega)]
  rfl
theorem AOk.weak {d : Ho} {t arr : List Int} {v : Int} (h : AOk d (t ++ [v]) arr) : AOk d t arr := by
  obtain ⟨a, b, c⟩ := h
  refine ⟨a, ?_, c⟩
  have := congrArg (List.take t.length) b
  rw [List.take_take] at this
  simpa using this
theorem Con.facts {d : Ho} {but : Nat} {r m hb n l : Nat} {σ : Type} (C : Con d but r m hb n l σ) (s : σ) (es : List (Key × Int)) :
    (PM (C.PF s) m es).length = n ∧ (∀ X, (PM (C.PF s) m es ++ X)[r]? = some (.cells (eHs d but m))) ∧ ∀ X, (PM (C.PF s) m es ++ X)[hb]? = some (.cells [.ref r 0]) := by
  refine ⟨by rw [List.length_set]; exact C.len s, fun X => (C.hat s).house _ X, fun X => old ?_ X⟩
  rw [List.getElem?_set_ne (fun e => C.ne e.symm)]; exact C.bx s
theorem I_set (l : List Int) (i : Nat) (x : Int) : (I l).set i (.int .i64 x) = I (l.set i x) := by unfold I; rw [List.map_set]
theorem splice1 (c : List AV) (off : Nat) (v : AV) : splice c off [v] = c.set off v := id rfl
structure IS where
  es : List (Key × Int)
  J : List ABlk
  F : List Bool
structure LS (σ : Type) where
  s : σ
  es : List (Key × Int)
  arr : List Int
  J : List ABlk
  F : List Bool
  k : Nat
set_option maxHeartbeats 4000000 in
theorem c97 {d : Ho} (hd : d.fits) (ho : d.Ok) {but : Nat} (hbut : but < 32) {r m hb n l : Nat} {σ : Type} (C : Con d but r m hb n l σ) :
    ∀ (n' : Nat) (t : List Int) (k : Nat) (s : σ) (arr : List Int) (E : List ABlk) (tb : List Bool) (es : List (Key × Int)), t.length + n' = d.rates.length → (∀ v ∈ t, 1 ≤ v ∧ v ≤ 20) → C.Inv k s → k + (dfs d but n' t).length ≤ 8000 → AOk d t arr → KOk d es →
    ∃ es' arr' F k', KOk d es' ∧ AOk d t arr' ∧ ((runC C.stp (dfs d but n' t) s).2 = true → C.Inv k' (runC C.stp (dfs d but n' t) s).1) ∧ k' ≤ k + (dfs d but n' t).length ∧
      (EW tabX).call 139 [.int .i64 t.length, .ref hb 0, .ref n 0, .ref (n + 2) 0, .ref (n + 1) 0, .ref (n + 3) 0] ⟨PM (C.PF s) m es ++ NB n l hb r arr E, tb⟩ =
        some (.bool (runC C.stp (dfs d but n' t) s).2, ⟨PM (C.PF (runC C.stp (dfs d but n' t) s).1) m es' ++ NB n l hb r arr' E, tb ++ F⟩)
  | 0, t, k, s, arr, E, tb, es, hn, hv, hi, hk, ha, hke => by
    have hrd := ho.rd
    have htl : t.length = d.rates.length := by omega
    have harr := ha.full htl
    subst harr
    obtain ⟨es', J, F, h1, h2, h3⟩ := C.rnd k s t E tb es hi (by simp only [dfs, List.length_cons, List.length_nil] at hk; omega) htl hv hke
    obtain ⟨hQ, oR, oH⟩ := C.facts s es
    obtain ⟨hQ', oR', oH'⟩ := C.facts (C.stp s t).1 es'
    have hr2 : runC C.stp (dfs d but 0 t) s = C.stp s t := by
      simp only [dfs, runC]
      cases hq : (C.stp s t).2 with
      | true => rw [if_pos rfl]; rw [← hq]
      | false => rw [if_neg (by decide)]; rw [← hq]
    rw [hr2]
    refine ⟨es', arrOf t, F, k + 1, h1, ha, h2, by simp [dfs], ?_⟩
    have hdays : (t.length : Int) = d.days := by omega
    generalize PM (C.PF s) m es = Q at hQ oR oH h3 ⊢
    generalize PM (C.PF (C.stp s t).1) m es' = Q' at hQ' oR' oH' h3 ⊢
    have ha3 := ha.1
    match hA : arrOf t, ha3 with
    | [x0, x1, x2], _ =>
      rw [hA] at h3
      simp only [eHs, eHc, List.cons_append, List.nil_append] at oR
      simp only [NB] at h3 ⊢
      rw [w_call _ fn_139 rfl]
      simp (disch := omega) only [go_sem, ↓reduceIte, simprocAttr, oR, oH, hQ, hQ', q_get hQ, q_get0 hQ, hdays, callAV_yld2, h3, q_take hQ']
  | n' + 1, t, k, s, arr, E, tb, es, hn, hv, hi, hk, ha, hke => by
    have ih := c97 hd ho hbut C n'
    have hrd := ho.rd
    have hd3 := ho.d3
    have hst := ho.st
    have htl : t.length < d.rates.length := by omega
    obtain ⟨hday, w1, w2, w3, w4, w5⟩ := ho.day htl
    have hzr := hd.zr (by intro e; rw [e] at htl; simp at htl)
    obtain ⟨hQ, oR, oH⟩ := C.facts s es
    have hth : ((t.length : Int) == d.days) = false := by simp; omega
    simp only [eHs, eHc, List.cons_append, List.nil_append] at oR
    rw [w_call _ fn_139 rfl]
    generalize hQQ : PM (C.PF s) m es = Q at hQ oR oH
    have hsplit : t.length = 0 ∨ ∃ p, t.length = p + 1 := by
      cases t.length with
      | zero => exact .inl rfl
      | succ p => exact .inr ⟨p, rfl⟩
    have hlo1 : d.lo t.length ≤ loD d t := by
      unfold loD
      split
      · rename_i h; rw [h]; exact Int.le_refl _
      · split <;> omega
    have hhi1 : hiD d t ≤ d.hi t.length := by
      unfold hiD
      split
      · rename_i h; rw [h]; exact Int.le_refl _
      · split <;> omega
    rcases hsplit with h0 | ⟨p, hp⟩
    case' inl =>
      have hnp : ¬ (0 : Int) < t.length := by omega
      have hl0 : loD d t = d.lo t.length := by unfold loD; rw [if_pos h0, h0]
      have hh0 : hiD d t = d.hi t.length := by unfold hiD; rw [if_pos h0, h0]
      simp only [NB]
      simp (disch := omega) only [go_sem, ↓reduceIte, simprocAttr, oR, oH, hQ, q_get hQ, q_get0 hQ, q_set hQ, q_set0 hQ, q_take hQ, q_take0 hQ, hth, hday, hzr, eSp, hnp]
      rw [← hl0, ← hh0]
      obtain ⟨J0, hJ0⟩ : ∃ J0 : List ABlk, J0 = [] := ⟨_, rfl⟩
      obtain ⟨F0, hF0⟩ : ∃ F0 : List Bool, F0 = [] := ⟨_, rfl⟩
      generalize hx : (EW tabX).code 139 none (Code.loop _) _ = x
    case' inr =>
      have h0 : t.length ≠ 0 := by omega
      have hpp : (0 : Int) < t.length := by omega
      have hpl : p < t.length := by omega
      have htp := List.getElem?_eq_getElem hpl
      have hap : arr[p]? = some t[p] := by
        have := congrArg (fun l => l[p]?) ha.2.1
        simp only [List.getElem?_take_of_lt hpl] at this
        rw [this]; exact htp
      have hbv := hv _ (List.getElem_mem hpl)
      have hpi : (t.length : Int) - 1 = p := by omega
      have hd3' : p < 3 := by omega
      have hal := ha.1
      have hgd : t.getD (t.length - 1) 0 = t[p] := by rw [hp]; simp [hpl]
      have hl0 : loD d t = if d.lo t.length < t[p] - d.step then t[p] - d.step else d.lo t.length := by unfold loD; rw [if_neg h0, hgd]
      have hh0 : hiD d t = if t[p] + d.step < d.hi t.length then t[p] + d.step else d.hi t.length := by unfold hiD; rw [if_neg h0, hgd]
      simp only [NB]
      simp (disch := omega) only [go_sem, ↓reduceIte, simprocAttr, oR, oH, hQ, q_get hQ, q_get0 hQ, q_set hQ, q_set0 hQ, q_take hQ, q_take0 hQ, hth, hday, hzr, eSp, hpp, hpi, hap, wrap_i64]
      generalize hcf : drawT _ _ _ = cf
      obtain rfl : cf = true := by rw [← hcf]; kernel_rfl
      generalize hN0 : List.replicate _ ABlk.none = N
      generalize hM0 : List.replicate _ false = M
      simp (disch := omega) only [go_sem, ↓reduceIte, simprocAttr, oR, oH, hQ, q_get hQ, q_get0 hQ, q_set hQ, q_set0 hQ, q_take hQ, q_take0 hQ, hpi, hap, hd3', hal, Nat.mul_one, List.getElem?_drop, wrap_i64]
      rw [← hl0, ← hh0]
      obtain ⟨J0, hJ0⟩ : ∃ J0 : List ABlk, J0 = N := ⟨_, rfl⟩
      obtain ⟨F0, hF0⟩ : ∃ F0 : List Bool, F0 = M := ⟨_, rfl⟩
      generalize hx : (EW tabX).code 139 none (Code.loop _) _ = x
    all_goals
      refine w_rounds_sq hx (fun kk (q : LS σ) => [(9, .int .i64 (loD d t + (kk : Int)))]) (fun q => ⟨PM (C.PF q.s) m q.es ++ NB n l hb r q.arr (E ++ (.cells [.int .i64 (loD d t), .int .i64 (hiD d t)] :: q.J)), tb ++ q.F⟩)
        (fun kk q => KOk d q.es ∧ AOk d t q.arr ∧ C.Inv q.k q.s ∧ q.k ≤ k + ((nextK d but t kk).flatMap (dfs d but n')).length ∧ runC C.stp ((nextK d but t kk).flatMap (dfs d but n')) s = (q.s, true)) (widthD d t)
        (fun e V q => KOk d q.es ∧ AOk d t q.arr ∧ (e = .exit 0 → C.Inv q.k q.s) ∧ q.k ≤ k + (dfs d but (n' + 1) t).length ∧ ((e = .exit 0 ∧ V = [(9, .int .i64 (loD d t + (widthD d t : Int)))] ∧ runC C.stp (dfs d but (n' + 1) t) s = (q.s, true)) ∨
          (e = .ret ∧ (∃ v : Int, V = [(7, .bool false), (9, .int .i64 v), (74, .lst 0 d.ze (d.entries.map eEn)), (75, .int .i64 d.entries.length), (76, .int .i64 d.entries.length)]) ∧ runC C.stp (dfs d but (n' + 1) t) s = (q.s, false)))) ⟨s, es, arr, J0, F0, k⟩ ?_ ?_ ?_ ?_ ?_ ?_
      · simp only [go_sem, ↓reduceIte, simprocAttr, Int.add_zero]
      · subst hJ0 hF0
        simp only [NB, ← hQQ, List.append_nil]
      · exact ⟨hke, ha, hi, by simp [nextK], by simp [nextK, runC]⟩
      · intro kk q hkk hR
        obtain ⟨s1, es1, arr1, J1, F1, k1⟩ := q
        obtain ⟨r1, r2, r3, r4, r5⟩ := hR
        have r1 : KOk d es1 := r1
        have r2 : AOk d t arr1 := r2
        have hw : (widthD d t : Int) = hiD d t + 1 - loD d t := by unfold widthD at hkk ⊢; omega
        have hvi : loD d t + (kk : Int) ≤ hiD d t := by omega
        have hv0 : 1 ≤ loD d t + (kk : Int) ∧ loD d t + (kk : Int) ≤ 20 := by omega
        have hws : IntKind.i64.wrap (loD d t + (kk : Int) + 1) = loD d t + ((kk : Int) + 1) := by rw [wrap_i64 (by omega)]; omega
        obtain ⟨hQ1, oR1, oH1⟩ := C.facts s1 es1
        simp only [eHs, eHc, List.cons_append, List.nil_append] at oR1
        have ha1 := r2.1
        have ht3 : t.length < 3 := by omega
        obtain ⟨as1, as2⟩ := r2.set htl (by omega) (loD d t + (kk : Int))
        generalize hQQ1 : PM (C.PF s1) m es1 = Q1 at hQ1 oR1 oH1
        generalize hvv : loD d t + (kk : Int) = v at hvi hv0 hws as1 as2
        simp only [NB, hQQ1]
        have ht2 : t.length ≤ 2 := by omega
        simp (disch := omega) only [go_sem, ↓reduceIte, simprocAttr, oR1, oH1, hQ1, q_get hQ1, q_get0 hQ1, q_set hQ1, q_set0 hQ1, q_take hQ1, q_take0 hQ1, hvi, ha1, ht3, ht2, splice1, Nat.mul_one, I_set]
        generalize hy : (EW tabX).code 139 none (Code.loop _) _ = y
        refine w_rounds_sq hy (fun j (q : IS) => [(76, .int .i64 j)]) (fun q => ⟨PM (C.PF s1) m q.es ++ NB n l hb r (arr1.set t.length v) (E ++ (.cells [.int .i64 (loD d t), .int .i64 (hiD d t)] :: (J1 ++ q.J))), tb ++ (F1 ++ q.F)⟩)
          (fun j q => KOk d q.es ∧ okDay d but t.length v j = true) d.entries.length
          (fun e V q => KOk d q.es ∧ ((e = .exit 2 ∧ okDay d but t.length v d.entries.length = true ∧ V = [(76, .int .i64 d.entries.length)]) ∨
            (e = .exit 1 ∧ okDay d but t.length v d.entries.length = false ∧ ∃ (j pp : Nat), V = [(10, .int .i64 j), (11, .ref pp 0), (76, .int .i64 j)]))) ⟨es1, [], []⟩ ?_ ?_ ?_ ?_ ?_ ?_
        · simp only [go_sem, ↓reduceIte, simprocAttr]
        · simp only [NB, hQQ1, List.append_nil]
        · exact ⟨r1, rfl⟩
        · intro j q hj hR
          obtain ⟨es2, J2, F2⟩ := q
          obtain ⟨u1, u2⟩ := hR
          have u1 : KOk d es2 := u1
          have hji : (j : Int) < d.entries.length := by omega
          have hxj := List.getElem?_eq_getElem hj
          have hze := hd.ze (by intro e; rw [e] at hj; simp at hj)
          have he0 := en0_at d hj
          have hen := ho.en _ (List.getElem_mem hj)
          have hsuc := okDay_succ d but t.length v j
          rw [u2, Bool.true_and, he0] at hsuc
          have hsk : skipB d but t.length j = (!(d.entries[j].day == (t.length : Int)) || (d.entries[j].far == -1 || but.testBit j)) := by unfold skipB; rw [he0]
          obtain ⟨hQ2, oR2, oH2⟩ := C.facts s1 es2
          simp only [eHs, eHc, List.cons_append, List.nil_append] at oR2
          generalize hQQ2 : PM (C.PF s1) m es2 = Q2 at hQ2 oR2 oH2
          have hwj : IntKind.i64.wrap ((j : Int) + 1) = (j : Int) + 1 := wrap_i64 (by have := ho.e5; omega)
          have h3le : 3 ≤ arr1.length := by omega
          have htk : (arr1.set t.length v).take 3 = arr1.set t.length v := List.take_of_length_le (by simp; omega)
          have hbt := shr_and ⟨but, hbut⟩ ⟨j, by have := ho.e5; omega⟩
          simp only [NB, hQQ2]
          simp only [go_sem, ↓reduceIte, simprocAttr, oR2, oH2, hQ2, q_get hQ2, q_get0 hQ2, q_set hQ2, q_set0 hQ2, q_take hQ2, q_take0 hQ2, hji, hxj, eEn, hze]
          generalize hgg : (IntKind.i64.wrap _ == (1 : Int)) = bb
          obtain rfl : bb = but.testBit j := hgg.symm.trans hbt
          have hskk : (d.entries[j].day != (t.length : Int) || (d.entries[j].far == -1 || but.testBit j)) = skipB d but t.length j := hsk.symm
          rw [hskk]
          cases hs : skipB d but t.length j with
          | true =>
            left
            refine ⟨⟨es2, J2 ++ [bEn d.entries[j]], F2⟩, ?_, u1, by rw [hsuc, hs]; rfl⟩
            simp only [go_sem, ↓reduceIte, simprocAttr, bEn, hQQ2, hwj]
          | false =>
            rw [hs, Bool.false_or] at hsuc
            have hday : d.entries[j].day = t.length := by
              rw [hs] at hsk
              have := hsk.symm
              simp only [Bool.or_eq_false_iff, Bool.not_eq_false', beq_iff_eq] at this
              exact this.1
            have har : (arr1.set t.length v)[d.entries[j].day.toNat]? = some v := by
              rw [hday, cast_toNat, List.getElem?_set_self (by omega)]
            simp only [Bool.false_eq_true, if_false]
            generalize hcf : okFam _ _ _ = cf
            obtain rfl : cf = true := by rw [← hcf]; kernel_rfl
            generalize List.replicate _ ABlk.none = N
            generalize List.replicate _ false = M
            obtain ⟨es3, F3, k1', hc⟩ := c78x d hd ho but (C.hat s1) d.entries[j] (List.getElem_mem hj) (arr1.set t.length v) (by simpa using ha1) v har (by omega)
              (ABlk.cells [.yld l] :: ABlk.cells [.clo 101 [.ref r 0] []] :: ABlk.cells (I (arr1.set t.length v)) :: ABlk.cells [.clo 139 [] [.ref hb 0, .ref n 0, .ref (n + 2) 0, .ref (n + 1) 0, .ref (n + 3) 0]] ::
                (E ++ ABlk.cells [.int .i64 (loD d t), .int .i64 (hiD d t)] :: (J1 ++ (J2 ++ (bEn d.entries[j] :: N))))) (tb ++ (F1 ++ (F2 ++ M))) es2 u1
            rw [hQQ2] at hc
            obtain ⟨hQ3, oR3, oH3⟩ := C.facts s1 es3
            generalize hQQ3 : PM (C.PF s1) m es3 = Q3 at hQ3 oR3 oH3 hc
            simp only [eEn, bEn] at hc
            generalize hpay : payR (d.ag0 d.entries[j].agent) d.entries[j].near v = pv at hc hsuc
            by_cases hpf : pv = d.entries[j].far
            · left
              refine ⟨⟨es3, J2 ++ (bEn d.entries[j] :: N), F2 ++ (M ++ F3)⟩, ?_, k1', by rw [hsuc]; simpa using hpf⟩
              have hne : (pv != d.entries[j].far) = false := by simp [hpf]
              simp only [go_sem, ↓reduceIte, simprocAttr, hc, h3le, htk, hQ2, q_get hQ2, q_get0 hQ2, q_set hQ2, q_set0 hQ2, q_take hQ2, q_take0 hQ2, hQ3, q_get hQ3, q_get0 hQ3, q_set hQ3, q_set0 hQ3, q_take hQ3, q_take0 hQ3, bEn, hne, hQQ3, hwj]
            · right
              have hne : (pv != d.entries[j].far) = true := by simpa using hpf
              refine ⟨.exit 1, _, ⟨es3, J2 ++ (bEn d.entries[j] :: N), F2 ++ (M ++ F3)⟩, ?_, rfl, k1', .inr ⟨rfl, okDay_no j _ (by rw [hsuc]; simpa using hpf) hj, j, n + (E.length + (J1.length + J2.length + 1) + 1 + 1 + 1 + 1), rfl⟩⟩
              simp only [go_sem, ↓reduceIte, simprocAttr, hc, h3le, htk, hQ2, q_get hQ2, q_get0 hQ2, q_set hQ2, q_set0 hQ2, q_take hQ2, q_take0 hQ2, hQ3, q_get hQ3, q_get0 hQ3, q_set hQ3, q_set0 hQ3, q_take hQ3, q_take0 hQ3, bEn, hne, hQQ3, hwj]
        · intro q hR
          refine ⟨.exit 2, [(76, .int .i64 d.entries.length)], q, ?_, rfl, hR.1, .inl ⟨rfl, hR.2, rfl⟩⟩
          simp only [go_sem, ↓reduceIte, simprocAttr]
        · intro e V q hye hQe
          obtain ⟨es2, J2, F2⟩ := q
          obtain ⟨u1, hQe⟩ := hQe
          have u1 : KOk d es2 := u1
          obtain ⟨hQ2, oR2, oH2⟩ := C.facts s1 es2
          simp only [eHs, eHc, List.cons_append, List.nil_append] at oR2
          have hws2 : IntKind.i64.wrap (v + 1) = loD d t + ((kk : Int) + 1) := by rw [← hvv]; rw [← hvv] at hws; exact hws
          rcases hQe with ⟨rfl, hok, rfl⟩ | ⟨rfl, hok, j, pp, rfl⟩
          · have hpre : (nextK d but t (kk + 1)).flatMap (dfs d but n') = (nextK d but t kk).flatMap (dfs d but n') ++ dfs d but n' (t ++ [v]) := by
              rw [nextK_succ, hvv, if_pos hok, List.flatMap_append]; simp
            have hmono := pre_mono d but n' t (show kk + 1 ≤ widthD d t by omega)
            rw [hpre, List.length_append] at hmono
            have htot : (dfs d but (n' + 1) t).length = ((nextK d but t (widthD d t)).flatMap (dfs d but n')).length := rfl
            have hwt : IntKind.i64.wrap ((t.length : Int) + 1) = (t.length : Int) + 1 := wrap_i64 (by omega)
            have r4 : k1 ≤ k + ((nextK d but t kk).flatMap (dfs d but n')).length := r4
            obtain ⟨es3, arr3, F3, k3, x1, x2, x3, x4, x5⟩ := ih (t ++ [v]) k1 s1 (arr1.set t.length v) (E ++ (.cells [.int .i64 (loD d t), .int .i64 (hiD d t)] :: (J1 ++ J2))) (tb ++ (F1 ++ F2)) es2 (by simp; omega)
              (fun w hw => by rcases List.mem_append.1 hw with h | h; exact hv w h; simp at h; rw [h]; exact hv0) r3 (by omega) as2 u1
            simp only [List.length_append, List.length_singleton, Int.natCast_add, Int.natCast_one, NB] at x5
            rw [hye]
            simp only [NB]
            obtain ⟨hQ3, oR3, oH3⟩ := C.facts (runC C.stp (dfs d but n' (t ++ [v])) s1).1 es3
            generalize hQQ2 : PM (C.PF s1) m es2 = Q2 at hQ2 oR2 oH2 x5
            generalize hQQ3 : PM (C.PF (runC C.stp (dfs d but n' (t ++ [v])) s1).1) m es3 = Q3 at hQ3 oR3 oH3 x5
            cases hbb : (runC C.stp (dfs d but n' (t ++ [v])) s1).2 with
            | true =>
              left
              rw [hbb] at x5
              refine ⟨⟨(runC C.stp (dfs d but n' (t ++ [v])) s1).1, es3, arr3, J1 ++ J2, F1 ++ (F2 ++ F3), k3⟩, ?_, x1, x2.weak, x3 hbb, ?_, ?_⟩
              · simp only [go_sem, ↓reduceIte, simprocAttr, hQ2, q_get hQ2, q_get0 hQ2, q_set hQ2, q_set0 hQ2, q_take hQ2, q_take0 hQ2, hwt, x5, hws2, hQQ3]
              · rw [hpre, List.length_append]
                have x4 : k3 ≤ k1 + (dfs d but n' (t ++ [v])).length := x4
                show k3 ≤ _
                omega
              · rw [hpre, runC_app, r5, if_pos rfl]
                show runC C.stp (dfs d but n' (t ++ [v])) s1 = _
                rw [← hbb]
            | false =>
              right
              rw [hbb] at x5
              refine ⟨.ret, [(7, .bool false), (9, .int .i64 v), (74, .lst 0 d.ze (d.entries.map eEn)), (75, .int .i64 d.entries.length), (76, .int .i64 d.entries.length)], ⟨(runC C.stp (dfs d but n' (t ++ [v])) s1).1, es3, arr3, J1 ++ J2, F1 ++ (F2 ++ F3), k3⟩, ?_, rfl, x1, x2.weak, fun h => (by cases h), ?_, .inr ⟨rfl, ⟨v, rfl⟩, ?_⟩⟩
              · simp only [go_sem, ↓reduceIte, simprocAttr, hQ2, q_get hQ2, q_get0 hQ2, q_set hQ2, q_set0 hQ2, q_take hQ2, q_take0 hQ2, hwt, x5, hws2, hQQ3]
              · have x4 : k3 ≤ k1 + (dfs d but n' (t ++ [v])).length := x4
                show k3 ≤ _
                omega
              · have hfull : ∃ rest, (nextK d but t (widthD d t)).flatMap (dfs d but n') = (nextK d but t (kk + 1)).flatMap (dfs d but n') ++ rest := pre_split d but n' t (show kk + 1 ≤ widthD d t by omega)
                obtain ⟨rest, hrest⟩ := hfull
                show runC C.stp ((nextK d but t (widthD d t)).flatMap (dfs d but n')) s = _
                rw [hrest, hpre, List.append_assoc, runC_app, r5, if_pos rfl]
                show runC C.stp (dfs d but n' (t ++ [v]) ++ rest) s1 = _
                rw [runC_app, hbb, if_neg (by decide), ← hbb]
          · have hpre : (nextK d but t (kk + 1)).flatMap (dfs d but n') = (nextK d but t kk).flatMap (dfs d but n') := by
              rw [nextK_succ, hvv, if_neg (by rw [hok]; decide)]
            left
            rw [hye]
            refine ⟨⟨s1, es2, arr1.set t.length v, J1 ++ J2, F1 ++ F2, k1⟩, ?_, u1, as1, r3, by rw [hpre]; exact r4, by rw [hpre]; exact r5⟩
            simp only [NB]
            simp only [go_sem, ↓reduceIte, simprocAttr, hws2]
      · intro q hR
        obtain ⟨s1, es1, arr1, J1, F1, k1⟩ := q
        obtain ⟨r1, r2, r3, r4, r5⟩ := hR
        obtain ⟨hQ1, oR1, oH1⟩ := C.facts s1 es1
        have hw : (widthD d t : Int) = hiD d t + 1 - loD d t ∨ ((widthD d t : Int) = 0 ∧ hiD d t < loD d t) := by unfold widthD; omega
        have hnn : ¬ (loD d t + (widthD d t : Int) ≤ hiD d t) := by omega
        refine ⟨.exit 0, [(9, .int .i64 (loD d t + (widthD d t : Int)))], ⟨s1, es1, arr1, J1, F1, k1⟩, ?_, rfl, r1, r2, fun _ => r3, r4, .inl ⟨rfl, rfl, r5⟩⟩
        generalize hQQ1 : PM (C.PF s1) m es1 = Q1 at hQ1 oR1 oH1
        simp only [NB, hQQ1]
        simp only [go_sem, ↓reduceIte, simprocAttr, hQ1, q_get hQ1, q_get0 hQ1, q_set hQ1, q_set0 hQ1, q_take hQ1, q_take0 hQ1, hnn]
      · intro e V q hxe hQe
        obtain ⟨s1, es1, arr1, J1, F1, k1⟩ := q
        obtain ⟨r1, r2, r3, r4, hQe⟩ := hQe
        have r1 : KOk d es1 := r1
        obtain ⟨hQ1, oR1, oH1⟩ := C.facts s1 es1
        rcases hQe with ⟨rfl, rfl, r5⟩ | ⟨rfl, ⟨v, rfl⟩, r5⟩
        · rw [r5]
          refine ⟨es1, arr1, F1, k1, r1, r2, fun _ => r3 rfl, r4, ?_⟩
          generalize hQQ1 : PM (C.PF s1) m es1 = Q1 at hQ1 oR1 oH1 hxe
          rw [hxe]
          simp only [NB]
          simp only [go_sem, ↓reduceIte, simprocAttr, hQ1, q_get hQ1, q_get0 hQ1, q_set hQ1, q_set0 hQ1, q_take hQ1, q_take0 hQ1, hQ]
        · rw [r5]
          refine ⟨es1, arr1, F1, k1, r1, r2, fun h => (by cases h), r4, ?_⟩
          generalize hQQ1 : PM (C.PF s1) m es1 = Q1 at hQ1 oR1 oH1 hxe
          rw [hxe]
          simp only [NB]
          simp only [go_sem, ↓reduceIte, simprocAttr, hQ1, q_get hQ1, q_get0 hQ1, q_set hQ1, q_set0 hQ1, q_take hQ1, q_take0 hQ1, hQ]
end Go.Proofs.YtiighcpimecehaaGreat.R8
end
section
namespace Go.Proofs.YtiighcpimecehaaGreat.R8
open Go.Proofs

theorem c64 (r : Nat) (B : List ABlk) (t : List Bool) (hr : r < B.length) : (EW tabX).call 98 [.ref r 0] ⟨B, t⟩ = some (.clo 138 [] [.ref B.length 0], ⟨B ++ [.cells [.ref r 0]], t⟩) := by
  rw [w_call _ fn_98 rfl]
  have h1 : ¬ (B.length < B.length) := by omega
  have h2 : r < B.length + 1 := by omega
  simp only [go_sem, ↓reduceIte, simprocAttr, h1, h2]
theorem c96 {d : Ho} (hd : d.fits) (ho : d.Ok) {but : Nat} (hbut : but < 32) {r m hb n l : Nat} {σ : Type} (C : Con d but r m hb n l σ) (s : σ) (hi : C.Inv 0 s) (hlen : (dfs d but d.rates.length []).length ≤ 8000) (hrl : r < n) (hll : l < n) (hbl : hb < n)
    (es : List (Key × Int)) (hk : KOk d es) (tb : List Bool) :
    ∃ es' F k, KOk d es' ∧ ((runC C.stp (dfs d but d.rates.length []) s).2 = true → C.Inv k (runC C.stp (dfs d but d.rates.length []) s).1) ∧ k ≤ (dfs d but d.rates.length []).length ∧
      (EW tabX).call 138 [.yld l, .ref hb 0] ⟨PM (C.PF s) m es, tb⟩ = some (.tup [], ⟨PM (C.PF (runC C.stp (dfs d but d.rates.length []) s).1) m es', tb ++ F⟩) := by
  have hrd := ho.rd
  have hd3 := ho.d3
  obtain ⟨es', arr', F, k, h1, h2, h3, h4, h5⟩ := c97 hd ho hbut C d.rates.length [] 0 s [0, 0, 0] [] tb es (by simp) (by simp) hi (by omega) ⟨rfl, rfl, by
    have : ∀ k, k ≤ 3 → ([0, 0, 0] : List Int).drop k = List.replicate (3 - k) 0 := by decide
    exact this _ (by omega)⟩ hk
  obtain ⟨hQ, oR, oH⟩ := C.facts s es
  obtain ⟨hQ', oR', oH'⟩ := C.facts (runC C.stp (dfs d but d.rates.length []) s).1 es'
  refine ⟨es', F, k, h1, h3, by omega, ?_⟩
  have oH0 : (PM (C.PF s) m es)[hb]? = some (.cells [.ref r 0]) := by simpa using oH []
  generalize PM (C.PF s) m es = Q at hQ oR oH oH0 h5 ⊢
  generalize PM (C.PF (runC C.stp (dfs d but d.rates.length []) s).1) m es' = Q' at hQ' oR' oH' h5 ⊢
  have hn4 : n < n + 4 := by omega
  have hl1 : ∀ k, l < n + k := fun k => by omega
  have hb1 : ∀ k, hb < n + k := fun k => by omega
  have hr1 : ∀ k, r < n + k := fun k => by omega
  simp only [NB, List.length_nil, cast_zero, I_c, I_nil] at h5
  rw [w_call _ fn_138 rfl]
  simp only [go_sem, ↓reduceIte, simprocAttr, oH, hQ, q_get hQ, q_get0 hQ, q_set hQ, q_set0 hQ, q_take hQ, q_take0 hQ, hl1, hb1, hr1, Nat.add_lt_add_iff_left, Nat.add_assoc, hn4, h5, hQ', q_get hQ', q_get0 hQ', q_set hQ', q_set0 hQ', q_take hQ', q_take0 hQ']
end Go.Proofs.YtiighcpimecehaaGreat.R8
end
section
namespace Go.Proofs.YtiighcpimecehaaGreat.R8
open Go.Proofs

def V (a : Int) (n : Nat) : List Int := (List.range n).map fun (j : Nat) => a + (j : Int)
theorem V_succ (a : Int) (n : Nat) : V a (n + 1) = V a n ++ [a + (n : Int)] := by unfold V; rw [List.range_succ, List.map_append]; rfl
theorem V_add (a : Int) (n : Nat) : ∀ m, V a (n + m) = V a n ++ V (a + n) m
  | 0 => by simp [V]
  | m + 1 => by
    rw [← Nat.add_assoc, V_succ, V_add a n m, V_succ, List.append_assoc]
    congr 3
    simp; omega
theorem V_mem {a : Int} {n : Nat} {v : Int} : v ∈ V a n ↔ a ≤ v ∧ v < a + n := by
  unfold V
  rw [List.mem_map]
  constructor
  · rintro ⟨j, hj, rfl⟩
    have := List.mem_range.1 hj; omega
  · rintro ⟨h1, h2⟩
    exact ⟨(v - a).toNat, List.mem_range.2 (by omega), by omega⟩
theorem V_filter (lo hi a b : Int) (h1 : lo ≤ a) (h2 : b ≤ hi) : (V lo (hi + 1 - lo).toNat).filter (fun v => decide (a ≤ v) && decide (v ≤ b)) = V a (b + 1 - a).toNat := by
  by_cases h : a ≤ b
  · have e : (hi + 1 - lo).toNat = (a - lo).toNat + ((b + 1 - a).toNat + (hi - b).toNat) := by omega
    have e1 : lo + ((a - lo).toNat : Int) = a := by omega
    have e2 : a + ((b + 1 - a).toNat : Int) = b + 1 := by omega
    rw [e, V_add, V_add, e1, e2, List.filter_append, List.filter_append]
    have f1 : (V lo (a - lo).toNat).filter (fun v => decide (a ≤ v) && decide (v ≤ b)) = [] := by
      rw [List.filter_eq_nil_iff]
      intro v hv
      have := V_mem.1 hv
      simp; omega
    have f2 : (V a (b + 1 - a).toNat).filter (fun v => decide (a ≤ v) && decide (v ≤ b)) = V a (b + 1 - a).toNat := by
      rw [List.filter_eq_self]
      intro v hv
      have := V_mem.1 hv
      simp; omega
    have f3 : (V (b + 1) (hi - b).toNat).filter (fun v => decide (a ≤ v) && decide (v ≤ b)) = [] := by
      rw [List.filter_eq_nil_iff]
      intro v hv
      have := V_mem.1 hv
      simp; omega
    rw [f1, f2, f3]; simp
  · have e : (b + 1 - a).toNat = 0 := by omega
    rw [e]
    have : (V lo (hi + 1 - lo).toNat).filter (fun v => decide (a ≤ v) && decide (v ≤ b)) = [] := by
      rw [List.filter_eq_nil_iff]
      intro v hv
      simp; omega
    rw [this]; rfl
theorem extR_V (h : Ho) (d : Nat) (t : List Int) (k : Nat) : extR h d t k = ((V (h.lo d) k).filter fun v => decide (d = 0) || inR (v - t.getD (d - 1) 0) (0 - h.step) h.step).map fun v => t ++ [v] := by
  unfold extR V mayR
  rw [List.filter_map, List.map_map]
  rfl
theorem nextK_V (d : Ho) (but : Nat) (t : List Int) (k : Nat) : nextK d but t k = ((V (loD d t) k).filter fun v => okDay d but t.length v d.entries.length).map fun v => t ++ [v] := by
  unfold nextK V
  rw [List.filter_map, List.map_map]
  rfl
theorem steps_eq {d : Ho} (ho : d.Ok) {t : List Int} (ht : t.length < d.rates.length) : (V (d.lo t.length) (d.width t.length)).filter (fun v => decide (t.length = 0) || inR (v - t.getD (t.length - 1) 0) (0 - d.step) d.step) = V (loD d t) (widthD d t) := by
  obtain ⟨hday, w1, w2, w3, w4, w5⟩ := ho.day ht
  unfold widthD Ho.width
  by_cases h0 : t.length = 0
  · have e1 : loD d t = d.lo t.length := by unfold loD; rw [if_pos h0, h0]
    have e2 : hiD d t = d.hi t.length := by unfold hiD; rw [if_pos h0, h0]
    rw [e1, e2, List.filter_eq_self.2]
    intro v hv
    simp [h0]
  · have hl : d.lo t.length ≤ loD d t := by unfold loD; rw [if_neg h0]; split <;> omega
    have hh : hiD d t ≤ d.hi t.length := by unfold hiD; rw [if_neg h0]; split <;> omega
    rw [← V_filter (d.lo t.length) (d.hi t.length) (loD d t) (hiD d t) hl hh]
    apply List.filter_congr
    intro v hv
    obtain ⟨v1, v2⟩ := V_mem.1 hv
    rw [Bool.eq_iff_iff]
    simp only [h0, decide_false, Bool.false_or, inR, Bool.and_eq_true, decide_eq_true_eq]
    unfold loD hiD
    rw [if_neg h0, if_neg h0]
    split <;> split <;> omega

def okPre (d : Ho) (but : Nat) (r : List Int) (i : Nat) : Bool := (List.range d.entries.length).all fun k => decide ((i : Int) ≤ (d.en0 k).day) || ((d.en0 k).far == -1 || but.testBit k) || payR (d.ag0 (d.en0 k).agent) (d.en0 k).near (r.getD (d.en0 k).day.toNat 0) == (d.en0 k).far
theorem all_and {α : Type} (f g h : α → Bool) : ∀ l : List α, (∀ x ∈ l, f x = (g x && h x)) → l.all f = (l.all g && l.all h)
  | [], _ => rfl
  | x :: l, hh => by
    rw [List.all_cons, List.all_cons, List.all_cons, all_and f g h l fun y hy => hh y (by simp [hy]), hh x (by simp)]
    cases g x <;> cases h x <;> simp
theorem okPre_succ {d : Ho} (ho : d.Ok) (but : Nat) (t : List Int) (v : Int) : okPre d but (t ++ [v]) (t.length + 1) = (okPre d but t t.length && okDay d but t.length v d.entries.length) := by
  unfold okPre okDay
  apply all_and
  intro k hk
  have hk := List.mem_range.1 hk
  have hen := ho.en _ (List.getElem_mem hk)
  rw [← en0_at d hk] at hen
  obtain ⟨j, hj⟩ := Int.eq_ofNat_of_zero_le hen.2.2.1
  unfold skipB
  rw [hj, cast_toNat]
  by_cases h1 : j < t.length
  · have e1 : (t ++ [v]).getD j 0 = t.getD j 0 := by simp [List.getD_eq_getElem?_getD, List.getElem?_append_left h1]
    have e2 : decide (((t.length + 1 : Nat) : Int) ≤ (j : Int)) = false := by simp; omega
    have e3 : decide ((t.length : Int) ≤ (j : Int)) = false := by simp; omega
    have e4 : ((j : Int) == (t.length : Int)) = false := by simp; omega
    rw [e1, e2, e3, e4]; simp
  · by_cases h2 : j = t.length
    · subst h2
      have e1 : (t ++ [v]).getD t.length 0 = v := by simp
      have e2 : decide (((t.length + 1 : Nat) : Int) ≤ (t.length : Int)) = false := by simp; omega
      have e3 : decide ((t.length : Int) ≤ (t.length : Int)) = true := by simp
      have e4 : ((t.length : Int) == (t.length : Int)) = true := by simp
      rw [e1, e2, e3, e4]; simp
    · have e2 : decide (((t.length + 1 : Nat) : Int) ≤ (j : Int)) = true := by simp; omega
      have e3 : decide ((t.length : Int) ≤ (j : Int)) = true := by simp; omega
      have e4 : ((j : Int) == (t.length : Int)) = false := by simp; omega
      rw [e2, e3, e4]; simp
theorem next_ext {d : Ho} (ho : d.Ok) (but : Nat) {t : List Int} (ht : t.length < d.rates.length) : (extR d t.length t (d.width t.length)).filter (fun r => okPre d but r (t.length + 1)) = if okPre d but t t.length = true then nextK d but t (widthD d t) else [] := by
  rw [extR_V, steps_eq ho ht, nextK_V, List.filter_map]
  split
  · rename_i h
    congr 1
    apply List.filter_congr
    intro v _
    show okPre d but (t ++ [v]) (t.length + 1) = _
    rw [okPre_succ ho, h, Bool.true_and]
  · rename_i h
    rw [List.map_eq_nil_iff, List.filter_eq_nil_iff]
    intro v _
    show ¬ okPre d but (t ++ [v]) (t.length + 1) = true
    rw [okPre_succ ho]
    simp [h]
theorem filter_flat {α β : Type} (p : β → Bool) (f : α → List β) (l : List α) : (l.flatMap f).filter p = l.flatMap fun x => (f x).filter p := by
  induction l with
  | nil => rfl
  | cons x l ih => rw [List.flatMap_cons, List.filter_append, ih, List.flatMap_cons]
theorem flat_filter {α β : Type} (p : α → Bool) (f : α → List β) (l : List α) : (l.filter p).flatMap f = l.flatMap fun x => if p x = true then f x else [] := by
  induction l with
  | nil => rfl
  | cons x l ih =>
    rw [List.flatMap_cons]
    cases hp : p x with
    | true => rw [List.filter_cons_of_pos hp, List.flatMap_cons, ih, if_pos rfl]
    | false => rw [List.filter_cons_of_neg (by simp [hp]), ih, if_neg (by decide)]; rfl
theorem flat_congr {α β : Type} {f g : α → List β} : ∀ {l : List α}, (∀ x ∈ l, f x = g x) → l.flatMap f = l.flatMap g
  | [], _ => rfl
  | x :: l, h => by rw [List.flatMap_cons, List.flatMap_cons, h x (by simp), flat_congr fun y hy => h y (by simp [hy])]
theorem pre_next {d : Ho} (ho : d.Ok) (but : Nat) {i : Nat} (hi : i < d.rates.length) : (ratesL d (i + 1)).filter (fun r => okPre d but r (i + 1)) = ((ratesL d i).filter fun r => okPre d but r i).flatMap fun t => nextK d but t (widthD d t) := by
  show ((ratesL d i).flatMap fun t => extR d i t (d.width i)).filter _ = _
  rw [filter_flat, flat_filter]
  apply flat_congr
  intro t ht
  have hl := ratesL_mem d i t ht
  subst hl
  exact next_ext ho but hi
theorem dfs_pre {d : Ho} (ho : d.Ok) (but : Nat) : ∀ (n i : Nat), i + n = d.rates.length → ((ratesL d i).filter fun r => okPre d but r i).flatMap (dfs d but n) = (ratesL d d.rates.length).filter fun r => okPre d but r d.rates.length
  | 0, i, h => by
    obtain rfl : i = d.rates.length := by omega
    generalize (ratesL d d.rates.length).filter _ = l
    induction l with
    | nil => rfl
    | cons x l ih => rw [List.flatMap_cons, ih]; rfl
  | n + 1, i, h => by
    rw [← dfs_pre ho but n (i + 1) (by omega), pre_next ho but (by omega), List.flatMap_assoc]
    rfl
theorem bitsL_any (s n : Nat) (k : Nat) (hk : k < n) : ((bitsL s n).any fun x => x == (k : Int)) = s.testBit k := by
  unfold bitsL
  rw [List.any_map, Bool.eq_iff_iff, List.any_eq_true]
  constructor
  · rintro ⟨x, hx, he⟩
    have : x = k := by
      have he : ((x : Int) == (k : Int)) = true := he
      rw [beq_iff_eq] at he
      omega
    subst this
    exact (List.mem_filter.1 hx).2
  · intro h
    exact ⟨k, List.mem_filter.2 ⟨List.mem_range.2 hk, h⟩, by simp⟩
theorem dfs_all {d : Ho} (ho : d.Ok) (but : Nat) : dfs d but d.rates.length [] = truthsL d (bitsL but d.entries.length) := by
  have h := dfs_pre ho but d.rates.length 0 (by omega)
  have h0 : (ratesL d 0).filter (fun r => okPre d but r 0) = [[]] := by
    have : okPre d but [] 0 = true := by
      unfold okPre
      rw [List.all_eq_true]
      intro k hk
      have hk := List.mem_range.1 hk
      have hen := ho.en _ (List.getElem_mem hk)
      rw [← en0_at d hk] at hen
      have : decide (((0 : Nat) : Int) ≤ (d.en0 k).day) = true := by simp; omega
      rw [this]; rfl
    simp [ratesL, this]
  rw [h0] at h
  simp only [List.flatMap_cons, List.flatMap_nil, List.append_nil] at h
  rw [h]
  unfold truthsL
  apply List.filter_congr
  intro r hr
  unfold okPre agreeTo
  rw [Bool.eq_iff_iff, List.all_eq_true, List.all_eq_true]
  have key : ∀ k ∈ List.range d.entries.length, (decide ((d.rates.length : Int) ≤ (d.en0 k).day) || ((d.en0 k).far == -1 || but.testBit k) || payR (d.ag0 (d.en0 k).agent) (d.en0 k).near (r.getD (d.en0 k).day.toNat 0) == (d.en0 k).far) =
      (((bitsL but d.entries.length).any fun x => x == (k : Int)) || agreesB d (d.en0 k) r) := fun k hk => by
    have hk := List.mem_range.1 hk
    have hen := ho.en _ (List.getElem_mem hk)
    rw [← en0_at d hk] at hen
    have hrd := ho.rd
    have e1 : decide ((d.rates.length : Int) ≤ (d.en0 k).day) = false := by simp; omega
    rw [e1, bitsL_any _ _ _ hk]
    unfold agreesB
    cases (d.en0 k).far == -1 <;> cases but.testBit k <;> simp
  constructor
  · intro h k hk; rw [← key k hk]; exact h k hk
  · intro h k hk; rw [key k hk]; exact h k hk
theorem bitsL_zero (n : Nat) : bitsL 0 n = [] := by
  unfold bitsL
  rw [List.map_eq_nil_iff, List.filter_eq_nil_iff]
  intro k _
  simp
end Go.Proofs.YtiighcpimecehaaGreat.R8
end
section
namespace Go.Proofs.YtiighcpimecehaaGreat.R8
open Go.Proofs

theorem c83 (d : Ho) (but : Int) (B : List ABlk) (t : List Bool) : (EW tabX).call 103 [eH d, .int .i64 but] ⟨B, t⟩ = some (.ref (B.length + 2) 0, ⟨B ++ [.cells (eHc d), .map [], .cells (eHs d but (B.length + 1))], t⟩) := by
  have h1 : B.length + 1 < B.length + 2 + 1 := by omega
  have h2 : ∀ k, ¬ (B.length + k < B.length) := fun k => by omega
  have h3 : B.length + 1 < B.length + (1 + 1) + 1 := by omega
  rw [w_call _ fn_103 rfl]
  simp only [go_sem, ↓reduceIte, simprocAttr, eH, eHc, eHs, h1, h2, h3, Nat.add_assoc]
def enterE (d : Ho) (but : Nat) (e : Int) : Int := if checkE d = 0 then (if e = 0 then (if dfs d but d.rates.length [] = [] then 8 else 0) else e) else checkE d
theorem runC_stop (l : List (List Int)) : runC (fun (_ : Bool) (_ : List Int) => (true, false)) l false = if l = [] then (false, true) else (true, false) := by
  cases l with
  | nil => rfl
  | cons t ts => rfl
theorem Ho.Ok.dfs_len {d : Ho} (ho : d.Ok) (but : Nat) : (dfs d but d.rates.length []).length ≤ 8000 := by rw [dfs_all ho]; exact truthsL_len ho _

theorem c84 {d : Ho} (hd : d.fits) (ho : d.Ok) {but : Nat} (hbut : but < 32) (r m : Nat) (B : List ABlk) (hB : HAt d but r m B) (es : List (Key × Int)) (hk : KOk d es) (t : List Bool) :
    ∃ es' F, KOk d es' ∧ (EW tabX).call 104 [.ref r 0] ⟨PM B m es, t⟩ = some (.bool (decide (dfs d but d.rates.length [] ≠ [])), ⟨PM B m es', t ++ F⟩) := by
  have hrl : r < B.length := (List.getElem?_eq_some_iff.1 hB.hr).1
  have h64 := c64 r (PM B m es ++ [.cells [.bool false]]) t (by simp; omega)
  rw [w_call _ fn_104 rfl]
  simp only [go_sem, ↓reduceIte, simprocAttr] at h64
  simp only [go_sem, ↓reduceIte, simprocAttr, h64]
  rw [w_range (gf := 138) (fst := []) (cap := [.ref (B.length + 1) 0])]
  rotate_left
  · simp only [go_sem, ↓reduceIte, simprocAttr]
  generalize hLB : ABlk.loop false AExit.normal false 104 _ _ _ _ = LB
  obtain ⟨LB', b1, LBr, b2, b3⟩ : ∃ LB', beginBlk LB = some LB' ∧ ∃ LBr, endBlk .ret LB' = some LBr ∧ (∀ h : Heap, h.b[B.length + 3]? = some LBr → ∀ fr ms, afterRange (B.length + 3) fr ms h = some (.ret, ⟨fr, h.put (B.length + 3) .none, ms⟩)) := by
    rw [← hLB]
    exact ⟨_, rfl, _, rfl, fun h hh fr ms => by unfold afterRange; rw [hh]⟩
  have b4 : ∀ h : Heap, h.b[B.length + 3]? = some LB → ∀ fr ms, afterRange (B.length + 3) fr ms h = some (.normal, ⟨fr, h.put (B.length + 3) .none, ms⟩) := fun h hh fr ms => by
    rw [← hLB] at hh; unfold afterRange; rw [hh]
  have hset : ∀ (X : List ABlk) es, PM (B ++ X) m es = PM B m es ++ X := fun X es => List.set_append_left _ _ hB.hm
  let C : Con d but r m (B.length + 1) (B.length + 4) (B.length + 3) Bool := {
    PF := fun s => B ++ [.cells [.bool s], .cells [.ref r 0], .mark, if s = true then LBr else LB]
    stp := fun _ _ => (true, false)
    Inv := fun _ s => s = false
    len := fun s => by simp
    hat := fun s => ⟨old hB.hr _, by simp; have := hB.hm; omega, hB.ne⟩
    bx := fun s => by simp only [go_sem, ↓reduceIte, simprocAttr]
    ne := fun e => by have := hB.hm; omega
    rnd := by
      intro k s t E tb es hinv hk8 hl hv hke
      subst hinv
      rw [hset]
      have hat : (⟨PM B m es ++ [.cells [.bool false], .cells [.ref r 0], .mark, LB] ++ NB (B.length + 4) (B.length + 3) (B.length + 1) r (arrOf t) E, tb⟩ : Heap).b[B.length + 3]? = some LB := by simp only [go_sem, ↓reduceIte, simprocAttr, NB]
      have hat2 := hat.trans (congrArg some hLB.symm)
      simp only [if_neg Bool.false_ne_true]
      rw [stepRound_eq tabX hat2]
      clear hat hat2
      refine ⟨es, [], [], hke, (fun h => by cases h), ?_⟩
      rw [hset]
      simp only [y1, Option.bind_some, roundK, NB]
      simp only [go_sem, ↓reduceIte, simprocAttr, w_skip, turnBlk, b1, b2, isNormal] }
  obtain ⟨es', F, k, x1, x2, x3, x4⟩ := c96 hd ho hbut C false rfl (ho.dfs_len but) (by omega) (by omega) (by omega) es hk t
  simp only [C] at x4
  rw [hset, hset, runC_stop] at x4
  simp only [go_sem, ↓reduceIte, simprocAttr] at x4
  refine ⟨es', F, x1, ?_⟩
  by_cases he : dfs d but d.rates.length [] = []
  · rw [if_pos he] at x4
    simp only [Bool.false_eq_true, if_false] at x4
    have hdd : decide (dfs d but d.rates.length [] ≠ []) = false := by simp [he]
    rw [hdd]
    simp only [go_sem, ↓reduceIte, simprocAttr, x4]
    rw [b4 _ (by simp only [go_sem, ↓reduceIte, simprocAttr])]
    simp only [go_sem, ↓reduceIte, simprocAttr]
  · rw [if_neg he] at x4
    simp only [Bool.false_eq_true, if_false, if_true] at x4
    have hdd : decide (dfs d but d.rates.length [] ≠ []) = true := by simpa using he
    rw [hdd]
    simp only [go_sem, ↓reduceIte, simprocAttr, x4]
    rw [b3 _ (by simp only [go_sem, ↓reduceIte, simprocAttr])]
    simp only [go_sem, ↓reduceIte, simprocAttr]
end Go.Proofs.YtiighcpimecehaaGreat.R8
end
section
namespace Go.Proofs.YtiighcpimecehaaGreat.R8
open Go.Proofs

theorem c63 (h : Heap) : callPure (EW tabX) 97 [] h = some (.int .i64 0, h) := by
  rw [callPure_eq, w_call _ fn_97 rfl]
  simp only [go_sem, ↓reduceIte, simprocAttr, zipFrom_nil]
theorem c67 (l : List Int) (tg z : Nat) (B : List ABlk) (t : List Bool) : (EW tabX).call 71 [.lst tg z (I l)] ⟨B, t⟩ = some (.clo 106 [] [.ref B.length 0], ⟨B ++ [.cells [.lst tg z (I l)]], t⟩) := by
  have h1 : ¬ (B.length < B.length) := by omega
  rw [w_call _ fn_71 rfl]
  simp only [go_sem, ↓reduceIte, simprocAttr, h1]
def pairE (l : List Int) (k : Nat) : Int := if out 0 (l.getD (2 * k + 1) 0 - 1) (l.getD (2 * k) 0) = true then 4 else 0
def pairsE (l : List Int) (n : Nat) : Int := match firstBad (pairE l) 0 n with | some _ => 4 | none => 0
theorem c98 (l : List Int) (n : Nat) (hn : l.length = 2 * n) (hn9 : n ≤ 9) (hb : ∀ k, k < n → -1000000000000000000 ≤ l.getD (2 * k + 1) 0 ∧ l.getD (2 * k + 1) 0 ≤ 9000000000000000000) (tg : Nat) (b : Nat) (B : List ABlk) (t : List Bool) (hB : B[b]? = some (.cells [.lst tg 1 (I l)])) :
    (EW tabX).call 106 [.ref b 0] ⟨B, t⟩ = some (.int .i64 (pairsE l n), ⟨B, t⟩) := by
  rw [w_call _ fn_106 rfl]
  simp only [go_sem, ↓reduceIte, simprocAttr]
  rw [w_first (fun k => [(2, .int .i64 (2 * (k : Int)))]) (fun _ => ⟨B, t⟩) (pairE l) n .ret (fun k => [(1, .int .i64 4), (2, .int .i64 (2 * (k : Int)))]) (fun _ => ⟨B, t⟩) (.exit 0) [(2, .int .i64 (2 * (n : Int)))] ⟨B, t⟩ ?_ ?_ ?_ ?_ ?_ rfl rfl]
  · unfold firstW pairsE
    cases h : firstBad (pairE l) 0 n with
    | some k => simp only [go_sem, ↓reduceIte, simprocAttr]
    | none => simp only [go_sem, ↓reduceIte, simprocAttr]
  · simp only [go_sem, ↓reduceIte, simprocAttr, Int.mul_zero]
  · rfl
  all_goals
    first
    | (intro k hk hz
       have h1 : 2 * k + 1 < l.length := by omega
       have h0 : 2 * k < l.length := by omega
       have g1 := List.getElem?_eq_getElem h1
       have g0 := List.getElem?_eq_getElem h0
       have i1 : 2 * (k : Int) + 1 < l.length := by omega
       have n0 : (2 * (k : Int) < 0) = False := by simp; omega
       have n1 : (2 * (k : Int) + 1 < 0) = False := by simp; omega
       have t0 : (2 * (k : Int)).toNat = 2 * k := by omega
       have t1 : (2 * (k : Int) + 1).toNat = 2 * k + 1 := by omega
       have w0 : IntKind.i64.wrap (2 * (k : Int) + 1) = 2 * (k : Int) + 1 := wrap_i64 (by omega)
       have w2 : IntKind.i64.wrap (2 * (k : Int) + 2) = 2 * ((k : Int) + 1) := by rw [wrap_i64 (by omega)]; omega
       have e1 : l.getD (2 * k + 1) 0 = l[2 * k + 1] := by simp [h1]
       have b1 := hb k hk
       rw [e1] at b1
       have w3 : IntKind.i64.wrap (l[2 * k + 1] - 1) = l[2 * k + 1] - 1 := wrap_i64 (by omega)
       have e0 : l.getD (2 * k) 0 = l[2 * k] := by simp [h0]
       unfold pairE at hz
       rw [e1, e0] at hz
       cases ho : out 0 (l[2 * k + 1] - 1) l[2 * k] with
       | true =>
         first
         | (rw [ho] at hz; cases hz; done)
         | simp only [go_sem, ↓reduceIte, simprocAttr, hB, i1, n0, n1, t0, t1, w0, w2, w3, g0, g1, c49_1, ho]
       | false =>
         first
         | (rw [ho] at hz; exact absurd rfl hz)
         | simp only [go_sem, ↓reduceIte, simprocAttr, hB, i1, n0, n1, t0, t1, w0, w2, w3, g0, g1, c49_1, ho])
    | (have i1 : ¬ (2 * (n : Int) + 1 < l.length) := by omega
       have w0 : IntKind.i64.wrap (2 * (n : Int) + 1) = 2 * (n : Int) + 1 := wrap_i64 (by omega)
       simp only [go_sem, ↓reduceIte, simprocAttr, hB, w0, i1])

def HE (d : Ho) (but : Nat) (B : List ABlk) : List ABlk := B ++ [.cells (eHc d), .cells (eHc d), .map [], .cells (eHs d but (B.length + 2))]
theorem HE_at (d : Ho) (but : Nat) (B : List ABlk) : HAt d but (B.length + 3) (B.length + 2) (HE d but B) := ⟨by simp only [HE, go_sem, ↓reduceIte, simprocAttr], by simp [HE], by omega⟩
theorem HE_pm (d : Ho) (but : Nat) (B : List ABlk) (es : List (Key × Int)) : PM (HE d but B) (B.length + 2) es = B ++ [.cells (eHc d), .cells (eHc d), .map (esS es), .cells (eHs d but (B.length + 2))] := by
  simp only [HE, go_sem, ↓reduceIte, simprocAttr]
theorem esS_nil : esS [] = [] := id rfl
theorem KOk_nil (d : Ho) : KOk d [] := fun x hx => by cases hx
theorem c62 (d : Ho) (hd : d.fits) (but : Nat) (hbut : but < 32) (e : Int) (oc : AV) (B : List ABlk) (t : List Bool) (hoc : checkE d = 0 → callAV tabX (EW tabX) false oc [] ⟨B ++ [.cells (eHc d)], t⟩ = some (.int .i64 e, ⟨B ++ [.cells (eHc d)], t⟩)) :
    (enterE d but e ≠ 0 → ∃ F, (EW tabX).call 69 [eH d, .int .i64 but, oc] ⟨B, t⟩ = some (.tup [.nilp, .int .i64 (enterE d but e)], ⟨B, t ++ F⟩)) ∧
    (enterE d but e = 0 → ∃ es F, KOk d es ∧ (EW tabX).call 69 [eH d, .int .i64 but, oc] ⟨B, t⟩ = some (.tup [.ref (B.length + 3) 0, .int .i64 0], ⟨PM (HE d but B) (B.length + 2) es, t ++ F⟩)) := by
  have h16 := c16 d hd
  have hce : (checkH d).2.2 = checkE d := rfl
  rw [w_call _ fn_69 rfl]
  unfold enterE
  simp only [eH, eHc, tup3, hce] at h16
  by_cases h0 : checkE d = 0
  rotate_left
  · rw [if_neg h0]
    have hne : (checkE d != 0) = true := by simpa using h0
    refine ⟨fun _ => ⟨[], ?_⟩, fun h => absurd h h0⟩
    simp only [go_sem, ↓reduceIte, simprocAttr, eH, eHc, h16, hne]
  have ho := ok_of_E h0
  rw [if_pos h0]
  have hoc := hoc h0
  simp only [eHc] at hoc
  by_cases h1 : e = 0
  rotate_left
  · rw [if_neg h1]
    have hne : (e != 0) = true := by simpa using h1
    refine ⟨fun _ => ⟨[], ?_⟩, fun h => absurd h h1⟩
    simp only [go_sem, ↓reduceIte, simprocAttr, eH, eHc, h16, h0, hoc, hne]
  subst h1
  rw [if_pos rfl]
  have h83 := c83 d but (B ++ [.cells (eHc d)]) t
  obtain ⟨es', F, x1, x2⟩ := c84 hd ho hbut (B.length + 3) (B.length + 2) (HE d but B) (HE_at d but B) [] (KOk_nil d) t
  rw [HE_pm, HE_pm] at x2
  simp only [go_sem, ↓reduceIte, simprocAttr, eH, eHc, eHs, esS_nil] at h83 x2
  by_cases h2 : dfs d but d.rates.length [] = []
  · rw [if_pos h2]
    have hdd : decide (dfs d but d.rates.length [] ≠ []) = false := by simp [h2]
    rw [hdd] at x2
    refine ⟨fun _ => ⟨F, ?_⟩, fun h => by cases h⟩
    simp only [go_sem, ↓reduceIte, simprocAttr, eH, eHc, eHs, h16, h0, hoc, h83, Nat.add_assoc, x2]
    skip
  · rw [if_neg h2]
    have hdd : decide (dfs d but d.rates.length [] ≠ []) = true := by simpa using h2
    rw [hdd] at x2
    refine ⟨fun h => absurd rfl h, fun _ => ⟨es', F, x1, ?_⟩⟩
    rw [HE_pm]
    have hlt : ¬ (B.length + 3 < B.length) := by omega
    simp only [go_sem, ↓reduceIte, simprocAttr, eH, eHc, eHs, h16, h0, hoc, h83, Nat.add_assoc, x2, hlt]
    skip
end Go.Proofs.YtiighcpimecehaaGreat.R8
end
section
namespace Go.Proofs.YtiighcpimecehaaGreat.R8
open Go.Proofs

theorem enterE_known {d : Ho} (e : Int) : enterE d 0 e = knownE d (if checkE d = 0 then e else checkE d) := by
  unfold enterE knownE
  by_cases h0 : checkE d = 0
  · rw [if_pos h0, if_pos h0]
    have ho := ok_of_E h0
    rw [dfs_all ho, bitsL_zero]
  · rw [if_neg h0, if_neg h0, if_neg h0]
theorem runC_all {σ : Type} (f : σ → List Int → σ) : ∀ (l : List (List Int)) (s : σ), runC (fun s t => (f s t, true)) l s = (l.foldl f s, true)
  | [], s => rfl
  | t :: l, s => by
    unfold runC
    rw [if_pos rfl]
    exact runC_all f l _
theorem arrOf_len {t : List Int} (h : t.length ≤ 3) : (arrOf t).length = 3 := by simp [arrOf]; omega
def fstF (s : List Int × Nat) (t : List Int) : List Int × Nat := (if s.2 = 0 ∨ arrOf t = s.1 then arrOf t else s.1, s.2 + 1)
theorem fstF_more (a : List Int) : ∀ (l : List (List Int)) (n : Nat), 0 < n → l.foldl fstF (a, n) = (a, n + l.length)
  | [], n, _ => rfl
  | t :: l, n, hn => by
    rw [List.foldl_cons]
    have : fstF (a, n) t = (a, n + 1) := by
      unfold fstF
      simp only
      split
      · rename_i h
        rcases h with h | h
        · omega
        · rw [h]
      · rfl
    rw [this, fstF_more a l (n + 1) (by omega), List.length_cons]
    congr 1; omega
theorem fstF_all (t : List Int) (l : List (List Int)) : (t :: l).foldl fstF ([0, 0, 0], 0) = (arrOf t, l.length + 1) := by
  rw [List.foldl_cons]
  have : fstF ([0, 0, 0], 0) t = (arrOf t, 1) := by unfold fstF; simp
  rw [this, fstF_more _ l 1 (by omega)]
  congr 1; omega
theorem list3 {l : List Int} (h : l.length = 3) : ∃ a b c, l = [a, b, c] := by
  match l, h with
  | [a, b, c], _ => exact ⟨a, b, c, rfl⟩
theorem eqCells3 (a b c x y z : Int) : eqCells [0, 0, 0] [.int .i64 a, .int .i64 b, .int .i64 c] [.int .i64 x, .int .i64 y, .int .i64 z] = some (decide ([a, b, c] = [x, y, z])) := by
  simp only [eqCells, if_true, Option.map_some]
  congr 1
  rw [Bool.eq_iff_iff]
  simp

def FB (d : Ho) (es : List (Key × Int)) (s : List Int × Nat) : List ABlk := [.cells (eHc d), .cells [.int .i64 s.2], .cells (eHc d), .cells (eHc d), .map (esS es), .cells (eHs d 0 4), .cells (I s.1)]
theorem c18 (d : Ho) (hd : d.fits) (h : Heap) : callPure (EW tabX) 58 [eH d] h = some (v3 (firstV d), h) := by
  have hcl := eH_clean d
  have hoc : ∀ h, callAV tabX (EW tabX) false (.clo 97 [] []) [] h = some (.int .i64 0, h) := fun h => by simp only [go_sem, ↓reduceIte, simprocAttr, c63]
  obtain ⟨hno, hyes⟩ := c62 d hd 0 (by omega) 0 (.clo 97 [] []) [.cells (eHc d), .cells [.int .i64 0]] [] (fun _ => hoc _)
  have hen : enterE d 0 0 = knownE d (checkE d) := by
    rw [enterE_known]
    by_cases h0 : checkE d = 0
    · rw [if_pos h0, h0]
    · rw [if_neg h0]
  rw [callPure_eq, w_call _ fn_58 rfl]
  unfold firstV
  rw [hen] at hno hyes
  by_cases h0 : knownE d (checkE d) = 0
  rotate_left
  · rw [if_neg h0]
    obtain ⟨F, hc⟩ := hno h0
    have hne : (knownE d (checkE d) != 0) = true := by simpa using h0
    simp only [eH, eHc, cast_zero] at hc hcl
    simp only [go_sem, ↓reduceIte, simprocAttr, eH, eHc, hc, hne, v3, vI]
  rw [if_pos h0]
  obtain ⟨es, F, hke, hc⟩ := hyes h0
  obtain ⟨k1, k2⟩ := knownE_zero h0
  have ho := ok_of_E k1
  have hrd := ho.rd
  have hd1 := ho.d1
  have hd3 := ho.d3
  simp only [go_sem, ↓reduceIte, simprocAttr, eH, eHc, HE, eHs] at hc
  simp only [go_sem, ↓reduceIte, simprocAttr, eH, eHc, hc]
  have h64 := c64 5 (FB d es ([0, 0, 0], 0)) F (by simp [FB])
  simp only [go_sem, ↓reduceIte, simprocAttr, FB, eHc, eHs, I_c, I_nil] at h64
  simp only [go_sem, ↓reduceIte, simprocAttr, h64]
  rw [w_range (gf := 138) (fst := []) (cap := [.ref 7 0])]
  rotate_left
  · simp only [go_sem, ↓reduceIte, simprocAttr]
  generalize hLB : ABlk.loop false AExit.normal false 58 _ _ _ _ = LB
  obtain ⟨LB', b1, b2⟩ : ∃ LB', beginBlk LB = some LB' ∧ endBlk .normal LB' = some LB := by rw [← hLB]; exact ⟨_, rfl, rfl⟩
  have b4 : ∀ h : Heap, h.b[9]? = some LB → ∀ fr ms, afterRange 9 fr ms h = some (.normal, ⟨fr, h.put 9 .none, ms⟩) := fun h hh fr ms => by
    rw [← hLB] at hh; unfold afterRange; rw [hh]
  have hset : ∀ (s : List Int × Nat) es X, PM (FB d [] s ++ X) 4 es = FB d es s ++ X := fun s es X => rfl
  let C : Con d 0 5 4 7 10 9 (List Int × Nat) := {
    PF := fun s => FB d [] s ++ [.cells [.ref 5 0], .mark, LB]
    stp := fun s t => (fstF s t, true)
    Inv := fun k s => s.2 = k ∧ s.1.length = 3
    len := fun s => by simp [FB]
    hat := fun s => ⟨rfl, by simp [FB], by omega⟩
    bx := fun s => rfl
    ne := by omega
    rnd := by
      intro k s t E tb es hinv hk8 hl hv hke
      obtain ⟨best, cnt⟩ := s
      obtain ⟨i1, i2⟩ := hinv
      have i1 : cnt = k := i1
      have i2 : best.length = 3 := i2
      subst i1
      rw [hset]
      have hat : (⟨FB d es (best, cnt) ++ [.cells [.ref 5 0], .mark, LB] ++ NB 10 9 7 5 (arrOf t) E, tb⟩ : Heap).b[9]? = some LB := rfl
      have hat2 := hat.trans (congrArg some hLB.symm)
      rw [stepRound_eq tabX hat2]
      clear hat hat2
      obtain ⟨x0, x1, x2, ha⟩ := list3 (arrOf_len (t := t) (by omega))
      obtain ⟨y0, y1', y2, hb⟩ := list3 i2
      subst hb
      have hw : IntKind.i64.wrap ((cnt : Int) + 1) = (cnt : Int) + 1 := wrap_i64 (by omega)
      have hw1 : IntKind.i64.wrap 1 = 1 := wrap_i64 (by omega)
      have h3 : (fstF ([y0, y1', y2], cnt) t).1.length = 3 := by unfold fstF; simp only; split <;> simp [ha]
      refine ⟨es, [.cells (I (arrOf t))], [], hke, fun _ => ⟨rfl, h3⟩, ?_⟩
      rw [hset]
      simp only [fstF, ha]
      simp only [y1, Option.bind_some, roundK, NB, FB]
      by_cases c0 : cnt = 0
      · subst c0
        simp only [go_sem, ↓reduceIte, simprocAttr, turnBlk, b1, b2, isNormal, hw, hw1, true_or, eHc, eHs, I_c, I_nil]
        skip
      · have c0i : ((cnt : Int) == 0) = false := by simp; omega
        by_cases c1 : [x0, x1, x2] = [y0, y1', y2]
        · simp only [go_sem, ↓reduceIte, simprocAttr, turnBlk, b1, b2, isNormal, hw, c0, c0i, c1, false_or, or_true, eqCells3, eHc, eHs, aggBin, I_c, I_nil]
          skip
        · simp only [go_sem, ↓reduceIte, simprocAttr, turnBlk, b1, b2, isNormal, hw, c0, c0i, c1, false_or, eqCells3, eHc, eHs, aggBin, I_c, I_nil]
          skip }
  obtain ⟨t, ts, ht, hm⟩ := truths_cons ho k2
  have hdfs : dfs d 0 d.rates.length [] = t :: ts := by rw [dfs_all ho, bitsL_zero, ht]
  obtain ⟨es', F', k, x1, x2, x3, x4⟩ := c96 hd ho (by omega) C ([0, 0, 0], 0) ⟨rfl, rfl⟩ (ho.dfs_len 0) (by omega) (by omega) (by omega) es hke F
  simp only [C] at x4
  rw [hset, hset, hdfs, runC_all, fstF_all] at x4
  have htl := (hm t (by simp)).1
  have hlen := truthsL_len ho []
  rw [ht, List.length_cons] at hlen
  have hcase : (d.days = 1 ∧ ∃ a, t = [a]) ∨ (d.days = 2 ∧ ∃ a b, t = [a, b]) ∨ (d.days = 3 ∧ ∃ a b c, t = [a, b, c]) := by
    have hl3 : t.length = 1 ∨ t.length = 2 ∨ t.length = 3 := by omega
    rcases hl3 with h | h | h
    · match t, h with
      | [a], h => exact .inl ⟨by simp at htl; omega, a, rfl⟩
    · match t, h with
      | [a, b], h => exact .inr (.inl ⟨by simp at htl; omega, a, b, rfl⟩)
    · match t, h with
      | [a, b, c], h => exact .inr (.inr ⟨by simp at htl; omega, a, b, c, rfl⟩)
  rw [ht, v3]
  rcases hcase with ⟨hdd, a, rfl⟩ | ⟨hdd, a, b, rfl⟩ | ⟨hdd, a, b, c, rfl⟩
  all_goals
    simp only [arrOf, FB, eHc, eHs] at x4
    simp only [go_sem, ↓reduceIte, simprocAttr, I_c, I_nil, hdd] at x4
    simp only [go_sem, ↓reduceIte, simprocAttr, hdd, x4]
    rw [b4 _ rfl]
    simp only [go_sem, ↓reduceIte, simprocAttr, opMakeSlice, opCopy, hdd]
    generalize hcf : drawT _ _ _ = cf
    obtain rfl : cf = true := by rw [← hcf]; kernel_rfl
    generalize List.replicate _ ABlk.none = N
    generalize List.replicate _ false = M
    simp only [go_sem, ↓reduceIte, simprocAttr, opMakeSlice, opCopy, hdd]
    rfl
end Go.Proofs.YtiighcpimecehaaGreat.R8
end
section
namespace Go.Proofs.YtiighcpimecehaaGreat.R8
open Go.Proofs

def bndF (f : List Int → Int) (s : (Int × Int) × Bool) (t : List Int) : (Int × Int) × Bool := (if s.2 = true then (f t, f t) else joinS s.1 (f t), false)
theorem bndF_more (f : List Int → Int) : ∀ (l : List (List Int)) (s : Int × Int), l.foldl (bndF f) (s, false) = (l.foldl (fun s r => joinS s (f r)) s, false)
  | [], s => rfl
  | t :: l, s => by
    rw [List.foldl_cons, List.foldl_cons]
    have : bndF f (s, false) t = (joinS s (f t), false) := by unfold bndF; simp
    rw [this, bndF_more f l]
theorem bndF_all (f : List Int → Int) (l : List (List Int)) : (l.foldl (bndF f) ((0, 0), true)).1 = foldS f l := by
  cases l with
  | nil => rfl
  | cons t l =>
    rw [List.foldl_cons]
    have : bndF f ((0, 0), true) t = ((f t, f t), false) := by unfold bndF; simp
    rw [this, bndF_more]; rfl
theorem eqCells2 (a b x y : Int) : eqCells [0, 0] [.int .i64 a, .int .i64 b] [.int .i64 x, .int .i64 y] = some (decide ((a, b) = (x, y))) := by
  simp only [eqCells, if_true, Option.map_some]
  congr 1
  rw [Bool.eq_iff_iff]
  simp
theorem c68 {d : Ho} (hd : d.fits) (ho : d.Ok) {but : Nat} (hbut : but < 32) (r m : Nat) (B : List ABlk) (hB : HAt d but r m B) (g : Nat) (fst cap : List AV) (hu1 : underL (B.length + 1) fst = true) (hu2 : underL (B.length + 1) cap = true) (f : List Int → Int)
    (hof : ∀ (t : List Int) (es : List (Key × Int)) (X : List ABlk) (tb : List Bool), t.length = d.rates.length → (∀ v ∈ t, 1 ≤ v ∧ v ≤ 20) → KOk d es → ∃ es' F, KOk d es' ∧ callAV tabX (EW tabX) false (.clo g fst cap) [.agg (I (arrOf t))] ⟨PM B m es ++ X, tb⟩ = some (.int .i64 (f t), ⟨PM B m es' ++ X, tb ++ F⟩))
    (es : List (Key × Int)) (hk : KOk d es) (t : List Bool) :
    ∃ es' F, KOk d es' ∧ (EW tabX).call 73 [.ref r 0, .clo g fst cap] ⟨PM B m es, t⟩ = some (eSp (foldS f (dfs d but d.rates.length [])), ⟨PM B m es', t ++ F⟩) := by
  have hrl : r < B.length := (List.getElem?_eq_some_iff.1 hB.hr).1
  have hrd := ho.rd
  have hd3 := ho.d3
  have h64 := c64 r (PM B m es ++ [.cells [.clo g fst cap], .cells [.int .i64 0, .int .i64 0], .cells [.bool true]]) t (by simp; omega)
  rw [w_call _ fn_73 rfl]
  simp only [go_sem, ↓reduceIte, simprocAttr] at h64
  simp only [callAV_clo, List.append_assoc, List.cons_append, List.nil_append] at hof
  simp only [go_sem, ↓reduceIte, simprocAttr, h64, hu1, hu2]
  rw [w_range (gf := 138) (fst := []) (cap := [.ref (B.length + 3) 0])]
  rotate_left
  · simp only [go_sem, ↓reduceIte, simprocAttr]
  generalize hLB : ABlk.loop false AExit.normal false 73 _ _ _ _ = LB
  obtain ⟨LB', b1, b2⟩ : ∃ LB', beginBlk LB = some LB' ∧ endBlk .normal LB' = some LB := by rw [← hLB]; exact ⟨_, rfl, rfl⟩
  have b4 : ∀ h : Heap, h.b[B.length + 5]? = some LB → ∀ fr ms, afterRange (B.length + 5) fr ms h = some (.normal, ⟨fr, h.put (B.length + 5) .none, ms⟩) := fun h hh fr ms => by
    rw [← hLB] at hh; unfold afterRange; rw [hh]
  have hset : ∀ (X : List ABlk) es, PM (B ++ X) m es = PM B m es ++ X := fun X es => List.set_append_left _ _ hB.hm
  let C : Con d but r m (B.length + 3) (B.length + 6) (B.length + 5) ((Int × Int) × Bool) := {
    PF := fun s => B ++ [.cells [.clo g fst cap], .cells [.int .i64 s.1.1, .int .i64 s.1.2], .cells [.bool s.2], .cells [.ref r 0], .mark, LB]
    stp := fun s t => (bndF f s t, true)
    Inv := fun _ _ => True
    len := fun s => by simp
    hat := fun s => ⟨old hB.hr _, by simp; have := hB.hm; omega, hB.ne⟩
    bx := fun s => by simp only [go_sem, ↓reduceIte, simprocAttr]
    ne := fun e => by have := hB.hm; omega
    rnd := by
      intro k s t E tb es hinv hk8 hl hv hke
      obtain ⟨⟨lo, hi⟩, first⟩ := s
      rw [hset]
      have hat : (⟨PM B m es ++ [.cells [.clo g fst cap], .cells [.int .i64 lo, .int .i64 hi], .cells [.bool first], .cells [.ref r 0], .mark, LB] ++ NB (B.length + 6) (B.length + 5) (B.length + 3) r (arrOf t) E, tb⟩ : Heap).b[B.length + 5]? = some LB := by simp only [go_sem, ↓reduceIte, simprocAttr, NB]
      have hat2 := hat.trans (congrArg some hLB.symm)
      rw [stepRound_eq tabX hat2]
      clear hat hat2
      obtain ⟨x0, x1, x2, ha⟩ := list3 (arrOf_len (t := t) (by omega))
      obtain ⟨es', F, k1, hc⟩ := hof t es ([.cells [.clo g fst cap], .cells [.int .i64 lo, .int .i64 hi], .cells [.bool first], .cells [.ref r 0], .mark, LB'] ++ NB (B.length + 6) (B.length + 5) (B.length + 3) r (arrOf t) (E ++ [.cells (I (arrOf t))])) tb hl hv hke
      rw [ha] at hc
      simp only [go_sem, ↓reduceIte, simprocAttr, NB, I_c, I_nil] at hc
      cases first with
      | true =>
        refine ⟨es', [.cells (I (arrOf t)), .cells [.int .i64 (f t), .int .i64 (f t)]], F, k1, fun _ => trivial, ?_⟩
        rw [hset]
        simp only [bndF, ha]
        generalize f t = n at hc
        simp only [y1, Option.bind_some, roundK, NB]
        simp only [go_sem, ↓reduceIte, simprocAttr, turnBlk, b1, b2, isNormal, hc, eqCells2, aggBin, I_c, I_nil]
        skip
      | false =>
        refine ⟨es', [.cells (I (arrOf t)), .cells [.int .i64 (joinS (lo, hi) (f t)).1, .int .i64 (joinS (lo, hi) (f t)).2]], F, k1, fun _ => trivial, ?_⟩
        rw [hset]
        simp only [bndF, ha]
        generalize f t = n at hc
        by_cases hq : joinS (lo, hi) n = (lo, hi)
        · have hq' : ((if n < lo then n else lo, if hi < n then n else hi) = (lo, hi)) := hq
          simp only [y1, Option.bind_some, roundK, NB]
          simp only [go_sem, ↓reduceIte, simprocAttr, turnBlk, b1, b2, isNormal, hc, eqCells2, aggBin, I_c, I_nil, joinS, hq']
          have hq1 : (if n < lo then n else lo) = lo := congrArg Prod.fst hq'
          have hq2 : (if hi < n then n else hi) = hi := congrArg Prod.snd hq'
          rw [hq1, hq2]
        · have hq' : ¬ ((if n < lo then n else lo, if hi < n then n else hi) = (lo, hi)) := hq
          simp only [y1, Option.bind_some, roundK, NB]
          simp only [go_sem, ↓reduceIte, simprocAttr, turnBlk, b1, b2, isNormal, hc, eqCells2, aggBin, I_c, I_nil, joinS, hq']
          skip }
  obtain ⟨es', F, k, x1, x2, x3, x4⟩ := c96 hd ho hbut C ((0, 0), true) trivial (ho.dfs_len but) (by omega) (by omega) (by omega) es hk t
  simp only [C] at x4
  rw [hset, hset, runC_all, bndF_all] at x4
  simp only [go_sem, ↓reduceIte, simprocAttr] at x4
  refine ⟨es', F, x1, ?_⟩
  simp only [go_sem, ↓reduceIte, simprocAttr, x4]
  rw [b4 _ (by simp only [go_sem, ↓reduceIte, simprocAttr])]
  simp only [go_sem, ↓reduceIte, simprocAttr, eSp]
  skip
end Go.Proofs.YtiighcpimecehaaGreat.R8
end
section
namespace Go.Proofs.YtiighcpimecehaaGreat.R8
open Go.Proofs

theorem pairs1 (n below : Int) : pairsE [n, below] 1 = if inR n 0 (below - 1) = true then 0 else 4 := by
  have e : pairE [n, below] 0 = if out 0 (below - 1) n = true then 4 else 0 := rfl
  unfold pairsE firstBad
  rw [e, ← out_not]
  cases out 0 (below - 1) n with
  | true => simp
  | false => simp [firstBad]
theorem enter_index {d : Ho} (n below : Int) : enterE d 0 (pairsE [n, below] 1) = knownE d (indexE d n below) := by
  rw [enterE_known, pairs1]
  unfold indexE
  rfl
theorem c69 (g : Nat) (hg : g = 99 ∨ g = 77) (R : List Int) (hR : R.length = 3) (j : Nat) (v : Int) (hv : R[j]? = some v) (b : Nat) (B : List ABlk) (t : List Bool) (hB : B[b]? = some (.cells [.int .i64 j])) :
    (EW tabX).call g [.agg (I R), .ref b 0] ⟨B, t⟩ = some (.int .i64 v, ⟨B, t⟩) := by
  have oB := old hB
  have hj : j < 3 := by have := (List.getElem?_eq_some_iff.1 hv).1; omega
  obtain ⟨x0, x1, x2, rfl⟩ := list3 hR
  have hc : j = 0 ∨ j = 1 ∨ j = 2 := by omega
  rcases hg with rfl | rfl
  · rw [w_call _ fn_99 rfl]
    rcases hc with rfl | rfl | rfl
    all_goals
      simp only [List.getElem?_cons_zero, List.getElem?_cons_succ, Option.some.injEq] at hv
      subst hv
      simp only [go_sem, ↓reduceIte, simprocAttr, oB]
  · rw [w_call _ fn_77 rfl]
    rcases hc with rfl | rfl | rfl
    all_goals
      simp only [List.getElem?_cons_zero, List.getElem?_cons_succ, Option.some.injEq] at hv
      subst hv
      simp only [go_sem, ↓reduceIte, simprocAttr, oB]
theorem arrOf_get {t : List Int} {j : Nat} (hj : j < t.length) : (arrOf t)[j]? = some (t.getD j 0) := by
  unfold arrOf
  rw [List.getElem?_append_left hj, List.getElem?_eq_getElem hj]
  simp [hj]
theorem rate_of {d : Ho} (g : Nat) (hg : g = 99 ∨ g = 77) (hrr : retRef tabX g = false) (hr3 : d.rates.length ≤ 3) (j : Nat) (hj : j < d.rates.length) (m b : Nat) (hbm : b ≠ m) (B : List ABlk) (hB : B[b]? = some (.cells [.int .i64 j])) (t : List Int) (es : List (Key × Int)) (X : List ABlk) (tb : List Bool) (ht : t.length = d.rates.length) (hk : KOk d es) :
    ∃ es' F, KOk d es' ∧ callAV tabX (EW tabX) false (.clo g [] [.ref b 0]) [.agg (I (arrOf t))] ⟨PM B m es ++ X, tb⟩ = some (.int .i64 (t.getD j 0), ⟨PM B m es' ++ X, tb ++ F⟩) := by
  refine ⟨es, [], hk, ?_⟩
  have hb : (PM B m es ++ X)[b]? = some (.cells [.int .i64 j]) := by
    refine old ?_ X
    rw [List.getElem?_set_ne (fun e => hbm e.symm)]; exact hB
  have := c69 g hg (arrOf t) (arrOf_len (by omega)) j (t.getD j 0) (arrOf_get (by omega)) b (PM B m es ++ X) tb hb
  simp only [go_sem, ↓reduceIte, simprocAttr, hrr] at this ⊢
  exact this
def H21 (d : Ho) (day : Int) : List ABlk := [.cells (eHc d), .cells [.int .i64 day], .cells [.int .i64 0, .int .i64 0], .none, .none, .none, .none, .none, .none, .none, .none, .none, .none, .none, .none, .cells [.lst 1 1 [.int .i64 day, .int .i64 d.days]]]
theorem c21 (d : Ho) (hd : d.fits) (day : Int) (h : Heap) : callPure (EW tabX) 59 [eH d, .int .i64 day] h = some (vS (rateV d day), h) := by
  have hcl := eH_clean d
  have h67 := c67 [day, d.days] 1 1 (List.take 15 (H21 d day)) (List.replicate 12 false)
  obtain ⟨hno, hyes⟩ := c62 d hd 0 (by omega) (pairsE [day, d.days] 1) (.clo 106 [] [.ref 15 0]) (H21 d day) (List.replicate 12 false) (fun hc => by
    have ho := ok_of_E hc
    have := c98 [day, d.days] 1 rfl (by omega) (fun k hk => by
      obtain rfl : k = 0 := by omega
      have := ho.d1
      have := ho.d3
      show -_ ≤ d.days ∧ d.days ≤ _
      omega) 1 15 (H21 d day ++ [.cells (eHc d)]) (List.replicate 12 false) rfl
    simp only [go_sem, ↓reduceIte, simprocAttr] at this ⊢
    exact this)
  rw [enter_index] at hno hyes
  rw [callPure_eq, w_call _ fn_59 rfl]
  unfold rateV
  by_cases h0 : knownE d (indexE d day d.days) = 0
  rotate_left
  · rw [if_neg h0]
    obtain ⟨F, hc⟩ := hno h0
    have hne : (knownE d (indexE d day d.days) != 0) = true := by simpa using h0
    simp only [go_sem, ↓reduceIte, simprocAttr, eH, eHc, H21, I_c, I_nil] at hc h67
    simp only [go_sem, ↓reduceIte, simprocAttr, eH, eHc, List.size_toArray, h67, hc]
    generalize hcf : okFam _ _ _ = cf
    obtain rfl : cf = true := by rw [← hcf]; kernel_rfl
    simp only [go_sem, ↓reduceIte, simprocAttr, hne, vS, eSp]
  · rw [if_pos h0]
    obtain ⟨es, F, hke, hc⟩ := hyes h0
    obtain ⟨k1, k2⟩ := knownE_zero h0
    obtain ⟨k3, k4, k5⟩ := indexE_zero k1
    have ho := ok_of_E k3
    have hrd := ho.rd
    obtain ⟨j, rfl⟩ := Int.eq_ofNat_of_zero_le k4
    obtain ⟨es', F', x1, x2⟩ := c68 hd ho (but := 0) (by omega) 19 18 (HE d 0 (H21 d j)) (HE_at d 0 (H21 d j)) 99 [] [.ref 1 0] rfl rfl (fun r => r.getD j 0)
      (fun t es X tb ht hv hk => rate_of 99 (.inl rfl) rr_99 (by have := ho.d3; omega) j (by omega) 18 1 (by omega) (HE d 0 (H21 d j)) rfl t es X tb ht hk) es hke (List.replicate 12 false ++ F)
    have hdfs : dfs d 0 d.rates.length [] = truthsL d [] := by rw [dfs_all ho, bitsL_zero]
    rw [hdfs] at x2
    simp only [go_sem, ↓reduceIte, simprocAttr, eH, eHc, eHs, HE, H21, I_c, I_nil] at hc h67 x2
    simp only [go_sem, ↓reduceIte, simprocAttr, eH, eHc, List.size_toArray, h67, hc]
    generalize hcf : okFam _ _ _ = cf
    obtain rfl : cf = true := by rw [← hcf]; kernel_rfl
    simp only [go_sem, ↓reduceIte, simprocAttr, x2, vS, eSp]
    skip
end Go.Proofs.YtiighcpimecehaaGreat.R8
end
section
namespace Go.Proofs.YtiighcpimecehaaGreat.R8
open Go.Proofs

theorem pairs2 (a b c e : Int) : pairsE [a, b, c, e] 2 = if (inR a 0 (b - 1) && inR c 0 (e - 1)) = true then 0 else 4 := by
  have e0 : pairE [a, b, c, e] 0 = if out 0 (b - 1) a = true then 4 else 0 := rfl
  have e1 : pairE [a, b, c, e] 1 = if out 0 (e - 1) c = true then 4 else 0 := rfl
  unfold pairsE firstBad
  rw [e0, ← out_not, ← out_not]
  cases out 0 (b - 1) a with
  | true => simp
  | false =>
    unfold firstBad
    rw [e1]
    cases out 0 (e - 1) c with
    | true => simp
    | false => simp [firstBad]
def worthQ (d : Ho) (who day near : Int) : Int := if pairsE [who, d.agents.length, day, d.days] 2 = 0 then (if out 0 99 near = true then 7 else 0) else pairsE [who, d.agents.length, day, d.days] 2
theorem enter_worth {d : Ho} (who day near : Int) : enterE d 0 (worthQ d who day near) = worthE d who day near := by
  rw [enterE_known]
  unfold worthE worthQ penceE indexE
  rw [pairs2, ← notin near 0 99]
  by_cases h0 : checkE d = 0
  · simp only [h0, if_true]
    cases inR who 0 ((d.agents.length : Int) - 1) <;> cases inR day 0 (d.days - 1) <;> cases inR near 0 99 <;> simp
  · simp only [h0, if_false]
theorem c72 (d : Ho) (hd : d.fits) (ho : d.Ok) (who day near : Int) (B : List ABlk) (t : List Bool) (b0 b1 b2 b3 : Nat) (h0 : B[b0]? = some (.cells (eHc d))) (h1 : B[b1]? = some (.cells [.int .i64 who])) (h2 : B[b2]? = some (.cells [.int .i64 day])) (h3 : B[b3]? = some (.cells [.int .i64 near])) :
    (EW tabX).call 70 [.ref b1 0, .ref b0 0, .ref b2 0, .ref b3 0] ⟨B, t⟩ = some (.int .i64 (worthQ d who day near), ⟨B, t⟩) := by
  have h67 := c67 [who, d.agents.length, day, d.days] 1 1 B t
  have h98 := c98 [who, d.agents.length, day, d.days] 2 rfl (by omega) (fun k hk => by
    have := ho.d1
    have := ho.d3
    have := ho.a3
    rcases (show k = 0 ∨ k = 1 by omega) with rfl | rfl
    · show -_ ≤ (d.agents.length : Int) ∧ (d.agents.length : Int) ≤ _
      omega
    · show -_ ≤ d.days ∧ d.days ≤ _
      omega) 1 B.length (B ++ [.cells [.lst 1 1 (I [who, d.agents.length, day, d.days])]]) t (by simp)
  have o0 := old h0
  have o1 := old h1
  have o2 := old h2
  have o3 := old h3
  simp only [eHc] at h0 o0
  rw [w_call _ fn_70 rfl]
  unfold worthQ
  simp only [I_c, I_nil] at h67 h98
  by_cases hp : pairsE [who, d.agents.length, day, d.days] 2 = 0
  · cases hn : out 0 99 near with
    | true => simp only [go_sem, ↓reduceIte, simprocAttr, h0, h1, h2, h3, o0, o1, o2, o3, h67, h98, hp, c49_1, hn]
    | false => simp only [go_sem, ↓reduceIte, simprocAttr, h0, h1, h2, h3, o0, o1, o2, o3, h67, h98, hp, c49_1, hn]
  · have hpb : (pairsE [who, d.agents.length, day, d.days] 2 == 0) = false := by simpa using hp
    simp only [go_sem, ↓reduceIte, simprocAttr, h0, h1, h2, h3, o0, o1, o2, o3, h67, h98, hp, hpb]
theorem c73 (d : Ho) (hd : d.fits) (ho : d.Ok) (but : Int) {r m : Nat} {P : List ABlk} (hP : HAt d but r m P) (i : Nat) (hi : i < d.agents.length) (j : Nat) (near : Int) (hn : 0 ≤ near ∧ near ≤ 99) (R : List Int) (hR : R.length = 3) (v : Int) (hv : R[j]? = some v) (hv2 : 0 ≤ v ∧ v ≤ 20)
    (b1 b2 b3 b4 : Nat) (h1 : ∀ x X, (P.set m x ++ X)[b1]? = some (.cells [.ref r 0])) (h2 : ∀ x X, (P.set m x ++ X)[b2]? = some (.cells [.int .i64 i])) (h3 : ∀ x X, (P.set m x ++ X)[b3]? = some (.cells [.int .i64 near])) (h4 : ∀ x X, (P.set m x ++ X)[b4]? = some (.cells [.int .i64 j]))
    (X : List ABlk) (t : List Bool) (es : List (Key × Int)) (hk : KOk d es) :
    ∃ es' F, KOk d es' ∧ (EW tabX).call 74 [.agg (I R), .ref b1 0, .ref b2 0, .ref b3 0, .ref b4 0] ⟨PM P m es ++ X, t⟩ = some (.int .i64 (payR (d.ag0 i) near v), ⟨PM P m es' ++ X, t ++ F⟩) := by
  have hj : j < 3 := by have := (List.getElem?_eq_some_iff.1 hv).1; omega
  have hga := List.getElem?_eq_getElem hi
  have e1 : d.ag0 (i : Int) = d.agents[i] := by simp [Ho.ag0, hi]
  have key := fun X t => c74x d hd ho but hP i d.agents[i] hga near v hn hv2 X t es hk
  rw [e1, w_call _ fn_74 rfl]
  obtain ⟨x0, x1, x2, rfl⟩ := list3 hR
  have hc : j = 0 ∨ j = 1 ∨ j = 2 := by omega
  rcases hc with rfl | rfl | rfl
  all_goals
    simp only [List.getElem?_cons_zero, List.getElem?_cons_succ, Option.some.injEq] at hv
    subst hv
    simp only [go_sem, ↓reduceIte, simprocAttr, h1, h2, h3, h4]
    generalize hcf : drawT _ _ _ = cf
    obtain rfl : cf = true := by rw [← hcf]; kernel_rfl
    generalize List.replicate _ ABlk.none = N
    generalize List.replicate _ false = M
    simp only [go_sem, ↓reduceIte, simprocAttr, h1, h2, h3, h4]
    generalize hbb : boundAll _ _ _ = bb
    obtain rfl : bb = true := by rw [← hbb]; kernel_rfl
    obtain ⟨es', F, k1, k2⟩ := key (X ++ (ABlk.cells (I [x0, x1, x2]) :: N)) (t ++ M)
    simp only [go_sem, ↓reduceIte, simprocAttr] at k2
    refine ⟨es', M ++ F, k1, ?_⟩
    simp only [go_sem, ↓reduceIte, simprocAttr, k2]
def H24 (d : Ho) (who day near : Int) : List ABlk := [.cells (eHc d), .cells [.int .i64 who], .cells [.int .i64 day], .cells [.int .i64 near], .cells [.int .i64 0, .int .i64 0]]
theorem c24 (d : Ho) (hd : d.fits) (who day near : Int) (h : Heap) : callPure (EW tabX) 23 [eH d, .int .i64 who, .int .i64 day, .int .i64 near] h = some (vS (worthV d who day near), h) := by
  have hcl := eH_clean d
  obtain ⟨hno, hyes⟩ := c62 d hd 0 (by omega) (worthQ d who day near) (.clo 70 [] [.ref 1 0, .ref 0 0, .ref 2 0, .ref 3 0]) (H24 d who day near) [] (fun hc => by
    have ho := ok_of_E hc
    have := c72 d hd ho who day near (H24 d who day near ++ [.cells (eHc d)]) [] 0 1 2 3 rfl rfl rfl rfl
    simp only [go_sem, ↓reduceIte, simprocAttr] at this ⊢
    exact this)
  rw [enter_worth] at hno hyes
  rw [callPure_eq, w_call _ fn_23 rfl]
  unfold worthV
  by_cases h0 : worthE d who day near = 0
  rotate_left
  · rw [if_neg h0]
    obtain ⟨F, hc⟩ := hno h0
    have hne : (worthE d who day near != 0) = true := by simpa using h0
    simp only [go_sem, ↓reduceIte, simprocAttr, eH, eHc, H24] at hc
    simp only [go_sem, ↓reduceIte, simprocAttr, eH, eHc, hc, hne, vS, eSp]
  · rw [if_pos h0]
    obtain ⟨es, F, hke, hc⟩ := hyes h0
    obtain ⟨k3, kw, ky, kn, kt⟩ := worthE_zero h0
    have ho := ok_of_E k3
    have hrd := ho.rd
    obtain ⟨i, rfl⟩ := Int.eq_ofNat_of_zero_le kw.1
    obtain ⟨j, rfl⟩ := Int.eq_ofNat_of_zero_le ky.1
    have hP : HAt d (0 : Nat) 8 7 (HE d 0 (H24 d i j near) ++ [.cells [.ref 8 0]]) := ⟨rfl, by simp [HE, H24], by omega⟩
    have hset : ∀ es X, PM (HE d 0 (H24 d i j near) ++ X) 7 es = PM (HE d 0 (H24 d i j near)) 7 es ++ X := fun es X => List.set_append_left _ _ (by simp [HE, H24])
    obtain ⟨es', F', x1, x2⟩ := c68 hd ho (but := 0) (by omega) 8 7 (HE d 0 (H24 d i j near) ++ [.cells [.ref 8 0]]) hP 74 [] [.ref 9 0, .ref 1 0, .ref 3 0, .ref 2 0] rfl rfl (payAt d i j near)
      (fun t es X tb ht hv hk => by
        have hjl : j < t.length := by omega
        have hb := hv _ (List.getElem_mem hjl)
        have hg : t.getD j 0 = t[j] := by simp [hjl]
        obtain ⟨es', F, y1, y2⟩ := c73 d hd ho (0 : Nat) hP i (by omega) j near kn (arrOf t) (arrOf_len (by have := ho.d3; omega)) (t.getD j 0) (arrOf_get hjl) (by rw [hg]; omega) 9 1 3 2 (fun x X => rfl) (fun x X => rfl) (fun x X => rfl) (fun x X => rfl) X tb es hk
        refine ⟨es', F, y1, ?_⟩
        simp only [go_sem, ↓reduceIte, simprocAttr] at y2 ⊢
        exact y2) es hke ([] ++ F)
    have hdfs : dfs d 0 d.rates.length [] = truthsL d [] := by rw [dfs_all ho, bitsL_zero]
    rw [hdfs, hset, hset] at x2
    simp only [go_sem, ↓reduceIte, simprocAttr, eH, eHc, eHs, HE, H24] at hc x2
    simp only [go_sem, ↓reduceIte, simprocAttr, eH, eHc, hc]
    simp only [go_sem, ↓reduceIte, simprocAttr, x2, vS, eSp]
    skip
end Go.Proofs.YtiighcpimecehaaGreat.R8
end
section
namespace Go.Proofs.YtiighcpimecehaaGreat.R8
open Go.Proofs

theorem c77 (d : Ho) (hd : d.fits) (ho : d.Ok) (but : Int) {r m : Nat} {P : List ABlk} (hP : HAt d but r m P) (who : Int) (tr : List Int) (hr : tr.length = d.rates.length ∧ ∀ n ∈ tr, 1 ≤ n ∧ n ≤ 20)
    (b1 b2 b3 : Nat) (h1 : ∀ x X, (P.set m x ++ X)[b1]? = some (.cells (eHc d))) (h2 : ∀ x X, (P.set m x ++ X)[b2]? = some (.cells [.int .i64 who])) (h3 : ∀ x X, (P.set m x ++ X)[b3]? = some (.cells [.ref r 0]))
    (X : List ABlk) (t : List Bool) (es : List (Key × Int)) (hk : KOk d es) :
    ∃ es' F, KOk d es' ∧ (EW tabX).call 105 [.agg (I (arrOf tr)), .ref b1 0, .ref b2 0, .ref b3 0] ⟨PM P m es ++ X, t⟩ = some (.int .i64 (sumAll d who tr), ⟨PM P m es' ++ X, t ++ F⟩) := by
  have he5 := ho.e5
  have hrd := ho.rd
  have hd3 := ho.d3
  have hal := arrOf_len (t := tr) (by omega)
  have hay := fun (j : Nat) (hj : j < tr.length) => arrOf_get (t := tr) hj
  generalize arrOf tr = R at hal hay
  obtain ⟨x0, x1, x2, rfl⟩ := list3 hal
  simp only [eHc] at h1
  rw [w_call _ fn_105 rfl]
  simp only [go_sem, ↓reduceIte, simprocAttr, h1]
  generalize hx : (EW tabX).code 105 none (Code.loop _) _ = x
  refine w_rounds_sk hx (fun k (s : List (Key × Int) × List ABlk × List Bool) => [(5, .int .i64 (sumTo d who tr k)), (11, .int .i64 k)]) (fun s => ⟨PM P m s.1 ++ (X ++ (.cells (I [x0, x1, x2]) :: s.2.1)), t ++ s.2.2⟩) (fun k s => KOk d s.1) d.entries.length (.exit 0) (fun s => [(5, .int .i64 (sumTo d who tr d.entries.length)), (11, .int .i64 d.entries.length)]) rfl (es, [], []) ?_ ?_ hk ?_ ?_ ?_
  · simp only [go_sem, ↓reduceIte, simprocAttr, sumTo]
  · simp only [go_sem, ↓reduceIte, simprocAttr]
  · intro k s hk hR
    obtain ⟨es1, J, F⟩ := s
    have hR : KOk d es1 := hR
    have hx := List.getElem?_eq_getElem hk
    have hki : (k : Int) < d.entries.length := by omega
    have hz := hd.ze (by intro e; rw [e] at hk; simp at hk)
    have hbd := sumTo_bd ho who hr k (by omega)
    obtain ⟨i, j, a, v, hi, hj, ga, gr, e, b, _⟩ := pay_at ho (List.getElem_mem hk) hr
    have hst : sumTo d who tr (k + 1) = sumTo d who tr k + if d.entries[k].agent = who then payAt d who d.entries[k].day d.entries[k].near tr else 0 := by rw [← en0_at d hk]; rfl
    have hvj : [x0, x1, x2][d.entries[k].day.toNat]? = some v := by
      have hjl : j < tr.length := (List.getElem?_eq_some_iff.1 gr).1
      rw [hj, cast_toNat, hay j hjl]
      congr 1
      have := (List.getElem?_eq_some_iff.1 gr).2
      simp [hjl, this]
    have hvb : 1 ≤ v ∧ v ≤ 20 := hr.2 v (List.mem_of_getElem? gr)
    obtain ⟨es2, F2, k1, k2⟩ := c78x d hd ho but hP d.entries[k] (List.getElem_mem hk) [x0, x1, x2] rfl v hvj (by omega) (X ++ (.cells (I [x0, x1, x2]) :: (J ++ [bEn d.entries[k]]))) (t ++ F) es1 hR
    have e2 : d.ag0 d.entries[k].agent = a := by
      rw [hi]; simp only [Ho.ag0, cast_toNat]
      have := ga
      simp [ga]
    rw [e2] at k2
    by_cases hw : d.entries[k].agent = who
    · rw [if_pos hw] at hst
      rw [hw] at e
      rw [e] at hst
      refine ⟨(es2, J ++ [bEn d.entries[k]], F ++ F2), ?_, k1⟩
      rw [hst]
      have hw3 : who = (i : Int) := by omega
      subst hw3
      simp only [go_sem, ↓reduceIte, simprocAttr, eEn, bEn, I_c, I_nil, hi] at k2
      simp (disch := omega) only [go_sem, ↓reduceIte, simprocAttr, h1, h2, h3, hki, hx, eEn, bEn, hz, hi, k2, wrap_i64, I_c, I_nil]
    · rw [if_neg hw] at hst
      have hw2 : (d.entries[k].agent == who) = false := by simpa using hw
      refine ⟨(es1, J ++ [bEn d.entries[k]], F), ?_, hR⟩
      rw [hst]
      simp (disch := omega) only [go_sem, ↓reduceIte, simprocAttr, h1, h2, h3, hki, hx, eEn, bEn, hz, hw2, wrap_i64, Int.add_zero, I_c, I_nil]
  · intro s hR
    simp only [go_sem, ↓reduceIte, simprocAttr, Int.lt_irrefl]
  · intro s e0 hR
    subst e0
    obtain ⟨es', J, F⟩ := s
    refine ⟨es', F, hR, ?_⟩
    simp only [go_sem, ↓reduceIte, simprocAttr, sumAll]
def H26 (d : Ho) (who : Int) (z : ABlk) : List ABlk := [.cells (eHc d), .cells [.int .i64 who], .cells [.int .i64 0, .int .i64 0], .none, .none, z, .none, .none, .none, .none, .none, .none, .none, .none, .none, .none, .none, .cells [.lst 1 1 [.int .i64 who, .int .i64 d.agents.length]]]
theorem c26 (d : Ho) (hd : d.fits) (who : Int) (h : Heap) : callPure (EW tabX) 62 [eH d, .int .i64 who] h = some (vS (paidV d who), h) := by
  have hcl := eH_clean d
  have hla := hd.la
  have h67 := c67 [who, d.agents.length] 1 1 (List.take 17 (H26 d who .none)) (List.replicate 14 false)
  obtain ⟨hno, hyes⟩ := c62 d hd 0 (by omega) (pairsE [who, d.agents.length] 1) (.clo 106 [] [.ref 17 0]) (H26 d who .none) (List.replicate 14 false) (fun hc => by
    have ho := ok_of_E hc
    have := c98 [who, d.agents.length] 1 rfl (by omega) (fun k hk => by
      obtain rfl : k = 0 := by omega
      have := ho.a3
      show -_ ≤ (d.agents.length : Int) ∧ (d.agents.length : Int) ≤ _
      omega) 1 17 (H26 d who .none ++ [.cells (eHc d)]) (List.replicate 14 false) rfl
    simp only [go_sem, ↓reduceIte, simprocAttr] at this ⊢
    exact this)
  rw [enter_index] at hno hyes
  rw [callPure_eq, w_call _ fn_62 rfl]
  unfold paidV
  by_cases h0 : knownE d (indexE d who d.agents.length) = 0
  rotate_left
  · rw [if_neg h0]
    obtain ⟨F, hc⟩ := hno h0
    have hne : (knownE d (indexE d who d.agents.length) != 0) = true := by simpa using h0
    simp only [go_sem, ↓reduceIte, simprocAttr, eH, eHc, H26, I_c, I_nil] at hc h67
    simp only [go_sem, ↓reduceIte, simprocAttr, eH, eHc, List.size_toArray, h67, hc]
    generalize hcf : okFam _ _ _ = cf
    obtain rfl : cf = true := by rw [← hcf]; kernel_rfl
    simp only [go_sem, ↓reduceIte, simprocAttr, hne, vS, eSp]
  · rw [if_pos h0]
    obtain ⟨es, F, hke, hc⟩ := hyes h0
    obtain ⟨k1, k2⟩ := knownE_zero h0
    obtain ⟨k3, k4, k5⟩ := indexE_zero k1
    have ho := ok_of_E k3
    have hrd := ho.rd
    have hP : HAt d (0 : Nat) 21 20 (HE d 0 (H26 d who (.cells [.ref 21 0]))) := HE_at d 0 (H26 d who (.cells [.ref 21 0]))
    obtain ⟨es', F', x1, x2⟩ := c68 hd ho (but := 0) (by omega) 21 20 (HE d 0 (H26 d who (.cells [.ref 21 0]))) hP 105 [] [.ref 0 0, .ref 1 0, .ref 5 0] rfl rfl (sumAll d who)
      (fun t es X tb ht hv hk => by
        obtain ⟨es', F, y1, y2⟩ := c77 d hd ho (0 : Nat) hP who t ⟨ht, hv⟩ 0 1 5 (fun x X => rfl) (fun x X => rfl) (fun x X => rfl) X tb es hk
        refine ⟨es', F, y1, ?_⟩
        simp only [go_sem, ↓reduceIte, simprocAttr] at y2 ⊢
        exact y2) es hke (List.replicate 14 false ++ F)
    have hdfs : dfs d 0 d.rates.length [] = truthsL d [] := by rw [dfs_all ho, bitsL_zero]
    rw [hdfs] at x2
    simp only [go_sem, ↓reduceIte, simprocAttr, eH, eHc, eHs, HE, H26, I_c, I_nil] at hc h67 x2
    simp only [go_sem, ↓reduceIte, simprocAttr, eH, eHc, List.size_toArray, h67, hc]
    generalize hcf : okFam _ _ _ = cf
    obtain rfl : cf = true := by rw [← hcf]; kernel_rfl
    simp only [go_sem, ↓reduceIte, simprocAttr, x2, vS, eSp]
    skip
end Go.Proofs.YtiighcpimecehaaGreat.R8
end
section
namespace Go.Proofs.YtiighcpimecehaaGreat.R8
open Go.Proofs

def settled (some all : Int) : Int := if some = all then 1 else if some = 0 then 2 else 0
def agreeE (h : Ho) (n : Int) : Int := if indexE h n h.entries.length = 0 then (if (h.en0 n.toNat).far = -1 then 2 else 0) else indexE h n h.entries.length
def agreeN (h : Ho) (n : Int) : Int := (((truthsL h [n]).filter fun r => agreesB h (h.en0 n.toNat) r).length : Int)
def agreeV (h : Ho) (n : Int) : Int × Int := if agreeE h n = 0 then (if truthsL h [n] = [] then (0, 8) else (settled (agreeN h n) (truthsL h [n]).length, 0)) else (0, agreeE h n)
def v2 (x : Int × Int) : AV := .tup [.int .i64 x.1, .int .i64 x.2]
end Go.Proofs.YtiighcpimecehaaGreat.R8
end
section
namespace Go.Proofs.YtiighcpimecehaaGreat.R8
open Go.Proofs

def leastC (i : Nat) (t : List Int) : Int := if i = 0 then 0 else t.getD (i - 1) 0 + 1
def extC (i : Nat) (t : List Int) (k : Nat) : List (List Int) := (List.range k).map fun (j : Nat) => t ++ [leastC i t + (j : Int)]
def widthC (b i : Nat) (t : List Int) : Nat := ((b : Int) - leastC i t).toNat
def choicesL (b : Nat) : Nat → List (List Int)
  | 0 => [[]]
  | i + 1 => (choicesL b i).flatMap fun t => extC i t (widthC b i t)
theorem vI_cleanL (l : List (List Int)) : cleanL (l.map vI) = some (l.map vI) := cleanL_map (fun x => vI_clean x) l
theorem vI_get (l : List (List Int)) (k : Nat) : (l.map vI)[k]? = (l[k]?).map vI := by simp
theorem vI_underL (n : Nat) (l : List (List Int)) : underL n (l.map vI) = true := underL_map (fun x => vI_under n x) l
theorem vI_var (l : List (List Int)) : (l.map vI).all AV.var = true := all_map (fun _ => rfl) l
attribute [go_sem] vI_cleanL vI_get vI_underL vI_var
end Go.Proofs.YtiighcpimecehaaGreat.R8
end
section
namespace Go.Proofs.YtiighcpimecehaaGreat.R8
open Go.Proofs

def someB (h : Ho) (but : List Int) : Bool := decide (0 < (truthsL h but).length)
def hitC (h : Ho) (l : List (List Int)) (i : Nat) : Int := if someB h (l.getD i []) = true then 1 else 0
def hitK (h : Ho) (k : Nat) : Int := match firstBad (hitC h (choicesL h.entries.length k)) 0 (choicesL h.entries.length k).length with | some _ => 1 | none => 0
def wrongR (h : Ho) : List Int × Int := match firstBad (hitK h) 0 (h.entries.length + 1) with
  | some k => match firstBad (hitC h (choicesL h.entries.length k)) 0 (choicesL h.entries.length k).length with
    | some i => ((choicesL h.entries.length k).getD i [], 0)
    | none => ([], 9)
  | none => ([], 9)
def wrongV (h : Ho) : List Int × Int := if checkE h = 0 then wrongR h else ([], checkE h)
def vL (x : List Int × Int) : AV := .tup [vI x.1, .int .i64 x.2]
def lowP (h : Ho) (who day near : Int) : Int := (foldS (payAt h who day near) (truthsL h [])).1
def hitW (h : Ho) (day far : Int) (n w : Nat) : Int := if far ≤ lowP h w day n then 1 else 0
def hitN (h : Ho) (day far : Int) (n : Nat) : Int := match firstBad (hitW h day far n) 0 h.agents.length with | some _ => 1 | none => 0
def sendR (h : Ho) (day far : Int) : Int × Int × Int := match firstBad (hitN h day far) 0 100 with
  | some n => match firstBad (hitW h day far n) 0 h.agents.length with
    | some w => ((w : Int), (n : Int), 0)
    | none => (0, 0, 9)
  | none => (0, 0, 9)
def sendE (h : Ho) (day far : Int) : Int := knownE h (penceE far 198 (indexE h day h.days))
def sendV (h : Ho) (day far : Int) : Int × Int × Int := if sendE h day far = 0 then sendR h day far else (0, 0, sendE h day far)
end Go.Proofs.YtiighcpimecehaaGreat.R8
end
section
namespace Go.Proofs.YtiighcpimecehaaGreat.R8
open Go.Proofs

theorem payN_le {a : Ag} (near : Int) {r s : Int} (h : r ≤ s) : payN a near r ≤ payN a near s := by
  unfold payN
  exact Int.mul_le_mul_of_nonneg_left h (by split <;> omega)
theorem payR_le {a : Ag} (near : Int) {r s : Int} (h : r ≤ s) : payR a near r ≤ payR a near s := by
  have := payN_le (a := a) near h
  unfold payR
  split
  · omega
  · split <;> omega
theorem joinS_mono {g : Int → Int} (hg : ∀ x y, x ≤ y → g x ≤ g y) (u v x : Int) (w : Int) : (joinS (g u, w) (g x)).1 = g (joinS (u, v) x).1 := by
  unfold joinS
  simp only
  by_cases h : x < u
  · rw [if_pos h]
    have := hg x u (by omega)
    split
    · rfl
    · omega
  · rw [if_neg h]
    have := hg u x (by omega)
    rw [if_neg (by omega)]
theorem fold_mono {g : Int → Int} (hg : ∀ x y, x ≤ y → g x ≤ g y) (f : List Int → Int) : ∀ (l : List (List Int)) (s s' : Int × Int), s'.1 = g s.1 → (l.foldl (fun s r => joinS s (g (f r))) s').1 = g (l.foldl (fun s r => joinS s (f r)) s).1
  | [], s, s', h => h
  | t :: l, s, s', h => by
    rw [List.foldl_cons, List.foldl_cons]
    refine fold_mono hg f l _ _ ?_
    have := joinS_mono hg s.1 s.2 (f t) s'.2
    rw [← h] at this
    exact this
theorem low_pay {d : Ho} (hne : truthsL d [] ≠ []) (w day near : Int) : lowP d w day near = payR (d.ag0 w) near (foldS (fun r => r.getD day.toNat 0) (truthsL d [])).1 := by
  unfold lowP payAt foldS
  cases h : truthsL d [] with
  | nil => exact absurd h hne
  | cons t ts => exact fold_mono (g := fun n => payR (d.ag0 w) near n) (fun x y hxy => payR_le near hxy) (fun r => r.getD day.toNat 0) ts _ _ rfl
theorem fold_low {f : List Int → Int} {m : Int} : ∀ (l : List (List Int)) (s : Int × Int), m ≤ s.1 → (∀ r ∈ l, m ≤ f r) → m ≤ (l.foldl (fun s r => joinS s (f r)) s).1 ∧ (l.foldl (fun s r => joinS s (f r)) s).1 ≤ s.1
  | [], s, h, _ => ⟨h, Int.le_refl _⟩
  | t :: l, s, h, hm => by
    rw [List.foldl_cons]
    have h1 : m ≤ (joinS s (f t)).1 ∧ (joinS s (f t)).1 ≤ s.1 := by
      have := hm t (by simp)
      unfold joinS; simp only; split <;> omega
    have := fold_low l (joinS s (f t)) h1.1 (fun r hr => hm r (by simp [hr]))
    omega
theorem low_bd {d : Ho} (ho : d.Ok) (hne : truthsL d [] ≠ []) {j : Nat} (hj : j < d.rates.length) : 1 ≤ (foldS (fun r => r.getD j 0) (truthsL d [])).1 ∧ (foldS (fun r => r.getD j 0) (truthsL d [])).1 ≤ 20 := by
  obtain ⟨t, ts, ht, hm⟩ := truths_cons ho hne
  rw [ht]
  have key : ∀ r ∈ t :: ts, 1 ≤ r.getD j 0 ∧ r.getD j 0 ≤ 20 := fun r hr => by
    obtain ⟨a, b⟩ := hm r hr
    have hl : j < r.length := by omega
    have e : r.getD j 0 = r[j] := by simp [hl]
    rw [e]; exact b _ (List.getElem_mem hl)
  have h0 := key t (by simp)
  have := fold_low (f := fun r => r.getD j 0) (m := 1) ts (t.getD j 0, t.getD j 0) h0.1 (fun r hr => (key r (by simp [hr])).1)
  unfold foldS
  simp only at this ⊢
  omega

theorem firstBad_of {e : Nat → Int} {n w : Nat} (hw : w < n) (h0 : e w ≠ 0) (hb : ∀ i, i < w → e i = 0) : firstBad e 0 n = some w := by
  cases h : firstBad e 0 n with
  | none => exact absurd (firstBad_none h w (by omega) (by omega)) h0
  | some k =>
    obtain ⟨_, _, h3, h4⟩ := firstBad_some h
    rcases Nat.lt_trichotomy k w with h | h | h
    · exact absurd (hb k h) h3
    · rw [h]
    · exact absurd (h4 w (by omega) h) h0
def sendQ (d : Ho) (day far : Int) : Int := if pairsE [day, d.days] 1 = 0 then (if out 0 198 far = true then 7 else 0) else pairsE [day, d.days] 1
theorem enter_send {d : Ho} (day far : Int) : enterE d 0 (sendQ d day far) = sendE d day far := by
  rw [enterE_known]
  unfold sendE sendQ penceE indexE
  rw [pairs1, ← notin far 0 198]
  by_cases h0 : checkE d = 0
  · simp only [h0, if_true]
    cases inR day 0 (d.days - 1) <;> cases inR far 0 198 <;> simp
  · simp only [h0, if_false]
theorem c86 (d : Ho) (hd : d.fits) (ho : d.Ok) (day far : Int) (B : List ABlk) (t : List Bool) (b0 b1 b2 : Nat) (h0 : B[b0]? = some (.cells (eHc d))) (h1 : B[b1]? = some (.cells [.int .i64 day])) (h2 : B[b2]? = some (.cells [.int .i64 far])) :
    (EW tabX).call 76 [.ref b1 0, .ref b0 0, .ref b2 0] ⟨B, t⟩ = some (.int .i64 (sendQ d day far), ⟨B, t⟩) := by
  have h67 := c67 [day, d.days] 1 1 B t
  have h98 := c98 [day, d.days] 1 rfl (by omega) (fun k hk => by
    have := ho.d1
    have := ho.d3
    obtain rfl : k = 0 := by omega
    show -_ ≤ d.days ∧ d.days ≤ _
    omega) 1 B.length (B ++ [.cells [.lst 1 1 (I [day, d.days])]]) t (by simp)
  have o0 := old h0
  have o1 := old h1
  have o2 := old h2
  simp only [eHc] at h0 o0
  rw [w_call _ fn_76 rfl]
  unfold sendQ
  simp only [I_c, I_nil] at h67 h98
  by_cases hp : pairsE [day, d.days] 1 = 0
  · cases hn : out 0 198 far with
    | true => simp only [go_sem, ↓reduceIte, simprocAttr, h0, h1, h2, o0, o1, o2, h67, h98, hp, c49_1, hn]
    | false => simp only [go_sem, ↓reduceIte, simprocAttr, h0, h1, h2, o0, o1, o2, h67, h98, hp, c49_1, hn]
  · have hpb : (pairsE [day, d.days] 1 == 0) = false := by simpa using hp
    simp only [go_sem, ↓reduceIte, simprocAttr, h0, h1, h2, o0, o1, o2, h67, h98, hp, hpb]
def H32 (d : Ho) (day far : Int) : List ABlk := [.cells (eHc d), .cells [.int .i64 day], .cells [.int .i64 far]]
theorem c32 (d : Ho) (hd : d.fits) (day far : Int) (h : Heap) : callPure (EW tabX) 27 [eH d, .int .i64 day, .int .i64 far] h = some (tup3 (sendV d day far), h) := by
  have hcl := eH_clean d
  obtain ⟨hno, hyes⟩ := c62 d hd 0 (by omega) (sendQ d day far) (.clo 76 [] [.ref 1 0, .ref 0 0, .ref 2 0]) (H32 d day far) [] (fun hc => by
    have ho := ok_of_E hc
    have := c86 d hd ho day far (H32 d day far ++ [.cells (eHc d)]) [] 0 1 2 rfl rfl rfl
    simp only [go_sem, ↓reduceIte, simprocAttr] at this ⊢
    exact this)
  rw [enter_send] at hno hyes
  rw [callPure_eq, w_call _ fn_27 rfl]
  unfold sendV
  by_cases h0 : sendE d day far = 0
  rotate_left
  · rw [if_neg h0]
    obtain ⟨F, hc⟩ := hno h0
    have hne : (sendE d day far != 0) = true := by simpa using h0
    simp only [go_sem, ↓reduceIte, simprocAttr, eH, eHc, H32] at hc
    simp only [go_sem, ↓reduceIte, simprocAttr, eH, eHc, hc, hne, tup3]
  rw [if_pos h0]
  obtain ⟨es, F, hke, hc⟩ := hyes h0
  obtain ⟨k1, k2⟩ := knownE_zero h0
  obtain ⟨k3, k4⟩ := penceE_zero k1
  obtain ⟨k5, k6⟩ := indexE_zero k3
  have ho := ok_of_E k5
  have ha3 := ho.a3
  have hrd := ho.rd
  obtain ⟨j, rfl⟩ := Int.eq_ofNat_of_zero_le k6.1
  have hjl : j < d.rates.length := by omega
  obtain ⟨es', F', x0, x2⟩ := c68 hd ho (but := 0) (by omega) 6 5 (HE d 0 (H32 d j far)) (HE_at d 0 (H32 d j far)) 77 [] [.ref 1 0] rfl rfl (fun r => r.getD j 0)
    (fun t es X tb ht hv hk => rate_of 77 (.inr rfl) rr_77 (by have := ho.d3; omega) j hjl 5 1 (by omega) (HE d 0 (H32 d j far)) rfl t es X tb ht hk) es hke ([] ++ F)
  have hdfs : dfs d 0 d.rates.length [] = truthsL d [] := by rw [dfs_all ho, bitsL_zero]
  rw [hdfs] at x2
  obtain ⟨lo1, lo2⟩ := low_bd ho k2 hjl
  have hlow : ∀ (w n : Nat), lowP d w j n = payR (d.ag0 w) n (foldS (fun r => r.getD j 0) (truthsL d [])).1 := fun w n => low_pay k2 w j n
  generalize foldS (fun r => r.getD j 0) (truthsL d []) = low at x2 lo1 lo2 hlow
  obtain ⟨lo, hi⟩ := low
  simp only at lo1 lo2 hlow
  simp only [go_sem, ↓reduceIte, simprocAttr, eH, eHc, eHs, eSp, HE, H32] at hc x2
  simp only [go_sem, ↓reduceIte, simprocAttr, eH, eHc, hc]
  simp only [go_sem, ↓reduceIte, simprocAttr, x2, tup3]
  have hP : HAt d (0 : Nat) 6 5 (HE d 0 (H32 d j far)) := HE_at d 0 (H32 d j far)
  generalize hx : (EW tabX).code 27 none (Code.loop _) _ = x
  refine w_rounds_sq hx (fun n (q : IS) => [(26, .int .i64 n)]) (fun q => ⟨PM (HE d 0 (H32 d j far)) 5 q.es ++ q.J, q.F⟩) (fun n q => KOk d q.es ∧ ∀ i, i < n → hitN d j far i = 0) 100
    (fun e V q => (e = .exit 0 ∧ V = [(26, .int .i64 100)] ∧ ∀ i, i < 100 → hitN d j far i = 0) ∨ ∃ n w : Nat, n < 100 ∧ hitN d j far n ≠ 0 ∧ (∀ i, i < n → hitN d j far i = 0) ∧ firstBad (hitW d j far n) 0 d.agents.length = some w ∧ e = .ret ∧
      V = [(6, .int .i64 w), (7, .int .i64 n), (8, .int .i64 0), (11, .int .i64 n), (12, .int .i64 w), (26, .int .i64 n), (31, .int .i64 d.agents.length), (32, .int .i64 w)]) ⟨es', [], F ++ F'⟩ ?_ ?_ ?_ ?_ ?_ ?_
  · simp only [go_sem, ↓reduceIte, simprocAttr]
  · simp only [go_sem, ↓reduceIte, simprocAttr, HE, H32, eHc, eHs]
  · exact ⟨x0, fun i hi => by omega⟩
  · intro n q hn hR
    obtain ⟨es1, J1, F1⟩ := q
    obtain ⟨r1, r2⟩ := hR
    have r1 : KOk d es1 := r1
    have hni : (n : Int) < 100 := by omega
    have hwn : IntKind.i64.wrap ((n : Int) + 1) = (n : Int) + 1 := wrap_i64 (by omega)
    simp only [go_sem, ↓reduceIte, simprocAttr, HE, H32, eHc, eHs, hni]
    generalize hy : (EW tabX).code 27 none (Code.loop _) _ = y
    refine w_rounds_sq hy (fun w (q : IS) => [(32, .int .i64 w)]) (fun q => ⟨PM (HE d 0 (H32 d j far)) 5 q.es ++ (J1 ++ q.J), F1 ++ q.F⟩) (fun w q => KOk d q.es ∧ ∀ i, i < w → hitW d j far n i = 0) d.agents.length
      (fun e V q => KOk d q.es ∧ ((e = .exit 2 ∧ V = [(32, .int .i64 d.agents.length)] ∧ ∀ i, i < d.agents.length → hitW d j far n i = 0) ∨ ∃ w : Nat, w < d.agents.length ∧ hitW d j far n w ≠ 0 ∧ (∀ i, i < w → hitW d j far n i = 0) ∧ e = .ret ∧
        V = [(6, .int .i64 w), (7, .int .i64 n), (8, .int .i64 0), (12, .int .i64 w), (32, .int .i64 w)])) ⟨es1, [], []⟩ ?_ ?_ ?_ ?_ ?_ ?_
    · simp only [go_sem, ↓reduceIte, simprocAttr]
    · simp only [go_sem, ↓reduceIte, simprocAttr, HE, H32, eHc, eHs]
    · exact ⟨r1, fun i hi => by omega⟩
    · intro w q hw hR
      obtain ⟨es2, J2, F2⟩ := q
      obtain ⟨u1, u2⟩ := hR
      have u1 : KOk d es2 := u1
      have hwi : (w : Int) < d.agents.length := by omega
      have hww : IntKind.i64.wrap ((w : Int) + 1) = (w : Int) + 1 := wrap_i64 (by omega)
      have hga := List.getElem?_eq_getElem hw
      have e1 : d.ag0 (w : Int) = d.agents[w] := by simp [Ho.ag0, hw]
      obtain ⟨es3, F3, v1, v2⟩ := c74x d hd ho (0 : Nat) hP w d.agents[w] hga n lo (by omega) (by omega) (J1 ++ (J2 ++ List.replicate 8 .none)) (F1 ++ (F2 ++ List.replicate 8 false)) es2 u1
      have hl := hlow w n
      rw [e1] at hl
      have hhit : hitW d j far n w = if far ≤ payR d.agents[w] n lo then 1 else 0 := by unfold hitW; rw [hl]
      generalize payR d.agents[w] n lo = pv at v2 hhit
      simp only [go_sem, ↓reduceIte, simprocAttr, HE, H32, eHc, eHs] at v2
      by_cases hge : far ≤ pv
      · rw [if_pos hge] at hhit
        right
        refine ⟨.ret, _, ⟨es3, J2 ++ List.replicate 8 .none, F2 ++ (List.replicate 8 false ++ F3)⟩, ?_, rfl, v1, .inr ⟨w, hw, by rw [hhit]; decide, u2, rfl, rfl⟩⟩
        simp only [go_sem, ↓reduceIte, simprocAttr, HE, H32, eHc, eHs, hwi, v2, hge, List.size_toArray]
        generalize hcf : okFam _ _ _ = cf
        obtain rfl : cf = true := by rw [← hcf]; kernel_rfl
        simp only [go_sem, ↓reduceIte, simprocAttr, hge]
        skip
      · rw [if_neg hge] at hhit
        left
        refine ⟨⟨es3, J2 ++ List.replicate 8 .none, F2 ++ (List.replicate 8 false ++ F3)⟩, ?_, v1, fun i hi => ?_⟩
        · simp only [go_sem, ↓reduceIte, simprocAttr, HE, H32, eHc, eHs, hwi, v2, hge, List.size_toArray]
          generalize hcf : okFam _ _ _ = cf
          obtain rfl : cf = true := by rw [← hcf]; kernel_rfl
          simp only [go_sem, ↓reduceIte, simprocAttr, hge, hww]
          skip
        · rcases Nat.lt_or_ge i w with h | h
          · exact u2 i h
          · rw [show i = w by omega]; exact hhit
    · intro q hR
      obtain ⟨es2, J2, F2⟩ := q
      refine ⟨.exit 2, _, ⟨es2, J2, F2⟩, ?_, rfl, hR.1, .inl ⟨rfl, rfl, hR.2⟩⟩
      simp only [go_sem, ↓reduceIte, simprocAttr, HE, H32, eHc, eHs, Int.lt_irrefl]
    · intro e V q hy1 hQ
      subst hy1
      obtain ⟨es2, J2, F2⟩ := q
      obtain ⟨q1, q2⟩ := hQ
      rcases q2 with ⟨rfl, rfl, q3⟩ | ⟨w, hw, q3, q4, rfl, rfl⟩
      · left
        refine ⟨⟨es2, J1 ++ J2, F1 ++ F2⟩, ?_, q1, fun i hi => ?_⟩
        · simp only [go_sem, ↓reduceIte, simprocAttr, HE, H32, eHc, eHs, hwn]
        · rcases Nat.lt_or_ge i n with h | h
          · exact r2 i h
          · rw [show i = n by omega]
            unfold hitN
            rw [firstBad_zero fun i _ hi => q3 i (by omega)]
      · right
        have hfb := firstBad_of hw q3 q4
        refine ⟨.ret, _, ⟨es2, J1 ++ J2, F1 ++ F2⟩, ?_, rfl, .inr ⟨n, w, hn, by unfold hitN; rw [hfb]; exact Int.one_ne_zero, r2, hfb, rfl, rfl⟩⟩
        simp only [go_sem, ↓reduceIte, simprocAttr, HE, H32, eHc, eHs]
        skip
  · intro q hR
    obtain ⟨es2, J2, F2⟩ := q
    refine ⟨.exit 0, _, ⟨es2, J2, F2⟩, ?_, rfl, .inl ⟨rfl, rfl, hR.2⟩⟩
    simp only [go_sem, ↓reduceIte, simprocAttr, HE, H32, eHc, eHs]
    skip
  · intro e V q hx1 hQ
    subst hx1
    obtain ⟨es2, J2, F2⟩ := q
    unfold sendR
    rcases hQ with ⟨rfl, rfl, q3⟩ | ⟨n, w, hn, q3, q4, q5, rfl, rfl⟩
    · rw [firstBad_zero fun i _ hi => q3 i (by omega)]
      simp only [go_sem, ↓reduceIte, simprocAttr, HE, H32, eHc, eHs]
      skip
    · rw [firstBad_of hn q3 q4]
      simp only [go_sem, ↓reduceIte, simprocAttr, HE, H32, eHc, eHs, q5]
      skip
end Go.Proofs.YtiighcpimecehaaGreat.R8
end
section
namespace Go.Proofs.YtiighcpimecehaaGreat.R8
open Go.Proofs

theorem sh_joinS (s : Int × Int) (n : Int) : (joinS s n).1 ≤ s.1 ∧ (joinS s n).1 ≤ n ∧ s.2 ≤ (joinS s n).2 ∧ n ≤ (joinS s n).2 := by
  unfold joinS
  refine ⟨?_, ?_, ?_, ?_⟩ <;> simp only <;> split <;> omega
theorem sh_foldJ (f : List Int → Int) : ∀ (l : List (List Int)) (s : Int × Int), ((l.foldl (fun s r => joinS s (f r)) s).1 ≤ s.1 ∧ s.2 ≤ (l.foldl (fun s r => joinS s (f r)) s).2) ∧ ∀ r ∈ l, (l.foldl (fun s r => joinS s (f r)) s).1 ≤ f r ∧ f r ≤ (l.foldl (fun s r => joinS s (f r)) s).2
  | [], s => ⟨⟨Int.le_refl _, Int.le_refl _⟩, fun r hr => by cases hr⟩
  | x :: l, s => by
    obtain ⟨⟨h1, h2⟩, h3⟩ := sh_foldJ f l (joinS s (f x))
    obtain ⟨j1, j2, j3, j4⟩ := sh_joinS s (f x)
    rw [List.foldl_cons]
    refine ⟨⟨by omega, by omega⟩, fun r hr => ?_⟩
    rcases List.mem_cons.1 hr with rfl | hr
    · exact ⟨by omega, by omega⟩
    · exact h3 r hr
theorem sh_bd (f : List Int → Int) {l : List (List Int)} {r : List Int} (hr : r ∈ l) : (foldS f l).1 ≤ f r ∧ f r ≤ (foldS f l).2 := by
  cases l with
  | nil => cases hr
  | cons x l =>
    obtain ⟨⟨h1, h2⟩, h3⟩ := sh_foldJ f l (f x, f x)
    rcases List.mem_cons.1 hr with rfl | hr
    · exact ⟨h1, h2⟩
    · exact h3 r hr
theorem sh_foldJ_in (f : List Int → Int) (a b : Int) : ∀ (l : List (List Int)) (s : Int × Int), (a ≤ s.1 ∧ s.1 ≤ b) → (a ≤ s.2 ∧ s.2 ≤ b) → (∀ r ∈ l, a ≤ f r ∧ f r ≤ b) → (a ≤ (l.foldl (fun s r => joinS s (f r)) s).1 ∧ (l.foldl (fun s r => joinS s (f r)) s).1 ≤ b) ∧ (a ≤ (l.foldl (fun s r => joinS s (f r)) s).2 ∧ (l.foldl (fun s r => joinS s (f r)) s).2 ≤ b)
  | [], _, h1, h2, _ => ⟨h1, h2⟩
  | x :: l, s, h1, h2, h => by
    have hx := h x (by simp)
    rw [List.foldl_cons]
    refine sh_foldJ_in f a b l _ ?_ ?_ fun r hr => h r (by simp [hr])
    · unfold joinS; simp only; split <;> omega
    · unfold joinS; simp only; split <;> omega
theorem sh_in (f : List Int → Int) (a b : Int) {l : List (List Int)} (hl : l ≠ []) (h : ∀ r ∈ l, a ≤ f r ∧ f r ≤ b) : (a ≤ (foldS f l).1 ∧ (foldS f l).1 ≤ b) ∧ (a ≤ (foldS f l).2 ∧ (foldS f l).2 ≤ b) := by
  cases l with
  | nil => exact absurd rfl hl
  | cons x l =>
    have hx := h x (by simp)
    exact sh_foldJ_in f a b l _ hx hx fun r hr => h r (by simp [hr])
theorem payR_near (a : Ag) {n n' r : Int} (h : n ≤ n') (hr : 0 ≤ r) : payR a n r ≤ payR a n' r := by
  have h1 : payN a n r ≤ payN a n' r := by
    unfold payN
    refine Int.mul_le_mul_of_nonneg_right ?_ hr
    split <;> split <;> omega
  unfold payR
  split
  · omega
  · split <;> omega
theorem sh_none {d : Ho} {day far : Int} (h : firstBad (hitN d day far) 0 100 = none) {n : Nat} (hn : n < 100) {w : Nat} (hw : w < d.agents.length) : ¬ far ≤ lowP d w day n := by
  have h1 := firstBad_none h n (by omega) (by omega)
  unfold hitN at h1
  cases h2 : firstBad (hitW d day far n) 0 d.agents.length with
  | some i => rw [h2] at h1; cases h1
  | none =>
    have h3 := firstBad_none h2 w (by omega) (by omega)
    unfold hitW at h3
    intro hc
    rw [if_pos hc] at h3; cases h3
theorem sh_some {d : Ho} {day far : Int} {n : Nat} (h : firstBad (hitN d day far) 0 100 = some n) : ∃ w, firstBad (hitW d day far n) 0 d.agents.length = some w ∧ ∀ a, a < d.agents.length → ∀ m, m < n → ¬ far ≤ lowP d a day m := by
  obtain ⟨_, h2, h3, h4⟩ := firstBad_some h
  unfold hitN at h3
  cases h5 : firstBad (hitW d day far n) 0 d.agents.length with
  | none => rw [h5] at h3; exact absurd rfl h3
  | some w =>
    refine ⟨w, rfl, fun a ha m hm => ?_⟩
    have h6 := h4 m (by omega) hm
    unfold hitN at h6
    cases h7 : firstBad (hitW d day far m) 0 d.agents.length with
    | some i => rw [h7] at h6; cases h6
    | none =>
      have := firstBad_none h7 a (by omega) (by omega)
      unfold hitW at this
      intro hc
      rw [if_pos hc] at this; cases this
theorem sh_fine {h : Ho} (ho : h.Ok) {r : List Int} (hr : r ∈ truthsL h []) : r.length = h.rates.length ∧ ∀ n ∈ r, 1 ≤ n ∧ n ≤ 20 :=
  ⟨truthsL_mem hr, fun n hn => ratesL_bd ho _ (Nat.le_refl _) _ (List.mem_filter.1 hr).1 n hn⟩
theorem shore {h : Ho} (ho : h.Ok) (hne : truthsL h [] ≠ []) {who day : Nat} (hw : who < h.agents.length) (hd : day < h.rates.length) {lo hi due : Int} (h1 : 0 ≤ lo) (h2 : lo ≤ due) (h3 : due ≤ hi) (h4 : hi ≤ 99) {r : List Int} (hr : r ∈ truthsL h []) :
    worthV h who day lo = (foldS (payAt h who day lo) (truthsL h []), 0) ∧ worthV h who day hi = (foldS (payAt h who day hi) (truthsL h []), 0) ∧
    (0 ≤ (foldS (payAt h who day hi) (truthsL h [])).2 ∧ (foldS (payAt h who day hi) (truthsL h [])).2 ≤ 198) ∧
    (foldS (payAt h who day lo) (truthsL h [])).1 ≤ payAt h who day due r ∧ payAt h who day due r ≤ (foldS (payAt h who day hi) (truthsL h [])).2 ∧
    ∃ w n : Nat, sendV h day (foldS (payAt h who day hi) (truthsL h [])).1 = ((w : Int), (n : Int), 0) ∧ (n : Int) ≤ hi := by
  have hrd := ho.rd
  have hce : checkE h = 0 := by unfold checkE; rw [check_of_ok ho]
  have hag : h.agents[who]? = some (h.ag0 who) := by
    show _ = some (h.agents.getD (who : Int).toNat ⟨default, 0, 0⟩)
    rw [Int.toNat_natCast, List.getD_eq_getElem?_getD, List.getElem?_eq_getElem hw]; rfl
  have hfee := ho.ag _ (List.mem_of_getElem? hag)
  have wE : ∀ x : Int, 0 ≤ x → x ≤ 99 → worthE h who day x = 0 := fun x a b => by
    have i1 : inR (who : Int) 0 ((h.agents.length : Int) - 1) = true := by simp [inR]; omega
    have i2 : inR (day : Int) 0 (h.days - 1) = true := by simp [inR]; omega
    have i3 : inR x 0 99 = true := by simp [inR]; omega
    unfold worthE knownE penceE indexE
    simp only [hce, i1, i2, i3, if_true, if_neg hne]
  have wV : ∀ x : Int, 0 ≤ x → x ≤ 99 → worthV h who day x = (foldS (payAt h who day x) (truthsL h []), 0) := fun x a b => by
    unfold worthV; rw [if_pos (wE x a b)]
  have rb : ∀ r ∈ truthsL h [], 0 ≤ r.getD day 0 ∧ r.getD day 0 ≤ 20 := fun r hr => by
    obtain ⟨f1, f2⟩ := sh_fine ho hr
    have hl : day < r.length := by omega
    rw [List.getD_eq_getElem?_getD, List.getElem?_eq_getElem hl]
    have := f2 _ (List.getElem_mem hl)
    exact ⟨by simp only [Option.getD_some]; omega, by simp only [Option.getD_some]; omega⟩
  have pb : ∀ x : Int, 0 ≤ x → x ≤ 99 → ∀ r ∈ truthsL h [], 0 ≤ payAt h who day x r ∧ payAt h who day x r ≤ 198 := fun x a b r hr => payR_bd ⟨hfee.1, hfee.2.1⟩ ⟨a, b⟩ (rb r hr)
  obtain ⟨hb1, hb2⟩ := sh_in _ 0 198 hne (pb hi (by omega) h4)
  have hp1 : payAt h who day lo r ≤ payAt h who day due r := payR_near _ h2 (rb r hr).1
  have hp2 : payAt h who day due r ≤ payAt h who day hi r := payR_near _ h3 (rb r hr).1
  have hl := (sh_bd (payAt h who day lo) hr).1
  have hh := (sh_bd (payAt h who day hi) hr).2
  refine ⟨wV lo h1 (by omega), wV hi (by omega) h4, hb2, by omega, by omega, ?_⟩
  generalize hfar : (foldS (payAt h who day hi) (truthsL h [])).1 = far at hb1
  have hsE : sendE h day far = 0 := by
    have i2 : inR (day : Int) 0 (h.days - 1) = true := by simp [inR]; omega
    have i3 : inR far 0 198 = true := by simp [inR]; omega
    unfold sendE knownE penceE indexE
    simp only [hce, i2, i3, if_true, if_neg hne]
  unfold sendV
  rw [if_pos hsE]
  unfold sendR
  obtain ⟨q, rfl⟩ := Int.eq_ofNat_of_zero_le (show 0 ≤ hi by omega)
  have hlow : far ≤ lowP h who day q := by unfold lowP; rw [hfar]; exact Int.le_refl _
  cases hf : firstBad (hitN h day far) 0 100 with
  | none => exact absurd hlow (sh_none hf (by omega) hw)
  | some n =>
    obtain ⟨w, hw2, hmin⟩ := sh_some hf
    refine ⟨w, n, by simp only [hw2], ?_⟩
    by_cases hc : n ≤ q
    · omega
    · exact absurd hlow (hmin who hw q (by omega))
end Go.Proofs.YtiighcpimecehaaGreat.R8
end
