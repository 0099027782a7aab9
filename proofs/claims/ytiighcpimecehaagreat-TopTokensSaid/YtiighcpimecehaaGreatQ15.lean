/- Parts of the proof, joined: Z-numbers. The examples of layer 7: their lists, and what is said of them. Z-numbers. Awake of layer 7. Z-numbers. The bits of some numbers. Z-numbers. The body of TopTokens. Z-numbers. TopTokens: the statement, whole. Conditions: those of each law. -/
import Derived.Test.YtiighcpimecehaaGreatQ14
import Derived.KernelRfl
import Derived.Test.YtiighcpimecehaaGreatRows
import Derived.ProofKit
import Derived.OpenShut
set_option linter.unusedSimpArgs false
set_option linter.unusedVariables false
section
namespace Go.Proofs.YtiighcpimecehaaGreat
open Go.Proofs

def nAna : ByteArray := ⟨#[97, 110, 97]⟩
def nBen : ByteArray := ⟨#[98, 101, 110]⟩
def nCora : ByteArray := ⟨#[99, 111, 114, 97]⟩
def nFst : ByteArray := ⟨#[102, 105, 114, 115, 116]⟩
def nSnd : ByteArray := ⟨#[115, 101, 99, 111, 110, 100]⟩
def nTrd : ByteArray := ⟨#[116, 104, 105, 114, 100]⟩
def xw : List Wo := [⟨2, 0, 1, -1, true⟩, ⟨1, 2, 1, -1, true⟩, ⟨0, 2, 2, -1, false⟩, ⟨3, 0, 1, 0, false⟩]
def mX (ws : List Wo) (ps : List Pd) (z : Nat) : Mo := { zw := 1, who := [nAna, nBen, nCora], zs := 3, sums := [⟨nFst, 20, 3⟩, ⟨nSnd, 30, 6⟩, ⟨nTrd, 15, 7⟩], zo := 5, words := ws, zp := z, paid := ps }
def xp : List Pd := [⟨0, 0⟩, ⟨0, 1⟩, ⟨2, 2⟩]
def mA : Mo := mX xw [] 0
def mB : Mo := mX xw xp 2
def mC : Mo := mX (xw ++ [⟨0, 0, 0, -1, true⟩]) [] 0
theorem m36_false (h : Heap) : callPure (EW tabX) 36 [.bool false] h = some (eM mA, h) := by
  rw [callPure_eq, w_call _ fn_36 rfl]
  simp only [go_sem, ↓reduceIte, simprocAttr, eM, eMc, mA, mX, xw, List.map_cons, List.map_nil, eSu, eWo, nAna, nBen, nCora, nFst, nSnd, nTrd, S]
  done
theorem m36_true (h : Heap) : callPure (EW tabX) 36 [.bool true] h = some (eM mB, h) := by
  rw [callPure_eq, w_call _ fn_36 rfl]
  simp only [go_sem, ↓reduceIte, simprocAttr, eM, eMc, mB, mX, xw, xp, List.map_cons, List.map_nil, eSu, eWo, ePd, nAna, nBen, nCora, nFst, nSnd, nTrd, S]
  done
theorem m41 (a b : Int) (h : Heap) : callPure (EW tabX) 41 [.int .i64 a, .int .i64 b] h = some (.agg [.int .i64 a, .int .i64 b], h) := by
  rw [callPure_eq, w_call _ fn_41 rfl]
  simp only [go_sem, ↓reduceIte, simprocAttr]
theorem fits_X (ws : List Wo) (ps : List Pd) (z : Nat) (hz : ps ≠ [] → z = 2) (hw : ws.length < 1000000000000000000) (hp : ps.length < 1000000000000000000) : (mX ws ps z).fits := ⟨fun _ => rfl, fun _ => rfl, fun _ => rfl, hz, by simp [mX], by simp [mX], hw, hp, by intro c hc; simp only [mX, List.mem_cons, List.mem_nil_iff, or_false] at hc; rcases hc with rfl | rfl | rfl <;> decide, by intro c hc; simp only [mX, List.mem_cons, List.mem_nil_iff, or_false] at hc; rcases hc with rfl | rfl | rfl <;> decide⟩
theorem fits_mA : mA.fits := fits_X _ _ _ (fun h => absurd rfl h) (by decide) (by decide)
theorem fits_mB : mB.fits := fits_X _ _ _ (fun _ => rfl) (by decide) (by decide)
theorem fits_mC : mC.fits := fits_X _ _ _ (fun h => absurd rfl h) (by decide) (by decide)
theorem truths_mA : truthsM mA 0 = [[1, 1, 0], [1, 1, 2]] := by kernel_rfl
theorem ent_mA : enterM mA 0 [] = 0 := by kernel_rfl
theorem ent_mB : enterM mB 0 [] = 0 := by kernel_rfl
theorem k11 (h : Heap) : callPure (EW tabX) 11 [eM mA] h = some (.tup [vI [1, 1, 0], .int .i64 2, .int .i64 0], h) := by
  have := m11_yes mA fits_mA ent_mA h
  rw [truths_mA] at this; exact this
theorem k16 (h : Heap) : callPure (EW tabX) 16 [eM mA, .int .i64 2] h = some (.tup [vI [0, 2], .int .i64 0], h) := (m16 mA fits_mA 2 h).trans (congrArg (fun v => some (v, h)) (by kernel_rfl))
theorem k15a (h : Heap) : callPure (EW tabX) 15 [eM mA, .int .i64 1] h = some (.tup [.int .i64 1, .int .i64 0], h) := (m15 mA fits_mA 1 h).trans (congrArg (fun v => some (v, h)) (by kernel_rfl))
theorem k15b (h : Heap) : callPure (EW tabX) 15 [eM mA, .int .i64 2] h = some (.tup [.int .i64 0, .int .i64 9], h) := (m15 mA fits_mA 2 h).trans (congrArg (fun v => some (v, h)) (by kernel_rfl))
theorem k37a (h : Heap) : callPure (EW tabX) 37 [eM mA] h = some (.tup [vI [2], .int .i64 0], h) := (m37 mA fits_mA h).trans (congrArg (fun v => some (v, h)) (by kernel_rfl))
theorem k37c (h : Heap) : callPure (EW tabX) 37 [eM mC] h = some (.tup [vI [], .int .i64 8], h) := (m37 mC fits_mC h).trans (congrArg (fun v => some (v, h)) (by kernel_rfl))
theorem k38 (h : Heap) : callPure (EW tabX) 38 [eM mA] h = some (.tup [vI [2], .int .i64 0], h) := (m38 mA fits_mA ent_mA h).trans (congrArg (fun v => some (v, h)) (by kernel_rfl))
theorem dues_mA0 : duesM mA 0 = [15, 0] := by kernel_rfl
theorem dues_mA1 : duesM mA 1 = [50, 50] := by kernel_rfl
theorem k22a (h : Heap) : callPure (EW tabX) 22 [eM mA, .int .i64 0] h = some (.tup [.agg [.int .i64 0, .int .i64 15], .int .i64 0], h) :=
  m22 mA fits_mA 0 (by kernel_rfl) 0 15 (by show isMin (duesM mA 0) 0; rw [dues_mA0]; simp [isMin]) (by show isMax (duesM mA 0) 15; rw [dues_mA0]; simp [isMax]) h
theorem k22b (h : Heap) : callPure (EW tabX) 22 [eM mA, .int .i64 1] h = some (.tup [.agg [.int .i64 50, .int .i64 50], .int .i64 0], h) :=
  m22 mA fits_mA 1 (by kernel_rfl) 50 50 (by show isMin (duesM mA 1) 50; rw [dues_mA1]; simp [isMin]) (by show isMax (duesM mA 1) 50; rw [dues_mA1]; simp [isMax]) h
theorem k39 (h : Heap) : callPure (EW tabX) 39 [eM mA] h = some (.tup [.int .i64 50, .int .i64 65, .int .i64 0], h) := (m39 mA fits_mA ent_mA rfl h).trans (congrArg (fun v => some (v, h)) (by kernel_rfl))
theorem k40 (h : Heap) : callPure (EW tabX) 40 [eM mB] h = some (.tup [vI [0], .int .i64 0], h) := (m40 mB fits_mB ent_mB h).trans (congrArg (fun v => some (v, h)) (by kernel_rfl))
end Go.Proofs.YtiighcpimecehaaGreat
end
section
namespace Go.Proofs.YtiighcpimecehaaGreat
open Go.Proofs

theorem eqSp (a b c d : Int) : eqCells [0, 0] [.int .i64 a, .int .i64 b] [.int .i64 c, .int .i64 d] = some (a == c && b == d) := by simp [eqCells]
theorem app1 (B : List ABlk) (xs : List AV) (hl : xs.length = 4) (hv : xs.all AV.var = true) : appendAV tabX 35 0 ⟨B, []⟩ (.lst 1 5 []) (.lst 0 5 xs) = some (.lst 2 5 xs, ⟨B, [true]⟩) := by
  unfold appendAV
  simp only [go_sem, ↓reduceIte, simprocAttr, hl, hv]
theorem app2 (B : List ABlk) (xs : List AV) (hl : xs.length = 4) : appendAV tabX 35 1 ⟨B, [true]⟩ (.lst 2 5 xs) (.lst 1 5 [.agg [.int .i64 0, .int .i64 0, .int .i64 0, .int .i64 (-1), .bool true]]) = some (.lst 3 5 (xs ++ [.agg [.int .i64 0, .int .i64 0, .int .i64 0, .int .i64 (-1), .bool true]]), ⟨B, [false, true]⟩) := by
  unfold appendAV
  simp only [go_sem, ↓reduceIte, simprocAttr, hl]
set_option maxRecDepth 100000 in
set_option maxHeartbeats 4000000 in
theorem m7 (h : Heap) : callPure (EW tabX) 7 [] h = some (.bool true, h) := by
  have i1 := m36_false
  have i2 := m36_true
  have q1 := k11
  have q2 := k16
  have q3 := k15a
  have q4 := k15b
  have q5 := k37a
  have q6 := k37c
  have q7 := k38
  have q8 := k22a
  have q9 := k22b
  have q10 := k39
  have q11 := k40
  have e1 := fun h => k20' [1, 1, 0] (by decide) h (by decide)
  have e2 := fun h => k20' [0, 2] (by decide) h (by decide)
  have e3 := fun h => k20' [2] (by decide) h (by decide)
  have e4 := fun h => k20' [0] (by decide) h (by decide)
  have cl1 := eM_clean mA
  have cl2 := eM_clean mB
  have cl3 := eM_clean mC
  have w3 : mC.words.map eWo = mA.words.map eWo ++ [.agg [.int .i64 0, .int .i64 0, .int .i64 0, .int .i64 (-1), .bool true]] := rfl
  have sA : eMc mA = [.lst 0 1 (S mA.who), .lst 0 3 (mA.sums.map eSu), .lst 0 5 (mA.words.map eWo), .lst 0 0 []] := rfl
  have sB : eMc mB = [.lst 0 1 (S mA.who), .lst 0 3 (mA.sums.map eSu), .lst 0 5 (mA.words.map eWo), .lst 0 2 (mB.paid.map ePd)] := rfl
  have sC : eMc mC = [.lst 0 1 (S mA.who), .lst 0 3 (mA.sums.map eSu), .lst 0 5 (mC.words.map eWo), .lst 0 0 []] := rfl
  have wl : (mA.words.map eWo).length = 4 := rfl
  have wc := eWo_clean mA.words
  have cw := eWo_clean mC.words
  have uw := fun n => eWo_under n mC.words
  have wu := fun n => eWo_under n mA.words
  have wv := eWo_var mA.words
  have sc := eSu_clean mA.sums
  have su := fun n => eSu_under n mA.sums
  have pc := ePd_clean mB.paid
  have pu := fun n => ePd_under n mB.paid
  simp only [I_c, I_nil] at e1 e2 e3 e4
  rw [w3] at cw
  simp only [w3] at uw
  simp only [eM, sA, sB, sC, w3] at i1 i2 q1 q2 q3 q4 q5 q6 q7 q8 q9 q10 q11 cl1 cl2 cl3
  generalize mA.words.map eWo = xW at *
  generalize mA.sums.map eSu = xS at *
  generalize mB.paid.map ePd = xP at *
  have a1 := fun B => app1 B xW wl wv
  have a2 := fun B => app2 B xW wl
  rw [callPure_eq, w_call _ fn_7 rfl]
  simp only [go_sem, ↓reduceIte, simprocAttr, zipFrom_nil, List.append_eq, i1, i2, q1, q2, q3, q4, q5, q6, q7, q8, q9, q10, q11, cl1, cl2, cl3, wl, wc, wu, wv, sc, su, pc, pu, vI_clean, e1, e2, e3, e4, a1, a2, cw, uw, m41, eqSp, aggBin, beq_self_eq_true]
  done
end Go.Proofs.YtiighcpimecehaaGreat
end
section
namespace Go.Proofs.YtiighcpimecehaaGreat
open Go.Proofs

theorem or_add {s k : Nat} (h : s < 2 ^ k) : s ||| 2 ^ k = s + 2 ^ k := by
  have := Nat.two_pow_add_eq_or_of_lt h 1
  rw [Nat.mul_one] at this
  rw [Nat.or_comm, ← this, Nat.add_comm]
theorem setN_congr {p q : Nat → Bool} : ∀ {n : Nat}, (∀ j, j < n → p j = q j) → setN p n = setN q n
  | 0, _ => rfl
  | n + 1, h => by
    rw [setN_succ, setN_succ, h n (by omega), setN_congr fun j hj => h j (by omega)]
theorem pow_le4 {k : Nat} (h : k ≤ 4) : 2 ^ k ≤ 16 := Nat.pow_le_pow_right (by omega) h
def hasB (l : List Int) (j : Nat) : Bool := l.any fun y => y == (j : Int)
theorem m10 (l : List Int) (z : Nat) (hz : l ≠ [] → z = 1) (hl : l.length < 900) (n : Nat) (hn : n ≤ 4) (h : Heap) : callPure (EW tabX) 10 [.lst 0 z (I l), .int .i64 n] h = some (.int .i64 (setN (hasB l) n : Nat), h) := by
  rw [callPure_eq, w_call _ fn_10 rfl]
  simp only [go_sem, ↓reduceIte, simprocAttr]
  rw [w_rounds_u (fun k => [(5, .int .i64 (setN (hasB l) k : Nat)), (6, .int .i64 (2 ^ k : Nat)), (7, .int .i64 k)]) n (.exit 0) [(5, .int .i64 (setN (hasB l) n : Nat)), (6, .int .i64 (2 ^ n : Nat)), (7, .int .i64 n)] ?_ ?_ ?_ rfl]
  · simp only [go_sem, ↓reduceIte, simprocAttr]
  · simp only [go_sem, ↓reduceIte, simprocAttr, setN]
  · intro k hk
    have hki : (k : Int) < n := by omega
    have h45 := c39 l k z hz (by omega)
    have hs : setN (hasB l) (k + 1) = if hasB l k = true then setN (hasB l) k ||| 2 ^ k else setN (hasB l) k := rfl
    rw [or_add (setN_pow (hasB l) k)] at hs
    have h1 := setN_pow (hasB l) k
    have h2 := pow_le4 (k := k) (by omega)
    have h3 : (2 : Nat) ^ (k + 1) = 2 * 2 ^ k := by rw [Nat.pow_succ, Nat.mul_comm]
    rw [h3]
    generalize (2 : Nat) ^ k = b at *
    generalize setN (hasB l) k = s at *
    generalize setN (hasB l) (k + 1) = s2 at *
    have hb : hasB l k = l.any fun y => y == (k : Int) := rfl
    rw [← hb] at h45
    cases hbb : hasB l k with
    | true =>
      rw [hbb] at h45 hs
      rw [if_pos rfl] at hs
      subst hs
      have c1 : ((s + b : Nat) : Int) = (s : Int) + b := by omega
      have c2 : ((2 * b : Nat) : Int) = 2 * (b : Int) := by omega
      rw [c1, c2]
      simp (disch := omega) only [go_sem, ↓reduceIte, simprocAttr, hki, h45, wrap_i64]
      done
    | false =>
      rw [hbb] at h45 hs
      rw [if_neg (by decide)] at hs
      subst hs
      have c2 : ((2 * b : Nat) : Int) = 2 * (b : Int) := by omega
      rw [c2]
      simp (disch := omega) only [go_sem, ↓reduceIte, simprocAttr, hki, h45, wrap_i64]
      done
  · simp (disch := omega) only [go_sem, ↓reduceIte, simprocAttr]
theorem has_whose (d : Dr) (i : Nat) {j : Nat} (hj : j < d.cards.length) : hasB (whoseL d i d.cards.length) j = whB d i j := by
  unfold hasB
  rw [Bool.eq_iff_iff, List.any_eq_true]
  constructor
  · rintro ⟨x, hx, e⟩
    have e : x = (j : Int) := by simpa using e
    subst e
    obtain ⟨c, _, e2, t, ht, hg⟩ := mem_whose.1 hx
    unfold whB
    rw [List.any_eq_true]
    exact ⟨t, ht, by rw [hg, e2]; simp⟩
  · intro h
    unfold whB at h
    obtain ⟨t, ht, e⟩ := List.any_eq_true.1 h
    exact ⟨j, mem_whose.2 ⟨j, hj, rfl, t, ht, by simpa using e⟩, by simp⟩
theorem whose_len (d : Dr) (i n : Nat) : (whoseL d i n).length ≤ n := by
  unfold whoseL
  rw [List.length_map]
  have := List.length_filter_le (fun (c : Nat) => (fairL d).any fun t => t.getD i 0 == (c : Int)) (List.range n)
  simpa using this
theorem m10_D {d : Dr} (ho : d.Ok) (i : Nat) (h : Heap) : callPure (EW tabX) 10 [vI (whoseL d i d.cards.length), .int .i64 d.cards.length] h = some (.int .i64 (bitsD d i : Nat), h) := by
  have c4 := ho.c4
  have hl := whose_len d i d.cards.length
  have := m10 (whoseL d i d.cards.length) (zT 1 (whoseL d i d.cards.length).length) (fun h => zT_pos (List.length_pos_iff.2 h)) (by omega) d.cards.length c4 h
  rw [setN_congr fun j hj => has_whose d i hj] at this
  exact this
end Go.Proofs.YtiighcpimecehaaGreat
end
section
namespace Go.Proofs.YtiighcpimecehaaGreat
open Go.Proofs

theorem app_at {X : Tab} {ty e : TypeId} {sz : Nat} {tag z : Nat} {t : List Bool} {xs : List AV} (hn : OwnS sz tag z xs.length t) (p : Nat) (hp : p < t.length) (u z' : Nat) (ys : List AV) (ht : trow X ty = .slice e) (hs : tsz X e = sz) (h0 : 0 < sz) (hz' : z' = sz ∨ ys.length = 0)
    (hy : (xs.length + ys.length) * tbytes X e ≤ 140737488355328) (hy2 : xs.length + ys.length ≤ 140737488355328) (hf : zeroFits X e = true) (hv : ys.all AV.var = true) :
    ∃ t2, (∀ B, appendAV X ty p ⟨B, t⟩ (.lst tag z xs) (.lst u z' ys) = some (.lst (p + 2) sz (xs ++ ys), ⟨B, t2⟩)) ∧ t2[p]? = some true ∧ t2.length = t.length := by
  have hc : (z' = tsz X e ∨ ys.length = 0) ∧ 0 < tsz X e ∧ (xs.length + ys.length) * tbytes X e ≤ appLimit ∧ xs.length + ys.length ≤ appLimit ∧ zeroFits X e = true ∧ ys.all AV.var = true := by
    rw [hs]; exact ⟨hz', h0, hy, hy2, hf, hv⟩
  unfold appendAV
  simp only [ht, if_pos hc]
  rcases hn with ⟨rfl, hn0⟩ | ⟨q, rfl, hq, hqt⟩
  · have hx : z = tsz X e ∨ xs.length = 0 := .inr hn0
    refine ⟨t.set p true, fun B => ?_, by simp [hp], by simp⟩
    rw [if_pos ⟨hx, .inl hn0⟩]
    simp only [hs, lset, if_pos hp]
  · have hx : z = tsz X e := by rw [hs, hq]
    refine ⟨(t.set q false).set p true, fun B => ?_, by simp [hp], by simp⟩
    simp only [hqt]
    rw [if_pos hx]
    simp only [hs, lset, List.length_set, if_pos hp]
def wK (k j : Nat) : List Wo := wordsD k ++ (List.range j).map (wordD k)
def sK (d : Dr) (k : Nat) : List Su := (List.range k).map (halfD d)
theorem sK_len (d : Dr) (k : Nat) : (sK d k).length = k := by simp [sK]
theorem sK_zero (d : Dr) : sK d 0 = [] := rfl
theorem sK_succ (d : Dr) (k : Nat) : (sK d k).map eSu ++ [eSu (halfD d k)] = (sK d (k + 1)).map eSu := by
  unfold sK
  rw [List.range_succ, List.map_append, List.map_append]; rfl
theorem wordsD_zero : wordsD 0 = [] := rfl
theorem wK_zero (k : Nat) : wK k 0 = wordsD k := by simp [wK]
theorem wK_all (k : Nat) : wK k k = wordsD (k + 1) := rfl
theorem wK_succ (k j : Nat) : (wK k j).map eWo ++ [eWo (wordD k j)] = (wK k (j + 1)).map eWo := by
  unfold wK
  rw [List.range_succ, List.map_append, List.map_append, List.map_append, List.map_append, List.append_assoc]; rfl
theorem wK_len {k j : Nat} (hj : j ≤ k) (hk : k < 4) : (wK k j).length ≤ 6 := by
  have h1 := wordsD_len (show k + 1 ≤ 4 by omega)
  unfold wK
  unfold wordsD at h1
  rw [List.length_append, List.length_map, List.length_range] at h1 ⊢
  omega
theorem half_at {d : Dr} {k : Nat} (h : k < d.halves.length) : d.halves[k]? = some (d.halves.getD k ⟨default, []⟩) := by rw [List.getD_eq_getElem?_getD, List.getElem?_eq_getElem h]; rfl
theorem askedE_in (d : Dr) (hc : (checkT d).2.2 = 0) (n m : Nat) (h : n < m) : askedE d n m = 0 := by
  have hin : inR (n : Int) 0 ((m : Int) - 1) = true := by unfold inR; simp only [Bool.and_eq_true, decide_eq_true_eq]; omega
  unfold askedE
  rw [if_pos hc, if_pos hin]
@[go_sem] theorem hush_3_13 : tabX.hush 3 13 = false := id rfl
@[go_sem] theorem hush_3_20 : tabX.hush 3 20 = false := id rfl
@[go_sem] theorem hush_3_25 : tabX.hush 3 25 = false := id rfl
set_option maxHeartbeats 4000000 in
theorem t3 (d : Dr) (hd2 : d.fits ∧ d.zc = 2 ∧ d.zh = 2) : ∃ h', (EW tabX).call 3 [eD d] noHeap = some (.bool true, h') := by
  obtain ⟨hd, hz2, hz3⟩ := hd2
  have hcl := eD_clean d
  have a5 := c21
  have a7 := m7
  have h17 := c17 d hd
  rw [noHeap, w_call _ fn_3 rfl]
  have hce : (checkT d).2.2 = (checkT d).2.2 := rfl
  simp only [eD, eDc, tup3, hz2, hz3] at h17 hcl
  by_cases h0 : (checkT d).2.2 = 0
  rotate_left
  · have hne : ((checkT d).2.2 != 0) = true := by simpa using h0
    simp (disch := omega) only [go_sem, ↓reduceIte, simprocAttr, eD, eDc, eC_clean, eC_under, hz2, hz3, h17, hcl, hne, a5, a7]
    exact ⟨_, rfl⟩
  obtain ⟨ho, hc0⟩ := ok_of_check h0
  have h22 := c22_yes d hd h0
  simp only [eD, eDc, hz2, hz3] at h22
  by_cases hf : lostN (first d) = 0
  rotate_left
  · have hgt : (0 : Int) < (lostN (first d) : Nat) := by omega
    simp (disch := omega) only [go_sem, ↓reduceIte, simprocAttr, eD, eDc, eC_clean, eC_under, hz2, hz3, h17, hcl, h0, h22, hgt, a5, a7]
    exact ⟨_, rfl⟩
  simp (disch := omega) only [go_sem, ↓reduceIte, simprocAttr, eD, eDc, eC_clean, eC_under, hz2, hz3, h17, hcl, h0, h22, hf]
  have c4 := ho.c4
  have h4 := ho.h4
  generalize hX : (EW tabX).code 3 none (.loop _) _ = X
  refine w_rounds_sk hX (fun k _ => [(10, .int .i64 k)]) (fun s : Nat × (List ABlk × List Bool) × Nat => ⟨.cells [.int .i64 d.steps, .int .i64 d.least, .int .i64 d.wear, .lst 0 2 (d.cards.map eC), .lst 0 2 (d.halves.map eC)] :: .cells [.lst s.1 (zT 1 s.2.2) (S ((d.cards.map Card.name).take s.2.2)), .lst 1 0 [], .lst 1 0 [], .lst 1 0 []] :: s.2.1.1, s.2.1.2⟩)
    (fun k s => s.2.2 = k) d.cards.length (.exit 0) (fun _ => [(10, .int .i64 d.cards.length)]) rfl (1, ([], []), 0) ?_ ?_ rfl ?_ ?_ ?_
  · simp only [go_sem, ↓reduceIte, simprocAttr]
  · simp only [go_sem, ↓reduceIte, simprocAttr]
  · rintro k ⟨u1, ⟨E, M⟩, k'⟩ hk hR
    obtain rfl : k' = k := hR
    have hki : (k' : Int) < d.cards.length := by omega
    have ca := card_at d k' hk
    have hml : ((d.cards.map Card.name).take k').length = k' := by rw [List.length_take, List.length_map]; omega
    simp (disch := omega) only [go_sem, ↓reduceIte, simprocAttr, eC_clean, eC_under, eC_get, eC, hki, ca, wrap_i64]
    generalize hcf : drawT _ _ _ = cf
    obtain rfl : cf = true := by rw [← hcf]; kernel_rfl
    generalize hTT : M ++ List.replicate _ false = TT
    have hTl : TT.length = M.length + 14 := by rw [← hTT, List.length_append, List.length_replicate]; rfl
    generalize M.length = q at hTl
    generalize List.replicate _ ABlk.none = N
    have hzk : zT 1 k' = 1 ∨ (S ((d.cards.map Card.name).take k')).length = 0 := by
      by_cases h0 : k' = 0
      · exact .inr (by rw [S_len, hml]; exact h0)
      · exact .inl (zT_pos (by omega))
    obtain ⟨ta, p1, p2, p3⟩ := app_at (X := tabX) (ty := 33) (e := 9) (sz := 1) (tag := 1) (z := 1) (t := TT) (xs := []) (.inl ⟨rfl, rfl⟩) (q + 3) (by omega) u1 (zT 1 k') (S ((d.cards.map Card.name).take k')) (by simp only [go_sem, ↓reduceIte, simprocAttr]) (by simp only [go_sem, ↓reduceIte, simprocAttr]) (by omega)
      hzk (by simp only [go_sem, ↓reduceIte, simprocAttr, hml]; omega) (by simp only [go_sem, ↓reduceIte, simprocAttr, hml]; omega) (by simp only [go_sem, ↓reduceIte, simprocAttr]) (S_var _)
    simp only [List.nil_append] at p1
    simp (disch := omega) only [go_sem, ↓reduceIte, simprocAttr, eC_clean, eC_under, eC_get, eC, hki, ca, wrap_i64, p1]
    obtain ⟨tb, p4, p5, p6⟩ := app_at (X := tabX) (ty := 33) (e := 9) (sz := 1) (tag := q + 3 + 2) (z := 1) (t := ta) (xs := S ((d.cards.map Card.name).take k')) (.inr ⟨q + 3, rfl, rfl, p2⟩) (q + 11) (by omega) 1 1 [.str (d.cards.getD k' ⟨default, []⟩).name] (by simp only [go_sem, ↓reduceIte, simprocAttr]) (by simp only [go_sem, ↓reduceIte, simprocAttr]) (by omega)
      (.inl rfl) (by simp only [go_sem, ↓reduceIte, simprocAttr, hml]; omega) (by simp only [go_sem, ↓reduceIte, simprocAttr, hml]; omega) (by simp only [go_sem, ↓reduceIte, simprocAttr]) (by simp only [go_sem, ↓reduceIte, simprocAttr])
    have hnew : S ((d.cards.map Card.name).take k') ++ [.str (d.cards.getD k' ⟨default, []⟩).name] = S ((d.cards.map Card.name).take (k' + 1)) := by
      rw [S_snoc, List.take_add_one, List.getElem?_map, ca]; rfl
    rw [hnew] at p4
    have hz2' : zT 1 (k' + 1) = 1 := zT_pos (by omega)
    simp (disch := omega) only [go_sem, ↓reduceIte, simprocAttr, eC_clean, eC_under, p4, wrap_i64]
    refine ⟨(q + 11 + 2, (E ++ N, tb), k' + 1), ?_, rfl⟩
    simp only [hz2']
    done
  · rintro ⟨u1, ⟨E, M⟩, k'⟩ hR
    obtain rfl : k' = d.cards.length := hR
    simp only [go_sem, ↓reduceIte, simprocAttr]
  · rintro ⟨u1, ⟨E, M⟩, k'⟩ hx hR
    obtain rfl : k' = d.cards.length := hR
    rw [hx]
    clear hx hX
    rw [List.take_of_length_le (by rw [List.length_map]; exact Nat.le_refl _)]
    simp (disch := omega) only [go_sem, ↓reduceIte, simprocAttr, eC_clean, eC_under, wrap_i64]
    generalize hX : (EW tabX).code 3 none (.loop _) _ = X
    refine w_rounds_sk hX (fun k _ => [(11, .int .i64 k)]) (fun s : (Nat × Nat) × (List ABlk × List Bool) × Nat => ⟨.cells [.int .i64 d.steps, .int .i64 d.least, .int .i64 d.wear, .lst 0 2 (d.cards.map eC), .lst 0 2 (d.halves.map eC)] :: .cells [.lst u1 (zT 1 d.cards.length) (S (d.cards.map Card.name)), .lst s.1.1 (zT 3 s.2.2) ((sK d s.2.2).map eSu), .lst s.1.2 (zT 5 (wordsD s.2.2).length) ((wordsD s.2.2).map eWo), .lst 1 0 []] :: s.2.1.1, s.2.1.2⟩)
      (fun k s => s.2.2 = k) d.halves.length (.exit 2) (fun _ => [(11, .int .i64 d.halves.length)]) rfl ((1, 1), (E, M), 0) ?_ ?_ rfl ?_ ?_ ?_
    · simp only [go_sem, ↓reduceIte, simprocAttr]
    · simp only [go_sem, ↓reduceIte, simprocAttr, sK_zero, wordsD_zero]
    · rintro k ⟨⟨u2, u3⟩, ⟨E, M⟩, k'⟩ hk hR
      obtain rfl : k' = k := hR
      have hki : (k' : Int) < d.halves.length := by omega
      have ca := half_at hk
      have h26 := c26_yes d hd k' (askedE_in d h0 k' d.halves.length hk)
      have h10 := m10_D ho k'
      have hWl := whose_len d k' d.cards.length
      have hWn : 0 < (whoseL d k' d.cards.length).length := by
        obtain ⟨c, hc, hw⟩ := some_D hf hk
        refine List.length_pos_iff.2 (List.ne_nil_of_mem (a := (c : Int)) ?_)
        rw [whose_wh]
        exact List.mem_map.2 ⟨c, List.mem_filter.2 ⟨List.mem_range.2 hc, hw⟩, rfl⟩
      have hv : vI (whoseL d k' d.cards.length) = .lst 0 1 (I (whoseL d k' d.cards.length)) := by rw [vI, zT_pos hWn]
      rw [hv] at h26 h10
      have hsum : halfD d k' = ⟨(d.halves.getD k' ⟨default, []⟩).name, 1 + (k' : Int), (bitsD d k' : Nat)⟩ := rfl
      generalize whoseL d k' d.cards.length = WL at *
      have hlz : ((WL.length : Int) == 0) = false := beq_false_of_ne (by omega)
      simp only [eD, eDc, hz2, hz3] at h26
      simp (disch := omega) only [go_sem, ↓reduceIte, simprocAttr, eC_clean, eC_under, eC_get, eC, hki, ca, h26, hlz, wrap_i64]
      generalize hcf : drawT _ _ _ = cf
      obtain rfl : cf = true := by rw [← hcf]; kernel_rfl
      generalize hTT : M ++ List.replicate _ false = TT
      have hTl : TT.length = M.length + 22 := by rw [← hTT, List.length_append, List.length_replicate]; rfl
      generalize M.length = q at hTl
      generalize List.replicate _ ABlk.none = N
      have hsl : ((sK d k').map eSu).length = k' := by rw [List.length_map, sK_len]
      have hsv : ((sK d k').map eSu).all AV.var = true := eSu_var _
      have hzk : zT 3 k' = 3 ∨ ((sK d k').map eSu).length = 0 := by
        by_cases h0 : k' = 0
        · exact .inr (by rw [hsl]; exact h0)
        · exact .inl (zT_pos (by omega))
      obtain ⟨ta, p1, p2, p3⟩ := app_at (X := tabX) (ty := 34) (e := 46) (sz := 3) (tag := 1) (z := 3) (t := TT) (xs := []) (.inl ⟨rfl, rfl⟩) (q + 3) (by omega) u2 (zT 3 k') ((sK d k').map eSu) (by simp only [go_sem, ↓reduceIte, simprocAttr]) (by simp only [go_sem, ↓reduceIte, simprocAttr]) (by omega)
        hzk (by simp only [go_sem, ↓reduceIte, simprocAttr, sK_len]; omega) (by simp only [go_sem, ↓reduceIte, simprocAttr, sK_len]; omega) (by simp only [go_sem, ↓reduceIte, simprocAttr]) hsv
      simp only [List.nil_append] at p1
      simp (disch := omega) only [go_sem, ↓reduceIte, simprocAttr, eC_clean, eC_under, eC_get, eC, hki, ca, wrap_i64, p1, h10]
      obtain ⟨tb, p4, p5, p6⟩ := app_at (X := tabX) (ty := 34) (e := 46) (sz := 3) (tag := q + 3 + 2) (z := 3) (t := ta) (xs := (sK d k').map eSu) (.inr ⟨q + 3, rfl, rfl, p2⟩) (q + 19) (by omega) 1 3 [eSu (halfD d k')] (by simp only [go_sem, ↓reduceIte, simprocAttr]) (by simp only [go_sem, ↓reduceIte, simprocAttr]) (by omega)
        (.inl rfl) (by simp only [go_sem, ↓reduceIte, simprocAttr, sK_len]; omega) (by simp only [go_sem, ↓reduceIte, simprocAttr, sK_len]; omega) (by simp only [go_sem, ↓reduceIte, simprocAttr]) rfl
      have hnew := sK_succ d k'
      rw [hnew] at p4
      have hz2' : zT 3 (k' + 1) = 3 := zT_pos (by omega)
      rw [hsum] at p4
      simp only [eSu] at p4
      simp (disch := omega) only [go_sem, ↓reduceIte, simprocAttr, eC_clean, eC_under, p4, wrap_i64]
      generalize hX2 : (EW tabX).code 3 none (.loop _) _ = X2
      refine w_rounds_sk hX2 (fun j _ => [(14, .int .i64 j)]) (fun s : Nat × (List ABlk × List Bool) × Nat => ⟨.cells [.int .i64 d.steps, .int .i64 d.least, .int .i64 d.wear, .lst 0 2 (d.cards.map eC), .lst 0 2 (d.halves.map eC)] :: .cells [.lst u1 (zT 1 d.cards.length) (S (d.cards.map Card.name)), .lst (q + 19 + 2) 3 ((sK d (k' + 1)).map eSu), .lst s.1 (zT 5 (wK k' s.2.2).length) ((wK k' s.2.2).map eWo), .lst 1 0 []] :: s.2.1.1, s.2.1.2⟩)
        (fun j s => s.2.2 = j) k' (.exit 4) (fun _ => [(14, .int .i64 k')]) rfl (u3, (E ++ N, tb), 0) ?_ ?_ rfl ?_ ?_ ?_
      · simp only [go_sem, ↓reduceIte, simprocAttr]
      · simp only [go_sem, ↓reduceIte, simprocAttr, wK_zero]
        done
      · rintro j ⟨u4, ⟨E, M⟩, j'⟩ hj hR
        obtain rfl : j' = j := hR
        have hji : (j' : Int) < k' := by omega
        have hwl := wK_len (show j' ≤ k' by omega) (show k' < 4 by omega)
        simp (disch := omega) only [go_sem, ↓reduceIte, simprocAttr, hji, wrap_i64]
        generalize hcf : drawT _ _ _ = cf
        obtain rfl : cf = true := by rw [← hcf]; kernel_rfl
        generalize hTT : M ++ List.replicate _ false = TT
        have hTl : TT.length = M.length + 9 := by rw [← hTT, List.length_append, List.length_replicate]; rfl
        generalize M.length = q2 at hTl
        generalize List.replicate _ ABlk.none = N
        have hwlm : ((wK k' j').map eWo).length ≤ 6 := by rw [List.length_map]; exact hwl
        have hwv : ((wK k' j').map eWo).all AV.var = true := eWo_var _
        have hzw : zT 5 (wK k' j').length = 5 ∨ ((wK k' j').map eWo).length = 0 := by
          rcases Nat.eq_zero_or_pos (wK k' j').length with e | e
          · exact .inr (by rw [List.length_map]; exact e)
          · exact .inl (zT_pos e)
        obtain ⟨tc, r1, r2, r3⟩ := app_at (X := tabX) (ty := 35) (e := 48) (sz := 5) (tag := 1) (z := 5) (t := TT) (xs := []) (.inl ⟨rfl, rfl⟩) (q2 + 3) (by omega) u4 (zT 5 (wK k' j').length) ((wK k' j').map eWo) (by simp only [go_sem, ↓reduceIte, simprocAttr]) (by simp only [go_sem, ↓reduceIte, simprocAttr]) (by omega)
          hzw (by simp only [go_sem, ↓reduceIte, simprocAttr]; omega) (by simp only [go_sem, ↓reduceIte, simprocAttr]; omega) (by simp only [go_sem, ↓reduceIte, simprocAttr]) hwv
        simp only [List.nil_append] at r1
        simp (disch := omega) only [go_sem, ↓reduceIte, simprocAttr, r1, wrap_i64]
        obtain ⟨td, r4, r5, r6⟩ := app_at (X := tabX) (ty := 35) (e := 48) (sz := 5) (tag := q2 + 3 + 2) (z := 5) (t := tc) (xs := (wK k' j').map eWo) (.inr ⟨q2 + 3, rfl, rfl, r2⟩) (q2 + 6) (by omega) 1 5 [eWo (wordD k' j')] (by simp only [go_sem, ↓reduceIte, simprocAttr]) (by simp only [go_sem, ↓reduceIte, simprocAttr]) (by omega)
          (.inl rfl) (by simp only [go_sem, ↓reduceIte, simprocAttr]; omega) (by simp only [go_sem, ↓reduceIte, simprocAttr]; omega) (by simp only [go_sem, ↓reduceIte, simprocAttr]) rfl
        rw [wK_succ] at r4
        have hz5 : zT 5 (wK k' (j' + 1)).length = 5 := zT_pos (by unfold wK; simp; omega)
        simp only [eWo, wordD] at r4
        simp (disch := omega) only [go_sem, ↓reduceIte, simprocAttr, r4, wrap_i64]
        refine ⟨(q2 + 6 + 2, (E ++ .cells [.int .i64 3, .int .i64 k', .int .i64 j', .int .i64 (-1), .bool true] :: N, td), j' + 1), ?_, rfl⟩
        simp only [hz5]
      · rintro ⟨u4, ⟨E, M⟩, j'⟩ hR
        obtain rfl : j' = k' := hR
        simp only [go_sem, ↓reduceIte, simprocAttr]
        done
      · rintro ⟨u4, ⟨E, M⟩, j'⟩ hx2 hR
        obtain rfl : j' = k' := hR
        rw [hx2]
        simp (disch := omega) only [go_sem, ↓reduceIte, simprocAttr, eC_clean, eC_under, wrap_i64]
        refine ⟨((q + 19 + 2, u4), (E, M), j' + 1), ?_, rfl⟩
        simp only [wK_all, hz2']
    · rintro ⟨⟨u2, u3⟩, ⟨E, M⟩, k'⟩ hR
      obtain rfl : k' = d.halves.length := hR
      simp only [go_sem, ↓reduceIte, simprocAttr]
      done
    · rintro ⟨⟨u2, u3⟩, ⟨E, M⟩, k'⟩ hx hR
      obtain rfl : k' = d.halves.length := hR
      rw [hx]
      clear hx hX
      have hmf := mD_fits hd ho
      have h11 := m11_yes (mD d) hmf (enter_D ho hf)
      rw [truths_D ho hf] at h11
      have hfi : (fairL d).headD [] = first d := rfl
      rw [hfi] at h11
      obtain ⟨ys, y1, y2, h40⟩ := c40 d hd ho
      have hyl := y1.1
      have hfl : (first d).length ≤ 4 := by have := (fair_truth (first_mem d)).1; omega
      have h20 := c20 (first d) (first d) 1 1 (fun _ => rfl) (fun _ => rfl) (by omega) (by omega)
      rw [show decide (first d = first d) = true by simp] at h20
      have emD : eM (mD d) = .agg [.lst 0 (zT 1 d.cards.length) (S (d.cards.map Card.name)), .lst 0 (zT 3 d.halves.length) ((sK d d.halves.length).map eSu), .lst 0 (zT 5 (wordsD d.halves.length).length) ((wordsD d.halves.length).map eWo), .lst 0 0 []] := rfl
      rw [emD] at h11
      simp only [eD, eDc, hz2, hz3] at h40
      have sc := eSu_clean (sK d d.halves.length)
      have su := fun n => eSu_under n (sK d d.halves.length)
      have wc := eWo_clean (wordsD d.halves.length)
      have wu := fun n => eWo_under n (wordsD d.halves.length)
      simp (disch := omega) only [go_sem, ↓reduceIte, simprocAttr, eC_clean, eC_under, h11, h40, h20, hyl, y2, sc, su, wc, wu, wrap_i64]
      rw [w_rounds_u (fun k => [(19, .int .i64 k)]) d.halves.length (.exit 6) [(19, .int .i64 d.halves.length)] ?_ ?_ ?_ rfl]
      · simp (disch := omega) only [go_sem, ↓reduceIte, simprocAttr, a5, a7]
        exact ⟨_, rfl⟩
      · simp only [go_sem, ↓reduceIte, simprocAttr]
      · intro k hk
        have hki : (k : Int) < d.halves.length := by omega
        have h26 := c26_yes d hd k (askedE_in d h0 k d.halves.length hk)
        have h28 := c28_yes d hd k (askedE_in d h0 k d.halves.length hk)
        have h15 := m15 (mD d) hmf k
        have h16 := m16 (mD d) hmf k
        rw [pay_V ho hf hk] at h15
        rw [for_V ho hf hk] at h16
        have hWl := whose_len d k d.cards.length
        have h20 := c20 (whoseL d k d.cards.length) (whoseL d k d.cards.length) (zT 1 (whoseL d k d.cards.length).length) (zT 1 (whoseL d k d.cards.length).length) (fun h => zT_pos (List.length_pos_iff.2 h)) (fun h => zT_pos (List.length_pos_iff.2 h)) (by omega) (by omega)
        rw [show decide (whoseL d k d.cards.length = whoseL d k d.cards.length) = true by simp] at h20
        rw [emD] at h15 h16
        simp only [vI] at h26 h16
        generalize (if cardV d k = -1 then (0 : Int) else cardV d k) = c1 at *
        generalize (if cardV d k = -1 then (9 : Int) else 0) = c2 at *
        generalize whoseL d k d.cards.length = WL at *
        simp only [eD, eDc, hz2, hz3] at h26 h28
        simp (disch := omega) only [go_sem, ↓reduceIte, simprocAttr, eC_clean, eC_under, hki, h26, h28, h15, h16, h20, sc, su, wc, wu, wrap_i64]
        done
      · simp only [go_sem, ↓reduceIte, simprocAttr]
end Go.Proofs.YtiighcpimecehaaGreat
end
section
namespace Go.Proofs.YtiighcpimecehaaGreat.topTokens
open Go.ChangeShapes Go.WideShapes Go.ChangeAt Go.RowKit Go.Proofs

theorem own : ownKnob Tryz.prog.godebug = none := by kernel_rfl
theorem laid : laidOutB Tryz.prog = true := by kernel_rfl
theorem row25 : Tryz.prog.readableRec 25 = true ∧ 25 < Tryz.prog.types.size := ⟨by kernel_rfl, of_decide_eq_true (by kernel_rfl)⟩
set_option maxRecDepth 100000 in
theorem lifted (os : Os) (started : os.Started) (H : Type) (enc : TypeId × Value → H) :
    ReturnsInHanded {} Tryz.checked os 3 .any (Rows.topTokensSpec.pre6 enc Tryz.prog Tryz.f3 Rows.topTokensRow.domain false) (Rows.topTokensSpec.post enc Tryz.prog Tryz.f3 false true false false) := by
  refine returnsInHanded_of_change_sized (C := Tryz.checked) own started (by kernel_rfl) Tryz.func3
    (ChangeSpec.witness6 (enc := enc) (C := Tryz.checked) false ⟨#[], #[.agg #[.int .i64 0, .int .i64 0, .int .i64 0, .slice none 0 0, .slice none 0 0]], []⟩ 8 (by kernel_rfl) (by kernel_rfl) (by kernel_rfl) (by kernel_rfl)) ?_
  intro W base args ds gs before hval0 hW hcnd hsz _
  have hval : ∀ (j : Nat) t v, Tryz.f3.params[j]? = some t → args[j]? = some v → Value.okWide Tryz.prog W .any base t v := hval0
  have hW' := hW
  obtain ⟨p, q, hA0, hV, rfl, hfz, hnd⟩ := hW
  have hA : DataW.TrodAll enc Tryz.prog W 0 (fun _ => true) true Tryz.f3.params.toList args.toList ds p := hA0
  rw [Tryz.params3] at hA hval
  obtain ⟨v0, vs0, d0, ds0, p0, q0, hargs, rfl, rfl, h0, r0⟩ := trodAll_cons hA
  obtain ⟨rfl, rfl, rfl⟩ := trodAll_nil r0
  obtain rfl : args = #[v0] := by cases args; simp_all
  obtain ⟨rfl, rfl⟩ := trodVars_none hV
  have lt0 : ∀ x ∈ p0, x.block < W.heap.size := by obtain ⟨m, hm⟩ := h0; exact DataW.trod_lt m _ _ _ hm
  obtain ⟨y0, g0, rv0⟩ := rd_dr2 (hval 0 25 v0 rfl rfl) h0 (light_each (ts := [25]) hsz (j := 0) rfl rfl)
  clear hA0 hval0
  simp only [List.append_nil] at hW'
  have hwalk : Calls Tryz.prog 3 #[v0] W fun e w' => e = .returned (.bool true) ∧ Below W.heap.size W w' := by
    obtain ⟨h', hc⟩ := t3 y0 g0
    refine ew_bool fitsX (args := [eD y0]) (vs := [v0]) hc ⟨rfl, fun i x hx => ?_⟩
    match i, hx with
    | 0, hx => obtain rfl : eD y0 = x := Option.some.inj hx; exact rv0
  refine hwalk.mono fun e W' ⟨he, bel⟩ => ?_
  subst he
  exact ⟨_, rfl, _, _, _, [], _, [], hW', trodAll_mk1 (shut_bool Tryz.underlying4 _), (trodAll_cons_mk (Below.trod laid row25.1 row25.2 h0 bel lt0) trodAll_mk0), rfl, bel.frame _, fun h => by cases h⟩

theorem over : Rows.topTokensRow.holds Tryz.pinned (OpenSpec.ofChange Rows.topTokensSpec) :=
  OpenClaim.holds_of_wide 3 Tryz.f3 rfl rfl rfl rfl rfl rfl rfl ⟨rfl, rfl, rfl, rfl, rfl⟩ rfl rfl rfl rfl rfl (by kernel_rfl) Tryz.func3 (by kernel_rfl)
    (of_decide_eq_true (by kernel_rfl)) (by unfold Func.isWrapper; first | (rw [if_pos (by decide +kernel)]; kernel_rfl) | (rw [if_neg (by decide +kernel)]; exact ⟨rfl, rfl⟩))
    (fun os started H enc _ => lifted os started H enc)

theorem proved : Rows.TopTokensSaid := over
#print axioms proved
end Go.Proofs.YtiighcpimecehaaGreat.topTokens
end
