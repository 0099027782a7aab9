/- What is left of the gift, by the program. Conditions: those of each law. -/
import Derived.Test.YthkpjbgadkkeeaaGreatQ14
set_option linter.unusedSimpArgs false
set_option linter.unusedVariables false
namespace Go.Proofs.YthkpjbgadkkeeaaGreat
open Go.Proofs
def lastTo (d : Fu) (day : Int) : Nat → Nat
 | 0 => 0
 | k + 1 => if dayAt d k ≤ day then k + 1 else lastTo d day k
theorem lastTo_le (d : Fu) (day : Int) : ∀ k, lastTo d day k ≤ k
 | 0 => Nat.le_refl _
 | k + 1 => by unfold lastTo; split; exact Nat.le_refl _; have := lastTo_le d day k; omega
def leftF (many : Nat) (row : List Int) (x : Sd) : List Int := if x.k = many then row.set x.left.toNat (row.getD x.left.toNat 0 + 1) else row
def zeros : List Int := List.replicate 301 0
theorem zeros_len : zeros.length = 301 := List.length_replicate
theorem tzeroZ : tzero tabX 91 = some (.agg (I zeros)) := tzero92
def z301 : List Nat := List.replicate 301 0
theorem teqZ : teq tabX 91 = some z301 := teq92
theorem eqZ {a b : List Int} (ha : a.length = 301) (hb : b.length = 301) : eqCells z301 (I a) (I b) = some (decide (a = b)) := eqRep 301 a b ha hb
def rowV (d : Fu) (day : Int) : List Int := (allM d 0 0 (ways d)).foldl (leftF (lastTo d day d.visits.length)) zeros
def dayE (d : Fu) (day : Int) : Int := enterE d (idxE day d.days 7)
def firstPos (l : List Int) : Int := if l.findIdx (fun n => decide (0 < n)) < l.length then (l.findIdx (fun n => decide (0 < n)) : Int) else -1
def lastPos (l : List Int) : Nat → Int
 | 0 => 0
 | k + 1 => if 0 < l.getD k 0 then (k : Int) else lastPos l k
def leftP (d : Fu) (day : Int) : (Int × Int) × Int := if dayE d day = 0 then (if rowV d day = zeros then (0, 0) else (firstPos (rowV d day), lastPos (rowV d day) 301), 0) else ((0, 0), dayE d day)
def vT (p : (Int × Int) × Int) : AV := .tup [eSp p.1, .int .i64 p.2]
def H16 (d : Fu) (day : Int) : List ABlk := [.cells (eFc d), .cells [.int .i64 0, .int .i64 0], .none, .none, .none, .none, .none, .none, .none, .none, .none, .none, .none, .cells [.int .i64 day], .cells [.int .i64 d.days], .cells [.int .i64 7]]
def Q16 (d : Fu) (day : Int) (many : Nat) : List ABlk := [.cells (eFc d), .cells [.int .i64 0, .int .i64 0], .none, .none, .none, .none, .none, .none, .none, .none, .none, .none, .none, .cells [.int .i64 day], .cells [.int .i64 d.days], .cells [.int .i64 7],
 .cells (eFc d), .cells (eFc d), .cells (eFs d 0 0), .cells [.int .i64 (many : Int)]]
set_option maxRecDepth 100000 in
set_option maxHeartbeats 4000000 in
theorem c16 (d : Fu) (hd : d.fits) (day : Int) (h : Heap) : callPure (EW tabX) 11 [eF d, .int .i64 day] h = some (vT (leftP d day), h) := by
 have hcl := eF_clean d
 have hlv := hd.lv
 have h51 := c51 day d.days 7 (List.take 13 (H16 d day)) (List.replicate 11 false)
 obtain ⟨hno, hyes⟩ := enter_idx d hd day d.days 7 (fun hc => by have := (ok_of_check hc).days; omega) 13 (H16 d day) (List.replicate 11 false) rfl rfl rfl
 have hv : enterE d (idxE day d.days 7) = dayE d day := rfl
 rw [hv] at hno hyes
 rw [callPure_eq, w_call _ fn_11 rfl]
 unfold leftP
 by_cases h0 : dayE d day = 0
 rotate_left
 ·rw [if_neg h0]
  have hc := hno h0
  have hne : (dayE d day != 0) = true := by simpa using h0
  simp only [go_sem, ↓reduceIte, simprocAttr, eF, eFc, H16] at hc h51
  simp only [go_sem, ↓reduceIte, simprocAttr, eF, eFc, List.size_toArray, h51, hc]
  generalize hcf : okFam _ _ _ = cf
  obtain rfl : cf = true := by rw [← hcf]; kernel_rfl
  simp only [go_sem, ↓reduceIte, simprocAttr, hne, vT, eSp]
 rw [if_pos h0]
 have hc := hyes h0
 obtain ⟨k1, k2, k3⟩ := enterE_zero (hv.trans h0)
 have ho := ok_of_check k1
 have hv5 := ho.visits
 simp only [go_sem, ↓reduceIte, simprocAttr, eF, eFc, eFs, HE, H16, cast_zero] at hc h51
 simp only [go_sem, ↓reduceIte, simprocAttr, eF, eFc, List.size_toArray, h51, hc]
 generalize hcf : okFam _ _ _ = cf
 obtain rfl : cf = true := by rw [← hcf]; kernel_rfl
 simp only [go_sem, ↓reduceIte, simprocAttr]
 rw [w_rounds_h (fun k => [(30, .int .i64 (k : Int))]) (fun k => ⟨Q16 d day (lastTo d day k) ++ (d.visits.take k).map bVi, List.replicate 11 false⟩) d.visits.length (.exit 0) [(30, .int .i64 (d.visits.length : Int))] ⟨Q16 d day (lastTo d day d.visits.length) ++ d.visits.map bVi, List.replicate 11 false⟩ ?_ ?_ ?_ ?_ rfl]
 ·have hB0 : ∀ Z, (Q16 d day (lastTo d day d.visits.length) ++ d.visits.map bVi ++ Z)[18]? = some (.cells (eFs d 0 0)) := fun Z => rfl
  have hBl : (Q16 d day (lastTo d day d.visits.length) ++ d.visits.map bVi).length = d.visits.length + 20 := by rw [List.length_append, List.length_map]; show 20 + _ = _; omega
  have h19 : ∀ Z, (Q16 d day (lastTo d day d.visits.length) ++ d.visits.map bVi ++ Z)[19]? = some (.cells [.int .i64 (lastTo d day d.visits.length : Int)]) := fun Z => rfl
  have h1 : ∀ Z, (Q16 d day (lastTo d day d.visits.length) ++ d.visits.map bVi ++ Z)[1]? = some (.cells [.int .i64 0, .int .i64 0]) := fun Z => rfl
  generalize hBB : Q16 d day (lastTo d day d.visits.length) ++ d.visits.map bVi = B at hB0 hBl h19 h1 ⊢
  have h57 := c57 18 (B ++ [.cells (I zeros)]) (List.replicate 11 false) (by rw [List.length_append, hBl]; omega)
  simp only [go_sem, ↓reduceIte, simprocAttr] at h57
  simp only [go_sem, ↓reduceIte, simprocAttr, ↓tzeroZ, h57]
  rw [w_range (gf := 100) (fst := []) (cap := [.ref (B.length + 1) 0])]
  rotate_left
  ·simp only [go_sem, ↓reduceIte, simprocAttr]
  generalize hLB : ABlk.loop false AExit.normal false 11 _ _ _ _ = LB
  obtain ⟨LB', b1, b2, b3⟩ : ∃ LB', beginBlk LB = some LB' ∧ endBlk .normal LB' = some LB ∧ (∀ h : Heap, h.b[B.length + 3]? = some LB → ∀ fr ms, afterRange (B.length + 3) fr ms h = some (.normal, ⟨fr, h.put (B.length + 3) .none, ms⟩)) := by
   rw [← hLB]
   exact ⟨_, rfl, rfl, fun h hh fr ms => by unfold afterRange; rw [hh]⟩
  let S : ConS d 0 0 18 (B.length + 1) (B.length + 4) (B.length + 3) (List Int) := {
   P := fun s => B ++ [.cells (I s), .cells [.ref 18 0], .mark, LB]
   st0 := zeros
   stp := leftF (lastTo d day d.visits.length)
   len := fun s => by simp
   fund := fun s => hB0 _
   bx := fun s => get_at B _ 1
   Inv := fun k s => s.length = 301 ∧ ∀ v ∈ s, 0 ≤ v ∧ v ≤ (k : Int)
   rnd := by
    intro k s X tb x hi hk9 hx
    obtain ⟨hi1, hi2⟩ := hi
    have hat : (⟨(B ++ [.cells (I s), .cells [.ref 18 0], .mark, LB]) ++ X, tb⟩ : Heap).b[B.length + 3]? = some LB := by
     show ((B ++ [.cells (I s), .cells [.ref 18 0], .mark, LB]) ++ X)[B.length + 3]? = _
     rw [List.append_assoc, get_at]; rfl
    have hat2 := hat.trans (congrArg some hLB.symm)
    rw [stepRound_eq tabX hat2]
    clear hat hat2
    simp only [y1, Option.bind_some, roundK]
    have hl := hx.left
    obtain ⟨ln, hln⟩ := Int.eq_ofNat_of_zero_le hl.1
    have hll : ln < s.length := by omega
    have hsx := List.getElem?_eq_getElem hll
    have hsb := hi2 _ (List.getElem_mem hll)
    have hw : IntKind.i64.wrap (s[ln] + 1) = s[ln] + 1 := wrap_i64 (by omega)
    have hgd : s.getD ln 0 = s[ln] := by simp [hll]
    have hlti : (ln : Int) < 301 := by omega
    have hll2 : ln < 301 := by omega
    have hll3 : ln ≤ 300 := by omega
    have hset : (I s).set ln (.int .i64 (s[ln] + 1)) = I (s.set ln (s[ln] + 1)) := by unfold I; rw [List.map_set]
    have hInv : (leftF (lastTo d day d.visits.length) s x).length = 301 ∧ ∀ v ∈ leftF (lastTo d day d.visits.length) s x, 0 ≤ v ∧ v ≤ ((k + 1 : Nat) : Int) := by
     unfold leftF
     have hlt : x.left.toNat = ln := by rw [hln]; simp
     split
     ·rw [hlt, hgd]
      refine ⟨by simpa using hi1, fun v hv => ?_⟩
      rcases List.mem_or_eq_of_mem_set hv with h | h
      ·have := hi2 v h; omega
      ·omega
     ·exact ⟨hi1, fun v hv => by have := hi2 v hv; omega⟩
    refine ⟨[.cells (sdK x)], [], hInv, ?_⟩
    by_cases hxk : x.k = lastTo d day d.visits.length
    ·have e0 : leftF (lastTo d day d.visits.length) s x = s.set ln (s[ln] + 1) := by unfold leftF; rw [if_pos hxk, hln]; simp only [Int.ofNat_eq_natCast, Int.toNat_natCast, hgd]
     have hxi : ((x.k : Int) == (lastTo d day d.visits.length : Int)) = true := by simp [hxk]
     rw [e0]
     simp only [go_sem, ↓reduceIte, simprocAttr, ↓tsz92, ↓trow92, turnBlk, b1, b2, isNormal, sdK, hln, h19, hxi, hlti, hll2, hll3, hi1, hsx, hw, Nat.mul_one, List.getElem?_drop, splice, hset]
    ·have e0 : leftF (lastTo d day d.visits.length) s x = s := by unfold leftF; rw [if_neg hxk]
     have hxi : ((x.k : Int) == (lastTo d day d.visits.length : Int)) = false := by simp; omega
     rw [e0]
     simp only [go_sem, ↓reduceIte, simprocAttr, turnBlk, b1, b2, isNormal, sdK, h19, hxi] }
  obtain ⟨F, M, m1, m3, m2⟩ := c80 hd ho (by omega) (by omega) S ⟨zeros_len, fun v hv => by have := List.eq_of_mem_replicate hv; omega⟩ (by omega) (by omega) (by omega) (List.replicate 11 false)
  subst m1
  have hP : ∀ s, S.P s = B ++ [.cells (I s), .cells [.ref 18 0], .mark, LB] := fun _ => rfl
  have hS : S.stp = leftF (lastTo d day d.visits.length) := rfl
  have hS0 : S.st0 = zeros := rfl
  have hSI : ∀ k s, S.Inv k s = (s.length = 301 ∧ ∀ v ∈ s, 0 ≤ v ∧ v ≤ (k : Int)) := fun _ _ => rfl
  rw [hP, hP, hS, hS0] at m2
  rw [hS, hS0, hSI] at m3
  have hE : (allM d 0 0 (ways d)).foldl (leftF (lastTo d day d.visits.length)) zeros = rowV d day := rfl
  rw [hE] at m2 m3
  generalize rowV d day = row at m2 m3 ⊢
  have hrl := m3.1
  have heq := eqZ hrl zeros_len
  simp only [go_sem, ↓reduceIte, simprocAttr] at m2
  simp only [go_sem, ↓reduceIte, simprocAttr, ↓tsz92, ↓trow92, ↓teqZ, ↓tzeroZ, m2]
  rw [b3 _ (by simp only [go_sem, ↓reduceIte, simprocAttr])]
  have htk : row.take 301 = row := List.take_of_length_le (by omega)
  simp only [go_sem, ↓reduceIte, simprocAttr, ↓tsz92, ↓trow92, ↓teqZ, ↓tzeroZ, heq, hrl, htk]
  by_cases hz : row = zeros
  ·rw [if_pos hz]
   have hs0 : ∀ Z, (B ++ Z).set 1 (.cells [.int .i64 0, .int .i64 0]) = B ++ Z := fun Z => set_same (h1 Z)
   simp only [go_sem, ↓reduceIte, simprocAttr, hz, h1, hs0, vT, eSp]
  ·rw [if_neg hz]
   have hex : ∃ v ∈ row, decide (0 < v) = true := by
    refine Decidable.byContradiction fun hno => hz ?_
    refine List.eq_replicate_iff.2 ⟨hrl, fun v hv => ?_⟩
    have h2 := m3.2 v hv
    have : ¬ 0 < v := fun h => hno ⟨v, hv, by simpa using h⟩
    omega
   have hil := List.findIdx_lt_length_of_exists hex
   have hip : 0 < row.getD (row.findIdx fun n => decide (0 < n)) 0 := by
    have := List.findIdx_getElem (p := fun n : Int => decide (0 < n)) (xs := row) (w := hil)
    rw [List.getD_eq_getElem?_getD, List.getElem?_eq_getElem hil]
    simpa using this
   have hin : ∀ j, j < (row.findIdx fun n => decide (0 < n)) → ¬ 0 < row.getD j 0 := fun j hj => by
    have h3 := List.not_of_lt_findIdx hj
    have hjl : j < row.length := by omega
    rw [List.getD_eq_getElem?_getD, List.getElem?_eq_getElem hjl]
    simpa using h3
   have hfp : firstPos row = ((row.findIdx fun n => decide (0 < n) : Nat) : Int) := by unfold firstPos; rw [if_pos hil]
   rw [hfp]
   generalize (row.findIdx fun n => decide (0 < n)) = i at hil hip hin ⊢
   have hB1 : 1 < B.length := by omega
   have hs1 : ∀ Z x, (B ++ Z).set 1 x = B.set 1 x ++ Z := fun Z x => List.set_append_left _ _ hB1
   have hBs : ∀ x, (B.set 1 x).length = B.length := fun x => List.length_set
   have hg1 : ∀ x Z, (B.set 1 x ++ Z)[1]? = some x := fun x Z => old (List.getElem?_set_self hB1) Z
   have hs2 : ∀ x y Z, (B.set 1 x ++ Z).set 1 y = B.set 1 y ++ Z := fun x y Z => by
    rw [List.set_append_left _ _ (by rw [hBs]; exact hB1), List.set_set]
   have hgB : ∀ x Z j, (B.set 1 x ++ Z)[B.length + j]? = Z[j]? := fun x Z j => q_get (hBs x) Z j
   have hgB0 : ∀ x Z, (B.set 1 x ++ Z)[B.length]? = Z[0]? := fun x Z => q_get0 (hBs x) Z
   have hsB : ∀ x Z j y, (B.set 1 x ++ Z).set (B.length + j) y = B.set 1 x ++ Z.set j y := fun x Z j y => q_set (hBs x) Z j y
   have h58 := c58b row B.length (B ++ [.cells (I row), .cells [.ref 18 0], .mark, .none]) (List.replicate 11 false ++ F) (by simp) (by omega) i hil hip hin
   rw [hrl] at h58
   simp only [go_sem, ↓reduceIte, simprocAttr] at h58
   simp only [go_sem, ↓reduceIte, simprocAttr, ↓tsz92, ↓trow92, ↓teqZ, ↓tzeroZ, hrl, htk, h58, h1, hs1, hg1, hgB, hgB0, hBs]
   rw [w_rounds_h (fun k => [(63, .int .i64 (k : Int))]) (fun k => ⟨B.set 1 (.cells [.int .i64 (i : Int), .int .i64 (lastPos row k)]) ++ [.cells (I row), .cells [.ref 18 0], .mark, .none], List.replicate 11 false ++ F⟩) 301 (.exit 4) [(63, .int .i64 301)] ⟨B.set 1 (.cells [.int .i64 (i : Int), .int .i64 (lastPos row 301)]) ++ [.cells (I row), .cells [.ref 18 0], .mark, .none], List.replicate 11 false ++ F⟩ ?_ ?_ ?_ ?_ rfl]
   ·simp only [go_sem, ↓reduceIte, simprocAttr, hs2, hg1, hgB, hsB, hBs, vT, eSp, hz]
   ·simp only [go_sem, ↓reduceIte, simprocAttr]
   ·simp only [go_sem, ↓reduceIte, simprocAttr, lastPos]
   ·intro k hk
    have hkl : k < row.length := by omega
    have hki : (k : Int) < 301 := by omega
    have hkn : k < 301 := hk
    have hx := List.getElem?_eq_getElem hkl
    have hgd : row.getD k 0 = row[k] := by simp [hkl]
    have hw : IntKind.i64.wrap ((k : Int) + 1) = (k : Int) + 1 := wrap_i64 (by omega)
    have hlp : lastPos row (k + 1) = if 0 < row[k] then (k : Int) else lastPos row k := by rw [← hgd]; rfl
    rw [hlp]
    by_cases hp : 0 < row[k]
    ·simp only [go_sem, ↓reduceIte, simprocAttr, ↓tsz92, ↓trow92, hki, hkn, hx, hrl, hp, hw, hg1, hs2, Nat.mul_one, List.getElem?_drop]
    ·simp only [go_sem, ↓reduceIte, simprocAttr, ↓tsz92, ↓trow92, hki, hkn, hx, hrl, hp, hw, Nat.mul_one, List.getElem?_drop]
   ·simp only [go_sem, ↓reduceIte, simprocAttr]
 ·simp only [go_sem, ↓reduceIte, simprocAttr]
 ·simp only [go_sem, ↓reduceIte, simprocAttr, Q16, eFc, eFs, cast_zero, lastTo]
 ·intro k hk
  have hx := List.getElem?_eq_getElem hk
  have hki : (k : Int) < d.visits.length := by omega
  have hzv := hd.zv (by intro e; rw [e] at hk; simp at hk)
  have hw : IntKind.i64.wrap ((k : Int) + 1) = (k : Int) + 1 := wrap_i64 (by omega)
  have hda : dayAt d k = d.visits[k].day := by unfold dayAt; rw [hx]
  have hls : lastTo d day (k + 1) = if d.visits[k].day ≤ day then k + 1 else lastTo d day k := by rw [← hda]; rfl
  rw [map_succ _ hx, ← List.append_assoc]
  generalize (d.visits.take k).map bVi = M
  have hD0 : ∀ Z, (Q16 d day (lastTo d day k) ++ M ++ Z)[0]? = some (.cells (eFc d)) := fun Z => rfl
  have hs : ∀ Z, (Q16 d day (lastTo d day k) ++ M ++ Z).set 19 (.cells [.int .i64 ((k : Int) + 1)]) = Q16 d day (k + 1) ++ M ++ Z := fun Z => rfl
  have h19 : ∀ Z, (Q16 d day (lastTo d day k) ++ M ++ Z)[19]? = some (.cells [.int .i64 (lastTo d day k : Int)]) := fun Z => rfl
  by_cases hle : d.visits[k].day ≤ day
  ·rw [hls, if_pos hle]
   generalize Q16 d day (lastTo d day k) ++ M = D at hD0 hs h19 ⊢
   generalize Q16 d day (k + 1) ++ M = D2 at hs ⊢
   simp only [eFc] at hD0
   simp only [go_sem, ↓reduceIte, simprocAttr, hki, hx, eVi, bVi, hzv, hle, hw, hD0, h19, hs]
  ·rw [hls, if_neg hle]
   generalize Q16 d day (lastTo d day k) ++ M = D at hD0 hs h19 ⊢
   simp only [go_sem, ↓reduceIte, simprocAttr, hki, hx, eVi, bVi, hzv, hle, hw]
 ·simp only [go_sem, ↓reduceIte, simprocAttr, Int.lt_irrefl]
end Go.Proofs.YthkpjbgadkkeeaaGreat
