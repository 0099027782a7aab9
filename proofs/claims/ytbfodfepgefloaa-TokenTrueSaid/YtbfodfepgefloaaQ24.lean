/- The body of TokenMore. Conditions: those of each law. -/
import Derived.Test.YtbfodfepgefloaaQ23
set_option linter.unusedSimpArgs false
set_option linter.unusedVariables false
namespace Go.Proofs.Ytbfodfepgefloaa
open Go.Proofs

def edgeL (x : List Int) (n : Nat) : List Int := (List.range n).map fun i => (turnL x i).tmod 10
theorem edgeL_succ (x : List Int) (n : Nat) : edgeL x (n + 1) = edgeL x n ++ [(turnL x n).tmod 10] := by unfold edgeL; rw [List.range_succ, List.map_append]; rfl
theorem edgeL_len (x : List Int) (n : Nat) : (edgeL x n).length = n := by simp [edgeL]
theorem edgeL_zero (x : List Int) : edgeL x 0 = [] := rfl
def zNew : ByteArray := ⟨#[122, 46, 110, 101, 119]⟩
theorem app_at {X : Tab} {ty e : TypeId} {sz : Nat} {tag z : Nat} {t : List Bool} {xs : List AV} (hn : OwnQ sz tag z xs.length t) (p : Nat) (hp : p < t.length) (u z' : Nat) (ys : List AV) (ht : trow X ty = .slice e) (hs : tsz X e = sz) (h0 : 0 < sz) (hz' : z' = sz ∨ ys.length = 0)
    (hy : (xs.length + ys.length) * tbytes X e ≤ 1048576) (hy2 : xs.length + ys.length ≤ 1048576) (hf : zeroFits X e = true) (hv : ys.all AV.var = true) :
    ∃ t2, (∀ B, appendAV X ty p ⟨B, t⟩ (.lst tag z xs) (.lst u z' ys) = some (.lst (p + 2) sz (xs ++ ys), ⟨B, t2⟩)) ∧ t2[p]? = some true ∧ t2.length = t.length := by
  have hc : (z' = tsz X e ∨ ys.length = 0) ∧ 0 < tsz X e ∧ (xs.length + ys.length) * tbytes X e ≤ appLimit ∧ xs.length + ys.length ≤ appLimit ∧ zeroFits X e = true ∧ ys.all AV.var = true := by
    rw [hs]; exact ⟨hz', h0, hy, hy2, hf, hv⟩
  unfold appendAV
  simp only [ht, if_pos hc]
  rcases hn with ⟨rfl, hn0⟩ | ⟨q, rfl, hq, hqt⟩
  · have hx : z = tsz X e ∨ xs.length = 0 := by rw [hs]; exact hn0.symm
    refine ⟨t.set p true, fun B => ?_, by simp [hp], by simp⟩
    rw [if_pos hx]
    simp only [hs, lset, if_pos hp]
  · have hx : z = tsz X e := by rw [hs, hq]
    refine ⟨(t.set q false).set p true, fun B => ?_, by simp [hp], by simp⟩
    simp only [hqt]
    rw [if_pos hx]
    simp only [hs, lset, List.length_set, if_pos hp]
theorem hush_14_17 : tabX.hush 14 17 = false := id rfl
theorem withD_fits {d : Dr} (hd : d.fits) (h4 : d.cards.length ≤ 4) (name : ByteArray) (edge : List Int) (hn : name.size < 1000) (he : edge.length < 1000) : (withD d name edge).fits := by
  refine ⟨fun _ => rfl, hd.zh, ?_, hd.lh, fun c hc => ?_, hd.nh⟩
  · show (d.cards ++ [_]).length < _
    rw [List.length_append, List.length_singleton]; omega
  · rcases List.mem_append.1 hc with h1 | h1
    · exact hd.nc c h1
    · simp at h1; subst h1; exact ⟨by simp only; omega, by simp only; omega⟩
set_option maxHeartbeats 4000000 in
theorem l14 (d : Dr) (hd : d.fits) (x : List Int) (hx : x.length < 1000000000000000000 ∧ ∀ n ∈ x, 0 ≤ n ∧ n ≤ 255) (w : Int) (hw : 0 ≤ w ∧ w ≤ 255) : ∃ h', (EW tabX).call 14 [eD d, .lst 0 1 (x.map (AV.int .u8)), .int .u8 w] noHeap = some (.bool true, h') := by
  have hcl := eD_clean d
  have h21 := c21
  have h37 := c37 d hd
  have hxc : cleanL (x.map (AV.int .u8)) = some (x.map (AV.int .u8)) := cleanL_map (fun n => clean_int _ n) x
  rw [noHeap, w_call _ fn_14 rfl]
  by_cases hc : (checkT d).2.2 = 0
  · obtain ⟨ho, hk⟩ := ok_of_check hc
    have s1 := ho.s1
    have s6 := ho.s6
    have hc4 := ho.c4
    have hh4 := ho.h4
    rw [hc] at h37
    have h24 := c24_yes d hd hc
    have h48 := c48 x hx.2 hx.1
    have hel := edgeL_len x d.steps.toNat
    have hz1 : zT 1 (edgeL x d.steps.toNat).length = 1 := zT_pos (by omega)
    have h49 := c49 d (by omega) hd.zc zNew (edgeL x d.steps.toNat)
    have hd2 := withD_fits hd hc4 zNew (edgeL x d.steps.toNat) (by decide) (by omega)
    have hcl2 := eD_clean (withD d zNew (edgeL x d.steps.toNat))
    have h37' := c37 (withD d zNew (edgeL x d.steps.toNat)) hd2
    have hlo := withD_lost d zNew (edgeL x d.steps.toNat)
    have hlo' : (((forged d).length : Int) < (forged (withD d zNew (edgeL x d.steps.toNat))).length) = False := by simp only [eq_iff_iff, iff_false]; omega
    have hsn : ((d.steps.toNat : Nat) : Int) = d.steps := by omega
    have eD2 : eD (withD d zNew (edgeL x d.steps.toNat)) = .agg [.int .i64 d.steps, .int .i64 d.least, .int .i64 d.wear, .lst 0 2 ((d.cards ++ [(⟨zNew, edgeL x d.steps.toNat⟩ : Card)]).map eC), .lst 0 d.zh (d.halves.map eC)] := rfl
    have h24' : ∃ l r, (∀ h, callPure (EW tabX) 24 [eD (withD d zNew (edgeL x d.steps.toNat))] h = some (.tup [vI l, .int .i64 r], h)) ∧ ((checkT (withD d zNew (edgeL x d.steps.toNat))).2.2 = 0 → r = 0 ∧ l.length ≤ (forged d).length) := by
      by_cases hv : (checkT (withD d zNew (edgeL x d.steps.toNat))).2.2 = 0
      · exact ⟨forged (withD d zNew (edgeL x d.steps.toNat)), 0, c24_yes _ hd2 hv, fun _ => ⟨rfl, hlo⟩⟩
      · exact ⟨[], (checkT (withD d zNew (edgeL x d.steps.toNat))).2.2, c24_no _ hd2 hv, fun h => absurd h hv⟩
    obtain ⟨l2, r2, h24', hv2⟩ := h24'
    change ∀ h, callPure (EW tabX) 49 [eD d, .str zNew, .lst 0 1 (I (edgeL x d.steps.toNat))] h = some (eD (withD d zNew (edgeL x d.steps.toNat)), h) at h49
    rw [eD2] at h49 hcl2 h37' h24'
    generalize hV : ((checkT (withD d zNew (edgeL x d.steps.toNat))).2.2 == 0) = V at h37'
    have hv3 : V = true → r2 = 0 ∧ (((forged d).length : Int) < l2.length) = False := fun h => by
      rw [h] at hV
      obtain ⟨q1, q2⟩ := hv2 (by simpa using hV)
      exact ⟨q1, by simp only [eq_iff_iff, iff_false]; omega⟩
    simp only [go_sem, ↓reduceIte, Nat.reduceBEq, Nat.reduceEqDiff, Nat.reduceLT, Nat.reduceLeDiff, Nat.reduceAdd, Nat.reduceMul, Nat.reduceSub, reduceCtorEq, Int.reduceLT, Int.reduceLE, Int.reduceEq, Int.reduceBEq, Int.reduceBNe, Int.reduceToNat, Int.reduceAdd, Int.reduceNeg, Int.reduceSub, eD, eDc, eC_under] at hcl hcl2 h37 h37' h24 h24' h49 ⊢
    simp (disch := omega) only [go_sem, ↓reduceIte, Nat.reduceBEq, Nat.reduceEqDiff, Nat.reduceLT, Nat.reduceLeDiff, Nat.reduceAdd, Nat.reduceMul, Nat.reduceSub, reduceCtorEq, Int.reduceLT, Int.reduceLE, Int.reduceEq, Int.reduceBEq, Int.reduceBNe, Int.reduceToNat, Int.reduceAdd, Int.reduceNeg, Int.reduceSub, eC_clean, eC_under, h37, h24]
    rw [w_rounds_h (fun k => [(9, ownT [] (edgeL x k)), (10, .int .i64 k)]) (fun k => ⟨[.cells (eDc d)], T [] (edgeL x k).length⟩) d.steps.toNat (.exit 0) [(9, ownT [] (edgeL x d.steps.toNat)), (10, .int .i64 d.steps.toNat)] ⟨[.cells (eDc d)], T [] (edgeL x d.steps.toNat).length⟩ ?_ ?_ ?_ ?_ rfl]
    · have hoc := ownT_clean [] (edgeL x d.steps.toNat)
      have hvI : vI (edgeL x d.steps.toNat) = .lst 0 1 (I (edgeL x d.steps.toNat)) := by rw [vI, hz1]
      rw [hvI] at hoc
      have hbz : (⟨#[122, 46, 110, 101, 119]⟩ : ByteArray) = zNew := rfl
      have hc2 : cleanL ((d.cards ++ [(⟨zNew, edgeL x d.steps.toNat⟩ : Card)]).map eC) = some ((d.cards ++ [(⟨zNew, edgeL x d.steps.toNat⟩ : Card)]).map eC) := eC_clean _
      have hu2 : ∀ n, underL n ((d.cards ++ [(⟨zNew, edgeL x d.steps.toNat⟩ : Card)]).map eC) = true := fun n => eC_under n _
      generalize (d.cards ++ [(⟨zNew, edgeL x d.steps.toNat⟩ : Card)]).map eC = C2 at h49 h24' h37' hc2 hu2
      have next : ∀ q : Bool, q = V → True := fun _ _ => trivial
      by_cases hh0 : d.halves.length = 0
      · cases hVV : V with
        | true =>
          obtain ⟨r0, r1⟩ := hv3 hVV
          subst r0
          rw [hVV] at h37'
          simp (disch := omega) only [go_sem, ↓reduceIte, Nat.reduceBEq, Nat.reduceEqDiff, Nat.reduceLT, Nat.reduceLeDiff, Nat.reduceAdd, Nat.reduceMul, Nat.reduceSub, reduceCtorEq, Int.reduceLT, Int.reduceLE, Int.reduceEq, Int.reduceBEq, Int.reduceBNe, Int.reduceToNat, Int.reduceAdd, Int.reduceNeg, Int.reduceSub, eC_clean, eC_under, hoc, hbz, h49, hc2, hu2, h24', h37', h21, vI, r1, hh0, eDc]
          exact ⟨_, rfl⟩
        | false =>
          rw [hVV] at h37'
          simp (disch := omega) only [go_sem, ↓reduceIte, Nat.reduceBEq, Nat.reduceEqDiff, Nat.reduceLT, Nat.reduceLeDiff, Nat.reduceAdd, Nat.reduceMul, Nat.reduceSub, reduceCtorEq, Int.reduceLT, Int.reduceLE, Int.reduceEq, Int.reduceBEq, Int.reduceBNe, Int.reduceToNat, Int.reduceAdd, Int.reduceNeg, Int.reduceSub, eC_clean, eC_under, hoc, hbz, h49, hc2, hu2, h24', h37', h21, vI, hh0, eDc]
          exact ⟨_, rfl⟩
      · have hpos : 0 < d.halves.length := by omega
        have hz0 : ((d.halves.length : Int) == 0) = false := by rw [beq_eq_false_iff_ne]; omega
        have hz0' : ((d.halves.length : Int) = 0) = False := by simp only [eq_iff_iff, iff_false]; omega
        obtain ⟨i, hi, hix⟩ : ∃ i : Nat, i < d.halves.length ∧ w.tmod d.halves.length = i := by
          obtain ⟨n, rfl⟩ : ∃ n : Nat, w = n := ⟨w.toNat, by omega⟩
          exact ⟨n % d.halves.length, Nat.mod_lt _ hpos, rfl⟩
        have hzh : d.zh = 2 := hd.zh (by intro h; rw [h] at hpos; simp at hpos)
        have hile : i ≤ d.halves.length := by omega
        have hile2 : i + 1 ≤ d.halves.length := by omega
        have h2n : (0 : Nat) < 2 := by omega
        have hfl4 := forged_len d hh4
        have i1 : ((i : Int) + 1 < 0) = False := by simp only [eq_iff_iff, iff_false]; omega
        have i2 : ((i : Int) + 1).toNat = i + 1 := by omega
        have htk : (d.halves.map eC).take d.halves.length = d.halves.map eC := List.take_of_length_le (by simp)
        have hl0 := lessD_lost hi
        have hd3 := lessD_fits hd (h := i)
        have h24l := c24_yes (lessD d i) hd3 (checked (lessD_ok ho hi))
        have hum : ∀ n, underL n ((lessD d i).halves.map eC) = true := fun n => eC_under n _
        have hcm : cleanL ((lessD d i).halves.map eC) = some ((lessD d i).halves.map eC) := eC_clean _
        have eD3 : eD (lessD d i) = .agg [.int .i64 d.steps, .int .i64 d.least, .int .i64 d.wear, .lst 0 d.zc (d.cards.map eC), .lst 0 2 ((lessD d i).halves.map eC)] := rfl
        rw [eD3] at h24l
        have hl1 : (((forged (lessD d i)).length : Int) ≤ (forged d).length) = True := by simp only [eq_iff_iff, iff_true]; omega
        have hl2 : (((forged d).length : Int) - 1 ≤ (forged (lessD d i)).length) = True := by simp only [eq_iff_iff, iff_true]; omega
        cases hVV : V with
        | true =>
          obtain ⟨r0, r1⟩ := hv3 hVV
          subst r0
          rw [hVV] at h37'
          simp (disch := omega) only [go_sem, ↓reduceIte, Nat.reduceBEq, Nat.reduceEqDiff, Nat.reduceLT, Nat.reduceLeDiff, Nat.reduceAdd, Nat.reduceMul, Nat.reduceSub, reduceCtorEq, Int.reduceLT, Int.reduceLE, Int.reduceEq, Int.reduceBEq, Int.reduceBNe, Int.reduceToNat, Int.reduceAdd, Int.reduceNeg, Int.reduceSub, eC_clean, eC_under, hoc, hbz, h49, hc2, hu2, h24', h37', h21, vI, r1, hz0, hz0', hix, eDc, wrap_i64, hush_14_17]
          generalize hcf : List.all (conflicts _ _) _ = cf
          obtain rfl : cf = true := by rw [← hcf]; kernel_rfl
          generalize hTT : T [] (edgeL x d.steps.toNat).length ++ List.replicate _ false = TT
          have hTl : TT.length = (T [] (edgeL x d.steps.toNat).length).length + 14 := by rw [← hTT, List.length_append, List.length_replicate]; rfl
          generalize (T [] (edgeL x d.steps.toNat).length).length = q at hTl
          generalize List.replicate _ ABlk.none = N
          obtain ⟨ta, p1, p2, p3⟩ := app_at (X := tabX) (ty := 23) (e := 65) (sz := 2) (tag := 1) (z := 2) (t := TT) (xs := []) (.inl ⟨rfl, .inl rfl⟩) (q + 5) (by omega) 0 2 ((d.halves.map eC).take i) (by simp only [go_sem, ↓reduceIte, Nat.reduceBEq, Nat.reduceEqDiff, Nat.reduceLT, Nat.reduceLeDiff, Nat.reduceAdd, Nat.reduceMul, Nat.reduceSub, reduceCtorEq, Int.reduceLT, Int.reduceLE, Int.reduceEq, Int.reduceBEq, Int.reduceBNe, Int.reduceToNat, Int.reduceAdd, Int.reduceNeg, Int.reduceSub]) (by simp only [go_sem, ↓reduceIte, Nat.reduceBEq, Nat.reduceEqDiff, Nat.reduceLT, Nat.reduceLeDiff, Nat.reduceAdd, Nat.reduceMul, Nat.reduceSub, reduceCtorEq, Int.reduceLT, Int.reduceLE, Int.reduceEq, Int.reduceBEq, Int.reduceBNe, Int.reduceToNat, Int.reduceAdd, Int.reduceNeg, Int.reduceSub]) (by omega)
            (.inl rfl) (by simp only [go_sem, ↓reduceIte, Nat.reduceBEq, Nat.reduceEqDiff, Nat.reduceLT, Nat.reduceLeDiff, Nat.reduceAdd, Nat.reduceMul, Nat.reduceSub, reduceCtorEq, Int.reduceLT, Int.reduceLE, Int.reduceEq, Int.reduceBEq, Int.reduceBNe, Int.reduceToNat, Int.reduceAdd, Int.reduceNeg, Int.reduceSub, List.length_take, List.length_map]; omega) (by simp only [go_sem, ↓reduceIte, Nat.reduceBEq, Nat.reduceEqDiff, Nat.reduceLT, Nat.reduceLeDiff, Nat.reduceAdd, Nat.reduceMul, Nat.reduceSub, reduceCtorEq, Int.reduceLT, Int.reduceLE, Int.reduceEq, Int.reduceBEq, Int.reduceBNe, Int.reduceToNat, Int.reduceAdd, Int.reduceNeg, Int.reduceSub, List.length_take, List.length_map]; omega) (by simp only [go_sem, ↓reduceIte, Nat.reduceBEq, Nat.reduceEqDiff, Nat.reduceLT, Nat.reduceLeDiff, Nat.reduceAdd, Nat.reduceMul, Nat.reduceSub, reduceCtorEq, Int.reduceLT, Int.reduceLE, Int.reduceEq, Int.reduceBEq, Int.reduceBNe, Int.reduceToNat, Int.reduceAdd, Int.reduceNeg, Int.reduceSub]) (by rw [← List.map_take]; exact all_map (fun x => by simp only [eC, go_sem, ↓reduceIte, Nat.reduceBEq, Nat.reduceEqDiff, Nat.reduceLT, Nat.reduceLeDiff, Nat.reduceAdd, Nat.reduceMul, Nat.reduceSub, reduceCtorEq, Int.reduceLT, Int.reduceLE, Int.reduceEq, Int.reduceBEq, Int.reduceBNe, Int.reduceToNat, Int.reduceAdd, Int.reduceNeg, Int.reduceSub]) _)
          obtain ⟨tb, p4, p5, p6⟩ := app_at (X := tabX) (ty := 23) (e := 65) (sz := 2) (tag := q + 5 + 2) (z := 2) (t := ta) (xs := (d.halves.map eC).take i) (.inr ⟨q + 5, rfl, rfl, p2⟩) (q + 11) (by omega) 0 2 ((d.halves.map eC).drop (i + 1)) (by simp only [go_sem, ↓reduceIte, Nat.reduceBEq, Nat.reduceEqDiff, Nat.reduceLT, Nat.reduceLeDiff, Nat.reduceAdd, Nat.reduceMul, Nat.reduceSub, reduceCtorEq, Int.reduceLT, Int.reduceLE, Int.reduceEq, Int.reduceBEq, Int.reduceBNe, Int.reduceToNat, Int.reduceAdd, Int.reduceNeg, Int.reduceSub]) (by simp only [go_sem, ↓reduceIte, Nat.reduceBEq, Nat.reduceEqDiff, Nat.reduceLT, Nat.reduceLeDiff, Nat.reduceAdd, Nat.reduceMul, Nat.reduceSub, reduceCtorEq, Int.reduceLT, Int.reduceLE, Int.reduceEq, Int.reduceBEq, Int.reduceBNe, Int.reduceToNat, Int.reduceAdd, Int.reduceNeg, Int.reduceSub]) (by omega)
            (.inl rfl) (by simp only [go_sem, ↓reduceIte, Nat.reduceBEq, Nat.reduceEqDiff, Nat.reduceLT, Nat.reduceLeDiff, Nat.reduceAdd, Nat.reduceMul, Nat.reduceSub, reduceCtorEq, Int.reduceLT, Int.reduceLE, Int.reduceEq, Int.reduceBEq, Int.reduceBNe, Int.reduceToNat, Int.reduceAdd, Int.reduceNeg, Int.reduceSub, List.length_take, List.length_drop, List.length_map]; omega) (by simp only [go_sem, ↓reduceIte, Nat.reduceBEq, Nat.reduceEqDiff, Nat.reduceLT, Nat.reduceLeDiff, Nat.reduceAdd, Nat.reduceMul, Nat.reduceSub, reduceCtorEq, Int.reduceLT, Int.reduceLE, Int.reduceEq, Int.reduceBEq, Int.reduceBNe, Int.reduceToNat, Int.reduceAdd, Int.reduceNeg, Int.reduceSub, List.length_take, List.length_drop, List.length_map]; omega) (by simp only [go_sem, ↓reduceIte, Nat.reduceBEq, Nat.reduceEqDiff, Nat.reduceLT, Nat.reduceLeDiff, Nat.reduceAdd, Nat.reduceMul, Nat.reduceSub, reduceCtorEq, Int.reduceLT, Int.reduceLE, Int.reduceEq, Int.reduceBEq, Int.reduceBNe, Int.reduceToNat, Int.reduceAdd, Int.reduceNeg, Int.reduceSub]) (by rw [← List.map_drop]; exact all_map (fun x => by simp only [eC, go_sem, ↓reduceIte, Nat.reduceBEq, Nat.reduceEqDiff, Nat.reduceLT, Nat.reduceLeDiff, Nat.reduceAdd, Nat.reduceMul, Nat.reduceSub, reduceCtorEq, Int.reduceLT, Int.reduceLE, Int.reduceEq, Int.reduceBEq, Int.reduceBNe, Int.reduceToNat, Int.reduceAdd, Int.reduceNeg, Int.reduceSub]) _)
          simp only [List.nil_append] at p1
          have hmm : (d.halves.map eC).take i ++ (d.halves.map eC).drop (i + 1) = (lessD d i).halves.map eC := by
            rw [← List.map_take, ← List.map_drop, ← List.map_append]; rfl
          simp (disch := omega) only [go_sem, ↓reduceIte, Nat.reduceBEq, Nat.reduceEqDiff, Nat.reduceLT, Nat.reduceLeDiff, Nat.reduceAdd, Nat.reduceMul, Nat.reduceSub, reduceCtorEq, Int.reduceLT, Int.reduceLE, Int.reduceEq, Int.reduceBEq, Int.reduceBNe, Int.reduceToNat, Int.reduceAdd, Int.reduceNeg, Int.reduceSub, eC_clean, eC_under, hile, hile2, i1, i2, htk, hzh, h2n, h21, p1, p4, hmm, hum, hcm, h24l, wrap_i64, eDc, vI, hl1, hl2]
          exact ⟨_, rfl⟩
        | false =>
          rw [hVV] at h37'
          simp (disch := omega) only [go_sem, ↓reduceIte, Nat.reduceBEq, Nat.reduceEqDiff, Nat.reduceLT, Nat.reduceLeDiff, Nat.reduceAdd, Nat.reduceMul, Nat.reduceSub, reduceCtorEq, Int.reduceLT, Int.reduceLE, Int.reduceEq, Int.reduceBEq, Int.reduceBNe, Int.reduceToNat, Int.reduceAdd, Int.reduceNeg, Int.reduceSub, eC_clean, eC_under, hoc, hbz, h49, hc2, hu2, h24', h37', h21, vI, hz0, hz0', hix, eDc, wrap_i64, hush_14_17]
          generalize hcf : List.all (conflicts _ _) _ = cf
          obtain rfl : cf = true := by rw [← hcf]; kernel_rfl
          generalize hTT : T [] (edgeL x d.steps.toNat).length ++ List.replicate _ false = TT
          have hTl : TT.length = (T [] (edgeL x d.steps.toNat).length).length + 14 := by rw [← hTT, List.length_append, List.length_replicate]; rfl
          generalize (T [] (edgeL x d.steps.toNat).length).length = q at hTl
          generalize List.replicate _ ABlk.none = N
          obtain ⟨ta, p1, p2, p3⟩ := app_at (X := tabX) (ty := 23) (e := 65) (sz := 2) (tag := 1) (z := 2) (t := TT) (xs := []) (.inl ⟨rfl, .inl rfl⟩) (q + 5) (by omega) 0 2 ((d.halves.map eC).take i) (by simp only [go_sem, ↓reduceIte, Nat.reduceBEq, Nat.reduceEqDiff, Nat.reduceLT, Nat.reduceLeDiff, Nat.reduceAdd, Nat.reduceMul, Nat.reduceSub, reduceCtorEq, Int.reduceLT, Int.reduceLE, Int.reduceEq, Int.reduceBEq, Int.reduceBNe, Int.reduceToNat, Int.reduceAdd, Int.reduceNeg, Int.reduceSub]) (by simp only [go_sem, ↓reduceIte, Nat.reduceBEq, Nat.reduceEqDiff, Nat.reduceLT, Nat.reduceLeDiff, Nat.reduceAdd, Nat.reduceMul, Nat.reduceSub, reduceCtorEq, Int.reduceLT, Int.reduceLE, Int.reduceEq, Int.reduceBEq, Int.reduceBNe, Int.reduceToNat, Int.reduceAdd, Int.reduceNeg, Int.reduceSub]) (by omega)
            (.inl rfl) (by simp only [go_sem, ↓reduceIte, Nat.reduceBEq, Nat.reduceEqDiff, Nat.reduceLT, Nat.reduceLeDiff, Nat.reduceAdd, Nat.reduceMul, Nat.reduceSub, reduceCtorEq, Int.reduceLT, Int.reduceLE, Int.reduceEq, Int.reduceBEq, Int.reduceBNe, Int.reduceToNat, Int.reduceAdd, Int.reduceNeg, Int.reduceSub, List.length_take, List.length_map]; omega) (by simp only [go_sem, ↓reduceIte, Nat.reduceBEq, Nat.reduceEqDiff, Nat.reduceLT, Nat.reduceLeDiff, Nat.reduceAdd, Nat.reduceMul, Nat.reduceSub, reduceCtorEq, Int.reduceLT, Int.reduceLE, Int.reduceEq, Int.reduceBEq, Int.reduceBNe, Int.reduceToNat, Int.reduceAdd, Int.reduceNeg, Int.reduceSub, List.length_take, List.length_map]; omega) (by simp only [go_sem, ↓reduceIte, Nat.reduceBEq, Nat.reduceEqDiff, Nat.reduceLT, Nat.reduceLeDiff, Nat.reduceAdd, Nat.reduceMul, Nat.reduceSub, reduceCtorEq, Int.reduceLT, Int.reduceLE, Int.reduceEq, Int.reduceBEq, Int.reduceBNe, Int.reduceToNat, Int.reduceAdd, Int.reduceNeg, Int.reduceSub]) (by rw [← List.map_take]; exact all_map (fun x => by simp only [eC, go_sem, ↓reduceIte, Nat.reduceBEq, Nat.reduceEqDiff, Nat.reduceLT, Nat.reduceLeDiff, Nat.reduceAdd, Nat.reduceMul, Nat.reduceSub, reduceCtorEq, Int.reduceLT, Int.reduceLE, Int.reduceEq, Int.reduceBEq, Int.reduceBNe, Int.reduceToNat, Int.reduceAdd, Int.reduceNeg, Int.reduceSub]) _)
          obtain ⟨tb, p4, p5, p6⟩ := app_at (X := tabX) (ty := 23) (e := 65) (sz := 2) (tag := q + 5 + 2) (z := 2) (t := ta) (xs := (d.halves.map eC).take i) (.inr ⟨q + 5, rfl, rfl, p2⟩) (q + 11) (by omega) 0 2 ((d.halves.map eC).drop (i + 1)) (by simp only [go_sem, ↓reduceIte, Nat.reduceBEq, Nat.reduceEqDiff, Nat.reduceLT, Nat.reduceLeDiff, Nat.reduceAdd, Nat.reduceMul, Nat.reduceSub, reduceCtorEq, Int.reduceLT, Int.reduceLE, Int.reduceEq, Int.reduceBEq, Int.reduceBNe, Int.reduceToNat, Int.reduceAdd, Int.reduceNeg, Int.reduceSub]) (by simp only [go_sem, ↓reduceIte, Nat.reduceBEq, Nat.reduceEqDiff, Nat.reduceLT, Nat.reduceLeDiff, Nat.reduceAdd, Nat.reduceMul, Nat.reduceSub, reduceCtorEq, Int.reduceLT, Int.reduceLE, Int.reduceEq, Int.reduceBEq, Int.reduceBNe, Int.reduceToNat, Int.reduceAdd, Int.reduceNeg, Int.reduceSub]) (by omega)
            (.inl rfl) (by simp only [go_sem, ↓reduceIte, Nat.reduceBEq, Nat.reduceEqDiff, Nat.reduceLT, Nat.reduceLeDiff, Nat.reduceAdd, Nat.reduceMul, Nat.reduceSub, reduceCtorEq, Int.reduceLT, Int.reduceLE, Int.reduceEq, Int.reduceBEq, Int.reduceBNe, Int.reduceToNat, Int.reduceAdd, Int.reduceNeg, Int.reduceSub, List.length_take, List.length_drop, List.length_map]; omega) (by simp only [go_sem, ↓reduceIte, Nat.reduceBEq, Nat.reduceEqDiff, Nat.reduceLT, Nat.reduceLeDiff, Nat.reduceAdd, Nat.reduceMul, Nat.reduceSub, reduceCtorEq, Int.reduceLT, Int.reduceLE, Int.reduceEq, Int.reduceBEq, Int.reduceBNe, Int.reduceToNat, Int.reduceAdd, Int.reduceNeg, Int.reduceSub, List.length_take, List.length_drop, List.length_map]; omega) (by simp only [go_sem, ↓reduceIte, Nat.reduceBEq, Nat.reduceEqDiff, Nat.reduceLT, Nat.reduceLeDiff, Nat.reduceAdd, Nat.reduceMul, Nat.reduceSub, reduceCtorEq, Int.reduceLT, Int.reduceLE, Int.reduceEq, Int.reduceBEq, Int.reduceBNe, Int.reduceToNat, Int.reduceAdd, Int.reduceNeg, Int.reduceSub]) (by rw [← List.map_drop]; exact all_map (fun x => by simp only [eC, go_sem, ↓reduceIte, Nat.reduceBEq, Nat.reduceEqDiff, Nat.reduceLT, Nat.reduceLeDiff, Nat.reduceAdd, Nat.reduceMul, Nat.reduceSub, reduceCtorEq, Int.reduceLT, Int.reduceLE, Int.reduceEq, Int.reduceBEq, Int.reduceBNe, Int.reduceToNat, Int.reduceAdd, Int.reduceNeg, Int.reduceSub]) _)
          simp only [List.nil_append] at p1
          have hmm : (d.halves.map eC).take i ++ (d.halves.map eC).drop (i + 1) = (lessD d i).halves.map eC := by
            rw [← List.map_take, ← List.map_drop, ← List.map_append]; rfl
          simp (disch := omega) only [go_sem, ↓reduceIte, Nat.reduceBEq, Nat.reduceEqDiff, Nat.reduceLT, Nat.reduceLeDiff, Nat.reduceAdd, Nat.reduceMul, Nat.reduceSub, reduceCtorEq, Int.reduceLT, Int.reduceLE, Int.reduceEq, Int.reduceBEq, Int.reduceBNe, Int.reduceToNat, Int.reduceAdd, Int.reduceNeg, Int.reduceSub, eC_clean, eC_under, hile, hile2, i1, i2, htk, hzh, h2n, h21, p1, p4, hmm, hum, hcm, h24l, wrap_i64, eDc, vI, hl1, hl2]
          exact ⟨_, rfl⟩
    · simp only [go_sem, ↓reduceIte, Nat.reduceBEq, Nat.reduceEqDiff, Nat.reduceLT, Nat.reduceLeDiff, Nat.reduceAdd, Nat.reduceMul, Nat.reduceSub, reduceCtorEq, Int.reduceLT, Int.reduceLE, Int.reduceEq, Int.reduceBEq, Int.reduceBNe, Int.reduceToNat, Int.reduceAdd, Int.reduceNeg, Int.reduceSub, edgeL_zero, ownT_nil]
    · simp only [go_sem, ↓reduceIte, Nat.reduceBEq, Nat.reduceEqDiff, Nat.reduceLT, Nat.reduceLeDiff, Nat.reduceAdd, Nat.reduceMul, Nat.reduceSub, reduceCtorEq, Int.reduceLT, Int.reduceLE, Int.reduceEq, Int.reduceBEq, Int.reduceBNe, Int.reduceToNat, Int.reduceAdd, Int.reduceNeg, Int.reduceSub, edgeL_zero, eDc]
    · intro k hk
      have hki : (k : Int) < d.steps := by omega
      have hb := turnL_rng hx.2 k
      have ht := tmod_rng hb.1 (show (0 : Int) < 10 by omega)
      have hlk := edgeL_len x k
      have hap := ownT_app [] (edgeL x k) ((turnL x k).tmod 10) (by omega)
      rw [edgeL_succ]
      simp (disch := omega) only [go_sem, ↓reduceIte, Nat.reduceBEq, Nat.reduceEqDiff, Nat.reduceLT, Nat.reduceLeDiff, Nat.reduceAdd, Nat.reduceMul, Nat.reduceSub, reduceCtorEq, Int.reduceLT, Int.reduceLE, Int.reduceEq, Int.reduceBEq, Int.reduceBNe, Int.reduceToNat, Int.reduceAdd, Int.reduceNeg, Int.reduceSub, hki, hxc, h48, wrap_i64, hap, eDc]
    · simp only [go_sem, ↓reduceIte, Nat.reduceBEq, Nat.reduceEqDiff, Nat.reduceLT, Nat.reduceLeDiff, Nat.reduceAdd, Nat.reduceMul, Nat.reduceSub, reduceCtorEq, Int.reduceLT, Int.reduceLE, Int.reduceEq, Int.reduceBEq, Int.reduceBNe, Int.reduceToNat, Int.reduceAdd, Int.reduceNeg, Int.reduceSub, hsn, eDc]
  · have hcf : ((checkT d).2.2 == 0) = false := by simpa using hc
    rw [hcf] at h37
    simp only [go_sem, ↓reduceIte, Nat.reduceBEq, Nat.reduceEqDiff, Nat.reduceLT, Nat.reduceLeDiff, Nat.reduceAdd, Nat.reduceMul, Nat.reduceSub, reduceCtorEq, Int.reduceLT, Int.reduceLE, Int.reduceEq, Int.reduceBEq, Int.reduceBNe, Int.reduceToNat, Int.reduceAdd, Int.reduceNeg, Int.reduceSub, eD, eDc, eC_under] at hcl h37 ⊢
    simp (disch := omega) only [go_sem, ↓reduceIte, Nat.reduceBEq, Nat.reduceEqDiff, Nat.reduceLT, Nat.reduceLeDiff, Nat.reduceAdd, Nat.reduceMul, Nat.reduceSub, reduceCtorEq, Int.reduceLT, Int.reduceLE, Int.reduceEq, Int.reduceBEq, Int.reduceBNe, Int.reduceToNat, Int.reduceAdd, Int.reduceNeg, Int.reduceSub, eC_clean, h37, h21]
    exact ⟨_, rfl⟩
end Go.Proofs.Ytbfodfepgefloaa
