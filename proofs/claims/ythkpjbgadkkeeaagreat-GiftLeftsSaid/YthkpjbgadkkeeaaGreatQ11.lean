/- Parts of the proof, joined: What the letter of a visit can cost, by the reference: the walk. All stands, by the program: the function that calls itself. All stands, by the program: the function that calls itself. All stands, by the program: the function that calls itself, before the end of visits. All ways in which people can be widows, by the program. All stands, by the program: what begins the search. Whether the gift pays for a visit, by the program. The first day on which the gift can end, by the program. The first day on which the gift can end; what it needs, by the program. What the gift needs, by the program. Conditions: those of each law. -/
import Derived.Test.YthkpjbgadkkeeaaGreatQ10
set_option linter.unusedSimpArgs false
set_option linter.unusedVariables false
section
namespace Go.Proofs.YthkpjbgadkkeeaaGreat
open Go.Proofs

structure RS where
  l : List Int
  tg : Nat
  B : List ABlk
theorem c54 (d : Fu) (hd : d.fits) (ho : d.Ok) (butL : List Int) (hbl : butL.length ≤ 100) (at' : Nat) (hlt : at' < d.visits.length) (h : Heap) :
    callPure (EW tabX) 72 [eF d, .int .i64 (at' : Int), vI butL] h = some (vI (refCosts d butL at'), h) := by
  have hvx := List.getElem?_eq_getElem hlt
  have hat : (at' : Int) < d.visits.length := by omega
  have hzv := hd.zv (by intro e; rw [e] at hlt; simp at hlt)
  have hvo := ho.visit _ (List.getElem_mem hlt)
  have hline := hvo.line
  have hhour := hvo.hour
  have hcl := eF_clean d
  rw [callPure_eq, w_call _ fn_72 rfl]
  unfold refCosts
  rw [hvx]
  simp only
  generalize d.visits[at'] = v at hvx hvo hline hhour ⊢
  simp only [go_sem, ↓reduceIte, Nat.reduceBEq, Nat.reduceEqDiff, Nat.reduceLT, Nat.reduceLeDiff, Nat.reduceAdd, Nat.reduceMul, Nat.reduceSub, reduceCtorEq, Int.reduceLT, Int.reduceLE, Int.reduceEq, Int.reduceBEq, Int.reduceBNe, Int.reduceToNat, Int.reduceAdd, Int.reduceNeg, Int.reduceSub, eF, eFc, eVi, hat, hvx, hzv, vI]
  generalize hx : (EW tabX).code 72 none (Code.loop _) _ = x
  have hnn : (linesN v : Int) = v.lhi + 1 - v.llo := by unfold linesN; omega
  have hhn : (hoursN v : Int) = v.hhi + 1 - v.hlo := by unfold hoursN; omega
  have hln8 : linesN v ≤ 8 := by unfold linesN; omega
  have hh24 : hoursN v ≤ 24 := by unfold hoursN; omega
  refine w_rounds_sk hx (fun k (q : RS) => [(7, .lst q.tg (zT 1 (lineTo d butL at' v k).length) (I (lineTo d butL at' v k))), (9, .int .i64 (v.llo + (k : Int)))]) (fun q => ⟨[.cells (eFc d), bVi v] ++ q.B, []⟩) (fun _ _ => True) (linesN v) (.exit 0)
    (fun q => [(7, .lst q.tg (zT 1 (lineTo d butL at' v (linesN v)).length) (I (lineTo d butL at' v (linesN v)))), (9, .int .i64 (v.lhi + 1))]) rfl ⟨[], 1, []⟩ ?_ ?_ trivial ?_ ?_ ?_
  · simp only [go_sem, ↓reduceIte, Nat.reduceBEq, Nat.reduceEqDiff, Nat.reduceLT, Nat.reduceLeDiff, Nat.reduceAdd, Nat.reduceMul, Nat.reduceSub, reduceCtorEq, Int.reduceLT, Int.reduceLE, Int.reduceEq, Int.reduceBEq, Int.reduceBNe, Int.reduceToNat, Int.reduceAdd, Int.reduceNeg, Int.reduceSub, lineTo, Int.add_zero]
  · simp only [go_sem, ↓reduceIte, Nat.reduceBEq, Nat.reduceEqDiff, Nat.reduceLT, Nat.reduceLeDiff, Nat.reduceAdd, Nat.reduceMul, Nat.reduceSub, reduceCtorEq, Int.reduceLT, Int.reduceLE, Int.reduceEq, Int.reduceBEq, Int.reduceBNe, Int.reduceToNat, Int.reduceAdd, Int.reduceNeg, Int.reduceSub, eFc, bVi, hzv]
  · intro k q hk _
    obtain ⟨_, tg, B⟩ := q
    have hki : v.llo + (k : Int) ≤ v.lhi := by omega
    have hwk : IntKind.i64.wrap (v.llo + (k : Int) + 1) = v.llo + ((k : Int) + 1) := by rw [wrap_i64 (by omega)]; omega
    have hll := lineTo_len d butL at' v k
    have hlb : (lineTo d butL at' v k).length ≤ 168 := Nat.le_trans hll (Nat.le_trans (Nat.mul_le_mul hh24 (show k ≤ 7 by omega)) (by omega))
    rw [show lineTo d butL at' v (k + 1) = hourTo d butL at' v (v.llo + (k : Int)) (lineTo d butL at' v k) (hoursN v) from rfl]
    generalize lineTo d butL at' v k = l0 at hlb ⊢
    have hln : 1 ≤ v.llo + (k : Int) ∧ v.llo + (k : Int) ≤ 8 := by omega
    simp only [go_sem, ↓reduceIte, Nat.reduceBEq, Nat.reduceEqDiff, Nat.reduceLT, Nat.reduceLeDiff, Nat.reduceAdd, Nat.reduceMul, Nat.reduceSub, reduceCtorEq, Int.reduceLT, Int.reduceLE, Int.reduceEq, Int.reduceBEq, Int.reduceBNe, Int.reduceToNat, Int.reduceAdd, Int.reduceNeg, Int.reduceSub, bVi, hki]
    generalize hy : (EW tabX).code 72 none (Code.loop _) _ = y
    refine w_rounds_sk hy (fun j (q : RS) => [(7, .lst q.tg (zT 1 (hourTo d butL at' v (v.llo + (k : Int)) l0 j).length) (I (hourTo d butL at' v (v.llo + (k : Int)) l0 j))), (10, .int .i64 (v.hlo + (j : Int)))]) (fun q => ⟨[.cells (eFc d), bVi v] ++ q.B, []⟩) (fun _ _ => True) (hoursN v) (.exit 2)
      (fun q => [(7, .lst q.tg (zT 1 (hourTo d butL at' v (v.llo + (k : Int)) l0 (hoursN v)).length) (I (hourTo d butL at' v (v.llo + (k : Int)) l0 (hoursN v)))), (10, .int .i64 (v.hhi + 1))]) rfl ⟨[], tg, B⟩ ?_ ?_ trivial ?_ ?_ ?_
    · simp only [go_sem, ↓reduceIte, Nat.reduceBEq, Nat.reduceEqDiff, Nat.reduceLT, Nat.reduceLeDiff, Nat.reduceAdd, Nat.reduceMul, Nat.reduceSub, reduceCtorEq, Int.reduceLT, Int.reduceLE, Int.reduceEq, Int.reduceBEq, Int.reduceBNe, Int.reduceToNat, Int.reduceAdd, Int.reduceNeg, Int.reduceSub, hourTo, Int.add_zero]
    · simp only [go_sem, ↓reduceIte, Nat.reduceBEq, Nat.reduceEqDiff, Nat.reduceLT, Nat.reduceLeDiff, Nat.reduceAdd, Nat.reduceMul, Nat.reduceSub, reduceCtorEq, Int.reduceLT, Int.reduceLE, Int.reduceEq, Int.reduceBEq, Int.reduceBNe, Int.reduceToNat, Int.reduceAdd, Int.reduceNeg, Int.reduceSub, bVi]
    · intro j q hj _
      obtain ⟨_, tg, B⟩ := q
      have hji : v.hlo + (j : Int) ≤ v.hhi := by omega
      have hwj : IntKind.i64.wrap (v.hlo + (j : Int) + 1) = v.hlo + ((j : Int) + 1) := by rw [wrap_i64 (by omega)]; omega
      have h78 := c78 d hd ho v hvo (v.llo + (k : Int)) (v.hlo + (j : Int)) hln
      have hjl := hourTo_len d butL at' v (v.llo + (k : Int)) l0 j
      have hho : hourTo d butL at' v (v.llo + (k : Int)) l0 (j + 1) = if okTill d butL at' (costN d v (v.llo + (k : Int)) (lateI d (v.hlo + (j : Int)))) d.entries.length = true then putL (hourTo d butL at' v (v.llo + (k : Int)) l0 j) (costN d v (v.llo + (k : Int)) (lateI d (v.hlo + (j : Int)))) else hourTo d butL at' v (v.llo + (k : Int)) l0 j := rfl
      rw [hho]
      generalize costN d v (v.llo + (k : Int)) (lateI d (v.hlo + (j : Int))) = cn at h78 ⊢
      generalize hourTo d butL at' v (v.llo + (k : Int)) l0 j = l1 at hjl ⊢
      simp only [eF, eFc, eVi, hzv] at h78
      simp only [go_sem, ↓reduceIte, Nat.reduceBEq, Nat.reduceEqDiff, Nat.reduceLT, Nat.reduceLeDiff, Nat.reduceAdd, Nat.reduceMul, Nat.reduceSub, reduceCtorEq, Int.reduceLT, Int.reduceLE, Int.reduceEq, Int.reduceBEq, Int.reduceBNe, Int.reduceToNat, Int.reduceAdd, Int.reduceNeg, Int.reduceSub, bVi, eFc, hzv, hji, h78]
      have hle := ho.entries
      rw [w_rounds_h (fun i => [(12, .bool (okTill d butL at' cn i)), (13, .int .i64 (i : Int))]) (fun i => ⟨([.cells (eFc d), bVi v] ++ B) ++ (d.entries.take i).map bEt, []⟩) d.entries.length (.exit 4) [(12, .bool (okTill d butL at' cn d.entries.length)), (13, .int .i64 (d.entries.length : Int))] ⟨([.cells (eFc d), bVi v] ++ B) ++ d.entries.map bEt, []⟩ ?_ ?_ ?_ ?_ rfl]
      · cases hok : okTill d butL at' cn d.entries.length with
        | true =>
          have h79 := c79 l1 cn (by omega) (zT 1 l1.length) rfl
          refine ⟨⟨[], 0, B ++ d.entries.map bEt⟩, ?_⟩
          simp only [go_sem, ↓reduceIte, Nat.reduceBEq, Nat.reduceEqDiff, Nat.reduceLT, Nat.reduceLeDiff, Nat.reduceAdd, Nat.reduceMul, Nat.reduceSub, reduceCtorEq, Int.reduceLT, Int.reduceLE, Int.reduceEq, Int.reduceBEq, Int.reduceBNe, Int.reduceToNat, Int.reduceAdd, Int.reduceNeg, Int.reduceSub, bVi, eFc, hzv, h79, vI, hwj]
        | false =>
          refine ⟨⟨[], tg, B ++ d.entries.map bEt⟩, ?_⟩
          simp only [go_sem, ↓reduceIte, Nat.reduceBEq, Nat.reduceEqDiff, Nat.reduceLT, Nat.reduceLeDiff, Nat.reduceAdd, Nat.reduceMul, Nat.reduceSub, reduceCtorEq, Int.reduceLT, Int.reduceLE, Int.reduceEq, Int.reduceBEq, Int.reduceBNe, Int.reduceToNat, Int.reduceAdd, Int.reduceNeg, Int.reduceSub, bVi, eFc, hzv, hwj]
      · simp only [go_sem, ↓reduceIte, Nat.reduceBEq, Nat.reduceEqDiff, Nat.reduceLT, Nat.reduceLeDiff, Nat.reduceAdd, Nat.reduceMul, Nat.reduceSub, reduceCtorEq, Int.reduceLT, Int.reduceLE, Int.reduceEq, Int.reduceBEq, Int.reduceBNe, Int.reduceToNat, Int.reduceAdd, Int.reduceNeg, Int.reduceSub, okTill, List.range_zero]
      · simp only [go_sem, ↓reduceIte, Nat.reduceBEq, Nat.reduceEqDiff, Nat.reduceLT, Nat.reduceLeDiff, Nat.reduceAdd, Nat.reduceMul, Nat.reduceSub, reduceCtorEq, Int.reduceLT, Int.reduceLE, Int.reduceEq, Int.reduceBEq, Int.reduceBNe, Int.reduceToNat, Int.reduceAdd, Int.reduceNeg, Int.reduceSub, bVi, eFc, hzv]
      · intro i hi
        have hxi := List.getElem?_eq_getElem hi
        have hii : (i : Int) < d.entries.length := by omega
        have hze := hd.ze (by intro e; rw [e] at hi; simp at hi)
        have hwi : IntKind.i64.wrap ((i : Int) + 1) = (i : Int) + 1 := wrap_i64 (by omega)
        have h28 := c28 butL (i : Int) (zT 1 butL.length) (fun h => zT_pos (List.length_pos_iff.2 h)) (by omega)
        rw [okTill_succ _ _ _ _ hxi, map_succ _ hxi, ← List.append_assoc]
        have hC0 : (([ABlk.cells (eFc d), bVi v] ++ B) ++ (d.entries.take i).map bEt)[0]? = some (.cells (eFc d)) := rfl
        generalize ([ABlk.cells (eFc d), bVi v] ++ B) ++ (d.entries.take i).map bEt = D at hC0 ⊢
        simp only [eFc, hzv] at hC0
        have oC0 := old hC0
        unfold okEn
        cases okTill d butL at' cn i with
        | true =>
          cases hb1 : butL.any (fun y => y == (i : Int)) with
          | true =>
            rw [hb1] at h28
            simp only [go_sem, ↓reduceIte, Nat.reduceBEq, Nat.reduceEqDiff, Nat.reduceLT, Nat.reduceLeDiff, Nat.reduceAdd, Nat.reduceMul, Nat.reduceSub, reduceCtorEq, Int.reduceLT, Int.reduceLE, Int.reduceEq, Int.reduceBEq, Int.reduceBNe, Int.reduceToNat, Int.reduceAdd, Int.reduceNeg, Int.reduceSub, hii, hxi, eEt, bEt, hze, hC0, oC0, h28, hwi]
          | false =>
            rw [hb1] at h28
            cases hb2 : (d.entries[i].visit != (at' : Int)) with
            | true => simp only [go_sem, ↓reduceIte, Nat.reduceBEq, Nat.reduceEqDiff, Nat.reduceLT, Nat.reduceLeDiff, Nat.reduceAdd, Nat.reduceMul, Nat.reduceSub, reduceCtorEq, Int.reduceLT, Int.reduceLE, Int.reduceEq, Int.reduceBEq, Int.reduceBNe, Int.reduceToNat, Int.reduceAdd, Int.reduceNeg, Int.reduceSub, hii, hxi, eEt, bEt, hze, hC0, oC0, h28, hb2, hwi]
            | false => simp only [go_sem, ↓reduceIte, Nat.reduceBEq, Nat.reduceEqDiff, Nat.reduceLT, Nat.reduceLeDiff, Nat.reduceAdd, Nat.reduceMul, Nat.reduceSub, reduceCtorEq, Int.reduceLT, Int.reduceLE, Int.reduceEq, Int.reduceBEq, Int.reduceBNe, Int.reduceToNat, Int.reduceAdd, Int.reduceNeg, Int.reduceSub, hii, hxi, eEt, bEt, hze, hC0, oC0, h28, hb2, hwi]
        | false => simp only [go_sem, ↓reduceIte, Nat.reduceBEq, Nat.reduceEqDiff, Nat.reduceLT, Nat.reduceLeDiff, Nat.reduceAdd, Nat.reduceMul, Nat.reduceSub, reduceCtorEq, Int.reduceLT, Int.reduceLE, Int.reduceEq, Int.reduceBEq, Int.reduceBNe, Int.reduceToNat, Int.reduceAdd, Int.reduceNeg, Int.reduceSub, hii, hxi, eEt, bEt, hze, hC0, oC0, hwi]
      · simp only [go_sem, ↓reduceIte, Nat.reduceBEq, Nat.reduceEqDiff, Nat.reduceLT, Nat.reduceLeDiff, Nat.reduceAdd, Nat.reduceMul, Nat.reduceSub, reduceCtorEq, Int.reduceLT, Int.reduceLE, Int.reduceEq, Int.reduceBEq, Int.reduceBNe, Int.reduceToNat, Int.reduceAdd, Int.reduceNeg, Int.reduceSub, bVi, eFc, hzv, Int.lt_irrefl]
    · intro q _
      have hji : ¬ v.hhi + 1 ≤ v.hhi := by omega
      have e1 : v.hlo + (hoursN v : Int) = v.hhi + 1 := by omega
      simp only [go_sem, ↓reduceIte, Nat.reduceBEq, Nat.reduceEqDiff, Nat.reduceLT, Nat.reduceLeDiff, Nat.reduceAdd, Nat.reduceMul, Nat.reduceSub, reduceCtorEq, Int.reduceLT, Int.reduceLE, Int.reduceEq, Int.reduceBEq, Int.reduceBNe, Int.reduceToNat, Int.reduceAdd, Int.reduceNeg, Int.reduceSub, bVi, e1, hji]
    · intro q h1 _
      subst h1
      refine ⟨q, ?_⟩
      simp only [go_sem, ↓reduceIte, Nat.reduceBEq, Nat.reduceEqDiff, Nat.reduceLT, Nat.reduceLeDiff, Nat.reduceAdd, Nat.reduceMul, Nat.reduceSub, reduceCtorEq, Int.reduceLT, Int.reduceLE, Int.reduceEq, Int.reduceBEq, Int.reduceBNe, Int.reduceToNat, Int.reduceAdd, Int.reduceNeg, Int.reduceSub, bVi, hwk]
  · intro q _
    have hki : ¬ v.lhi + 1 ≤ v.lhi := by omega
    have e1 : v.llo + (linesN v : Int) = v.lhi + 1 := by omega
    simp only [go_sem, ↓reduceIte, Nat.reduceBEq, Nat.reduceEqDiff, Nat.reduceLT, Nat.reduceLeDiff, Nat.reduceAdd, Nat.reduceMul, Nat.reduceSub, reduceCtorEq, Int.reduceLT, Int.reduceLE, Int.reduceEq, Int.reduceBEq, Int.reduceBNe, Int.reduceToNat, Int.reduceAdd, Int.reduceNeg, Int.reduceSub, bVi, e1, hki]
  · intro q h1 _
    subst h1
    simp only [go_sem, ↓reduceIte, Nat.reduceBEq, Nat.reduceEqDiff, Nat.reduceLT, Nat.reduceLeDiff, Nat.reduceAdd, Nat.reduceMul, Nat.reduceSub, reduceCtorEq, Int.reduceLT, Int.reduceLE, Int.reduceEq, Int.reduceBEq, Int.reduceBNe, Int.reduceToNat, Int.reduceAdd, Int.reduceNeg, Int.reduceSub]
end Go.Proofs.YthkpjbgadkkeeaaGreat
end
section
namespace Go.Proofs.YthkpjbgadkkeeaaGreat
open Go.Proofs

theorem C_keys {d : Fu} {refused but r hb n l : Nat} {σ : Type} (C : Con d refused but r hb n l σ) {es es' : List (Sd × Int)} (h : keys es' = keys es) : C.st es' = C.st es := by unfold Con.st; rw [h]
theorem keys_len (es : List (Sd × Int)) : (keys es).length = es.length := by simp [keys]
theorem esS_one (es : List (Sd × Int)) (x : Sd) (c : Int) : esS es ++ [(.agg [.int .i64 (x.k : Int), .int .i64 (x.w : Int), .int .i64 x.left, .bool x.ended, .bool x.paid], .int .i64 c)] = esS (es ++ [(x, c)]) := by simp [esS, sdK]

theorem look_set {x : Sd} (v : Int) : ∀ {es : List (Sd × Int)} {j : Nat}, ixOf es x = some j → look (es.set j (x, v)) x = some v
  | [], j, h => by cases h
  | e :: es, j, h => by
    rw [ix_c] at h
    by_cases he : x = e.1
    · rw [if_pos he] at h
      cases h
      rw [List.set_cons_zero, look_c, if_pos rfl]
    · rw [if_neg he] at h
      cases hi : ixOf es x with
      | none => rw [hi] at h; cases h
      | some i =>
        rw [hi] at h
        cases h
        rw [List.set_cons_succ, look_c, if_neg he, look_set v hi]
theorem look_app {x : Sd} (v : Int) : ∀ {es : List (Sd × Int)}, x ∉ keys es → look (es ++ [(x, v)]) x = some v ∧ ixOf (es ++ [(x, v)]) x = some es.length
  | [], _ => ⟨by show (if x = x then _ else _) = _; rw [if_pos rfl], by show (if x = x then _ else _) = _; rw [if_pos rfl]; rfl⟩
  | e :: es, h => by
    simp only [keys, List.map_cons, List.mem_cons, not_or] at h
    obtain ⟨h1, h2⟩ := look_app v (es := es) h.2
    rw [List.cons_append, look_c, ix_c, if_neg h.1, if_neg h.1, h1, h2]
    exact ⟨rfl, by simp⟩

theorem callsN_pos : ∀ n, 1 ≤ callsN n
  | 0 => Nat.le_refl _
  | n + 1 => by unfold callsN; omega
set_option maxHeartbeats 4000000 in
theorem c81_old {d : Fu} {refused but : Nat} {r hb n l : Nat} {σ : Type} (C : Con d refused but r hb n l σ)
    (n' : Nat) (x : Sd) (es : List (Sd × Int)) (X : List ABlk) (tb : List Bool) (c : Int) (hm : x ∈ keys es) (hi : C.Inv es.length (C.st es)) (hke : KOk c es) (hc : 0 ≤ c) (hcb : c + callsN n' ≤ 1000000000) :
    ∃ es' F, keys es' = dfsM d refused but n' x (keys es) ∧ C.Inv es'.length (C.st es') ∧ KOk (c + callsN n') es' ∧ es'.length ≤ es.length + callsN n' ∧
      (EW tabX).call 101 [.agg (sdK x), .ref (n + 2) 0, .ref n 0, .ref hb 0, .ref (n + 4) 0, .ref (n + 3) 0] ⟨C.H (C.st es) es ++ X, tb⟩ = some (.bool true, ⟨C.H (C.st es') es' ++ X, tb ++ F⟩) := by
  have hcN := callsN_pos n'
  have fQ := C.facts (C.st es) es
  obtain ⟨hQ, oR, oH, oY, oM, oV, oC, oN⟩ := fQ
  have hs1 := fun es' Y => C.setX (C.st es) es es' Y
  obtain ⟨j, c', j1, j2, j3⟩ := ix_some hm
  have hb1 := hke _ (List.mem_of_getElem? j3)
  have hL := lookS x es
  have hI := ixS x es
  rw [j2] at hL
  rw [j1] at hI
  have hget : (esS es)[j]? = some (.agg (sdK x), .int .i64 c') := by rw [esS_get, j3]; rfl
  have hset := esS_set es j x c'
  rw [set_same j3] at hset
  have hset2 := esS_set es j x (c' + 1)
  have hbk := bump_keys es x
  rw [if_pos hm] at hbk
  have hbump : bump es x = es.set j (x, c' + 1) := by unfold bump; rw [j1, j2]
  refine ⟨bump es x, List.replicate 7 false, ?_, ?_, ?_, ?_, ?_⟩
  · rw [hbk]; cases n' <;> (unfold dfsM; rw [if_pos hm])
  · rw [C_keys C hbk]
    have : (bump es x).length = es.length := by rw [hbump]; simp
    rw [this]; exact hi
  · have := KOk_bump hke hc x
    intro e he
    have := this e he
    omega
  · rw [hbump]; simp
  · rw [C_keys C hbk, hbump]
    have fQ2 := C.facts (C.st es) (es.set j (x, c' + 1))
    obtain ⟨hQ2, oR2, oH2, oY2, oM2, oV2, oC2, oN2⟩ := fQ2
    have hL2 := lookS x (es.set j (x, c' + 1))
    rw [look_set _ j1] at hL2
    have hj0 : (0 : Int) ≤ j := by omega
    generalize hQQ2 : C.H (C.st es) (es.set j (x, c' + 1)) = Q2 at *
    generalize hQQ : C.H (C.st es) es = Q at *
    have hw : IntKind.i64.wrap (c' + 1) = c' + 1 := wrap_i64 (by omega)
    have hgt : 1 < c' + 1 := by omega
    simp only [sdK, ks5] at hL hI hL2 hget hset hset2 ⊢
    rw [w_call _ fn_101 rfl]
    simp only [go_sem, ↓reduceIte, Nat.reduceBEq, Nat.reduceEqDiff, Nat.reduceLT, Nat.reduceLeDiff, Nat.reduceAdd, Nat.reduceMul, Nat.reduceSub, reduceCtorEq, Int.reduceLT, Int.reduceLE, Int.reduceEq, Int.reduceBEq, Int.reduceBNe, Int.reduceToNat, Int.reduceAdd, Int.reduceNeg, Int.reduceSub, oV, hQ, List.size_toArray, hQ, q_get hQ, q_get0 hQ, q_set hQ, q_set0 hQ, q_take hQ, q_take0 hQ, opMapEntry, opEntryStore, hL, hI, hw, oM, hs1, hget, hset, hset2, hQQ, hQQ2, hj0]
    generalize hcf : okFam _ _ _ = cf
    obtain rfl : cf = true := by rw [← hcf]; kernel_rfl
    simp only [go_sem, ↓reduceIte, Nat.reduceBEq, Nat.reduceEqDiff, Nat.reduceLT, Nat.reduceLeDiff, Nat.reduceAdd, Nat.reduceMul, Nat.reduceSub, reduceCtorEq, Int.reduceLT, Int.reduceLE, Int.reduceEq, Int.reduceBEq, Int.reduceBNe, Int.reduceToNat, Int.reduceAdd, Int.reduceNeg, Int.reduceSub, oV2, oM2, hQ, hQ2, hQ2, q_get hQ2, q_get0 hQ2, q_set hQ2, q_set0 hQ2, q_take hQ2, q_take0 hQ2, hL2, hgt]
end Go.Proofs.YthkpjbgadkkeeaaGreat
end
section
namespace Go.Proofs.YthkpjbgadkkeeaaGreat
open Go.Proofs

set_option maxHeartbeats 4000000 in
theorem c81_zero {d : Fu} {refused but : Nat} {r hb n l : Nat} {σ : Type} (C : Con d refused but r hb n l σ)
    (x : Sd) (es : List (Sd × Int)) (X : List ABlk) (tb : List Bool) (c : Int) (hk : x.k = d.visits.length) (hx : SdOk d x) (hi : C.Inv es.length (C.st es)) (hke : KOk c es) (hc : 0 ≤ c) (hcb : c + callsN 0 ≤ 1000000000) (hlb : es.length + callsN 0 ≤ 1000000000) :
    ∃ es' F, keys es' = dfsM d refused but 0 x (keys es) ∧ C.Inv es'.length (C.st es') ∧ KOk (c + callsN 0) es' ∧ es'.length ≤ es.length + callsN 0 ∧
      (EW tabX).call 101 [.agg (sdK x), .ref (n + 2) 0, .ref n 0, .ref hb 0, .ref (n + 4) 0, .ref (n + 3) 0] ⟨C.H (C.st es) es ++ X, tb⟩ = some (.bool true, ⟨C.H (C.st es') es' ++ X, tb ++ F⟩) := by
  by_cases hm : x ∈ keys es
  · exact c81_old C 0 x es X tb c hm hi hke hc hcb
  have hc0 : callsN 0 = 1 := rfl
  rw [hc0] at hcb hlb
  have fQ := C.facts (C.st es) es
  obtain ⟨hQ, oR, oH, oY, oM, oV, oC, oN⟩ := fQ
  have hs1 := fun es' Y => C.setX (C.st es) es es' Y
  obtain ⟨i1, i2⟩ := ix_none hm
  have hL := lookS x es
  have hI := ixS x es
  rw [i2] at hL
  rw [i1] at hI
  have hbk := bump_keys es x
  rw [if_neg hm] at hbk
  have hbump : bump es x = es ++ [(x, 1)] := by unfold bump; rw [i1, i2]
  rw [hbump] at hbk
  have hlen : (es ++ [(x, (1 : Int))]).length = es.length + 1 := by simp
  have hst : C.st (es ++ [(x, 1)]) = C.stp (C.st es) x := by unfold Con.st; rw [hbk]; simp
  obtain ⟨J, F, r1, r2⟩ := C.rnd es.length (C.st es) (es ++ [(x, 1)]) (X ++ [.cells (sdK x), .none, .none, .none, .none, .none, .none, .none]) (tb ++ List.replicate 7 false) x hi (by omega) hx
  have f1 := C.facts (C.st es) (es ++ [(x, 0)])
  obtain ⟨hQ1, oR1, oH1, oY1, oM1, oV1, oC1, oN1⟩ := f1
  have hs2 := fun es' Y => C.setX (C.st es) (es ++ [(x, 0)]) es' Y
  have f2 := C.facts (C.st es) (es ++ [(x, 1)])
  obtain ⟨hQ2, oR2, oH2, oY2, oM2, oV2, oC2, oN2⟩ := f2
  have f3 := C.facts (C.stp (C.st es) x) (es ++ [(x, 1)])
  obtain ⟨hQ3, oR3, oH3, oY3, oM3, oV3, oC3, oN3⟩ := f3
  have hL1 := lookS x (es ++ [(x, 0)])
  rw [(look_app 0 hm).1] at hL1
  have hL2 := lookS x (es ++ [(x, 1)])
  rw [(look_app 1 hm).1] at hL2
  have hel := esS_len es
  have hg1 : (esS (es ++ [(x, 0)]))[es.length]? = some (.agg (sdK x), .int .i64 0) := by rw [esS_get]; simp
  have hset1 : (esS (es ++ [(x, 0)])).set es.length (.agg (sdK x), .int .i64 1) = esS (es ++ [(x, 1)]) := by
    rw [esS_set]; simp
  have hone := esS_one es x 0
  refine ⟨es ++ [(x, 1)], List.replicate 7 false ++ F, ?_, ?_, ?_, ?_, ?_⟩
  · rw [hbk]; unfold dfsM; rw [if_neg hm]
  · rw [hst, hlen]; exact r1
  · have := KOk_bump hke hc x
    rw [hbump] at this
    exact this
  · rw [hlen, hc0]; exact Nat.le_refl _
  · rw [hst]
    have hj0 : (0 : Int) ≤ es.length := by omega
    generalize hQQ : C.H (C.st es) es = Q at *
    generalize hQQ1 : C.H (C.st es) (es ++ [(x, 0)]) = Q1 at *
    generalize hQQ2 : C.H (C.st es) (es ++ [(x, 1)]) = Q2 at *
    generalize hQQ3 : C.H (C.stp (C.st es) x) (es ++ [(x, 1)]) = Q3 at *
    have hw : IntKind.i64.wrap 1 = 1 := wrap_i64 (by omega)
    simp only [eFs] at oR3
    simp only [sdK, ks5] at hL hI hL1 hL2 hg1 hset1 r2 ⊢
    simp only [go_sem, ↓reduceIte, Nat.reduceBEq, Nat.reduceEqDiff, Nat.reduceLT, Nat.reduceLeDiff, Nat.reduceAdd, Nat.reduceMul, Nat.reduceSub, reduceCtorEq, Int.reduceLT, Int.reduceLE, Int.reduceEq, Int.reduceBEq, Int.reduceBNe, Int.reduceToNat, Int.reduceAdd, Int.reduceNeg, Int.reduceSub] at r2
    rw [w_call _ fn_101 rfl]
    simp only [go_sem, ↓reduceIte, Nat.reduceBEq, Nat.reduceEqDiff, Nat.reduceLT, Nat.reduceLeDiff, Nat.reduceAdd, Nat.reduceMul, Nat.reduceSub, reduceCtorEq, Int.reduceLT, Int.reduceLE, Int.reduceEq, Int.reduceBEq, Int.reduceBNe, Int.reduceToNat, Int.reduceAdd, Int.reduceNeg, Int.reduceSub, oV, hQ, List.size_toArray, hQ, q_get hQ, q_get0 hQ, q_set hQ, q_set0 hQ, q_take hQ, q_take0 hQ, opMapEntry, opEntryStore, hL, hI, hw, oM, hs1, hQQ, hj0, hone, hel, hQQ1, oV1, oM1, hL1, hQ1, q_get hQ1, q_get0 hQ1, q_set hQ1, q_set0 hQ1, q_take hQ1, q_take0 hQ1, hQ1, hs2, hg1, hset1, hQQ2]
    generalize hcf : okFam _ _ _ = cf
    obtain rfl : cf = true := by rw [← hcf]; kernel_rfl
    have hke2 : ((x.k : Int) == (d.visits.length : Int)) = true := by simp [hk]
    simp only [go_sem, ↓reduceIte, Nat.reduceBEq, Nat.reduceEqDiff, Nat.reduceLT, Nat.reduceLeDiff, Nat.reduceAdd, Nat.reduceMul, Nat.reduceSub, reduceCtorEq, Int.reduceLT, Int.reduceLE, Int.reduceEq, Int.reduceBEq, Int.reduceBNe, Int.reduceToNat, Int.reduceAdd, Int.reduceNeg, Int.reduceSub, hQ, oV2, oM2, hL2, oY2, hQ2, hQ2, q_get hQ2, q_get0 hQ2, q_set hQ2, q_set0 hQ2, q_take hQ2, q_take0 hQ2, callAV_yld2, r2, oR3, oH3, hQ3, hQ3, q_get hQ3, q_get0 hQ3, q_set hQ3, q_set0 hQ3, q_take hQ3, q_take0 hQ3, hke2]
end Go.Proofs.YthkpjbgadkkeeaaGreat
end
section
namespace Go.Proofs.YthkpjbgadkkeeaaGreat
open Go.Proofs

theorem SdOk.stay {d : Fu} {x : Sd} (h : SdOk d x) (hk : x.k < d.visits.length) : SdOk d (stay x) := ⟨hk, h.w, h.left, fun _ => Nat.succ_pos _⟩
theorem SdOk.step {d : Fu} {x : Sd} (h : SdOk d x) (hk : x.k < d.visits.length) {n : Int} (hn : 0 ≤ n ∧ n ≤ 90) : SdOk d (stepSd x n) := by
  have hl := h.left
  unfold stepSd
  split
  · exact ⟨hk, h.w, h.left, fun _ => Nat.succ_pos _⟩
  · rename_i h1
    simp only [Bool.or_eq_true, not_or, decide_eq_true_eq] at h1
    exact ⟨hk, h.w, by simp only; omega, fun _ => Nat.succ_pos _⟩
theorem sd_stay (x : Sd) : sdK (stay x) = [.int .i64 ((x.k : Int) + 1), .int .i64 (x.w : Int), .int .i64 x.left, .bool x.ended, .bool false] := id rfl
structure WS where
  es : List (Sd × Int)
  J : List ABlk
  F : List Bool
set_option maxHeartbeats 8000000 in
theorem c81 {d : Fu} (hd : d.fits) (ho : d.Ok) {refused but : Nat} (hrf : refused < 32) (hbut : but < 32) {r hb n l : Nat} {σ : Type} (C : Con d refused but r hb n l σ) :
    ∀ (n' : Nat) (x : Sd) (es : List (Sd × Int)) (X : List ABlk) (tb : List Bool) (c : Int), x.k + n' = d.visits.length → SdOk d x → C.Inv es.length (C.st es) → KOk c es → 0 ≤ c → c + callsN n' ≤ 1000000000 → es.length + callsN n' ≤ 1000000000 →
    ∃ es' F, keys es' = dfsM d refused but n' x (keys es) ∧ C.Inv es'.length (C.st es') ∧ KOk (c + callsN n') es' ∧ es'.length ≤ es.length + callsN n' ∧
      (EW tabX).call 101 [.agg (sdK x), .ref (n + 2) 0, .ref n 0, .ref hb 0, .ref (n + 4) 0, .ref (n + 3) 0] ⟨C.H (C.st es) es ++ X, tb⟩ = some (.bool true, ⟨C.H (C.st es') es' ++ X, tb ++ F⟩) := by
  intro n'
  induction n' with
  | zero => exact fun x es X tb c hk hx hi hke hc hcb hlb => c81_zero C x es X tb c (by omega) hx hi hke hc hcb hlb
  | succ n' ih =>
  intro x es X tb c hk hx hi hke hc hcb hlb
  by_cases hm : x ∈ keys es
  · exact c81_old C (n' + 1) x es X tb c hm hi hke hc hcb
  have hcN : callsN (n' + 1) = 1 + 17 * callsN n' := rfl
  have hcp := callsN_pos n'
  rw [hcN] at hcb hlb
  have fQ := C.facts (C.st es) es
  obtain ⟨hQ, oR, oH, oY, oM, oV, oC, oN⟩ := fQ
  have hs1 := fun es' Y => C.setX (C.st es) es es' Y
  obtain ⟨i1, i2⟩ := ix_none hm
  have hL := lookS x es
  have hI := ixS x es
  rw [i2] at hL
  rw [i1] at hI
  have hbk := bump_keys es x
  rw [if_neg hm] at hbk
  have hbump : bump es x = es ++ [(x, 1)] := by unfold bump; rw [i1, i2]
  rw [hbump] at hbk
  have hlen : (es ++ [(x, (1 : Int))]).length = es.length + 1 := by simp
  have hst : C.st (es ++ [(x, 1)]) = C.stp (C.st es) x := by unfold Con.st; rw [hbk]; simp
  obtain ⟨J, F, r1, r2⟩ := C.rnd es.length (C.st es) (es ++ [(x, 1)]) (X ++ [.cells (sdK x), .none, .none, .none, .none, .none, .none, .none]) (tb ++ List.replicate 7 false) x hi (by omega) hx
  obtain ⟨Y, hYe⟩ : ∃ Y : List ABlk, Y = X ++ [.cells (sdK x), .none, .none, .none, .none, .none, .none, .none] ++ J := ⟨_, rfl⟩
  rw [← hYe] at r2
  have hY6 : ∀ Z, (Y ++ Z)[X.length]? = some (.cells (sdK x)) := fun Z => by rw [hYe]; simp
  have hYX : ∀ Z, (Y ++ Z).take X.length = X := fun Z => by rw [hYe]; simp
  have hY60 : Y[X.length]? = some (.cells (sdK x)) := by have := hY6 []; rwa [List.append_nil] at this
  clear hYe
  have f1 := C.facts (C.st es) (es ++ [(x, 0)])
  obtain ⟨hQ1, oR1, oH1, oY1, oM1, oV1, oC1, oN1⟩ := f1
  have hs2 := fun es' Y => C.setX (C.st es) (es ++ [(x, 0)]) es' Y
  have f2 := C.facts (C.st es) (es ++ [(x, 1)])
  obtain ⟨hQ2, oR2, oH2, oY2, oM2, oV2, oC2, oN2⟩ := f2
  have f3 := C.facts (C.stp (C.st es) x) (es ++ [(x, 1)])
  obtain ⟨hQ3, oR3, oH3, oY3, oM3, oV3, oC3, oN3⟩ := f3
  have hL1 := lookS x (es ++ [(x, 0)])
  rw [(look_app 0 hm).1] at hL1
  have hL2 := lookS x (es ++ [(x, 1)])
  rw [(look_app 1 hm).1] at hL2
  have hel := esS_len es
  have hg1 : (esS (es ++ [(x, 0)]))[es.length]? = some (.agg (sdK x), .int .i64 0) := by rw [esS_get]; simp
  have hset1 : (esS (es ++ [(x, 0)])).set es.length (.agg (sdK x), .int .i64 1) = esS (es ++ [(x, 1)]) := by
    rw [esS_set]; simp
  have hone := esS_one es x 0
  have hkl : x.k < d.visits.length := by omega
  have hvx := List.getElem?_eq_getElem hkl
  have hvo := ho.visit _ (List.getElem_mem hkl)
  have hzv := hd.zv (by intro e; rw [e] at hkl; simp at hkl)
  have hki : (x.k : Int) < d.visits.length := by omega
  have hv5 := ho.visits
  have hp4 := ho.people
  have hke2 : ((x.k : Int) == (d.visits.length : Int)) = false := by simp; omega
  obtain ⟨pn, hpn⟩ := Int.eq_ofNat_of_zero_le hvo.person.1
  have hpl : pn < 5 := by have := hvo.person.2; omega
  have hwb := shr_and ⟨x.w, by have := hx.w; omega⟩ ⟨pn, hpl⟩
  have hrb := shr_and ⟨refused, hrf⟩ ⟨x.k, by omega⟩
  simp only at hwb hrb
  have hwk : IntKind.i64.wrap ((x.k : Int) + 1) = (x.k : Int) + 1 := wrap_i64 (by omega)
  have hpt : d.visits[x.k].person.toNat = pn := by rw [hpn]; simp
  have hj0 : (0 : Int) ≤ es.length := by omega
  generalize hQQ : C.H (C.st es) es = Q at *
  generalize hQQ1 : C.H (C.st es) (es ++ [(x, 0)]) = Q1 at *
  generalize hQQ2 : C.H (C.st es) (es ++ [(x, 1)]) = Q2 at *
  generalize hQQ3 : C.H (C.stp (C.st es) x) (es ++ [(x, 1)]) = Q3 at *
  have hw : IntKind.i64.wrap 1 = 1 := wrap_i64 (by omega)
  simp only [eFs] at oR3
  simp only [sdK, ks5] at hL hI hL1 hL2 hg1 hset1 r2 hY6 hY60 ⊢
  simp only [go_sem, ↓reduceIte, Nat.reduceBEq, Nat.reduceEqDiff, Nat.reduceLT, Nat.reduceLeDiff, Nat.reduceAdd, Nat.reduceMul, Nat.reduceSub, reduceCtorEq, Int.reduceLT, Int.reduceLE, Int.reduceEq, Int.reduceBEq, Int.reduceBNe, Int.reduceToNat, Int.reduceAdd, Int.reduceNeg, Int.reduceSub] at r2
  rw [w_call _ fn_101 rfl]
  simp only [go_sem, ↓reduceIte, Nat.reduceBEq, Nat.reduceEqDiff, Nat.reduceLT, Nat.reduceLeDiff, Nat.reduceAdd, Nat.reduceMul, Nat.reduceSub, reduceCtorEq, Int.reduceLT, Int.reduceLE, Int.reduceEq, Int.reduceBEq, Int.reduceBNe, Int.reduceToNat, Int.reduceAdd, Int.reduceNeg, Int.reduceSub, oV, hQ, List.size_toArray, hQ, q_get hQ, q_get0 hQ, q_set hQ, q_set0 hQ, q_take hQ, q_take0 hQ, opMapEntry, opEntryStore, hL, hI, hw, oM, hs1, hQQ, hj0, hone, hel, hQQ1, oV1, oM1, hL1, hQ1, q_get hQ1, q_get0 hQ1, q_set hQ1, q_set0 hQ1, q_take hQ1, q_take0 hQ1, hQ1, hs2, hg1, hset1, hQQ2]
  generalize hcf : okFam _ _ _ = cf
  obtain rfl : cf = true := by rw [← hcf]; kernel_rfl
  generalize hvv : d.visits[x.k] = v at *
  simp only [go_sem, ↓reduceIte, Nat.reduceBEq, Nat.reduceEqDiff, Nat.reduceLT, Nat.reduceLeDiff, Nat.reduceAdd, Nat.reduceMul, Nat.reduceSub, reduceCtorEq, Int.reduceLT, Int.reduceLE, Int.reduceEq, Int.reduceBEq, Int.reduceBNe, Int.reduceToNat, Int.reduceAdd, Int.reduceNeg, Int.reduceSub, hQ, oV2, oM2, hL2, oY2, hQ2, hQ2, q_get hQ2, q_get0 hQ2, q_set hQ2, q_set0 hQ2, q_take hQ2, q_take0 hQ2, callAV_yld2, r2, oR3, oH3, hQ3, hQ3, q_get hQ3, q_get0 hQ3, q_set hQ3, q_set0 hQ3, q_take hQ3, q_take0 hQ3, hY6, hY60, hke2, List.size_toArray, hki, hvx, eVi, hzv, Nat.add_assoc, Nat.add_lt_add_iff_left]
  generalize hcf2 : okFam _ _ _ = cf
  obtain rfl : cf = true := by rw [← hcf2]; kernel_rfl
  simp only [go_sem, ↓reduceIte, Nat.reduceBEq, Nat.reduceEqDiff, Nat.reduceLT, Nat.reduceLeDiff, Nat.reduceAdd, Nat.reduceMul, Nat.reduceSub, reduceCtorEq, Int.reduceLT, Int.reduceLE, Int.reduceEq, Int.reduceBEq, Int.reduceBNe, Int.reduceToNat, Int.reduceAdd, Int.reduceNeg, Int.reduceSub, hQ3, hQ3, q_get hQ3, q_get0 hQ3, q_set hQ3, q_set0 hQ3, q_take hQ3, q_take0 hQ3, hY6, oH3, oR3, Nat.add_assoc, Nat.add_lt_add_iff_left, hpn, hwk]
  generalize hg1 : (IntKind.i64.wrap _ == (1 : Int)) = b1
  generalize hg2 : (IntKind.i64.wrap _ == (1 : Int)) = b2
  obtain ⟨rfl, rfl⟩ : b1 = refused.testBit x.k ∧ b2 = x.w.testBit pn := by
    first
    | exact ⟨hg1.symm.trans hrb, hg2.symm.trans hwb⟩
    | exact ⟨hg2.symm.trans hrb, hg1.symm.trans hwb⟩
  have hZX : ∀ Z, (Y ++ [ABlk.none, .cells [.int .i64 (pn : Int), .int .i64 v.day, .int .i64 v.kind, .int .i64 v.llo, .int .i64 v.lhi, .int .i64 v.hlo, .int .i64 v.hhi, .bool v.sure], .none, .none, .none, .none, .none, .none, .none, .none, .none, .cells [.int .i64 ((x.k : Int) + 1), .int .i64 (x.w : Int), .int .i64 x.left, .bool x.ended, .bool false]] ++ Z).take X.length = X := fun Z => by rw [List.append_assoc]; exact hYX _
  have hZ6 : ∀ Z, (Y ++ [ABlk.none, .cells [.int .i64 (pn : Int), .int .i64 v.day, .int .i64 v.kind, .int .i64 v.llo, .int .i64 v.lhi, .int .i64 v.hlo, .int .i64 v.hhi, .bool v.sure], .none, .none, .none, .none, .none, .none, .none, .none, .none, .cells [.int .i64 ((x.k : Int) + 1), .int .i64 (x.w : Int), .int .i64 x.left, .bool x.ended, .bool false]] ++ Z)[X.length]? = some (.cells [.int .i64 (x.k : Int), .int .i64 (x.w : Int), .int .i64 x.left, .bool x.ended, .bool x.paid]) := fun Z => by rw [List.append_assoc]; exact hY6 _
  have hZ10 : ∀ Z, (Y ++ [ABlk.none, .cells [.int .i64 (pn : Int), .int .i64 v.day, .int .i64 v.kind, .int .i64 v.llo, .int .i64 v.lhi, .int .i64 v.hlo, .int .i64 v.hhi, .bool v.sure], .none, .none, .none, .none, .none, .none, .none, .none, .none, .cells [.int .i64 ((x.k : Int) + 1), .int .i64 (x.w : Int), .int .i64 x.left, .bool x.ended, .bool false]] ++ Z)[Y.length + 11]? = some (.cells [.int .i64 ((x.k : Int) + 1), .int .i64 (x.w : Int), .int .i64 x.left, .bool x.ended, .bool false]) := fun Z => by rw [List.append_assoc, get_at]; rfl
  generalize hY2 : Y ++ [ABlk.none, .cells [.int .i64 (pn : Int), .int .i64 v.day, .int .i64 v.kind, .int .i64 v.llo, .int .i64 v.lhi, .int .i64 v.hlo, .int .i64 v.hhi, .bool v.sure], .none, .none, .none, .none, .none, .none, .none, .none, .none, .cells [.int .i64 ((x.k : Int) + 1), .int .i64 (x.w : Int), .int .i64 x.left, .bool x.ended, .bool false]] = Y2 at hZX hZ6 hZ10 ⊢
  have hZ60 : Y2[X.length]? = some (.cells [.int .i64 (x.k : Int), .int .i64 (x.w : Int), .int .i64 x.left, .bool x.ended, .bool x.paid]) := by have := hZ6 []; rwa [List.append_nil] at this
  have hZ100 : Y2[Y.length + 11]? = some (.cells [.int .i64 ((x.k : Int) + 1), .int .i64 (x.w : Int), .int .i64 x.left, .bool x.ended, .bool false]) := by have := hZ10 []; rwa [List.append_nil] at this
  have hZX0 : Y2.take X.length = X := by have := hZX []; rwa [List.append_nil] at this
  generalize hF2 : false :: false :: false :: false :: false :: false :: false :: (F ++ [false, false, false, false, false, false, false, false, false, false, false]) = F2
  have hx1 : SdOk d (stay x) := hx.stay (by omega)
  have hke1 : KOk (c + 1) (es ++ [(x, 1)]) := by have := KOk_bump hke hc x; rwa [hbump] at this
  rw [← hst, ← hlen] at r1
  have hkids : kids d refused but x = (if refused.testBit x.k || !x.w.testBit pn || !comesB d x.k then [stay x] else []) ++ (if refused.testBit x.k || !x.w.testBit pn then [] else (costs d but x.k).map (stepSd x)) := by
    unfold kids; rw [hvx]; simp only [hpt]
  have hdfs : dfsM d refused but (n' + 1) x (keys es) = (kids d refused but x).foldl (fun M c => dfsM d refused but n' c M) (keys (es ++ [(x, 1)])) := by
    rw [hbk]
    show (if x ∈ keys es then _ else _) = _
    rw [if_neg hm]
  rw [hdfs, hkids]
  cases hab : (refused.testBit x.k || !x.w.testBit pn) with
  | true =>
    obtain ⟨es3, F3, u1, u2, u3, u4, u5⟩ := ih (stay x) (es ++ [(x, 1)]) Y2 (tb ++ F2) (c + 1) (by show x.k + 1 + n' = _; omega) hx1 r1 hke1 (by omega) (by omega) (by rw [hlen]; omega)
    rw [hst, hQQ3] at u5
    obtain ⟨hQ4, oR4, oH4, oY4, oM4, oV4, oC4, oN4⟩ := C.facts (C.st es3) es3
    refine ⟨es3, F2 ++ F3, ?_, u2, fun e he => ?_, ?_, ?_⟩
    · rw [u1, Bool.true_or]; rfl
    · have := u3 e he; rw [hcN]; omega
    · rw [hlen] at u4; rw [hcN]; omega
    · generalize hQQ4 : C.H (C.st es3) es3 = Q4 at *
      simp only [sd_stay] at u5
      simp only [go_sem, ↓reduceIte, Nat.reduceBEq, Nat.reduceEqDiff, Nat.reduceLT, Nat.reduceLeDiff, Nat.reduceAdd, Nat.reduceMul, Nat.reduceSub, reduceCtorEq, Int.reduceLT, Int.reduceLE, Int.reduceEq, Int.reduceBEq, Int.reduceBNe, Int.reduceToNat, Int.reduceAdd, Int.reduceNeg, Int.reduceSub] at u5
      cases ha : refused.testBit x.k with
      | true =>
        simp only [go_sem, ↓reduceIte, Nat.reduceBEq, Nat.reduceEqDiff, Nat.reduceLT, Nat.reduceLeDiff, Nat.reduceAdd, Nat.reduceMul, Nat.reduceSub, reduceCtorEq, Int.reduceLT, Int.reduceLE, Int.reduceEq, Int.reduceBEq, Int.reduceBNe, Int.reduceToNat, Int.reduceAdd, Int.reduceNeg, Int.reduceSub, hQ3, hQ3, q_get hQ3, q_get0 hQ3, q_set hQ3, q_set0 hQ3, q_take hQ3, q_take0 hQ3, oN3, hZ100, hZ10, u5, hQ4, hQ4, q_get hQ4, q_get0 hQ4, q_set hQ4, q_set0 hQ4, q_take hQ4, q_take0 hQ4, hZX0, hQ]
      | false =>
        rw [ha, Bool.false_or] at hab
        have hb : x.w.testBit pn = false := by simpa using hab
        simp only [go_sem, ↓reduceIte, Nat.reduceBEq, Nat.reduceEqDiff, Nat.reduceLT, Nat.reduceLeDiff, Nat.reduceAdd, Nat.reduceMul, Nat.reduceSub, reduceCtorEq, Int.reduceLT, Int.reduceLE, Int.reduceEq, Int.reduceBEq, Int.reduceBNe, Int.reduceToNat, Int.reduceAdd, Int.reduceNeg, Int.reduceSub, hb, hQ3, hQ3, q_get hQ3, q_get0 hQ3, q_set hQ3, q_set0 hQ3, q_take hQ3, q_take0 hQ3, oN3, hZ100, hZ10, u5, hQ4, hQ4, q_get hQ4, q_get0 hQ4, q_set hQ4, q_set0 hQ4, q_take hQ4, q_take0 hQ4, hZX0, hQ]
  | false =>
    simp only [Bool.or_eq_false_iff] at hab
    obtain ⟨ha, hb⟩ := hab
    have hb : x.w.testBit pn = true := by simpa using hb
    have h82 := c82 hd ho refused but r x.k hkl (Q3 ++ Y2) (tb ++ F2) (oR3 Y2)
    simp only [go_sem, ↓reduceIte, Nat.reduceBEq, Nat.reduceEqDiff, Nat.reduceLT, Nat.reduceLeDiff, Nat.reduceAdd, Nat.reduceMul, Nat.reduceSub, reduceCtorEq, Int.reduceLT, Int.reduceLE, Int.reduceEq, Int.reduceBEq, Int.reduceBNe, Int.reduceToNat, Int.reduceAdd, Int.reduceNeg, Int.reduceSub] at h82
    have hcost := cost_at hd ho refused hbut hkl
    have hcl16 := costs_len ho (but := but) hkl
    have hcbd : ∀ (j : Nat) (n : Int), (costs d but x.k)[j]? = some n → 0 ≤ n ∧ n ≤ 90 := fun j n h => costs_bd ho (List.mem_of_getElem? h)
    generalize costs d but x.k = l at hcost hcl16 hcbd ⊢
    cases hcb : comesB d x.k with
    | true =>
      rw [hcb] at h82
      simp only [go_sem, ↓reduceIte, Nat.reduceBEq, Nat.reduceEqDiff, Nat.reduceLT, Nat.reduceLeDiff, Nat.reduceAdd, Nat.reduceMul, Nat.reduceSub, reduceCtorEq, Int.reduceLT, Int.reduceLE, Int.reduceEq, Int.reduceBEq, Int.reduceBNe, Int.reduceToNat, Int.reduceAdd, Int.reduceNeg, Int.reduceSub, ha, hb, h82, hQ3, hQ3, q_get hQ3, q_get0 hQ3, q_set hQ3, q_set0 hQ3, q_take hQ3, q_take0 hQ3, hZ6, hZ60, oC3, hcost, oR3, vI]
      generalize hz : (EW tabX).code 101 none (Code.loop _) _ = y
      refine w_rounds_sk hz (fun j (q : WS) => [(95, .int .i64 (j : Int))]) (fun q => ⟨C.H (C.st q.es) q.es ++ (Y2 ++ q.J), tb ++ q.F⟩)
        (fun j q => keys q.es = ((l.take j).map (stepSd x)).foldl (fun M c => dfsM d refused but n' c M) (keys (es ++ [(x, 1)])) ∧ C.Inv q.es.length (C.st q.es) ∧ KOk ((c + 1) + ((j * callsN n' : Nat) : Int)) q.es ∧ q.es.length ≤ (es.length + 1) + j * callsN n') l.length (.exit 0) (fun q => [(95, .int .i64 (l.length : Int))]) rfl ⟨es ++ [(x, 1)], [], F2 ++ [false, false, false, false, false, false, false, false, false, false, false, false, false, false, false, false, false, false, false]⟩ ?_ ?_ ?_ ?_ ?_ ?_
      · simp only [go_sem, ↓reduceIte, Nat.reduceBEq, Nat.reduceEqDiff, Nat.reduceLT, Nat.reduceLeDiff, Nat.reduceAdd, Nat.reduceMul, Nat.reduceSub, reduceCtorEq, Int.reduceLT, Int.reduceLE, Int.reduceEq, Int.reduceBEq, Int.reduceBNe, Int.reduceToNat, Int.reduceAdd, Int.reduceNeg, Int.reduceSub]
      · simp only [hst, hQQ3, List.append_nil, go_sem, ↓reduceIte, Nat.reduceBEq, Nat.reduceEqDiff, Nat.reduceLT, Nat.reduceLeDiff, Nat.reduceAdd, Nat.reduceMul, Nat.reduceSub, reduceCtorEq, Int.reduceLT, Int.reduceLE, Int.reduceEq, Int.reduceBEq, Int.reduceBNe, Int.reduceToNat, Int.reduceAdd, Int.reduceNeg, Int.reduceSub]
      · exact ⟨rfl, r1, by rw [Nat.zero_mul]; simpa using hke1, (by show (es ++ [(x, 1)]).length ≤ _; rw [Nat.zero_mul, hlen]; exact Nat.le_refl _)⟩
      · intro j q hj hR
        obtain ⟨esq, Jq, Fq⟩ := q
        obtain ⟨v1, v2, v3, v4⟩ := hR
        have v1 : keys esq = _ := v1
        have v2 : C.Inv esq.length (C.st esq) := v2
        have v3 : KOk ((c + 1) + ((j * callsN n' : Nat) : Int)) esq := v3
        have v4 : esq.length ≤ (es.length + 1) + j * callsN n' := v4
        have hji : (j : Int) < l.length := by omega
        have hxj := List.getElem?_eq_getElem hj
        have hz1 : zT 1 l.length = 1 := zT_pos (by omega)
        have hbj := hcbd j _ hxj
        have hjm : (j + 1) * callsN n' ≤ 16 * callsN n' := Nat.mul_le_mul_right _ (by omega)
        have hjs : (j + 1) * callsN n' = j * callsN n' + callsN n' := Nat.succ_mul _ _
        have hwj : IntKind.i64.wrap ((j : Int) + 1) = (j : Int) + 1 := wrap_i64 (by omega)
        have hlf := hx.left
        have hws : IntKind.i64.wrap (x.left - l[j]) = x.left - l[j] := wrap_i64 (by omega)
        have hxs : SdOk d (stepSd x l[j]) := hx.step (by omega) hbj
        have hsk : (stepSd x l[j]).k = x.k + 1 := by unfold stepSd; split <;> rfl
        obtain ⟨es5, F5, w1, w2, w3, w4, w5⟩ := ih (stepSd x l[j]) esq (Y2 ++ (Jq ++ [.cells (sdK (stepSd x l[j]))])) (tb ++ Fq) ((c + 1) + ((j * callsN n' : Nat) : Int)) (by rw [hsk]; omega) hxs v2 v3 (by omega) (by omega) (by omega)
        have hR' : keys es5 = ((l.take (j + 1)).map (stepSd x)).foldl (fun M c => dfsM d refused but n' c M) (keys (es ++ [(x, 1)])) ∧ C.Inv es5.length (C.st es5) ∧ KOk ((c + 1) + (((j + 1) * callsN n' : Nat) : Int)) es5 ∧ es5.length ≤ (es.length + 1) + (j + 1) * callsN n' := by
          refine ⟨?_, w2, fun e he => ?_, by omega⟩
          · rw [w1, v1, map_succ _ hxj, List.foldl_append]; rfl
          · have := w3 e he; omega
        obtain ⟨hQ6, oR6, oH6, oY6, oM6, oV6, oC6, oN6⟩ := C.facts (C.st esq) esq
        obtain ⟨hQ7, oR7, oH7, oY7, oM7, oV7, oC7, oN7⟩ := C.facts (C.st es5) es5
        refine ⟨⟨es5, Jq ++ [.cells (sdK (stepSd x l[j]))], Fq ++ F5⟩, ?_, hR'⟩
        generalize hQQ6 : C.H (C.st esq) esq = Q6 at *
        generalize hQQ7 : C.H (C.st es5) es5 = Q7 at *
        generalize hnn : l[j] = nj at *
        cases hE : x.ended with
        | true =>
          have hstep : sdK (stepSd x nj) = [.int .i64 ((x.k : Int) + 1), .int .i64 (x.w : Int), .int .i64 x.left, .bool true, .bool false] := by unfold stepSd; rw [if_pos (by rw [hE]; rfl)]; rfl
          rw [hstep] at w5
          simp only [go_sem, ↓reduceIte, Nat.reduceBEq, Nat.reduceEqDiff, Nat.reduceLT, Nat.reduceLeDiff, Nat.reduceAdd, Nat.reduceMul, Nat.reduceSub, reduceCtorEq, Int.reduceLT, Int.reduceLE, Int.reduceEq, Int.reduceBEq, Int.reduceBNe, Int.reduceToNat, Int.reduceAdd, Int.reduceNeg, Int.reduceSub] at w5
          simp only [go_sem, ↓reduceIte, Nat.reduceBEq, Nat.reduceEqDiff, Nat.reduceLT, Nat.reduceLeDiff, Nat.reduceAdd, Nat.reduceMul, Nat.reduceSub, reduceCtorEq, Int.reduceLT, Int.reduceLE, Int.reduceEq, Int.reduceBEq, Int.reduceBNe, Int.reduceToNat, Int.reduceAdd, Int.reduceNeg, Int.reduceSub, hstep, hE, hji, hxj, hz1, hQ6, hQ6, q_get hQ6, q_get0 hQ6, q_set hQ6, q_set0 hQ6, q_take hQ6, q_take0 hQ6, hZ6, hZ10, oN6, w5, hwj, hQ7]
        | false =>
        by_cases hlt : x.left < nj
        · have hstep : sdK (stepSd x nj) = [.int .i64 ((x.k : Int) + 1), .int .i64 (x.w : Int), .int .i64 x.left, .bool true, .bool false] := by unfold stepSd; rw [if_pos (by rw [hE, decide_eq_true hlt]; rfl)]; rfl
          rw [hstep] at w5
          simp only [go_sem, ↓reduceIte, Nat.reduceBEq, Nat.reduceEqDiff, Nat.reduceLT, Nat.reduceLeDiff, Nat.reduceAdd, Nat.reduceMul, Nat.reduceSub, reduceCtorEq, Int.reduceLT, Int.reduceLE, Int.reduceEq, Int.reduceBEq, Int.reduceBNe, Int.reduceToNat, Int.reduceAdd, Int.reduceNeg, Int.reduceSub] at w5
          simp only [go_sem, ↓reduceIte, Nat.reduceBEq, Nat.reduceEqDiff, Nat.reduceLT, Nat.reduceLeDiff, Nat.reduceAdd, Nat.reduceMul, Nat.reduceSub, reduceCtorEq, Int.reduceLT, Int.reduceLE, Int.reduceEq, Int.reduceBEq, Int.reduceBNe, Int.reduceToNat, Int.reduceAdd, Int.reduceNeg, Int.reduceSub, hstep, hE, hlt, hji, hxj, hz1, hQ6, hQ6, q_get hQ6, q_get0 hQ6, q_set hQ6, q_set0 hQ6, q_take hQ6, q_take0 hQ6, hZ6, hZ10, oN6, w5, hwj, hQ7]
        · have hstep : sdK (stepSd x nj) = [.int .i64 ((x.k : Int) + 1), .int .i64 (x.w : Int), .int .i64 (x.left - nj), .bool false, .bool true] := by unfold stepSd; rw [if_neg (by rw [hE, decide_eq_false hlt]; exact Bool.false_ne_true)]; rfl
          rw [hstep] at w5
          simp only [go_sem, ↓reduceIte, Nat.reduceBEq, Nat.reduceEqDiff, Nat.reduceLT, Nat.reduceLeDiff, Nat.reduceAdd, Nat.reduceMul, Nat.reduceSub, reduceCtorEq, Int.reduceLT, Int.reduceLE, Int.reduceEq, Int.reduceBEq, Int.reduceBNe, Int.reduceToNat, Int.reduceAdd, Int.reduceNeg, Int.reduceSub] at w5
          simp only [go_sem, ↓reduceIte, Nat.reduceBEq, Nat.reduceEqDiff, Nat.reduceLT, Nat.reduceLeDiff, Nat.reduceAdd, Nat.reduceMul, Nat.reduceSub, reduceCtorEq, Int.reduceLT, Int.reduceLE, Int.reduceEq, Int.reduceBEq, Int.reduceBNe, Int.reduceToNat, Int.reduceAdd, Int.reduceNeg, Int.reduceSub, hstep, hE, hlt, hji, hxj, hz1, hQ6, hQ6, q_get hQ6, q_get0 hQ6, q_set hQ6, q_set0 hQ6, q_take hQ6, q_take0 hQ6, hZ6, hZ10, oN6, w5, hwj, hws, hQ7]
      · intro q hR
        simp only [go_sem, ↓reduceIte, Nat.reduceBEq, Nat.reduceEqDiff, Nat.reduceLT, Nat.reduceLeDiff, Nat.reduceAdd, Nat.reduceMul, Nat.reduceSub, reduceCtorEq, Int.reduceLT, Int.reduceLE, Int.reduceEq, Int.reduceBEq, Int.reduceBNe, Int.reduceToNat, Int.reduceAdd, Int.reduceNeg, Int.reduceSub, Int.lt_irrefl]
      · intro q hq hR
        obtain ⟨esq, Jq, Fq⟩ := q
        obtain ⟨v1, v2, v3, v4⟩ := hR
        obtain ⟨hQ6, oR6, oH6, oY6, oM6, oV6, oC6, oN6⟩ := C.facts (C.st esq) esq
        have hjm : l.length * callsN n' ≤ 16 * callsN n' := Nat.mul_le_mul_right _ hcl16
        refine ⟨esq, Fq, ?_, v2, fun e he => ?_, ?_, ?_⟩
        · rw [v1, List.take_length]
        · have v3 : KOk ((c + 1) + ((l.length * callsN n' : Nat) : Int)) esq := v3
          have := v3 e he; rw [hcN]; omega
        · have v4 : esq.length ≤ (es.length + 1) + l.length * callsN n' := v4
          rw [hcN]; omega
        · subst hq
          generalize hQQ6 : C.H (C.st esq) esq = Q6 at *
          simp only [go_sem, ↓reduceIte, Nat.reduceBEq, Nat.reduceEqDiff, Nat.reduceLT, Nat.reduceLeDiff, Nat.reduceAdd, Nat.reduceMul, Nat.reduceSub, reduceCtorEq, Int.reduceLT, Int.reduceLE, Int.reduceEq, Int.reduceBEq, Int.reduceBNe, Int.reduceToNat, Int.reduceAdd, Int.reduceNeg, Int.reduceSub, hQ6, hQ6, q_get hQ6, q_get0 hQ6, q_set hQ6, q_set0 hQ6, q_take hQ6, q_take0 hQ6, hZX, hQ]
    | false =>
      rw [hcb] at h82
      obtain ⟨es3, F3, u1, u2, u3, u4, u5⟩ := ih (stay x) (es ++ [(x, 1)]) Y2 (tb ++ (F2 ++ [false, false, false, false, false, false, false, false, false, false, false, false, false, false, false, false, false, false, false])) (c + 1) (by show x.k + 1 + n' = _; omega) hx1 r1 hke1 (by omega) (by omega) (by rw [hlen]; omega)
      rw [hst, hQQ3] at u5
      rw [hlen] at u4
      obtain ⟨hQ4, oR4, oH4, oY4, oM4, oV4, oC4, oN4⟩ := C.facts (C.st es3) es3
      generalize hQQ4 : C.H (C.st es3) es3 = Q4 at *
      simp only [sd_stay] at u5
      simp only [go_sem, ↓reduceIte, Nat.reduceBEq, Nat.reduceEqDiff, Nat.reduceLT, Nat.reduceLeDiff, Nat.reduceAdd, Nat.reduceMul, Nat.reduceSub, reduceCtorEq, Int.reduceLT, Int.reduceLE, Int.reduceEq, Int.reduceBEq, Int.reduceBNe, Int.reduceToNat, Int.reduceAdd, Int.reduceNeg, Int.reduceSub] at u5
      simp only [eFs] at oR4
      simp only [go_sem, ↓reduceIte, Nat.reduceBEq, Nat.reduceEqDiff, Nat.reduceLT, Nat.reduceLeDiff, Nat.reduceAdd, Nat.reduceMul, Nat.reduceSub, reduceCtorEq, Int.reduceLT, Int.reduceLE, Int.reduceEq, Int.reduceBEq, Int.reduceBNe, Int.reduceToNat, Int.reduceAdd, Int.reduceNeg, Int.reduceSub, ha, hb, h82, hQ3, hQ3, q_get hQ3, q_get0 hQ3, q_set hQ3, q_set0 hQ3, q_take hQ3, q_take0 hQ3, oN3, hZ100, hZ10, u5, hQ4, hQ4, q_get hQ4, q_get0 hQ4, q_set hQ4, q_set0 hQ4, q_take hQ4, q_take0 hQ4, hZ6, hZ60, oC4, hcost, oR4, vI]
      generalize hz : (EW tabX).code 101 none (Code.loop _) _ = y
      refine w_rounds_sk hz (fun j (q : WS) => [(95, .int .i64 (j : Int))]) (fun q => ⟨C.H (C.st q.es) q.es ++ (Y2 ++ q.J), tb ++ q.F⟩)
        (fun j q => keys q.es = ((l.take j).map (stepSd x)).foldl (fun M c => dfsM d refused but n' c M) (keys (es3)) ∧ C.Inv q.es.length (C.st q.es) ∧ KOk ((c + 1 + (callsN n' : Int)) + ((j * callsN n' : Nat) : Int)) q.es ∧ q.es.length ≤ (es.length + 1 + callsN n') + j * callsN n') l.length (.exit 0) (fun q => [(95, .int .i64 (l.length : Int))]) rfl ⟨es3, [], F2 ++ ([false, false, false, false, false, false, false, false, false, false, false, false, false, false, false, false, false, false, false] ++ F3)⟩ ?_ ?_ ?_ ?_ ?_ ?_
      · simp only [go_sem, ↓reduceIte, Nat.reduceBEq, Nat.reduceEqDiff, Nat.reduceLT, Nat.reduceLeDiff, Nat.reduceAdd, Nat.reduceMul, Nat.reduceSub, reduceCtorEq, Int.reduceLT, Int.reduceLE, Int.reduceEq, Int.reduceBEq, Int.reduceBNe, Int.reduceToNat, Int.reduceAdd, Int.reduceNeg, Int.reduceSub]
      · simp only [hQQ4, List.append_nil, go_sem, ↓reduceIte, Nat.reduceBEq, Nat.reduceEqDiff, Nat.reduceLT, Nat.reduceLeDiff, Nat.reduceAdd, Nat.reduceMul, Nat.reduceSub, reduceCtorEq, Int.reduceLT, Int.reduceLE, Int.reduceEq, Int.reduceBEq, Int.reduceBNe, Int.reduceToNat, Int.reduceAdd, Int.reduceNeg, Int.reduceSub]
      · exact ⟨rfl, u2, by rw [Nat.zero_mul]; simpa using u3, (by show es3.length ≤ _; rw [Nat.zero_mul]; omega)⟩
      · intro j q hj hR
        obtain ⟨esq, Jq, Fq⟩ := q
        obtain ⟨v1, v2, v3, v4⟩ := hR
        have v1 : keys esq = _ := v1
        have v2 : C.Inv esq.length (C.st esq) := v2
        have v3 : KOk ((c + 1 + (callsN n' : Int)) + ((j * callsN n' : Nat) : Int)) esq := v3
        have v4 : esq.length ≤ (es.length + 1 + callsN n') + j * callsN n' := v4
        have hji : (j : Int) < l.length := by omega
        have hxj := List.getElem?_eq_getElem hj
        have hz1 : zT 1 l.length = 1 := zT_pos (by omega)
        have hbj := hcbd j _ hxj
        have hjm : (j + 1) * callsN n' ≤ 16 * callsN n' := Nat.mul_le_mul_right _ (by omega)
        have hjs : (j + 1) * callsN n' = j * callsN n' + callsN n' := Nat.succ_mul _ _
        have hwj : IntKind.i64.wrap ((j : Int) + 1) = (j : Int) + 1 := wrap_i64 (by omega)
        have hlf := hx.left
        have hws : IntKind.i64.wrap (x.left - l[j]) = x.left - l[j] := wrap_i64 (by omega)
        have hxs : SdOk d (stepSd x l[j]) := hx.step (by omega) hbj
        have hsk : (stepSd x l[j]).k = x.k + 1 := by unfold stepSd; split <;> rfl
        obtain ⟨es5, F5, w1, w2, w3, w4, w5⟩ := ih (stepSd x l[j]) esq (Y2 ++ (Jq ++ [.cells (sdK (stepSd x l[j]))])) (tb ++ Fq) ((c + 1 + (callsN n' : Int)) + ((j * callsN n' : Nat) : Int)) (by rw [hsk]; omega) hxs v2 v3 (by omega) (by omega) (by omega)
        have hR' : keys es5 = ((l.take (j + 1)).map (stepSd x)).foldl (fun M c => dfsM d refused but n' c M) (keys (es3)) ∧ C.Inv es5.length (C.st es5) ∧ KOk ((c + 1 + (callsN n' : Int)) + (((j + 1) * callsN n' : Nat) : Int)) es5 ∧ es5.length ≤ (es.length + 1 + callsN n') + (j + 1) * callsN n' := by
          refine ⟨?_, w2, fun e he => ?_, by omega⟩
          · rw [w1, v1, map_succ _ hxj, List.foldl_append]; rfl
          · have := w3 e he; omega
        obtain ⟨hQ6, oR6, oH6, oY6, oM6, oV6, oC6, oN6⟩ := C.facts (C.st esq) esq
        obtain ⟨hQ7, oR7, oH7, oY7, oM7, oV7, oC7, oN7⟩ := C.facts (C.st es5) es5
        refine ⟨⟨es5, Jq ++ [.cells (sdK (stepSd x l[j]))], Fq ++ F5⟩, ?_, hR'⟩
        generalize hQQ6 : C.H (C.st esq) esq = Q6 at *
        generalize hQQ7 : C.H (C.st es5) es5 = Q7 at *
        generalize hnn : l[j] = nj at *
        cases hE : x.ended with
        | true =>
          have hstep : sdK (stepSd x nj) = [.int .i64 ((x.k : Int) + 1), .int .i64 (x.w : Int), .int .i64 x.left, .bool true, .bool false] := by unfold stepSd; rw [if_pos (by rw [hE]; rfl)]; rfl
          rw [hstep] at w5
          simp only [go_sem, ↓reduceIte, Nat.reduceBEq, Nat.reduceEqDiff, Nat.reduceLT, Nat.reduceLeDiff, Nat.reduceAdd, Nat.reduceMul, Nat.reduceSub, reduceCtorEq, Int.reduceLT, Int.reduceLE, Int.reduceEq, Int.reduceBEq, Int.reduceBNe, Int.reduceToNat, Int.reduceAdd, Int.reduceNeg, Int.reduceSub] at w5
          simp only [go_sem, ↓reduceIte, Nat.reduceBEq, Nat.reduceEqDiff, Nat.reduceLT, Nat.reduceLeDiff, Nat.reduceAdd, Nat.reduceMul, Nat.reduceSub, reduceCtorEq, Int.reduceLT, Int.reduceLE, Int.reduceEq, Int.reduceBEq, Int.reduceBNe, Int.reduceToNat, Int.reduceAdd, Int.reduceNeg, Int.reduceSub, hstep, hE, hji, hxj, hz1, hQ6, hQ6, q_get hQ6, q_get0 hQ6, q_set hQ6, q_set0 hQ6, q_take hQ6, q_take0 hQ6, hZ6, hZ10, oN6, w5, hwj, hQ7]
        | false =>
        by_cases hlt : x.left < nj
        · have hstep : sdK (stepSd x nj) = [.int .i64 ((x.k : Int) + 1), .int .i64 (x.w : Int), .int .i64 x.left, .bool true, .bool false] := by unfold stepSd; rw [if_pos (by rw [hE, decide_eq_true hlt]; rfl)]; rfl
          rw [hstep] at w5
          simp only [go_sem, ↓reduceIte, Nat.reduceBEq, Nat.reduceEqDiff, Nat.reduceLT, Nat.reduceLeDiff, Nat.reduceAdd, Nat.reduceMul, Nat.reduceSub, reduceCtorEq, Int.reduceLT, Int.reduceLE, Int.reduceEq, Int.reduceBEq, Int.reduceBNe, Int.reduceToNat, Int.reduceAdd, Int.reduceNeg, Int.reduceSub] at w5
          simp only [go_sem, ↓reduceIte, Nat.reduceBEq, Nat.reduceEqDiff, Nat.reduceLT, Nat.reduceLeDiff, Nat.reduceAdd, Nat.reduceMul, Nat.reduceSub, reduceCtorEq, Int.reduceLT, Int.reduceLE, Int.reduceEq, Int.reduceBEq, Int.reduceBNe, Int.reduceToNat, Int.reduceAdd, Int.reduceNeg, Int.reduceSub, hstep, hE, hlt, hji, hxj, hz1, hQ6, hQ6, q_get hQ6, q_get0 hQ6, q_set hQ6, q_set0 hQ6, q_take hQ6, q_take0 hQ6, hZ6, hZ10, oN6, w5, hwj, hQ7]
        · have hstep : sdK (stepSd x nj) = [.int .i64 ((x.k : Int) + 1), .int .i64 (x.w : Int), .int .i64 (x.left - nj), .bool false, .bool true] := by unfold stepSd; rw [if_neg (by rw [hE, decide_eq_false hlt]; exact Bool.false_ne_true)]; rfl
          rw [hstep] at w5
          simp only [go_sem, ↓reduceIte, Nat.reduceBEq, Nat.reduceEqDiff, Nat.reduceLT, Nat.reduceLeDiff, Nat.reduceAdd, Nat.reduceMul, Nat.reduceSub, reduceCtorEq, Int.reduceLT, Int.reduceLE, Int.reduceEq, Int.reduceBEq, Int.reduceBNe, Int.reduceToNat, Int.reduceAdd, Int.reduceNeg, Int.reduceSub] at w5
          simp only [go_sem, ↓reduceIte, Nat.reduceBEq, Nat.reduceEqDiff, Nat.reduceLT, Nat.reduceLeDiff, Nat.reduceAdd, Nat.reduceMul, Nat.reduceSub, reduceCtorEq, Int.reduceLT, Int.reduceLE, Int.reduceEq, Int.reduceBEq, Int.reduceBNe, Int.reduceToNat, Int.reduceAdd, Int.reduceNeg, Int.reduceSub, hstep, hE, hlt, hji, hxj, hz1, hQ6, hQ6, q_get hQ6, q_get0 hQ6, q_set hQ6, q_set0 hQ6, q_take hQ6, q_take0 hQ6, hZ6, hZ10, oN6, w5, hwj, hws, hQ7]
      · intro q hR
        simp only [go_sem, ↓reduceIte, Nat.reduceBEq, Nat.reduceEqDiff, Nat.reduceLT, Nat.reduceLeDiff, Nat.reduceAdd, Nat.reduceMul, Nat.reduceSub, reduceCtorEq, Int.reduceLT, Int.reduceLE, Int.reduceEq, Int.reduceBEq, Int.reduceBNe, Int.reduceToNat, Int.reduceAdd, Int.reduceNeg, Int.reduceSub, Int.lt_irrefl]
      · intro q hq hR
        obtain ⟨esq, Jq, Fq⟩ := q
        obtain ⟨v1, v2, v3, v4⟩ := hR
        obtain ⟨hQ6, oR6, oH6, oY6, oM6, oV6, oC6, oN6⟩ := C.facts (C.st esq) esq
        have hjm : l.length * callsN n' ≤ 16 * callsN n' := Nat.mul_le_mul_right _ hcl16
        refine ⟨esq, Fq, ?_, v2, fun e he => ?_, ?_, ?_⟩
        · rw [v1, List.take_length, u1]; rfl
        · have v3 : KOk ((c + 1 + (callsN n' : Int)) + ((l.length * callsN n' : Nat) : Int)) esq := v3
          have := v3 e he; rw [hcN]; omega
        · have v4 : esq.length ≤ (es.length + 1 + callsN n') + l.length * callsN n' := v4
          rw [hcN]; omega
        · subst hq
          generalize hQQ6 : C.H (C.st esq) esq = Q6 at *
          simp only [go_sem, ↓reduceIte, Nat.reduceBEq, Nat.reduceEqDiff, Nat.reduceLT, Nat.reduceLeDiff, Nat.reduceAdd, Nat.reduceMul, Nat.reduceSub, reduceCtorEq, Int.reduceLT, Int.reduceLE, Int.reduceEq, Int.reduceBEq, Int.reduceBNe, Int.reduceToNat, Int.reduceAdd, Int.reduceNeg, Int.reduceSub, hQ6, hQ6, q_get hQ6, q_get0 hQ6, q_set hQ6, q_set0 hQ6, q_take hQ6, q_take0 hQ6, hZX, hQ]
end Go.Proofs.YthkpjbgadkkeeaaGreat
end
section
namespace Go.Proofs.YthkpjbgadkkeeaaGreat
open Go.Proofs

theorem shr_int : ∀ s : Fin 32, ∀ i : Fin 5, IntKind.i64.wrap (BitVec.ofInt 64 (((s.1 : Nat) : Int).fdiv (2 ^ (min i.1 64))) &&& BitVec.ofInt 64 1).toNat = if s.1.testBit i.1 then 1 else 0 := by decide
theorem shl_one : ∀ i : Fin 5, IntKind.i64.wrap (1 * 2 ^ (min i.1 64)) = ((2 ^ i.1 : Nat) : Int) := by decide
def noW (d : Fu) (w i : Nat) : Int := match d.people[i]? with
  | some p => if p.widow ≠ 2 ∧ (if w.testBit i then (1 : Int) else 0) ≠ p.widow then 1 else 0
  | none => 0
def okW (d : Fu) (w : Nat) : Bool := decide (firstBad (noW d w) 0 d.people.length = none)
def waysTo (d : Fu) (k : Nat) : List Nat := (List.range k).filter (okW d)
def ways (d : Fu) : List Nat := waysTo d (2 ^ d.people.length)
theorem waysTo_succ (d : Fu) (k : Nat) : waysTo d (k + 1) = if okW d k = true then waysTo d k ++ [k] else waysTo d k := by
  unfold waysTo
  rw [List.range_succ, List.filter_append]
  have e : List.filter (okW d) [k] = if okW d k = true then [k] else [] := by simp only [List.filter_cons, List.filter_nil]
  rw [e]
  split <;> simp
structure Con2 (d : Fu) (refused but : Nat) (r hb l : Nat) (τ : Type) where
  G : τ → List ABlk
  L : Nat
  len : ∀ s, (G s).length = L
  fund : ∀ s, (G s)[r]? = some (.cells (eFs d refused but))
  bx : ∀ s, (G s)[hb]? = some (.cells [.ref r 0])
  Inv : List Nat → τ → Prop
  rnd : ∀ (ws : List Nat) (s : τ) (X : List ABlk) (tb : List Bool) (w : Nat), Inv ws s → ws.length < 16 → w < 16 →
    ∃ s' J F, Inv (ws ++ [w]) s' ∧ stepRound tabX (EW tabX) l [.int .i64 (w : Int)] ⟨G s ++ X, tb⟩ = some (.bool true, ⟨G s' ++ (X ++ J), tb ++ F⟩)
structure VS (τ : Type) where
  s : τ
  J : List ABlk
  F : List Bool
set_option maxHeartbeats 4000000 in
theorem c91 {d : Fu} (hd : d.fits) (ho : d.Ok) {refused but : Nat} {r hb l : Nat} {τ : Type} (C : Con2 d refused but r hb l τ) (s : τ) (hi : C.Inv [] s) (tb : List Bool) :
    ∃ s' F, C.Inv (ways d) s' ∧ (EW tabX).call 159 [.yld l, .ref hb 0] ⟨C.G s, tb⟩ = some (.tup [], ⟨C.G s', tb ++ F⟩) := by
  have hp4 := ho.people
  have hQ := C.len s
  have oR := old (C.fund s)
  have oH := old (C.bx s)
  have oR0 := C.fund s
  have oH0 := C.bx s
  have hsh := shl_one ⟨d.people.length, by omega⟩
  simp only at hsh
  have hpw : 2 ^ d.people.length ≤ 16 := by
    have : 2 ^ d.people.length ≤ 2 ^ 4 := Nat.pow_le_pow_right (by omega) hp4
    omega
  rw [w_call _ fn_159 rfl]
  simp only [eFs] at oR0
  simp only [go_sem, ↓reduceIte, Nat.reduceBEq, Nat.reduceEqDiff, Nat.reduceLT, Nat.reduceLeDiff, Nat.reduceAdd, Nat.reduceMul, Nat.reduceSub, reduceCtorEq, Int.reduceLT, Int.reduceLE, Int.reduceEq, Int.reduceBEq, Int.reduceBNe, Int.reduceToNat, Int.reduceAdd, Int.reduceNeg, Int.reduceSub, oH0, oR0]
  generalize hg : IntKind.i64.wrap _ = sh
  obtain rfl : sh = ((2 ^ d.people.length : Nat) : Int) := hg.symm.trans hsh
  generalize hx : (EW tabX).code 159 none (Code.loop _) _ = x
  refine w_rounds_sk hx (fun k (q : VS τ) => [(13, .int .i64 (k : Int))]) (fun q => ⟨C.G q.s ++ q.J, tb ++ q.F⟩) (fun k q => C.Inv (waysTo d k) q.s) (2 ^ d.people.length) (.exit 0) (fun q => [(13, .int .i64 ((2 ^ d.people.length : Nat) : Int))]) rfl ⟨s, [], []⟩ ?_ ?_ ?_ ?_ ?_ ?_
  · simp only [go_sem, ↓reduceIte, Nat.reduceBEq, Nat.reduceEqDiff, Nat.reduceLT, Nat.reduceLeDiff, Nat.reduceAdd, Nat.reduceMul, Nat.reduceSub, reduceCtorEq, Int.reduceLT, Int.reduceLE, Int.reduceEq, Int.reduceBEq, Int.reduceBNe, Int.reduceToNat, Int.reduceAdd, Int.reduceNeg, Int.reduceSub]
  · simp only [List.append_nil]
  · exact hi
  · intro k q hk hR
    obtain ⟨s1, J1, F1⟩ := q
    have hR : C.Inv (waysTo d k) s1 := hR
    have hki : (k : Int) < ((2 ^ d.people.length : Nat) : Int) := by omega
    have hwk : IntKind.i64.wrap ((k : Int) + 1) = (k : Int) + 1 := wrap_i64 (by omega)
    have hQ1 := C.len s1
    have oR1 := old (C.fund s1)
    have oH1 := old (C.bx s1)
    simp only [eFs] at oR1
    generalize hQQ1 : C.G s1 = Q1 at *
    simp only [go_sem, ↓reduceIte, Nat.reduceBEq, Nat.reduceEqDiff, Nat.reduceLT, Nat.reduceLeDiff, Nat.reduceAdd, Nat.reduceMul, Nat.reduceSub, reduceCtorEq, Int.reduceLT, Int.reduceLE, Int.reduceEq, Int.reduceBEq, Int.reduceBNe, Int.reduceToNat, Int.reduceAdd, Int.reduceNeg, Int.reduceSub, hki, oH1, oR1]
    generalize hz : (EW tabX).code 159 none (Code.loop _) _ = z
    rw [w_first (fun i => [(22, .int .i64 (i : Int))]) (fun i => ⟨(Q1 ++ J1) ++ (d.people.take i).map bPe, tb ++ F1⟩) (noW d k) d.people.length (.exit 1) (fun i => [(4, .int .i64 (i : Int)), (5, .ref ((Q1 ++ J1) ++ (d.people.take i).map bPe).length 0), (22, .int .i64 (i : Int))]) (fun i => ⟨(Q1 ++ J1) ++ (d.people.take (i + 1)).map bPe, tb ++ F1⟩) (.exit 2) [(22, .int .i64 (d.people.length : Int))] ⟨(Q1 ++ J1) ++ d.people.map bPe, tb ++ F1⟩ ?_ ?_ ?_ ?_ ?_ rfl rfl] at hz
    · unfold firstW at hz
      have hwl : (waysTo d k).length ≤ k := by unfold waysTo; have := List.length_filter_le (okW d) (List.range k); simpa using this
      cases hf : firstBad (noW d k) 0 d.people.length with
      | some i =>
        rw [hf] at hz
        have hok : okW d k = false := by unfold okW; rw [hf]; rfl
        subst hz
        refine ⟨⟨s1, J1 ++ (d.people.take (i + 1)).map bPe, F1⟩, ?_, by show C.Inv (waysTo d (k + 1)) s1; rw [waysTo_succ, if_neg (by rw [hok]; exact Bool.false_ne_true)]; exact hR⟩
        simp only [go_sem, ↓reduceIte, Nat.reduceBEq, Nat.reduceEqDiff, Nat.reduceLT, Nat.reduceLeDiff, Nat.reduceAdd, Nat.reduceMul, Nat.reduceSub, reduceCtorEq, Int.reduceLT, Int.reduceLE, Int.reduceEq, Int.reduceBEq, Int.reduceBNe, Int.reduceToNat, Int.reduceAdd, Int.reduceNeg, Int.reduceSub, hwk, hQQ1]
      | none =>
        rw [hf] at hz
        have hok : okW d k = true := by unfold okW; rw [hf]; rfl
        subst hz
        obtain ⟨s2, J2, F2, r1, r2⟩ := C.rnd (waysTo d k) s1 (J1 ++ d.people.map bPe) (tb ++ F1) k hR (by omega) (by omega)
        rw [hQQ1] at r2
        simp only [go_sem, ↓reduceIte, Nat.reduceBEq, Nat.reduceEqDiff, Nat.reduceLT, Nat.reduceLeDiff, Nat.reduceAdd, Nat.reduceMul, Nat.reduceSub, reduceCtorEq, Int.reduceLT, Int.reduceLE, Int.reduceEq, Int.reduceBEq, Int.reduceBNe, Int.reduceToNat, Int.reduceAdd, Int.reduceNeg, Int.reduceSub] at r2
        refine ⟨⟨s2, J1 ++ (d.people.map bPe ++ J2), F1 ++ F2⟩, ?_, by show C.Inv (waysTo d (k + 1)) s2; rw [waysTo_succ, if_pos hok]; exact r1⟩
        simp only [go_sem, ↓reduceIte, Nat.reduceBEq, Nat.reduceEqDiff, Nat.reduceLT, Nat.reduceLeDiff, Nat.reduceAdd, Nat.reduceMul, Nat.reduceSub, reduceCtorEq, Int.reduceLT, Int.reduceLE, Int.reduceEq, Int.reduceBEq, Int.reduceBNe, Int.reduceToNat, Int.reduceAdd, Int.reduceNeg, Int.reduceSub, hwk, callAV_yld2, r2]
    · simp only [go_sem, ↓reduceIte, Nat.reduceBEq, Nat.reduceEqDiff, Nat.reduceLT, Nat.reduceLeDiff, Nat.reduceAdd, Nat.reduceMul, Nat.reduceSub, reduceCtorEq, Int.reduceLT, Int.reduceLE, Int.reduceEq, Int.reduceBEq, Int.reduceBNe, Int.reduceToNat, Int.reduceAdd, Int.reduceNeg, Int.reduceSub]
    · simp only [go_sem, ↓reduceIte, Nat.reduceBEq, Nat.reduceEqDiff, Nat.reduceLT, Nat.reduceLeDiff, Nat.reduceAdd, Nat.reduceMul, Nat.reduceSub, reduceCtorEq, Int.reduceLT, Int.reduceLE, Int.reduceEq, Int.reduceBEq, Int.reduceBNe, Int.reduceToNat, Int.reduceAdd, Int.reduceNeg, Int.reduceSub]
    · intro i hi h0
      have hii : (i : Int) < d.people.length := by omega
      have hx := List.getElem?_eq_getElem hi
      have hzp := hd.zp (by intro e; rw [e] at hi; simp at hi)
      rw [map_succ _ hx, ← List.append_assoc]
      generalize (Q1 ++ J1) ++ (d.people.take i).map bPe = D
      have hb0 := shr_int ⟨k, by omega⟩ ⟨i, by omega⟩
      simp only at hb0
      unfold noW at h0
      rw [hx] at h0
      simp only at h0
      by_cases hw2 : (d.people[i].widow != 2) = true
      · simp (disch := omega) only [go_sem, ↓reduceIte, Nat.reduceBEq, Nat.reduceEqDiff, Nat.reduceLT, Nat.reduceLeDiff, Nat.reduceAdd, Nat.reduceMul, Nat.reduceSub, reduceCtorEq, Int.reduceLT, Int.reduceLE, Int.reduceEq, Int.reduceBEq, Int.reduceBNe, Int.reduceToNat, Int.reduceAdd, Int.reduceNeg, Int.reduceSub, hii, hx, hzp, ePe, bPe, hw2, wrap_i64]
        have hw2' : d.people[i].widow ≠ 2 := by simpa using hw2
        have hbv : (if k.testBit i then (1 : Int) else 0) = d.people[i].widow := Decidable.byContradiction fun hne => by rw [if_pos ⟨hw2', hne⟩] at h0; cases h0
        have hne : ∀ b : Int, b = (if k.testBit i then 1 else 0) → (b != d.people[i].widow) = false := fun b hb => by rw [hb, hbv]; simp
        rw [if_neg (by intro hh; exact absurd hh (by rw [Bool.not_eq_true]; exact hne _ hb0))]
      · have hw2 : (d.people[i].widow != 2) = false := by simpa using hw2
        simp (disch := omega) only [go_sem, ↓reduceIte, Nat.reduceBEq, Nat.reduceEqDiff, Nat.reduceLT, Nat.reduceLeDiff, Nat.reduceAdd, Nat.reduceMul, Nat.reduceSub, reduceCtorEq, Int.reduceLT, Int.reduceLE, Int.reduceEq, Int.reduceBEq, Int.reduceBNe, Int.reduceToNat, Int.reduceAdd, Int.reduceNeg, Int.reduceSub, hii, hx, hzp, ePe, bPe, hw2, wrap_i64]
    · intro i hi h0
      have hii : (i : Int) < d.people.length := by omega
      have hx := List.getElem?_eq_getElem hi
      have hzp := hd.zp (by intro e; rw [e] at hi; simp at hi)
      rw [map_succ _ hx, ← List.append_assoc]
      generalize (Q1 ++ J1) ++ (d.people.take i).map bPe = D
      have hb0 := shr_int ⟨k, by omega⟩ ⟨i, by omega⟩
      simp only at hb0
      unfold noW at h0
      rw [hx] at h0
      simp only at h0
      have hbv : d.people[i].widow ≠ 2 ∧ (if k.testBit i then (1 : Int) else 0) ≠ d.people[i].widow := Decidable.byContradiction fun hne => by rw [if_neg hne] at h0; exact h0 rfl
      have hw2 : (d.people[i].widow != 2) = true := by simpa using hbv.1
      have hne : ∀ b : Int, b = (if k.testBit i then 1 else 0) → (b != d.people[i].widow) = true := fun b hb => by rw [hb]; simpa using hbv.2
      simp (disch := omega) only [go_sem, ↓reduceIte, Nat.reduceBEq, Nat.reduceEqDiff, Nat.reduceLT, Nat.reduceLeDiff, Nat.reduceAdd, Nat.reduceMul, Nat.reduceSub, reduceCtorEq, Int.reduceLT, Int.reduceLE, Int.reduceEq, Int.reduceBEq, Int.reduceBNe, Int.reduceToNat, Int.reduceAdd, Int.reduceNeg, Int.reduceSub, hii, hx, hzp, ePe, bPe, hw2, wrap_i64]
      rw [if_pos (by exact hne _ hb0)]
    · simp only [go_sem, ↓reduceIte, Nat.reduceBEq, Nat.reduceEqDiff, Nat.reduceLT, Nat.reduceLeDiff, Nat.reduceAdd, Nat.reduceMul, Nat.reduceSub, reduceCtorEq, Int.reduceLT, Int.reduceLE, Int.reduceEq, Int.reduceBEq, Int.reduceBNe, Int.reduceToNat, Int.reduceAdd, Int.reduceNeg, Int.reduceSub, Int.lt_irrefl]
  · intro q hR
    simp only [go_sem, ↓reduceIte, Nat.reduceBEq, Nat.reduceEqDiff, Nat.reduceLT, Nat.reduceLeDiff, Nat.reduceAdd, Nat.reduceMul, Nat.reduceSub, reduceCtorEq, Int.reduceLT, Int.reduceLE, Int.reduceEq, Int.reduceBEq, Int.reduceBNe, Int.reduceToNat, Int.reduceAdd, Int.reduceNeg, Int.reduceSub, Int.lt_irrefl]
  · intro q hq hR
    obtain ⟨s1, J1, F1⟩ := q
    refine ⟨s1, F1, hR, ?_⟩
    subst hq
    have hQ1 := C.len s1
    have hR1 : ∀ X, (C.G s1 ++ X).take C.L = C.G s1 := fun X => by rw [← hQ1, take_app]
    simp only [go_sem, ↓reduceIte, Nat.reduceBEq, Nat.reduceEqDiff, Nat.reduceLT, Nat.reduceLeDiff, Nat.reduceAdd, Nat.reduceMul, Nat.reduceSub, reduceCtorEq, Int.reduceLT, Int.reduceLE, Int.reduceEq, Int.reduceBEq, Int.reduceBNe, Int.reduceToNat, Int.reduceAdd, Int.reduceNeg, Int.reduceSub, hQ, hR1]
end Go.Proofs.YthkpjbgadkkeeaaGreat
end
section
namespace Go.Proofs.YthkpjbgadkkeeaaGreat
open Go.Proofs

@[go_sem] theorem hush_100_7 : tabX.hush 100 7 = false := id rfl
theorem c57 (r : Nat) (B : List ABlk) (t : List Bool) (hr : r < B.length) : (EW tabX).call 47 [.ref r 0] ⟨B, t⟩ = some (.clo 100 [] [.ref B.length 0], ⟨B ++ [.cells [.ref r 0]], t⟩) := by
  rw [w_call _ fn_47 rfl]
  have h1 : ¬ (B.length < B.length) := by omega
  have h2 : r < B.length + 1 := by omega
  simp only [go_sem, ↓reduceIte, Nat.reduceBEq, Nat.reduceEqDiff, Nat.reduceLT, Nat.reduceLeDiff, Nat.reduceAdd, Nat.reduceMul, Nat.reduceSub, reduceCtorEq, Int.reduceLT, Int.reduceLE, Int.reduceEq, Int.reduceBEq, Int.reduceBNe, Int.reduceToNat, Int.reduceAdd, Int.reduceNeg, Int.reduceSub, h1, h2]
theorem c83 (r : Nat) (B : List ABlk) (t : List Bool) (hr : r < B.length) : (EW tabX).call 103 [.ref r 0] ⟨B, t⟩ = some (.clo 159 [] [.ref B.length 0], ⟨B ++ [.cells [.ref r 0]], t⟩) := by
  rw [w_call _ fn_103 rfl]
  have h1 : ¬ (B.length < B.length) := by omega
  have h2 : r < B.length + 1 := by omega
  simp only [go_sem, ↓reduceIte, Nat.reduceBEq, Nat.reduceEqDiff, Nat.reduceLT, Nat.reduceLeDiff, Nat.reduceAdd, Nat.reduceMul, Nat.reduceSub, reduceCtorEq, Int.reduceLT, Int.reduceLE, Int.reduceEq, Int.reduceBEq, Int.reduceBNe, Int.reduceToNat, Int.reduceAdd, Int.reduceNeg, Int.reduceSub, h1, h2]
def NB (n l hb r : Nat) (es : List (Sd × Int)) : List ABlk :=
  [.cells [.yld l], .map (esS es), .cells [.mapr (n + 1)], .cells [.clo 60 [.ref r 0] []], .cells [.clo 101 [] [.ref (n + 2) 0, .ref n 0, .ref hb 0, .ref (n + 4) 0, .ref (n + 3) 0]]]
structure ConS (d : Fu) (refused but : Nat) (r hb n l : Nat) (σ : Type) where
  P : σ → List ABlk
  st0 : σ
  stp : σ → Sd → σ
  len : ∀ s, (P s).length = n
  fund : ∀ s, (P s)[r]? = some (.cells (eFs d refused but))
  bx : ∀ s, (P s)[hb]? = some (.cells [.ref r 0])
  Inv : Nat → σ → Prop
  rnd : ∀ (k : Nat) (s : σ) (X : List ABlk) (tb : List Bool) (x : Sd), Inv k s → k < 1000000000 → SdOk d x →
    ∃ J F, Inv (k + 1) (stp s x) ∧ stepRound tabX (EW tabX) l [.agg (sdK x)] ⟨P s ++ X, tb⟩ = some (.bool true, ⟨P (stp s x) ++ (X ++ J), tb ++ F⟩)
section
variable {d : Fu} {refused but r hb n l : Nat} {σ : Type}
theorem ConS.get (S : ConS d refused but r hb n l σ) (s : σ) (es : List (Sd × Int)) (i : Nat) : (S.P s ++ NB n l hb r es)[n + i]? = (NB n l hb r es)[i]? := by
  have := S.len s
  rw [List.getElem?_append_right (by omega), this, Nat.add_sub_cancel_left]
def ConS.con (S : ConS d refused but r hb n l σ) : Con d refused but r hb n l σ where
  H := fun s es => S.P s ++ NB n l hb r es
  L := n + 5
  st0 := S.st0
  stp := S.stp
  len := fun s es => by rw [List.length_append, S.len]; rfl
  fund := fun s es => old (S.fund s) _
  bx := fun s es => old (S.bx s) _
  yl := fun s es => by have := S.get s es 0; rw [Nat.add_zero] at this; rw [this]; rfl
  mp := fun s es => (S.get s es 1).trans rfl
  mv := fun s es => (S.get s es 2).trans rfl
  cv := fun s es => (S.get s es 3).trans rfl
  nx := fun s es => (S.get s es 4).trans rfl
  set := fun s es es' => by
    have := S.len s
    rw [List.set_append_right _ _ (by omega), this, Nat.add_sub_cancel_left]
    rfl
  lt := by omega
  Inv := S.Inv
  rnd := fun k s es X tb x hi hk hx => by
    obtain ⟨J, F, h1, h2⟩ := S.rnd k s (NB n l hb r es ++ X) tb x hi hk hx
    refine ⟨J, F, h1, ?_⟩
    simp only [List.append_assoc] at h2 ⊢
    exact h2
end
def start (d : Fu) (w : Nat) : Sd := ⟨0, w, d.pence, false, false⟩
def allM (d : Fu) (refused but : Nat) (ws : List Nat) : List Sd := ws.foldl (fun M w => dfsM d refused but d.visits.length (start d w) M) []
theorem callsN_le : ∀ n, n ≤ 5 → callsN n ≤ 1600000 := by decide
set_option maxHeartbeats 4000000 in
theorem c80 {d : Fu} (hd : d.fits) (ho : d.Ok) {refused but : Nat} (hrf : refused < 32) (hbut : but < 32) {r hb n l : Nat} {σ : Type} (S : ConS d refused but r hb n l σ) (hi : S.Inv 0 S.st0) (hrl : r < n) (hll : l < n) (hbl : hb < n) (tb : List Bool) :
    ∃ F M, M = allM d refused but (ways d) ∧ S.Inv M.length (M.foldl S.stp S.st0) ∧
      (EW tabX).call 100 [.yld l, .ref hb 0] ⟨S.P S.st0, tb⟩ = some (.tup [], ⟨S.P (M.foldl S.stp S.st0), tb ++ F⟩) := by
  have hQ := S.len S.st0
  have oR := old (S.fund S.st0)
  have oH := old (S.bx S.st0)
  have oR0 := S.fund S.st0
  have oH0 := S.bx S.st0
  have hn1 : ∀ k, l < n + k := fun k => by omega
  have hb1 : ∀ k, hb < n + k := fun k => by omega
  have hr1 : ∀ k, r < n + k := fun k => by omega
  have h83 := c83 r (S.P S.st0 ++ NB n l hb r []) tb (by rw [List.length_append, hQ]; omega)
  generalize hQQ : S.P S.st0 = Q at *
  rw [w_call _ fn_100 rfl]
  simp only [NB, esS, List.map_nil] at h83
  simp only [go_sem, ↓reduceIte, Nat.reduceBEq, Nat.reduceEqDiff, Nat.reduceLT, Nat.reduceLeDiff, Nat.reduceAdd, Nat.reduceMul, Nat.reduceSub, reduceCtorEq, Int.reduceLT, Int.reduceLE, Int.reduceEq, Int.reduceBEq, Int.reduceBNe, Int.reduceToNat, Int.reduceAdd, Int.reduceNeg, Int.reduceSub] at h83
  have hn5 : n < n + 5 := by omega
  simp only [go_sem, ↓reduceIte, Nat.reduceBEq, Nat.reduceEqDiff, Nat.reduceLT, Nat.reduceLeDiff, Nat.reduceAdd, Nat.reduceMul, Nat.reduceSub, reduceCtorEq, Int.reduceLT, Int.reduceLE, Int.reduceEq, Int.reduceBEq, Int.reduceBNe, Int.reduceToNat, Int.reduceAdd, Int.reduceNeg, Int.reduceSub, oH, oR, hQ, hQ, q_get hQ, q_get0 hQ, q_set hQ, q_set0 hQ, q_take hQ, q_take0 hQ, hn1, hb1, hr1, Nat.add_assoc, Nat.add_lt_add_iff_left, h83, hn5]
  rw [w_range (gf := 159) (fst := []) (cap := [.ref (n + 5) 0])]
  rotate_left
  · simp only [go_sem, ↓reduceIte, Nat.reduceBEq, Nat.reduceEqDiff, Nat.reduceLT, Nat.reduceLeDiff, Nat.reduceAdd, Nat.reduceMul, Nat.reduceSub, reduceCtorEq, Int.reduceLT, Int.reduceLE, Int.reduceEq, Int.reduceBEq, Int.reduceBNe, Int.reduceToNat, Int.reduceAdd, Int.reduceNeg, Int.reduceSub, hQ]
  generalize hLB : ABlk.loop false AExit.normal false 100 _ _ _ _ = LB
  obtain ⟨LB', b1, b2, b3⟩ : ∃ LB', beginBlk LB = some LB' ∧ endBlk .normal LB' = some LB ∧ (∀ h : Heap, h.b[n + 7]? = some LB → ∀ fr ms, afterRange (n + 7) fr ms h = some (.normal, ⟨fr, h.put (n + 7) .none, ms⟩)) := by
    rw [← hLB]
    exact ⟨_, rfl, rfl, fun h hh fr ms => by unfold afterRange; rw [hh]⟩
  have hwv : d.visits.length ≤ 5 := ho.visits
  have hcN := callsN_le d.visits.length hwv
  let C2 : Con2 d refused but r (n + 5) (n + 7) (List (Sd × Int)) := {
    G := fun es => S.P (S.con.st es) ++ (NB n l hb r es ++ [.cells [.ref r 0], .mark, LB])
    L := n + 8
    len := fun es => by rw [List.length_append, S.len]; rfl
    fund := fun es => old (S.fund _) _
    bx := fun es => by
      have := S.len (S.con.st es)
      rw [List.getElem?_append_right (by omega), this, Nat.add_sub_cancel_left]
      rfl
    Inv := fun ws es => keys es = allM d refused but ws ∧ S.Inv es.length (S.con.st es) ∧ KOk ((ws.length * 1600000 : Nat) : Int) es ∧ es.length ≤ ws.length * 1600000
    rnd := by
      intro ws es X tb w hinv hws hw
      obtain ⟨i1, i2, i3, i4⟩ := hinv
      have hx : SdOk d (start d w) := ⟨Nat.zero_le _, hw, ho.pence, fun h => by cases h⟩
      obtain ⟨es', F, u1, u2, u3, u4, u5⟩ := c81 hd ho hrf hbut S.con d.visits.length (start d w) es ([.cells [.ref r 0], .mark, LB'] ++ (X ++ List.replicate 10 .none)) (tb ++ List.replicate 10 false) ((ws.length * 1600000 : Nat) : Int) (by show 0 + _ = _; omega) hx i2 i3 (by omega) (by omega) (by omega)
      refine ⟨es', List.replicate 10 .none, List.replicate 10 false ++ F, ⟨?_, u2, fun e he => ?_, ?_⟩, ?_⟩
      · rw [u1, i1]; unfold allM; rw [List.foldl_append]; rfl
      · have := u3 e he
        rw [List.length_append, List.length_singleton]
        omega
      · rw [List.length_append, List.length_singleton]; omega
      · have hat : (⟨S.P (S.con.st es) ++ (NB n l hb r es ++ [.cells [.ref r 0], .mark, LB]) ++ X, tb⟩ : Heap).b[n + 7]? = some LB := by
          have := S.len (S.con.st es)
          show (S.P (S.con.st es) ++ (NB n l hb r es ++ [.cells [.ref r 0], .mark, LB]) ++ X)[n + 7]? = _
          rw [List.append_assoc, List.getElem?_append_right (by omega), this, Nat.add_sub_cancel_left]
          rfl
        have hat2 := hat.trans (congrArg some hLB.symm)
        rw [stepRound_eq tabX hat2]
        clear hat hat2
        simp only [y1, Option.bind_some, roundK]
        have hQ1 := S.len (S.con.st es)
        have hQ2 := S.len (S.con.st es')
        have hH1 : S.con.H (S.con.st es) es = S.P (S.con.st es) ++ NB n l hb r es := rfl
        have hH2 : S.con.H (S.con.st es') es' = S.P (S.con.st es') ++ NB n l hb r es' := rfl
        rw [hH1, hH2] at u5
        have oR1 := old (S.fund (S.con.st es))
        have oH1 := old (S.bx (S.con.st es))
        simp only [eFs] at oR1
        generalize S.P (S.con.st es) = Q1 at *
        generalize S.P (S.con.st es') = Q2 at *
        simp only [NB, sdK, start] at u5 ⊢
        simp only [go_sem, ↓reduceIte, Nat.reduceBEq, Nat.reduceEqDiff, Nat.reduceLT, Nat.reduceLeDiff, Nat.reduceAdd, Nat.reduceMul, Nat.reduceSub, reduceCtorEq, Int.reduceLT, Int.reduceLE, Int.reduceEq, Int.reduceBEq, Int.reduceBNe, Int.reduceToNat, Int.reduceAdd, Int.reduceNeg, Int.reduceSub] at u5
        simp only [go_sem, ↓reduceIte, Nat.reduceBEq, Nat.reduceEqDiff, Nat.reduceLT, Nat.reduceLeDiff, Nat.reduceAdd, Nat.reduceMul, Nat.reduceSub, reduceCtorEq, Int.reduceLT, Int.reduceLE, Int.reduceEq, Int.reduceBEq, Int.reduceBNe, Int.reduceToNat, Int.reduceAdd, Int.reduceNeg, Int.reduceSub, hQ1, q_get hQ1, q_get0 hQ1, q_set hQ1, q_set0 hQ1, q_take hQ1, q_take0 hQ1, hQ1, turnBlk, b1, b2, isNormal, oH1, oR1, List.size_toArray]
        generalize hcf : drawT _ _ _ = cf
        obtain rfl : cf = true := by rw [← hcf]; kernel_rfl
        simp only [go_sem, ↓reduceIte, Nat.reduceBEq, Nat.reduceEqDiff, Nat.reduceLT, Nat.reduceLeDiff, Nat.reduceAdd, Nat.reduceMul, Nat.reduceSub, reduceCtorEq, Int.reduceLT, Int.reduceLE, Int.reduceEq, Int.reduceBEq, Int.reduceBNe, Int.reduceToNat, Int.reduceAdd, Int.reduceNeg, Int.reduceSub, hQ1, q_get hQ1, q_get0 hQ1, q_set hQ1, q_set0 hQ1, q_take hQ1, q_take0 hQ1, hQ1, turnBlk, b1, b2, isNormal, oH1, oR1, List.size_toArray]
        generalize hbb : boundAll _ _ _ = bb
        obtain rfl : bb = true := by rw [← hbb]; kernel_rfl
        simp only [go_sem, ↓reduceIte, Nat.reduceBEq, Nat.reduceEqDiff, Nat.reduceLT, Nat.reduceLeDiff, Nat.reduceAdd, Nat.reduceMul, Nat.reduceSub, reduceCtorEq, Int.reduceLT, Int.reduceLE, Int.reduceEq, Int.reduceBEq, Int.reduceBNe, Int.reduceToNat, Int.reduceAdd, Int.reduceNeg, Int.reduceSub, List.size_toArray, u5, hQ1, q_get hQ1, q_get0 hQ1, q_set hQ1, q_set0 hQ1, q_take hQ1, q_take0 hQ1, hQ1, hQ2, q_get hQ2, q_get0 hQ2, q_set hQ2, q_set0 hQ2, q_take hQ2, q_take0 hQ2, hQ2, turnBlk, b1, b2, isNormal] }
  obtain ⟨es', F, v1, v2⟩ := c91 hd ho C2 [] ⟨rfl, hi, (fun e he => by cases he), Nat.zero_le _⟩ tb
  obtain ⟨w1, w2, _, _⟩ := v1
  have hst : (keys es').foldl S.stp S.st0 = S.con.st es' := rfl
  refine ⟨F, keys es', w1, by rw [keys_len, hst]; exact w2, ?_⟩
  have hG0 : C2.G [] = S.P S.st0 ++ (NB n l hb r [] ++ [.cells [.ref r 0], .mark, LB]) := rfl
  have hG1 : C2.G es' = S.P ((keys es').foldl S.stp S.st0) ++ (NB n l hb r es' ++ [.cells [.ref r 0], .mark, LB]) := rfl
  rw [hG0, hG1, hQQ] at v2
  have hQ3 := S.len ((keys es').foldl S.stp S.st0)
  generalize S.P ((keys es').foldl S.stp S.st0) = Q3 at *
  simp only [NB, esS, List.map_nil] at v2
  simp only [go_sem, ↓reduceIte, Nat.reduceBEq, Nat.reduceEqDiff, Nat.reduceLT, Nat.reduceLeDiff, Nat.reduceAdd, Nat.reduceMul, Nat.reduceSub, reduceCtorEq, Int.reduceLT, Int.reduceLE, Int.reduceEq, Int.reduceBEq, Int.reduceBNe, Int.reduceToNat, Int.reduceAdd, Int.reduceNeg, Int.reduceSub] at v2
  simp only [go_sem, ↓reduceIte, Nat.reduceBEq, Nat.reduceEqDiff, Nat.reduceLT, Nat.reduceLeDiff, Nat.reduceAdd, Nat.reduceMul, Nat.reduceSub, reduceCtorEq, Int.reduceLT, Int.reduceLE, Int.reduceEq, Int.reduceBEq, Int.reduceBNe, Int.reduceToNat, Int.reduceAdd, Int.reduceNeg, Int.reduceSub, hQ, v2]
  rw [b3 _ (by simp only [go_sem, ↓reduceIte, Nat.reduceBEq, Nat.reduceEqDiff, Nat.reduceLT, Nat.reduceLeDiff, Nat.reduceAdd, Nat.reduceMul, Nat.reduceSub, reduceCtorEq, Int.reduceLT, Int.reduceLE, Int.reduceEq, Int.reduceBEq, Int.reduceBNe, Int.reduceToNat, Int.reduceAdd, Int.reduceNeg, Int.reduceSub, hQ3, q_get hQ3, q_get0 hQ3, q_set hQ3, q_set0 hQ3, q_take hQ3, q_take0 hQ3])]
  simp only [go_sem, ↓reduceIte, Nat.reduceBEq, Nat.reduceEqDiff, Nat.reduceLT, Nat.reduceLeDiff, Nat.reduceAdd, Nat.reduceMul, Nat.reduceSub, reduceCtorEq, Int.reduceLT, Int.reduceLE, Int.reduceEq, Int.reduceBEq, Int.reduceBNe, Int.reduceToNat, Int.reduceAdd, Int.reduceNeg, Int.reduceSub, hQ, hQ3, q_get hQ3, q_get0 hQ3, q_set hQ3, q_set0 hQ3, q_take hQ3, q_take0 hQ3]
end Go.Proofs.YthkpjbgadkkeeaaGreat
end
section
namespace Go.Proofs.YthkpjbgadkkeeaaGreat
open Go.Proofs

def vQ (p : Int × Int) : AV := .tup [.int .i64 p.1, .int .i64 p.2]
def payF (k : Nat) (s : Bool × Bool) (x : Sd) : Bool × Bool := if x.k = k then (s.1 || x.paid, s.2 || !x.paid) else s
def payV (s : Bool × Bool) : Int := if s.2 = false then 1 else if s.1 = false then 2 else 0
def paysP (d : Fu) (n : Int) : Int × Int := if visitE d n = 0 then (payV ((allM d 0 0 (ways d)).foldl (payF (n.toNat + 1)) (false, false)), 0) else (0, visitE d n)
def H17 (d : Fu) (n : Int) : List ABlk := [.cells (eFc d), .cells [.int .i64 n], .none, .none, .none, .none, .none, .none, .none, .none, .none, .none, .none, .none, .cells [.int .i64 n], .cells [.int .i64 d.visits.length], .cells [.int .i64 4]]
def P17 (d : Fu) (n : Int) (LB : ABlk) (s : Bool × Bool) : List ABlk := [.cells (eFc d), .cells [.int .i64 n], .none, .none, .none, .none, .none, .none, .none, .none, .none, .none, .none, .none, .cells [.int .i64 n], .cells [.int .i64 d.visits.length], .cells [.int .i64 4],
  .cells (eFc d), .cells (eFc d), .cells (eFs d 0 0), .cells [.bool s.1], .cells [.bool s.2], .cells [.ref 19 0], .mark, LB]
set_option maxHeartbeats 4000000 in
theorem c17 (d : Fu) (hd : d.fits) (n : Int) (h : Heap) : callPure (EW tabX) 13 [eF d, .int .i64 n] h = some (vQ (paysP d n), h) := by
  have hcl := eF_clean d
  have hlv := hd.lv
  have h51 := c51 n d.visits.length 4 (List.take 14 (H17 d n)) (List.replicate 12 false)
  obtain ⟨hno, hyes⟩ := enter_idx d hd n d.visits.length 4 (fun _ => by omega) 14 (H17 d n) (List.replicate 12 false) rfl rfl rfl
  have hv : enterE d (idxE n d.visits.length 4) = visitE d n := rfl
  rw [hv] at hno hyes
  rw [callPure_eq, w_call _ fn_13 rfl]
  unfold paysP
  by_cases h0 : visitE d n = 0
  rotate_left
  · rw [if_neg h0]
    have hc := hno h0
    have hne : (visitE d n != 0) = true := by simpa using h0
    simp only [go_sem, ↓reduceIte, Nat.reduceBEq, Nat.reduceEqDiff, Nat.reduceLT, Nat.reduceLeDiff, Nat.reduceAdd, Nat.reduceMul, Nat.reduceSub, reduceCtorEq, Int.reduceLT, Int.reduceLE, Int.reduceEq, Int.reduceBEq, Int.reduceBNe, Int.reduceToNat, Int.reduceAdd, Int.reduceNeg, Int.reduceSub, eF, eFc, H17] at hc h51
    simp only [go_sem, ↓reduceIte, Nat.reduceBEq, Nat.reduceEqDiff, Nat.reduceLT, Nat.reduceLeDiff, Nat.reduceAdd, Nat.reduceMul, Nat.reduceSub, reduceCtorEq, Int.reduceLT, Int.reduceLE, Int.reduceEq, Int.reduceBEq, Int.reduceBNe, Int.reduceToNat, Int.reduceAdd, Int.reduceNeg, Int.reduceSub, eF, eFc, List.size_toArray, h51, hc]
    generalize hcf : okFam _ _ _ = cf
    obtain rfl : cf = true := by rw [← hcf]; kernel_rfl
    simp only [go_sem, ↓reduceIte, Nat.reduceBEq, Nat.reduceEqDiff, Nat.reduceLT, Nat.reduceLeDiff, Nat.reduceAdd, Nat.reduceMul, Nat.reduceSub, reduceCtorEq, Int.reduceLT, Int.reduceLE, Int.reduceEq, Int.reduceBEq, Int.reduceBNe, Int.reduceToNat, Int.reduceAdd, Int.reduceNeg, Int.reduceSub, hne, vQ]
  rw [if_pos h0]
  have hc := hyes h0
  obtain ⟨k1, k2, k3⟩ := enterE_zero (hv.trans h0)
  obtain ⟨k4, k5⟩ := idxE_zero (by decide) k2
  have ho := ok_of_check k1
  obtain ⟨j, rfl⟩ := Int.eq_ofNat_of_zero_le k4
  have hj : j < d.visits.length := by omega
  simp only [Int.ofNat_eq_natCast, Int.toNat_natCast] at *
  have h57 := c57 19 ((P17 d j .none (false, false)).take 22) (List.replicate 12 false) (by simp [P17])
  simp only [go_sem, ↓reduceIte, Nat.reduceBEq, Nat.reduceEqDiff, Nat.reduceLT, Nat.reduceLeDiff, Nat.reduceAdd, Nat.reduceMul, Nat.reduceSub, reduceCtorEq, Int.reduceLT, Int.reduceLE, Int.reduceEq, Int.reduceBEq, Int.reduceBNe, Int.reduceToNat, Int.reduceAdd, Int.reduceNeg, Int.reduceSub, eF, eFc, eFs, HE, H17, cast_zero] at hc h51
  simp only [go_sem, ↓reduceIte, Nat.reduceBEq, Nat.reduceEqDiff, Nat.reduceLT, Nat.reduceLeDiff, Nat.reduceAdd, Nat.reduceMul, Nat.reduceSub, reduceCtorEq, Int.reduceLT, Int.reduceLE, Int.reduceEq, Int.reduceBEq, Int.reduceBNe, Int.reduceToNat, Int.reduceAdd, Int.reduceNeg, Int.reduceSub, P17, eFc, eFs] at h57
  simp only [go_sem, ↓reduceIte, Nat.reduceBEq, Nat.reduceEqDiff, Nat.reduceLT, Nat.reduceLeDiff, Nat.reduceAdd, Nat.reduceMul, Nat.reduceSub, reduceCtorEq, Int.reduceLT, Int.reduceLE, Int.reduceEq, Int.reduceBEq, Int.reduceBNe, Int.reduceToNat, Int.reduceAdd, Int.reduceNeg, Int.reduceSub, eF, eFc, List.size_toArray, h51, hc]
  generalize hcf : okFam _ _ _ = cf
  obtain rfl : cf = true := by rw [← hcf]; kernel_rfl
  simp only [go_sem, ↓reduceIte, Nat.reduceBEq, Nat.reduceEqDiff, Nat.reduceLT, Nat.reduceLeDiff, Nat.reduceAdd, Nat.reduceMul, Nat.reduceSub, reduceCtorEq, Int.reduceLT, Int.reduceLE, Int.reduceEq, Int.reduceBEq, Int.reduceBNe, Int.reduceToNat, Int.reduceAdd, Int.reduceNeg, Int.reduceSub, h57]
  rw [w_range (gf := 100) (fst := []) (cap := [.ref 22 0])]
  rotate_left
  · simp only [go_sem, ↓reduceIte, Nat.reduceBEq, Nat.reduceEqDiff, Nat.reduceLT, Nat.reduceLeDiff, Nat.reduceAdd, Nat.reduceMul, Nat.reduceSub, reduceCtorEq, Int.reduceLT, Int.reduceLE, Int.reduceEq, Int.reduceBEq, Int.reduceBNe, Int.reduceToNat, Int.reduceAdd, Int.reduceNeg, Int.reduceSub]
  generalize hLB : ABlk.loop false AExit.normal false 13 _ _ _ _ = LB
  obtain ⟨LB', b1, b2, b3⟩ : ∃ LB', beginBlk LB = some LB' ∧ endBlk .normal LB' = some LB ∧ (∀ h : Heap, h.b[24]? = some LB → ∀ fr ms, afterRange 24 fr ms h = some (.normal, ⟨fr, h.put 24 .none, ms⟩)) := by
    rw [← hLB]
    exact ⟨_, rfl, rfl, fun h hh fr ms => by unfold afterRange; rw [hh]⟩
  let S : ConS d 0 0 19 22 25 24 (Bool × Bool) := {
    P := P17 d j LB
    st0 := (false, false)
    stp := payF (j + 1)
    len := fun s => rfl
    fund := fun s => rfl
    bx := fun s => rfl
    Inv := fun _ _ => True
    rnd := by
      intro k s X tb x _ _ hx
      have hat : (⟨P17 d j LB s ++ X, tb⟩ : Heap).b[24]? = some LB := rfl
      have hat2 := hat.trans (congrArg some hLB.symm)
      rw [stepRound_eq tabX hat2]
      clear hat hat2
      simp only [y1, Option.bind_some, roundK]
      have hk := hx.k
      have hw : IntKind.i64.wrap ((j : Int) + 1) = (j : Int) + 1 := wrap_i64 (by omega)
      obtain ⟨p, q⟩ := s
      refine ⟨[.cells (sdK x)], [], trivial, ?_⟩
      simp only [P17, payF]
      by_cases hxk : x.k = j + 1
      · have hxi : ((x.k : Int) == (j : Int) + 1) = true := by simp; omega
        cases p <;> cases q <;> cases hp : x.paid <;> simp only [go_sem, ↓reduceIte, Nat.reduceBEq, Nat.reduceEqDiff, Nat.reduceLT, Nat.reduceLeDiff, Nat.reduceAdd, Nat.reduceMul, Nat.reduceSub, reduceCtorEq, Int.reduceLT, Int.reduceLE, Int.reduceEq, Int.reduceBEq, Int.reduceBNe, Int.reduceToNat, Int.reduceAdd, Int.reduceNeg, Int.reduceSub, turnBlk, b1, b2, isNormal, sdK, hw, hxi, hxk, hp]
      · have hxi : ((x.k : Int) == (j : Int) + 1) = false := by simp; omega
        simp only [go_sem, ↓reduceIte, Nat.reduceBEq, Nat.reduceEqDiff, Nat.reduceLT, Nat.reduceLeDiff, Nat.reduceAdd, Nat.reduceMul, Nat.reduceSub, reduceCtorEq, Int.reduceLT, Int.reduceLE, Int.reduceEq, Int.reduceBEq, Int.reduceBNe, Int.reduceToNat, Int.reduceAdd, Int.reduceNeg, Int.reduceSub, turnBlk, b1, b2, isNormal, sdK, hw, hxi, hxk] }
  obtain ⟨F, M, m1, _, m2⟩ := c80 hd ho (by omega) (by omega) S trivial (by omega) (by omega) (by omega) (List.replicate 12 false)
  subst m1
  have hP : ∀ s, S.P s = P17 d j LB s := fun _ => rfl
  have hS : S.stp = payF (j + 1) := rfl
  have hS0 : S.st0 = (false, false) := rfl
  rw [hP, hP, hS, hS0] at m2
  generalize (allM d 0 0 (ways d)).foldl (payF (j + 1)) (false, false) = pq at m2 ⊢
  obtain ⟨p, q⟩ := pq
  simp only [P17, eFc, eFs, cast_zero] at m2
  simp only [go_sem, ↓reduceIte, Nat.reduceBEq, Nat.reduceEqDiff, Nat.reduceLT, Nat.reduceLeDiff, Nat.reduceAdd, Nat.reduceMul, Nat.reduceSub, reduceCtorEq, Int.reduceLT, Int.reduceLE, Int.reduceEq, Int.reduceBEq, Int.reduceBNe, Int.reduceToNat, Int.reduceAdd, Int.reduceNeg, Int.reduceSub] at m2
  simp only [go_sem, ↓reduceIte, Nat.reduceBEq, Nat.reduceEqDiff, Nat.reduceLT, Nat.reduceLeDiff, Nat.reduceAdd, Nat.reduceMul, Nat.reduceSub, reduceCtorEq, Int.reduceLT, Int.reduceLE, Int.reduceEq, Int.reduceBEq, Int.reduceBNe, Int.reduceToNat, Int.reduceAdd, Int.reduceNeg, Int.reduceSub, m2]
  rw [b3 _ (by simp only [go_sem, ↓reduceIte, Nat.reduceBEq, Nat.reduceEqDiff, Nat.reduceLT, Nat.reduceLeDiff, Nat.reduceAdd, Nat.reduceMul, Nat.reduceSub, reduceCtorEq, Int.reduceLT, Int.reduceLE, Int.reduceEq, Int.reduceBEq, Int.reduceBNe, Int.reduceToNat, Int.reduceAdd, Int.reduceNeg, Int.reduceSub])]
  cases p <;> cases q <;> simp only [go_sem, ↓reduceIte, Nat.reduceBEq, Nat.reduceEqDiff, Nat.reduceLT, Nat.reduceLeDiff, Nat.reduceAdd, Nat.reduceMul, Nat.reduceSub, reduceCtorEq, Int.reduceLT, Int.reduceLE, Int.reduceEq, Int.reduceBEq, Int.reduceBNe, Int.reduceToNat, Int.reduceAdd, Int.reduceNeg, Int.reduceSub, vQ, payV]
end Go.Proofs.YthkpjbgadkkeeaaGreat
end
section
namespace Go.Proofs.YthkpjbgadkkeeaaGreat
open Go.Proofs

@[go_sem] theorem hush_58_5 : tabX.hush 58 5 = false := id rfl
def dayAt (d : Fu) (k : Nat) : Int := match d.visits[k]? with | some v => v.day | none => 0
def endF (d : Fu) (s : Int) (x : Sd) : Int := if x.ended = true ∧ (s < 0 ∨ dayAt d (x.k - 1) < s) then dayAt d (x.k - 1) else s
def endsV (d : Fu) (refused but : Nat) : Int := (allM d refused but (ways d)).foldl (endF d) (-1)
def P66 (B : List ABlk) (r : Nat) (LB : ABlk) (s : Int) : List ABlk := B ++ [.cells [.ref r 0], .cells [.int .i64 s], .cells [.ref r 0], .mark, LB]
set_option maxHeartbeats 4000000 in
theorem c66 {d : Fu} (hd : d.fits) (ho : d.Ok) {refused but : Nat} (hrf : refused < 32) (hbut : but < 32) (r : Nat) (B : List ABlk) (t : List Bool) (hr : B[r]? = some (.cells (eFs d refused but))) :
    ∃ F, (EW tabX).call 58 [.ref r 0] ⟨B, t⟩ = some (.int .i64 (endsV d refused but), ⟨B, t ++ F⟩) := by
  have hrl : r < B.length := (List.getElem?_eq_some_iff.1 hr).1
  have h57 := c57 r (B ++ [.cells [.ref r 0], .cells [.int .i64 (-1)]]) t (by simp; omega)
  have hv5 := ho.visits
  rw [w_call _ fn_58 rfl]
  simp only [go_sem, ↓reduceIte, Nat.reduceBEq, Nat.reduceEqDiff, Nat.reduceLT, Nat.reduceLeDiff, Nat.reduceAdd, Nat.reduceMul, Nat.reduceSub, reduceCtorEq, Int.reduceLT, Int.reduceLE, Int.reduceEq, Int.reduceBEq, Int.reduceBNe, Int.reduceToNat, Int.reduceAdd, Int.reduceNeg, Int.reduceSub] at h57
  have hr1 : r < B.length + 1 := by omega
  simp only [go_sem, ↓reduceIte, Nat.reduceBEq, Nat.reduceEqDiff, Nat.reduceLT, Nat.reduceLeDiff, Nat.reduceAdd, Nat.reduceMul, Nat.reduceSub, reduceCtorEq, Int.reduceLT, Int.reduceLE, Int.reduceEq, Int.reduceBEq, Int.reduceBNe, Int.reduceToNat, Int.reduceAdd, Int.reduceNeg, Int.reduceSub, h57, hr1]
  rw [w_range (gf := 100) (fst := []) (cap := [.ref (B.length + 2) 0])]
  rotate_left
  · simp only [go_sem, ↓reduceIte, Nat.reduceBEq, Nat.reduceEqDiff, Nat.reduceLT, Nat.reduceLeDiff, Nat.reduceAdd, Nat.reduceMul, Nat.reduceSub, reduceCtorEq, Int.reduceLT, Int.reduceLE, Int.reduceEq, Int.reduceBEq, Int.reduceBNe, Int.reduceToNat, Int.reduceAdd, Int.reduceNeg, Int.reduceSub]
  generalize hLB : ABlk.loop false AExit.normal false 58 _ _ _ _ = LB
  obtain ⟨LB', b1, b2, b3⟩ : ∃ LB', beginBlk LB = some LB' ∧ endBlk .normal LB' = some LB ∧ (∀ h : Heap, h.b[B.length + 4]? = some LB → ∀ fr ms, afterRange (B.length + 4) fr ms h = some (.normal, ⟨fr, h.put (B.length + 4) .none, ms⟩)) := by
    rw [← hLB]
    exact ⟨_, rfl, rfl, fun h hh fr ms => by unfold afterRange; rw [hh]⟩
  let S : ConS d refused but r (B.length + 2) (B.length + 5) (B.length + 4) Int := {
    P := P66 B r LB
    st0 := -1
    stp := endF d
    len := fun s => by simp [P66]
    fund := fun s => old hr _
    bx := fun s => get_at B _ 2
    Inv := fun _ s => -1 ≤ s ∧ s ≤ 7
    rnd := by
      intro k s X tb x hi _ hx
      have hat : (⟨P66 B r LB s ++ X, tb⟩ : Heap).b[B.length + 4]? = some LB := by
        show (P66 B r LB s ++ X)[B.length + 4]? = _
        unfold P66
        rw [List.append_assoc, get_at]; rfl
      have hat2 := hat.trans (congrArg some hLB.symm)
      rw [stepRound_eq tabX hat2]
      clear hat hat2
      simp only [y1, Option.bind_some, roundK]
      have hk := hx.k
      have hpos := hx.pos
      have hfund := old hr
      simp only [eFs] at hfund
      have hI : -1 ≤ endF d s x ∧ endF d s x ≤ 7 := by
        unfold endF
        split
        · rename_i h1
          have hk1 := hpos h1.1
          have hkl : x.k - 1 < d.visits.length := by omega
          have hdb := (ho.visit _ (List.getElem_mem hkl)).day
          have hdy := ho.days
          unfold dayAt; rw [List.getElem?_eq_getElem hkl]
          simp only
          omega
        · exact hi
      simp only [P66]
      cases he : x.ended with
      | false =>
        have e0 : endF d s x = s := by unfold endF; rw [if_neg (by rw [he]; intro h; cases h.1)]
        refine ⟨[.cells (sdK x)], [], hI, ?_⟩
        rw [e0]
        simp only [go_sem, ↓reduceIte, Nat.reduceBEq, Nat.reduceEqDiff, Nat.reduceLT, Nat.reduceLeDiff, Nat.reduceAdd, Nat.reduceMul, Nat.reduceSub, reduceCtorEq, Int.reduceLT, Int.reduceLE, Int.reduceEq, Int.reduceBEq, Int.reduceBNe, Int.reduceToNat, Int.reduceAdd, Int.reduceNeg, Int.reduceSub, turnBlk, b1, b2, isNormal, sdK, he]
      | true =>
        have hk1 := hpos he
        have hkl : x.k - 1 < d.visits.length := by omega
        have hvx := List.getElem?_eq_getElem hkl
        have hzv := hd.zv (by intro e; rw [e] at hkl; simp at hkl)
        have hday : dayAt d (x.k - 1) = (d.visits[x.k - 1]).day := by unfold dayAt; rw [hvx]
        have hw : IntKind.i64.wrap ((x.k : Int) - 1) = ((x.k - 1 : Nat) : Int) := by rw [wrap_i64 (by omega)]; omega
        have hki : ((x.k - 1 : Nat) : Int) < d.visits.length := by omega
        by_cases hs : s < 0
        · have e0 : endF d s x = (d.visits[x.k - 1]).day := by unfold endF; rw [if_pos ⟨he, .inl hs⟩, hday]
          refine ⟨[.cells (sdK x), .none, .none, .none, .none, .none, .none, .none, .none, .none, .none, .none, .none], List.replicate 12 false, hI, ?_⟩
          rw [e0]
          simp only [go_sem, ↓reduceIte, Nat.reduceBEq, Nat.reduceEqDiff, Nat.reduceLT, Nat.reduceLeDiff, Nat.reduceAdd, Nat.reduceMul, Nat.reduceSub, reduceCtorEq, Int.reduceLT, Int.reduceLE, Int.reduceEq, Int.reduceBEq, Int.reduceBNe, Int.reduceToNat, Int.reduceAdd, Int.reduceNeg, Int.reduceSub, turnBlk, b1, b2, isNormal, sdK, he, hs, hfund, hw, hki, hvx, eVi, hzv, List.size_toArray]
          generalize hcf : drawT _ _ _ = cf
          obtain rfl : cf = true := by rw [← hcf]; kernel_rfl
          simp only [go_sem, ↓reduceIte, Nat.reduceBEq, Nat.reduceEqDiff, Nat.reduceLT, Nat.reduceLeDiff, Nat.reduceAdd, Nat.reduceMul, Nat.reduceSub, reduceCtorEq, Int.reduceLT, Int.reduceLE, Int.reduceEq, Int.reduceBEq, Int.reduceBNe, Int.reduceToNat, Int.reduceAdd, Int.reduceNeg, Int.reduceSub, turnBlk, b1, b2, isNormal, sdK, he, hs, hfund, hw, hki, hvx, eVi, hzv, List.size_toArray]
        · by_cases hl : (d.visits[x.k - 1]).day < s
          · have e0 : endF d s x = (d.visits[x.k - 1]).day := by unfold endF; rw [if_pos ⟨he, .inr (by rw [hday]; exact hl)⟩, hday]
            refine ⟨[.cells (sdK x), .none, .none, .none, .none, .none, .none, .none, .none, .none, .none, .none, .none], List.replicate 12 false, hI, ?_⟩
            rw [e0]
            simp only [go_sem, ↓reduceIte, Nat.reduceBEq, Nat.reduceEqDiff, Nat.reduceLT, Nat.reduceLeDiff, Nat.reduceAdd, Nat.reduceMul, Nat.reduceSub, reduceCtorEq, Int.reduceLT, Int.reduceLE, Int.reduceEq, Int.reduceBEq, Int.reduceBNe, Int.reduceToNat, Int.reduceAdd, Int.reduceNeg, Int.reduceSub, turnBlk, b1, b2, isNormal, sdK, he, hs, hl, hfund, hw, hki, hvx, eVi, hzv, List.size_toArray]
            generalize hcf : drawT _ _ _ = cf
            obtain rfl : cf = true := by rw [← hcf]; kernel_rfl
            simp only [go_sem, ↓reduceIte, Nat.reduceBEq, Nat.reduceEqDiff, Nat.reduceLT, Nat.reduceLeDiff, Nat.reduceAdd, Nat.reduceMul, Nat.reduceSub, reduceCtorEq, Int.reduceLT, Int.reduceLE, Int.reduceEq, Int.reduceBEq, Int.reduceBNe, Int.reduceToNat, Int.reduceAdd, Int.reduceNeg, Int.reduceSub, turnBlk, b1, b2, isNormal, sdK, he, hs, hl, hfund, hw, hki, hvx, eVi, hzv, List.size_toArray]
          · have e0 : endF d s x = s := by unfold endF; rw [if_neg (by rw [hday]; rintro ⟨_, h | h⟩; exact hs h; exact hl h)]
            refine ⟨[.cells (sdK x)], [], hI, ?_⟩
            rw [e0]
            simp only [go_sem, ↓reduceIte, Nat.reduceBEq, Nat.reduceEqDiff, Nat.reduceLT, Nat.reduceLeDiff, Nat.reduceAdd, Nat.reduceMul, Nat.reduceSub, reduceCtorEq, Int.reduceLT, Int.reduceLE, Int.reduceEq, Int.reduceBEq, Int.reduceBNe, Int.reduceToNat, Int.reduceAdd, Int.reduceNeg, Int.reduceSub, turnBlk, b1, b2, isNormal, sdK, he, hs, hl, hfund, hw, hki, hvx, eVi, hzv] }
  obtain ⟨F, M, m1, m3, m2⟩ := c80 hd ho hrf hbut S (by show -1 ≤ (-1 : Int) ∧ (-1 : Int) ≤ 7; omega) (by omega) (by omega) (by omega) t
  subst m1
  have hP : ∀ s, S.P s = P66 B r LB s := fun _ => rfl
  have hS : S.stp = endF d := rfl
  have hS0 : S.st0 = -1 := rfl
  rw [hP, hP, hS, hS0] at m2
  have hE : (allM d refused but (ways d)).foldl (endF d) (-1) = endsV d refused but := rfl
  rw [hE] at m2
  refine ⟨F, ?_⟩
  simp only [P66] at m2
  simp only [go_sem, ↓reduceIte, Nat.reduceBEq, Nat.reduceEqDiff, Nat.reduceLT, Nat.reduceLeDiff, Nat.reduceAdd, Nat.reduceMul, Nat.reduceSub, reduceCtorEq, Int.reduceLT, Int.reduceLE, Int.reduceEq, Int.reduceBEq, Int.reduceBNe, Int.reduceToNat, Int.reduceAdd, Int.reduceNeg, Int.reduceSub, m2]
  rw [b3 _ (by simp only [go_sem, ↓reduceIte, Nat.reduceBEq, Nat.reduceEqDiff, Nat.reduceLT, Nat.reduceLeDiff, Nat.reduceAdd, Nat.reduceMul, Nat.reduceSub, reduceCtorEq, Int.reduceLT, Int.reduceLE, Int.reduceEq, Int.reduceBEq, Int.reduceBNe, Int.reduceToNat, Int.reduceAdd, Int.reduceNeg, Int.reduceSub])]
  simp only [go_sem, ↓reduceIte, Nat.reduceBEq, Nat.reduceEqDiff, Nat.reduceLT, Nat.reduceLeDiff, Nat.reduceAdd, Nat.reduceMul, Nat.reduceSub, reduceCtorEq, Int.reduceLT, Int.reduceLE, Int.reduceEq, Int.reduceBEq, Int.reduceBNe, Int.reduceToNat, Int.reduceAdd, Int.reduceNeg, Int.reduceSub]
end Go.Proofs.YthkpjbgadkkeeaaGreat
end
section
namespace Go.Proofs.YthkpjbgadkkeeaaGreat
open Go.Proofs

def endsP (d : Fu) : Int × Int := if enterE d 0 = 0 then (if endsV d 0 0 < 0 then (0, 9) else (endsV d 0 0, 0)) else (0, enterE d 0)
theorem enter_fine (d : Fu) (hd : d.fits) (B : List ABlk) (t : List Bool) :
    (enterE d 0 ≠ 0 → (EW tabX).call 45 [eF d, .clo 57 [] []] ⟨B, t⟩ = some (.tup [.nilp, .int .i64 (enterE d 0)], ⟨B, t⟩)) ∧
    (enterE d 0 = 0 → (EW tabX).call 45 [eF d, .clo 57 [] []] ⟨B, t⟩ = some (.tup [.ref (B.length + 2) 0, .int .i64 0], ⟨HE d B, t⟩)) :=
  c50 d hd 0 (.clo 57 [] []) B t (fun _ => by simp only [go_sem, ↓reduceIte, Nat.reduceBEq, Nat.reduceEqDiff, Nat.reduceLT, Nat.reduceLeDiff, Nat.reduceAdd, Nat.reduceMul, Nat.reduceSub, reduceCtorEq, Int.reduceLT, Int.reduceLE, Int.reduceEq, Int.reduceBEq, Int.reduceBNe, Int.reduceToNat, Int.reduceAdd, Int.reduceNeg, Int.reduceSub, c64])
theorem c22 (d : Fu) (hd : d.fits) (h : Heap) : callPure (EW tabX) 16 [eF d] h = some (vQ (endsP d), h) := by
  have hcl := eF_clean d
  obtain ⟨hno, hyes⟩ := enter_fine d hd [.cells (eFc d)] []
  rw [callPure_eq, w_call _ fn_16 rfl]
  unfold endsP
  by_cases h0 : enterE d 0 = 0
  rotate_left
  · rw [if_neg h0]
    have hc := hno h0
    have hne : (enterE d 0 != 0) = true := by simpa using h0
    simp only [eF, eFc] at hc
    simp only [go_sem, ↓reduceIte, Nat.reduceBEq, Nat.reduceEqDiff, Nat.reduceLT, Nat.reduceLeDiff, Nat.reduceAdd, Nat.reduceMul, Nat.reduceSub, reduceCtorEq, Int.reduceLT, Int.reduceLE, Int.reduceEq, Int.reduceBEq, Int.reduceBNe, Int.reduceToNat, Int.reduceAdd, Int.reduceNeg, Int.reduceSub, eF, eFc, hc, hne, vQ]
  rw [if_pos h0]
  have hc := hyes h0
  obtain ⟨k1, k2, k3⟩ := enterE_zero h0
  have ho := ok_of_check k1
  obtain ⟨F, h66⟩ := c66 hd ho (refused := 0) (but := 0) (by omega) (by omega) 3 (HE d [.cells (eFc d)]) [] rfl
  simp only [HE, eF, eFc, eFs, cast_zero] at hc h66
  simp only [go_sem, ↓reduceIte, Nat.reduceBEq, Nat.reduceEqDiff, Nat.reduceLT, Nat.reduceLeDiff, Nat.reduceAdd, Nat.reduceMul, Nat.reduceSub, reduceCtorEq, Int.reduceLT, Int.reduceLE, Int.reduceEq, Int.reduceBEq, Int.reduceBNe, Int.reduceToNat, Int.reduceAdd, Int.reduceNeg, Int.reduceSub] at hc h66
  simp only [go_sem, ↓reduceIte, Nat.reduceBEq, Nat.reduceEqDiff, Nat.reduceLT, Nat.reduceLeDiff, Nat.reduceAdd, Nat.reduceMul, Nat.reduceSub, reduceCtorEq, Int.reduceLT, Int.reduceLE, Int.reduceEq, Int.reduceBEq, Int.reduceBNe, Int.reduceToNat, Int.reduceAdd, Int.reduceNeg, Int.reduceSub, eF, eFc, hc, h66]
  by_cases hl : endsV d 0 0 < 0
  · simp only [go_sem, ↓reduceIte, Nat.reduceBEq, Nat.reduceEqDiff, Nat.reduceLT, Nat.reduceLeDiff, Nat.reduceAdd, Nat.reduceMul, Nat.reduceSub, reduceCtorEq, Int.reduceLT, Int.reduceLE, Int.reduceEq, Int.reduceBEq, Int.reduceBNe, Int.reduceToNat, Int.reduceAdd, Int.reduceNeg, Int.reduceSub, hl, vQ]
  · simp only [go_sem, ↓reduceIte, Nat.reduceBEq, Nat.reduceEqDiff, Nat.reduceLT, Nat.reduceLeDiff, Nat.reduceAdd, Nat.reduceMul, Nat.reduceSub, reduceCtorEq, Int.reduceLT, Int.reduceLE, Int.reduceEq, Int.reduceBEq, Int.reduceBNe, Int.reduceToNat, Int.reduceAdd, Int.reduceNeg, Int.reduceSub, hl, vQ]
def maxL : List Int → Int
  | [] => 0
  | x :: xs => xs.foldl (fun a b => if a < b then b else a) x
theorem c65 (l : List Int) (hl : l ≠ []) (h1000 : l.length ≤ 1000) (z : Nat) (hz : z = 1) (h : Heap) : callPure (EW tabX) 59 [.lst 0 z (I l)] h = some (.int .i64 (maxL l), h) := by
  subst hz
  rw [callPure_eq, w_call _ fn_59 rfl]
  match l, hl with
  | x :: xs, _ =>
    have hlt : ¬ ((xs.length : Int) + 1 < 1) := by omega
    simp only [go_sem, ↓reduceIte, Nat.reduceBEq, Nat.reduceEqDiff, Nat.reduceLT, Nat.reduceLeDiff, Nat.reduceAdd, Nat.reduceMul, Nat.reduceSub, reduceCtorEq, Int.reduceLT, Int.reduceLE, Int.reduceEq, Int.reduceBEq, Int.reduceBNe, Int.reduceToNat, Int.reduceAdd, Int.reduceNeg, Int.reduceSub, I_c, hlt]
    simp only [List.length_cons] at h1000
    rw [w_rounds_u (fun k => [(3, .int .i64 ((xs.take k).foldl (fun a b => if a < b then b else a) x)), (4, .int .i64 ((k : Int) + 1))]) xs.length (.exit 0) [(3, .int .i64 (maxL (x :: xs))), (4, .int .i64 ((xs.length : Int) + 1))] ?_ ?_ ?_ rfl]
    · simp only [go_sem, ↓reduceIte, Nat.reduceBEq, Nat.reduceEqDiff, Nat.reduceLT, Nat.reduceLeDiff, Nat.reduceAdd, Nat.reduceMul, Nat.reduceSub, reduceCtorEq, Int.reduceLT, Int.reduceLE, Int.reduceEq, Int.reduceBEq, Int.reduceBNe, Int.reduceToNat, Int.reduceAdd, Int.reduceNeg, Int.reduceSub]
    · simp only [go_sem, ↓reduceIte, Nat.reduceBEq, Nat.reduceEqDiff, Nat.reduceLT, Nat.reduceLeDiff, Nat.reduceAdd, Nat.reduceMul, Nat.reduceSub, reduceCtorEq, Int.reduceLT, Int.reduceLE, Int.reduceEq, Int.reduceBEq, Int.reduceBNe, Int.reduceToNat, Int.reduceAdd, Int.reduceNeg, Int.reduceSub, List.foldl_nil, Int.zero_add]
    · intro k hk
      have hx := List.getElem?_eq_getElem hk
      have hki : (k : Int) + 1 < (xs.length : Int) + 1 := by omega
      have hw : IntKind.i64.wrap ((k : Int) + 1 + 1) = (k : Int) + 1 + 1 := wrap_i64 (by omega)
      have hf : (xs.take (k + 1)).foldl (fun a b => if a < b then b else a) x = if (xs.take k).foldl (fun a b => if a < b then b else a) x < xs[k] then xs[k] else (xs.take k).foldl (fun a b => if a < b then b else a) x := by
        rw [List.take_add_one, hx, List.foldl_append]; rfl
      rw [hf]
      generalize (xs.take k).foldl (fun a b => if a < b then b else a) x = a
      simp only [go_sem, ↓reduceIte, Nat.reduceBEq, Nat.reduceEqDiff, Nat.reduceLT, Nat.reduceLeDiff, Nat.reduceAdd, Nat.reduceMul, Nat.reduceSub, reduceCtorEq, Int.reduceLT, Int.reduceLE, Int.reduceEq, Int.reduceBEq, Int.reduceBNe, Int.reduceToNat, Int.reduceAdd, Int.reduceNeg, Int.reduceSub, hki, hx, hw]
    · simp only [go_sem, ↓reduceIte, Nat.reduceBEq, Nat.reduceEqDiff, Nat.reduceLT, Nat.reduceLeDiff, Nat.reduceAdd, Nat.reduceMul, Nat.reduceSub, reduceCtorEq, Int.reduceLT, Int.reduceLE, Int.reduceEq, Int.reduceBEq, Int.reduceBNe, Int.reduceToNat, Int.reduceAdd, Int.reduceNeg, Int.reduceSub, Int.lt_irrefl, List.take_length, maxL]
end Go.Proofs.YthkpjbgadkkeeaaGreat
end
section
namespace Go.Proofs.YthkpjbgadkkeeaaGreat
open Go.Proofs

def widowOf (d : Fu) (i : Nat) : Int := match d.people[i]? with | some p => p.widow | none => 0
def mostAt (d : Fu) (k : Nat) : Int := match d.visits[k]? with
  | some v => if widowOf d v.person.toNat ≠ 0 then maxL (costs d 0 k) else 0
  | none => 0
def mostTo (d : Fu) : Nat → Int
  | 0 => 0
  | k + 1 => mostTo d k + mostAt d k
def needP (d : Fu) : Int × Int := if enterE d 0 = 0 then (if 0 < mostTo d d.visits.length - d.pence then mostTo d d.visits.length - d.pence else 0, 0) else (0, enterE d 0)
theorem foldl_max_bd {P : Int → Prop} : ∀ (l : List Int) (a : Int), P a → (∀ x ∈ l, P x) → P (l.foldl (fun a b => if a < b then b else a) a)
  | [], a, h, _ => h
  | x :: l, a, h, hl => by
    rw [List.foldl_cons]
    refine foldl_max_bd l _ ?_ fun y hy => hl y (by simp [hy])
    split
    · exact hl x (by simp)
    · exact h
theorem maxL_mem_bd {P : Int → Prop} {l : List Int} (hl : l ≠ []) (h : ∀ x ∈ l, P x) : P (maxL l) := by
  match l, hl with
  | x :: xs, _ => exact foldl_max_bd xs x (h x (by simp)) fun y hy => h y (by simp [hy])
theorem mostAt_bd {d : Fu} (ho : d.Ok) (hs : someB d 0 = true) {k : Nat} (hk : k < d.visits.length) : 0 ≤ mostAt d k ∧ mostAt d k ≤ 90 := by
  unfold mostAt
  rw [List.getElem?_eq_getElem hk]
  simp only
  split
  · exact maxL_mem_bd (P := fun n => 0 ≤ n ∧ n ≤ 90) (some_pos hs hk) fun x hx => costs_bd ho hx
  · omega
theorem mostTo_bd {d : Fu} (ho : d.Ok) (hs : someB d 0 = true) : ∀ k, k ≤ d.visits.length → 0 ≤ mostTo d k ∧ mostTo d k ≤ 90 * k
  | 0, _ => by simp [mostTo]
  | k + 1, hk => by
    have := mostTo_bd ho hs k (by omega)
    have := mostAt_bd ho hs (show k < d.visits.length by omega)
    unfold mostTo
    omega
set_option maxHeartbeats 1000000 in
theorem c20 (d : Fu) (hd : d.fits) (h : Heap) : callPure (EW tabX) 18 [eF d] h = some (vQ (needP d), h) := by
  have hcl := eF_clean d
  obtain ⟨hno, hyes⟩ := enter_fine d hd [.cells (eFc d)] []
  rw [callPure_eq, w_call _ fn_18 rfl]
  unfold needP
  by_cases h0 : enterE d 0 = 0
  rotate_left
  · rw [if_neg h0]
    have hc := hno h0
    have hne : (enterE d 0 != 0) = true := by simpa using h0
    simp only [eF, eFc] at hc
    simp only [go_sem, ↓reduceIte, Nat.reduceBEq, Nat.reduceEqDiff, Nat.reduceLT, Nat.reduceLeDiff, Nat.reduceAdd, Nat.reduceMul, Nat.reduceSub, reduceCtorEq, Int.reduceLT, Int.reduceLE, Int.reduceEq, Int.reduceBEq, Int.reduceBNe, Int.reduceToNat, Int.reduceAdd, Int.reduceNeg, Int.reduceSub, eF, eFc, hc, hne, vQ]
  rw [if_pos h0]
  have hc := hyes h0
  obtain ⟨k1, k2, k3⟩ := enterE_zero h0
  have ho := ok_of_check k1
  have hv5 := ho.visits
  have hbd := mostTo_bd ho k3 _ (Nat.le_refl _)
  have hpn := ho.pence
  have hwf : IntKind.i64.wrap (mostTo d d.visits.length - d.pence) = mostTo d d.visits.length - d.pence := wrap_i64 (by omega)
  simp only [HE, eF, eFc, eFs, cast_zero] at hc
  simp only [go_sem, ↓reduceIte, Nat.reduceBEq, Nat.reduceEqDiff, Nat.reduceLT, Nat.reduceLeDiff, Nat.reduceAdd, Nat.reduceMul, Nat.reduceSub, reduceCtorEq, Int.reduceLT, Int.reduceLE, Int.reduceEq, Int.reduceBEq, Int.reduceBNe, Int.reduceToNat, Int.reduceAdd, Int.reduceNeg, Int.reduceSub] at hc
  simp only [go_sem, ↓reduceIte, Nat.reduceBEq, Nat.reduceEqDiff, Nat.reduceLT, Nat.reduceLeDiff, Nat.reduceAdd, Nat.reduceMul, Nat.reduceSub, reduceCtorEq, Int.reduceLT, Int.reduceLE, Int.reduceEq, Int.reduceBEq, Int.reduceBNe, Int.reduceToNat, Int.reduceAdd, Int.reduceNeg, Int.reduceSub, eF, eFc, hc]
  rw [w_rounds_h (fun k => [(6, .int .i64 (mostTo d k)), (20, .int .i64 (k : Int))]) (fun k => ⟨[.cells (eFc d), .cells (eFc d), .cells (eFc d), .cells (eFs d 0 0)] ++ (d.visits.take k).map bVi, []⟩) d.visits.length (.exit 0) [(6, .int .i64 (mostTo d d.visits.length)), (20, .int .i64 (d.visits.length : Int))] ⟨[.cells (eFc d), .cells (eFc d), .cells (eFc d), .cells (eFs d 0 0)] ++ d.visits.map bVi, []⟩ ?_ ?_ ?_ ?_ rfl]
  · simp only [go_sem, ↓reduceIte, Nat.reduceBEq, Nat.reduceEqDiff, Nat.reduceLT, Nat.reduceLeDiff, Nat.reduceAdd, Nat.reduceMul, Nat.reduceSub, reduceCtorEq, Int.reduceLT, Int.reduceLE, Int.reduceEq, Int.reduceBEq, Int.reduceBNe, Int.reduceToNat, Int.reduceAdd, Int.reduceNeg, Int.reduceSub, eFc, eFs, hwf, vQ]
  · simp only [go_sem, ↓reduceIte, Nat.reduceBEq, Nat.reduceEqDiff, Nat.reduceLT, Nat.reduceLeDiff, Nat.reduceAdd, Nat.reduceMul, Nat.reduceSub, reduceCtorEq, Int.reduceLT, Int.reduceLE, Int.reduceEq, Int.reduceBEq, Int.reduceBNe, Int.reduceToNat, Int.reduceAdd, Int.reduceNeg, Int.reduceSub, mostTo]
  · simp only [go_sem, ↓reduceIte, Nat.reduceBEq, Nat.reduceEqDiff, Nat.reduceLT, Nat.reduceLeDiff, Nat.reduceAdd, Nat.reduceMul, Nat.reduceSub, reduceCtorEq, Int.reduceLT, Int.reduceLE, Int.reduceEq, Int.reduceBEq, Int.reduceBNe, Int.reduceToNat, Int.reduceAdd, Int.reduceNeg, Int.reduceSub, eFc, eFs, cast_zero]
  · intro k hk
    have hx := List.getElem?_eq_getElem hk
    have hki : (k : Int) < d.visits.length := by omega
    have hzv := hd.zv (by intro e; rw [e] at hk; simp at hk)
    have hvo := ho.visit _ (List.getElem_mem hk)
    have hpb := hvo.person
    have hzp := hd.zp (by intro e; rw [e] at hpb; simp at hpb; omega)
    have hpl : d.visits[k].person.toNat < d.people.length := by omega
    have hpx := List.getElem?_eq_getElem hpl
    have hnn : ¬ d.visits[k].person < 0 := by omega
    have hw : IntKind.i64.wrap ((k : Int) + 1) = (k : Int) + 1 := wrap_i64 (by omega)
    have hm := mostTo_bd ho k3 k (by omega)
    have hma := mostAt_bd ho k3 hk
    have hws : IntKind.i64.wrap (mostTo d k + mostAt d k) = mostTo d k + mostAt d k := wrap_i64 (by omega)
    have hcost := cost_at hd ho 0 (but := 0) (by omega) hk
    have hne := some_pos k3 hk
    have hcl16 := costs_len ho (but := 0) hk
    have h65 := c65 (costs d 0 k) hne (by omega) (zT 1 (costs d 0 k).length) (zT_pos (List.length_pos_iff.2 hne))
    simp only [cast_zero, hzp, hzv] at hcost
    rw [map_succ _ hx, ← List.append_assoc]
    have hC0 : ([ABlk.cells (eFc d), .cells (eFc d), .cells (eFc d), .cells (eFs d 0 0)] ++ (d.visits.take k).map bVi)[0]? = some (.cells (eFc d)) := rfl
    have hC3 : ([ABlk.cells (eFc d), .cells (eFc d), .cells (eFc d), .cells (eFs d 0 0)] ++ (d.visits.take k).map bVi)[3]? = some (.cells (eFs d 0 0)) := rfl
    generalize [ABlk.cells (eFc d), .cells (eFc d), .cells (eFc d), .cells (eFs d 0 0)] ++ (d.visits.take k).map bVi = D at hC0 hC3 ⊢
    simp only [eFc] at hC0
    simp only [eFs, cast_zero] at hC3
    have oC0 := old hC0
    have oC3 := old hC3
    have hmo : mostTo d (k + 1) = mostTo d k + mostAt d k := rfl
    rw [hmo]
    have hat : mostAt d k = if (d.people[d.visits[k].person.toNat]).widow ≠ 0 then maxL (costs d 0 k) else 0 := by unfold mostAt; rw [hx]; simp only; unfold widowOf; rw [hpx]
    cases hwd : ((d.people[d.visits[k].person.toNat]).widow != 0) with
    | true =>
      have hwd' : (d.people[d.visits[k].person.toNat]).widow ≠ 0 := by simpa using hwd
      rw [if_pos hwd'] at hat
      rw [hat] at hws ⊢
      simp only [go_sem, ↓reduceIte, Nat.reduceBEq, Nat.reduceEqDiff, Nat.reduceLT, Nat.reduceLeDiff, Nat.reduceAdd, Nat.reduceMul, Nat.reduceSub, reduceCtorEq, Int.reduceLT, Int.reduceLE, Int.reduceEq, Int.reduceBEq, Int.reduceBNe, Int.reduceToNat, Int.reduceAdd, Int.reduceNeg, Int.reduceSub, hki, hx, eVi, bVi, hzv, hC0, oC0, oC3, hpb, hnn, hpx, ePe, hzp, hwd, hcost, vI, h65, hws, hw]
    | false =>
      have hwd' : ¬ (d.people[d.visits[k].person.toNat]).widow ≠ 0 := by simpa using hwd
      rw [if_neg hwd'] at hat
      rw [hat, Int.add_zero]
      simp only [go_sem, ↓reduceIte, Nat.reduceBEq, Nat.reduceEqDiff, Nat.reduceLT, Nat.reduceLeDiff, Nat.reduceAdd, Nat.reduceMul, Nat.reduceSub, reduceCtorEq, Int.reduceLT, Int.reduceLE, Int.reduceEq, Int.reduceBEq, Int.reduceBNe, Int.reduceToNat, Int.reduceAdd, Int.reduceNeg, Int.reduceSub, hki, hx, eVi, bVi, hzv, hC0, oC0, oC3, hpb, hnn, hpx, ePe, hzp, hwd, hw]
  · simp only [go_sem, ↓reduceIte, Nat.reduceBEq, Nat.reduceEqDiff, Nat.reduceLT, Nat.reduceLeDiff, Nat.reduceAdd, Nat.reduceMul, Nat.reduceSub, reduceCtorEq, Int.reduceLT, Int.reduceLE, Int.reduceEq, Int.reduceBEq, Int.reduceBNe, Int.reduceToNat, Int.reduceAdd, Int.reduceNeg, Int.reduceSub, Int.lt_irrefl]
end Go.Proofs.YthkpjbgadkkeeaaGreat
end
