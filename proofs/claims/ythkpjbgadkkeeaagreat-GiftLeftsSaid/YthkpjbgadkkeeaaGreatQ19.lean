/- Z-numbers. The stands that can follow some, by the reference. Conditions: those of each law. -/
import Derived.Test.YthkpjbgadkkeeaaGreatQ18
set_option linter.unusedSimpArgs false
set_option linter.unusedVariables false
namespace Go.Proofs.YthkpjbgadkkeeaaGreat
open Go.Proofs

def Bs (x : List Bool) : List AV := x.map AV.bool
theorem Bs_len (x : List Bool) : (Bs x).length = x.length := by simp [Bs]
theorem Bs_get {x : List Bool} {i : Nat} (h : i < x.length) : (Bs x)[i]? = some (.bool (x.getD i false)) := by
  unfold Bs
  rw [List.getElem?_map, List.getD_eq_getElem?_getD, List.getElem?_eq_getElem h]; rfl
theorem Bs_set (x : List Bool) (i : Nat) (b : Bool) : (Bs x).set i (.bool b) = Bs (x.set i b) := by unfold Bs; rw [List.map_set]
theorem Bs_clean (x : List Bool) : cleanL (Bs x) = some (Bs x) := cleanL_map (fun x => clean_bool x) x
theorem Bs_under (n : Nat) (x : List Bool) : underL n (Bs x) = true := underL_map (fun x => by simp only [go_sem, ↓reduceIte, Nat.reduceBEq, Nat.reduceEqDiff, Nat.reduceLT, Nat.reduceLeDiff, Nat.reduceAdd, Nat.reduceMul, Nat.reduceSub, reduceCtorEq, Int.reduceLT, Int.reduceLE, Int.reduceEq, Int.reduceBEq, Int.reduceBNe, Int.reduceToNat, Int.reduceAdd, Int.reduceNeg, Int.reduceSub]) x
theorem Bs_one (x : List Bool) : (Bs x).all AV.one = true := all_map (fun _ => rfl) x
theorem Bs_var (x : List Bool) : (Bs x).all AV.var = true := all_map (fun _ => rfl) x
theorem Bs_falses : List.replicate 1204 (AV.bool false) = Bs falses := by unfold Bs falses; rw [List.map_replicate]
theorem Bs_take {x : List Bool} (h : x.length = 1204) : (Bs x).take 1204 = Bs x := List.take_of_length_le (by rw [Bs_len]; omega)
theorem tsz106 : tsz tabX 106 = 1204 := by unfold tsz; rw [ty_106]
theorem tbytes106 : tbytes tabX 106 = 1204 := by unfold tbytes; rw [ty_106]
theorem tagg106 : tagg tabX 106 = true := by unfold tagg; rw [ty_106]
theorem trow106 : trow tabX 106 = .none := by unfold trow; rw [ty_106]
theorem tint106 : tint tabX 106 = none := by unfold tint; rw [ty_106]
theorem tmap106 : tmap tabX 106 = none := by unfold tmap; rw [ty_106]
theorem teq106 : teq tabX 106 = none := by unfold teq; rw [ty_106]
theorem tbool106 : tbool tabX 106 = false := by unfold tbool; rw [ty_106]
theorem tref106 : tref tabX 106 = false := by unfold tref; rw [ty_106]
theorem tfok106 : tfok tabX 106 = true := by unfold tfok; rw [ty_106]
theorem known106 : known tabX 106 = true := by unfold known; rw [ty_106]
theorem tzero106 : tzero tabX 106 = some (.agg (Bs falses)) := by unfold tzero; rw [ty_106, ← Bs_falses]
theorem tsz104 : tsz tabX 104 = 1204 := by unfold tsz; rw [ty_104]
theorem tbytes104 : tbytes tabX 104 = 1204 := by unfold tbytes; rw [ty_104]
theorem tagg104 : tagg tabX 104 = true := by unfold tagg; rw [ty_104]
theorem trow104 : trow tabX 104 = .array 301 103 := by unfold trow; rw [ty_104]
theorem tint104 : tint tabX 104 = none := by unfold tint; rw [ty_104]
theorem tmap104 : tmap tabX 104 = none := by unfold tmap; rw [ty_104]
theorem teq104 : teq tabX 104 = none := by unfold teq; rw [ty_104]
theorem tbool104 : tbool tabX 104 = false := by unfold tbool; rw [ty_104]
theorem tref104 : tref tabX 104 = false := by unfold tref; rw [ty_104]
theorem tfok104 : tfok tabX 104 = false := by unfold tfok; rw [ty_104]
theorem known104 : known tabX 104 = true := by unfold known; rw [ty_104]
theorem tzero104 : tzero tabX 104 = some (.agg (Bs falses)) := by unfold tzero; rw [ty_104, ← Bs_falses]
theorem tfield106 : tfield tabX 106 0 = some (0, 1204, true) := by unfold tfield; rw [ty_106]; rfl
theorem loadB {x : List Bool} (h : x.length = 1204) : loadAV tabX 106 (Bs x) = some (.agg (Bs x)) := by
  unfold loadAV
  rw [ty_106]
  simp only [if_true]
  rw [if_pos (by rw [Bs_len]; omega), Bs_take h]
theorem splice_full {c v : List AV} (h : c.length = v.length) : splice c 0 v = v := by
  rw [splice_eq v c 0 (by omega), List.take_zero, List.nil_append, Nat.zero_add, ← h, List.drop_length, List.append_nil]
theorem ofTo_succ (d : Fu) (k : Nat) (w : Bool) (x : List Bool) (m : Nat) : ofTo d k w x (m + 1) = stepM d k w x (ofTo d k w x m) m := rfl
def eS3 (left : Int) (ended paid : Bool) : AV := .agg [.int .i64 left, .bool ended, .bool paid]
theorem cIndex (b : Bool) (h : Heap) : callPure (EW tabX) 161 [.bool b] h = some (.int .i64 (if b then 1 else 0), h) := by
  rw [callPure_eq, w_call _ fn_161 rfl]
  cases b
  · simp only [go_sem, ↓reduceIte, Nat.reduceBEq, Nat.reduceEqDiff, Nat.reduceLT, Nat.reduceLeDiff, Nat.reduceAdd, Nat.reduceMul, Nat.reduceSub, reduceCtorEq, Int.reduceLT, Int.reduceLE, Int.reduceEq, Int.reduceBEq, Int.reduceBNe, Int.reduceToNat, Int.reduceAdd, Int.reduceNeg, Int.reduceSub]
  · simp only [go_sem, ↓reduceIte, Nat.reduceBEq, Nat.reduceEqDiff, Nat.reduceLT, Nat.reduceLeDiff, Nat.reduceAdd, Nat.reduceMul, Nat.reduceSub, reduceCtorEq, Int.reduceLT, Int.reduceLE, Int.reduceEq, Int.reduceBEq, Int.reduceBNe, Int.reduceToNat, Int.reduceAdd, Int.reduceNeg, Int.reduceSub]
theorem cBehind (left : Int) (ended paid : Bool) (c : Int) (hb : 0 ≤ left ∧ left ≤ 300) (hc : 0 ≤ c ∧ c ≤ 90) (h : Heap) :
    callPure (EW tabX) 160 [eS3 left ended paid, .int .i64 c] h = some (if ended = true ∨ left < c then eS3 left true false else eS3 (left - c) false true, h) := by
  have hw : IntKind.i64.wrap (left - c) = left - c := wrap_i64 (by omega)
  rw [callPure_eq, w_call _ fn_160 rfl]
  cases ended
  · by_cases hlt : left < c
    · rw [if_pos (.inr hlt)]
      simp only [go_sem, ↓reduceIte, Nat.reduceBEq, Nat.reduceEqDiff, Nat.reduceLT, Nat.reduceLeDiff, Nat.reduceAdd, Nat.reduceMul, Nat.reduceSub, reduceCtorEq, Int.reduceLT, Int.reduceLE, Int.reduceEq, Int.reduceBEq, Int.reduceBNe, Int.reduceToNat, Int.reduceAdd, Int.reduceNeg, Int.reduceSub, eS3, hlt]
    · rw [if_neg (by rintro (h | h); cases h; exact hlt h)]
      simp only [go_sem, ↓reduceIte, Nat.reduceBEq, Nat.reduceEqDiff, Nat.reduceLT, Nat.reduceLeDiff, Nat.reduceAdd, Nat.reduceMul, Nat.reduceSub, reduceCtorEq, Int.reduceLT, Int.reduceLE, Int.reduceEq, Int.reduceBEq, Int.reduceBNe, Int.reduceToNat, Int.reduceAdd, Int.reduceNeg, Int.reduceSub, eS3, hlt, hw]
  · rw [if_pos (.inl rfl)]
    simp only [go_sem, ↓reduceIte, Nat.reduceBEq, Nat.reduceEqDiff, Nat.reduceLT, Nat.reduceLeDiff, Nat.reduceAdd, Nat.reduceMul, Nat.reduceSub, reduceCtorEq, Int.reduceLT, Int.reduceLE, Int.reduceEq, Int.reduceBEq, Int.reduceBNe, Int.reduceToNat, Int.reduceAdd, Int.reduceNeg, Int.reduceSub, eS3]
set_option maxRecDepth 100000 in
theorem cOf (d : Fu) (hd : d.fits) (ho : d.Ok) (hs : someB d 0 = true) (k : Nat) (hk : k < d.visits.length) (w : Bool) (x : List Bool) (hx : x.length = 1204) (h : Heap) :
    callPure (EW tabX) 104 [.agg (Bs x), eF d, .int .i64 (k : Int), .bool w] h = some (.agg (Bs (ofTo d k w x 1204)), h) := by
  have hcl := eF_clean d
  have hcost := cost_ref hd ho hk
  have hcom := cComes d hd ho k hk
  have hbc := Bs_clean x
  have hbu := fun n => Bs_under n x
  have hbl := Bs_len x
  have hbo := Bs_one x
  rw [callPure_eq, w_call _ fn_104 rfl]
  simp only [eF_eq, vI] at hcost hcom hcl ⊢
  simp only [go_sem, ↓reduceIte, Nat.reduceBEq, Nat.reduceEqDiff, Nat.reduceLT, Nat.reduceLeDiff, Nat.reduceAdd, Nat.reduceMul, Nat.reduceSub, reduceCtorEq, Int.reduceLT, Int.reduceLE, Int.reduceEq, Int.reduceBEq, Int.reduceBNe, Int.reduceToNat, Int.reduceAdd, Int.reduceNeg, Int.reduceSub, ↓tsz106, ↓tbytes106, ↓tagg106, ↓trow106, ↓tint106, ↓tmap106, ↓teq106, ↓tbool106, ↓tref106, ↓tfok106, ↓known106, ↓tzero106, ↓tsz104, ↓tbytes104, ↓tagg104, ↓trow104, ↓tint104, ↓tmap104, ↓teq104, ↓tbool104, ↓tref104, ↓tfok104, ↓known104, ↓tzero104, ↓tfield106, hbc, hbu, hbl, hbo, hx, hcost]
  generalize hy : (EW tabX).code 104 none (Code.loop _) _ = y
  refine w_rounds_sk hy (fun l s => [(11, .int .i64 (l : Int))]) (fun s : Nat × List ABlk × List Bool => ⟨.cells (Bs x) :: .cells (eFc d) :: .cells (Bs falses) :: .cells (Bs (ofTo d k w x (4 * s.1))) :: s.2.1, s.2.2⟩) (fun l s => s.1 = l) 301 (.exit 0) (fun _ => [(11, .int .i64 301)]) rfl (0, [], []) ?_ ?_ rfl ?_ ?_ ?_
  · simp only [go_sem, ↓reduceIte, Nat.reduceBEq, Nat.reduceEqDiff, Nat.reduceLT, Nat.reduceLeDiff, Nat.reduceAdd, Nat.reduceMul, Nat.reduceSub, reduceCtorEq, Int.reduceLT, Int.reduceLE, Int.reduceEq, Int.reduceBEq, Int.reduceBNe, Int.reduceToNat, Int.reduceAdd, Int.reduceNeg, Int.reduceSub]
    skip
  · rfl
  · rintro l ⟨l', E, M⟩ hl hR
    obtain rfl : l' = l := hR
    have hli : (l' : Int) ≤ 300 := by omega
    have hwl : IntKind.i64.wrap ((l' : Int) + 1) = (l' : Int) + 1 := wrap_i64 (by omega)
    simp only [go_sem, ↓reduceIte, Nat.reduceBEq, Nat.reduceEqDiff, Nat.reduceLT, Nat.reduceLeDiff, Nat.reduceAdd, Nat.reduceMul, Nat.reduceSub, reduceCtorEq, Int.reduceLT, Int.reduceLE, Int.reduceEq, Int.reduceBEq, Int.reduceBNe, Int.reduceToNat, Int.reduceAdd, Int.reduceNeg, Int.reduceSub, ↓tsz106, ↓tbytes106, ↓tagg106, ↓trow106, ↓tint106, ↓tmap106, ↓teq106, ↓tbool106, ↓tref106, ↓tfok106, ↓known106, ↓tzero106, ↓tsz104, ↓tbytes104, ↓tagg104, ↓trow104, ↓tint104, ↓tmap104, ↓teq104, ↓tbool104, ↓tref104, ↓tfok104, ↓known104, ↓tzero104, ↓tfield106, eFc, hli]
    generalize hz : (EW tabX).code 104 none (Code.loop _) _ = z
    refine w_rounds_sk hz (fun j s => [(12, .int .i64 (j : Int))]) (fun s : Nat × List ABlk × List Bool => ⟨.cells (Bs x) :: .cells (eFc d) :: .cells (Bs falses) :: .cells (Bs (ofTo d k w x (4 * l' + s.1))) :: s.2.1, s.2.2⟩) (fun j s => s.1 = j) 4 (.exit 2) (fun _ => [(12, .int .i64 4)]) rfl (0, E, M) ?_ ?_ rfl ?_ ?_ ?_
    · simp only [go_sem, ↓reduceIte, Nat.reduceBEq, Nat.reduceEqDiff, Nat.reduceLT, Nat.reduceLeDiff, Nat.reduceAdd, Nat.reduceMul, Nat.reduceSub, reduceCtorEq, Int.reduceLT, Int.reduceLE, Int.reduceEq, Int.reduceBEq, Int.reduceBNe, Int.reduceToNat, Int.reduceAdd, Int.reduceNeg, Int.reduceSub]
      skip
    · rfl
    · rintro j ⟨j', E, M⟩ hj hR
      obtain rfl : j' = j := hR
      have hji : (j' : Int) < 4 := by omega
      have hwj : IntKind.i64.wrap ((j' : Int) + 1) = (j' : Int) + 1 := wrap_i64 (by omega)
      have hm : 4 * l' + j' < 1204 := by omega
      have t1 : (j' : Int).tdiv 2 = ((j' / 2 : Nat) : Int) := rfl
      have t2 : (j' : Int).tmod 2 = ((j' % 2 : Nat) : Int) := rfl
      have w2 : IntKind.i64.wrap ((j' / 2 : Nat) : Int) = ((j' / 2 : Nat) : Int) := wrap_i64 (by omega)
      have hj2 : j' / 2 < 2 := by omega
      have hj3 : j' % 2 < 2 := Nat.mod_lt _ (by decide)
      have eix : l' * 4 + j' / 2 * 2 + j' % 2 = 4 * l' + j' := by omega
      have hget := Bs_get (x := x) (i := 4 * l' + j') (by omega)
      have hlen1 : 4 * l' + j' < (Bs x).length := by rw [Bs_len]; omega
      cases hxm : x.getD (4 * l' + j') false with
      | false =>
        refine ⟨(j' + 1, E, M), ?_, rfl⟩
        have hstep : ofTo d k w x (4 * l' + (j' + 1)) = ofTo d k w x (4 * l' + j') := by rw [← Nat.add_assoc, ofTo_succ]; unfold stepM; rw [hxm, if_neg Bool.false_ne_true]
        rw [hxm] at hget
        simp only [go_sem, ↓reduceIte, Nat.reduceBEq, Nat.reduceEqDiff, Nat.reduceLT, Nat.reduceLeDiff, Nat.reduceAdd, Nat.reduceMul, Nat.reduceSub, reduceCtorEq, Int.reduceLT, Int.reduceLE, Int.reduceEq, Int.reduceBEq, Int.reduceBNe, Int.reduceToNat, Int.reduceAdd, Int.reduceNeg, Int.reduceSub, ↓tsz106, ↓tbytes106, ↓tagg106, ↓trow106, ↓tint106, ↓tmap106, ↓teq106, ↓tbool106, ↓tref106, ↓tfok106, ↓known106, ↓tzero106, ↓tsz104, ↓tbytes104, ↓tagg104, ↓trow104, ↓tint104, ↓tmap104, ↓teq104, ↓tbool104, ↓tref104, ↓tfok104, ↓known104, ↓tzero104, ↓tfield106, eFc, hji, t1, t2, w2, hl, hj2, hj3, Nat.mul_one, List.getElem?_drop, Nat.add_zero, eix, hget, hwj, hstep]
        skip
      | true =>
        rw [hxm] at hget
        have hol := ofTo_len d k w x (4 * l' + j')
        have hon : ofTo d k w x (4 * l' + (j' + 1)) = setAll (ofTo d k w x (4 * l' + j')) (nextI d k w (4 * l' + j')) := by rw [← Nat.add_assoc, ofTo_succ]; unfold stepM; rw [hxm, if_pos rfl]
        have hq1 : (4 * l' + j') / 4 = l' := by omega
        have hq2 : (4 * l' + j') % 4 = j' := by omega
        have hst : stayI (4 * l' + j') = l' * 4 + j' / 2 * 2 := by unfold stayI; rw [hq1, hq2]; omega
        generalize ofTo d k w x (4 * l' + j') = o at *
        have hol2 : (Bs o).length = 1204 := by rw [Bs_len, hol]
        have hsl : l' * 4 + j' / 2 * 2 ≤ 1203 := by omega
        have hne := List.length_pos_iff.2 (some_pos hs hk)
        have hnei : (0 : Int) < (costs d 0 k).length := by omega
        have hcl16 := costs_len ho (but := 0) hk
        have hcbd : ∀ n ∈ costs d 0 k, 0 ≤ n ∧ n ≤ 90 := fun n hn => costs_bd ho hn
        have hset := Bs_set o (l' * 4 + j' / 2 * 2) true
        cases w with
        | false =>
          have hnx : setAll o (nextI d k false (4 * l' + j')) = o.set (l' * 4 + j' / 2 * 2) true := by unfold nextI; rw [hst]; rfl
          rw [hnx] at hon
          refine ⟨(j' + 1, E ++ [.cells [.int .i64 l', .bool (((j' / 2 : Nat) : Int) == 1), .bool false]], M), ?_, rfl⟩
          simp only [go_sem, ↓reduceIte, Nat.reduceBEq, Nat.reduceEqDiff, Nat.reduceLT, Nat.reduceLeDiff, Nat.reduceAdd, Nat.reduceMul, Nat.reduceSub, reduceCtorEq, Int.reduceLT, Int.reduceLE, Int.reduceEq, Int.reduceBEq, Int.reduceBNe, Int.reduceToNat, Int.reduceAdd, Int.reduceNeg, Int.reduceSub, ↓tsz106, ↓tbytes106, ↓tagg106, ↓trow106, ↓tint106, ↓tmap106, ↓teq106, ↓tbool106, ↓tref106, ↓tfok106, ↓known106, ↓tzero106, ↓tsz104, ↓tbytes104, ↓tagg104, ↓trow104, ↓tint104, ↓tmap104, ↓teq104, ↓tbool104, ↓tref104, ↓tfok104, ↓known104, ↓tzero104, ↓tfield106, eFc, hji, t1, t2, w2, hl, hj2, hj3, Nat.mul_one, List.getElem?_drop, Nat.add_zero, eix, hget, hwj, hol2, hsl, hset]
          rw [w_rounds_u (fun i => [(14, .int .i64 (i : Int))]) 0 (.exit 4) [(14, .int .i64 0)] ?_ ?_ ?_ rfl]
          · simp only [go_sem, ↓reduceIte, Nat.reduceBEq, Nat.reduceEqDiff, Nat.reduceLT, Nat.reduceLeDiff, Nat.reduceAdd, Nat.reduceMul, Nat.reduceSub, reduceCtorEq, Int.reduceLT, Int.reduceLE, Int.reduceEq, Int.reduceBEq, Int.reduceBNe, Int.reduceToNat, Int.reduceAdd, Int.reduceNeg, Int.reduceSub, eFc, hwj, hon]
          · simp only [go_sem, ↓reduceIte, Nat.reduceBEq, Nat.reduceEqDiff, Nat.reduceLT, Nat.reduceLeDiff, Nat.reduceAdd, Nat.reduceMul, Nat.reduceSub, reduceCtorEq, Int.reduceLT, Int.reduceLE, Int.reduceEq, Int.reduceBEq, Int.reduceBNe, Int.reduceToNat, Int.reduceAdd, Int.reduceNeg, Int.reduceSub]
            skip
          · intro i hi; omega
          · simp only [go_sem, ↓reduceIte, Nat.reduceBEq, Nat.reduceEqDiff, Nat.reduceLT, Nat.reduceLeDiff, Nat.reduceAdd, Nat.reduceMul, Nat.reduceSub, reduceCtorEq, Int.reduceLT, Int.reduceLE, Int.reduceEq, Int.reduceBEq, Int.reduceBNe, Int.reduceToNat, Int.reduceAdd, Int.reduceNeg, Int.reduceSub, eFc, hnei]
            skip
        | true =>
          have hcs : ∃ o1, (if comesB d k = false then o.set (l' * 4 + j' / 2 * 2) true else o) = o1 ∧ setAll o (nextI d k true (4 * l' + j')) = setAll o1 ((costs d 0 k).map (behI (4 * l' + j'))) := by
            refine ⟨_, rfl, ?_⟩
            unfold nextI setAll
            rw [hst, List.foldl_append]
            cases comesB d k <;> rfl
          obtain ⟨o1, ho1, hnx⟩ := hcs
          rw [hnx] at hon
          have hol1 : o1.length = 1204 := by rw [← ho1]; split; rw [List.length_set]; exact hol; exact hol
          cases hcm : comesB d k with
          | true =>
            rw [hcm] at hcom ho1
            rw [if_neg (by decide)] at ho1
            simp only [go_sem, ↓reduceIte, Nat.reduceBEq, Nat.reduceEqDiff, Nat.reduceLT, Nat.reduceLeDiff, Nat.reduceAdd, Nat.reduceMul, Nat.reduceSub, reduceCtorEq, Int.reduceLT, Int.reduceLE, Int.reduceEq, Int.reduceBEq, Int.reduceBNe, Int.reduceToNat, Int.reduceAdd, Int.reduceNeg, Int.reduceSub, ↓tsz106, ↓tbytes106, ↓tagg106, ↓trow106, ↓tint106, ↓tmap106, ↓teq106, ↓tbool106, ↓tref106, ↓tfok106, ↓known106, ↓tzero106, ↓tsz104, ↓tbytes104, ↓tagg104, ↓trow104, ↓tint104, ↓tmap104, ↓teq104, ↓tbool104, ↓tref104, ↓tfok104, ↓known104, ↓tzero104, ↓tfield106, eFc, hji, t1, t2, w2, hl, hj2, hj3, Nat.mul_one, List.getElem?_drop, Nat.add_zero, eix, hget, hwj, hol2, hsl, hset, hcom, ho1]
            generalize hv : (EW tabX).code 104 none (Code.loop _) _ = v
            refine w_rounds_sk hv (fun i s => [(14, .int .i64 (i : Int))]) (fun s : Nat × List ABlk × List Bool => ⟨.cells (Bs x) :: .cells (eFc d) :: .cells (Bs falses) :: .cells (Bs (setAll o1 (((costs d 0 k).take s.1).map (behI (4 * l' + j'))))) :: (E ++ (.cells [.int .i64 (l' : Int), .bool (((j' / 2 : Nat) : Int) == 1), .bool false] :: s.2.1)), s.2.2⟩)
              (fun i s => s.1 = i) (costs d 0 k).length (.exit 4) (fun _ => [(14, .int .i64 ((costs d 0 k).length : Int))]) rfl (0, [], M) ?_ ?_ rfl ?_ ?_ ?_
            · simp only [go_sem, ↓reduceIte, Nat.reduceBEq, Nat.reduceEqDiff, Nat.reduceLT, Nat.reduceLeDiff, Nat.reduceAdd, Nat.reduceMul, Nat.reduceSub, reduceCtorEq, Int.reduceLT, Int.reduceLE, Int.reduceEq, Int.reduceBEq, Int.reduceBNe, Int.reduceToNat, Int.reduceAdd, Int.reduceNeg, Int.reduceSub]
              skip
            · simp only [go_sem, ↓reduceIte, Nat.reduceBEq, Nat.reduceEqDiff, Nat.reduceLT, Nat.reduceLeDiff, Nat.reduceAdd, Nat.reduceMul, Nat.reduceSub, reduceCtorEq, Int.reduceLT, Int.reduceLE, Int.reduceEq, Int.reduceBEq, Int.reduceBNe, Int.reduceToNat, Int.reduceAdd, Int.reduceNeg, Int.reduceSub, eFc, List.take_zero, List.map_nil, setAll, List.foldl_nil, ho1]
            · rintro i ⟨i', F, M⟩ hi hR
              obtain rfl : i' = i := hR
              have hii : (i' : Int) < (costs d 0 k).length := by omega
              have hcx := List.getElem?_eq_getElem hi
              have hcb := hcbd _ (List.getElem_mem hi)
              have hwi : IntKind.i64.wrap ((i' : Int) + 1) = (i' : Int) + 1 := wrap_i64 (by omega)
              have hzz : zT 1 (costs d 0 k).length = 1 := zT_pos hne
              have hbe := cBehind (l' : Int) (((j' / 2 : Nat) : Int) == 1) false ((costs d 0 k)[i']) (by omega) hcb
              have hLE : ∀ F : List ABlk, (E ++ (ABlk.cells [.int .i64 (l' : Int), .bool (((j' / 2 : Nat) : Int) == 1), .bool false] :: F))[E.length]? = some (.cells [.int .i64 (l' : Int), .bool (((j' / 2 : Nat) : Int) == 1), .bool false]) := fun F => by
                rw [List.getElem?_append_right (Nat.le_refl _), Nat.sub_self]; rfl
              have hsucc : setAll o1 (((costs d 0 k).take (i' + 1)).map (behI (4 * l' + j'))) = (setAll o1 (((costs d 0 k).take i').map (behI (4 * l' + j')))).set (behI (4 * l' + j') (costs d 0 k)[i']) true := by
                rw [List.take_add_one, hcx, List.map_append]
                unfold setAll
                rw [List.foldl_append]; rfl
              have hbeh : behI (4 * l' + j') (costs d 0 k)[i'] = if j' / 2 = 1 ∨ (l' : Int) < (costs d 0 k)[i'] then 4 * l' + 2 else 4 * (l' - (costs d 0 k)[i'].toNat) + 1 := by unfold behI; rw [hq1, hq2]
              have hoi : (Bs (setAll o1 (((costs d 0 k).take i').map (behI (4 * l' + j'))))).length = 1204 := by rw [Bs_len, setAll_len, hol1]
              generalize setAll o1 (((costs d 0 k).take i').map (behI (4 * l' + j'))) = oi at *
              generalize (costs d 0 k)[i'] = c at *
              simp only [eS3] at hbe
              have ebq : (((j' / 2 : Nat) : Int) == 1) = true ↔ j' / 2 = 1 := by rw [beq_iff_eq]; omega
              by_cases hcond : j' / 2 = 1 ∨ (l' : Int) < c
              · rw [if_pos hcond] at hbeh
                have hcond2 : (((j' / 2 : Nat) : Int) == 1) = true ∨ (l' : Int) < c := hcond.imp_left ebq.2
                simp only [if_pos hcond2] at hbe
                have i1 := cIndex true
                have i2 := cIndex false
                simp only [go_sem, ↓reduceIte, Nat.reduceBEq, Nat.reduceEqDiff, Nat.reduceLT, Nat.reduceLeDiff, Nat.reduceAdd, Nat.reduceMul, Nat.reduceSub, reduceCtorEq, Int.reduceLT, Int.reduceLE, Int.reduceEq, Int.reduceBEq, Int.reduceBNe, Int.reduceToNat, Int.reduceAdd, Int.reduceNeg, Int.reduceSub, ↓tsz106, ↓tbytes106, ↓tagg106, ↓trow106, ↓tint106, ↓tmap106, ↓teq106, ↓tbool106, ↓tref106, ↓tfok106, ↓known106, ↓tzero106, ↓tsz104, ↓tbytes104, ↓tagg104, ↓trow104, ↓tint104, ↓tmap104, ↓teq104, ↓tbool104, ↓tref104, ↓tfok104, ↓known104, ↓tzero104, ↓tfield106, eFc, hii, hcx, hzz, hLE, hbe]
                generalize hcf : okFam _ _ _ = cf
                obtain rfl : cf = true := by rw [← hcf]; kernel_rfl
                have hL : ∀ (a0 a1 a2 a3 b v : ABlk) (R : List ABlk), (a0 :: a1 :: a2 :: a3 :: (E ++ b :: (F ++ (ABlk.none :: v :: R))))[E.length + (F.length + 6)]? = some v := fun a0 a1 a2 a3 b v R => by
                  rw [show E.length + (F.length + 6) = (E.length + (F.length + 2)) + 1 + 1 + 1 + 1 by omega]
                  simp only [List.getElem?_cons_succ]
                  rw [List.getElem?_append_right (by omega), show E.length + (F.length + 2) - E.length = (F.length + 1) + 1 by omega, List.getElem?_cons_succ, List.getElem?_append_right (by omega), show F.length + 1 - F.length = 1 by omega]; rfl
                have hS : ∀ (a0 a1 a2 a3 b v u : ABlk) (R : List ABlk), (a0 :: a1 :: a2 :: a3 :: (E ++ b :: (F ++ (ABlk.none :: v :: R)))).set (E.length + (F.length + 6)) u = a0 :: a1 :: a2 :: a3 :: (E ++ b :: (F ++ (ABlk.none :: u :: R))) := fun a0 a1 a2 a3 b v u R => by
                  rw [show E.length + (F.length + 6) = (E.length + (F.length + 2)) + 1 + 1 + 1 + 1 by omega]
                  simp only [List.set_cons_succ]
                  rw [List.set_append_right _ _ (by omega), show E.length + (F.length + 2) - E.length = (F.length + 1) + 1 by omega, List.set_cons_succ, List.set_append_right _ _ (by omega), show F.length + 1 - F.length = 1 by omega]; rfl
                simp only [go_sem, ↓reduceIte, Nat.reduceBEq, Nat.reduceEqDiff, Nat.reduceLT, Nat.reduceLeDiff, Nat.reduceAdd, Nat.reduceMul, Nat.reduceSub, reduceCtorEq, Int.reduceLT, Int.reduceLE, Int.reduceEq, Int.reduceBEq, Int.reduceBNe, Int.reduceToNat, Int.reduceAdd, Int.reduceNeg, Int.reduceSub, ↓tsz106, ↓tbytes106, ↓tagg106, ↓trow106, ↓tint106, ↓tmap106, ↓teq106, ↓tbool106, ↓tref106, ↓tfok106, ↓known106, ↓tzero106, ↓tsz104, ↓tbytes104, ↓tagg104, ↓trow104, ↓tint104, ↓tmap104, ↓teq104, ↓tbool104, ↓tref104, ↓tfok104, ↓known104, ↓tzero104, ↓tfield106, eFc, hii, hcx, hzz, hLE, hbe, List.size_toArray, Nat.add_lt_add_iff_left, Nat.add_assoc, hL, hS]
                generalize hcf : drawT _ _ _ = cf
                obtain rfl : cf = true := by rw [← hcf]; kernel_rfl
                have hbx : l' * 4 + 2 = behI (4 * l' + j') c := by rw [hbeh]; omega
                have hbl : behI (4 * l' + j') c ≤ 1203 := by rw [hbeh]; omega
                have hse := Bs_set oi (behI (4 * l' + j') c) true
                refine ⟨(i' + 1, F ++ (.none :: (.cells [.int .i64 (l' : Int), .bool true, .bool false]) :: [.none, .none, .none, .none, .none, .none, .none, .none, .none, .none, .none, .none, .none, .none, .none, .none, .none, .none, .none]), M ++ [false, false, false, false, false, false, false, false, false, false, false, false, false, false, false, false, false, false, false, false, false]), ?_, rfl⟩
                simp only [go_sem, ↓reduceIte, Nat.reduceBEq, Nat.reduceEqDiff, Nat.reduceLT, Nat.reduceLeDiff, Nat.reduceAdd, Nat.reduceMul, Nat.reduceSub, reduceCtorEq, Int.reduceLT, Int.reduceLE, Int.reduceEq, Int.reduceBEq, Int.reduceBNe, Int.reduceToNat, Int.reduceAdd, Int.reduceNeg, Int.reduceSub, ↓tsz106, ↓tbytes106, ↓tagg106, ↓trow106, ↓tint106, ↓tmap106, ↓teq106, ↓tbool106, ↓tref106, ↓tfok106, ↓known106, ↓tzero106, ↓tsz104, ↓tbytes104, ↓tagg104, ↓trow104, ↓tint104, ↓tmap104, ↓teq104, ↓tbool104, ↓tref104, ↓tfok104, ↓known104, ↓tzero104, ↓tfield106, eFc, hL, i1, i2, hl, hbx, hbl, hoi, hse, hwi, hsucc]
                skip
              · rw [if_neg hcond] at hbeh
                have hcond2 : ¬ ((((j' / 2 : Nat) : Int) == 1) = true ∨ (l' : Int) < c) := fun h => hcond (h.imp_left ebq.1)
                simp only [if_neg hcond2] at hbe
                obtain ⟨nl, hnl⟩ := Int.eq_ofNat_of_zero_le (show 0 ≤ (l' : Int) - c by omega)
                have hnl2 : nl = l' - c.toNat := by omega
                have hnl3 : nl < 301 := by omega
                rw [hnl] at hbe
                have i1 := cIndex true
                have i2 := cIndex false
                simp only [go_sem, ↓reduceIte, Nat.reduceBEq, Nat.reduceEqDiff, Nat.reduceLT, Nat.reduceLeDiff, Nat.reduceAdd, Nat.reduceMul, Nat.reduceSub, reduceCtorEq, Int.reduceLT, Int.reduceLE, Int.reduceEq, Int.reduceBEq, Int.reduceBNe, Int.reduceToNat, Int.reduceAdd, Int.reduceNeg, Int.reduceSub, ↓tsz106, ↓tbytes106, ↓tagg106, ↓trow106, ↓tint106, ↓tmap106, ↓teq106, ↓tbool106, ↓tref106, ↓tfok106, ↓known106, ↓tzero106, ↓tsz104, ↓tbytes104, ↓tagg104, ↓trow104, ↓tint104, ↓tmap104, ↓teq104, ↓tbool104, ↓tref104, ↓tfok104, ↓known104, ↓tzero104, ↓tfield106, eFc, hii, hcx, hzz, hLE, hbe]
                generalize hcf : okFam _ _ _ = cf
                obtain rfl : cf = true := by rw [← hcf]; kernel_rfl
                have hL : ∀ (a0 a1 a2 a3 b v : ABlk) (R : List ABlk), (a0 :: a1 :: a2 :: a3 :: (E ++ b :: (F ++ (ABlk.none :: v :: R))))[E.length + (F.length + 6)]? = some v := fun a0 a1 a2 a3 b v R => by
                  rw [show E.length + (F.length + 6) = (E.length + (F.length + 2)) + 1 + 1 + 1 + 1 by omega]
                  simp only [List.getElem?_cons_succ]
                  rw [List.getElem?_append_right (by omega), show E.length + (F.length + 2) - E.length = (F.length + 1) + 1 by omega, List.getElem?_cons_succ, List.getElem?_append_right (by omega), show F.length + 1 - F.length = 1 by omega]; rfl
                have hS : ∀ (a0 a1 a2 a3 b v u : ABlk) (R : List ABlk), (a0 :: a1 :: a2 :: a3 :: (E ++ b :: (F ++ (ABlk.none :: v :: R)))).set (E.length + (F.length + 6)) u = a0 :: a1 :: a2 :: a3 :: (E ++ b :: (F ++ (ABlk.none :: u :: R))) := fun a0 a1 a2 a3 b v u R => by
                  rw [show E.length + (F.length + 6) = (E.length + (F.length + 2)) + 1 + 1 + 1 + 1 by omega]
                  simp only [List.set_cons_succ]
                  rw [List.set_append_right _ _ (by omega), show E.length + (F.length + 2) - E.length = (F.length + 1) + 1 by omega, List.set_cons_succ, List.set_append_right _ _ (by omega), show F.length + 1 - F.length = 1 by omega]; rfl
                simp only [go_sem, ↓reduceIte, Nat.reduceBEq, Nat.reduceEqDiff, Nat.reduceLT, Nat.reduceLeDiff, Nat.reduceAdd, Nat.reduceMul, Nat.reduceSub, reduceCtorEq, Int.reduceLT, Int.reduceLE, Int.reduceEq, Int.reduceBEq, Int.reduceBNe, Int.reduceToNat, Int.reduceAdd, Int.reduceNeg, Int.reduceSub, ↓tsz106, ↓tbytes106, ↓tagg106, ↓trow106, ↓tint106, ↓tmap106, ↓teq106, ↓tbool106, ↓tref106, ↓tfok106, ↓known106, ↓tzero106, ↓tsz104, ↓tbytes104, ↓tagg104, ↓trow104, ↓tint104, ↓tmap104, ↓teq104, ↓tbool104, ↓tref104, ↓tfok104, ↓known104, ↓tzero104, ↓tfield106, eFc, hii, hcx, hzz, hLE, hbe, List.size_toArray, Nat.add_lt_add_iff_left, Nat.add_assoc, hL, hS]
                generalize hcf : drawT _ _ _ = cf
                obtain rfl : cf = true := by rw [← hcf]; kernel_rfl
                have hbx : nl * 4 + 1 = behI (4 * l' + j') c := by rw [hbeh, hnl2]; omega
                have hbl : behI (4 * l' + j') c ≤ 1203 := by rw [hbeh]; omega
                have hse := Bs_set oi (behI (4 * l' + j') c) true
                refine ⟨(i' + 1, F ++ (.none :: (.cells [.int .i64 (nl : Int), .bool false, .bool true]) :: [.none, .none, .none, .none, .none, .none, .none, .none, .none, .none, .none, .none, .none, .none, .none, .none, .none, .none, .none]), M ++ [false, false, false, false, false, false, false, false, false, false, false, false, false, false, false, false, false, false, false, false, false]), ?_, rfl⟩
                simp only [go_sem, ↓reduceIte, Nat.reduceBEq, Nat.reduceEqDiff, Nat.reduceLT, Nat.reduceLeDiff, Nat.reduceAdd, Nat.reduceMul, Nat.reduceSub, reduceCtorEq, Int.reduceLT, Int.reduceLE, Int.reduceEq, Int.reduceBEq, Int.reduceBNe, Int.reduceToNat, Int.reduceAdd, Int.reduceNeg, Int.reduceSub, ↓tsz106, ↓tbytes106, ↓tagg106, ↓trow106, ↓tint106, ↓tmap106, ↓teq106, ↓tbool106, ↓tref106, ↓tfok106, ↓known106, ↓tzero106, ↓tsz104, ↓tbytes104, ↓tagg104, ↓trow104, ↓tint104, ↓tmap104, ↓teq104, ↓tbool104, ↓tref104, ↓tfok104, ↓known104, ↓tzero104, ↓tfield106, eFc, hL, i1, i2, hnl3, hbx, hbl, hoi, hse, hwi, hsucc]
                skip
            · rintro ⟨i', F, M⟩ hR
              obtain rfl : i' = (costs d 0 k).length := hR
              simp only [go_sem, ↓reduceIte, Nat.reduceBEq, Nat.reduceEqDiff, Nat.reduceLT, Nat.reduceLeDiff, Nat.reduceAdd, Nat.reduceMul, Nat.reduceSub, reduceCtorEq, Int.reduceLT, Int.reduceLE, Int.reduceEq, Int.reduceBEq, Int.reduceBNe, Int.reduceToNat, Int.reduceAdd, Int.reduceNeg, Int.reduceSub, eFc, Int.lt_irrefl]
              skip
            · rintro ⟨i', F, M⟩ hvs hR
              obtain rfl : i' = (costs d 0 k).length := hR
              subst hvs
              refine ⟨(j' + 1, E ++ (.cells [.int .i64 (l' : Int), .bool (((j' / 2 : Nat) : Int) == 1), .bool false] :: F), M), ?_, rfl⟩
              simp only [go_sem, ↓reduceIte, Nat.reduceBEq, Nat.reduceEqDiff, Nat.reduceLT, Nat.reduceLeDiff, Nat.reduceAdd, Nat.reduceMul, Nat.reduceSub, reduceCtorEq, Int.reduceLT, Int.reduceLE, Int.reduceEq, Int.reduceBEq, Int.reduceBNe, Int.reduceToNat, Int.reduceAdd, Int.reduceNeg, Int.reduceSub, eFc, List.take_length, hwj, hon]
              skip
          | false =>
            rw [hcm] at hcom ho1
            rw [if_pos rfl] at ho1
            rw [ho1] at hset
            simp only [go_sem, ↓reduceIte, Nat.reduceBEq, Nat.reduceEqDiff, Nat.reduceLT, Nat.reduceLeDiff, Nat.reduceAdd, Nat.reduceMul, Nat.reduceSub, reduceCtorEq, Int.reduceLT, Int.reduceLE, Int.reduceEq, Int.reduceBEq, Int.reduceBNe, Int.reduceToNat, Int.reduceAdd, Int.reduceNeg, Int.reduceSub, ↓tsz106, ↓tbytes106, ↓tagg106, ↓trow106, ↓tint106, ↓tmap106, ↓teq106, ↓tbool106, ↓tref106, ↓tfok106, ↓known106, ↓tzero106, ↓tsz104, ↓tbytes104, ↓tagg104, ↓trow104, ↓tint104, ↓tmap104, ↓teq104, ↓tbool104, ↓tref104, ↓tfok104, ↓known104, ↓tzero104, ↓tfield106, eFc, hji, t1, t2, w2, hl, hj2, hj3, Nat.mul_one, List.getElem?_drop, Nat.add_zero, eix, hget, hwj, hol2, hsl, hset, hcom]
            generalize hv : (EW tabX).code 104 none (Code.loop _) _ = v
            refine w_rounds_sk hv (fun i s => [(14, .int .i64 (i : Int))]) (fun s : Nat × List ABlk × List Bool => ⟨.cells (Bs x) :: .cells (eFc d) :: .cells (Bs falses) :: .cells (Bs (setAll o1 (((costs d 0 k).take s.1).map (behI (4 * l' + j'))))) :: (E ++ (.cells [.int .i64 (l' : Int), .bool (((j' / 2 : Nat) : Int) == 1), .bool false] :: s.2.1)), s.2.2⟩)
              (fun i s => s.1 = i) (costs d 0 k).length (.exit 4) (fun _ => [(14, .int .i64 ((costs d 0 k).length : Int))]) rfl (0, [], M) ?_ ?_ rfl ?_ ?_ ?_
            · simp only [go_sem, ↓reduceIte, Nat.reduceBEq, Nat.reduceEqDiff, Nat.reduceLT, Nat.reduceLeDiff, Nat.reduceAdd, Nat.reduceMul, Nat.reduceSub, reduceCtorEq, Int.reduceLT, Int.reduceLE, Int.reduceEq, Int.reduceBEq, Int.reduceBNe, Int.reduceToNat, Int.reduceAdd, Int.reduceNeg, Int.reduceSub]
              skip
            · simp only [go_sem, ↓reduceIte, Nat.reduceBEq, Nat.reduceEqDiff, Nat.reduceLT, Nat.reduceLeDiff, Nat.reduceAdd, Nat.reduceMul, Nat.reduceSub, reduceCtorEq, Int.reduceLT, Int.reduceLE, Int.reduceEq, Int.reduceBEq, Int.reduceBNe, Int.reduceToNat, Int.reduceAdd, Int.reduceNeg, Int.reduceSub, eFc, List.take_zero, List.map_nil, setAll, List.foldl_nil, ho1]
            · rintro i ⟨i', F, M⟩ hi hR
              obtain rfl : i' = i := hR
              have hii : (i' : Int) < (costs d 0 k).length := by omega
              have hcx := List.getElem?_eq_getElem hi
              have hcb := hcbd _ (List.getElem_mem hi)
              have hwi : IntKind.i64.wrap ((i' : Int) + 1) = (i' : Int) + 1 := wrap_i64 (by omega)
              have hzz : zT 1 (costs d 0 k).length = 1 := zT_pos hne
              have hbe := cBehind (l' : Int) (((j' / 2 : Nat) : Int) == 1) false ((costs d 0 k)[i']) (by omega) hcb
              have hLE : ∀ F : List ABlk, (E ++ (ABlk.cells [.int .i64 (l' : Int), .bool (((j' / 2 : Nat) : Int) == 1), .bool false] :: F))[E.length]? = some (.cells [.int .i64 (l' : Int), .bool (((j' / 2 : Nat) : Int) == 1), .bool false]) := fun F => by
                rw [List.getElem?_append_right (Nat.le_refl _), Nat.sub_self]; rfl
              have hsucc : setAll o1 (((costs d 0 k).take (i' + 1)).map (behI (4 * l' + j'))) = (setAll o1 (((costs d 0 k).take i').map (behI (4 * l' + j')))).set (behI (4 * l' + j') (costs d 0 k)[i']) true := by
                rw [List.take_add_one, hcx, List.map_append]
                unfold setAll
                rw [List.foldl_append]; rfl
              have hbeh : behI (4 * l' + j') (costs d 0 k)[i'] = if j' / 2 = 1 ∨ (l' : Int) < (costs d 0 k)[i'] then 4 * l' + 2 else 4 * (l' - (costs d 0 k)[i'].toNat) + 1 := by unfold behI; rw [hq1, hq2]
              have hoi : (Bs (setAll o1 (((costs d 0 k).take i').map (behI (4 * l' + j'))))).length = 1204 := by rw [Bs_len, setAll_len, hol1]
              generalize setAll o1 (((costs d 0 k).take i').map (behI (4 * l' + j'))) = oi at *
              generalize (costs d 0 k)[i'] = c at *
              simp only [eS3] at hbe
              have ebq : (((j' / 2 : Nat) : Int) == 1) = true ↔ j' / 2 = 1 := by rw [beq_iff_eq]; omega
              by_cases hcond : j' / 2 = 1 ∨ (l' : Int) < c
              · rw [if_pos hcond] at hbeh
                have hcond2 : (((j' / 2 : Nat) : Int) == 1) = true ∨ (l' : Int) < c := hcond.imp_left ebq.2
                simp only [if_pos hcond2] at hbe
                have i1 := cIndex true
                have i2 := cIndex false
                simp only [go_sem, ↓reduceIte, Nat.reduceBEq, Nat.reduceEqDiff, Nat.reduceLT, Nat.reduceLeDiff, Nat.reduceAdd, Nat.reduceMul, Nat.reduceSub, reduceCtorEq, Int.reduceLT, Int.reduceLE, Int.reduceEq, Int.reduceBEq, Int.reduceBNe, Int.reduceToNat, Int.reduceAdd, Int.reduceNeg, Int.reduceSub, ↓tsz106, ↓tbytes106, ↓tagg106, ↓trow106, ↓tint106, ↓tmap106, ↓teq106, ↓tbool106, ↓tref106, ↓tfok106, ↓known106, ↓tzero106, ↓tsz104, ↓tbytes104, ↓tagg104, ↓trow104, ↓tint104, ↓tmap104, ↓teq104, ↓tbool104, ↓tref104, ↓tfok104, ↓known104, ↓tzero104, ↓tfield106, eFc, hii, hcx, hzz, hLE, hbe]
                generalize hcf : okFam _ _ _ = cf
                obtain rfl : cf = true := by rw [← hcf]; kernel_rfl
                have hL : ∀ (a0 a1 a2 a3 b v : ABlk) (R : List ABlk), (a0 :: a1 :: a2 :: a3 :: (E ++ b :: (F ++ (ABlk.none :: v :: R))))[E.length + (F.length + 6)]? = some v := fun a0 a1 a2 a3 b v R => by
                  rw [show E.length + (F.length + 6) = (E.length + (F.length + 2)) + 1 + 1 + 1 + 1 by omega]
                  simp only [List.getElem?_cons_succ]
                  rw [List.getElem?_append_right (by omega), show E.length + (F.length + 2) - E.length = (F.length + 1) + 1 by omega, List.getElem?_cons_succ, List.getElem?_append_right (by omega), show F.length + 1 - F.length = 1 by omega]; rfl
                have hS : ∀ (a0 a1 a2 a3 b v u : ABlk) (R : List ABlk), (a0 :: a1 :: a2 :: a3 :: (E ++ b :: (F ++ (ABlk.none :: v :: R)))).set (E.length + (F.length + 6)) u = a0 :: a1 :: a2 :: a3 :: (E ++ b :: (F ++ (ABlk.none :: u :: R))) := fun a0 a1 a2 a3 b v u R => by
                  rw [show E.length + (F.length + 6) = (E.length + (F.length + 2)) + 1 + 1 + 1 + 1 by omega]
                  simp only [List.set_cons_succ]
                  rw [List.set_append_right _ _ (by omega), show E.length + (F.length + 2) - E.length = (F.length + 1) + 1 by omega, List.set_cons_succ, List.set_append_right _ _ (by omega), show F.length + 1 - F.length = 1 by omega]; rfl
                simp only [go_sem, ↓reduceIte, Nat.reduceBEq, Nat.reduceEqDiff, Nat.reduceLT, Nat.reduceLeDiff, Nat.reduceAdd, Nat.reduceMul, Nat.reduceSub, reduceCtorEq, Int.reduceLT, Int.reduceLE, Int.reduceEq, Int.reduceBEq, Int.reduceBNe, Int.reduceToNat, Int.reduceAdd, Int.reduceNeg, Int.reduceSub, ↓tsz106, ↓tbytes106, ↓tagg106, ↓trow106, ↓tint106, ↓tmap106, ↓teq106, ↓tbool106, ↓tref106, ↓tfok106, ↓known106, ↓tzero106, ↓tsz104, ↓tbytes104, ↓tagg104, ↓trow104, ↓tint104, ↓tmap104, ↓teq104, ↓tbool104, ↓tref104, ↓tfok104, ↓known104, ↓tzero104, ↓tfield106, eFc, hii, hcx, hzz, hLE, hbe, List.size_toArray, Nat.add_lt_add_iff_left, Nat.add_assoc, hL, hS]
                generalize hcf : drawT _ _ _ = cf
                obtain rfl : cf = true := by rw [← hcf]; kernel_rfl
                have hbx : l' * 4 + 2 = behI (4 * l' + j') c := by rw [hbeh]; omega
                have hbl : behI (4 * l' + j') c ≤ 1203 := by rw [hbeh]; omega
                have hse := Bs_set oi (behI (4 * l' + j') c) true
                refine ⟨(i' + 1, F ++ (.none :: (.cells [.int .i64 (l' : Int), .bool true, .bool false]) :: [.none, .none, .none, .none, .none, .none, .none, .none, .none, .none, .none, .none, .none, .none, .none, .none, .none, .none, .none]), M ++ [false, false, false, false, false, false, false, false, false, false, false, false, false, false, false, false, false, false, false, false, false]), ?_, rfl⟩
                simp only [go_sem, ↓reduceIte, Nat.reduceBEq, Nat.reduceEqDiff, Nat.reduceLT, Nat.reduceLeDiff, Nat.reduceAdd, Nat.reduceMul, Nat.reduceSub, reduceCtorEq, Int.reduceLT, Int.reduceLE, Int.reduceEq, Int.reduceBEq, Int.reduceBNe, Int.reduceToNat, Int.reduceAdd, Int.reduceNeg, Int.reduceSub, ↓tsz106, ↓tbytes106, ↓tagg106, ↓trow106, ↓tint106, ↓tmap106, ↓teq106, ↓tbool106, ↓tref106, ↓tfok106, ↓known106, ↓tzero106, ↓tsz104, ↓tbytes104, ↓tagg104, ↓trow104, ↓tint104, ↓tmap104, ↓teq104, ↓tbool104, ↓tref104, ↓tfok104, ↓known104, ↓tzero104, ↓tfield106, eFc, hL, i1, i2, hl, hbx, hbl, hoi, hse, hwi, hsucc]
                skip
              · rw [if_neg hcond] at hbeh
                have hcond2 : ¬ ((((j' / 2 : Nat) : Int) == 1) = true ∨ (l' : Int) < c) := fun h => hcond (h.imp_left ebq.1)
                simp only [if_neg hcond2] at hbe
                obtain ⟨nl, hnl⟩ := Int.eq_ofNat_of_zero_le (show 0 ≤ (l' : Int) - c by omega)
                have hnl2 : nl = l' - c.toNat := by omega
                have hnl3 : nl < 301 := by omega
                rw [hnl] at hbe
                have i1 := cIndex true
                have i2 := cIndex false
                simp only [go_sem, ↓reduceIte, Nat.reduceBEq, Nat.reduceEqDiff, Nat.reduceLT, Nat.reduceLeDiff, Nat.reduceAdd, Nat.reduceMul, Nat.reduceSub, reduceCtorEq, Int.reduceLT, Int.reduceLE, Int.reduceEq, Int.reduceBEq, Int.reduceBNe, Int.reduceToNat, Int.reduceAdd, Int.reduceNeg, Int.reduceSub, ↓tsz106, ↓tbytes106, ↓tagg106, ↓trow106, ↓tint106, ↓tmap106, ↓teq106, ↓tbool106, ↓tref106, ↓tfok106, ↓known106, ↓tzero106, ↓tsz104, ↓tbytes104, ↓tagg104, ↓trow104, ↓tint104, ↓tmap104, ↓teq104, ↓tbool104, ↓tref104, ↓tfok104, ↓known104, ↓tzero104, ↓tfield106, eFc, hii, hcx, hzz, hLE, hbe]
                generalize hcf : okFam _ _ _ = cf
                obtain rfl : cf = true := by rw [← hcf]; kernel_rfl
                have hL : ∀ (a0 a1 a2 a3 b v : ABlk) (R : List ABlk), (a0 :: a1 :: a2 :: a3 :: (E ++ b :: (F ++ (ABlk.none :: v :: R))))[E.length + (F.length + 6)]? = some v := fun a0 a1 a2 a3 b v R => by
                  rw [show E.length + (F.length + 6) = (E.length + (F.length + 2)) + 1 + 1 + 1 + 1 by omega]
                  simp only [List.getElem?_cons_succ]
                  rw [List.getElem?_append_right (by omega), show E.length + (F.length + 2) - E.length = (F.length + 1) + 1 by omega, List.getElem?_cons_succ, List.getElem?_append_right (by omega), show F.length + 1 - F.length = 1 by omega]; rfl
                have hS : ∀ (a0 a1 a2 a3 b v u : ABlk) (R : List ABlk), (a0 :: a1 :: a2 :: a3 :: (E ++ b :: (F ++ (ABlk.none :: v :: R)))).set (E.length + (F.length + 6)) u = a0 :: a1 :: a2 :: a3 :: (E ++ b :: (F ++ (ABlk.none :: u :: R))) := fun a0 a1 a2 a3 b v u R => by
                  rw [show E.length + (F.length + 6) = (E.length + (F.length + 2)) + 1 + 1 + 1 + 1 by omega]
                  simp only [List.set_cons_succ]
                  rw [List.set_append_right _ _ (by omega), show E.length + (F.length + 2) - E.length = (F.length + 1) + 1 by omega, List.set_cons_succ, List.set_append_right _ _ (by omega), show F.length + 1 - F.length = 1 by omega]; rfl
                simp only [go_sem, ↓reduceIte, Nat.reduceBEq, Nat.reduceEqDiff, Nat.reduceLT, Nat.reduceLeDiff, Nat.reduceAdd, Nat.reduceMul, Nat.reduceSub, reduceCtorEq, Int.reduceLT, Int.reduceLE, Int.reduceEq, Int.reduceBEq, Int.reduceBNe, Int.reduceToNat, Int.reduceAdd, Int.reduceNeg, Int.reduceSub, ↓tsz106, ↓tbytes106, ↓tagg106, ↓trow106, ↓tint106, ↓tmap106, ↓teq106, ↓tbool106, ↓tref106, ↓tfok106, ↓known106, ↓tzero106, ↓tsz104, ↓tbytes104, ↓tagg104, ↓trow104, ↓tint104, ↓tmap104, ↓teq104, ↓tbool104, ↓tref104, ↓tfok104, ↓known104, ↓tzero104, ↓tfield106, eFc, hii, hcx, hzz, hLE, hbe, List.size_toArray, Nat.add_lt_add_iff_left, Nat.add_assoc, hL, hS]
                generalize hcf : drawT _ _ _ = cf
                obtain rfl : cf = true := by rw [← hcf]; kernel_rfl
                have hbx : nl * 4 + 1 = behI (4 * l' + j') c := by rw [hbeh, hnl2]; omega
                have hbl : behI (4 * l' + j') c ≤ 1203 := by rw [hbeh]; omega
                have hse := Bs_set oi (behI (4 * l' + j') c) true
                refine ⟨(i' + 1, F ++ (.none :: (.cells [.int .i64 (nl : Int), .bool false, .bool true]) :: [.none, .none, .none, .none, .none, .none, .none, .none, .none, .none, .none, .none, .none, .none, .none, .none, .none, .none, .none]), M ++ [false, false, false, false, false, false, false, false, false, false, false, false, false, false, false, false, false, false, false, false, false]), ?_, rfl⟩
                simp only [go_sem, ↓reduceIte, Nat.reduceBEq, Nat.reduceEqDiff, Nat.reduceLT, Nat.reduceLeDiff, Nat.reduceAdd, Nat.reduceMul, Nat.reduceSub, reduceCtorEq, Int.reduceLT, Int.reduceLE, Int.reduceEq, Int.reduceBEq, Int.reduceBNe, Int.reduceToNat, Int.reduceAdd, Int.reduceNeg, Int.reduceSub, ↓tsz106, ↓tbytes106, ↓tagg106, ↓trow106, ↓tint106, ↓tmap106, ↓teq106, ↓tbool106, ↓tref106, ↓tfok106, ↓known106, ↓tzero106, ↓tsz104, ↓tbytes104, ↓tagg104, ↓trow104, ↓tint104, ↓tmap104, ↓teq104, ↓tbool104, ↓tref104, ↓tfok104, ↓known104, ↓tzero104, ↓tfield106, eFc, hL, i1, i2, hnl3, hbx, hbl, hoi, hse, hwi, hsucc]
                skip
            · rintro ⟨i', F, M⟩ hR
              obtain rfl : i' = (costs d 0 k).length := hR
              simp only [go_sem, ↓reduceIte, Nat.reduceBEq, Nat.reduceEqDiff, Nat.reduceLT, Nat.reduceLeDiff, Nat.reduceAdd, Nat.reduceMul, Nat.reduceSub, reduceCtorEq, Int.reduceLT, Int.reduceLE, Int.reduceEq, Int.reduceBEq, Int.reduceBNe, Int.reduceToNat, Int.reduceAdd, Int.reduceNeg, Int.reduceSub, eFc, Int.lt_irrefl]
              skip
            · rintro ⟨i', F, M⟩ hvs hR
              obtain rfl : i' = (costs d 0 k).length := hR
              subst hvs
              refine ⟨(j' + 1, E ++ (.cells [.int .i64 (l' : Int), .bool (((j' / 2 : Nat) : Int) == 1), .bool false] :: F), M), ?_, rfl⟩
              simp only [go_sem, ↓reduceIte, Nat.reduceBEq, Nat.reduceEqDiff, Nat.reduceLT, Nat.reduceLeDiff, Nat.reduceAdd, Nat.reduceMul, Nat.reduceSub, reduceCtorEq, Int.reduceLT, Int.reduceLE, Int.reduceEq, Int.reduceBEq, Int.reduceBNe, Int.reduceToNat, Int.reduceAdd, Int.reduceNeg, Int.reduceSub, eFc, List.take_length, hwj, hon]
              skip
    · rintro ⟨j', E, M⟩ hR
      simp only [go_sem, ↓reduceIte, Nat.reduceBEq, Nat.reduceEqDiff, Nat.reduceLT, Nat.reduceLeDiff, Nat.reduceAdd, Nat.reduceMul, Nat.reduceSub, reduceCtorEq, Int.reduceLT, Int.reduceLE, Int.reduceEq, Int.reduceBEq, Int.reduceBNe, Int.reduceToNat, Int.reduceAdd, Int.reduceNeg, Int.reduceSub]
    · rintro ⟨j', E, M⟩ hzs hR
      obtain rfl : j' = 4 := hR
      subst hzs
      refine ⟨(l' + 1, E, M), ?_, rfl⟩
      have e1 : 4 * (l' + 1) = 4 * l' + 4 := by omega
      simp only [go_sem, ↓reduceIte, Nat.reduceBEq, Nat.reduceEqDiff, Nat.reduceLT, Nat.reduceLeDiff, Nat.reduceAdd, Nat.reduceMul, Nat.reduceSub, reduceCtorEq, Int.reduceLT, Int.reduceLE, Int.reduceEq, Int.reduceBEq, Int.reduceBNe, Int.reduceToNat, Int.reduceAdd, Int.reduceNeg, Int.reduceSub, eFc, hwl, e1]
      skip
  · rintro ⟨l', E, M⟩ hR
    simp only [go_sem, ↓reduceIte, Nat.reduceBEq, Nat.reduceEqDiff, Nat.reduceLT, Nat.reduceLeDiff, Nat.reduceAdd, Nat.reduceMul, Nat.reduceSub, reduceCtorEq, Int.reduceLT, Int.reduceLE, Int.reduceEq, Int.reduceBEq, Int.reduceBNe, Int.reduceToNat, Int.reduceAdd, Int.reduceNeg, Int.reduceSub]
  · rintro ⟨l', E, M⟩ hys hR
    obtain rfl : l' = 301 := hR
    subst hys
    have hol := ofTo_len d k w x 1204
    have hol2 : (Bs (ofTo d k w x 1204)).length = 1204 := by rw [Bs_len, hol]
    have htk := Bs_take hol
    have hfl : (Bs falses).length = 1204 := by rw [Bs_len, falses_len]
    have hsp : splice (Bs falses) 0 (Bs (ofTo d k w x 1204)) = Bs (ofTo d k w x 1204) := splice_full (by rw [hfl, hol2])
    have g1 := Bs_clean (ofTo d k w x 1204)
    have g2 := fun n => Bs_under n (ofTo d k w x 1204)
    have g3 := Bs_one (ofTo d k w x 1204)
    have g4 := Bs_var (ofTo d k w x 1204)
    generalize Bs (ofTo d k w x 1204) = r at *
    simp only [go_sem, ↓reduceIte, Nat.reduceBEq, Nat.reduceEqDiff, Nat.reduceLT, Nat.reduceLeDiff, Nat.reduceAdd, Nat.reduceMul, Nat.reduceSub, reduceCtorEq, Int.reduceLT, Int.reduceLE, Int.reduceEq, Int.reduceBEq, Int.reduceBNe, Int.reduceToNat, Int.reduceAdd, Int.reduceNeg, Int.reduceSub, ↓tsz106, ↓tbytes106, ↓tagg106, ↓trow106, ↓tint106, ↓tmap106, ↓teq106, ↓tbool106, ↓tref106, ↓tfok106, ↓known106, ↓tzero106, ↓tsz104, ↓tbytes104, ↓tagg104, ↓trow104, ↓tint104, ↓tmap104, ↓teq104, ↓tbool104, ↓tref104, ↓tfok104, ↓known104, ↓tzero104, ↓tfield106, eFc, hol2, htk, hfl, hsp, g1, g2, g3, g4]
    skip
end Go.Proofs.YthkpjbgadkkeeaaGreat
