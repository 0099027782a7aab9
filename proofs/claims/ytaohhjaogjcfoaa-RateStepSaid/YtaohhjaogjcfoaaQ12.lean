/- What an agent has paid in all, by the program. Conditions: those of each law. -/
import Derived.Test.YtaohhjaogjcfoaaQ11
set_option linter.unusedSimpArgs false
set_option linter.unusedVariables false
namespace Go.Proofs.Ytaohhjaogjcfoaa
open Go.Proofs

theorem c77 (d : Ho) (hd : d.fits) (ho : d.Ok) (but : Int) {r m : Nat} {P : List ABlk} (hP : HAt d but r m P) (who : Int) (tr : List Int) (hr : tr.length = d.rates.length ∧ ∀ n ∈ tr, 1 ≤ n ∧ n ≤ 20)
    (b1 b2 b3 : Nat) (h1 : ∀ x X, (P.set m x ++ X)[b1]? = some (.cells (eHc d))) (h2 : ∀ x X, (P.set m x ++ X)[b2]? = some (.cells [.int .i64 who])) (h3 : ∀ x X, (P.set m x ++ X)[b3]? = some (.cells [.ref r 0]))
    (X : List ABlk) (t : List Bool) (es : List (Key × Int)) (hk : KOk d es) :
    ∃ es' F, KOk d es' ∧ (EW tabX).call 77 [.agg (I (arrOf tr)), .ref b1 0, .ref b2 0, .ref b3 0] ⟨PM P m es ++ X, t⟩ = some (.int .i64 (sumAll d who tr), ⟨PM P m es' ++ X, t ++ F⟩) := by
  have he5 := ho.e5
  have hrd := ho.rd
  have hd3 := ho.d3
  have hal := arrOf_len (t := tr) (by omega)
  have hay := fun (j : Nat) (hj : j < tr.length) => arrOf_get (t := tr) hj
  generalize arrOf tr = R at hal hay
  obtain ⟨x0, x1, x2, rfl⟩ := list3 hal
  simp only [eHc] at h1
  rw [w_call _ fn_77 rfl]
  simp only [go_sem, ↓reduceIte, Nat.reduceBEq, Nat.reduceEqDiff, Nat.reduceLT, Nat.reduceLeDiff, Nat.reduceAdd, Nat.reduceMul, Nat.reduceSub, reduceCtorEq, Int.reduceLT, Int.reduceLE, Int.reduceEq, Int.reduceBEq, Int.reduceBNe, Int.reduceToNat, Int.reduceAdd, Int.reduceNeg, Int.reduceSub, h1]
  generalize hx : (EW tabX).code 77 none (Code.loop _) _ = x
  refine w_rounds_sk hx (fun k (s : List (Key × Int) × List ABlk × List Bool) => [(5, .int .i64 (sumTo d who tr k)), (11, .int .i64 k)]) (fun s => ⟨PM P m s.1 ++ (X ++ (.cells (I [x0, x1, x2]) :: s.2.1)), t ++ s.2.2⟩) (fun k s => KOk d s.1) d.entries.length (.exit 0) (fun s => [(5, .int .i64 (sumTo d who tr d.entries.length)), (11, .int .i64 d.entries.length)]) rfl (es, [], []) ?_ ?_ hk ?_ ?_ ?_
  · simp only [go_sem, ↓reduceIte, Nat.reduceBEq, Nat.reduceEqDiff, Nat.reduceLT, Nat.reduceLeDiff, Nat.reduceAdd, Nat.reduceMul, Nat.reduceSub, reduceCtorEq, Int.reduceLT, Int.reduceLE, Int.reduceEq, Int.reduceBEq, Int.reduceBNe, Int.reduceToNat, Int.reduceAdd, Int.reduceNeg, Int.reduceSub, sumTo]
  · simp only [go_sem, ↓reduceIte, Nat.reduceBEq, Nat.reduceEqDiff, Nat.reduceLT, Nat.reduceLeDiff, Nat.reduceAdd, Nat.reduceMul, Nat.reduceSub, reduceCtorEq, Int.reduceLT, Int.reduceLE, Int.reduceEq, Int.reduceBEq, Int.reduceBNe, Int.reduceToNat, Int.reduceAdd, Int.reduceNeg, Int.reduceSub]
  · intro k s hk hR
    obtain ⟨es1, J, F⟩ := s
    have hR : KOk d es1 := hR
    have hx := List.getElem?_eq_getElem hk
    have hki : (k : Int) < d.entries.length := by omega
    have hz := hd.ze (by intro e; rw [e] at hk; simp at hk)
    have hbd := sumTo_bd ho who hr k (by omega)
    obtain ⟨i, j, a, v, hi, hj, ga, gr, e, b, _⟩ := pay_at ho (List.getElem_mem hk) hr
    have hst : sumTo d who tr (k + 1) = sumTo d who tr k + if d.entries[k].agent = who then payAt d who d.entries[k].day d.entries[k].near tr else 0 := by rw [← en0_at d hk]; rfl
    have hvj : [x0, x1, x2][d.entries[k].day.toNat]? = some v := by
      have hjl : j < tr.length := (List.getElem?_eq_some_iff.1 gr).1
      rw [hj, cast_toNat, hay j hjl]
      congr 1
      have := (List.getElem?_eq_some_iff.1 gr).2
      simp [hjl, this]
    have hvb : 1 ≤ v ∧ v ≤ 20 := hr.2 v (List.mem_of_getElem? gr)
    obtain ⟨es2, F2, k1, k2⟩ := c78x d hd ho but hP d.entries[k] (List.getElem_mem hk) [x0, x1, x2] rfl v hvj (by omega) (X ++ (.cells (I [x0, x1, x2]) :: (J ++ [bEn d.entries[k]]))) (t ++ F) es1 hR
    have e2 : d.ag0 d.entries[k].agent = a := by
      rw [hi]; simp only [Ho.ag0, cast_toNat]
      have := ga
      simp [ga]
    rw [e2] at k2
    by_cases hw : d.entries[k].agent = who
    · rw [if_pos hw] at hst
      rw [hw] at e
      rw [e] at hst
      refine ⟨(es2, J ++ [bEn d.entries[k]], F ++ F2), ?_, k1⟩
      rw [hst]
      have hw3 : who = (i : Int) := by omega
      subst hw3
      simp only [go_sem, ↓reduceIte, Nat.reduceBEq, Nat.reduceEqDiff, Nat.reduceLT, Nat.reduceLeDiff, Nat.reduceAdd, Nat.reduceMul, Nat.reduceSub, reduceCtorEq, Int.reduceLT, Int.reduceLE, Int.reduceEq, Int.reduceBEq, Int.reduceBNe, Int.reduceToNat, Int.reduceAdd, Int.reduceNeg, Int.reduceSub, eEn, bEn, I_c, I_nil, hi] at k2
      simp (disch := omega) only [go_sem, ↓reduceIte, Nat.reduceBEq, Nat.reduceEqDiff, Nat.reduceLT, Nat.reduceLeDiff, Nat.reduceAdd, Nat.reduceMul, Nat.reduceSub, reduceCtorEq, Int.reduceLT, Int.reduceLE, Int.reduceEq, Int.reduceBEq, Int.reduceBNe, Int.reduceToNat, Int.reduceAdd, Int.reduceNeg, Int.reduceSub, h1, h2, h3, hki, hx, eEn, bEn, hz, hi, k2, wrap_i64, I_c, I_nil]
    · rw [if_neg hw] at hst
      have hw2 : (d.entries[k].agent == who) = false := by simpa using hw
      refine ⟨(es1, J ++ [bEn d.entries[k]], F), ?_, hR⟩
      rw [hst]
      simp (disch := omega) only [go_sem, ↓reduceIte, Nat.reduceBEq, Nat.reduceEqDiff, Nat.reduceLT, Nat.reduceLeDiff, Nat.reduceAdd, Nat.reduceMul, Nat.reduceSub, reduceCtorEq, Int.reduceLT, Int.reduceLE, Int.reduceEq, Int.reduceBEq, Int.reduceBNe, Int.reduceToNat, Int.reduceAdd, Int.reduceNeg, Int.reduceSub, h1, h2, h3, hki, hx, eEn, bEn, hz, hw2, wrap_i64, Int.add_zero, I_c, I_nil]
  · intro s hR
    simp only [go_sem, ↓reduceIte, Nat.reduceBEq, Nat.reduceEqDiff, Nat.reduceLT, Nat.reduceLeDiff, Nat.reduceAdd, Nat.reduceMul, Nat.reduceSub, reduceCtorEq, Int.reduceLT, Int.reduceLE, Int.reduceEq, Int.reduceBEq, Int.reduceBNe, Int.reduceToNat, Int.reduceAdd, Int.reduceNeg, Int.reduceSub, Int.lt_irrefl]
  · intro s e0 hR
    subst e0
    obtain ⟨es', J, F⟩ := s
    refine ⟨es', F, hR, ?_⟩
    simp only [go_sem, ↓reduceIte, Nat.reduceBEq, Nat.reduceEqDiff, Nat.reduceLT, Nat.reduceLeDiff, Nat.reduceAdd, Nat.reduceMul, Nat.reduceSub, reduceCtorEq, Int.reduceLT, Int.reduceLE, Int.reduceEq, Int.reduceBEq, Int.reduceBNe, Int.reduceToNat, Int.reduceAdd, Int.reduceNeg, Int.reduceSub, sumAll]
def H26 (d : Ho) (who : Int) (z : ABlk) : List ABlk := [.cells (eHc d), .cells [.int .i64 who], .cells [.int .i64 0, .int .i64 0], .none, .none, z, .none, .none, .none, .none, .none, .none, .none, .none, .none, .none, .none, .cells [.lst 1 1 [.int .i64 who, .int .i64 d.agents.length]]]
theorem c26 (d : Ho) (hd : d.fits) (who : Int) (h : Heap) : callPure (EW tabX) 26 [eH d, .int .i64 who] h = some (vS (paidV d who), h) := by
  have hcl := eH_clean d
  have hla := hd.la
  have h67 := c67 [who, d.agents.length] 1 1 (List.take 17 (H26 d who .none)) (List.replicate 14 false)
  obtain ⟨hno, hyes⟩ := c62 d hd 0 (by omega) (pairsE [who, d.agents.length] 1) (.clo 98 [] [.ref 17 0]) (H26 d who .none) (List.replicate 14 false) (fun hc => by
    have ho := ok_of_E hc
    have := c98 [who, d.agents.length] 1 rfl (by omega) (fun k hk => by
      obtain rfl : k = 0 := by omega
      have := ho.a3
      show -_ ≤ (d.agents.length : Int) ∧ (d.agents.length : Int) ≤ _
      omega) 1 17 (H26 d who .none ++ [.cells (eHc d)]) (List.replicate 14 false) rfl
    simp only [go_sem, ↓reduceIte, Nat.reduceBEq, Nat.reduceEqDiff, Nat.reduceLT, Nat.reduceLeDiff, Nat.reduceAdd, Nat.reduceMul, Nat.reduceSub, reduceCtorEq, Int.reduceLT, Int.reduceLE, Int.reduceEq, Int.reduceBEq, Int.reduceBNe, Int.reduceToNat, Int.reduceAdd, Int.reduceNeg, Int.reduceSub] at this ⊢
    exact this)
  rw [enter_index] at hno hyes
  rw [callPure_eq, w_call _ fn_26 rfl]
  unfold paidV
  by_cases h0 : knownE d (indexE d who d.agents.length) = 0
  rotate_left
  · rw [if_neg h0]
    obtain ⟨F, hc⟩ := hno h0
    have hne : (knownE d (indexE d who d.agents.length) != 0) = true := by simpa using h0
    simp only [go_sem, ↓reduceIte, Nat.reduceBEq, Nat.reduceEqDiff, Nat.reduceLT, Nat.reduceLeDiff, Nat.reduceAdd, Nat.reduceMul, Nat.reduceSub, reduceCtorEq, Int.reduceLT, Int.reduceLE, Int.reduceEq, Int.reduceBEq, Int.reduceBNe, Int.reduceToNat, Int.reduceAdd, Int.reduceNeg, Int.reduceSub, eH, eHc, H26, I_c, I_nil] at hc h67
    simp only [go_sem, ↓reduceIte, Nat.reduceBEq, Nat.reduceEqDiff, Nat.reduceLT, Nat.reduceLeDiff, Nat.reduceAdd, Nat.reduceMul, Nat.reduceSub, reduceCtorEq, Int.reduceLT, Int.reduceLE, Int.reduceEq, Int.reduceBEq, Int.reduceBNe, Int.reduceToNat, Int.reduceAdd, Int.reduceNeg, Int.reduceSub, eH, eHc, List.size_toArray, h67, hc]
    generalize hcf : okFam _ _ _ = cf
    obtain rfl : cf = true := by rw [← hcf]; kernel_rfl
    simp only [go_sem, ↓reduceIte, Nat.reduceBEq, Nat.reduceEqDiff, Nat.reduceLT, Nat.reduceLeDiff, Nat.reduceAdd, Nat.reduceMul, Nat.reduceSub, reduceCtorEq, Int.reduceLT, Int.reduceLE, Int.reduceEq, Int.reduceBEq, Int.reduceBNe, Int.reduceToNat, Int.reduceAdd, Int.reduceNeg, Int.reduceSub, hne, vS, eSp]
  · rw [if_pos h0]
    obtain ⟨es, F, hke, hc⟩ := hyes h0
    obtain ⟨k1, k2⟩ := knownE_zero h0
    obtain ⟨k3, k4, k5⟩ := indexE_zero k1
    have ho := ok_of_E k3
    have hrd := ho.rd
    have hP : HAt d (0 : Nat) 21 20 (HE d 0 (H26 d who (.cells [.ref 21 0]))) := HE_at d 0 (H26 d who (.cells [.ref 21 0]))
    obtain ⟨es', F', x1, x2⟩ := c68 hd ho (but := 0) (by omega) 21 20 (HE d 0 (H26 d who (.cells [.ref 21 0]))) hP 77 [] [.ref 0 0, .ref 1 0, .ref 5 0] rfl rfl (sumAll d who)
      (fun t es X tb ht hv hk => by
        obtain ⟨es', F, y1, y2⟩ := c77 d hd ho (0 : Nat) hP who t ⟨ht, hv⟩ 0 1 5 (fun x X => rfl) (fun x X => rfl) (fun x X => rfl) X tb es hk
        refine ⟨es', F, y1, ?_⟩
        simp only [go_sem, ↓reduceIte, Nat.reduceBEq, Nat.reduceEqDiff, Nat.reduceLT, Nat.reduceLeDiff, Nat.reduceAdd, Nat.reduceMul, Nat.reduceSub, reduceCtorEq, Int.reduceLT, Int.reduceLE, Int.reduceEq, Int.reduceBEq, Int.reduceBNe, Int.reduceToNat, Int.reduceAdd, Int.reduceNeg, Int.reduceSub] at y2 ⊢
        exact y2) es hke (List.replicate 14 false ++ F)
    have hdfs : dfs d 0 d.rates.length [] = truthsL d [] := by rw [dfs_all ho, bitsL_zero]
    rw [hdfs] at x2
    simp only [go_sem, ↓reduceIte, Nat.reduceBEq, Nat.reduceEqDiff, Nat.reduceLT, Nat.reduceLeDiff, Nat.reduceAdd, Nat.reduceMul, Nat.reduceSub, reduceCtorEq, Int.reduceLT, Int.reduceLE, Int.reduceEq, Int.reduceBEq, Int.reduceBNe, Int.reduceToNat, Int.reduceAdd, Int.reduceNeg, Int.reduceSub, eH, eHc, eHs, HE, H26, I_c, I_nil] at hc h67 x2
    simp only [go_sem, ↓reduceIte, Nat.reduceBEq, Nat.reduceEqDiff, Nat.reduceLT, Nat.reduceLeDiff, Nat.reduceAdd, Nat.reduceMul, Nat.reduceSub, reduceCtorEq, Int.reduceLT, Int.reduceLE, Int.reduceEq, Int.reduceBEq, Int.reduceBNe, Int.reduceToNat, Int.reduceAdd, Int.reduceNeg, Int.reduceSub, eH, eHc, List.size_toArray, h67, hc]
    generalize hcf : okFam _ _ _ = cf
    obtain rfl : cf = true := by rw [← hcf]; kernel_rfl
    simp only [go_sem, ↓reduceIte, Nat.reduceBEq, Nat.reduceEqDiff, Nat.reduceLT, Nat.reduceLeDiff, Nat.reduceAdd, Nat.reduceMul, Nat.reduceSub, reduceCtorEq, Int.reduceLT, Int.reduceLE, Int.reduceEq, Int.reduceBEq, Int.reduceBNe, Int.reduceToNat, Int.reduceAdd, Int.reduceNeg, Int.reduceSub, x2, vS, eSp]
    skip
end Go.Proofs.Ytaohhjaogjcfoaa
