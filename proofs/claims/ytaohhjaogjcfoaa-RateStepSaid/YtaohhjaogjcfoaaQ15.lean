/- What to send, by the program. Conditions: those of each law. -/
import Derived.Test.YtaohhjaogjcfoaaQ14
set_option linter.unusedSimpArgs false
set_option linter.unusedVariables false
namespace Go.Proofs.Ytaohhjaogjcfoaa
open Go.Proofs

theorem payN_le {a : Ag} (near : Int) {r s : Int} (h : r ≤ s) : payN a near r ≤ payN a near s := by
  unfold payN
  exact Int.mul_le_mul_of_nonneg_left h (by split <;> omega)
theorem payR_le {a : Ag} (near : Int) {r s : Int} (h : r ≤ s) : payR a near r ≤ payR a near s := by
  have := payN_le (a := a) near h
  unfold payR
  split
  · omega
  · split <;> omega
theorem joinS_mono {g : Int → Int} (hg : ∀ x y, x ≤ y → g x ≤ g y) (u v x : Int) (w : Int) : (joinS (g u, w) (g x)).1 = g (joinS (u, v) x).1 := by
  unfold joinS
  simp only
  by_cases h : x < u
  · rw [if_pos h]
    have := hg x u (by omega)
    split
    · rfl
    · omega
  · rw [if_neg h]
    have := hg u x (by omega)
    rw [if_neg (by omega)]
theorem fold_mono {g : Int → Int} (hg : ∀ x y, x ≤ y → g x ≤ g y) (f : List Int → Int) : ∀ (l : List (List Int)) (s s' : Int × Int), s'.1 = g s.1 → (l.foldl (fun s r => joinS s (g (f r))) s').1 = g (l.foldl (fun s r => joinS s (f r)) s).1
  | [], s, s', h => h
  | t :: l, s, s', h => by
    rw [List.foldl_cons, List.foldl_cons]
    refine fold_mono hg f l _ _ ?_
    have := joinS_mono hg s.1 s.2 (f t) s'.2
    rw [← h] at this
    exact this
theorem low_pay {d : Ho} (hne : truthsL d [] ≠ []) (w day near : Int) : lowP d w day near = payR (d.ag0 w) near (foldS (fun r => r.getD day.toNat 0) (truthsL d [])).1 := by
  unfold lowP payAt foldS
  cases h : truthsL d [] with
  | nil => exact absurd h hne
  | cons t ts => exact fold_mono (g := fun n => payR (d.ag0 w) near n) (fun x y hxy => payR_le near hxy) (fun r => r.getD day.toNat 0) ts _ _ rfl
theorem fold_low {f : List Int → Int} {m : Int} : ∀ (l : List (List Int)) (s : Int × Int), m ≤ s.1 → (∀ r ∈ l, m ≤ f r) → m ≤ (l.foldl (fun s r => joinS s (f r)) s).1 ∧ (l.foldl (fun s r => joinS s (f r)) s).1 ≤ s.1
  | [], s, h, _ => ⟨h, Int.le_refl _⟩
  | t :: l, s, h, hm => by
    rw [List.foldl_cons]
    have h1 : m ≤ (joinS s (f t)).1 ∧ (joinS s (f t)).1 ≤ s.1 := by
      have := hm t (by simp)
      unfold joinS; simp only; split <;> omega
    have := fold_low l (joinS s (f t)) h1.1 (fun r hr => hm r (by simp [hr]))
    omega
theorem low_bd {d : Ho} (ho : d.Ok) (hne : truthsL d [] ≠ []) {j : Nat} (hj : j < d.rates.length) : 1 ≤ (foldS (fun r => r.getD j 0) (truthsL d [])).1 ∧ (foldS (fun r => r.getD j 0) (truthsL d [])).1 ≤ 20 := by
  obtain ⟨t, ts, ht, hm⟩ := truths_cons ho hne
  rw [ht]
  have key : ∀ r ∈ t :: ts, 1 ≤ r.getD j 0 ∧ r.getD j 0 ≤ 20 := fun r hr => by
    obtain ⟨a, b⟩ := hm r hr
    have hl : j < r.length := by omega
    have e : r.getD j 0 = r[j] := by simp [hl]
    rw [e]; exact b _ (List.getElem_mem hl)
  have h0 := key t (by simp)
  have := fold_low (f := fun r => r.getD j 0) (m := 1) ts (t.getD j 0, t.getD j 0) h0.1 (fun r hr => (key r (by simp [hr])).1)
  unfold foldS
  simp only at this ⊢
  omega

theorem firstBad_of {e : Nat → Int} {n w : Nat} (hw : w < n) (h0 : e w ≠ 0) (hb : ∀ i, i < w → e i = 0) : firstBad e 0 n = some w := by
  cases h : firstBad e 0 n with
  | none => exact absurd (firstBad_none h w (by omega) (by omega)) h0
  | some k =>
    obtain ⟨_, _, h3, h4⟩ := firstBad_some h
    rcases Nat.lt_trichotomy k w with h | h | h
    · exact absurd (hb k h) h3
    · rw [h]
    · exact absurd (h4 w (by omega) h) h0
def sendQ (d : Ho) (day far : Int) : Int := if pairsE [day, d.days] 1 = 0 then (if out 0 198 far = true then 7 else 0) else pairsE [day, d.days] 1
theorem enter_send {d : Ho} (day far : Int) : enterE d 0 (sendQ d day far) = sendE d day far := by
  rw [enterE_known]
  unfold sendE sendQ penceE indexE
  rw [pairs1, ← notin far 0 198]
  by_cases h0 : checkE d = 0
  · simp only [h0, if_true]
    cases inR day 0 (d.days - 1) <;> cases inR far 0 198 <;> simp
  · simp only [h0, if_false]
theorem c86 (d : Ho) (hd : d.fits) (ho : d.Ok) (day far : Int) (B : List ABlk) (t : List Bool) (b0 b1 b2 : Nat) (h0 : B[b0]? = some (.cells (eHc d))) (h1 : B[b1]? = some (.cells [.int .i64 day])) (h2 : B[b2]? = some (.cells [.int .i64 far])) :
    (EW tabX).call 86 [.ref b1 0, .ref b0 0, .ref b2 0] ⟨B, t⟩ = some (.int .i64 (sendQ d day far), ⟨B, t⟩) := by
  have h67 := c67 [day, d.days] 1 1 B t
  have h98 := c98 [day, d.days] 1 rfl (by omega) (fun k hk => by
    have := ho.d1
    have := ho.d3
    obtain rfl : k = 0 := by omega
    show -_ ≤ d.days ∧ d.days ≤ _
    omega) 1 B.length (B ++ [.cells [.lst 1 1 (I [day, d.days])]]) t (by simp)
  have o0 := old h0
  have o1 := old h1
  have o2 := old h2
  simp only [eHc] at h0 o0
  rw [w_call _ fn_86 rfl]
  unfold sendQ
  simp only [I_c, I_nil] at h67 h98
  by_cases hp : pairsE [day, d.days] 1 = 0
  · cases hn : out 0 198 far with
    | true => simp only [go_sem, ↓reduceIte, Nat.reduceBEq, Nat.reduceEqDiff, Nat.reduceLT, Nat.reduceLeDiff, Nat.reduceAdd, Nat.reduceMul, Nat.reduceSub, reduceCtorEq, Int.reduceLT, Int.reduceLE, Int.reduceEq, Int.reduceBEq, Int.reduceBNe, Int.reduceToNat, Int.reduceAdd, Int.reduceNeg, Int.reduceSub, h0, h1, h2, o0, o1, o2, h67, h98, hp, c49_1, hn]
    | false => simp only [go_sem, ↓reduceIte, Nat.reduceBEq, Nat.reduceEqDiff, Nat.reduceLT, Nat.reduceLeDiff, Nat.reduceAdd, Nat.reduceMul, Nat.reduceSub, reduceCtorEq, Int.reduceLT, Int.reduceLE, Int.reduceEq, Int.reduceBEq, Int.reduceBNe, Int.reduceToNat, Int.reduceAdd, Int.reduceNeg, Int.reduceSub, h0, h1, h2, o0, o1, o2, h67, h98, hp, c49_1, hn]
  · have hpb : (pairsE [day, d.days] 1 == 0) = false := by simpa using hp
    simp only [go_sem, ↓reduceIte, Nat.reduceBEq, Nat.reduceEqDiff, Nat.reduceLT, Nat.reduceLeDiff, Nat.reduceAdd, Nat.reduceMul, Nat.reduceSub, reduceCtorEq, Int.reduceLT, Int.reduceLE, Int.reduceEq, Int.reduceBEq, Int.reduceBNe, Int.reduceToNat, Int.reduceAdd, Int.reduceNeg, Int.reduceSub, h0, h1, h2, o0, o1, o2, h67, h98, hp, hpb]
def H32 (d : Ho) (day far : Int) : List ABlk := [.cells (eHc d), .cells [.int .i64 day], .cells [.int .i64 far]]
theorem c32 (d : Ho) (hd : d.fits) (day far : Int) (h : Heap) : callPure (EW tabX) 32 [eH d, .int .i64 day, .int .i64 far] h = some (tup3 (sendV d day far), h) := by
  have hcl := eH_clean d
  obtain ⟨hno, hyes⟩ := c62 d hd 0 (by omega) (sendQ d day far) (.clo 86 [] [.ref 1 0, .ref 0 0, .ref 2 0]) (H32 d day far) [] (fun hc => by
    have ho := ok_of_E hc
    have := c86 d hd ho day far (H32 d day far ++ [.cells (eHc d)]) [] 0 1 2 rfl rfl rfl
    simp only [go_sem, ↓reduceIte, Nat.reduceBEq, Nat.reduceEqDiff, Nat.reduceLT, Nat.reduceLeDiff, Nat.reduceAdd, Nat.reduceMul, Nat.reduceSub, reduceCtorEq, Int.reduceLT, Int.reduceLE, Int.reduceEq, Int.reduceBEq, Int.reduceBNe, Int.reduceToNat, Int.reduceAdd, Int.reduceNeg, Int.reduceSub] at this ⊢
    exact this)
  rw [enter_send] at hno hyes
  rw [callPure_eq, w_call _ fn_32 rfl]
  unfold sendV
  by_cases h0 : sendE d day far = 0
  rotate_left
  · rw [if_neg h0]
    obtain ⟨F, hc⟩ := hno h0
    have hne : (sendE d day far != 0) = true := by simpa using h0
    simp only [go_sem, ↓reduceIte, Nat.reduceBEq, Nat.reduceEqDiff, Nat.reduceLT, Nat.reduceLeDiff, Nat.reduceAdd, Nat.reduceMul, Nat.reduceSub, reduceCtorEq, Int.reduceLT, Int.reduceLE, Int.reduceEq, Int.reduceBEq, Int.reduceBNe, Int.reduceToNat, Int.reduceAdd, Int.reduceNeg, Int.reduceSub, eH, eHc, H32] at hc
    simp only [go_sem, ↓reduceIte, Nat.reduceBEq, Nat.reduceEqDiff, Nat.reduceLT, Nat.reduceLeDiff, Nat.reduceAdd, Nat.reduceMul, Nat.reduceSub, reduceCtorEq, Int.reduceLT, Int.reduceLE, Int.reduceEq, Int.reduceBEq, Int.reduceBNe, Int.reduceToNat, Int.reduceAdd, Int.reduceNeg, Int.reduceSub, eH, eHc, hc, hne, tup3]
  rw [if_pos h0]
  obtain ⟨es, F, hke, hc⟩ := hyes h0
  obtain ⟨k1, k2⟩ := knownE_zero h0
  obtain ⟨k3, k4⟩ := penceE_zero k1
  obtain ⟨k5, k6⟩ := indexE_zero k3
  have ho := ok_of_E k5
  have ha3 := ho.a3
  have hrd := ho.rd
  obtain ⟨j, rfl⟩ := Int.eq_ofNat_of_zero_le k6.1
  have hjl : j < d.rates.length := by omega
  obtain ⟨es', F', x0, x2⟩ := c68 hd ho (but := 0) (by omega) 6 5 (HE d 0 (H32 d j far)) (HE_at d 0 (H32 d j far)) 87 [] [.ref 1 0] rfl rfl (fun r => r.getD j 0)
    (fun t es X tb ht hv hk => rate_of 87 (.inr rfl) rr_87 (by have := ho.d3; omega) j hjl 5 1 (by omega) (HE d 0 (H32 d j far)) rfl t es X tb ht hk) es hke ([] ++ F)
  have hdfs : dfs d 0 d.rates.length [] = truthsL d [] := by rw [dfs_all ho, bitsL_zero]
  rw [hdfs] at x2
  obtain ⟨lo1, lo2⟩ := low_bd ho k2 hjl
  have hlow : ∀ (w n : Nat), lowP d w j n = payR (d.ag0 w) n (foldS (fun r => r.getD j 0) (truthsL d [])).1 := fun w n => low_pay k2 w j n
  generalize foldS (fun r => r.getD j 0) (truthsL d []) = low at x2 lo1 lo2 hlow
  obtain ⟨lo, hi⟩ := low
  simp only at lo1 lo2 hlow
  simp only [go_sem, ↓reduceIte, Nat.reduceBEq, Nat.reduceEqDiff, Nat.reduceLT, Nat.reduceLeDiff, Nat.reduceAdd, Nat.reduceMul, Nat.reduceSub, reduceCtorEq, Int.reduceLT, Int.reduceLE, Int.reduceEq, Int.reduceBEq, Int.reduceBNe, Int.reduceToNat, Int.reduceAdd, Int.reduceNeg, Int.reduceSub, eH, eHc, eHs, eSp, HE, H32] at hc x2
  simp only [go_sem, ↓reduceIte, Nat.reduceBEq, Nat.reduceEqDiff, Nat.reduceLT, Nat.reduceLeDiff, Nat.reduceAdd, Nat.reduceMul, Nat.reduceSub, reduceCtorEq, Int.reduceLT, Int.reduceLE, Int.reduceEq, Int.reduceBEq, Int.reduceBNe, Int.reduceToNat, Int.reduceAdd, Int.reduceNeg, Int.reduceSub, eH, eHc, hc]
  simp only [go_sem, ↓reduceIte, Nat.reduceBEq, Nat.reduceEqDiff, Nat.reduceLT, Nat.reduceLeDiff, Nat.reduceAdd, Nat.reduceMul, Nat.reduceSub, reduceCtorEq, Int.reduceLT, Int.reduceLE, Int.reduceEq, Int.reduceBEq, Int.reduceBNe, Int.reduceToNat, Int.reduceAdd, Int.reduceNeg, Int.reduceSub, x2, tup3]
  have hP : HAt d (0 : Nat) 6 5 (HE d 0 (H32 d j far)) := HE_at d 0 (H32 d j far)
  generalize hx : (EW tabX).code 32 none (Code.loop _) _ = x
  refine w_rounds_sq hx (fun n (q : IS) => [(26, .int .i64 n)]) (fun q => ⟨PM (HE d 0 (H32 d j far)) 5 q.es ++ q.J, q.F⟩) (fun n q => KOk d q.es ∧ ∀ i, i < n → hitN d j far i = 0) 100
    (fun e V q => (e = .exit 0 ∧ V = [(26, .int .i64 100)] ∧ ∀ i, i < 100 → hitN d j far i = 0) ∨ ∃ n w : Nat, n < 100 ∧ hitN d j far n ≠ 0 ∧ (∀ i, i < n → hitN d j far i = 0) ∧ firstBad (hitW d j far n) 0 d.agents.length = some w ∧ e = .ret ∧
      V = [(6, .int .i64 w), (7, .int .i64 n), (8, .int .i64 0), (11, .int .i64 n), (12, .int .i64 w), (26, .int .i64 n), (31, .int .i64 d.agents.length), (32, .int .i64 w)]) ⟨es', [], F ++ F'⟩ ?_ ?_ ?_ ?_ ?_ ?_
  · simp only [go_sem, ↓reduceIte, Nat.reduceBEq, Nat.reduceEqDiff, Nat.reduceLT, Nat.reduceLeDiff, Nat.reduceAdd, Nat.reduceMul, Nat.reduceSub, reduceCtorEq, Int.reduceLT, Int.reduceLE, Int.reduceEq, Int.reduceBEq, Int.reduceBNe, Int.reduceToNat, Int.reduceAdd, Int.reduceNeg, Int.reduceSub]
  · simp only [go_sem, ↓reduceIte, Nat.reduceBEq, Nat.reduceEqDiff, Nat.reduceLT, Nat.reduceLeDiff, Nat.reduceAdd, Nat.reduceMul, Nat.reduceSub, reduceCtorEq, Int.reduceLT, Int.reduceLE, Int.reduceEq, Int.reduceBEq, Int.reduceBNe, Int.reduceToNat, Int.reduceAdd, Int.reduceNeg, Int.reduceSub, HE, H32, eHc, eHs]
  · exact ⟨x0, fun i hi => by omega⟩
  · intro n q hn hR
    obtain ⟨es1, J1, F1⟩ := q
    obtain ⟨r1, r2⟩ := hR
    have r1 : KOk d es1 := r1
    have hni : (n : Int) < 100 := by omega
    have hwn : IntKind.i64.wrap ((n : Int) + 1) = (n : Int) + 1 := wrap_i64 (by omega)
    simp only [go_sem, ↓reduceIte, Nat.reduceBEq, Nat.reduceEqDiff, Nat.reduceLT, Nat.reduceLeDiff, Nat.reduceAdd, Nat.reduceMul, Nat.reduceSub, reduceCtorEq, Int.reduceLT, Int.reduceLE, Int.reduceEq, Int.reduceBEq, Int.reduceBNe, Int.reduceToNat, Int.reduceAdd, Int.reduceNeg, Int.reduceSub, HE, H32, eHc, eHs, hni]
    generalize hy : (EW tabX).code 32 none (Code.loop _) _ = y
    refine w_rounds_sq hy (fun w (q : IS) => [(32, .int .i64 w)]) (fun q => ⟨PM (HE d 0 (H32 d j far)) 5 q.es ++ (J1 ++ q.J), F1 ++ q.F⟩) (fun w q => KOk d q.es ∧ ∀ i, i < w → hitW d j far n i = 0) d.agents.length
      (fun e V q => KOk d q.es ∧ ((e = .exit 2 ∧ V = [(32, .int .i64 d.agents.length)] ∧ ∀ i, i < d.agents.length → hitW d j far n i = 0) ∨ ∃ w : Nat, w < d.agents.length ∧ hitW d j far n w ≠ 0 ∧ (∀ i, i < w → hitW d j far n i = 0) ∧ e = .ret ∧
        V = [(6, .int .i64 w), (7, .int .i64 n), (8, .int .i64 0), (12, .int .i64 w), (32, .int .i64 w)])) ⟨es1, [], []⟩ ?_ ?_ ?_ ?_ ?_ ?_
    · simp only [go_sem, ↓reduceIte, Nat.reduceBEq, Nat.reduceEqDiff, Nat.reduceLT, Nat.reduceLeDiff, Nat.reduceAdd, Nat.reduceMul, Nat.reduceSub, reduceCtorEq, Int.reduceLT, Int.reduceLE, Int.reduceEq, Int.reduceBEq, Int.reduceBNe, Int.reduceToNat, Int.reduceAdd, Int.reduceNeg, Int.reduceSub]
    · simp only [go_sem, ↓reduceIte, Nat.reduceBEq, Nat.reduceEqDiff, Nat.reduceLT, Nat.reduceLeDiff, Nat.reduceAdd, Nat.reduceMul, Nat.reduceSub, reduceCtorEq, Int.reduceLT, Int.reduceLE, Int.reduceEq, Int.reduceBEq, Int.reduceBNe, Int.reduceToNat, Int.reduceAdd, Int.reduceNeg, Int.reduceSub, HE, H32, eHc, eHs]
    · exact ⟨r1, fun i hi => by omega⟩
    · intro w q hw hR
      obtain ⟨es2, J2, F2⟩ := q
      obtain ⟨u1, u2⟩ := hR
      have u1 : KOk d es2 := u1
      have hwi : (w : Int) < d.agents.length := by omega
      have hww : IntKind.i64.wrap ((w : Int) + 1) = (w : Int) + 1 := wrap_i64 (by omega)
      have hga := List.getElem?_eq_getElem hw
      have e1 : d.ag0 (w : Int) = d.agents[w] := by simp [Ho.ag0, hw]
      obtain ⟨es3, F3, v1, v2⟩ := c74x d hd ho (0 : Nat) hP w d.agents[w] hga n lo (by omega) (by omega) (J1 ++ (J2 ++ List.replicate 8 .none)) (F1 ++ (F2 ++ List.replicate 8 false)) es2 u1
      have hl := hlow w n
      rw [e1] at hl
      have hhit : hitW d j far n w = if far ≤ payR d.agents[w] n lo then 1 else 0 := by unfold hitW; rw [hl]
      generalize payR d.agents[w] n lo = pv at v2 hhit
      simp only [go_sem, ↓reduceIte, Nat.reduceBEq, Nat.reduceEqDiff, Nat.reduceLT, Nat.reduceLeDiff, Nat.reduceAdd, Nat.reduceMul, Nat.reduceSub, reduceCtorEq, Int.reduceLT, Int.reduceLE, Int.reduceEq, Int.reduceBEq, Int.reduceBNe, Int.reduceToNat, Int.reduceAdd, Int.reduceNeg, Int.reduceSub, HE, H32, eHc, eHs] at v2
      by_cases hge : far ≤ pv
      · rw [if_pos hge] at hhit
        right
        refine ⟨.ret, _, ⟨es3, J2 ++ List.replicate 8 .none, F2 ++ (List.replicate 8 false ++ F3)⟩, ?_, rfl, v1, .inr ⟨w, hw, by rw [hhit]; decide, u2, rfl, rfl⟩⟩
        simp only [go_sem, ↓reduceIte, Nat.reduceBEq, Nat.reduceEqDiff, Nat.reduceLT, Nat.reduceLeDiff, Nat.reduceAdd, Nat.reduceMul, Nat.reduceSub, reduceCtorEq, Int.reduceLT, Int.reduceLE, Int.reduceEq, Int.reduceBEq, Int.reduceBNe, Int.reduceToNat, Int.reduceAdd, Int.reduceNeg, Int.reduceSub, HE, H32, eHc, eHs, hwi, v2, hge, List.size_toArray]
        generalize hcf : okFam _ _ _ = cf
        obtain rfl : cf = true := by rw [← hcf]; kernel_rfl
        simp only [go_sem, ↓reduceIte, Nat.reduceBEq, Nat.reduceEqDiff, Nat.reduceLT, Nat.reduceLeDiff, Nat.reduceAdd, Nat.reduceMul, Nat.reduceSub, reduceCtorEq, Int.reduceLT, Int.reduceLE, Int.reduceEq, Int.reduceBEq, Int.reduceBNe, Int.reduceToNat, Int.reduceAdd, Int.reduceNeg, Int.reduceSub, hge]
        skip
      · rw [if_neg hge] at hhit
        left
        refine ⟨⟨es3, J2 ++ List.replicate 8 .none, F2 ++ (List.replicate 8 false ++ F3)⟩, ?_, v1, fun i hi => ?_⟩
        · simp only [go_sem, ↓reduceIte, Nat.reduceBEq, Nat.reduceEqDiff, Nat.reduceLT, Nat.reduceLeDiff, Nat.reduceAdd, Nat.reduceMul, Nat.reduceSub, reduceCtorEq, Int.reduceLT, Int.reduceLE, Int.reduceEq, Int.reduceBEq, Int.reduceBNe, Int.reduceToNat, Int.reduceAdd, Int.reduceNeg, Int.reduceSub, HE, H32, eHc, eHs, hwi, v2, hge, List.size_toArray]
          generalize hcf : okFam _ _ _ = cf
          obtain rfl : cf = true := by rw [← hcf]; kernel_rfl
          simp only [go_sem, ↓reduceIte, Nat.reduceBEq, Nat.reduceEqDiff, Nat.reduceLT, Nat.reduceLeDiff, Nat.reduceAdd, Nat.reduceMul, Nat.reduceSub, reduceCtorEq, Int.reduceLT, Int.reduceLE, Int.reduceEq, Int.reduceBEq, Int.reduceBNe, Int.reduceToNat, Int.reduceAdd, Int.reduceNeg, Int.reduceSub, hge, hww]
          skip
        · rcases Nat.lt_or_ge i w with h | h
          · exact u2 i h
          · rw [show i = w by omega]; exact hhit
    · intro q hR
      obtain ⟨es2, J2, F2⟩ := q
      refine ⟨.exit 2, _, ⟨es2, J2, F2⟩, ?_, rfl, hR.1, .inl ⟨rfl, rfl, hR.2⟩⟩
      simp only [go_sem, ↓reduceIte, Nat.reduceBEq, Nat.reduceEqDiff, Nat.reduceLT, Nat.reduceLeDiff, Nat.reduceAdd, Nat.reduceMul, Nat.reduceSub, reduceCtorEq, Int.reduceLT, Int.reduceLE, Int.reduceEq, Int.reduceBEq, Int.reduceBNe, Int.reduceToNat, Int.reduceAdd, Int.reduceNeg, Int.reduceSub, HE, H32, eHc, eHs, Int.lt_irrefl]
    · intro e V q hy1 hQ
      subst hy1
      obtain ⟨es2, J2, F2⟩ := q
      obtain ⟨q1, q2⟩ := hQ
      rcases q2 with ⟨rfl, rfl, q3⟩ | ⟨w, hw, q3, q4, rfl, rfl⟩
      · left
        refine ⟨⟨es2, J1 ++ J2, F1 ++ F2⟩, ?_, q1, fun i hi => ?_⟩
        · simp only [go_sem, ↓reduceIte, Nat.reduceBEq, Nat.reduceEqDiff, Nat.reduceLT, Nat.reduceLeDiff, Nat.reduceAdd, Nat.reduceMul, Nat.reduceSub, reduceCtorEq, Int.reduceLT, Int.reduceLE, Int.reduceEq, Int.reduceBEq, Int.reduceBNe, Int.reduceToNat, Int.reduceAdd, Int.reduceNeg, Int.reduceSub, HE, H32, eHc, eHs, hwn]
        · rcases Nat.lt_or_ge i n with h | h
          · exact r2 i h
          · rw [show i = n by omega]
            unfold hitN
            rw [firstBad_zero fun i _ hi => q3 i (by omega)]
      · right
        have hfb := firstBad_of hw q3 q4
        refine ⟨.ret, _, ⟨es2, J1 ++ J2, F1 ++ F2⟩, ?_, rfl, .inr ⟨n, w, hn, by unfold hitN; rw [hfb]; exact Int.one_ne_zero, r2, hfb, rfl, rfl⟩⟩
        simp only [go_sem, ↓reduceIte, Nat.reduceBEq, Nat.reduceEqDiff, Nat.reduceLT, Nat.reduceLeDiff, Nat.reduceAdd, Nat.reduceMul, Nat.reduceSub, reduceCtorEq, Int.reduceLT, Int.reduceLE, Int.reduceEq, Int.reduceBEq, Int.reduceBNe, Int.reduceToNat, Int.reduceAdd, Int.reduceNeg, Int.reduceSub, HE, H32, eHc, eHs]
        skip
  · intro q hR
    obtain ⟨es2, J2, F2⟩ := q
    refine ⟨.exit 0, _, ⟨es2, J2, F2⟩, ?_, rfl, .inl ⟨rfl, rfl, hR.2⟩⟩
    simp only [go_sem, ↓reduceIte, Nat.reduceBEq, Nat.reduceEqDiff, Nat.reduceLT, Nat.reduceLeDiff, Nat.reduceAdd, Nat.reduceMul, Nat.reduceSub, reduceCtorEq, Int.reduceLT, Int.reduceLE, Int.reduceEq, Int.reduceBEq, Int.reduceBNe, Int.reduceToNat, Int.reduceAdd, Int.reduceNeg, Int.reduceSub, HE, H32, eHc, eHs]
    skip
  · intro e V q hx1 hQ
    subst hx1
    obtain ⟨es2, J2, F2⟩ := q
    unfold sendR
    rcases hQ with ⟨rfl, rfl, q3⟩ | ⟨n, w, hn, q3, q4, q5, rfl, rfl⟩
    · rw [firstBad_zero fun i _ hi => q3 i (by omega)]
      simp only [go_sem, ↓reduceIte, Nat.reduceBEq, Nat.reduceEqDiff, Nat.reduceLT, Nat.reduceLeDiff, Nat.reduceAdd, Nat.reduceMul, Nat.reduceSub, reduceCtorEq, Int.reduceLT, Int.reduceLE, Int.reduceEq, Int.reduceBEq, Int.reduceBNe, Int.reduceToNat, Int.reduceAdd, Int.reduceNeg, Int.reduceSub, HE, H32, eHc, eHs]
      skip
    · rw [firstBad_of hn q3 q4]
      simp only [go_sem, ↓reduceIte, Nat.reduceBEq, Nat.reduceEqDiff, Nat.reduceLT, Nat.reduceLeDiff, Nat.reduceAdd, Nat.reduceMul, Nat.reduceSub, reduceCtorEq, Int.reduceLT, Int.reduceLE, Int.reduceEq, Int.reduceBEq, Int.reduceBNe, Int.reduceToNat, Int.reduceAdd, Int.reduceNeg, Int.reduceSub, HE, H32, eHc, eHs, q5]
      skip
end Go.Proofs.Ytaohhjaogjcfoaa
