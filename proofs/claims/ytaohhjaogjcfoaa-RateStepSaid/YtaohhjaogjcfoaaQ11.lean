/- Parts of the proof, joined: What agents pay in all truths, by the reference. Whether books agree, choices, the fewest entries that are false, and what to send, by the reference. Choices, the fewest entries that are false, and what to send, by the reference. The fewest entries that are false, and what to send, by the reference. What an agent pays, by the program. What is paid for an entry, by the program; loops that may be left in more than one way. All truths, by the program: the function that calls itself. All truths, by the program: what begins the search. The program's search and the reference's list are the same. A house is looked at, and entered. A house is entered; numbers that have to be below others. The first truth, by the program. The least and the greatest number of all truths, by the program. Rates of a day, by the program. What an agent pays in all truths, by the program. Conditions: those of each law. -/
import Derived.Test.YtaohhjaogjcfoaaQ10
set_option linter.unusedSimpArgs false
set_option linter.unusedVariables false
section
namespace Go.Proofs.Ytaohhjaogjcfoaa
open Go.Proofs

def payAt (h : Ho) (who day near : Int) (r : List Int) : Int := payR (h.ag0 who) near (r.getD day.toNat 0)
def Fine (d : Ho) (l : List (List Int)) : Prop := ∀ r ∈ l, r.length = d.rates.length ∧ ∀ n ∈ r, 1 ≤ n ∧ n ≤ 20
def HV (d : Ho) (s : Int × Int) (E : List ABlk) : List ABlk := .cells (eHc d) :: .cells [.int .i64 0, .int .i64 0] :: .cells [.int .i64 s.1, .int .i64 s.2] :: E
theorem c76 (d : Ho) (hd : d.fits) (ho : d.Ok) (who day near : Int) (hw : 0 ≤ who ∧ who < d.agents.length) (hy : 0 ≤ day ∧ day < d.days) (hn : 0 ≤ near ∧ near ≤ 99) (t : List Int) (ts : List (List Int)) (hm : Fine d (t :: ts)) (hln : ts.length < 9000) (h : Heap) :
    callPure (EW tabX) 76 [eH d, vR (t :: ts), .int .i64 who, .int .i64 day, .int .i64 near] h = some (eSp (foldS (payAt d who day near) (t :: ts)), h) := by
  have hcl := eH_clean d
  have hrd := ho.rd
  obtain ⟨i, rfl⟩ := Int.eq_ofNat_of_zero_le hw.1
  obtain ⟨j, rfl⟩ := Int.eq_ofNat_of_zero_le hy.1
  have hil : i < d.agents.length := by omega
  have hza := hd.za (by intro e; rw [e] at hil; simp at hil)
  have hga := List.getElem?_eq_getElem hil
  have hag := ho.ag _ (List.getElem_mem hil)
  have e1 : d.ag0 (i : Int) = d.agents[i] := by simp [Ho.ag0, hil]
  have pay : ∀ r ∈ t :: ts, ∃ v, r[j]? = some v ∧ payAt d i j near r = payR d.agents[i] near v ∧ ∀ h, callPure (EW tabX) 47 [eAg d.agents[i], .int .i64 near, .int .i64 v] h = some (.int .i64 (payR d.agents[i] near v), h) := fun r hr => by
    obtain ⟨m1, m2⟩ := hm r hr
    have hjl : j < r.length := by omega
    have := m2 _ (List.getElem_mem hjl)
    exact ⟨r[j], List.getElem?_eq_getElem hjl, by unfold payAt; rw [e1]; simp [hjl], c47 _ ⟨hag.1, hag.2.1⟩ near r[j] hn (by omega)⟩
  obtain ⟨v, p1, p2, p3⟩ := pay t (by simp)
  rw [callPure_eq, w_call _ fn_76 rfl]
  simp only [eH, eHc] at hcl
  simp only [eAg] at p3
  simp (disch := omega) only [go_sem, ↓reduceIte, Nat.reduceBEq, Nat.reduceEqDiff, Nat.reduceLT, Nat.reduceLeDiff, Nat.reduceAdd, Nat.reduceMul, Nat.reduceSub, reduceCtorEq, Int.reduceLT, Int.reduceLE, Int.reduceEq, Int.reduceBEq, Int.reduceBNe, Int.reduceToNat, Int.reduceAdd, Int.reduceNeg, Int.reduceSub, eH, eHc, vR, hga, hza, eAg, eR, p1, p3]
  generalize hx : (EW tabX).code 76 none (Code.loop _) _ = x
  refine w_rounds_sk hx (fun k (s : (Int × Int) × List ABlk × List Bool) => [(13, .int .i64 ((k : Int) + 1))]) (fun s => ⟨HV d s.1 s.2.1, s.2.2⟩) (fun k s => s.1 = spanTo (payAt d i j near) t ts k) ts.length (.exit 0) (fun s => [(13, .int .i64 ((ts.length : Int) + 1))]) rfl ((payR d.agents[i] near v, payR d.agents[i] near v), [], []) ?_ ?_ ?_ ?_ ?_ ?_
  · simp only [go_sem, ↓reduceIte, Nat.reduceBEq, Nat.reduceEqDiff, Nat.reduceLT, Nat.reduceLeDiff, Nat.reduceAdd, Nat.reduceMul, Nat.reduceSub, reduceCtorEq, Int.reduceLT, Int.reduceLE, Int.reduceEq, Int.reduceBEq, Int.reduceBNe, Int.reduceToNat, Int.reduceAdd, Int.reduceNeg, Int.reduceSub, Int.zero_add]
  · simp only [HV, eHc, hza]
  · simp only [spanTo_zero, p2]
  · intro k s hk hR
    obtain ⟨⟨a, b⟩, E, F⟩ := s
    have hki : (k : Int) + 1 < (ts.length : Int) + 1 := by omega
    have hxk := List.getElem?_eq_getElem hk
    obtain ⟨u, q1, q2, q3⟩ := pay ts[k] (by simp)
    have h71 := c71 (a, b) (payR d.agents[i] near u)
    have hR : (a, b) = spanTo (payAt d i j near) t ts k := hR
    simp only [eSp] at h71
    simp only [eAg] at q3
    simp (disch := omega) only [go_sem, ↓reduceIte, Nat.reduceBEq, Nat.reduceEqDiff, Nat.reduceLT, Nat.reduceLeDiff, Nat.reduceAdd, Nat.reduceMul, Nat.reduceSub, reduceCtorEq, Int.reduceLT, Int.reduceLE, Int.reduceEq, Int.reduceBEq, Int.reduceBNe, Int.reduceToNat, Int.reduceAdd, Int.reduceNeg, Int.reduceSub, HV, eHc, hki, hxk, eR, wrap_i64, hza]
    generalize hcf : drawT _ _ _ = cf
    obtain rfl : cf = true := by rw [← hcf]; kernel_rfl
    generalize List.replicate _ ABlk.none = N
    generalize List.replicate _ false = M
    refine ⟨(joinS (a, b) (payR d.agents[i] near u), E ++ N, F ++ M), ?_, by rw [spanTo_succ _ _ hxk, ← hR, q2]⟩
    simp (disch := omega) only [go_sem, ↓reduceIte, Nat.reduceBEq, Nat.reduceEqDiff, Nat.reduceLT, Nat.reduceLeDiff, Nat.reduceAdd, Nat.reduceMul, Nat.reduceSub, reduceCtorEq, Int.reduceLT, Int.reduceLE, Int.reduceEq, Int.reduceBEq, Int.reduceBNe, Int.reduceToNat, Int.reduceAdd, Int.reduceNeg, Int.reduceSub, hxk, eR, hga, eAg, q1, q3, h71, wrap_i64, joinS]
  · intro s hR
    simp only [go_sem, ↓reduceIte, Nat.reduceBEq, Nat.reduceEqDiff, Nat.reduceLT, Nat.reduceLeDiff, Nat.reduceAdd, Nat.reduceMul, Nat.reduceSub, reduceCtorEq, Int.reduceLT, Int.reduceLE, Int.reduceEq, Int.reduceBEq, Int.reduceBNe, Int.reduceToNat, Int.reduceAdd, Int.reduceNeg, Int.reduceSub, HV]
  · intro s h1 hR
    subst h1
    have hR : s.1 = spanTo (payAt d i j near) t ts ts.length := hR
    rw [spanTo_all] at hR
    rw [← hR]
    simp only [go_sem, ↓reduceIte, Nat.reduceBEq, Nat.reduceEqDiff, Nat.reduceLT, Nat.reduceLeDiff, Nat.reduceAdd, Nat.reduceMul, Nat.reduceSub, reduceCtorEq, Int.reduceLT, Int.reduceLE, Int.reduceEq, Int.reduceBEq, Int.reduceBNe, Int.reduceToNat, Int.reduceAdd, Int.reduceNeg, Int.reduceSub, HV, eSp]

def worthE (h : Ho) (who day near : Int) : Int := knownE h (penceE near 99 (if indexE h who h.agents.length = 0 then indexE h day h.days else indexE h who h.agents.length))
def worthV (h : Ho) (who day near : Int) : (Int × Int) × Int := if worthE h who day near = 0 then (foldS (payAt h who day near) (truthsL h []), 0) else ((0, 0), worthE h who day near)
theorem penceE_zero {n most e : Int} (h : penceE n most e = 0) : e = 0 ∧ 0 ≤ n ∧ n ≤ most := by
  unfold penceE at h
  split at h
  · rename_i h0
    split at h
    · rename_i h1
      simp [inR] at h1
      exact ⟨h0, h1.1, h1.2⟩
    · cases h
  · rename_i h0; exact absurd h h0
theorem worthE_zero {h : Ho} {who day near : Int} (hw : worthE h who day near = 0) : checkE h = 0 ∧ (0 ≤ who ∧ who < h.agents.length) ∧ (0 ≤ day ∧ day < h.days) ∧ (0 ≤ near ∧ near ≤ 99) ∧ truthsL h [] ≠ [] := by
  unfold worthE at hw
  obtain ⟨k1, k2⟩ := knownE_zero hw
  obtain ⟨k3, k4⟩ := penceE_zero k1
  split at k3
  · rename_i h0
    obtain ⟨a1, a2⟩ := indexE_zero h0
    obtain ⟨b1, b2⟩ := indexE_zero k3
    exact ⟨a1, a2, b2, k4, k2⟩
  · rename_i h0; exact absurd k3 h0
theorem worth_ok {h : Ho} {who day near : Int} (e : penceE near 99 (if indexE h who h.agents.length = 0 then indexE h day h.days else indexE h who h.agents.length) = 0) : h.Ok := by
  obtain ⟨k3, k4⟩ := penceE_zero e
  split at k3
  · rename_i h0; exact ok_of_E (indexE_zero h0).1
  · rename_i h0; exact absurd k3 h0
theorem knownL_yes {h : Ho} {e : Int} (hk : knownE h e = 0) : knownL h e = truthsL h [] := by unfold knownL; rw [if_pos (knownE_zero hk).1]
theorem c25 (d : Ho) (hd : d.fits) (who day near : Int) (h : Heap) : callPure (EW tabX) 25 [eH d, .int .i64 who, .int .i64 day, .int .i64 near] h = some (vS (worthV d who day near), h) := by
  have hcl := eH_clean d
  have hla := hd.la
  have h65 := c65 d hd _ (worth_ok (h := d) (who := who) (day := day) (near := near))
  have h70 := c70 d hd who d.agents.length (fun _ => by omega)
  have h70b := c70 d hd day d.days (fun e => by have := (ok_of_E e).d1; have := (ok_of_E e).d3; omega)
  have h75 := c75 near 99
  have key : worthE d who day near = knownE d (penceE near 99 (if indexE d who d.agents.length = 0 then indexE d day d.days else indexE d who d.agents.length)) := rfl
  have key0 := fun e => worthE_zero (h := d) (who := who) (day := day) (near := near) e
  rw [callPure_eq, w_call _ fn_25 rfl]
  unfold worthV
  rw [key] at key0 ⊢
  simp only [eH, eHc] at h70 h70b hcl h65
  have fin : ∀ e, knownE d e = 0 → truthsL d [] ≠ [] → d.Ok → (0 ≤ who ∧ who < d.agents.length) → (0 ≤ day ∧ day < d.days) → (0 ≤ near ∧ near ≤ 99) → ∃ t ts, truthsL d [] = t :: ts ∧ knownL d e = t :: ts ∧ ∀ h, callPure (EW tabX) 76 [eH d, vR (t :: ts), .int .i64 who, .int .i64 day, .int .i64 near] h = some (eSp (foldS (payAt d who day near) (t :: ts)), h) := fun e he hne ho a1 a2 a3 => by
    obtain ⟨t, ts, ht, hm⟩ := truths_cons ho hne
    have hln := truthsL_len ho []
    rw [ht, List.length_cons] at hln
    exact ⟨t, ts, ht, by rw [knownL_yes he, ht], c76 d hd ho who day near a1 a2 a3 t ts hm (by omega)⟩
  by_cases h1 : indexE d who d.agents.length = 0
  · rw [if_pos h1] at h65 key0 ⊢
    by_cases h0 : knownE d (penceE near 99 (indexE d day d.days)) = 0
    · obtain ⟨k0, k1, k2, k3, k4⟩ := key0 h0
      obtain ⟨t, ts, ht, hl, h76⟩ := fin _ h0 k4 (ok_of_E k0) k1 k2 k3
      simp only [go_sem, ↓reduceIte, Nat.reduceBEq, Nat.reduceEqDiff, Nat.reduceLT, Nat.reduceLeDiff, Nat.reduceAdd, Nat.reduceMul, Nat.reduceSub, reduceCtorEq, Int.reduceLT, Int.reduceLE, Int.reduceEq, Int.reduceBEq, Int.reduceBNe, Int.reduceToNat, Int.reduceAdd, Int.reduceNeg, Int.reduceSub, eH, eHc, vR, eSp] at h76
      simp (disch := omega) only [go_sem, ↓reduceIte, Nat.reduceBEq, Nat.reduceEqDiff, Nat.reduceLT, Nat.reduceLeDiff, Nat.reduceAdd, Nat.reduceMul, Nat.reduceSub, reduceCtorEq, Int.reduceLT, Int.reduceLE, Int.reduceEq, Int.reduceBEq, Int.reduceBNe, Int.reduceToNat, Int.reduceAdd, Int.reduceNeg, Int.reduceSub, eH, eHc, h70, h70b, h75, h65, h1, h0, hl, ht, vR, vS, eSp, h76]
    · have hne : (knownE d (penceE near 99 (indexE d day d.days)) != 0) = true := by simpa using h0
      simp (disch := omega) only [go_sem, ↓reduceIte, Nat.reduceBEq, Nat.reduceEqDiff, Nat.reduceLT, Nat.reduceLeDiff, Nat.reduceAdd, Nat.reduceMul, Nat.reduceSub, reduceCtorEq, Int.reduceLT, Int.reduceLE, Int.reduceEq, Int.reduceBEq, Int.reduceBNe, Int.reduceToNat, Int.reduceAdd, Int.reduceNeg, Int.reduceSub, eH, eHc, h70, h70b, h75, h65, h1, h0, hne, vR, vS, eSp]
  · rw [if_neg h1] at h65 key0 ⊢
    have h1b : (indexE d who d.agents.length == 0) = false := by simpa using h1
    have h0 : knownE d (penceE near 99 (indexE d who d.agents.length)) ≠ 0 := fun e => h1 (penceE_zero (knownE_zero e).1).1
    have hne : (knownE d (penceE near 99 (indexE d who d.agents.length)) != 0) = true := by simpa using h0
    simp (disch := omega) only [go_sem, ↓reduceIte, Nat.reduceBEq, Nat.reduceEqDiff, Nat.reduceLT, Nat.reduceLeDiff, Nat.reduceAdd, Nat.reduceMul, Nat.reduceSub, reduceCtorEq, Int.reduceLT, Int.reduceLE, Int.reduceEq, Int.reduceBEq, Int.reduceBNe, Int.reduceToNat, Int.reduceAdd, Int.reduceNeg, Int.reduceSub, eH, eHc, h70, h70b, h75, h65, h1, h1b, h0, hne, vR, vS, eSp]

def sumTo (h : Ho) (who : Int) (r : List Int) : Nat → Int
  | 0 => 0
  | k + 1 => sumTo h who r k + if (h.en0 k).agent = who then payAt h who (h.en0 k).day (h.en0 k).near r else 0
theorem en0_at (h : Ho) {k : Nat} (hk : k < h.entries.length) : h.en0 k = h.entries[k] := by simp [Ho.en0, hk]
theorem pay_at {d : Ho} (ho : d.Ok) {x : En} (hx : x ∈ d.entries) {r : List Int} (hr : r.length = d.rates.length ∧ ∀ n ∈ r, 1 ≤ n ∧ n ≤ 20) :
    ∃ (i j : Nat) (a : Ag) (v : Int), x.agent = (i : Int) ∧ x.day = (j : Int) ∧ d.agents[i]? = some a ∧ r[j]? = some v ∧ payAt d x.agent x.day x.near r = payR a x.near v ∧ (0 ≤ payR a x.near v ∧ payR a x.near v ≤ 198) ∧
      ∀ h, callPure (EW tabX) 47 [eAg a, .int .i64 x.near, .int .i64 v] h = some (.int .i64 (payR a x.near v), h) := by
  obtain ⟨a1, a2, a3, a4, a5, a6, a7, a8⟩ := ho.en x hx
  have hrd := ho.rd
  obtain ⟨i, hi⟩ := Int.eq_ofNat_of_zero_le a1
  obtain ⟨j, hj⟩ := Int.eq_ofNat_of_zero_le a3
  have hil : i < d.agents.length := by omega
  have hjl : j < r.length := by omega
  have hag := ho.ag _ (List.getElem_mem hil)
  have hb := hr.2 _ (List.getElem_mem hjl)
  refine ⟨i, j, d.agents[i], r[j], hi, hj, List.getElem?_eq_getElem hil, List.getElem?_eq_getElem hjl, ?_, payR_bd ⟨hag.1, hag.2.1⟩ ⟨a5, a6⟩ (by omega), c47 _ ⟨hag.1, hag.2.1⟩ x.near r[j] ⟨a5, a6⟩ (by omega)⟩
  unfold payAt
  rw [hi, hj]
  simp [Ho.ag0, hil, hjl]
theorem sumTo_bd {d : Ho} (ho : d.Ok) (who : Int) {r : List Int} (hr : r.length = d.rates.length ∧ ∀ n ∈ r, 1 ≤ n ∧ n ≤ 20) : ∀ k, k ≤ d.entries.length → 0 ≤ sumTo d who r k ∧ sumTo d who r k ≤ 198 * k
  | 0, _ => by simp [sumTo]
  | k + 1, hk => by
    have ih := sumTo_bd ho who hr k (by omega)
    have hk' : k < d.entries.length := by omega
    obtain ⟨i, j, a, v, _, _, _, _, e, b, _⟩ := pay_at ho (List.getElem_mem hk') hr
    unfold sumTo
    rw [en0_at d hk']
    split
    · rename_i hw
      rw [hw] at e
      rw [e]; omega
    · omega
theorem c39 (d : Ho) (hd : d.fits) (ho : d.Ok) (who : Int) (r : List Int) (hr : r.length = d.rates.length ∧ ∀ n ∈ r, 1 ≤ n ∧ n ≤ 20) (h : Heap) :
    callPure (EW tabX) 39 [eH d, .int .i64 who, .lst 0 1 (I r)] h = some (.int .i64 (sumTo d who r d.entries.length), h) := by
  have he5 := ho.e5
  rw [callPure_eq, w_call _ fn_39 rfl]
  simp only [go_sem, ↓reduceIte, Nat.reduceBEq, Nat.reduceEqDiff, Nat.reduceLT, Nat.reduceLeDiff, Nat.reduceAdd, Nat.reduceMul, Nat.reduceSub, reduceCtorEq, Int.reduceLT, Int.reduceLE, Int.reduceEq, Int.reduceBEq, Int.reduceBNe, Int.reduceToNat, Int.reduceAdd, Int.reduceNeg, Int.reduceSub, eH, eHc]
  rw [w_rounds_h (fun k => [(7, .int .i64 (sumTo d who r k)), (8, .int .i64 k)]) (fun k => ⟨[.cells (eHc d)] ++ (d.entries.take k).map bEn, []⟩) d.entries.length (.exit 0) [(7, .int .i64 (sumTo d who r d.entries.length)), (8, .int .i64 d.entries.length)] ⟨[.cells (eHc d)] ++ d.entries.map bEn, []⟩ ?_ ?_ ?_ ?_ rfl]
  · simp only [go_sem, ↓reduceIte, Nat.reduceBEq, Nat.reduceEqDiff, Nat.reduceLT, Nat.reduceLeDiff, Nat.reduceAdd, Nat.reduceMul, Nat.reduceSub, reduceCtorEq, Int.reduceLT, Int.reduceLE, Int.reduceEq, Int.reduceBEq, Int.reduceBNe, Int.reduceToNat, Int.reduceAdd, Int.reduceNeg, Int.reduceSub]
  · simp only [go_sem, ↓reduceIte, Nat.reduceBEq, Nat.reduceEqDiff, Nat.reduceLT, Nat.reduceLeDiff, Nat.reduceAdd, Nat.reduceMul, Nat.reduceSub, reduceCtorEq, Int.reduceLT, Int.reduceLE, Int.reduceEq, Int.reduceBEq, Int.reduceBNe, Int.reduceToNat, Int.reduceAdd, Int.reduceNeg, Int.reduceSub, sumTo]
  · simp only [go_sem, ↓reduceIte, Nat.reduceBEq, Nat.reduceEqDiff, Nat.reduceLT, Nat.reduceLeDiff, Nat.reduceAdd, Nat.reduceMul, Nat.reduceSub, reduceCtorEq, Int.reduceLT, Int.reduceLE, Int.reduceEq, Int.reduceBEq, Int.reduceBNe, Int.reduceToNat, Int.reduceAdd, Int.reduceNeg, Int.reduceSub, eHc]
  · intro k hk
    have hx := List.getElem?_eq_getElem hk
    have hki : (k : Int) < d.entries.length := by omega
    have hz := hd.ze (by intro e; rw [e] at hk; simp at hk)
    have hbd := sumTo_bd ho who hr k (by omega)
    obtain ⟨i, j, a, v, hi, hj, ga, gr, e, b, h47⟩ := pay_at ho (List.getElem_mem hk) hr
    have hil : i < d.agents.length := (List.getElem?_eq_some_iff.1 ga).1
    have hza := hd.za (by intro e; rw [e] at hil; simp at hil)
    have hC : ([ABlk.cells (eHc d)] ++ (d.entries.take k).map bEn)[0]? = some (.cells (eHc d)) := rfl
    rw [map_succ bEn hx, ← List.append_assoc]
    generalize [ABlk.cells (eHc d)] ++ (d.entries.take k).map bEn = C at hC ⊢
    simp only [eHc] at hC
    have oC := old hC
    have hst : sumTo d who r (k + 1) = sumTo d who r k + if d.entries[k].agent = who then payAt d who d.entries[k].day d.entries[k].near r else 0 := by rw [← en0_at d hk]; rfl
    rw [hst]
    by_cases hw : d.entries[k].agent = who
    · rw [hw] at e
      rw [if_pos hw, e]
      have hw3 : who = (i : Int) := by omega
      subst hw3
      simp only [eAg] at h47
      simp (disch := omega) only [go_sem, ↓reduceIte, Nat.reduceBEq, Nat.reduceEqDiff, Nat.reduceLT, Nat.reduceLeDiff, Nat.reduceAdd, Nat.reduceMul, Nat.reduceSub, reduceCtorEq, Int.reduceLT, Int.reduceLE, Int.reduceEq, Int.reduceBEq, Int.reduceBNe, Int.reduceToNat, Int.reduceAdd, Int.reduceNeg, Int.reduceSub, hC, oC, hki, hx, eEn, bEn, hz, hi, hj, ga, gr, hza, eAg, h47, wrap_i64]
    · rw [if_neg hw]
      have hw2 : (d.entries[k].agent == who) = false := by simpa using hw
      simp (disch := omega) only [go_sem, ↓reduceIte, Nat.reduceBEq, Nat.reduceEqDiff, Nat.reduceLT, Nat.reduceLeDiff, Nat.reduceAdd, Nat.reduceMul, Nat.reduceSub, reduceCtorEq, Int.reduceLT, Int.reduceLE, Int.reduceEq, Int.reduceBEq, Int.reduceBNe, Int.reduceToNat, Int.reduceAdd, Int.reduceNeg, Int.reduceSub, hC, oC, hki, hx, eEn, bEn, hz, hw2, wrap_i64, Int.add_zero]
  · have hC : ([ABlk.cells (eHc d)] ++ (d.entries.take d.entries.length).map bEn)[0]? = some (.cells (eHc d)) := rfl
    rw [List.take_length] at hC ⊢
    generalize [ABlk.cells (eHc d)] ++ d.entries.map bEn = C at hC ⊢
    simp only [eHc] at hC
    have oC := old hC
    simp only [go_sem, ↓reduceIte, Nat.reduceBEq, Nat.reduceEqDiff, Nat.reduceLT, Nat.reduceLeDiff, Nat.reduceAdd, Nat.reduceMul, Nat.reduceSub, reduceCtorEq, Int.reduceLT, Int.reduceLE, Int.reduceEq, Int.reduceBEq, Int.reduceBNe, Int.reduceToNat, Int.reduceAdd, Int.reduceNeg, Int.reduceSub, hC, oC, Int.lt_irrefl]

def sumAll (h : Ho) (who : Int) (r : List Int) : Int := sumTo h who r h.entries.length
def paidV (h : Ho) (who : Int) : (Int × Int) × Int := if knownE h (indexE h who h.agents.length) = 0 then (foldS (sumAll h who) (truthsL h []), 0) else ((0, 0), knownE h (indexE h who h.agents.length))
theorem c27 (d : Ho) (hd : d.fits) (who : Int) (h : Heap) : callPure (EW tabX) 27 [eH d, .int .i64 who] h = some (vS (paidV d who), h) := by
  have hcl := eH_clean d
  have hla := hd.la
  have h65 := c65 d hd (indexE d who d.agents.length) (fun e => ok_of_E (indexE_zero e).1)
  have h70 := c70 d hd who d.agents.length (fun e => by omega)
  rw [callPure_eq, w_call _ fn_27 rfl]
  unfold paidV
  simp only [eH, eHc] at h70 hcl h65
  by_cases h0 : knownE d (indexE d who d.agents.length) = 0
  · obtain ⟨k1, k2⟩ := knownE_zero h0
    obtain ⟨k3, k4, k5⟩ := indexE_zero k1
    have ho := ok_of_E k3
    have hl : knownL d (indexE d who d.agents.length) = truthsL d [] := knownL_yes h0
    obtain ⟨t, ts, ht, hm⟩ := truths_cons ho k2
    have hln := truthsL_len ho []
    rw [ht, List.length_cons] at hln
    have h39 := c39 d hd ho who t (hm t (by simp))
    simp only [eH, eHc] at h39
    simp (disch := omega) only [go_sem, ↓reduceIte, Nat.reduceBEq, Nat.reduceEqDiff, Nat.reduceLT, Nat.reduceLeDiff, Nat.reduceAdd, Nat.reduceMul, Nat.reduceSub, reduceCtorEq, Int.reduceLT, Int.reduceLE, Int.reduceEq, Int.reduceBEq, Int.reduceBNe, Int.reduceToNat, Int.reduceAdd, Int.reduceNeg, Int.reduceSub, eH, eHc, h70, h65, h0, hl, ht, vR, eR, h39]
    generalize hx : (EW tabX).code 27 none (Code.loop _) _ = x
    refine w_rounds_sk hx (fun k (s : (Int × Int) × List ABlk × List Bool) => [(10, .int .i64 ((k : Int) + 1))]) (fun s => ⟨HV d s.1 s.2.1, s.2.2⟩) (fun k s => s.1 = spanTo (sumAll d who) t ts k) ts.length (.exit 0) (fun s => [(10, .int .i64 ((ts.length : Int) + 1))]) rfl ((sumAll d who t, sumAll d who t), [], []) ?_ ?_ ?_ ?_ ?_ ?_
    · simp only [go_sem, ↓reduceIte, Nat.reduceBEq, Nat.reduceEqDiff, Nat.reduceLT, Nat.reduceLeDiff, Nat.reduceAdd, Nat.reduceMul, Nat.reduceSub, reduceCtorEq, Int.reduceLT, Int.reduceLE, Int.reduceEq, Int.reduceBEq, Int.reduceBNe, Int.reduceToNat, Int.reduceAdd, Int.reduceNeg, Int.reduceSub, Int.zero_add]
    · simp only [HV, eHc, sumAll]
    · simp only [spanTo_zero]
    · intro k s hk hR
      obtain ⟨⟨a, b⟩, E, F⟩ := s
      have hki : (k : Int) + 1 < (ts.length : Int) + 1 := by omega
      have hxk := List.getElem?_eq_getElem hk
      have h39 := c39 d hd ho who ts[k] (hm ts[k] (by simp))
      have h71 := c71 (a, b) (sumAll d who ts[k])
      have hR : (a, b) = spanTo (sumAll d who) t ts k := hR
      simp only [eSp, sumAll] at h71
      simp only [eH, eHc] at h39
      simp (disch := omega) only [go_sem, ↓reduceIte, Nat.reduceBEq, Nat.reduceEqDiff, Nat.reduceLT, Nat.reduceLeDiff, Nat.reduceAdd, Nat.reduceMul, Nat.reduceSub, reduceCtorEq, Int.reduceLT, Int.reduceLE, Int.reduceEq, Int.reduceBEq, Int.reduceBNe, Int.reduceToNat, Int.reduceAdd, Int.reduceNeg, Int.reduceSub, HV, eHc, hki, hxk, eR, wrap_i64]
      generalize hcf : drawT _ _ _ = cf
      obtain rfl : cf = true := by rw [← hcf]; kernel_rfl
      generalize List.replicate _ ABlk.none = N
      generalize List.replicate _ false = M
      refine ⟨(joinS (a, b) (sumAll d who ts[k]), E ++ N, F ++ M), ?_, by rw [spanTo_succ _ _ hxk, ← hR]⟩
      simp (disch := omega) only [go_sem, ↓reduceIte, Nat.reduceBEq, Nat.reduceEqDiff, Nat.reduceLT, Nat.reduceLeDiff, Nat.reduceAdd, Nat.reduceMul, Nat.reduceSub, reduceCtorEq, Int.reduceLT, Int.reduceLE, Int.reduceEq, Int.reduceBEq, Int.reduceBNe, Int.reduceToNat, Int.reduceAdd, Int.reduceNeg, Int.reduceSub, h39, h71, wrap_i64, joinS, sumAll]
      rfl
    · intro s hR
      simp only [go_sem, ↓reduceIte, Nat.reduceBEq, Nat.reduceEqDiff, Nat.reduceLT, Nat.reduceLeDiff, Nat.reduceAdd, Nat.reduceMul, Nat.reduceSub, reduceCtorEq, Int.reduceLT, Int.reduceLE, Int.reduceEq, Int.reduceBEq, Int.reduceBNe, Int.reduceToNat, Int.reduceAdd, Int.reduceNeg, Int.reduceSub, HV]
    · intro s h1 hR
      subst h1
      have hR : s.1 = spanTo (sumAll d who) t ts ts.length := hR
      rw [spanTo_all] at hR
      rw [← hR]
      simp only [go_sem, ↓reduceIte, Nat.reduceBEq, Nat.reduceEqDiff, Nat.reduceLT, Nat.reduceLeDiff, Nat.reduceAdd, Nat.reduceMul, Nat.reduceSub, reduceCtorEq, Int.reduceLT, Int.reduceLE, Int.reduceEq, Int.reduceBEq, Int.reduceBNe, Int.reduceToNat, Int.reduceAdd, Int.reduceNeg, Int.reduceSub, HV, vS, eSp]
  · have hne : (knownE d (indexE d who d.agents.length) != 0) = true := by simpa using h0
    simp (disch := omega) only [go_sem, ↓reduceIte, Nat.reduceBEq, Nat.reduceEqDiff, Nat.reduceLT, Nat.reduceLeDiff, Nat.reduceAdd, Nat.reduceMul, Nat.reduceSub, reduceCtorEq, Int.reduceLT, Int.reduceLE, Int.reduceEq, Int.reduceBEq, Int.reduceBNe, Int.reduceToNat, Int.reduceAdd, Int.reduceNeg, Int.reduceSub, eH, eHc, h70, h65, h0, hne, vR, vS, eSp]
end Go.Proofs.Ytaohhjaogjcfoaa
end
section
namespace Go.Proofs.Ytaohhjaogjcfoaa
open Go.Proofs

def settled (some all : Int) : Int := if some = all then 1 else if some = 0 then 2 else 0
theorem c80 (a b : Int) (h : Heap) : callPure (EW tabX) 80 [.int .i64 a, .int .i64 b] h = some (.int .i64 (settled a b), h) := by
  rw [callPure_eq, w_call _ fn_80 rfl]
  unfold settled
  by_cases h1 : a = b
  · subst h1
    simp only [go_sem, ↓reduceIte, Nat.reduceBEq, Nat.reduceEqDiff, Nat.reduceLT, Nat.reduceLeDiff, Nat.reduceAdd, Nat.reduceMul, Nat.reduceSub, reduceCtorEq, Int.reduceLT, Int.reduceLE, Int.reduceEq, Int.reduceBEq, Int.reduceBNe, Int.reduceToNat, Int.reduceAdd, Int.reduceNeg, Int.reduceSub]
  · have h1b : (a == b) = false := by simpa using h1
    by_cases h2 : a = 0
    · subst h2
      simp only [go_sem, ↓reduceIte, Nat.reduceBEq, Nat.reduceEqDiff, Nat.reduceLT, Nat.reduceLeDiff, Nat.reduceAdd, Nat.reduceMul, Nat.reduceSub, reduceCtorEq, Int.reduceLT, Int.reduceLE, Int.reduceEq, Int.reduceBEq, Int.reduceBNe, Int.reduceToNat, Int.reduceAdd, Int.reduceNeg, Int.reduceSub, h1, h1b]
    · have h2b : (a == 0) = false := by simpa using h2
      simp only [go_sem, ↓reduceIte, Nat.reduceBEq, Nat.reduceEqDiff, Nat.reduceLT, Nat.reduceLeDiff, Nat.reduceAdd, Nat.reduceMul, Nat.reduceSub, reduceCtorEq, Int.reduceLT, Int.reduceLE, Int.reduceEq, Int.reduceBEq, Int.reduceBNe, Int.reduceToNat, Int.reduceAdd, Int.reduceNeg, Int.reduceSub, h1, h1b, h2, h2b]

def agreeE (h : Ho) (n : Int) : Int := if indexE h n h.entries.length = 0 then (if (h.en0 n.toNat).far = -1 then 2 else 0) else indexE h n h.entries.length
def agreeN (h : Ho) (n : Int) : Int := (((truthsL h [n]).filter fun r => agreesB h (h.en0 n.toNat) r).length : Int)
def agreeV (h : Ho) (n : Int) : Int × Int := if agreeE h n = 0 then (if truthsL h [n] = [] then (0, 8) else (settled (agreeN h n) (truthsL h [n]).length, 0)) else (0, agreeE h n)
def v2 (x : Int × Int) : AV := .tup [.int .i64 x.1, .int .i64 x.2]
theorem v2_clean (x : Int × Int) : (v2 x).clean = some (v2 x) := by simp only [v2, go_sem, ↓reduceIte, Nat.reduceBEq, Nat.reduceEqDiff, Nat.reduceLT, Nat.reduceLeDiff, Nat.reduceAdd, Nat.reduceMul, Nat.reduceSub, reduceCtorEq, Int.reduceLT, Int.reduceLE, Int.reduceEq, Int.reduceBEq, Int.reduceBNe, Int.reduceToNat, Int.reduceAdd, Int.reduceNeg, Int.reduceSub]
theorem c29 (d : Ho) (hd : d.fits) (n : Int) (h : Heap) : callPure (EW tabX) 29 [eH d, .int .i64 n] h = some (v2 (agreeV d n), h) := by
  have hcl := eH_clean d
  have hle := hd.le
  have h70 := c70 d hd n d.entries.length (fun e => by omega)
  rw [callPure_eq, w_call _ fn_29 rfl]
  unfold agreeV agreeE
  simp only [eH, eHc] at h70 hcl
  by_cases h0 : indexE d n d.entries.length = 0
  rotate_left
  · have hne : (indexE d n d.entries.length == 0) = false := by simpa using h0
    have hne2 : (indexE d n d.entries.length != 0) = true := by simpa using h0
    simp (disch := omega) only [go_sem, ↓reduceIte, Nat.reduceBEq, Nat.reduceEqDiff, Nat.reduceLT, Nat.reduceLeDiff, Nat.reduceAdd, Nat.reduceMul, Nat.reduceSub, reduceCtorEq, Int.reduceLT, Int.reduceLE, Int.reduceEq, Int.reduceBEq, Int.reduceBNe, Int.reduceToNat, Int.reduceAdd, Int.reduceNeg, Int.reduceSub, eH, eHc, h70, h0, hne, hne2, v2]
  obtain ⟨k3, k4, k5⟩ := indexE_zero h0
  have ho := ok_of_E k3
  obtain ⟨j, rfl⟩ := Int.eq_ofNat_of_zero_le k4
  have hjl : j < d.entries.length := by omega
  have hx := List.getElem?_eq_getElem hjl
  have e0 : d.en0 j = d.entries[j] := en0_at d hjl
  have hze := hd.ze (by intro e; rw [e] at hjl; simp at hjl)
  have h45 := c45 d hd ho [(j : Int)] 1 (fun _ => rfl) (by simp)
  have hln := truthsL_len ho [(j : Int)]
  have hmem : ∀ r ∈ truthsL d [(j : Int)], r.length = d.rates.length ∧ ∀ n ∈ r, 1 ≤ n ∧ n ≤ 20 := fun r hr => ⟨truthsL_mem hr, ratesL_bd ho _ (Nat.le_refl _) r (List.mem_filter.1 hr).1⟩
  simp only [eH, eHc, I_c, I_nil, hze] at h45 h70
  simp only [hze] at hcl
  by_cases h1 : d.entries[j].far = -1
  · simp (disch := omega) only [go_sem, ↓reduceIte, Nat.reduceBEq, Nat.reduceEqDiff, Nat.reduceLT, Nat.reduceLeDiff, Nat.reduceAdd, Nat.reduceMul, Nat.reduceSub, reduceCtorEq, Int.reduceLT, Int.reduceLE, Int.reduceEq, Int.reduceBEq, Int.reduceBNe, Int.reduceToNat, Int.reduceAdd, Int.reduceNeg, Int.reduceSub, eH, eHc, h70, h0, hze, hx, eEn, h1, e0, v2]
  have h1b : (d.entries[j].far == -1) = false := by simpa using h1
  unfold agreeN
  rw [cast_toNat, e0]
  generalize truthsL d [(j : Int)] = l at h45 hln hmem ⊢
  by_cases h2 : l = []
  · subst h2
    simp (disch := omega) only [go_sem, ↓reduceIte, Nat.reduceBEq, Nat.reduceEqDiff, Nat.reduceLT, Nat.reduceLeDiff, Nat.reduceAdd, Nat.reduceMul, Nat.reduceSub, reduceCtorEq, Int.reduceLT, Int.reduceLE, Int.reduceEq, Int.reduceBEq, Int.reduceBNe, Int.reduceToNat, Int.reduceAdd, Int.reduceNeg, Int.reduceSub, eH, eHc, h70, h0, hze, hx, eEn, h1, h1b, e0, v2, h45, vR]
  have hpos := List.length_pos_iff.2 h2
  have h2b : ((l.length : Int) == 0) = false := by simp; omega
  have hzt : zT 1 l.length = 1 := zT_pos hpos
  simp (disch := omega) only [go_sem, ↓reduceIte, Nat.reduceBEq, Nat.reduceEqDiff, Nat.reduceLT, Nat.reduceLeDiff, Nat.reduceAdd, Nat.reduceMul, Nat.reduceSub, reduceCtorEq, Int.reduceLT, Int.reduceLE, Int.reduceEq, Int.reduceBEq, Int.reduceBNe, Int.reduceToNat, Int.reduceAdd, Int.reduceNeg, Int.reduceSub, eH, eHc, h70, h0, hze, hx, eEn, h1, h1b, e0, v2, h45, vR, h2, h2b, hzt]
  rw [w_rounds_u (fun k => [(8, .int .i64 (((l.take k).filter fun r => agreesB d d.entries[j] r).length : Int)), (9, .int .i64 k)]) l.length (.exit 0) [(8, .int .i64 ((l.filter fun r => agreesB d d.entries[j] r).length : Int)), (9, .int .i64 l.length)] ?_ ?_ ?_ rfl]
  · have h80 := c80 ((l.filter fun r => agreesB d d.entries[j] r).length : Int) l.length
    simp (disch := omega) only [go_sem, ↓reduceIte, Nat.reduceBEq, Nat.reduceEqDiff, Nat.reduceLT, Nat.reduceLeDiff, Nat.reduceAdd, Nat.reduceMul, Nat.reduceSub, reduceCtorEq, Int.reduceLT, Int.reduceLE, Int.reduceEq, Int.reduceBEq, Int.reduceBNe, Int.reduceToNat, Int.reduceAdd, Int.reduceNeg, Int.reduceSub, h80]
  · simp only [go_sem, ↓reduceIte, Nat.reduceBEq, Nat.reduceEqDiff, Nat.reduceLT, Nat.reduceLeDiff, Nat.reduceAdd, Nat.reduceMul, Nat.reduceSub, reduceCtorEq, Int.reduceLT, Int.reduceLE, Int.reduceEq, Int.reduceBEq, Int.reduceBNe, Int.reduceToNat, Int.reduceAdd, Int.reduceNeg, Int.reduceSub, List.filter_nil]
  · intro k hk
    have hki : (k : Int) < l.length := by omega
    have hxk := List.getElem?_eq_getElem hk
    obtain ⟨m1, m2⟩ := hmem _ (List.getElem_mem hk)
    have h79 := c79 d hd ho d.entries[j] (List.getElem_mem hjl) l[k] (by have := ho.rd; omega) (fun n hn => by have := m2 n hn; omega)
    have hfl := List.length_filter_le (fun r => agreesB d d.entries[j] r) (l.take k)
    rw [List.length_take] at hfl
    rw [filter_succ _ hxk]
    simp only [eH, eHc, eEn, hze] at h79
    cases hp : agreesB d d.entries[j] l[k] with
    | true =>
      rw [hp] at h79
      simp (disch := omega) only [go_sem, ↓reduceIte, Nat.reduceBEq, Nat.reduceEqDiff, Nat.reduceLT, Nat.reduceLeDiff, Nat.reduceAdd, Nat.reduceMul, Nat.reduceSub, reduceCtorEq, Int.reduceLT, Int.reduceLE, Int.reduceEq, Int.reduceBEq, Int.reduceBNe, Int.reduceToNat, Int.reduceAdd, Int.reduceNeg, Int.reduceSub, hki, hxk, hze, hx, eEn, eR, h79, wrap_i64, Int.natCast_add, Int.natCast_one]
    | false =>
      rw [hp] at h79
      simp (disch := omega) only [go_sem, ↓reduceIte, Nat.reduceBEq, Nat.reduceEqDiff, Nat.reduceLT, Nat.reduceLeDiff, Nat.reduceAdd, Nat.reduceMul, Nat.reduceSub, reduceCtorEq, Int.reduceLT, Int.reduceLE, Int.reduceEq, Int.reduceBEq, Int.reduceBNe, Int.reduceToNat, Int.reduceAdd, Int.reduceNeg, Int.reduceSub, hki, hxk, hze, hx, eEn, eR, h79, wrap_i64]
  · simp only [go_sem, ↓reduceIte, Nat.reduceBEq, Nat.reduceEqDiff, Nat.reduceLT, Nat.reduceLeDiff, Nat.reduceAdd, Nat.reduceMul, Nat.reduceSub, reduceCtorEq, Int.reduceLT, Int.reduceLE, Int.reduceEq, Int.reduceBEq, Int.reduceBNe, Int.reduceToNat, Int.reduceAdd, Int.reduceNeg, Int.reduceSub, List.take_length]
end Go.Proofs.Ytaohhjaogjcfoaa
end
section
namespace Go.Proofs.Ytaohhjaogjcfoaa
open Go.Proofs

def leastC (i : Nat) (t : List Int) : Int := if i = 0 then 0 else t.getD (i - 1) 0 + 1
def extC (i : Nat) (t : List Int) (k : Nat) : List (List Int) := (List.range k).map fun (j : Nat) => t ++ [leastC i t + (j : Int)]
def widthC (b i : Nat) (t : List Int) : Nat := ((b : Int) - leastC i t).toNat
def choicesL (b : Nat) : Nat → List (List Int)
  | 0 => [[]]
  | i + 1 => (choicesL b i).flatMap fun t => extC i t (widthC b i t)
theorem extC_succ (i : Nat) (t : List Int) (k : Nat) : extC i t (k + 1) = extC i t k ++ [t ++ [leastC i t + (k : Int)]] := by
  unfold extC; rw [List.range_succ, List.map_append]; rfl
theorem extC_len (i : Nat) (t : List Int) (k : Nat) : (extC i t k).length = k := by unfold extC; simp
theorem choicesL_mem (b : Nat) : ∀ (i : Nat) (t : List Int), t ∈ choicesL b i → t.length = i ∧ ∀ n ∈ t, 0 ≤ n ∧ n < b
  | 0, t, hm => by simp [choicesL] at hm; subst hm; exact ⟨rfl, fun n hn => by cases hn⟩
  | i + 1, t, hm => by
    unfold choicesL at hm
    obtain ⟨u, hu, ht⟩ := List.mem_flatMap.1 hm
    unfold extC at ht
    obtain ⟨j, hj, rfl⟩ := List.mem_map.1 ht
    have hj := List.mem_range.1 hj
    obtain ⟨h1, h2⟩ := choicesL_mem b i u hu
    have hl : 0 ≤ leastC i u := by
      unfold leastC
      split
      · omega
      · rename_i h0
        have hlt : i - 1 < u.length := by omega
        have := (h2 _ (List.getElem_mem hlt)).1
        have e : u.getD (i - 1) 0 = u[i - 1] := by simp [hlt]
        omega
    refine ⟨by simp [h1], fun n hn => ?_⟩
    rcases List.mem_append.1 hn with h | h
    · exact h2 n h
    · simp at h
      unfold widthC at hj
      omega
theorem leastC_nn {b i : Nat} {t : List Int} (hm : t ∈ choicesL b i) : 0 ≤ leastC i t ∧ leastC i t ≤ b := by
  obtain ⟨h1, h2⟩ := choicesL_mem b i t hm
  unfold leastC
  split
  · omega
  · have hlt : i - 1 < t.length := by omega
    have := h2 _ (List.getElem_mem hlt)
    have e : t.getD (i - 1) 0 = t[i - 1] := by simp [hlt]
    omega
theorem choicesL_len {b : Nat} (hb : b ≤ 5) : ∀ i, (choicesL b i).length ≤ 5 ^ i
  | 0 => by simp [choicesL]
  | i + 1 => by
    have a := flat_len (fun t => extC i t (widthC b i t)) 5 (choicesL b i) fun t ht => by
      rw [extC_len]; have := leastC_nn ht; unfold widthC; omega
    have c := choicesL_len hb i
    unfold choicesL
    rw [Nat.pow_succ]
    exact Nat.le_trans a (Nat.mul_le_mul_right 5 c)
def vC (ts : List (List Int)) : AV := .lst 0 (zT 1 ts.length) (ts.map vI)
theorem vI_cleanL (l : List (List Int)) : cleanL (l.map vI) = some (l.map vI) := cleanL_map (fun x => vI_clean x) l
theorem vI_get (l : List (List Int)) (k : Nat) : (l.map vI)[k]? = (l[k]?).map vI := by simp
theorem vI_underL (n : Nat) (l : List (List Int)) : underL n (l.map vI) = true := underL_map (fun x => vI_under n x) l
theorem vI_var (l : List (List Int)) : (l.map vI).all AV.var = true := all_map (fun _ => rfl) l
attribute [go_sem] vI_cleanL vI_get vI_underL vI_var
theorem vC_clean (ts : List (List Int)) : (vC ts).clean = some (vC ts) := by simp only [vC, go_sem, ↓reduceIte, Nat.reduceBEq, Nat.reduceEqDiff, Nat.reduceLT, Nat.reduceLeDiff, Nat.reduceAdd, Nat.reduceMul, Nat.reduceSub, reduceCtorEq, Int.reduceLT, Int.reduceLE, Int.reduceEq, Int.reduceBEq, Int.reduceBNe, Int.reduceToNat, Int.reduceAdd, Int.reduceNeg, Int.reduceSub]
theorem rows_vI {xs : List AV} {ts : List (List Int)} (h : Rows xs ts) (hn : ∀ t ∈ ts, t ≠ []) : cleanL xs = some (ts.map vI) := by
  rw [h.clean_eq hn]
  congr 1
  apply List.map_congr_left
  intro t ht
  unfold eR vI
  rw [zT_pos (List.length_pos_iff.2 (hn t ht))]

theorem c85 (b m : Nat) (hb : b ≤ 5) (hm5 : m ≤ 5) (h : Heap) : callPure (EW tabX) 85 [.int .i64 b, .int .i64 m] h = some (vC (choicesL b m), h) := by
  have key : ∃ s : RS, (Rows s.xs (choicesL b m) ∧ (s.xs ≠ [] → s.z = 1) ∧ (s.xs = [] → s.z = 0) ∧ (m = 0 → s.xs = [.lst 1 0 []])) ∧ ∃ h1, (EW tabX).call 85 [.int .i64 b, .int .i64 m] ⟨[], []⟩ = some (s.v, h1) := by
    rw [w_call _ fn_85 rfl]
    simp only [go_sem, ↓reduceIte, Nat.reduceBEq, Nat.reduceEqDiff, Nat.reduceLT, Nat.reduceLeDiff, Nat.reduceAdd, Nat.reduceMul, Nat.reduceSub, reduceCtorEq, Int.reduceLT, Int.reduceLE, Int.reduceEq, Int.reduceBEq, Int.reduceBNe, Int.reduceToNat, Int.reduceAdd, Int.reduceNeg, Int.reduceSub]
    generalize hx : (EW tabX).code 85 none (Code.loop _) _ = x
    refine w_rounds_sk hx (fun k (s : RS) => [(5, s.v), (6, .int .i64 k)]) (fun s => ⟨[], s.t⟩) (fun k s => Rows s.xs (choicesL b k) ∧ (s.xs ≠ [] → s.z = 1) ∧ (s.xs = [] → s.z = 0) ∧ (k = 0 → s.xs = [.lst 1 0 []])) m (.exit 0) (fun s => [(5, s.v), (6, .int .i64 m)]) rfl ⟨1, 1, [.lst 1 0 []], []⟩ ?_ ?_ ?_ ?_ ?_ ?_
    · simp only [go_sem, ↓reduceIte, Nat.reduceBEq, Nat.reduceEqDiff, Nat.reduceLT, Nat.reduceLeDiff, Nat.reduceAdd, Nat.reduceMul, Nat.reduceSub, reduceCtorEq, Int.reduceLT, Int.reduceLE, Int.reduceEq, Int.reduceBEq, Int.reduceBNe, Int.reduceToNat, Int.reduceAdd, Int.reduceNeg, Int.reduceSub, RS.v]
    · rfl
    · refine ⟨⟨rfl, fun i t hi => ?_⟩, fun _ => rfl, fun h => (by cases h), fun _ => rfl⟩
      cases i with
      | zero => simp [choicesL] at hi; subst hi; exact ⟨1, 0, rfl, fun h => absurd rfl h⟩
      | succ i => simp [choicesL] at hi
    · intro e s he hR
      obtain ⟨hrow, hz, hz0, _⟩ := hR
      obtain ⟨tg, z, xs, t⟩ := s
      have hrow : Rows xs (choicesL b e) := hrow
      have hz : xs ≠ [] → z = 1 := hz
      have hei : (e : Int) < m := by omega
      have hxl := hrow.1
      have hlen := choicesL_len hb e
      have hp : 5 ^ e ≤ 625 := by
        have : 5 ^ e ≤ 5 ^ 4 := Nat.pow_le_pow_right (by omega) (by omega)
        omega
      simp only [go_sem, ↓reduceIte, Nat.reduceBEq, Nat.reduceEqDiff, Nat.reduceLT, Nat.reduceLeDiff, Nat.reduceAdd, Nat.reduceMul, Nat.reduceSub, reduceCtorEq, Int.reduceLT, Int.reduceLE, Int.reduceEq, Int.reduceBEq, Int.reduceBNe, Int.reduceToNat, Int.reduceAdd, Int.reduceNeg, Int.reduceSub, hei, RS.v]
      generalize hy : (EW tabX).code 85 none (Code.loop _) _ = y
      refine w_rounds_sk hy (fun k (s : RS) => [(7, s.v), (8, .int .i64 k)]) (fun s => ⟨[], s.t⟩) (fun k s => s.is (((choicesL b e).take k).flatMap fun t => extC e t (widthC b e t))) (choicesL b e).length (.exit 2) (fun s => [(7, s.v), (8, .int .i64 (choicesL b e).length)]) rfl ⟨1, 0, [], t⟩ ?_ ?_ ?_ ?_ ?_ ?_
      · simp only [go_sem, ↓reduceIte, Nat.reduceBEq, Nat.reduceEqDiff, Nat.reduceLT, Nat.reduceLeDiff, Nat.reduceAdd, Nat.reduceMul, Nat.reduceSub, reduceCtorEq, Int.reduceLT, Int.reduceLE, Int.reduceEq, Int.reduceBEq, Int.reduceBNe, Int.reduceToNat, Int.reduceAdd, Int.reduceNeg, Int.reduceSub, RS.v]
      · rfl
      · exact ⟨⟨rfl, fun i t hi => by simp at hi⟩, .inl ⟨rfl, rfl⟩, fun _ => rfl⟩
      · intro k s hk hR
        obtain ⟨ntg, nz, nxs, nt⟩ := s
        have hki : (k : Int) < xs.length := by omega
        have htk := List.getElem?_eq_getElem hk
        obtain ⟨otg, oz, hox, hoz⟩ := hrow.2 k _ htk
        obtain ⟨htl, htb⟩ := choicesL_mem b e _ (List.getElem_mem hk)
        obtain ⟨hl0, hl1⟩ := leastC_nn (List.getElem_mem hk)
        have hz1 := hz (by intro h; rw [h] at hki; simp at hki; omega)
        subst hz1
        have hflat : ((choicesL b e).take (k + 1)).flatMap (fun t => extC e t (widthC b e t)) = ((choicesL b e).take k).flatMap (fun t => extC e t (widthC b e t)) ++ extC e (choicesL b e)[k] (widthC b e (choicesL b e)[k]) := by
          rw [List.take_add_one, htk, List.flatMap_append]; simp
        have hpl : (((choicesL b e).take k).flatMap fun t => extC e t (widthC b e t)).length ≤ 625 * 5 := by
          have a := flat_len (fun t => extC e t (widthC b e t)) 5 ((choicesL b e).take k) fun t ht => by
            rw [extC_len]; have := leastC_nn (b := b) (List.mem_of_mem_take ht); unfold widthC; omega
          have c : ((choicesL b e).take k).length ≤ 625 := by rw [List.length_take]; omega
          exact Nat.le_trans a (Nat.mul_le_mul_right 5 c)
        rw [hflat]
        generalize (((choicesL b e).take k).flatMap fun t => extC e t (widthC b e t)) = pre at hR hpl ⊢
        generalize (choicesL b e)[k] = tt at hox hoz htl htb hl0 hl1 ⊢
        have hw : (widthC b e tt : Int) = b - leastC e tt := by unfold widthC; omega
        -- the inner loop
        have inner : ∀ (g0 : Slots) (x9 : AV) (w : Option (AExit × St)), True := fun _ _ _ => trivial
        cases e with
        | zero =>
          have hle : leastC 0 tt = 0 := rfl
          simp (disch := omega) only [go_sem, ↓reduceIte, Nat.reduceBEq, Nat.reduceEqDiff, Nat.reduceLT, Nat.reduceLeDiff, Nat.reduceAdd, Nat.reduceMul, Nat.reduceSub, reduceCtorEq, Int.reduceLT, Int.reduceLE, Int.reduceEq, Int.reduceBEq, Int.reduceBNe, Int.reduceToNat, Int.reduceAdd, Int.reduceNeg, Int.reduceSub, hki, RS.v, wrap_i64]
          generalize hz : (EW tabX).code 85 none (Code.loop _) _ = w
          refine w_rounds_sk hz (fun k (s : RS) => [(7, s.v), (10, .int .i64 (leastC 0 tt + (k : Int)))]) (fun s => ⟨[], s.t⟩) (fun j s => s.is (pre ++ extC 0 tt j)) (widthC b 0 tt) (.exit 4) (fun s => [(7, s.v), (10, .int .i64 b)]) rfl ⟨ntg, nz, nxs, nt⟩ ?_ ?_ ?_ ?_ ?_ ?_
          · simp only [go_sem, ↓reduceIte, Nat.reduceBEq, Nat.reduceEqDiff, Nat.reduceLT, Nat.reduceLeDiff, Nat.reduceAdd, Nat.reduceMul, Nat.reduceSub, reduceCtorEq, Int.reduceLT, Int.reduceLE, Int.reduceEq, Int.reduceBEq, Int.reduceBNe, Int.reduceToNat, Int.reduceAdd, Int.reduceNeg, Int.reduceSub, RS.v, Int.add_zero, hle]
          · rfl
          · simpa [extC] using hR
          · intro j s hj hR
            obtain ⟨jtg, jz, jxs, jt⟩ := s
            obtain ⟨hrj, hoj, hj0⟩ := hR
            have hrj : Rows jxs (pre ++ extC 0 tt j) := hrj
            have hoj : OwnS 1 jtg jz jxs.length jt := hoj
            have hji : leastC 0 tt + (j : Int) < b := by omega
            have hjl := hrj.1
            have hel := extC_len 0 tt j
            have hjn : jxs.length ≤ 3200 := by rw [hjl, List.length_append]; omega
            rw [extC_succ]
            have hws : IntKind.i64.wrap (leastC 0 tt + (j : Int) + 1) = leastC 0 tt + ((j : Int) + 1) := by rw [wrap_i64 (by omega)]; omega
            obtain ⟨t2, a1, b1, c1, d1⟩ := app_gen (X := tabX) (ty := 30) (e := 3) (sz := 1) (tag := 1) (z := 1) (t := jt) (xs := []) (.inl ⟨rfl, rfl⟩) otg oz (I tt) (by simp only [go_sem, ↓reduceIte, Nat.reduceBEq, Nat.reduceEqDiff, Nat.reduceLT, Nat.reduceLeDiff, Nat.reduceAdd, Nat.reduceMul, Nat.reduceSub, reduceCtorEq, Int.reduceLT, Int.reduceLE, Int.reduceEq, Int.reduceBEq, Int.reduceBNe, Int.reduceToNat, Int.reduceAdd, Int.reduceNeg, Int.reduceSub]) (by simp only [go_sem, ↓reduceIte, Nat.reduceBEq, Nat.reduceEqDiff, Nat.reduceLT, Nat.reduceLeDiff, Nat.reduceAdd, Nat.reduceMul, Nat.reduceSub, reduceCtorEq, Int.reduceLT, Int.reduceLE, Int.reduceEq, Int.reduceBEq, Int.reduceBNe, Int.reduceToNat, Int.reduceAdd, Int.reduceNeg, Int.reduceSub]) (by omega)
              (by by_cases h : tt = []; exact .inr (by rw [h]; rfl); exact .inl (hoz h)) (by simp only [go_sem, ↓reduceIte, Nat.reduceBEq, Nat.reduceEqDiff, Nat.reduceLT, Nat.reduceLeDiff, Nat.reduceAdd, Nat.reduceMul, Nat.reduceSub, reduceCtorEq, Int.reduceLT, Int.reduceLE, Int.reduceEq, Int.reduceBEq, Int.reduceBNe, Int.reduceToNat, Int.reduceAdd, Int.reduceNeg, Int.reduceSub]; omega) (by simp only [go_sem, ↓reduceIte, Nat.reduceBEq, Nat.reduceEqDiff, Nat.reduceLT, Nat.reduceLeDiff, Nat.reduceAdd, Nat.reduceMul, Nat.reduceSub, reduceCtorEq, Int.reduceLT, Int.reduceLE, Int.reduceEq, Int.reduceBEq, Int.reduceBNe, Int.reduceToNat, Int.reduceAdd, Int.reduceNeg, Int.reduceSub]; omega) (by simp only [go_sem, ↓reduceIte, Nat.reduceBEq, Nat.reduceEqDiff, Nat.reduceLT, Nat.reduceLeDiff, Nat.reduceAdd, Nat.reduceMul, Nat.reduceSub, reduceCtorEq, Int.reduceLT, Int.reduceLE, Int.reduceEq, Int.reduceBEq, Int.reduceBNe, Int.reduceToNat, Int.reduceAdd, Int.reduceNeg, Int.reduceSub]) (by simp only [go_sem, ↓reduceIte, Nat.reduceBEq, Nat.reduceEqDiff, Nat.reduceLT, Nat.reduceLeDiff, Nat.reduceAdd, Nat.reduceMul, Nat.reduceSub, reduceCtorEq, Int.reduceLT, Int.reduceLE, Int.reduceEq, Int.reduceBEq, Int.reduceBNe, Int.reduceToNat, Int.reduceAdd, Int.reduceNeg, Int.reduceSub])
            obtain ⟨t3, a2, b2, c2, d2⟩ := app_gen (X := tabX) (ty := 30) (e := 3) (sz := 1) (tag := jt.length + 2) (z := 1) (t := t2) (xs := I tt) (.inr ⟨jt.length, rfl, rfl, c1⟩) 1 1 [.int .i64 (leastC 0 tt + (j : Int))] (by simp only [go_sem, ↓reduceIte, Nat.reduceBEq, Nat.reduceEqDiff, Nat.reduceLT, Nat.reduceLeDiff, Nat.reduceAdd, Nat.reduceMul, Nat.reduceSub, reduceCtorEq, Int.reduceLT, Int.reduceLE, Int.reduceEq, Int.reduceBEq, Int.reduceBNe, Int.reduceToNat, Int.reduceAdd, Int.reduceNeg, Int.reduceSub]) (by simp only [go_sem, ↓reduceIte, Nat.reduceBEq, Nat.reduceEqDiff, Nat.reduceLT, Nat.reduceLeDiff, Nat.reduceAdd, Nat.reduceMul, Nat.reduceSub, reduceCtorEq, Int.reduceLT, Int.reduceLE, Int.reduceEq, Int.reduceBEq, Int.reduceBNe, Int.reduceToNat, Int.reduceAdd, Int.reduceNeg, Int.reduceSub]) (by omega)
              (.inl rfl) (by simp only [go_sem, ↓reduceIte, Nat.reduceBEq, Nat.reduceEqDiff, Nat.reduceLT, Nat.reduceLeDiff, Nat.reduceAdd, Nat.reduceMul, Nat.reduceSub, reduceCtorEq, Int.reduceLT, Int.reduceLE, Int.reduceEq, Int.reduceBEq, Int.reduceBNe, Int.reduceToNat, Int.reduceAdd, Int.reduceNeg, Int.reduceSub]; omega) (by simp only [go_sem, ↓reduceIte, Nat.reduceBEq, Nat.reduceEqDiff, Nat.reduceLT, Nat.reduceLeDiff, Nat.reduceAdd, Nat.reduceMul, Nat.reduceSub, reduceCtorEq, Int.reduceLT, Int.reduceLE, Int.reduceEq, Int.reduceBEq, Int.reduceBNe, Int.reduceToNat, Int.reduceAdd, Int.reduceNeg, Int.reduceSub]; omega) (by simp only [go_sem, ↓reduceIte, Nat.reduceBEq, Nat.reduceEqDiff, Nat.reduceLT, Nat.reduceLeDiff, Nat.reduceAdd, Nat.reduceMul, Nat.reduceSub, reduceCtorEq, Int.reduceLT, Int.reduceLE, Int.reduceEq, Int.reduceBEq, Int.reduceBNe, Int.reduceToNat, Int.reduceAdd, Int.reduceNeg, Int.reduceSub]) (by simp only [go_sem, ↓reduceIte, Nat.reduceBEq, Nat.reduceEqDiff, Nat.reduceLT, Nat.reduceLeDiff, Nat.reduceAdd, Nat.reduceMul, Nat.reduceSub, reduceCtorEq, Int.reduceLT, Int.reduceLE, Int.reduceEq, Int.reduceBEq, Int.reduceBNe, Int.reduceToNat, Int.reduceAdd, Int.reduceNeg, Int.reduceSub])
            have hown3 : OwnS 1 jtg jz jxs.length t3 := by
              rcases hoj with h | ⟨q, h1, h2, h3⟩
              · exact .inl h
              · have hq : q < jt.length := (List.getElem?_eq_some_iff.1 h3).1
                exact .inr ⟨q, h1, h2, d2 q (by omega) (d1 q (by omega) h3)⟩
            obtain ⟨t4, a3, b3, c3, d3⟩ := app_gen (X := tabX) (ty := 67) (e := 30) (sz := 1) hown3 1 1 [.lst (t2.length + 2) 1 (I (tt ++ [leastC 0 tt + (j : Int)]))] (by simp only [go_sem, ↓reduceIte, Nat.reduceBEq, Nat.reduceEqDiff, Nat.reduceLT, Nat.reduceLeDiff, Nat.reduceAdd, Nat.reduceMul, Nat.reduceSub, reduceCtorEq, Int.reduceLT, Int.reduceLE, Int.reduceEq, Int.reduceBEq, Int.reduceBNe, Int.reduceToNat, Int.reduceAdd, Int.reduceNeg, Int.reduceSub]) (by simp only [go_sem, ↓reduceIte, Nat.reduceBEq, Nat.reduceEqDiff, Nat.reduceLT, Nat.reduceLeDiff, Nat.reduceAdd, Nat.reduceMul, Nat.reduceSub, reduceCtorEq, Int.reduceLT, Int.reduceLE, Int.reduceEq, Int.reduceBEq, Int.reduceBNe, Int.reduceToNat, Int.reduceAdd, Int.reduceNeg, Int.reduceSub]) (by omega)
              (.inl rfl) (by simp only [go_sem, ↓reduceIte, Nat.reduceBEq, Nat.reduceEqDiff, Nat.reduceLT, Nat.reduceLeDiff, Nat.reduceAdd, Nat.reduceMul, Nat.reduceSub, reduceCtorEq, Int.reduceLT, Int.reduceLE, Int.reduceEq, Int.reduceBEq, Int.reduceBNe, Int.reduceToNat, Int.reduceAdd, Int.reduceNeg, Int.reduceSub]; omega) (by simp only [go_sem, ↓reduceIte, Nat.reduceBEq, Nat.reduceEqDiff, Nat.reduceLT, Nat.reduceLeDiff, Nat.reduceAdd, Nat.reduceMul, Nat.reduceSub, reduceCtorEq, Int.reduceLT, Int.reduceLE, Int.reduceEq, Int.reduceBEq, Int.reduceBNe, Int.reduceToNat, Int.reduceAdd, Int.reduceNeg, Int.reduceSub]; omega) (by simp only [go_sem, ↓reduceIte, Nat.reduceBEq, Nat.reduceEqDiff, Nat.reduceLT, Nat.reduceLeDiff, Nat.reduceAdd, Nat.reduceMul, Nat.reduceSub, reduceCtorEq, Int.reduceLT, Int.reduceLE, Int.reduceEq, Int.reduceBEq, Int.reduceBNe, Int.reduceToNat, Int.reduceAdd, Int.reduceNeg, Int.reduceSub]) (by simp only [go_sem, ↓reduceIte, Nat.reduceBEq, Nat.reduceEqDiff, Nat.reduceLT, Nat.reduceLeDiff, Nat.reduceAdd, Nat.reduceMul, Nat.reduceSub, reduceCtorEq, Int.reduceLT, Int.reduceLE, Int.reduceEq, Int.reduceBEq, Int.reduceBNe, Int.reduceToNat, Int.reduceAdd, Int.reduceNeg, Int.reduceSub])
            have hyes : RS.is ⟨t3.length + 2, 1, jxs ++ [.lst (t2.length + 2) 1 (I (tt ++ [leastC 0 tt + (j : Int)]))], t4⟩ (pre ++ (extC 0 tt j ++ [tt ++ [leastC 0 tt + (j : Int)]])) := by
              refine ⟨?_, .inr ⟨t3.length, rfl, rfl, c3⟩, fun h => by simp at h⟩
              rw [← List.append_assoc]
              exact hrj.snoc _ _
            simp only [List.nil_append] at a1
            refine ⟨_, ?_, hyes⟩
            simp (disch := omega) only [go_sem, ↓reduceIte, Nat.reduceBEq, Nat.reduceEqDiff, Nat.reduceLT, Nat.reduceLeDiff, Nat.reduceAdd, Nat.reduceMul, Nat.reduceSub, reduceCtorEq, Int.reduceLT, Int.reduceLE, Int.reduceEq, Int.reduceBEq, Int.reduceBNe, Int.reduceToNat, Int.reduceAdd, Int.reduceNeg, Int.reduceSub, hji, hki, hox, RS.v, hws, a1, a2, a3, I_snoc]
          · intro s hR
            have e1 : leastC 0 tt + (widthC b 0 tt : Int) = b := by omega
            simp only [go_sem, ↓reduceIte, Nat.reduceBEq, Nat.reduceEqDiff, Nat.reduceLT, Nat.reduceLeDiff, Nat.reduceAdd, Nat.reduceMul, Nat.reduceSub, reduceCtorEq, Int.reduceLT, Int.reduceLE, Int.reduceEq, Int.reduceBEq, Int.reduceBNe, Int.reduceToNat, Int.reduceAdd, Int.reduceNeg, Int.reduceSub, RS.v, e1]
          · intro s h1 hR
            subst h1
            exact ⟨s, by simp (disch := omega) only [go_sem, ↓reduceIte, Nat.reduceBEq, Nat.reduceEqDiff, Nat.reduceLT, Nat.reduceLeDiff, Nat.reduceAdd, Nat.reduceMul, Nat.reduceSub, reduceCtorEq, Int.reduceLT, Int.reduceLE, Int.reduceEq, Int.reduceBEq, Int.reduceBNe, Int.reduceToNat, Int.reduceAdd, Int.reduceNeg, Int.reduceSub, RS.v, wrap_i64], hR⟩
        | succ e =>
          have hil : e < tt.length := by omega
          have hg := List.getElem?_eq_getElem hil
          have hoz1 := hoz (by intro h; rw [h] at hil; simp at hil)
          subst hoz1
          have hb1 := htb _ (List.getElem_mem hil)
          have hee : (e : Int) + 1 - 1 = e := by omega
          have hpos : (0 : Int) < (e : Int) + 1 := by omega
          have hle : leastC (e + 1) tt = tt[e] + 1 := by unfold leastC; rw [if_neg (by omega)]; simp [hil]
          simp (disch := omega) only [go_sem, ↓reduceIte, Nat.reduceBEq, Nat.reduceEqDiff, Nat.reduceLT, Nat.reduceLeDiff, Nat.reduceAdd, Nat.reduceMul, Nat.reduceSub, reduceCtorEq, Int.reduceLT, Int.reduceLE, Int.reduceEq, Int.reduceBEq, Int.reduceBNe, Int.reduceToNat, Int.reduceAdd, Int.reduceNeg, Int.reduceSub, hki, RS.v, wrap_i64, hpos, hox, hee, hg]
          generalize hz : (EW tabX).code 85 none (Code.loop _) _ = w
          refine w_rounds_sk hz (fun k (s : RS) => [(7, s.v), (10, .int .i64 (leastC (e + 1) tt + (k : Int)))]) (fun s => ⟨[], s.t⟩) (fun j s => s.is (pre ++ extC (e + 1) tt j)) (widthC b (e + 1) tt) (.exit 4) (fun s => [(7, s.v), (10, .int .i64 b)]) rfl ⟨ntg, nz, nxs, nt⟩ ?_ ?_ ?_ ?_ ?_ ?_
          · simp only [go_sem, ↓reduceIte, Nat.reduceBEq, Nat.reduceEqDiff, Nat.reduceLT, Nat.reduceLeDiff, Nat.reduceAdd, Nat.reduceMul, Nat.reduceSub, reduceCtorEq, Int.reduceLT, Int.reduceLE, Int.reduceEq, Int.reduceBEq, Int.reduceBNe, Int.reduceToNat, Int.reduceAdd, Int.reduceNeg, Int.reduceSub, RS.v, Int.add_zero, hle]
          · rfl
          · simpa [extC] using hR
          · intro j s hj hR
            obtain ⟨jtg, jz, jxs, jt⟩ := s
            obtain ⟨hrj, hoj, hj0⟩ := hR
            have hrj : Rows jxs (pre ++ extC (e + 1) tt j) := hrj
            have hoj : OwnS 1 jtg jz jxs.length jt := hoj
            have hji : leastC (e + 1) tt + (j : Int) < b := by omega
            have hjl := hrj.1
            have hel := extC_len (e + 1) tt j
            have hjn : jxs.length ≤ 3200 := by rw [hjl, List.length_append]; omega
            rw [extC_succ]
            have hws : IntKind.i64.wrap (leastC (e + 1) tt + (j : Int) + 1) = leastC (e + 1) tt + ((j : Int) + 1) := by rw [wrap_i64 (by omega)]; omega
            obtain ⟨t2, a1, b1, c1, d1⟩ := app_gen (X := tabX) (ty := 30) (e := 3) (sz := 1) (tag := 1) (z := 1) (t := jt) (xs := []) (.inl ⟨rfl, rfl⟩) otg 1 (I tt) (by simp only [go_sem, ↓reduceIte, Nat.reduceBEq, Nat.reduceEqDiff, Nat.reduceLT, Nat.reduceLeDiff, Nat.reduceAdd, Nat.reduceMul, Nat.reduceSub, reduceCtorEq, Int.reduceLT, Int.reduceLE, Int.reduceEq, Int.reduceBEq, Int.reduceBNe, Int.reduceToNat, Int.reduceAdd, Int.reduceNeg, Int.reduceSub]) (by simp only [go_sem, ↓reduceIte, Nat.reduceBEq, Nat.reduceEqDiff, Nat.reduceLT, Nat.reduceLeDiff, Nat.reduceAdd, Nat.reduceMul, Nat.reduceSub, reduceCtorEq, Int.reduceLT, Int.reduceLE, Int.reduceEq, Int.reduceBEq, Int.reduceBNe, Int.reduceToNat, Int.reduceAdd, Int.reduceNeg, Int.reduceSub]) (by omega)
              (.inl rfl) (by simp only [go_sem, ↓reduceIte, Nat.reduceBEq, Nat.reduceEqDiff, Nat.reduceLT, Nat.reduceLeDiff, Nat.reduceAdd, Nat.reduceMul, Nat.reduceSub, reduceCtorEq, Int.reduceLT, Int.reduceLE, Int.reduceEq, Int.reduceBEq, Int.reduceBNe, Int.reduceToNat, Int.reduceAdd, Int.reduceNeg, Int.reduceSub]; omega) (by simp only [go_sem, ↓reduceIte, Nat.reduceBEq, Nat.reduceEqDiff, Nat.reduceLT, Nat.reduceLeDiff, Nat.reduceAdd, Nat.reduceMul, Nat.reduceSub, reduceCtorEq, Int.reduceLT, Int.reduceLE, Int.reduceEq, Int.reduceBEq, Int.reduceBNe, Int.reduceToNat, Int.reduceAdd, Int.reduceNeg, Int.reduceSub]; omega) (by simp only [go_sem, ↓reduceIte, Nat.reduceBEq, Nat.reduceEqDiff, Nat.reduceLT, Nat.reduceLeDiff, Nat.reduceAdd, Nat.reduceMul, Nat.reduceSub, reduceCtorEq, Int.reduceLT, Int.reduceLE, Int.reduceEq, Int.reduceBEq, Int.reduceBNe, Int.reduceToNat, Int.reduceAdd, Int.reduceNeg, Int.reduceSub]) (by simp only [go_sem, ↓reduceIte, Nat.reduceBEq, Nat.reduceEqDiff, Nat.reduceLT, Nat.reduceLeDiff, Nat.reduceAdd, Nat.reduceMul, Nat.reduceSub, reduceCtorEq, Int.reduceLT, Int.reduceLE, Int.reduceEq, Int.reduceBEq, Int.reduceBNe, Int.reduceToNat, Int.reduceAdd, Int.reduceNeg, Int.reduceSub])
            obtain ⟨t3, a2, b2, c2, d2⟩ := app_gen (X := tabX) (ty := 30) (e := 3) (sz := 1) (tag := jt.length + 2) (z := 1) (t := t2) (xs := I tt) (.inr ⟨jt.length, rfl, rfl, c1⟩) 1 1 [.int .i64 (leastC (e + 1) tt + (j : Int))] (by simp only [go_sem, ↓reduceIte, Nat.reduceBEq, Nat.reduceEqDiff, Nat.reduceLT, Nat.reduceLeDiff, Nat.reduceAdd, Nat.reduceMul, Nat.reduceSub, reduceCtorEq, Int.reduceLT, Int.reduceLE, Int.reduceEq, Int.reduceBEq, Int.reduceBNe, Int.reduceToNat, Int.reduceAdd, Int.reduceNeg, Int.reduceSub]) (by simp only [go_sem, ↓reduceIte, Nat.reduceBEq, Nat.reduceEqDiff, Nat.reduceLT, Nat.reduceLeDiff, Nat.reduceAdd, Nat.reduceMul, Nat.reduceSub, reduceCtorEq, Int.reduceLT, Int.reduceLE, Int.reduceEq, Int.reduceBEq, Int.reduceBNe, Int.reduceToNat, Int.reduceAdd, Int.reduceNeg, Int.reduceSub]) (by omega)
              (.inl rfl) (by simp only [go_sem, ↓reduceIte, Nat.reduceBEq, Nat.reduceEqDiff, Nat.reduceLT, Nat.reduceLeDiff, Nat.reduceAdd, Nat.reduceMul, Nat.reduceSub, reduceCtorEq, Int.reduceLT, Int.reduceLE, Int.reduceEq, Int.reduceBEq, Int.reduceBNe, Int.reduceToNat, Int.reduceAdd, Int.reduceNeg, Int.reduceSub]; omega) (by simp only [go_sem, ↓reduceIte, Nat.reduceBEq, Nat.reduceEqDiff, Nat.reduceLT, Nat.reduceLeDiff, Nat.reduceAdd, Nat.reduceMul, Nat.reduceSub, reduceCtorEq, Int.reduceLT, Int.reduceLE, Int.reduceEq, Int.reduceBEq, Int.reduceBNe, Int.reduceToNat, Int.reduceAdd, Int.reduceNeg, Int.reduceSub]; omega) (by simp only [go_sem, ↓reduceIte, Nat.reduceBEq, Nat.reduceEqDiff, Nat.reduceLT, Nat.reduceLeDiff, Nat.reduceAdd, Nat.reduceMul, Nat.reduceSub, reduceCtorEq, Int.reduceLT, Int.reduceLE, Int.reduceEq, Int.reduceBEq, Int.reduceBNe, Int.reduceToNat, Int.reduceAdd, Int.reduceNeg, Int.reduceSub]) (by simp only [go_sem, ↓reduceIte, Nat.reduceBEq, Nat.reduceEqDiff, Nat.reduceLT, Nat.reduceLeDiff, Nat.reduceAdd, Nat.reduceMul, Nat.reduceSub, reduceCtorEq, Int.reduceLT, Int.reduceLE, Int.reduceEq, Int.reduceBEq, Int.reduceBNe, Int.reduceToNat, Int.reduceAdd, Int.reduceNeg, Int.reduceSub])
            have hown3 : OwnS 1 jtg jz jxs.length t3 := by
              rcases hoj with h | ⟨q, h1, h2, h3⟩
              · exact .inl h
              · have hq : q < jt.length := (List.getElem?_eq_some_iff.1 h3).1
                exact .inr ⟨q, h1, h2, d2 q (by omega) (d1 q (by omega) h3)⟩
            obtain ⟨t4, a3, b3, c3, d3⟩ := app_gen (X := tabX) (ty := 67) (e := 30) (sz := 1) hown3 1 1 [.lst (t2.length + 2) 1 (I (tt ++ [leastC (e + 1) tt + (j : Int)]))] (by simp only [go_sem, ↓reduceIte, Nat.reduceBEq, Nat.reduceEqDiff, Nat.reduceLT, Nat.reduceLeDiff, Nat.reduceAdd, Nat.reduceMul, Nat.reduceSub, reduceCtorEq, Int.reduceLT, Int.reduceLE, Int.reduceEq, Int.reduceBEq, Int.reduceBNe, Int.reduceToNat, Int.reduceAdd, Int.reduceNeg, Int.reduceSub]) (by simp only [go_sem, ↓reduceIte, Nat.reduceBEq, Nat.reduceEqDiff, Nat.reduceLT, Nat.reduceLeDiff, Nat.reduceAdd, Nat.reduceMul, Nat.reduceSub, reduceCtorEq, Int.reduceLT, Int.reduceLE, Int.reduceEq, Int.reduceBEq, Int.reduceBNe, Int.reduceToNat, Int.reduceAdd, Int.reduceNeg, Int.reduceSub]) (by omega)
              (.inl rfl) (by simp only [go_sem, ↓reduceIte, Nat.reduceBEq, Nat.reduceEqDiff, Nat.reduceLT, Nat.reduceLeDiff, Nat.reduceAdd, Nat.reduceMul, Nat.reduceSub, reduceCtorEq, Int.reduceLT, Int.reduceLE, Int.reduceEq, Int.reduceBEq, Int.reduceBNe, Int.reduceToNat, Int.reduceAdd, Int.reduceNeg, Int.reduceSub]; omega) (by simp only [go_sem, ↓reduceIte, Nat.reduceBEq, Nat.reduceEqDiff, Nat.reduceLT, Nat.reduceLeDiff, Nat.reduceAdd, Nat.reduceMul, Nat.reduceSub, reduceCtorEq, Int.reduceLT, Int.reduceLE, Int.reduceEq, Int.reduceBEq, Int.reduceBNe, Int.reduceToNat, Int.reduceAdd, Int.reduceNeg, Int.reduceSub]; omega) (by simp only [go_sem, ↓reduceIte, Nat.reduceBEq, Nat.reduceEqDiff, Nat.reduceLT, Nat.reduceLeDiff, Nat.reduceAdd, Nat.reduceMul, Nat.reduceSub, reduceCtorEq, Int.reduceLT, Int.reduceLE, Int.reduceEq, Int.reduceBEq, Int.reduceBNe, Int.reduceToNat, Int.reduceAdd, Int.reduceNeg, Int.reduceSub]) (by simp only [go_sem, ↓reduceIte, Nat.reduceBEq, Nat.reduceEqDiff, Nat.reduceLT, Nat.reduceLeDiff, Nat.reduceAdd, Nat.reduceMul, Nat.reduceSub, reduceCtorEq, Int.reduceLT, Int.reduceLE, Int.reduceEq, Int.reduceBEq, Int.reduceBNe, Int.reduceToNat, Int.reduceAdd, Int.reduceNeg, Int.reduceSub])
            have hyes : RS.is ⟨t3.length + 2, 1, jxs ++ [.lst (t2.length + 2) 1 (I (tt ++ [leastC (e + 1) tt + (j : Int)]))], t4⟩ (pre ++ (extC (e + 1) tt j ++ [tt ++ [leastC (e + 1) tt + (j : Int)]])) := by
              refine ⟨?_, .inr ⟨t3.length, rfl, rfl, c3⟩, fun h => by simp at h⟩
              rw [← List.append_assoc]
              exact hrj.snoc _ _
            simp only [List.nil_append] at a1
            refine ⟨_, ?_, hyes⟩
            simp (disch := omega) only [go_sem, ↓reduceIte, Nat.reduceBEq, Nat.reduceEqDiff, Nat.reduceLT, Nat.reduceLeDiff, Nat.reduceAdd, Nat.reduceMul, Nat.reduceSub, reduceCtorEq, Int.reduceLT, Int.reduceLE, Int.reduceEq, Int.reduceBEq, Int.reduceBNe, Int.reduceToNat, Int.reduceAdd, Int.reduceNeg, Int.reduceSub, hji, hki, hox, RS.v, hws, a1, a2, a3, I_snoc]
          · intro s hR
            have e1 : leastC (e + 1) tt + (widthC b (e + 1) tt : Int) = b := by omega
            simp only [go_sem, ↓reduceIte, Nat.reduceBEq, Nat.reduceEqDiff, Nat.reduceLT, Nat.reduceLeDiff, Nat.reduceAdd, Nat.reduceMul, Nat.reduceSub, reduceCtorEq, Int.reduceLT, Int.reduceLE, Int.reduceEq, Int.reduceBEq, Int.reduceBNe, Int.reduceToNat, Int.reduceAdd, Int.reduceNeg, Int.reduceSub, RS.v, e1]
          · intro s h1 hR
            subst h1
            exact ⟨s, by simp (disch := omega) only [go_sem, ↓reduceIte, Nat.reduceBEq, Nat.reduceEqDiff, Nat.reduceLT, Nat.reduceLeDiff, Nat.reduceAdd, Nat.reduceMul, Nat.reduceSub, reduceCtorEq, Int.reduceLT, Int.reduceLE, Int.reduceEq, Int.reduceBEq, Int.reduceBNe, Int.reduceToNat, Int.reduceAdd, Int.reduceNeg, Int.reduceSub, RS.v, wrap_i64], hR⟩
      · intro s hR
        simp only [go_sem, ↓reduceIte, Nat.reduceBEq, Nat.reduceEqDiff, Nat.reduceLT, Nat.reduceLeDiff, Nat.reduceAdd, Nat.reduceMul, Nat.reduceSub, reduceCtorEq, Int.reduceLT, Int.reduceLE, Int.reduceEq, Int.reduceBEq, Int.reduceBNe, Int.reduceToNat, Int.reduceAdd, Int.reduceNeg, Int.reduceSub, RS.v, hxl]
      · intro s h1 hR
        subst h1
        rw [List.take_length] at hR
        refine ⟨s, by simp (disch := omega) only [go_sem, ↓reduceIte, Nat.reduceBEq, Nat.reduceEqDiff, Nat.reduceLT, Nat.reduceLeDiff, Nat.reduceAdd, Nat.reduceMul, Nat.reduceSub, reduceCtorEq, Int.reduceLT, Int.reduceLE, Int.reduceEq, Int.reduceBEq, Int.reduceBNe, Int.reduceToNat, Int.reduceAdd, Int.reduceNeg, Int.reduceSub, RS.v, wrap_i64], hR.1, fun hne => ?_, fun hnil => hR.2.2 hnil, fun h => by cases h⟩
        rcases hR.2.1 with ⟨_, h0⟩ | ⟨_, _, h0, _⟩
        · exact absurd (List.eq_nil_of_length_eq_zero h0) hne
        · exact h0
    · intro s hR
      simp only [go_sem, ↓reduceIte, Nat.reduceBEq, Nat.reduceEqDiff, Nat.reduceLT, Nat.reduceLeDiff, Nat.reduceAdd, Nat.reduceMul, Nat.reduceSub, reduceCtorEq, Int.reduceLT, Int.reduceLE, Int.reduceEq, Int.reduceBEq, Int.reduceBNe, Int.reduceToNat, Int.reduceAdd, Int.reduceNeg, Int.reduceSub, RS.v]
    · intro s h1 hR
      subst h1
      have hun := hR.1.under 0
      exact ⟨s, hR, ⟨[], s.t⟩, by simp only [go_sem, ↓reduceIte, Nat.reduceBEq, Nat.reduceEqDiff, Nat.reduceLT, Nat.reduceLeDiff, Nat.reduceAdd, Nat.reduceMul, Nat.reduceSub, reduceCtorEq, Int.reduceLT, Int.reduceLE, Int.reduceEq, Int.reduceBEq, Int.reduceBNe, Int.reduceToNat, Int.reduceAdd, Int.reduceNeg, Int.reduceSub, RS.v, hun]⟩
  obtain ⟨s, ⟨hrow, hz, hz0, h00⟩, h1, hcall⟩ := key
  have hcl : cleanL s.xs = some ((choicesL b m).map vI) := by
    by_cases hm : m = 0
    · rw [h00 hm, hm]; simp only [go_sem, ↓reduceIte, Nat.reduceBEq, Nat.reduceEqDiff, Nat.reduceLT, Nat.reduceLeDiff, Nat.reduceAdd, Nat.reduceMul, Nat.reduceSub, reduceCtorEq, Int.reduceLT, Int.reduceLE, Int.reduceEq, Int.reduceBEq, Int.reduceBNe, Int.reduceToNat, Int.reduceAdd, Int.reduceNeg, Int.reduceSub, choicesL, vI, List.map_cons]
    · exact rows_vI hrow fun t ht e => by
        have := (choicesL_mem b m t ht).1
        rw [e] at this; simp at this; omega
  refine pure_of hcall ?_
  have hzz : s.z = zT 1 (choicesL b m).length := by
    cases hq : choicesL b m with
    | nil =>
      have : s.xs = [] := List.eq_nil_of_length_eq_zero (by rw [hrow.1, hq]; rfl)
      rw [hz0 this]; rfl
    | cons a b =>
      have : s.xs ≠ [] := fun h => by have := hrow.1; rw [h, hq] at this; simp at this
      rw [hz this]; rfl
  simp only [RS.v, go_sem, ↓reduceIte, Nat.reduceBEq, Nat.reduceEqDiff, Nat.reduceLT, Nat.reduceLeDiff, Nat.reduceAdd, Nat.reduceMul, Nat.reduceSub, reduceCtorEq, Int.reduceLT, Int.reduceLE, Int.reduceEq, Int.reduceBEq, Int.reduceBNe, Int.reduceToNat, Int.reduceAdd, Int.reduceNeg, Int.reduceSub, hcl, vC, hzz]
end Go.Proofs.Ytaohhjaogjcfoaa
end
section
namespace Go.Proofs.Ytaohhjaogjcfoaa
open Go.Proofs

def someB (h : Ho) (but : List Int) : Bool := decide (0 < (truthsL h but).length)
def hitC (h : Ho) (l : List (List Int)) (i : Nat) : Int := if someB h (l.getD i []) = true then 1 else 0
def hitK (h : Ho) (k : Nat) : Int := match firstBad (hitC h (choicesL h.entries.length k)) 0 (choicesL h.entries.length k).length with | some _ => 1 | none => 0
def wrongR (h : Ho) : List Int × Int := match firstBad (hitK h) 0 (h.entries.length + 1) with
  | some k => match firstBad (hitC h (choicesL h.entries.length k)) 0 (choicesL h.entries.length k).length with
    | some i => ((choicesL h.entries.length k).getD i [], 0)
    | none => ([], 9)
  | none => ([], 9)
def wrongV (h : Ho) : List Int × Int := if checkE h = 0 then wrongR h else ([], checkE h)
def vL (x : List Int × Int) : AV := .tup [vI x.1, .int .i64 x.2]
theorem vL_clean (x : List Int × Int) : (vL x).clean = some (vL x) := by simp only [vL, vI, go_sem, ↓reduceIte, Nat.reduceBEq, Nat.reduceEqDiff, Nat.reduceLT, Nat.reduceLeDiff, Nat.reduceAdd, Nat.reduceMul, Nat.reduceSub, reduceCtorEq, Int.reduceLT, Int.reduceLE, Int.reduceEq, Int.reduceBEq, Int.reduceBNe, Int.reduceToNat, Int.reduceAdd, Int.reduceNeg, Int.reduceSub]
theorem c31 (d : Ho) (hd : d.fits) (h : Heap) : callPure (EW tabX) 31 [eH d] h = some (vL (wrongV d), h) := by
  have hcl := eH_clean d
  have h17 := c17 d hd
  rw [callPure_eq, w_call _ fn_31 rfl]
  unfold wrongV
  have hce : (checkH d).2.2 = checkE d := rfl
  simp only [eH, eHc, tup3] at h17 hcl
  by_cases h0 : checkE d = 0
  rotate_left
  · have hne : (checkE d != 0) = true := by simpa using h0
    simp (disch := omega) only [go_sem, ↓reduceIte, Nat.reduceBEq, Nat.reduceEqDiff, Nat.reduceLT, Nat.reduceLeDiff, Nat.reduceAdd, Nat.reduceMul, Nat.reduceSub, reduceCtorEq, Int.reduceLT, Int.reduceLE, Int.reduceEq, Int.reduceBEq, Int.reduceBNe, Int.reduceToNat, Int.reduceAdd, Int.reduceNeg, Int.reduceSub, eH, eHc, h17, hce, h0, hne, vL, vI]
  have ho := ok_of_E h0
  have he5 := ho.e5
  simp (disch := omega) only [go_sem, ↓reduceIte, Nat.reduceBEq, Nat.reduceEqDiff, Nat.reduceLT, Nat.reduceLeDiff, Nat.reduceAdd, Nat.reduceMul, Nat.reduceSub, reduceCtorEq, Int.reduceLT, Int.reduceLE, Int.reduceEq, Int.reduceBEq, Int.reduceBNe, Int.reduceToNat, Int.reduceAdd, Int.reduceNeg, Int.reduceSub, eH, eHc, h17, hce, h0]
  have inner : ∀ (k : Nat), k ≤ d.entries.length → ∀ i, i < (choicesL d.entries.length k).length → ∃ t, (choicesL d.entries.length k)[i]? = some t ∧ (choicesL d.entries.length k).getD i [] = t ∧ ∀ h, callPure (EW tabX) 45 [eH d, vI t] h = some (vR (truthsL d t), h) := fun k hk i hi => by
    have hx := List.getElem?_eq_getElem hi
    obtain ⟨m1, m2⟩ := choicesL_mem _ k _ (List.getElem_mem hi)
    refine ⟨_, hx, by simp [hi], fun h => ?_⟩
    have := c45 d hd ho (choicesL d.entries.length k)[i] (zT 1 (choicesL d.entries.length k)[i].length) (fun hne => zT_pos (List.length_pos_iff.2 hne)) (by omega) h
    exact this
  rw [w_first (fun k => [(7, .int .i64 k)]) (fun _ => ⟨[.cells (eHc d)], []⟩) (hitK d) (d.entries.length + 1) .ret
    (fun k => match firstBad (hitC d (choicesL d.entries.length k)) 0 (choicesL d.entries.length k).length with
      | some i => [(2, vI ((choicesL d.entries.length k).getD i [])), (3, .int .i64 0), (7, .int .i64 k), (8, vC (choicesL d.entries.length k)), (9, .int .i64 i)]
      | none => [])
    (fun _ => ⟨[.cells (eHc d)], []⟩) (.exit 0) [(7, .int .i64 ((d.entries.length : Int) + 1))] ⟨[.cells (eHc d)], []⟩ ?_ ?_ ?_ ?_ ?_ rfl rfl]
  · unfold firstW wrongR
    cases h1 : firstBad (hitK d) 0 (d.entries.length + 1) with
    | some k =>
      have hne := (firstBad_some h1).2.2.1
      unfold hitK at hne
      cases h2 : firstBad (hitC d (choicesL d.entries.length k)) 0 (choicesL d.entries.length k).length with
      | some i => simp only [go_sem, ↓reduceIte, Nat.reduceBEq, Nat.reduceEqDiff, Nat.reduceLT, Nat.reduceLeDiff, Nat.reduceAdd, Nat.reduceMul, Nat.reduceSub, reduceCtorEq, Int.reduceLT, Int.reduceLE, Int.reduceEq, Int.reduceBEq, Int.reduceBNe, Int.reduceToNat, Int.reduceAdd, Int.reduceNeg, Int.reduceSub, h2, vL, vI]
      | none => rw [h2] at hne; exact absurd rfl hne
    | none => simp only [go_sem, ↓reduceIte, Nat.reduceBEq, Nat.reduceEqDiff, Nat.reduceLT, Nat.reduceLeDiff, Nat.reduceAdd, Nat.reduceMul, Nat.reduceSub, reduceCtorEq, Int.reduceLT, Int.reduceLE, Int.reduceEq, Int.reduceBEq, Int.reduceBNe, Int.reduceToNat, Int.reduceAdd, Int.reduceNeg, Int.reduceSub, vL, vI]
  · simp only [go_sem, ↓reduceIte, Nat.reduceBEq, Nat.reduceEqDiff, Nat.reduceLT, Nat.reduceLeDiff, Nat.reduceAdd, Nat.reduceMul, Nat.reduceSub, reduceCtorEq, Int.reduceLT, Int.reduceLE, Int.reduceEq, Int.reduceBEq, Int.reduceBNe, Int.reduceToNat, Int.reduceAdd, Int.reduceNeg, Int.reduceSub]
  · simp only [eHc]
  · intro k hk hz
    have hkl : k ≤ d.entries.length := by omega
    have hki : (k : Int) ≤ d.entries.length := by omega
    have h85 := c85 d.entries.length k (by omega) (by omega)
    have hin := inner k hkl
    unfold hitK at hz
    have hlen := choicesL_len (b := d.entries.length) (by omega) k
    have hp : 5 ^ k ≤ 5 ^ 5 := Nat.pow_le_pow_right (by omega) (by omega)
    generalize choicesL d.entries.length k = l at h85 hin hz hlen ⊢
    simp only [vC] at h85
    simp (disch := omega) only [go_sem, ↓reduceIte, Nat.reduceBEq, Nat.reduceEqDiff, Nat.reduceLT, Nat.reduceLeDiff, Nat.reduceAdd, Nat.reduceMul, Nat.reduceSub, reduceCtorEq, Int.reduceLT, Int.reduceLE, Int.reduceEq, Int.reduceBEq, Int.reduceBNe, Int.reduceToNat, Int.reduceAdd, Int.reduceNeg, Int.reduceSub, eHc, hki, h85]
    rw [w_first (fun i => [(9, .int .i64 i)]) (fun _ => ⟨[.cells (eHc d)], []⟩) (hitC d l) l.length .ret (fun i => [(2, vI (l.getD i [])), (3, .int .i64 0), (9, .int .i64 i)]) (fun _ => ⟨[.cells (eHc d)], []⟩) (.exit 2) [(9, .int .i64 l.length)] ⟨[.cells (eHc d)], []⟩ ?_ ?_ ?_ ?_ ?_ rfl rfl]
    · unfold firstW
      cases h2 : firstBad (hitC d l) 0 l.length with
      | some i => rw [h2] at hz; cases hz
      | none => simp (disch := omega) only [go_sem, ↓reduceIte, Nat.reduceBEq, Nat.reduceEqDiff, Nat.reduceLT, Nat.reduceLeDiff, Nat.reduceAdd, Nat.reduceMul, Nat.reduceSub, reduceCtorEq, Int.reduceLT, Int.reduceLE, Int.reduceEq, Int.reduceBEq, Int.reduceBNe, Int.reduceToNat, Int.reduceAdd, Int.reduceNeg, Int.reduceSub, eHc, wrap_i64]
    · simp only [go_sem, ↓reduceIte, Nat.reduceBEq, Nat.reduceEqDiff, Nat.reduceLT, Nat.reduceLeDiff, Nat.reduceAdd, Nat.reduceMul, Nat.reduceSub, reduceCtorEq, Int.reduceLT, Int.reduceLE, Int.reduceEq, Int.reduceBEq, Int.reduceBNe, Int.reduceToNat, Int.reduceAdd, Int.reduceNeg, Int.reduceSub]
    · simp only [eHc]
    · intro i hi hiz
      have hii : (i : Int) < l.length := by omega
      obtain ⟨t, t1, t2, t3⟩ := hin i hi
      have hzt : zT 1 l.length = 1 := zT_pos (by omega)
      unfold hitC at hiz
      rw [t2] at hiz
      have hsb : someB d t = false := by cases hs : someB d t with | false => rfl | true => rw [hs] at hiz; cases hiz
      have hnn : ¬ (0 : Int) < (truthsL d t).length := by unfold someB at hsb; have := of_decide_eq_false hsb; omega
      simp only [go_sem, ↓reduceIte, Nat.reduceBEq, Nat.reduceEqDiff, Nat.reduceLT, Nat.reduceLeDiff, Nat.reduceAdd, Nat.reduceMul, Nat.reduceSub, reduceCtorEq, Int.reduceLT, Int.reduceLE, Int.reduceEq, Int.reduceBEq, Int.reduceBNe, Int.reduceToNat, Int.reduceAdd, Int.reduceNeg, Int.reduceSub, eH, eHc, vR, vI] at t3
      simp (disch := omega) only [go_sem, ↓reduceIte, Nat.reduceBEq, Nat.reduceEqDiff, Nat.reduceLT, Nat.reduceLeDiff, Nat.reduceAdd, Nat.reduceMul, Nat.reduceSub, reduceCtorEq, Int.reduceLT, Int.reduceLE, Int.reduceEq, Int.reduceBEq, Int.reduceBNe, Int.reduceToNat, Int.reduceAdd, Int.reduceNeg, Int.reduceSub, eHc, hii, t1, hzt, vI, t3, hnn, wrap_i64]
    · intro i hi hiz
      have hii : (i : Int) < l.length := by omega
      obtain ⟨t, t1, t2, t3⟩ := hin i hi
      have hzt : zT 1 l.length = 1 := zT_pos (by omega)
      unfold hitC at hiz
      rw [t2] at hiz ⊢
      have hsb : someB d t = true := by cases hs : someB d t with | true => rfl | false => rw [hs] at hiz; exact absurd rfl hiz
      have hnn : (0 : Int) < (truthsL d t).length := by unfold someB at hsb; have := of_decide_eq_true hsb; omega
      simp only [go_sem, ↓reduceIte, Nat.reduceBEq, Nat.reduceEqDiff, Nat.reduceLT, Nat.reduceLeDiff, Nat.reduceAdd, Nat.reduceMul, Nat.reduceSub, reduceCtorEq, Int.reduceLT, Int.reduceLE, Int.reduceEq, Int.reduceBEq, Int.reduceBNe, Int.reduceToNat, Int.reduceAdd, Int.reduceNeg, Int.reduceSub, eH, eHc, vR, vI] at t3
      simp (disch := omega) only [go_sem, ↓reduceIte, Nat.reduceBEq, Nat.reduceEqDiff, Nat.reduceLT, Nat.reduceLeDiff, Nat.reduceAdd, Nat.reduceMul, Nat.reduceSub, reduceCtorEq, Int.reduceLT, Int.reduceLE, Int.reduceEq, Int.reduceBEq, Int.reduceBNe, Int.reduceToNat, Int.reduceAdd, Int.reduceNeg, Int.reduceSub, eHc, hii, t1, hzt, vI, t3, hnn, wrap_i64]
    · simp only [go_sem, ↓reduceIte, Nat.reduceBEq, Nat.reduceEqDiff, Nat.reduceLT, Nat.reduceLeDiff, Nat.reduceAdd, Nat.reduceMul, Nat.reduceSub, reduceCtorEq, Int.reduceLT, Int.reduceLE, Int.reduceEq, Int.reduceBEq, Int.reduceBNe, Int.reduceToNat, Int.reduceAdd, Int.reduceNeg, Int.reduceSub, eHc, Int.lt_irrefl]
  · intro k hk hz
    have hkl : k ≤ d.entries.length := by omega
    have hki : (k : Int) ≤ d.entries.length := by omega
    have h85 := c85 d.entries.length k (by omega) (by omega)
    have hin := inner k hkl
    unfold hitK at hz
    have hlen := choicesL_len (b := d.entries.length) (by omega) k
    have hp : 5 ^ k ≤ 5 ^ 5 := Nat.pow_le_pow_right (by omega) (by omega)
    generalize choicesL d.entries.length k = l at h85 hin hz hlen ⊢
    simp only [vC] at h85
    simp (disch := omega) only [go_sem, ↓reduceIte, Nat.reduceBEq, Nat.reduceEqDiff, Nat.reduceLT, Nat.reduceLeDiff, Nat.reduceAdd, Nat.reduceMul, Nat.reduceSub, reduceCtorEq, Int.reduceLT, Int.reduceLE, Int.reduceEq, Int.reduceBEq, Int.reduceBNe, Int.reduceToNat, Int.reduceAdd, Int.reduceNeg, Int.reduceSub, eHc, hki, h85]
    rw [w_first (fun i => [(9, .int .i64 i)]) (fun _ => ⟨[.cells (eHc d)], []⟩) (hitC d l) l.length .ret (fun i => [(2, vI (l.getD i [])), (3, .int .i64 0), (9, .int .i64 i)]) (fun _ => ⟨[.cells (eHc d)], []⟩) (.exit 2) [(9, .int .i64 l.length)] ⟨[.cells (eHc d)], []⟩ ?_ ?_ ?_ ?_ ?_ rfl rfl]
    · unfold firstW
      cases h2 : firstBad (hitC d l) 0 l.length with
      | some i => simp (disch := omega) only [go_sem, ↓reduceIte, Nat.reduceBEq, Nat.reduceEqDiff, Nat.reduceLT, Nat.reduceLeDiff, Nat.reduceAdd, Nat.reduceMul, Nat.reduceSub, reduceCtorEq, Int.reduceLT, Int.reduceLE, Int.reduceEq, Int.reduceBEq, Int.reduceBNe, Int.reduceToNat, Int.reduceAdd, Int.reduceNeg, Int.reduceSub, eHc, wrap_i64, vC]
      | none => rw [h2] at hz; exact absurd rfl hz
    · simp only [go_sem, ↓reduceIte, Nat.reduceBEq, Nat.reduceEqDiff, Nat.reduceLT, Nat.reduceLeDiff, Nat.reduceAdd, Nat.reduceMul, Nat.reduceSub, reduceCtorEq, Int.reduceLT, Int.reduceLE, Int.reduceEq, Int.reduceBEq, Int.reduceBNe, Int.reduceToNat, Int.reduceAdd, Int.reduceNeg, Int.reduceSub]
    · simp only [eHc]
    · intro i hi hiz
      have hii : (i : Int) < l.length := by omega
      obtain ⟨t, t1, t2, t3⟩ := hin i hi
      have hzt : zT 1 l.length = 1 := zT_pos (by omega)
      unfold hitC at hiz
      rw [t2] at hiz
      have hsb : someB d t = false := by cases hs : someB d t with | false => rfl | true => rw [hs] at hiz; cases hiz
      have hnn : ¬ (0 : Int) < (truthsL d t).length := by unfold someB at hsb; have := of_decide_eq_false hsb; omega
      simp only [go_sem, ↓reduceIte, Nat.reduceBEq, Nat.reduceEqDiff, Nat.reduceLT, Nat.reduceLeDiff, Nat.reduceAdd, Nat.reduceMul, Nat.reduceSub, reduceCtorEq, Int.reduceLT, Int.reduceLE, Int.reduceEq, Int.reduceBEq, Int.reduceBNe, Int.reduceToNat, Int.reduceAdd, Int.reduceNeg, Int.reduceSub, eH, eHc, vR, vI] at t3
      simp (disch := omega) only [go_sem, ↓reduceIte, Nat.reduceBEq, Nat.reduceEqDiff, Nat.reduceLT, Nat.reduceLeDiff, Nat.reduceAdd, Nat.reduceMul, Nat.reduceSub, reduceCtorEq, Int.reduceLT, Int.reduceLE, Int.reduceEq, Int.reduceBEq, Int.reduceBNe, Int.reduceToNat, Int.reduceAdd, Int.reduceNeg, Int.reduceSub, eHc, hii, t1, hzt, vI, t3, hnn, wrap_i64]
    · intro i hi hiz
      have hii : (i : Int) < l.length := by omega
      obtain ⟨t, t1, t2, t3⟩ := hin i hi
      have hzt : zT 1 l.length = 1 := zT_pos (by omega)
      unfold hitC at hiz
      rw [t2] at hiz ⊢
      have hsb : someB d t = true := by cases hs : someB d t with | true => rfl | false => rw [hs] at hiz; exact absurd rfl hiz
      have hnn : (0 : Int) < (truthsL d t).length := by unfold someB at hsb; have := of_decide_eq_true hsb; omega
      simp only [go_sem, ↓reduceIte, Nat.reduceBEq, Nat.reduceEqDiff, Nat.reduceLT, Nat.reduceLeDiff, Nat.reduceAdd, Nat.reduceMul, Nat.reduceSub, reduceCtorEq, Int.reduceLT, Int.reduceLE, Int.reduceEq, Int.reduceBEq, Int.reduceBNe, Int.reduceToNat, Int.reduceAdd, Int.reduceNeg, Int.reduceSub, eH, eHc, vR, vI] at t3
      simp (disch := omega) only [go_sem, ↓reduceIte, Nat.reduceBEq, Nat.reduceEqDiff, Nat.reduceLT, Nat.reduceLeDiff, Nat.reduceAdd, Nat.reduceMul, Nat.reduceSub, reduceCtorEq, Int.reduceLT, Int.reduceLE, Int.reduceEq, Int.reduceBEq, Int.reduceBNe, Int.reduceToNat, Int.reduceAdd, Int.reduceNeg, Int.reduceSub, eHc, hii, t1, hzt, vI, t3, hnn, wrap_i64]
    · simp only [go_sem, ↓reduceIte, Nat.reduceBEq, Nat.reduceEqDiff, Nat.reduceLT, Nat.reduceLeDiff, Nat.reduceAdd, Nat.reduceMul, Nat.reduceSub, reduceCtorEq, Int.reduceLT, Int.reduceLE, Int.reduceEq, Int.reduceBEq, Int.reduceBNe, Int.reduceToNat, Int.reduceAdd, Int.reduceNeg, Int.reduceSub, eHc, Int.lt_irrefl]
  · have hnn : ¬ ((d.entries.length : Int) + 1 ≤ d.entries.length) := by omega
    simp only [go_sem, ↓reduceIte, Nat.reduceBEq, Nat.reduceEqDiff, Nat.reduceLT, Nat.reduceLeDiff, Nat.reduceAdd, Nat.reduceMul, Nat.reduceSub, reduceCtorEq, Int.reduceLT, Int.reduceLE, Int.reduceEq, Int.reduceBEq, Int.reduceBNe, Int.reduceToNat, Int.reduceAdd, Int.reduceNeg, Int.reduceSub, eHc, hnn]

def lowP (h : Ho) (who day near : Int) : Int := (foldS (payAt h who day near) (truthsL h [])).1
def hitW (h : Ho) (day far : Int) (n w : Nat) : Int := if far ≤ lowP h w day n then 1 else 0
def hitN (h : Ho) (day far : Int) (n : Nat) : Int := match firstBad (hitW h day far n) 0 h.agents.length with | some _ => 1 | none => 0
def sendR (h : Ho) (day far : Int) : Int × Int × Int := match firstBad (hitN h day far) 0 100 with
  | some n => match firstBad (hitW h day far n) 0 h.agents.length with
    | some w => ((w : Int), (n : Int), 0)
    | none => (0, 0, 9)
  | none => (0, 0, 9)
def sendE (h : Ho) (day far : Int) : Int := knownE h (penceE far 198 (indexE h day h.days))
def sendV (h : Ho) (day far : Int) : Int × Int × Int := if sendE h day far = 0 then sendR h day far else (0, 0, sendE h day far)
theorem c33 (d : Ho) (hd : d.fits) (day far : Int) (h : Heap) : callPure (EW tabX) 33 [eH d, .int .i64 day, .int .i64 far] h = some (tup3 (sendV d day far), h) := by
  have hcl := eH_clean d
  have h65 := c65 d hd (penceE far 198 (indexE d day d.days)) (fun e => ok_of_E (indexE_zero (penceE_zero e).1).1)
  have h70 := c70 d hd day d.days (fun e => by have := (ok_of_E e).d1; have := (ok_of_E e).d3; omega)
  have h75 := c75 far 198 (indexE d day d.days)
  rw [callPure_eq, w_call _ fn_33 rfl]
  unfold sendV
  have hse : knownE d (penceE far 198 (indexE d day d.days)) = sendE d day far := rfl
  simp only [eH, eHc, hse] at h65 h70 hcl
  by_cases h0 : sendE d day far = 0
  rotate_left
  · have hne : (sendE d day far != 0) = true := by simpa using h0
    simp (disch := omega) only [go_sem, ↓reduceIte, Nat.reduceBEq, Nat.reduceEqDiff, Nat.reduceLT, Nat.reduceLeDiff, Nat.reduceAdd, Nat.reduceMul, Nat.reduceSub, reduceCtorEq, Int.reduceLT, Int.reduceLE, Int.reduceEq, Int.reduceBEq, Int.reduceBNe, Int.reduceToNat, Int.reduceAdd, Int.reduceNeg, Int.reduceSub, eH, eHc, h65, h70, h75, h0, hne, tup3, vR]
  obtain ⟨k1, k2⟩ := knownE_zero h0
  obtain ⟨k3, k4⟩ := penceE_zero k1
  obtain ⟨k5, k6⟩ := indexE_zero k3
  have ho := ok_of_E k5
  have ha3 := ho.a3
  have hl : knownL d (penceE far 198 (indexE d day d.days)) = truthsL d [] := knownL_yes h0
  obtain ⟨t, ts, ht, hm⟩ := truths_cons ho k2
  have hln := truthsL_len ho []
  rw [ht, List.length_cons] at hln
  have h76 : ∀ (w n : Nat), w < d.agents.length → n < 100 → ∀ h, callPure (EW tabX) 76 [eH d, vR (t :: ts), .int .i64 w, .int .i64 day, .int .i64 n] h = some (eSp (foldS (payAt d w day n) (t :: ts)), h) := fun w n hw hn =>
    c76 d hd ho w day n (by omega) k6 (by omega) t ts hm (by omega)
  have hlow : ∀ (w n : Nat), (foldS (payAt d w day n) (t :: ts)).1 = lowP d w day n := fun w n => by unfold lowP; rw [ht]
  simp only [go_sem, ↓reduceIte, Nat.reduceBEq, Nat.reduceEqDiff, Nat.reduceLT, Nat.reduceLeDiff, Nat.reduceAdd, Nat.reduceMul, Nat.reduceSub, reduceCtorEq, Int.reduceLT, Int.reduceLE, Int.reduceEq, Int.reduceBEq, Int.reduceBNe, Int.reduceToNat, Int.reduceAdd, Int.reduceNeg, Int.reduceSub, eH, eHc, vR, eSp, hlow] at h76
  simp (disch := omega) only [go_sem, ↓reduceIte, Nat.reduceBEq, Nat.reduceEqDiff, Nat.reduceLT, Nat.reduceLeDiff, Nat.reduceAdd, Nat.reduceMul, Nat.reduceSub, reduceCtorEq, Int.reduceLT, Int.reduceLE, Int.reduceEq, Int.reduceBEq, Int.reduceBNe, Int.reduceToNat, Int.reduceAdd, Int.reduceNeg, Int.reduceSub, eH, eHc, h65, h70, h75, h0, hl, ht, vR]
  have round : ∀ n, n < 100 → ∀ g : Slots, True := fun _ _ _ => trivial
  rw [w_first (fun n => [(11, .int .i64 n)]) (fun _ => ⟨[.cells (eHc d)], []⟩) (hitN d day far) 100 .ret
    (fun n => match firstBad (hitW d day far n) 0 d.agents.length with
      | some w => [(6, .int .i64 w), (7, .int .i64 n), (8, .int .i64 0), (11, .int .i64 n), (12, .int .i64 w)]
      | none => [])
    (fun _ => ⟨[.cells (eHc d)], []⟩) (.exit 0) [(11, .int .i64 100)] ⟨[.cells (eHc d)], []⟩ ?_ ?_ ?_ ?_ ?_ rfl rfl]
  · unfold firstW sendR
    cases h1 : firstBad (hitN d day far) 0 100 with
    | some k =>
      have hne := (firstBad_some h1).2.2.1
      unfold hitN at hne
      cases h2 : firstBad (hitW d day far k) 0 d.agents.length with
      | some i => simp only [go_sem, ↓reduceIte, Nat.reduceBEq, Nat.reduceEqDiff, Nat.reduceLT, Nat.reduceLeDiff, Nat.reduceAdd, Nat.reduceMul, Nat.reduceSub, reduceCtorEq, Int.reduceLT, Int.reduceLE, Int.reduceEq, Int.reduceBEq, Int.reduceBNe, Int.reduceToNat, Int.reduceAdd, Int.reduceNeg, Int.reduceSub, h2, tup3]
      | none => rw [h2] at hne; exact absurd rfl hne
    | none => simp only [go_sem, ↓reduceIte, Nat.reduceBEq, Nat.reduceEqDiff, Nat.reduceLT, Nat.reduceLeDiff, Nat.reduceAdd, Nat.reduceMul, Nat.reduceSub, reduceCtorEq, Int.reduceLT, Int.reduceLE, Int.reduceEq, Int.reduceBEq, Int.reduceBNe, Int.reduceToNat, Int.reduceAdd, Int.reduceNeg, Int.reduceSub, tup3]
  · simp only [go_sem, ↓reduceIte, Nat.reduceBEq, Nat.reduceEqDiff, Nat.reduceLT, Nat.reduceLeDiff, Nat.reduceAdd, Nat.reduceMul, Nat.reduceSub, reduceCtorEq, Int.reduceLT, Int.reduceLE, Int.reduceEq, Int.reduceBEq, Int.reduceBNe, Int.reduceToNat, Int.reduceAdd, Int.reduceNeg, Int.reduceSub]
  · simp only [eHc]
  · intro n hn hz
    have hni : (n : Int) ≤ 99 := by omega
    unfold hitN at hz
    simp (disch := omega) only [go_sem, ↓reduceIte, Nat.reduceBEq, Nat.reduceEqDiff, Nat.reduceLT, Nat.reduceLeDiff, Nat.reduceAdd, Nat.reduceMul, Nat.reduceSub, reduceCtorEq, Int.reduceLT, Int.reduceLE, Int.reduceEq, Int.reduceBEq, Int.reduceBNe, Int.reduceToNat, Int.reduceAdd, Int.reduceNeg, Int.reduceSub, eHc, hni]
    rw [w_first (fun w => [(12, .int .i64 w)]) (fun _ => ⟨[.cells (eHc d)], []⟩) (hitW d day far n) d.agents.length .ret (fun w => [(6, .int .i64 w), (7, .int .i64 n), (8, .int .i64 0), (12, .int .i64 w)]) (fun _ => ⟨[.cells (eHc d)], []⟩) (.exit 2) [(12, .int .i64 d.agents.length)] ⟨[.cells (eHc d)], []⟩ ?_ ?_ ?_ ?_ ?_ rfl rfl]
    · unfold firstW
      cases h2 : firstBad (hitW d day far n) 0 d.agents.length with
      | some i => rw [h2] at hz; cases hz
      | none => simp (disch := omega) only [go_sem, ↓reduceIte, Nat.reduceBEq, Nat.reduceEqDiff, Nat.reduceLT, Nat.reduceLeDiff, Nat.reduceAdd, Nat.reduceMul, Nat.reduceSub, reduceCtorEq, Int.reduceLT, Int.reduceLE, Int.reduceEq, Int.reduceBEq, Int.reduceBNe, Int.reduceToNat, Int.reduceAdd, Int.reduceNeg, Int.reduceSub, eHc, wrap_i64]
    · simp only [go_sem, ↓reduceIte, Nat.reduceBEq, Nat.reduceEqDiff, Nat.reduceLT, Nat.reduceLeDiff, Nat.reduceAdd, Nat.reduceMul, Nat.reduceSub, reduceCtorEq, Int.reduceLT, Int.reduceLE, Int.reduceEq, Int.reduceBEq, Int.reduceBNe, Int.reduceToNat, Int.reduceAdd, Int.reduceNeg, Int.reduceSub]
    · simp only [eHc]
    · intro w hw hiz
      have hwi : (w : Int) < d.agents.length := by omega
      have h76 := h76 w n hw hn
      unfold hitW at hiz
      have hnn : ¬ far ≤ lowP d w day n := by intro hc; rw [if_pos hc] at hiz; cases hiz
      simp (disch := omega) only [go_sem, ↓reduceIte, Nat.reduceBEq, Nat.reduceEqDiff, Nat.reduceLT, Nat.reduceLeDiff, Nat.reduceAdd, Nat.reduceMul, Nat.reduceSub, reduceCtorEq, Int.reduceLT, Int.reduceLE, Int.reduceEq, Int.reduceBEq, Int.reduceBNe, Int.reduceToNat, Int.reduceAdd, Int.reduceNeg, Int.reduceSub, eHc, hwi, h76, hnn, wrap_i64]
    · intro w hw hiz
      have hwi : (w : Int) < d.agents.length := by omega
      have h76 := h76 w n hw hn
      unfold hitW at hiz
      have hnn : far ≤ lowP d w day n := by
        by_cases hc : far ≤ lowP d w day n
        · exact hc
        · rw [if_neg hc] at hiz; exact absurd rfl hiz
      simp (disch := omega) only [go_sem, ↓reduceIte, Nat.reduceBEq, Nat.reduceEqDiff, Nat.reduceLT, Nat.reduceLeDiff, Nat.reduceAdd, Nat.reduceMul, Nat.reduceSub, reduceCtorEq, Int.reduceLT, Int.reduceLE, Int.reduceEq, Int.reduceBEq, Int.reduceBNe, Int.reduceToNat, Int.reduceAdd, Int.reduceNeg, Int.reduceSub, eHc, hwi, h76, hnn, wrap_i64]
    · simp only [go_sem, ↓reduceIte, Nat.reduceBEq, Nat.reduceEqDiff, Nat.reduceLT, Nat.reduceLeDiff, Nat.reduceAdd, Nat.reduceMul, Nat.reduceSub, reduceCtorEq, Int.reduceLT, Int.reduceLE, Int.reduceEq, Int.reduceBEq, Int.reduceBNe, Int.reduceToNat, Int.reduceAdd, Int.reduceNeg, Int.reduceSub, eHc, Int.lt_irrefl]
  · intro n hn hz
    have hni : (n : Int) ≤ 99 := by omega
    unfold hitN at hz
    simp (disch := omega) only [go_sem, ↓reduceIte, Nat.reduceBEq, Nat.reduceEqDiff, Nat.reduceLT, Nat.reduceLeDiff, Nat.reduceAdd, Nat.reduceMul, Nat.reduceSub, reduceCtorEq, Int.reduceLT, Int.reduceLE, Int.reduceEq, Int.reduceBEq, Int.reduceBNe, Int.reduceToNat, Int.reduceAdd, Int.reduceNeg, Int.reduceSub, eHc, hni]
    rw [w_first (fun w => [(12, .int .i64 w)]) (fun _ => ⟨[.cells (eHc d)], []⟩) (hitW d day far n) d.agents.length .ret (fun w => [(6, .int .i64 w), (7, .int .i64 n), (8, .int .i64 0), (12, .int .i64 w)]) (fun _ => ⟨[.cells (eHc d)], []⟩) (.exit 2) [(12, .int .i64 d.agents.length)] ⟨[.cells (eHc d)], []⟩ ?_ ?_ ?_ ?_ ?_ rfl rfl]
    · unfold firstW
      cases h2 : firstBad (hitW d day far n) 0 d.agents.length with
      | some i => simp (disch := omega) only [go_sem, ↓reduceIte, Nat.reduceBEq, Nat.reduceEqDiff, Nat.reduceLT, Nat.reduceLeDiff, Nat.reduceAdd, Nat.reduceMul, Nat.reduceSub, reduceCtorEq, Int.reduceLT, Int.reduceLE, Int.reduceEq, Int.reduceBEq, Int.reduceBNe, Int.reduceToNat, Int.reduceAdd, Int.reduceNeg, Int.reduceSub, eHc, wrap_i64]
      | none => rw [h2] at hz; exact absurd rfl hz
    · simp only [go_sem, ↓reduceIte, Nat.reduceBEq, Nat.reduceEqDiff, Nat.reduceLT, Nat.reduceLeDiff, Nat.reduceAdd, Nat.reduceMul, Nat.reduceSub, reduceCtorEq, Int.reduceLT, Int.reduceLE, Int.reduceEq, Int.reduceBEq, Int.reduceBNe, Int.reduceToNat, Int.reduceAdd, Int.reduceNeg, Int.reduceSub]
    · simp only [eHc]
    · intro w hw hiz
      have hwi : (w : Int) < d.agents.length := by omega
      have h76 := h76 w n hw hn
      unfold hitW at hiz
      have hnn : ¬ far ≤ lowP d w day n := by intro hc; rw [if_pos hc] at hiz; cases hiz
      simp (disch := omega) only [go_sem, ↓reduceIte, Nat.reduceBEq, Nat.reduceEqDiff, Nat.reduceLT, Nat.reduceLeDiff, Nat.reduceAdd, Nat.reduceMul, Nat.reduceSub, reduceCtorEq, Int.reduceLT, Int.reduceLE, Int.reduceEq, Int.reduceBEq, Int.reduceBNe, Int.reduceToNat, Int.reduceAdd, Int.reduceNeg, Int.reduceSub, eHc, hwi, h76, hnn, wrap_i64]
    · intro w hw hiz
      have hwi : (w : Int) < d.agents.length := by omega
      have h76 := h76 w n hw hn
      unfold hitW at hiz
      have hnn : far ≤ lowP d w day n := by
        by_cases hc : far ≤ lowP d w day n
        · exact hc
        · rw [if_neg hc] at hiz; exact absurd rfl hiz
      simp (disch := omega) only [go_sem, ↓reduceIte, Nat.reduceBEq, Nat.reduceEqDiff, Nat.reduceLT, Nat.reduceLeDiff, Nat.reduceAdd, Nat.reduceMul, Nat.reduceSub, reduceCtorEq, Int.reduceLT, Int.reduceLE, Int.reduceEq, Int.reduceBEq, Int.reduceBNe, Int.reduceToNat, Int.reduceAdd, Int.reduceNeg, Int.reduceSub, eHc, hwi, h76, hnn, wrap_i64]
    · simp only [go_sem, ↓reduceIte, Nat.reduceBEq, Nat.reduceEqDiff, Nat.reduceLT, Nat.reduceLeDiff, Nat.reduceAdd, Nat.reduceMul, Nat.reduceSub, reduceCtorEq, Int.reduceLT, Int.reduceLE, Int.reduceEq, Int.reduceBEq, Int.reduceBNe, Int.reduceToNat, Int.reduceAdd, Int.reduceNeg, Int.reduceSub, eHc, Int.lt_irrefl]
  · simp only [go_sem, ↓reduceIte, Nat.reduceBEq, Nat.reduceEqDiff, Nat.reduceLT, Nat.reduceLeDiff, Nat.reduceAdd, Nat.reduceMul, Nat.reduceSub, reduceCtorEq, Int.reduceLT, Int.reduceLE, Int.reduceEq, Int.reduceBEq, Int.reduceBNe, Int.reduceToNat, Int.reduceAdd, Int.reduceNeg, Int.reduceSub, eHc]
end Go.Proofs.Ytaohhjaogjcfoaa
end
section
namespace Go.Proofs.Ytaohhjaogjcfoaa
open Go.Proofs

theorem pm_get {α : Type} (P t : List α) (m : Nat) (x : α) (i : Nat) : (P.set m x ++ t)[P.length + i]? = t[i]? := by
  have := get_at (P.set m x) t i
  rwa [List.length_set] at this
theorem pm_get0 {α : Type} (P t : List α) (m : Nat) (x : α) : (P.set m x ++ t)[P.length]? = t[0]? := by
  have := get_at0 (P.set m x) t
  rwa [List.length_set] at this
theorem pm_set {α : Type} (P t : List α) (m : Nat) (x : α) (i : Nat) (y : α) : (P.set m x ++ t).set (P.length + i) y = P.set m x ++ t.set i y := by
  have := set_at (P.set m x) t i y
  rwa [List.length_set] at this
theorem pm_set0 {α : Type} (P t : List α) (m : Nat) (x : α) (y : α) : (P.set m x ++ t).set P.length y = P.set m x ++ t.set 0 y := by
  have := set_at0 (P.set m x) t y
  rwa [List.length_set] at this
theorem pm_take {α : Type} (P t : List α) (m : Nat) (x : α) (i : Nat) : (P.set m x ++ t).take (P.length + i) = P.set m x ++ t.take i := by
  have := List.take_length_add_append (l₁ := P.set m x) (l₂ := t) (i := i)
  rwa [List.length_set] at this
theorem pm_take0 {α : Type} (P t : List α) (m : Nat) (x : α) : (P.set m x ++ t).take P.length = P.set m x := by
  have := pm_take P t m x 0
  rw [Nat.add_zero, List.take_zero, List.append_nil] at this
  exact this
attribute [go_sem] List.length_set pm_get pm_get0 pm_set pm_set0 pm_take pm_take0 List.take_length_add_append
theorem set_self {α : Type} {B : List α} {m : Nat} {x : α} (h : B[m]? = some x) : B.set m x = B := by
  apply List.ext_getElem?
  intro i
  rw [List.getElem?_set]
  split
  · rename_i e
    subst e
    split
    · exact h.symm
    · rename_i hn
      rw [List.getElem?_eq_none (by omega)] at h; cases h
  · rfl

abbrev Key := Int × Int × Int
def keyS (p : Key) : List AV := [.int .i64 p.1, .int .i64 p.2.1, .int .i64 p.2.2]
def esS (ps : List (Key × Int)) : List (AV × AV) := ps.map fun x => (.agg (keyS x.1), .int .i64 x.2)
theorem eqKey (p q : Key) : eqCells [0, 0, 0] (keyS p) (keyS q) = some (decide (p = q)) := by
  obtain ⟨a, b, c⟩ := p
  obtain ⟨x, y, z⟩ := q
  simp only [eqCells, keyS, if_true, Option.map_some]
  congr 1
  rw [Bool.eq_iff_iff]
  simp
theorem look_es (q : Key) : ∀ ps : List (Key × Int), lookAV [0, 0, 0] (esS ps) (keyS q) = some ((ps.find? fun x => decide (q = x.1)).map fun x => .int .i64 x.2)
  | [] => rfl
  | x :: ps => by
    have e : lookAV [0, 0, 0] (esS (x :: ps)) (keyS q) = match eqCells [0, 0, 0] (keyS q) (keyS x.1) with
      | some true => some (some (.int .i64 x.2))
      | some false => lookAV [0, 0, 0] (esS ps) (keyS q)
      | none => none := rfl
    rw [e, eqKey, look_es q ps, List.find?_cons]
    cases decide (q = x.1) <;> rfl
theorem put_es (q : Key) (v : Int) : ∀ ps : List (Key × Int), (∀ x ∈ ps, q ≠ x.1) → putAV [0, 0, 0] (esS ps) (keyS q) (.int .i64 v) = some (esS (ps ++ [(q, v)]))
  | [], _ => rfl
  | x :: ps, h => by
    have e : putAV [0, 0, 0] (esS (x :: ps)) (keyS q) (.int .i64 v) = match eqCells [0, 0, 0] (keyS q) (keyS x.1) with
      | some true => some ((.agg (keyS q), .int .i64 v) :: esS ps)
      | some false => (putAV [0, 0, 0] (esS ps) (keyS q) (.int .i64 v)).map ((.agg (keyS x.1), .int .i64 x.2) :: ·)
      | none => none := rfl
    have hne : decide (q = x.1) = false := by simpa using h x (by simp)
    rw [e, eqKey, hne, put_es q v ps fun y hy => h y (by simp [hy])]
    rfl
def KOk (d : Ho) (es : List (Key × Int)) : Prop := ∀ x ∈ es, ∀ (i : Nat) (a : Ag), x.1.1 = (i : Int) → d.agents[i]? = some a → x.2 = payR a x.1.2.1 x.1.2.2
def eHs (d : Ho) (but : Int) (m : Nat) : List AV := eHc d ++ [.int .i64 but, .clo 100 [] [], .clo 101 [] [], .clo 102 [] [], .mapr m]

theorem c100 (n : Int) (hn : 0 ≤ n ∧ n ≤ 100000) (h : Heap) : callPure (EW tabX) 100 [.int .i64 n] h = some (.int .i64 (n / 10), h) := by
  rw [callPure_eq, w_call _ fn_100 rfl]
  simp (disch := omega) only [go_sem, ↓reduceIte, Nat.reduceBEq, Nat.reduceEqDiff, Nat.reduceLT, Nat.reduceLeDiff, Nat.reduceAdd, Nat.reduceMul, Nat.reduceSub, reduceCtorEq, Int.reduceLT, Int.reduceLE, Int.reduceEq, Int.reduceBEq, Int.reduceBNe, Int.reduceToNat, Int.reduceAdd, Int.reduceNeg, Int.reduceSub, tdiv10, wrap_i64]
theorem c101 (n : Int) (hn : 0 ≤ n ∧ n ≤ 100000) (h : Heap) : callPure (EW tabX) 101 [.int .i64 n] h = some (.int .i64 ((n + 10 - 1) / 10), h) := by
  rw [callPure_eq, w_call _ fn_101 rfl]
  simp (disch := omega) only [go_sem, ↓reduceIte, Nat.reduceBEq, Nat.reduceEqDiff, Nat.reduceLT, Nat.reduceLeDiff, Nat.reduceAdd, Nat.reduceMul, Nat.reduceSub, reduceCtorEq, Int.reduceLT, Int.reduceLE, Int.reduceEq, Int.reduceBEq, Int.reduceBNe, Int.reduceToNat, Int.reduceAdd, Int.reduceNeg, Int.reduceSub, tdiv10, wrap_i64]
theorem tdiv20 {n : Int} (h : 0 ≤ n) : n.tdiv 20 = n / 20 := Int.tdiv_eq_ediv_of_nonneg h
theorem c102 (n : Int) (hn : 0 ≤ n ∧ n ≤ 100000) (h : Heap) : callPure (EW tabX) 102 [.int .i64 n] h = some (.int .i64 ((n + 5) / 10), h) := by
  rw [callPure_eq, w_call _ fn_102 rfl]
  have e : (2 * n + 10) / 20 = (n + 5) / 10 := by omega
  simp (disch := omega) only [go_sem, ↓reduceIte, Nat.reduceBEq, Nat.reduceEqDiff, Nat.reduceLT, Nat.reduceLeDiff, Nat.reduceAdd, Nat.reduceMul, Nat.reduceSub, reduceCtorEq, Int.reduceLT, Int.reduceLE, Int.reduceEq, Int.reduceBEq, Int.reduceBNe, Int.reduceToNat, Int.reduceAdd, Int.reduceNeg, Int.reduceSub, tdiv20, wrap_i64, e]

theorem c74 (d : Ho) (hd : d.fits) (ho : d.Ok) (but : Int) (r m i : Nat) (a : Ag) (ha : d.agents[i]? = some a) (near rate : Int) (hn : 0 ≤ near ∧ near ≤ 99) (hrt : 0 ≤ rate ∧ rate ≤ 20)
    (B : List ABlk) (t : List Bool) (es : List (Key × Int)) (hr : B[r]? = some (.cells (eHs d but m))) (hm : B[m]? = some (.map (esS es))) (hk : KOk d es) :
    ∃ es' F, KOk d es' ∧ (EW tabX).call 74 [.ref r 0, .agg [.int .i64 i, .int .i64 near, .int .i64 rate]] ⟨B, t⟩ = some (.int .i64 (payR a near rate), ⟨B.set m (.map (esS es')), t ++ F⟩) := by
  have hil : i < d.agents.length := (List.getElem?_eq_some_iff.1 ha).1
  have hza := hd.za (by intro e; rw [e] at hil; simp at hil)
  obtain ⟨f0, f1, r0, r1, _⟩ := ho.ag a (List.mem_of_getElem? ha)
  have hb := payN_bd ⟨f0, f1⟩ hn hrt
  simp only [eHs, eHc, List.cons_append, List.nil_append] at hr
  have oR := old hr
  have oM := old hm
  have hml : m < B.length := (List.getElem?_eq_some_iff.1 hm).1
  have hself : eqCells [0, 0, 0] [.int .i64 (i : Int), .int .i64 near, .int .i64 rate] [.int .i64 (i : Int), .int .i64 near, .int .i64 rate] = some true := by
    have := eqKey ((i : Int), near, rate) ((i : Int), near, rate)
    simp only [keyS, decide_true] at this
    exact this
  have hlook : lookAV [0, 0, 0] (esS es) [.int .i64 (i : Int), .int .i64 near, .int .i64 rate] = some ((es.find? fun x => decide (((i : Int), near, rate) = x.1)).map fun x => .int .i64 x.2) := look_es ((i : Int), near, rate) es
  have hset := set_self hm
  rw [w_call _ fn_74 rfl]
  by_cases h1 : near ≤ a.fee
  · have hp : payR a near rate = 0 := by
      have : payN a near rate = 0 := by unfold payN; rw [if_neg (by omega)]; simp
      unfold payR; rw [this]
      split
      · rfl
      · split <;> rfl
    refine ⟨es, List.replicate 11 false, hk, ?_⟩
    rw [hset, hp]
    simp (disch := omega) only [go_sem, ↓reduceIte, Nat.reduceBEq, Nat.reduceEqDiff, Nat.reduceLT, Nat.reduceLeDiff, Nat.reduceAdd, Nat.reduceMul, Nat.reduceSub, reduceCtorEq, Int.reduceLT, Int.reduceLE, Int.reduceEq, Int.reduceBEq, Int.reduceBNe, Int.reduceToNat, Int.reduceAdd, Int.reduceNeg, Int.reduceSub, oR, ha, eAg, hza, h1, List.size_toArray, Nat.add_lt_add_iff_left, Nat.add_assoc]
    generalize hcf : okFam _ _ _ = cf
    obtain rfl : cf = true := by rw [← hcf]; kernel_rfl
    simp (disch := omega) only [go_sem, ↓reduceIte, Nat.reduceBEq, Nat.reduceEqDiff, Nat.reduceLT, Nat.reduceLeDiff, Nat.reduceAdd, Nat.reduceMul, Nat.reduceSub, reduceCtorEq, Int.reduceLT, Int.reduceLE, Int.reduceEq, Int.reduceBEq, Int.reduceBNe, Int.reduceToNat, Int.reduceAdd, Int.reduceNeg, Int.reduceSub, oR, h1]
  · have hpn : payN a near rate = (near - a.fee) * rate := by unfold payN; rw [if_pos (by omega)]
    cases hf : es.find? (fun x => decide (((i : Int), near, rate) = x.1)) with
    | some x =>
      have hx := List.find?_some hf
      have hxm := List.mem_of_find?_eq_some hf
      have hx1 : ((i : Int), near, rate) = x.1 := by simpa using hx
      have hv : x.2 = payR a near rate := by
        have := hk x hxm i a (by rw [← hx1]) ha
        rw [← hx1] at this; exact this
      rw [hf, Option.map_some, hv] at hlook
      refine ⟨es, List.replicate 11 false, hk, ?_⟩
      rw [hset]
      simp (disch := omega) only [go_sem, ↓reduceIte, Nat.reduceBEq, Nat.reduceEqDiff, Nat.reduceLT, Nat.reduceLeDiff, Nat.reduceAdd, Nat.reduceMul, Nat.reduceSub, reduceCtorEq, Int.reduceLT, Int.reduceLE, Int.reduceEq, Int.reduceBEq, Int.reduceBNe, Int.reduceToNat, Int.reduceAdd, Int.reduceNeg, Int.reduceSub, oR, ha, eAg, hza, h1, List.size_toArray, Nat.add_lt_add_iff_left, Nat.add_assoc]
      generalize hcf : okFam _ _ _ = cf
      obtain rfl : cf = true := by rw [← hcf]; kernel_rfl
      simp (disch := omega) only [go_sem, ↓reduceIte, Nat.reduceBEq, Nat.reduceEqDiff, Nat.reduceLT, Nat.reduceLeDiff, Nat.reduceAdd, Nat.reduceMul, Nat.reduceSub, reduceCtorEq, Int.reduceLT, Int.reduceLE, Int.reduceEq, Int.reduceBEq, Int.reduceBNe, Int.reduceToNat, Int.reduceAdd, Int.reduceNeg, Int.reduceSub, oR, oM, h1, hself, hlook]
    | none =>
      have hnew : ∀ x ∈ es, ((i : Int), near, rate) ≠ x.1 := fun x hx => by
        have := List.find?_eq_none.1 hf x hx
        simpa using this
      rw [hf, Option.map_none] at hlook
      have hput := put_es ((i : Int), near, rate) (payR a near rate) es hnew
      simp only [keyS] at hput
      have hk' : KOk d (es ++ [(((i : Int), near, rate), payR a near rate)]) := fun x hx j b e1 e2 => by
        rcases List.mem_append.1 hx with h | h
        · exact hk x h j b e1 e2
        · simp at h
          subst h
          simp only at e1
          have : i = j := by omega
          subst this
          rw [ha] at e2
          cases e2
          rfl
      have hBm : ∀ y X, (B ++ X).set m y = B.set m y ++ X := fun y X => List.set_append_left _ _ hml
      have hrd : a.round = 0 ∨ a.round = 1 ∨ a.round = 2 := by omega
      refine ⟨_, List.replicate 18 false, hk', ?_⟩
      simp (disch := omega) only [go_sem, ↓reduceIte, Nat.reduceBEq, Nat.reduceEqDiff, Nat.reduceLT, Nat.reduceLeDiff, Nat.reduceAdd, Nat.reduceMul, Nat.reduceSub, reduceCtorEq, Int.reduceLT, Int.reduceLE, Int.reduceEq, Int.reduceBEq, Int.reduceBNe, Int.reduceToNat, Int.reduceAdd, Int.reduceNeg, Int.reduceSub, oR, ha, eAg, hza, h1, List.size_toArray, Nat.add_lt_add_iff_left, Nat.add_assoc]
      generalize hcf : okFam _ _ _ = cf
      obtain rfl : cf = true := by rw [← hcf]; kernel_rfl
      rcases hrd with e | e | e
      · have hp : payN a near rate / 10 = payR a near rate := by unfold payR; rw [e]; rfl
        have hc := c100 (payN a near rate) (by omega)
        rw [hp, hpn] at hc
        rw [hpn] at hb
        simp (disch := omega) only [go_sem, ↓reduceIte, Nat.reduceBEq, Nat.reduceEqDiff, Nat.reduceLT, Nat.reduceLeDiff, Nat.reduceAdd, Nat.reduceMul, Nat.reduceSub, reduceCtorEq, Int.reduceLT, Int.reduceLE, Int.reduceEq, Int.reduceBEq, Int.reduceBNe, Int.reduceToNat, Int.reduceAdd, Int.reduceNeg, Int.reduceSub, oR, oM, h1, hself, hlook, e, hc, wrap_i64]
        generalize hcf : drawT _ _ _ = cf
        obtain rfl : cf = true := by rw [← hcf]; kernel_rfl
        simp (disch := omega) only [go_sem, ↓reduceIte, Nat.reduceBEq, Nat.reduceEqDiff, Nat.reduceLT, Nat.reduceLeDiff, Nat.reduceAdd, Nat.reduceMul, Nat.reduceSub, reduceCtorEq, Int.reduceLT, Int.reduceLE, Int.reduceEq, Int.reduceBEq, Int.reduceBNe, Int.reduceToNat, Int.reduceAdd, Int.reduceNeg, Int.reduceSub, oR, oM, hself, hput, hBm, wrap_i64, List.size_toArray]
      · have hp : (payN a near rate + 10 - 1) / 10 = payR a near rate := by unfold payR; rw [if_pos e]
        have hc := c101 (payN a near rate) (by omega)
        rw [hp, hpn] at hc
        rw [hpn] at hb
        simp (disch := omega) only [go_sem, ↓reduceIte, Nat.reduceBEq, Nat.reduceEqDiff, Nat.reduceLT, Nat.reduceLeDiff, Nat.reduceAdd, Nat.reduceMul, Nat.reduceSub, reduceCtorEq, Int.reduceLT, Int.reduceLE, Int.reduceEq, Int.reduceBEq, Int.reduceBNe, Int.reduceToNat, Int.reduceAdd, Int.reduceNeg, Int.reduceSub, oR, oM, h1, hself, hlook, e, hc, wrap_i64]
        generalize hcf : drawT _ _ _ = cf
        obtain rfl : cf = true := by rw [← hcf]; kernel_rfl
        simp (disch := omega) only [go_sem, ↓reduceIte, Nat.reduceBEq, Nat.reduceEqDiff, Nat.reduceLT, Nat.reduceLeDiff, Nat.reduceAdd, Nat.reduceMul, Nat.reduceSub, reduceCtorEq, Int.reduceLT, Int.reduceLE, Int.reduceEq, Int.reduceBEq, Int.reduceBNe, Int.reduceToNat, Int.reduceAdd, Int.reduceNeg, Int.reduceSub, oR, oM, hself, hput, hBm, wrap_i64, List.size_toArray]
      · have hp : (payN a near rate + 5) / 10 = payR a near rate := by unfold payR; rw [if_neg (by omega), if_pos e]
        have hc := c102 (payN a near rate) (by omega)
        rw [hp, hpn] at hc
        rw [hpn] at hb
        simp (disch := omega) only [go_sem, ↓reduceIte, Nat.reduceBEq, Nat.reduceEqDiff, Nat.reduceLT, Nat.reduceLeDiff, Nat.reduceAdd, Nat.reduceMul, Nat.reduceSub, reduceCtorEq, Int.reduceLT, Int.reduceLE, Int.reduceEq, Int.reduceBEq, Int.reduceBNe, Int.reduceToNat, Int.reduceAdd, Int.reduceNeg, Int.reduceSub, oR, oM, h1, hself, hlook, e, hc, wrap_i64]
        generalize hcf : drawT _ _ _ = cf
        obtain rfl : cf = true := by rw [← hcf]; kernel_rfl
        simp (disch := omega) only [go_sem, ↓reduceIte, Nat.reduceBEq, Nat.reduceEqDiff, Nat.reduceLT, Nat.reduceLeDiff, Nat.reduceAdd, Nat.reduceMul, Nat.reduceSub, reduceCtorEq, Int.reduceLT, Int.reduceLE, Int.reduceEq, Int.reduceBEq, Int.reduceBNe, Int.reduceToNat, Int.reduceAdd, Int.reduceNeg, Int.reduceSub, oR, oM, hself, hput, hBm, wrap_i64, List.size_toArray]
end Go.Proofs.Ytaohhjaogjcfoaa
end
section
namespace Go.Proofs.Ytaohhjaogjcfoaa
open Go.Proofs

@[go_sem] theorem hush_10_2 : tabX.hush 10 2 = false := id rfl
@[go_sem] theorem hush_14_10 : tabX.hush 14 10 = false := id rfl
@[go_sem] theorem hush_15_8 : tabX.hush 15 8 = false := id rfl
@[go_sem] theorem hush_15_14 : tabX.hush 15 14 = false := id rfl
@[go_sem] theorem hush_18_12 : tabX.hush 18 12 = false := id rfl
@[go_sem] theorem hush_22_8 : tabX.hush 22 8 = false := id rfl
@[go_sem] theorem hush_27_9 : tabX.hush 27 9 = false := id rfl
@[go_sem] theorem hush_37_11 : tabX.hush 37 11 = false := id rfl
@[go_sem] theorem hush_73_1 : tabX.hush 73 1 = false := id rfl
@[go_sem] theorem hush_74_8 : tabX.hush 74 8 = false := id rfl
@[go_sem] theorem hush_76_6 : tabX.hush 76 6 = false := id rfl
@[go_sem] theorem hush_78_1 : tabX.hush 78 1 = false := id rfl
@[go_sem] theorem hush_97_5 : tabX.hush 97 5 = false := id rfl
section
variable {X : Tab} {f : Nat} {rd : Option Nat} {b : Code}
theorem w_rounds_q {G : Prop} {s0 : St} {x : Option (AExit × St)} (hx : (EW X).code f rd (.loop b) s0 = x) (R : Nat → St → Prop) (n : Nat) (Q : AExit → St → Prop) (h0 : R 0 s0)
    (hs : ∀ k s, k < n → R k s → (∃ s', cutS s ((EW X).code f rd b s) = some (.normal, s') ∧ R (k + 1) s') ∨ ∃ e s', cutS s ((EW X).code f rd b s) = some (e, s') ∧ isNormal e = false ∧ Q e s')
    (he : ∀ s, R n s → ∃ e s', cutS s ((EW X).code f rd b s) = some (e, s') ∧ isNormal e = false ∧ Q e s')
    (hG : ∀ e s', x = some (e, s') → Q e s' → G) : G := by
  have leave : ∀ s e s', cutS s ((EW X).code f rd b s) = some (e, s') → isNormal e = false → (EW X).code f rd (.loop b) s = some (e, s') := fun s e s' h1 h2 => by
    rw [w_loop, h1]
    cases e with
    | normal => cases h2
    | exit i => rfl
    | ret => rfl
  have aux : ∀ m k s, m + k = n → R k s → ∃ e s', (EW X).code f rd (.loop b) s = some (e, s') ∧ Q e s' := by
    intro m
    induction m with
    | zero =>
      intro k s hk hR
      obtain rfl : k = n := by omega
      obtain ⟨e, s', h1, h2, h3⟩ := he s hR
      exact ⟨e, s', leave s e s' h1 h2, h3⟩
    | succ m ih =>
      intro k s hk hR
      rcases hs k s (by omega) hR with ⟨s1, h1, h2⟩ | ⟨e, s', h1, h2, h3⟩
      · obtain ⟨e, s', h3, h4⟩ := ih (k + 1) s1 (by omega) h2
        exact ⟨e, s', by rw [w_loop, h1, thenN_normal]; exact h3, h4⟩
      · exact ⟨e, s', leave s e s' h1 h2, h3⟩
  obtain ⟨e, s', h1, h2⟩ := aux n 0 s0 (by omega) h0
  exact hG e s' (hx.symm.trans h1) h2
end

abbrev PM (P : List ABlk) (m : Nat) (es : List (Key × Int)) : List ABlk := P.set m (.map (esS es))
structure HAt (d : Ho) (but : Int) (r m : Nat) (P : List ABlk) : Prop where
  hr : P[r]? = some (.cells (eHs d but m))
  hm : m < P.length
  ne : r ≠ m
theorem HAt.house {d : Ho} {but : Int} {r m : Nat} {P : List ABlk} (h : HAt d but r m P) (x : ABlk) (X : List ABlk) : (P.set m x ++ X)[r]? = some (.cells (eHs d but m)) := by
  refine old ?_ X
  rw [List.getElem?_set_ne (fun e => h.ne e.symm)]; exact h.hr
theorem HAt.map {d : Ho} {but : Int} {r m : Nat} {P : List ABlk} (h : HAt d but r m P) (x : ABlk) (X : List ABlk) : (P.set m x ++ X)[m]? = some x := by
  refine old ?_ X
  rw [List.getElem?_set_self h.hm]
theorem HAt.put {d : Ho} {but : Int} {r m : Nat} {P : List ABlk} (h : HAt d but r m P) (x y : ABlk) (X : List ABlk) : (P.set m x ++ X).set m y = P.set m y ++ X := by
  rw [List.set_append_left _ _ (by rw [List.length_set]; exact h.hm), List.set_set]
theorem c74x (d : Ho) (hd : d.fits) (ho : d.Ok) (but : Int) {r m : Nat} {P : List ABlk} (hP : HAt d but r m P) (i : Nat) (a : Ag) (ha : d.agents[i]? = some a) (near rate : Int) (hn : 0 ≤ near ∧ near ≤ 99) (hrt : 0 ≤ rate ∧ rate ≤ 20)
    (X : List ABlk) (t : List Bool) (es : List (Key × Int)) (hk : KOk d es) :
    ∃ es' F, KOk d es' ∧ (EW tabX).call 74 [.ref r 0, .agg [.int .i64 i, .int .i64 near, .int .i64 rate]] ⟨PM P m es ++ X, t⟩ = some (.int .i64 (payR a near rate), ⟨PM P m es' ++ X, t ++ F⟩) := by
  obtain ⟨es', F, h1, h2⟩ := c74 d hd ho but r m i a ha near rate hn hrt (PM P m es ++ X) t es (hP.house _ _) (hP.map _ _) hk
  exact ⟨es', F, h1, by rw [h2, hP.put]⟩
theorem c78x (d : Ho) (hd : d.fits) (ho : d.Ok) (but : Int) {r m : Nat} {P : List ABlk} (hP : HAt d but r m P) (x : En) (hx : x ∈ d.entries) (R : List Int) (hR : R.length = 3) (v : Int) (hv : R[x.day.toNat]? = some v) (hrt : 0 ≤ v ∧ v ≤ 20)
    (X : List ABlk) (t : List Bool) (es : List (Key × Int)) (hk : KOk d es) :
    ∃ es' F, KOk d es' ∧ (EW tabX).call 78 [.ref r 0, eEn x, .agg (I R)] ⟨PM P m es ++ X, t⟩ = some (.int .i64 (payR (d.ag0 x.agent) x.near v), ⟨PM P m es' ++ X, t ++ F⟩) := by
  obtain ⟨a1, a2, a3, a4, a5, a6, a7, a8⟩ := ho.en x hx
  obtain ⟨i, hi⟩ := Int.eq_ofNat_of_zero_le a1
  obtain ⟨j, hj⟩ := Int.eq_ofNat_of_zero_le a3
  have hil : i < d.agents.length := by omega
  have hga := List.getElem?_eq_getElem hil
  have e1 : d.ag0 x.agent = d.agents[i] := by simp [Ho.ag0, hi, hil]
  have hj3 : j < 3 := by have := ho.d3; omega
  rw [hj, cast_toNat] at hv
  rw [e1, w_call _ fn_78 rfl]
  match R, hR, hv with
  | [x0, x1, x2], _, hv =>
    have key := fun X t => c74x d hd ho but hP i d.agents[i] hga x.near v ⟨a5, a6⟩ hrt X t es hk
    have hc : j = 0 ∨ j = 1 ∨ j = 2 := by omega
    rcases hc with rfl | rfl | rfl
    all_goals
      simp only [List.getElem?_cons_zero, List.getElem?_cons_succ, Option.some.injEq] at hv
      subst hv
      simp (disch := omega) only [go_sem, ↓reduceIte, Nat.reduceBEq, Nat.reduceEqDiff, Nat.reduceLT, Nat.reduceLeDiff, Nat.reduceAdd, Nat.reduceMul, Nat.reduceSub, reduceCtorEq, Int.reduceLT, Int.reduceLE, Int.reduceEq, Int.reduceBEq, Int.reduceBNe, Int.reduceToNat, Int.reduceAdd, Int.reduceNeg, Int.reduceSub, eEn, hi, hj]
      generalize hcf : drawT _ _ _ = cf
      obtain rfl : cf = true := by rw [← hcf]; kernel_rfl
      generalize List.replicate _ ABlk.none = N
      generalize List.replicate _ false = M
      simp (disch := omega) only [go_sem, ↓reduceIte, Nat.reduceBEq, Nat.reduceEqDiff, Nat.reduceLT, Nat.reduceLeDiff, Nat.reduceAdd, Nat.reduceMul, Nat.reduceSub, reduceCtorEq, Int.reduceLT, Int.reduceLE, Int.reduceEq, Int.reduceBEq, Int.reduceBNe, Int.reduceToNat, Int.reduceAdd, Int.reduceNeg, Int.reduceSub]
      generalize hbb : boundAll _ _ _ = bb
      obtain rfl : bb = true := by rw [← hbb]; kernel_rfl
      obtain ⟨es', F, h1, h2⟩ := key (X ++ (ABlk.cells [AV.int .i64 i, AV.int .i64 x.day, AV.int .i64 x.near, AV.int .i64 x.far] :: ABlk.cells (I [x0, x1, x2]) :: N)) (t ++ M)
      rw [hj] at h2
      refine ⟨es', M ++ F, h1, ?_⟩
      simp only [go_sem, ↓reduceIte, Nat.reduceBEq, Nat.reduceEqDiff, Nat.reduceLT, Nat.reduceLeDiff, Nat.reduceAdd, Nat.reduceMul, Nat.reduceSub, reduceCtorEq, Int.reduceLT, Int.reduceLE, Int.reduceEq, Int.reduceBEq, Int.reduceBNe, Int.reduceToNat, Int.reduceAdd, Int.reduceNeg, Int.reduceSub] at h2
      simp (disch := omega) only [go_sem, ↓reduceIte, Nat.reduceBEq, Nat.reduceEqDiff, Nat.reduceLT, Nat.reduceLeDiff, Nat.reduceAdd, Nat.reduceMul, Nat.reduceSub, reduceCtorEq, Int.reduceLT, Int.reduceLE, Int.reduceEq, Int.reduceBEq, Int.reduceBNe, Int.reduceToNat, Int.reduceAdd, Int.reduceNeg, Int.reduceSub, h2]
end Go.Proofs.Ytaohhjaogjcfoaa
end
section
namespace Go.Proofs.Ytaohhjaogjcfoaa
open Go.Proofs

section
variable {X : Tab} {f : Nat} {rd : Option Nat} {b : Code}
theorem w_rounds_sq {τ : Type} {G : Prop} {g : Slots} {h : Heap} {ms : List Nat} {x : Option (AExit × St)} (hx : (EW X).code f rd (.loop b) ⟨⟨g, []⟩, h, ms⟩ = x)
    (U : Nat → τ → Slots) (Hp : τ → Heap) (R : Nat → τ → Prop) (n : Nat) (Q : AExit → Slots → τ → Prop) (s0 : τ) (h0 : puts g (U 0 s0) = g) (hh : Hp s0 = h) (hR : R 0 s0)
    (hs : ∀ k s, k < n → R k s → (∃ s', cutS ⟨⟨puts g (U k s), []⟩, Hp s, ms⟩ ((EW X).code f rd b ⟨⟨puts g (U k s), []⟩, Hp s, ms⟩) = some (.normal, ⟨⟨puts g (U (k + 1) s'), []⟩, Hp s', ms⟩) ∧ R (k + 1) s') ∨
      ∃ e V s', cutS ⟨⟨puts g (U k s), []⟩, Hp s, ms⟩ ((EW X).code f rd b ⟨⟨puts g (U k s), []⟩, Hp s, ms⟩) = some (e, ⟨⟨puts g V, []⟩, Hp s', ms⟩) ∧ isNormal e = false ∧ Q e V s')
    (he : ∀ s, R n s → ∃ e V s', cutS ⟨⟨puts g (U n s), []⟩, Hp s, ms⟩ ((EW X).code f rd b ⟨⟨puts g (U n s), []⟩, Hp s, ms⟩) = some (e, ⟨⟨puts g V, []⟩, Hp s', ms⟩) ∧ isNormal e = false ∧ Q e V s')
    (hG : ∀ e V s, x = some (e, ⟨⟨puts g V, []⟩, Hp s, ms⟩) → Q e V s → G) : G := by
  refine w_rounds_q hx (fun k q => ∃ s, q = ⟨⟨puts g (U k s), []⟩, Hp s, ms⟩ ∧ R k s) n (fun e q => ∃ V s, q = ⟨⟨puts g V, []⟩, Hp s, ms⟩ ∧ Q e V s) ⟨s0, by rw [h0, hh], hR⟩ ?_ ?_ ?_
  · rintro k q hk ⟨s, rfl, h2⟩
    rcases hs k s hk h2 with ⟨s', a, c⟩ | ⟨e, V, s', a, b, c⟩
    · exact .inl ⟨_, a, s', rfl, c⟩
    · exact .inr ⟨e, _, a, b, V, s', rfl, c⟩
  · rintro q ⟨s, rfl, h2⟩
    obtain ⟨e, V, s', a, b, c⟩ := he s h2
    exact ⟨e, _, a, b, V, s', rfl, c⟩
  · rintro e q h1 ⟨V, s, rfl, h2⟩
    exact hG e V s h1 h2
end
theorem callAV_yld2 (X : Tab) (E : Eng) (l : Nat) (args : List AV) (h : Heap) : callAV X E false (.yld l) args h = stepRound X E l args h := id rfl
section
variable {α : Type} {Q : List α} {n : Nat} (h : Q.length = n)
include h
theorem q_get (t : List α) (i : Nat) : (Q ++ t)[n + i]? = t[i]? := by subst h; exact get_at Q t i
theorem q_get0 (t : List α) : (Q ++ t)[n]? = t[0]? := by subst h; exact get_at0 Q t
theorem q_set (t : List α) (i : Nat) (y : α) : (Q ++ t).set (n + i) y = Q ++ t.set i y := by subst h; exact set_at Q t i y
theorem q_set0 (t : List α) (y : α) : (Q ++ t).set n y = Q ++ t.set 0 y := by subst h; exact set_at0 Q t y
theorem q_take (t : List α) (i : Nat) : (Q ++ t).take (n + i) = Q ++ t.take i := by subst h; rw [List.take_length_add_append]
theorem q_take0 (t : List α) : (Q ++ t).take n = Q := by subst h; exact take_app Q t
end

def arrOf (t : List Int) : List Int := t ++ List.replicate (3 - t.length) 0
def loD (d : Ho) (t : List Int) : Int := if t.length = 0 then d.lo 0 else if d.lo t.length < t.getD (t.length - 1) 0 - d.step then t.getD (t.length - 1) 0 - d.step else d.lo t.length
def hiD (d : Ho) (t : List Int) : Int := if t.length = 0 then d.hi 0 else if t.getD (t.length - 1) 0 + d.step < d.hi t.length then t.getD (t.length - 1) 0 + d.step else d.hi t.length
def widthD (d : Ho) (t : List Int) : Nat := (hiD d t + 1 - loD d t).toNat
def skipB (d : Ho) (but day k : Nat) : Bool := !((d.en0 k).day == (day : Int)) || ((d.en0 k).far == -1 || but.testBit k)
def okDay (d : Ho) (but day : Nat) (v : Int) (k : Nat) : Bool := (List.range k).all fun i => skipB d but day i || payR (d.ag0 (d.en0 i).agent) (d.en0 i).near v == (d.en0 i).far
theorem okDay_succ (d : Ho) (but day : Nat) (v : Int) (k : Nat) : okDay d but day v (k + 1) = (okDay d but day v k && (skipB d but day k || payR (d.ag0 (d.en0 k).agent) (d.en0 k).near v == (d.en0 k).far)) := by simp [okDay, List.range_succ]
theorem okDay_no {d : Ho} {but day : Nat} {v : Int} : ∀ (j k : Nat), okDay d but day v (j + 1) = false → j < k → okDay d but day v k = false
  | j, 0, _, h => by omega
  | j, k + 1, h, hj => by
    by_cases e : j = k
    · subst e; exact h
    · rw [okDay_succ, okDay_no j k h (by omega)]; rfl
def nextK (d : Ho) (but : Nat) (t : List Int) (k : Nat) : List (List Int) := ((List.range k).filter fun (i : Nat) => okDay d but t.length (loD d t + (i : Int)) d.entries.length).map fun (i : Nat) => t ++ [loD d t + (i : Int)]
theorem nextK_succ (d : Ho) (but : Nat) (t : List Int) (k : Nat) : nextK d but t (k + 1) = if okDay d but t.length (loD d t + (k : Int)) d.entries.length = true then nextK d but t k ++ [t ++ [loD d t + (k : Int)]] else nextK d but t k := by
  unfold nextK
  rw [List.range_succ, List.filter_append, List.map_append]
  have e : (List.filter (fun i : Nat => okDay d but t.length (loD d t + (i : Int)) d.entries.length) [k]) = if okDay d but t.length (loD d t + (k : Int)) d.entries.length = true then [k] else [] := by simp only [List.filter_cons, List.filter_nil]
  rw [e]
  split <;> simp
def dfs (d : Ho) (but : Nat) : Nat → List Int → List (List Int)
  | 0, t => [t]
  | n + 1, t => (nextK d but t (widthD d t)).flatMap (dfs d but n)
theorem pre_split (d : Ho) (but n : Nat) (t : List Int) : ∀ {j k : Nat}, j ≤ k → ∃ rest, (nextK d but t k).flatMap (dfs d but n) = (nextK d but t j).flatMap (dfs d but n) ++ rest := fun {j k} h => by
  induction k with
  | zero => obtain rfl : j = 0 := by omega
            exact ⟨[], by simp⟩
  | succ k ih =>
    by_cases e : j = k + 1
    · subst e; exact ⟨[], by simp⟩
    · obtain ⟨rest, hr⟩ := ih (by omega)
      rw [nextK_succ]
      split
      · exact ⟨rest ++ dfs d but n (t ++ [loD d t + (k : Int)]), by rw [List.flatMap_append, hr, List.append_assoc]; simp⟩
      · exact ⟨rest, hr⟩
theorem pre_mono (d : Ho) (but n : Nat) (t : List Int) {j k : Nat} (h : j ≤ k) : ((nextK d but t j).flatMap (dfs d but n)).length ≤ ((nextK d but t k).flatMap (dfs d but n)).length := by
  obtain ⟨rest, hr⟩ := pre_split d but n t h
  rw [hr, List.length_append]; omega
def runC {σ : Type} (stp : σ → List Int → σ × Bool) : List (List Int) → σ → σ × Bool
  | [], s => (s, true)
  | t :: ts, s => if (stp s t).2 = true then runC stp ts (stp s t).1 else ((stp s t).1, false)
theorem runC_app {σ : Type} (stp : σ → List Int → σ × Bool) : ∀ (a b : List (List Int)) (s : σ), runC stp (a ++ b) s = if (runC stp a s).2 = true then runC stp b (runC stp a s).1 else runC stp a s
  | [], b, s => rfl
  | t :: a, b, s => by
    simp only [List.cons_append, runC]
    split
    · exact runC_app stp a b _
    · rfl

def NB (n l hb r : Nat) (arr : List Int) (E : List ABlk) : List ABlk :=
  .cells [.yld l] :: .cells [.clo 78 [.ref r 0] []] :: .cells (I arr) :: .cells [.clo 97 [] [.ref hb 0, .ref n 0, .ref (n + 2) 0, .ref (n + 1) 0, .ref (n + 3) 0]] :: E
structure Con (d : Ho) (but : Nat) (r m hb n l : Nat) (σ : Type) where
  PF : σ → List ABlk
  stp : σ → List Int → σ × Bool
  Inv : Nat → σ → Prop
  len : ∀ s, (PF s).length = n
  hat : ∀ s, HAt d but r m (PF s)
  bx : ∀ s, (PF s)[hb]? = some (.cells [.ref r 0])
  ne : hb ≠ m
  rnd : ∀ (k : Nat) (s : σ) (t : List Int) (E : List ABlk) (tb : List Bool) (es : List (Key × Int)), Inv k s → k < 8000 → t.length = d.rates.length → (∀ v ∈ t, 1 ≤ v ∧ v ≤ 20) → KOk d es →
    ∃ es' J F, KOk d es' ∧ ((stp s t).2 = true → Inv (k + 1) (stp s t).1) ∧ stepRound tabX (EW tabX) l [.agg (I (arrOf t))] ⟨PM (PF s) m es ++ NB n l hb r (arrOf t) E, tb⟩ = some (.bool (stp s t).2, ⟨PM (PF (stp s t).1) m es' ++ NB n l hb r (arrOf t) (E ++ J), tb ++ F⟩)
def AOk (d : Ho) (t arr : List Int) : Prop := arr.length = 3 ∧ arr.take t.length = t ∧ arr.drop d.rates.length = List.replicate (3 - d.rates.length) 0
theorem AOk.full {d : Ho} {t arr : List Int} (h : AOk d t arr) (e : t.length = d.rates.length) : arr = arrOf t := by
  obtain ⟨h1, h2, h3⟩ := h
  have := List.take_append_drop t.length arr
  rw [h2, e, h3] at this
  unfold arrOf; rw [e]; exact this.symm
theorem AOk.set {d : Ho} {t arr : List Int} (h : AOk d t arr) (hl : t.length < d.rates.length) (h3 : d.rates.length ≤ 3) (v : Int) : AOk d t (arr.set t.length v) ∧ AOk d (t ++ [v]) (arr.set t.length v) := by
  obtain ⟨a, b, c⟩ := h
  have hd : (arr.set t.length v).drop d.rates.length = List.replicate (3 - d.rates.length) 0 := by rw [List.drop_set_of_lt hl]; exact c
  have ht : (arr.set t.length v).take t.length = t := by
    rw [List.take_set_of_le (Nat.le_refl _)]; exact b
  refine ⟨⟨by simpa using a, ht, hd⟩, by simpa using a, ?_, hd⟩
  rw [List.length_append, List.length_singleton, List.take_add_one, ht, List.getElem?_set_self (by omega)]
  rfl
theorem AOk.weak {d : Ho} {t arr : List Int} {v : Int} (h : AOk d (t ++ [v]) arr) : AOk d t arr := by
  obtain ⟨a, b, c⟩ := h
  refine ⟨a, ?_, c⟩
  have := congrArg (List.take t.length) b
  rw [List.take_take] at this
  simpa using this
theorem Con.facts {d : Ho} {but : Nat} {r m hb n l : Nat} {σ : Type} (C : Con d but r m hb n l σ) (s : σ) (es : List (Key × Int)) :
    (PM (C.PF s) m es).length = n ∧ (∀ X, (PM (C.PF s) m es ++ X)[r]? = some (.cells (eHs d but m))) ∧ ∀ X, (PM (C.PF s) m es ++ X)[hb]? = some (.cells [.ref r 0]) := by
  refine ⟨by rw [List.length_set]; exact C.len s, fun X => (C.hat s).house _ X, fun X => old ?_ X⟩
  rw [List.getElem?_set_ne (fun e => C.ne e.symm)]; exact C.bx s
theorem I_set (l : List Int) (i : Nat) (x : Int) : (I l).set i (.int .i64 x) = I (l.set i x) := by unfold I; rw [List.map_set]
theorem splice1 (c : List AV) (off : Nat) (v : AV) : splice c off [v] = c.set off v := id rfl
structure IS where
  es : List (Key × Int)
  J : List ABlk
  F : List Bool
structure LS (σ : Type) where
  s : σ
  es : List (Key × Int)
  arr : List Int
  J : List ABlk
  F : List Bool
  k : Nat
set_option maxHeartbeats 4000000 in
theorem c97 {d : Ho} (hd : d.fits) (ho : d.Ok) {but : Nat} (hbut : but < 32) {r m hb n l : Nat} {σ : Type} (C : Con d but r m hb n l σ) :
    ∀ (n' : Nat) (t : List Int) (k : Nat) (s : σ) (arr : List Int) (E : List ABlk) (tb : List Bool) (es : List (Key × Int)), t.length + n' = d.rates.length → (∀ v ∈ t, 1 ≤ v ∧ v ≤ 20) → C.Inv k s → k + (dfs d but n' t).length ≤ 8000 → AOk d t arr → KOk d es →
    ∃ es' arr' F k', KOk d es' ∧ AOk d t arr' ∧ ((runC C.stp (dfs d but n' t) s).2 = true → C.Inv k' (runC C.stp (dfs d but n' t) s).1) ∧ k' ≤ k + (dfs d but n' t).length ∧
      (EW tabX).call 97 [.int .i64 t.length, .ref hb 0, .ref n 0, .ref (n + 2) 0, .ref (n + 1) 0, .ref (n + 3) 0] ⟨PM (C.PF s) m es ++ NB n l hb r arr E, tb⟩ =
        some (.bool (runC C.stp (dfs d but n' t) s).2, ⟨PM (C.PF (runC C.stp (dfs d but n' t) s).1) m es' ++ NB n l hb r arr' E, tb ++ F⟩)
  | 0, t, k, s, arr, E, tb, es, hn, hv, hi, hk, ha, hke => by
    have hrd := ho.rd
    have htl : t.length = d.rates.length := by omega
    have harr := ha.full htl
    subst harr
    obtain ⟨es', J, F, h1, h2, h3⟩ := C.rnd k s t E tb es hi (by simp only [dfs, List.length_cons, List.length_nil] at hk; omega) htl hv hke
    obtain ⟨hQ, oR, oH⟩ := C.facts s es
    obtain ⟨hQ', oR', oH'⟩ := C.facts (C.stp s t).1 es'
    have hr2 : runC C.stp (dfs d but 0 t) s = C.stp s t := by
      simp only [dfs, runC]
      cases hq : (C.stp s t).2 with
      | true => rw [if_pos rfl]; rw [← hq]
      | false => rw [if_neg (by decide)]; rw [← hq]
    rw [hr2]
    refine ⟨es', arrOf t, F, k + 1, h1, ha, h2, by simp [dfs], ?_⟩
    have hdays : (t.length : Int) = d.days := by omega
    generalize PM (C.PF s) m es = Q at hQ oR oH h3 ⊢
    generalize PM (C.PF (C.stp s t).1) m es' = Q' at hQ' oR' oH' h3 ⊢
    have ha3 := ha.1
    match hA : arrOf t, ha3 with
    | [x0, x1, x2], _ =>
      rw [hA] at h3
      simp only [eHs, eHc, List.cons_append, List.nil_append] at oR
      simp only [NB] at h3 ⊢
      rw [w_call _ fn_97 rfl]
      simp (disch := omega) only [go_sem, ↓reduceIte, Nat.reduceBEq, Nat.reduceEqDiff, Nat.reduceLT, Nat.reduceLeDiff, Nat.reduceAdd, Nat.reduceMul, Nat.reduceSub, reduceCtorEq, Int.reduceLT, Int.reduceLE, Int.reduceEq, Int.reduceBEq, Int.reduceBNe, Int.reduceToNat, Int.reduceAdd, Int.reduceNeg, Int.reduceSub, oR, oH, hQ, hQ', q_get hQ, q_get0 hQ, hdays, callAV_yld2, h3, q_take hQ']
  | n' + 1, t, k, s, arr, E, tb, es, hn, hv, hi, hk, ha, hke => by
    have ih := c97 hd ho hbut C n'
    have hrd := ho.rd
    have hd3 := ho.d3
    have hst := ho.st
    have htl : t.length < d.rates.length := by omega
    obtain ⟨hday, w1, w2, w3, w4, w5⟩ := ho.day htl
    have hzr := hd.zr (by intro e; rw [e] at htl; simp at htl)
    obtain ⟨hQ, oR, oH⟩ := C.facts s es
    have hth : ((t.length : Int) == d.days) = false := by simp; omega
    simp only [eHs, eHc, List.cons_append, List.nil_append] at oR
    rw [w_call _ fn_97 rfl]
    generalize hQQ : PM (C.PF s) m es = Q at hQ oR oH
    have hsplit : t.length = 0 ∨ ∃ p, t.length = p + 1 := by
      cases t.length with
      | zero => exact .inl rfl
      | succ p => exact .inr ⟨p, rfl⟩
    have hlo1 : d.lo t.length ≤ loD d t := by
      unfold loD
      split
      · rename_i h; rw [h]; exact Int.le_refl _
      · split <;> omega
    have hhi1 : hiD d t ≤ d.hi t.length := by
      unfold hiD
      split
      · rename_i h; rw [h]; exact Int.le_refl _
      · split <;> omega
    rcases hsplit with h0 | ⟨p, hp⟩
    case' inl =>
      have hnp : ¬ (0 : Int) < t.length := by omega
      have hl0 : loD d t = d.lo t.length := by unfold loD; rw [if_pos h0, h0]
      have hh0 : hiD d t = d.hi t.length := by unfold hiD; rw [if_pos h0, h0]
      simp only [NB]
      simp (disch := omega) only [go_sem, ↓reduceIte, Nat.reduceBEq, Nat.reduceEqDiff, Nat.reduceLT, Nat.reduceLeDiff, Nat.reduceAdd, Nat.reduceMul, Nat.reduceSub, reduceCtorEq, Int.reduceLT, Int.reduceLE, Int.reduceEq, Int.reduceBEq, Int.reduceBNe, Int.reduceToNat, Int.reduceAdd, Int.reduceNeg, Int.reduceSub, oR, oH, hQ, q_get hQ, q_get0 hQ, q_set hQ, q_set0 hQ, q_take hQ, q_take0 hQ, hth, hday, hzr, eSp, hnp]
      rw [← hl0, ← hh0]
      obtain ⟨J0, hJ0⟩ : ∃ J0 : List ABlk, J0 = [] := ⟨_, rfl⟩
      obtain ⟨F0, hF0⟩ : ∃ F0 : List Bool, F0 = [] := ⟨_, rfl⟩
      generalize hx : (EW tabX).code 97 none (Code.loop _) _ = x
    case' inr =>
      have h0 : t.length ≠ 0 := by omega
      have hpp : (0 : Int) < t.length := by omega
      have hpl : p < t.length := by omega
      have htp := List.getElem?_eq_getElem hpl
      have hap : arr[p]? = some t[p] := by
        have := congrArg (fun l => l[p]?) ha.2.1
        simp only [List.getElem?_take_of_lt hpl] at this
        rw [this]; exact htp
      have hbv := hv _ (List.getElem_mem hpl)
      have hpi : (t.length : Int) - 1 = p := by omega
      have hd3' : p < 3 := by omega
      have hal := ha.1
      have hgd : t.getD (t.length - 1) 0 = t[p] := by rw [hp]; simp [hpl]
      have hl0 : loD d t = if d.lo t.length < t[p] - d.step then t[p] - d.step else d.lo t.length := by unfold loD; rw [if_neg h0, hgd]
      have hh0 : hiD d t = if t[p] + d.step < d.hi t.length then t[p] + d.step else d.hi t.length := by unfold hiD; rw [if_neg h0, hgd]
      simp only [NB]
      simp (disch := omega) only [go_sem, ↓reduceIte, Nat.reduceBEq, Nat.reduceEqDiff, Nat.reduceLT, Nat.reduceLeDiff, Nat.reduceAdd, Nat.reduceMul, Nat.reduceSub, reduceCtorEq, Int.reduceLT, Int.reduceLE, Int.reduceEq, Int.reduceBEq, Int.reduceBNe, Int.reduceToNat, Int.reduceAdd, Int.reduceNeg, Int.reduceSub, oR, oH, hQ, q_get hQ, q_get0 hQ, q_set hQ, q_set0 hQ, q_take hQ, q_take0 hQ, hth, hday, hzr, eSp, hpp, hpi, hap, wrap_i64]
      generalize hcf : drawT _ _ _ = cf
      obtain rfl : cf = true := by rw [← hcf]; kernel_rfl
      generalize hN0 : List.replicate _ ABlk.none = N
      generalize hM0 : List.replicate _ false = M
      simp (disch := omega) only [go_sem, ↓reduceIte, Nat.reduceBEq, Nat.reduceEqDiff, Nat.reduceLT, Nat.reduceLeDiff, Nat.reduceAdd, Nat.reduceMul, Nat.reduceSub, reduceCtorEq, Int.reduceLT, Int.reduceLE, Int.reduceEq, Int.reduceBEq, Int.reduceBNe, Int.reduceToNat, Int.reduceAdd, Int.reduceNeg, Int.reduceSub, oR, oH, hQ, q_get hQ, q_get0 hQ, q_set hQ, q_set0 hQ, q_take hQ, q_take0 hQ, hpi, hap, hd3', hal, Nat.mul_one, List.getElem?_drop, wrap_i64]
      rw [← hl0, ← hh0]
      obtain ⟨J0, hJ0⟩ : ∃ J0 : List ABlk, J0 = N := ⟨_, rfl⟩
      obtain ⟨F0, hF0⟩ : ∃ F0 : List Bool, F0 = M := ⟨_, rfl⟩
      generalize hx : (EW tabX).code 97 none (Code.loop _) _ = x
    all_goals
      refine w_rounds_sq hx (fun kk (q : LS σ) => [(9, .int .i64 (loD d t + (kk : Int)))]) (fun q => ⟨PM (C.PF q.s) m q.es ++ NB n l hb r q.arr (E ++ (.cells [.int .i64 (loD d t), .int .i64 (hiD d t)] :: q.J)), tb ++ q.F⟩)
        (fun kk q => KOk d q.es ∧ AOk d t q.arr ∧ C.Inv q.k q.s ∧ q.k ≤ k + ((nextK d but t kk).flatMap (dfs d but n')).length ∧ runC C.stp ((nextK d but t kk).flatMap (dfs d but n')) s = (q.s, true)) (widthD d t)
        (fun e V q => KOk d q.es ∧ AOk d t q.arr ∧ (e = .exit 0 → C.Inv q.k q.s) ∧ q.k ≤ k + (dfs d but (n' + 1) t).length ∧ ((e = .exit 0 ∧ V = [(9, .int .i64 (loD d t + (widthD d t : Int)))] ∧ runC C.stp (dfs d but (n' + 1) t) s = (q.s, true)) ∨
          (e = .ret ∧ (∃ v : Int, V = [(7, .bool false), (9, .int .i64 v), (74, .lst 0 d.ze (d.entries.map eEn)), (75, .int .i64 d.entries.length), (76, .int .i64 d.entries.length)]) ∧ runC C.stp (dfs d but (n' + 1) t) s = (q.s, false)))) ⟨s, es, arr, J0, F0, k⟩ ?_ ?_ ?_ ?_ ?_ ?_
      · simp only [go_sem, ↓reduceIte, Nat.reduceBEq, Nat.reduceEqDiff, Nat.reduceLT, Nat.reduceLeDiff, Nat.reduceAdd, Nat.reduceMul, Nat.reduceSub, reduceCtorEq, Int.reduceLT, Int.reduceLE, Int.reduceEq, Int.reduceBEq, Int.reduceBNe, Int.reduceToNat, Int.reduceAdd, Int.reduceNeg, Int.reduceSub, Int.add_zero]
      · subst hJ0 hF0
        simp only [NB, ← hQQ, List.append_nil]
      · exact ⟨hke, ha, hi, by simp [nextK], by simp [nextK, runC]⟩
      · intro kk q hkk hR
        obtain ⟨s1, es1, arr1, J1, F1, k1⟩ := q
        obtain ⟨r1, r2, r3, r4, r5⟩ := hR
        have r1 : KOk d es1 := r1
        have r2 : AOk d t arr1 := r2
        have hw : (widthD d t : Int) = hiD d t + 1 - loD d t := by unfold widthD at hkk ⊢; omega
        have hvi : loD d t + (kk : Int) ≤ hiD d t := by omega
        have hv0 : 1 ≤ loD d t + (kk : Int) ∧ loD d t + (kk : Int) ≤ 20 := by omega
        have hws : IntKind.i64.wrap (loD d t + (kk : Int) + 1) = loD d t + ((kk : Int) + 1) := by rw [wrap_i64 (by omega)]; omega
        obtain ⟨hQ1, oR1, oH1⟩ := C.facts s1 es1
        simp only [eHs, eHc, List.cons_append, List.nil_append] at oR1
        have ha1 := r2.1
        have ht3 : t.length < 3 := by omega
        obtain ⟨as1, as2⟩ := r2.set htl (by omega) (loD d t + (kk : Int))
        generalize hQQ1 : PM (C.PF s1) m es1 = Q1 at hQ1 oR1 oH1
        generalize hvv : loD d t + (kk : Int) = v at hvi hv0 hws as1 as2
        simp only [NB, hQQ1]
        have ht2 : t.length ≤ 2 := by omega
        simp (disch := omega) only [go_sem, ↓reduceIte, Nat.reduceBEq, Nat.reduceEqDiff, Nat.reduceLT, Nat.reduceLeDiff, Nat.reduceAdd, Nat.reduceMul, Nat.reduceSub, reduceCtorEq, Int.reduceLT, Int.reduceLE, Int.reduceEq, Int.reduceBEq, Int.reduceBNe, Int.reduceToNat, Int.reduceAdd, Int.reduceNeg, Int.reduceSub, oR1, oH1, hQ1, q_get hQ1, q_get0 hQ1, q_set hQ1, q_set0 hQ1, q_take hQ1, q_take0 hQ1, hvi, ha1, ht3, ht2, splice1, Nat.mul_one, I_set]
        generalize hy : (EW tabX).code 97 none (Code.loop _) _ = y
        refine w_rounds_sq hy (fun j (q : IS) => [(76, .int .i64 j)]) (fun q => ⟨PM (C.PF s1) m q.es ++ NB n l hb r (arr1.set t.length v) (E ++ (.cells [.int .i64 (loD d t), .int .i64 (hiD d t)] :: (J1 ++ q.J))), tb ++ (F1 ++ q.F)⟩)
          (fun j q => KOk d q.es ∧ okDay d but t.length v j = true) d.entries.length
          (fun e V q => KOk d q.es ∧ ((e = .exit 2 ∧ okDay d but t.length v d.entries.length = true ∧ V = [(76, .int .i64 d.entries.length)]) ∨
            (e = .exit 1 ∧ okDay d but t.length v d.entries.length = false ∧ ∃ (j pp : Nat), V = [(10, .int .i64 j), (11, .ref pp 0), (76, .int .i64 j)]))) ⟨es1, [], []⟩ ?_ ?_ ?_ ?_ ?_ ?_
        · simp only [go_sem, ↓reduceIte, Nat.reduceBEq, Nat.reduceEqDiff, Nat.reduceLT, Nat.reduceLeDiff, Nat.reduceAdd, Nat.reduceMul, Nat.reduceSub, reduceCtorEq, Int.reduceLT, Int.reduceLE, Int.reduceEq, Int.reduceBEq, Int.reduceBNe, Int.reduceToNat, Int.reduceAdd, Int.reduceNeg, Int.reduceSub]
        · simp only [NB, hQQ1, List.append_nil]
        · exact ⟨r1, rfl⟩
        · intro j q hj hR
          obtain ⟨es2, J2, F2⟩ := q
          obtain ⟨u1, u2⟩ := hR
          have u1 : KOk d es2 := u1
          have hji : (j : Int) < d.entries.length := by omega
          have hxj := List.getElem?_eq_getElem hj
          have hze := hd.ze (by intro e; rw [e] at hj; simp at hj)
          have he0 := en0_at d hj
          have hen := ho.en _ (List.getElem_mem hj)
          have hsuc := okDay_succ d but t.length v j
          rw [u2, Bool.true_and, he0] at hsuc
          have hsk : skipB d but t.length j = (!(d.entries[j].day == (t.length : Int)) || (d.entries[j].far == -1 || but.testBit j)) := by unfold skipB; rw [he0]
          obtain ⟨hQ2, oR2, oH2⟩ := C.facts s1 es2
          simp only [eHs, eHc, List.cons_append, List.nil_append] at oR2
          generalize hQQ2 : PM (C.PF s1) m es2 = Q2 at hQ2 oR2 oH2
          have hwj : IntKind.i64.wrap ((j : Int) + 1) = (j : Int) + 1 := wrap_i64 (by have := ho.e5; omega)
          have h3le : 3 ≤ arr1.length := by omega
          have htk : (arr1.set t.length v).take 3 = arr1.set t.length v := List.take_of_length_le (by simp; omega)
          have hbt := shr_and ⟨but, hbut⟩ ⟨j, by have := ho.e5; omega⟩
          simp only [NB, hQQ2]
          simp only [go_sem, ↓reduceIte, Nat.reduceBEq, Nat.reduceEqDiff, Nat.reduceLT, Nat.reduceLeDiff, Nat.reduceAdd, Nat.reduceMul, Nat.reduceSub, reduceCtorEq, Int.reduceLT, Int.reduceLE, Int.reduceEq, Int.reduceBEq, Int.reduceBNe, Int.reduceToNat, Int.reduceAdd, Int.reduceNeg, Int.reduceSub, oR2, oH2, hQ2, q_get hQ2, q_get0 hQ2, q_set hQ2, q_set0 hQ2, q_take hQ2, q_take0 hQ2, hji, hxj, eEn, hze]
          generalize hgg : (IntKind.i64.wrap _ == (1 : Int)) = bb
          obtain rfl : bb = but.testBit j := hgg.symm.trans hbt
          have hskk : (d.entries[j].day != (t.length : Int) || (d.entries[j].far == -1 || but.testBit j)) = skipB d but t.length j := hsk.symm
          rw [hskk]
          cases hs : skipB d but t.length j with
          | true =>
            left
            refine ⟨⟨es2, J2 ++ [bEn d.entries[j]], F2⟩, ?_, u1, by rw [hsuc, hs]; rfl⟩
            simp only [go_sem, ↓reduceIte, Nat.reduceBEq, Nat.reduceEqDiff, Nat.reduceLT, Nat.reduceLeDiff, Nat.reduceAdd, Nat.reduceMul, Nat.reduceSub, reduceCtorEq, Int.reduceLT, Int.reduceLE, Int.reduceEq, Int.reduceBEq, Int.reduceBNe, Int.reduceToNat, Int.reduceAdd, Int.reduceNeg, Int.reduceSub, bEn, hQQ2, hwj]
          | false =>
            rw [hs, Bool.false_or] at hsuc
            have hday : d.entries[j].day = t.length := by
              rw [hs] at hsk
              have := hsk.symm
              simp only [Bool.or_eq_false_iff, Bool.not_eq_false', beq_iff_eq] at this
              exact this.1
            have har : (arr1.set t.length v)[d.entries[j].day.toNat]? = some v := by
              rw [hday, cast_toNat, List.getElem?_set_self (by omega)]
            simp only [Bool.false_eq_true, if_false]
            generalize hcf : okFam _ _ _ = cf
            obtain rfl : cf = true := by rw [← hcf]; kernel_rfl
            generalize List.replicate _ ABlk.none = N
            generalize List.replicate _ false = M
            obtain ⟨es3, F3, k1', hc⟩ := c78x d hd ho but (C.hat s1) d.entries[j] (List.getElem_mem hj) (arr1.set t.length v) (by simpa using ha1) v har (by omega)
              (ABlk.cells [.yld l] :: ABlk.cells [.clo 78 [.ref r 0] []] :: ABlk.cells (I (arr1.set t.length v)) :: ABlk.cells [.clo 97 [] [.ref hb 0, .ref n 0, .ref (n + 2) 0, .ref (n + 1) 0, .ref (n + 3) 0]] ::
                (E ++ ABlk.cells [.int .i64 (loD d t), .int .i64 (hiD d t)] :: (J1 ++ (J2 ++ (bEn d.entries[j] :: N))))) (tb ++ (F1 ++ (F2 ++ M))) es2 u1
            rw [hQQ2] at hc
            obtain ⟨hQ3, oR3, oH3⟩ := C.facts s1 es3
            generalize hQQ3 : PM (C.PF s1) m es3 = Q3 at hQ3 oR3 oH3 hc
            simp only [eEn, bEn] at hc
            generalize hpay : payR (d.ag0 d.entries[j].agent) d.entries[j].near v = pv at hc hsuc
            by_cases hpf : pv = d.entries[j].far
            · left
              refine ⟨⟨es3, J2 ++ (bEn d.entries[j] :: N), F2 ++ (M ++ F3)⟩, ?_, k1', by rw [hsuc]; simpa using hpf⟩
              have hne : (pv != d.entries[j].far) = false := by simp [hpf]
              simp only [go_sem, ↓reduceIte, Nat.reduceBEq, Nat.reduceEqDiff, Nat.reduceLT, Nat.reduceLeDiff, Nat.reduceAdd, Nat.reduceMul, Nat.reduceSub, reduceCtorEq, Int.reduceLT, Int.reduceLE, Int.reduceEq, Int.reduceBEq, Int.reduceBNe, Int.reduceToNat, Int.reduceAdd, Int.reduceNeg, Int.reduceSub, hc, h3le, htk, hQ2, q_get hQ2, q_get0 hQ2, q_set hQ2, q_set0 hQ2, q_take hQ2, q_take0 hQ2, hQ3, q_get hQ3, q_get0 hQ3, q_set hQ3, q_set0 hQ3, q_take hQ3, q_take0 hQ3, bEn, hne, hQQ3, hwj]
            · right
              have hne : (pv != d.entries[j].far) = true := by simpa using hpf
              refine ⟨.exit 1, _, ⟨es3, J2 ++ (bEn d.entries[j] :: N), F2 ++ (M ++ F3)⟩, ?_, rfl, k1', .inr ⟨rfl, okDay_no j _ (by rw [hsuc]; simpa using hpf) hj, j, n + (E.length + (J1.length + J2.length + 1) + 1 + 1 + 1 + 1), rfl⟩⟩
              simp only [go_sem, ↓reduceIte, Nat.reduceBEq, Nat.reduceEqDiff, Nat.reduceLT, Nat.reduceLeDiff, Nat.reduceAdd, Nat.reduceMul, Nat.reduceSub, reduceCtorEq, Int.reduceLT, Int.reduceLE, Int.reduceEq, Int.reduceBEq, Int.reduceBNe, Int.reduceToNat, Int.reduceAdd, Int.reduceNeg, Int.reduceSub, hc, h3le, htk, hQ2, q_get hQ2, q_get0 hQ2, q_set hQ2, q_set0 hQ2, q_take hQ2, q_take0 hQ2, hQ3, q_get hQ3, q_get0 hQ3, q_set hQ3, q_set0 hQ3, q_take hQ3, q_take0 hQ3, bEn, hne, hQQ3, hwj]
        · intro q hR
          refine ⟨.exit 2, [(76, .int .i64 d.entries.length)], q, ?_, rfl, hR.1, .inl ⟨rfl, hR.2, rfl⟩⟩
          simp only [go_sem, ↓reduceIte, Nat.reduceBEq, Nat.reduceEqDiff, Nat.reduceLT, Nat.reduceLeDiff, Nat.reduceAdd, Nat.reduceMul, Nat.reduceSub, reduceCtorEq, Int.reduceLT, Int.reduceLE, Int.reduceEq, Int.reduceBEq, Int.reduceBNe, Int.reduceToNat, Int.reduceAdd, Int.reduceNeg, Int.reduceSub]
        · intro e V q hye hQe
          obtain ⟨es2, J2, F2⟩ := q
          obtain ⟨u1, hQe⟩ := hQe
          have u1 : KOk d es2 := u1
          obtain ⟨hQ2, oR2, oH2⟩ := C.facts s1 es2
          simp only [eHs, eHc, List.cons_append, List.nil_append] at oR2
          have hws2 : IntKind.i64.wrap (v + 1) = loD d t + ((kk : Int) + 1) := by rw [← hvv]; rw [← hvv] at hws; exact hws
          rcases hQe with ⟨rfl, hok, rfl⟩ | ⟨rfl, hok, j, pp, rfl⟩
          · have hpre : (nextK d but t (kk + 1)).flatMap (dfs d but n') = (nextK d but t kk).flatMap (dfs d but n') ++ dfs d but n' (t ++ [v]) := by
              rw [nextK_succ, hvv, if_pos hok, List.flatMap_append]; simp
            have hmono := pre_mono d but n' t (show kk + 1 ≤ widthD d t by omega)
            rw [hpre, List.length_append] at hmono
            have htot : (dfs d but (n' + 1) t).length = ((nextK d but t (widthD d t)).flatMap (dfs d but n')).length := rfl
            have hwt : IntKind.i64.wrap ((t.length : Int) + 1) = (t.length : Int) + 1 := wrap_i64 (by omega)
            have r4 : k1 ≤ k + ((nextK d but t kk).flatMap (dfs d but n')).length := r4
            obtain ⟨es3, arr3, F3, k3, x1, x2, x3, x4, x5⟩ := ih (t ++ [v]) k1 s1 (arr1.set t.length v) (E ++ (.cells [.int .i64 (loD d t), .int .i64 (hiD d t)] :: (J1 ++ J2))) (tb ++ (F1 ++ F2)) es2 (by simp; omega)
              (fun w hw => by rcases List.mem_append.1 hw with h | h; exact hv w h; simp at h; rw [h]; exact hv0) r3 (by omega) as2 u1
            simp only [List.length_append, List.length_singleton, Int.natCast_add, Int.natCast_one, NB] at x5
            rw [hye]
            simp only [NB]
            obtain ⟨hQ3, oR3, oH3⟩ := C.facts (runC C.stp (dfs d but n' (t ++ [v])) s1).1 es3
            generalize hQQ2 : PM (C.PF s1) m es2 = Q2 at hQ2 oR2 oH2 x5
            generalize hQQ3 : PM (C.PF (runC C.stp (dfs d but n' (t ++ [v])) s1).1) m es3 = Q3 at hQ3 oR3 oH3 x5
            cases hbb : (runC C.stp (dfs d but n' (t ++ [v])) s1).2 with
            | true =>
              left
              rw [hbb] at x5
              refine ⟨⟨(runC C.stp (dfs d but n' (t ++ [v])) s1).1, es3, arr3, J1 ++ J2, F1 ++ (F2 ++ F3), k3⟩, ?_, x1, x2.weak, x3 hbb, ?_, ?_⟩
              · simp only [go_sem, ↓reduceIte, Nat.reduceBEq, Nat.reduceEqDiff, Nat.reduceLT, Nat.reduceLeDiff, Nat.reduceAdd, Nat.reduceMul, Nat.reduceSub, reduceCtorEq, Int.reduceLT, Int.reduceLE, Int.reduceEq, Int.reduceBEq, Int.reduceBNe, Int.reduceToNat, Int.reduceAdd, Int.reduceNeg, Int.reduceSub, hQ2, q_get hQ2, q_get0 hQ2, q_set hQ2, q_set0 hQ2, q_take hQ2, q_take0 hQ2, hwt, x5, hws2, hQQ3]
              · rw [hpre, List.length_append]
                have x4 : k3 ≤ k1 + (dfs d but n' (t ++ [v])).length := x4
                show k3 ≤ _
                omega
              · rw [hpre, runC_app, r5, if_pos rfl]
                show runC C.stp (dfs d but n' (t ++ [v])) s1 = _
                rw [← hbb]
            | false =>
              right
              rw [hbb] at x5
              refine ⟨.ret, [(7, .bool false), (9, .int .i64 v), (74, .lst 0 d.ze (d.entries.map eEn)), (75, .int .i64 d.entries.length), (76, .int .i64 d.entries.length)], ⟨(runC C.stp (dfs d but n' (t ++ [v])) s1).1, es3, arr3, J1 ++ J2, F1 ++ (F2 ++ F3), k3⟩, ?_, rfl, x1, x2.weak, fun h => (by cases h), ?_, .inr ⟨rfl, ⟨v, rfl⟩, ?_⟩⟩
              · simp only [go_sem, ↓reduceIte, Nat.reduceBEq, Nat.reduceEqDiff, Nat.reduceLT, Nat.reduceLeDiff, Nat.reduceAdd, Nat.reduceMul, Nat.reduceSub, reduceCtorEq, Int.reduceLT, Int.reduceLE, Int.reduceEq, Int.reduceBEq, Int.reduceBNe, Int.reduceToNat, Int.reduceAdd, Int.reduceNeg, Int.reduceSub, hQ2, q_get hQ2, q_get0 hQ2, q_set hQ2, q_set0 hQ2, q_take hQ2, q_take0 hQ2, hwt, x5, hws2, hQQ3]
              · have x4 : k3 ≤ k1 + (dfs d but n' (t ++ [v])).length := x4
                show k3 ≤ _
                omega
              · have hfull : ∃ rest, (nextK d but t (widthD d t)).flatMap (dfs d but n') = (nextK d but t (kk + 1)).flatMap (dfs d but n') ++ rest := pre_split d but n' t (show kk + 1 ≤ widthD d t by omega)
                obtain ⟨rest, hrest⟩ := hfull
                show runC C.stp ((nextK d but t (widthD d t)).flatMap (dfs d but n')) s = _
                rw [hrest, hpre, List.append_assoc, runC_app, r5, if_pos rfl]
                show runC C.stp (dfs d but n' (t ++ [v]) ++ rest) s1 = _
                rw [runC_app, hbb, if_neg (by decide), ← hbb]
          · have hpre : (nextK d but t (kk + 1)).flatMap (dfs d but n') = (nextK d but t kk).flatMap (dfs d but n') := by
              rw [nextK_succ, hvv, if_neg (by rw [hok]; decide)]
            left
            rw [hye]
            refine ⟨⟨s1, es2, arr1.set t.length v, J1 ++ J2, F1 ++ F2, k1⟩, ?_, u1, as1, r3, by rw [hpre]; exact r4, by rw [hpre]; exact r5⟩
            simp only [NB]
            simp only [go_sem, ↓reduceIte, Nat.reduceBEq, Nat.reduceEqDiff, Nat.reduceLT, Nat.reduceLeDiff, Nat.reduceAdd, Nat.reduceMul, Nat.reduceSub, reduceCtorEq, Int.reduceLT, Int.reduceLE, Int.reduceEq, Int.reduceBEq, Int.reduceBNe, Int.reduceToNat, Int.reduceAdd, Int.reduceNeg, Int.reduceSub, hws2]
      · intro q hR
        obtain ⟨s1, es1, arr1, J1, F1, k1⟩ := q
        obtain ⟨r1, r2, r3, r4, r5⟩ := hR
        obtain ⟨hQ1, oR1, oH1⟩ := C.facts s1 es1
        have hw : (widthD d t : Int) = hiD d t + 1 - loD d t ∨ ((widthD d t : Int) = 0 ∧ hiD d t < loD d t) := by unfold widthD; omega
        have hnn : ¬ (loD d t + (widthD d t : Int) ≤ hiD d t) := by omega
        refine ⟨.exit 0, [(9, .int .i64 (loD d t + (widthD d t : Int)))], ⟨s1, es1, arr1, J1, F1, k1⟩, ?_, rfl, r1, r2, fun _ => r3, r4, .inl ⟨rfl, rfl, r5⟩⟩
        generalize hQQ1 : PM (C.PF s1) m es1 = Q1 at hQ1 oR1 oH1
        simp only [NB, hQQ1]
        simp only [go_sem, ↓reduceIte, Nat.reduceBEq, Nat.reduceEqDiff, Nat.reduceLT, Nat.reduceLeDiff, Nat.reduceAdd, Nat.reduceMul, Nat.reduceSub, reduceCtorEq, Int.reduceLT, Int.reduceLE, Int.reduceEq, Int.reduceBEq, Int.reduceBNe, Int.reduceToNat, Int.reduceAdd, Int.reduceNeg, Int.reduceSub, hQ1, q_get hQ1, q_get0 hQ1, q_set hQ1, q_set0 hQ1, q_take hQ1, q_take0 hQ1, hnn]
      · intro e V q hxe hQe
        obtain ⟨s1, es1, arr1, J1, F1, k1⟩ := q
        obtain ⟨r1, r2, r3, r4, hQe⟩ := hQe
        have r1 : KOk d es1 := r1
        obtain ⟨hQ1, oR1, oH1⟩ := C.facts s1 es1
        rcases hQe with ⟨rfl, rfl, r5⟩ | ⟨rfl, ⟨v, rfl⟩, r5⟩
        · rw [r5]
          refine ⟨es1, arr1, F1, k1, r1, r2, fun _ => r3 rfl, r4, ?_⟩
          generalize hQQ1 : PM (C.PF s1) m es1 = Q1 at hQ1 oR1 oH1 hxe
          rw [hxe]
          simp only [NB]
          simp only [go_sem, ↓reduceIte, Nat.reduceBEq, Nat.reduceEqDiff, Nat.reduceLT, Nat.reduceLeDiff, Nat.reduceAdd, Nat.reduceMul, Nat.reduceSub, reduceCtorEq, Int.reduceLT, Int.reduceLE, Int.reduceEq, Int.reduceBEq, Int.reduceBNe, Int.reduceToNat, Int.reduceAdd, Int.reduceNeg, Int.reduceSub, hQ1, q_get hQ1, q_get0 hQ1, q_set hQ1, q_set0 hQ1, q_take hQ1, q_take0 hQ1, hQ]
        · rw [r5]
          refine ⟨es1, arr1, F1, k1, r1, r2, fun h => (by cases h), r4, ?_⟩
          generalize hQQ1 : PM (C.PF s1) m es1 = Q1 at hQ1 oR1 oH1 hxe
          rw [hxe]
          simp only [NB]
          simp only [go_sem, ↓reduceIte, Nat.reduceBEq, Nat.reduceEqDiff, Nat.reduceLT, Nat.reduceLeDiff, Nat.reduceAdd, Nat.reduceMul, Nat.reduceSub, reduceCtorEq, Int.reduceLT, Int.reduceLE, Int.reduceEq, Int.reduceBEq, Int.reduceBNe, Int.reduceToNat, Int.reduceAdd, Int.reduceNeg, Int.reduceSub, hQ1, q_get hQ1, q_get0 hQ1, q_set hQ1, q_set0 hQ1, q_take hQ1, q_take0 hQ1, hQ]
end Go.Proofs.Ytaohhjaogjcfoaa
end
section
namespace Go.Proofs.Ytaohhjaogjcfoaa
open Go.Proofs

theorem c64 (r : Nat) (B : List ABlk) (t : List Bool) (hr : r < B.length) : (EW tabX).call 64 [.ref r 0] ⟨B, t⟩ = some (.clo 96 [] [.ref B.length 0], ⟨B ++ [.cells [.ref r 0]], t⟩) := by
  rw [w_call _ fn_64 rfl]
  have h1 : ¬ (B.length < B.length) := by omega
  have h2 : r < B.length + 1 := by omega
  simp only [go_sem, ↓reduceIte, Nat.reduceBEq, Nat.reduceEqDiff, Nat.reduceLT, Nat.reduceLeDiff, Nat.reduceAdd, Nat.reduceMul, Nat.reduceSub, reduceCtorEq, Int.reduceLT, Int.reduceLE, Int.reduceEq, Int.reduceBEq, Int.reduceBNe, Int.reduceToNat, Int.reduceAdd, Int.reduceNeg, Int.reduceSub, h1, h2]
theorem c96 {d : Ho} (hd : d.fits) (ho : d.Ok) {but : Nat} (hbut : but < 32) {r m hb n l : Nat} {σ : Type} (C : Con d but r m hb n l σ) (s : σ) (hi : C.Inv 0 s) (hlen : (dfs d but d.rates.length []).length ≤ 8000) (hrl : r < n) (hll : l < n) (hbl : hb < n)
    (es : List (Key × Int)) (hk : KOk d es) (tb : List Bool) :
    ∃ es' F k, KOk d es' ∧ ((runC C.stp (dfs d but d.rates.length []) s).2 = true → C.Inv k (runC C.stp (dfs d but d.rates.length []) s).1) ∧ k ≤ (dfs d but d.rates.length []).length ∧
      (EW tabX).call 96 [.yld l, .ref hb 0] ⟨PM (C.PF s) m es, tb⟩ = some (.tup [], ⟨PM (C.PF (runC C.stp (dfs d but d.rates.length []) s).1) m es', tb ++ F⟩) := by
  have hrd := ho.rd
  have hd3 := ho.d3
  obtain ⟨es', arr', F, k, h1, h2, h3, h4, h5⟩ := c97 hd ho hbut C d.rates.length [] 0 s [0, 0, 0] [] tb es (by simp) (by simp) hi (by omega) ⟨rfl, rfl, by
    have : ∀ k, k ≤ 3 → ([0, 0, 0] : List Int).drop k = List.replicate (3 - k) 0 := by decide
    exact this _ (by omega)⟩ hk
  obtain ⟨hQ, oR, oH⟩ := C.facts s es
  obtain ⟨hQ', oR', oH'⟩ := C.facts (runC C.stp (dfs d but d.rates.length []) s).1 es'
  refine ⟨es', F, k, h1, h3, by omega, ?_⟩
  have oH0 : (PM (C.PF s) m es)[hb]? = some (.cells [.ref r 0]) := by simpa using oH []
  generalize PM (C.PF s) m es = Q at hQ oR oH oH0 h5 ⊢
  generalize PM (C.PF (runC C.stp (dfs d but d.rates.length []) s).1) m es' = Q' at hQ' oR' oH' h5 ⊢
  have hn4 : n < n + 4 := by omega
  have hl1 : ∀ k, l < n + k := fun k => by omega
  have hb1 : ∀ k, hb < n + k := fun k => by omega
  have hr1 : ∀ k, r < n + k := fun k => by omega
  simp only [NB, List.length_nil, cast_zero, I_c, I_nil] at h5
  rw [w_call _ fn_96 rfl]
  simp only [go_sem, ↓reduceIte, Nat.reduceBEq, Nat.reduceEqDiff, Nat.reduceLT, Nat.reduceLeDiff, Nat.reduceAdd, Nat.reduceMul, Nat.reduceSub, reduceCtorEq, Int.reduceLT, Int.reduceLE, Int.reduceEq, Int.reduceBEq, Int.reduceBNe, Int.reduceToNat, Int.reduceAdd, Int.reduceNeg, Int.reduceSub, oH, hQ, q_get hQ, q_get0 hQ, q_set hQ, q_set0 hQ, q_take hQ, q_take0 hQ, hl1, hb1, hr1, Nat.add_lt_add_iff_left, Nat.add_assoc, hn4, h5, hQ', q_get hQ', q_get0 hQ', q_set hQ', q_set0 hQ', q_take hQ', q_take0 hQ']
end Go.Proofs.Ytaohhjaogjcfoaa
end
section
namespace Go.Proofs.Ytaohhjaogjcfoaa
open Go.Proofs

def V (a : Int) (n : Nat) : List Int := (List.range n).map fun (j : Nat) => a + (j : Int)
theorem V_succ (a : Int) (n : Nat) : V a (n + 1) = V a n ++ [a + (n : Int)] := by unfold V; rw [List.range_succ, List.map_append]; rfl
theorem V_add (a : Int) (n : Nat) : ∀ m, V a (n + m) = V a n ++ V (a + n) m
  | 0 => by simp [V]
  | m + 1 => by
    rw [← Nat.add_assoc, V_succ, V_add a n m, V_succ, List.append_assoc]
    congr 3
    simp; omega
theorem V_mem {a : Int} {n : Nat} {v : Int} : v ∈ V a n ↔ a ≤ v ∧ v < a + n := by
  unfold V
  rw [List.mem_map]
  constructor
  · rintro ⟨j, hj, rfl⟩
    have := List.mem_range.1 hj; omega
  · rintro ⟨h1, h2⟩
    exact ⟨(v - a).toNat, List.mem_range.2 (by omega), by omega⟩
theorem V_filter (lo hi a b : Int) (h1 : lo ≤ a) (h2 : b ≤ hi) : (V lo (hi + 1 - lo).toNat).filter (fun v => decide (a ≤ v) && decide (v ≤ b)) = V a (b + 1 - a).toNat := by
  by_cases h : a ≤ b
  · have e : (hi + 1 - lo).toNat = (a - lo).toNat + ((b + 1 - a).toNat + (hi - b).toNat) := by omega
    have e1 : lo + ((a - lo).toNat : Int) = a := by omega
    have e2 : a + ((b + 1 - a).toNat : Int) = b + 1 := by omega
    rw [e, V_add, V_add, e1, e2, List.filter_append, List.filter_append]
    have f1 : (V lo (a - lo).toNat).filter (fun v => decide (a ≤ v) && decide (v ≤ b)) = [] := by
      rw [List.filter_eq_nil_iff]
      intro v hv
      have := V_mem.1 hv
      simp; omega
    have f2 : (V a (b + 1 - a).toNat).filter (fun v => decide (a ≤ v) && decide (v ≤ b)) = V a (b + 1 - a).toNat := by
      rw [List.filter_eq_self]
      intro v hv
      have := V_mem.1 hv
      simp; omega
    have f3 : (V (b + 1) (hi - b).toNat).filter (fun v => decide (a ≤ v) && decide (v ≤ b)) = [] := by
      rw [List.filter_eq_nil_iff]
      intro v hv
      have := V_mem.1 hv
      simp; omega
    rw [f1, f2, f3]; simp
  · have e : (b + 1 - a).toNat = 0 := by omega
    rw [e]
    have : (V lo (hi + 1 - lo).toNat).filter (fun v => decide (a ≤ v) && decide (v ≤ b)) = [] := by
      rw [List.filter_eq_nil_iff]
      intro v hv
      simp; omega
    rw [this]; rfl
theorem extR_V (h : Ho) (d : Nat) (t : List Int) (k : Nat) : extR h d t k = ((V (h.lo d) k).filter fun v => decide (d = 0) || inR (v - t.getD (d - 1) 0) (0 - h.step) h.step).map fun v => t ++ [v] := by
  unfold extR V mayR
  rw [List.filter_map, List.map_map]
  rfl
theorem nextK_V (d : Ho) (but : Nat) (t : List Int) (k : Nat) : nextK d but t k = ((V (loD d t) k).filter fun v => okDay d but t.length v d.entries.length).map fun v => t ++ [v] := by
  unfold nextK V
  rw [List.filter_map, List.map_map]
  rfl
theorem steps_eq {d : Ho} (ho : d.Ok) {t : List Int} (ht : t.length < d.rates.length) : (V (d.lo t.length) (d.width t.length)).filter (fun v => decide (t.length = 0) || inR (v - t.getD (t.length - 1) 0) (0 - d.step) d.step) = V (loD d t) (widthD d t) := by
  obtain ⟨hday, w1, w2, w3, w4, w5⟩ := ho.day ht
  unfold widthD Ho.width
  by_cases h0 : t.length = 0
  · have e1 : loD d t = d.lo t.length := by unfold loD; rw [if_pos h0, h0]
    have e2 : hiD d t = d.hi t.length := by unfold hiD; rw [if_pos h0, h0]
    rw [e1, e2, List.filter_eq_self.2]
    intro v hv
    simp [h0]
  · have hl : d.lo t.length ≤ loD d t := by unfold loD; rw [if_neg h0]; split <;> omega
    have hh : hiD d t ≤ d.hi t.length := by unfold hiD; rw [if_neg h0]; split <;> omega
    rw [← V_filter (d.lo t.length) (d.hi t.length) (loD d t) (hiD d t) hl hh]
    apply List.filter_congr
    intro v hv
    obtain ⟨v1, v2⟩ := V_mem.1 hv
    rw [Bool.eq_iff_iff]
    simp only [h0, decide_false, Bool.false_or, inR, Bool.and_eq_true, decide_eq_true_eq]
    unfold loD hiD
    rw [if_neg h0, if_neg h0]
    split <;> split <;> omega

def okPre (d : Ho) (but : Nat) (r : List Int) (i : Nat) : Bool := (List.range d.entries.length).all fun k => decide ((i : Int) ≤ (d.en0 k).day) || ((d.en0 k).far == -1 || but.testBit k) || payR (d.ag0 (d.en0 k).agent) (d.en0 k).near (r.getD (d.en0 k).day.toNat 0) == (d.en0 k).far
theorem all_and {α : Type} (f g h : α → Bool) : ∀ l : List α, (∀ x ∈ l, f x = (g x && h x)) → l.all f = (l.all g && l.all h)
  | [], _ => rfl
  | x :: l, hh => by
    rw [List.all_cons, List.all_cons, List.all_cons, all_and f g h l fun y hy => hh y (by simp [hy]), hh x (by simp)]
    cases g x <;> cases h x <;> simp
theorem okPre_succ {d : Ho} (ho : d.Ok) (but : Nat) (t : List Int) (v : Int) : okPre d but (t ++ [v]) (t.length + 1) = (okPre d but t t.length && okDay d but t.length v d.entries.length) := by
  unfold okPre okDay
  apply all_and
  intro k hk
  have hk := List.mem_range.1 hk
  have hen := ho.en _ (List.getElem_mem hk)
  rw [← en0_at d hk] at hen
  obtain ⟨j, hj⟩ := Int.eq_ofNat_of_zero_le hen.2.2.1
  unfold skipB
  rw [hj, cast_toNat]
  by_cases h1 : j < t.length
  · have e1 : (t ++ [v]).getD j 0 = t.getD j 0 := by simp [List.getD_eq_getElem?_getD, List.getElem?_append_left h1]
    have e2 : decide (((t.length + 1 : Nat) : Int) ≤ (j : Int)) = false := by simp; omega
    have e3 : decide ((t.length : Int) ≤ (j : Int)) = false := by simp; omega
    have e4 : ((j : Int) == (t.length : Int)) = false := by simp; omega
    rw [e1, e2, e3, e4]; simp
  · by_cases h2 : j = t.length
    · subst h2
      have e1 : (t ++ [v]).getD t.length 0 = v := by simp
      have e2 : decide (((t.length + 1 : Nat) : Int) ≤ (t.length : Int)) = false := by simp; omega
      have e3 : decide ((t.length : Int) ≤ (t.length : Int)) = true := by simp
      have e4 : ((t.length : Int) == (t.length : Int)) = true := by simp
      rw [e1, e2, e3, e4]; simp
    · have e2 : decide (((t.length + 1 : Nat) : Int) ≤ (j : Int)) = true := by simp; omega
      have e3 : decide ((t.length : Int) ≤ (j : Int)) = true := by simp; omega
      have e4 : ((j : Int) == (t.length : Int)) = false := by simp; omega
      rw [e2, e3, e4]; simp
theorem next_ext {d : Ho} (ho : d.Ok) (but : Nat) {t : List Int} (ht : t.length < d.rates.length) : (extR d t.length t (d.width t.length)).filter (fun r => okPre d but r (t.length + 1)) = if okPre d but t t.length = true then nextK d but t (widthD d t) else [] := by
  rw [extR_V, steps_eq ho ht, nextK_V, List.filter_map]
  split
  · rename_i h
    congr 1
    apply List.filter_congr
    intro v _
    show okPre d but (t ++ [v]) (t.length + 1) = _
    rw [okPre_succ ho, h, Bool.true_and]
  · rename_i h
    rw [List.map_eq_nil_iff, List.filter_eq_nil_iff]
    intro v _
    show ¬ okPre d but (t ++ [v]) (t.length + 1) = true
    rw [okPre_succ ho]
    simp [h]
theorem filter_flat {α β : Type} (p : β → Bool) (f : α → List β) (l : List α) : (l.flatMap f).filter p = l.flatMap fun x => (f x).filter p := by
  induction l with
  | nil => rfl
  | cons x l ih => rw [List.flatMap_cons, List.filter_append, ih, List.flatMap_cons]
theorem flat_filter {α β : Type} (p : α → Bool) (f : α → List β) (l : List α) : (l.filter p).flatMap f = l.flatMap fun x => if p x = true then f x else [] := by
  induction l with
  | nil => rfl
  | cons x l ih =>
    rw [List.flatMap_cons]
    cases hp : p x with
    | true => rw [List.filter_cons_of_pos hp, List.flatMap_cons, ih, if_pos rfl]
    | false => rw [List.filter_cons_of_neg (by simp [hp]), ih, if_neg (by decide)]; rfl
theorem flat_congr {α β : Type} {f g : α → List β} : ∀ {l : List α}, (∀ x ∈ l, f x = g x) → l.flatMap f = l.flatMap g
  | [], _ => rfl
  | x :: l, h => by rw [List.flatMap_cons, List.flatMap_cons, h x (by simp), flat_congr fun y hy => h y (by simp [hy])]
theorem pre_next {d : Ho} (ho : d.Ok) (but : Nat) {i : Nat} (hi : i < d.rates.length) : (ratesL d (i + 1)).filter (fun r => okPre d but r (i + 1)) = ((ratesL d i).filter fun r => okPre d but r i).flatMap fun t => nextK d but t (widthD d t) := by
  show ((ratesL d i).flatMap fun t => extR d i t (d.width i)).filter _ = _
  rw [filter_flat, flat_filter]
  apply flat_congr
  intro t ht
  have hl := ratesL_mem d i t ht
  subst hl
  exact next_ext ho but hi
theorem dfs_pre {d : Ho} (ho : d.Ok) (but : Nat) : ∀ (n i : Nat), i + n = d.rates.length → ((ratesL d i).filter fun r => okPre d but r i).flatMap (dfs d but n) = (ratesL d d.rates.length).filter fun r => okPre d but r d.rates.length
  | 0, i, h => by
    obtain rfl : i = d.rates.length := by omega
    generalize (ratesL d d.rates.length).filter _ = l
    induction l with
    | nil => rfl
    | cons x l ih => rw [List.flatMap_cons, ih]; rfl
  | n + 1, i, h => by
    rw [← dfs_pre ho but n (i + 1) (by omega), pre_next ho but (by omega), List.flatMap_assoc]
    rfl
theorem bitsL_any (s n : Nat) (k : Nat) (hk : k < n) : ((bitsL s n).any fun x => x == (k : Int)) = s.testBit k := by
  unfold bitsL
  rw [List.any_map, Bool.eq_iff_iff, List.any_eq_true]
  constructor
  · rintro ⟨x, hx, he⟩
    have : x = k := by
      have he : ((x : Int) == (k : Int)) = true := he
      rw [beq_iff_eq] at he
      omega
    subst this
    exact (List.mem_filter.1 hx).2
  · intro h
    exact ⟨k, List.mem_filter.2 ⟨List.mem_range.2 hk, h⟩, by simp⟩
theorem dfs_all {d : Ho} (ho : d.Ok) (but : Nat) : dfs d but d.rates.length [] = truthsL d (bitsL but d.entries.length) := by
  have h := dfs_pre ho but d.rates.length 0 (by omega)
  have h0 : (ratesL d 0).filter (fun r => okPre d but r 0) = [[]] := by
    have : okPre d but [] 0 = true := by
      unfold okPre
      rw [List.all_eq_true]
      intro k hk
      have hk := List.mem_range.1 hk
      have hen := ho.en _ (List.getElem_mem hk)
      rw [← en0_at d hk] at hen
      have : decide (((0 : Nat) : Int) ≤ (d.en0 k).day) = true := by simp; omega
      rw [this]; rfl
    simp [ratesL, this]
  rw [h0] at h
  simp only [List.flatMap_cons, List.flatMap_nil, List.append_nil] at h
  rw [h]
  unfold truthsL
  apply List.filter_congr
  intro r hr
  unfold okPre agreeTo
  rw [Bool.eq_iff_iff, List.all_eq_true, List.all_eq_true]
  have key : ∀ k ∈ List.range d.entries.length, (decide ((d.rates.length : Int) ≤ (d.en0 k).day) || ((d.en0 k).far == -1 || but.testBit k) || payR (d.ag0 (d.en0 k).agent) (d.en0 k).near (r.getD (d.en0 k).day.toNat 0) == (d.en0 k).far) =
      (((bitsL but d.entries.length).any fun x => x == (k : Int)) || agreesB d (d.en0 k) r) := fun k hk => by
    have hk := List.mem_range.1 hk
    have hen := ho.en _ (List.getElem_mem hk)
    rw [← en0_at d hk] at hen
    have hrd := ho.rd
    have e1 : decide ((d.rates.length : Int) ≤ (d.en0 k).day) = false := by simp; omega
    rw [e1, bitsL_any _ _ _ hk]
    unfold agreesB
    cases (d.en0 k).far == -1 <;> cases but.testBit k <;> simp
  constructor
  · intro h k hk; rw [← key k hk]; exact h k hk
  · intro h k hk; rw [key k hk]; exact h k hk
theorem bitsL_zero (n : Nat) : bitsL 0 n = [] := by
  unfold bitsL
  rw [List.map_eq_nil_iff, List.filter_eq_nil_iff]
  intro k _
  simp
end Go.Proofs.Ytaohhjaogjcfoaa
end
section
namespace Go.Proofs.Ytaohhjaogjcfoaa
open Go.Proofs

theorem w_range (X : Tab) (f : Nat) (g : Operand) (ps : Array Tmp) (asg body : Code) (fr : Frm) (hb : List ABlk) (ht : List Bool) (ms : List Nat) {gf : Nat} {fst cap : List AV} (hg : evo fr g = .clo gf fst cap) :
    (EW X).code f none (.rangeFunc g ps asg body) ⟨fr, ⟨hb, ht⟩, ms⟩ = ((EW X).call gf (fst ++ [.yld (hb.length + 1)] ++ cap) ⟨hb ++ [.mark] ++ [.loop false .normal false f fr ps.toList asg body], ht⟩).bind fun r => afterRange (hb.length + 1) fr (hb.length :: ms) r.2 := by
  rw [ew_code]
  show enterRange (EW X) f (evo fr g) ps.toList asg body fr ⟨hb ++ [.mark], ht⟩ (hb.length :: ms) = _
  rw [hg, enterRange_eq]
  simp
theorem y1 (L : List Nat) (fr : Frm) (a : Tmp) (x : AV) : yieldFr L fr [a] [x] = some (setF L fr a x) := by
  simp only [yieldFr, setFK_eq]
theorem c83 (d : Ho) (but : Int) (B : List ABlk) (t : List Bool) : (EW tabX).call 83 [eH d, .int .i64 but] ⟨B, t⟩ = some (.ref (B.length + 2) 0, ⟨B ++ [.cells (eHc d), .map [], .cells (eHs d but (B.length + 1))], t⟩) := by
  have h1 : B.length + 1 < B.length + 2 + 1 := by omega
  have h2 : ∀ k, ¬ (B.length + k < B.length) := fun k => by omega
  have h3 : B.length + 1 < B.length + (1 + 1) + 1 := by omega
  rw [w_call _ fn_83 rfl]
  simp only [go_sem, ↓reduceIte, Nat.reduceBEq, Nat.reduceEqDiff, Nat.reduceLT, Nat.reduceLeDiff, Nat.reduceAdd, Nat.reduceMul, Nat.reduceSub, reduceCtorEq, Int.reduceLT, Int.reduceLE, Int.reduceEq, Int.reduceBEq, Int.reduceBNe, Int.reduceToNat, Int.reduceAdd, Int.reduceNeg, Int.reduceSub, eH, eHc, eHs, h1, h2, h3, Nat.add_assoc]
def enterE (d : Ho) (but : Nat) (e : Int) : Int := if checkE d = 0 then (if e = 0 then (if dfs d but d.rates.length [] = [] then 8 else 0) else e) else checkE d
theorem runC_stop (l : List (List Int)) : runC (fun (_ : Bool) (_ : List Int) => (true, false)) l false = if l = [] then (false, true) else (true, false) := by
  cases l with
  | nil => rfl
  | cons t ts => rfl
theorem Ho.Ok.dfs_len {d : Ho} (ho : d.Ok) (but : Nat) : (dfs d but d.rates.length []).length ≤ 8000 := by rw [dfs_all ho]; exact truthsL_len ho _

theorem c84 {d : Ho} (hd : d.fits) (ho : d.Ok) {but : Nat} (hbut : but < 32) (r m : Nat) (B : List ABlk) (hB : HAt d but r m B) (es : List (Key × Int)) (hk : KOk d es) (t : List Bool) :
    ∃ es' F, KOk d es' ∧ (EW tabX).call 84 [.ref r 0] ⟨PM B m es, t⟩ = some (.bool (decide (dfs d but d.rates.length [] ≠ [])), ⟨PM B m es', t ++ F⟩) := by
  have hrl : r < B.length := (List.getElem?_eq_some_iff.1 hB.hr).1
  have h64 := c64 r (PM B m es ++ [.cells [.bool false]]) t (by simp; omega)
  rw [w_call _ fn_84 rfl]
  simp only [go_sem, ↓reduceIte, Nat.reduceBEq, Nat.reduceEqDiff, Nat.reduceLT, Nat.reduceLeDiff, Nat.reduceAdd, Nat.reduceMul, Nat.reduceSub, reduceCtorEq, Int.reduceLT, Int.reduceLE, Int.reduceEq, Int.reduceBEq, Int.reduceBNe, Int.reduceToNat, Int.reduceAdd, Int.reduceNeg, Int.reduceSub] at h64
  simp only [go_sem, ↓reduceIte, Nat.reduceBEq, Nat.reduceEqDiff, Nat.reduceLT, Nat.reduceLeDiff, Nat.reduceAdd, Nat.reduceMul, Nat.reduceSub, reduceCtorEq, Int.reduceLT, Int.reduceLE, Int.reduceEq, Int.reduceBEq, Int.reduceBNe, Int.reduceToNat, Int.reduceAdd, Int.reduceNeg, Int.reduceSub, h64]
  rw [w_range (gf := 96) (fst := []) (cap := [.ref (B.length + 1) 0])]
  rotate_left
  · simp only [go_sem, ↓reduceIte, Nat.reduceBEq, Nat.reduceEqDiff, Nat.reduceLT, Nat.reduceLeDiff, Nat.reduceAdd, Nat.reduceMul, Nat.reduceSub, reduceCtorEq, Int.reduceLT, Int.reduceLE, Int.reduceEq, Int.reduceBEq, Int.reduceBNe, Int.reduceToNat, Int.reduceAdd, Int.reduceNeg, Int.reduceSub]
  generalize hLB : ABlk.loop false AExit.normal false 84 _ _ _ _ = LB
  obtain ⟨LB', b1, LBr, b2, b3⟩ : ∃ LB', beginBlk LB = some LB' ∧ ∃ LBr, endBlk .ret LB' = some LBr ∧ (∀ h : Heap, h.b[B.length + 3]? = some LBr → ∀ fr ms, afterRange (B.length + 3) fr ms h = some (.ret, ⟨fr, h.put (B.length + 3) .none, ms⟩)) := by
    rw [← hLB]
    exact ⟨_, rfl, _, rfl, fun h hh fr ms => by unfold afterRange; rw [hh]⟩
  have b4 : ∀ h : Heap, h.b[B.length + 3]? = some LB → ∀ fr ms, afterRange (B.length + 3) fr ms h = some (.normal, ⟨fr, h.put (B.length + 3) .none, ms⟩) := fun h hh fr ms => by
    rw [← hLB] at hh; unfold afterRange; rw [hh]
  have hset : ∀ (X : List ABlk) es, PM (B ++ X) m es = PM B m es ++ X := fun X es => List.set_append_left _ _ hB.hm
  let C : Con d but r m (B.length + 1) (B.length + 4) (B.length + 3) Bool := {
    PF := fun s => B ++ [.cells [.bool s], .cells [.ref r 0], .mark, if s = true then LBr else LB]
    stp := fun _ _ => (true, false)
    Inv := fun _ s => s = false
    len := fun s => by simp
    hat := fun s => ⟨old hB.hr _, by simp; have := hB.hm; omega, hB.ne⟩
    bx := fun s => by simp only [go_sem, ↓reduceIte, Nat.reduceBEq, Nat.reduceEqDiff, Nat.reduceLT, Nat.reduceLeDiff, Nat.reduceAdd, Nat.reduceMul, Nat.reduceSub, reduceCtorEq, Int.reduceLT, Int.reduceLE, Int.reduceEq, Int.reduceBEq, Int.reduceBNe, Int.reduceToNat, Int.reduceAdd, Int.reduceNeg, Int.reduceSub]
    ne := fun e => by have := hB.hm; omega
    rnd := by
      intro k s t E tb es hinv hk8 hl hv hke
      subst hinv
      rw [hset]
      have hat : (⟨PM B m es ++ [.cells [.bool false], .cells [.ref r 0], .mark, LB] ++ NB (B.length + 4) (B.length + 3) (B.length + 1) r (arrOf t) E, tb⟩ : Heap).b[B.length + 3]? = some LB := by simp only [go_sem, ↓reduceIte, Nat.reduceBEq, Nat.reduceEqDiff, Nat.reduceLT, Nat.reduceLeDiff, Nat.reduceAdd, Nat.reduceMul, Nat.reduceSub, reduceCtorEq, Int.reduceLT, Int.reduceLE, Int.reduceEq, Int.reduceBEq, Int.reduceBNe, Int.reduceToNat, Int.reduceAdd, Int.reduceNeg, Int.reduceSub, NB]
      have hat2 := hat.trans (congrArg some hLB.symm)
      simp only [if_neg Bool.false_ne_true]
      rw [stepRound_eq tabX hat2]
      clear hat hat2
      refine ⟨es, [], [], hke, (fun h => by cases h), ?_⟩
      rw [hset]
      simp only [y1, Option.bind_some, roundK, NB]
      simp only [go_sem, ↓reduceIte, Nat.reduceBEq, Nat.reduceEqDiff, Nat.reduceLT, Nat.reduceLeDiff, Nat.reduceAdd, Nat.reduceMul, Nat.reduceSub, reduceCtorEq, Int.reduceLT, Int.reduceLE, Int.reduceEq, Int.reduceBEq, Int.reduceBNe, Int.reduceToNat, Int.reduceAdd, Int.reduceNeg, Int.reduceSub, w_skip, turnBlk, b1, b2, isNormal] }
  obtain ⟨es', F, k, x1, x2, x3, x4⟩ := c96 hd ho hbut C false rfl (ho.dfs_len but) (by omega) (by omega) (by omega) es hk t
  simp only [C] at x4
  rw [hset, hset, runC_stop] at x4
  simp only [go_sem, ↓reduceIte, Nat.reduceBEq, Nat.reduceEqDiff, Nat.reduceLT, Nat.reduceLeDiff, Nat.reduceAdd, Nat.reduceMul, Nat.reduceSub, reduceCtorEq, Int.reduceLT, Int.reduceLE, Int.reduceEq, Int.reduceBEq, Int.reduceBNe, Int.reduceToNat, Int.reduceAdd, Int.reduceNeg, Int.reduceSub] at x4
  refine ⟨es', F, x1, ?_⟩
  by_cases he : dfs d but d.rates.length [] = []
  · rw [if_pos he] at x4
    simp only [Bool.false_eq_true, if_false] at x4
    have hdd : decide (dfs d but d.rates.length [] ≠ []) = false := by simp [he]
    rw [hdd]
    simp only [go_sem, ↓reduceIte, Nat.reduceBEq, Nat.reduceEqDiff, Nat.reduceLT, Nat.reduceLeDiff, Nat.reduceAdd, Nat.reduceMul, Nat.reduceSub, reduceCtorEq, Int.reduceLT, Int.reduceLE, Int.reduceEq, Int.reduceBEq, Int.reduceBNe, Int.reduceToNat, Int.reduceAdd, Int.reduceNeg, Int.reduceSub, x4]
    rw [b4 _ (by simp only [go_sem, ↓reduceIte, Nat.reduceBEq, Nat.reduceEqDiff, Nat.reduceLT, Nat.reduceLeDiff, Nat.reduceAdd, Nat.reduceMul, Nat.reduceSub, reduceCtorEq, Int.reduceLT, Int.reduceLE, Int.reduceEq, Int.reduceBEq, Int.reduceBNe, Int.reduceToNat, Int.reduceAdd, Int.reduceNeg, Int.reduceSub])]
    simp only [go_sem, ↓reduceIte, Nat.reduceBEq, Nat.reduceEqDiff, Nat.reduceLT, Nat.reduceLeDiff, Nat.reduceAdd, Nat.reduceMul, Nat.reduceSub, reduceCtorEq, Int.reduceLT, Int.reduceLE, Int.reduceEq, Int.reduceBEq, Int.reduceBNe, Int.reduceToNat, Int.reduceAdd, Int.reduceNeg, Int.reduceSub]
  · rw [if_neg he] at x4
    simp only [Bool.false_eq_true, if_false, if_true] at x4
    have hdd : decide (dfs d but d.rates.length [] ≠ []) = true := by simpa using he
    rw [hdd]
    simp only [go_sem, ↓reduceIte, Nat.reduceBEq, Nat.reduceEqDiff, Nat.reduceLT, Nat.reduceLeDiff, Nat.reduceAdd, Nat.reduceMul, Nat.reduceSub, reduceCtorEq, Int.reduceLT, Int.reduceLE, Int.reduceEq, Int.reduceBEq, Int.reduceBNe, Int.reduceToNat, Int.reduceAdd, Int.reduceNeg, Int.reduceSub, x4]
    rw [b3 _ (by simp only [go_sem, ↓reduceIte, Nat.reduceBEq, Nat.reduceEqDiff, Nat.reduceLT, Nat.reduceLeDiff, Nat.reduceAdd, Nat.reduceMul, Nat.reduceSub, reduceCtorEq, Int.reduceLT, Int.reduceLE, Int.reduceEq, Int.reduceBEq, Int.reduceBNe, Int.reduceToNat, Int.reduceAdd, Int.reduceNeg, Int.reduceSub])]
    simp only [go_sem, ↓reduceIte, Nat.reduceBEq, Nat.reduceEqDiff, Nat.reduceLT, Nat.reduceLeDiff, Nat.reduceAdd, Nat.reduceMul, Nat.reduceSub, reduceCtorEq, Int.reduceLT, Int.reduceLE, Int.reduceEq, Int.reduceBEq, Int.reduceBNe, Int.reduceToNat, Int.reduceAdd, Int.reduceNeg, Int.reduceSub]
end Go.Proofs.Ytaohhjaogjcfoaa
end
section
namespace Go.Proofs.Ytaohhjaogjcfoaa
open Go.Proofs

theorem c63 (h : Heap) : callPure (EW tabX) 63 [] h = some (.int .i64 0, h) := by
  rw [callPure_eq, w_call _ fn_63 rfl]
  simp only [go_sem, ↓reduceIte, Nat.reduceBEq, Nat.reduceEqDiff, Nat.reduceLT, Nat.reduceLeDiff, Nat.reduceAdd, Nat.reduceMul, Nat.reduceSub, reduceCtorEq, Int.reduceLT, Int.reduceLE, Int.reduceEq, Int.reduceBEq, Int.reduceBNe, Int.reduceToNat, Int.reduceAdd, Int.reduceNeg, Int.reduceSub, zipFrom_nil]
theorem c67 (l : List Int) (tg z : Nat) (B : List ABlk) (t : List Bool) : (EW tabX).call 67 [.lst tg z (I l)] ⟨B, t⟩ = some (.clo 98 [] [.ref B.length 0], ⟨B ++ [.cells [.lst tg z (I l)]], t⟩) := by
  have h1 : ¬ (B.length < B.length) := by omega
  rw [w_call _ fn_67 rfl]
  simp only [go_sem, ↓reduceIte, Nat.reduceBEq, Nat.reduceEqDiff, Nat.reduceLT, Nat.reduceLeDiff, Nat.reduceAdd, Nat.reduceMul, Nat.reduceSub, reduceCtorEq, Int.reduceLT, Int.reduceLE, Int.reduceEq, Int.reduceBEq, Int.reduceBNe, Int.reduceToNat, Int.reduceAdd, Int.reduceNeg, Int.reduceSub, h1]
def pairE (l : List Int) (k : Nat) : Int := if out 0 (l.getD (2 * k + 1) 0 - 1) (l.getD (2 * k) 0) = true then 4 else 0
def pairsE (l : List Int) (n : Nat) : Int := match firstBad (pairE l) 0 n with | some _ => 4 | none => 0
theorem c98 (l : List Int) (n : Nat) (hn : l.length = 2 * n) (hn9 : n ≤ 9) (hb : ∀ k, k < n → -1000000000000000000 ≤ l.getD (2 * k + 1) 0 ∧ l.getD (2 * k + 1) 0 ≤ 9000000000000000000) (tg : Nat) (b : Nat) (B : List ABlk) (t : List Bool) (hB : B[b]? = some (.cells [.lst tg 1 (I l)])) :
    (EW tabX).call 98 [.ref b 0] ⟨B, t⟩ = some (.int .i64 (pairsE l n), ⟨B, t⟩) := by
  rw [w_call _ fn_98 rfl]
  simp only [go_sem, ↓reduceIte, Nat.reduceBEq, Nat.reduceEqDiff, Nat.reduceLT, Nat.reduceLeDiff, Nat.reduceAdd, Nat.reduceMul, Nat.reduceSub, reduceCtorEq, Int.reduceLT, Int.reduceLE, Int.reduceEq, Int.reduceBEq, Int.reduceBNe, Int.reduceToNat, Int.reduceAdd, Int.reduceNeg, Int.reduceSub]
  rw [w_first (fun k => [(2, .int .i64 (2 * (k : Int)))]) (fun _ => ⟨B, t⟩) (pairE l) n .ret (fun k => [(1, .int .i64 4), (2, .int .i64 (2 * (k : Int)))]) (fun _ => ⟨B, t⟩) (.exit 0) [(2, .int .i64 (2 * (n : Int)))] ⟨B, t⟩ ?_ ?_ ?_ ?_ ?_ rfl rfl]
  · unfold firstW pairsE
    cases h : firstBad (pairE l) 0 n with
    | some k => simp only [go_sem, ↓reduceIte, Nat.reduceBEq, Nat.reduceEqDiff, Nat.reduceLT, Nat.reduceLeDiff, Nat.reduceAdd, Nat.reduceMul, Nat.reduceSub, reduceCtorEq, Int.reduceLT, Int.reduceLE, Int.reduceEq, Int.reduceBEq, Int.reduceBNe, Int.reduceToNat, Int.reduceAdd, Int.reduceNeg, Int.reduceSub]
    | none => simp only [go_sem, ↓reduceIte, Nat.reduceBEq, Nat.reduceEqDiff, Nat.reduceLT, Nat.reduceLeDiff, Nat.reduceAdd, Nat.reduceMul, Nat.reduceSub, reduceCtorEq, Int.reduceLT, Int.reduceLE, Int.reduceEq, Int.reduceBEq, Int.reduceBNe, Int.reduceToNat, Int.reduceAdd, Int.reduceNeg, Int.reduceSub]
  · simp only [go_sem, ↓reduceIte, Nat.reduceBEq, Nat.reduceEqDiff, Nat.reduceLT, Nat.reduceLeDiff, Nat.reduceAdd, Nat.reduceMul, Nat.reduceSub, reduceCtorEq, Int.reduceLT, Int.reduceLE, Int.reduceEq, Int.reduceBEq, Int.reduceBNe, Int.reduceToNat, Int.reduceAdd, Int.reduceNeg, Int.reduceSub, Int.mul_zero]
  · rfl
  all_goals
    first
    | (intro k hk hz
       have h1 : 2 * k + 1 < l.length := by omega
       have h0 : 2 * k < l.length := by omega
       have g1 := List.getElem?_eq_getElem h1
       have g0 := List.getElem?_eq_getElem h0
       have i1 : 2 * (k : Int) + 1 < l.length := by omega
       have n0 : (2 * (k : Int) < 0) = False := by simp; omega
       have n1 : (2 * (k : Int) + 1 < 0) = False := by simp; omega
       have t0 : (2 * (k : Int)).toNat = 2 * k := by omega
       have t1 : (2 * (k : Int) + 1).toNat = 2 * k + 1 := by omega
       have w0 : IntKind.i64.wrap (2 * (k : Int) + 1) = 2 * (k : Int) + 1 := wrap_i64 (by omega)
       have w2 : IntKind.i64.wrap (2 * (k : Int) + 2) = 2 * ((k : Int) + 1) := by rw [wrap_i64 (by omega)]; omega
       have e1 : l.getD (2 * k + 1) 0 = l[2 * k + 1] := by simp [h1]
       have b1 := hb k hk
       rw [e1] at b1
       have w3 : IntKind.i64.wrap (l[2 * k + 1] - 1) = l[2 * k + 1] - 1 := wrap_i64 (by omega)
       have e0 : l.getD (2 * k) 0 = l[2 * k] := by simp [h0]
       unfold pairE at hz
       rw [e1, e0] at hz
       cases ho : out 0 (l[2 * k + 1] - 1) l[2 * k] with
       | true =>
         first
         | (rw [ho] at hz; cases hz; done)
         | simp only [go_sem, ↓reduceIte, Nat.reduceBEq, Nat.reduceEqDiff, Nat.reduceLT, Nat.reduceLeDiff, Nat.reduceAdd, Nat.reduceMul, Nat.reduceSub, reduceCtorEq, Int.reduceLT, Int.reduceLE, Int.reduceEq, Int.reduceBEq, Int.reduceBNe, Int.reduceToNat, Int.reduceAdd, Int.reduceNeg, Int.reduceSub, hB, i1, n0, n1, t0, t1, w0, w2, w3, g0, g1, c49_1, ho]
       | false =>
         first
         | (rw [ho] at hz; exact absurd rfl hz)
         | simp only [go_sem, ↓reduceIte, Nat.reduceBEq, Nat.reduceEqDiff, Nat.reduceLT, Nat.reduceLeDiff, Nat.reduceAdd, Nat.reduceMul, Nat.reduceSub, reduceCtorEq, Int.reduceLT, Int.reduceLE, Int.reduceEq, Int.reduceBEq, Int.reduceBNe, Int.reduceToNat, Int.reduceAdd, Int.reduceNeg, Int.reduceSub, hB, i1, n0, n1, t0, t1, w0, w2, w3, g0, g1, c49_1, ho])
    | (have i1 : ¬ (2 * (n : Int) + 1 < l.length) := by omega
       have w0 : IntKind.i64.wrap (2 * (n : Int) + 1) = 2 * (n : Int) + 1 := wrap_i64 (by omega)
       simp only [go_sem, ↓reduceIte, Nat.reduceBEq, Nat.reduceEqDiff, Nat.reduceLT, Nat.reduceLeDiff, Nat.reduceAdd, Nat.reduceMul, Nat.reduceSub, reduceCtorEq, Int.reduceLT, Int.reduceLE, Int.reduceEq, Int.reduceBEq, Int.reduceBNe, Int.reduceToNat, Int.reduceAdd, Int.reduceNeg, Int.reduceSub, hB, w0, i1])

def HE (d : Ho) (but : Nat) (B : List ABlk) : List ABlk := B ++ [.cells (eHc d), .cells (eHc d), .map [], .cells (eHs d but (B.length + 2))]
theorem HE_at (d : Ho) (but : Nat) (B : List ABlk) : HAt d but (B.length + 3) (B.length + 2) (HE d but B) := ⟨by simp only [HE, go_sem, ↓reduceIte, Nat.reduceBEq, Nat.reduceEqDiff, Nat.reduceLT, Nat.reduceLeDiff, Nat.reduceAdd, Nat.reduceMul, Nat.reduceSub, reduceCtorEq, Int.reduceLT, Int.reduceLE, Int.reduceEq, Int.reduceBEq, Int.reduceBNe, Int.reduceToNat, Int.reduceAdd, Int.reduceNeg, Int.reduceSub], by simp [HE], by omega⟩
theorem HE_pm (d : Ho) (but : Nat) (B : List ABlk) (es : List (Key × Int)) : PM (HE d but B) (B.length + 2) es = B ++ [.cells (eHc d), .cells (eHc d), .map (esS es), .cells (eHs d but (B.length + 2))] := by
  simp only [HE, go_sem, ↓reduceIte, Nat.reduceBEq, Nat.reduceEqDiff, Nat.reduceLT, Nat.reduceLeDiff, Nat.reduceAdd, Nat.reduceMul, Nat.reduceSub, reduceCtorEq, Int.reduceLT, Int.reduceLE, Int.reduceEq, Int.reduceBEq, Int.reduceBNe, Int.reduceToNat, Int.reduceAdd, Int.reduceNeg, Int.reduceSub]
theorem esS_nil : esS [] = [] := id rfl
theorem KOk_nil (d : Ho) : KOk d [] := fun x hx => by cases hx
theorem c62 (d : Ho) (hd : d.fits) (but : Nat) (hbut : but < 32) (e : Int) (oc : AV) (B : List ABlk) (t : List Bool) (hoc : checkE d = 0 → callAV tabX (EW tabX) false oc [] ⟨B ++ [.cells (eHc d)], t⟩ = some (.int .i64 e, ⟨B ++ [.cells (eHc d)], t⟩)) :
    (enterE d but e ≠ 0 → ∃ F, (EW tabX).call 62 [eH d, .int .i64 but, oc] ⟨B, t⟩ = some (.tup [.nilp, .int .i64 (enterE d but e)], ⟨B, t ++ F⟩)) ∧
    (enterE d but e = 0 → ∃ es F, KOk d es ∧ (EW tabX).call 62 [eH d, .int .i64 but, oc] ⟨B, t⟩ = some (.tup [.ref (B.length + 3) 0, .int .i64 0], ⟨PM (HE d but B) (B.length + 2) es, t ++ F⟩)) := by
  have h16 := c16 d hd
  have hce : (checkH d).2.2 = checkE d := rfl
  rw [w_call _ fn_62 rfl]
  unfold enterE
  simp only [eH, eHc, tup3, hce] at h16
  by_cases h0 : checkE d = 0
  rotate_left
  · rw [if_neg h0]
    have hne : (checkE d != 0) = true := by simpa using h0
    refine ⟨fun _ => ⟨[], ?_⟩, fun h => absurd h h0⟩
    simp only [go_sem, ↓reduceIte, Nat.reduceBEq, Nat.reduceEqDiff, Nat.reduceLT, Nat.reduceLeDiff, Nat.reduceAdd, Nat.reduceMul, Nat.reduceSub, reduceCtorEq, Int.reduceLT, Int.reduceLE, Int.reduceEq, Int.reduceBEq, Int.reduceBNe, Int.reduceToNat, Int.reduceAdd, Int.reduceNeg, Int.reduceSub, eH, eHc, h16, hne]
  have ho := ok_of_E h0
  rw [if_pos h0]
  have hoc := hoc h0
  simp only [eHc] at hoc
  by_cases h1 : e = 0
  rotate_left
  · rw [if_neg h1]
    have hne : (e != 0) = true := by simpa using h1
    refine ⟨fun _ => ⟨[], ?_⟩, fun h => absurd h h1⟩
    simp only [go_sem, ↓reduceIte, Nat.reduceBEq, Nat.reduceEqDiff, Nat.reduceLT, Nat.reduceLeDiff, Nat.reduceAdd, Nat.reduceMul, Nat.reduceSub, reduceCtorEq, Int.reduceLT, Int.reduceLE, Int.reduceEq, Int.reduceBEq, Int.reduceBNe, Int.reduceToNat, Int.reduceAdd, Int.reduceNeg, Int.reduceSub, eH, eHc, h16, h0, hoc, hne]
  subst h1
  rw [if_pos rfl]
  have h83 := c83 d but (B ++ [.cells (eHc d)]) t
  obtain ⟨es', F, x1, x2⟩ := c84 hd ho hbut (B.length + 3) (B.length + 2) (HE d but B) (HE_at d but B) [] (KOk_nil d) t
  rw [HE_pm, HE_pm] at x2
  simp only [go_sem, ↓reduceIte, Nat.reduceBEq, Nat.reduceEqDiff, Nat.reduceLT, Nat.reduceLeDiff, Nat.reduceAdd, Nat.reduceMul, Nat.reduceSub, reduceCtorEq, Int.reduceLT, Int.reduceLE, Int.reduceEq, Int.reduceBEq, Int.reduceBNe, Int.reduceToNat, Int.reduceAdd, Int.reduceNeg, Int.reduceSub, eH, eHc, eHs, esS_nil] at h83 x2
  by_cases h2 : dfs d but d.rates.length [] = []
  · rw [if_pos h2]
    have hdd : decide (dfs d but d.rates.length [] ≠ []) = false := by simp [h2]
    rw [hdd] at x2
    refine ⟨fun _ => ⟨F, ?_⟩, fun h => by cases h⟩
    simp only [go_sem, ↓reduceIte, Nat.reduceBEq, Nat.reduceEqDiff, Nat.reduceLT, Nat.reduceLeDiff, Nat.reduceAdd, Nat.reduceMul, Nat.reduceSub, reduceCtorEq, Int.reduceLT, Int.reduceLE, Int.reduceEq, Int.reduceBEq, Int.reduceBNe, Int.reduceToNat, Int.reduceAdd, Int.reduceNeg, Int.reduceSub, eH, eHc, eHs, h16, h0, hoc, h83, Nat.add_assoc, x2]
    skip
  · rw [if_neg h2]
    have hdd : decide (dfs d but d.rates.length [] ≠ []) = true := by simpa using h2
    rw [hdd] at x2
    refine ⟨fun h => absurd rfl h, fun _ => ⟨es', F, x1, ?_⟩⟩
    rw [HE_pm]
    have hlt : ¬ (B.length + 3 < B.length) := by omega
    simp only [go_sem, ↓reduceIte, Nat.reduceBEq, Nat.reduceEqDiff, Nat.reduceLT, Nat.reduceLeDiff, Nat.reduceAdd, Nat.reduceMul, Nat.reduceSub, reduceCtorEq, Int.reduceLT, Int.reduceLE, Int.reduceEq, Int.reduceBEq, Int.reduceBNe, Int.reduceToNat, Int.reduceAdd, Int.reduceNeg, Int.reduceSub, eH, eHc, eHs, h16, h0, hoc, h83, Nat.add_assoc, x2, hlt]
    skip
end Go.Proofs.Ytaohhjaogjcfoaa
end
section
namespace Go.Proofs.Ytaohhjaogjcfoaa
open Go.Proofs

theorem enterE_known {d : Ho} (e : Int) : enterE d 0 e = knownE d (if checkE d = 0 then e else checkE d) := by
  unfold enterE knownE
  by_cases h0 : checkE d = 0
  · rw [if_pos h0, if_pos h0]
    have ho := ok_of_E h0
    rw [dfs_all ho, bitsL_zero]
  · rw [if_neg h0, if_neg h0, if_neg h0]
theorem runC_all {σ : Type} (f : σ → List Int → σ) : ∀ (l : List (List Int)) (s : σ), runC (fun s t => (f s t, true)) l s = (l.foldl f s, true)
  | [], s => rfl
  | t :: l, s => by
    unfold runC
    rw [if_pos rfl]
    exact runC_all f l _
theorem arrOf_len {t : List Int} (h : t.length ≤ 3) : (arrOf t).length = 3 := by simp [arrOf]; omega
def fstF (s : List Int × Nat) (t : List Int) : List Int × Nat := (if s.2 = 0 ∨ arrOf t = s.1 then arrOf t else s.1, s.2 + 1)
theorem fstF_more (a : List Int) : ∀ (l : List (List Int)) (n : Nat), 0 < n → l.foldl fstF (a, n) = (a, n + l.length)
  | [], n, _ => rfl
  | t :: l, n, hn => by
    rw [List.foldl_cons]
    have : fstF (a, n) t = (a, n + 1) := by
      unfold fstF
      simp only
      split
      · rename_i h
        rcases h with h | h
        · omega
        · rw [h]
      · rfl
    rw [this, fstF_more a l (n + 1) (by omega), List.length_cons]
    congr 1; omega
theorem fstF_all (t : List Int) (l : List (List Int)) : (t :: l).foldl fstF ([0, 0, 0], 0) = (arrOf t, l.length + 1) := by
  rw [List.foldl_cons]
  have : fstF ([0, 0, 0], 0) t = (arrOf t, 1) := by unfold fstF; simp
  rw [this, fstF_more _ l 1 (by omega)]
  congr 1; omega
theorem list3 {l : List Int} (h : l.length = 3) : ∃ a b c, l = [a, b, c] := by
  match l, h with
  | [a, b, c], _ => exact ⟨a, b, c, rfl⟩
theorem eqCells3 (a b c x y z : Int) : eqCells [0, 0, 0] [.int .i64 a, .int .i64 b, .int .i64 c] [.int .i64 x, .int .i64 y, .int .i64 z] = some (decide ([a, b, c] = [x, y, z])) := by
  simp only [eqCells, if_true, Option.map_some]
  congr 1
  rw [Bool.eq_iff_iff]
  simp

def FB (d : Ho) (es : List (Key × Int)) (s : List Int × Nat) : List ABlk := [.cells (eHc d), .cells [.int .i64 s.2], .cells (eHc d), .cells (eHc d), .map (esS es), .cells (eHs d 0 4), .cells (I s.1)]
theorem c18 (d : Ho) (hd : d.fits) (h : Heap) : callPure (EW tabX) 18 [eH d] h = some (v3 (firstV d), h) := by
  have hcl := eH_clean d
  have hoc : ∀ h, callAV tabX (EW tabX) false (.clo 63 [] []) [] h = some (.int .i64 0, h) := fun h => by simp only [go_sem, ↓reduceIte, Nat.reduceBEq, Nat.reduceEqDiff, Nat.reduceLT, Nat.reduceLeDiff, Nat.reduceAdd, Nat.reduceMul, Nat.reduceSub, reduceCtorEq, Int.reduceLT, Int.reduceLE, Int.reduceEq, Int.reduceBEq, Int.reduceBNe, Int.reduceToNat, Int.reduceAdd, Int.reduceNeg, Int.reduceSub, c63]
  obtain ⟨hno, hyes⟩ := c62 d hd 0 (by omega) 0 (.clo 63 [] []) [.cells (eHc d), .cells [.int .i64 0]] [] (fun _ => hoc _)
  have hen : enterE d 0 0 = knownE d (checkE d) := by
    rw [enterE_known]
    by_cases h0 : checkE d = 0
    · rw [if_pos h0, h0]
    · rw [if_neg h0]
  rw [callPure_eq, w_call _ fn_18 rfl]
  unfold firstV
  rw [hen] at hno hyes
  by_cases h0 : knownE d (checkE d) = 0
  rotate_left
  · rw [if_neg h0]
    obtain ⟨F, hc⟩ := hno h0
    have hne : (knownE d (checkE d) != 0) = true := by simpa using h0
    simp only [eH, eHc, cast_zero] at hc hcl
    simp only [go_sem, ↓reduceIte, Nat.reduceBEq, Nat.reduceEqDiff, Nat.reduceLT, Nat.reduceLeDiff, Nat.reduceAdd, Nat.reduceMul, Nat.reduceSub, reduceCtorEq, Int.reduceLT, Int.reduceLE, Int.reduceEq, Int.reduceBEq, Int.reduceBNe, Int.reduceToNat, Int.reduceAdd, Int.reduceNeg, Int.reduceSub, eH, eHc, hc, hne, v3, vI]
  rw [if_pos h0]
  obtain ⟨es, F, hke, hc⟩ := hyes h0
  obtain ⟨k1, k2⟩ := knownE_zero h0
  have ho := ok_of_E k1
  have hrd := ho.rd
  have hd1 := ho.d1
  have hd3 := ho.d3
  simp only [go_sem, ↓reduceIte, Nat.reduceBEq, Nat.reduceEqDiff, Nat.reduceLT, Nat.reduceLeDiff, Nat.reduceAdd, Nat.reduceMul, Nat.reduceSub, reduceCtorEq, Int.reduceLT, Int.reduceLE, Int.reduceEq, Int.reduceBEq, Int.reduceBNe, Int.reduceToNat, Int.reduceAdd, Int.reduceNeg, Int.reduceSub, eH, eHc, HE, eHs] at hc
  simp only [go_sem, ↓reduceIte, Nat.reduceBEq, Nat.reduceEqDiff, Nat.reduceLT, Nat.reduceLeDiff, Nat.reduceAdd, Nat.reduceMul, Nat.reduceSub, reduceCtorEq, Int.reduceLT, Int.reduceLE, Int.reduceEq, Int.reduceBEq, Int.reduceBNe, Int.reduceToNat, Int.reduceAdd, Int.reduceNeg, Int.reduceSub, eH, eHc, hc]
  have h64 := c64 5 (FB d es ([0, 0, 0], 0)) F (by simp [FB])
  simp only [go_sem, ↓reduceIte, Nat.reduceBEq, Nat.reduceEqDiff, Nat.reduceLT, Nat.reduceLeDiff, Nat.reduceAdd, Nat.reduceMul, Nat.reduceSub, reduceCtorEq, Int.reduceLT, Int.reduceLE, Int.reduceEq, Int.reduceBEq, Int.reduceBNe, Int.reduceToNat, Int.reduceAdd, Int.reduceNeg, Int.reduceSub, FB, eHc, eHs, I_c, I_nil] at h64
  simp only [go_sem, ↓reduceIte, Nat.reduceBEq, Nat.reduceEqDiff, Nat.reduceLT, Nat.reduceLeDiff, Nat.reduceAdd, Nat.reduceMul, Nat.reduceSub, reduceCtorEq, Int.reduceLT, Int.reduceLE, Int.reduceEq, Int.reduceBEq, Int.reduceBNe, Int.reduceToNat, Int.reduceAdd, Int.reduceNeg, Int.reduceSub, h64]
  rw [w_range (gf := 96) (fst := []) (cap := [.ref 7 0])]
  rotate_left
  · simp only [go_sem, ↓reduceIte, Nat.reduceBEq, Nat.reduceEqDiff, Nat.reduceLT, Nat.reduceLeDiff, Nat.reduceAdd, Nat.reduceMul, Nat.reduceSub, reduceCtorEq, Int.reduceLT, Int.reduceLE, Int.reduceEq, Int.reduceBEq, Int.reduceBNe, Int.reduceToNat, Int.reduceAdd, Int.reduceNeg, Int.reduceSub]
  generalize hLB : ABlk.loop false AExit.normal false 18 _ _ _ _ = LB
  obtain ⟨LB', b1, b2⟩ : ∃ LB', beginBlk LB = some LB' ∧ endBlk .normal LB' = some LB := by rw [← hLB]; exact ⟨_, rfl, rfl⟩
  have b4 : ∀ h : Heap, h.b[9]? = some LB → ∀ fr ms, afterRange 9 fr ms h = some (.normal, ⟨fr, h.put 9 .none, ms⟩) := fun h hh fr ms => by
    rw [← hLB] at hh; unfold afterRange; rw [hh]
  have hset : ∀ (s : List Int × Nat) es X, PM (FB d [] s ++ X) 4 es = FB d es s ++ X := fun s es X => rfl
  let C : Con d 0 5 4 7 10 9 (List Int × Nat) := {
    PF := fun s => FB d [] s ++ [.cells [.ref 5 0], .mark, LB]
    stp := fun s t => (fstF s t, true)
    Inv := fun k s => s.2 = k ∧ s.1.length = 3
    len := fun s => by simp [FB]
    hat := fun s => ⟨rfl, by simp [FB], by omega⟩
    bx := fun s => rfl
    ne := by omega
    rnd := by
      intro k s t E tb es hinv hk8 hl hv hke
      obtain ⟨best, cnt⟩ := s
      obtain ⟨i1, i2⟩ := hinv
      have i1 : cnt = k := i1
      have i2 : best.length = 3 := i2
      subst i1
      rw [hset]
      have hat : (⟨FB d es (best, cnt) ++ [.cells [.ref 5 0], .mark, LB] ++ NB 10 9 7 5 (arrOf t) E, tb⟩ : Heap).b[9]? = some LB := rfl
      have hat2 := hat.trans (congrArg some hLB.symm)
      rw [stepRound_eq tabX hat2]
      clear hat hat2
      obtain ⟨x0, x1, x2, ha⟩ := list3 (arrOf_len (t := t) (by omega))
      obtain ⟨y0, y1', y2, hb⟩ := list3 i2
      subst hb
      have hw : IntKind.i64.wrap ((cnt : Int) + 1) = (cnt : Int) + 1 := wrap_i64 (by omega)
      have hw1 : IntKind.i64.wrap 1 = 1 := wrap_i64 (by omega)
      have h3 : (fstF ([y0, y1', y2], cnt) t).1.length = 3 := by unfold fstF; simp only; split <;> simp [ha]
      refine ⟨es, [.cells (I (arrOf t))], [], hke, fun _ => ⟨rfl, h3⟩, ?_⟩
      rw [hset]
      simp only [fstF, ha]
      simp only [y1, Option.bind_some, roundK, NB, FB]
      by_cases c0 : cnt = 0
      · subst c0
        simp only [go_sem, ↓reduceIte, Nat.reduceBEq, Nat.reduceEqDiff, Nat.reduceLT, Nat.reduceLeDiff, Nat.reduceAdd, Nat.reduceMul, Nat.reduceSub, reduceCtorEq, Int.reduceLT, Int.reduceLE, Int.reduceEq, Int.reduceBEq, Int.reduceBNe, Int.reduceToNat, Int.reduceAdd, Int.reduceNeg, Int.reduceSub, turnBlk, b1, b2, isNormal, hw, hw1, true_or, eHc, eHs, I_c, I_nil]
        skip
      · have c0i : ((cnt : Int) == 0) = false := by simp; omega
        by_cases c1 : [x0, x1, x2] = [y0, y1', y2]
        · simp only [go_sem, ↓reduceIte, Nat.reduceBEq, Nat.reduceEqDiff, Nat.reduceLT, Nat.reduceLeDiff, Nat.reduceAdd, Nat.reduceMul, Nat.reduceSub, reduceCtorEq, Int.reduceLT, Int.reduceLE, Int.reduceEq, Int.reduceBEq, Int.reduceBNe, Int.reduceToNat, Int.reduceAdd, Int.reduceNeg, Int.reduceSub, turnBlk, b1, b2, isNormal, hw, c0, c0i, c1, false_or, or_true, eqCells3, eHc, eHs, aggBin, I_c, I_nil]
          skip
        · simp only [go_sem, ↓reduceIte, Nat.reduceBEq, Nat.reduceEqDiff, Nat.reduceLT, Nat.reduceLeDiff, Nat.reduceAdd, Nat.reduceMul, Nat.reduceSub, reduceCtorEq, Int.reduceLT, Int.reduceLE, Int.reduceEq, Int.reduceBEq, Int.reduceBNe, Int.reduceToNat, Int.reduceAdd, Int.reduceNeg, Int.reduceSub, turnBlk, b1, b2, isNormal, hw, c0, c0i, c1, false_or, eqCells3, eHc, eHs, aggBin, I_c, I_nil]
          skip }
  obtain ⟨t, ts, ht, hm⟩ := truths_cons ho k2
  have hdfs : dfs d 0 d.rates.length [] = t :: ts := by rw [dfs_all ho, bitsL_zero, ht]
  obtain ⟨es', F', k, x1, x2, x3, x4⟩ := c96 hd ho (by omega) C ([0, 0, 0], 0) ⟨rfl, rfl⟩ (ho.dfs_len 0) (by omega) (by omega) (by omega) es hke F
  simp only [C] at x4
  rw [hset, hset, hdfs, runC_all, fstF_all] at x4
  have htl := (hm t (by simp)).1
  have hlen := truthsL_len ho []
  rw [ht, List.length_cons] at hlen
  have hcase : (d.days = 1 ∧ ∃ a, t = [a]) ∨ (d.days = 2 ∧ ∃ a b, t = [a, b]) ∨ (d.days = 3 ∧ ∃ a b c, t = [a, b, c]) := by
    have hl3 : t.length = 1 ∨ t.length = 2 ∨ t.length = 3 := by omega
    rcases hl3 with h | h | h
    · match t, h with
      | [a], h => exact .inl ⟨by simp at htl; omega, a, rfl⟩
    · match t, h with
      | [a, b], h => exact .inr (.inl ⟨by simp at htl; omega, a, b, rfl⟩)
    · match t, h with
      | [a, b, c], h => exact .inr (.inr ⟨by simp at htl; omega, a, b, c, rfl⟩)
  rw [ht, v3]
  rcases hcase with ⟨hdd, a, rfl⟩ | ⟨hdd, a, b, rfl⟩ | ⟨hdd, a, b, c, rfl⟩
  all_goals
    simp only [arrOf, FB, eHc, eHs] at x4
    simp only [go_sem, ↓reduceIte, Nat.reduceBEq, Nat.reduceEqDiff, Nat.reduceLT, Nat.reduceLeDiff, Nat.reduceAdd, Nat.reduceMul, Nat.reduceSub, reduceCtorEq, Int.reduceLT, Int.reduceLE, Int.reduceEq, Int.reduceBEq, Int.reduceBNe, Int.reduceToNat, Int.reduceAdd, Int.reduceNeg, Int.reduceSub, I_c, I_nil, hdd] at x4
    simp only [go_sem, ↓reduceIte, Nat.reduceBEq, Nat.reduceEqDiff, Nat.reduceLT, Nat.reduceLeDiff, Nat.reduceAdd, Nat.reduceMul, Nat.reduceSub, reduceCtorEq, Int.reduceLT, Int.reduceLE, Int.reduceEq, Int.reduceBEq, Int.reduceBNe, Int.reduceToNat, Int.reduceAdd, Int.reduceNeg, Int.reduceSub, hdd, x4]
    rw [b4 _ rfl]
    simp only [go_sem, ↓reduceIte, Nat.reduceBEq, Nat.reduceEqDiff, Nat.reduceLT, Nat.reduceLeDiff, Nat.reduceAdd, Nat.reduceMul, Nat.reduceSub, reduceCtorEq, Int.reduceLT, Int.reduceLE, Int.reduceEq, Int.reduceBEq, Int.reduceBNe, Int.reduceToNat, Int.reduceAdd, Int.reduceNeg, Int.reduceSub, opMakeSlice, opCopy, hdd]
    generalize hcf : drawT _ _ _ = cf
    obtain rfl : cf = true := by rw [← hcf]; kernel_rfl
    generalize List.replicate _ ABlk.none = N
    generalize List.replicate _ false = M
    simp only [go_sem, ↓reduceIte, Nat.reduceBEq, Nat.reduceEqDiff, Nat.reduceLT, Nat.reduceLeDiff, Nat.reduceAdd, Nat.reduceMul, Nat.reduceSub, reduceCtorEq, Int.reduceLT, Int.reduceLE, Int.reduceEq, Int.reduceBEq, Int.reduceBNe, Int.reduceToNat, Int.reduceAdd, Int.reduceNeg, Int.reduceSub, opMakeSlice, opCopy, hdd]
    rfl
end Go.Proofs.Ytaohhjaogjcfoaa
end
section
namespace Go.Proofs.Ytaohhjaogjcfoaa
open Go.Proofs

def bndF (f : List Int → Int) (s : (Int × Int) × Bool) (t : List Int) : (Int × Int) × Bool := (if s.2 = true then (f t, f t) else joinS s.1 (f t), false)
theorem bndF_more (f : List Int → Int) : ∀ (l : List (List Int)) (s : Int × Int), l.foldl (bndF f) (s, false) = (l.foldl (fun s r => joinS s (f r)) s, false)
  | [], s => rfl
  | t :: l, s => by
    rw [List.foldl_cons, List.foldl_cons]
    have : bndF f (s, false) t = (joinS s (f t), false) := by unfold bndF; simp
    rw [this, bndF_more f l]
theorem bndF_all (f : List Int → Int) (l : List (List Int)) : (l.foldl (bndF f) ((0, 0), true)).1 = foldS f l := by
  cases l with
  | nil => rfl
  | cons t l =>
    rw [List.foldl_cons]
    have : bndF f ((0, 0), true) t = ((f t, f t), false) := by unfold bndF; simp
    rw [this, bndF_more]; rfl
theorem eqCells2 (a b x y : Int) : eqCells [0, 0] [.int .i64 a, .int .i64 b] [.int .i64 x, .int .i64 y] = some (decide ((a, b) = (x, y))) := by
  simp only [eqCells, if_true, Option.map_some]
  congr 1
  rw [Bool.eq_iff_iff]
  simp
theorem c68 {d : Ho} (hd : d.fits) (ho : d.Ok) {but : Nat} (hbut : but < 32) (r m : Nat) (B : List ABlk) (hB : HAt d but r m B) (g : Nat) (fst cap : List AV) (hu1 : underL (B.length + 1) fst = true) (hu2 : underL (B.length + 1) cap = true) (f : List Int → Int)
    (hof : ∀ (t : List Int) (es : List (Key × Int)) (X : List ABlk) (tb : List Bool), t.length = d.rates.length → (∀ v ∈ t, 1 ≤ v ∧ v ≤ 20) → KOk d es → ∃ es' F, KOk d es' ∧ callAV tabX (EW tabX) false (.clo g fst cap) [.agg (I (arrOf t))] ⟨PM B m es ++ X, tb⟩ = some (.int .i64 (f t), ⟨PM B m es' ++ X, tb ++ F⟩))
    (es : List (Key × Int)) (hk : KOk d es) (t : List Bool) :
    ∃ es' F, KOk d es' ∧ (EW tabX).call 68 [.ref r 0, .clo g fst cap] ⟨PM B m es, t⟩ = some (eSp (foldS f (dfs d but d.rates.length [])), ⟨PM B m es', t ++ F⟩) := by
  have hrl : r < B.length := (List.getElem?_eq_some_iff.1 hB.hr).1
  have hrd := ho.rd
  have hd3 := ho.d3
  have h64 := c64 r (PM B m es ++ [.cells [.clo g fst cap], .cells [.int .i64 0, .int .i64 0], .cells [.bool true]]) t (by simp; omega)
  rw [w_call _ fn_68 rfl]
  simp only [go_sem, ↓reduceIte, Nat.reduceBEq, Nat.reduceEqDiff, Nat.reduceLT, Nat.reduceLeDiff, Nat.reduceAdd, Nat.reduceMul, Nat.reduceSub, reduceCtorEq, Int.reduceLT, Int.reduceLE, Int.reduceEq, Int.reduceBEq, Int.reduceBNe, Int.reduceToNat, Int.reduceAdd, Int.reduceNeg, Int.reduceSub] at h64
  simp only [callAV_clo, List.append_assoc, List.cons_append, List.nil_append] at hof
  simp only [go_sem, ↓reduceIte, Nat.reduceBEq, Nat.reduceEqDiff, Nat.reduceLT, Nat.reduceLeDiff, Nat.reduceAdd, Nat.reduceMul, Nat.reduceSub, reduceCtorEq, Int.reduceLT, Int.reduceLE, Int.reduceEq, Int.reduceBEq, Int.reduceBNe, Int.reduceToNat, Int.reduceAdd, Int.reduceNeg, Int.reduceSub, h64, hu1, hu2]
  rw [w_range (gf := 96) (fst := []) (cap := [.ref (B.length + 3) 0])]
  rotate_left
  · simp only [go_sem, ↓reduceIte, Nat.reduceBEq, Nat.reduceEqDiff, Nat.reduceLT, Nat.reduceLeDiff, Nat.reduceAdd, Nat.reduceMul, Nat.reduceSub, reduceCtorEq, Int.reduceLT, Int.reduceLE, Int.reduceEq, Int.reduceBEq, Int.reduceBNe, Int.reduceToNat, Int.reduceAdd, Int.reduceNeg, Int.reduceSub]
  generalize hLB : ABlk.loop false AExit.normal false 68 _ _ _ _ = LB
  obtain ⟨LB', b1, b2⟩ : ∃ LB', beginBlk LB = some LB' ∧ endBlk .normal LB' = some LB := by rw [← hLB]; exact ⟨_, rfl, rfl⟩
  have b4 : ∀ h : Heap, h.b[B.length + 5]? = some LB → ∀ fr ms, afterRange (B.length + 5) fr ms h = some (.normal, ⟨fr, h.put (B.length + 5) .none, ms⟩) := fun h hh fr ms => by
    rw [← hLB] at hh; unfold afterRange; rw [hh]
  have hset : ∀ (X : List ABlk) es, PM (B ++ X) m es = PM B m es ++ X := fun X es => List.set_append_left _ _ hB.hm
  let C : Con d but r m (B.length + 3) (B.length + 6) (B.length + 5) ((Int × Int) × Bool) := {
    PF := fun s => B ++ [.cells [.clo g fst cap], .cells [.int .i64 s.1.1, .int .i64 s.1.2], .cells [.bool s.2], .cells [.ref r 0], .mark, LB]
    stp := fun s t => (bndF f s t, true)
    Inv := fun _ _ => True
    len := fun s => by simp
    hat := fun s => ⟨old hB.hr _, by simp; have := hB.hm; omega, hB.ne⟩
    bx := fun s => by simp only [go_sem, ↓reduceIte, Nat.reduceBEq, Nat.reduceEqDiff, Nat.reduceLT, Nat.reduceLeDiff, Nat.reduceAdd, Nat.reduceMul, Nat.reduceSub, reduceCtorEq, Int.reduceLT, Int.reduceLE, Int.reduceEq, Int.reduceBEq, Int.reduceBNe, Int.reduceToNat, Int.reduceAdd, Int.reduceNeg, Int.reduceSub]
    ne := fun e => by have := hB.hm; omega
    rnd := by
      intro k s t E tb es hinv hk8 hl hv hke
      obtain ⟨⟨lo, hi⟩, first⟩ := s
      rw [hset]
      have hat : (⟨PM B m es ++ [.cells [.clo g fst cap], .cells [.int .i64 lo, .int .i64 hi], .cells [.bool first], .cells [.ref r 0], .mark, LB] ++ NB (B.length + 6) (B.length + 5) (B.length + 3) r (arrOf t) E, tb⟩ : Heap).b[B.length + 5]? = some LB := by simp only [go_sem, ↓reduceIte, Nat.reduceBEq, Nat.reduceEqDiff, Nat.reduceLT, Nat.reduceLeDiff, Nat.reduceAdd, Nat.reduceMul, Nat.reduceSub, reduceCtorEq, Int.reduceLT, Int.reduceLE, Int.reduceEq, Int.reduceBEq, Int.reduceBNe, Int.reduceToNat, Int.reduceAdd, Int.reduceNeg, Int.reduceSub, NB]
      have hat2 := hat.trans (congrArg some hLB.symm)
      rw [stepRound_eq tabX hat2]
      clear hat hat2
      obtain ⟨x0, x1, x2, ha⟩ := list3 (arrOf_len (t := t) (by omega))
      obtain ⟨es', F, k1, hc⟩ := hof t es ([.cells [.clo g fst cap], .cells [.int .i64 lo, .int .i64 hi], .cells [.bool first], .cells [.ref r 0], .mark, LB'] ++ NB (B.length + 6) (B.length + 5) (B.length + 3) r (arrOf t) (E ++ [.cells (I (arrOf t))])) tb hl hv hke
      rw [ha] at hc
      simp only [go_sem, ↓reduceIte, Nat.reduceBEq, Nat.reduceEqDiff, Nat.reduceLT, Nat.reduceLeDiff, Nat.reduceAdd, Nat.reduceMul, Nat.reduceSub, reduceCtorEq, Int.reduceLT, Int.reduceLE, Int.reduceEq, Int.reduceBEq, Int.reduceBNe, Int.reduceToNat, Int.reduceAdd, Int.reduceNeg, Int.reduceSub, NB, I_c, I_nil] at hc
      cases first with
      | true =>
        refine ⟨es', [.cells (I (arrOf t)), .cells [.int .i64 (f t), .int .i64 (f t)]], F, k1, fun _ => trivial, ?_⟩
        rw [hset]
        simp only [bndF, ha]
        generalize f t = n at hc
        simp only [y1, Option.bind_some, roundK, NB]
        simp only [go_sem, ↓reduceIte, Nat.reduceBEq, Nat.reduceEqDiff, Nat.reduceLT, Nat.reduceLeDiff, Nat.reduceAdd, Nat.reduceMul, Nat.reduceSub, reduceCtorEq, Int.reduceLT, Int.reduceLE, Int.reduceEq, Int.reduceBEq, Int.reduceBNe, Int.reduceToNat, Int.reduceAdd, Int.reduceNeg, Int.reduceSub, turnBlk, b1, b2, isNormal, hc, eqCells2, aggBin, I_c, I_nil]
        skip
      | false =>
        refine ⟨es', [.cells (I (arrOf t)), .cells [.int .i64 (joinS (lo, hi) (f t)).1, .int .i64 (joinS (lo, hi) (f t)).2]], F, k1, fun _ => trivial, ?_⟩
        rw [hset]
        simp only [bndF, ha]
        generalize f t = n at hc
        by_cases hq : joinS (lo, hi) n = (lo, hi)
        · have hq' : ((if n < lo then n else lo, if hi < n then n else hi) = (lo, hi)) := hq
          simp only [y1, Option.bind_some, roundK, NB]
          simp only [go_sem, ↓reduceIte, Nat.reduceBEq, Nat.reduceEqDiff, Nat.reduceLT, Nat.reduceLeDiff, Nat.reduceAdd, Nat.reduceMul, Nat.reduceSub, reduceCtorEq, Int.reduceLT, Int.reduceLE, Int.reduceEq, Int.reduceBEq, Int.reduceBNe, Int.reduceToNat, Int.reduceAdd, Int.reduceNeg, Int.reduceSub, turnBlk, b1, b2, isNormal, hc, eqCells2, aggBin, I_c, I_nil, joinS, hq']
          have hq1 : (if n < lo then n else lo) = lo := congrArg Prod.fst hq'
          have hq2 : (if hi < n then n else hi) = hi := congrArg Prod.snd hq'
          rw [hq1, hq2]
        · have hq' : ¬ ((if n < lo then n else lo, if hi < n then n else hi) = (lo, hi)) := hq
          simp only [y1, Option.bind_some, roundK, NB]
          simp only [go_sem, ↓reduceIte, Nat.reduceBEq, Nat.reduceEqDiff, Nat.reduceLT, Nat.reduceLeDiff, Nat.reduceAdd, Nat.reduceMul, Nat.reduceSub, reduceCtorEq, Int.reduceLT, Int.reduceLE, Int.reduceEq, Int.reduceBEq, Int.reduceBNe, Int.reduceToNat, Int.reduceAdd, Int.reduceNeg, Int.reduceSub, turnBlk, b1, b2, isNormal, hc, eqCells2, aggBin, I_c, I_nil, joinS, hq']
          skip }
  obtain ⟨es', F, k, x1, x2, x3, x4⟩ := c96 hd ho hbut C ((0, 0), true) trivial (ho.dfs_len but) (by omega) (by omega) (by omega) es hk t
  simp only [C] at x4
  rw [hset, hset, runC_all, bndF_all] at x4
  simp only [go_sem, ↓reduceIte, Nat.reduceBEq, Nat.reduceEqDiff, Nat.reduceLT, Nat.reduceLeDiff, Nat.reduceAdd, Nat.reduceMul, Nat.reduceSub, reduceCtorEq, Int.reduceLT, Int.reduceLE, Int.reduceEq, Int.reduceBEq, Int.reduceBNe, Int.reduceToNat, Int.reduceAdd, Int.reduceNeg, Int.reduceSub] at x4
  refine ⟨es', F, x1, ?_⟩
  simp only [go_sem, ↓reduceIte, Nat.reduceBEq, Nat.reduceEqDiff, Nat.reduceLT, Nat.reduceLeDiff, Nat.reduceAdd, Nat.reduceMul, Nat.reduceSub, reduceCtorEq, Int.reduceLT, Int.reduceLE, Int.reduceEq, Int.reduceBEq, Int.reduceBNe, Int.reduceToNat, Int.reduceAdd, Int.reduceNeg, Int.reduceSub, x4]
  rw [b4 _ (by simp only [go_sem, ↓reduceIte, Nat.reduceBEq, Nat.reduceEqDiff, Nat.reduceLT, Nat.reduceLeDiff, Nat.reduceAdd, Nat.reduceMul, Nat.reduceSub, reduceCtorEq, Int.reduceLT, Int.reduceLE, Int.reduceEq, Int.reduceBEq, Int.reduceBNe, Int.reduceToNat, Int.reduceAdd, Int.reduceNeg, Int.reduceSub])]
  simp only [go_sem, ↓reduceIte, Nat.reduceBEq, Nat.reduceEqDiff, Nat.reduceLT, Nat.reduceLeDiff, Nat.reduceAdd, Nat.reduceMul, Nat.reduceSub, reduceCtorEq, Int.reduceLT, Int.reduceLE, Int.reduceEq, Int.reduceBEq, Int.reduceBNe, Int.reduceToNat, Int.reduceAdd, Int.reduceNeg, Int.reduceSub, eSp]
  skip
end Go.Proofs.Ytaohhjaogjcfoaa
end
section
namespace Go.Proofs.Ytaohhjaogjcfoaa
open Go.Proofs

theorem pairs1 (n below : Int) : pairsE [n, below] 1 = if inR n 0 (below - 1) = true then 0 else 4 := by
  have e : pairE [n, below] 0 = if out 0 (below - 1) n = true then 4 else 0 := rfl
  unfold pairsE firstBad
  rw [e, ← out_not]
  cases out 0 (below - 1) n with
  | true => simp
  | false => simp [firstBad]
theorem enter_index {d : Ho} (n below : Int) : enterE d 0 (pairsE [n, below] 1) = knownE d (indexE d n below) := by
  rw [enterE_known, pairs1]
  unfold indexE
  rfl
theorem c69 (g : Nat) (hg : g = 69 ∨ g = 87) (R : List Int) (hR : R.length = 3) (j : Nat) (v : Int) (hv : R[j]? = some v) (b : Nat) (B : List ABlk) (t : List Bool) (hB : B[b]? = some (.cells [.int .i64 j])) :
    (EW tabX).call g [.agg (I R), .ref b 0] ⟨B, t⟩ = some (.int .i64 v, ⟨B, t⟩) := by
  have oB := old hB
  have hj : j < 3 := by have := (List.getElem?_eq_some_iff.1 hv).1; omega
  obtain ⟨x0, x1, x2, rfl⟩ := list3 hR
  have hc : j = 0 ∨ j = 1 ∨ j = 2 := by omega
  rcases hg with rfl | rfl
  · rw [w_call _ fn_69 rfl]
    rcases hc with rfl | rfl | rfl
    all_goals
      simp only [List.getElem?_cons_zero, List.getElem?_cons_succ, Option.some.injEq] at hv
      subst hv
      simp only [go_sem, ↓reduceIte, Nat.reduceBEq, Nat.reduceEqDiff, Nat.reduceLT, Nat.reduceLeDiff, Nat.reduceAdd, Nat.reduceMul, Nat.reduceSub, reduceCtorEq, Int.reduceLT, Int.reduceLE, Int.reduceEq, Int.reduceBEq, Int.reduceBNe, Int.reduceToNat, Int.reduceAdd, Int.reduceNeg, Int.reduceSub, oB]
  · rw [w_call _ fn_87 rfl]
    rcases hc with rfl | rfl | rfl
    all_goals
      simp only [List.getElem?_cons_zero, List.getElem?_cons_succ, Option.some.injEq] at hv
      subst hv
      simp only [go_sem, ↓reduceIte, Nat.reduceBEq, Nat.reduceEqDiff, Nat.reduceLT, Nat.reduceLeDiff, Nat.reduceAdd, Nat.reduceMul, Nat.reduceSub, reduceCtorEq, Int.reduceLT, Int.reduceLE, Int.reduceEq, Int.reduceBEq, Int.reduceBNe, Int.reduceToNat, Int.reduceAdd, Int.reduceNeg, Int.reduceSub, oB]
theorem arrOf_get {t : List Int} {j : Nat} (hj : j < t.length) : (arrOf t)[j]? = some (t.getD j 0) := by
  unfold arrOf
  rw [List.getElem?_append_left hj, List.getElem?_eq_getElem hj]
  simp [hj]
theorem rate_of {d : Ho} (g : Nat) (hg : g = 69 ∨ g = 87) (hrr : retRef tabX g = false) (hr3 : d.rates.length ≤ 3) (j : Nat) (hj : j < d.rates.length) (m b : Nat) (hbm : b ≠ m) (B : List ABlk) (hB : B[b]? = some (.cells [.int .i64 j])) (t : List Int) (es : List (Key × Int)) (X : List ABlk) (tb : List Bool) (ht : t.length = d.rates.length) (hk : KOk d es) :
    ∃ es' F, KOk d es' ∧ callAV tabX (EW tabX) false (.clo g [] [.ref b 0]) [.agg (I (arrOf t))] ⟨PM B m es ++ X, tb⟩ = some (.int .i64 (t.getD j 0), ⟨PM B m es' ++ X, tb ++ F⟩) := by
  refine ⟨es, [], hk, ?_⟩
  have hb : (PM B m es ++ X)[b]? = some (.cells [.int .i64 j]) := by
    refine old ?_ X
    rw [List.getElem?_set_ne (fun e => hbm e.symm)]; exact hB
  have := c69 g hg (arrOf t) (arrOf_len (by omega)) j (t.getD j 0) (arrOf_get (by omega)) b (PM B m es ++ X) tb hb
  simp only [go_sem, ↓reduceIte, Nat.reduceBEq, Nat.reduceEqDiff, Nat.reduceLT, Nat.reduceLeDiff, Nat.reduceAdd, Nat.reduceMul, Nat.reduceSub, reduceCtorEq, Int.reduceLT, Int.reduceLE, Int.reduceEq, Int.reduceBEq, Int.reduceBNe, Int.reduceToNat, Int.reduceAdd, Int.reduceNeg, Int.reduceSub, hrr] at this ⊢
  exact this
def H21 (d : Ho) (day : Int) : List ABlk := [.cells (eHc d), .cells [.int .i64 day], .cells [.int .i64 0, .int .i64 0], .none, .none, .none, .none, .none, .none, .none, .none, .none, .none, .none, .none, .cells [.lst 1 1 [.int .i64 day, .int .i64 d.days]]]
theorem c21 (d : Ho) (hd : d.fits) (day : Int) (h : Heap) : callPure (EW tabX) 21 [eH d, .int .i64 day] h = some (vS (rateV d day), h) := by
  have hcl := eH_clean d
  have h67 := c67 [day, d.days] 1 1 (List.take 15 (H21 d day)) (List.replicate 12 false)
  obtain ⟨hno, hyes⟩ := c62 d hd 0 (by omega) (pairsE [day, d.days] 1) (.clo 98 [] [.ref 15 0]) (H21 d day) (List.replicate 12 false) (fun hc => by
    have ho := ok_of_E hc
    have := c98 [day, d.days] 1 rfl (by omega) (fun k hk => by
      obtain rfl : k = 0 := by omega
      have := ho.d1
      have := ho.d3
      show -_ ≤ d.days ∧ d.days ≤ _
      omega) 1 15 (H21 d day ++ [.cells (eHc d)]) (List.replicate 12 false) rfl
    simp only [go_sem, ↓reduceIte, Nat.reduceBEq, Nat.reduceEqDiff, Nat.reduceLT, Nat.reduceLeDiff, Nat.reduceAdd, Nat.reduceMul, Nat.reduceSub, reduceCtorEq, Int.reduceLT, Int.reduceLE, Int.reduceEq, Int.reduceBEq, Int.reduceBNe, Int.reduceToNat, Int.reduceAdd, Int.reduceNeg, Int.reduceSub] at this ⊢
    exact this)
  rw [enter_index] at hno hyes
  rw [callPure_eq, w_call _ fn_21 rfl]
  unfold rateV
  by_cases h0 : knownE d (indexE d day d.days) = 0
  rotate_left
  · rw [if_neg h0]
    obtain ⟨F, hc⟩ := hno h0
    have hne : (knownE d (indexE d day d.days) != 0) = true := by simpa using h0
    simp only [go_sem, ↓reduceIte, Nat.reduceBEq, Nat.reduceEqDiff, Nat.reduceLT, Nat.reduceLeDiff, Nat.reduceAdd, Nat.reduceMul, Nat.reduceSub, reduceCtorEq, Int.reduceLT, Int.reduceLE, Int.reduceEq, Int.reduceBEq, Int.reduceBNe, Int.reduceToNat, Int.reduceAdd, Int.reduceNeg, Int.reduceSub, eH, eHc, H21, I_c, I_nil] at hc h67
    simp only [go_sem, ↓reduceIte, Nat.reduceBEq, Nat.reduceEqDiff, Nat.reduceLT, Nat.reduceLeDiff, Nat.reduceAdd, Nat.reduceMul, Nat.reduceSub, reduceCtorEq, Int.reduceLT, Int.reduceLE, Int.reduceEq, Int.reduceBEq, Int.reduceBNe, Int.reduceToNat, Int.reduceAdd, Int.reduceNeg, Int.reduceSub, eH, eHc, List.size_toArray, h67, hc]
    generalize hcf : okFam _ _ _ = cf
    obtain rfl : cf = true := by rw [← hcf]; kernel_rfl
    simp only [go_sem, ↓reduceIte, Nat.reduceBEq, Nat.reduceEqDiff, Nat.reduceLT, Nat.reduceLeDiff, Nat.reduceAdd, Nat.reduceMul, Nat.reduceSub, reduceCtorEq, Int.reduceLT, Int.reduceLE, Int.reduceEq, Int.reduceBEq, Int.reduceBNe, Int.reduceToNat, Int.reduceAdd, Int.reduceNeg, Int.reduceSub, hne, vS, eSp]
  · rw [if_pos h0]
    obtain ⟨es, F, hke, hc⟩ := hyes h0
    obtain ⟨k1, k2⟩ := knownE_zero h0
    obtain ⟨k3, k4, k5⟩ := indexE_zero k1
    have ho := ok_of_E k3
    have hrd := ho.rd
    obtain ⟨j, rfl⟩ := Int.eq_ofNat_of_zero_le k4
    obtain ⟨es', F', x1, x2⟩ := c68 hd ho (but := 0) (by omega) 19 18 (HE d 0 (H21 d j)) (HE_at d 0 (H21 d j)) 69 [] [.ref 1 0] rfl rfl (fun r => r.getD j 0)
      (fun t es X tb ht hv hk => rate_of 69 (.inl rfl) rr_69 (by have := ho.d3; omega) j (by omega) 18 1 (by omega) (HE d 0 (H21 d j)) rfl t es X tb ht hk) es hke (List.replicate 12 false ++ F)
    have hdfs : dfs d 0 d.rates.length [] = truthsL d [] := by rw [dfs_all ho, bitsL_zero]
    rw [hdfs] at x2
    simp only [go_sem, ↓reduceIte, Nat.reduceBEq, Nat.reduceEqDiff, Nat.reduceLT, Nat.reduceLeDiff, Nat.reduceAdd, Nat.reduceMul, Nat.reduceSub, reduceCtorEq, Int.reduceLT, Int.reduceLE, Int.reduceEq, Int.reduceBEq, Int.reduceBNe, Int.reduceToNat, Int.reduceAdd, Int.reduceNeg, Int.reduceSub, eH, eHc, eHs, HE, H21, I_c, I_nil] at hc h67 x2
    simp only [go_sem, ↓reduceIte, Nat.reduceBEq, Nat.reduceEqDiff, Nat.reduceLT, Nat.reduceLeDiff, Nat.reduceAdd, Nat.reduceMul, Nat.reduceSub, reduceCtorEq, Int.reduceLT, Int.reduceLE, Int.reduceEq, Int.reduceBEq, Int.reduceBNe, Int.reduceToNat, Int.reduceAdd, Int.reduceNeg, Int.reduceSub, eH, eHc, List.size_toArray, h67, hc]
    generalize hcf : okFam _ _ _ = cf
    obtain rfl : cf = true := by rw [← hcf]; kernel_rfl
    simp only [go_sem, ↓reduceIte, Nat.reduceBEq, Nat.reduceEqDiff, Nat.reduceLT, Nat.reduceLeDiff, Nat.reduceAdd, Nat.reduceMul, Nat.reduceSub, reduceCtorEq, Int.reduceLT, Int.reduceLE, Int.reduceEq, Int.reduceBEq, Int.reduceBNe, Int.reduceToNat, Int.reduceAdd, Int.reduceNeg, Int.reduceSub, x2, vS, eSp]
    skip
end Go.Proofs.Ytaohhjaogjcfoaa
end
section
namespace Go.Proofs.Ytaohhjaogjcfoaa
open Go.Proofs

theorem pairs2 (a b c e : Int) : pairsE [a, b, c, e] 2 = if (inR a 0 (b - 1) && inR c 0 (e - 1)) = true then 0 else 4 := by
  have e0 : pairE [a, b, c, e] 0 = if out 0 (b - 1) a = true then 4 else 0 := rfl
  have e1 : pairE [a, b, c, e] 1 = if out 0 (e - 1) c = true then 4 else 0 := rfl
  unfold pairsE firstBad
  rw [e0, ← out_not, ← out_not]
  cases out 0 (b - 1) a with
  | true => simp
  | false =>
    unfold firstBad
    rw [e1]
    cases out 0 (e - 1) c with
    | true => simp
    | false => simp [firstBad]
def worthQ (d : Ho) (who day near : Int) : Int := if pairsE [who, d.agents.length, day, d.days] 2 = 0 then (if out 0 99 near = true then 7 else 0) else pairsE [who, d.agents.length, day, d.days] 2
theorem enter_worth {d : Ho} (who day near : Int) : enterE d 0 (worthQ d who day near) = worthE d who day near := by
  rw [enterE_known]
  unfold worthE worthQ penceE indexE
  rw [pairs2, ← notin near 0 99]
  by_cases h0 : checkE d = 0
  · simp only [h0, if_true]
    cases inR who 0 ((d.agents.length : Int) - 1) <;> cases inR day 0 (d.days - 1) <;> cases inR near 0 99 <;> simp
  · simp only [h0, if_false]
theorem c72 (d : Ho) (hd : d.fits) (ho : d.Ok) (who day near : Int) (B : List ABlk) (t : List Bool) (b0 b1 b2 b3 : Nat) (h0 : B[b0]? = some (.cells (eHc d))) (h1 : B[b1]? = some (.cells [.int .i64 who])) (h2 : B[b2]? = some (.cells [.int .i64 day])) (h3 : B[b3]? = some (.cells [.int .i64 near])) :
    (EW tabX).call 72 [.ref b1 0, .ref b0 0, .ref b2 0, .ref b3 0] ⟨B, t⟩ = some (.int .i64 (worthQ d who day near), ⟨B, t⟩) := by
  have h67 := c67 [who, d.agents.length, day, d.days] 1 1 B t
  have h98 := c98 [who, d.agents.length, day, d.days] 2 rfl (by omega) (fun k hk => by
    have := ho.d1
    have := ho.d3
    have := ho.a3
    rcases (show k = 0 ∨ k = 1 by omega) with rfl | rfl
    · show -_ ≤ (d.agents.length : Int) ∧ (d.agents.length : Int) ≤ _
      omega
    · show -_ ≤ d.days ∧ d.days ≤ _
      omega) 1 B.length (B ++ [.cells [.lst 1 1 (I [who, d.agents.length, day, d.days])]]) t (by simp)
  have o0 := old h0
  have o1 := old h1
  have o2 := old h2
  have o3 := old h3
  simp only [eHc] at h0 o0
  rw [w_call _ fn_72 rfl]
  unfold worthQ
  simp only [I_c, I_nil] at h67 h98
  by_cases hp : pairsE [who, d.agents.length, day, d.days] 2 = 0
  · cases hn : out 0 99 near with
    | true => simp only [go_sem, ↓reduceIte, Nat.reduceBEq, Nat.reduceEqDiff, Nat.reduceLT, Nat.reduceLeDiff, Nat.reduceAdd, Nat.reduceMul, Nat.reduceSub, reduceCtorEq, Int.reduceLT, Int.reduceLE, Int.reduceEq, Int.reduceBEq, Int.reduceBNe, Int.reduceToNat, Int.reduceAdd, Int.reduceNeg, Int.reduceSub, h0, h1, h2, h3, o0, o1, o2, o3, h67, h98, hp, c49_1, hn]
    | false => simp only [go_sem, ↓reduceIte, Nat.reduceBEq, Nat.reduceEqDiff, Nat.reduceLT, Nat.reduceLeDiff, Nat.reduceAdd, Nat.reduceMul, Nat.reduceSub, reduceCtorEq, Int.reduceLT, Int.reduceLE, Int.reduceEq, Int.reduceBEq, Int.reduceBNe, Int.reduceToNat, Int.reduceAdd, Int.reduceNeg, Int.reduceSub, h0, h1, h2, h3, o0, o1, o2, o3, h67, h98, hp, c49_1, hn]
  · have hpb : (pairsE [who, d.agents.length, day, d.days] 2 == 0) = false := by simpa using hp
    simp only [go_sem, ↓reduceIte, Nat.reduceBEq, Nat.reduceEqDiff, Nat.reduceLT, Nat.reduceLeDiff, Nat.reduceAdd, Nat.reduceMul, Nat.reduceSub, reduceCtorEq, Int.reduceLT, Int.reduceLE, Int.reduceEq, Int.reduceBEq, Int.reduceBNe, Int.reduceToNat, Int.reduceAdd, Int.reduceNeg, Int.reduceSub, h0, h1, h2, h3, o0, o1, o2, o3, h67, h98, hp, hpb]
theorem c73 (d : Ho) (hd : d.fits) (ho : d.Ok) (but : Int) {r m : Nat} {P : List ABlk} (hP : HAt d but r m P) (i : Nat) (hi : i < d.agents.length) (j : Nat) (near : Int) (hn : 0 ≤ near ∧ near ≤ 99) (R : List Int) (hR : R.length = 3) (v : Int) (hv : R[j]? = some v) (hv2 : 0 ≤ v ∧ v ≤ 20)
    (b1 b2 b3 b4 : Nat) (h1 : ∀ x X, (P.set m x ++ X)[b1]? = some (.cells [.ref r 0])) (h2 : ∀ x X, (P.set m x ++ X)[b2]? = some (.cells [.int .i64 i])) (h3 : ∀ x X, (P.set m x ++ X)[b3]? = some (.cells [.int .i64 near])) (h4 : ∀ x X, (P.set m x ++ X)[b4]? = some (.cells [.int .i64 j]))
    (X : List ABlk) (t : List Bool) (es : List (Key × Int)) (hk : KOk d es) :
    ∃ es' F, KOk d es' ∧ (EW tabX).call 73 [.agg (I R), .ref b1 0, .ref b2 0, .ref b3 0, .ref b4 0] ⟨PM P m es ++ X, t⟩ = some (.int .i64 (payR (d.ag0 i) near v), ⟨PM P m es' ++ X, t ++ F⟩) := by
  have hj : j < 3 := by have := (List.getElem?_eq_some_iff.1 hv).1; omega
  have hga := List.getElem?_eq_getElem hi
  have e1 : d.ag0 (i : Int) = d.agents[i] := by simp [Ho.ag0, hi]
  have key := fun X t => c74x d hd ho but hP i d.agents[i] hga near v hn hv2 X t es hk
  rw [e1, w_call _ fn_73 rfl]
  obtain ⟨x0, x1, x2, rfl⟩ := list3 hR
  have hc : j = 0 ∨ j = 1 ∨ j = 2 := by omega
  rcases hc with rfl | rfl | rfl
  all_goals
    simp only [List.getElem?_cons_zero, List.getElem?_cons_succ, Option.some.injEq] at hv
    subst hv
    simp only [go_sem, ↓reduceIte, Nat.reduceBEq, Nat.reduceEqDiff, Nat.reduceLT, Nat.reduceLeDiff, Nat.reduceAdd, Nat.reduceMul, Nat.reduceSub, reduceCtorEq, Int.reduceLT, Int.reduceLE, Int.reduceEq, Int.reduceBEq, Int.reduceBNe, Int.reduceToNat, Int.reduceAdd, Int.reduceNeg, Int.reduceSub, h1, h2, h3, h4]
    generalize hcf : drawT _ _ _ = cf
    obtain rfl : cf = true := by rw [← hcf]; kernel_rfl
    generalize List.replicate _ ABlk.none = N
    generalize List.replicate _ false = M
    simp only [go_sem, ↓reduceIte, Nat.reduceBEq, Nat.reduceEqDiff, Nat.reduceLT, Nat.reduceLeDiff, Nat.reduceAdd, Nat.reduceMul, Nat.reduceSub, reduceCtorEq, Int.reduceLT, Int.reduceLE, Int.reduceEq, Int.reduceBEq, Int.reduceBNe, Int.reduceToNat, Int.reduceAdd, Int.reduceNeg, Int.reduceSub, h1, h2, h3, h4]
    generalize hbb : boundAll _ _ _ = bb
    obtain rfl : bb = true := by rw [← hbb]; kernel_rfl
    obtain ⟨es', F, k1, k2⟩ := key (X ++ (ABlk.cells (I [x0, x1, x2]) :: N)) (t ++ M)
    simp only [go_sem, ↓reduceIte, Nat.reduceBEq, Nat.reduceEqDiff, Nat.reduceLT, Nat.reduceLeDiff, Nat.reduceAdd, Nat.reduceMul, Nat.reduceSub, reduceCtorEq, Int.reduceLT, Int.reduceLE, Int.reduceEq, Int.reduceBEq, Int.reduceBNe, Int.reduceToNat, Int.reduceAdd, Int.reduceNeg, Int.reduceSub] at k2
    refine ⟨es', M ++ F, k1, ?_⟩
    simp only [go_sem, ↓reduceIte, Nat.reduceBEq, Nat.reduceEqDiff, Nat.reduceLT, Nat.reduceLeDiff, Nat.reduceAdd, Nat.reduceMul, Nat.reduceSub, reduceCtorEq, Int.reduceLT, Int.reduceLE, Int.reduceEq, Int.reduceBEq, Int.reduceBNe, Int.reduceToNat, Int.reduceAdd, Int.reduceNeg, Int.reduceSub, k2]
def H24 (d : Ho) (who day near : Int) : List ABlk := [.cells (eHc d), .cells [.int .i64 who], .cells [.int .i64 day], .cells [.int .i64 near], .cells [.int .i64 0, .int .i64 0]]
theorem c24 (d : Ho) (hd : d.fits) (who day near : Int) (h : Heap) : callPure (EW tabX) 24 [eH d, .int .i64 who, .int .i64 day, .int .i64 near] h = some (vS (worthV d who day near), h) := by
  have hcl := eH_clean d
  obtain ⟨hno, hyes⟩ := c62 d hd 0 (by omega) (worthQ d who day near) (.clo 72 [] [.ref 1 0, .ref 0 0, .ref 2 0, .ref 3 0]) (H24 d who day near) [] (fun hc => by
    have ho := ok_of_E hc
    have := c72 d hd ho who day near (H24 d who day near ++ [.cells (eHc d)]) [] 0 1 2 3 rfl rfl rfl rfl
    simp only [go_sem, ↓reduceIte, Nat.reduceBEq, Nat.reduceEqDiff, Nat.reduceLT, Nat.reduceLeDiff, Nat.reduceAdd, Nat.reduceMul, Nat.reduceSub, reduceCtorEq, Int.reduceLT, Int.reduceLE, Int.reduceEq, Int.reduceBEq, Int.reduceBNe, Int.reduceToNat, Int.reduceAdd, Int.reduceNeg, Int.reduceSub] at this ⊢
    exact this)
  rw [enter_worth] at hno hyes
  rw [callPure_eq, w_call _ fn_24 rfl]
  unfold worthV
  by_cases h0 : worthE d who day near = 0
  rotate_left
  · rw [if_neg h0]
    obtain ⟨F, hc⟩ := hno h0
    have hne : (worthE d who day near != 0) = true := by simpa using h0
    simp only [go_sem, ↓reduceIte, Nat.reduceBEq, Nat.reduceEqDiff, Nat.reduceLT, Nat.reduceLeDiff, Nat.reduceAdd, Nat.reduceMul, Nat.reduceSub, reduceCtorEq, Int.reduceLT, Int.reduceLE, Int.reduceEq, Int.reduceBEq, Int.reduceBNe, Int.reduceToNat, Int.reduceAdd, Int.reduceNeg, Int.reduceSub, eH, eHc, H24] at hc
    simp only [go_sem, ↓reduceIte, Nat.reduceBEq, Nat.reduceEqDiff, Nat.reduceLT, Nat.reduceLeDiff, Nat.reduceAdd, Nat.reduceMul, Nat.reduceSub, reduceCtorEq, Int.reduceLT, Int.reduceLE, Int.reduceEq, Int.reduceBEq, Int.reduceBNe, Int.reduceToNat, Int.reduceAdd, Int.reduceNeg, Int.reduceSub, eH, eHc, hc, hne, vS, eSp]
  · rw [if_pos h0]
    obtain ⟨es, F, hke, hc⟩ := hyes h0
    obtain ⟨k3, kw, ky, kn, kt⟩ := worthE_zero h0
    have ho := ok_of_E k3
    have hrd := ho.rd
    obtain ⟨i, rfl⟩ := Int.eq_ofNat_of_zero_le kw.1
    obtain ⟨j, rfl⟩ := Int.eq_ofNat_of_zero_le ky.1
    have hP : HAt d (0 : Nat) 8 7 (HE d 0 (H24 d i j near) ++ [.cells [.ref 8 0]]) := ⟨rfl, by simp [HE, H24], by omega⟩
    have hset : ∀ es X, PM (HE d 0 (H24 d i j near) ++ X) 7 es = PM (HE d 0 (H24 d i j near)) 7 es ++ X := fun es X => List.set_append_left _ _ (by simp [HE, H24])
    obtain ⟨es', F', x1, x2⟩ := c68 hd ho (but := 0) (by omega) 8 7 (HE d 0 (H24 d i j near) ++ [.cells [.ref 8 0]]) hP 73 [] [.ref 9 0, .ref 1 0, .ref 3 0, .ref 2 0] rfl rfl (payAt d i j near)
      (fun t es X tb ht hv hk => by
        have hjl : j < t.length := by omega
        have hb := hv _ (List.getElem_mem hjl)
        have hg : t.getD j 0 = t[j] := by simp [hjl]
        obtain ⟨es', F, y1, y2⟩ := c73 d hd ho (0 : Nat) hP i (by omega) j near kn (arrOf t) (arrOf_len (by have := ho.d3; omega)) (t.getD j 0) (arrOf_get hjl) (by rw [hg]; omega) 9 1 3 2 (fun x X => rfl) (fun x X => rfl) (fun x X => rfl) (fun x X => rfl) X tb es hk
        refine ⟨es', F, y1, ?_⟩
        simp only [go_sem, ↓reduceIte, Nat.reduceBEq, Nat.reduceEqDiff, Nat.reduceLT, Nat.reduceLeDiff, Nat.reduceAdd, Nat.reduceMul, Nat.reduceSub, reduceCtorEq, Int.reduceLT, Int.reduceLE, Int.reduceEq, Int.reduceBEq, Int.reduceBNe, Int.reduceToNat, Int.reduceAdd, Int.reduceNeg, Int.reduceSub] at y2 ⊢
        exact y2) es hke ([] ++ F)
    have hdfs : dfs d 0 d.rates.length [] = truthsL d [] := by rw [dfs_all ho, bitsL_zero]
    rw [hdfs, hset, hset] at x2
    simp only [go_sem, ↓reduceIte, Nat.reduceBEq, Nat.reduceEqDiff, Nat.reduceLT, Nat.reduceLeDiff, Nat.reduceAdd, Nat.reduceMul, Nat.reduceSub, reduceCtorEq, Int.reduceLT, Int.reduceLE, Int.reduceEq, Int.reduceBEq, Int.reduceBNe, Int.reduceToNat, Int.reduceAdd, Int.reduceNeg, Int.reduceSub, eH, eHc, eHs, HE, H24] at hc x2
    simp only [go_sem, ↓reduceIte, Nat.reduceBEq, Nat.reduceEqDiff, Nat.reduceLT, Nat.reduceLeDiff, Nat.reduceAdd, Nat.reduceMul, Nat.reduceSub, reduceCtorEq, Int.reduceLT, Int.reduceLE, Int.reduceEq, Int.reduceBEq, Int.reduceBNe, Int.reduceToNat, Int.reduceAdd, Int.reduceNeg, Int.reduceSub, eH, eHc, hc]
    simp only [go_sem, ↓reduceIte, Nat.reduceBEq, Nat.reduceEqDiff, Nat.reduceLT, Nat.reduceLeDiff, Nat.reduceAdd, Nat.reduceMul, Nat.reduceSub, reduceCtorEq, Int.reduceLT, Int.reduceLE, Int.reduceEq, Int.reduceBEq, Int.reduceBNe, Int.reduceToNat, Int.reduceAdd, Int.reduceNeg, Int.reduceSub, x2, vS, eSp]
    skip
end Go.Proofs.Ytaohhjaogjcfoaa
end
