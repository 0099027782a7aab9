/- Parts of the proof, joined: Z-numbers. First, by the program: its loop over a map. Z-numbers. Owed, by the program. Z-numbers. The fewest of some things, as money finds them: sets in the order of their numbers. Z-numbers. Need, by the program, where nothing was paid. Z-numbers. Wait, by the program. Z-numbers. Wrong, by the program. Z-numbers. Wrong, by the program. The drawers of the examples. Conditions: those of each law. -/
import Derived.Test.YtiighcpimecehaaGreatQ11
set_option linter.unusedSimpArgs false
set_option linter.unusedVariables false
section
namespace Go.Proofs.YtiighcpimecehaaGreat
open Go.Proofs

theorem esM_len (m : Mo) (ts : List (List Int)) : (esM m ts).length = ts.length := by simp [esM]
theorem esM_get (m : Mo) (ts : List (List Int)) (i : Nat) : (esM m ts)[i]? = (ts[i]?).map fun t => (.agg (I (arr5 t)), .agg (I (dueL m (arr5 t) m.sums.length))) := by simp [esM]
theorem bestA_len {m : Mo} (ho : m.Ok) {o : Option Nat} (h : ∀ i, o = some i → i < (truthsM m 0).length) : (bestA (truthsM m 0) o).length = 5 := by
  cases o with
  | none => rfl
  | some i =>
    have hi := h i rfl
    have := (truthsM_ok (List.getElem_mem hi)).2
    have := ho.s5
    unfold bestA
    simp only [List.getD_eq_getElem?_getD, List.getElem?_eq_getElem hi, Option.getD_some]
    exact arr5_len (by omega)
theorem dfsM_len {m : Mo} (ho : m.Ok) (came : Nat) : ∀ (n : Nat) (t : List Int), (dfsM m came n t).length ≤ 4 ^ n
  | 0, t => by simp [dfsM]
  | n + 1, t => by
    have ih := dfsM_len ho came n
    have key : ∀ l : List (List Int), (l.flatMap (dfsM m came n)).length ≤ l.length * 4 ^ n := by
      intro l
      induction l with
      | nil => simp
      | cons x l ihl => rw [List.flatMap_cons, List.length_append, List.length_cons, Nat.succ_mul]; have := ih x; omega
    have h1 := key (nextM m came t m.who.length)
    have h2 : (nextM m came t m.who.length).length ≤ 4 := by
      unfold nextM
      rw [List.length_map]
      have := List.length_filter_le (mayM m came t) (List.range m.who.length)
      rw [List.length_range] at this
      have := ho.w4
      omega
    have h3 : (nextM m came t m.who.length).length * 4 ^ n ≤ 4 * 4 ^ n := Nat.mul_le_mul_right _ h2
    show ((nextM m came t m.who.length).flatMap (dfsM m came n)).length ≤ _
    rw [Nat.pow_succ, Nat.mul_comm]
    omega
theorem truthsM_len {m : Mo} (ho : m.Ok) (more : Nat) : (truthsM m more).length ≤ 1024 := by
  have h := dfsM_len ho (cameM m more) m.sums.length []
  have : (4 : Nat) ^ m.sums.length ≤ 4 ^ 5 := Nat.pow_le_pow_right (by omega) ho.s5
  unfold truthsM
  omega
theorem w_map_x {X : Tab} {f : Nat} {rd : Option Nat} {c : Code} {m : Tmp × Tmp × Tmp × Nat × Code} {s : St} {x : Option (AExit × St)} (hx : (EW X).code f rd (.loop c) s = x) (hm : mapLoop c = some m)
    (R : List Nat → St → Prop) (r : AExit × St) (j b n : Nat) (es : List (AV × AV)) (hn : es.length = n)
    (hR : ∀ left s, R left s → getF s.fr m.1 = .ref j 0 ∧ (∃ cur, s.h.b[j]? = some (.mit b n left cur)) ∧ s.h.b[b]? = some (.map es) ∧ left.Nodup ∧ ∀ i ∈ left, i < n)
    (hend : ∀ s, R [] s → r = (.exit m.2.2.2.1, ⟨⟨adel (adel s.fr.g m.2.1) m.2.2.1, []⟩, s.h.put j .none, s.ms⟩))
    (hs : ∀ left s i, R left s → i ∈ left → ∃ x s', (EW X).code f rd m.2.2.2.2 ⟨⟨adel (adel s.fr.g m.2.1) m.2.2.1, []⟩, s.h.put j (.mit b n (left.erase i) (some i)), s.ms⟩ = some (x, s') ∧
      tidy (restr (adel (adel s.fr.g m.2.1) m.2.2.1) s'.fr.g) s.h s.ms s' ∧
      ((x = .normal ∧ R (left.erase i) ⟨⟨restr (adel (adel s.fr.g m.2.1) m.2.2.1) s'.fr.g, []⟩, ⟨s'.h.b.take s.h.b.length, s'.h.t⟩, s.ms⟩) ∨
       (isNormal x = false ∧ (∃ b1 n1 l1 c1, s'.h.b[j]? = some (.mit b1 n1 l1 c1)) ∧ r = (x, ⟨⟨restr (adel (adel s.fr.g m.2.1) m.2.2.1) s'.fr.g, []⟩, ⟨(s'.h.b.take s.h.b.length).set j .none, s'.h.t⟩, s.ms⟩))))
    (left : List Nat) (h0 : R left s) : x = some r := by
  rw [← hx]; exact w_map_rel hm R r j b n es hn hR hend hs left s h0
set_option maxHeartbeats 4000000 in
theorem m11_yes (m : Mo) (hm : m.fits) (he : enterM m 0 [] = 0) (h : Heap) : callPure (EW tabX) 11 [eM m] h = some (.tup [.lst 0 1 (I ((truthsM m 0).headD [])), .int .i64 (truthsM m 0).length, .int .i64 0], h) := by
  have hcl := eM_clean m
  rw [callPure_eq, w_call _ fn_11 rfl]
  obtain ⟨h0, h1, h2⟩ := enterM_zero he
  have ho := (ok_of_checkM h0).1
  obtain ⟨J, t, h46⟩ := enterY m hm 0 (fun _ => by omega) [] 0 (fun h => absurd rfl h) (by simp) he 1
  obtain ⟨E0, hE⟩ : ∃ E0, E0 = EM m (truthsM m 0) J := ⟨_, rfl⟩
  have o0 : ∀ X, (E0 ++ X)[0]? = some (.cells (eMc m)) := fun X => by rw [hE]; rfl
  have o3 : ∀ X, (E0 ++ X)[3]? = some (.map (esM m (truthsM m 0))) := fun X => by rw [hE]; rfl
  have o4 : ∀ X, (E0 ++ X)[4]? = some (.cells (eLc m (cameM m 0) 3 (evL m (truthsM m 0)))) := fun X => by rw [hE]; rfl
  have o0' := o0 []
  have o3' := o3 []
  have o4' := o4 []
  rw [List.append_nil] at o0' o3' o4'
  have hb6 : 6 ≤ E0.length := by rw [hE]; simp [EM]
  rw [← hE] at h46
  clear hE
  have hn : 0 < (truthsM m 0).length := List.length_pos_iff.2 h2
  have hrows := fun (i : Nat) (hi : i < (truthsM m 0).length) => truthsM_ok (List.getElem_mem hi)
  have hcmp := fun (i j : Nat) (hi : i < (truthsM m 0).length) (hj : j < (truthsM m 0).length) => rows_cmp ho (List.getElem?_eq_getElem hi) (List.getElem?_eq_getElem hj)
  generalize hts : truthsM m 0 = ts at *
  have hel := esM_len m ts
  have s5 := ho.s5
  have h3b : 3 < E0.length + 1 := by omega
  have hu0 : 0 < E0.length + 2 := by omega
  have hu1 : E0.length < E0.length + 2 := by omega
  have hu3 : 3 < E0.length + 2 := by omega
  have hu4 : 4 < E0.length + 2 := by omega
  have hu5 : E0.length + 1 < E0.length + 2 := by omega
  have htl : ts.length ≤ 1024 := by rw [← hts]; exact truthsM_len ho 0
  simp only [eM, eMc, I_nil, eLc, List.cons_append, List.nil_append] at h46 hcl o0 o4 o0' o4'
  simp (disch := omega) only [go_sem, ↓reduceIte, simprocAttr, eM, eMc, hcl, h46, o0, o3, o4, o0', o3', o4', hel, h3b]
  generalize hlx : (EW tabX).code 11 none (Code.loop _) _ = x
  obtain ⟨Z0, hZ0⟩ : ∃ Z0, Z0 = List.replicate 13 false := ⟨_, rfl⟩
  have hb0 : ∀ (X : List ABlk), (E0 ++ X)[E0.length]? = X[0]? := fun X => get_at0 _ _
  have hx : x = some (.exit 0, ⟨⟨[(0, .agg [.lst 0 m.zw (S m.who), .lst 0 m.zs (m.sums.map eSu), .lst 0 m.zo (m.words.map eWo), .lst 0 m.zp (m.paid.map ePd)]), (1, .ref 0 0), (2, .lst 1 0 []), (3, .int .i64 ts.length), (4, .int .i64 0), (5, .ref 4 0), (6, .ref E0.length 0), (20, .ref (E0.length + 1) 0)], []⟩, ⟨E0 ++ [.cells (I (arr5 (ts.headD []))), .none], t ++ flZ Z0 ts.length⟩, []⟩) := by
    refine w_map_x hlx rfl (fun left s => ∃ cnt o cur, Vis ts.length left cnt o ∧ s = ⟨⟨[(0, .agg [.lst 0 m.zw (S m.who), .lst 0 m.zs (m.sums.map eSu), .lst 0 m.zo (m.words.map eWo), .lst 0 m.zp (m.paid.map ePd)]), (1, .ref 0 0), (2, .lst 1 0 []), (3, .int .i64 cnt), (4, .int .i64 0), (5, .ref 4 0), (6, .ref E0.length 0), (20, .ref (E0.length + 1) 0)], []⟩, ⟨E0 ++ [.cells (I (bestA ts o)), .mit 3 ts.length left cur], t ++ flZ Z0 cnt⟩, []⟩) _ (E0.length + 1) 3 ts.length (esM m ts) hel ?_ ?_ ?_ (List.range ts.length) ?_
    · rintro left s ⟨cnt, o, cur, hv, rfl⟩
      refine ⟨?_, ⟨cur, ?_⟩, ?_, hv.nd, hv.lt⟩
      · simp only [go_sem, ↓reduceIte, simprocAttr]
      · simp only [go_sem, ↓reduceIte, simprocAttr]
      · simp only [go_sem, ↓reduceIte, simprocAttr, o3]
    · rintro s ⟨cnt, o, cur, hv, rfl⟩
      obtain ⟨rfl, rfl⟩ := hv.all hn
      have hh : ts.getD 0 [] = ts.headD [] := by cases ts <;> rfl
      simp only [go_sem, ↓reduceIte, simprocAttr, bestA, hh]
    · rintro left s i ⟨cnt, o, cur, hv, rfl⟩ hi
      have hi2 := hv.lt i hi
      have hst := hv.step hi
      have hx := List.getElem?_eq_getElem hi2
      have hl5 := arr5_len (t := ts[i]) (by have := (hrows i hi2).2; omega)
      have hesi : (esM m ts)[i]? = some (.agg (I (arr5 ts[i])), .agg (I (dueL m (arr5 ts[i]) m.sums.length))) := by rw [esM_get, hx]; rfl
      have hcnt := hv.len
      have hpos := List.length_pos_of_mem hi
      generalize ts[i] = u at hesi hl5 hx
      have h5 : 5 ≤ (arr5 u).length := by omega
      have hp5 : 0 < (arr5 u).length := by omega
      have htk : (arr5 u).take 5 = arr5 u := List.take_of_length_le (by omega)
      have hsp := fun x0 x1 x2 x3 x4 => splice5 x0 x1 x2 x3 x4 (arr5 u) hl5
      have hbl : (bestA ts o).length = 5 := by
        have := bestA_len ho (o := o) (fun j e => by rw [hts]; exact (hv.so j e).2.1)
        rw [hts] at this; exact this
      have h5b : 5 ≤ (bestA ts o).length := by omega
      have hp5b : 0 < (bestA ts o).length := by omega
      have htkb : (bestA ts o).take 5 = bestA ts o := List.take_of_length_le (by omega)
      have hspb : splice (I (bestA ts o)) 0 (I (arr5 u)) = I (arr5 u) := splice_all _ _ (by rw [I_len, I_len]; omega)
      simp (disch := omega) only [go_sem, ↓reduceIte, simprocAttr, o3, hel, hesi, hp5, hl5, hsp, wrap_i64]
      generalize hcf : okFam _ _ _ = cf
      obtain rfl : cf = true := by rw [← hcf]; kernel_rfl
      generalize List.replicate _ ABlk.none = N
      generalize hZ : List.replicate _ false = Z
      obtain rfl : Z = Z0 := by rw [← hZ, hZ0]; rfl
      have hbu : bestA ts (some i) = arr5 u := by simp [bestA, List.getD_eq_getElem?_getD, hx]
      cases o with
      | none =>
        obtain ⟨rfl, _⟩ := hv.no rfl
        simp (disch := omega) only [go_sem, ↓reduceIte, simprocAttr, cast_zero, h5, htk, hl5, hbl, h5b, hp5, hp5b, hspb, wrap_i64]
        refine ⟨_, _, rfl, tidy_of (B := E0) (C := [_, _]) (C' := [.cells (I (arr5 u)), .mit 3 ts.length (left.erase i) (some i)]) (M := .cells (I (arr5 u)) :: N) ?_ rfl ?_, .inl ⟨rfl, 1, some i, some i, hst, ?_⟩⟩
        · simp (disch := omega) only [go_sem, ↓reduceIte, simprocAttr, hu0, hu1, hu4, hu5]
        · simp (disch := omega) only [go_sem, ↓reduceIte, simprocAttr, ABlk.underB, hu3]
        · simp only [go_sem, ↓reduceIte, simprocAttr, hbu, flZ, cast_one', List.take_length_add_append]
      | some j =>
        obtain ⟨hc0, hj1, hj2, hj3⟩ := hv.so j rfl
        have hne : i ≠ j := fun e => hj2 (e ▸ hi)
        have hxj := List.getElem?_eq_getElem hj1
        have hbj : bestA ts (some j) = arr5 ts[j] := by simp [bestA, List.getD_eq_getElem?_getD, hxj]
        have c1 := hcmp i j hi2 hj1
        have c2 := hcmp j i hj1 hi2
        have hui : ts[i] = u := by rw [List.getElem?_eq_getElem hi2] at hx; exact Option.some.inj hx
        rw [hui] at c1 c2
        have hwc : (IntKind.i64.wrap ((cnt : Int) + 1) == 1) = false := by rw [wrap_i64 (by omega)]; simp; omega
        have hwc2 : ((cnt : Int) + 1 == 1) = false := by simp; omega
        have hl5j := hbl
        rw [hbj] at hbl h5b hp5b htkb hspb ⊢
        have hnab : ¬ arr5 ts[j] = arr5 u := fun e => by
          rw [e] at c1 c2
          rw [c1] at c2
          have : ¬ (i < j ↔ j < i) := by omega
          exact this (by simpa using c2)
        have heq := eqI5 (arr5 ts[j]) (arr5 u) hbl hl5
        rw [decide_eq_false hnab] at heq
        generalize arr5 ts[j] = w at *
        have h47 := m47 (arr5 u) w hl5 hbl (E0.length + 2) E0.length ⟨E0 ++ (.cells (I w) :: .mit 3 ts.length (left.erase i) (some i) :: .cells (I (arr5 u)) :: N), t ++ (flZ Z cnt ++ Z)⟩ (by simp) (by simp)
        by_cases hij : i < j
        · have c3 : cmpL (arr5 u) w < 0 := by rw [decide_eq_true hij] at c1; simpa using c1
          have ho2 : stepO (some j) i = some i := by simp [stepO, hij]
          rw [ho2] at hst
          simp (disch := omega) only [go_sem, ↓reduceIte, simprocAttr, hwc, hwc2, h5, htk, hl5, hbl, h5b, hp5, hp5b, hspb, htkb, aggBin, heq, h47, c3, wrap_i64]
          refine ⟨_, _, rfl, tidy_of (B := E0) (C := [_, _]) (C' := [.cells (I (arr5 u)), .mit 3 ts.length (left.erase i) (some i)]) (M := .cells (I (arr5 u)) :: N) ?_ rfl ?_, .inl ⟨rfl, cnt + 1, some i, some i, hst, ?_⟩⟩
          · simp (disch := omega) only [go_sem, ↓reduceIte, simprocAttr, hu0, hu1, hu4, hu5]
          · simp (disch := omega) only [go_sem, ↓reduceIte, simprocAttr, ABlk.underB, hu3]
          · simp only [go_sem, ↓reduceIte, simprocAttr, hbu, flZ, cast_succ, List.take_length_add_append]
        · have c3 : ¬ cmpL (arr5 u) w < 0 := by rw [decide_eq_false hij] at c1; simpa using c1
          have ho2 : stepO (some j) i = some j := by simp [stepO, hij]
          rw [ho2] at hst
          simp (disch := omega) only [go_sem, ↓reduceIte, simprocAttr, hwc, hwc2, h5, htk, hl5, hbl, h5b, hp5, hp5b, hspb, htkb, aggBin, heq, h47, c3, wrap_i64]
          refine ⟨_, _, rfl, tidy_of (B := E0) (C := [_, _]) (C' := [.cells (I w), .mit 3 ts.length (left.erase i) (some i)]) (M := .cells (I (arr5 u)) :: N) ?_ rfl ?_, .inl ⟨rfl, cnt + 1, some j, some i, hst, ?_⟩⟩
          · simp (disch := omega) only [go_sem, ↓reduceIte, simprocAttr, hu0, hu1, hu4, hu5]
          · simp (disch := omega) only [go_sem, ↓reduceIte, simprocAttr, ABlk.underB, hu3]
          · simp only [go_sem, ↓reduceIte, simprocAttr, hbj, flZ, cast_succ, List.take_length_add_append]
    · exact ⟨0, none, none, Vis.start _, by simp only [bestA, flZ, I_c, I_nil, List.append_nil, cast_zero]⟩
  rw [hx]
  have hhd : ∃ u, ts[0]? = some u ∧ ts.headD [] = u := by
    cases ts with
    | nil => simp at hn
    | cons u l => exact ⟨u, rfl, rfl⟩
  obtain ⟨u, hu, hhd⟩ := hhd
  rw [hhd]
  have hul : u.length = m.sums.length := by
    have := hrows 0 hn
    rw [List.getElem?_eq_getElem hn] at hu
    rw [Option.some.inj hu] at this
    exact this.2
  have hal := arr5_len (t := u) (by omega)
  have h5 : 5 ≤ (arr5 u).length := by omega
  have htk : (arr5 u).take 5 = arr5 u := List.take_of_length_le (by omega)
  have htS : (arr5 u).take m.sums.length = u := by
    unfold arr5; rw [← hul]; exact List.take_left
  have hm1 : (m.sums.length : Int) ≤ 4096 := by omega
  have hp0 : (0 : Int) ≤ m.sums.length := by omega
  have hmin : min 5 m.sums.length = m.sums.length := by omega
  have hfz : frz ⟨E0 ++ [.cells (I (arr5 u)), .none, .cells (I u)], t ++ flZ Z0 ts.length⟩ 6 (.tup [.bsl (E0.length + 2) 0 m.sums.length 1, .int .i64 ts.length, .int .i64 0]) = some (.tup [.lst 0 1 (I u), .int .i64 ts.length, .int .i64 0]) := by
    have h1 := frz_bsl ⟨E0 ++ [.cells (I (arr5 u)), .none, .cells (I u)], t ++ flZ Z0 ts.length⟩ 3 (E0.length + 2) m.sums.length u (by simp) hul.symm
    have e : frz ⟨E0 ++ [.cells (I (arr5 u)), .none, .cells (I u)], t ++ flZ Z0 ts.length⟩ 6 (.tup [.bsl (E0.length + 2) 0 m.sums.length 1, .int .i64 ts.length, .int .i64 0]) = match optL [frz ⟨E0 ++ [.cells (I (arr5 u)), .none, .cells (I u)], t ++ flZ Z0 ts.length⟩ 5 (.bsl (E0.length + 2) 0 m.sums.length 1), frz ⟨E0 ++ [.cells (I (arr5 u)), .none, .cells (I u)], t ++ flZ Z0 ts.length⟩ 5 (.int .i64 ts.length), frz ⟨E0 ++ [.cells (I (arr5 u)), .none, .cells (I u)], t ++ flZ Z0 ts.length⟩ 5 (.int .i64 0)] with
      | some ys => some (.tup ys)
      | none => none := rfl
    rw [e, h1, frz_int, frz_int]; rfl
  have hnu : ¬ (E0.length + 2 < 0) := by omega
  by_cases hz : m.sums.length = 0
  · have hnil : u = [] := List.eq_nil_of_length_eq_zero (by omega)
    subst hnil
    rw [hz] at hfz
    simp only [I_nil] at hfz
    simp (disch := omega) only [go_sem, ↓reduceIte, simprocAttr, o0, opMakeSlice, opCopy, hz, hal, h5, htk, I_nil]
    simp only [go_sem, ↓reduceIte, simprocAttr, hnu, orW_none, hfz]
  · have hpos : 0 < m.sums.length := by omega
    have hsp := splice_all (List.replicate m.sums.length (AV.int .i64 0)) (I u) (by rw [I_len, List.length_replicate]; omega)
    have hrl : (List.replicate m.sums.length (AV.int .i64 0)).length = m.sums.length := List.length_replicate
    simp (disch := omega) only [go_sem, ↓reduceIte, simprocAttr, o0, opMakeSlice, opCopy, hm1, hp0, hal, h5, htk, hmin, htS, hrl, hpos, hsp]
    simp only [go_sem, ↓reduceIte, simprocAttr, hnu, orW_none, hfz]
end Go.Proofs.YtiighcpimecehaaGreat
end
section
namespace Go.Proofs.YtiighcpimecehaaGreat
open Go.Proofs

def isMin (l : List Int) (x : Int) : Prop := x ∈ l ∧ ∀ y ∈ l, x ≤ y
def isMax (l : List Int) (x : Int) : Prop := x ∈ l ∧ ∀ y ∈ l, y ≤ x
def duesM (m : Mo) (c : Int) : List Int := (truthsM m 0).map fun t => dueC m (arr5 t) c m.sums.length
theorem dueL_get (m : Mo) (a : List Int) (k c : Nat) (hc : c < 4) : (I (dueL m a k))[c]? = some (.int .i64 (dueC m a c k)) := by
  have hcc : c = 0 ∨ c = 1 ∨ c = 2 ∨ c = 3 := by omega
  rcases hcc with rfl | rfl | rfl | rfl <;> rfl
structure Spn (n : Nat) (d : Nat → Int) (left : List Nat) (fst : Bool) (lo hi : Int) : Prop where
  nd : left.Nodup
  lt : ∀ i ∈ left, i < n
  no : fst = true → lo = 0 ∧ hi = 0 ∧ ∀ k, k < n → k ∈ left
  so : fst = false → (∃ k, k < n ∧ d k = lo) ∧ (∃ k, k < n ∧ d k = hi) ∧ ∀ k, k < n → k ∉ left → lo ≤ d k ∧ d k ≤ hi
theorem Spn.start (n : Nat) (d : Nat → Int) : Spn n d (List.range n) true 0 0 := ⟨List.nodup_range, fun _ hi => List.mem_range.1 hi, fun _ => ⟨rfl, rfl, fun _ hk => List.mem_range.2 hk⟩, nofun⟩
theorem Spn.one {n : Nat} {d : Nat → Int} {left : List Nat} {lo hi : Int} (h : Spn n d left true lo hi) {i : Nat} (hi' : i ∈ left) : Spn n d (left.erase i) false (d i) (d i) := by
  obtain ⟨_, _, hall⟩ := h.no rfl
  have hl := h.lt i hi'
  refine ⟨h.nd.erase i, fun k hk => h.lt k (List.mem_of_mem_erase hk), nofun, fun _ => ⟨⟨i, hl, rfl⟩, ⟨i, hl, rfl⟩, fun k hk hn => ?_⟩⟩
  rw [h.nd.mem_erase_iff] at hn
  have : k = i := by
    by_cases e : k = i
    · exact e
    · exact absurd ⟨e, hall k hk⟩ hn
  subst this
  omega
theorem Spn.next {n : Nat} {d : Nat → Int} {left : List Nat} {lo hi : Int} (h : Spn n d left false lo hi) {i : Nat} (hi' : i ∈ left) : Spn n d (left.erase i) false (min lo (d i)) (max hi (d i)) := by
  obtain ⟨h1, h2, h3⟩ := h.so rfl
  have hl := h.lt i hi'
  refine ⟨h.nd.erase i, fun k hk => h.lt k (List.mem_of_mem_erase hk), nofun, fun _ => ⟨?_, ?_, fun k hk hn => ?_⟩⟩
  · obtain ⟨k, a, b⟩ := h1
    by_cases e : lo ≤ d i
    · exact ⟨k, a, by omega⟩
    · exact ⟨i, hl, by omega⟩
  · obtain ⟨k, a, b⟩ := h2
    by_cases e : d i ≤ hi
    · exact ⟨k, a, by omega⟩
    · exact ⟨i, hl, by omega⟩
  · rw [h.nd.mem_erase_iff] at hn
    by_cases e : k = i
    · subst e; omega
    · have := h3 k hk (fun hm => hn ⟨e, hm⟩)
      omega
theorem tidy_mid {g : Slots} {B E C C' M : List ABlk} {x x' : ABlk} {t t' : List Bool} {ms : List Nat} {fr : Frm} (hg : (g.all fun p => p.2.under (B.length + (1 + (E.length + C.length)))) = true) (hl : C'.length = C.length)
    (hx : x'.underB (B.length + (1 + (E.length + C.length))) = true) (hC : (C'.all fun x => x.underB (B.length + (1 + (E.length + C.length)))) = true) : tidy g ⟨B ++ (x :: (E ++ C)), t⟩ ms ⟨fr, ⟨B ++ (x' :: (E ++ (C' ++ M))), t'⟩, ms⟩ := by
  have hlen : (B ++ (x :: (E ++ C))).length = B.length + (1 + (E.length + C.length)) := by simp; omega
  refine ⟨by show (g.all fun p => p.2.under (B ++ (x :: (E ++ C))).length) = true; rw [hlen]; exact hg, fun i y hi hy => ?_, rfl⟩
  have hi : i < (B ++ (x :: (E ++ C))).length := hi
  have hy : (B ++ (x' :: (E ++ (C' ++ M))))[i]? = some y := hy
  show (B ++ (x :: (E ++ C)))[i]? = some y ∨ y.underB (B ++ (x :: (E ++ C))).length = true
  rw [hlen] at hi ⊢
  by_cases h1 : i < B.length
  · left
    rw [List.getElem?_append_left h1] at hy ⊢; exact hy
  · rw [List.getElem?_append_right (by omega)] at hy ⊢
    obtain ⟨k, hk⟩ : ∃ k, i - B.length = k := ⟨_, rfl⟩
    rw [hk] at hy ⊢
    cases k with
    | zero =>
      right
      cases hy
      exact hx
    | succ k =>
      rw [List.getElem?_cons_succ] at hy ⊢
      by_cases h2 : k < E.length
      · left
        rw [List.getElem?_append_left h2] at hy ⊢; exact hy
      · right
        rw [List.getElem?_append_right (by omega), List.getElem?_append_left (by omega)] at hy
        exact List.all_eq_true.1 hC y (List.mem_of_getElem? hy)
set_option maxHeartbeats 4000000 in
theorem m22 (m : Mo) (hm : m.fits) (c : Nat) (he : enterM m m.who.length [(c : Int)] = 0) (lo hi : Int) (hlo : isMin (duesM m c) lo) (hhi : isMax (duesM m c) hi) (h : Heap) : callPure (EW tabX) 22 [eM m, .int .i64 c] h = some (.tup [.agg [.int .i64 lo, .int .i64 hi], .int .i64 0], h) := by
  have hcl := eM_clean m
  rw [callPure_eq, w_call _ fn_22 rfl]
  obtain ⟨h0, h1, h2⟩ := enterM_zero he
  have ho := (ok_of_checkM h0).1
  simp only [List.any_cons, List.any_nil, Bool.or_false] at h1
  have hr := out_false h1
  have w4 := ho.w4
  have hc : c < 4 := by omega
  obtain ⟨J, t, h46o⟩ := m46_yes m hm m.who.length many_ok' [(c : Int)] 1 (fun _ => rfl) (by simp) he ⟨[.cells (eMc m), .cells [.int .i64 0, .int .i64 0]], []⟩ 1
  obtain ⟨E0, hE⟩ : ∃ E0, E0 = ABlk.cells (eMc m) :: .cells (eMc m) :: .map (esM m (truthsM m 0)) :: .cells (eLc m (cameM m 0) 4 (evL m (truthsM m 0))) :: .cells [.ref 5 0] :: J := ⟨_, rfl⟩
  have h46 : (EW tabX).call 46 [eM m, .int .i64 m.who.length, .lst 1 1 (I [(c : Int)])] ⟨[.cells (eMc m), .cells [.int .i64 0, .int .i64 0]], []⟩ = some (.tup [.ref 5 0, .int .i64 0], ⟨.cells (eMc m) :: .cells [.int .i64 0, .int .i64 0] :: E0, t⟩) := by rw [hE]; exact h46o
  have o3 : ∀ X, (E0 ++ X)[2]? = some (.map (esM m (truthsM m 0))) := fun X => by rw [hE]; rfl
  have o4 : ∀ X, (E0 ++ X)[3]? = some (.cells (eLc m (cameM m 0) 4 (evL m (truthsM m 0)))) := fun X => by rw [hE]; rfl
  have o3' := o3 []
  have o4' := o4 []
  rw [List.append_nil] at o3' o4'
  have hb6 : 5 ≤ E0.length := by rw [hE]; simp
  clear hE h46o
  have hn : 0 < (truthsM m 0).length := List.length_pos_iff.2 h2
  have hel := esM_len m (truthsM m 0)
  have hbd := fun (t : List Int) => dueC_bd ho (arr5 t) c m.sums.length
  unfold duesM at hlo hhi
  generalize hts : truthsM m 0 = ts at *
  have s5 := ho.s5
  have h3b : 4 < E0.length + 3 := by omega
  simp only [eM, eMc, eLc, I_c, I_nil, List.cons_append, List.nil_append] at h46 hcl o4 o4'
  simp (disch := omega) only [go_sem, ↓reduceIte, simprocAttr, eM, eMc, hcl, h46, o3, o4, o3', o4', hel, h3b]
  have hu0 : 0 < 1 + (1 + (E0.length + 1)) := by omega
  have hu1 : 1 < 1 + (1 + (E0.length + 1)) := by omega
  have hu2 : 5 < 1 + (1 + (E0.length + 1)) := by omega
  have hu3 : E0.length + 1 + 1 < 1 + (1 + (E0.length + 1)) := by omega
  have hu4 : 4 < 1 + (1 + (E0.length + 1)) := by omega
  have ht3 : ∀ (a b e f : ABlk), List.take (E0.length + 1 + 1 + 1) (a :: b :: (E0 ++ [e, f])) = a :: b :: (E0 ++ [e]) := fun a b e f => by
    rw [List.take_succ_cons, List.take_succ_cons, show E0 ++ [e, f] = (E0 ++ [e]) ++ [f] by simp, List.take_left' (by simp)]
  generalize hlx : (EW tabX).code 22 none (Code.loop _) _ = x
  obtain ⟨gM, hgM⟩ : ∃ gM, gM = AV.agg [.lst 0 m.zw (S m.who), .lst 0 m.zs (m.sums.map eSu), .lst 0 m.zo (m.words.map eWo), .lst 0 m.zp (m.paid.map ePd)] := ⟨_, rfl⟩
  obtain ⟨d, hd⟩ : ∃ d : Nat → Int, d = fun i => dueC m (arr5 (ts.getD i [])) c m.sums.length := ⟨_, rfl⟩
  have hdbd : ∀ i, 0 ≤ d i ∧ d i ≤ 495 := fun i => by
    have := hbd (ts.getD i [])
    rw [hd]; simp only; omega
  have hdat : ∀ i t, ts[i]? = some t → dueC m (arr5 t) c m.sums.length = d i := fun i t h => by rw [hd]; simp only [List.getD_eq_getElem?_getD, h, Option.getD_some]
  have hmem : ∀ y, y ∈ ts.map (fun t => dueC m (arr5 t) c m.sums.length) ↔ ∃ i, i < ts.length ∧ d i = y := fun y => by
    rw [List.mem_map]
    constructor
    · rintro ⟨t, ht, rfl⟩
      obtain ⟨i, hi, rfl⟩ := List.mem_iff_getElem.1 ht
      exact ⟨i, hi, (hdat i _ (List.getElem?_eq_getElem hi)).symm⟩
    · rintro ⟨i, hi, rfl⟩
      exact ⟨_, List.getElem_mem hi, hdat i _ (List.getElem?_eq_getElem hi)⟩
  have hx : x = some (.exit 0, ⟨⟨[(0, gM), (1, .int .i64 c), (2, .ref 0 0), (4, .ref 1 0), (5, .int .i64 0), (6, .ref 5 0), (7, .bool false), (29, .ref (E0.length + 1 + 1) 0)], []⟩,
      ⟨.cells [.lst 0 m.zw (S m.who), .lst 0 m.zs (m.sums.map eSu), .lst 0 m.zo (m.words.map eWo), .lst 0 m.zp (m.paid.map ePd)] :: .cells [.int .i64 lo, .int .i64 hi] :: (E0 ++ [.none]), t⟩, []⟩) := by
    refine w_map_x hlx rfl (fun left s => ∃ fst l u cur, Spn ts.length d left fst l u ∧ s = ⟨⟨[(0, gM), (1, .int .i64 c), (2, .ref 0 0), (4, .ref 1 0), (5, .int .i64 0), (6, .ref 5 0), (7, .bool fst), (29, .ref (E0.length + 1 + 1) 0)], []⟩,
      ⟨.cells [.lst 0 m.zw (S m.who), .lst 0 m.zs (m.sums.map eSu), .lst 0 m.zo (m.words.map eWo), .lst 0 m.zp (m.paid.map ePd)] :: .cells [.int .i64 l, .int .i64 u] :: (E0 ++ [.mit 4 ts.length left cur]), t⟩, []⟩) _ (E0.length + 1 + 1) 4 ts.length (esM m ts) hel ?_ ?_ ?_ (List.range ts.length) ?_
    · rintro left s ⟨fst, l, u, cur, hv, rfl⟩
      refine ⟨?_, ⟨cur, ?_⟩, ?_, hv.nd, hv.lt⟩
      · simp only [go_sem, ↓reduceIte, simprocAttr]
      · simp only [go_sem, ↓reduceIte, simprocAttr]
      · simp only [go_sem, ↓reduceIte, simprocAttr, o3]
    · rintro s ⟨fst, l, u, cur, hv, rfl⟩
      cases fst with
      | true => have := (hv.no rfl).2.2 0 hn; cases this
      | false =>
        obtain ⟨h1, h2, h3⟩ := hv.so rfl
        have e1 : l = lo := by
          obtain ⟨k, hk, e⟩ := h1
          obtain ⟨j, hj, e2⟩ := (hmem lo).1 hlo.1
          have a := h3 j hj (by simp)
          have b := hlo.2 (d k) ((hmem _).2 ⟨k, hk, rfl⟩)
          omega
        have e2 : u = hi := by
          obtain ⟨k, hk, e⟩ := h2
          obtain ⟨j, hj, e2⟩ := (hmem hi).1 hhi.1
          have a := h3 j hj (by simp)
          have b := hhi.2 (d k) ((hmem _).2 ⟨k, hk, rfl⟩)
          omega
        subst e1 e2
        simp only [go_sem, ↓reduceIte, simprocAttr]
    · rintro left s i ⟨fst, l, u, cur, hv, rfl⟩ hi
      have hi2 := hv.lt i hi
      have hx := List.getElem?_eq_getElem hi2
      have hdi := hdat i _ hx
      have hbi := hdbd i
      have hesi : (esM m ts)[i]? = some (.agg (I (arr5 ts[i])), .agg (I (dueL m (arr5 ts[i]) m.sums.length))) := by rw [esM_get, hx]; rfl
      have hdg := dueL_get m (arr5 ts[i]) m.sums.length c hc
      rw [hdi] at hdg
      have hdg : ((I (dueL m (arr5 ts[i]) m.sums.length)).drop c)[0]? = some (.int .i64 (d i)) := by rw [List.getElem?_drop]; exact hdg
      have hdl : (I (dueL m (arr5 ts[i]) m.sums.length)).length = 4 := by rw [I_len]; rfl
      have hDo := I_one (dueL m (arr5 ts[i]) m.sums.length)
      have hDu := fun n => I_under n (dueL m (arr5 ts[i]) m.sums.length)
      have hDs := fun x0 x1 x2 x3 => splice4 x0 x1 x2 x3 (dueL m (arr5 ts[i]) m.sums.length) rfl
      generalize I (dueL m (arr5 ts[i]) m.sums.length) = D at hesi hdg hdl hDo hDu hDs
      generalize ts[i] = tt at hesi
      generalize hdd : d i = di at *
      cases fst with
      | true =>
        obtain ⟨rfl, rfl, _⟩ := hv.no rfl
        have hv1 := hv.one hi
        rw [hdd] at hv1
        simp (disch := omega) only [go_sem, ↓reduceIte, simprocAttr, o3, hel, hesi, hdg, hdl, hDo, hDu, hDs, hc, Nat.mul_one]
        refine ⟨_, _, rfl, tidy_mid (B := [_]) (E := E0) (C := [_]) (C' := [.mit 4 ts.length (left.erase i) (some i)]) (M := [.cells D]) ?_ rfl ?_ ?_, .inl ⟨rfl, false, _, _, some i, hv1, ?_⟩⟩
        · rw [hgM]
          simp (disch := omega) only [go_sem, ↓reduceIte, simprocAttr, hu0, hu1, hu2, hu3]
        · simp only [go_sem, ↓reduceIte, simprocAttr, ABlk.underB]
        · simp (disch := omega) only [go_sem, ↓reduceIte, simprocAttr, ABlk.underB, hu4]
        · simp only [go_sem, ↓reduceIte, simprocAttr, ht3]
      | false =>
        have hv1 := hv.next hi
        rw [hdd] at hv1
        simp (disch := omega) only [go_sem, ↓reduceIte, simprocAttr, o3, hel, hesi, hdg, hdl, hDo, hDu, hDs, hc, Nat.mul_one]
        have hlt1 : (if di < l then di else l) = min l di := by omega
        have hlt2 : (if u < di then di else u) = max u di := by omega
        rw [hlt1, hlt2]
        refine ⟨_, _, rfl, tidy_mid (B := [_]) (E := E0) (C := [_]) (C' := [.mit 4 ts.length (left.erase i) (some i)]) (M := [.cells D]) ?_ rfl ?_ ?_, .inl ⟨rfl, false, _, _, some i, hv1, ?_⟩⟩
        · rw [hgM]
          simp (disch := omega) only [go_sem, ↓reduceIte, simprocAttr, hu0, hu1, hu2, hu3]
        · simp only [go_sem, ↓reduceIte, simprocAttr, ABlk.underB]
        · simp (disch := omega) only [go_sem, ↓reduceIte, simprocAttr, ABlk.underB, hu4]
        · simp only [go_sem, ↓reduceIte, simprocAttr, ht3]
    · exact ⟨true, 0, 0, none, Spn.start _ _, by rw [hgM]⟩
  rw [hx]
  simp (disch := omega) only [go_sem, ↓reduceIte, simprocAttr]
  done
end Go.Proofs.YtiighcpimecehaaGreat
end
section
namespace Go.Proofs.YtiighcpimecehaaGreat
open Go.Proofs

def skipW (w b : List Int) : Bool := decide ((w.length : Int) > b.length) || (decide ((w.length : Int) = b.length) && decide (cmpL w b > 0))
def stepW (P : Nat → Bool) (n : Nat) (st : Option Nat) (s : Nat) : Option Nat := match st with
  | some t => if skipW (bitsL s n) (bitsL t n) = true then some t else if P s = true then some s else some t
  | none => if P s = true then some s else none
def bestW (P : Nat → Bool) (n : Nat) : Nat → Option Nat
  | 0 => none
  | k + 1 => stepW P n (bestW P n k) k
theorem shl_six {i : Nat} (hi : i ≤ 6) : IntKind.i64.wrap (1 * 2 ^ min i 64) = ((2 ^ i : Nat) : Int) := by
  match i, hi with
  | 0, _ => rfl
  | 1, _ => rfl
  | 2, _ => rfl
  | 3, _ => rfl
  | 4, _ => rfl
  | 5, _ => rfl
  | 6, _ => rfl
theorem bitsL_le (s n : Nat) : (bitsL s n).length ≤ n := by
  unfold bitsL
  rw [List.length_map]
  have := List.length_filter_le (fun i => s.testBit i) (List.range n)
  simpa using this
def bv (n : Nat) : Option Nat → AV
  | none => .lst 1 0 []
  | some s => vI (bitsL s n)
theorem bv_none (n : Nat) : bv n none = .lst 1 0 [] := rfl
theorem bv_some (n s : Nat) : bv n (some s) = vI (bitsL s n) := rfl
set_option maxHeartbeats 1000000 in
theorem m83 (n : Nat) (hn : n ≤ 6) (f : Nat) (cap : List AV) (P : Nat → Bool) (B : List ABlk) (hcap : cleanL cap = none) (hrr : retRef tabX f = false) (ho : tabX.orc f = none) (tb : List Bool)
    (hp : ∀ (w : Nat) (tb : List Bool), w < 64 → ∃ F, (EW tabX).call f (.int .i64 (w : Int) :: cap) ⟨B, tb⟩ = some (.bool (P w), ⟨B, tb ++ F⟩)) :
    ∃ F, (EW tabX).call 83 [.int .i64 (n : Int), .clo f [] cap] ⟨B, tb⟩ = some (.tup [bv n (bestW P n (2 ^ n)), .bool (bestW P n (2 ^ n)).isSome], ⟨B, tb ++ F⟩) := by
  have hsh := shl_six hn
  have h2n : 2 ^ n ≤ 64 := Nat.pow_le_pow_right (by omega) hn
  rw [w_call _ fn_83 rfl]
  simp only [go_sem, ↓reduceIte, simprocAttr, hsh]
  generalize hx : (EW tabX).code 83 none (Code.loop _) _ = x
  refine w_rounds_sk hx (fun k (_ : List Bool) => [(4, bv n (bestW P n k)), (5, .bool (bestW P n k).isSome), (10, .int .i64 (k : Int))]) (fun q => ⟨B, tb ++ q⟩) (fun _ _ => True) (2 ^ n) (.exit 0)
    (fun _ => [(4, bv n (bestW P n (2 ^ n))), (5, .bool (bestW P n (2 ^ n)).isSome), (10, .int .i64 ((2 ^ n : Nat) : Int))]) rfl [] ?_ ?_ trivial ?_ ?_ ?_
  · simp only [go_sem, ↓reduceIte, simprocAttr, bestW, bv, Option.isSome_none]
  · simp only [List.append_nil]
  · intro k F hk _
    have hki : (k : Int) < ((2 ^ n : Nat) : Int) := by omega
    have hwk : IntKind.i64.wrap ((k : Int) + 1) = (k : Int) + 1 := wrap_i64 (by omega)
    have h84 := m52 k n (by omega) hn
    obtain ⟨F1, h1⟩ := hp k (tb ++ F) (by omega)
    simp only [go_sem, ↓reduceIte, simprocAttr] at h1
    rw [show bestW P n (k + 1) = stepW P n (bestW P n k) k from rfl]
    cases hb : bestW P n k with
    | none =>
      refine ⟨F ++ F1, ?_, trivial⟩
      cases hpk : P k with
      | true =>
        rw [hpk] at h1
        simp only [go_sem, ↓reduceIte, simprocAttr, stepW, hpk, bv_none, bv_some, Option.isSome_none, Option.isSome_some, hki, h84, hcap, hrr, ho, h1, hwk, vI]
        done
      | false =>
        rw [hpk] at h1
        simp only [go_sem, ↓reduceIte, simprocAttr, stepW, hpk, bv_none, bv_some, Option.isSome_none, Option.isSome_some, hki, h84, hcap, hrr, ho, h1, hwk, vI]
        done
    | some t =>
      have h85 := c64 (bitsL k n) (bitsL t n) (zT 1 (bitsL k n).length) (zT 1 (bitsL t n).length) (fun h => zT_pos (List.length_pos_iff.2 h)) (fun h => zT_pos (List.length_pos_iff.2 h)) (by have := bitsL_le k n; omega) (by have := bitsL_le t n; omega)
      by_cases g1 : ((bitsL k n).length : Int) > (bitsL t n).length
      · refine ⟨F, ?_, trivial⟩
        have hsk : skipW (bitsL k n) (bitsL t n) = true := by unfold skipW; simp only [g1, decide_true, Bool.true_or]
        simp only [go_sem, ↓reduceIte, simprocAttr, stepW, hsk, bv_none, bv_some, Option.isSome_none, Option.isSome_some, hki, h84, hwk, vI, g1]
        done
      · by_cases g2 : ((bitsL k n).length : Int) = (bitsL t n).length
        · have g2b : (((bitsL k n).length : Int) == (bitsL t n).length) = true := by simpa using g2
          by_cases g3 : cmpL (bitsL k n) (bitsL t n) > 0
          · refine ⟨F, ?_, trivial⟩
            have hsk : skipW (bitsL k n) (bitsL t n) = true := by unfold skipW; rw [decide_eq_true g2, decide_eq_true g3]; simp
            simp only [go_sem, ↓reduceIte, simprocAttr, stepW, hsk, bv_none, bv_some, Option.isSome_none, Option.isSome_some, hki, h84, h85, hwk, vI, g1, g2b, g3]
            done
          · have hsk : skipW (bitsL k n) (bitsL t n) = false := by unfold skipW; rw [decide_eq_false g1, decide_eq_false g3]; simp
            refine ⟨F ++ F1, ?_, trivial⟩
            cases hpk : P k with
            | true =>
              rw [hpk] at h1
              simp only [go_sem, ↓reduceIte, simprocAttr, stepW, hsk, hpk, bv_none, bv_some, Option.isSome_none, Option.isSome_some, hki, h84, h85, hcap, hrr, ho, h1, hwk, vI, g1, g2b, g3]
              done
            | false =>
              rw [hpk] at h1
              simp only [go_sem, ↓reduceIte, simprocAttr, stepW, hsk, hpk, bv_none, bv_some, Option.isSome_none, Option.isSome_some, hki, h84, h85, hcap, hrr, ho, h1, hwk, vI, g1, g2b, g3]
              done
        · have g2b : (((bitsL k n).length : Int) == (bitsL t n).length) = false := by simpa using g2
          have hsk : skipW (bitsL k n) (bitsL t n) = false := by unfold skipW; rw [decide_eq_false g1, decide_eq_false g2]; simp
          refine ⟨F ++ F1, ?_, trivial⟩
          cases hpk : P k with
          | true =>
            rw [hpk] at h1
            simp only [go_sem, ↓reduceIte, simprocAttr, stepW, hsk, hpk, bv_none, bv_some, Option.isSome_none, Option.isSome_some, hki, h84, h85, hcap, hrr, ho, h1, hwk, vI, g1, g2b]
            done
          | false =>
            rw [hpk] at h1
            simp only [go_sem, ↓reduceIte, simprocAttr, stepW, hsk, hpk, bv_none, bv_some, Option.isSome_none, Option.isSome_some, hki, h84, h85, hcap, hrr, ho, h1, hwk, vI, g1, g2b]
            done
  · intro q _
    simp only [go_sem, ↓reduceIte, simprocAttr, Int.lt_irrefl]
  · intro q h1 _
    subst h1
    refine ⟨q, ?_⟩
    cases hb : bestW P n (2 ^ n) with
    | none => simp only [go_sem, ↓reduceIte, simprocAttr, bv_none, Option.isSome_none]
    | some t => simp only [go_sem, ↓reduceIte, simprocAttr, bv_some, Option.isSome_some, vI]
end Go.Proofs.YtiighcpimecehaaGreat
end
section
namespace Go.Proofs.YtiighcpimecehaaGreat
open Go.Proofs

def needA (m : Mo) : Nat → Int
  | 0 => 0
  | k + 1 => needA m k + penceAt m k
def needS (m : Mo) : Nat → Int
  | 0 => 0
  | k + 1 => needS m k + (if sureB (evN (truthsM m 0) k) = true then penceAt m k else 0)
theorem need_bd {m : Mo} (ho : m.Ok) : ∀ k : Nat, (0 ≤ needA m k ∧ needA m k ≤ 99 * k) ∧ 0 ≤ needS m k ∧ needS m k ≤ 99 * k
  | 0 => by simp [needA, needS]
  | k + 1 => by
    have := need_bd ho k
    have := pence_bd ho k
    unfold needA needS
    split <;> omega
theorem m112_nil (f b : Nat) (t z : Nat) (h : Heap) : (EW tabX).call 112 [.lst t z [], .clo f [] [.ref b 0]] h = some (.int .i64 (-1), h) := by
  obtain ⟨B, ht⟩ := h
  rw [w_call _ fn_112 rfl]
  simp only [go_sem, ↓reduceIte, simprocAttr]
  rw [w_rounds_u (fun k => [(8, .int .i64 k)]) 0 (.exit 0) [(8, .int .i64 0)] ?_ ?_ ?_ rfl]
  · simp only [go_sem, ↓reduceIte, simprocAttr]
  · simp only [go_sem, ↓reduceIte, simprocAttr]
  · intro k hk; omega
  · simp only [go_sem, ↓reduceIte, simprocAttr]
theorem m86_nil (f b : Nat) (t z : Nat) (h : Heap) : (EW tabX).call 86 [.lst t z [], .clo f [] [.ref b 0]] h = some (.bool false, h) := by
  obtain ⟨B, ht⟩ := h
  have h112 := m112_nil f b
  rw [w_call _ fn_86 rfl]
  simp only [go_sem, ↓reduceIte, simprocAttr, h112]
set_option maxHeartbeats 1000000 in
theorem m39 (m : Mo) (hm : m.fits) (he : enterM m 0 [] = 0) (hp : m.paid = []) (h : Heap) : callPure (EW tabX) 39 [eM m] h = some (.tup [.int .i64 (needS m m.sums.length), .int .i64 (needA m m.sums.length), .int .i64 0], h) := by
  have hcl := eM_clean m
  rw [callPure_eq, w_call _ fn_39 rfl]
  obtain ⟨h0, h1, h2⟩ := enterM_zero he
  have ho := (ok_of_checkM h0).1
  obtain ⟨J, t, h46⟩ := enterY m hm 0 (fun _ => by omega) [] 0 (fun h => absurd rfl h) (by simp) he 1
  have h51 := fun (B : List ABlk) (t : List Bool) (k : Nat) (hk : k < m.sums.length) (hB : B[4]? = some (.cells (eLc m (cameM m 0) 3 (evL m (truthsM m 0))))) => m51 m (cameM m 0) 3 (evL m (truthsM m 0)) (evL_len _ _) 4 k (by have := ho.s5; omega) (evN (truthsM m 0) k) (ev_lt ho 0 k) (evL_get ho hk) ⟨B, t⟩ hB
  obtain ⟨E0, hE⟩ : ∃ E0, E0 = EM m (truthsM m 0) J := ⟨_, rfl⟩
  have o0 : ∀ X, (E0 ++ X)[0]? = some (.cells (eMc m)) := fun X => by rw [hE]; rfl
  have o4 : ∀ X, (E0 ++ X)[4]? = some (.cells (eLc m (cameM m 0) 3 (evL m (truthsM m 0)))) := fun X => by rw [hE]; rfl
  have o0' := o0 []
  have o4' := o4 []
  rw [List.append_nil] at o0' o4'
  rw [← hE] at h46
  clear hE
  have s5 := ho.s5
  simp only [eM, eMc, I_nil, hp, List.map_nil] at h46 hcl o0 o0'
  simp (disch := omega) only [go_sem, ↓reduceIte, simprocAttr, eM, eMc, hcl, h46, o0, o0', hp]
  generalize hx : (EW tabX).code 39 none (Code.loop _) _ = x
  refine w_rounds_sk hx (fun k (_ : List ABlk × List Bool) => [(2, .int .i64 (needS m k)), (3, .int .i64 (needA m k)), (19, .int .i64 (k : Int))]) (fun q => ⟨E0 ++ q.1, t ++ q.2⟩) (fun _ _ => True) m.sums.length (.exit 0)
    (fun _ => [(2, .int .i64 (needS m m.sums.length)), (3, .int .i64 (needA m m.sums.length)), (19, .int .i64 (m.sums.length : Int))]) rfl ([], []) ?_ ?_ trivial ?_ ?_ ?_
  · simp only [go_sem, ↓reduceIte, simprocAttr, needS, needA]
  · simp only [List.append_nil]
  · rintro k ⟨B, F⟩ hk _
    have hki : (k : Int) < m.sums.length := by omega
    have hx := List.getElem?_eq_getElem hk
    have hz1 : m.zs = 3 := hm.zs (by intro e; rw [e] at hk; simp at hk)
    have hbd := need_bd ho k
    have hpb := pence_bd ho k
    have hpa : penceAt m k = (m.sums[k]).pence := by unfold penceAt; rw [hx]
    have hS : needS m (k + 1) = needS m k + (if sureB (evN (truthsM m 0) k) = true then penceAt m k else 0) := rfl
    have hA : needA m (k + 1) = needA m k + penceAt m k := rfl
    have h86 := m86_nil 87
    have h51 := fun X t => h51 (E0 ++ X) t k hk (o4 X)
    rw [hpa] at hS hA hpb
    generalize needS m (k + 1) = S1 at hS ⊢
    generalize needA m (k + 1) = A1 at hA ⊢
    generalize needS m k = S0 at hS hbd ⊢
    generalize needA m k = A0 at hA hbd ⊢
    generalize m.sums[k] = w at hx hS hA hpb
    cases hsu : sureB (evN (truthsM m 0) k) with
    | true =>
      rw [hsu] at h51
      rw [hsu, if_pos rfl] at hS
      subst hS hA
      refine ⟨(B ++ [.cells [.int .i64 k], bSu w], F), ?_, trivial⟩
      simp (disch := omega) only [go_sem, ↓reduceIte, simprocAttr, hki, hz1, eSu_get, hx, eSu, bSu, o0, o4, hp, h86, h51, wrap_i64]
      done
    | false =>
      rw [hsu] at h51
      rw [hsu, if_neg (by decide), Int.add_zero] at hS
      subst hS hA
      refine ⟨(B ++ [.cells [.int .i64 k], bSu w], F), ?_, trivial⟩
      simp (disch := omega) only [go_sem, ↓reduceIte, simprocAttr, hki, hz1, eSu_get, hx, eSu, bSu, o0, o4, hp, h86, h51, wrap_i64]
      done
  · intro q _
    simp only [go_sem, ↓reduceIte, simprocAttr, Int.lt_irrefl]
  · rintro ⟨B, F⟩ h1 _
    subst h1
    simp (disch := omega) only [go_sem, ↓reduceIte, simprocAttr, o0]
    done
end Go.Proofs.YtiighcpimecehaaGreat
end
section
namespace Go.Proofs.YtiighcpimecehaaGreat
open Go.Proofs

def waitB (m : Mo) (w : Nat) : Bool := if (IntKind.i64.wrap ((BitVec.ofInt 64 (w : Int) &&& BitVec.ofInt 64 ((cameM m 0 : Nat) : Int)).toNat : Nat) != 0) = true then false else decide (0 < (truthsM m w).length) && decide (heldK (evN (truthsM m w)) m.sums.length = [])
set_option maxHeartbeats 1000000 in
theorem m84 (m : Mo) (hm : m.fits) (ho : m.Ok) (B : List ABlk) (q : Nat) (r i : Nat) (hr : B[r]? = some (.cells [.ref i 0])) (hi : B[i]? = some (.cells (eLc m (cameM m 0) q (evL m (truthsM m 0))))) (h0 : B[0]? = some (.cells (eMc m)))
    (w : Nat) (hw : w < 64) (tb : List Bool) : ∃ F, (EW tabX).call 84 [.int .i64 (w : Int), .ref r 0, .ref 0 0] ⟨B, tb⟩ = some (.bool (waitB m w), ⟨B, tb ++ F⟩) := by
  obtain ⟨J, F, h85⟩ := m85 m hm ho w hw ⟨B, tb⟩
  have h82 := m82 m ho (cameM m w) (B.length + 1) (evL m (truthsM m w)) (evL_len _ _) (evN (truthsM m w)) (fun k hk => ⟨evL_get ho hk, ev_lt ho w k⟩) (B.length + 2) (PM m (cameM m w) B J (truthsM m w)) (tb ++ F) (by simp [PM])
  have hd : dfsM m (cameM m w) m.sums.length [] = truthsM m w := rfl
  have hel := esM_len m (truthsM m w)
  rw [hd] at h85
  rw [w_call _ fn_84 rfl]
  have hw : waitB m w = if (IntKind.i64.wrap ((BitVec.ofInt 64 (w : Int) &&& BitVec.ofInt 64 ((cameM m 0 : Nat) : Int)).toNat : Nat) != 0) = true then false else decide (0 < (truthsM m w).length) && decide (heldK (evN (truthsM m w)) m.sums.length = []) := rfl
  generalize waitB m w = wb at hw ⊢
  generalize truthsM m w = ts at *
  generalize heldK (evN ts) m.sums.length = hk at *
  simp (disch := omega) only [go_sem, ↓reduceIte, simprocAttr, hr, hi, h0, eLc, eMc]
  generalize hcb : (IntKind.i64.wrap _ != 0) = cb
  have hw : wb = if cb = true then false else decide (0 < ts.length) && decide (hk = []) := by rw [hw, ← hcb]; rfl
  cases cb with
  | true =>
    refine ⟨[], ?_⟩
    simp (disch := omega) only [go_sem, ↓reduceIte, simprocAttr, hw]
  | false =>
    rw [if_neg (by decide)] at hw
    have h46 := h85
    simp only [eM, eMc, PM, eLc, I_c, I_nil, List.cons_append, List.nil_append, List.append_assoc] at h85 h82
    cases ts with
    | nil =>
      refine ⟨F, ?_⟩
      simp (disch := omega) only [go_sem, ↓reduceIte, simprocAttr, hw, h85, hel, List.length_nil, esM]
      done
    | cons t0 ts =>
      cases hk with
      | nil =>
        refine ⟨F, ?_⟩
        have hpos : (0 : Int) < ts.length + 1 := by omega
        simp (disch := omega) only [go_sem, ↓reduceIte, simprocAttr, hw, h85, hel, h82, ownT, hpos, Nat.zero_lt_succ]
        done
      | cons x l =>
        have hpos : (0 : Int) < ts.length + 1 := by omega
        have hne : ¬ x :: l = [] := by simp
        have hz : (((l.length : Int) + 1) == 0) = false := by simp; omega
        simp (disch := omega) only [go_sem, ↓reduceIte, simprocAttr, hw, h85, hel, h82, ownT, hpos, Nat.zero_lt_succ, hne, hz]
        exact ⟨F ++ (List.replicate l.length false ++ [true]), by simp only [T, List.append_assoc]⟩
def waitV (m : Mo) : AV := match bestW (waitB m) m.words.length (2 ^ m.words.length) with
  | none => .tup [vI [], .int .i64 9]
  | some s => .tup [vI (bitsL s m.words.length), .int .i64 0]
theorem m38 (m : Mo) (hm : m.fits) (he : enterM m 0 [] = 0) (h : Heap) : callPure (EW tabX) 38 [eM m] h = some (waitV m, h) := by
  have hcl := eM_clean m
  rw [callPure_eq, w_call _ fn_38 rfl]
  obtain ⟨h0, h1, h2⟩ := enterM_zero he
  have ho := (ok_of_checkM h0).1
  obtain ⟨J, t, h46⟩ := enterY m hm 0 (fun _ => by omega) [] 0 (fun h => absurd rfl h) (by simp) he 1
  obtain ⟨E0, hE⟩ : ∃ E0, E0 = EM m (truthsM m 0) J := ⟨_, rfl⟩
  have o0 : ∀ X, (E0 ++ X)[0]? = some (.cells (eMc m)) := fun X => by rw [hE]; rfl
  have o4 : ∀ X, (E0 ++ X)[4]? = some (.cells (eLc m (cameM m 0) 3 (evL m (truthsM m 0)))) := fun X => by rw [hE]; rfl
  have o0' := o0 []
  rw [List.append_nil] at o0'
  rw [← hE] at h46
  have hb4 : 4 < E0.length + 1 := by rw [hE]; simp [EM]
  clear hE
  obtain ⟨F, h83⟩ := m83 m.words.length ho.o6 84 [.ref E0.length 0, .ref 0 0] (waitB m) (E0 ++ [.cells [.ref 4 0]]) (by simp only [go_sem, ↓reduceIte, simprocAttr]) rr_84 (by rfl) t
    (fun w tb hw => m84 m hm ho (E0 ++ [.cells [.ref 4 0]]) 3 E0.length 4 (by simp) (o4 _) (o0 _) w hw tb)
  unfold waitV
  simp only [eM, eMc, I_nil] at h46 hcl o0 o0'
  cases hb : bestW (waitB m) m.words.length (2 ^ m.words.length) with
  | none =>
    rw [hb] at h83
    simp only [go_sem, ↓reduceIte, simprocAttr, bv_none] at h83
    simp (disch := omega) only [go_sem, ↓reduceIte, simprocAttr, eM, eMc, hcl, h46, o0, o0', hb4, h83, vI, Option.isSome_none, Option.isSome_some]
    done
  | some s =>
    rw [hb] at h83
    simp only [go_sem, ↓reduceIte, simprocAttr, bv_some, vI] at h83
    simp (disch := omega) only [go_sem, ↓reduceIte, simprocAttr, eM, eMc, hcl, h46, o0, o0', hb4, h83, vI, Option.isSome_none, Option.isSome_some]
    done
end Go.Proofs.YtiighcpimecehaaGreat
end
section
namespace Go.Proofs.YtiighcpimecehaaGreat
open Go.Proofs

def sumsK (m : Mo) (but : Nat) : Nat → Nat
  | 0 => 0
  | k + 1 => if but.testBit k = true then sumsK m but k else match m.paid[k]? with | some p => sumsK m but k ||| 2 ^ p.sum.toNat | none => sumsK m but k
def rightI (m : Mo) (a : List Int) (but k : Nat) : Bool := match m.paid[k]? with
  | some p => but.testBit k || (!(sumsK m but k).testBit p.sum.toNat && a.getD p.sum.toNat 0 == p.who)
  | none => true
def rightB (m : Mo) (a : List Int) (but : Nat) : Bool := allTo (rightI m a but) m.paid.length
theorem sumsK_lt {m : Mo} (ho : m.Ok) (but : Nat) : ∀ k : Nat, sumsK m but k < 64
  | 0 => by simp [sumsK]
  | k + 1 => by
    have h := sumsK_lt ho but k
    unfold sumsK
    split
    · exact h
    · split
      · rename_i p hp
        have := ho.paid p (List.mem_of_getElem? hp)
        have s5 := ho.s5
        exact or64_lt ⟨_, h⟩ ⟨p.sum.toNat, by omega⟩
      · exact h
theorem shr1_c {s i : Nat} (hs : s < 64) (hi : i < 6) : (IntKind.i64.wrap (((@HAnd.hAnd (BitVec 64) (BitVec 64) (BitVec 64) (@instHAndOfAndOp (BitVec IntKind.i64.bits) (BitVec.instAndOp : AndOp (BitVec IntKind.i64.bits))) (BitVec.ofInt 64 ((s : Int).fdiv (2 ^ (min i 64)))) (1#64)).toNat : Nat) : Int) == 1) = s.testBit i := shr64 ⟨s, hs⟩ ⟨i, hi⟩
set_option maxHeartbeats 1000000 in
theorem m89 (m : Mo) (hm : m.fits) (ho : m.Ok) (came q : Nat) (ev : List Int) (r : Nat) (a : List Int) (ha : a.length = 5) (but : Nat) (hbut : but < 64) (h : Heap) (hr : h.b[r]? = some (.cells (eLc m came q ev))) :
   (EW tabX).call 89 [.ref r 0, .agg (I a), .int .i64 but] h = some (.bool (rightB m a but), h) := by
  obtain ⟨B, ht⟩ := h
  have hr : B[r]? = some (.cells (eLc m came q ev)) := hr
  simp only [eLc, List.cons_append, List.nil_append] at hr
  have oR := old hr
  have s5 := ho.s5
  have p5 := ho.p5
  have hz := fun (hne : 0 < m.paid.length) => hm.zp (by intro e; rw [e] at hne; simp at hne)
  have step : ∀ k c, m.paid[k]? = some c → B ++ .cells (I a) :: (m.paid.take (k + 1)).map bPd = B ++ .cells (I a) :: (m.paid.take k).map bPd ++ [bPd c] := fun k c hx => by rw [map_succ _ hx, ← List.cons_append, List.append_assoc]
  rw [w_call _ fn_89 rfl]
  simp only [go_sem, ↓reduceIte, simprocAttr, hr, oR]
  rw [w_first (fun k => [(7, .int .i64 (sumsK m but k : Nat)), (16, .int .i64 k)]) (fun k => ⟨B ++ .cells (I a) :: (m.paid.take k).map bPd, ht⟩) (firstE (rightI m a but)) m.paid.length .ret
    (fun k => [(6, .bool false), (7, .int .i64 (sumsK m but k : Nat)), (8, .int .i64 k), (9, .ref (B ++ .cells (I a) :: (m.paid.take k).map bPd).length 0), (16, .int .i64 k)]) (fun k => ⟨B ++ .cells (I a) :: (m.paid.take (k + 1)).map bPd, ht⟩)
    (.exit 0) [(7, .int .i64 (sumsK m but m.paid.length : Nat)), (16, .int .i64 m.paid.length)] ⟨B ++ .cells (I a) :: m.paid.map bPd, ht⟩ ?_ ?_ ?_ ?_ ?_ rfl rfl]
  · unfold firstW rightB
    cases hf : firstBad (firstE (rightI m a but)) 0 m.paid.length with
    | some n =>
      have : allTo (rightI m a but) m.paid.length = false := by
        cases hal : allTo (rightI m a but) m.paid.length with
        | false => rfl
        | true => rw [firstE_all.2 hal] at hf; cases hf
      rw [this]
      simp only [go_sem, ↓reduceIte, simprocAttr]
    | none =>
      rw [firstE_all.1 hf]
      simp only [go_sem, ↓reduceIte, simprocAttr]
  · simp only [go_sem, ↓reduceIte, simprocAttr, sumsK]
  · simp only [go_sem, ↓reduceIte, simprocAttr]
  · intro k hk h0
    have hx := List.getElem?_eq_getElem hk
    have hki : (k : Int) < m.paid.length := by omega
    have hz1 := hz (by omega)
    have h0 := firstE_zero.1 h0
    have hsk := shr1_c hbut (show k < 6 by omega)
    have hpk := ho.paid m.paid[k] (List.getElem_mem _)
    have hK : sumsK m but (k + 1) = if but.testBit k = true then sumsK m but k else sumsK m but k ||| 2 ^ (m.paid[k]).sum.toNat := by
      show (if but.testBit k = true then sumsK m but k else match m.paid[k]? with | some p => sumsK m but k ||| 2 ^ p.sum.toNat | none => sumsK m but k) = _
      rw [hx]
    have h0' : (but.testBit k || (!(sumsK m but k).testBit (m.paid[k]).sum.toNat && a.getD (m.paid[k]).sum.toNat 0 == (m.paid[k]).who)) = true := by
      unfold rightI at h0; rw [hx] at h0; exact h0
    have hlt := sumsK_lt ho but k
    rw [step k _ hx, hK]
    generalize m.paid[k] = p at *
    generalize sumsK m but k = K at *
    obtain ⟨ps, pw⟩ := p
    simp only at hpk h0' ⊢
    obtain ⟨j, rfl⟩ := Int.eq_ofNat_of_zero_le hpk.1
    rw [Int.toNat_natCast] at h0'
    rw [Int.toNat_natCast]
    have hsj := shr1_c hlt (show j < 6 by omega)
    have hor := or_c hlt (show j < 6 by omega)
    have hsl := shl6 (show j < 6 by omega)
    have haj : (a.drop j)[0]? = some (a.getD j 0) := by rw [List.getElem?_drop, Nat.add_zero, List.getElem?_eq_getElem (by omega), List.getD_eq_getElem?_getD, List.getElem?_eq_getElem (by omega)]; rfl
    have hj5 : j < 5 := by omega
    have hal : (I a).length = 5 := by rw [I_len]; exact ha
    have oC : ∀ X, (B ++ .cells (I a) :: (m.paid.take k).map bPd ++ X)[B.length]? = some (.cells (I a)) := fun X => by rw [List.append_assoc]; simp
    have hBC : B.length < (B ++ .cells (I a) :: (m.paid.take k).map bPd).length := by simp
    generalize B ++ .cells (I a) :: (m.paid.take k).map bPd = C at oC hBC ⊢
    cases hb : but.testBit k with
    | true =>
      rw [hb] at hsk
      simp (disch := omega) only [go_sem, ↓reduceIte, simprocAttr, hki, hz1, ePd_get, hx, ePd, bPd, wrap_i64, hsk]
    | false =>
      rw [hb] at hsk h0'
      have h2 : K.testBit j = false ∧ (a.getD j 0 == pw) = true := by simpa using h0'
      have h3 : (a.getD j 0 != pw) = false := by rw [bne, h2.2]; rfl
      rw [h2.1] at hsj
      simp (disch := omega) only [go_sem, ↓reduceIte, simprocAttr, hki, hz1, ePd_get, hx, ePd, bPd, wrap_i64, hsk, hsj, hj5, oC, hal, haj, h3, hsl, hor, Nat.mul_one]
      done
  · intro k hk h0
    have hx := List.getElem?_eq_getElem hk
    have hki : (k : Int) < m.paid.length := by omega
    have hz1 := hz (by omega)
    have h0 : rightI m a but k = false := by
      cases hh : rightI m a but k with
      | false => rfl
      | true => exact absurd (firstE_zero.2 hh) h0
    have hsk := shr1_c hbut (show k < 6 by omega)
    have hpk := ho.paid m.paid[k] (List.getElem_mem _)
    have hK : sumsK m but (k + 1) = if but.testBit k = true then sumsK m but k else sumsK m but k ||| 2 ^ (m.paid[k]).sum.toNat := by
      show (if but.testBit k = true then sumsK m but k else match m.paid[k]? with | some p => sumsK m but k ||| 2 ^ p.sum.toNat | none => sumsK m but k) = _
      rw [hx]
    have h0' : (but.testBit k || (!(sumsK m but k).testBit (m.paid[k]).sum.toNat && a.getD (m.paid[k]).sum.toNat 0 == (m.paid[k]).who)) = false := by
      unfold rightI at h0; rw [hx] at h0; exact h0
    have hlt := sumsK_lt ho but k
    rw [step k _ hx]
    generalize m.paid[k] = p at *
    generalize sumsK m but k = K at *
    obtain ⟨ps, pw⟩ := p
    simp only at hpk h0' ⊢
    obtain ⟨j, rfl⟩ := Int.eq_ofNat_of_zero_le hpk.1
    rw [Int.toNat_natCast] at h0'
    skip
    have hsj := shr1_c hlt (show j < 6 by omega)
    have hor := or_c hlt (show j < 6 by omega)
    have hsl := shl6 (show j < 6 by omega)
    have haj : (a.drop j)[0]? = some (a.getD j 0) := by rw [List.getElem?_drop, Nat.add_zero, List.getElem?_eq_getElem (by omega), List.getD_eq_getElem?_getD, List.getElem?_eq_getElem (by omega)]; rfl
    have hj5 : j < 5 := by omega
    have hal : (I a).length = 5 := by rw [I_len]; exact ha
    have oC : ∀ X, (B ++ .cells (I a) :: (m.paid.take k).map bPd ++ X)[B.length]? = some (.cells (I a)) := fun X => by rw [List.append_assoc]; simp
    have hBC : B.length < (B ++ .cells (I a) :: (m.paid.take k).map bPd).length := by simp
    generalize B ++ .cells (I a) :: (m.paid.take k).map bPd = C at oC hBC ⊢
    have hb : but.testBit k = false := by
      cases hb : but.testBit k with
      | false => rfl
      | true => rw [hb] at h0'; simp at h0'
    rw [hb] at hsk h0'
    cases h2 : K.testBit j with
    | true =>
      rw [h2] at hsj
      simp (disch := omega) only [go_sem, ↓reduceIte, simprocAttr, hki, hz1, ePd_get, hx, ePd, bPd, wrap_i64, hsk, hsj, hj5, oC, hal, haj, hsl, hor, Nat.mul_one]
      done
    | false =>
      rw [h2] at hsj h0'
      have h2 : (a.getD j 0 == pw) = false := by simpa using h0'
      have h3 : (a.getD j 0 != pw) = true := by rw [bne, h2]; rfl
      simp (disch := omega) only [go_sem, ↓reduceIte, simprocAttr, hki, hz1, ePd_get, hx, ePd, bPd, wrap_i64, hsk, hsj, hj5, oC, hal, haj, h3, hsl, hor, Nat.mul_one]
      done
  · simp (disch := omega) only [go_sem, ↓reduceIte, simprocAttr, Int.lt_irrefl]
end Go.Proofs.YtiighcpimecehaaGreat
end
section
namespace Go.Proofs.YtiighcpimecehaaGreat
open Go.Proofs

def someR (m : Mo) (w : Nat) : Bool := (truthsM m 0).any fun t => rightB m (arr5 t) w
set_option maxHeartbeats 2000000 in
theorem m88 (m : Mo) (hm : m.fits) (ho : m.Ok) (B : List ABlk) (q : Nat) (r i : Nat) (hr : B[r]? = some (.cells [.ref i 0])) (hi : B[i]? = some (.cells (eLc m (cameM m 0) q (evL m (truthsM m 0))))) (hq : B[q]? = some (.map (esM m (truthsM m 0))))
    (w : Nat) (hw : w < 64) (tb : List Bool) : (EW tabX).call 88 [.int .i64 (w : Int), .ref r 0] ⟨B, tb⟩ = some (.bool (someR m w), ⟨B, tb⟩) := by
  have h89 := fun (a : List Int) (ha : a.length = 5) (h : Heap) (hr : h.b[i]? = some (.cells (eLc m (cameM m 0) q (evL m (truthsM m 0))))) => m89 m hm ho (cameM m 0) q (evL m (truthsM m 0)) i a ha w hw h hr
  have oR := old hr
  have oI := old hi
  have oQ := old hq
  have oQ' := hq
  have hrl := (List.getElem?_eq_some_iff.1 hr).1
  have hil := (List.getElem?_eq_some_iff.1 hi).1
  have hql := (List.getElem?_eq_some_iff.1 hq).1
  have hrows := fun (k : Nat) (hk : k < (truthsM m 0).length) => truthsM_ok (List.getElem_mem hk)
  have hS : someR m w = (truthsM m 0).any fun t => rightB m (arr5 t) w := rfl
  have hel := esM_len m (truthsM m 0)
  generalize someR m w = sr at hS ⊢
  generalize truthsM m 0 = ts at *
  have s5 := ho.s5
  have hqb : q < B.length + 1 := by omega
  rw [w_call _ fn_88 rfl]
  have oI0 := oI
  have hi0 := hi
  simp only [eLc, List.cons_append, List.nil_append] at oI hi
  simp (disch := omega) only [go_sem, ↓reduceIte, simprocAttr, hr, hi, hq, oR, oI, oQ, hel, hqb, hql]
  have hr1 : r < B.length + 1 := by omega
  have ht1 : ∀ (a b : ABlk), List.take (B.length + 1) (B ++ [a, b]) = B ++ [a] := fun a b => by rw [show B ++ [a, b] = (B ++ [a]) ++ [b] by simp, List.take_left' (by simp)]
  generalize hlx : (EW tabX).code 88 none (Code.loop _) _ = x
  have hx : x = some (if sr = true then .ret else .exit 0, ⟨⟨[(0, .int .i64 w), (1, .ref r 0), (3, .bool sr), (9, .ref B.length 0)], []⟩, ⟨B ++ [.none], tb⟩, []⟩) := by
    refine w_map_x hlx rfl (fun left s => ∃ cur, (left.Nodup ∧ (∀ k ∈ left, k < ts.length) ∧ ∀ k t, ts[k]? = some t → k ∉ left → rightB m (arr5 t) w = false) ∧ s = ⟨⟨[(0, .int .i64 w), (1, .ref r 0), (3, .bool false), (9, .ref B.length 0)], []⟩, ⟨B ++ [.mit q ts.length left cur], tb⟩, []⟩) _ B.length q ts.length (esM m ts) hel ?_ ?_ ?_ (List.range ts.length) ?_
    · rintro left s ⟨cur, ⟨h1, h2, h3⟩, rfl⟩
      refine ⟨?_, ⟨cur, ?_⟩, ?_, h1, h2⟩
      · simp only [go_sem, ↓reduceIte, simprocAttr]
      · simp only [go_sem, ↓reduceIte, simprocAttr]
      · simp only [go_sem, ↓reduceIte, simprocAttr, oQ]
    · rintro s ⟨cur, ⟨h1, h2, h3⟩, rfl⟩
      have : sr = false := by
        rw [hS]
        cases hh : ts.any fun t => rightB m (arr5 t) w with
        | false => rfl
        | true =>
          obtain ⟨t, ht, e⟩ := List.any_eq_true.1 hh
          obtain ⟨k, hk, rfl⟩ := List.mem_iff_getElem.1 ht
          rw [h3 k _ (List.getElem?_eq_getElem hk) (by simp)] at e; cases e
      subst this
      simp only [go_sem, ↓reduceIte, simprocAttr]
    · rintro left s k ⟨cur, ⟨h1, h2, h3⟩, rfl⟩ hk
      have hk2 := h2 k hk
      have hx := List.getElem?_eq_getElem hk2
      have hl5 := arr5_len (t := ts[k]) (by have := (hrows k hk2).2; omega)
      have hesi : (esM m ts)[k]? = some (.agg (I (arr5 ts[k])), .agg (I (dueL m (arr5 ts[k]) m.sums.length))) := by rw [esM_get, hx]; rfl
      have hmem : ts[k] ∈ ts := List.getElem_mem hk2
      generalize ts[k] = u at hesi hl5 hx hmem
      have h5 : 5 ≤ (arr5 u).length := by omega
      have hp5 : 0 < (arr5 u).length := by omega
      have htk : (arr5 u).take 5 = arr5 u := List.take_of_length_le (by omega)
      have hsp := fun x0 x1 x2 x3 x4 => splice5 x0 x1 x2 x3 x4 (arr5 u) hl5
      have h89 := fun X tb => h89 (arr5 u) hl5 ⟨B ++ X, tb⟩ (oI0 X)
      simp (disch := omega) only [go_sem, ↓reduceIte, simprocAttr, oR, oI, oQ, hel, hesi, hp5, h5, hl5, htk, hsp, h89]
      cases hb : rightB m (arr5 u) w with
      | true =>
        have : sr = true := by rw [hS, List.any_eq_true]; exact ⟨u, hmem, hb⟩
        subst this
        simp only [go_sem, ↓reduceIte, simprocAttr]
        refine ⟨_, _, rfl, tidy_of (B := B) (C := [_]) (C' := [.mit q ts.length (left.erase k) (some k)]) (M := [.cells (I (arr5 u))]) ?_ rfl ?_, .inr ⟨rfl, ⟨q, ts.length, left.erase k, some k, by simp only [go_sem, ↓reduceIte, simprocAttr]⟩, ?_⟩⟩
        · simp (disch := omega) only [go_sem, ↓reduceIte, simprocAttr, hr1, Nat.lt_succ_self]
        · simp (disch := omega) only [go_sem, ↓reduceIte, simprocAttr, ABlk.underB, hql, hqb]
        · simp only [go_sem, ↓reduceIte, simprocAttr, ht1]
      | false =>
        simp only [go_sem, ↓reduceIte, simprocAttr]
        refine ⟨_, _, rfl, tidy_of (B := B) (C := [_]) (C' := [.mit q ts.length (left.erase k) (some k)]) (M := [.cells (I (arr5 u))]) ?_ rfl ?_, .inl ⟨rfl, some k, ⟨h1.erase k, fun j hj => h2 j (List.mem_of_mem_erase hj), fun j t hj hn => ?_⟩, ?_⟩⟩
        · simp (disch := omega) only [go_sem, ↓reduceIte, simprocAttr, hr1, Nat.lt_succ_self]
        · simp (disch := omega) only [go_sem, ↓reduceIte, simprocAttr, ABlk.underB, hql, hqb]
        · by_cases e : j = k
          · subst e
            rw [hx] at hj
            cases hj
            exact hb
          · exact h3 j t hj (fun hm => hn ((h1.mem_erase_iff).2 ⟨e, hm⟩))
        · simp only [go_sem, ↓reduceIte, simprocAttr, ht1]
    · exact ⟨none, ⟨List.nodup_range, fun k hk => List.mem_range.1 hk, fun k t hk hn => absurd (List.mem_range.2 (List.getElem?_eq_some_iff.1 hk).1) hn⟩, rfl⟩
  rw [hx]
  cases sr with
  | true => simp (disch := omega) only [go_sem, ↓reduceIte, simprocAttr]
  | false => simp (disch := omega) only [go_sem, ↓reduceIte, simprocAttr]
def wrongM (m : Mo) : List Int := match bestW (someR m) m.paid.length (2 ^ m.paid.length) with
  | none => []
  | some s => bitsL s m.paid.length
theorem m40 (m : Mo) (hm : m.fits) (he : enterM m 0 [] = 0) (h : Heap) : callPure (EW tabX) 40 [eM m] h = some (.tup [vI (wrongM m), .int .i64 0], h) := by
  have hcl := eM_clean m
  rw [callPure_eq, w_call _ fn_40 rfl]
  obtain ⟨h0, h1, h2⟩ := enterM_zero he
  have ho := (ok_of_checkM h0).1
  have p5 := ho.p5
  obtain ⟨J, t, h46⟩ := enterY m hm 0 (fun _ => by omega) [] 0 (fun h => absurd rfl h) (by simp) he 1
  obtain ⟨E0, hE⟩ : ∃ E0, E0 = EM m (truthsM m 0) J := ⟨_, rfl⟩
  have o0 : ∀ X, (E0 ++ X)[0]? = some (.cells (eMc m)) := fun X => by rw [hE]; rfl
  have o3 : ∀ X, (E0 ++ X)[3]? = some (.map (esM m (truthsM m 0))) := fun X => by rw [hE]; rfl
  have o4 : ∀ X, (E0 ++ X)[4]? = some (.cells (eLc m (cameM m 0) 3 (evL m (truthsM m 0)))) := fun X => by rw [hE]; rfl
  have o0' := o0 []
  rw [List.append_nil] at o0'
  rw [← hE] at h46
  have hb4 : 4 < E0.length + 1 := by rw [hE]; simp [EM]
  clear hE
  obtain ⟨F, h83⟩ := m83 m.paid.length (by omega) 88 [.ref E0.length 0] (someR m) (E0 ++ [.cells [.ref 4 0]]) (by simp only [go_sem, ↓reduceIte, simprocAttr]) rr_88 (by rfl) t
    (fun w tb hw => ⟨[], by rw [List.append_nil]; exact m88 m hm ho (E0 ++ [.cells [.ref 4 0]]) 3 E0.length 4 (by simp) (o4 _) (o3 _) w hw tb⟩)
  unfold wrongM
  simp only [eM, eMc, I_nil] at h46 hcl o0 o0'
  cases hb : bestW (someR m) m.paid.length (2 ^ m.paid.length) with
  | none =>
    rw [hb] at h83
    simp only [go_sem, ↓reduceIte, simprocAttr, bv_none] at h83
    simp (disch := omega) only [go_sem, ↓reduceIte, simprocAttr, eM, eMc, hcl, h46, o0, o0', hb4, h83, vI, Option.isSome_none, Option.isSome_some]
    done
  | some s =>
    rw [hb] at h83
    simp only [go_sem, ↓reduceIte, simprocAttr, bv_some, vI] at h83
    simp (disch := omega) only [go_sem, ↓reduceIte, simprocAttr, eM, eMc, hcl, h46, o0, o0', hb4, h83, vI, Option.isSome_none, Option.isSome_some]
    done
end Go.Proofs.YtiighcpimecehaaGreat
end
section
namespace Go.Proofs.YtiighcpimecehaaGreat
open Go.Proofs

def dA : Dr := ⟨4, 2, 1, [⟨⟨#[97, 110, 97]⟩, [3, 5, 2, 7]⟩, ⟨⟨#[98, 101, 110]⟩, [3, 4, 2, 1]⟩, ⟨⟨#[99, 111, 114, 97]⟩, [8, 8, 1, 6]⟩], [⟨⟨#[116, 97, 108, 108]⟩, [3, 5, 2, 6]⟩, ⟨⟨#[115, 104, 111, 114, 116]⟩, [2, 1]⟩], 2, 2⟩
def dF : Dr := { dA with halves := dA.halves ++ [⟨⟨#[116, 111, 114, 110]⟩, [-1, 2]⟩] }
theorem c36_false (h : Heap) : callPure (EW tabX) 30 [.bool false] h = some (eD dA, h) := by
  rw [callPure_eq, w_call _ fn_30 rfl]
  simp only [go_sem, ↓reduceIte, simprocAttr, List.isEmpty]
  rfl
theorem c36_true (h : Heap) : callPure (EW tabX) 30 [.bool true] h = some (eD dF, h) := by
  rw [callPure_eq, w_call _ fn_30 rfl]
  simp only [go_sem, ↓reduceIte, simprocAttr, appendAV, true_or, or_false, or_self]
  rfl
end Go.Proofs.YtiighcpimecehaaGreat
end
