/- Parts of the proof, joined: The fair truths, by the program. First, by the program. Forged, by the program. Whose and Read, by the program. Read, by the program. Whether a row has ascending numbers. The drawers of the examples. Conditions: those of each law. -/
import Derived.Test.YtbfodfepgefloaaQ11
set_option linter.unusedSimpArgs false
set_option linter.unusedVariables false
section
namespace Go.Proofs.Ytbfodfepgefloaa
open Go.Proofs

theorem w_range (X : Tab) (f : Nat) (g : Operand) (ps : Array Tmp) (asg body : Code) (fr : Frm) (hb : List ABlk) (ht : List Bool) (ms : List Nat) {gf : Nat} {fst cap : List AV} (hg : evo fr g = .clo gf fst cap) :
    (EW X).code f none (.rangeFunc g ps asg body) ⟨fr, ⟨hb, ht⟩, ms⟩ = ((EW X).call gf (fst ++ [.yld (hb.length + 1)] ++ cap) ⟨hb ++ [.mark] ++ [.loop false .normal false f fr ps.toList asg body], ht⟩).bind fun r => afterRange (hb.length + 1) fr (hb.length :: ms) r.2 := by
  rw [ew_code]
  show enterRange (EW X) f (evo fr g) ps.toList asg body fr ⟨hb ++ [.mark], ht⟩ (hb.length :: ms) = _
  rw [hg, enterRange_eq]
  simp
theorem app_gen2 {X : Tab} {ty e : TypeId} {sz : Nat} {tag z : Nat} {t : List Bool} {xs : List AV} (hn : OwnQ sz tag z xs.length t) (u z' : Nat) (ys : List AV) (ht : trow X ty = .slice e) (hs : tsz X e = sz) (h0 : 0 < sz) (hz' : z' = sz ∨ ys.length = 0)
    (hy : (xs.length + ys.length) * tbytes X e ≤ 1048576) (hy2 : xs.length + ys.length ≤ 1048576) (hf : zeroFits X e = true) (hv : ys.all AV.var = true) :
    ∃ t2, (∀ B, appendAV X ty t.length ⟨B, t⟩ (.lst tag z xs) (.lst u z' ys) = some (.lst (t.length + 2) sz (xs ++ ys), ⟨B, t2⟩)) ∧ t2[t.length]? = some true := by
  have hc : (z' = tsz X e ∨ ys.length = 0) ∧ 0 < tsz X e ∧ (xs.length + ys.length) * tbytes X e ≤ appLimit ∧ xs.length + ys.length ≤ appLimit ∧ zeroFits X e = true ∧ ys.all AV.var = true := by
    rw [hs]; exact ⟨hz', h0, hy, hy2, hf, hv⟩
  unfold appendAV
  simp only [ht, if_pos hc]
  rcases hn with ⟨rfl, hn0⟩ | ⟨q, rfl, hq, hqt⟩
  · have hx : z = tsz X e ∨ xs.length = 0 := by rw [hs]; exact hn0.symm
    refine ⟨t ++ [true], fun B => ?_, by simp⟩
    rw [if_pos hx]
    simp only [hs, lset, Nat.lt_irrefl, if_false]
  · have hx : z = tsz X e := by rw [hs, hq]
    refine ⟨t.set q false ++ [true], fun B => ?_, by simp⟩
    simp only [hqt]
    rw [if_pos hx]
    simp only [hs, lset, List.length_set, Nat.lt_irrefl, if_false]
theorem c76 (r : Nat) (B : List ABlk) (t : List Bool) (hr : r < B.length) : (EW tabX).call 76 [.ref r 0] ⟨B, t⟩ = some (.clo 82 [] [.ref B.length 0], ⟨B ++ [.cells [.ref r 0]], t⟩) := by
  rw [w_call _ fn_76 rfl]
  have h1 : ¬ (B.length < B.length) := by omega
  have h2 : r < B.length + 1 := by omega
  simp only [go_sem, ↓reduceIte, Nat.reduceBEq, Nat.reduceEqDiff, Nat.reduceLT, Nat.reduceLeDiff, Nat.reduceAdd, Nat.reduceMul, Nat.reduceSub, reduceCtorEq, Int.reduceLT, Int.reduceLE, Int.reduceEq, Int.reduceBEq, Int.reduceBNe, Int.reduceToNat, Int.reduceAdd, Int.reduceNeg, Int.reduceSub, h1, h2]
theorem c82 (d : Dr) (ho : d.Ok) (P : List ABlk) (r m : Nat) (o : AV) (hr : P[r]? = some (.cells (eDc d ++ [o, .mapr m]))) (hm : P[m]? = some (.map (esL (num (P1 d d.halves.length))))) (LB : ABlk) (hY : RoundOk P r LB d.halves.length) (t : List Bool) :
    ∃ tg t' v, (EW tabX).call 82 [.yld (P.length + 4), .ref (P.length + 2) 0] ⟨P ++ [.cells [.lst 1 0 []], .cells [.int .i64 (d.halves.length + 1)], .cells [.ref r 0], .mark, LB], t⟩ =
      some (v, ⟨P ++ [.cells [.lst tg 4 ((fairL d).map eA)], .cells [.int .i64 (leastN (truthsL d d.halves.length) d.halves.length)], .cells [.ref r 0], .mark, LB], t'⟩) := by
  have hlt : r < P.length := (List.getElem?_eq_some_iff.1 hr).1
  have h4 := ho.h4
  have h625 : (dfs d d.halves.length []).length ≤ 625 := by
    rw [dfs_all]
    have := truthsL_len d ho.c4 d.halves.length
    have : 5 ^ d.halves.length ≤ 5 ^ 4 := Nat.pow_le_pow_right (by omega) h4
    omega
  obtain ⟨s', hc, a1, g1, f1⟩ := c84 d ho P r m o hr hm LB hY d.halves.length [] 0 ⟨arrOf [], [], d.halves.length + 1, 1, 0, t⟩ [] (by simp) ⟨by omega, fun c hc => by simp⟩ ⟨.inl ⟨rfl, .inl rfl⟩, fun _ => by simp only; omega, fun u hu => by simp at hu, by simp only; omega⟩ rfl (by simp only [List.length_nil]; omega)
  obtain ⟨arr2, ls2, least2, tg2, z2, st2⟩ := s'
  simp only at f1
  rw [gath_fair] at f1
  simp only [Prod.mk.injEq] at f1
  obtain ⟨rfl, rfl⟩ := f1
  have hz : z2 = 4 := by
    rcases g1.1 with ⟨_, h | h⟩ | ⟨_, _, h, _⟩
    · exact absurd (List.eq_nil_of_length_eq_zero h) (fairL_ne d)
    · exact h
    · exact h
  subst hz
  have e0 : arrOf [] = [0, 0, 0, 0] := rfl
  have e1 : lostN [] = 0 := rfl
  simp only [HB, FS.l, List.length_nil, List.map_nil, e0, e1, Int.natCast_add, Int.natCast_one, I_c, I_nil, cast_zero] at hc
  have o2 := hlt
  refine ⟨tg2, st2, ?_, ?_⟩
  rotate_left
  · rw [w_call _ fn_82 rfl]
    have h1 : ∀ k, r < P.length + k := fun k => by omega
    have h2 : ∀ k j, r < P.length + k + j := fun k j => by omega
    have h3 : ∀ a b c, (P.length + a < P.length + b + c) = (a < b + c) := fun a b c => by rw [Nat.add_assoc]; simp
    simp only [go_sem, ↓reduceIte, Nat.reduceBEq, Nat.reduceEqDiff, Nat.reduceLT, Nat.reduceLeDiff, Nat.reduceAdd, Nat.reduceMul, Nat.reduceSub, reduceCtorEq, Int.reduceLT, Int.reduceLE, Int.reduceEq, Int.reduceBEq, Int.reduceBNe, Int.reduceToNat, Int.reduceAdd, Int.reduceNeg, Int.reduceSub, h1, h2, h3, hc, List.take_length_add_append]
    rfl
theorem splice4 (x0 x1 x2 x3 : AV) (l : List Int) (h : l.length = 4) : splice [x0, x1, x2, x3] 0 (I l) = I l := by
  match l, h with
  | [a, b, c, d], _ => rfl
theorem eqI4 (l m : List Int) (hl : l.length = 4) (hm : m.length = 4) : eqCells [0, 0, 0, 0] (I l) (I m) = some (decide (l = m)) := by
  match l, m, hl, hm with
  | [a, b, c, d], [x, y, z, w], _, _ =>
    simp only [eqCells, I_c, I_nil, if_true, Option.map_some]
    congr 1
    rw [Bool.eq_iff_iff]
    simp
theorem arr_inj {t u : List Int} (h : t.length = u.length) (e : arrOf t = arrOf u) : t = u := by
  unfold arrOf at e
  have := (List.append_inj e (by simpa using h)).1
  have inj : ∀ (a b : List Int), a.map (· + 1) = b.map (· + 1) → a = b := by
    intro a
    induction a with
    | nil => intro b hb; cases b with
      | nil => rfl
      | cons y b => simp at hb
    | cons x a ih => intro b hb; cases b with
      | nil => simp at hb
      | cons y b =>
        simp only [List.map_cons, List.cons.injEq] at hb
        rw [ih b hb.2, show x = y by omega]
  exact inj t u this
theorem y2 (L : List Nat) (fr : Frm) (a b : Tmp) (x y : AV) : yieldFr L fr [a, b] [x, y] = some (setF L (setF L fr a x) b y) := by
  simp only [yieldFr, setFK_eq]
theorem hush_62_9 : tabX.hush 62 9 = false := id rfl
theorem c62 (d : Dr) (ho : d.Ok) (P : List ABlk) (r m : Nat) (o : AV) (hr : P[r]? = some (.cells (eDc d ++ [o, .mapr m]))) (hm : P[m]? = some (.map (esL (num (P1 d d.halves.length))))) (t : List Bool) :
    ∃ tg t', (EW tabX).call 62 [.ref r 0] ⟨P, t⟩ = some (.tup [.lst tg 4 ((fairL d).map eA), .int .i64 (leastN (truthsL d d.halves.length) d.halves.length)], ⟨P, t'⟩) := by
  have hr' := hr
  have hlt : r < P.length := (List.getElem?_eq_some_iff.1 hr).1
  simp only [eDc, List.cons_append, List.nil_append] at hr'
  have oR := old hr'
  have h4 := ho.h4
  have h76 := c76 r (P ++ [.cells [.lst 1 0 []], .cells [.int .i64 (d.halves.length + 1)]]) t (by simp; omega)
  rw [w_call _ fn_62 rfl]
  simp only [go_sem, ↓reduceIte, Nat.reduceBEq, Nat.reduceEqDiff, Nat.reduceLT, Nat.reduceLeDiff, Nat.reduceAdd, Nat.reduceMul, Nat.reduceSub, reduceCtorEq, Int.reduceLT, Int.reduceLE, Int.reduceEq, Int.reduceBEq, Int.reduceBNe, Int.reduceToNat, Int.reduceAdd, Int.reduceNeg, Int.reduceSub] at h76
  simp (disch := omega) only [go_sem, ↓reduceIte, Nat.reduceBEq, Nat.reduceEqDiff, Nat.reduceLT, Nat.reduceLeDiff, Nat.reduceAdd, Nat.reduceMul, Nat.reduceSub, reduceCtorEq, Int.reduceLT, Int.reduceLE, Int.reduceEq, Int.reduceBEq, Int.reduceBNe, Int.reduceToNat, Int.reduceAdd, Int.reduceNeg, Int.reduceSub, oR, wrap_i64, h76]
  rw [w_range (gf := 82) (fst := []) (cap := [.ref (P.length + 2) 0])]
  rotate_left
  · simp only [go_sem, ↓reduceIte, Nat.reduceBEq, Nat.reduceEqDiff, Nat.reduceLT, Nat.reduceLeDiff, Nat.reduceAdd, Nat.reduceMul, Nat.reduceSub, reduceCtorEq, Int.reduceLT, Int.reduceLE, Int.reduceEq, Int.reduceBEq, Int.reduceBNe, Int.reduceToNat, Int.reduceAdd, Int.reduceNeg, Int.reduceSub]
  generalize hLB : ABlk.loop false AExit.normal false 62 _ _ _ _ = LB
  have hY : RoundOk P r LB d.halves.length := by
    intro s u E hg hu ha hls
    obtain ⟨LB', b1, b2⟩ : ∃ LB', beginBlk LB = some LB' ∧ endBlk .normal LB' = some LB := by rw [← hLB]; exact ⟨_, rfl, rfl⟩
    have hat : (⟨HB P r LB s E, s.t⟩ : Heap).b[P.length + 4]? = some LB := by simp only [HB, go_sem, ↓reduceIte, Nat.reduceBEq, Nat.reduceEqDiff, Nat.reduceLT, Nat.reduceLeDiff, Nat.reduceAdd, Nat.reduceMul, Nat.reduceSub, reduceCtorEq, Int.reduceLT, Int.reduceLE, Int.reduceEq, Int.reduceBEq, Int.reduceBNe, Int.reduceToNat, Int.reduceAdd, Int.reduceNeg, Int.reduceSub]
    have hat2 := hat.trans (congrArg some hLB.symm)
    rw [stepRound_eq tabX hat2]
    obtain ⟨arr, ls, least, tg, z, st⟩ := s
    obtain ⟨gq, gl, gu, gm⟩ := hg
    simp only at ha hls gq gl gu gm
    subst ha
    have hal := arrOf_len (t := u) (by omega)
    have h4' : (arrOf u).take 4 = arrOf u := List.take_of_length_le (by omega)
    simp only [HB, FS.l, y2, Option.bind_some, roundK]
    clear hLB hat hat2
    have hpos : 0 < (arrOf u).length := by omega
    have hsp := fun x0 x1 x2 x3 => splice4 x0 x1 x2 x3 (arrOf u) hal
    have h44 : 4 ≤ (arrOf u).length := by omega
    by_cases c1 : lostN u < least
    · have c1' : (lostN u : Int) < least := by omega
      have eg : gath (ls, least) u = ([u], lostN u) := by unfold gath; rw [if_pos c1]
      rw [eg]
      simp (disch := omega) only [go_sem, ↓reduceIte, Nat.reduceBEq, Nat.reduceEqDiff, Nat.reduceLT, Nat.reduceLeDiff, Nat.reduceAdd, Nat.reduceMul, Nat.reduceSub, reduceCtorEq, Int.reduceLT, Int.reduceLE, Int.reduceEq, Int.reduceBEq, Int.reduceBNe, Int.reduceToNat, Int.reduceAdd, Int.reduceNeg, Int.reduceSub, turnBlk, b1, b2, c1', hpos, hal, hsp, h44, h4', isNormal]
      exact ⟨⟨arrOf u, [u], lostN u, 1, 4, st⟩, [.cells (I (arrOf u))], rfl, rfl, ⟨.inl ⟨rfl, .inr rfl⟩, fun h => (by cases h), fun v hv => (by simp at hv; subst hv; exact hu), by simp only; omega⟩, rfl⟩
    · have c1' : ¬ ((lostN u : Int) < least) := by omega
      by_cases c2 : lostN u = least
      · have c2' : ((lostN u : Int) == least) = true := by simp [c2]
        have hne : ls ≠ [] := fun h => by have := gl h; have := lostN_le u; omega
        obtain ⟨w, hw⟩ : ∃ w, ls.getLast? = some w := by
          cases h : ls.getLast? with
          | none => exact absurd (List.getLast?_eq_none_iff.1 h) hne
          | some w => exact ⟨w, rfl⟩
        have hlen : 0 < ls.length := List.length_pos_iff.2 hne
        have hwl : w.length = d.halves.length := gu w (List.mem_of_getLast? hw)
        have hget : (ls.map eA)[ls.length - 1]? = some (eA w) := by
          rw [List.getElem?_map, ← List.getLast?_eq_getElem?, hw]; rfl
        have i1 : ((ls.length : Int) - 1 < 0) = False := by simp; omega
        have i2 : ((ls.length : Int) - 1).toNat = ls.length - 1 := by omega
        have i3 : z = 4 := by
          rcases gq with ⟨_, h | h⟩ | ⟨_, _, h, _⟩
          · omega
          · exact h
          · exact h
        subst i3
        have hwal := arrOf_len (t := w) (by omega)
        have hw4 : 4 ≤ (arrOf w).length := by omega
        have hw4' : (arrOf w).take 4 = arrOf w := List.take_of_length_le (by omega)
        have heq := eqI4 (arrOf w) (arrOf u) hwal hal
        have hdec : decide (arrOf w = arrOf u) = decide (w = u) := by
          by_cases e : w = u
          · subst e; simp
          · have e2 : ¬ arrOf w = arrOf u := fun h => e (arr_inj (by omega) h)
            simp [e, e2]
        rw [hdec] at heq
        by_cases hwu : w = u
        · have eg : gath (ls, least) u = (ls, least) := by unfold gath; rw [if_neg c1, if_neg (fun h => h.2 (by rw [hw, hwu]))]
          rw [eg]
          rw [decide_eq_true hwu] at heq
          simp (disch := omega) only [go_sem, ↓reduceIte, Nat.reduceBEq, Nat.reduceEqDiff, Nat.reduceLT, Nat.reduceLeDiff, Nat.reduceAdd, Nat.reduceMul, Nat.reduceSub, reduceCtorEq, Int.reduceLT, Int.reduceLE, Int.reduceEq, Int.reduceBEq, Int.reduceBNe, Int.reduceToNat, Int.reduceAdd, Int.reduceNeg, Int.reduceSub, turnBlk, b1, b2, c1', c2', hpos, hal, hsp, h44, h4', isNormal, wrap_i64, i1, i2, hget, eA, hw4, hw4', aggBin, heq]
          exact ⟨⟨arrOf u, ls, least, tg, 4, st⟩, [.cells (I (arrOf u))], rfl, rfl, ⟨gq, gl, gu, gm⟩, rfl⟩
        · have eg : gath (ls, least) u = (ls ++ [u], least) := by unfold gath; rw [if_neg c1, if_pos ⟨c2, fun h => hwu (by rw [hw] at h; exact Option.some.inj h)⟩]
          rw [eg]
          rw [decide_eq_false hwu] at heq
          have hun : ∀ n, underL n (ls.map eA) = true := fun n => underL_map (fun x => by simp only [eA, go_sem, ↓reduceIte, Nat.reduceBEq, Nat.reduceEqDiff, Nat.reduceLT, Nat.reduceLeDiff, Nat.reduceAdd, Nat.reduceMul, Nat.reduceSub, reduceCtorEq, Int.reduceLT, Int.reduceLE, Int.reduceEq, Int.reduceBEq, Int.reduceBNe, Int.reduceToNat, Int.reduceAdd, Int.reduceNeg, Int.reduceSub]) ls
          obtain ⟨t2, p1, p2⟩ := app_gen2 (X := tabX) (ty := 92) (e := 96) (sz := 4) (tag := tg) (z := 4) (t := st) (xs := ls.map eA) (by simpa using gq) 1 4 [.agg (I (arrOf u))] (by simp only [go_sem, ↓reduceIte, Nat.reduceBEq, Nat.reduceEqDiff, Nat.reduceLT, Nat.reduceLeDiff, Nat.reduceAdd, Nat.reduceMul, Nat.reduceSub, reduceCtorEq, Int.reduceLT, Int.reduceLE, Int.reduceEq, Int.reduceBEq, Int.reduceBNe, Int.reduceToNat, Int.reduceAdd, Int.reduceNeg, Int.reduceSub]) (by simp only [go_sem, ↓reduceIte, Nat.reduceBEq, Nat.reduceEqDiff, Nat.reduceLT, Nat.reduceLeDiff, Nat.reduceAdd, Nat.reduceMul, Nat.reduceSub, reduceCtorEq, Int.reduceLT, Int.reduceLE, Int.reduceEq, Int.reduceBEq, Int.reduceBNe, Int.reduceToNat, Int.reduceAdd, Int.reduceNeg, Int.reduceSub]) (by omega) (.inl rfl) (by simp only [go_sem, ↓reduceIte, Nat.reduceBEq, Nat.reduceEqDiff, Nat.reduceLT, Nat.reduceLeDiff, Nat.reduceAdd, Nat.reduceMul, Nat.reduceSub, reduceCtorEq, Int.reduceLT, Int.reduceLE, Int.reduceEq, Int.reduceBEq, Int.reduceBNe, Int.reduceToNat, Int.reduceAdd, Int.reduceNeg, Int.reduceSub, List.length_map]; omega) (by simp only [go_sem, ↓reduceIte, Nat.reduceBEq, Nat.reduceEqDiff, Nat.reduceLT, Nat.reduceLeDiff, Nat.reduceAdd, Nat.reduceMul, Nat.reduceSub, reduceCtorEq, Int.reduceLT, Int.reduceLE, Int.reduceEq, Int.reduceBEq, Int.reduceBNe, Int.reduceToNat, Int.reduceAdd, Int.reduceNeg, Int.reduceSub, List.length_map]; omega) (by simp only [go_sem, ↓reduceIte, Nat.reduceBEq, Nat.reduceEqDiff, Nat.reduceLT, Nat.reduceLeDiff, Nat.reduceAdd, Nat.reduceMul, Nat.reduceSub, reduceCtorEq, Int.reduceLT, Int.reduceLE, Int.reduceEq, Int.reduceBEq, Int.reduceBNe, Int.reduceToNat, Int.reduceAdd, Int.reduceNeg, Int.reduceSub]) (by simp only [go_sem, ↓reduceIte, Nat.reduceBEq, Nat.reduceEqDiff, Nat.reduceLT, Nat.reduceLeDiff, Nat.reduceAdd, Nat.reduceMul, Nat.reduceSub, reduceCtorEq, Int.reduceLT, Int.reduceLE, Int.reduceEq, Int.reduceBEq, Int.reduceBNe, Int.reduceToNat, Int.reduceAdd, Int.reduceNeg, Int.reduceSub])
          simp (disch := omega) only [go_sem, ↓reduceIte, Nat.reduceBEq, Nat.reduceEqDiff, Nat.reduceLT, Nat.reduceLeDiff, Nat.reduceAdd, Nat.reduceMul, Nat.reduceSub, reduceCtorEq, Int.reduceLT, Int.reduceLE, Int.reduceEq, Int.reduceBEq, Int.reduceBNe, Int.reduceToNat, Int.reduceAdd, Int.reduceNeg, Int.reduceSub, turnBlk, b1, b2, c1', c2', hpos, hal, hsp, h44, h4', isNormal, wrap_i64, i1, i2, hget, eA, hw4, hw4', aggBin, heq, p1, hun]
          exact ⟨⟨arrOf u, ls ++ [u], least, st.length + 2, 4, t2⟩, [.cells (I (arrOf u))], by simp only [List.map_append, List.map_cons, List.map_nil, eA], rfl, ⟨.inr ⟨st.length, rfl, rfl, p2⟩, fun h => by simp at h, fun v hv => by
            rcases List.mem_append.1 hv with h | h
            · exact gu v h
            · simp at h; subst h; exact hu, gm⟩, rfl⟩
      · have c2' : ((lostN u : Int) == least) = false := by simp; omega
        have eg : gath (ls, least) u = (ls, least) := by unfold gath; rw [if_neg c1, if_neg (fun h => c2 h.1)]
        rw [eg]
        simp (disch := omega) only [go_sem, ↓reduceIte, Nat.reduceBEq, Nat.reduceEqDiff, Nat.reduceLT, Nat.reduceLeDiff, Nat.reduceAdd, Nat.reduceMul, Nat.reduceSub, reduceCtorEq, Int.reduceLT, Int.reduceLE, Int.reduceEq, Int.reduceBEq, Int.reduceBNe, Int.reduceToNat, Int.reduceAdd, Int.reduceNeg, Int.reduceSub, turnBlk, b1, b2, c1', c2', hpos, hal, hsp, h44, h4', isNormal]
        exact ⟨⟨arrOf u, ls, least, tg, z, st⟩, [.cells (I (arrOf u))], rfl, rfl, ⟨gq, gl, gu, gm⟩, rfl⟩
  obtain ⟨tg, t', v, h82⟩ := c82 d ho P r m o hr hm LB hY t
  subst hLB
  have hun : ∀ n, underL n ((fairL d).map eA) = true := fun n => underL_map (fun x => by simp only [eA, go_sem, ↓reduceIte, Nat.reduceBEq, Nat.reduceEqDiff, Nat.reduceLT, Nat.reduceLeDiff, Nat.reduceAdd, Nat.reduceMul, Nat.reduceSub, reduceCtorEq, Int.reduceLT, Int.reduceLE, Int.reduceEq, Int.reduceBEq, Int.reduceBNe, Int.reduceToNat, Int.reduceAdd, Int.reduceNeg, Int.reduceSub]) (fairL d)
  refine ⟨tg, ?_⟩
  simp only [go_sem, ↓reduceIte, Nat.reduceBEq, Nat.reduceEqDiff, Nat.reduceLT, Nat.reduceLeDiff, Nat.reduceAdd, Nat.reduceMul, Nat.reduceSub, reduceCtorEq, Int.reduceLT, Int.reduceLE, Int.reduceEq, Int.reduceBEq, Int.reduceBNe, Int.reduceToNat, Int.reduceAdd, Int.reduceNeg, Int.reduceSub] at h82 ⊢
  have h31 : P.length + 3 + 1 = P.length + 4 := rfl
  simp only [go_sem, ↓reduceIte, Nat.reduceBEq, Nat.reduceEqDiff, Nat.reduceLT, Nat.reduceLeDiff, Nat.reduceAdd, Nat.reduceMul, Nat.reduceSub, reduceCtorEq, Int.reduceLT, Int.reduceLE, Int.reduceEq, Int.reduceBEq, Int.reduceBNe, Int.reduceToNat, Int.reduceAdd, Int.reduceNeg, Int.reduceSub, h82, afterRange, hush_62_9, h31]
  generalize hcl : conflicts _ _ = cl
  obtain rfl : cl = [(3, 2)] := by rw [← hcl]; kernel_rfl
  have hap : ((P.length + 1) != P.length) = true := by simp
  generalize List.replicate _ ABlk.none = N
  generalize List.replicate _ false = F
  simp only [go_sem, ↓reduceIte, Nat.reduceBEq, Nat.reduceEqDiff, Nat.reduceLT, Nat.reduceLeDiff, Nat.reduceAdd, Nat.reduceMul, Nat.reduceSub, reduceCtorEq, Int.reduceLT, Int.reduceLE, Int.reduceEq, Int.reduceBEq, Int.reduceBNe, Int.reduceToNat, Int.reduceAdd, Int.reduceNeg, Int.reduceSub, refsApart, hap, hun]
  exact ⟨_, rfl⟩
end Go.Proofs.Ytbfodfepgefloaa
end
section
namespace Go.Proofs.Ytbfodfepgefloaa
open Go.Proofs

theorem truth_rng (d : Dr) : ∀ (e : Nat) (t : List Int), t ∈ truthsL d e → ∀ x ∈ t, -1 ≤ x ∧ x < d.cards.length
  | 0, t, h, x, hx => by simp [truthsL] at h; subst h; cases hx
  | e + 1, t, h, x, hx => by
    unfold truthsL at h
    obtain ⟨u, hu, ht⟩ := List.mem_flatMap.1 h
    unfold extK at ht
    obtain ⟨i, hi, rfl⟩ := List.mem_map.1 ht
    rcases List.mem_append.1 hx with h1 | h1
    · exact truth_rng d e u hu x h1
    · simp at h1; subst h1
      have := List.mem_range.1 (List.mem_filter.1 hi).1
      omega
theorem first_lost (d : Dr) : lostN (first d) = leastN (truthsL d d.halves.length) d.halves.length := by
  have := (List.mem_filter.1 (first_mem d)).2
  simpa using this
theorem fairL_get (d : Dr) (k : Nat) {t : List Int} (h : (fairL d)[k]? = some t) : ((fairL d).map eA)[k]? = some (eA t) := by rw [List.getElem?_map, h]; rfl
theorem rowsOf_I (l : List Int) : ∀ n off, off + n ≤ l.length → rowsOf 1 (I l) off n = some (((I l).drop off).take n)
  | 0, off, _ => by simp [rowsOf]
  | n + 1, off, h => by
    have hlt : off < l.length := by omega
    have hx : (I l)[off]? = some (.int .i64 l[off]) := by rw [I_get, List.getElem?_eq_getElem hlt]; rfl
    have hr : rowAt 1 (I l) off = some (.int .i64 l[off]) := by simp [rowAt, hx, AV.one]
    have hd : (I l).drop off = .int .i64 l[off] :: (I l).drop (off + 1) := by
      have hl : off < (I l).length := by rw [I_len]; exact hlt
      rw [List.drop_eq_getElem_cons hl]
      congr 1
      rw [List.getElem?_eq_getElem hl] at hx
      exact Option.some.inj hx
    rw [rowsOf, hr, rowsOf_I l n (off + 1) (by omega), hd]
    rfl
theorem frz_int (h : Heap) (k : Nat) (q : IntKind) (n : Int) : frz h (k + 1) (.int q n) = some (.int q n) := by simp [frz, AV.clean]
theorem frz_I (h : Heap) (k : Nat) : ∀ l : List Int, optL ((I l).map (frz h (k + 1))) = some (I l)
  | [] => rfl
  | x :: l => by
    have e : optL ((I (x :: l)).map (frz h (k + 1))) = match frz h (k + 1) (.int .i64 x), optL ((I l).map (frz h (k + 1))) with
      | some y, some ys => some (y :: ys)
      | _, _ => none := rfl
    rw [e, frz_int, frz_I h k l]; rfl
theorem frz_bsl (h : Heap) (k b n : Nat) (l : List Int) (hb : h.b[b]? = some (.cells (I l))) (hn : n = l.length) : frz h (k + 2) (.bsl b 0 n 1) = some (.lst 0 1 (I l)) := by
  have hr := rowsOf_I l n 0 (by omega)
  have ht : ((I l).drop 0).take n = I l := by rw [List.drop_zero]; exact List.take_of_length_le (by rw [I_len]; omega)
  rw [ht] at hr
  have e : frz h (k + 2) (.bsl b 0 n 1) = match h.b[b]? with
      | some (.cells c) => match rowsOf 1 c 0 n with
        | some xs => match optL (xs.map (frz h (k + 1))) with
          | some ys => some (.lst 0 1 ys)
          | none => none
        | none => none
      | _ => none := rfl
  rw [e, hb]
  simp only
  rw [hr]
  simp only
  rw [frz_I h k l]
/-- Partly lowered by one. -/
def mix (t : List Int) (k : Nat) : List Int := t.take k ++ (t.drop k).map (· + 1)
theorem mix_len (t : List Int) (k : Nat) : (mix t k).length = t.length := by simp [mix]; omega
theorem mix_get {t : List Int} {k : Nat} (h : k < t.length) : (mix t k)[k]? = some (t[k] + 1) := by
  unfold mix
  rw [List.getElem?_append_right (by rw [List.length_take]; omega), List.length_take, Nat.min_eq_left (by omega), Nat.sub_self]
  rw [List.drop_eq_getElem_cons h]; rfl
theorem mix_set {t : List Int} {k : Nat} (h : k < t.length) : (mix t k).set k t[k] = mix t (k + 1) := by
  unfold mix
  have hl : (t.take k).length = k := by rw [List.length_take]; omega
  rw [List.set_append_right _ _ (by omega), hl, Nat.sub_self, List.drop_eq_getElem_cons h, List.map_cons, List.set_cons_zero, List.take_add_one, List.getElem?_eq_getElem h, Option.toList_some, List.append_assoc]
  rfl
theorem mix_zero (t : List Int) : mix t 0 = t.map (· + 1) := by simp [mix]
theorem mix_all (t : List Int) : mix t t.length = t := by simp [mix]
theorem arr_take (t : List Int) : (arrOf t).take t.length = mix t 0 := by
  rw [mix_zero]; unfold arrOf
  rw [List.take_append_of_le_length (by simp)]
  exact List.take_of_length_le (by simp)
theorem splice_len (vs : List AV) : ∀ (c : List AV) (off : Nat), off + vs.length ≤ c.length → splice c off vs = c.take off ++ vs ++ c.drop (off + vs.length) := by
  induction vs with
  | nil => intro c off h; simp [splice]
  | cons v vs ih =>
    intro c off h
    simp only [List.length_cons] at h
    have e : splice c off (v :: vs) = splice (c.set off v) (off + 1) vs := rfl
    rw [e, ih _ _ (by simp; omega)]
    have h1 : (c.set off v).take (off + 1) = c.take off ++ [v] := by
      rw [List.take_add_one, List.getElem?_set_self (by omega), List.take_set_of_le (Nat.le_refl _)]; rfl
    have h2 : (c.set off v).drop (off + 1 + vs.length) = c.drop (off + (vs.length + 1)) := by
      rw [List.drop_set_of_lt (by omega)]; congr 1; omega
    rw [h1, h2]; simp
theorem splice_all (c vs : List AV) (h : vs.length = c.length) : splice c 0 vs = vs := by
  rw [splice_len vs c 0 (by omega)]; simp [h]
theorem c22_no (d : Dr) (hd : d.fits) (he : (checkT d).2.2 ≠ 0) (h : Heap) : callPure (EW tabX) 22 [eD d] h = some (.tup [vI [], .int .i64 0, .int .i64 (checkT d).2.2], h) := by
  have hcl := eD_clean d
  have h60 := c60_no d hd 0 (by omega) 1 0 [] (fun h => absurd rfl h) (by simp) (by rw [enterE_nil]; exact he) ⟨[.cells (eDc d)], []⟩
  rw [enterE_nil] at h60
  have hb1 : ((checkT d).2.2 != 0) = true := by simpa using he
  rw [callPure_eq, w_call _ fn_22 rfl]
  simp only [go_sem, ↓reduceIte, Nat.reduceBEq, Nat.reduceEqDiff, Nat.reduceLT, Nat.reduceLeDiff, Nat.reduceAdd, Nat.reduceMul, Nat.reduceSub, reduceCtorEq, Int.reduceLT, Int.reduceLE, Int.reduceEq, Int.reduceBEq, Int.reduceBNe, Int.reduceToNat, Int.reduceAdd, Int.reduceNeg, Int.reduceSub, eD, eDc, eC_under] at hcl h60 ⊢
  simp only [go_sem, ↓reduceIte, Nat.reduceBEq, Nat.reduceEqDiff, Nat.reduceLT, Nat.reduceLeDiff, Nat.reduceAdd, Nat.reduceMul, Nat.reduceSub, reduceCtorEq, Int.reduceLT, Int.reduceLE, Int.reduceEq, Int.reduceBEq, Int.reduceBNe, Int.reduceToNat, Int.reduceAdd, Int.reduceNeg, Int.reduceSub, eC_clean, h60, hb1, vI_nil]
theorem c22_yes (d : Dr) (hd : d.fits) (he : (checkT d).2.2 = 0) (h : Heap) : callPure (EW tabX) 22 [eD d] h = some (.tup [.lst 0 1 (I (first d)), .int .i64 (lostN (first d)), .int .i64 0], h) := by
  have hcl := eD_clean d
  obtain ⟨ho, B, t, tag, zz, h60, b0, b4, b3, hown⟩ := enter_yes d hd 0 (by omega) 1 0 [] (fun h => absurd rfl h) (by simp) (by rw [enterE_nil]; exact he)
  obtain ⟨tg, t', h62⟩ := c62 d ho B 4 3 _ b4 b3 t
  have hf0 := fairL_get d 0 (fairL_zero d)
  have hfl := (fairL_mem (first_mem d)).2
  have h4 := ho.h4
  rw [← first_lost] at h62
  simp only [eDc, List.cons_append, List.nil_append] at b0
  have o0 := old b0
  rw [callPure_eq, w_call _ fn_22 rfl]
  simp only [go_sem, ↓reduceIte, Nat.reduceBEq, Nat.reduceEqDiff, Nat.reduceLT, Nat.reduceLeDiff, Nat.reduceAdd, Nat.reduceMul, Nat.reduceSub, reduceCtorEq, Int.reduceLT, Int.reduceLE, Int.reduceEq, Int.reduceBEq, Int.reduceBNe, Int.reduceToNat, Int.reduceAdd, Int.reduceNeg, Int.reduceSub, eD, eDc, eC_under] at hcl h60 ⊢
  have hm : (d.halves.length : Int) ≤ 4096 := by omega
  have hm2 : ((d.halves.length : Int) ≤ 4096) = True := by simp; omega
  have hp0 : (0 : Int) ≤ d.halves.length := by omega
  have hal := arrOf_len (t := first d) (by omega)
  have h44 : 4 ≤ (arrOf (first d)).length := by omega
  have h4' : (arrOf (first d)).take 4 = arrOf (first d) := List.take_of_length_le (by omega)
  have hfz : ∀ B' : List ABlk, frz ⟨B ++ [.cells (I (first d))], t'⟩ 6 (.tup [.bsl B.length 0 d.halves.length 1, .int .i64 (lostN (first d)), .int .i64 0]) = some (.tup [.lst 0 1 (I (first d)), .int .i64 (lostN (first d)), .int .i64 0]) := fun _ => by
    have h1 := frz_bsl ⟨B ++ [.cells (I (first d))], t'⟩ 3 B.length d.halves.length (first d) (by simp) hfl.symm
    have e : frz ⟨B ++ [.cells (I (first d))], t'⟩ 6 (.tup [.bsl B.length 0 d.halves.length 1, .int .i64 (lostN (first d)), .int .i64 0]) = match optL [frz ⟨B ++ [.cells (I (first d))], t'⟩ 5 (.bsl B.length 0 d.halves.length 1), frz ⟨B ++ [.cells (I (first d))], t'⟩ 5 (.int .i64 (lostN (first d))), frz ⟨B ++ [.cells (I (first d))], t'⟩ 5 (.int .i64 0)] with
      | some ys => some (.tup ys)
      | none => none := rfl
    rw [e, h1, frz_int, frz_int]; rfl
  have hnu : ¬ (B.length < 0) := by omega
  by_cases h0 : d.halves.length = 0
  · have hnil : first d = [] := List.eq_nil_of_length_eq_zero (by omega)
    rw [h0] at hfz
    rw [hnil] at hfz
    have hfz := hfz []
    simp only [I_nil] at hfz
    simp only [go_sem, ↓reduceIte, Nat.reduceBEq, Nat.reduceEqDiff, Nat.reduceLT, Nat.reduceLeDiff, Nat.reduceAdd, Nat.reduceMul, Nat.reduceSub, reduceCtorEq, Int.reduceLT, Int.reduceLE, Int.reduceEq, Int.reduceBEq, Int.reduceBNe, Int.reduceToNat, Int.reduceAdd, Int.reduceNeg, Int.reduceSub, eC_clean, h60, h62, b0, opMakeSlice, opCopy, hf0, eA, h0, o0, hal, h44, h4']
    rw [w_rounds_u (fun k => [(32, .int .i64 k)]) 0 (.exit 0) [(32, .int .i64 0)] ?_ ?_ ?_ rfl]
    · simp only [go_sem, ↓reduceIte, Nat.reduceBEq, Nat.reduceEqDiff, Nat.reduceLT, Nat.reduceLeDiff, Nat.reduceAdd, Nat.reduceMul, Nat.reduceSub, reduceCtorEq, Int.reduceLT, Int.reduceLE, Int.reduceEq, Int.reduceBEq, Int.reduceBNe, Int.reduceToNat, Int.reduceAdd, Int.reduceNeg, Int.reduceSub, hnu, orW_none, hfz, hnil]
    · simp only [go_sem, ↓reduceIte, Nat.reduceBEq, Nat.reduceEqDiff, Nat.reduceLT, Nat.reduceLeDiff, Nat.reduceAdd, Nat.reduceMul, Nat.reduceSub, reduceCtorEq, Int.reduceLT, Int.reduceLE, Int.reduceEq, Int.reduceBEq, Int.reduceBNe, Int.reduceToNat, Int.reduceAdd, Int.reduceNeg, Int.reduceSub]
    · intro k hk; omega
    · simp only [go_sem, ↓reduceIte, Nat.reduceBEq, Nat.reduceEqDiff, Nat.reduceLT, Nat.reduceLeDiff, Nat.reduceAdd, Nat.reduceMul, Nat.reduceSub, reduceCtorEq, Int.reduceLT, Int.reduceLE, Int.reduceEq, Int.reduceBEq, Int.reduceBNe, Int.reduceToNat, Int.reduceAdd, Int.reduceNeg, Int.reduceSub]
  · have hpos : 0 < d.halves.length := by omega
    have hat := arr_take (first d)
    rw [hfl] at hat
    have hml := mix_len (first d) 0
    have hsp := splice_all (List.replicate d.halves.length (AV.int .i64 0)) (I (mix (first d) 0)) (by rw [I_len, List.length_replicate]; omega)
    have hrl : (List.replicate d.halves.length (AV.int .i64 0)).length = d.halves.length := List.length_replicate
    simp only [go_sem, ↓reduceIte, Nat.reduceBEq, Nat.reduceEqDiff, Nat.reduceLT, Nat.reduceLeDiff, Nat.reduceAdd, Nat.reduceMul, Nat.reduceSub, reduceCtorEq, Int.reduceLT, Int.reduceLE, Int.reduceEq, Int.reduceBEq, Int.reduceBNe, Int.reduceToNat, Int.reduceAdd, Int.reduceNeg, Int.reduceSub, eC_clean, h60, h62, b0, opMakeSlice, opCopy, hm, hf0, eA, hp0, o0, hal, h44, h4', hat, hsp, hrl, hpos]
    rw [w_rounds_h (fun k => [(32, .int .i64 k)]) (fun k => ⟨B ++ [.cells (I (mix (first d) k))], t'⟩) d.halves.length (.exit 0) [(32, .int .i64 d.halves.length)] ⟨B ++ [.cells (I (first d))], t'⟩ ?_ ?_ ?_ ?_ rfl]
    · simp only [go_sem, ↓reduceIte, Nat.reduceBEq, Nat.reduceEqDiff, Nat.reduceLT, Nat.reduceLeDiff, Nat.reduceAdd, Nat.reduceMul, Nat.reduceSub, reduceCtorEq, Int.reduceLT, Int.reduceLE, Int.reduceEq, Int.reduceBEq, Int.reduceBNe, Int.reduceToNat, Int.reduceAdd, Int.reduceNeg, Int.reduceSub, hnu, orW_none, hfz []]
    · simp only [go_sem, ↓reduceIte, Nat.reduceBEq, Nat.reduceEqDiff, Nat.reduceLT, Nat.reduceLeDiff, Nat.reduceAdd, Nat.reduceMul, Nat.reduceSub, reduceCtorEq, Int.reduceLT, Int.reduceLE, Int.reduceEq, Int.reduceBEq, Int.reduceBNe, Int.reduceToNat, Int.reduceAdd, Int.reduceNeg, Int.reduceSub]
    · simp only [go_sem, ↓reduceIte, Nat.reduceBEq, Nat.reduceEqDiff, Nat.reduceLT, Nat.reduceLeDiff, Nat.reduceAdd, Nat.reduceMul, Nat.reduceSub, reduceCtorEq, Int.reduceLT, Int.reduceLE, Int.reduceEq, Int.reduceBEq, Int.reduceBNe, Int.reduceToNat, Int.reduceAdd, Int.reduceNeg, Int.reduceSub]
    · intro k hk
      have hk' : k < (first d).length := by omega
      have hki : (k : Int) < d.halves.length := by omega
      have hgk := mix_get hk'
      have hml := mix_len (first d) k
      have hst := mix_set hk'
      have hr := truth_rng d _ _ (fairL_mem (first_mem d)).1 (first d)[k] (List.getElem_mem hk')
      have hc4 := ho.c4
      have hw : (first d)[k] + 1 - 1 = (first d)[k] := by omega
      have hk1 : k + 1 ≤ (first d).length := by omega
      simp (disch := omega) only [go_sem, ↓reduceIte, Nat.reduceBEq, Nat.reduceEqDiff, Nat.reduceLT, Nat.reduceLeDiff, Nat.reduceAdd, Nat.reduceMul, Nat.reduceSub, reduceCtorEq, Int.reduceLT, Int.reduceLE, Int.reduceEq, Int.reduceBEq, Int.reduceBNe, Int.reduceToNat, Int.reduceAdd, Int.reduceNeg, Int.reduceSub, hki, hk, hgk, hml, wrap_i64, Nat.mul_one, List.getElem?_drop, hw, hk1, splice1, I_set, hst]
    · have e := mix_all (first d)
      rw [hfl] at e
      simp only [go_sem, ↓reduceIte, Nat.reduceBEq, Nat.reduceEqDiff, Nat.reduceLT, Nat.reduceLeDiff, Nat.reduceAdd, Nat.reduceMul, Nat.reduceSub, reduceCtorEq, Int.reduceLT, Int.reduceLE, Int.reduceEq, Int.reduceBEq, Int.reduceBNe, Int.reduceToNat, Int.reduceAdd, Int.reduceNeg, Int.reduceSub, e]
end Go.Proofs.Ytbfodfepgefloaa
end
section
namespace Go.Proofs.Ytbfodfepgefloaa
open Go.Proofs

def cellA (t : List Int) : ABlk := .cells (I (arrOf t))
theorem arr_get {t : List Int} {k : Nat} (h : k < t.length) : (arrOf t)[k]? = some (t.getD k 0 + 1) := by
  unfold arrOf
  rw [List.getElem?_append_left (by simpa using h), List.getElem?_map, List.getD_eq_getElem?_getD, List.getElem?_eq_getElem h]; rfl
/-- The best so far, behind so many truths. -/
def bestN (d : Dr) (k : Nat) : List Int := bestL (lostT (first d)) (((fairL d).drop 1).take k)
def bestV (d : Dr) : Nat → AV
  | 0 => .lst 1 0 []
  | k + 1 => vI (bestN d k)
theorem bestN_len (d : Dr) (h4 : d.halves.length ≤ 4) (k : Nat) : (bestN d k).length ≤ 4 := by
  refine bestL_len 4 _ _ ?_ ?_
  · have := lostN_le (first d); have := (fairL_mem (first_mem d)).2; unfold lostN at *; unfold lostT; omega
  · intro t ht
    have := (fairL_mem (List.mem_of_mem_drop (List.mem_of_mem_take ht))).2; omega
theorem bestV_zero (d : Dr) : bestV d 0 = .lst 1 0 [] := rfl
theorem bestV_under (d : Dr) (n k : Nat) : (bestV d k).under n = true := by cases k <;> simp only [bestV, vI_under, go_sem, ↓reduceIte, Nat.reduceBEq, Nat.reduceEqDiff, Nat.reduceLT, Nat.reduceLeDiff, Nat.reduceAdd, Nat.reduceMul, Nat.reduceSub, reduceCtorEq, Int.reduceLT, Int.reduceLE, Int.reduceEq, Int.reduceBEq, Int.reduceBNe, Int.reduceToNat, Int.reduceAdd, Int.reduceNeg, Int.reduceSub]
theorem lostT_bits {t : List Int} (h : t.length ≤ 4) : bitsL (setN (fun i => decide (t.getD i 0 = -1)) t.length) t.length = lostT t := by
  rw [bitsL_setN _ _ h]; rfl
theorem c24_no (d : Dr) (hd : d.fits) (he : (checkT d).2.2 ≠ 0) (h : Heap) : callPure (EW tabX) 24 [eD d] h = some (.tup [vI [], .int .i64 (checkT d).2.2], h) := by
  have hcl := eD_clean d
  have h60 := c60_no d hd 0 (by omega) 1 0 [] (fun h => absurd rfl h) (by simp) (by rw [enterE_nil]; exact he) ⟨[.cells (eDc d)], []⟩
  rw [enterE_nil] at h60
  have hb1 : ((checkT d).2.2 != 0) = true := by simpa using he
  rw [callPure_eq, w_call _ fn_24 rfl]
  simp only [go_sem, ↓reduceIte, Nat.reduceBEq, Nat.reduceEqDiff, Nat.reduceLT, Nat.reduceLeDiff, Nat.reduceAdd, Nat.reduceMul, Nat.reduceSub, reduceCtorEq, Int.reduceLT, Int.reduceLE, Int.reduceEq, Int.reduceBEq, Int.reduceBNe, Int.reduceToNat, Int.reduceAdd, Int.reduceNeg, Int.reduceSub, eD, eDc, eC_under] at hcl h60 ⊢
  simp only [go_sem, ↓reduceIte, Nat.reduceBEq, Nat.reduceEqDiff, Nat.reduceLT, Nat.reduceLeDiff, Nat.reduceAdd, Nat.reduceMul, Nat.reduceSub, reduceCtorEq, Int.reduceLT, Int.reduceLE, Int.reduceEq, Int.reduceBEq, Int.reduceBNe, Int.reduceToNat, Int.reduceAdd, Int.reduceNeg, Int.reduceSub, eC_clean, h60, hb1, vI_nil]
theorem c24_yes (d : Dr) (hd : d.fits) (he : (checkT d).2.2 = 0) (h : Heap) : callPure (EW tabX) 24 [eD d] h = some (.tup [vI (forged d), .int .i64 0], h) := by
  have hcl := eD_clean d
  obtain ⟨ho, B, t, tag, zz, h60, b0, b4, b3, hown⟩ := enter_yes d hd 0 (by omega) 1 0 [] (fun h => absurd rfl h) (by simp) (by rw [enterE_nil]; exact he)
  obtain ⟨tg, t', h62⟩ := c62 d ho B 4 3 _ b4 b3 t
  have h4 := ho.h4
  have hfl := fairL_len d ho
  simp only [eDc, List.cons_append, List.nil_append] at b0
  have o0 := old b0
  have hpos : 0 < (fairL d).length := List.length_pos_iff.2 (fairL_ne d)
  rw [callPure_eq, w_call _ fn_24 rfl]
  simp only [go_sem, ↓reduceIte, Nat.reduceBEq, Nat.reduceEqDiff, Nat.reduceLT, Nat.reduceLeDiff, Nat.reduceAdd, Nat.reduceMul, Nat.reduceSub, reduceCtorEq, Int.reduceLT, Int.reduceLE, Int.reduceEq, Int.reduceBEq, Int.reduceBNe, Int.reduceToNat, Int.reduceAdd, Int.reduceNeg, Int.reduceSub, eD, eDc, eC_under] at hcl h60 ⊢
  simp only [go_sem, ↓reduceIte, Nat.reduceBEq, Nat.reduceEqDiff, Nat.reduceLT, Nat.reduceLeDiff, Nat.reduceAdd, Nat.reduceMul, Nat.reduceSub, reduceCtorEq, Int.reduceLT, Int.reduceLE, Int.reduceEq, Int.reduceBEq, Int.reduceBNe, Int.reduceToNat, Int.reduceAdd, Int.reduceNeg, Int.reduceSub, eC_clean, h60, h62, b0]
  rw [w_rounds_h (fun k => [(2, bestV d k), (27, .int .i64 k)]) (fun k => ⟨B ++ ((fairL d).take k).map cellA, t'⟩) (fairL d).length (.exit 0) [(2, vI (forged d)), (27, .int .i64 (fairL d).length)] ⟨B ++ (fairL d).map cellA, t'⟩ ?_ ?_ ?_ ?_ rfl]
  · simp only [go_sem, ↓reduceIte, Nat.reduceBEq, Nat.reduceEqDiff, Nat.reduceLT, Nat.reduceLeDiff, Nat.reduceAdd, Nat.reduceMul, Nat.reduceSub, reduceCtorEq, Int.reduceLT, Int.reduceLE, Int.reduceEq, Int.reduceBEq, Int.reduceBNe, Int.reduceToNat, Int.reduceAdd, Int.reduceNeg, Int.reduceSub, vI_clean, vI_under]
  · simp only [go_sem, ↓reduceIte, Nat.reduceBEq, Nat.reduceEqDiff, Nat.reduceLT, Nat.reduceLeDiff, Nat.reduceAdd, Nat.reduceMul, Nat.reduceSub, reduceCtorEq, Int.reduceLT, Int.reduceLE, Int.reduceEq, Int.reduceBEq, Int.reduceBNe, Int.reduceToNat, Int.reduceAdd, Int.reduceNeg, Int.reduceSub, bestV_zero]
  · simp only [go_sem, ↓reduceIte, Nat.reduceBEq, Nat.reduceEqDiff, Nat.reduceLT, Nat.reduceLeDiff, Nat.reduceAdd, Nat.reduceMul, Nat.reduceSub, reduceCtorEq, Int.reduceLT, Int.reduceLE, Int.reduceEq, Int.reduceBEq, Int.reduceBNe, Int.reduceToNat, Int.reduceAdd, Int.reduceNeg, Int.reduceSub]
  · intro k hk
    have hx := List.getElem?_eq_getElem hk
    have hki : (k : Int) < (fairL d).length := by omega
    have hm := fairL_mem (List.getElem_mem hk)
    have hge := fairL_get d k hx
    rw [map_succ cellA hx, ← List.append_assoc]
    have c0 := old b0 (((fairL d).take k).map cellA)
    generalize hu : (fairL d)[k] = u at hx hm hge ⊢
    generalize B ++ ((fairL d).take k).map cellA = C at c0 ⊢
    have c0' := old c0
    have hul := hm.2
    have hal := arrOf_len (t := u) (by omega)
    have hpos4 : 0 < (arrOf u).length := by omega
    have h44 : 4 ≤ (arrOf u).length := by omega
    have h4' : (arrOf u).take 4 = arrOf u := List.take_of_length_le (by omega)
    have hsp := fun x0 x1 x2 x3 => splice4 x0 x1 x2 x3 (arrOf u) hal
    have hst4 := setN_lt (fun i => decide (u.getD i 0 = -1)) d.halves.length h4
    have h63 := c63 (setN (fun i => decide (u.getD i 0 = -1)) d.halves.length) d.halves.length hst4 h4
    have hbits := lostT_bits (t := u) (by omega)
    rw [hul] at hbits
    rw [hbits] at h63
    simp (disch := omega) only [go_sem, ↓reduceIte, Nat.reduceBEq, Nat.reduceEqDiff, Nat.reduceLT, Nat.reduceLeDiff, Nat.reduceAdd, Nat.reduceMul, Nat.reduceSub, reduceCtorEq, Int.reduceLT, Int.reduceLE, Int.reduceEq, Int.reduceBEq, Int.reduceBNe, Int.reduceToNat, Int.reduceAdd, Int.reduceNeg, Int.reduceSub, hki, hge, eA, hal, hpos4, h44, h4', hsp, c0']
    rw [w_rounds_u (fun j => [(9, .int .i64 (setN (fun i => decide (u.getD i 0 = -1)) j)), (35, .int .i64 j)]) d.halves.length (.exit 2) [(9, .int .i64 (setN (fun i => decide (u.getD i 0 = -1)) d.halves.length)), (35, .int .i64 d.halves.length)] ?_ ?_ ?_ rfl]
    · cases k with
      | zero =>
        have hu0 : u = first d := by rw [fairL_zero] at hx; exact (Option.some.inj hx).symm
        have e : bestV d (0 + 1) = vI (lostT u) := by rw [hu0]; rfl
        rw [e]
        simp (disch := omega) only [go_sem, ↓reduceIte, Nat.reduceBEq, Nat.reduceEqDiff, Nat.reduceLT, Nat.reduceLeDiff, Nat.reduceAdd, Nat.reduceMul, Nat.reduceSub, reduceCtorEq, Int.reduceLT, Int.reduceLE, Int.reduceEq, Int.reduceBEq, Int.reduceBNe, Int.reduceToNat, Int.reduceAdd, Int.reduceNeg, Int.reduceSub, c0', h63, vI_clean, vI_under, wrap_i64, cellA]
      | succ k =>
        have hk0 : (((k : Int) + 1) == 0) = false := by rw [beq_eq_false_iff_ne]; omega
        have hx1 : ((fairL d).drop 1)[k]? = some u := by rw [List.getElem?_drop, Nat.add_comm]; exact hx
        have hbs : bestN d (k + 1) = if ltB (lostT u) (bestN d k) then lostT u else bestN d k := bestL_succ _ hx1
        have hbl := bestN_len d h4 k
        have h64 := c64 (lostT u) (bestN d k) (zT 1 (lostT u).length) (zT 1 (bestN d k).length) zT_ne zT_ne (by have := lostN_le u; unfold lostN at this; unfold lostT; omega) (by omega)
        have hneg := cmpL_neg (lostT u) (bestN d k)
        have e1 : bestV d (k + 1) = vI (bestN d k) := rfl
        have e2 : bestV d (k + 1 + 1) = vI (bestN d (k + 1)) := rfl
        have h64' : ∀ h, callPure (EW tabX) 64 [vI (lostT u), vI (bestN d k)] h = some (.int .i64 (cmpL (lostT u) (bestN d k)), h) := h64
        rw [e1, e2, hbs]
        cases hlt : ltB (lostT u) (bestN d k) with
        | true =>
          rw [hlt] at hneg
          simp (disch := omega) only [go_sem, ↓reduceIte, Nat.reduceBEq, Nat.reduceEqDiff, Nat.reduceLT, Nat.reduceLeDiff, Nat.reduceAdd, Nat.reduceMul, Nat.reduceSub, reduceCtorEq, Int.reduceLT, Int.reduceLE, Int.reduceEq, Int.reduceBEq, Int.reduceBNe, Int.reduceToNat, Int.reduceAdd, Int.reduceNeg, Int.reduceSub, c0', h63, vI_clean, vI_under, wrap_i64, cellA, hk0, h64', hneg]
        | false =>
          rw [hlt] at hneg
          simp (disch := omega) only [go_sem, ↓reduceIte, Nat.reduceBEq, Nat.reduceEqDiff, Nat.reduceLT, Nat.reduceLeDiff, Nat.reduceAdd, Nat.reduceMul, Nat.reduceSub, reduceCtorEq, Int.reduceLT, Int.reduceLE, Int.reduceEq, Int.reduceBEq, Int.reduceBNe, Int.reduceToNat, Int.reduceAdd, Int.reduceNeg, Int.reduceSub, c0', h63, vI_clean, vI_under, wrap_i64, cellA, hk0, h64', hneg]
    · simp only [go_sem, ↓reduceIte, Nat.reduceBEq, Nat.reduceEqDiff, Nat.reduceLT, Nat.reduceLeDiff, Nat.reduceAdd, Nat.reduceMul, Nat.reduceSub, reduceCtorEq, Int.reduceLT, Int.reduceLE, Int.reduceEq, Int.reduceBEq, Int.reduceBNe, Int.reduceToNat, Int.reduceAdd, Int.reduceNeg, Int.reduceSub, setN]
    · intro j hj
      have hji : (j : Int) < d.halves.length := by omega
      have hj4 : j < 4 := by omega
      have hgj := arr_get (t := u) (k := j) (by omega)
      have hst := setN_lt (fun i => decide (u.getD i 0 = -1)) j (by omega)
      have hor := or_bit' _ j hst hj4
      rw [setN_succ]
      by_cases hb : u.getD j 0 = -1
      · rw [if_pos (by simpa using hb)]
        have hz : (u.getD j 0 + 1 == 0) = true := by rw [hb]; rfl
        simp (disch := omega) only [go_sem, ↓reduceIte, Nat.reduceBEq, Nat.reduceEqDiff, Nat.reduceLT, Nat.reduceLeDiff, Nat.reduceAdd, Nat.reduceMul, Nat.reduceSub, reduceCtorEq, Int.reduceLT, Int.reduceLE, Int.reduceEq, Int.reduceBEq, Int.reduceBNe, Int.reduceToNat, Int.reduceAdd, Int.reduceNeg, Int.reduceSub, hji, hj4, hgj, hz, wrap_i64, Nat.mul_one, List.getElem?_drop]
        rw [← hor]
        rfl
      · rw [if_neg (by simpa using hb)]
        have hz : (u.getD j 0 + 1 == 0) = false := by rw [beq_eq_false_iff_ne]; omega
        simp (disch := omega) only [go_sem, ↓reduceIte, Nat.reduceBEq, Nat.reduceEqDiff, Nat.reduceLT, Nat.reduceLeDiff, Nat.reduceAdd, Nat.reduceMul, Nat.reduceSub, reduceCtorEq, Int.reduceLT, Int.reduceLE, Int.reduceEq, Int.reduceBEq, Int.reduceBNe, Int.reduceToNat, Int.reduceAdd, Int.reduceNeg, Int.reduceSub, hji, hj4, hgj, hz, wrap_i64, Nat.mul_one, List.getElem?_drop]
    · simp only [go_sem, ↓reduceIte, Nat.reduceBEq, Nat.reduceEqDiff, Nat.reduceLT, Nat.reduceLeDiff, Nat.reduceAdd, Nat.reduceMul, Nat.reduceSub, reduceCtorEq, Int.reduceLT, Int.reduceLE, Int.reduceEq, Int.reduceBEq, Int.reduceBNe, Int.reduceToNat, Int.reduceAdd, Int.reduceNeg, Int.reduceSub]
  · have e : bestV d (fairL d).length = vI (forged d) := by
      obtain ⟨m, hm⟩ : ∃ m, (fairL d).length = m + 1 := ⟨(fairL d).length - 1, by omega⟩
      rw [hm]
      show vI (bestL (lostT (first d)) (((fairL d).drop 1).take m)) = vI (forged d)
      rw [List.take_of_length_le (by rw [List.length_drop]; omega)]
      rfl
    simp only [go_sem, ↓reduceIte, Nat.reduceBEq, Nat.reduceEqDiff, Nat.reduceLT, Nat.reduceLeDiff, Nat.reduceAdd, Nat.reduceMul, Nat.reduceSub, reduceCtorEq, Int.reduceLT, Int.reduceLE, Int.reduceEq, Int.reduceBEq, Int.reduceBNe, Int.reduceToNat, Int.reduceAdd, Int.reduceNeg, Int.reduceSub, e]
end Go.Proofs.Ytbfodfepgefloaa
end
section
namespace Go.Proofs.Ytbfodfepgefloaa
open Go.Proofs

theorem enter_one (d : Dr) (n below : Int) : enterE d below [n] = askedE d n below := by
  unfold askedE enterE
  split
  · simp only [List.any_cons, List.any_nil, Bool.or_false]
    have := out_not 0 (below - 1) n
    cases ho : out 0 (below - 1) n <;> rw [ho] at this <;> rw [← this] <;> rfl
  · rfl
/-- The cards that a half is of in some of the truths, as a number. -/
def whoN (e : Nat) : List (List Int) → Nat → Nat
  | _, 0 => 0
  | l, k + 1 => if 0 ≤ (l.getD k []).getD e 0 then whoN e l k ||| 2 ^ ((l.getD k []).getD e 0).toNat else whoN e l k
theorem whoN_succ (e : Nat) (l : List (List Int)) (k : Nat) : whoN e l (k + 1) = if 0 ≤ (l.getD k []).getD e 0 then whoN e l k ||| 2 ^ ((l.getD k []).getD e 0).toNat else whoN e l k := rfl
theorem whoN_zero (e : Nat) (l : List (List Int)) : whoN e l 0 = 0 := rfl
theorem whoN_lt (e : Nat) (l : List (List Int)) (hr : ∀ k, k < l.length → (l.getD k []).getD e 0 < 4) : ∀ k, k ≤ l.length → whoN e l k < 16
  | 0, _ => by simp [whoN]
  | k + 1, h => by
    have a := whoN_lt e l hr k (by omega)
    have b := hr k (by omega)
    rw [whoN_succ]
    split
    · exact or_lt ⟨_, a⟩ ⟨((l.getD k []).getD e 0).toNat, by omega⟩
    · exact a
theorem whoN_test (e : Nat) (l : List (List Int)) (hr : ∀ k, k < l.length → (l.getD k []).getD e 0 < 4) (c : Nat) (hc : c < 4) : ∀ k, k ≤ l.length → (whoN e l k).testBit c = (l.take k).any fun t => t.getD e 0 == (c : Int)
  | 0, _ => by simp [whoN]
  | k + 1, h => by
    have a := whoN_lt e l hr k (by omega)
    have b := hr k (by omega)
    have ih := whoN_test e l hr c hc k (by omega)
    have hx := List.getElem?_eq_getElem (show k < l.length by omega)
    have e1 : l.getD k [] = l[k] := by rw [List.getD_eq_getElem?_getD, hx]; rfl
    rw [List.take_add_one, hx, Option.toList_some, List.any_append, ← ih]
    simp only [List.any_cons, List.any_nil, Bool.or_false]
    rw [whoN_succ]
    rw [e1] at b ⊢
    by_cases h0 : 0 ≤ l[k].getD e 0
    · rw [if_pos h0]
      have := or_test ⟨_, a⟩ ⟨(l[k].getD e 0).toNat, by omega⟩ ⟨c, hc⟩
      simp only [Fin.mk.injEq] at this
      rw [this]
      congr 1
      rw [Bool.eq_iff_iff]
      rw [decide_eq_true_eq, beq_iff_eq]
      omega
    · rw [if_neg h0]
      have : (l[k].getD e 0 == (c : Int)) = false := by rw [beq_eq_false_iff_ne]; omega
      rw [this, Bool.or_false]
theorem whoN_bits (d : Dr) (ho : d.Ok) (e : Nat) (hr : ∀ k, k < (fairL d).length → ((fairL d).getD k []).getD e 0 < 4) : bitsL (whoN e (fairL d) (fairL d).length) d.cards.length = whoseL d e d.cards.length := by
  have hc4 := ho.c4
  unfold bitsL whoseL
  congr 1
  apply List.filter_congr
  intro c hc
  have hc := List.mem_range.1 hc
  rw [whoN_test e (fairL d) hr c (by omega) _ (Nat.le_refl _), List.take_length]
theorem fair_rng (d : Dr) (ho : d.Ok) (e : Nat) (he : e < d.halves.length) (k : Nat) (hk : k < (fairL d).length) : -1 ≤ ((fairL d).getD k []).getD e 0 ∧ ((fairL d).getD k []).getD e 0 < 4 := by
  have hx := List.getElem?_eq_getElem hk
  have e1 : (fairL d).getD k [] = (fairL d)[k] := by rw [List.getD_eq_getElem?_getD, hx]; rfl
  have hm := fairL_mem (List.getElem_mem hk)
  have hl : e < (fairL d)[k].length := by omega
  have := truth_rng d _ _ hm.1 (fairL d)[k][e] (List.getElem_mem hl)
  have e2 : (fairL d)[k].getD e 0 = (fairL d)[k][e] := by rw [List.getD_eq_getElem?_getD, List.getElem?_eq_getElem hl]; rfl
  have := ho.c4
  rw [e1, e2]; omega
theorem c26_no (d : Dr) (hd : d.fits) (e : Int) (he : askedE d e d.halves.length ≠ 0) (h : Heap) : callPure (EW tabX) 26 [eD d, .int .i64 e] h = some (.tup [vI [], .int .i64 (askedE d e d.halves.length)], h) := by
  have lh := hd.lh
  have hcl := eD_clean d
  have h60 := c60_no d hd d.halves.length (by omega) 1 1 [e] (fun _ => rfl) (by simp) (by rw [enter_one]; exact he) ⟨[.cells (eDc d)], []⟩
  rw [enter_one] at h60
  have hb1 : (askedE d e d.halves.length != 0) = true := by simpa using he
  rw [callPure_eq, w_call _ fn_26 rfl]
  simp only [go_sem, ↓reduceIte, Nat.reduceBEq, Nat.reduceEqDiff, Nat.reduceLT, Nat.reduceLeDiff, Nat.reduceAdd, Nat.reduceMul, Nat.reduceSub, reduceCtorEq, Int.reduceLT, Int.reduceLE, Int.reduceEq, Int.reduceBEq, Int.reduceBNe, Int.reduceToNat, Int.reduceAdd, Int.reduceNeg, Int.reduceSub, eD, eDc, eC_under, I_c, I_nil] at hcl h60 ⊢
  simp only [go_sem, ↓reduceIte, Nat.reduceBEq, Nat.reduceEqDiff, Nat.reduceLT, Nat.reduceLeDiff, Nat.reduceAdd, Nat.reduceMul, Nat.reduceSub, reduceCtorEq, Int.reduceLT, Int.reduceLE, Int.reduceEq, Int.reduceBEq, Int.reduceBNe, Int.reduceToNat, Int.reduceAdd, Int.reduceNeg, Int.reduceSub, eC_clean, h60, hb1, vI_nil]
theorem c26_yes (d : Dr) (hd : d.fits) (e : Nat) (he : askedE d e d.halves.length = 0) (h : Heap) : callPure (EW tabX) 26 [eD d, .int .i64 e] h = some (.tup [vI (whoseL d e d.cards.length), .int .i64 0], h) := by
  have hcl := eD_clean d
  have lh := hd.lh
  obtain ⟨ho, B, t, tag, zz, h60, b0, b4, b3, hown⟩ := enter_yes d hd d.halves.length (by omega) 1 1 [(e : Int)] (fun _ => rfl) (by simp) (by rw [enter_one]; exact he)
  obtain ⟨_, a0, a1⟩ := asked_yes he
  have heh : e < d.halves.length := by omega
  obtain ⟨tg, t', h62⟩ := c62 d ho B 4 3 _ b4 b3 t
  have h4 := ho.h4
  have hfl := fairL_len d ho
  have hrng := fair_rng d ho e heh
  have hlt := whoN_lt e (fairL d) (fun k hk => (hrng k hk).2)
  simp only [eDc, List.cons_append, List.nil_append] at b0
  have o0 := old b0
  have h63 := c63 (whoN e (fairL d) (fairL d).length) d.cards.length (hlt _ (Nat.le_refl _)) ho.c4
  rw [whoN_bits d ho e fun k hk => (hrng k hk).2] at h63
  rw [callPure_eq, w_call _ fn_26 rfl]
  simp only [go_sem, ↓reduceIte, Nat.reduceBEq, Nat.reduceEqDiff, Nat.reduceLT, Nat.reduceLeDiff, Nat.reduceAdd, Nat.reduceMul, Nat.reduceSub, reduceCtorEq, Int.reduceLT, Int.reduceLE, Int.reduceEq, Int.reduceBEq, Int.reduceBNe, Int.reduceToNat, Int.reduceAdd, Int.reduceNeg, Int.reduceSub, eD, eDc, eC_under, I_c, I_nil] at hcl h60 ⊢
  simp only [go_sem, ↓reduceIte, Nat.reduceBEq, Nat.reduceEqDiff, Nat.reduceLT, Nat.reduceLeDiff, Nat.reduceAdd, Nat.reduceMul, Nat.reduceSub, reduceCtorEq, Int.reduceLT, Int.reduceLE, Int.reduceEq, Int.reduceBEq, Int.reduceBNe, Int.reduceToNat, Int.reduceAdd, Int.reduceNeg, Int.reduceSub, eC_clean, h60, h62, b0]
  rw [w_rounds_h (fun k => [(8, .int .i64 (whoN e (fairL d) k)), (33, .int .i64 k)]) (fun k => ⟨B ++ ((fairL d).take k).map cellA, t'⟩) (fairL d).length (.exit 0) [(8, .int .i64 (whoN e (fairL d) (fairL d).length)), (33, .int .i64 (fairL d).length)] ⟨B ++ (fairL d).map cellA, t'⟩ ?_ ?_ ?_ ?_ rfl]
  · simp only [go_sem, ↓reduceIte, Nat.reduceBEq, Nat.reduceEqDiff, Nat.reduceLT, Nat.reduceLeDiff, Nat.reduceAdd, Nat.reduceMul, Nat.reduceSub, reduceCtorEq, Int.reduceLT, Int.reduceLE, Int.reduceEq, Int.reduceBEq, Int.reduceBNe, Int.reduceToNat, Int.reduceAdd, Int.reduceNeg, Int.reduceSub, o0, h63, vI_clean, vI_under]
  · simp only [go_sem, ↓reduceIte, Nat.reduceBEq, Nat.reduceEqDiff, Nat.reduceLT, Nat.reduceLeDiff, Nat.reduceAdd, Nat.reduceMul, Nat.reduceSub, reduceCtorEq, Int.reduceLT, Int.reduceLE, Int.reduceEq, Int.reduceBEq, Int.reduceBNe, Int.reduceToNat, Int.reduceAdd, Int.reduceNeg, Int.reduceSub, whoN_zero]
  · simp only [go_sem, ↓reduceIte, Nat.reduceBEq, Nat.reduceEqDiff, Nat.reduceLT, Nat.reduceLeDiff, Nat.reduceAdd, Nat.reduceMul, Nat.reduceSub, reduceCtorEq, Int.reduceLT, Int.reduceLE, Int.reduceEq, Int.reduceBEq, Int.reduceBNe, Int.reduceToNat, Int.reduceAdd, Int.reduceNeg, Int.reduceSub]
  · intro k hk
    have hx := List.getElem?_eq_getElem hk
    have hki : (k : Int) < (fairL d).length := by omega
    have hm := fairL_mem (List.getElem_mem hk)
    have hge := fairL_get d k hx
    have hrk := hrng k hk
    have hltk := hlt k (by omega)
    have e1 : (fairL d).getD k [] = (fairL d)[k] := by rw [List.getD_eq_getElem?_getD, hx]; rfl
    rw [map_succ cellA hx, ← List.append_assoc]
    have c0 := old b0 (((fairL d).take k).map cellA)
    rw [whoN_succ]
    rw [e1] at hrk ⊢
    generalize hu : (fairL d)[k] = u at hx hm hge hrk ⊢
    generalize B ++ ((fairL d).take k).map cellA = C at c0 ⊢
    have c0' := old c0
    have hul := hm.2
    have hal := arrOf_len (t := u) (by omega)
    have hpos4 : 0 < (arrOf u).length := by omega
    have h44 : 4 ≤ (arrOf u).length := by omega
    have h4' : (arrOf u).take 4 = arrOf u := List.take_of_length_le (by omega)
    have hsp := fun x0 x1 x2 x3 => splice4 x0 x1 x2 x3 (arrOf u) hal
    have hgj := arr_get (t := u) (k := e) (by omega)
    have he4 : e < 4 := by omega
    by_cases hp : 0 ≤ u.getD e 0
    · rw [if_pos hp]
      have hz : (0 < u.getD e 0 + 1) = True := by simp only [eq_iff_iff, iff_true]; omega
      have hsub : u.getD e 0 + 1 - 1 = (((u.getD e 0).toNat : Nat) : Int) := by omega
      have hor := or_bit' _ (u.getD e 0).toNat hltk (by omega)
      simp (disch := omega) only [go_sem, ↓reduceIte, Nat.reduceBEq, Nat.reduceEqDiff, Nat.reduceLT, Nat.reduceLeDiff, Nat.reduceAdd, Nat.reduceMul, Nat.reduceSub, reduceCtorEq, Int.reduceLT, Int.reduceLE, Int.reduceEq, Int.reduceBEq, Int.reduceBNe, Int.reduceToNat, Int.reduceAdd, Int.reduceNeg, Int.reduceSub, hki, hge, eA, hal, hpos4, h44, h4', hsp, c0', he4, hgj, hz, hsub, wrap_i64, Nat.mul_one, List.getElem?_drop, cellA]
      rw [← hor]
      rfl
    · rw [if_neg hp]
      have hz : (0 < u.getD e 0 + 1) = False := by simp only [eq_iff_iff, iff_false]; omega
      simp (disch := omega) only [go_sem, ↓reduceIte, Nat.reduceBEq, Nat.reduceEqDiff, Nat.reduceLT, Nat.reduceLeDiff, Nat.reduceAdd, Nat.reduceMul, Nat.reduceSub, reduceCtorEq, Int.reduceLT, Int.reduceLE, Int.reduceEq, Int.reduceBEq, Int.reduceBNe, Int.reduceToNat, Int.reduceAdd, Int.reduceNeg, Int.reduceSub, hki, hge, eA, hal, hpos4, h44, h4', hsp, c0', he4, hgj, hz, wrap_i64, Nat.mul_one, List.getElem?_drop, cellA]
  · simp only [go_sem, ↓reduceIte, Nat.reduceBEq, Nat.reduceEqDiff, Nat.reduceLT, Nat.reduceLeDiff, Nat.reduceAdd, Nat.reduceMul, Nat.reduceSub, reduceCtorEq, Int.reduceLT, Int.reduceLE, Int.reduceEq, Int.reduceBEq, Int.reduceBNe, Int.reduceToNat, Int.reduceAdd, Int.reduceNeg, Int.reduceSub]
end Go.Proofs.Ytbfodfepgefloaa
end
section
namespace Go.Proofs.Ytbfodfepgefloaa
open Go.Proofs

def okK (d : Dr) (e k : Nat) : Bool := ((fairL d).getD k []).getD e 0 == (first d).getD e 0 && (first d).getD e 0 != -1
theorem fairL_cons (d : Dr) : fairL d = first d :: (fairL d).drop 1 := by
  have h := fairL_zero d
  cases hf : fairL d with
  | nil => exact absurd hf (fairL_ne d)
  | cons a l => rw [hf] at h; simp at h; rw [h]; rfl
theorem card_yes {d : Dr} {e : Nat} (h : allTo (okK d e) (fairL d).length = true) : cardV d e = (first d).getD e 0 ∧ (first d).getD e 0 ≠ -1 := by
  have hpos : 0 < (fairL d).length := List.length_pos_iff.2 (fairL_ne d)
  have h0 := allTo_at h hpos
  unfold okK at h0
  simp only [Bool.and_eq_true, bne_iff_ne] at h0
  refine ⟨?_, h0.2⟩
  unfold cardV readV
  rw [if_pos]
  rw [List.all_eq_true]
  intro t ht
  obtain ⟨i, hi, e1⟩ := List.mem_iff_getElem.1 ht
  rw [List.length_drop] at hi
  have := allTo_at h (show i + 1 < (fairL d).length by omega)
  unfold okK at this
  simp only [Bool.and_eq_true] at this
  have e2 : (fairL d).getD (i + 1) [] = t := by
    rw [List.getD_eq_getElem?_getD, List.getElem?_eq_getElem (show i + 1 < (fairL d).length by omega), ← e1, List.getElem_drop]
    simp only [Nat.add_comm, Option.getD_some]
  rw [e2] at this
  exact this.1
theorem card_no {d : Dr} {e : Nat} (h : allTo (okK d e) (fairL d).length = false) : cardV d e = -1 := by
  obtain ⟨k, hk, _, h2⟩ := allTo_false h
  unfold okK at h2
  unfold cardV readV
  by_cases hc : (first d).getD e 0 = -1
  · rw [hc]; split <;> rfl
  · have h3 : ((fairL d).getD k []).getD e 0 ≠ (first d).getD e 0 := by
      intro h4
      rw [h4] at h2
      simp at h2
      exact hc h2
    rw [if_neg]
    intro ha
    rw [List.all_eq_true] at ha
    have hx := List.getElem?_eq_getElem hk
    have e1 : (fairL d).getD k [] = (fairL d)[k] := by rw [List.getD_eq_getElem?_getD, hx]; rfl
    cases k with
    | zero =>
      rw [fairL_zero] at hx
      rw [e1, ← Option.some.inj hx] at h3
      exact h3 rfl
    | succ k =>
      have hm : (fairL d)[k + 1] ∈ (fairL d).drop 1 := by
        refine List.mem_of_getElem? (i := k) ?_
        rw [List.getElem?_drop, Nat.add_comm]; exact hx
      have := ha _ hm
      rw [e1] at h3
      exact h3 (by simpa using this)
theorem c28_no (d : Dr) (hd : d.fits) (e : Int) (he : askedE d e d.halves.length ≠ 0) (h : Heap) : callPure (EW tabX) 28 [eD d, .int .i64 e] h = some (.tup [.int .i64 0, .int .i64 (askedE d e d.halves.length)], h) := by
  have lh := hd.lh
  have hcl := eD_clean d
  have h60 := c60_no d hd d.halves.length (by omega) 1 1 [e] (fun _ => rfl) (by simp) (by rw [enter_one]; exact he) ⟨[.cells (eDc d)], []⟩
  rw [enter_one] at h60
  have hb1 : (askedE d e d.halves.length != 0) = true := by simpa using he
  rw [callPure_eq, w_call _ fn_28 rfl]
  simp only [go_sem, ↓reduceIte, Nat.reduceBEq, Nat.reduceEqDiff, Nat.reduceLT, Nat.reduceLeDiff, Nat.reduceAdd, Nat.reduceMul, Nat.reduceSub, reduceCtorEq, Int.reduceLT, Int.reduceLE, Int.reduceEq, Int.reduceBEq, Int.reduceBNe, Int.reduceToNat, Int.reduceAdd, Int.reduceNeg, Int.reduceSub, eD, eDc, eC_under, I_c, I_nil] at hcl h60 ⊢
  simp only [go_sem, ↓reduceIte, Nat.reduceBEq, Nat.reduceEqDiff, Nat.reduceLT, Nat.reduceLeDiff, Nat.reduceAdd, Nat.reduceMul, Nat.reduceSub, reduceCtorEq, Int.reduceLT, Int.reduceLE, Int.reduceEq, Int.reduceBEq, Int.reduceBNe, Int.reduceToNat, Int.reduceAdd, Int.reduceNeg, Int.reduceSub, eC_clean, h60, hb1]
theorem c28_yes (d : Dr) (hd : d.fits) (e : Nat) (he : askedE d e d.halves.length = 0) (h : Heap) : callPure (EW tabX) 28 [eD d, .int .i64 e] h = some (.tup [.int .i64 (if cardV d e = -1 then 0 else cardV d e), .int .i64 (if cardV d e = -1 then 9 else 0)], h) := by
  have hcl := eD_clean d
  have lh := hd.lh
  obtain ⟨ho, B, t, tag, zz, h60, b0, b4, b3, hown⟩ := enter_yes d hd d.halves.length (by omega) 1 1 [(e : Int)] (fun _ => rfl) (by simp) (by rw [enter_one]; exact he)
  obtain ⟨_, a0, a1⟩ := asked_yes he
  have heh : e < d.halves.length := by omega
  obtain ⟨tg, t', h62⟩ := c62 d ho B 4 3 _ b4 b3 t
  have h4 := ho.h4
  have he4 : e < 4 := by omega
  have hfl := fairL_len d ho
  have hrng := fair_rng d ho e heh
  have hpos : 0 < (fairL d).length := List.length_pos_iff.2 (fairL_ne d)
  simp only [eDc, List.cons_append, List.nil_append] at b0
  have o0 := old b0
  have hf0 := fairL_get d 0 (fairL_zero d)
  have hfl0 := (fairL_mem (first_mem d)).2
  have hal0 := arrOf_len (t := first d) (by omega)
  have hg0 := arr_get (t := first d) (k := e) (by omega)
  have hr0 : -1 ≤ (first d).getD e 0 ∧ (first d).getD e 0 < 4 := by
    have := hrng 0 hpos
    have e1 : (fairL d).getD 0 [] = first d := by rw [List.getD_eq_getElem?_getD, fairL_zero]; rfl
    rwa [e1] at this
  have elt : ∀ k, k < (fairL d).length → ∃ u, (fairL d)[k]? = some u ∧ (fairL d).getD k [] = u ∧ ((fairL d).map eA)[k]? = some (eA u) ∧ (arrOf u).length = 4 ∧ (arrOf u)[e]? = some (u.getD e 0 + 1) ∧ (k : Int) < (fairL d).length := fun k hk => by
    have hx := List.getElem?_eq_getElem hk
    have hm := fairL_mem (List.getElem_mem hk)
    exact ⟨_, hx, by rw [List.getD_eq_getElem?_getD, hx]; rfl, fairL_get d k hx, arrOf_len (by omega), arr_get (by omega), by omega⟩
  rw [callPure_eq, w_call _ fn_28 rfl]
  simp only [go_sem, ↓reduceIte, Nat.reduceBEq, Nat.reduceEqDiff, Nat.reduceLT, Nat.reduceLeDiff, Nat.reduceAdd, Nat.reduceMul, Nat.reduceSub, reduceCtorEq, Int.reduceLT, Int.reduceLE, Int.reduceEq, Int.reduceBEq, Int.reduceBNe, Int.reduceToNat, Int.reduceAdd, Int.reduceNeg, Int.reduceSub, eD, eDc, eC_under, I_c, I_nil] at hcl h60 ⊢
  simp only [go_sem, ↓reduceIte, Nat.reduceBEq, Nat.reduceEqDiff, Nat.reduceLT, Nat.reduceLeDiff, Nat.reduceAdd, Nat.reduceMul, Nat.reduceSub, reduceCtorEq, Int.reduceLT, Int.reduceLE, Int.reduceEq, Int.reduceBEq, Int.reduceBNe, Int.reduceToNat, Int.reduceAdd, Int.reduceNeg, Int.reduceSub, eC_clean, h60, h62, b0, hf0, eA, hal0, hg0, he4, Nat.mul_one, List.getElem?_drop]
  have p4 : ∀ {u : List Int}, (arrOf u).length = 4 → (arrOf u).take 4 = arrOf u := fun h => List.take_of_length_le (by omega)
  cases ha : allTo (okK d e) (fairL d).length with
  | true =>
    obtain ⟨q1, q2⟩ := card_yes ha
    rw [q1, if_neg q2, if_neg q2]
    rw [w_rounds_h (fun k => [(38, .int .i64 k)]) (fun k => ⟨B ++ ((fairL d).take k).map cellA, t'⟩) (fairL d).length (.exit 0) [(38, .int .i64 (fairL d).length)] ⟨B ++ (fairL d).map cellA, t'⟩ ?_ ?_ ?_ ?_ rfl]
    · have hw : (first d).getD e 0 + 1 - 1 = (first d).getD e 0 := by omega
      simp (disch := omega) only [go_sem, ↓reduceIte, Nat.reduceBEq, Nat.reduceEqDiff, Nat.reduceLT, Nat.reduceLeDiff, Nat.reduceAdd, Nat.reduceMul, Nat.reduceSub, reduceCtorEq, Int.reduceLT, Int.reduceLE, Int.reduceEq, Int.reduceBEq, Int.reduceBNe, Int.reduceToNat, Int.reduceAdd, Int.reduceNeg, Int.reduceSub, wrap_i64, hw]
    · simp only [go_sem, ↓reduceIte, Nat.reduceBEq, Nat.reduceEqDiff, Nat.reduceLT, Nat.reduceLeDiff, Nat.reduceAdd, Nat.reduceMul, Nat.reduceSub, reduceCtorEq, Int.reduceLT, Int.reduceLE, Int.reduceEq, Int.reduceBEq, Int.reduceBNe, Int.reduceToNat, Int.reduceAdd, Int.reduceNeg, Int.reduceSub]
    · simp only [go_sem, ↓reduceIte, Nat.reduceBEq, Nat.reduceEqDiff, Nat.reduceLT, Nat.reduceLeDiff, Nat.reduceAdd, Nat.reduceMul, Nat.reduceSub, reduceCtorEq, Int.reduceLT, Int.reduceLE, Int.reduceEq, Int.reduceBEq, Int.reduceBNe, Int.reduceToNat, Int.reduceAdd, Int.reduceNeg, Int.reduceSub]
    · intro k hk
      obtain ⟨u, hx, e1, hge, hal, hgj, hki⟩ := elt k hk
      have hok := allTo_at ha hk
      unfold okK at hok
      rw [e1] at hok
      simp only [Bool.and_eq_true, beq_iff_eq] at hok
      have hz : (u.getD e 0 + 1 != (first d).getD e 0 + 1) = false := by rw [hok.1]; simp
      have hz2 : ((first d).getD e 0 + 1 == 0) = false := by rw [beq_eq_false_iff_ne]; omega
      rw [map_succ cellA hx, ← List.append_assoc]
      generalize B ++ ((fairL d).take k).map cellA = C
      have hpos4 : 0 < (arrOf u).length := by omega
      have h44 : 4 ≤ (arrOf u).length := by omega
      have h4' := p4 hal
      have hsp := fun x0 x1 x2 x3 => splice4 x0 x1 x2 x3 (arrOf u) hal
      simp (disch := omega) only [go_sem, ↓reduceIte, Nat.reduceBEq, Nat.reduceEqDiff, Nat.reduceLT, Nat.reduceLeDiff, Nat.reduceAdd, Nat.reduceMul, Nat.reduceSub, reduceCtorEq, Int.reduceLT, Int.reduceLE, Int.reduceEq, Int.reduceBEq, Int.reduceBNe, Int.reduceToNat, Int.reduceAdd, Int.reduceNeg, Int.reduceSub, hki, hge, eA, hal, hpos4, h44, h4', hsp, he4, hgj, hz, hz2, wrap_i64, Nat.mul_one, List.getElem?_drop, cellA]
    · simp only [go_sem, ↓reduceIte, Nat.reduceBEq, Nat.reduceEqDiff, Nat.reduceLT, Nat.reduceLeDiff, Nat.reduceAdd, Nat.reduceMul, Nat.reduceSub, reduceCtorEq, Int.reduceLT, Int.reduceLE, Int.reduceEq, Int.reduceBEq, Int.reduceBNe, Int.reduceToNat, Int.reduceAdd, Int.reduceNeg, Int.reduceSub]
  | false =>
    rw [card_no ha, if_pos rfl, if_pos rfl]
    obtain ⟨n, hn, g1, g2⟩ := allTo_false ha
    obtain ⟨un, hxn, _⟩ := elt n hn
    rw [w_rounds_h (fun k => [(38, .int .i64 k)]) (fun k => ⟨B ++ ((fairL d).take k).map cellA, t'⟩) n .ret [(4, .int .i64 0), (5, .int .i64 9), (12, .ref (B.length + n) 0), (38, .int .i64 n)] ⟨B ++ ((fairL d).take (n + 1)).map cellA, t'⟩ ?_ ?_ ?_ ?_ rfl]
    · simp only [go_sem, ↓reduceIte, Nat.reduceBEq, Nat.reduceEqDiff, Nat.reduceLT, Nat.reduceLeDiff, Nat.reduceAdd, Nat.reduceMul, Nat.reduceSub, reduceCtorEq, Int.reduceLT, Int.reduceLE, Int.reduceEq, Int.reduceBEq, Int.reduceBNe, Int.reduceToNat, Int.reduceAdd, Int.reduceNeg, Int.reduceSub]
    · simp only [go_sem, ↓reduceIte, Nat.reduceBEq, Nat.reduceEqDiff, Nat.reduceLT, Nat.reduceLeDiff, Nat.reduceAdd, Nat.reduceMul, Nat.reduceSub, reduceCtorEq, Int.reduceLT, Int.reduceLE, Int.reduceEq, Int.reduceBEq, Int.reduceBNe, Int.reduceToNat, Int.reduceAdd, Int.reduceNeg, Int.reduceSub]
    · simp only [go_sem, ↓reduceIte, Nat.reduceBEq, Nat.reduceEqDiff, Nat.reduceLT, Nat.reduceLeDiff, Nat.reduceAdd, Nat.reduceMul, Nat.reduceSub, reduceCtorEq, Int.reduceLT, Int.reduceLE, Int.reduceEq, Int.reduceBEq, Int.reduceBNe, Int.reduceToNat, Int.reduceAdd, Int.reduceNeg, Int.reduceSub]
    · intro k hk
      obtain ⟨u, hx, e1, hge, hal, hgj, hki⟩ := elt k (by omega)
      have hok := allTo_at g1 hk
      unfold okK at hok
      rw [e1] at hok
      simp only [Bool.and_eq_true, beq_iff_eq, bne_iff_ne] at hok
      have hz : (u.getD e 0 + 1 != (first d).getD e 0 + 1) = false := by rw [hok.1]; simp
      have hz2 : ((first d).getD e 0 + 1 == 0) = false := by rw [beq_eq_false_iff_ne]; omega
      rw [map_succ cellA hx, ← List.append_assoc]
      generalize B ++ ((fairL d).take k).map cellA = C
      have hpos4 : 0 < (arrOf u).length := by omega
      have h44 : 4 ≤ (arrOf u).length := by omega
      have h4' := p4 hal
      have hsp := fun x0 x1 x2 x3 => splice4 x0 x1 x2 x3 (arrOf u) hal
      simp (disch := omega) only [go_sem, ↓reduceIte, Nat.reduceBEq, Nat.reduceEqDiff, Nat.reduceLT, Nat.reduceLeDiff, Nat.reduceAdd, Nat.reduceMul, Nat.reduceSub, reduceCtorEq, Int.reduceLT, Int.reduceLE, Int.reduceEq, Int.reduceBEq, Int.reduceBNe, Int.reduceToNat, Int.reduceAdd, Int.reduceNeg, Int.reduceSub, hki, hge, eA, hal, hpos4, h44, h4', hsp, he4, hgj, hz, hz2, wrap_i64, Nat.mul_one, List.getElem?_drop, cellA]
    · obtain ⟨u, hx, e1, hge, hal, hgj, hki⟩ := elt n hn
      unfold okK at g2
      rw [e1] at g2
      have hlen : (B ++ ((fairL d).take n).map cellA).length = B.length + n := by
        rw [List.length_append, List.length_map, List.length_take]; omega
      rw [map_succ cellA hx, ← List.append_assoc]
      generalize B ++ ((fairL d).take n).map cellA = C at hlen ⊢
      rw [← hlen]
      have hpos4 : 0 < (arrOf u).length := by omega
      have h44 : 4 ≤ (arrOf u).length := by omega
      have h4' := p4 hal
      have hsp := fun x0 x1 x2 x3 => splice4 x0 x1 x2 x3 (arrOf u) hal
      by_cases hne : u.getD e 0 = (first d).getD e 0
      · have hm1 : (first d).getD e 0 = -1 := by
          rw [hne] at g2; simpa using g2
        have hz : (u.getD e 0 + 1 != (first d).getD e 0 + 1) = false := by rw [hne]; simp
        have hz2 : ((first d).getD e 0 + 1 == 0) = true := by rw [hm1]; rfl
        simp (disch := omega) only [go_sem, ↓reduceIte, Nat.reduceBEq, Nat.reduceEqDiff, Nat.reduceLT, Nat.reduceLeDiff, Nat.reduceAdd, Nat.reduceMul, Nat.reduceSub, reduceCtorEq, Int.reduceLT, Int.reduceLE, Int.reduceEq, Int.reduceBEq, Int.reduceBNe, Int.reduceToNat, Int.reduceAdd, Int.reduceNeg, Int.reduceSub, hki, hge, eA, hal, hpos4, h44, h4', hsp, he4, hgj, hz, hz2, wrap_i64, Nat.mul_one, List.getElem?_drop, cellA]
      · have hz : (u.getD e 0 + 1 != (first d).getD e 0 + 1) = true := by rw [bne_iff_ne]; omega
        simp (disch := omega) only [go_sem, ↓reduceIte, Nat.reduceBEq, Nat.reduceEqDiff, Nat.reduceLT, Nat.reduceLeDiff, Nat.reduceAdd, Nat.reduceMul, Nat.reduceSub, reduceCtorEq, Int.reduceLT, Int.reduceLE, Int.reduceEq, Int.reduceBEq, Int.reduceBNe, Int.reduceToNat, Int.reduceAdd, Int.reduceNeg, Int.reduceSub, hki, hge, eA, hal, hpos4, h44, h4', hsp, he4, hgj, hz, wrap_i64, Nat.mul_one, List.getElem?_drop, cellA]
end Go.Proofs.Ytbfodfepgefloaa
end
section
namespace Go.Proofs.Ytbfodfepgefloaa
open Go.Proofs

def lastAt (l : List Int) : Nat → Int
  | 0 => -1
  | k + 1 => l.getD k 0
theorem lastAt_zero (l : List Int) : lastAt l 0 = -1 := rfl
theorem lastAt_succ (l : List Int) (k : Nat) : lastAt l (k + 1) = l.getD k 0 := rfl
def risAt (l : List Int) (below : Int) (k : Nat) : Bool := !(decide (l.getD k 0 ≤ lastAt l k) || decide (below ≤ l.getD k 0))
def risB (l : List Int) (below : Int) : Bool := allTo (risAt l below) l.length
theorem c41 (l : List Int) (below : Int) (z : Nat) (hz : l ≠ [] → z = 1) (hl : l.length < 1000000000000000000) (h : Heap) :
    callPure (EW tabX) 41 [.lst 0 z (I l), .int .i64 below] h = some (.bool (risB l below), h) := by
  rw [callPure_eq, w_call _ fn_41 rfl]
  simp only [go_sem, ↓reduceIte, Nat.reduceBEq, Nat.reduceEqDiff, Nat.reduceLT, Nat.reduceLeDiff, Nat.reduceAdd, Nat.reduceMul, Nat.reduceSub, reduceCtorEq, Int.reduceLT, Int.reduceLE, Int.reduceEq, Int.reduceBEq, Int.reduceBNe, Int.reduceToNat, Int.reduceAdd, Int.reduceNeg, Int.reduceSub]
  have idx : ∀ k, k < l.length → l[k]? = some (l.getD k 0) ∧ (k : Int) < l.length ∧ z = 1 := fun k hk =>
    ⟨by rw [List.getD_eq_getElem?_getD, List.getElem?_eq_getElem hk]; rfl, by omega, hz (by intro e; rw [e] at hk; simp at hk)⟩
  cases ha : allTo (risAt l below) l.length with
  | true =>
    rw [w_rounds_u (fun k => [(5, .int .i64 (lastAt l k)), (6, .int .i64 k)]) l.length (.exit 0) [(5, .int .i64 (lastAt l l.length)), (6, .int .i64 l.length)] ?_ ?_ ?_ rfl]
    · simp only [go_sem, ↓reduceIte, Nat.reduceBEq, Nat.reduceEqDiff, Nat.reduceLT, Nat.reduceLeDiff, Nat.reduceAdd, Nat.reduceMul, Nat.reduceSub, reduceCtorEq, Int.reduceLT, Int.reduceLE, Int.reduceEq, Int.reduceBEq, Int.reduceBNe, Int.reduceToNat, Int.reduceAdd, Int.reduceNeg, Int.reduceSub, risB, ha]
    · simp only [go_sem, ↓reduceIte, Nat.reduceBEq, Nat.reduceEqDiff, Nat.reduceLT, Nat.reduceLeDiff, Nat.reduceAdd, Nat.reduceMul, Nat.reduceSub, reduceCtorEq, Int.reduceLT, Int.reduceLE, Int.reduceEq, Int.reduceBEq, Int.reduceBNe, Int.reduceToNat, Int.reduceAdd, Int.reduceNeg, Int.reduceSub, lastAt_zero]
    · intro k hk
      obtain ⟨h1, h2, h3⟩ := idx k hk
      have hr := allTo_at ha hk
      have hr : (decide (l.getD k 0 ≤ lastAt l k) || decide (below ≤ l.getD k 0)) = false := by simpa only [risAt, Bool.not_eq_true'] using hr
      simp (disch := omega) only [go_sem, ↓reduceIte, Nat.reduceBEq, Nat.reduceEqDiff, Nat.reduceLT, Nat.reduceLeDiff, Nat.reduceAdd, Nat.reduceMul, Nat.reduceSub, reduceCtorEq, Int.reduceLT, Int.reduceLE, Int.reduceEq, Int.reduceBEq, Int.reduceBNe, Int.reduceToNat, Int.reduceAdd, Int.reduceNeg, Int.reduceSub, h1, h2, h3, hr, wrap_i64, lastAt_succ]
    · simp only [go_sem, ↓reduceIte, Nat.reduceBEq, Nat.reduceEqDiff, Nat.reduceLT, Nat.reduceLeDiff, Nat.reduceAdd, Nat.reduceMul, Nat.reduceSub, reduceCtorEq, Int.reduceLT, Int.reduceLE, Int.reduceEq, Int.reduceBEq, Int.reduceBNe, Int.reduceToNat, Int.reduceAdd, Int.reduceNeg, Int.reduceSub]
  | false =>
    obtain ⟨n, hn, g1, g2⟩ := allTo_false ha
    rw [w_rounds_u (fun k => [(5, .int .i64 (lastAt l k)), (6, .int .i64 k)]) n .ret [(4, .bool false), (5, .int .i64 (lastAt l n)), (6, .int .i64 n)] ?_ ?_ ?_ rfl]
    · simp only [go_sem, ↓reduceIte, Nat.reduceBEq, Nat.reduceEqDiff, Nat.reduceLT, Nat.reduceLeDiff, Nat.reduceAdd, Nat.reduceMul, Nat.reduceSub, reduceCtorEq, Int.reduceLT, Int.reduceLE, Int.reduceEq, Int.reduceBEq, Int.reduceBNe, Int.reduceToNat, Int.reduceAdd, Int.reduceNeg, Int.reduceSub, risB, ha]
    · simp only [go_sem, ↓reduceIte, Nat.reduceBEq, Nat.reduceEqDiff, Nat.reduceLT, Nat.reduceLeDiff, Nat.reduceAdd, Nat.reduceMul, Nat.reduceSub, reduceCtorEq, Int.reduceLT, Int.reduceLE, Int.reduceEq, Int.reduceBEq, Int.reduceBNe, Int.reduceToNat, Int.reduceAdd, Int.reduceNeg, Int.reduceSub, lastAt_zero]
    · intro k hk
      obtain ⟨h1, h2, h3⟩ := idx k (by omega)
      have hr := allTo_at g1 hk
      have hr : (decide (l.getD k 0 ≤ lastAt l k) || decide (below ≤ l.getD k 0)) = false := by simpa only [risAt, Bool.not_eq_true'] using hr
      simp (disch := omega) only [go_sem, ↓reduceIte, Nat.reduceBEq, Nat.reduceEqDiff, Nat.reduceLT, Nat.reduceLeDiff, Nat.reduceAdd, Nat.reduceMul, Nat.reduceSub, reduceCtorEq, Int.reduceLT, Int.reduceLE, Int.reduceEq, Int.reduceBEq, Int.reduceBNe, Int.reduceToNat, Int.reduceAdd, Int.reduceNeg, Int.reduceSub, h1, h2, h3, hr, wrap_i64, lastAt_succ]
    · obtain ⟨h1, h2, h3⟩ := idx n hn
      have hr : (decide (l.getD n 0 ≤ lastAt l n) || decide (below ≤ l.getD n 0)) = true := by simpa only [risAt, Bool.not_eq_false'] using g2
      simp (disch := omega) only [go_sem, ↓reduceIte, Nat.reduceBEq, Nat.reduceEqDiff, Nat.reduceLT, Nat.reduceLeDiff, Nat.reduceAdd, Nat.reduceMul, Nat.reduceSub, reduceCtorEq, Int.reduceLT, Int.reduceLE, Int.reduceEq, Int.reduceBEq, Int.reduceBNe, Int.reduceToNat, Int.reduceAdd, Int.reduceNeg, Int.reduceSub, h1, h2, h3, hr]
end Go.Proofs.Ytbfodfepgefloaa
end
section
namespace Go.Proofs.Ytbfodfepgefloaa
open Go.Proofs

def dA : Dr := ⟨4, 2, 1, [⟨⟨#[97, 110, 97]⟩, [3, 5, 2, 7]⟩, ⟨⟨#[98, 101, 110]⟩, [3, 4, 2, 1]⟩, ⟨⟨#[99, 111, 114, 97]⟩, [8, 8, 1, 6]⟩], [⟨⟨#[116, 97, 108, 108]⟩, [3, 5, 2, 6]⟩, ⟨⟨#[115, 104, 111, 114, 116]⟩, [2, 1]⟩], 2, 2⟩
def dF : Dr := { dA with halves := dA.halves ++ [⟨⟨#[116, 111, 114, 110]⟩, [-1, 2]⟩] }
theorem c36_false (h : Heap) : callPure (EW tabX) 36 [.bool false] h = some (eD dA, h) := by
  rw [callPure_eq, w_call _ fn_36 rfl]
  simp only [go_sem, ↓reduceIte, Nat.reduceBEq, Nat.reduceEqDiff, Nat.reduceLT, Nat.reduceLeDiff, Nat.reduceAdd, Nat.reduceMul, Nat.reduceSub, reduceCtorEq, Int.reduceLT, Int.reduceLE, Int.reduceEq, Int.reduceBEq, Int.reduceBNe, Int.reduceToNat, Int.reduceAdd, Int.reduceNeg, Int.reduceSub, List.isEmpty]
  rfl
theorem c36_true (h : Heap) : callPure (EW tabX) 36 [.bool true] h = some (eD dF, h) := by
  rw [callPure_eq, w_call _ fn_36 rfl]
  simp only [go_sem, ↓reduceIte, Nat.reduceBEq, Nat.reduceEqDiff, Nat.reduceLT, Nat.reduceLeDiff, Nat.reduceAdd, Nat.reduceMul, Nat.reduceSub, reduceCtorEq, Int.reduceLT, Int.reduceLE, Int.reduceEq, Int.reduceBEq, Int.reduceBNe, Int.reduceToNat, Int.reduceAdd, Int.reduceNeg, Int.reduceSub, appendAV, true_or, or_false, or_self]
  rfl
end Go.Proofs.Ytbfodfepgefloaa
end
