/- Parts of the proof, joined: Z-numbers. The shape of a form; whether a letter is of a shape. Z-numbers. Whether a letter is of a shape. Z-numbers. How many corrections a letter needs to be of a form, by the program. Z-numbers. In how many ways a letter is of a form, by the program. Z-numbers. How many corrections a letter needs to be of a form of a shelf; the nearest form. Z-numbers. Of which forms a letter can be, if it can be of the last one alone. Z-numbers. What was put into the room of a form of two rooms. Z-numbers. Calls on the examples, by evaluation: a letter becomes another one by marks; letters are read. Z-numbers. How many corrections are left, computed with what is known. Z-numbers. The plain answers on the examples. Z-numbers. The marks by which a letter of the examples becomes another one. Z-numbers. The marks by which a letter of the examples becomes another one, by the program. Z-numbers. The examples of letters: all calls. Z-numbers. The examples of letters are as the document says. What is known of a valid gift. Rows of numbers: which comes first, the same, has, lost. Z-numbers. The examples of letters are as the document says. Small sets as numbers; rows held against each other by the library. A gift is looked at; whether it has a truth. A gift is entered. A row that is made and copied into, read off the heap. What the letter of a visit can cost, by the program. Stands behind visits: the search of the program in plain words, and the map of those that were met. Whether somebody surely comes, by the program. Costs are small; what a loop over all stands needs. What a letter costs, by the reference; an ascending row with one more number. An ascending row with one more number, by the reference. What the letter of a visit can cost, by the reference. What the letter of a visit can cost, by the reference: the walk. All stands, by the program: the function that calls itself. All stands, by the program: the function that calls itself. All stands, by the program: the function that calls itself, before the end of visits. All ways in which people can be widows, by the program. All stands, by the program: what begins the search. Whether the gift pays for a visit, by the program. The first day on which the gift can end, by the program. The first day on which the gift can end; what it needs, by the program. What the gift needs, by the program. Conditions: those of each law. -/
import Derived.Test.YthkpjbgadkkeeaaGreatQ10
import Derived.KernelRfl
set_option linter.unusedSimpArgs false
set_option linter.unusedVariables false
namespace Go.Proofs.YthkpjbgadkkeeaaGreat
section
open Go.Proofs
def anyF (m : List Int) : List (List ByteArray) := m.map fun n => List.replicate n.toNat ⟨#[]⟩
def shapeM (l : List Pt) (m : List Int) : List ByteArray := makeL l (anyF m)
theorem S_rep (n : Nat) (s : ByteArray) : List.replicate n (AV.str s) = S (List.replicate n s) := by simp [S]
structure VT where
 tg : Nat
 z : Nat
 t : List Bool
 J : List ABlk
set_option maxHeartbeats 2000000 in
theorem z171 (f : Fm) (hf : f.fits) (hp5 : f.parts.length ≤ 5) (hp3 : ∀ p ∈ f.parts, p.words.length ≤ 3) (tg z : Nat) (rl : List (Int × Int)) (hrl : (roomsL f.parts).length ≤ 5) (r : Nat) (B : List ABlk) (t : List Bool) (hr : B[r]? = some (bLk f tg z rl)) (m : List Int) (hm : m.length = 5) (hmb : ∀ x ∈ m, 0 ≤ x ∧ x ≤ 3) :
  ∃ tg' z' t', (shapeM f.parts m ≠ [] → z' = 1) ∧ (EW tabX).call 171 [.ref r 0, .agg (I m)] ⟨B, t⟩ = some (.lst tg' z' (S (shapeM f.parts m)), ⟨B, t'⟩) := by
 simp only [bLk] at hr
 have o := fun Y => old hr Y
 have hsh : ∀ w ∈ anyF m, w.length ≤ 3 := fun w hw => by
  obtain ⟨x, hx, rfl⟩ := List.mem_map.1 hw
  have := hmb x hx
  simp; omega
 rw [w_call _ fn_171 rfl]
 simp only [go_sem, ↓reduceIte, simprocAttr, hr, o]
 generalize hx : (EW tabX).code 171 none (Code.loop _) _ = y
 refine w_rounds_sk hx (fun k (u : VT) => [(4, .lst u.tg u.z (S (mkAt f.parts (anyF m) k).2)), (5, .int .i64 (mkAt f.parts (anyF m) k).1), (14, .int .i64 k)]) (fun u => ⟨B ++ .cells (I m) :: u.J, u.t⟩)
   (fun k u => OwnS 1 u.tg u.z (mkAt f.parts (anyF m) k).2.length u.t) f.parts.length (.exit 0)
   (fun u => [(4, .lst u.tg u.z (S (mkAt f.parts (anyF m) f.parts.length).2)), (5, .int .i64 (mkAt f.parts (anyF m) f.parts.length).1), (14, .int .i64 f.parts.length)]) rfl ⟨1, 0, t, []⟩ ?_ ?_ (.inl ⟨rfl, rfl⟩) ?_ ?_ ?_
 ·simp only [go_sem, ↓reduceIte, simprocAttr, mkAt]
 ·simp only [go_sem, ↓reduceIte, simprocAttr]
 ·intro k u hk hU
  have hx := List.getElem?_eq_getElem hk
  have hki : (k : Int) < f.parts.length := by omega
  have hzp := hf.zp (by intro e; rw [e] at hk; simp at hk)
  have hroom := mkAt_room f.parts (anyF m) k (by omega)
  have hml := mkAt_le (fills := anyF m) hp3 hsh k
  have hpl := hp3 _ (List.getElem_mem hk)
  have hpf := hf.fp _ (List.getElem_mem hk)
  have hrk := roomsL_take f.parts (k + 1)
  rw [roomsL_succ hx] at hrk
  simp only [mkAt, hx]
  generalize f.parts[k] = p at *
  generalize mkAt f.parts (anyF m) k = st at *
  obtain ⟨i, l⟩ := st
  simp only at hroom hml hU ⊢
  have hzw : p.words ≠ [] → p.zw = 1 := hpf.zw
  cases e : (p.words.length == 0) with
  | true =>
   have ei : ((p.words.length : Int) == 0) = true := by rw [beq_iff_eq] at e ⊢; omega
   have hw0 : p.words = [] := List.eq_nil_of_length_eq_zero (by simpa using e)
   have hwi : ¬ ((0 : Int) < p.words.length) := by rw [hw0]; simp
   rw [e] at hrk
   have him : i < m.length := by simp at hrk; omega
   have hix := List.getElem?_eq_getElem him
   have hbd := hmb _ (List.getElem_mem him)
   have hdi : (m.drop i)[0]? = some m[i] := by rw [List.getElem?_drop, Nat.add_zero]; exact hix
   have hfg : (anyF m).getD i [] = List.replicate m[i].toNat ⟨#[]⟩ := by unfold anyF; rw [List.getD_eq_getElem?_getD, List.getElem?_map, hix]; rfl
   rw [hfg, hw0, List.append_nil]
   generalize m[i] = n at *
   obtain ⟨t1, ha1, hl1, ho1, _⟩ := app_gen (X := tabX) (ty := 70) (e := 9) (sz := 1) (tag := u.tg) (z := u.z) (t := u.t) (xs := S l) (by rw [S_len]; exact hU) 0 1 (List.replicate n.toNat (.str ⟨#[]⟩)) (by simp only [go_sem, ↓reduceIte, simprocAttr]) (by simp only [go_sem, ↓reduceIte, simprocAttr]) (by decide)
    (.inl rfl) (by simp only [go_sem, ↓reduceIte, simprocAttr, List.length_replicate]; omega) (by simp only [go_sem, ↓reduceIte, simprocAttr, List.length_replicate]; omega) (by simp only [go_sem, ↓reduceIte, simprocAttr]) (by rw [S_rep]; exact S_var _)
   rw [S_rep, S_app] at ha1
   have e0 : (⟨⟨[]⟩⟩ : ByteArray) = ⟨#[]⟩ := rfl
   have hn0 : 0 ≤ n := hbd.1
   have hn4 : n ≤ 4096 := by omega
   refine ⟨⟨u.t.length + 2, 1, t1, u.J ++ [bPt p]⟩, ?_, .inr ⟨_, rfl, rfl, ho1⟩⟩
   have hwi2 : IntKind.i64.wrap ((i : Int) + 1) = (i : Int) + 1 := wrap_i64 (by omega)
   have hwk : IntKind.i64.wrap ((k : Int) + 1) = (k : Int) + 1 := wrap_i64 (by omega)
   have hi5 : i < 5 := by omega
   simp only [go_sem, ↓reduceIte, simprocAttr, hki, hx, hzp, ePt, bPt, hwi, hdi, hi5, Nat.mul_one, hn0, hn4, e0, S_rep, ha1, hwi2, hwk]
  | false =>
   have ei : ((p.words.length : Int) == 0) = false := by rw [beq_eq_false_iff_ne] at e ⊢; omega
   have hwi : (0 : Int) < p.words.length := by rw [beq_eq_false_iff_ne] at e; omega
   obtain ⟨t2, ha2, hl2, ho2, _⟩ := app_gen (X := tabX) (ty := 70) (e := 9) (sz := 1) (tag := u.tg) (z := u.z) (t := u.t) (xs := S l) (by rw [S_len]; exact hU) 0 p.zw (S p.words) (by simp only [go_sem, ↓reduceIte, simprocAttr]) (by simp only [go_sem, ↓reduceIte, simprocAttr]) (by decide)
    (by rw [S_len]; rcases Nat.eq_zero_or_pos p.words.length with e | e; exact .inr e; exact .inl (hpf.zw (List.length_pos_iff.1 e))) (by simp only [go_sem, ↓reduceIte, simprocAttr]; omega) (by simp only [go_sem, ↓reduceIte, simprocAttr]; omega) (by simp only [go_sem, ↓reduceIte, simprocAttr]) (S_var _)
   rw [S_app] at ha2
   have hwk : IntKind.i64.wrap ((k : Int) + 1) = (k : Int) + 1 := wrap_i64 (by omega)
   refine ⟨⟨u.t.length + 2, 1, t2, u.J ++ [bPt p]⟩, ?_, .inr ⟨_, rfl, rfl, ho2⟩⟩
   simp only [go_sem, ↓reduceIte, simprocAttr, hki, hx, hzp, ePt, bPt, hwi, ha2, hwk]
 ·intro u hU
  simp (disch := omega) only [go_sem, ↓reduceIte, simprocAttr, Int.lt_irrefl]
 ·intro u hy hU
  refine ⟨u.tg, u.z, u.t, fun hne => ?_, ?_⟩
  ·rcases hU with ⟨_, h⟩ | ⟨_, _, h, _⟩
   ·exact absurd (List.eq_nil_of_length_eq_zero h) hne
   ·exact h
  ·rw [hy]
   simp only [go_sem, ↓reduceIte, simprocAttr, shapeM, makeL]
end
section
open Go.Proofs
theorem z172 (x y : ByteArray) (h : Heap) : callPure (EW tabX) 172 [.str x, .str y] h = some (.bool (fitW x y), h) := by
 rw [callPure_eq, w_call _ fn_172 rfl]
 unfold fitW
 cases e : (x == (⟨#[]⟩ : ByteArray)) with
 | true => simp only [go_sem, ↓reduceIte, simprocAttr, e, Bool.true_or]
 | false => simp only [go_sem, ↓reduceIte, simprocAttr, e, Bool.false_or]
def fitE (a b : List ByteArray) (k : Nat) : Int := if fitW (a.getD k ⟨#[]⟩) (b.getD k ⟨#[]⟩) then 0 else 1
def fitsL (a b : List ByteArray) : Bool := a.length == b.length && (firstBad (fitE a b) 0 a.length).isNone
theorem z170 (a b : List ByteArray) (za zb : Nat) (hza : a ≠ [] → za = 1) (hzb : b ≠ [] → zb = 1) (hla : a.length ≤ 1000) (h : Heap) : callPure (EW tabX) 170 [.lst 0 za (S a), .lst 0 zb (S b), .clo 172 [] []] h = some (.bool (fitsL a b), h) := by
 rw [callPure_eq, w_call _ fn_170 rfl]
 unfold fitsL
 cases e : (a.length == b.length) with
 | false =>
  have ei : ((a.length : Int) != (b.length : Int)) = true := by rw [bne_iff_ne]; rw [beq_eq_false_iff_ne] at e; omega
  simp only [go_sem, ↓reduceIte, simprocAttr, ei, Bool.false_and]
 | true =>
  have el : a.length = b.length := by simpa using e
  have ei : ((a.length : Int) != (b.length : Int)) = false := by rw [el]; simp
  simp only [go_sem, ↓reduceIte, simprocAttr, ei, Bool.true_and]
  rw [w_first (fun k => [(17, .int .i64 k)]) (fun k => ⟨[], []⟩) (fitE a b) a.length .ret (fun n => [(6, .bool false), (7, .int .i64 n), (8, .str (a.getD n ⟨#[]⟩)), (9, .str (b.getD n ⟨#[]⟩)), (17, .int .i64 n)]) (fun n => ⟨[], []⟩) (.exit 0) [(17, .int .i64 a.length)] ⟨[], []⟩ ?_ ?_ ?_ ?_ ?_ rfl rfl]
  ·unfold firstW
   cases firstBad (fitE a b) 0 a.length with
   | some n => simp only [go_sem, ↓reduceIte, simprocAttr]
   | none => simp only [go_sem, ↓reduceIte, simprocAttr]
  ·simp only [go_sem, ↓reduceIte, simprocAttr]
  ·rfl
  ·intro k hk h0
   have hki : (k : Int) < a.length := by omega
   have hkj : (k : Int) < b.length := by omega
   have hx := List.getElem?_eq_getElem hk
   have hy := List.getElem?_eq_getElem (show k < b.length by omega)
   have hz1 := hza (by intro e; rw [e] at hk; simp at hk)
   have hz2 := hzb (by intro e; rw [e] at hkj; simp at hkj; omega)
   have hf : fitW a[k] b[k] = true := by
    unfold fitE at h0
    rw [List.getD_eq_getElem?_getD, List.getD_eq_getElem?_getD, hx, hy] at h0
    split at h0
    ·assumption
    ·cases h0
   simp (disch := omega) only [go_sem, ↓reduceIte, simprocAttr, hki, hkj, hx, hy, hz1, hz2, z172, hf, wrap_i64]
  ·intro k hk h0
   have hki : (k : Int) < a.length := by omega
   have hkj : (k : Int) < b.length := by omega
   have hx := List.getElem?_eq_getElem hk
   have hy := List.getElem?_eq_getElem (show k < b.length by omega)
   have hz1 := hza (by intro e; rw [e] at hk; simp at hk)
   have hz2 := hzb (by intro e; rw [e] at hkj; simp at hkj; omega)
   have hf : fitW a[k] b[k] = false := by
    unfold fitE at h0
    rw [List.getD_eq_getElem?_getD, List.getD_eq_getElem?_getD, hx, hy] at h0
    split at h0
    ·exact absurd rfl h0
    ·exact Bool.eq_false_iff.2 ‹¬ fitW a[k] b[k] = true›
   have ga : a.getD k ⟨#[]⟩ = a[k] := by rw [List.getD_eq_getElem?_getD, hx]; rfl
   have gb : b.getD k ⟨#[]⟩ = b[k] := by rw [List.getD_eq_getElem?_getD, hy]; rfl
   rw [ga, gb]
   simp (disch := omega) only [go_sem, ↓reduceIte, simprocAttr, hki, hkj, hx, hy, hz1, hz2, z172, hf, wrap_i64]
  ·simp (disch := omega) only [go_sem, ↓reduceIte, simprocAttr, Int.lt_irrefl]
theorem z137 (a b : List ByteArray) (ta tb za zb : Nat) (B : List ABlk) (t : List Bool) : (EW tabX).call 137 [.lst ta za (S a), .lst tb zb (S b)] ⟨B, t⟩ = some (.ref (B.length + 1) 0, ⟨B ++ [.map [], .cells (rdC a b ta tb za zb B.length)], t⟩) := by
 have h1 : ¬ (B.length + 1 < B.length) := by omega
 have h2 : B.length < B.length + 1 + 1 := by omega
 rw [w_call _ fn_137 rfl]
 simp only [go_sem, ↓reduceIte, simprocAttr, rdC, h1, h2]
end
section
open Go.Proofs
def mendS (f : Fm) (l : List ByteArray) (best : Int) (m : List Int) : Int :=
 if best < 0 ∨ (awayP l (shapeM f.parts m) (0, 0)).1 < best then (awayP l (shapeM f.parts m) (0, 0)).1 else best
def mendsM (f : Fm) (l : List ByteArray) : Int := (cntP (roomsL f.parts) []).foldl (fun s p => mendS f l s (pad5 p)) (-1)
structure FmOk (f : Fm) : Prop where
 fits : f.fits
 p5 : f.parts.length ≤ 5
 p3 : ∀ p ∈ f.parts, p.words.length ≤ 3
 rb : ∀ p ∈ roomsL f.parts, 0 ≤ p.1 ∧ p.1 ≤ 3 ∧ 0 ≤ p.2 ∧ p.2 ≤ 3 ∧ p.1 ≤ p.2 + 1
theorem FmOk.r5 {f : Fm} (h : FmOk f) : (roomsL f.parts).length ≤ 5 := Nat.le_trans (roomsL_le _) h.p5
theorem shape_len {f : Fm} (h : FmOk f) {m : List Int} (hm : bnd3 m) : (shapeM f.parts m).length ≤ 30 := by
 have := mkAt_le (fills := anyF m) h.p3 (fun w hw => by
  obtain ⟨x, hx, rfl⟩ := List.mem_map.1 hw
  have := hm x hx
  simp; omega) f.parts.length
 have := h.p5
 unfold shapeM makeL
 omega
theorem splice5 (x0 x1 x2 x3 x4 : AV) (l : List Int) (h : l.length = 5) : splice [x0, x1, x2, x3, x4] 0 (I l) = I l := by
 match l, h with
 | [a, b, c, d, e], _ => rfl
def P143 (B : List ABlk) (r : Nat) (l : List ByteArray) (tl zl : Nat) (LB : ABlk) (best : Int) : List ABlk := B ++ [.cells [.ref r 0], .cells [.lst tl zl (S l)], .cells [.int .i64 best], .cells [.ref r 0], .mark, LB]
set_option maxHeartbeats 4000000 in
theorem z143 {f : Fm} (hf : FmOk f) {tg z : Nat} (hz : roomsL f.parts ≠ [] → z = 2) (l : List ByteArray) (hl : l.length ≤ 400) (tl zl : Nat) (hzl : l ≠ [] → zl = 1) (r : Nat) (B : List ABlk) (t : List Bool) (hr : B[r]? = some (bLk f tg z (roomsL f.parts))) :
  ∃ t', (EW tabX).call 143 [.ref r 0, .lst tl zl (S l)] ⟨B, t⟩ = some (.int .i64 (mendsM f l), ⟨B, t'⟩) := by
 have hrl : r < B.length := (List.getElem?_eq_some_iff.1 hr).1
 have h169 := z169 r (B ++ [.cells [.ref r 0], .cells [.lst tl zl (S l)], .cells [.int .i64 (-1)]]) t (by simp; omega)
 rw [w_call _ fn_143 rfl]
 simp only [go_sem, ↓reduceIte, simprocAttr] at h169
 have hr1 : r < B.length + 1 := by omega
 simp only [go_sem, ↓reduceIte, simprocAttr, h169, hr1]
 rw [w_range (gf := 196) (fst := []) (cap := [.ref (B.length + 3) 0])]
 rotate_left
 ·simp only [go_sem, ↓reduceIte, simprocAttr]
 generalize hLB : ABlk.loop false AExit.normal false 143 _ _ _ _ = LB
 obtain ⟨LB', b1, b2, b3⟩ : ∃ LB', beginBlk LB = some LB' ∧ endBlk .normal LB' = some LB ∧ (∀ h : Heap, h.b[B.length + 5]? = some LB → ∀ fr ms, afterRange (B.length + 5) fr ms h = some (.normal, ⟨fr, h.put (B.length + 5) .none, ms⟩)) := by
  rw [← hLB]
  exact ⟨_, rfl, rfl, fun h hh fr ms => by unfold afterRange; rw [hh]⟩
 obtain ⟨t', h196⟩ := z196 (f := f) (tg := tg) (z := z) (rl := roomsL f.parts) (r := r) (h1 := B.length + 3) (l := B.length + 5) (P143 B r l tl zl LB) (B.length + 6) (mendS f l) (fun s => by simp [P143]) (fun s => old hr _) (fun s => get_at B _ 3) (by
   intro s m X t h5 hm
   have hat : (⟨P143 B r l tl zl LB s ++ X, t⟩ : Heap).b[B.length + 5]? = some LB := by
    show (P143 B r l tl zl LB s ++ X)[B.length + 5]? = _
    unfold P143
    rw [List.append_assoc, get_at]; rfl
   have hat2 := hat.trans (congrArg some hLB.symm)
   rw [stepRound_eq tabX hat2]
   clear hat hat2
   simp only [y1, Option.bind_some, roundK, P143]
   have hpos : 0 < m.length := by omega
   have hsp := fun x0 x1 x2 x3 x4 => splice5 x0 x1 x2 x3 x4 m h5
   have h55 : 5 ≤ m.length := by omega
   have ht5 : m.take 5 = m := List.take_of_length_le (by omega)
   obtain ⟨Hd, hHd⟩ : ∃ Hd : List ABlk, Hd = B ++ .cells [.ref r 0] :: .cells [.lst tl zl (S l)] :: .cells [.int .i64 s] :: .cells [.ref r 0] :: .mark :: LB' :: (X ++ [.cells (I m), .none, .none, .none, .none, .none, .none, .none, .none]) := ⟨_, rfl⟩
   have hHl : Hd.length = B.length + (X.length + 15) := by rw [hHd]; simp
   obtain ⟨tg', z', t2, hz2, h171⟩ := z171 f hf.fits hf.p5 hf.p3 tg z (roomsL f.parts) hf.r5 r Hd (t ++ [false, false, false, false, false, false, false, false]) (by rw [hHd]; exact old hr _) m h5 hm
   have hsl := shape_len hf hm
   have h137 := z137 l (shapeM f.parts m) tl tg' zl z' Hd t2
   obtain ⟨es', F, _, h139⟩ := z139s (a := l) (b := shapeM f.parts m) (ta := tl) (tb := tg') (za := zl) (zb := z') (m := Hd.length) (r := Hd.length + 1) hzl hz2 hl (by omega) (x := (0, 0)) ⟨Nat.zero_le _, Nat.zero_le _⟩ [] (Hd ++ [.map [], .cells (rdC l (shapeM f.parts m) tl tg' zl z' Hd.length)]) t2 (by exact get_at _ _ 1) (by exact get_at0 _ _) (by omega) (fun e he => by simp at he)
   have h139 := h139 []
   have hset : (Hd ++ [ABlk.map [], ABlk.cells (rdC l (shapeM f.parts m) tl tg' zl z' Hd.length)]).set Hd.length (.map (esP es')) = Hd ++ [ABlk.map (esP es'), ABlk.cells (rdC l (shapeM f.parts m) tl tg' zl z' Hd.length)] := by
    rw [List.set_append_right _ _ (Nat.le_refl _), Nat.sub_self]; rfl
   rw [hset, List.append_nil, List.append_nil] at h139
   have hms : ∀ best : Int, mendS f l best m = if best < 0 ∨ (awayP l (shapeM f.parts m) (0, 0)).1 < best then (awayP l (shapeM f.parts m) (0, 0)).1 else best := fun _ => rfl
   rw [hms]
   generalize (awayP l (shapeM f.parts m) (0, 0)).1 = v at *
   generalize S (shapeM f.parts m) = W at *
   generalize ABlk.cells (rdC l (shapeM f.parts m) tl tg' zl z' Hd.length) = cR at *
   rw [hHl] at h137 h139
   rw [hHd] at h171 h137 h139
   simp only [ePl, cast_zero] at h139
   simp only [go_sem, ↓reduceIte, simprocAttr, Nat.add_assoc] at h171 h137 h139
   simp only [go_sem, ↓reduceIte, simprocAttr, turnBlk, b1, b2, isNormal, Nat.add_assoc, Nat.add_lt_add_iff_left, List.size_toArray, hpos, hsp, h5, h55, ht5]
   generalize hcf : okFam _ _ _ = cf
   obtain rfl : cf = true := by rw [← hcf]; kernel_rfl
   simp only [go_sem, ↓reduceIte, simprocAttr, h171, h137, h139, turnBlk, b1, b2, isNormal, Nat.add_assoc, Nat.add_lt_add_iff_left, List.size_toArray, h55, ht5]
   have hd : (decide (s < 0) || decide (v < s)) = decide (s < 0 ∨ v < s) := by simp
   rw [hd]
   refine ⟨[.cells (I m), .none, .none, .none, .none, .none, .none, .none, .none, .map (esP es'), cR], t2 ++ F, ?_⟩
   by_cases hc : s < 0 ∨ v < s
   ·rw [if_pos hc, decide_eq_true hc]
    simp only [go_sem, ↓reduceIte, simprocAttr, turnBlk, b1, b2, isNormal]
   ·rw [if_neg hc, decide_eq_false hc]
    simp only [go_sem, ↓reduceIte, simprocAttr, turnBlk, b1, b2, isNormal]) hz hf.r5 hf.rb (by omega) (-1) t
 subst hLB
 refine ⟨t', ?_⟩
 have hfin : (cntP (roomsL f.parts) []).foldl (fun s p => mendS f l s (pad5 p)) (-1) = mendsM f l := rfl
 rw [hfin] at h196
 generalize mendsM f l = v at *
 simp only [P143] at h196
 simp only [go_sem, ↓reduceIte, simprocAttr] at h196 ⊢
 have h31 : B.length + 4 + 1 = B.length + 5 := rfl
 simp only [go_sem, ↓reduceIte, simprocAttr, h196, b3, h31]
end
section
open Go.Proofs
def fix5 (m : List Int) : List Int := (m ++ [0, 0, 0, 0, 0]).take 5
theorem fix5_len (m : List Int) : (fix5 m).length = 5 := by simp [fix5]
theorem fix5_eq {m : List Int} (h : m.length = 5) : fix5 m = m := by unfold fix5; rw [List.take_left' h]
structure WSt where
 first : List Int
 ways : Int
 last : List Int
def wayS (f : Fm) (l : List ByteArray) (s : WSt) (m : List Int) : WSt :=
 if fix5 m = fix5 s.last then s
 else if fitsL (shapeM f.parts m) l then ⟨if IntKind.i64.wrap (s.ways + 1) = 1 then m else s.first, IntKind.i64.wrap (s.ways + 1), m⟩
 else ⟨s.first, s.ways, m⟩
def waysM (f : Fm) (l : List ByteArray) : WSt := (cntP (roomsL f.parts) []).foldl (fun s p => wayS f l s (pad5 p)) ⟨[0, 0, 0, 0, 0], 0, [-1, 0, 0, 0, 0]⟩
theorem eqI5 (l m : List Int) (hl : l.length = 5) (hm : m.length = 5) : eqCells [0, 0, 0, 0, 0] (I l) (I m) = some (decide (l = m)) := by
 match l, m, hl, hm with
 | [a, b, c, d, e], [x, y, z, w, v], _, _ =>
  simp only [eqCells, I_c, I_nil, if_true, Option.map_some]
  congr 1
  rw [Bool.eq_iff_iff]
  simp
theorem hush_134_10 : tabX.hush 134 10 = false := id rfl
def P134 (B : List ABlk) (r : Nat) (l : List ByteArray) (tl zl : Nat) (LB : ABlk) (s : WSt) : List ABlk := B ++ [.cells [.ref r 0], .cells [.lst tl zl (S l)], .cells (I (fix5 s.first)), .cells [.int .i64 s.ways], .cells (I (fix5 s.last)), .cells [.ref r 0], .mark, LB]
theorem spliceI (l m : List Int) (hl : l.length = 5) (hm : m.length = 5) : splice (I l) 0 (I m) = I m := by
 match l, m, hl, hm with
 | [_, _, _, _, _], [_, _, _, _, _], _, _ => rfl
set_option maxHeartbeats 4000000 in
theorem z134 {f : Fm} (hf : FmOk f) {tg z : Nat} (hz : roomsL f.parts ≠ [] → z = 2) (l : List ByteArray) (hl : l.length ≤ 400) (tl zl : Nat) (hzl : l ≠ [] → zl = 1) (r : Nat) (B : List ABlk) (t : List Bool) (hr : B[r]? = some (bLk f tg z (roomsL f.parts))) :
  ∃ t', (EW tabX).call 134 [.ref r 0, .lst tl zl (S l)] ⟨B, t⟩ = some (.tup [.agg (I (fix5 (waysM f l).first)), .int .i64 (waysM f l).ways], ⟨B, t'⟩) := by
 have hrl : r < B.length := (List.getElem?_eq_some_iff.1 hr).1
 have h169 := z169 r (B ++ [.cells [.ref r 0], .cells [.lst tl zl (S l)], .cells (I [0, 0, 0, 0, 0]), .cells [.int .i64 0], .cells (I [-1, 0, 0, 0, 0])]) t (by simp; omega)
 rw [w_call _ fn_134 rfl]
 simp only [go_sem, ↓reduceIte, simprocAttr, I_c, I_nil] at h169
 have hr1 : r < B.length + 1 := by omega
 simp only [go_sem, ↓reduceIte, simprocAttr, h169, hr1]
 rw [w_range (gf := 196) (fst := []) (cap := [.ref (B.length + 5) 0])]
 rotate_left
 ·simp only [go_sem, ↓reduceIte, simprocAttr]
 generalize hLB : ABlk.loop false AExit.normal false 134 _ _ _ _ = LB
 obtain ⟨LB', b1, b2, b3⟩ : ∃ LB', beginBlk LB = some LB' ∧ endBlk .normal LB' = some LB ∧ (∀ h : Heap, h.b[B.length + 7]? = some LB → ∀ fr ms, afterRange (B.length + 7) fr ms h = some (.normal, ⟨fr, h.put (B.length + 7) .none, ms⟩)) := by
  rw [← hLB]
  exact ⟨_, rfl, rfl, fun h hh fr ms => by unfold afterRange; rw [hh]⟩
 obtain ⟨t', h196⟩ := z196 (f := f) (tg := tg) (z := z) (rl := roomsL f.parts) (r := r) (h1 := B.length + 5) (l := B.length + 7) (P134 B r l tl zl LB) (B.length + 8) (wayS f l) (fun s => by simp [P134]) (fun s => old hr _) (fun s => get_at B _ 5) (by
   intro s m X t h5 hm
   have hat : (⟨P134 B r l tl zl LB s ++ X, t⟩ : Heap).b[B.length + 7]? = some LB := by
    show (P134 B r l tl zl LB s ++ X)[B.length + 7]? = _
    unfold P134
    rw [List.append_assoc, get_at]; rfl
   have hat2 := hat.trans (congrArg some hLB.symm)
   rw [stepRound_eq tabX hat2]
   clear hat hat2
   have hfm := fix5_eq h5
   have hws : wayS f l s m = if m = fix5 s.last then s else if fitsL (shapeM f.parts m) l then ⟨if IntKind.i64.wrap (s.ways + 1) = 1 then m else s.first, IntKind.i64.wrap (s.ways + 1), m⟩ else ⟨s.first, s.ways, m⟩ := by unfold wayS; rw [hfm]
   rw [hws]
   have hll := fix5_len s.last
   have hfl := fix5_len s.first
   obtain ⟨first, ways, last⟩ := s
   simp only at hll hfl ⊢
   simp only [y1, Option.bind_some, roundK, P134]
   generalize hF : fix5 first = F1 at *
   generalize hLs : fix5 last = L1 at *
   have hpos : 0 < m.length := by omega
   have hsp := fun x0 x1 x2 x3 x4 => splice5 x0 x1 x2 x3 x4 m h5
   have h55 : 5 ≤ m.length := by omega
   have hL5 : 5 ≤ L1.length := by omega
   have ht5 : m.take 5 = m := List.take_of_length_le (by omega)
   have htL : L1.take 5 = L1 := List.take_of_length_le (by omega)
   have heq := eqI5 m L1 h5 hll
   by_cases hc : m = L1
   ·rw [if_pos hc]
    rw [decide_eq_true hc] at heq
    refine ⟨[.cells (I m)], t, ?_⟩
    simp only [go_sem, ↓reduceIte, simprocAttr, turnBlk, b1, b2, isNormal, Nat.add_assoc, Nat.add_lt_add_iff_left, List.size_toArray, hpos, hsp, h5, h55, ht5, hL5, htL, aggBin, heq, hF, hLs]
   ·rw [if_neg hc]
    rw [decide_eq_false hc] at heq
    have hspL := spliceI L1 m hll h5
    have hspF := spliceI F1 m hfl h5
    have hl5 : 0 < L1.length := by omega
    have hf5 : 0 < F1.length := by omega
    obtain ⟨Hd, hHd⟩ : ∃ Hd : List ABlk, Hd = B ++ .cells [.ref r 0] :: .cells [.lst tl zl (S l)] :: .cells (I F1) :: .cells [.int .i64 ways] :: .cells (I m) :: .cells [.ref r 0] :: .mark :: LB' :: (X ++ [.cells (I m), .none, .none, .none, .none, .none, .none]) := ⟨_, rfl⟩
    obtain ⟨tg', z', t2, hz2, h171⟩ := z171 f hf.fits hf.p5 hf.p3 tg z (roomsL f.parts) hf.r5 r Hd (t ++ [false, false, false, false, false, false]) (by rw [hHd]; exact old hr _) m h5 hm
    have hsl := shape_len hf hm
    have h170 := fun h => z170 (shapeM f.parts m) l z' zl hz2 hzl (by omega) h
    generalize hfv : fitsL (shapeM f.parts m) l = fv at *
    generalize hSW : S (shapeM f.parts m) = W at *
    have hWc : cleanL W = some W := by rw [← hSW]; exact S_clean _
    rw [hHd] at h171
    simp only [go_sem, ↓reduceIte, simprocAttr, turnBlk, b1, b2, isNormal, Nat.add_assoc, Nat.add_lt_add_iff_left, List.size_toArray, hpos, hsp, h5, h55, ht5, hL5, htL, aggBin, heq, hspL, hl5, hll]
    generalize hcf : okFam _ _ _ = cf
    obtain rfl : cf = true := by rw [← hcf]; kernel_rfl
    cases fv with
    | false =>
     simp only [go_sem, ↓reduceIte, simprocAttr, h171, h170, hWc, turnBlk, b1, b2, isNormal, Nat.add_assoc, Nat.add_lt_add_iff_left, List.size_toArray, h55, ht5]
     refine ⟨[.cells (I m), .none, .none, .none, .none, .none, .none], t2, ?_⟩
     simp only [Bool.false_eq_true, if_false, hF, hfm]
    | true =>
     simp only [go_sem, ↓reduceIte, simprocAttr, h171, h170, hWc, turnBlk, b1, b2, isNormal, Nat.add_assoc, Nat.add_lt_add_iff_left, List.size_toArray, h55, ht5]
     generalize IntKind.i64.wrap (ways + 1) = w1 at *
     refine ⟨[.cells (I m), .none, .none, .none, .none, .none, .none], t2, ?_⟩
     have hF5 : 5 ≤ F1.length := by omega
     by_cases hw : w1 = 1
     ·subst hw
      simp only [go_sem, ↓reduceIte, simprocAttr, hspF, hF5, hpos, h5, h55, ht5, turnBlk, b1, b2, isNormal, hfm, hLs]
     ·have hw2 : (w1 == 1) = false := by simp [hw]
      simp only [go_sem, ↓reduceIte, simprocAttr, hw2, hw, turnBlk, b1, b2, isNormal, hfm, hF]) hz hf.r5 hf.rb (by omega) ⟨[0, 0, 0, 0, 0], 0, [-1, 0, 0, 0, 0]⟩ t
 subst hLB
 have hfin : (cntP (roomsL f.parts) []).foldl (fun s p => wayS f l s (pad5 p)) ⟨[0, 0, 0, 0, 0], 0, [-1, 0, 0, 0, 0]⟩ = waysM f l := rfl
 rw [hfin] at h196
 have hf0 : fix5 [0, 0, 0, 0, 0] = [0, 0, 0, 0, 0] := rfl
 have hf1 : fix5 [-1, 0, 0, 0, 0] = [-1, 0, 0, 0, 0] := rfl
 have hwl := fix5_len (waysM f l).first
 simp only [P134] at h196
 generalize fix5 (waysM f l).first = F1 at *
 generalize fix5 (waysM f l).last = L1 at *
 generalize (waysM f l).ways = w1 at *
 simp only [go_sem, ↓reduceIte, simprocAttr, hf0, hf1, I_c, I_nil] at h196 ⊢
 have h31 : B.length + 6 + 1 = B.length + 7 := rfl
 simp only [go_sem, ↓reduceIte, simprocAttr, h196, b3, h31, hush_134_10]
 unfold drawT
 generalize hpf : pairsFine _ _ = pf
 obtain rfl : pf = true := by rw [← hpf]; kernel_rfl
 generalize hcl : conflicts _ _ = cl
 obtain rfl : cl = [(5, 4)] := by rw [← hcl]; kernel_rfl
 have hap : ((B.length + 2) != (B.length + 3)) = true := by simp
 have hap2 : ((B.length + 3) != (B.length + 2)) = true := by simp
 generalize List.replicate _ ABlk.none = N
 generalize List.replicate _ false = F
 have h55 : 5 ≤ F1.length := by omega
 have h50 : 0 < F1.length := by omega
 have ht5 : F1.take 5 = F1 := List.take_of_length_le (by omega)
 have hspF := spliceI F1 F1 hwl hwl
 simp only [go_sem, ↓reduceIte, simprocAttr, refsApart, hap, hap2, h55, h50, ht5, hspF, hwl]
 exact ⟨_, rfl⟩
end
section
open Go.Proofs
theorem rooms_mem {l : List Pt} {r : Int × Int} (h : r ∈ roomsL l) : ∃ p ∈ l, p.words.length = 0 ∧ r = (p.lo, p.hi) := by
 unfold roomsL at h
 obtain ⟨p, hp, rfl⟩ := List.mem_map.1 h
 have := List.mem_filter.1 hp
 exact ⟨p, this.1, by simpa using this.2, rfl⟩
theorem fmOk_of {s : Sh} (hs : s.fits) (ho : s.Ok) {f : Fm} (hf : f ∈ s.forms) : FmOk f :=
 ⟨hs.ff f hf, ho.parts f hf, fun p hp => (ho.part f hf p hp).len, fun r hr => by
  obtain ⟨p, hp, h0, rfl⟩ := rooms_mem hr
  have := ((ho.part f hf p hp).room h0).1
  unfold RoomOk at this
  simp only at this ⊢
  omega⟩
theorem z84 (s : Sh) (hs : s.fits) (ho : s.Ok) (n : Nat) (f : Fm) (hn : s.forms[n]? = some f) (l : List ByteArray) (z : Nat) (hz : l ≠ [] → z = 1) (hl : l.length ≤ 15) (hw : ∀ s ∈ l, wordOk s = true) (h : Heap) :
  callPure (EW tabX) 84 [eSh s, .int .i64 n, .lst 0 z (S l)] h = some (.tup [.int .i64 (mendsM f l), .int .i64 0], h) := by
 have hmem := List.mem_of_getElem? hn
 obtain ⟨q, hq, hown⟩ := z89 s hs ho n f hn [.cells (eShc s)] []
 have h96 := z96 l z hz hl hw
 have hzr : roomsL f.parts ≠ [] → q.z = 2 := fun hne => by
  rcases hown with ⟨_, h⟩ | ⟨_, _, h, _⟩
  ·exact absurd (List.eq_nil_of_length_eq_zero h) hne
  ·exact h
 obtain ⟨t', h143⟩ := z143 (fmOk_of hs ho hmem) hzr l (by omega) 0 z hz 3 (LkAt f ([.cells (eShc s)] ++ [.cells (eShc s)]) q (roomsL f.parts)) q.t (by unfold LkAt; rfl)
 simp only [LkAt, eShc, List.cons_append, List.nil_append] at h143
 simp only [eSh, eShc] at hq ⊢
 rw [callPure_eq, w_call _ fn_84 rfl]
 simp only [go_sem, ↓reduceIte, simprocAttr, hq, LkAt, h96, h143]
theorem z145 (s : Sh) (hs : s.fits) (ho : s.Ok) (k : Nat) (f : Fm) (hk : s.forms[k]? = some f) (l : List ByteArray) (z : Nat) (hz : l ≠ [] → z = 1) (hl : l.length ≤ 15) (i1 i2 : Nat) (B : List ABlk) (t : List Bool) (h1 : B[i1]? = some (.cells (eShc s))) (h2 : B[i2]? = some (.cells [.lst 0 z (S l)])) :
  ∃ t', (EW tabX).call 145 [.int .i64 k, .ref i1 0, .ref i2 0] ⟨B, t⟩ = some (.int .i64 (mendsM f l), ⟨B, t'⟩) := by
 have hlt : k < s.forms.length := (List.getElem?_eq_some_iff.1 hk).1
 have hmem := List.mem_of_getElem? hk
 have hzs := hs.zf (by intro e; rw [e] at hlt; simp at hlt)
 have hki : (k : Int) < s.forms.length := by omega
 obtain ⟨q, hq, hown⟩ := z133 f (hs.ff _ hmem) (ho.parts _ hmem) (B ++ [.none, .none, .none, .none, .none, .none, .none, .none, .none]) (t ++ [false, false, false, false, false, false, false, false, false])
 have hzr : roomsL f.parts ≠ [] → q.z = 2 := fun hne => by
  rcases hown with ⟨_, h⟩ | ⟨_, _, h, _⟩
  ·exact absurd (List.eq_nil_of_length_eq_zero h) hne
  ·exact h
 obtain ⟨t', h143⟩ := z143 (fmOk_of hs ho hmem) hzr l (by omega) 0 z hz (B.length + 10) (LkAt f (B ++ [.none, .none, .none, .none, .none, .none, .none, .none, .none]) q (roomsL f.parts)) q.t (by unfold LkAt; rw [List.append_assoc, get_at]; rfl)
 simp only [eShc] at h1
 have o1 := fun Y => old h1 Y
 have o2 := fun Y => old h2 Y
 simp only [LkAt, eFm] at hq h143
 simp only [go_sem, ↓reduceIte, simprocAttr, Nat.add_assoc] at hq h143
 refine ⟨t', ?_⟩
 rw [w_call _ fn_145 rfl]
 simp only [go_sem, ↓reduceIte, simprocAttr, Nat.add_assoc, List.size_toArray, o1, o2, h1, h2, hki, hk, hzs, eFm, hq, h143]
 generalize hcf : okFam _ _ _ = cf
 obtain rfl : cf = true := by rw [← hcf]; kernel_rfl
 simp only [go_sem, ↓reduceIte, simprocAttr]
def idxI (n k : Nat) : List Int := (List.range k).map (fun (i : Nat) => (i : Int)) ++ List.replicate (n - k) 0
theorem idxI_len {n k : Nat} (h : k ≤ n) : (idxI n k).length = n := by simp [idxI]; omega
theorem idxI_set {n k : Nat} (h : k < n) : (idxI n k).set k (k : Int) = idxI n (k + 1) := by
 unfold idxI
 rw [List.set_append_right _ _ (by simp)]
 obtain ⟨m, hm⟩ : ∃ m, n - k = m + 1 := ⟨n - k - 1, by omega⟩
 rw [hm, show n - (k + 1) = m by omega, List.replicate_succ, List.range_succ]
 simp
theorem idxI_get {n k : Nat} {x : Int} (h : (idxI n n)[k]? = some x) : k < n ∧ x = (k : Int) := by
 have hk : k < n := by have := (List.getElem?_eq_some_iff.1 h).1; rwa [idxI_len (Nat.le_refl _)] at this
 refine ⟨hk, ?_⟩
 unfold idxI at h
 rw [Nat.sub_self, List.replicate_zero, List.append_nil, List.getElem?_map, List.getElem?_range hk] at h
 exact (Option.some.inj h).symm
theorem I_rep (n : Nat) : List.replicate n (AV.int .i64 0) = I (idxI n 0) := by simp [idxI, I]
def nearM (s : Sh) (l : List ByteArray) : Int × Int := leastM (idxI s.forms.length s.forms.length) (fun k => mendsM (s.forms.getD k ⟨⟨#[]⟩, [], 0⟩) l) s.forms.length
theorem z85 (s : Sh) (hs : s.fits) (ho : s.Ok) (hne : s.forms ≠ []) (l : List ByteArray) (z : Nat) (hz : l ≠ [] → z = 1) (hl : l.length ≤ 15) (hw : ∀ s ∈ l, wordOk s = true) (h : Heap) :
  callPure (EW tabX) 85 [eSh s, .lst 0 z (S l)] h = some (.tup [.int .i64 (nearM s l).1, .int .i64 (nearM s l).2, .int .i64 0], h) := by
 have h95 := z95 s hs ho
 have h96 := z96 l z hz hl hw
 have hl4 := ho.len
 have hpos : 0 < s.forms.length := List.length_pos_iff.2 hne
 have hne0 : ((s.forms.length : Int) == 0) = false := by simp; exact hne
 have hzs := hs.zf hne
 simp only [eSh, eShc, tup3] at h95 ⊢
 rw [callPure_eq, w_call _ fn_85 rfl]
 have hf0 : (0 : Int) ≤ (s.forms.length : Int) ∧ ((s.forms.length : Nat) : Int) = (s.forms.length : Int) ∧ (s.forms.length : Int) ≤ 4096 := by omega
 have h4096 : (s.forms.length : Int) ≤ 4096 := by omega
 have h0n : (0 : Int) ≤ (s.forms.length : Int) := by omega
 obtain ⟨E, hE0, hE⟩ := seq_exists (fun _ : List Bool => True) (fun k t t' => ∀ f, s.forms[k]? = some f → (EW tabX).call 145 [.int .i64 (k : Int), .ref 0 0, .ref 1 0] ⟨[.cells [.int .i64 s.width, .lst 0 s.zf (s.forms.map eFm)], .cells [.lst 0 z (S l)], .cells (I (idxI s.forms.length s.forms.length))], t⟩ = some (.int .i64 (mendsM f l), ⟨[.cells [.int .i64 s.width, .lst 0 s.zf (s.forms.map eFm)], .cells [.lst 0 z (S l)], .cells (I (idxI s.forms.length s.forms.length))], t'⟩)) (fun k t _ => by
  cases hk : s.forms[k]? with
  | none => exact ⟨t, trivial, fun f hf => by cases hf⟩
  | some f =>
   obtain ⟨t', h145⟩ := z145 s hs ho k f hk l z hz hl 0 1 [.cells [.int .i64 s.width, .lst 0 s.zf (s.forms.map eFm)], .cells [.lst 0 z (S l)], .cells (I (idxI s.forms.length s.forms.length))] t rfl rfl
   exact ⟨t', trivial, fun g hg => by cases hg; exact h145⟩) [] trivial
 have h144 := z144b 2 145 [] [.ref 0 0, .ref 1 0] (idxI s.forms.length s.forms.length) (by rw [idxI_len (Nat.le_refl _)]; omega) (by intro e; have := congrArg List.length e; rw [idxI_len (Nat.le_refl _)] at this; simp at this; exact hne this) (fun k => mendsM (s.forms.getD k ⟨⟨#[]⟩, [], 0⟩) l) (fun _ => [.cells [.int .i64 s.width, .lst 0 s.zf (s.forms.map eFm)], .cells [.lst 0 z (S l)], .cells (I (idxI s.forms.length s.forms.length))]) E (fun _ => rfl) (fun k x hk => by
   obtain ⟨hkl, rfl⟩ := idxI_get hk
   have hx := List.getElem?_eq_getElem hkl
   have h := (hE k).2 _ hx
   have hg : s.forms.getD k ⟨⟨#[]⟩, [], 0⟩ = s.forms[k] := by rw [List.getD_eq_getElem?_getD, hx]; rfl
   rw [callAV_clo, hg]
   simp only [go_sem, ↓reduceIte, simprocAttr]
   exact h) (by simp only [go_sem, ↓reduceIte, simprocAttr]) (fun _ => rfl)
 rw [idxI_len (Nat.le_refl _), hE0] at h144
 have hnm : leastM (idxI s.forms.length s.forms.length) (fun k => mendsM (s.forms.getD k ⟨⟨#[]⟩, [], 0⟩) l) s.forms.length = nearM s l := rfl
 rw [hnm] at h144
 simp only [go_sem, ↓reduceIte, simprocAttr, h95, h96, hne0, opMakeSlice, h0n, h4096, I_rep]
 rw [w_rounds_h (fun k => [(35, .int .i64 k)]) (fun k => ⟨[.cells [.int .i64 s.width, .lst 0 s.zf (s.forms.map eFm)], .cells [.lst 0 z (S l)], .cells (I (idxI s.forms.length k))], []⟩) s.forms.length (.exit 1) [(35, .int .i64 s.forms.length)] ⟨[.cells [.int .i64 s.width, .lst 0 s.zf (s.forms.map eFm)], .cells [.lst 0 z (S l)], .cells (I (idxI s.forms.length s.forms.length))], []⟩ ?_ ?_ ?_ ?_ rfl]
 ·simp only [go_sem, ↓reduceIte, simprocAttr, h144]
 ·simp only [go_sem, ↓reduceIte, simprocAttr]
 ·simp only [go_sem, ↓reduceIte, simprocAttr]
 ·intro k hk
  have hki : (k : Int) < s.forms.length := by omega
  have hwk : IntKind.i64.wrap ((k : Int) + 1) = (k : Int) + 1 := wrap_i64 (by omega)
  have hset := I_set5 (idxI s.forms.length k) k (k : Int)
  rw [idxI_set hk] at hset
  have hlen := idxI_len (Nat.le_of_lt hk)
  have hk1 : k + 1 ≤ (idxI s.forms.length k).length := by omega
  simp only [go_sem, ↓reduceIte, simprocAttr, hki, hk, hwk, hset, hk1, Nat.mul_one]
 ·simp only [go_sem, ↓reduceIte, simprocAttr, Int.lt_irrefl]
end
section
open Go.Proofs
structure OSt where
 l : List Int
 tg : Nat
 z : Nat
 t : List Bool
 J : List ABlk
set_option maxHeartbeats 2000000 in
theorem z78 (s : Sh) (hs : s.fits) (ho : s.Ok) (n : Nat) (hn : s.forms.length = n + 1) (l : List ByteArray) (z : Nat) (hz : l ≠ [] → z = 1) (hl : l.length ≤ 15) (hw : ∀ s ∈ l, wordOk s = true)
  (hw0 : ∀ k f, k < n → s.forms[k]? = some f → (waysM f l).ways = 0) (hw1 : ∀ f, s.forms[n]? = some f → 0 < (waysM f l).ways) (h : Heap) :
  callPure (EW tabX) 78 [eSh s, .lst 0 z (S l)] h = some (.tup [.lst 0 1 [.int .i64 n], .int .i64 0], h) := by
 have h95 := z95 s hs ho
 have h96 := z96 l z hz hl hw
 have hl4 := ho.len
 have hzs := hs.zf (by intro e; rw [e] at hn; simp at hn)
 simp only [eSh, eShc, tup3] at h95 ⊢
 rw [callPure_eq, w_call _ fn_78 rfl]
 simp only [go_sem, ↓reduceIte, simprocAttr, h95, h96]
 generalize hx : (EW tabX).code 78 none (Code.loop _) _ = y
 refine w_rounds_sk hx (fun k (q : OSt) => [(4, .lst q.tg q.z (I q.l)), (26, .int .i64 (k : Int))]) (fun q => ⟨q.J, q.t⟩) (fun k q => (k ≤ n ∧ q.l = [] ∧ q.tg = 1 ∧ q.z = 0) ∨ (k = n + 1 ∧ q.l = [(n : Int)] ∧ q.z = 1)) s.forms.length (.exit 0) (fun q => [(4, .lst q.tg q.z (I q.l)), (26, .int .i64 (s.forms.length : Int))]) rfl ⟨[], 1, 0, [], [.cells [.int .i64 s.width, .lst 0 s.zf (s.forms.map eFm)]]⟩ ?_ ?_ (.inl ⟨Nat.zero_le _, rfl, rfl, rfl⟩) ?_ ?_ ?_
 ·simp only [go_sem, ↓reduceIte, simprocAttr, I_nil]
 ·simp only [go_sem, ↓reduceIte, simprocAttr]
 ·intro k q hk hR
  rcases hR with ⟨hkn, h1, h2, h3⟩ | ⟨hkn, _, _⟩
  ·obtain ⟨ql, tg, zq, t, J⟩ := q
   simp only at h1 h2 h3
   subst h1 h2 h3
   have hki : (k : Int) < s.forms.length := by omega
   have hx := List.getElem?_eq_getElem hk
   have hmem := List.getElem_mem hk
   have hfs := hs.ff _ hmem
   have hp := ho.parts _ hmem
   have hfo := fmOk_of hs ho hmem
   have hwk : IntKind.i64.wrap ((k : Int) + 1) = (k : Int) + 1 := wrap_i64 (by omega)
   have hw0 := fun h => hw0 k _ h hx
   have hw1 := fun (h : k = n) => hw1 s.forms[k] (by subst h; exact hx)
   generalize s.forms[k] = f at *
   obtain ⟨q, hq, hown⟩ := z133 f hfs hp (J ++ [bFm f]) t
   have hzr : roomsL f.parts ≠ [] → q.z = 2 := fun hne => by
    rcases hown with ⟨_, h⟩ | ⟨_, _, h, _⟩
    ·exact absurd (List.eq_nil_of_length_eq_zero h) hne
    ·exact h
   obtain ⟨t', h134⟩ := z134 (tg := q.tg) hfo hzr l (by omega) 0 z hz (J.length + 2) (LkAt f (J ++ [bFm f]) q (roomsL f.parts)) q.t (by unfold LkAt; simp [List.getElem?_append])
   simp only [LkAt, eFm, bFm, bLk] at hq h134
   simp only [go_sem, ↓reduceIte, simprocAttr, Nat.add_assoc, hzs] at hq h134
   generalize hfv : waysM f l = fv at *
   obtain ⟨first, ways, last⟩ := fv
   simp only at hw0 hw1 h134
   have h5 := fix5_len first
   generalize fix5 first = F1 at *
   have hsp := fun x0 x1 x2 x3 x4 => splice5 x0 x1 x2 x3 x4 F1 h5
   have h50 : 0 < F1.length := by omega
   have h55 : 5 ≤ F1.length := by omega
   by_cases hkn2 : k < n
   ·have hww := hw0 hkn2
    subst hww
    refine ⟨⟨[], 1, 0, t', J ++ [bFm f, bFm f, bLk f q.tg q.z (roomsL f.parts)] ++ q.tail ++ [.cells (I F1)]⟩, ?_, .inl ⟨by omega, rfl, rfl, rfl⟩⟩
    simp only [go_sem, ↓reduceIte, simprocAttr, Nat.add_assoc, hki, hx, hzs, eFm, bFm, bLk, hq, h134, hwk, I_nil, hsp, h50, h5, h55]
   ·have hkn3 : k = n := by omega
    have hww := hw1 hkn3
    subst hkn3
    obtain ⟨t2, ha, _, _, _⟩ := app_gen (X := tabX) (ty := 22) (e := 3) (sz := 1) (tag := 1) (z := 0) (t := t') (xs := ([] : List AV)) (.inl ⟨rfl, rfl⟩) 1 1 [.int .i64 (k : Int)] (by simp only [go_sem, ↓reduceIte, simprocAttr]) (by simp only [go_sem, ↓reduceIte, simprocAttr]) (by decide) (.inl rfl) (by simp only [go_sem, ↓reduceIte, simprocAttr]) (by simp only [go_sem, ↓reduceIte, simprocAttr]) (by simp only [go_sem, ↓reduceIte, simprocAttr]) (by simp only [go_sem, ↓reduceIte, simprocAttr])
    refine ⟨⟨[(k : Int)], t'.length + 2, 1, t2, J ++ [bFm f, bFm f, bLk f q.tg q.z (roomsL f.parts)] ++ q.tail ++ [.cells (I F1)]⟩, ?_, .inr ⟨rfl, rfl, rfl⟩⟩
    simp only [go_sem, ↓reduceIte, simprocAttr, Nat.add_assoc, hki, hx, hzs, eFm, bFm, bLk, hq, h134, hwk, I_nil, I_c, hsp, h50, h5, h55, hww, ha]
  ·omega
 ·intro q hR
  simp (disch := omega) only [go_sem, ↓reduceIte, simprocAttr, Int.lt_irrefl]
 ·intro q hy hR
  rcases hR with ⟨hkn, _⟩ | ⟨hkn, h1, h2⟩
  ·omega
  ·rw [hy, h1, h2]
   simp only [go_sem, ↓reduceIte, simprocAttr, I_c, I_nil]
end
section
open Go.Proofs
set_option maxHeartbeats 4000000 in
theorem z79 (s : Sh) (hs : s.fits) (ho : s.Ok) (n : Nat) (f : Fm) (hn : s.forms[n]? = some f) (r1 r2 : Int × Int) (zp : Nat) (hp : f.parts = [⟨[], 0, r1.1, r1.2⟩, ⟨[], 0, r2.1, r2.2⟩]) (x y z : ByteArray) (hw : ∀ s ∈ [x, y, z], wordOk s = true) (w : Int) (hw0 : 0 < w) (ls : List Int)
  (hm : waysM f [x, y, z] = ⟨[1, 2, 0, 0, 0], w, ls⟩) (h : Heap) :
  callPure (EW tabX) 79 [eSh s, .int .i64 n, .lst 0 1 (S [x, y, z])] h = some (.tup [.lst 0 1 [.lst 0 1 (S [x]), .lst 0 1 (S [y, z])], .int .i64 w, .int .i64 0], h) := by
 have hmem := List.mem_of_getElem? hn
 obtain ⟨q, hq, hown⟩ := z89 s hs ho n f hn [.cells (eShc s)] []
 have h96 := z96 [x, y, z] 1 (fun _ => rfl) (by simp) hw
 have hzr : roomsL f.parts ≠ [] → q.z = 2 := fun hne => by
  rcases hown with ⟨_, h⟩ | ⟨_, _, h, _⟩
  ·exact absurd (List.eq_nil_of_length_eq_zero h) hne
  ·exact h
 obtain ⟨t', h134⟩ := z134 (fmOk_of hs ho hmem) hzr [x, y, z] (by simp) 0 1 (fun _ => rfl) 3 (LkAt f ([.cells (eShc s)] ++ [.cells (eShc s)]) q (roomsL f.parts)) q.t (by unfold LkAt; rfl)
 have hfx : fix5 [1, 2, 0, 0, 0] = [1, 2, 0, 0, 0] := rfl
 simp only [LkAt, eShc, List.cons_append, List.nil_append, hm, hfx, I_c, I_nil] at h134
 simp only [eSh, eShc] at hq ⊢
 have hzp := (hs.ff _ hmem).zp (by rw [hp]; simp)
 have hw1 : (w == 0) = false := by simp; omega
 have sc : S [x, y, z] = [.str x, .str y, .str z] := rfl
 rw [sc] at h134 h96 ⊢
 rw [callPure_eq, w_call _ fn_79 rfl]
 simp only [go_sem, ↓reduceIte, simprocAttr, hq, LkAt, h96, h134, hw1]
 simp only [bFm, bLk, hp, hzp, ePt, S_nil, List.map_cons, List.map_nil]
 simp only [go_sem, ↓reduceIte, simprocAttr, opMakeSlice]
 obtain ⟨t2, ha2, hl2, ho2, _⟩ := app_gen (X := tabX) (ty := 73) (e := 70) (sz := 1) (tag := 1) (z := 0) (t := t') (xs := ([] : List AV)) (.inl ⟨rfl, rfl⟩) 1 1 [.bsl (q.tail.length + 2 + 1 + 1 + 1 + 1) 0 1 1] (by simp only [go_sem, ↓reduceIte, simprocAttr]) (by simp only [go_sem, ↓reduceIte, simprocAttr]) (by decide) (.inl rfl) (by simp only [go_sem, ↓reduceIte, simprocAttr]) (by simp only [go_sem, ↓reduceIte, simprocAttr]) (by simp only [go_sem, ↓reduceIte, simprocAttr]) (by simp only [go_sem, ↓reduceIte, simprocAttr])
 have hc1 : IntKind.i64.wrap (0 + ((min 3 1 : Nat) : Int)) = 1 := by decide
 have hc2 : IntKind.i64.wrap (1 + ((min 2 2 : Nat) : Int)) = 3 := by decide
 have hc3 : IntKind.i64.wrap 1 = 1 := by decide
 have hc4 : IntKind.i64.wrap 2 = 2 := by decide
 rw [w_loop (hm := ?_)]
 rotate_left
 ·rfl
 simp only [go_sem, ↓reduceIte, simprocAttr, opMakeSlice, opCopy, thenN_normal, ha2, hc1, hc3]
 rw [w_loop (hm := ?_)]
 rotate_left
 ·rfl
 obtain ⟨t3, ha3, hl3, ho3, _⟩ := app_gen (X := tabX) (ty := 73) (e := 70) (sz := 1) (tag := t'.length + 2) (z := 1) (t := t2) (xs := [AV.bsl (q.tail.length + 2 + 1 + 1 + 1 + 1) 0 1 1]) (.inr ⟨_, rfl, rfl, ho2⟩) 1 1 [.bsl (q.tail.length + 4 + 1 + 1 + 1 + 1) 0 2 1] (by simp only [go_sem, ↓reduceIte, simprocAttr]) (by simp only [go_sem, ↓reduceIte, simprocAttr]) (by decide) (.inl rfl) (by simp only [go_sem, ↓reduceIte, simprocAttr]) (by simp only [go_sem, ↓reduceIte, simprocAttr]) (by simp only [go_sem, ↓reduceIte, simprocAttr]) (by simp only [go_sem, ↓reduceIte, simprocAttr])
 simp only [go_sem, ↓reduceIte, simprocAttr, opMakeSlice, opCopy, thenN_normal, hc2, hc3, hc4, ha3]
 rw [w_loop (hm := ?_)]
 rotate_left
 ·rfl
 simp only [go_sem, ↓reduceIte, simprocAttr, thenN, Nat.not_lt_zero, decide_false]
 rw [orW_none]
 simp only [go_sem, ↓reduceIte, simprocAttr, frz, rowsOf, rowAt, optL, List.map_cons, List.map_nil, S]
end
section
open Go.Proofs
theorem pure_eng {n g : Nat} {args : List AV} {u : AV} (h : ((eng tabX n).call g args ⟨[], []⟩).bind (fun r => settle r.2 r.1) = some u) (hp : Heap) : callPure (EW tabX) g args hp = some (u, hp) := by
 cases hc : (eng tabX n).call g args ⟨[], []⟩ with
 | none => rw [hc] at h; cases h
 | some r =>
  rw [hc] at h
  have he : (EW tabX).call g args ⟨[], []⟩ = some r := ew_call_of tabX ⟨n, fun m hm => by
   have := (Good.call g args ⟨[], []⟩).mono (eng_le tabX n (m - n)) hc
   rwa [Nat.add_sub_cancel' hm] at this⟩
  rw [callPure_eq, he]
  simp only [Option.bind_some] at h
  show (settle r.2 r.1).map (fun u => (u, hp)) = _
  rw [h]
  rfl
def wA : List ByteArray := [⟨#[116,111]⟩, ⟨#[116,104,101]⟩, ⟨#[106,117,100,103,101]⟩, ⟨#[105]⟩, ⟨#[97,115,107]⟩, ⟨#[109,101,114,99,121]⟩]
def wB : List ByteArray := [⟨#[116,111]⟩, ⟨#[106,117,100,103,101]⟩, ⟨#[105]⟩, ⟨#[97,115,107]⟩, ⟨#[102,111,114]⟩, ⟨#[109,101,114,99,121]⟩]
theorem e82 (h : Heap) : callPure (EW tabX) 82 [.lst 0 1 (S wA), .lst 0 2 (eMks mkX)] h = some (.tup [.lst 0 1 (S wB), .int .i64 0], h) := pure_eng (n := 100) (by kernel_rfl) h
def txA : ByteArray := ⟨#[116,111,32,116,104,101,32,106,117,100,103,101,10,105,32,97,115,107,32,109,101,114,99,121,10]⟩
def txB : ByteArray := ⟨#[116,111,32,116,104,101,10]⟩
def txC : ByteArray := ⟨#[116,111,32,116,104,101,32,106,117,100,103,101,32,105,10,97,115,107,32,109,101,114,99,121,10]⟩
theorem e135a (h : Heap) : callPure (EW tabX) 135 [.str txA, .clo 136 [] []] h = some (.lst 0 1 (S wA), h) := pure_eng (n := 200) (by kernel_rfl) h
theorem e135b (h : Heap) : callPure (EW tabX) 135 [.str txB, .clo 136 [] []] h = some (.lst 0 1 (S [⟨#[116,111]⟩, ⟨#[116,104,101]⟩]), h) := pure_eng (n := 200) (by kernel_rfl) h
theorem e135c (h : Heap) : callPure (EW tabX) 135 [.str txC, .clo 136 [] []] h = some (.lst 0 1 (S wA), h) := pure_eng (n := 200) (by kernel_rfl) h
theorem z80 (s : Sh) (hs : s.fits) (ho : s.Ok) (tx : ByteArray) (hx : tx.size ≤ 160) (l : List ByteArray) (hl : l.length ≤ 15) (hw : ∀ s ∈ l, wordOk s = true) (h135 : ∀ h, callPure (EW tabX) 135 [.str tx, .clo 136 [] []] h = some (.lst 0 1 (S l), h)) (h : Heap) :
  callPure (EW tabX) 80 [eSh s, .str tx] h = some (if (⟨(textL s.width l).toArray⟩ : ByteArray) == tx then .tup [.lst 0 1 (S l), .int .i64 0] else .tup [.lst 0 0 [], .int .i64 6], h) := by
 have h95 := z95 s hs ho
 have h96 := z96 l 1 (fun _ => rfl) hl hw
 obtain ⟨w1, w2⟩ := ho.width
 have h97 : textO [.int .i64 s.width, .lst 0 1 (S l)] = some (.str ⟨(textL s.width l).toArray⟩) := textO_eq (by omega) (by omega) (fun t ht => by have := wordOk_size (hw t ht); omega) (.inl rfl)
 have hxi : ¬ ((160 : Int) < tx.size) := by omega
 simp only [eSh, eShc, tup3] at h95 ⊢
 rw [callPure_eq, w_call _ fn_80 rfl]
 cases e : ((⟨(textL s.width l).toArray⟩ : ByteArray) == tx) with
 | true =>
  have e2 : ((⟨(textL s.width l).toArray⟩ : ByteArray) != tx) = false := by rw [bne, e]; rfl
  simp only [go_sem, ↓reduceIte, simprocAttr, h95, hxi, h135, h96, orc_97, rr_97, h97, e2]
 | false =>
  have e2 : ((⟨(textL s.width l).toArray⟩ : ByteArray) != tx) = true := by rw [bne, e]; rfl
  simp only [go_sem, ↓reduceIte, simprocAttr, h95, hxi, h135, h96, orc_97, rr_97, h97, e2]
end
section
open Go.Proofs
def leastO (o : Option Nat) (w : Nat) : Option Nat := match o with | none => some w | some b => match Nat.blt w b with | true => some w | false => some b
noncomputable def memK (a b : List ByteArray) (rec : List ((Nat × Nat) × Nat) → Nat × Nat → Nat × List ((Nat × Nat) × Nat)) (x : Nat × Nat) (st : Option Nat × List ((Nat × Nat) × Nat)) (k : Nat) : Option Nat × List ((Nat × Nat) × Nat) :=
 match stepM a b k x.1 x.2 with
 | (y, .ofNat c) => match rec st.2 y with
  | (v, es) => forceNat (c + v) fun w => (leastO st.1 w, es)
 | (_, .negSucc _) => st
open Classical in
noncomputable def memM (a b : List ByteArray) : Nat → List ((Nat × Nat) × Nat) → Nat × Nat → Nat × List ((Nat × Nat) × Nat)
 | 0, es, x => ((awayP a b x).1.toNat, es)
 | n + 1, es, x => match es.find? (fun e => Nat.beq x.1 e.1.1 && Nat.beq x.2 e.1.2) with
  | some e => (e.2, es)
  | none => match Nat.beq x.1 a.length && Nat.beq x.2 b.length with
   | true => (0, es)
   | false => match [0, 1, 2, 3].foldl (memK a b (memM a b n) x) (none, es) with
    | (some v, es2) => (v, (x, v) :: es2)
    | (none, es2) => (0, es2)
def rightN (a b : List ByteArray) (es : List ((Nat × Nat) × Nat)) : Prop := ∀ e ∈ es, (e.2 : Int) = (awayP a b e.1).1
theorem awayP_nn {a b : List ByteArray} {x : Nat × Nat} (hi : inP a b x) : 0 ≤ (awayP a b x).1 := leftM_nn a b _ x hi
theorem memM_eq (a b : List ByteArray) : ∀ (n : Nat) (es : List ((Nat × Nat) × Nat)) (x : Nat × Nat), inP a b x → rightN a b es → ((memM a b n es x).1 : Int) = (awayP a b x).1 ∧ rightN a b (memM a b n es x).2
 | 0, es, x, hi, hr => ⟨by have := awayP_nn hi; unfold memM; simp only; omega, hr⟩
 | n + 1, es, x, hi, hr => by
  unfold memM
  cases hf : es.find? (fun e => Nat.beq x.1 e.1.1 && Nat.beq x.2 e.1.2) with
  | some e =>
   simp only
   have hm := List.mem_of_find?_eq_some hf
   have he := List.find?_some hf
   simp only [Bool.and_eq_true, Nat.beq_eq] at he
   have hx : x = e.1 := Prod.ext he.1 he.2
   exact ⟨by rw [hx]; exact hr e hm, hr⟩
  | none =>
   simp only
   cases he : (Nat.beq x.1 a.length && Nat.beq x.2 b.length) with
   | true =>
    simp only [Bool.and_eq_true, Nat.beq_eq] at he
    have hx : x = (a.length, b.length) := Prod.ext he.1 he.2
    refine ⟨?_, hr⟩
    unfold awayP
    rw [leftM_succ, if_pos hx]
    rfl
   | false =>
    have hx : x ≠ (a.length, b.length) := fun h => by rw [h] at he; simp at he
    rw [awayP_eq a b x hi hx]
    have key : ∀ k, k ≤ 4 → ∀ st, st = (List.range k).foldl (memK a b (memM a b n) x) (none, es) → (leastM [0, 1, 2, 3] (costP a b x) k).2 = (match st.1 with | none => -1 | some v => (v : Int)) ∧ rightN a b st.2 := by
     intro k
     induction k with
     | zero => intro _ st hst; subst hst; exact ⟨rfl, hr⟩
     | succ k ih =>
      intro hk st hst
      rw [List.range_succ, List.foldl_append] at hst
      obtain ⟨i1, i2⟩ := ih (by omega) _ rfl
      generalize (List.range k).foldl (memK a b (memM a b n) x) (none, es) = s0 at *
      obtain ⟨o, es0⟩ := s0
      simp only [List.foldl_cons, List.foldl_nil] at hst
      subst hst
      simp only at i1 i2
      have hstep := fun hc => step_in a b k x.1 x.2 (by omega) hi hc
      have hL : (leastM [0, 1, 2, 3] (costP a b x) (k + 1)).2 = if 0 ≤ costP a b x k ∧ ((leastM [0, 1, 2, 3] (costP a b x) k).2 < 0 ∨ costP a b x k < (leastM [0, 1, 2, 3] (costP a b x) k).2) then costP a b x k else (leastM [0, 1, 2, 3] (costP a b x) k).2 := by
       show (if _ then _ else _ : Int × Int).2 = _
       split <;> rfl
      rw [hL, i1]
      have hcP : costP a b x k = (if (stepM a b k x.1 x.2).2 < 0 then -1 else (stepM a b k x.1 x.2).2 + (awayP a b (stepM a b k x.1 x.2).1).1) := rfl
      rw [hcP]
      unfold memK
      generalize stepM a b k x.1 x.2 = s at *
      obtain ⟨y, c⟩ := s
      cases c with
      | negSucc c =>
       simp only at hstep ⊢
       rw [if_pos (Int.negSucc_lt_zero c), if_neg (by intro h; exact absurd h.1 (by decide))]
       exact ⟨rfl, i2⟩
      | ofNat c =>
       obtain ⟨s1, _, _⟩ := hstep (show ¬ ((c : Int) < 0) by omega)
       obtain ⟨m1, m2⟩ := memM_eq a b n es0 y s1 i2
       simp only at m1 ⊢
       generalize memM a b n es0 y = r at *
       obtain ⟨v, es1⟩ := r
       simp only at m1 m2 ⊢
       rw [forceNat_eq]
       refine ⟨?_, m2⟩
       simp only
       have hcn : ¬ ((c : Int) < 0) := by omega
       rw [Int.ofNat_eq_natCast, if_neg hcn, ← m1]
       cases o with
       | none =>
        simp only [leastO]
        rw [if_pos ⟨by omega, .inl (by decide)⟩]
        rfl
       | some w =>
        simp only [leastO]
        cases hb : Nat.blt (c + v) w with
        | true =>
         have : c + v < w := by rwa [Nat.blt_eq] at hb
         rw [if_pos ⟨by omega, .inr (by omega)⟩]
         rfl
        | false =>
         have : ¬ (c + v < w) := fun h => by rw [← Nat.blt_eq, hb] at h; cases h
         rw [if_neg (by omega)]
    obtain ⟨k1, k2⟩ := key 4 (Nat.le_refl _) _ rfl
    have hr4 : List.range 4 = [0, 1, 2, 3] := rfl
    rw [hr4] at k1 k2
    rw [k1]
    generalize [0, 1, 2, 3].foldl (memK a b (memM a b n) x) (none, es) = st at *
    obtain ⟨o, es2⟩ := st
    have hnn := awayP_nn hi
    rw [awayP_eq a b x hi hx, k1] at hnn
    cases o with
    | none => exact absurd hnn (show ¬ (0 : Int) ≤ -1 by decide)
    | some v =>
     refine ⟨rfl, fun e he => ?_⟩
     rcases List.mem_cons.1 he with rfl | he
     ·simp only; rw [awayP_eq a b x hi hx, k1]
     ·exact k2 e he
noncomputable def farM (a b : List ByteArray) (x : Nat × Nat) : Nat := (memM a b 60 [] x).1
theorem farM_eq {a b : List ByteArray} {x : Nat × Nat} (hi : inP a b x) : (awayP a b x).1 = (farM a b x : Int) := (memM_eq a b 60 [] x hi (fun e he => by simp at he)).1.symm
end
section
open Go.Proofs
noncomputable def mendSC (f : Fm) (l : List ByteArray) (best : Int) (m : List Int) : Int :=
 match farM l (shapeM f.parts m) (0, 0), best with
 | v, .ofNat b => match Nat.blt v b with | true => .ofNat v | false => .ofNat b
 | v, .negSucc _ => .ofNat v
theorem mendS_eq (f : Fm) (l : List ByteArray) (best : Int) (m : List Int) : mendS f l best m = mendSC f l best m := by
 unfold mendS mendSC
 rw [farM_eq ⟨Nat.zero_le _, Nat.zero_le _⟩]
 generalize farM l (shapeM f.parts m) (0, 0) = v
 cases best with
 | negSucc b => simp only; rw [if_pos (.inl (Int.negSucc_lt_zero b))]; rfl
 | ofNat b =>
  simp only
  cases hb : Nat.blt v b with
  | true =>
   have : v < b := by rwa [Nat.blt_eq] at hb
   rw [if_pos (.inr (by simp only [Int.ofNat_eq_natCast]; omega))]; rfl
  | false =>
   have : ¬ (v < b) := fun h => by rw [← Nat.blt_eq, hb] at h; cases h
   rw [if_neg (by simp only [Int.ofNat_eq_natCast]; omega)]
noncomputable def mendsC (f : Fm) (l : List ByteArray) : Int := (cntP (roomsL f.parts) []).foldl (fun s p => mendSC f l s (pad5 p)) (-1)
theorem mendsM_eq (f : Fm) (l : List ByteArray) : mendsM f l = mendsC f l := by
 unfold mendsM mendsC
 congr 1
 funext s p
 exact mendS_eq f l s (pad5 p)
def fX0 : Fm := ⟨⟨#[112, 108, 101, 97]⟩, [givenP sTo, roomP 1 2, givenP sAsk, roomP 1 3], 3⟩
def fX1 : Fm := ⟨⟨#[110, 111, 116, 101]⟩, [roomP 1 2, givenP sAsk, roomP 0 2], 3⟩
def fX2 : Fm := ⟨⟨#[108, 105, 115, 116]⟩, [roomP 1 2, roomP 1 2], 3⟩
def wC : List ByteArray := [⟨#[97]⟩, ⟨#[98]⟩, ⟨#[99]⟩]
theorem m2 : mendsM fX2 wA = 2 := by rw [mendsM_eq]; kernel_rfl
theorem m1 : mendsM fX1 wA = 1 := by rw [mendsM_eq]; kernel_rfl
theorem m0 : mendsM fX0 wA = 0 := by rw [mendsM_eq]; kernel_rfl
theorem w2 : waysM fX2 wC = ⟨[1, 2, 0, 0, 0], 2, [2, 2, 0, 0, 0]⟩ := by kernel_rfl
theorem w1 : (waysM fX1 wC).ways = 0 := by kernel_rfl
theorem w0 : (waysM fX0 wC).ways = 0 := by kernel_rfl
end
section
open Go.Proofs
theorem w_rounds_sr {X : Tab} {f : Nat} {rd : Option Nat} {b : Code} {σ : Type} {G : Prop} {g : Slots} {h : Heap} {ms : List Nat} {x : Option (AExit × St)} (hx : (EW X).code f rd (.loop b) ⟨⟨g, []⟩, h, ms⟩ = x)
  (U : Nat → σ → Slots) (Hp : Nat → σ → Heap) (R : Nat → σ → Prop) (n : Nat) (Q : AExit → St → Prop) (s0 : σ) (h0 : puts g (U 0 s0) = g) (hh : Hp 0 s0 = h) (hR : R 0 s0)
  (hs : ∀ k s, k < n → R k s → ∃ s', cutS ⟨⟨puts g (U k s), []⟩, Hp k s, ms⟩ ((EW X).code f rd b ⟨⟨puts g (U k s), []⟩, Hp k s, ms⟩) = some (.normal, ⟨⟨puts g (U (k + 1) s'), []⟩, Hp (k + 1) s', ms⟩) ∧ R (k + 1) s')
  (he : ∀ s, R n s → ∃ e q, cutS ⟨⟨puts g (U n s), []⟩, Hp n s, ms⟩ ((EW X).code f rd b ⟨⟨puts g (U n s), []⟩, Hp n s, ms⟩) = some (e, q) ∧ isNormal e = false ∧ Q e q)
  (hG : ∀ e q, x = some (e, q) → Q e q → G) (hm : mapLoop b = none := by rfl) : G := by
 obtain ⟨e', s', h1, h2⟩ := w_rounds_ex hx (fun k q => ∃ s, q = ⟨⟨puts g (U k s), []⟩, Hp k s, ms⟩ ∧ R k s) n Q
  ⟨s0, by rw [h0, hh], hR⟩ (fun k q hk ⟨s, hq1, hq2⟩ => by
   subst hq1
   obtain ⟨s', a, c⟩ := hs k s hk hq2
   exact ⟨_, a, s', rfl, c⟩)
  (fun q ⟨s, hq1, hq2⟩ => by
   subst hq1
   exact he s hq2) hm
 exact hG e' s' h1 h2
def plX : List (Nat × Nat) := [(0, 0), (1, 1), (2, 1), (3, 2), (4, 3), (5, 4), (5, 5), (6, 6)]
def plK (k : Nat) : Nat × Nat := plX.getD k (0, 0)
noncomputable def costC (a b : List ByteArray) (x : Nat × Nat) (k : Nat) : Int := match stepM a b k x.1 x.2 with
 | (y, .ofNat c) => .ofNat (c + farM a b y)
 | (_, .negSucc _) => -1
theorem costC_eq (a b : List ByteArray) (x : Nat × Nat) (hi : inP a b x) (k : Nat) (hk : k < 4) : costP a b x k = costC a b x k := by
 have hs := step_in a b k x.1 x.2 hk hi
 unfold costP costC
 generalize stepM a b k x.1 x.2 = s at *
 obtain ⟨y, c⟩ := s
 cases c with
 | negSucc c => simp only; rw [if_pos (Int.negSucc_lt_zero c)]
 | ofNat c =>
  have hcn : ¬ ((c : Int) < 0) := by omega
  obtain ⟨s1, _, _⟩ := hs hcn
  simp only
  rw [Int.ofNat_eq_natCast, if_neg hcn, farM_eq s1]
  rfl
theorem leftC_eq (a b : List ByteArray) (x : Nat × Nat) (hi : inP a b x) (hx : x ≠ (a.length, b.length)) : awayP a b x = ((leastM [0, 1, 2, 3] (costC a b x) 4).2, (leastM [0, 1, 2, 3] (costC a b x) 4).1) := by
 rw [awayP_eq a b x hi hx, leastM_congr fun j hj => costC_eq a b x hi j hj]
structure Way (a b : List ByteArray) (m : Mk) (x y : Nat × Nat) : Prop where
 p : x.1 ≤ a.length
 q : x.2 ≤ b.length
 left : (awayP a b x).2 = m.kind
 kind : (m.kind = 0 ∧ m.word = ⟨#[]⟩) ∨ (m.kind = 2 ∧ m.word = ⟨#[]⟩) ∨ (m.kind = 3 ∧ b[x.2]? = some m.word)
 step : (stepM a b m.kind.toNat x.1 x.2).1 = y
theorem way_all : ∀ k, k < 7 → Way wA wB (mkX.getD k ⟨0, ⟨#[]⟩⟩) (plK k) (plK (k + 1)) := by
 intro k hk
 have hl : ∀ x m, inP wA wB x → x ≠ (6, 6) → ((leastM [0, 1, 2, 3] (costC wA wB x) 4).1 == m) = true → (awayP wA wB x).2 = m := fun x m hi hx h => by
  rw [leftC_eq wA wB x hi hx]; exact eq_of_beq h
 match k, hk with
 | 0, _ => exact ⟨by decide, by decide, hl _ _ ⟨by decide, by decide⟩ (by decide) (by kernel_rfl), .inl ⟨rfl, rfl⟩, by kernel_rfl⟩
 | 1, _ => exact ⟨by decide, by decide, hl _ _ ⟨by decide, by decide⟩ (by decide) (by kernel_rfl), .inr (.inl ⟨rfl, rfl⟩), by kernel_rfl⟩
 | 2, _ => exact ⟨by decide, by decide, hl _ _ ⟨by decide, by decide⟩ (by decide) (by kernel_rfl), .inl ⟨rfl, rfl⟩, by kernel_rfl⟩
 | 3, _ => exact ⟨by decide, by decide, hl _ _ ⟨by decide, by decide⟩ (by decide) (by kernel_rfl), .inl ⟨rfl, rfl⟩, by kernel_rfl⟩
 | 4, _ => exact ⟨by decide, by decide, hl _ _ ⟨by decide, by decide⟩ (by decide) (by kernel_rfl), .inl ⟨rfl, rfl⟩, by kernel_rfl⟩
 | 5, _ => exact ⟨by decide, by decide, hl _ _ ⟨by decide, by decide⟩ (by decide) (by kernel_rfl), .inr (.inr ⟨rfl, rfl⟩), by kernel_rfl⟩
 | 6, _ => exact ⟨by decide, by decide, hl _ _ ⟨by decide, by decide⟩ (by decide) (by kernel_rfl), .inl ⟨rfl, rfl⟩, by kernel_rfl⟩
end
section
open Go.Proofs
structure FSt where
 es : List ((Nat × Nat) × Int)
 tg : Nat
 z : Nat
 t : List Bool
 J : List ABlk
theorem mkX_take (k : Nat) (hk : k < 7) : mkX.take (k + 1) = mkX.take k ++ [mkX.getD k ⟨0, ⟨#[]⟩⟩] := by
 match k, hk with
 | 0, _ => rfl
 | 1, _ => rfl
 | 2, _ => rfl
 | 3, _ => rfl
 | 4, _ => rfl
 | 5, _ => rfl
 | 6, _ => rfl
set_option maxHeartbeats 4000000 in
theorem e81 (h : Heap) : callPure (EW tabX) 81 [.lst 0 1 (S wA), .lst 0 1 (S wB)] h = some (.tup [.lst 0 2 (eMks mkX), .int .i64 2, .int .i64 0], h) := by
 have hla : wA.length = 6 := rfl
 have hlb : wB.length = 6 := rfl
 have hwa : ∀ s ∈ wA, wordOk s = true := by intro s hs; revert s; exact List.all_eq_true.1 (by kernel_rfl)
 have hwb : ∀ s ∈ wB, wordOk s = true := by intro s hs; revert s; exact List.all_eq_true.1 (by kernel_rfl)
 have h96a := z96 wA 1 (fun _ => rfl) (by decide) hwa
 have h96b := z96 wB 1 (fun _ => rfl) (by decide) hwb
 have hway := way_all
 have hend : awayP wA wB (6, 6) = (0, 4) := by unfold awayP; rw [leftM_succ]; exact if_pos rfl
 have h0 : (awayP wA wB (0, 0)).1 = 2 := by rw [farM_eq ⟨by decide, by decide⟩]; kernel_rfl
 have h137 := z137 wA wB 0 0 1 1
 generalize wA = a at *
 generalize wB = b at *
 rw [callPure_eq, w_call _ fn_81 rfl]
 simp only [go_sem, ↓reduceIte, simprocAttr]
 rw [w_loop (hm := ?_)]
 rotate_left
 ·rfl
 have hc3 : IntKind.i64.wrap 1 = 1 := by decide
 have hc4 : IntKind.i64.wrap 2 = 2 := by decide
 simp only [go_sem, ↓reduceIte, simprocAttr, h96a, thenN_normal, hc3]
 rw [w_loop (hm := ?_)]
 rotate_left
 ·rfl
 simp only [go_sem, ↓reduceIte, simprocAttr, h96b, thenN_normal, hc3, hc4]
 rw [w_loop (hm := ?_)]
 rotate_left
 ·rfl
 simp only [go_sem, ↓reduceIte, simprocAttr, thenN, h137]
 generalize hx : (EW tabX).code 81 none (Code.loop _) _ = y
 refine w_rounds_sr hx (fun k (q : FSt) => [(4, .lst q.tg q.z (eMks (mkX.take k)))]) (fun k q => ⟨.map (esP q.es) :: .cells (rdC a b 0 0 1 1 0) :: .cells [.int .i64 ((plK k).1 : Int), .int .i64 ((plK k).2 : Int)] :: q.J, q.t⟩) (fun k q => rightE a b q.es ∧ OwnS 2 q.tg q.z k q.t) 7
  (fun e q => e = .ret ∧ ∃ tg hp, q = ⟨⟨[(0, .lst 0 1 (S a)), (1, .lst 0 1 (S b)), (4, .lst tg 2 (eMks mkX)), (5, .int .i64 2), (6, .int .i64 0), (9, .ref 1 0), (10, .ref 2 0), (12, .int .i64 4), (16, .lst 1 1 [.lst 0 1 (S a), .lst 0 1 (S b)]), (17, .int .i64 2), (18, .int .i64 2)], []⟩, hp, []⟩) ⟨[], 1, 0, [], []⟩ ?_ ?_ ⟨fun e he => (by simp at he), .inl ⟨rfl, rfl⟩⟩ ?_ ?_ ?_
 ·simp only [go_sem, ↓reduceIte, simprocAttr, List.take_zero, eMks_nil]
 ·rfl
 ·intro k q hk hR
  obtain ⟨es, tg, z, t, J⟩ := q
  obtain ⟨hes, hown⟩ := hR
  simp only at hes hown
  have hw := hway k hk
  rw [mkX_take k hk]
  have hlen : (mkX.take k).length = k := by rw [List.length_take]; exact Nat.min_eq_left (by show k ≤ 7; omega)
  generalize mkX.take k = ms at *
  generalize mkX.getD k ⟨0, ⟨#[]⟩⟩ = m at *
  generalize plK (k + 1) = y1 at *
  generalize plK k = x1 at *
  obtain ⟨p, q⟩ := x1
  obtain ⟨p1, q1⟩ := y1
  obtain ⟨wp, wq, wl, wk, ws⟩ := hw
  simp only at wp wq wl wk ws ⊢
  obtain ⟨es', F, hes', h138⟩ := z138s (a := a) (b := b) (ta := 0) (tb := 0) (za := 1) (zb := 1) (m := 0) (r := 1) (fun _ => rfl) (fun _ => rfl) (by omega) (by omega) (x := (p, q)) ⟨wp, wq⟩ es (.map (esP es) :: .cells (rdC a b 0 0 1 1 0) :: .cells [.int .i64 (p : Int), .int .i64 (q : Int)] :: J) t rfl rfl (by decide) hes
  have h138 := h138 []
  rw [List.append_nil, List.append_nil, List.set_cons_zero, wl] at h138
  generalize (awayP a b (p, q)).1 = v at *
  have hown2 : OwnS 2 tg z (eMks ms).length (t ++ F) := by
   rw [eMks_len, hlen]
   rcases hown with h | ⟨j, h1, h2, h3⟩
   ·exact .inl h
   ·exact .inr ⟨j, h1, h2, by rw [List.getElem?_append_left (List.getElem?_eq_some_iff.1 h3).1]; exact h3⟩
  obtain ⟨t2, ha, _, ho2, _⟩ := app_gen (X := tabX) (ty := 136) (e := 204) (sz := 2) (t := t ++ F) hown2 1 2 [.agg [.int .i64 m.kind, .str m.word]] (by simp only [go_sem, ↓reduceIte, simprocAttr]) (by simp only [go_sem, ↓reduceIte, simprocAttr]) (by decide) (.inl rfl) (by simp only [go_sem, ↓reduceIte, simprocAttr, eMks_len, hlen]; omega) (by simp only [go_sem, ↓reduceIte, simprocAttr, eMks_len, hlen]; omega) (by simp only [go_sem, ↓reduceIte, simprocAttr]) (by simp only [go_sem, ↓reduceIte, simprocAttr])
  rw [eMks_snoc] at ha
  have hla4 : a.length ≤ 400 := by omega
  have hlb4 : b.length ≤ 400 := by omega
  refine ⟨⟨es', (t ++ F).length + 2, 2, t2, J ++ [.cells [.int .i64 m.kind, .str m.word]]⟩, ?_, hes', .inr ⟨_, rfl, rfl, ho2⟩⟩
  have h141 := fun k hk t => z141a (a := a) (b := b) (ta := 0) (tb := 0) (za := 1) (zb := 1) (m := 0) (r := 1) (fun _ => rfl) (fun _ => rfl) hla4 hlb4 (B := .map (esP es') :: .cells (rdC a b 0 0 1 1 0) :: .cells [.int .i64 (p : Int), .int .i64 (q : Int)] :: (J ++ [.cells [.int .i64 m.kind, .str m.word]])) (t := t) rfl (p := p) (q := q) ⟨wp, wq⟩ k hk
  simp only [ePl] at h138 h141
  obtain ⟨mk, mw⟩ := m
  simp only at wk ha h138 h141 ws ⊢
  rcases wk with ⟨rfl, rfl⟩ | ⟨rfl, rfl⟩ | ⟨rfl, hb⟩
  ·have h141 := h141 0 (by decide) t2
   have ws : (stepM a b 0 p q).1 = (p1, q1) := ws
   rw [ws] at h141
   generalize (stepM a b 0 p q).2 = c at *
   simp only [go_sem, ↓reduceIte, simprocAttr] at h138 h141 ha
   simp only [go_sem, ↓reduceIte, simprocAttr, h138, z140p, actsC, ha, h141]
  ·have h141 := h141 2 (by decide) t2
   have ws : (stepM a b 2 p q).1 = (p1, q1) := ws
   have c2 : ((2 : Nat) : Int) = 2 := rfl
   rw [ws, c2] at h141
   generalize (stepM a b 2 p q).2 = c at *
   simp only [go_sem, ↓reduceIte, simprocAttr] at h138 h141 ha
   simp only [go_sem, ↓reduceIte, simprocAttr, h138, z140p, actsC, ha, h141]
  ·have h141 := h141 3 (by decide) t2
   have ws : (stepM a b 3 p q).1 = (p1, q1) := ws
   have c3 : ((3 : Nat) : Int) = 3 := rfl
   rw [ws, c3] at h141
   generalize (stepM a b 3 p q).2 = c at *
   have hql : (q : Int) < b.length := by have := (List.getElem?_eq_some_iff.1 hb).1; omega
   simp only [go_sem, ↓reduceIte, simprocAttr] at h138 h141 ha
   simp only [go_sem, ↓reduceIte, simprocAttr, h138, z140p, actsC, ha, h141, hb, hql]
 ·intro q hR
  obtain ⟨es, tg, z, t, J⟩ := q
  obtain ⟨hes, hown⟩ := hR
  simp only at hes hown
  have hz2 : z = 2 := by
   rcases hown with ⟨_, h⟩ | ⟨_, _, h, _⟩
   ·cases h
   ·exact h
  subst hz2
  have hp7 : plK 7 = (6, 6) := rfl
  have ht7 : mkX.take 7 = mkX := rfl
  rw [hp7, ht7]
  obtain ⟨es', F, hes', h138⟩ := z138s (a := a) (b := b) (ta := 0) (tb := 0) (za := 1) (zb := 1) (m := 0) (r := 1) (fun _ => rfl) (fun _ => rfl) (by omega) (by omega) (x := (6, 6)) ⟨by simp only; omega, by simp only; omega⟩ es (.map (esP es) :: .cells (rdC a b 0 0 1 1 0) :: .cells [.int .i64 ((6 : Nat) : Int), .int .i64 ((6 : Nat) : Int)] :: J) t rfl rfl (by decide) hes
  have h138 := h138 []
  rw [List.append_nil, List.append_nil, List.set_cons_zero, hend] at h138
  obtain ⟨es2, F2, hes2, h139⟩ := z139s (a := a) (b := b) (ta := 0) (tb := 0) (za := 1) (zb := 1) (m := 0) (r := 1) (fun _ => rfl) (fun _ => rfl) (by omega) (by omega) (x := (0, 0)) ⟨Nat.zero_le _, Nat.zero_le _⟩ es' (.map (esP es') :: .cells (rdC a b 0 0 1 1 0) :: .cells [.int .i64 ((6 : Nat) : Int), .int .i64 ((6 : Nat) : Int)] :: J) (t ++ F) rfl rfl (by decide) hes'
  have h139 := h139 []
  rw [List.append_nil, List.append_nil, List.set_cons_zero, h0] at h139
  simp only [ePl, cast_zero] at h138 h139
  refine ⟨.ret, _, ?_, rfl, rfl, tg, ⟨.map (esP es2) :: .cells (rdC a b 0 0 1 1 0) :: .cells [.int .i64 ((6 : Nat) : Int), .int .i64 ((6 : Nat) : Int)] :: J, t ++ F ++ F2⟩, rfl⟩
  simp only [go_sem, ↓reduceIte, simprocAttr] at h138 h139
  simp only [go_sem, ↓reduceIte, simprocAttr, h138, h139]
 ·intro e q hy hQ
  obtain ⟨rfl, tg, hp, rfl⟩ := hQ
  rw [hy]
  simp only [go_sem, ↓reduceIte, simprocAttr, eMks_clean, eMks_under]
end
section
open Go.Proofs
theorem z89n (s : Sh) (hs : s.fits) (ho : s.Ok) (n : Int) (hn : (s.forms.length : Int) ≤ n) (B : List ABlk) (t : List Bool) :
  (EW tabX).call 89 [eSh s, .int .i64 n] ⟨B, t⟩ = some (.tup [.nilp, .int .i64 4], ⟨B, t⟩) := by
 have h95 := z95 s hs ho
 have hl4 := ho.len
 have e1 : out 0 ((s.forms.length : Int) - 1) n = true := by unfold out; simp; omega
 have hw : IntKind.i64.wrap ((s.forms.length : Int) - 1) = (s.forms.length : Int) - 1 := wrap_i64 (by omega)
 simp only [eSh, eShc, tup3] at h95 ⊢
 rw [w_call _ fn_89 rfl]
 simp only [go_sem, ↓reduceIte, simprocAttr, h95, z90_1, hw, e1]
theorem z84n (s : Sh) (hs : s.fits) (ho : s.Ok) (n : Int) (hn : (s.forms.length : Int) ≤ n) (l : List ByteArray) (z : Nat) (h : Heap) :
  callPure (EW tabX) 84 [eSh s, .int .i64 n, .lst 0 z (S l)] h = some (.tup [.int .i64 0, .int .i64 4], h) := by
 have hq := z89n s hs ho n hn [.cells (eShc s)] []
 simp only [eSh, eShc] at hq ⊢
 rw [callPure_eq, w_call _ fn_84 rfl]
 simp only [go_sem, ↓reduceIte, simprocAttr, hq]
theorem shX_ok : shX.Ok := checkL_ok (by kernel_rfl)
theorem givenP_fits (s : ByteArray) (h : (splitB s 32).length ≤ 9) (h2 : ∀ w ∈ splitB s 32, w.size ≤ 100) : (givenP s).fits := by
 refine ⟨fun hne => ?_, ?_, fun w hw => ?_⟩
 ·have : 0 < (splitB s 32).length := List.length_pos_iff.2 hne
  show zT 1 (splitB s 32).length = 1
  exact zT_pos this
 ·show (splitB s 32).length < _; omega
 ·have := h2 w hw; omega
theorem roomP_fits (lo hi : Int) : (roomP lo hi).fits := ⟨fun h => absurd rfl h, (by show 0 < _; decide), fun w hw => by cases hw⟩
theorem spTo : splitB sTo 32 = [⟨#[116,111]⟩, ⟨#[116,104,101]⟩] := by kernel_rfl
theorem spAsk : splitB sAsk 32 = [⟨#[105]⟩, ⟨#[97,115,107]⟩] := by kernel_rfl
theorem shX_fits : shX.fits := by
 have g1 : (givenP sTo).fits := givenP_fits _ (by rw [spTo]; decide) (by rw [spTo]; decide)
 have g2 : (givenP sAsk).fits := givenP_fits _ (by rw [spAsk]; decide) (by rw [spAsk]; decide)
 refine ⟨fun _ => rfl, by decide, fun f hf => ?_⟩
 simp only [shX, List.mem_cons, List.not_mem_nil, or_false] at hf
 rcases hf with rfl | rfl | rfl
 ·refine ⟨by decide, fun _ => rfl, by show 4 < _; decide, fun p hp => ?_⟩
  simp only [List.mem_cons, List.not_mem_nil, or_false] at hp
  rcases hp with rfl | rfl | rfl | rfl <;> first | exact g1 | exact g2 | exact roomP_fits _ _
 ·refine ⟨by decide, fun _ => rfl, by show 3 < _; decide, fun p hp => ?_⟩
  simp only [List.mem_cons, List.not_mem_nil, or_false] at hp
  rcases hp with rfl | rfl | rfl <;> first | exact g2 | exact roomP_fits _ _
 ·refine ⟨by decide, fun _ => rfl, by show 2 < _; decide, fun p hp => ?_⟩
  simp only [List.mem_cons, List.not_mem_nil, or_false] at hp
  rcases hp with rfl | rfl <;> exact roomP_fits _ _
end
section
open Go.Proofs
def gA : ByteArray := ⟨#[116, 111, 32, 116, 104, 101, 32, 106, 117, 100, 103, 101, 32, 105, 32, 97, 115, 107, 32, 109, 101, 114, 99, 121]⟩
def gB : ByteArray := ⟨#[116, 111, 32, 106, 117, 100, 103, 101, 32, 105, 32, 97, 115, 107, 32, 102, 111, 114, 32, 109, 101, 114, 99, 121]⟩
def gJ : ByteArray := ⟨#[106, 117, 100, 103, 101]⟩
def gM : ByteArray := ⟨#[109, 101, 114, 99, 121]⟩
def gC : ByteArray := ⟨#[97, 32, 98, 32, 99]⟩
def g1 : ByteArray := ⟨#[97]⟩
def g2 : ByteArray := ⟨#[98, 32, 99]⟩
theorem x77 (s : ByteArray) (l : List ByteArray) (hs : s.size ≤ 100000) (hl : splitB s 32 = l) (hne : l ≠ []) (h : Heap) : callPure (EW tabX) 77 [.str s] h = some (.lst 0 1 (S l), h) := by
 rw [z77 s hs, hl, vS, zT_pos (List.length_pos_iff.2 hne)]
theorem x40 (h : Heap) : callPure (EW tabX) 40 [eSh shX, .int .i64 0, .lst 0 1 [.lst 0 1 (S [gJ]), .lst 0 1 (S [gM])]] h = some (.tup [.lst 0 1 (S wA), .int .i64 0], h) := by
 have hR : RowsS [.lst 0 1 (S [gJ]), .lst 0 1 (S [gM])] [[gJ], [gM]] := ⟨rfl, fun i t ht => by
  match i, ht with
  | 0, ht => cases ht; exact ⟨0, 1, rfl, fun _ => rfl⟩
  | 1, ht => cases ht; exact ⟨0, 1, rfl, fun _ => rfl⟩
  | i + 2, ht => simp at ht⟩
 obtain ⟨z', hz', hm⟩ := z40 shX shX_fits shX_ok 0 fX0 rfl [.lst 0 1 (S [gJ]), .lst 0 1 (S [gM])] 1 [[gJ], [gM]] hR (by simp only [go_sem, ↓reduceIte, simprocAttr]) (fun _ => rfl) ⟨rfl, fun i r w hr hw => by
  have hrl : roomsL fX0.parts = [(1, 2), (1, 3)] := by kernel_rfl
  rw [hrl] at hr
  match i, hr, hw with
  | 0, hr, hw => cases hr; cases hw; decide
  | 1, hr, hw => cases hr; cases hw; decide
  | i + 2, hr, hw => simp at hr, (by
   have : ([[gJ], [gM]] : List (List ByteArray)).all (fun w => w.all wordOk) = true := by kernel_rfl
   intro w hw s hs
   exact List.all_eq_true.1 (List.all_eq_true.1 this w hw) s hs), fun w hw => by
   simp only [List.mem_cons, List.not_mem_nil, or_false] at hw
   rcases hw with rfl | rfl <;> decide⟩ h
 have e : makeL fX0.parts [[gJ], [gM]] = wA := by kernel_rfl
 rw [e] at hz' hm
 rw [hz' (by decide)] at hm
 exact hm
theorem wA_ok : ∀ s ∈ wA, wordOk s = true := List.all_eq_true.1 (by kernel_rfl)
theorem wC_ok : ∀ s ∈ wC, wordOk s = true := List.all_eq_true.1 (by kernel_rfl)
theorem x42 (h : Heap) : callPure (EW tabX) 42 [eSh shX, .lst 0 1 (S wA)] h = some (.tup [.str txA, .int .i64 0], h) := by
 have e : (⟨(textL shX.width wA).toArray⟩ : ByteArray) = txA := by kernel_rfl
 rw [z42 shX shX_fits shX_ok wA 1 (fun _ => rfl) (by decide) wA_ok, e]
theorem x80a (h : Heap) : callPure (EW tabX) 80 [eSh shX, .str txA] h = some (.tup [.lst 0 1 (S wA), .int .i64 0], h) := by
 have e : ((⟨(textL shX.width wA).toArray⟩ : ByteArray) == txA) = true := by kernel_rfl
 rw [z80 shX shX_fits shX_ok txA (by decide) wA (by decide) wA_ok e135a, e]; rfl
theorem x80b (h : Heap) : callPure (EW tabX) 80 [eSh shX, .str txB] h = some (.tup [.lst 0 1 (S [⟨#[116,111]⟩, ⟨#[116,104,101]⟩]), .int .i64 0], h) := by
 have e : ((⟨(textL shX.width [⟨#[116,111]⟩, ⟨#[116,104,101]⟩]).toArray⟩ : ByteArray) == txB) = true := by kernel_rfl
 rw [z80 shX shX_fits shX_ok txB (by decide) [⟨#[116,111]⟩, ⟨#[116,104,101]⟩] (by decide) (List.all_eq_true.1 (by kernel_rfl)) e135b, e]; rfl
theorem x80c (h : Heap) : callPure (EW tabX) 80 [eSh shX, .str txC] h = some (.tup [.lst 0 0 [], .int .i64 6], h) := by
 have e : ((⟨(textL shX.width wA).toArray⟩ : ByteArray) == txC) = false := by kernel_rfl
 rw [z80 shX shX_fits shX_ok txC (by decide) wA (by decide) wA_ok e135c, e]; rfl
theorem x78 (h : Heap) : callPure (EW tabX) 78 [eSh shX, .lst 0 1 (S wC)] h = some (.tup [.lst 0 1 [.int .i64 2], .int .i64 0], h) :=
 z78 shX shX_fits shX_ok 2 rfl wC 1 (fun _ => rfl) (by decide) wC_ok (fun k f hk hf => by
  match k, hk, hf with
  | 0, _, hf => cases hf; exact w0
  | 1, _, hf => cases hf; exact w1) (fun f hf => by cases hf; show 0 < (waysM fX2 wC).ways; rw [w2]; decide) h
theorem x79 (h : Heap) : callPure (EW tabX) 79 [eSh shX, .int .i64 2, .lst 0 1 (S wC)] h = some (.tup [.lst 0 1 [.lst 0 1 (S [g1]), .lst 0 1 (S [⟨#[98]⟩, ⟨#[99]⟩])], .int .i64 2, .int .i64 0], h) :=
 z79 shX shX_fits shX_ok 2 fX2 rfl (1, 2) (1, 2) 0 rfl ⟨#[97]⟩ ⟨#[98]⟩ ⟨#[99]⟩ wC_ok 2 (by decide) [2, 2, 0, 0, 0] w2 h
theorem x84 (h : Heap) : callPure (EW tabX) 84 [eSh shX, .int .i64 2, .lst 0 1 (S wA)] h = some (.tup [.int .i64 2, .int .i64 0], h) := by
 have := z84 shX shX_fits shX_ok 2 fX2 rfl wA 1 (fun _ => rfl) (by decide) wA_ok h
 rw [m2] at this
 exact this
theorem x84n (h : Heap) : callPure (EW tabX) 84 [eSh shX, .int .i64 3, .lst 0 1 (S wA)] h = some (.tup [.int .i64 0, .int .i64 4], h) := z84n shX shX_fits shX_ok 3 (by decide) wA 1 h
theorem x85 (h : Heap) : callPure (EW tabX) 85 [eSh shX, .lst 0 1 (S wA)] h = some (.tup [.int .i64 0, .int .i64 0, .int .i64 0], h) := by
 have e : nearM shX wA = (0, 0) := by
  have c : nearM shX wA = leastM [0, 1, 2] (fun k => if k = 0 then mendsM fX0 wA else if k = 1 then mendsM fX1 wA else mendsM fX2 wA) 3 := by
   have c1 : idxI shX.forms.length shX.forms.length = [0, 1, 2] := rfl
   unfold nearM
   rw [c1]
   exact leastM_congr fun k hk => by
    match k, hk with
    | 0, _ => rfl
    | 1, _ => rfl
    | 2, _ => rfl
  rw [c, m0, m1, m2]; rfl
 rw [z85 shX shX_fits shX_ok (by decide) wA 1 (fun _ => rfl) (by decide) wA_ok, e]
end
section
open Go.Proofs
def checkE (d : Fu) : Int := (checkF d).2.2
theorem failP_inv {lo hi : Int} {e : Nat → Int} {n : Nat} (h : (failP lo hi e n).2 = 0) : out lo hi n = false ∧ firstBad e 0 n = none := by
 unfold failP at h
 cases ho : out lo hi n with
 | true => rw [if_pos ho] at h; cases h
 | false =>
  rw [if_neg (by rw [ho]; exact Bool.false_ne_true)] at h
  cases hf : firstBad e 0 n with
  | some k => rw [hf] at h; exact absurd h (firstBad_some hf).2.2.1
  | none => exact ⟨rfl, rfl⟩
theorem checkE_parts {d : Fu} (h : checkE d = 0) : headE d = 0 ∧ (partP d 1).2 = 0 ∧ (partP d 2).2 = 0 ∧ (partP d 3).2 = 0 ∧ (partP d 4).2 = 0 := by
 unfold checkE at h
 rw [checkF_eq] at h
 split at h
 ·rename_i h1; exact absurd h h1
 rename_i h1
 split at h
 ·rename_i h2; exact absurd h h2
 rename_i h2
 split at h
 ·rename_i h3; exact absurd h h3
 rename_i h3
 split at h
 ·rename_i h4; exact absurd h h4
 rename_i h4
 split at h
 ·rename_i h5; exact absurd h h5
 rename_i h5
 exact ⟨by omega, by omega, by omega, by omega, by omega⟩
theorem out_false {lo hi n : Int} (h : out lo hi n = false) : lo ≤ n ∧ n ≤ hi := by
 simp [out] at h; omega
theorem lnE_zero {n : Int} (h : lnE n = 0) : 0 ≤ n ∧ n ≤ 9 := by
 unfold lnE at h
 cases ho : out 0 9 n with
 | true => rw [ho] at h; cases h
 | false => exact out_false ho
theorem peE_zero {l : List Pe} {i : Nat} {p : Pe} (h : peE l i p = 0) : 0 ≤ p.widow ∧ p.widow ≤ 2 := by
 unfold peE at h
 cases h1 : nameOk p.name with
 | false => rw [h1] at h; cases h
 | true =>
  cases h2 : (l.take i).any (fun y => y.name == p.name) with
  | true => rw [h1, h2] at h; cases h
  | false =>
   cases h3 : out 0 2 p.widow with
   | true => rw [h1, h2, h3] at h; cases h
   | false => exact out_false h3
theorem viE_zero {d : Fu} {i : Nat} {v : Vi} (h : viE d i v = 0) : v.Ok d ∧ ∀ k w, i = k + 1 → d.visits[k]? = some w → w.day ≤ v.day := by
 unfold viE at h
 cases h1 : (out 0 ((d.people.length : Int) - 1) v.person || out 0 ((d.lines.length : Int) - 1) v.kind) with
 | true => rw [h1] at h; cases h
 | false =>
 rw [h1, if_neg Bool.false_ne_true] at h
 cases h2 : (out 0 (d.days - 1) v.day || (out 1 8 v.llo || out 1 8 v.lhi) || (out 0 23 v.hlo || out 0 23 v.hhi)) with
 | true => rw [h2] at h; cases h
 | false =>
 rw [h2, if_neg Bool.false_ne_true] at h
 simp only [Bool.or_eq_false_iff] at h1 h2
 have a1 := out_false h1.1
 have a2 := out_false h1.2
 have a3 := out_false h2.1.1
 have a4 := out_false h2.1.2.1
 have a5 := out_false h2.1.2.2
 have a6 := out_false h2.2.1
 have a7 := out_false h2.2.2
 by_cases g1 : v.lhi < v.llo
 ·rw [decide_eq_true g1] at h; cases h
 by_cases g2 : v.hhi < v.hlo
 ·rw [decide_eq_false g1, decide_eq_true g2] at h; cases h
 refine ⟨⟨by omega, by omega, by omega, by omega, by omega⟩, fun k w e hw => ?_⟩
 subst e
 rw [decide_eq_false g1, decide_eq_false g2] at h
 simp only [hw] at h
 by_cases g3 : v.day < w.day
 ·rw [decide_eq_true g3] at h; cases h
 ·omega
theorem etE_zero {d : Fu} {x : Et} (h : etE d x = 0) : (0 ≤ x.visit ∧ x.visit < d.visits.length) ∧ 0 ≤ x.pence ∧ x.pence ≤ 999 := by
 unfold etE at h
 cases h1 : out 0 ((d.visits.length : Int) - 1) x.visit with
 | true => rw [h1] at h; cases h
 | false =>
  cases h2 : out 0 999 x.pence with
  | true => rw [h1, h2] at h; cases h
  | false => have := out_false h1; have := out_false h2; omega
theorem mem_get {α : Type} {l : List α} {x : α} (h : x ∈ l) : ∃ i, i < l.length ∧ l[i]? = some x := by
 obtain ⟨i, hi, e⟩ := List.mem_iff_getElem.1 h
 exact ⟨i, hi, by rw [← e]; exact List.getElem?_eq_getElem hi⟩
theorem ok_of_check {d : Fu} (h : checkE d = 0) : d.Ok := by
 obtain ⟨h0, h1, h2, h3, h4⟩ := checkE_parts h
 have hh : (out 0 300 d.pence || out 1 7 d.days || (out 0 9 d.opn || out 0 9 d.late) || out 0 23 d.frm) = false := by
  unfold headE at h0
  cases hq : (out 0 300 d.pence || out 1 7 d.days || (out 0 9 d.opn || out 0 9 d.late) || out 0 23 d.frm) with
  | true => rw [hq] at h0; cases h0
  | false => rfl
 simp only [Bool.or_eq_false_iff] at hh
 obtain ⟨l1, f1⟩ := failP_inv h1
 obtain ⟨l2, f2⟩ := failP_inv h2
 obtain ⟨l3, f3⟩ := failP_inv h3
 obtain ⟨l4, f4⟩ := failP_inv h4
 have b1 := out_false hh.1.1.1
 have b2 := out_false hh.1.1.2
 have b3 := out_false hh.1.2.1
 have b4 := out_false hh.1.2.2
 have b5 := out_false hh.2
 have b6 := out_false l1
 have b7 := out_false l2
 have b8 := out_false l3
 have b9 := out_false l4
 have vz : ∀ (i : Nat) (v : Vi), d.visits[i]? = some v → viE d i v = 0 := fun i v hv => by
  have hi := (List.getElem?_eq_some_iff.1 hv).1
  have := firstBad_none f3 i (Nat.zero_le _) (by omega)
  unfold visE at this
  rw [hv] at this
  exact this
 refine ⟨b1, b2, b3, b4, b5, by omega, fun n hn => ?_, by omega, fun p hp => ?_, by omega, fun v hv => ?_, fun i v w hv hw => ?_, by omega, fun x hx => ?_⟩
 ·obtain ⟨i, hi, hx⟩ := mem_get hn
  have := firstBad_none f1 i (Nat.zero_le _) (by omega)
  unfold lineE at this
  rw [hx] at this
  exact lnE_zero this
 ·obtain ⟨i, hi, hx⟩ := mem_get hp
  have := firstBad_none f2 i (Nat.zero_le _) (by omega)
  unfold persE at this
  rw [hx] at this
  exact peE_zero this
 ·obtain ⟨i, hi, hx⟩ := mem_get hv
  exact (viE_zero (vz i v hx)).1
 ·exact (viE_zero (vz (i + 1) w hw)).2 i v rfl hv
 ·obtain ⟨i, hi, hxx⟩ := mem_get hx
  have := firstBad_none f4 i (Nat.zero_le _) (by omega)
  unfold entE at this
  rw [hxx] at this
  exact etE_zero this
end
section
open Go.Proofs
def ownT (T0 : List Bool) (l : List Int) : AV := .lst (tagT T0 l.length) (zT 1 l.length) (I l)
theorem ownT_clean (T0 : List Bool) (l : List Int) : (ownT T0 l).clean = some (vI l) := by simp only [ownT, vI, go_sem, ↓reduceIte, simprocAttr]
theorem ownT_under (T0 : List Bool) (n : Nat) (l : List Int) : (ownT T0 l).under n = true := by simp only [ownT, go_sem, ↓reduceIte, simprocAttr]
theorem ownT_app (T0 : List Bool) (l : List Int) (x : Int) (hl : l.length < 1000) (B : List ABlk) :
  appendAV tabX 22 (T T0 l.length).length ⟨B, T T0 l.length⟩ (ownT T0 l) (.lst 1 1 [.int .i64 x]) = some (ownT T0 (l ++ [x]), ⟨B, T T0 (l ++ [x]).length⟩) := by
 have := append_step (X := tabX) (t := 22) (e := 3) (sz := 1) T0 l.length B (zT 1 l.length) 1 1 (I l) [.int .i64 x] (by simp only [go_sem, ↓reduceIte, simprocAttr]) (by simp only [go_sem, ↓reduceIte, simprocAttr])
  (by rcases Nat.eq_zero_or_pos l.length with e | e; exact .inl ⟨e, by rw [I_len, e]⟩; exact .inr (zT_pos e)) (.inl rfl) (by omega) (by simp only [go_sem, ↓reduceIte, simprocAttr]; omega) (by simp only [go_sem, ↓reduceIte, simprocAttr]; omega) (by simp only [go_sem, ↓reduceIte, simprocAttr]) (by simp only [go_sem, ↓reduceIte, simprocAttr])
 have e : (l ++ [x]).length = l.length + 1 := by simp
 rw [ownT, this, ownT, e, I_snoc]; rfl
def cpl : List Int → List Int → Nat
 | x :: xs, y :: ys => if x = y then cpl xs ys + 1 else 0
 | _, _ => 0
theorem cpl_le1 : ∀ a b : List Int, cpl a b ≤ a.length
 | [], _ => by simp [cpl]
 | x :: xs, [] => by simp [cpl]
 | x :: xs, y :: ys => by unfold cpl; split; have := cpl_le1 xs ys; simp; omega; omega
theorem cpl_le2 : ∀ a b : List Int, cpl a b ≤ b.length
 | [], _ => by simp [cpl]
 | x :: xs, [] => by simp [cpl]
 | x :: xs, y :: ys => by unfold cpl; split; have := cpl_le2 xs ys; simp; omega; omega
theorem cpl_eq : ∀ (a b : List Int) (k : Nat), k < cpl a b → a[k]? = b[k]?
 | [], b, k, h => by simp [cpl] at h
 | x :: xs, [], k, h => by simp [cpl] at h
 | x :: xs, y :: ys, k, h => by
  unfold cpl at h
  split at h
  ·rename_i e
   cases k with
   | zero => simp [e]
   | succ k => simpa using cpl_eq xs ys k (by omega)
  ·omega
theorem cpl_ne : ∀ (a b : List Int) (x y : Int), a[cpl a b]? = some x → b[cpl a b]? = some y → x ≠ y
 | [], b, x, y, h, _ => by simp [cpl] at h
 | u :: us, [], x, y, _, h => by simp [cpl] at h
 | u :: us, v :: vs, x, y, h1, h2 => by
  unfold cpl at h1 h2
  split at h1
  ·rename_i e
   rw [if_pos e] at h2
   exact cpl_ne us vs x y (by simpa using h1) (by simpa using h2)
  ·rename_i e
   rw [if_neg e] at h2
   simp at h1 h2
   rw [← h1, ← h2]; exact e
def ltB : List Int → List Int → Bool
 | _, [] => false
 | [], _ :: _ => true
 | x :: xs, y :: ys => if x = y then ltB xs ys else decide (x < y)
theorem ltB_cpl : ∀ a b : List Int, ltB a b = if cpl a b = b.length then false else (decide (cpl a b = a.length) || decide (a.getD (cpl a b) 0 < b.getD (cpl a b) 0))
 | [], [] => rfl
 | [], y :: ys => by simp [ltB, cpl]
 | x :: xs, [] => by simp [ltB, cpl]
 | x :: xs, y :: ys => by
  unfold ltB cpl
  by_cases e : x = y
  ·rw [if_pos e, if_pos e, ltB_cpl xs ys]
   simp
  ·rw [if_neg e, if_neg e]
   simp
theorem ltB_eq : ∀ a b : List Int, (decide (a.length = b.length) && (!ltB a b && !ltB b a)) = decide (a = b)
 | [], [] => rfl
 | [], y :: ys => by simp
 | x :: xs, [] => by simp
 | x :: xs, y :: ys => by
  have ih := ltB_eq xs ys
  simp only [ltB]
  by_cases e : x = y
  ·subst e
   rw [if_pos rfl, if_pos rfl]
   simpa using ih
  ·have e' : ¬ y = x := fun h => e h.symm
   rw [if_neg e, if_neg e']
   simp [e]
   omega
theorem c55 (a b : List Int) (za zb : Nat) (hza : a ≠ [] → za = 1) (hzb : b ≠ [] → zb = 1) (la : a.length < 1000000000000000000) (lb : b.length < 1000000000000000000) (h : Heap) :
  callPure (EW tabX) 64 [.lst 0 za (I a), .lst 0 zb (I b)] h = some (.bool (ltB a b), h) := by
 rw [callPure_eq, w_call _ fn_64 rfl]
 simp only [go_sem, ↓reduceIte, simprocAttr]
 have h1 := cpl_le1 a b
 have h2 := cpl_le2 a b
 rw [w_rounds_u (fun k => [(5, .int .i64 k)]) (cpl a b) (.exit 0) [(5, .int .i64 (cpl a b))] ?_ ?_ ?_ rfl]
 ·rw [ltB_cpl]
  by_cases e : cpl a b = b.length
  ·simp only [go_sem, ↓reduceIte, simprocAttr, e]
  ·have e' : (((cpl a b : Nat) : Int) == b.length) = false := by simp; omega
   have hzb1 := hzb (by intro h; rw [h] at e; simp [cpl] at e)
   have hb : b[cpl a b]? = some (b.getD (cpl a b) 0) := by
    rw [List.getD_eq_getElem?_getD, List.getElem?_eq_getElem (show cpl a b < b.length by omega)]; rfl
   by_cases f : cpl a b = a.length
   ·have f' : (((cpl a b : Nat) : Int) == a.length) = true := by simp [f]
    have fd : decide (cpl a b = a.length) = true := by simp [f]
    simp only [go_sem, ↓reduceIte, simprocAttr, e', e, f', fd]
   ·have f' : (((cpl a b : Nat) : Int) == a.length) = false := by simp; omega
    have fd : decide (cpl a b = a.length) = false := by simp [f]
    have hza1 := hza (by intro h; rw [h] at h1; simp at h1; rw [h] at f; simp at f; omega)
    have ha : a[cpl a b]? = some (a.getD (cpl a b) 0) := by
     rw [List.getD_eq_getElem?_getD, List.getElem?_eq_getElem (show cpl a b < a.length by omega)]; rfl
    simp only [go_sem, ↓reduceIte, simprocAttr, e', e, f', fd, ha, hb, hza1, hzb1]
 ·simp only [go_sem, ↓reduceIte, simprocAttr]
 ·intro k hk
  have ka : k < a.length := by omega
  have kb : k < b.length := by omega
  have kai : (k : Int) < a.length := by omega
  have kbi : (k : Int) < b.length := by omega
  have hx := List.getElem?_eq_getElem ka
  have hy := List.getElem?_eq_getElem kb
  have he := cpl_eq a b k hk
  rw [hx, hy] at he
  simp only [Option.some.injEq] at he
  have hza1 := hza (by intro h; rw [h] at ka; simp at ka)
  have hzb1 := hzb (by intro h; rw [h] at kb; simp at kb)
  simp (disch := omega) only [go_sem, ↓reduceIte, simprocAttr, kai, kbi, hx, hy, he, hza1, hzb1, wrap_i64]
 ·by_cases f : cpl a b < a.length
  ·have fi : ((cpl a b : Nat) : Int) < a.length := by omega
   by_cases g : cpl a b < b.length
   ·have gi : ((cpl a b : Nat) : Int) < b.length := by omega
    have hx := List.getElem?_eq_getElem f
    have hy := List.getElem?_eq_getElem g
    have hne := cpl_ne a b _ _ hx hy
    have hne' : (a[cpl a b] == b[cpl a b]) = false := by simpa using hne
    have hza1 := hza (by intro h; rw [h] at f; simp at f)
    have hzb1 := hzb (by intro h; rw [h] at g; simp at g)
    simp (disch := omega) only [go_sem, ↓reduceIte, simprocAttr, fi, gi, hx, hy, hne', hza1, hzb1]
   ·have gi : ¬ ((cpl a b : Nat) : Int) < b.length := by omega
    simp (disch := omega) only [go_sem, ↓reduceIte, simprocAttr, fi, gi]
  ·have fi : ¬ ((cpl a b : Nat) : Int) < a.length := by omega
   simp (disch := omega) only [go_sem, ↓reduceIte, simprocAttr, fi]
theorem c13 (a b : List Int) (za zb : Nat) (hza : a ≠ [] → za = 1) (hzb : b ≠ [] → zb = 1) (la : a.length < 1000000000000000000) (lb : b.length < 1000000000000000000) (h : Heap) :
  callPure (EW tabX) 22 [.lst 0 za (I a), .lst 0 zb (I b)] h = some (.bool (decide (a = b)), h) := by
 have h1 := c55 a b za zb hza hzb la lb
 have h2 := c55 b a zb za hzb hza lb la
 rw [callPure_eq, w_call _ fn_22 rfl, ← ltB_eq]
 have e : ((a.length : Int) == b.length) = decide (a.length = b.length) := by rw [Bool.eq_iff_iff]; simp; omega
 simp only [go_sem, ↓reduceIte, simprocAttr, h1, h2, e]
theorem any_succ {α : Type} (p : α → Bool) {l : List α} {k : Nat} {x : α} (h : l[k]? = some x) : (l.take (k + 1)).any p = ((l.take k).any p || p x) := by
 rw [List.take_add_one, h]; simp
theorem c28 (l : List Int) (n : Int) (z : Nat) (hz : l ≠ [] → z = 1) (hl : l.length < 1000000000000000000) (h : Heap) :
  callPure (EW tabX) 35 [.lst 0 z (I l), .int .i64 n] h = some (.bool (l.any fun x => x == n), h) := by
 rw [callPure_eq, w_call _ fn_35 rfl]
 simp only [go_sem, ↓reduceIte, simprocAttr]
 rw [w_rounds_u (fun k => [(5, .bool ((l.take k).any fun x => x == n)), (6, .int .i64 k)]) l.length (.exit 0) [(5, .bool (l.any fun x => x == n)), (6, .int .i64 l.length)] ?_ ?_ ?_ rfl]
 ·simp only [go_sem, ↓reduceIte, simprocAttr]
 ·simp only [go_sem, ↓reduceIte, simprocAttr, List.any_nil]
 ·intro k hk
  have hki : (k : Int) < l.length := by omega
  have hx := List.getElem?_eq_getElem hk
  have hz1 := hz (by intro e; rw [e] at hk; simp at hk)
  subst hz1
  simp (disch := omega) only [go_sem, ↓reduceIte, simprocAttr, hki, hx, wrap_i64, any_succ _ hx]
 ·simp only [go_sem, ↓reduceIte, simprocAttr]
end
section
open Go.Proofs
set_option maxHeartbeats 4000000 in
set_option maxRecDepth 100000 in
theorem z39 (h : Heap) : callPure (EW tabX) 39 [] h = some (.bool true, h) := by
 have e0 : (txA == txA) = true := by kernel_rfl
 have w1 := x77 gA wA (by decide) (by kernel_rfl) (by decide)
 have w2 := x77 gB wB (by decide) (by kernel_rfl) (by decide)
 have w3 := x77 gJ [gJ] (by decide) (by kernel_rfl) (by decide)
 have w4 := x77 gM [gM] (by decide) (by kernel_rfl) (by decide)
 have w5 := x77 gC wC (by decide) (by kernel_rfl) (by decide)
 have w6 := x77 g1 [g1] (by decide) (by kernel_rfl) (by decide)
 have w7 := x77 g2 [⟨#[98]⟩, ⟨#[99]⟩] (by decide) (by kernel_rfl) (by decide)
 have a1 := z76
 have a2 := x40
 have a3 := x78
 have a4 := x79
 have a5 := x42
 have a6 := x80a
 have a7 := e81
 have a8 := z83
 have a9 := e82
 have b1 := x84
 have b2 := x85
 have b3 := x80b
 have b4 := x80c
 have b5 := x84n
 have c1 := z86 wA 0 0 1 1 (fun _ => rfl) (fun _ => rfl) (by decide)
 have c2 := z86 wB 0 0 1 1 (fun _ => rfl) (fun _ => rfl) (by decide)
 have c3 := c13 [2] [2] 1 1 (fun _ => rfl) (fun _ => rfl) (by decide) (by decide)
 have c4 := z87 [.lst 0 1 (S [g1]), .lst 0 1 (S [⟨#[98]⟩, ⟨#[99]⟩])] [.lst 0 1 (S [g1]), .lst 0 1 (S [⟨#[98]⟩, ⟨#[99]⟩])] [[g1], [⟨#[98]⟩, ⟨#[99]⟩]] ⟨rfl, fun i t ht => by
  match i, ht with
  | 0, ht => cases ht; exact ⟨0, 1, rfl, fun _ => rfl⟩
  | 1, ht => cases ht; exact ⟨0, 1, rfl, fun _ => rfl⟩
  | i + 2, ht => simp at ht⟩ ⟨rfl, fun i t ht => by
  match i, ht with
  | 0, ht => cases ht; exact ⟨0, 1, rfl, fun _ => rfl⟩
  | 1, ht => cases ht; exact ⟨0, 1, rfl, fun _ => rfl⟩
  | i + 2, ht => simp at ht⟩ 0 0 1 1 (fun _ => rfl) (fun _ => rfl) (by decide) (by intro w hw; simp only [List.mem_cons, List.not_mem_nil, or_false] at hw; rcases hw with rfl | rfl <;> decide)
 have c5 := z88 mkX 0 0 2 2 (fun _ => rfl) (fun _ => rfl) (by decide)
 have hsh : eSh shX = .agg [.int .i64 12, .lst 0 2 (shX.forms.map eFm)] := rfl
 rw [hsh] at a1 a2 a3 a4 a5 a6 b1 b2 b3 b4 b5
 generalize shX.forms = fs at *
 generalize wA = lA at *
 generalize wB = lB at *
 generalize wC = lC at *
 generalize mkX = mX at *
 simp only [gA, gB, gJ, gM, gC, g1, g2, txA, txB, txC, I_c, I_nil, decide_true] at *
 rw [callPure_eq, w_call _ fn_39 rfl]
 simp only [go_sem, ↓reduceIte, simprocAttr, zipFrom_nil, List.append_eq, w1, w2, w3, w4, w5, w6, w7, a1, a2, a3, a4, a5, a6, a7, a8, a9, b1, b2, b3, b4, b5, c1, c2, c3, c4, c5, I_c, I_nil, eMks_clean, eMks_under, decide_true, e0]
end
section
open Go.Proofs
def bitsL (s n : Nat) : List Int := ((List.range n).filter fun i => s.testBit i).map fun (i : Nat) => (i : Int)
theorem bitsL_succ (s n : Nat) : bitsL s (n + 1) = if s.testBit n = true then bitsL s n ++ [(n : Int)] else bitsL s n := by
 unfold bitsL
 rw [List.range_succ, List.filter_append, List.map_append]
 have e : (List.filter (fun i => s.testBit i) [n]) = if s.testBit n = true then [n] else [] := by simp only [List.filter_cons, List.filter_nil]
 rw [e]
 split <;> simp
theorem bitsL_len (s n : Nat) : (bitsL s n).length ≤ n := by
 unfold bitsL; rw [List.length_map]; have := List.length_filter_le (fun i => s.testBit i) (List.range n); simpa using this
theorem c84 (s n : Nat) (hs : s < 32) (hn : n ≤ 5) (h : Heap) : callPure (EW tabX) 107 [.int .i64 s, .int .i64 n] h = some (vI (bitsL s n), h) := by
 rw [callPure_eq, w_call _ fn_107 rfl]
 simp only [go_sem, ↓reduceIte, simprocAttr]
 rw [w_rounds_h (fun k => [(4, ownT [] (bitsL s k)), (7, .int .i64 k)]) (fun k => ⟨[], T [] (bitsL s k).length⟩) n (.exit 0) [(4, ownT [] (bitsL s n)), (7, .int .i64 n)] ⟨[], T [] (bitsL s n).length⟩ ?_ ?_ ?_ ?_ rfl]
 ·simp only [go_sem, ↓reduceIte, simprocAttr, ownT_clean, ownT_under]
 ·simp only [go_sem, ↓reduceIte, simprocAttr]; rfl
 ·rfl
 ·intro k hk
  have hki : (k : Int) < n := by omega
  have hb := shr_and ⟨s, hs⟩ ⟨k, by omega⟩
  have hln := bitsL_len s k
  have hap := ownT_app [] (bitsL s k) k (by omega)
  rw [bitsL_succ]
  cases e : s.testBit k with
  | true =>
   simp only [e] at hb
   simp (disch := omega) only [go_sem, ↓reduceIte, simprocAttr, hki, wrap_i64, hap]
   rw [if_pos (by exact hb)]
  | false =>
   simp only [e] at hb
   simp (disch := omega) only [go_sem, ↓reduceIte, simprocAttr, hki, wrap_i64]
   rw [if_neg (by intro hh; exact Bool.false_ne_true (hb.symm.trans hh))]
   try simp (disch := omega) only [go_sem, ↓reduceIte, simprocAttr, wrap_i64]
 ·simp only [go_sem, ↓reduceIte, simprocAttr]
theorem c105 (x : Int) (h : Heap) : callPure (EW tabX) 194 [.int .i64 x] h = some (.bool false, h) := by
 rw [callPure_eq, w_call _ fn_194 rfl]
 simp only [go_sem, ↓reduceIte, simprocAttr]
def cmpI (x y : Int) : Int := if x < y then -1 else if y < x then 1 else 0
theorem c92 (x y : Int) (h : Heap) : callPure (EW tabX) 164 [.int .i64 x, .int .i64 y] h = some (.int .i64 (cmpI x y), h) := by
 rw [callPure_eq, w_call _ fn_164 rfl]
 unfold cmpI
 by_cases h1 : x < y
 ·simp only [go_sem, ↓reduceIte, simprocAttr, c105, h1]
 ·by_cases h2 : y < x
  ·simp only [go_sem, ↓reduceIte, simprocAttr, c105, h1, h2]
  ·simp only [go_sem, ↓reduceIte, simprocAttr, c105, h1, h2]
def cmpL (a b : List Int) : Int := if ltB a b then -1 else if a = b then 0 else 1
theorem c85 (a b : List Int) (za zb : Nat) (hza : a ≠ [] → za = 1) (hzb : b ≠ [] → zb = 1) (la : a.length < 1000000000000000000) (lb : b.length < 1000000000000000000) (h : Heap) :
  callPure (EW tabX) 108 [.lst 0 za (I a), .lst 0 zb (I b)] h = some (.int .i64 (cmpL a b), h) := by
 rw [callPure_eq, w_call _ fn_108 rfl]
 simp only [go_sem, ↓reduceIte, simprocAttr]
 have h1 := cpl_le1 a b
 have h2 := cpl_le2 a b
 have hlt := ltB_cpl a b
 have heq := ltB_eq a b
 have round : ∀ k, k < cpl a b → ∃ x, a[k]? = some x ∧ b[k]? = some x ∧ (k : Int) < a.length ∧ ¬ (b.length : Int) ≤ k ∧ za = 1 ∧ zb = 1 := fun k hk => by
  have ka : k < a.length := by omega
  have kb : k < b.length := by omega
  have hx := List.getElem?_eq_getElem ka
  have he := cpl_eq a b k hk
  exact ⟨a[k], hx, by rw [← he]; exact hx, by omega, by omega, hza (by intro h; rw [h] at ka; simp at ka), hzb (by intro h; rw [h] at kb; simp at kb)⟩
 have cz : ∀ x, cmpI x x = 0 := fun x => by unfold cmpI; rw [if_neg (by omega), if_neg (by omega)]
 by_cases e : cpl a b = a.length
 ·rw [w_rounds_u (fun k => [(11, .int .i64 k)]) (cpl a b) (.exit 0) [(11, .int .i64 (cpl a b))] ?_ ?_ ?_ rfl]
  ·by_cases f : a.length < b.length
   ·have fi : (a.length : Int) < b.length := by omega
    have hl : ltB a b = true := by rw [hlt, if_neg (by omega), e]; simp
    simp only [go_sem, ↓reduceIte, simprocAttr, fi, cmpL, hl]
   ·have fi : ¬ (a.length : Int) < b.length := by omega
    have hl : ltB a b = false := by rw [hlt, if_pos (by omega)]
    have hab : a = b := by
     apply List.ext_getElem? 
     intro k
     by_cases hk : k < cpl a b
     ·exact cpl_eq a b k hk
     ·rw [List.getElem?_eq_none (by omega), List.getElem?_eq_none (by omega)]
    subst hab
    simp only [go_sem, ↓reduceIte, simprocAttr, cmpL, hl]
  ·simp only [go_sem, ↓reduceIte, simprocAttr]
  ·intro k hk
   obtain ⟨x, x1, x2, x3, x4, x5, x6⟩ := round k hk
   simp (disch := omega) only [go_sem, ↓reduceIte, simprocAttr, x1, x2, x3, x4, x5, x6, c92, cz, wrap_i64]
  ·simp only [go_sem, ↓reduceIte, simprocAttr, e]
 ·have g : cpl a b < a.length := by omega
  have gi : ((cpl a b : Nat) : Int) < a.length := by omega
  have hx := List.getElem?_eq_getElem g
  have hza1 := hza (by intro h; rw [h] at g; simp at g)
  by_cases f : cpl a b = b.length
  ·have fi : (b.length : Int) ≤ (cpl a b : Nat) := by omega
   have hl : ltB a b = false := by rw [hlt, if_pos f]
   have hab : ¬ a = b := fun h => by rw [h] at g f; omega
   rw [w_rounds_u (fun k => [(11, .int .i64 k)]) (cpl a b) .ret [(4, .int .i64 1), (5, .int .i64 (cpl a b)), (6, .int .i64 a[cpl a b]), (11, .int .i64 (cpl a b))] ?_ ?_ ?_ rfl]
   ·simp only [go_sem, ↓reduceIte, simprocAttr, cmpL, hl, hab]
   ·simp only [go_sem, ↓reduceIte, simprocAttr]
   ·intro k hk
    obtain ⟨x, x1, x2, x3, x4, x5, x6⟩ := round k hk
    simp (disch := omega) only [go_sem, ↓reduceIte, simprocAttr, x1, x2, x3, x4, x5, x6, c92, cz, wrap_i64]
   ·simp only [go_sem, ↓reduceIte, simprocAttr, hx, gi, hza1, fi]
  ·have g2 : cpl a b < b.length := by omega
   have gi2 : ¬ (b.length : Int) ≤ (cpl a b : Nat) := by omega
   have hy := List.getElem?_eq_getElem g2
   have hzb1 := hzb (by intro h; rw [h] at g2; simp at g2)
   have hne := cpl_ne a b _ _ hx hy
   have ea : a.getD (cpl a b) 0 = a[cpl a b] := by simp [g]
   have eb : b.getD (cpl a b) 0 = b[cpl a b] := by simp [g2]
   have hab : ¬ a = b := fun h => by subst h; exact hne rfl
   have hl : ltB a b = decide (a[cpl a b] < b[cpl a b]) := by rw [hlt, if_neg f, ea, eb]; simp [e]
   have hc : cmpL a b = cmpI a[cpl a b] b[cpl a b] := by
    unfold cmpL cmpI
    rw [hl, if_neg hab]
    by_cases q : a[cpl a b] < b[cpl a b]
    ·simp [q]
    ·have q2 : b[cpl a b] < a[cpl a b] := by omega
     simp [q, q2]
   have hn0 : (cmpI a[cpl a b] b[cpl a b] != 0) = true := by
    unfold cmpI
    by_cases q : a[cpl a b] < b[cpl a b]
    ·simp [q]
    ·have q2 : b[cpl a b] < a[cpl a b] := by omega
     simp [q, q2]
   rw [w_rounds_u (fun k => [(11, .int .i64 k)]) (cpl a b) .ret [(4, .int .i64 (cmpI a[cpl a b] b[cpl a b])), (5, .int .i64 (cpl a b)), (6, .int .i64 a[cpl a b]), (7, .int .i64 b[cpl a b]), (8, .int .i64 (cmpI a[cpl a b] b[cpl a b])), (11, .int .i64 (cpl a b))] ?_ ?_ ?_ rfl]
   ·simp only [go_sem, ↓reduceIte, simprocAttr, hc]
   ·simp only [go_sem, ↓reduceIte, simprocAttr]
   ·intro k hk
    obtain ⟨x, x1, x2, x3, x4, x5, x6⟩ := round k hk
    simp (disch := omega) only [go_sem, ↓reduceIte, simprocAttr, x1, x2, x3, x4, x5, x6, c92, cz, wrap_i64]
   ·simp only [go_sem, ↓reduceIte, simprocAttr, hx, hy, gi, gi2, hza1, hzb1, c92, hn0]
end
section
open Go.Proofs
theorem c60 (d : Fu) (B : List ABlk) (t : List Bool) : (EW tabX).call 66 [eF d] ⟨B, t⟩ = some (.ref (B.length + 1) 0, ⟨B ++ [.cells (eFc d), .cells (eFs d 0 0)], t⟩) := by
 rw [w_call _ fn_66 rfl]
 have h1 : ∀ k, ¬ (B.length + k < B.length) := fun k => by omega
 simp only [go_sem, ↓reduceIte, simprocAttr, eF, eFc, eFs, h1, cast_zero]
theorem c64 (h : Heap) : callPure (EW tabX) 57 [] h = some (.int .i64 0, h) := by
 rw [callPure_eq, w_call _ fn_57 rfl]
 simp only [go_sem, ↓reduceIte, simprocAttr, zipFrom_nil]
theorem cost_at {d : Fu} (hd : d.fits) (ho : d.Ok) (refused : Nat) {but k : Nat} (hb : but < 32) (hk : k < d.visits.length) : costsO [.eptr [.int .i64 d.pence, .int .i64 d.days, .int .i64 d.opn, .int .i64 d.late, .int .i64 d.frm, .lst 0 d.zl (I d.lines), .lst 0 d.zp (d.people.map ePe), .lst 0 d.zv (d.visits.map eVi), .lst 0 d.ze (d.entries.map eEt), .int .i64 (refused : Int), .int .i64 (but : Int)], .int .i64 (k : Int)] = some (vI (costs d but k)) := costsO_eq hd ho refused hb hk
def noCost (d : Fu) (but k : Nat) : Int := if costs d but k = [] then 1 else 0
def someB (d : Fu) (but : Nat) : Bool := decide (firstBad (noCost d but) 0 d.visits.length = none)
theorem c63 {d : Fu} (hd : d.fits) (ho : d.Ok) (refused : Nat) {but : Nat} (hb : but < 32) (r : Nat) (B : List ABlk) (t : List Bool) (hr : B[r]? = some (.cells (eFs d refused but))) :
  (EW tabX).call 68 [.ref r 0] ⟨B, t⟩ = some (.bool (someB d but), ⟨B, t⟩) := by
 rw [w_call _ fn_68 rfl]
 unfold someB
 simp only [eFs] at hr
 have hv5 := ho.visits
 simp only [go_sem, ↓reduceIte, simprocAttr, hr]
 rw [w_first (fun k => [(10, .int .i64 k)]) (fun _ => ⟨B, t⟩) (noCost d but) d.visits.length .ret (fun n => [(2, .bool false), (3, .int .i64 n), (10, .int .i64 n)]) (fun _ => ⟨B, t⟩) (.exit 0) [(10, .int .i64 d.visits.length)] ⟨B, t⟩ ?_ ?_ ?_ ?_ ?_ rfl rfl]
 ·unfold firstW
  cases h : firstBad (noCost d but) 0 d.visits.length with
  | some k => simp only [go_sem, ↓reduceIte, simprocAttr]
  | none => simp only [go_sem, ↓reduceIte, simprocAttr]
 ·simp only [go_sem, ↓reduceIte, simprocAttr]
 ·rfl
 ·intro k hk hz
  have hki : (k : Int) < d.visits.length := by omega
  have hc := cost_at hd ho refused hb hk
  have hne : costs d but k ≠ [] := fun h => by unfold noCost at hz; rw [if_pos h] at hz; cases hz
  have hl : ((costs d but k).length == 0) = false := by simpa using hne
  have hli : (((costs d but k).length : Int) == 0) = false := by simp; exact hne
  simp (disch := omega) only [go_sem, ↓reduceIte, simprocAttr, hki, hr, hc, vI, hli, wrap_i64]
 ·intro k hk hz
  have hki : (k : Int) < d.visits.length := by omega
  have hc := cost_at hd ho refused hb hk
  have he : costs d but k = [] := by
   unfold noCost at hz
   split at hz
   ·assumption
   ·exact absurd rfl hz
  rw [he] at hc
  simp (disch := omega) only [go_sem, ↓reduceIte, simprocAttr, hki, hr, hc, vI, wrap_i64]
 ·simp only [go_sem, ↓reduceIte, simprocAttr, Int.lt_irrefl]
end
section
open Go.Proofs
def enterE (d : Fu) (e : Int) : Int := if checkE d = 0 then (if e = 0 then (if someB d 0 = true then 0 else 8) else e) else checkE d
def HE (d : Fu) (B : List ABlk) : List ABlk := B ++ [.cells (eFc d), .cells (eFc d), .cells (eFs d 0 0)]
theorem c50 (d : Fu) (hd : d.fits) (e : Int) (oc : AV) (B : List ABlk) (t : List Bool) (hoc : checkE d = 0 → callAV tabX (EW tabX) false oc [] ⟨B ++ [.cells (eFc d)], t⟩ = some (.int .i64 e, ⟨B ++ [.cells (eFc d)], t⟩)) :
  (enterE d e ≠ 0 → (EW tabX).call 45 [eF d, oc] ⟨B, t⟩ = some (.tup [.nilp, .int .i64 (enterE d e)], ⟨B, t⟩)) ∧
  (enterE d e = 0 → (EW tabX).call 45 [eF d, oc] ⟨B, t⟩ = some (.tup [.ref (B.length + 2) 0, .int .i64 0], ⟨HE d B, t⟩)) := by
 have h9 := c9 d hd
 have hce : (checkF d).2.2 = checkE d := rfl
 rw [w_call _ fn_45 rfl]
 unfold enterE
 simp only [eF, eFc, tup3, hce] at h9
 by_cases h0 : checkE d = 0
 rotate_left
 ·rw [if_neg h0]
  have hne : (checkE d != 0) = true := by simpa using h0
  refine ⟨fun _ => ?_, fun h => absurd h h0⟩
  simp only [go_sem, ↓reduceIte, simprocAttr, eF, eFc, h9, hne]
 have ho := ok_of_check h0
 rw [if_pos h0]
 have hoc := hoc h0
 simp only [eFc] at hoc
 by_cases h1 : e = 0
 rotate_left
 ·rw [if_neg h1]
  have hne : (e != 0) = true := by simpa using h1
  refine ⟨fun _ => ?_, fun h => absurd h h1⟩
  simp only [go_sem, ↓reduceIte, simprocAttr, eF, eFc, h9, h0, hoc, hne]
 subst h1
 rw [if_pos rfl]
 have h60 := c60 d (B ++ [.cells (eFc d)]) t
 have h63 := c63 hd ho 0 (but := 0) (by omega) (B.length + 2) (HE d B) t (by simp only [HE, go_sem, ↓reduceIte, simprocAttr])
 simp only [go_sem, ↓reduceIte, simprocAttr, eF, eFc, eFs, HE, cast_zero] at h60 h63
 have hlt : ∀ k, ¬ (B.length + k < B.length) := fun k => by omega
 cases h2 : someB d 0 with
 | true =>
  rw [h2] at h63
  refine ⟨fun h => absurd rfl h, fun _ => ?_⟩
  simp only [go_sem, ↓reduceIte, simprocAttr, eF, eFc, eFs, HE, h9, h0, hoc, h60, Nat.add_assoc, h63, hlt, cast_zero]
 | false =>
  rw [h2] at h63
  refine ⟨fun _ => ?_, fun h => by cases h⟩
  simp only [go_sem, ↓reduceIte, simprocAttr, eF, eFc, eFs, h9, h0, hoc, h60, Nat.add_assoc, h63, cast_zero, Bool.false_eq_true]
theorem c51 (n below e : Int) (B : List ABlk) (t : List Bool) : (EW tabX).call 46 [.int .i64 n, .int .i64 below, .int .i64 e] ⟨B, t⟩ = some (.clo 98 [] [.ref (B.length + 1) 0, .ref B.length 0, .ref (B.length + 2) 0], ⟨B ++ [.cells [.int .i64 n], .cells [.int .i64 below], .cells [.int .i64 e]], t⟩) := by
 have h1 : ¬ (B.length < B.length) := by omega
 have h2 : ∀ k, ¬ (B.length + k < B.length) := fun k => by omega
 rw [w_call _ fn_46 rfl]
 simp only [go_sem, ↓reduceIte, simprocAttr, h1, h2, Nat.add_assoc]
def idxE (n below e : Int) : Int := if out 0 (below - 1) n = true then e else 0
theorem c75 (n below e : Int) (hb : -1000 ≤ below ∧ below < 1000000000000000000) (b0 b1 b2 : Nat) (B : List ABlk) (t : List Bool) (h0 : B[b0]? = some (.cells [.int .i64 n])) (h1 : B[b1]? = some (.cells [.int .i64 below])) (h2 : B[b2]? = some (.cells [.int .i64 e])) :
  (EW tabX).call 98 [.ref b1 0, .ref b0 0, .ref b2 0] ⟨B, t⟩ = some (.int .i64 (idxE n below e), ⟨B, t⟩) := by
 rw [w_call _ fn_98 rfl]
 unfold idxE
 have hw : IntKind.i64.wrap (below - 1) = below - 1 := wrap_i64 (by omega)
 cases ho : out 0 (below - 1) n with
 | true => simp only [go_sem, ↓reduceIte, simprocAttr, h0, h1, h2, hw, c31_1, ho]
 | false => simp only [go_sem, ↓reduceIte, simprocAttr, h0, h1, h2, hw, c31_1, ho]
end
section
open Go.Proofs
theorem rowsOf_I (l : List Int) : ∀ n off, off + n ≤ l.length → rowsOf 1 (I l) off n = some (((I l).drop off).take n)
 | 0, off, _ => by simp [rowsOf]
 | n + 1, off, h => by
  have hlt : off < l.length := by omega
  have hx : (I l)[off]? = some (.int .i64 l[off]) := by rw [I_get, List.getElem?_eq_getElem hlt]; rfl
  have hr : rowAt 1 (I l) off = some (.int .i64 l[off]) := by simp [rowAt, hx, AV.one]
  have hd : (I l).drop off = .int .i64 l[off] :: (I l).drop (off + 1) := by
   have hl : off < (I l).length := by rw [I_len]; exact hlt
   rw [List.drop_eq_getElem_cons hl]
   congr 1
   rw [List.getElem?_eq_getElem hl] at hx
   exact Option.some.inj hx
  rw [rowsOf, hr, rowsOf_I l n (off + 1) (by omega), hd]
  rfl
theorem frz_int (h : Heap) (k : Nat) (q : IntKind) (n : Int) : frz h (k + 1) (.int q n) = some (.int q n) := by simp [frz, AV.clean]
theorem frz_I (h : Heap) (k : Nat) : ∀ l : List Int, optL ((I l).map (frz h (k + 1))) = some (I l)
 | [] => rfl
 | x :: l => by
  have e : optL ((I (x :: l)).map (frz h (k + 1))) = match frz h (k + 1) (.int .i64 x), optL ((I l).map (frz h (k + 1))) with
   | some y, some ys => some (y :: ys)
   | _, _ => none := rfl
  rw [e, frz_int, frz_I h k l]; rfl
theorem frz_bsl (h : Heap) (k b n : Nat) (l : List Int) (hb : h.b[b]? = some (.cells (I l))) (hn : n = l.length) : frz h (k + 2) (.bsl b 0 n 1) = some (.lst 0 1 (I l)) := by
 have hr := rowsOf_I l n 0 (by omega)
 have ht : ((I l).drop 0).take n = I l := by rw [List.drop_zero]; exact List.take_of_length_le (by rw [I_len]; omega)
 rw [ht] at hr
 have e : frz h (k + 2) (.bsl b 0 n 1) = match h.b[b]? with
  | some (.cells c) => match rowsOf 1 c 0 n with
   | some xs => match optL (xs.map (frz h (k + 1))) with
    | some ys => some (.lst 0 1 ys)
    | none => none
   | none => none
  | _ => none := rfl
 rw [e, hb]
 simp only
 rw [hr]
 simp only
 rw [frz_I h k l]
theorem splice_len (vs : List AV) : ∀ (c : List AV) (off : Nat), off + vs.length ≤ c.length → splice c off vs = c.take off ++ vs ++ c.drop (off + vs.length) := by
 induction vs with
 | nil => intro c off h; simp [splice]
 | cons v vs ih =>
  intro c off h
  simp only [List.length_cons] at h
  have e : splice c off (v :: vs) = splice (c.set off v) (off + 1) vs := rfl
  rw [e, ih _ _ (by simp; omega)]
  have h1 : (c.set off v).take (off + 1) = c.take off ++ [v] := by
   rw [List.take_add_one, List.getElem?_set_self (by omega), List.take_set_of_le (Nat.le_refl _)]; rfl
  have h2 : (c.set off v).drop (off + 1 + vs.length) = c.drop (off + (vs.length + 1)) := by
   rw [List.drop_set_of_lt (by omega)]; congr 1; omega
  rw [h1, h2]; simp
theorem splice_all (c vs : List AV) (h : vs.length = c.length) : splice c 0 vs = vs := by
 rw [splice_len vs c 0 (by omega)]; simp [h]
theorem frz_P (h : Heap) (b n : Nat) (e : Int) (l : List Int) (hb : h.b[b]? = some (.cells (I l))) (hn : n = l.length) : frz h 6 (.tup [.bsl b 0 n 1, .int .i64 e]) = some (.tup [.lst 0 1 (I l), .int .i64 e]) := by
 have h1 := frz_bsl h 3 b n l hb hn
 have e : frz h 6 (.tup [.bsl b 0 n 1, .int .i64 e]) = match optL [frz h 5 (.bsl b 0 n 1), frz h 5 (.int .i64 e)] with
  | some ys => some (.tup ys)
  | none => none := rfl
 rw [e, h1, frz_int]; rfl
end
section
open Go.Proofs
def vP (p : List Int × Int) : AV := .tup [vI p.1, .int .i64 p.2]
def visitE (d : Fu) (n : Int) : Int := enterE d (idxE n d.visits.length 4)
def feesP (d : Fu) (n : Int) : List Int × Int := if visitE d n = 0 then (costs d 0 n.toNat, 0) else ([], visitE d n)
theorem enterE_zero {d : Fu} {e : Int} (h : enterE d e = 0) : checkE d = 0 ∧ e = 0 ∧ someB d 0 = true := by
 unfold enterE at h
 by_cases h0 : checkE d = 0
 ·rw [if_pos h0] at h
  by_cases h1 : e = 0
  ·rw [if_pos h1] at h
   cases h2 : someB d 0 with
   | true => exact ⟨h0, h1, rfl⟩
   | false => rw [h2] at h; cases h
  ·rw [if_neg h1] at h; exact absurd h h1
 ·rw [if_neg h0] at h; exact absurd h h0
theorem idxE_zero {n below e : Int} (he : e ≠ 0) (h : idxE n below e = 0) : 0 ≤ n ∧ n < below := by
 unfold idxE at h
 cases ho : out 0 (below - 1) n with
 | true => rw [if_pos ho] at h; exact absurd h he
 | false => have := out_false ho; omega
theorem some_pos {d : Fu} {but k : Nat} (h : someB d but = true) (hk : k < d.visits.length) : costs d but k ≠ [] := by
 have h := of_decide_eq_true h
 have := firstBad_none h k (Nat.zero_le _) (by omega)
 unfold noCost at this
 intro he
 rw [if_pos he] at this
 cases this
theorem costs_len {d : Fu} (ho : d.Ok) {but k : Nat} (hk : k < d.visits.length) : (costs d but k).length ≤ 16 := by
 have hx := List.getElem?_eq_getElem hk
 have h1 := rawTo_len d but k d.visits[k] (linesN d.visits[k])
 have hvo := (ho.visit _ (List.getElem_mem hk)).line
 have hln : linesN d.visits[k] ≤ 8 := by unfold linesN; omega
 have h2 : (costs d but k).length ≤ (rawCosts d but k).length := by
  unfold costs sortD
  refine Nat.le_trans (compact_len _) ?_
  rw [List.length_mergeSort]; exact Nat.le_refl _
 have h3 : rawCosts d but k = rawTo d but k d.visits[k] (linesN d.visits[k]) := by unfold rawCosts; rw [hx]
 rw [h3] at h2
 omega
def H11 (d : Fu) (n : Int) : List ABlk := [.cells (eFc d), .none, .none, .none, .none, .none, .none, .none, .none, .none, .none, .none, .none, .cells [.int .i64 n], .cells [.int .i64 d.visits.length], .cells [.int .i64 4]]
theorem enter_idx (d : Fu) (hd : d.fits) (n below e : Int) (hb : checkE d = 0 → -1000 ≤ below ∧ below < 1000000000000000000) (b0 : Nat) (B : List ABlk) (t : List Bool) (h0 : B[b0]? = some (.cells [.int .i64 n])) (h1 : B[b0 + 1]? = some (.cells [.int .i64 below])) (h2 : B[b0 + 2]? = some (.cells [.int .i64 e])) :
  (enterE d (idxE n below e) ≠ 0 → (EW tabX).call 45 [eF d, .clo 98 [] [.ref (b0 + 1) 0, .ref b0 0, .ref (b0 + 2) 0]] ⟨B, t⟩ = some (.tup [.nilp, .int .i64 (enterE d (idxE n below e))], ⟨B, t⟩)) ∧
  (enterE d (idxE n below e) = 0 → (EW tabX).call 45 [eF d, .clo 98 [] [.ref (b0 + 1) 0, .ref b0 0, .ref (b0 + 2) 0]] ⟨B, t⟩ = some (.tup [.ref (B.length + 2) 0, .int .i64 0], ⟨HE d B, t⟩)) :=
 c50 d hd (idxE n below e) (.clo 98 [] [.ref (b0 + 1) 0, .ref b0 0, .ref (b0 + 2) 0]) B t (fun hc => by
  have := c75 n below e (hb hc) b0 (b0 + 1) (b0 + 2) (B ++ [.cells (eFc d)]) t (old h0 _) (old h1 _) (old h2 _)
  simp only [go_sem, ↓reduceIte, simprocAttr] at this ⊢
  exact this)
theorem c11 (d : Fu) (hd : d.fits) (n : Int) (h : Heap) : callPure (EW tabX) 34 [eF d, .int .i64 n] h = some (vP (feesP d n), h) := by
 have hcl := eF_clean d
 have hlv := hd.lv
 have h51 := c51 n d.visits.length 4 (List.take 13 (H11 d n)) (List.replicate 12 false)
 obtain ⟨hno, hyes⟩ := enter_idx d hd n d.visits.length 4 (fun _ => by omega) 13 (H11 d n) (List.replicate 12 false) rfl rfl rfl
 have hv : enterE d (idxE n d.visits.length 4) = visitE d n := rfl
 rw [hv] at hno hyes
 rw [callPure_eq, w_call _ fn_34 rfl]
 unfold feesP
 by_cases h0 : visitE d n = 0
 rotate_left
 ·rw [if_neg h0]
  have hc := hno h0
  have hne : (visitE d n != 0) = true := by simpa using h0
  simp only [go_sem, ↓reduceIte, simprocAttr, eF, eFc, H11] at hc h51
  simp only [go_sem, ↓reduceIte, simprocAttr, eF, eFc, List.size_toArray, h51, hc]
  generalize hcf : okFam _ _ _ = cf
  obtain rfl : cf = true := by rw [← hcf]; kernel_rfl
  simp only [go_sem, ↓reduceIte, simprocAttr, hne, vP, vI]
 ·rw [if_pos h0]
  have hc := hyes h0
  obtain ⟨k1, k2, k3⟩ := enterE_zero (hv.trans h0)
  obtain ⟨k4, k5⟩ := idxE_zero (by decide) k2
  have ho := ok_of_check k1
  obtain ⟨j, rfl⟩ := Int.eq_ofNat_of_zero_le k4
  have hj : j < d.visits.length := by omega
  have hcost := cost_at hd ho 0 (but := 0) (by omega) hj
  have hpos := List.length_pos_iff.2 (some_pos k3 hj)
  have hcl16 := costs_len ho (but := 0) hj
  simp only [Int.ofNat_eq_natCast, Int.toNat_natCast] at *
  simp only [go_sem, ↓reduceIte, simprocAttr, eF, eFc, eFs, HE, H11, cast_zero] at hc h51 hcost
  generalize costs d 0 j = l at hcost hpos hcl16 ⊢
  simp only [go_sem, ↓reduceIte, simprocAttr, eF, eFc, List.size_toArray, h51, hc]
  generalize hcf : okFam _ _ _ = cf
  obtain rfl : cf = true := by rw [← hcf]; kernel_rfl
  simp only [go_sem, ↓reduceIte, simprocAttr, hcost, vP, vI, zT_pos hpos]
  have hm : (l.length : Int) ≤ 4096 := by omega
  have hp0 : (0 : Int) ≤ l.length := by omega
  have hsp := splice_all (List.replicate l.length (AV.int .i64 0)) (I l) (by rw [I_len, List.length_replicate])
  have hrl : (List.replicate l.length (AV.int .i64 0)).length = l.length := List.length_replicate
  simp only [go_sem, ↓reduceIte, simprocAttr, opMakeSlice, opCopy, hm, hp0, hsp, hrl, hpos, List.take_length]
  rw [orW_none, frz_P _ 19 l.length 0 l rfl rfl]
  rfl
end
section
open Go.Proofs
structure Sd where
 k : Nat
 w : Nat
 left : Int
 ended : Bool
 paid : Bool
deriving DecidableEq
def sdK (s : Sd) : List AV := [.int .i64 (s.k : Int), .int .i64 (s.w : Int), .int .i64 s.left, .bool s.ended, .bool s.paid]
def esS (es : List (Sd × Int)) : List (AV × AV) := es.map fun e => (.agg (sdK e.1), .int .i64 e.2)
abbrev ks5 : List Nat := [0, 0, 0, 1, 1]
theorem eqSd (s u : Sd) : eqCells ks5 (sdK s) (sdK u) = some (decide (s = u)) := by
 obtain ⟨a1, a2, a3, a4, a5⟩ := s
 obtain ⟨b1, b2, b3, b4, b5⟩ := u
 simp only [sdK, eqC_0, eqC_1, eqC_nil, if_true, Option.map_some, Option.some.injEq]
 rw [Bool.eq_iff_iff]
 simp only [Bool.and_eq_true, beq_iff_eq, Bool.and_true, decide_eq_true_eq, Sd.mk.injEq]
 constructor
 ·rintro ⟨h1, h2, h3, h4, h5⟩
  exact ⟨by omega, by omega, h3, h4, h5⟩
 ·rintro ⟨h1, h2, h3, h4, h5⟩
  exact ⟨by omega, by omega, h3, h4, h5⟩
def look (es : List (Sd × Int)) (s : Sd) : Option Int := match es with
 | [] => none
 | e :: es => if s = e.1 then some e.2 else look es s
def ixOf (es : List (Sd × Int)) (s : Sd) : Option Nat := match es with
 | [] => none
 | e :: es => if s = e.1 then some 0 else (ixOf es s).map (· + 1)
theorem look_c (e : Sd × Int) (es : List (Sd × Int)) (s : Sd) : look (e :: es) s = if s = e.1 then some e.2 else look es s := rfl
theorem ix_c (e : Sd × Int) (es : List (Sd × Int)) (s : Sd) : ixOf (e :: es) s = if s = e.1 then some 0 else (ixOf es s).map (· + 1) := rfl
theorem lookS (s : Sd) : ∀ es : List (Sd × Int), lookAV ks5 (esS es) (sdK s) = some ((look es s).map (AV.int .i64))
 | [] => rfl
 | e :: es => by
  have h : lookAV ks5 (esS (e :: es)) (sdK s) = match eqCells ks5 (sdK s) (sdK e.1) with
   | some true => some (some (.int .i64 e.2))
   | some false => lookAV ks5 (esS es) (sdK s)
   | none => none := rfl
  rw [h, eqSd, lookS s es, look_c]
  by_cases he : s = e.1
  ·rw [if_pos he, decide_eq_true he]; rfl
  ·rw [if_neg he, decide_eq_false he]
theorem ixS (s : Sd) : ∀ es : List (Sd × Int), ixAV ks5 (esS es) (sdK s) = some (ixOf es s)
 | [] => rfl
 | e :: es => by
  have h : ixAV ks5 (esS (e :: es)) (sdK s) = match eqCells ks5 (sdK s) (sdK e.1) with
   | some true => some (some 0)
   | some false => (ixAV ks5 (esS es) (sdK s)).map (·.map (· + 1))
   | none => none := rfl
  rw [h, eqSd, ixS s es, ix_c]
  by_cases he : s = e.1
  ·rw [if_pos he, decide_eq_true he]
  ·rw [if_neg he, decide_eq_false he]; rfl
def keys (es : List (Sd × Int)) : List Sd := es.map (·.1)
theorem ix_none {s : Sd} : ∀ {es : List (Sd × Int)}, s ∉ keys es → ixOf es s = none ∧ look es s = none
 | [], _ => ⟨rfl, rfl⟩
 | e :: es, h => by
  simp only [keys, List.map_cons, List.mem_cons, not_or] at h
  obtain ⟨h1, h2⟩ := ix_none (es := es) h.2
  rw [ix_c, look_c, if_neg h.1, if_neg h.1, h1, h2]
  exact ⟨rfl, rfl⟩
theorem ix_some {s : Sd} : ∀ {es : List (Sd × Int)}, s ∈ keys es → ∃ j c, ixOf es s = some j ∧ look es s = some c ∧ es[j]? = some (s, c)
 | [], h => by cases h
 | e :: es, h => by
  rw [ix_c, look_c]
  by_cases he : s = e.1
  ·rw [if_pos he, if_pos he]
   exact ⟨0, e.2, rfl, rfl, by rw [he]; rfl⟩
  ·rw [if_neg he, if_neg he]
   simp only [keys, List.map_cons, List.mem_cons] at h
   rcases h with h | h
   ·exact absurd h he
   ·obtain ⟨j, c, h1, h2, h3⟩ := ix_some (es := es) h
    rw [h1]
    exact ⟨j + 1, c, rfl, h2, by simpa using h3⟩
theorem esS_len (es : List (Sd × Int)) : (esS es).length = es.length := by simp [esS]
theorem esS_get (es : List (Sd × Int)) (j : Nat) : (esS es)[j]? = (es[j]?).map fun e => (.agg (sdK e.1), .int .i64 e.2) := by simp [esS]
theorem esS_set (es : List (Sd × Int)) (j : Nat) (s : Sd) (c : Int) : (esS es).set j (.agg (sdK s), .int .i64 c) = esS (es.set j (s, c)) := by simp [esS, List.map_set]
theorem set_same {α : Type} {l : List α} {j : Nat} {x : α} (h : l[j]? = some x) : l.set j x = l := by
 obtain ⟨hl, e⟩ := List.getElem?_eq_some_iff.1 h
 subst e; exact List.set_getElem_self hl
def bump (es : List (Sd × Int)) (s : Sd) : List (Sd × Int) := match ixOf es s, look es s with
 | some j, some c => es.set j (s, c + 1)
 | _, _ => es ++ [(s, 1)]
theorem bump_keys (es : List (Sd × Int)) (s : Sd) : keys (bump es s) = if s ∈ keys es then keys es else keys es ++ [s] := by
 unfold bump
 by_cases h : s ∈ keys es
 ·obtain ⟨j, c, h1, h2, h3⟩ := ix_some h
  rw [h1, h2, if_pos h]
  simp only [keys, List.map_set]
  exact set_same (by rw [List.getElem?_map, h3]; rfl)
 ·obtain ⟨h1, h2⟩ := ix_none h
  rw [h1, h2, if_neg h]
  simp [keys]
def KOk (c : Int) (es : List (Sd × Int)) : Prop := ∀ e ∈ es, 1 ≤ e.2 ∧ e.2 ≤ c
theorem KOk_bump {c : Int} {es : List (Sd × Int)} (h : KOk c es) (hc : 0 ≤ c) (s : Sd) : KOk (c + 1) (bump es s) := by
 intro e he
 unfold bump at he
 by_cases hs : s ∈ keys es
 ·obtain ⟨j, c', h1, h2, h3⟩ := ix_some hs
  rw [h1, h2] at he
  rcases List.mem_or_eq_of_mem_set he with h' | h'
  ·have := h e h'; omega
  ·have := h _ (List.mem_of_getElem? h3)
   rw [h']; simp only at this ⊢; omega
 ·obtain ⟨h1, h2⟩ := ix_none hs
  rw [h1, h2] at he
  rcases List.mem_append.1 he with h' | h'
  ·have := h e h'; omega
  ·simp at h'; rw [h']; simp only; omega
def comesB (d : Fu) (k : Nat) : Bool := (match d.visits[k]? with | some v => v.sure | none => false) || d.entries.any fun x => x.visit == (k : Int)
def stepSd (s : Sd) (n : Int) : Sd := if s.ended || decide (s.left < n) then ⟨s.k + 1, s.w, s.left, true, false⟩ else ⟨s.k + 1, s.w, s.left - n, false, true⟩
def stay (s : Sd) : Sd := ⟨s.k + 1, s.w, s.left, s.ended, false⟩
def kids (d : Fu) (refused but : Nat) (s : Sd) : List Sd := match d.visits[s.k]? with
 | none => []
 | some v =>
  (if refused.testBit s.k || !s.w.testBit v.person.toNat || !comesB d s.k then [stay s] else []) ++
  (if refused.testBit s.k || !s.w.testBit v.person.toNat then [] else (costs d but s.k).map (stepSd s))
def dfsM (d : Fu) (refused but : Nat) : Nat → Sd → List Sd → List Sd
 | 0, s, M => if s ∈ M then M else M ++ [s]
 | n + 1, s, M => if s ∈ M then M else (kids d refused but s).foldl (fun M c => dfsM d refused but n c M) (M ++ [s])
def callsN : Nat → Nat
 | 0 => 1
 | n + 1 => 1 + 17 * callsN n
structure SdOk (d : Fu) (s : Sd) : Prop where
 k : s.k ≤ d.visits.length
 w : s.w < 16
 left : 0 ≤ s.left ∧ s.left ≤ 300
 pos : s.ended = true → 1 ≤ s.k
end
section
open Go.Proofs
theorem c104 (f : Nat) (fst cap : List AV) (l : List Et) (t z : Nat) (hz : l ≠ [] → z = 2) (p : Et → Bool) (h : Heap) (hl : l.length < 1000000000000000000)
   (hp : ∀ n ∈ l, callAV tabX (EW tabX) false (.clo f fst cap) [eEt n] h = some (.bool (p n), h)) :
   (EW tabX).call 182 [.lst t z (l.map eEt), .clo f fst cap] h = some (.int .i64 (if l.findIdx p < l.length then l.findIdx p else -1), h) := by
  obtain ⟨hb, ht⟩ := h
  rw [w_call _ fn_182 rfl]
  simp only [go_sem, ↓reduceIte, simprocAttr]
  simp only [callAV_clo] at hp
  by_cases hf : l.findIdx p < l.length
  · rw [w_rounds_u (fun k => [(8, .int .i64 k)]) (l.findIdx p) .ret [(4, .int .i64 (l.findIdx p)), (5, .int .i64 (l.findIdx p)), (8, .int .i64 (l.findIdx p))] ?_ ?_ ?_ rfl]
    · simp only [go_sem, ↓reduceIte, simprocAttr, hf]
    · simp only [go_sem, ↓reduceIte, simprocAttr]
    · intro k hk
      have hlt : k < l.length := by omega
      have hki : (k : Int) < l.length := by omega
      have hx := List.getElem?_eq_getElem hlt
      have hpx := hp l[k] (List.getElem_mem _)
      have hpf : p l[k] = false := by simpa using List.not_of_lt_findIdx hk
      have hz1 := hz (by intro e; rw [e] at hlt; simp at hlt)
      subst hz1
      rw [hpf] at hpx
      simp only [eEt] at hpx
      simp (disch := omega) only [go_sem, ↓reduceIte, simprocAttr, hki, hx, eEt, ↓hpx, wrap_i64]
    · have hx := List.getElem?_eq_getElem hf
      have hki : ((l.findIdx p : Nat) : Int) < l.length := by omega
      have hpx := hp l[l.findIdx p] (List.getElem_mem _)
      have hpt : p l[l.findIdx p] = true := List.findIdx_getElem
      have hz1 := hz (by intro e; rw [e] at hf; simp at hf)
      subst hz1
      rw [hpt] at hpx
      simp only [eEt] at hpx
      simp (disch := omega) only [go_sem, ↓reduceIte, simprocAttr, hki, hx, eEt, ↓hpx, wrap_i64]
  · have hn : l.findIdx p = l.length := by have := List.findIdx_le_length (p := p) (xs := l); omega
    rw [w_rounds_u (fun k => [(8, .int .i64 k)]) (l.length) (.exit 0) [(8, .int .i64 l.length)] ?_ ?_ ?_ rfl]
    · simp only [go_sem, ↓reduceIte, simprocAttr, hf]
    · simp only [go_sem, ↓reduceIte, simprocAttr]
    · intro k hk
      have hki : (k : Int) < l.length := by omega
      have hx := List.getElem?_eq_getElem hk
      have hpx := hp l[k] (List.getElem_mem _)
      have hpf : p l[k] = false := by simpa using List.not_of_lt_findIdx (p := p) (xs := l) (i := k) (by omega)
      have hz1 := hz (by intro e; rw [e] at hk; simp at hk)
      subst hz1
      rw [hpf] at hpx
      simp only [eEt] at hpx
      simp (disch := omega) only [go_sem, ↓reduceIte, simprocAttr, hki, hx, eEt, ↓hpx, wrap_i64]
    · simp (disch := omega) only [go_sem, ↓reduceIte, simprocAttr, Int.lt_irrefl]
theorem c89 (f : Nat) (fst cap : List AV) (l : List Et) (t z : Nat) (hz : l ≠ [] → z = 2) (p : Et → Bool) (h : Heap) (hl : l.length < 1000000000000000000)
   (hp : ∀ n ∈ l, callAV tabX (EW tabX) false (.clo f fst cap) [eEt n] h = some (.bool (p n), h)) (hc : (AV.clo f fst cap).clean = none) :
   (EW tabX).call 157 [.lst t z (l.map eEt), .clo f fst cap] h = some (.bool (l.any p), h) := by
  have h78 := c104 f fst cap l t z hz p h hl hp
  obtain ⟨hb, ht⟩ := h
  rw [w_call _ fn_157 rfl]
  simp only [go_sem, ↓reduceIte, simprocAttr, hc, h78, ge_iff_le, findIdx_any]


section
variable (X : Tab) {E : Eng} {L : List Nat} {all : List Oper}
noncomputable def guardM (E : Eng) (L : List Nat) (all : List Oper) (n0 : Nat × Nat) (c : Bool) (i : Nat) (d : Option Tmp) (op : Op) (r : List (Nat × Bool)) (t : Tmp) (want : Bool) (s : St) (b : Option Bool) : Option St := match b with
 | some b => if b = want then
   bindW (opAt X E (!c) (n0.1 + (all.length - 1 - i), n0.2 + i) op (setF L s.fr t (.bool want)) s.h) (fun x => runL X E L all n0 r ⟨setD L (setF L s.fr t (.bool want)) d x.1, x.2, s.ms⟩) .mk
  else runL X E L all n0 r ⟨setD L (setF L s.fr t (.bool !want)) d .und, s.h, s.ms⟩
 | none => runL X E L all n0 r ⟨setD L s.fr d .und, s.h, s.ms⟩
theorem guardM_some (n0 c i d op r t want s b) : guardM X E L all n0 c i d op r t want s (some b) = if b = want then
      bindW (opAt X E (!c) (n0.1 + (all.length - 1 - i), n0.2 + i) op (setF L s.fr t (.bool want)) s.h) (fun x => runL X E L all n0 r ⟨setD L (setF L s.fr t (.bool want)) d x.1, x.2, s.ms⟩) .mk
    else runL X E L all n0 r ⟨setD L (setF L s.fr t (.bool !want)) d .und, s.h, s.ms⟩ := _root_.id rfl
theorem m_g (n0 : Nat × Nat) (c : Bool) (i : Nat) (d : Option Tmp) (op : Op) (ty : TypeId) (po : String) (af : Array Edge) (gi : Nat) (want : Bool) (r : List (Nat × Bool)) (s : St) :
  oneM X E L all n0 c i ⟨d, op, ty, po, af, some (gi, want)⟩ r s = bindW (guardOf all (gi, want)) (fun g => guardW (getF s.fr g.1) (guardM X E L all n0 c i d op r g.1 g.2 s) .mk) .mk := by
 simp only [oneM, oneOp, thenK_eq, setFK_eq, setDstK_eq]
 cases guardOf all (gi, want) with
 | none => rfl
 | some tw =>
  obtain ⟨t, w⟩ := tw
  simp only [bindW, Option.bind_some, guardW, guardM]
  cases getF s.fr t <;> rfl
end
attribute [go_sem] guardM_some m_g
theorem c90 (x : Et) (b : Nat) (n : Int) (h : Heap) (hb : h.b[b]? = some (.cells [.int .i64 n])) : (EW tabX).call 158 [eEt x, .ref b 0] h = some (.bool (x.visit == n), h) := by
 obtain ⟨B, ht⟩ := h
 have h1 : B[b]? = some (.cells [.int .i64 n]) := hb
 have h2 := old h1
 rw [w_call _ fn_158 rfl]
 simp only [go_sem, ↓reduceIte, simprocAttr, eEt, h1, h2]
theorem c82 {d : Fu} (hd : d.fits) (ho : d.Ok) (refused but : Nat) (r : Nat) (k : Nat) (hk : k < d.visits.length) (B : List ABlk) (t : List Bool) (hr : B[r]? = some (.cells (eFs d refused but))) :
  (EW tabX).call 102 [.ref r 0, .int .i64 (k : Int)] ⟨B, t⟩ = some (.bool (comesB d k), ⟨B, t ++ List.replicate 19 false⟩) := by
 have hki : (k : Int) < d.visits.length := by omega
 have hx := List.getElem?_eq_getElem hk
 have hzv := hd.zv (by intro e; rw [e] at hk; simp at hk)
 simp only [eFs] at hr
 have oR := old hr
 rw [w_call _ fn_102 rfl]
 unfold comesB
 rw [hx]
 cases hs : d.visits[k].sure with
 | true =>
  simp only [go_sem, ↓reduceIte, simprocAttr, oR, hki, hx, eVi, hzv, hs, List.size_toArray]
  generalize hcf : okFam _ _ _ = cf
  obtain rfl : cf = true := by rw [← hcf]; kernel_rfl
  simp only [go_sem, ↓reduceIte, simprocAttr]
 | false =>
  have h89 := c89 158 [] [.ref B.length 0] d.entries 0 d.ze hd.ze (fun x => x.visit == (k : Int)) ⟨B ++ [.cells [.int .i64 (k : Int)], .none, .none, .none, .none, .none, .none, .none, .none, .none, .none, .none, .none, .none, .none, .none, .none, .none, .none, .none], t ++ [false, false, false, false, false, false, false, false, false, false, false, false, false, false, false, false, false, false, false]⟩ hd.le (fun x _ => by
   have := c90 x B.length (k : Int) ⟨B ++ [.cells [.int .i64 (k : Int)], .none, .none, .none, .none, .none, .none, .none, .none, .none, .none, .none, .none, .none, .none, .none, .none, .none, .none, .none], t ++ [false, false, false, false, false, false, false, false, false, false, false, false, false, false, false, false, false, false, false]⟩ (by simp)
   simp only [go_sem, ↓reduceIte, simprocAttr, eEt] at this ⊢
   exact this) (by simp only [go_sem, ↓reduceIte, simprocAttr])
  simp only [go_sem, ↓reduceIte, simprocAttr, oR, hki, hx, eVi, hzv, hs, List.size_toArray]
  generalize hcf : okFam _ _ _ = cf
  obtain rfl : cf = true := by rw [← hcf]; kernel_rfl
  simp only [go_sem, ↓reduceIte, simprocAttr, h89]
end
section
open Go.Proofs
theorem mem_compact {l : List Int} {x : Int} (h : x ∈ Lib.compact l) : x ∈ l := by
 unfold Lib.compact Lib.compactUpTo at h
 obtain ⟨i, hi, rfl⟩ := List.mem_map.1 h
 have hi' : i < l.length := List.mem_range.1 (List.mem_filter.1 hi).1
 simp [getElem!_pos, hi']
theorem mem_sortD {l : List Int} {x : Int} (h : x ∈ sortD l) : x ∈ l := (List.mergeSort_perm l _).subset (mem_compact h)
theorem costN_bd {d : Fu} (ho : d.Ok) {v : Vi} (hv : v.Ok d) {lines late : Int} (h1 : 1 ≤ lines ∧ lines ≤ 8) (h2 : late = 0 ∨ late = 1) : 0 ≤ costN d v lines late ∧ costN d v lines late ≤ 90 := by
 have hk := hv.kind
 have hkl : v.kind.toNat < d.lines.length := by omega
 have hb := ho.line _ (List.getElem_mem hkl)
 have e : d.lines.getD v.kind.toNat 0 = d.lines[v.kind.toNat] := by simp [hkl]
 unfold costN
 rw [e]
 have hm : lines * d.lines[v.kind.toNat] ≤ 8 * 9 := Int.mul_le_mul (by omega) hb.2 hb.1 (by omega)
 have hm0 : 0 ≤ lines * d.lines[v.kind.toNat] := Int.mul_nonneg (by omega) hb.1
 have := ho.opn
 have := ho.late
 rcases h2 with rfl | rfl <;> omega
theorem mem_okN {f : Fu} {but at' : Nat} {n x : Int} (h : x ∈ okN f but at' n) : x = n := by
 unfold okN at h
 split at h
 ·simpa using h
 ·cases h
theorem mem_costL1 {f : Fu} {but at' : Nat} {v : Vi} {lines late x : Int} (h : x ∈ costL1 f but at' v lines late) : x = costN f v lines late := by
 unfold costL1 at h
 split at h
 ·cases h
 ·exact mem_okN h
theorem mem_rawTo {f : Fu} {but at' : Nat} {v : Vi} {k : Nat} {x : Int} (h : x ∈ rawTo f but at' v k) : ∃ (i : Nat) (late : Int), i < k ∧ (late = 0 ∨ late = 1) ∧ x ∈ costL1 f but at' v (v.llo + (i : Int)) late := by
 unfold rawTo at h
 obtain ⟨i, hi, hx⟩ := List.mem_flatMap.1 h
 unfold costL2 at hx
 rcases List.mem_append.1 hx with h | h
 ·exact ⟨i, 0, List.mem_range.1 hi, .inl rfl, h⟩
 ·exact ⟨i, 1, List.mem_range.1 hi, .inr rfl, h⟩
theorem costs_bd {d : Fu} (ho : d.Ok) {but k : Nat} {x : Int} (h : x ∈ costs d but k) : 0 ≤ x ∧ x ≤ 90 := by
 have h := mem_sortD h
 unfold rawCosts at h
 split at h
 ·rename_i v hv
  have hvo := ho.visit v (List.mem_of_getElem? hv)
  obtain ⟨i, late, hi, hl, hx⟩ := mem_rawTo h
  rw [mem_costL1 hx]
  have hln := hvo.line
  unfold linesN at hi
  exact costN_bd ho hvo (by omega) hl
 ·cases h
structure Con (d : Fu) (refused but : Nat) (r hb n l : Nat) (σ : Type) where
 H : σ → List (Sd × Int) → List ABlk
 L : Nat
 st0 : σ
 stp : σ → Sd → σ
 len : ∀ s es, (H s es).length = L
 fund : ∀ s es, (H s es)[r]? = some (.cells (eFs d refused but))
 bx : ∀ s es, (H s es)[hb]? = some (.cells [.ref r 0])
 yl : ∀ s es, (H s es)[n]? = some (.cells [.yld l])
 mp : ∀ s es, (H s es)[n + 1]? = some (.map (esS es))
 mv : ∀ s es, (H s es)[n + 2]? = some (.cells [.mapr (n + 1)])
 cv : ∀ s es, (H s es)[n + 3]? = some (.cells [.clo 60 [.ref r 0] []])
 nx : ∀ s es, (H s es)[n + 4]? = some (.cells [.clo 101 [] [.ref (n + 2) 0, .ref n 0, .ref hb 0, .ref (n + 4) 0, .ref (n + 3) 0]])
 set : ∀ s es es', (H s es).set (n + 1) (.map (esS es')) = H s es'
 lt : n + 4 < L
 Inv : Nat → σ → Prop
 rnd : ∀ (k : Nat) (s : σ) (es : List (Sd × Int)) (X : List ABlk) (tb : List Bool) (x : Sd), Inv k s → k < 1000000000 → SdOk d x →
  ∃ J F, Inv (k + 1) (stp s x) ∧ stepRound tabX (EW tabX) l [.agg (sdK x)] ⟨H s es ++ X, tb⟩ = some (.bool true, ⟨H (stp s x) es ++ (X ++ J), tb ++ F⟩)
section
variable {d : Fu} {refused but r hb n l : Nat} {σ : Type} (C : Con d refused but r hb n l σ)
def Con.st (es : List (Sd × Int)) : σ := (keys es).foldl C.stp C.st0
structure Facts (Q : List ABlk) (es : List (Sd × Int)) (d : Fu) (refused but r hb n l L : Nat) : Prop where
 len : Q.length = L
 fund : ∀ X, (Q ++ X)[r]? = some (.cells (eFs d refused but))
 bx : ∀ X, (Q ++ X)[hb]? = some (.cells [.ref r 0])
 yl : ∀ X, (Q ++ X)[n]? = some (.cells [.yld l])
 mp : ∀ X, (Q ++ X)[n + 1]? = some (.map (esS es))
 mv : ∀ X, (Q ++ X)[n + 2]? = some (.cells [.mapr (n + 1)])
 cv : ∀ X, (Q ++ X)[n + 3]? = some (.cells [.clo 60 [.ref r 0] []])
 nx : ∀ X, (Q ++ X)[n + 4]? = some (.cells [.clo 101 [] [.ref (n + 2) 0, .ref n 0, .ref hb 0, .ref (n + 4) 0, .ref (n + 3) 0]])
theorem Con.facts (s : σ) (es : List (Sd × Int)) : Facts (C.H s es) es d refused but r hb n l C.L :=
 ⟨C.len s es, old (C.fund s es), old (C.bx s es), old (C.yl s es), old (C.mp s es), old (C.mv s es), old (C.cv s es), old (C.nx s es)⟩
theorem Con.setX (s : σ) (es es' : List (Sd × Int)) (X : List ABlk) : (C.H s es ++ X).set (n + 1) (.map (esS es')) = C.H s es' ++ X := by
 rw [List.set_append_left _ _ (by rw [C.len]; have := C.lt; omega), C.set]
end
end
section
open Go.Proofs
def lateI (d : Fu) (hour : Int) : Int := if d.frm ≤ hour then 1 else 0
theorem c78 (d : Fu) (hd : d.fits) (ho : d.Ok) (v : Vi) (hv : v.Ok d) (lines hour : Int) (hl : 1 ≤ lines ∧ lines ≤ 8) (h : Heap) : callPure (EW tabX) 44 [eF d, eVi v, .int .i64 lines, .int .i64 hour] h = some (.int .i64 (costN d v lines (lateI d hour)), h) := by
 have hk := hv.kind
 have hkl : v.kind.toNat < d.lines.length := by omega
 have hkx := List.getElem?_eq_getElem hkl
 have hkn : ¬ v.kind < 0 := by omega
 have hb := ho.line _ (List.getElem_mem hkl)
 have hzl := hd.zl (by intro e; rw [e] at hk; simp at hk; omega)
 have e : d.lines.getD v.kind.toNat 0 = d.lines[v.kind.toNat] := by simp [hkl]
 have hm : lines * d.lines[v.kind.toNat] ≤ 8 * 9 := Int.mul_le_mul (by omega) hb.2 hb.1 (by omega)
 have hm0 : 0 ≤ lines * d.lines[v.kind.toNat] := Int.mul_nonneg (by omega) hb.1
 have h1 := ho.opn
 have h2 := ho.late
 have hw1 : IntKind.i64.wrap (lines * d.lines[v.kind.toNat]) = lines * d.lines[v.kind.toNat] := wrap_i64 (by omega)
 have hw2 : IntKind.i64.wrap (d.opn + lines * d.lines[v.kind.toNat]) = d.opn + lines * d.lines[v.kind.toNat] := wrap_i64 (by omega)
 have hw3 : IntKind.i64.wrap (d.opn + lines * d.lines[v.kind.toNat] + d.late) = d.opn + lines * d.lines[v.kind.toNat] + d.late := wrap_i64 (by omega)
 rw [callPure_eq, w_call _ fn_44 rfl]
 unfold costN lateI
 rw [e]
 by_cases hh : d.frm ≤ hour
 ·simp only [go_sem, ↓reduceIte, simprocAttr, eF, eFc, eVi, hk, hkn, hkx, hzl, hw1, hw2, hw3, hh, Int.one_mul]
 ·simp only [go_sem, ↓reduceIte, simprocAttr, eF, eFc, eVi, hk, hkn, hkx, hzl, hw1, hw2, hh, Int.zero_mul, Int.add_zero]
end
section
open Go.Proofs
def loL (l : List Int) (n : Int) : List Int := l.filter fun x => decide (x < n)
def hiL (l : List Int) (n : Int) : List Int := l.filter fun x => decide (n < x)
def putL (l : List Int) (n : Int) : List Int := if n ∈ l then l else loL l n ++ [n] ++ hiL l n
end
section
open Go.Proofs
def okEn (butL : List Int) (at' : Nat) (n : Int) (i : Nat) (x : Et) : Bool := butL.any (fun y => y == (i : Int)) || x.visit != (at' : Int) || x.pence == n
def okTill (d : Fu) (butL : List Int) (at' : Nat) (n : Int) (k : Nat) : Bool := (List.range k).all fun i => match d.entries[i]? with | some x => okEn butL at' n i x | none => true
def hoursN (v : Vi) : Nat := (v.hhi + 1 - v.hlo).toNat
def hourTo (d : Fu) (butL : List Int) (at' : Nat) (v : Vi) (lines : Int) (l : List Int) : Nat → List Int
 | 0 => l
 | k + 1 => if okTill d butL at' (costN d v lines (lateI d (v.hlo + (k : Int)))) d.entries.length = true then putL (hourTo d butL at' v lines l k) (costN d v lines (lateI d (v.hlo + (k : Int)))) else hourTo d butL at' v lines l k
def lineTo (d : Fu) (butL : List Int) (at' : Nat) (v : Vi) : Nat → List Int
 | 0 => []
 | k + 1 => hourTo d butL at' v (v.llo + (k : Int)) (lineTo d butL at' v k) (hoursN v)
def refCosts (d : Fu) (butL : List Int) (at' : Nat) : List Int := match d.visits[at']? with | some v => lineTo d butL at' v (linesN v) | none => []
end
section
open Go.Proofs
end
section
open Go.Proofs
theorem C_keys {d : Fu} {refused but r hb n l : Nat} {σ : Type} (C : Con d refused but r hb n l σ) {es es' : List (Sd × Int)} (h : keys es' = keys es) : C.st es' = C.st es := by unfold Con.st; rw [h]
theorem keys_len (es : List (Sd × Int)) : (keys es).length = es.length := by simp [keys]
theorem esS_one (es : List (Sd × Int)) (x : Sd) (c : Int) : esS es ++ [(.agg [.int .i64 (x.k : Int), .int .i64 (x.w : Int), .int .i64 x.left, .bool x.ended, .bool x.paid], .int .i64 c)] = esS (es ++ [(x, c)]) := by simp [esS, sdK]
theorem look_set {x : Sd} (v : Int) : ∀ {es : List (Sd × Int)} {j : Nat}, ixOf es x = some j → look (es.set j (x, v)) x = some v
 | [], j, h => by cases h
 | e :: es, j, h => by
  rw [ix_c] at h
  by_cases he : x = e.1
  ·rw [if_pos he] at h
   cases h
   rw [List.set_cons_zero, look_c, if_pos rfl]
  ·rw [if_neg he] at h
   cases hi : ixOf es x with
   | none => rw [hi] at h; cases h
   | some i =>
    rw [hi] at h
    cases h
    rw [List.set_cons_succ, look_c, if_neg he, look_set v hi]
theorem look_app {x : Sd} (v : Int) : ∀ {es : List (Sd × Int)}, x ∉ keys es → look (es ++ [(x, v)]) x = some v ∧ ixOf (es ++ [(x, v)]) x = some es.length
 | [], _ => ⟨by show (if x = x then _ else _) = _; rw [if_pos rfl], by show (if x = x then _ else _) = _; rw [if_pos rfl]; rfl⟩
 | e :: es, h => by
  simp only [keys, List.map_cons, List.mem_cons, not_or] at h
  obtain ⟨h1, h2⟩ := look_app v (es := es) h.2
  rw [List.cons_append, look_c, ix_c, if_neg h.1, if_neg h.1, h1, h2]
  exact ⟨rfl, by simp⟩
theorem callsN_pos : ∀ n, 1 ≤ callsN n
 | 0 => Nat.le_refl _
 | n + 1 => by unfold callsN; omega
set_option maxHeartbeats 4000000 in
theorem c81_old {d : Fu} {refused but : Nat} {r hb n l : Nat} {σ : Type} (C : Con d refused but r hb n l σ)
  (n' : Nat) (x : Sd) (es : List (Sd × Int)) (X : List ABlk) (tb : List Bool) (c : Int) (hm : x ∈ keys es) (hi : C.Inv es.length (C.st es)) (hke : KOk c es) (hc : 0 ≤ c) (hcb : c + callsN n' ≤ 1000000000) :
  ∃ es' F, keys es' = dfsM d refused but n' x (keys es) ∧ C.Inv es'.length (C.st es') ∧ KOk (c + callsN n') es' ∧ es'.length ≤ es.length + callsN n' ∧
   (EW tabX).call 101 [.agg (sdK x), .ref (n + 2) 0, .ref n 0, .ref hb 0, .ref (n + 4) 0, .ref (n + 3) 0] ⟨C.H (C.st es) es ++ X, tb⟩ = some (.bool true, ⟨C.H (C.st es') es' ++ X, tb ++ F⟩) := by
 have hcN := callsN_pos n'
 have fQ := C.facts (C.st es) es
 obtain ⟨hQ, oR, oH, oY, oM, oV, oC, oN⟩ := fQ
 have hs1 := fun es' Y => C.setX (C.st es) es es' Y
 obtain ⟨j, c', j1, j2, j3⟩ := ix_some hm
 have hb1 := hke _ (List.mem_of_getElem? j3)
 have hL := lookS x es
 have hI := ixS x es
 rw [j2] at hL
 rw [j1] at hI
 have hget : (esS es)[j]? = some (.agg (sdK x), .int .i64 c') := by rw [esS_get, j3]; rfl
 have hset := esS_set es j x c'
 rw [set_same j3] at hset
 have hset2 := esS_set es j x (c' + 1)
 have hbk := bump_keys es x
 rw [if_pos hm] at hbk
 have hbump : bump es x = es.set j (x, c' + 1) := by unfold bump; rw [j1, j2]
 refine ⟨bump es x, List.replicate 7 false, ?_, ?_, ?_, ?_, ?_⟩
 ·rw [hbk]; cases n' <;> (unfold dfsM; rw [if_pos hm])
 ·rw [C_keys C hbk]
  have : (bump es x).length = es.length := by rw [hbump]; simp
  rw [this]; exact hi
 ·have := KOk_bump hke hc x
  intro e he
  have := this e he
  omega
 ·rw [hbump]; simp
 ·rw [C_keys C hbk, hbump]
  have fQ2 := C.facts (C.st es) (es.set j (x, c' + 1))
  obtain ⟨hQ2, oR2, oH2, oY2, oM2, oV2, oC2, oN2⟩ := fQ2
  have hL2 := lookS x (es.set j (x, c' + 1))
  rw [look_set _ j1] at hL2
  have hj0 : (0 : Int) ≤ j := by omega
  generalize hQQ2 : C.H (C.st es) (es.set j (x, c' + 1)) = Q2 at *
  generalize hQQ : C.H (C.st es) es = Q at *
  have hw : IntKind.i64.wrap (c' + 1) = c' + 1 := wrap_i64 (by omega)
  have hgt : 1 < c' + 1 := by omega
  simp only [sdK, ks5] at hL hI hL2 hget hset hset2 ⊢
  rw [w_call _ fn_101 rfl]
  simp only [go_sem, ↓reduceIte, simprocAttr, oV, hQ, List.size_toArray, hQ, q_get hQ, q_get0 hQ, q_set hQ, q_set0 hQ, q_take hQ, q_take0 hQ, opMapEntry, opEntryStore, hL, hI, hw, oM, hs1, hget, hset, hset2, hQQ, hQQ2, hj0]
  generalize hcf : okFam _ _ _ = cf
  obtain rfl : cf = true := by rw [← hcf]; kernel_rfl
  simp only [go_sem, ↓reduceIte, simprocAttr, oV2, oM2, hQ, hQ2, hQ2, q_get hQ2, q_get0 hQ2, q_set hQ2, q_set0 hQ2, q_take hQ2, q_take0 hQ2, hL2, hgt]
end
section
open Go.Proofs
set_option maxHeartbeats 4000000 in
theorem c81_zero {d : Fu} {refused but : Nat} {r hb n l : Nat} {σ : Type} (C : Con d refused but r hb n l σ)
  (x : Sd) (es : List (Sd × Int)) (X : List ABlk) (tb : List Bool) (c : Int) (hk : x.k = d.visits.length) (hx : SdOk d x) (hi : C.Inv es.length (C.st es)) (hke : KOk c es) (hc : 0 ≤ c) (hcb : c + callsN 0 ≤ 1000000000) (hlb : es.length + callsN 0 ≤ 1000000000) :
  ∃ es' F, keys es' = dfsM d refused but 0 x (keys es) ∧ C.Inv es'.length (C.st es') ∧ KOk (c + callsN 0) es' ∧ es'.length ≤ es.length + callsN 0 ∧
   (EW tabX).call 101 [.agg (sdK x), .ref (n + 2) 0, .ref n 0, .ref hb 0, .ref (n + 4) 0, .ref (n + 3) 0] ⟨C.H (C.st es) es ++ X, tb⟩ = some (.bool true, ⟨C.H (C.st es') es' ++ X, tb ++ F⟩) := by
 by_cases hm : x ∈ keys es
 ·exact c81_old C 0 x es X tb c hm hi hke hc hcb
 have hc0 : callsN 0 = 1 := rfl
 rw [hc0] at hcb hlb
 have fQ := C.facts (C.st es) es
 obtain ⟨hQ, oR, oH, oY, oM, oV, oC, oN⟩ := fQ
 have hs1 := fun es' Y => C.setX (C.st es) es es' Y
 obtain ⟨i1, i2⟩ := ix_none hm
 have hL := lookS x es
 have hI := ixS x es
 rw [i2] at hL
 rw [i1] at hI
 have hbk := bump_keys es x
 rw [if_neg hm] at hbk
 have hbump : bump es x = es ++ [(x, 1)] := by unfold bump; rw [i1, i2]
 rw [hbump] at hbk
 have hlen : (es ++ [(x, (1 : Int))]).length = es.length + 1 := by simp
 have hst : C.st (es ++ [(x, 1)]) = C.stp (C.st es) x := by unfold Con.st; rw [hbk]; simp
 obtain ⟨J, F, r1, r2⟩ := C.rnd es.length (C.st es) (es ++ [(x, 1)]) (X ++ [.cells (sdK x), .none, .none, .none, .none, .none, .none, .none]) (tb ++ List.replicate 7 false) x hi (by omega) hx
 have f1 := C.facts (C.st es) (es ++ [(x, 0)])
 obtain ⟨hQ1, oR1, oH1, oY1, oM1, oV1, oC1, oN1⟩ := f1
 have hs2 := fun es' Y => C.setX (C.st es) (es ++ [(x, 0)]) es' Y
 have f2 := C.facts (C.st es) (es ++ [(x, 1)])
 obtain ⟨hQ2, oR2, oH2, oY2, oM2, oV2, oC2, oN2⟩ := f2
 have f3 := C.facts (C.stp (C.st es) x) (es ++ [(x, 1)])
 obtain ⟨hQ3, oR3, oH3, oY3, oM3, oV3, oC3, oN3⟩ := f3
 have hL1 := lookS x (es ++ [(x, 0)])
 rw [(look_app 0 hm).1] at hL1
 have hL2 := lookS x (es ++ [(x, 1)])
 rw [(look_app 1 hm).1] at hL2
 have hel := esS_len es
 have hg1 : (esS (es ++ [(x, 0)]))[es.length]? = some (.agg (sdK x), .int .i64 0) := by rw [esS_get]; simp
 have hset1 : (esS (es ++ [(x, 0)])).set es.length (.agg (sdK x), .int .i64 1) = esS (es ++ [(x, 1)]) := by
  rw [esS_set]; simp
 have hone := esS_one es x 0
 refine ⟨es ++ [(x, 1)], List.replicate 7 false ++ F, ?_, ?_, ?_, ?_, ?_⟩
 ·rw [hbk]; unfold dfsM; rw [if_neg hm]
 ·rw [hst, hlen]; exact r1
 ·have := KOk_bump hke hc x
  rw [hbump] at this
  exact this
 ·rw [hlen, hc0]; exact Nat.le_refl _
 ·rw [hst]
  have hj0 : (0 : Int) ≤ es.length := by omega
  generalize hQQ : C.H (C.st es) es = Q at *
  generalize hQQ1 : C.H (C.st es) (es ++ [(x, 0)]) = Q1 at *
  generalize hQQ2 : C.H (C.st es) (es ++ [(x, 1)]) = Q2 at *
  generalize hQQ3 : C.H (C.stp (C.st es) x) (es ++ [(x, 1)]) = Q3 at *
  have hw : IntKind.i64.wrap 1 = 1 := wrap_i64 (by omega)
  simp only [eFs] at oR3
  simp only [sdK, ks5] at hL hI hL1 hL2 hg1 hset1 r2 ⊢
  simp only [go_sem, ↓reduceIte, simprocAttr] at r2
  rw [w_call _ fn_101 rfl]
  simp only [go_sem, ↓reduceIte, simprocAttr, oV, hQ, List.size_toArray, hQ, q_get hQ, q_get0 hQ, q_set hQ, q_set0 hQ, q_take hQ, q_take0 hQ, opMapEntry, opEntryStore, hL, hI, hw, oM, hs1, hQQ, hj0, hone, hel, hQQ1, oV1, oM1, hL1, hQ1, q_get hQ1, q_get0 hQ1, q_set hQ1, q_set0 hQ1, q_take hQ1, q_take0 hQ1, hQ1, hs2, hg1, hset1, hQQ2]
  generalize hcf : okFam _ _ _ = cf
  obtain rfl : cf = true := by rw [← hcf]; kernel_rfl
  have hke2 : ((x.k : Int) == (d.visits.length : Int)) = true := by simp [hk]
  simp only [go_sem, ↓reduceIte, simprocAttr, hQ, oV2, oM2, hL2, oY2, hQ2, hQ2, q_get hQ2, q_get0 hQ2, q_set hQ2, q_set0 hQ2, q_take hQ2, q_take0 hQ2, callAV_yld2, r2, oR3, oH3, hQ3, hQ3, q_get hQ3, q_get0 hQ3, q_set hQ3, q_set0 hQ3, q_take hQ3, q_take0 hQ3, hke2]
end
section
open Go.Proofs
theorem SdOk.stay {d : Fu} {x : Sd} (h : SdOk d x) (hk : x.k < d.visits.length) : SdOk d (stay x) := ⟨hk, h.w, h.left, fun _ => Nat.succ_pos _⟩
theorem SdOk.step {d : Fu} {x : Sd} (h : SdOk d x) (hk : x.k < d.visits.length) {n : Int} (hn : 0 ≤ n ∧ n ≤ 90) : SdOk d (stepSd x n) := by
 have hl := h.left
 unfold stepSd
 split
 ·exact ⟨hk, h.w, h.left, fun _ => Nat.succ_pos _⟩
 ·rename_i h1
  simp only [Bool.or_eq_true, not_or, decide_eq_true_eq] at h1
  exact ⟨hk, h.w, by simp only; omega, fun _ => Nat.succ_pos _⟩
theorem sd_stay (x : Sd) : sdK (stay x) = [.int .i64 ((x.k : Int) + 1), .int .i64 (x.w : Int), .int .i64 x.left, .bool x.ended, .bool false] := id rfl
structure WS where
 es : List (Sd × Int)
 J : List ABlk
 F : List Bool
set_option maxHeartbeats 8000000 in
theorem c81 {d : Fu} (hd : d.fits) (ho : d.Ok) {refused but : Nat} (hrf : refused < 32) (hbut : but < 32) {r hb n l : Nat} {σ : Type} (C : Con d refused but r hb n l σ) :
  ∀ (n' : Nat) (x : Sd) (es : List (Sd × Int)) (X : List ABlk) (tb : List Bool) (c : Int), x.k + n' = d.visits.length → SdOk d x → C.Inv es.length (C.st es) → KOk c es → 0 ≤ c → c + callsN n' ≤ 1000000000 → es.length + callsN n' ≤ 1000000000 →
  ∃ es' F, keys es' = dfsM d refused but n' x (keys es) ∧ C.Inv es'.length (C.st es') ∧ KOk (c + callsN n') es' ∧ es'.length ≤ es.length + callsN n' ∧
   (EW tabX).call 101 [.agg (sdK x), .ref (n + 2) 0, .ref n 0, .ref hb 0, .ref (n + 4) 0, .ref (n + 3) 0] ⟨C.H (C.st es) es ++ X, tb⟩ = some (.bool true, ⟨C.H (C.st es') es' ++ X, tb ++ F⟩) := by
 intro n'
 induction n' with
 | zero => exact fun x es X tb c hk hx hi hke hc hcb hlb => c81_zero C x es X tb c (by omega) hx hi hke hc hcb hlb
 | succ n' ih =>
 intro x es X tb c hk hx hi hke hc hcb hlb
 by_cases hm : x ∈ keys es
 ·exact c81_old C (n' + 1) x es X tb c hm hi hke hc hcb
 have hcN : callsN (n' + 1) = 1 + 17 * callsN n' := rfl
 have hcp := callsN_pos n'
 rw [hcN] at hcb hlb
 have fQ := C.facts (C.st es) es
 obtain ⟨hQ, oR, oH, oY, oM, oV, oC, oN⟩ := fQ
 have hs1 := fun es' Y => C.setX (C.st es) es es' Y
 obtain ⟨i1, i2⟩ := ix_none hm
 have hL := lookS x es
 have hI := ixS x es
 rw [i2] at hL
 rw [i1] at hI
 have hbk := bump_keys es x
 rw [if_neg hm] at hbk
 have hbump : bump es x = es ++ [(x, 1)] := by unfold bump; rw [i1, i2]
 rw [hbump] at hbk
 have hlen : (es ++ [(x, (1 : Int))]).length = es.length + 1 := by simp
 have hst : C.st (es ++ [(x, 1)]) = C.stp (C.st es) x := by unfold Con.st; rw [hbk]; simp
 obtain ⟨J, F, r1, r2⟩ := C.rnd es.length (C.st es) (es ++ [(x, 1)]) (X ++ [.cells (sdK x), .none, .none, .none, .none, .none, .none, .none]) (tb ++ List.replicate 7 false) x hi (by omega) hx
 obtain ⟨Y, hYe⟩ : ∃ Y : List ABlk, Y = X ++ [.cells (sdK x), .none, .none, .none, .none, .none, .none, .none] ++ J := ⟨_, rfl⟩
 rw [← hYe] at r2
 have hY6 : ∀ Z, (Y ++ Z)[X.length]? = some (.cells (sdK x)) := fun Z => by rw [hYe]; simp
 have hYX : ∀ Z, (Y ++ Z).take X.length = X := fun Z => by rw [hYe]; simp
 have hY60 : Y[X.length]? = some (.cells (sdK x)) := by have := hY6 []; rwa [List.append_nil] at this
 clear hYe
 have f1 := C.facts (C.st es) (es ++ [(x, 0)])
 obtain ⟨hQ1, oR1, oH1, oY1, oM1, oV1, oC1, oN1⟩ := f1
 have hs2 := fun es' Y => C.setX (C.st es) (es ++ [(x, 0)]) es' Y
 have f2 := C.facts (C.st es) (es ++ [(x, 1)])
 obtain ⟨hQ2, oR2, oH2, oY2, oM2, oV2, oC2, oN2⟩ := f2
 have f3 := C.facts (C.stp (C.st es) x) (es ++ [(x, 1)])
 obtain ⟨hQ3, oR3, oH3, oY3, oM3, oV3, oC3, oN3⟩ := f3
 have hL1 := lookS x (es ++ [(x, 0)])
 rw [(look_app 0 hm).1] at hL1
 have hL2 := lookS x (es ++ [(x, 1)])
 rw [(look_app 1 hm).1] at hL2
 have hel := esS_len es
 have hg1 : (esS (es ++ [(x, 0)]))[es.length]? = some (.agg (sdK x), .int .i64 0) := by rw [esS_get]; simp
 have hset1 : (esS (es ++ [(x, 0)])).set es.length (.agg (sdK x), .int .i64 1) = esS (es ++ [(x, 1)]) := by
  rw [esS_set]; simp
 have hone := esS_one es x 0
 have hkl : x.k < d.visits.length := by omega
 have hvx := List.getElem?_eq_getElem hkl
 have hvo := ho.visit _ (List.getElem_mem hkl)
 have hzv := hd.zv (by intro e; rw [e] at hkl; simp at hkl)
 have hki : (x.k : Int) < d.visits.length := by omega
 have hv5 := ho.visits
 have hp4 := ho.people
 have hke2 : ((x.k : Int) == (d.visits.length : Int)) = false := by simp; omega
 obtain ⟨pn, hpn⟩ := Int.eq_ofNat_of_zero_le hvo.person.1
 have hpl : pn < 5 := by have := hvo.person.2; omega
 have hwb := shr_and ⟨x.w, by have := hx.w; omega⟩ ⟨pn, hpl⟩
 have hrb := shr_and ⟨refused, hrf⟩ ⟨x.k, by omega⟩
 simp only at hwb hrb
 have hwk : IntKind.i64.wrap ((x.k : Int) + 1) = (x.k : Int) + 1 := wrap_i64 (by omega)
 have hpt : d.visits[x.k].person.toNat = pn := by rw [hpn]; simp
 have hj0 : (0 : Int) ≤ es.length := by omega
 generalize hQQ : C.H (C.st es) es = Q at *
 generalize hQQ1 : C.H (C.st es) (es ++ [(x, 0)]) = Q1 at *
 generalize hQQ2 : C.H (C.st es) (es ++ [(x, 1)]) = Q2 at *
 generalize hQQ3 : C.H (C.stp (C.st es) x) (es ++ [(x, 1)]) = Q3 at *
 have hw : IntKind.i64.wrap 1 = 1 := wrap_i64 (by omega)
 simp only [eFs] at oR3
 simp only [sdK, ks5] at hL hI hL1 hL2 hg1 hset1 r2 hY6 hY60 ⊢
 simp only [go_sem, ↓reduceIte, simprocAttr] at r2
 rw [w_call _ fn_101 rfl]
 simp only [go_sem, ↓reduceIte, simprocAttr, oV, hQ, List.size_toArray, hQ, q_get hQ, q_get0 hQ, q_set hQ, q_set0 hQ, q_take hQ, q_take0 hQ, opMapEntry, opEntryStore, hL, hI, hw, oM, hs1, hQQ, hj0, hone, hel, hQQ1, oV1, oM1, hL1, hQ1, q_get hQ1, q_get0 hQ1, q_set hQ1, q_set0 hQ1, q_take hQ1, q_take0 hQ1, hQ1, hs2, hg1, hset1, hQQ2]
 generalize hcf : okFam _ _ _ = cf
 obtain rfl : cf = true := by rw [← hcf]; kernel_rfl
 generalize hvv : d.visits[x.k] = v at *
 simp only [go_sem, ↓reduceIte, simprocAttr, hQ, oV2, oM2, hL2, oY2, hQ2, hQ2, q_get hQ2, q_get0 hQ2, q_set hQ2, q_set0 hQ2, q_take hQ2, q_take0 hQ2, callAV_yld2, r2, oR3, oH3, hQ3, hQ3, q_get hQ3, q_get0 hQ3, q_set hQ3, q_set0 hQ3, q_take hQ3, q_take0 hQ3, hY6, hY60, hke2, List.size_toArray, hki, hvx, eVi, hzv, Nat.add_assoc, Nat.add_lt_add_iff_left]
 generalize hcf2 : okFam _ _ _ = cf
 obtain rfl : cf = true := by rw [← hcf2]; kernel_rfl
 simp only [go_sem, ↓reduceIte, simprocAttr, hQ3, hQ3, q_get hQ3, q_get0 hQ3, q_set hQ3, q_set0 hQ3, q_take hQ3, q_take0 hQ3, hY6, oH3, oR3, Nat.add_assoc, Nat.add_lt_add_iff_left, hpn, hwk]
 generalize hg1 : (IntKind.i64.wrap _ == (1 : Int)) = b1
 generalize hg2 : (IntKind.i64.wrap _ == (1 : Int)) = b2
 obtain ⟨rfl, rfl⟩ : b1 = refused.testBit x.k ∧ b2 = x.w.testBit pn := by
  first
  | exact ⟨hg1.symm.trans hrb, hg2.symm.trans hwb⟩
  | exact ⟨hg2.symm.trans hrb, hg1.symm.trans hwb⟩
 have hZX : ∀ Z, (Y ++ [ABlk.none, .cells [.int .i64 (pn : Int), .int .i64 v.day, .int .i64 v.kind, .int .i64 v.llo, .int .i64 v.lhi, .int .i64 v.hlo, .int .i64 v.hhi, .bool v.sure], .none, .none, .none, .none, .none, .none, .none, .none, .none, .cells [.int .i64 ((x.k : Int) + 1), .int .i64 (x.w : Int), .int .i64 x.left, .bool x.ended, .bool false]] ++ Z).take X.length = X := fun Z => by rw [List.append_assoc]; exact hYX _
 have hZ6 : ∀ Z, (Y ++ [ABlk.none, .cells [.int .i64 (pn : Int), .int .i64 v.day, .int .i64 v.kind, .int .i64 v.llo, .int .i64 v.lhi, .int .i64 v.hlo, .int .i64 v.hhi, .bool v.sure], .none, .none, .none, .none, .none, .none, .none, .none, .none, .cells [.int .i64 ((x.k : Int) + 1), .int .i64 (x.w : Int), .int .i64 x.left, .bool x.ended, .bool false]] ++ Z)[X.length]? = some (.cells [.int .i64 (x.k : Int), .int .i64 (x.w : Int), .int .i64 x.left, .bool x.ended, .bool x.paid]) := fun Z => by rw [List.append_assoc]; exact hY6 _
 have hZ10 : ∀ Z, (Y ++ [ABlk.none, .cells [.int .i64 (pn : Int), .int .i64 v.day, .int .i64 v.kind, .int .i64 v.llo, .int .i64 v.lhi, .int .i64 v.hlo, .int .i64 v.hhi, .bool v.sure], .none, .none, .none, .none, .none, .none, .none, .none, .none, .cells [.int .i64 ((x.k : Int) + 1), .int .i64 (x.w : Int), .int .i64 x.left, .bool x.ended, .bool false]] ++ Z)[Y.length + 11]? = some (.cells [.int .i64 ((x.k : Int) + 1), .int .i64 (x.w : Int), .int .i64 x.left, .bool x.ended, .bool false]) := fun Z => by rw [List.append_assoc, get_at]; rfl
 generalize hY2 : Y ++ [ABlk.none, .cells [.int .i64 (pn : Int), .int .i64 v.day, .int .i64 v.kind, .int .i64 v.llo, .int .i64 v.lhi, .int .i64 v.hlo, .int .i64 v.hhi, .bool v.sure], .none, .none, .none, .none, .none, .none, .none, .none, .none, .cells [.int .i64 ((x.k : Int) + 1), .int .i64 (x.w : Int), .int .i64 x.left, .bool x.ended, .bool false]] = Y2 at hZX hZ6 hZ10 ⊢
 have hZ60 : Y2[X.length]? = some (.cells [.int .i64 (x.k : Int), .int .i64 (x.w : Int), .int .i64 x.left, .bool x.ended, .bool x.paid]) := by have := hZ6 []; rwa [List.append_nil] at this
 have hZ100 : Y2[Y.length + 11]? = some (.cells [.int .i64 ((x.k : Int) + 1), .int .i64 (x.w : Int), .int .i64 x.left, .bool x.ended, .bool false]) := by have := hZ10 []; rwa [List.append_nil] at this
 have hZX0 : Y2.take X.length = X := by have := hZX []; rwa [List.append_nil] at this
 generalize hF2 : false :: false :: false :: false :: false :: false :: false :: (F ++ [false, false, false, false, false, false, false, false, false, false, false]) = F2
 have hx1 : SdOk d (stay x) := hx.stay (by omega)
 have hke1 : KOk (c + 1) (es ++ [(x, 1)]) := by have := KOk_bump hke hc x; rwa [hbump] at this
 rw [← hst, ← hlen] at r1
 have hkids : kids d refused but x = (if refused.testBit x.k || !x.w.testBit pn || !comesB d x.k then [stay x] else []) ++ (if refused.testBit x.k || !x.w.testBit pn then [] else (costs d but x.k).map (stepSd x)) := by
  unfold kids; rw [hvx]; simp only [hpt]
 have hdfs : dfsM d refused but (n' + 1) x (keys es) = (kids d refused but x).foldl (fun M c => dfsM d refused but n' c M) (keys (es ++ [(x, 1)])) := by
  rw [hbk]
  show (if x ∈ keys es then _ else _) = _
  rw [if_neg hm]
 rw [hdfs, hkids]
 cases hab : (refused.testBit x.k || !x.w.testBit pn) with
 | true =>
  obtain ⟨es3, F3, u1, u2, u3, u4, u5⟩ := ih (stay x) (es ++ [(x, 1)]) Y2 (tb ++ F2) (c + 1) (by show x.k + 1 + n' = _; omega) hx1 r1 hke1 (by omega) (by omega) (by rw [hlen]; omega)
  rw [hst, hQQ3] at u5
  obtain ⟨hQ4, oR4, oH4, oY4, oM4, oV4, oC4, oN4⟩ := C.facts (C.st es3) es3
  refine ⟨es3, F2 ++ F3, ?_, u2, fun e he => ?_, ?_, ?_⟩
  ·rw [u1, Bool.true_or]; rfl
  ·have := u3 e he; rw [hcN]; omega
  ·rw [hlen] at u4; rw [hcN]; omega
  ·generalize hQQ4 : C.H (C.st es3) es3 = Q4 at *
   simp only [sd_stay] at u5
   simp only [go_sem, ↓reduceIte, simprocAttr] at u5
   cases ha : refused.testBit x.k with
   | true =>
    simp only [go_sem, ↓reduceIte, simprocAttr, hQ3, hQ3, q_get hQ3, q_get0 hQ3, q_set hQ3, q_set0 hQ3, q_take hQ3, q_take0 hQ3, oN3, hZ100, hZ10, u5, hQ4, hQ4, q_get hQ4, q_get0 hQ4, q_set hQ4, q_set0 hQ4, q_take hQ4, q_take0 hQ4, hZX0, hQ]
   | false =>
    rw [ha, Bool.false_or] at hab
    have hb : x.w.testBit pn = false := by simpa using hab
    simp only [go_sem, ↓reduceIte, simprocAttr, hb, hQ3, hQ3, q_get hQ3, q_get0 hQ3, q_set hQ3, q_set0 hQ3, q_take hQ3, q_take0 hQ3, oN3, hZ100, hZ10, u5, hQ4, hQ4, q_get hQ4, q_get0 hQ4, q_set hQ4, q_set0 hQ4, q_take hQ4, q_take0 hQ4, hZX0, hQ]
 | false =>
  simp only [Bool.or_eq_false_iff] at hab
  obtain ⟨ha, hb⟩ := hab
  have hb : x.w.testBit pn = true := by simpa using hb
  have h82 := c82 hd ho refused but r x.k hkl (Q3 ++ Y2) (tb ++ F2) (oR3 Y2)
  simp only [go_sem, ↓reduceIte, simprocAttr] at h82
  have hcost := cost_at hd ho refused hbut hkl
  have hcl16 := costs_len ho (but := but) hkl
  have hcbd : ∀ (j : Nat) (n : Int), (costs d but x.k)[j]? = some n → 0 ≤ n ∧ n ≤ 90 := fun j n h => costs_bd ho (List.mem_of_getElem? h)
  generalize costs d but x.k = l at hcost hcl16 hcbd ⊢
  cases hcb : comesB d x.k with
  | true =>
   rw [hcb] at h82
   simp only [go_sem, ↓reduceIte, simprocAttr, ha, hb, h82, hQ3, hQ3, q_get hQ3, q_get0 hQ3, q_set hQ3, q_set0 hQ3, q_take hQ3, q_take0 hQ3, hZ6, hZ60, oC3, hcost, oR3, vI]
   generalize hz : (EW tabX).code 101 none (Code.loop _) _ = y
   refine w_rounds_sk hz (fun j (q : WS) => [(95, .int .i64 (j : Int))]) (fun q => ⟨C.H (C.st q.es) q.es ++ (Y2 ++ q.J), tb ++ q.F⟩)
    (fun j q => keys q.es = ((l.take j).map (stepSd x)).foldl (fun M c => dfsM d refused but n' c M) (keys (es ++ [(x, 1)])) ∧ C.Inv q.es.length (C.st q.es) ∧ KOk ((c + 1) + ((j * callsN n' : Nat) : Int)) q.es ∧ q.es.length ≤ (es.length + 1) + j * callsN n') l.length (.exit 0) (fun q => [(95, .int .i64 (l.length : Int))]) rfl ⟨es ++ [(x, 1)], [], F2 ++ [false, false, false, false, false, false, false, false, false, false, false, false, false, false, false, false, false, false, false]⟩ ?_ ?_ ?_ ?_ ?_ ?_
   ·simp only [go_sem, ↓reduceIte, simprocAttr]
   ·simp only [hst, hQQ3, List.append_nil, go_sem, ↓reduceIte, simprocAttr]
   ·exact ⟨rfl, r1, by rw [Nat.zero_mul]; simpa using hke1, (by show (es ++ [(x, 1)]).length ≤ _; rw [Nat.zero_mul, hlen]; exact Nat.le_refl _)⟩
   ·intro j q hj hR
    obtain ⟨esq, Jq, Fq⟩ := q
    obtain ⟨v1, v2, v3, v4⟩ := hR
    have v1 : keys esq = _ := v1
    have v2 : C.Inv esq.length (C.st esq) := v2
    have v3 : KOk ((c + 1) + ((j * callsN n' : Nat) : Int)) esq := v3
    have v4 : esq.length ≤ (es.length + 1) + j * callsN n' := v4
    have hji : (j : Int) < l.length := by omega
    have hxj := List.getElem?_eq_getElem hj
    have hz1 : zT 1 l.length = 1 := zT_pos (by omega)
    have hbj := hcbd j _ hxj
    have hjm : (j + 1) * callsN n' ≤ 16 * callsN n' := Nat.mul_le_mul_right _ (by omega)
    have hjs : (j + 1) * callsN n' = j * callsN n' + callsN n' := Nat.succ_mul _ _
    have hwj : IntKind.i64.wrap ((j : Int) + 1) = (j : Int) + 1 := wrap_i64 (by omega)
    have hlf := hx.left
    have hws : IntKind.i64.wrap (x.left - l[j]) = x.left - l[j] := wrap_i64 (by omega)
    have hxs : SdOk d (stepSd x l[j]) := hx.step (by omega) hbj
    have hsk : (stepSd x l[j]).k = x.k + 1 := by unfold stepSd; split <;> rfl
    obtain ⟨es5, F5, w1, w2, w3, w4, w5⟩ := ih (stepSd x l[j]) esq (Y2 ++ (Jq ++ [.cells (sdK (stepSd x l[j]))])) (tb ++ Fq) ((c + 1) + ((j * callsN n' : Nat) : Int)) (by rw [hsk]; omega) hxs v2 v3 (by omega) (by omega) (by omega)
    have hR' : keys es5 = ((l.take (j + 1)).map (stepSd x)).foldl (fun M c => dfsM d refused but n' c M) (keys (es ++ [(x, 1)])) ∧ C.Inv es5.length (C.st es5) ∧ KOk ((c + 1) + (((j + 1) * callsN n' : Nat) : Int)) es5 ∧ es5.length ≤ (es.length + 1) + (j + 1) * callsN n' := by
     refine ⟨?_, w2, fun e he => ?_, by omega⟩
     ·rw [w1, v1, map_succ _ hxj, List.foldl_append]; rfl
     ·have := w3 e he; omega
    obtain ⟨hQ6, oR6, oH6, oY6, oM6, oV6, oC6, oN6⟩ := C.facts (C.st esq) esq
    obtain ⟨hQ7, oR7, oH7, oY7, oM7, oV7, oC7, oN7⟩ := C.facts (C.st es5) es5
    refine ⟨⟨es5, Jq ++ [.cells (sdK (stepSd x l[j]))], Fq ++ F5⟩, ?_, hR'⟩
    generalize hQQ6 : C.H (C.st esq) esq = Q6 at *
    generalize hQQ7 : C.H (C.st es5) es5 = Q7 at *
    generalize hnn : l[j] = nj at *
    cases hE : x.ended with
    | true =>
     have hstep : sdK (stepSd x nj) = [.int .i64 ((x.k : Int) + 1), .int .i64 (x.w : Int), .int .i64 x.left, .bool true, .bool false] := by unfold stepSd; rw [if_pos (by rw [hE]; rfl)]; rfl
     rw [hstep] at w5
     simp only [go_sem, ↓reduceIte, simprocAttr] at w5
     simp only [go_sem, ↓reduceIte, simprocAttr, hstep, hE, hji, hxj, hz1, hQ6, hQ6, q_get hQ6, q_get0 hQ6, q_set hQ6, q_set0 hQ6, q_take hQ6, q_take0 hQ6, hZ6, hZ10, oN6, w5, hwj, hQ7]
    | false =>
    by_cases hlt : x.left < nj
    ·have hstep : sdK (stepSd x nj) = [.int .i64 ((x.k : Int) + 1), .int .i64 (x.w : Int), .int .i64 x.left, .bool true, .bool false] := by unfold stepSd; rw [if_pos (by rw [hE, decide_eq_true hlt]; rfl)]; rfl
     rw [hstep] at w5
     simp only [go_sem, ↓reduceIte, simprocAttr] at w5
     simp only [go_sem, ↓reduceIte, simprocAttr, hstep, hE, hlt, hji, hxj, hz1, hQ6, hQ6, q_get hQ6, q_get0 hQ6, q_set hQ6, q_set0 hQ6, q_take hQ6, q_take0 hQ6, hZ6, hZ10, oN6, w5, hwj, hQ7]
    ·have hstep : sdK (stepSd x nj) = [.int .i64 ((x.k : Int) + 1), .int .i64 (x.w : Int), .int .i64 (x.left - nj), .bool false, .bool true] := by unfold stepSd; rw [if_neg (by rw [hE, decide_eq_false hlt]; exact Bool.false_ne_true)]; rfl
     rw [hstep] at w5
     simp only [go_sem, ↓reduceIte, simprocAttr] at w5
     simp only [go_sem, ↓reduceIte, simprocAttr, hstep, hE, hlt, hji, hxj, hz1, hQ6, hQ6, q_get hQ6, q_get0 hQ6, q_set hQ6, q_set0 hQ6, q_take hQ6, q_take0 hQ6, hZ6, hZ10, oN6, w5, hwj, hws, hQ7]
   ·intro q hR
    simp only [go_sem, ↓reduceIte, simprocAttr, Int.lt_irrefl]
   ·intro q hq hR
    obtain ⟨esq, Jq, Fq⟩ := q
    obtain ⟨v1, v2, v3, v4⟩ := hR
    obtain ⟨hQ6, oR6, oH6, oY6, oM6, oV6, oC6, oN6⟩ := C.facts (C.st esq) esq
    have hjm : l.length * callsN n' ≤ 16 * callsN n' := Nat.mul_le_mul_right _ hcl16
    refine ⟨esq, Fq, ?_, v2, fun e he => ?_, ?_, ?_⟩
    ·rw [v1, List.take_length]
    ·have v3 : KOk ((c + 1) + ((l.length * callsN n' : Nat) : Int)) esq := v3
     have := v3 e he; rw [hcN]; omega
    ·have v4 : esq.length ≤ (es.length + 1) + l.length * callsN n' := v4
     rw [hcN]; omega
    ·subst hq
     generalize hQQ6 : C.H (C.st esq) esq = Q6 at *
     simp only [go_sem, ↓reduceIte, simprocAttr, hQ6, hQ6, q_get hQ6, q_get0 hQ6, q_set hQ6, q_set0 hQ6, q_take hQ6, q_take0 hQ6, hZX, hQ]
  | false =>
   rw [hcb] at h82
   obtain ⟨es3, F3, u1, u2, u3, u4, u5⟩ := ih (stay x) (es ++ [(x, 1)]) Y2 (tb ++ (F2 ++ [false, false, false, false, false, false, false, false, false, false, false, false, false, false, false, false, false, false, false])) (c + 1) (by show x.k + 1 + n' = _; omega) hx1 r1 hke1 (by omega) (by omega) (by rw [hlen]; omega)
   rw [hst, hQQ3] at u5
   rw [hlen] at u4
   obtain ⟨hQ4, oR4, oH4, oY4, oM4, oV4, oC4, oN4⟩ := C.facts (C.st es3) es3
   generalize hQQ4 : C.H (C.st es3) es3 = Q4 at *
   simp only [sd_stay] at u5
   simp only [go_sem, ↓reduceIte, simprocAttr] at u5
   simp only [eFs] at oR4
   simp only [go_sem, ↓reduceIte, simprocAttr, ha, hb, h82, hQ3, hQ3, q_get hQ3, q_get0 hQ3, q_set hQ3, q_set0 hQ3, q_take hQ3, q_take0 hQ3, oN3, hZ100, hZ10, u5, hQ4, hQ4, q_get hQ4, q_get0 hQ4, q_set hQ4, q_set0 hQ4, q_take hQ4, q_take0 hQ4, hZ6, hZ60, oC4, hcost, oR4, vI]
   generalize hz : (EW tabX).code 101 none (Code.loop _) _ = y
   refine w_rounds_sk hz (fun j (q : WS) => [(95, .int .i64 (j : Int))]) (fun q => ⟨C.H (C.st q.es) q.es ++ (Y2 ++ q.J), tb ++ q.F⟩)
    (fun j q => keys q.es = ((l.take j).map (stepSd x)).foldl (fun M c => dfsM d refused but n' c M) (keys (es3)) ∧ C.Inv q.es.length (C.st q.es) ∧ KOk ((c + 1 + (callsN n' : Int)) + ((j * callsN n' : Nat) : Int)) q.es ∧ q.es.length ≤ (es.length + 1 + callsN n') + j * callsN n') l.length (.exit 0) (fun q => [(95, .int .i64 (l.length : Int))]) rfl ⟨es3, [], F2 ++ ([false, false, false, false, false, false, false, false, false, false, false, false, false, false, false, false, false, false, false] ++ F3)⟩ ?_ ?_ ?_ ?_ ?_ ?_
   ·simp only [go_sem, ↓reduceIte, simprocAttr]
   ·simp only [hQQ4, List.append_nil, go_sem, ↓reduceIte, simprocAttr]
   ·exact ⟨rfl, u2, by rw [Nat.zero_mul]; simpa using u3, (by show es3.length ≤ _; rw [Nat.zero_mul]; omega)⟩
   ·intro j q hj hR
    obtain ⟨esq, Jq, Fq⟩ := q
    obtain ⟨v1, v2, v3, v4⟩ := hR
    have v1 : keys esq = _ := v1
    have v2 : C.Inv esq.length (C.st esq) := v2
    have v3 : KOk ((c + 1 + (callsN n' : Int)) + ((j * callsN n' : Nat) : Int)) esq := v3
    have v4 : esq.length ≤ (es.length + 1 + callsN n') + j * callsN n' := v4
    have hji : (j : Int) < l.length := by omega
    have hxj := List.getElem?_eq_getElem hj
    have hz1 : zT 1 l.length = 1 := zT_pos (by omega)
    have hbj := hcbd j _ hxj
    have hjm : (j + 1) * callsN n' ≤ 16 * callsN n' := Nat.mul_le_mul_right _ (by omega)
    have hjs : (j + 1) * callsN n' = j * callsN n' + callsN n' := Nat.succ_mul _ _
    have hwj : IntKind.i64.wrap ((j : Int) + 1) = (j : Int) + 1 := wrap_i64 (by omega)
    have hlf := hx.left
    have hws : IntKind.i64.wrap (x.left - l[j]) = x.left - l[j] := wrap_i64 (by omega)
    have hxs : SdOk d (stepSd x l[j]) := hx.step (by omega) hbj
    have hsk : (stepSd x l[j]).k = x.k + 1 := by unfold stepSd; split <;> rfl
    obtain ⟨es5, F5, w1, w2, w3, w4, w5⟩ := ih (stepSd x l[j]) esq (Y2 ++ (Jq ++ [.cells (sdK (stepSd x l[j]))])) (tb ++ Fq) ((c + 1 + (callsN n' : Int)) + ((j * callsN n' : Nat) : Int)) (by rw [hsk]; omega) hxs v2 v3 (by omega) (by omega) (by omega)
    have hR' : keys es5 = ((l.take (j + 1)).map (stepSd x)).foldl (fun M c => dfsM d refused but n' c M) (keys (es3)) ∧ C.Inv es5.length (C.st es5) ∧ KOk ((c + 1 + (callsN n' : Int)) + (((j + 1) * callsN n' : Nat) : Int)) es5 ∧ es5.length ≤ (es.length + 1 + callsN n') + (j + 1) * callsN n' := by
     refine ⟨?_, w2, fun e he => ?_, by omega⟩
     ·rw [w1, v1, map_succ _ hxj, List.foldl_append]; rfl
     ·have := w3 e he; omega
    obtain ⟨hQ6, oR6, oH6, oY6, oM6, oV6, oC6, oN6⟩ := C.facts (C.st esq) esq
    obtain ⟨hQ7, oR7, oH7, oY7, oM7, oV7, oC7, oN7⟩ := C.facts (C.st es5) es5
    refine ⟨⟨es5, Jq ++ [.cells (sdK (stepSd x l[j]))], Fq ++ F5⟩, ?_, hR'⟩
    generalize hQQ6 : C.H (C.st esq) esq = Q6 at *
    generalize hQQ7 : C.H (C.st es5) es5 = Q7 at *
    generalize hnn : l[j] = nj at *
    cases hE : x.ended with
    | true =>
     have hstep : sdK (stepSd x nj) = [.int .i64 ((x.k : Int) + 1), .int .i64 (x.w : Int), .int .i64 x.left, .bool true, .bool false] := by unfold stepSd; rw [if_pos (by rw [hE]; rfl)]; rfl
     rw [hstep] at w5
     simp only [go_sem, ↓reduceIte, simprocAttr] at w5
     simp only [go_sem, ↓reduceIte, simprocAttr, hstep, hE, hji, hxj, hz1, hQ6, hQ6, q_get hQ6, q_get0 hQ6, q_set hQ6, q_set0 hQ6, q_take hQ6, q_take0 hQ6, hZ6, hZ10, oN6, w5, hwj, hQ7]
    | false =>
    by_cases hlt : x.left < nj
    ·have hstep : sdK (stepSd x nj) = [.int .i64 ((x.k : Int) + 1), .int .i64 (x.w : Int), .int .i64 x.left, .bool true, .bool false] := by unfold stepSd; rw [if_pos (by rw [hE, decide_eq_true hlt]; rfl)]; rfl
     rw [hstep] at w5
     simp only [go_sem, ↓reduceIte, simprocAttr] at w5
     simp only [go_sem, ↓reduceIte, simprocAttr, hstep, hE, hlt, hji, hxj, hz1, hQ6, hQ6, q_get hQ6, q_get0 hQ6, q_set hQ6, q_set0 hQ6, q_take hQ6, q_take0 hQ6, hZ6, hZ10, oN6, w5, hwj, hQ7]
    ·have hstep : sdK (stepSd x nj) = [.int .i64 ((x.k : Int) + 1), .int .i64 (x.w : Int), .int .i64 (x.left - nj), .bool false, .bool true] := by unfold stepSd; rw [if_neg (by rw [hE, decide_eq_false hlt]; exact Bool.false_ne_true)]; rfl
     rw [hstep] at w5
     simp only [go_sem, ↓reduceIte, simprocAttr] at w5
     simp only [go_sem, ↓reduceIte, simprocAttr, hstep, hE, hlt, hji, hxj, hz1, hQ6, hQ6, q_get hQ6, q_get0 hQ6, q_set hQ6, q_set0 hQ6, q_take hQ6, q_take0 hQ6, hZ6, hZ10, oN6, w5, hwj, hws, hQ7]
   ·intro q hR
    simp only [go_sem, ↓reduceIte, simprocAttr, Int.lt_irrefl]
   ·intro q hq hR
    obtain ⟨esq, Jq, Fq⟩ := q
    obtain ⟨v1, v2, v3, v4⟩ := hR
    obtain ⟨hQ6, oR6, oH6, oY6, oM6, oV6, oC6, oN6⟩ := C.facts (C.st esq) esq
    have hjm : l.length * callsN n' ≤ 16 * callsN n' := Nat.mul_le_mul_right _ hcl16
    refine ⟨esq, Fq, ?_, v2, fun e he => ?_, ?_, ?_⟩
    ·rw [v1, List.take_length, u1]; rfl
    ·have v3 : KOk ((c + 1 + (callsN n' : Int)) + ((l.length * callsN n' : Nat) : Int)) esq := v3
     have := v3 e he; rw [hcN]; omega
    ·have v4 : esq.length ≤ (es.length + 1 + callsN n') + l.length * callsN n' := v4
     rw [hcN]; omega
    ·subst hq
     generalize hQQ6 : C.H (C.st esq) esq = Q6 at *
     simp only [go_sem, ↓reduceIte, simprocAttr, hQ6, hQ6, q_get hQ6, q_get0 hQ6, q_set hQ6, q_set0 hQ6, q_take hQ6, q_take0 hQ6, hZX, hQ]
end
section
open Go.Proofs
theorem shr_int : ∀ s : Fin 32, ∀ i : Fin 5, IntKind.i64.wrap (BitVec.ofInt 64 (((s.1 : Nat) : Int).fdiv (2 ^ (min i.1 64))) &&& BitVec.ofInt 64 1).toNat = if s.1.testBit i.1 then 1 else 0 := by decide
theorem shl_one : ∀ i : Fin 5, IntKind.i64.wrap (1 * 2 ^ (min i.1 64)) = ((2 ^ i.1 : Nat) : Int) := by decide
def noW (d : Fu) (w i : Nat) : Int := match d.people[i]? with
 | some p => if p.widow ≠ 2 ∧ (if w.testBit i then (1 : Int) else 0) ≠ p.widow then 1 else 0
 | none => 0
def okW (d : Fu) (w : Nat) : Bool := decide (firstBad (noW d w) 0 d.people.length = none)
def waysTo (d : Fu) (k : Nat) : List Nat := (List.range k).filter (okW d)
def ways (d : Fu) : List Nat := waysTo d (2 ^ d.people.length)
theorem waysTo_succ (d : Fu) (k : Nat) : waysTo d (k + 1) = if okW d k = true then waysTo d k ++ [k] else waysTo d k := by
 unfold waysTo
 rw [List.range_succ, List.filter_append]
 have e : List.filter (okW d) [k] = if okW d k = true then [k] else [] := by simp only [List.filter_cons, List.filter_nil]
 rw [e]
 split <;> simp
structure Con2 (d : Fu) (refused but : Nat) (r hb l : Nat) (τ : Type) where
 G : τ → List ABlk
 L : Nat
 len : ∀ s, (G s).length = L
 fund : ∀ s, (G s)[r]? = some (.cells (eFs d refused but))
 bx : ∀ s, (G s)[hb]? = some (.cells [.ref r 0])
 Inv : List Nat → τ → Prop
 rnd : ∀ (ws : List Nat) (s : τ) (X : List ABlk) (tb : List Bool) (w : Nat), Inv ws s → ws.length < 16 → w < 16 →
  ∃ s' J F, Inv (ws ++ [w]) s' ∧ stepRound tabX (EW tabX) l [.int .i64 (w : Int)] ⟨G s ++ X, tb⟩ = some (.bool true, ⟨G s' ++ (X ++ J), tb ++ F⟩)
structure VS (τ : Type) where
 s : τ
 J : List ABlk
 F : List Bool
set_option maxHeartbeats 4000000 in
theorem c91 {d : Fu} (hd : d.fits) (ho : d.Ok) {refused but : Nat} {r hb l : Nat} {τ : Type} (C : Con2 d refused but r hb l τ) (s : τ) (hi : C.Inv [] s) (tb : List Bool) :
  ∃ s' F, C.Inv (ways d) s' ∧ (EW tabX).call 159 [.yld l, .ref hb 0] ⟨C.G s, tb⟩ = some (.tup [], ⟨C.G s', tb ++ F⟩) := by
 have hp4 := ho.people
 have hQ := C.len s
 have oR := old (C.fund s)
 have oH := old (C.bx s)
 have oR0 := C.fund s
 have oH0 := C.bx s
 have hsh := shl_one ⟨d.people.length, by omega⟩
 simp only at hsh
 have hpw : 2 ^ d.people.length ≤ 16 := by
  have : 2 ^ d.people.length ≤ 2 ^ 4 := Nat.pow_le_pow_right (by omega) hp4
  omega
 rw [w_call _ fn_159 rfl]
 simp only [eFs] at oR0
 simp only [go_sem, ↓reduceIte, simprocAttr, oH0, oR0]
 generalize hg : IntKind.i64.wrap _ = sh
 obtain rfl : sh = ((2 ^ d.people.length : Nat) : Int) := hg.symm.trans hsh
 generalize hx : (EW tabX).code 159 none (Code.loop _) _ = x
 refine w_rounds_sk hx (fun k (q : VS τ) => [(13, .int .i64 (k : Int))]) (fun q => ⟨C.G q.s ++ q.J, tb ++ q.F⟩) (fun k q => C.Inv (waysTo d k) q.s) (2 ^ d.people.length) (.exit 0) (fun q => [(13, .int .i64 ((2 ^ d.people.length : Nat) : Int))]) rfl ⟨s, [], []⟩ ?_ ?_ ?_ ?_ ?_ ?_
 ·simp only [go_sem, ↓reduceIte, simprocAttr]
 ·simp only [List.append_nil]
 ·exact hi
 ·intro k q hk hR
  obtain ⟨s1, J1, F1⟩ := q
  have hR : C.Inv (waysTo d k) s1 := hR
  have hki : (k : Int) < ((2 ^ d.people.length : Nat) : Int) := by omega
  have hwk : IntKind.i64.wrap ((k : Int) + 1) = (k : Int) + 1 := wrap_i64 (by omega)
  have hQ1 := C.len s1
  have oR1 := old (C.fund s1)
  have oH1 := old (C.bx s1)
  simp only [eFs] at oR1
  generalize hQQ1 : C.G s1 = Q1 at *
  simp only [go_sem, ↓reduceIte, simprocAttr, hki, oH1, oR1]
  generalize hz : (EW tabX).code 159 none (Code.loop _) _ = z
  rw [w_first (fun i => [(22, .int .i64 (i : Int))]) (fun i => ⟨(Q1 ++ J1) ++ (d.people.take i).map bPe, tb ++ F1⟩) (noW d k) d.people.length (.exit 1) (fun i => [(4, .int .i64 (i : Int)), (5, .ref ((Q1 ++ J1) ++ (d.people.take i).map bPe).length 0), (22, .int .i64 (i : Int))]) (fun i => ⟨(Q1 ++ J1) ++ (d.people.take (i + 1)).map bPe, tb ++ F1⟩) (.exit 2) [(22, .int .i64 (d.people.length : Int))] ⟨(Q1 ++ J1) ++ d.people.map bPe, tb ++ F1⟩ ?_ ?_ ?_ ?_ ?_ rfl rfl] at hz
  ·unfold firstW at hz
   have hwl : (waysTo d k).length ≤ k := by unfold waysTo; have := List.length_filter_le (okW d) (List.range k); simpa using this
   cases hf : firstBad (noW d k) 0 d.people.length with
   | some i =>
    rw [hf] at hz
    have hok : okW d k = false := by unfold okW; rw [hf]; rfl
    subst hz
    refine ⟨⟨s1, J1 ++ (d.people.take (i + 1)).map bPe, F1⟩, ?_, by show C.Inv (waysTo d (k + 1)) s1; rw [waysTo_succ, if_neg (by rw [hok]; exact Bool.false_ne_true)]; exact hR⟩
    simp only [go_sem, ↓reduceIte, simprocAttr, hwk, hQQ1]
   | none =>
    rw [hf] at hz
    have hok : okW d k = true := by unfold okW; rw [hf]; rfl
    subst hz
    obtain ⟨s2, J2, F2, r1, r2⟩ := C.rnd (waysTo d k) s1 (J1 ++ d.people.map bPe) (tb ++ F1) k hR (by omega) (by omega)
    rw [hQQ1] at r2
    simp only [go_sem, ↓reduceIte, simprocAttr] at r2
    refine ⟨⟨s2, J1 ++ (d.people.map bPe ++ J2), F1 ++ F2⟩, ?_, by show C.Inv (waysTo d (k + 1)) s2; rw [waysTo_succ, if_pos hok]; exact r1⟩
    simp only [go_sem, ↓reduceIte, simprocAttr, hwk, callAV_yld2, r2]
  ·simp only [go_sem, ↓reduceIte, simprocAttr]
  ·simp only [go_sem, ↓reduceIte, simprocAttr]
  ·intro i hi h0
   have hii : (i : Int) < d.people.length := by omega
   have hx := List.getElem?_eq_getElem hi
   have hzp := hd.zp (by intro e; rw [e] at hi; simp at hi)
   rw [map_succ _ hx, ← List.append_assoc]
   generalize (Q1 ++ J1) ++ (d.people.take i).map bPe = D
   have hb0 := shr_int ⟨k, by omega⟩ ⟨i, by omega⟩
   simp only at hb0
   unfold noW at h0
   rw [hx] at h0
   simp only at h0
   by_cases hw2 : (d.people[i].widow != 2) = true
   ·simp (disch := omega) only [go_sem, ↓reduceIte, simprocAttr, hii, hx, hzp, ePe, bPe, hw2, wrap_i64]
    have hw2' : d.people[i].widow ≠ 2 := by simpa using hw2
    have hbv : (if k.testBit i then (1 : Int) else 0) = d.people[i].widow := Decidable.byContradiction fun hne => by rw [if_pos ⟨hw2', hne⟩] at h0; cases h0
    have hne : ∀ b : Int, b = (if k.testBit i then 1 else 0) → (b != d.people[i].widow) = false := fun b hb => by rw [hb, hbv]; simp
    rw [if_neg (by intro hh; exact absurd hh (by rw [Bool.not_eq_true]; exact hne _ hb0))]
   ·have hw2 : (d.people[i].widow != 2) = false := by simpa using hw2
    simp (disch := omega) only [go_sem, ↓reduceIte, simprocAttr, hii, hx, hzp, ePe, bPe, hw2, wrap_i64]
  ·intro i hi h0
   have hii : (i : Int) < d.people.length := by omega
   have hx := List.getElem?_eq_getElem hi
   have hzp := hd.zp (by intro e; rw [e] at hi; simp at hi)
   rw [map_succ _ hx, ← List.append_assoc]
   generalize (Q1 ++ J1) ++ (d.people.take i).map bPe = D
   have hb0 := shr_int ⟨k, by omega⟩ ⟨i, by omega⟩
   simp only at hb0
   unfold noW at h0
   rw [hx] at h0
   simp only at h0
   have hbv : d.people[i].widow ≠ 2 ∧ (if k.testBit i then (1 : Int) else 0) ≠ d.people[i].widow := Decidable.byContradiction fun hne => by rw [if_neg hne] at h0; exact h0 rfl
   have hw2 : (d.people[i].widow != 2) = true := by simpa using hbv.1
   have hne : ∀ b : Int, b = (if k.testBit i then 1 else 0) → (b != d.people[i].widow) = true := fun b hb => by rw [hb]; simpa using hbv.2
   simp (disch := omega) only [go_sem, ↓reduceIte, simprocAttr, hii, hx, hzp, ePe, bPe, hw2, wrap_i64]
   rw [if_pos (by exact hne _ hb0)]
  ·simp only [go_sem, ↓reduceIte, simprocAttr, Int.lt_irrefl]
 ·intro q hR
  simp only [go_sem, ↓reduceIte, simprocAttr, Int.lt_irrefl]
 ·intro q hq hR
  obtain ⟨s1, J1, F1⟩ := q
  refine ⟨s1, F1, hR, ?_⟩
  subst hq
  have hQ1 := C.len s1
  have hR1 : ∀ X, (C.G s1 ++ X).take C.L = C.G s1 := fun X => by rw [← hQ1, take_app]
  simp only [go_sem, ↓reduceIte, simprocAttr, hQ, hR1]
end
section
open Go.Proofs
@[go_sem] theorem hush_100_7 : tabX.hush 100 7 = false := id rfl
theorem c57 (r : Nat) (B : List ABlk) (t : List Bool) (hr : r < B.length) : (EW tabX).call 47 [.ref r 0] ⟨B, t⟩ = some (.clo 100 [] [.ref B.length 0], ⟨B ++ [.cells [.ref r 0]], t⟩) := by
 rw [w_call _ fn_47 rfl]
 have h1 : ¬ (B.length < B.length) := by omega
 have h2 : r < B.length + 1 := by omega
 simp only [go_sem, ↓reduceIte, simprocAttr, h1, h2]
theorem c83 (r : Nat) (B : List ABlk) (t : List Bool) (hr : r < B.length) : (EW tabX).call 103 [.ref r 0] ⟨B, t⟩ = some (.clo 159 [] [.ref B.length 0], ⟨B ++ [.cells [.ref r 0]], t⟩) := by
 rw [w_call _ fn_103 rfl]
 have h1 : ¬ (B.length < B.length) := by omega
 have h2 : r < B.length + 1 := by omega
 simp only [go_sem, ↓reduceIte, simprocAttr, h1, h2]
def NB (n l hb r : Nat) (es : List (Sd × Int)) : List ABlk :=
 [.cells [.yld l], .map (esS es), .cells [.mapr (n + 1)], .cells [.clo 60 [.ref r 0] []], .cells [.clo 101 [] [.ref (n + 2) 0, .ref n 0, .ref hb 0, .ref (n + 4) 0, .ref (n + 3) 0]]]
structure ConS (d : Fu) (refused but : Nat) (r hb n l : Nat) (σ : Type) where
 P : σ → List ABlk
 st0 : σ
 stp : σ → Sd → σ
 len : ∀ s, (P s).length = n
 fund : ∀ s, (P s)[r]? = some (.cells (eFs d refused but))
 bx : ∀ s, (P s)[hb]? = some (.cells [.ref r 0])
 Inv : Nat → σ → Prop
 rnd : ∀ (k : Nat) (s : σ) (X : List ABlk) (tb : List Bool) (x : Sd), Inv k s → k < 1000000000 → SdOk d x →
  ∃ J F, Inv (k + 1) (stp s x) ∧ stepRound tabX (EW tabX) l [.agg (sdK x)] ⟨P s ++ X, tb⟩ = some (.bool true, ⟨P (stp s x) ++ (X ++ J), tb ++ F⟩)
section
variable {d : Fu} {refused but r hb n l : Nat} {σ : Type}
theorem ConS.get (S : ConS d refused but r hb n l σ) (s : σ) (es : List (Sd × Int)) (i : Nat) : (S.P s ++ NB n l hb r es)[n + i]? = (NB n l hb r es)[i]? := by
 have := S.len s
 rw [List.getElem?_append_right (by omega), this, Nat.add_sub_cancel_left]
def ConS.con (S : ConS d refused but r hb n l σ) : Con d refused but r hb n l σ where
 H := fun s es => S.P s ++ NB n l hb r es
 L := n + 5
 st0 := S.st0
 stp := S.stp
 len := fun s es => by rw [List.length_append, S.len]; rfl
 fund := fun s es => old (S.fund s) _
 bx := fun s es => old (S.bx s) _
 yl := fun s es => by have := S.get s es 0; rw [Nat.add_zero] at this; rw [this]; rfl
 mp := fun s es => (S.get s es 1).trans rfl
 mv := fun s es => (S.get s es 2).trans rfl
 cv := fun s es => (S.get s es 3).trans rfl
 nx := fun s es => (S.get s es 4).trans rfl
 set := fun s es es' => by
  have := S.len s
  rw [List.set_append_right _ _ (by omega), this, Nat.add_sub_cancel_left]
  rfl
 lt := by omega
 Inv := S.Inv
 rnd := fun k s es X tb x hi hk hx => by
  obtain ⟨J, F, h1, h2⟩ := S.rnd k s (NB n l hb r es ++ X) tb x hi hk hx
  refine ⟨J, F, h1, ?_⟩
  simp only [List.append_assoc] at h2 ⊢
  exact h2
end
def start (d : Fu) (w : Nat) : Sd := ⟨0, w, d.pence, false, false⟩
def allM (d : Fu) (refused but : Nat) (ws : List Nat) : List Sd := ws.foldl (fun M w => dfsM d refused but d.visits.length (start d w) M) []
theorem callsN_le : ∀ n, n ≤ 5 → callsN n ≤ 1600000 := by decide
set_option maxHeartbeats 4000000 in
theorem c80 {d : Fu} (hd : d.fits) (ho : d.Ok) {refused but : Nat} (hrf : refused < 32) (hbut : but < 32) {r hb n l : Nat} {σ : Type} (S : ConS d refused but r hb n l σ) (hi : S.Inv 0 S.st0) (hrl : r < n) (hll : l < n) (hbl : hb < n) (tb : List Bool) :
  ∃ F M, M = allM d refused but (ways d) ∧ S.Inv M.length (M.foldl S.stp S.st0) ∧
   (EW tabX).call 100 [.yld l, .ref hb 0] ⟨S.P S.st0, tb⟩ = some (.tup [], ⟨S.P (M.foldl S.stp S.st0), tb ++ F⟩) := by
 have hQ := S.len S.st0
 have oR := old (S.fund S.st0)
 have oH := old (S.bx S.st0)
 have oR0 := S.fund S.st0
 have oH0 := S.bx S.st0
 have hn1 : ∀ k, l < n + k := fun k => by omega
 have hb1 : ∀ k, hb < n + k := fun k => by omega
 have hr1 : ∀ k, r < n + k := fun k => by omega
 have h83 := c83 r (S.P S.st0 ++ NB n l hb r []) tb (by rw [List.length_append, hQ]; omega)
 generalize hQQ : S.P S.st0 = Q at *
 rw [w_call _ fn_100 rfl]
 simp only [NB, esS, List.map_nil] at h83
 simp only [go_sem, ↓reduceIte, simprocAttr] at h83
 have hn5 : n < n + 5 := by omega
 simp only [go_sem, ↓reduceIte, simprocAttr, oH, oR, hQ, hQ, q_get hQ, q_get0 hQ, q_set hQ, q_set0 hQ, q_take hQ, q_take0 hQ, hn1, hb1, hr1, Nat.add_assoc, Nat.add_lt_add_iff_left, h83, hn5]
 rw [w_range (gf := 159) (fst := []) (cap := [.ref (n + 5) 0])]
 rotate_left
 ·simp only [go_sem, ↓reduceIte, simprocAttr, hQ]
 generalize hLB : ABlk.loop false AExit.normal false 100 _ _ _ _ = LB
 obtain ⟨LB', b1, b2, b3⟩ : ∃ LB', beginBlk LB = some LB' ∧ endBlk .normal LB' = some LB ∧ (∀ h : Heap, h.b[n + 7]? = some LB → ∀ fr ms, afterRange (n + 7) fr ms h = some (.normal, ⟨fr, h.put (n + 7) .none, ms⟩)) := by
  rw [← hLB]
  exact ⟨_, rfl, rfl, fun h hh fr ms => by unfold afterRange; rw [hh]⟩
 have hwv : d.visits.length ≤ 5 := ho.visits
 have hcN := callsN_le d.visits.length hwv
 let C2 : Con2 d refused but r (n + 5) (n + 7) (List (Sd × Int)) := {
  G := fun es => S.P (S.con.st es) ++ (NB n l hb r es ++ [.cells [.ref r 0], .mark, LB])
  L := n + 8
  len := fun es => by rw [List.length_append, S.len]; rfl
  fund := fun es => old (S.fund _) _
  bx := fun es => by
   have := S.len (S.con.st es)
   rw [List.getElem?_append_right (by omega), this, Nat.add_sub_cancel_left]
   rfl
  Inv := fun ws es => keys es = allM d refused but ws ∧ S.Inv es.length (S.con.st es) ∧ KOk ((ws.length * 1600000 : Nat) : Int) es ∧ es.length ≤ ws.length * 1600000
  rnd := by
   intro ws es X tb w hinv hws hw
   obtain ⟨i1, i2, i3, i4⟩ := hinv
   have hx : SdOk d (start d w) := ⟨Nat.zero_le _, hw, ho.pence, fun h => by cases h⟩
   obtain ⟨es', F, u1, u2, u3, u4, u5⟩ := c81 hd ho hrf hbut S.con d.visits.length (start d w) es ([.cells [.ref r 0], .mark, LB'] ++ (X ++ List.replicate 10 .none)) (tb ++ List.replicate 10 false) ((ws.length * 1600000 : Nat) : Int) (by show 0 + _ = _; omega) hx i2 i3 (by omega) (by omega) (by omega)
   refine ⟨es', List.replicate 10 .none, List.replicate 10 false ++ F, ⟨?_, u2, fun e he => ?_, ?_⟩, ?_⟩
   ·rw [u1, i1]; unfold allM; rw [List.foldl_append]; rfl
   ·have := u3 e he
    rw [List.length_append, List.length_singleton]
    omega
   ·rw [List.length_append, List.length_singleton]; omega
   ·have hat : (⟨S.P (S.con.st es) ++ (NB n l hb r es ++ [.cells [.ref r 0], .mark, LB]) ++ X, tb⟩ : Heap).b[n + 7]? = some LB := by
     have := S.len (S.con.st es)
     show (S.P (S.con.st es) ++ (NB n l hb r es ++ [.cells [.ref r 0], .mark, LB]) ++ X)[n + 7]? = _
     rw [List.append_assoc, List.getElem?_append_right (by omega), this, Nat.add_sub_cancel_left]
     rfl
    have hat2 := hat.trans (congrArg some hLB.symm)
    rw [stepRound_eq tabX hat2]
    clear hat hat2
    simp only [y1, Option.bind_some, roundK]
    have hQ1 := S.len (S.con.st es)
    have hQ2 := S.len (S.con.st es')
    have hH1 : S.con.H (S.con.st es) es = S.P (S.con.st es) ++ NB n l hb r es := rfl
    have hH2 : S.con.H (S.con.st es') es' = S.P (S.con.st es') ++ NB n l hb r es' := rfl
    rw [hH1, hH2] at u5
    have oR1 := old (S.fund (S.con.st es))
    have oH1 := old (S.bx (S.con.st es))
    simp only [eFs] at oR1
    generalize S.P (S.con.st es) = Q1 at *
    generalize S.P (S.con.st es') = Q2 at *
    simp only [NB, sdK, start] at u5 ⊢
    simp only [go_sem, ↓reduceIte, simprocAttr] at u5
    simp only [go_sem, ↓reduceIte, simprocAttr, hQ1, q_get hQ1, q_get0 hQ1, q_set hQ1, q_set0 hQ1, q_take hQ1, q_take0 hQ1, hQ1, turnBlk, b1, b2, isNormal, oH1, oR1, List.size_toArray]
    generalize hcf : drawT _ _ _ = cf
    obtain rfl : cf = true := by rw [← hcf]; kernel_rfl
    simp only [go_sem, ↓reduceIte, simprocAttr, hQ1, q_get hQ1, q_get0 hQ1, q_set hQ1, q_set0 hQ1, q_take hQ1, q_take0 hQ1, hQ1, turnBlk, b1, b2, isNormal, oH1, oR1, List.size_toArray]
    generalize hbb : boundAll _ _ _ = bb
    obtain rfl : bb = true := by rw [← hbb]; kernel_rfl
    simp only [go_sem, ↓reduceIte, simprocAttr, List.size_toArray, u5, hQ1, q_get hQ1, q_get0 hQ1, q_set hQ1, q_set0 hQ1, q_take hQ1, q_take0 hQ1, hQ1, hQ2, q_get hQ2, q_get0 hQ2, q_set hQ2, q_set0 hQ2, q_take hQ2, q_take0 hQ2, hQ2, turnBlk, b1, b2, isNormal] }
 obtain ⟨es', F, v1, v2⟩ := c91 hd ho C2 [] ⟨rfl, hi, (fun e he => by cases he), Nat.zero_le _⟩ tb
 obtain ⟨w1, w2, _, _⟩ := v1
 have hst : (keys es').foldl S.stp S.st0 = S.con.st es' := rfl
 refine ⟨F, keys es', w1, by rw [keys_len, hst]; exact w2, ?_⟩
 have hG0 : C2.G [] = S.P S.st0 ++ (NB n l hb r [] ++ [.cells [.ref r 0], .mark, LB]) := rfl
 have hG1 : C2.G es' = S.P ((keys es').foldl S.stp S.st0) ++ (NB n l hb r es' ++ [.cells [.ref r 0], .mark, LB]) := rfl
 rw [hG0, hG1, hQQ] at v2
 have hQ3 := S.len ((keys es').foldl S.stp S.st0)
 generalize S.P ((keys es').foldl S.stp S.st0) = Q3 at *
 simp only [NB, esS, List.map_nil] at v2
 simp only [go_sem, ↓reduceIte, simprocAttr] at v2
 simp only [go_sem, ↓reduceIte, simprocAttr, hQ, v2]
 rw [b3 _ (by simp only [go_sem, ↓reduceIte, simprocAttr, hQ3, q_get hQ3, q_get0 hQ3, q_set hQ3, q_set0 hQ3, q_take hQ3, q_take0 hQ3])]
 simp only [go_sem, ↓reduceIte, simprocAttr, hQ, hQ3, q_get hQ3, q_get0 hQ3, q_set hQ3, q_set0 hQ3, q_take hQ3, q_take0 hQ3]
end
section
open Go.Proofs
def vQ (p : Int × Int) : AV := .tup [.int .i64 p.1, .int .i64 p.2]
def payF (k : Nat) (s : Bool × Bool) (x : Sd) : Bool × Bool := if x.k = k then (s.1 || x.paid, s.2 || !x.paid) else s
def payV (s : Bool × Bool) : Int := if s.2 = false then 1 else if s.1 = false then 2 else 0
def paysP (d : Fu) (n : Int) : Int × Int := if visitE d n = 0 then (payV ((allM d 0 0 (ways d)).foldl (payF (n.toNat + 1)) (false, false)), 0) else (0, visitE d n)
def H17 (d : Fu) (n : Int) : List ABlk := [.cells (eFc d), .cells [.int .i64 n], .none, .none, .none, .none, .none, .none, .none, .none, .none, .none, .none, .none, .cells [.int .i64 n], .cells [.int .i64 d.visits.length], .cells [.int .i64 4]]
def P17 (d : Fu) (n : Int) (LB : ABlk) (s : Bool × Bool) : List ABlk := [.cells (eFc d), .cells [.int .i64 n], .none, .none, .none, .none, .none, .none, .none, .none, .none, .none, .none, .none, .cells [.int .i64 n], .cells [.int .i64 d.visits.length], .cells [.int .i64 4],
 .cells (eFc d), .cells (eFc d), .cells (eFs d 0 0), .cells [.bool s.1], .cells [.bool s.2], .cells [.ref 19 0], .mark, LB]
set_option maxHeartbeats 4000000 in
theorem c17 (d : Fu) (hd : d.fits) (n : Int) (h : Heap) : callPure (EW tabX) 13 [eF d, .int .i64 n] h = some (vQ (paysP d n), h) := by
 have hcl := eF_clean d
 have hlv := hd.lv
 have h51 := c51 n d.visits.length 4 (List.take 14 (H17 d n)) (List.replicate 12 false)
 obtain ⟨hno, hyes⟩ := enter_idx d hd n d.visits.length 4 (fun _ => by omega) 14 (H17 d n) (List.replicate 12 false) rfl rfl rfl
 have hv : enterE d (idxE n d.visits.length 4) = visitE d n := rfl
 rw [hv] at hno hyes
 rw [callPure_eq, w_call _ fn_13 rfl]
 unfold paysP
 by_cases h0 : visitE d n = 0
 rotate_left
 ·rw [if_neg h0]
  have hc := hno h0
  have hne : (visitE d n != 0) = true := by simpa using h0
  simp only [go_sem, ↓reduceIte, simprocAttr, eF, eFc, H17] at hc h51
  simp only [go_sem, ↓reduceIte, simprocAttr, eF, eFc, List.size_toArray, h51, hc]
  generalize hcf : okFam _ _ _ = cf
  obtain rfl : cf = true := by rw [← hcf]; kernel_rfl
  simp only [go_sem, ↓reduceIte, simprocAttr, hne, vQ]
 rw [if_pos h0]
 have hc := hyes h0
 obtain ⟨k1, k2, k3⟩ := enterE_zero (hv.trans h0)
 obtain ⟨k4, k5⟩ := idxE_zero (by decide) k2
 have ho := ok_of_check k1
 obtain ⟨j, rfl⟩ := Int.eq_ofNat_of_zero_le k4
 have hj : j < d.visits.length := by omega
 simp only [Int.ofNat_eq_natCast, Int.toNat_natCast] at *
 have h57 := c57 19 ((P17 d j .none (false, false)).take 22) (List.replicate 12 false) (by simp [P17])
 simp only [go_sem, ↓reduceIte, simprocAttr, eF, eFc, eFs, HE, H17, cast_zero] at hc h51
 simp only [go_sem, ↓reduceIte, simprocAttr, P17, eFc, eFs] at h57
 simp only [go_sem, ↓reduceIte, simprocAttr, eF, eFc, List.size_toArray, h51, hc]
 generalize hcf : okFam _ _ _ = cf
 obtain rfl : cf = true := by rw [← hcf]; kernel_rfl
 simp only [go_sem, ↓reduceIte, simprocAttr, h57]
 rw [w_range (gf := 100) (fst := []) (cap := [.ref 22 0])]
 rotate_left
 ·simp only [go_sem, ↓reduceIte, simprocAttr]
 generalize hLB : ABlk.loop false AExit.normal false 13 _ _ _ _ = LB
 obtain ⟨LB', b1, b2, b3⟩ : ∃ LB', beginBlk LB = some LB' ∧ endBlk .normal LB' = some LB ∧ (∀ h : Heap, h.b[24]? = some LB → ∀ fr ms, afterRange 24 fr ms h = some (.normal, ⟨fr, h.put 24 .none, ms⟩)) := by
  rw [← hLB]
  exact ⟨_, rfl, rfl, fun h hh fr ms => by unfold afterRange; rw [hh]⟩
 let S : ConS d 0 0 19 22 25 24 (Bool × Bool) := {
  P := P17 d j LB
  st0 := (false, false)
  stp := payF (j + 1)
  len := fun s => rfl
  fund := fun s => rfl
  bx := fun s => rfl
  Inv := fun _ _ => True
  rnd := by
   intro k s X tb x _ _ hx
   have hat : (⟨P17 d j LB s ++ X, tb⟩ : Heap).b[24]? = some LB := rfl
   have hat2 := hat.trans (congrArg some hLB.symm)
   rw [stepRound_eq tabX hat2]
   clear hat hat2
   simp only [y1, Option.bind_some, roundK]
   have hk := hx.k
   have hw : IntKind.i64.wrap ((j : Int) + 1) = (j : Int) + 1 := wrap_i64 (by omega)
   obtain ⟨p, q⟩ := s
   refine ⟨[.cells (sdK x)], [], trivial, ?_⟩
   simp only [P17, payF]
   by_cases hxk : x.k = j + 1
   ·have hxi : ((x.k : Int) == (j : Int) + 1) = true := by simp; omega
    cases p <;> cases q <;> cases hp : x.paid <;> simp only [go_sem, ↓reduceIte, simprocAttr, turnBlk, b1, b2, isNormal, sdK, hw, hxi, hxk, hp]
   ·have hxi : ((x.k : Int) == (j : Int) + 1) = false := by simp; omega
    simp only [go_sem, ↓reduceIte, simprocAttr, turnBlk, b1, b2, isNormal, sdK, hw, hxi, hxk] }
 obtain ⟨F, M, m1, _, m2⟩ := c80 hd ho (by omega) (by omega) S trivial (by omega) (by omega) (by omega) (List.replicate 12 false)
 subst m1
 have hP : ∀ s, S.P s = P17 d j LB s := fun _ => rfl
 have hS : S.stp = payF (j + 1) := rfl
 have hS0 : S.st0 = (false, false) := rfl
 rw [hP, hP, hS, hS0] at m2
 generalize (allM d 0 0 (ways d)).foldl (payF (j + 1)) (false, false) = pq at m2 ⊢
 obtain ⟨p, q⟩ := pq
 simp only [P17, eFc, eFs, cast_zero] at m2
 simp only [go_sem, ↓reduceIte, simprocAttr] at m2
 simp only [go_sem, ↓reduceIte, simprocAttr, m2]
 rw [b3 _ (by simp only [go_sem, ↓reduceIte, simprocAttr])]
 cases p <;> cases q <;> simp only [go_sem, ↓reduceIte, simprocAttr, vQ, payV]
end
section
open Go.Proofs
@[go_sem] theorem hush_58_5 : tabX.hush 58 5 = false := id rfl
def dayAt (d : Fu) (k : Nat) : Int := match d.visits[k]? with | some v => v.day | none => 0
def endF (d : Fu) (s : Int) (x : Sd) : Int := if x.ended = true ∧ (s < 0 ∨ dayAt d (x.k - 1) < s) then dayAt d (x.k - 1) else s
def endsV (d : Fu) (refused but : Nat) : Int := (allM d refused but (ways d)).foldl (endF d) (-1)
def P66 (B : List ABlk) (r : Nat) (LB : ABlk) (s : Int) : List ABlk := B ++ [.cells [.ref r 0], .cells [.int .i64 s], .cells [.ref r 0], .mark, LB]
set_option maxHeartbeats 4000000 in
theorem c66 {d : Fu} (hd : d.fits) (ho : d.Ok) {refused but : Nat} (hrf : refused < 32) (hbut : but < 32) (r : Nat) (B : List ABlk) (t : List Bool) (hr : B[r]? = some (.cells (eFs d refused but))) :
  ∃ F, (EW tabX).call 58 [.ref r 0] ⟨B, t⟩ = some (.int .i64 (endsV d refused but), ⟨B, t ++ F⟩) := by
 have hrl : r < B.length := (List.getElem?_eq_some_iff.1 hr).1
 have h57 := c57 r (B ++ [.cells [.ref r 0], .cells [.int .i64 (-1)]]) t (by simp; omega)
 have hv5 := ho.visits
 rw [w_call _ fn_58 rfl]
 simp only [go_sem, ↓reduceIte, simprocAttr] at h57
 have hr1 : r < B.length + 1 := by omega
 simp only [go_sem, ↓reduceIte, simprocAttr, h57, hr1]
 rw [w_range (gf := 100) (fst := []) (cap := [.ref (B.length + 2) 0])]
 rotate_left
 ·simp only [go_sem, ↓reduceIte, simprocAttr]
 generalize hLB : ABlk.loop false AExit.normal false 58 _ _ _ _ = LB
 obtain ⟨LB', b1, b2, b3⟩ : ∃ LB', beginBlk LB = some LB' ∧ endBlk .normal LB' = some LB ∧ (∀ h : Heap, h.b[B.length + 4]? = some LB → ∀ fr ms, afterRange (B.length + 4) fr ms h = some (.normal, ⟨fr, h.put (B.length + 4) .none, ms⟩)) := by
  rw [← hLB]
  exact ⟨_, rfl, rfl, fun h hh fr ms => by unfold afterRange; rw [hh]⟩
 let S : ConS d refused but r (B.length + 2) (B.length + 5) (B.length + 4) Int := {
  P := P66 B r LB
  st0 := -1
  stp := endF d
  len := fun s => by simp [P66]
  fund := fun s => old hr _
  bx := fun s => get_at B _ 2
  Inv := fun _ s => -1 ≤ s ∧ s ≤ 7
  rnd := by
   intro k s X tb x hi _ hx
   have hat : (⟨P66 B r LB s ++ X, tb⟩ : Heap).b[B.length + 4]? = some LB := by
    show (P66 B r LB s ++ X)[B.length + 4]? = _
    unfold P66
    rw [List.append_assoc, get_at]; rfl
   have hat2 := hat.trans (congrArg some hLB.symm)
   rw [stepRound_eq tabX hat2]
   clear hat hat2
   simp only [y1, Option.bind_some, roundK]
   have hk := hx.k
   have hpos := hx.pos
   have hfund := old hr
   simp only [eFs] at hfund
   have hI : -1 ≤ endF d s x ∧ endF d s x ≤ 7 := by
    unfold endF
    split
    ·rename_i h1
     have hk1 := hpos h1.1
     have hkl : x.k - 1 < d.visits.length := by omega
     have hdb := (ho.visit _ (List.getElem_mem hkl)).day
     have hdy := ho.days
     unfold dayAt; rw [List.getElem?_eq_getElem hkl]
     simp only
     omega
    ·exact hi
   simp only [P66]
   cases he : x.ended with
   | false =>
    have e0 : endF d s x = s := by unfold endF; rw [if_neg (by rw [he]; intro h; cases h.1)]
    refine ⟨[.cells (sdK x)], [], hI, ?_⟩
    rw [e0]
    simp only [go_sem, ↓reduceIte, simprocAttr, turnBlk, b1, b2, isNormal, sdK, he]
   | true =>
    have hk1 := hpos he
    have hkl : x.k - 1 < d.visits.length := by omega
    have hvx := List.getElem?_eq_getElem hkl
    have hzv := hd.zv (by intro e; rw [e] at hkl; simp at hkl)
    have hday : dayAt d (x.k - 1) = (d.visits[x.k - 1]).day := by unfold dayAt; rw [hvx]
    have hw : IntKind.i64.wrap ((x.k : Int) - 1) = ((x.k - 1 : Nat) : Int) := by rw [wrap_i64 (by omega)]; omega
    have hki : ((x.k - 1 : Nat) : Int) < d.visits.length := by omega
    by_cases hs : s < 0
    ·have e0 : endF d s x = (d.visits[x.k - 1]).day := by unfold endF; rw [if_pos ⟨he, .inl hs⟩, hday]
     refine ⟨[.cells (sdK x), .none, .none, .none, .none, .none, .none, .none, .none, .none, .none, .none, .none], List.replicate 12 false, hI, ?_⟩
     rw [e0]
     simp only [go_sem, ↓reduceIte, simprocAttr, turnBlk, b1, b2, isNormal, sdK, he, hs, hfund, hw, hki, hvx, eVi, hzv, List.size_toArray]
     generalize hcf : drawT _ _ _ = cf
     obtain rfl : cf = true := by rw [← hcf]; kernel_rfl
     simp only [go_sem, ↓reduceIte, simprocAttr, turnBlk, b1, b2, isNormal, sdK, he, hs, hfund, hw, hki, hvx, eVi, hzv, List.size_toArray]
    ·by_cases hl : (d.visits[x.k - 1]).day < s
     ·have e0 : endF d s x = (d.visits[x.k - 1]).day := by unfold endF; rw [if_pos ⟨he, .inr (by rw [hday]; exact hl)⟩, hday]
      refine ⟨[.cells (sdK x), .none, .none, .none, .none, .none, .none, .none, .none, .none, .none, .none, .none], List.replicate 12 false, hI, ?_⟩
      rw [e0]
      simp only [go_sem, ↓reduceIte, simprocAttr, turnBlk, b1, b2, isNormal, sdK, he, hs, hl, hfund, hw, hki, hvx, eVi, hzv, List.size_toArray]
      generalize hcf : drawT _ _ _ = cf
      obtain rfl : cf = true := by rw [← hcf]; kernel_rfl
      simp only [go_sem, ↓reduceIte, simprocAttr, turnBlk, b1, b2, isNormal, sdK, he, hs, hl, hfund, hw, hki, hvx, eVi, hzv, List.size_toArray]
     ·have e0 : endF d s x = s := by unfold endF; rw [if_neg (by rw [hday]; rintro ⟨_, h | h⟩; exact hs h; exact hl h)]
      refine ⟨[.cells (sdK x)], [], hI, ?_⟩
      rw [e0]
      simp only [go_sem, ↓reduceIte, simprocAttr, turnBlk, b1, b2, isNormal, sdK, he, hs, hl, hfund, hw, hki, hvx, eVi, hzv] }
 obtain ⟨F, M, m1, m3, m2⟩ := c80 hd ho hrf hbut S (by show -1 ≤ (-1 : Int) ∧ (-1 : Int) ≤ 7; omega) (by omega) (by omega) (by omega) t
 subst m1
 have hP : ∀ s, S.P s = P66 B r LB s := fun _ => rfl
 have hS : S.stp = endF d := rfl
 have hS0 : S.st0 = -1 := rfl
 rw [hP, hP, hS, hS0] at m2
 have hE : (allM d refused but (ways d)).foldl (endF d) (-1) = endsV d refused but := rfl
 rw [hE] at m2
 refine ⟨F, ?_⟩
 simp only [P66] at m2
 simp only [go_sem, ↓reduceIte, simprocAttr, m2]
 rw [b3 _ (by simp only [go_sem, ↓reduceIte, simprocAttr])]
 simp only [go_sem, ↓reduceIte, simprocAttr]
end
section
open Go.Proofs
def endsP (d : Fu) : Int × Int := if enterE d 0 = 0 then (if endsV d 0 0 < 0 then (0, 9) else (endsV d 0 0, 0)) else (0, enterE d 0)
theorem enter_fine (d : Fu) (hd : d.fits) (B : List ABlk) (t : List Bool) :
  (enterE d 0 ≠ 0 → (EW tabX).call 45 [eF d, .clo 57 [] []] ⟨B, t⟩ = some (.tup [.nilp, .int .i64 (enterE d 0)], ⟨B, t⟩)) ∧
  (enterE d 0 = 0 → (EW tabX).call 45 [eF d, .clo 57 [] []] ⟨B, t⟩ = some (.tup [.ref (B.length + 2) 0, .int .i64 0], ⟨HE d B, t⟩)) :=
 c50 d hd 0 (.clo 57 [] []) B t (fun _ => by simp only [go_sem, ↓reduceIte, simprocAttr, c64])
theorem c22 (d : Fu) (hd : d.fits) (h : Heap) : callPure (EW tabX) 16 [eF d] h = some (vQ (endsP d), h) := by
 have hcl := eF_clean d
 obtain ⟨hno, hyes⟩ := enter_fine d hd [.cells (eFc d)] []
 rw [callPure_eq, w_call _ fn_16 rfl]
 unfold endsP
 by_cases h0 : enterE d 0 = 0
 rotate_left
 ·rw [if_neg h0]
  have hc := hno h0
  have hne : (enterE d 0 != 0) = true := by simpa using h0
  simp only [eF, eFc] at hc
  simp only [go_sem, ↓reduceIte, simprocAttr, eF, eFc, hc, hne, vQ]
 rw [if_pos h0]
 have hc := hyes h0
 obtain ⟨k1, k2, k3⟩ := enterE_zero h0
 have ho := ok_of_check k1
 obtain ⟨F, h66⟩ := c66 hd ho (refused := 0) (but := 0) (by omega) (by omega) 3 (HE d [.cells (eFc d)]) [] rfl
 simp only [HE, eF, eFc, eFs, cast_zero] at hc h66
 simp only [go_sem, ↓reduceIte, simprocAttr] at hc h66
 simp only [go_sem, ↓reduceIte, simprocAttr, eF, eFc, hc, h66]
 by_cases hl : endsV d 0 0 < 0
 ·simp only [go_sem, ↓reduceIte, simprocAttr, hl, vQ]
 ·simp only [go_sem, ↓reduceIte, simprocAttr, hl, vQ]
def maxL : List Int → Int
 | [] => 0
 | x :: xs => xs.foldl (fun a b => if a < b then b else a) x
theorem c65 (l : List Int) (hl : l ≠ []) (h1000 : l.length ≤ 1000) (z : Nat) (hz : z = 1) (h : Heap) : callPure (EW tabX) 59 [.lst 0 z (I l)] h = some (.int .i64 (maxL l), h) := by
 subst hz
 rw [callPure_eq, w_call _ fn_59 rfl]
 match l, hl with
 | x :: xs, _ =>
  have hlt : ¬ ((xs.length : Int) + 1 < 1) := by omega
  simp only [go_sem, ↓reduceIte, simprocAttr, I_c, hlt]
  simp only [List.length_cons] at h1000
  rw [w_rounds_u (fun k => [(3, .int .i64 ((xs.take k).foldl (fun a b => if a < b then b else a) x)), (4, .int .i64 ((k : Int) + 1))]) xs.length (.exit 0) [(3, .int .i64 (maxL (x :: xs))), (4, .int .i64 ((xs.length : Int) + 1))] ?_ ?_ ?_ rfl]
  ·simp only [go_sem, ↓reduceIte, simprocAttr]
  ·simp only [go_sem, ↓reduceIte, simprocAttr, List.foldl_nil, Int.zero_add]
  ·intro k hk
   have hx := List.getElem?_eq_getElem hk
   have hki : (k : Int) + 1 < (xs.length : Int) + 1 := by omega
   have hw : IntKind.i64.wrap ((k : Int) + 1 + 1) = (k : Int) + 1 + 1 := wrap_i64 (by omega)
   have hf : (xs.take (k + 1)).foldl (fun a b => if a < b then b else a) x = if (xs.take k).foldl (fun a b => if a < b then b else a) x < xs[k] then xs[k] else (xs.take k).foldl (fun a b => if a < b then b else a) x := by
    rw [List.take_add_one, hx, List.foldl_append]; rfl
   rw [hf]
   generalize (xs.take k).foldl (fun a b => if a < b then b else a) x = a
   simp only [go_sem, ↓reduceIte, simprocAttr, hki, hx, hw]
  ·simp only [go_sem, ↓reduceIte, simprocAttr, Int.lt_irrefl, List.take_length, maxL]
end
section
open Go.Proofs
def widowOf (d : Fu) (i : Nat) : Int := match d.people[i]? with | some p => p.widow | none => 0
def mostAt (d : Fu) (k : Nat) : Int := match d.visits[k]? with
 | some v => if widowOf d v.person.toNat ≠ 0 then maxL (costs d 0 k) else 0
 | none => 0
def mostTo (d : Fu) : Nat → Int
 | 0 => 0
 | k + 1 => mostTo d k + mostAt d k
def needP (d : Fu) : Int × Int := if enterE d 0 = 0 then (if 0 < mostTo d d.visits.length - d.pence then mostTo d d.visits.length - d.pence else 0, 0) else (0, enterE d 0)
theorem foldl_max_bd {P : Int → Prop} : ∀ (l : List Int) (a : Int), P a → (∀ x ∈ l, P x) → P (l.foldl (fun a b => if a < b then b else a) a)
 | [], a, h, _ => h
 | x :: l, a, h, hl => by
  rw [List.foldl_cons]
  refine foldl_max_bd l _ ?_ fun y hy => hl y (by simp [hy])
  split
  ·exact hl x (by simp)
  ·exact h
theorem maxL_mem_bd {P : Int → Prop} {l : List Int} (hl : l ≠ []) (h : ∀ x ∈ l, P x) : P (maxL l) := by
 match l, hl with
 | x :: xs, _ => exact foldl_max_bd xs x (h x (by simp)) fun y hy => h y (by simp [hy])
theorem mostAt_bd {d : Fu} (ho : d.Ok) (hs : someB d 0 = true) {k : Nat} (hk : k < d.visits.length) : 0 ≤ mostAt d k ∧ mostAt d k ≤ 90 := by
 unfold mostAt
 rw [List.getElem?_eq_getElem hk]
 simp only
 split
 ·exact maxL_mem_bd (P := fun n => 0 ≤ n ∧ n ≤ 90) (some_pos hs hk) fun x hx => costs_bd ho hx
 ·omega
theorem mostTo_bd {d : Fu} (ho : d.Ok) (hs : someB d 0 = true) : ∀ k, k ≤ d.visits.length → 0 ≤ mostTo d k ∧ mostTo d k ≤ 90 * k
 | 0, _ => by simp [mostTo]
 | k + 1, hk => by
  have := mostTo_bd ho hs k (by omega)
  have := mostAt_bd ho hs (show k < d.visits.length by omega)
  unfold mostTo
  omega
set_option maxHeartbeats 1000000 in
theorem c20 (d : Fu) (hd : d.fits) (h : Heap) : callPure (EW tabX) 18 [eF d] h = some (vQ (needP d), h) := by
 have hcl := eF_clean d
 obtain ⟨hno, hyes⟩ := enter_fine d hd [.cells (eFc d)] []
 rw [callPure_eq, w_call _ fn_18 rfl]
 unfold needP
 by_cases h0 : enterE d 0 = 0
 rotate_left
 ·rw [if_neg h0]
  have hc := hno h0
  have hne : (enterE d 0 != 0) = true := by simpa using h0
  simp only [eF, eFc] at hc
  simp only [go_sem, ↓reduceIte, simprocAttr, eF, eFc, hc, hne, vQ]
 rw [if_pos h0]
 have hc := hyes h0
 obtain ⟨k1, k2, k3⟩ := enterE_zero h0
 have ho := ok_of_check k1
 have hv5 := ho.visits
 have hbd := mostTo_bd ho k3 _ (Nat.le_refl _)
 have hpn := ho.pence
 have hwf : IntKind.i64.wrap (mostTo d d.visits.length - d.pence) = mostTo d d.visits.length - d.pence := wrap_i64 (by omega)
 simp only [HE, eF, eFc, eFs, cast_zero] at hc
 simp only [go_sem, ↓reduceIte, simprocAttr] at hc
 simp only [go_sem, ↓reduceIte, simprocAttr, eF, eFc, hc]
 rw [w_rounds_h (fun k => [(6, .int .i64 (mostTo d k)), (20, .int .i64 (k : Int))]) (fun k => ⟨[.cells (eFc d), .cells (eFc d), .cells (eFc d), .cells (eFs d 0 0)] ++ (d.visits.take k).map bVi, []⟩) d.visits.length (.exit 0) [(6, .int .i64 (mostTo d d.visits.length)), (20, .int .i64 (d.visits.length : Int))] ⟨[.cells (eFc d), .cells (eFc d), .cells (eFc d), .cells (eFs d 0 0)] ++ d.visits.map bVi, []⟩ ?_ ?_ ?_ ?_ rfl]
 ·simp only [go_sem, ↓reduceIte, simprocAttr, eFc, eFs, hwf, vQ]
 ·simp only [go_sem, ↓reduceIte, simprocAttr, mostTo]
 ·simp only [go_sem, ↓reduceIte, simprocAttr, eFc, eFs, cast_zero]
 ·intro k hk
  have hx := List.getElem?_eq_getElem hk
  have hki : (k : Int) < d.visits.length := by omega
  have hzv := hd.zv (by intro e; rw [e] at hk; simp at hk)
  have hvo := ho.visit _ (List.getElem_mem hk)
  have hpb := hvo.person
  have hzp := hd.zp (by intro e; rw [e] at hpb; simp at hpb; omega)
  have hpl : d.visits[k].person.toNat < d.people.length := by omega
  have hpx := List.getElem?_eq_getElem hpl
  have hnn : ¬ d.visits[k].person < 0 := by omega
  have hw : IntKind.i64.wrap ((k : Int) + 1) = (k : Int) + 1 := wrap_i64 (by omega)
  have hm := mostTo_bd ho k3 k (by omega)
  have hma := mostAt_bd ho k3 hk
  have hws : IntKind.i64.wrap (mostTo d k + mostAt d k) = mostTo d k + mostAt d k := wrap_i64 (by omega)
  have hcost := cost_at hd ho 0 (but := 0) (by omega) hk
  have hne := some_pos k3 hk
  have hcl16 := costs_len ho (but := 0) hk
  have h65 := c65 (costs d 0 k) hne (by omega) (zT 1 (costs d 0 k).length) (zT_pos (List.length_pos_iff.2 hne))
  simp only [cast_zero, hzp, hzv] at hcost
  rw [map_succ _ hx, ← List.append_assoc]
  have hC0 : ([ABlk.cells (eFc d), .cells (eFc d), .cells (eFc d), .cells (eFs d 0 0)] ++ (d.visits.take k).map bVi)[0]? = some (.cells (eFc d)) := rfl
  have hC3 : ([ABlk.cells (eFc d), .cells (eFc d), .cells (eFc d), .cells (eFs d 0 0)] ++ (d.visits.take k).map bVi)[3]? = some (.cells (eFs d 0 0)) := rfl
  generalize [ABlk.cells (eFc d), .cells (eFc d), .cells (eFc d), .cells (eFs d 0 0)] ++ (d.visits.take k).map bVi = D at hC0 hC3 ⊢
  simp only [eFc] at hC0
  simp only [eFs, cast_zero] at hC3
  have oC0 := old hC0
  have oC3 := old hC3
  have hmo : mostTo d (k + 1) = mostTo d k + mostAt d k := rfl
  rw [hmo]
  have hat : mostAt d k = if (d.people[d.visits[k].person.toNat]).widow ≠ 0 then maxL (costs d 0 k) else 0 := by unfold mostAt; rw [hx]; simp only; unfold widowOf; rw [hpx]
  cases hwd : ((d.people[d.visits[k].person.toNat]).widow != 0) with
  | true =>
   have hwd' : (d.people[d.visits[k].person.toNat]).widow ≠ 0 := by simpa using hwd
   rw [if_pos hwd'] at hat
   rw [hat] at hws ⊢
   simp only [go_sem, ↓reduceIte, simprocAttr, hki, hx, eVi, bVi, hzv, hC0, oC0, oC3, hpb, hnn, hpx, ePe, hzp, hwd, hcost, vI, h65, hws, hw]
  | false =>
   have hwd' : ¬ (d.people[d.visits[k].person.toNat]).widow ≠ 0 := by simpa using hwd
   rw [if_neg hwd'] at hat
   rw [hat, Int.add_zero]
   simp only [go_sem, ↓reduceIte, simprocAttr, hki, hx, eVi, bVi, hzv, hC0, oC0, oC3, hpb, hnn, hpx, ePe, hzp, hwd, hw]
 ·simp only [go_sem, ↓reduceIte, simprocAttr, Int.lt_irrefl]
end
end Go.Proofs.YthkpjbgadkkeeaaGreat
