/- Parts of the proof, joined: Z-numbers. Numbers of a set; which sums are sure, and held; a list is entered. Z-numbers. For, Pay and Held, by the program. First, by the program. Z-numbers. First, by the program: a loop over a map in any order. Z-numbers. All truths of a list of money, by the reference; what is due. Z-numbers. All truths of a list of money, by the reference: rows of claimants. Forged, by the program. Whose and Read, by the program. Read, by the program. Whether a row has ascending numbers. What truths are, in plain words. Z-numbers. The list of money that a drawer makes, in plain words: its truths are the fair ones. Z-numbers. What is due; the truths by the reference are truths. Z-numbers. First, by the program: its loop over a map. Z-numbers. Owed, by the program. Z-numbers. The fewest of some things, as money finds them: sets in the order of their numbers. Z-numbers. Need, by the program, where nothing was paid. Z-numbers. Wait, by the program. Z-numbers. Wrong, by the program. Z-numbers. Wrong, by the program. The drawers of the examples. Conditions: those of each law. -/
import Derived.Test.YtiighcpimecehaaGreatQ10
set_option linter.unusedSimpArgs false
set_option linter.unusedVariables false
section
namespace Go.Proofs.YtiighcpimecehaaGreat
open Go.Proofs

theorem m52 (s n : Nat) (hs : s < 64) (hn : n ≤ 6) (h : Heap) : callPure (EW tabX) 52 [.int .i64 s, .int .i64 n] h = some (vI (bitsL s n), h) := by
  rw [callPure_eq, w_call _ fn_52 rfl]
  simp only [go_sem, ↓reduceIte, simprocAttr]
  rw [w_rounds_h (fun k => [(4, ownT [] (bitsL s k)), (7, .int .i64 k)]) (fun k => ⟨[], T [] (bitsL s k).length⟩) n (.exit 0) [(4, ownT [] (bitsL s n)), (7, .int .i64 n)] ⟨[], T [] (bitsL s n).length⟩ ?_ ?_ ?_ ?_ rfl]
  · simp only [go_sem, ↓reduceIte, simprocAttr, ownT_clean, ownT_under]
  · simp only [go_sem, ↓reduceIte, simprocAttr]; rfl
  · rfl
  · intro k hk
    have hki : (k : Int) < n := by omega
    have hb := shr_c hs (show k < 6 by omega)
    have hln := bitsL_len s k
    have hap := ownT_app [] (bitsL s k) k (by omega)
    rw [bitsL_succ]
    cases e : s.testBit k with
    | true =>
      rw [e] at hb
      simp (disch := omega) only [go_sem, ↓reduceIte, simprocAttr, hki, wrap_i64, hap]
      rw [if_pos (by exact hb)]
    | false =>
      rw [e] at hb
      simp (disch := omega) only [go_sem, ↓reduceIte, simprocAttr, hki, wrap_i64]
      rw [if_neg (by intro hh; exact Bool.false_ne_true (hb.symm.trans hh))]
      try simp (disch := omega) only [go_sem, ↓reduceIte, simprocAttr, wrap_i64]
  · simp only [go_sem, ↓reduceIte, simprocAttr]
def sureB (s : Nat) : Bool := decide ((bitsL s 4).length ≤ 1)
theorem sure16 : ∀ s : Fin 16, (IntKind.i64.wrap (BitVec.ofInt 64 ((s.1 : Nat) : Int) &&& BitVec.ofInt 64 (((s.1 : Nat) : Int) - 1)).toNat == 0) = sureB s.1 := by decide +kernel
theorem sure_c {s : Nat} (hs : s < 16) : (IntKind.i64.wrap (((@HAnd.hAnd (BitVec 64) (BitVec 64) (BitVec 64) (@instHAndOfAndOp (BitVec IntKind.i64.bits) (BitVec.instAndOp : AndOp (BitVec IntKind.i64.bits))) (BitVec.ofInt 64 (s : Int)) (BitVec.ofInt 64 ((s : Int) - 1))).toNat : Nat) : Int) == 0) = sureB s := sure16 ⟨s, hs⟩
theorem m51 (m : Mo) (came q : Nat) (ev : List Int) (hev : ev.length = 5) (r k : Nat) (hk : k < 5) (s : Nat) (hs : s < 16) (hx : ev[k]? = some (s : Int)) (h : Heap) (hr : h.b[r]? = some (.cells (eLc m came q ev))) :
   (EW tabX).call 51 [.ref r 0, .int .i64 k] h = some (.bool (sureB s), h) := by
  obtain ⟨B, ht⟩ := h
  have hr : B[r]? = some (.cells (eLc m came q ev)) := hr
  obtain ⟨e0, e1, e2, e3, e4, rfl⟩ : ∃ a b c d e, ev = [a, b, c, d, e] := by
    match ev, hev with
    | [a, b, c, d, e], _ => exact ⟨a, b, c, d, e, rfl⟩
  simp only [eLc, I_c, I_nil, List.cons_append, List.nil_append] at hr
  have hsu := sure_c hs
  rw [w_call _ fn_51 rfl]
  have hkk : k = 0 ∨ k = 1 ∨ k = 2 ∨ k = 3 ∨ k = 4 := by omega
  rcases hkk with rfl | rfl | rfl | rfl | rfl
  all_goals
    simp only [List.getElem?_cons_zero, List.getElem?_cons_succ, Option.some.injEq] at hx
    subst hx
    simp (disch := omega) only [go_sem, ↓reduceIte, simprocAttr, hr, hsu, wrap_i64, cast_zero, cast_one', cast_two', cast_three', cast_four']
def heldK (e : Nat → Nat) (k : Nat) : List Int := ((List.range k).filter fun i => !sureB (e i)).map fun (i : Nat) => (i : Int)
theorem heldK_succ (e : Nat → Nat) (k : Nat) : heldK e (k + 1) = if sureB (e k) = true then heldK e k else heldK e k ++ [(k : Int)] := by
  unfold heldK
  rw [List.range_succ, List.filter_append, List.filter_cons, List.filter_nil]
  cases sureB (e k) <;> simp
theorem heldK_len (e : Nat → Nat) (k : Nat) : (heldK e k).length ≤ k := by
  unfold heldK; rw [List.length_map]; have := List.length_filter_le (fun i => !sureB (e i)) (List.range k); simpa using this
theorem m82 (m : Mo) (ho : m.Ok) (came q : Nat) (ev : List Int) (hev : ev.length = 5) (e : Nat → Nat) (he : ∀ k, k < m.sums.length → ev[k]? = some ((e k : Nat) : Int) ∧ e k < 16) (r : Nat) (B : List ABlk) (t : List Bool) (hr : B[r]? = some (.cells (eLc m came q ev))) :
   (EW tabX).call 82 [.ref r 0] ⟨B, t⟩ = some (ownT t (heldK e m.sums.length), ⟨B, T t (heldK e m.sums.length).length⟩) := by
  have s5 := ho.s5
  have hr' := hr
  simp only [eLc, List.cons_append, List.nil_append] at hr'
  rw [w_call _ fn_82 rfl]
  simp only [go_sem, ↓reduceIte, simprocAttr, hr']
  rw [w_rounds_h (fun k => [(2, ownT t (heldK e k)), (10, .int .i64 k)]) (fun k => ⟨B, T t (heldK e k).length⟩) m.sums.length (.exit 0) [(2, ownT t (heldK e m.sums.length)), (10, .int .i64 m.sums.length)] ⟨B, T t (heldK e m.sums.length).length⟩ ?_ ?_ ?_ ?_ rfl]
  · simp only [go_sem, ↓reduceIte, simprocAttr, ownT_under]
  · simp only [go_sem, ↓reduceIte, simprocAttr]; rfl
  · rfl
  · intro k hk
    have hki : (k : Int) < m.sums.length := by omega
    have hln := heldK_len e k
    have hap := ownT_app t (heldK e k) k (by omega)
    have h51 := fun t => m51 m came q ev hev r k (by omega) (e k) (he k hk).2 (he k hk).1 ⟨B, t⟩ hr
    rw [heldK_succ]
    cases hsu : sureB (e k) with
    | true =>
      rw [hsu] at h51
      simp (disch := omega) only [go_sem, ↓reduceIte, simprocAttr, hki, wrap_i64, h51]
    | false =>
      rw [hsu] at h51
      simp (disch := omega) only [go_sem, ↓reduceIte, simprocAttr, hki, wrap_i64, h51, hap]
  · simp only [go_sem, ↓reduceIte, simprocAttr]

def truthsM (m : Mo) (more : Nat) : List (List Int) := dfsM m (cameM m more) m.sums.length []
def enterM (m : Mo) (many : Int) (nums : List Int) : Int := if (checkM m).2.2 ≠ 0 then (checkM m).2.2 else if nums.any (out 0 (many - 1)) then 4 else if truthsM m 0 = [] then 8 else 0
theorem m46_no (m : Mo) (hm : m.fits) (many : Int) (hmany : (checkM m).2.2 = 0 → -1000 < many ∧ many < 1000) (nums : List Int) (z : Nat) (hz : nums ≠ [] → z = 1) (hnl : nums.length < 1000) (he : enterM m many nums ≠ 0) (h : Heap) (t0 : Nat) :
   ∃ F, (EW tabX).call 46 [eM m, .int .i64 many, .lst t0 z (I nums)] h = some (.tup [.nilp, .int .i64 (enterM m many nums)], ⟨h.b, h.t ++ F⟩) := by
  obtain ⟨B, ht⟩ := h
  have h93 := m93 m hm
  have h94 := m94 0 (many - 1) nums z hz
  have hun := eMc_under
  unfold enterM at he ⊢
  simp only [eM, eMc] at h93 hun
  rw [w_call _ fn_46 rfl]
  by_cases n0 : (checkM m).2.2 = 0
  · rw [if_neg (by simpa using n0)] at he ⊢
    have hmany := hmany n0
    cases hn : nums.any (out 0 (many - 1)) with
    | true =>
      refine ⟨[], ?_⟩
      simp (disch := omega) only [go_sem, ↓reduceIte, simprocAttr, eM, eMc, h93, tup3, n0, h94, hn, wrap_i64]
      done
    | false =>
      have ho := (ok_of_checkM n0).1
      obtain ⟨J, F, h85⟩ := m85 m hm ho 0 (by omega) ⟨B ++ [.cells (eMc m)], ht⟩
      rw [hn] at he
      have hnil : truthsM m 0 = [] := by
        by_cases e : truthsM m 0 = []
        · exact e
        · rw [if_neg (by decide), if_neg e] at he; exact absurd rfl he
      have hd : dfsM m (cameM m 0) m.sums.length [] = [] := hnil
      refine ⟨F, ?_⟩
      simp only [PM, hd, eM, eMc, eLc, List.append_assoc, List.cons_append, List.nil_append, cast_zero] at h85
      have hes : esM m [] = [] := rfl
      rw [hes] at h85
      have hlr : B.length + 1 + 2 = B.length + 3 := rfl
      have hlq : B.length + 1 + 1 = B.length + 2 := rfl
      simp only [List.length_append, List.length_cons, List.length_nil, Nat.zero_add, hlr, hlq] at h85
      simp (disch := omega) only [go_sem, ↓reduceIte, simprocAttr, eM, eMc, h93, tup3, n0, h94, hn, wrap_i64, h85, hnil]
      done
  · rw [if_pos (by simpa using n0)] at he ⊢
    have b0 : ((checkM m).2.2 != 0) = true := by simpa using n0
    refine ⟨[], ?_⟩
    simp (disch := omega) only [go_sem, ↓reduceIte, simprocAttr, eM, eMc, h93, tup3, b0, wrap_i64]
    done
theorem m46_yes (m : Mo) (hm : m.fits) (many : Int) (hmany : (checkM m).2.2 = 0 → -1000 < many ∧ many < 1000) (nums : List Int) (z : Nat) (hz : nums ≠ [] → z = 1) (hnl : nums.length < 1000) (he : enterM m many nums = 0) (h : Heap) (t0 : Nat) :
   ∃ J F, (EW tabX).call 46 [eM m, .int .i64 many, .lst t0 z (I nums)] h = some (.tup [.ref (h.b.length + 3) 0, .int .i64 0], ⟨PM m (cameM m 0) (h.b ++ [.cells (eMc m)]) J (truthsM m 0), h.t ++ F⟩) := by
  obtain ⟨B, ht⟩ := h
  have h93 := m93 m hm
  have h94 := m94 0 (many - 1) nums z hz
  have hun := eMc_under
  unfold enterM at he
  simp only [eM, eMc] at h93 hun
  rw [w_call _ fn_46 rfl]
  by_cases n0 : (checkM m).2.2 = 0
  · rw [if_neg (by simpa using n0)] at he
    have hmany := hmany n0
    cases hn : nums.any (out 0 (many - 1)) with
    | true => rw [hn, if_pos rfl] at he; cases he
    | false =>
      have ho := (ok_of_checkM n0).1
      obtain ⟨J, F, h85⟩ := m85 m hm ho 0 (by omega) ⟨B ++ [.cells (eMc m)], ht⟩
      rw [hn] at he
      have hnil : ¬ truthsM m 0 = [] := fun e => by rw [if_neg (by decide), if_pos e] at he; cases he
      have hd : dfsM m (cameM m 0) m.sums.length [] = truthsM m 0 := rfl
      rw [hd] at h85
      have hpos : (((esM m (truthsM m 0)).length : Int) == 0) = false := by
        have := List.length_pos_iff.2 hnil
        simp [esM]; exact hnil
      refine ⟨J, F, ?_⟩
      generalize truthsM m 0 = ts at *
      have hlr : B.length + 1 + 2 = B.length + 3 := rfl
      have hlq : B.length + 1 + 1 = B.length + 2 := rfl
      simp only [PM, eM, eMc, eLc, List.append_assoc, List.cons_append, List.nil_append, cast_zero, List.length_append, List.length_cons, List.length_nil, Nat.zero_add, hlr, hlq] at h85 ⊢
      have hlr2 : ¬ B.length + 3 < B.length := by omega
      simp (disch := omega) only [go_sem, ↓reduceIte, simprocAttr, eM, eMc, h93, tup3, n0, h94, hn, wrap_i64, h85, hpos, hlr2]
      done
  · rw [if_pos (by simpa using n0)] at he
    exact absurd he n0
end Go.Proofs.YtiighcpimecehaaGreat
end
section
namespace Go.Proofs.YtiighcpimecehaaGreat
open Go.Proofs

theorem eM_clean (m : Mo) : (eM m).clean = some (eM m) := by simp only [go_sem, ↓reduceIte, simprocAttr, eM, eMc]
def EM (m : Mo) (ts : List (List Int)) (J : List ABlk) : List ABlk :=
  .cells (eMc m) :: .cells (eMc m) :: .cells (eMc m) :: .map (esM m ts) :: .cells (eLc m (cameM m 0) 3 (evL m ts)) :: .cells [.ref 4 0] :: J
theorem enterY (m : Mo) (hm : m.fits) (many : Int) (hmany : (checkM m).2.2 = 0 → -1000 < many ∧ many < 1000) (nums : List Int) (z : Nat) (hz : nums ≠ [] → z = 1) (hnl : nums.length < 1000) (he : enterM m many nums = 0) (t0 : Nat) :
   ∃ J t, (EW tabX).call 46 [eM m, .int .i64 many, .lst t0 z (I nums)] ⟨[.cells (eMc m)], []⟩ = some (.tup [.ref 4 0, .int .i64 0], ⟨EM m (truthsM m 0) J, t⟩) := by
  obtain ⟨J, F, h⟩ := m46_yes m hm many hmany nums z hz hnl he ⟨[.cells (eMc m)], []⟩ t0
  exact ⟨J, F, h⟩
theorem enterM_zero {m : Mo} {many : Int} {nums : List Int} (h : enterM m many nums = 0) : (checkM m).2.2 = 0 ∧ nums.any (out 0 (many - 1)) = false ∧ truthsM m 0 ≠ [] := by
  unfold enterM at h
  by_cases n0 : (checkM m).2.2 = 0
  · rw [if_neg (by simpa using n0)] at h
    cases hn : nums.any (out 0 (many - 1)) with
    | true => rw [hn, if_pos rfl] at h; cases h
    | false =>
      rw [hn, if_neg (by decide)] at h
      refine ⟨n0, rfl, fun e => ?_⟩
      rw [if_pos e] at h; cases h
  · rw [if_pos (by simpa using n0)] at h
    exact absurd h n0
theorem truthsM_ok {m : Mo} {more : Nat} {t : List Int} (h : t ∈ truthsM m more) : RowOk m t ∧ t.length = m.sums.length :=
  dfsM_ok ⟨by simp, fun x hx => by cases hx⟩ (by simp) h
theorem ev_lt {m : Mo} (ho : m.Ok) (more i : Nat) : evN (truthsM m more) i < 16 := evN_lt ho (fun v hv => truthsM_ok hv) i
theorem evA_at {m : Mo} {ts : List (List Int)} {i : Nat} (h : i < m.sums.length) : evA m ts i = ((evN ts i : Nat) : Int) := by unfold evA; rw [if_pos h]
def forV (m : Mo) (sum : Int) : AV := if enterM m m.sums.length [sum] ≠ 0 then .tup [vI [], .int .i64 (enterM m m.sums.length [sum])] else .tup [vI (bitsL (evN (truthsM m 0) sum.toNat) m.who.length), .int .i64 0]
theorem many_ok {m : Mo} (h : (checkM m).2.2 = 0) : -1000 < (m.sums.length : Int) ∧ (m.sums.length : Int) < 1000 := by
  have := (ok_of_checkM h).1.s5
  omega
theorem many_ok' {m : Mo} (h : (checkM m).2.2 = 0) : -1000 < (m.who.length : Int) ∧ (m.who.length : Int) < 1000 := by
  have := (ok_of_checkM h).1.w4
  omega
theorem m16 (m : Mo) (hm : m.fits) (sum : Int) (h : Heap) : callPure (EW tabX) 16 [eM m, .int .i64 sum] h = some (forV m sum, h) := by
  have hcl := eM_clean m
  unfold forV
  rw [callPure_eq, w_call _ fn_16 rfl]
  by_cases he : enterM m m.sums.length [sum] = 0
  · rw [if_neg (by simpa using he)]
    obtain ⟨h0, h1, h2⟩ := enterM_zero he
    have ho := (ok_of_checkM h0).1
    obtain ⟨J, t, h46⟩ := enterY m hm m.sums.length many_ok [sum] 1 (fun _ => rfl) (by simp) he 1
    simp only [List.any_cons, List.any_nil, Bool.or_false] at h1
    have hr := out_false h1
    obtain ⟨k, rfl⟩ := Int.eq_ofNat_of_zero_le hr.1
    have hk : k < m.sums.length := by omega
    have hev := evA_at (ts := truthsM m 0) hk
    have hlt := ev_lt ho 0 k
    have s5 := ho.s5
    have w4 := ho.w4
    have h52 := m52 (evN (truthsM m 0) k) m.who.length (by omega) (by omega)
    simp only [eM, eMc, EM, eLc, evL, I_c, I_nil, List.cons_append, List.nil_append] at h46 hcl
    simp only [Int.toNat_natCast]
    have hkk : k = 0 ∨ k = 1 ∨ k = 2 ∨ k = 3 ∨ k = 4 := by omega
    rcases hkk with rfl | rfl | rfl | rfl | rfl
    all_goals
      simp only [hev, cast_zero, cast_one', cast_two', cast_three', cast_four'] at h46
      simp (disch := omega) only [go_sem, ↓reduceIte, simprocAttr, eM, eMc, hcl, h46, h52, vI_clean, vI_under, cast_zero, cast_one', cast_two', cast_three', cast_four']
  · rw [if_pos (by simpa using he)]
    obtain ⟨F, h46⟩ := m46_no m hm m.sums.length many_ok [sum] 1 (fun _ => rfl) (by simp) he ⟨[.cells (eMc m)], []⟩ 1
    have hb : (enterM m m.sums.length [sum] != 0) = true := by simpa using he
    simp only [eM, eMc, I_c, I_nil] at h46 hcl
    simp (disch := omega) only [go_sem, ↓reduceIte, simprocAttr, eM, eMc, hcl, h46, hb, vI_nil]
theorem testBit_or (a j k : Nat) : (a ||| 2 ^ j).testBit k = (a.testBit k || decide (j = k)) := by
  rw [Nat.testBit_or, Nat.testBit_two_pow]
theorem evN_bit (ts : List (List Int)) (i j : Nat) : (evN ts i).testBit j = ts.any fun t => decide ((t.getD i 0).toNat = j) := by
  have key : ∀ (l : List (List Int)) (s : Nat), (l.foldl (fun s t => s ||| 2 ^ (t.getD i 0).toNat) s).testBit j = (s.testBit j || l.any fun t => decide ((t.getD i 0).toNat = j)) := by
    intro l
    induction l with
    | nil => intro s; simp
    | cons t l ih => intro s; rw [List.foldl_cons, ih, testBit_or, List.any_cons, Bool.or_assoc]
  unfold evN
  rw [key]; simp
theorem mem_bitsL {s n : Nat} {x : Int} : x ∈ bitsL s n ↔ ∃ i : Nat, i < n ∧ s.testBit i = true ∧ x = (i : Int) := by
  unfold bitsL
  rw [List.mem_map]
  constructor
  · rintro ⟨i, hi, rfl⟩
    obtain ⟨h1, h2⟩ := List.mem_filter.1 hi
    exact ⟨i, List.mem_range.1 h1, h2, rfl⟩
  · rintro ⟨i, h1, h2, rfl⟩
    exact ⟨i, List.mem_filter.2 ⟨List.mem_range.2 h1, h2⟩, rfl⟩
theorem row_at {m : Mo} {t : List Int} (h : RowOk m t ∧ t.length = m.sums.length) {k : Nat} (hk : k < m.sums.length) : ∃ c : Nat, t.getD k 0 = (c : Int) ∧ t[k]? = some (c : Int) ∧ c < m.who.length := by
  have hk2 : k < t.length := by omega
  have hx := List.getElem?_eq_getElem hk2
  have := h.1.2 t[k] (List.getElem_mem _)
  refine ⟨t[k].toNat, ?_, ?_, by omega⟩
  · rw [List.getD_eq_getElem?_getD, hx, Option.getD_some]; omega
  · rw [hx]; congr 1; omega
theorem ev_ne {m : Mo} {more k : Nat} (h : truthsM m more ≠ []) (hk : k < m.sums.length) : bitsL (evN (truthsM m more) k) m.who.length ≠ [] := by
  obtain ⟨t, ht⟩ := List.exists_mem_of_ne_nil _ h
  obtain ⟨c, h1, _, h3⟩ := row_at (truthsM_ok ht) hk
  have : (c : Int) ∈ bitsL (evN (truthsM m more) k) m.who.length := mem_bitsL.2 ⟨c, h3, by rw [evN_bit, List.any_eq_true]; exact ⟨t, ht, by rw [h1]; simp⟩, rfl⟩
  exact List.ne_nil_of_mem this
def payV (m : Mo) (sum : Int) : AV := if enterM m m.sums.length [sum] ≠ 0 then .tup [.int .i64 0, .int .i64 (enterM m m.sums.length [sum])] else
  if sureB (evN (truthsM m 0) sum.toNat) = true then .tup [.int .i64 ((bitsL (evN (truthsM m 0) sum.toNat) m.who.length).headD 0), .int .i64 0] else .tup [.int .i64 0, .int .i64 9]
theorem evL_len (m : Mo) (ts : List (List Int)) : (evL m ts).length = 5 := rfl
theorem evL_get {m : Mo} (ho : m.Ok) {ts : List (List Int)} {k : Nat} (hk : k < m.sums.length) : (evL m ts)[k]? = some ((evN ts k : Nat) : Int) := by
  have s5 := ho.s5
  have h := evA_at (ts := ts) hk
  have hkk : k = 0 ∨ k = 1 ∨ k = 2 ∨ k = 3 ∨ k = 4 := by omega
  rcases hkk with rfl | rfl | rfl | rfl | rfl
  all_goals
    rw [← h]; rfl
theorem m15 (m : Mo) (hm : m.fits) (sum : Int) (h : Heap) : callPure (EW tabX) 15 [eM m, .int .i64 sum] h = some (payV m sum, h) := by
  have hcl := eM_clean m
  unfold payV
  rw [callPure_eq, w_call _ fn_15 rfl]
  by_cases he : enterM m m.sums.length [sum] = 0
  · rw [if_neg (by simpa using he)]
    obtain ⟨h0, h1, h2⟩ := enterM_zero he
    have ho := (ok_of_checkM h0).1
    obtain ⟨J, t, h46⟩ := enterY m hm m.sums.length many_ok [sum] 1 (fun _ => rfl) (by simp) he 1
    simp only [List.any_cons, List.any_nil, Bool.or_false] at h1
    have hr := out_false h1
    obtain ⟨k, rfl⟩ := Int.eq_ofNat_of_zero_le hr.1
    have hk : k < m.sums.length := by omega
    have hev := evA_at (ts := truthsM m 0) hk
    have hlt := ev_lt ho 0 k
    have s5 := ho.s5
    have w4 := ho.w4
    have h52 := m52 (evN (truthsM m 0) k) m.who.length (by omega) (by omega)
    have hne := ev_ne h2 hk
    have h51 := m51 m (cameM m 0) 3 (evL m (truthsM m 0)) (evL_len _ _) 4 k (by omega) (evN (truthsM m 0) k) hlt (evL_get ho hk) ⟨EM m (truthsM m 0) J, t⟩ rfl
    simp only [eM, eMc, EM, eLc, evL, I_c, I_nil, List.cons_append, List.nil_append] at h46 hcl h51
    simp only [Int.toNat_natCast]
    obtain ⟨x, l, hbl⟩ : ∃ x l, bitsL (evN (truthsM m 0) k) m.who.length = x :: l := by
      cases hb : bitsL (evN (truthsM m 0) k) m.who.length with
      | nil => exact absurd hb hne
      | cons x l => exact ⟨x, l, rfl⟩
    rw [hbl] at h52 ⊢
    simp only [vI, zT, I_c, List.length_cons] at h52
    have hkk : k = 0 ∨ k = 1 ∨ k = 2 ∨ k = 3 ∨ k = 4 := by omega
    cases hsu : sureB (evN (truthsM m 0) k) with
    | true =>
      rw [hsu] at h51
      rcases hkk with rfl | rfl | rfl | rfl | rfl
      all_goals
        simp only [hev, cast_zero, cast_one', cast_two', cast_three', cast_four'] at h46 h51
        simp (disch := omega) only [go_sem, ↓reduceIte, simprocAttr, eM, eMc, hcl, h46, h51, h52, List.headD_cons, cast_zero, cast_one', cast_two', cast_three', cast_four']
        done
    | false =>
      rw [hsu] at h51
      rcases hkk with rfl | rfl | rfl | rfl | rfl
      all_goals
        simp only [hev, cast_zero, cast_one', cast_two', cast_three', cast_four'] at h46 h51
        simp (disch := omega) only [go_sem, ↓reduceIte, simprocAttr, eM, eMc, hcl, h46, h51, cast_zero, cast_one', cast_two', cast_three', cast_four']
        done
  · rw [if_pos (by simpa using he)]
    obtain ⟨F, h46⟩ := m46_no m hm m.sums.length many_ok [sum] 1 (fun _ => rfl) (by simp) he ⟨[.cells (eMc m)], []⟩ 1
    have hb : (enterM m m.sums.length [sum] != 0) = true := by simpa using he
    simp only [eM, eMc, I_c, I_nil] at h46 hcl
    simp (disch := omega) only [go_sem, ↓reduceIte, simprocAttr, eM, eMc, hcl, h46, hb]
def heldV (m : Mo) : AV := if enterM m 0 [] ≠ 0 then .tup [vI [], .int .i64 (enterM m 0 [])] else .tup [vI (heldK (evN (truthsM m 0)) m.sums.length), .int .i64 0]
theorem m37 (m : Mo) (hm : m.fits) (h : Heap) : callPure (EW tabX) 37 [eM m] h = some (heldV m, h) := by
  have hcl := eM_clean m
  unfold heldV
  rw [callPure_eq, w_call _ fn_37 rfl]
  by_cases he : enterM m 0 [] = 0
  · rw [if_neg (by simpa using he)]
    obtain ⟨h0, h1, h2⟩ := enterM_zero he
    have ho := (ok_of_checkM h0).1
    obtain ⟨J, t, h46⟩ := enterY m hm 0 (fun _ => by omega) [] 0 (fun h => absurd rfl h) (by simp) he 1
    have h82 := m82 m ho (cameM m 0) 3 (evL m (truthsM m 0)) (evL_len _ _) (evN (truthsM m 0)) (fun k hk => ⟨evL_get ho hk, ev_lt ho 0 k⟩) 4 (EM m (truthsM m 0) J) t rfl
    simp only [eM, eMc, I_nil] at h46 hcl
    simp (disch := omega) only [go_sem, ↓reduceIte, simprocAttr, eM, eMc, hcl, h46, h82, ownT_clean, ownT_under]
    done
  · rw [if_pos (by simpa using he)]
    obtain ⟨F, h46⟩ := m46_no m hm 0 (fun _ => by omega) [] 0 (fun h => absurd rfl h) (by simp) he ⟨[.cells (eMc m)], []⟩ 1
    have hb : (enterM m 0 [] != 0) = true := by simpa using he
    simp only [eM, eMc, I_nil] at h46 hcl
    simp (disch := omega) only [go_sem, ↓reduceIte, simprocAttr, eM, eMc, hcl, h46, hb, vI_nil]
    done
end Go.Proofs.YtiighcpimecehaaGreat
end
section
namespace Go.Proofs.YtiighcpimecehaaGreat
open Go.Proofs

theorem rowsOf_I (l : List Int) : ∀ n off, off + n ≤ l.length → rowsOf 1 (I l) off n = some (((I l).drop off).take n)
  | 0, off, _ => by simp [rowsOf]
  | n + 1, off, h => by
    have hlt : off < l.length := by omega
    have hx : (I l)[off]? = some (.int .i64 l[off]) := by rw [I_get, List.getElem?_eq_getElem hlt]; rfl
    have hr : rowAt 1 (I l) off = some (.int .i64 l[off]) := by simp [rowAt, hx, AV.one]
    have hd : (I l).drop off = .int .i64 l[off] :: (I l).drop (off + 1) := by
      have hl : off < (I l).length := by rw [I_len]; exact hlt
      rw [List.drop_eq_getElem_cons hl]
      congr 1
      rw [List.getElem?_eq_getElem hl] at hx
      exact Option.some.inj hx
    rw [rowsOf, hr, rowsOf_I l n (off + 1) (by omega), hd]
    rfl
theorem frz_int (h : Heap) (k : Nat) (q : IntKind) (n : Int) : frz h (k + 1) (.int q n) = some (.int q n) := by simp [frz, AV.clean]
theorem frz_I (h : Heap) (k : Nat) : ∀ l : List Int, optL ((I l).map (frz h (k + 1))) = some (I l)
  | [] => rfl
  | x :: l => by
    have e : optL ((I (x :: l)).map (frz h (k + 1))) = match frz h (k + 1) (.int .i64 x), optL ((I l).map (frz h (k + 1))) with
      | some y, some ys => some (y :: ys)
      | _, _ => none := rfl
    rw [e, frz_int, frz_I h k l]; rfl
theorem frz_bsl (h : Heap) (k b n : Nat) (l : List Int) (hb : h.b[b]? = some (.cells (I l))) (hn : n = l.length) : frz h (k + 2) (.bsl b 0 n 1) = some (.lst 0 1 (I l)) := by
  have hr := rowsOf_I l n 0 (by omega)
  have ht : ((I l).drop 0).take n = I l := by rw [List.drop_zero]; exact List.take_of_length_le (by rw [I_len]; omega)
  rw [ht] at hr
  have e : frz h (k + 2) (.bsl b 0 n 1) = match h.b[b]? with
      | some (.cells c) => match rowsOf 1 c 0 n with
        | some xs => match optL (xs.map (frz h (k + 1))) with
          | some ys => some (.lst 0 1 ys)
          | none => none
        | none => none
      | _ => none := rfl
  rw [e, hb]
  simp only
  rw [hr]
  simp only
  rw [frz_I h k l]
theorem splice_len (vs : List AV) : ∀ (c : List AV) (off : Nat), off + vs.length ≤ c.length → splice c off vs = c.take off ++ vs ++ c.drop (off + vs.length) := by
  induction vs with
  | nil => intro c off h; simp [splice]
  | cons v vs ih =>
    intro c off h
    simp only [List.length_cons] at h
    have e : splice c off (v :: vs) = splice (c.set off v) (off + 1) vs := rfl
    rw [e, ih _ _ (by simp; omega)]
    have h1 : (c.set off v).take (off + 1) = c.take off ++ [v] := by
      rw [List.take_add_one, List.getElem?_set_self (by omega), List.take_set_of_le (Nat.le_refl _)]; rfl
    have h2 : (c.set off v).drop (off + 1 + vs.length) = c.drop (off + (vs.length + 1)) := by
      rw [List.drop_set_of_lt (by omega)]; congr 1; omega
    rw [h1, h2]; simp
theorem splice_all (c vs : List AV) (h : vs.length = c.length) : splice c 0 vs = vs := by
  rw [splice_len vs c 0 (by omega)]; simp [h]
end Go.Proofs.YtiighcpimecehaaGreat
end
section
namespace Go.Proofs.YtiighcpimecehaaGreat
open Go.Proofs

theorem cast_five : ((5 : Nat) : Int) = 5 := _root_.id rfl
theorem m47 (a b : List Int) (ha : a.length = 5) (hb : b.length = 5) (p q : Nat) (h : Heap) (hp : h.b[p]? = some (.cells (I a))) (hq : h.b[q]? = some (.cells (I b))) :
    (EW tabX).call 47 [.bsl p 0 5 1, .bsl q 0 5 1] h = some (.int .i64 (cmpL a b), h) := by
  obtain ⟨B, ht⟩ := h
  have hp : B[p]? = some (.cells (I a)) := hp
  have hq : B[q]? = some (.cells (I b)) := hq
  have h1 := cpl_le1 a b
  have h2 := cpl_le2 a b
  have hlt := ltB_cpl a b
  have h5a : 5 ≤ a.length := by omega
  have h5b : 5 ≤ b.length := by omega
  rw [w_call _ fn_47 rfl]
  simp only [go_sem, ↓reduceIte, simprocAttr, hp, hq]
  have round : ∀ k, k < cpl a b → ∃ x, (List.drop k a)[0]? = some x ∧ (List.drop k b)[0]? = some x ∧ (k : Int) < 5 ∧ ¬ (5 : Int) ≤ k ∧ k < 5 ∧ k < a.length ∧ k < b.length := fun k hk => by
    have ka : k < a.length := by omega
    have kb : k < b.length := by omega
    have hx := List.getElem?_eq_getElem ka
    have he := cpl_eq a b k hk
    refine ⟨a[k], ?_, ?_, by omega, by omega, by omega, ka, kb⟩
    · rw [List.getElem?_drop, Nat.add_zero]; exact hx
    · rw [List.getElem?_drop, Nat.add_zero, ← he]; exact hx
  have cz : ∀ x, cmpI x x = 0 := fun x => by unfold cmpI; rw [if_neg (by omega), if_neg (by omega)]
  by_cases e : cpl a b = 5
  · have hab : a = b := by
      apply List.ext_getElem?
      intro k
      by_cases hk : k < cpl a b
      · exact cpl_eq a b k hk
      · rw [List.getElem?_eq_none (by omega), List.getElem?_eq_none (by omega)]
    rw [w_rounds_u (fun k => [(11, .int .i64 k)]) (cpl a b) (.exit 0) [(11, .int .i64 (cpl a b))] ?_ ?_ ?_ rfl]
    · subst hab
      simp only [go_sem, ↓reduceIte, simprocAttr, cmpL, ltB_irrefl]
    · simp only [go_sem, ↓reduceIte, simprocAttr]
    · intro k hk
      obtain ⟨x, x1, x2, x3, x4, x5, x6, x7⟩ := round k hk
      simp (disch := omega) only [go_sem, ↓reduceIte, simprocAttr, hp, hq, x1, x2, x3, x4, x5, x6, x7, I_drop, Nat.mul_one, c77, cz, wrap_i64]
    · rw [e]; simp only [go_sem, ↓reduceIte, simprocAttr, Int.lt_irrefl, cast_five]
  · have g : cpl a b < a.length := by omega
    have g5 : cpl a b < 5 := by omega
    have gi : ((cpl a b : Nat) : Int) < 5 := by omega
    have hx := List.getElem?_eq_getElem g
    have g2 : cpl a b < b.length := by omega
    have gi2 : ¬ (5 : Int) ≤ (cpl a b : Nat) := by omega
    have hy := List.getElem?_eq_getElem g2
    have hne := cpl_ne a b _ _ hx hy
    have ea : a.getD (cpl a b) 0 = a[cpl a b] := by simp [g]
    have eb : b.getD (cpl a b) 0 = b[cpl a b] := by simp [g2]
    have hab : ¬ a = b := fun h => by subst h; exact hne rfl
    have hl : ltB a b = decide (a[cpl a b] < b[cpl a b]) := by rw [hlt, if_neg (by omega), ea, eb]; simp; omega
    have hc : cmpL a b = cmpI a[cpl a b] b[cpl a b] := by
      unfold cmpL cmpI
      rw [hl, if_neg hab]
      by_cases q : a[cpl a b] < b[cpl a b]
      · simp [q]
      · have q2 : b[cpl a b] < a[cpl a b] := by omega
        simp [q, q2]
    have hn0 : (cmpI a[cpl a b] b[cpl a b] != 0) = true := by
      unfold cmpI
      by_cases q : a[cpl a b] < b[cpl a b]
      · simp [q]
      · have q2 : b[cpl a b] < a[cpl a b] := by omega
        simp [q, q2]
    have hdx : (List.drop (cpl a b) a)[0]? = some a[cpl a b] := by rw [List.getElem?_drop, Nat.add_zero]; exact hx
    have hdy : (List.drop (cpl a b) b)[0]? = some b[cpl a b] := by rw [List.getElem?_drop, Nat.add_zero]; exact hy
    rw [w_rounds_u (fun k => [(11, .int .i64 k)]) (cpl a b) .ret [(4, .int .i64 (cmpI a[cpl a b] b[cpl a b])), (5, .int .i64 (cpl a b)), (6, .int .i64 a[cpl a b]), (7, .int .i64 b[cpl a b]), (8, .int .i64 (cmpI a[cpl a b] b[cpl a b])), (11, .int .i64 (cpl a b))] ?_ ?_ ?_ rfl]
    · simp only [go_sem, ↓reduceIte, simprocAttr, hc]
    · simp only [go_sem, ↓reduceIte, simprocAttr]
    · intro k hk
      obtain ⟨x, x1, x2, x3, x4, x5, x6, x7⟩ := round k hk
      simp (disch := omega) only [go_sem, ↓reduceIte, simprocAttr, hp, hq, x1, x2, x3, x4, x5, x6, x7, I_drop, Nat.mul_one, c77, cz, wrap_i64]
    · simp (disch := omega) only [go_sem, ↓reduceIte, simprocAttr, hp, hq, hdx, hdy, g, g2, g5, gi, gi2, I_drop, Nat.mul_one, c77, hn0, wrap_i64]
theorem ltB_pre (p : List Int) (x y : Int) (s s' : List Int) (h : x < y) : ltB (p ++ x :: s) (p ++ y :: s') = true := by
  induction p with
  | nil => show ltB (x :: s) (y :: s') = true; unfold ltB; rw [if_neg (by omega)]; simpa using h
  | cons z p ih => show ltB (z :: (p ++ x :: s)) (z :: (p ++ y :: s')) = true; unfold ltB; rw [if_pos rfl]; exact ih
theorem dfsM_sorted (m : Mo) (came : Nat) : ∀ (n : Nat) (t : List Int), (dfsM m came n t).Pairwise fun u v => ltB u v = true
  | 0, t => by simp [dfsM]
  | n + 1, t => by
    show ((nextM m came t m.who.length).flatMap (dfsM m came n)).Pairwise _
    rw [List.pairwise_flatMap]
    refine ⟨fun v hv => ?_, ?_⟩
    · exact dfsM_sorted m came n v
    · unfold nextM
      rw [List.pairwise_map]
      refine List.Pairwise.imp ?_ (List.Pairwise.filter _ List.pairwise_lt_range)
      intro a b hab u hu v hv
      obtain ⟨s, rfl, _⟩ := dfsM_pre hu
      obtain ⟨s', rfl, _⟩ := dfsM_pre hv
      rw [List.append_assoc, List.append_assoc]
      exact ltB_pre t a b s s' (by omega)
theorem ltB_app : ∀ {u v : List Int} (s : List Int), u.length = v.length → ltB u v = true → ltB (u ++ s) (v ++ s) = true
  | [], [], s, _, h => by simp [ltB] at h
  | x :: u, y :: v, s, hl, h => by
    unfold ltB at h
    show ltB (x :: (u ++ s)) (y :: (v ++ s)) = true
    unfold ltB
    split
    · rename_i e; rw [if_pos e] at h; exact ltB_app s (by simpa using hl) h
    · rename_i e; rw [if_neg e] at h; exact h
theorem ltB_asym : ∀ {u v : List Int}, ltB u v = true → ltB v u = false
  | _, [], h => by simp [ltB] at h
  | [], _ :: _, _ => by simp [ltB]
  | x :: u, y :: v, h => by
    unfold ltB at h ⊢
    by_cases e : x = y
    · rw [if_pos e] at h; rw [if_pos e.symm]; exact ltB_asym h
    · rw [if_neg e] at h; rw [if_neg (fun h => e h.symm)]
      have : x < y := by simpa using h
      simp; omega
theorem rows_cmp {m : Mo} (ho : m.Ok) {more i j : Nat} {u v : List Int} (hu : (truthsM m more)[i]? = some u) (hv : (truthsM m more)[j]? = some v) : decide (cmpL (arr5 u) (arr5 v) < 0) = decide (i < j) := by
  have hs := dfsM_sorted m (cameM m more) m.sums.length []
  have lu := (truthsM_ok (List.mem_of_getElem? hu)).2
  have lv := (truthsM_ok (List.mem_of_getElem? hv)).2
  obtain ⟨hi, ei⟩ := List.getElem?_eq_some_iff.1 hu
  obtain ⟨hj, ej⟩ := List.getElem?_eq_some_iff.1 hv
  have hp := List.pairwise_iff_getElem.1 hs
  have e5 : 5 - u.length = 5 - v.length := by omega
  rw [cmpL_neg]
  by_cases h : i < j
  · have := hp i j hi hj h
    have : ltB u v = true := by rw [← ei, ← ej]; exact this
    rw [decide_eq_true h]
    unfold arr5
    rw [e5]
    exact ltB_app _ (by omega) this
  · rw [decide_eq_false h]
    by_cases e : i = j
    · subst e
      have : u = v := by rw [← ei, ← ej]
      subst this
      exact ltB_irrefl _
    · have := hp j i hj hi (by omega)
      have : ltB v u = true := by rw [← ei, ← ej]; exact this
      apply ltB_asym
      unfold arr5
      rw [e5]
      exact ltB_app _ (by omega) this
def flZ (Z : List Bool) : Nat → List Bool
  | 0 => []
  | k + 1 => flZ Z k ++ Z
def bestA (ts : List (List Int)) (o : Option Nat) : List Int := match o with | none => [0, 0, 0, 0, 0] | some i => arr5 (ts.getD i [])
structure Vis (n : Nat) (left : List Nat) (cnt : Nat) (o : Option Nat) : Prop where
  nd : left.Nodup
  lt : ∀ i ∈ left, i < n
  len : left.length + cnt = n
  no : o = none → cnt = 0 ∧ ∀ k, k < n → k ∈ left
  so : ∀ j, o = some j → 0 < cnt ∧ j < n ∧ j ∉ left ∧ ∀ k, k < n → k ∉ left → j ≤ k
def stepO (o : Option Nat) (i : Nat) : Option Nat := match o with | none => some i | some j => if i < j then some i else some j
theorem Vis.step {n : Nat} {left : List Nat} {cnt : Nat} {o : Option Nat} (h : Vis n left cnt o) {i : Nat} (hi : i ∈ left) : Vis n (left.erase i) (cnt + 1) (stepO o i) := by
  have hm : ∀ k, k ∉ left.erase i ↔ k = i ∨ k ∉ left := fun k => by
    rw [h.nd.mem_erase_iff]
    by_cases e : k = i
    · simp [e]
    · simp [e]
  have hl := h.len
  have hpos := List.length_pos_of_mem hi
  refine ⟨h.nd.erase i, fun k hk => h.lt k (List.mem_of_mem_erase hk), by rw [List.length_erase_of_mem hi]; omega, fun e => ?_, fun j e => ?_⟩
  · unfold stepO at e
    split at e
    · cases e
    · split at e <;> cases e
  · cases o with
    | none =>
      obtain ⟨h0, hall⟩ := h.no rfl
      obtain rfl : i = j := by simpa [stepO] using e
      refine ⟨by omega, h.lt _ hi, (hm _).2 (.inl rfl), fun k hk hn => ?_⟩
      rcases (hm k).1 hn with rfl | hn
      · exact Nat.le_refl _
      · exact absurd (hall k hk) hn
    | some j0 =>
      obtain ⟨h0, h1, h2, h3⟩ := h.so j0 rfl
      unfold stepO at e
      simp only at e
      split at e
      · rename_i hlt
        cases e
        refine ⟨by omega, h.lt _ hi, (hm _).2 (.inl rfl), fun k hk hn => ?_⟩
        rcases (hm k).1 hn with rfl | hn
        · exact Nat.le_refl _
        · have := h3 k hk hn; omega
      · rename_i hlt
        cases e
        refine ⟨by omega, h1, (hm _).2 (.inr h2), fun k hk hn => ?_⟩
        rcases (hm k).1 hn with rfl | hn
        · omega
        · exact h3 k hk hn
theorem Vis.start (n : Nat) : Vis n (List.range n) 0 none := ⟨List.nodup_range, fun i hi => List.mem_range.1 hi, by simp, fun _ => ⟨rfl, fun k hk => List.mem_range.2 hk⟩, fun j e => by cases e⟩
theorem Vis.all {n cnt : Nat} {o : Option Nat} (h : Vis n [] cnt o) (hn : 0 < n) : cnt = n ∧ o = some 0 := by
  have hl := h.len
  simp only [List.length_nil] at hl
  refine ⟨by omega, ?_⟩
  cases o with
  | none => exact absurd ((h.no rfl).2 0 hn) (by simp)
  | some j =>
    have := (h.so j rfl).2.2.2 0 hn (by simp)
    congr 1; omega
end Go.Proofs.YtiighcpimecehaaGreat
end
section
namespace Go.Proofs.YtiighcpimecehaaGreat
open Go.Proofs

theorem tdiv2 (n : Nat) : ((n : Int)).tdiv 2 = ((n / 2 : Nat) : Int) := rfl
theorem bit16 : ∀ s : Fin 16, ∀ i : Fin 4, ((((s.1 / 2 ^ i.1 : Nat) : Int)).tmod 2 == 1) = s.1.testBit i.1 := by decide +kernel
theorem m64 (s i : Nat) (hs : s < 16) (hi : i < 4) (h : Heap) : callPure (EW tabX) 64 [.int .i64 s, .int .i64 i] h = some (.bool (s.testBit i), h) := by
  rw [callPure_eq, w_call _ fn_64 rfl]
  simp only [go_sem, ↓reduceIte, simprocAttr]
  rw [w_rounds_u (fun k => [(0, .int .i64 (s / 2 ^ k : Nat)), (5, .int .i64 k)]) i (.exit 0) [(0, .int .i64 (s / 2 ^ i : Nat)), (5, .int .i64 i)] ?_ ?_ ?_ rfl]
  · have hb := bit16 ⟨s, hs⟩ ⟨i, hi⟩
    simp only at hb
    simp only [go_sem, ↓reduceIte, simprocAttr, hb]
  · simp only [go_sem, ↓reduceIte, simprocAttr, Nat.pow_zero, Nat.div_one]
  · intro k hk
    have hki : (k : Int) < i := by omega
    have h3 : s / 2 ^ (k + 1) = s / 2 ^ k / 2 := by rw [Nat.pow_succ, Nat.div_div_eq_div_mul]
    rw [h3, ← tdiv2]
    have hlt : s / 2 ^ k < 16 := Nat.lt_of_le_of_lt (Nat.div_le_self _ _) hs
    generalize s / 2 ^ k = b at *
    have h4 : IntKind.i64.wrap ((b : Int).tdiv 2) = (b : Int).tdiv 2 := by rw [tdiv2]; exact wrap_i64 (by omega)
    have h2 : ¬ ((2 : Int) = 0) := by omega
    simp (disch := omega) only [go_sem, ↓reduceIte, simprocAttr, hki, h4, h2, wrap_i64]
  · simp only [go_sem, ↓reduceIte, simprocAttr, Int.lt_irrefl]
def cntR (m : Mo) (at' : Nat) : Bool := cameAt m at' && allTo (fun i => !(cameAt m i && backAt m i at')) m.words.length
theorem m65 (m : Mo) (hm : m.fits) (at' : Nat) (hat : at' < m.words.length) (h : Heap) : callPure (EW tabX) 65 [eM m, .int .i64 at'] h = some (.bool (cntR m at'), h) := by
  have hlo := hm.lo
  have hz := hm.zo (by intro e; rw [e] at hat; simp at hat)
  have hxa := List.getElem?_eq_getElem hat
  have hai : (at' : Int) < m.words.length := by omega
  have hca : cameAt m at' = m.words[at'].came := by unfold cameAt; rw [hxa]
  rw [callPure_eq, w_call _ fn_65 rfl]
  simp only [go_sem, ↓reduceIte, simprocAttr, eM, eMc, hai, hat, hz, eWo_get, hxa, eWo]
  rw [← hca]
  rw [w_rounds_u (fun k => [(5, .bool (cameAt m at' && allTo (fun i => !(cameAt m i && backAt m i at')) k)), (6, .int .i64 k)]) m.words.length (.exit 0) [(5, .bool (cntR m at')), (6, .int .i64 m.words.length)] ?_ ?_ ?_ rfl]
  · simp only [go_sem, ↓reduceIte, simprocAttr]
  · simp only [go_sem, ↓reduceIte, simprocAttr, allTo_zero]
  · intro k hk
    have hki : (k : Int) < m.words.length := by omega
    have hx := List.getElem?_eq_getElem hk
    have hc : cameAt m k = m.words[k].came := by unfold cameAt; rw [hx]
    have hb : backAt m k at' = (m.words[k].back == (at' : Int)) := by unfold backAt; rw [hx]
    rw [allTo_succ, ← Bool.and_assoc, hc, hb]
    generalize (cameAt m at' && allTo (fun i => !(cameAt m i && backAt m i at')) k) = a at *
    generalize m.words[k] = w at *
    obtain ⟨says, sm, of, back, cm⟩ := w
    cases a with
    | false => simp (disch := omega) only [go_sem, ↓reduceIte, simprocAttr, hki, hz, eWo_get, hx, eWo, wrap_i64]
    | true =>
      cases cm with
      | false => simp (disch := omega) only [go_sem, ↓reduceIte, simprocAttr, hki, hz, eWo_get, hx, eWo, wrap_i64]
      | true =>
        cases hb2 : back == (at' : Int) with
        | false => simp (disch := omega) only [go_sem, ↓reduceIte, simprocAttr, hki, hz, eWo_get, hx, eWo, hb2, wrap_i64]
        | true => simp (disch := omega) only [go_sem, ↓reduceIte, simprocAttr, hki, hz, eWo_get, hx, eWo, hb2, wrap_i64]
  · simp only [go_sem, ↓reduceIte, simprocAttr, Int.lt_irrefl]
    rfl
def soR (w : Wo) (t : List Int) : Bool :=
  if (t.length : Int) ≤ w.sum then true else
  if w.says = 0 then t.getD w.sum.toNat 0 == w.of else
  if w.says = 1 then t.getD w.sum.toNat 0 != w.of else
  if w.says = 2 then decide ((t.length : Int) ≤ w.of) || t.getD w.sum.toNat 0 == t.getD w.of.toNat 0 else
  decide ((t.length : Int) ≤ w.of) || t.getD w.sum.toNat 0 != t.getD w.of.toNat 0
theorem I_at {t : List Int} {i : Nat} (h : i < t.length) : t[i]? = some (t.getD i 0) := by rw [List.getD_eq_getElem?_getD, List.getElem?_eq_getElem h]; rfl
theorem m66 (w : Wo) (t : List Int) (z : Nat) (hz : t ≠ [] → z = 1) (hs : 0 ≤ w.sum) (ho : 0 ≤ w.of) (h : Heap) : callPure (EW tabX) 66 [eWo w, .lst 0 z (I t)] h = some (.bool (soR w t), h) := by
  obtain ⟨says, sm, of, back, cm⟩ := w
  simp only at hs ho
  obtain ⟨i, rfl⟩ := Int.eq_ofNat_of_zero_le hs
  obtain ⟨j, rfl⟩ := Int.eq_ofNat_of_zero_le ho
  rw [callPure_eq, w_call _ fn_66 rfl]
  unfold soR
  simp only [Int.toNat_natCast]
  by_cases h0 : (t.length : Int) ≤ i
  · simp (disch := omega) only [go_sem, ↓reduceIte, simprocAttr, eWo, h0, wrap_i64]
  · have hi : i < t.length := by omega
    have hii : (i : Int) < t.length := by omega
    have hx := I_at hi
    have hz1 := hz (by intro e; rw [e] at hi; simp at hi)
    subst hz1
    by_cases s0 : says = 0
    · subst s0
      simp (disch := omega) only [go_sem, ↓reduceIte, simprocAttr, eWo, h0, hi, hii, hx, wrap_i64]
    · have s0b : (says == 0) = false := by simpa using s0
      by_cases s1 : says = 1
      · subst s1
        simp (disch := omega) only [go_sem, ↓reduceIte, simprocAttr, eWo, h0, hi, hii, hx, wrap_i64]
      · have s1b : (says == 1) = false := by simpa using s1
        by_cases hj0 : (t.length : Int) ≤ j
        · by_cases s2 : says = 2
          · subst s2
            simp (disch := omega) only [go_sem, ↓reduceIte, simprocAttr, eWo, h0, hj0, hi, hii, hx, wrap_i64]
          · have s2b : (says == 2) = false := by simpa using s2
            simp (disch := omega) only [go_sem, ↓reduceIte, simprocAttr, eWo, h0, hj0, hi, hii, hx, s0, s1, s2, s0b, s1b, s2b, wrap_i64]
        · have hj : j < t.length := by omega
          have hji : (j : Int) < t.length := by omega
          have hy := I_at hj
          by_cases s2 : says = 2
          · subst s2
            simp (disch := omega) only [go_sem, ↓reduceIte, simprocAttr, eWo, h0, hj0, hi, hii, hx, hj, hji, hy, wrap_i64]
          · have s2b : (says == 2) = false := by simpa using s2
            simp (disch := omega) only [go_sem, ↓reduceIte, simprocAttr, eWo, h0, hj0, hi, hii, hx, hj, hji, hy, s0, s1, s2, s0b, s1b, s2b, wrap_i64]
end Go.Proofs.YtiighcpimecehaaGreat
end
section
namespace Go.Proofs.YtiighcpimecehaaGreat
open Go.Proofs

def wR (m : Mo) (t : List Int) (j : Nat) : Bool := match m.words[j]? with | some w => !cntR m j || soR w t | none => true
def fineR (m : Mo) (e : Nat) (t : List Int) (c : Nat) : Bool := forB m e c && allTo (wR m (t ++ [(c : Int)])) m.words.length
def extT (m : Mo) (e : Nat) (t : List Int) (k : Nat) : List (List Int) := ((List.range k).filter fun c => fineR m e t c).map fun (c : Nat) => t ++ [(c : Int)]
def bfsM (m : Mo) : Nat → List (List Int)
  | 0 => [[]]
  | e + 1 => (bfsM m e).flatMap fun t => extT m e t m.who.length
theorem extT_succ (m : Mo) (e : Nat) (t : List Int) (k : Nat) : extT m e t (k + 1) = if fineR m e t k = true then extT m e t k ++ [t ++ [(k : Int)]] else extT m e t k := by
  unfold extT
  rw [List.range_succ, List.filter_append, List.map_append]
  have h : (List.filter (fun c => fineR m e t c) [k]) = if fineR m e t k = true then [k] else [] := by simp only [List.filter_cons, List.filter_nil]
  rw [h]
  split <;> simp
theorem extT_len (m : Mo) (e : Nat) (t : List Int) (k : Nat) : (extT m e t k).length ≤ k := by
  unfold extT
  rw [List.length_map]
  have := List.length_filter_le (fun c => fineR m e t c) (List.range k)
  simpa using this
theorem mem_extT {m : Mo} {e : Nat} {u t : List Int} {n : Nat} : t ∈ extT m e u n ↔ ∃ c, c < n ∧ fineR m e u c = true ∧ t = u ++ [(c : Int)] := by
  unfold extT
  rw [List.mem_map]
  constructor
  · rintro ⟨k, hk, rfl⟩
    obtain ⟨h1, h2⟩ := List.mem_filter.1 hk
    exact ⟨k, by simpa using h1, h2, rfl⟩
  · rintro ⟨k, h1, h2, rfl⟩
    exact ⟨k, List.mem_filter.2 ⟨by simpa using h1, h2⟩, rfl⟩
theorem bfsM_mem (m : Mo) : ∀ (e : Nat) (t : List Int), t ∈ bfsM m e → t.length = e
  | 0, t, h => by simp [bfsM] at h; subst h; rfl
  | e + 1, t, h => by
    obtain ⟨u, hu, ht⟩ := List.mem_flatMap.1 h
    obtain ⟨c, _, _, rfl⟩ := mem_extT.1 ht
    rw [List.length_append, bfsM_mem m e u hu]; rfl
theorem bfsM_len {m : Mo} (h4 : m.who.length ≤ 4) : ∀ e, (bfsM m e).length ≤ 4 ^ e
  | 0 => by simp [bfsM]
  | e + 1 => by
    have a := flat_len (fun t => extT m e t m.who.length) 4 (bfsM m e) fun t _ => by have := extT_len m e t m.who.length; omega
    have b := bfsM_len h4 e
    unfold bfsM
    rw [Nat.pow_succ]
    exact Nat.le_trans a (Nat.mul_le_mul_right 4 b)
set_option maxHeartbeats 4000000 in
theorem m20 (m : Mo) (hm : m.fits) (ho : m.Ok) : ∃ ys z, Rows ys (bfsM m m.sums.length) ∧ cleanL ys = some ys ∧ (ys ≠ [] → z = 1) ∧ ∀ h, callPure (EW tabX) 20 [eM m] h = some (.lst 0 z ys, h) := by
  have w4 := ho.w4
  have s5 := ho.s5
  have o6 := ho.o6
  have hcl : (eM m).clean = some (eM m) := by simp only [go_sem, ↓reduceIte, simprocAttr, eM, eMc]
  have key : ∃ s : RS, Rows s.xs (bfsM m m.sums.length) ∧ (s.xs ≠ [] → s.z = 1) ∧ ∃ h1, (EW tabX).call 20 [eM m] ⟨[], []⟩ = some (s.v, h1) := by
    rw [w_call _ fn_20 rfl]
    simp only [go_sem, ↓reduceIte, simprocAttr, eM, eMc]
    generalize hx : (EW tabX).code 20 none (Code.loop _) _ = x
    refine w_rounds_sk hx (fun k (s : RS) => [(3, s.v), (4, .int .i64 k)]) (fun s => ⟨[.cells (eMc m)], s.t⟩) (fun k s => Rows s.xs (bfsM m k) ∧ (s.xs ≠ [] → s.z = 1)) m.sums.length (.exit 0) (fun s => [(3, s.v), (4, .int .i64 m.sums.length)]) rfl ⟨1, 1, [.lst 1 0 []], []⟩ ?_ ?_ ?_ ?_ ?_ ?_
    · simp only [go_sem, ↓reduceIte, simprocAttr, RS.v]
    · simp only [eMc]
    · refine ⟨⟨rfl, fun i t hi => ?_⟩, fun _ => rfl⟩
      cases i with
      | zero => simp [bfsM] at hi; subst hi; exact ⟨1, 0, rfl, fun h => absurd rfl h⟩
      | succ i => simp [bfsM] at hi
    · intro e s he hR
      obtain ⟨hrow, hz⟩ := hR
      obtain ⟨tg, z, xs, t⟩ := s
      simp only at hrow hz
      have hei : (e : Int) < m.sums.length := by omega
      have hxl := hrow.1
      have hlen := bfsM_len w4 e
      have hp : 4 ^ e ≤ 256 := by
        have : 4 ^ e ≤ 4 ^ 4 := Nat.pow_le_pow_right (by omega) (by omega)
        omega
      have hsx := List.getElem?_eq_getElem he
      have hzs := hm.zs (by intro h; rw [h] at he; simp at he)
      have hfr := ho.sums m.sums[e] (List.getElem_mem he)
      have hforE : ∀ c, forB m e c = (m.sums[e]).fr.toNat.testBit c := fun c => by unfold forB; rw [hsx]
      generalize m.sums[e] = sx at hsx hfr hforE
      obtain ⟨sname, spence, sfr⟩ := sx
      simp only at hfr hforE
      obtain ⟨f, rfl⟩ := Int.eq_ofNat_of_zero_le (show 0 ≤ sfr by omega)
      have hf16 : f < 16 := by have := bitsN_le (n := m.who.length) w4; omega
      simp only [Int.toNat_natCast] at hforE
      simp only [go_sem, ↓reduceIte, simprocAttr, hei, eMc, RS.v]
      generalize hy : (EW tabX).code 20 none (Code.loop _) _ = y
      refine w_rounds_sk hy (fun k (s : RS) => [(5, s.v), (6, .int .i64 k)]) (fun s => ⟨[.cells (eMc m)], s.t⟩) (fun k s => s.is (((bfsM m e).take k).flatMap fun t => extT m e t m.who.length)) (bfsM m e).length (.exit 2) (fun s => [(5, s.v), (6, .int .i64 (bfsM m e).length)]) rfl ⟨1, 0, [], t⟩ ?_ ?_ ?_ ?_ ?_ ?_
      · simp only [go_sem, ↓reduceIte, simprocAttr, RS.v]
      · simp only [eMc]
      · exact ⟨⟨rfl, fun i t hi => by simp at hi⟩, .inl ⟨rfl, rfl⟩⟩
      · intro k s hk hR
        obtain ⟨ntg, nz, nxs, nt⟩ := s
        have hki : (k : Int) < xs.length := by omega
        have htk := List.getElem?_eq_getElem hk
        obtain ⟨otg, oz, hox, hoz⟩ := hrow.2 k _ htk
        have htl := bfsM_mem m e _ (List.getElem_mem hk)
        have hz1 := hz (by intro h; rw [h] at hki; simp at hki; omega)
        have hflat : ((bfsM m e).take (k + 1)).flatMap (fun t => extT m e t m.who.length) = ((bfsM m e).take k).flatMap (fun t => extT m e t m.who.length) ++ extT m e (bfsM m e)[k] m.who.length := by
          rw [List.take_add_one, htk, List.flatMap_append]; simp
        have hpl : (((bfsM m e).take k).flatMap fun t => extT m e t m.who.length).length ≤ 256 * 4 := by
          have a := flat_len (fun t => extT m e t m.who.length) 4 ((bfsM m e).take k) fun t _ => by have := extT_len m e t m.who.length; omega
          have b : ((bfsM m e).take k).length ≤ 256 := by rw [List.length_take]; omega
          exact Nat.le_trans a (Nat.mul_le_mul_right 4 b)
        subst hz1
        rw [hflat]
        generalize (((bfsM m e).take k).flatMap fun t => extT m e t m.who.length) = pre at hR hpl ⊢
        generalize (bfsM m e)[k] = tt at hox hoz htl ⊢
        simp (disch := omega) only [go_sem, ↓reduceIte, simprocAttr, hki, eMc, RS.v, wrap_i64]
        generalize hw : (EW tabX).code 20 none (Code.loop _) _ = w
        refine w_rounds_sk hw (fun k (s : RS) => [(5, s.v), (7, .int .i64 k)]) (fun s => ⟨[.cells (eMc m)], s.t⟩) (fun j s => s.is (pre ++ extT m e tt j)) m.who.length (.exit 4) (fun s => [(5, s.v), (7, .int .i64 m.who.length)]) rfl ⟨ntg, nz, nxs, nt⟩ ?_ ?_ ?_ ?_ ?_ ?_
        · simp only [go_sem, ↓reduceIte, simprocAttr, RS.v]
        · simp only [eMc]
        · simpa [extT] using hR
        · intro j s hj hR
          obtain ⟨jtg, jz, jxs, jt⟩ := s
          obtain ⟨hrj, hoj⟩ := hR
          simp only at hrj hoj
          have hji : (j : Int) < m.who.length := by omega
          have hjl := hrj.1
          have hel := extT_len m e tt j
          have hjn : jxs.length ≤ 1100 := by rw [hjl, List.length_append]; omega
          have hoxt : xs[k]? = some (.lst otg oz (I tt)) := hox
          have h64 := m64 f j hf16 (by omega)
          rw [← hforE j] at h64
          rw [extT_succ]
          obtain ⟨t2, a1, b1, c1, d1⟩ := app_gen (X := tabX) (ty := 30) (e := 3) (sz := 1) (tag := 1) (z := 1) (t := jt) (xs := []) (.inl ⟨rfl, rfl⟩) otg oz (I tt) (by simp only [go_sem, ↓reduceIte, simprocAttr]) (by simp only [go_sem, ↓reduceIte, simprocAttr]) (by omega)
            (by by_cases h : tt = []; exact .inr (by rw [h]; rfl); exact .inl (hoz h)) (by simp only [go_sem, ↓reduceIte, simprocAttr]; omega) (by simp only [go_sem, ↓reduceIte, simprocAttr]; omega) (by simp only [go_sem, ↓reduceIte, simprocAttr]) (by simp only [go_sem, ↓reduceIte, simprocAttr])
          obtain ⟨t3, a2, b2, c2, d2⟩ := app_gen (X := tabX) (ty := 30) (e := 3) (sz := 1) (tag := jt.length + 2) (z := 1) (t := t2) (xs := I tt) (.inr ⟨jt.length, rfl, rfl, c1⟩) 1 1 [.int .i64 (j : Int)] (by simp only [go_sem, ↓reduceIte, simprocAttr]) (by simp only [go_sem, ↓reduceIte, simprocAttr]) (by omega)
            (.inl rfl) (by simp only [go_sem, ↓reduceIte, simprocAttr]; omega) (by simp only [go_sem, ↓reduceIte, simprocAttr]; omega) (by simp only [go_sem, ↓reduceIte, simprocAttr]) (by simp only [go_sem, ↓reduceIte, simprocAttr])
          have hown3 : OwnS 1 jtg jz jxs.length t3 := by
            rcases hoj with h | ⟨q, h1, h2, h3⟩
            · exact .inl h
            · have hq : q < jt.length := (List.getElem?_eq_some_iff.1 h3).1
              exact .inr ⟨q, h1, h2, d2 q (by omega) (d1 q (by omega) h3)⟩
          obtain ⟨t4, a3, b3, c3, d3⟩ := app_gen (X := tabX) (ty := 51) (e := 30) (sz := 1) hown3 1 1 [.lst (t2.length + 2) 1 (I (tt ++ [(j : Int)]))] (by simp only [go_sem, ↓reduceIte, simprocAttr]) (by simp only [go_sem, ↓reduceIte, simprocAttr]) (by omega)
            (.inl rfl) (by simp only [go_sem, ↓reduceIte, simprocAttr]; omega) (by simp only [go_sem, ↓reduceIte, simprocAttr]; omega) (by simp only [go_sem, ↓reduceIte, simprocAttr]) (by simp only [go_sem, ↓reduceIte, simprocAttr])
          have hyes : RS.is ⟨t3.length + 2, 1, jxs ++ [.lst (t2.length + 2) 1 (I (tt ++ [(j : Int)]))], t4⟩ (pre ++ (extT m e tt j ++ [tt ++ [(j : Int)]])) := by
            refine ⟨?_, .inr ⟨t3.length, rfl, rfl, c3⟩⟩
            rw [← List.append_assoc]
            exact hrj.snoc _ _
          simp only [List.nil_append] at a1
          simp (disch := omega) only [go_sem, ↓reduceIte, simprocAttr, hji, hki, hoxt, eMc, RS.v, a1, a2, I_snoc, hei, he, hsx, hzs, eSu_get, eSu, h64, wrap_i64]
          rw [w_rounds_u (fun i => [(9, .bool (forB m e j && allTo (wR m (tt ++ [(j : Int)])) i)), (10, .int .i64 i)]) m.words.length (.exit 6) [(9, .bool (fineR m e tt j)), (10, .int .i64 m.words.length)] ?_ ?_ ?_ rfl]
          · cases hfi : fineR m e tt j with
            | true =>
              simp only [if_true]
              refine ⟨_, ?_, hyes⟩
              simp (disch := omega) only [go_sem, ↓reduceIte, simprocAttr, hji, eMc, RS.v, a3, wrap_i64]
              done
            | false =>
              simp only [Bool.false_eq_true, if_false]
              refine ⟨⟨jtg, jz, jxs, t3⟩, ?_, hrj, hown3⟩
              simp (disch := omega) only [go_sem, ↓reduceIte, simprocAttr, hji, eMc, RS.v, wrap_i64]
              done
          · simp only [go_sem, ↓reduceIte, simprocAttr, allTo_zero]
            done
          · intro i hi
            have hii : (i : Int) < m.words.length := by omega
            have hxi := List.getElem?_eq_getElem hi
            have hwi := ho.words i _ hxi
            have h65 := m65 m hm i hi
            have h66 := m66 m.words[i] (tt ++ [(j : Int)]) 1 (fun _ => rfl) hwi.2.2.1 hwi.2.2.2.2.1
            have hwr : wR m (tt ++ [(j : Int)]) i = (!cntR m i || soR m.words[i] (tt ++ [(j : Int)])) := by unfold wR; rw [hxi]
            have hzo := hm.zo (by intro h; rw [h] at hi; simp at hi)
            rw [allTo_succ, ← Bool.and_assoc, hwr]
            generalize (forB m e j && allTo (wR m (tt ++ [(j : Int)])) i) = a
            generalize m.words[i] = wd at *
            simp only [eM, eMc, hzs, hzo] at h65 hcl
            simp only [eWo] at h66
            cases a with
            | false => simp (disch := omega) only [go_sem, ↓reduceIte, simprocAttr, hii, eMc, RS.v, wrap_i64]
            | true =>
              cases hc : cntR m i with
              | false =>
                rw [hc] at h65
                simp (disch := omega) only [go_sem, ↓reduceIte, simprocAttr, hii, eMc, RS.v, hcl, h65, hzo, wrap_i64]
                done
              | true =>
                rw [hc] at h65
                simp (disch := omega) only [go_sem, ↓reduceIte, simprocAttr, hii, eMc, RS.v, hcl, h65, h66, hzo, eWo_get, hxi, eWo, wrap_i64]
                done
          · simp only [go_sem, ↓reduceIte, simprocAttr, Int.lt_irrefl]
            rfl
        · intro s hR
          simp only [go_sem, ↓reduceIte, simprocAttr, RS.v, eMc]
        · intro s h1 hR
          subst h1
          exact ⟨s, by simp (disch := omega) only [go_sem, ↓reduceIte, simprocAttr, RS.v, eMc, wrap_i64], hR⟩
      · intro s hR
        simp only [go_sem, ↓reduceIte, simprocAttr, RS.v, eMc, hxl]
      · intro s h1 hR
        subst h1
        rw [List.take_length] at hR
        refine ⟨s, by simp (disch := omega) only [go_sem, ↓reduceIte, simprocAttr, RS.v, eMc, wrap_i64], hR.1, fun hne => ?_⟩
        rcases hR.2 with ⟨_, h0⟩ | ⟨_, _, h0, _⟩
        · exact absurd (List.eq_nil_of_length_eq_zero h0) hne
        · exact h0
    · intro s hR
      simp only [go_sem, ↓reduceIte, simprocAttr, RS.v, eMc]
    · intro s h1 hR
      subst h1
      have hun := hR.1.under 0
      exact ⟨s, hR.1, hR.2, ⟨[], s.t⟩, by simp only [go_sem, ↓reduceIte, simprocAttr, RS.v, hun]⟩
  obtain ⟨s, hrow, hz, h1, hcall⟩ := key
  obtain ⟨ys, hys, hr2, hc2⟩ := hrow.clean
  refine ⟨ys, s.z, hr2, hc2, fun hne => hz fun e => hne ?_, fun h => pure_of hcall ?_⟩
  · have := hrow.1
    rw [e] at this
    exact List.eq_nil_of_length_eq_zero (by rw [hr2.1, ← this]; rfl)
  · simp only [RS.v, go_sem, ↓reduceIte, simprocAttr, hys]
end Go.Proofs.YtiighcpimecehaaGreat
end
section
namespace Go.Proofs.YtiighcpimecehaaGreat
open Go.Proofs

end Go.Proofs.YtiighcpimecehaaGreat
end
section
namespace Go.Proofs.YtiighcpimecehaaGreat
open Go.Proofs

end Go.Proofs.YtiighcpimecehaaGreat
end
section
namespace Go.Proofs.YtiighcpimecehaaGreat
open Go.Proofs

end Go.Proofs.YtiighcpimecehaaGreat
end
section
namespace Go.Proofs.YtiighcpimecehaaGreat
open Go.Proofs

end Go.Proofs.YtiighcpimecehaaGreat
end
section
namespace Go.Proofs.YtiighcpimecehaaGreat
open Go.Proofs

def IsTruth (d : Dr) (e : Nat) (t : List Int) : Prop := t.length = e ∧ ∀ i, i < e → t.getD i 0 = -1 ∨ ∃ c : Nat, c < d.cards.length ∧ t.getD i 0 = (c : Int) ∧ okHC d i c = true ∧ ∀ j, j < i → t.getD j 0 ≠ (c : Int)
theorem IsTruth.apart {d : Dr} {e : Nat} {t : List Int} (h : IsTruth d e t) {i j : Nat} (hi : i < e) (hj : j < i) (he : t.getD i 0 = t.getD j 0) : t.getD i 0 = -1 := by
  rcases h.2 i hi with h1 | ⟨c, h1, h2, h3, h4⟩
  · exact h1
  · exact absurd (he.symm.trans h2) (h4 j hj)
end Go.Proofs.YtiighcpimecehaaGreat
end
section
namespace Go.Proofs.YtiighcpimecehaaGreat
open Go.Proofs

theorem cameK_test (m : Mo) (more j : Nat) : ∀ k : Nat, (cameK m more k).testBit j = (more.testBit j || (decide (j < k) && cameAt m j))
  | 0 => by simp [cameK]
  | k + 1 => by
    unfold cameK
    have ih := cameK_test m more j k
    by_cases e : j = k
    · subst e
      cases hc : cameAt m j with
      | true => simp [Nat.testBit_or, Nat.testBit_two_pow]
      | false => simp [ih, hc]
    · have : decide (j < k + 1) = decide (j < k) := by
        rw [Bool.eq_iff_iff, decide_eq_true_eq, decide_eq_true_eq]; omega
      rw [this, ← ih]
      split
      · rw [Nat.testBit_or, Nat.testBit_two_pow, decide_eq_false (by omega), Bool.or_false]
      · rfl
theorem arr5_at {u : List Int} {i : Nat} (h : i < u.length) : (arr5 u).getD i 0 = u.getD i 0 := by
  rw [List.getD_eq_getElem?_getD, arr5_get h, ← List.getD_eq_getElem?_getD]
theorem mem_dfsM {m : Mo} {came : Nat} : ∀ {n : Nat} {t u : List Int}, u ∈ dfsM m came n t ↔ u.length = t.length + n ∧ u.take t.length = t ∧ ∀ i, t.length ≤ i → i < u.length → ∃ c : Nat, c < m.who.length ∧ u[i]? = some (c : Int) ∧ mayM m came (u.take i) c = true
  | 0, t, u => by
    show u ∈ [t] ↔ _
    rw [List.mem_singleton]
    constructor
    · rintro rfl
      exact ⟨by omega, List.take_length, fun i h1 h2 => by omega⟩
    · rintro ⟨h1, h2, _⟩
      rw [List.take_of_length_le (by omega)] at h2; exact h2
  | n + 1, t, u => by
    show u ∈ (nextM m came t m.who.length).flatMap (dfsM m came n) ↔ _
    rw [List.mem_flatMap]
    constructor
    · rintro ⟨v, hv, hu⟩
      obtain ⟨c, hc, hm, rfl⟩ := mem_nextM.1 hv
      obtain ⟨h1, h2, h3⟩ := mem_dfsM.1 hu
      simp only [List.length_append, List.length_cons, List.length_nil, Nat.zero_add] at h1 h2 h3
      have htk : u.take t.length = t := by
        have := congrArg (List.take t.length) h2
        rw [List.take_take, Nat.min_eq_left (by omega), List.take_left] at this; exact this
      refine ⟨by omega, htk, fun i hi hl => ?_⟩
      by_cases e : i = t.length
      · subst e
        refine ⟨c, hc, ?_, by rw [htk]; exact hm⟩
        have := congrArg (fun l => l[t.length]?) h2
        simp only [List.getElem?_take_of_lt (Nat.lt_succ_self _)] at this
        rw [this, List.getElem?_append_right (Nat.le_refl _), Nat.sub_self]; rfl
      · exact h3 i (by omega) hl
    · rintro ⟨h1, h2, h3⟩
      obtain ⟨c, hc, hg, hm⟩ := h3 t.length (Nat.le_refl _) (by omega)
      rw [h2] at hm
      refine ⟨_, mem_nextM.2 ⟨c, hc, hm, rfl⟩, mem_dfsM.2 ⟨by simp; omega, ?_, fun i hi hl => h3 i (by simp at hi; omega) hl⟩⟩
      have hlen : t.length < u.length := by omega
      rw [List.getElem?_eq_getElem hlen] at hg
      simp only [List.length_append, List.length_cons, List.length_nil, Nat.zero_add]
      rw [← List.take_append_getElem hlen, h2, Option.some.inj hg]
theorem mem_truthsM {m : Mo} {more : Nat} {u : List Int} : u ∈ truthsM m more ↔ u.length = m.sums.length ∧ ∀ i, i < u.length → ∃ c : Nat, c < m.who.length ∧ u[i]? = some (c : Int) ∧ mayM m (cameM m more) (u.take i) c = true := by
  unfold truthsM
  rw [mem_dfsM]
  simp
end Go.Proofs.YtiighcpimecehaaGreat
end
section
namespace Go.Proofs.YtiighcpimecehaaGreat
open Go.Proofs

theorem m25 (m : Mo) (hm : m.fits) (ho : m.Ok) (t : List Int) (z : Nat) (hz : t ≠ [] → z = 1) (ht : t.length ≤ m.sums.length) (c : Int) (h : Heap) : callPure (EW tabX) 25 [eM m, .lst 0 z (I t), .int .i64 c] h = some (.int .i64 (dueC m t c t.length), h) := by
  have s5 := ho.s5
  rw [callPure_eq, w_call _ fn_25 rfl]
  simp only [go_sem, ↓reduceIte, simprocAttr, eM, eMc]
  rw [w_rounds_u (fun k => [(7, .int .i64 (dueC m t c k)), (8, .int .i64 k)]) t.length (.exit 0) [(7, .int .i64 (dueC m t c t.length)), (8, .int .i64 t.length)] ?_ ?_ ?_ rfl]
  · simp only [go_sem, ↓reduceIte, simprocAttr]
  · simp only [go_sem, ↓reduceIte, simprocAttr, dueC]
  · intro k hk
    have hki : (k : Int) < t.length := by omega
    have hx := I_at hk
    have hks : k < m.sums.length := by omega
    have hkis : (k : Int) < m.sums.length := by omega
    have hsx := List.getElem?_eq_getElem hks
    have hz1 := hz (by intro e; rw [e] at hk; simp at hk)
    have hzs := hm.zs (by intro h; rw [h] at hks; simp at hks)
    subst hz1
    have hd : dueC m t c (k + 1) = dueC m t c k + (if t.getD k 0 = c then penceAt m k else 0) := rfl
    have hp : penceAt m k = (m.sums[k]).pence := by unfold penceAt; rw [hsx]
    have hb := dueC_bd ho t c k
    have hpb := pence_bd ho k
    rw [hp] at hd hpb
    generalize dueC m t c (k + 1) = d1 at *
    generalize dueC m t c k = d0 at *
    generalize m.sums[k] = w at *
    generalize t.getD k 0 = x at *
    by_cases hc : x = c
    · subst hc
      rw [if_pos rfl] at hd
      subst hd
      simp (disch := omega) only [go_sem, ↓reduceIte, simprocAttr, eMc, hki, hx, hkis, hks, hsx, hzs, eSu_get, eSu, wrap_i64]
      done
    · have hcb : (x == c) = false := by simpa using hc
      rw [if_neg hc, Int.add_zero] at hd
      subst hd
      simp (disch := omega) only [go_sem, ↓reduceIte, simprocAttr, eMc, hki, hx, hcb, wrap_i64]
      done
  · simp only [go_sem, ↓reduceIte, simprocAttr, Int.lt_irrefl]
theorem came_bit (m : Mo) {i : Nat} (hi : i < m.words.length) : (cameM m 0).testBit i = cameAt m i := by
  unfold cameM
  rw [cameK_test, decide_eq_true hi]; simp
theorem cnt_eq (m : Mo) {j : Nat} (hj : j < m.words.length) (h : countB m (cameM m 0) j = true) : cntR m j = true := by
  unfold countB at h
  unfold cntR
  rw [Bool.and_eq_true] at h ⊢
  refine ⟨by rw [← came_bit m hj]; exact h.2, ?_⟩
  rw [allTo_iff] at h ⊢
  intro k hk
  have := h.1 k hk
  rw [came_bit m hk] at this
  rw [Bool.and_comm]; exact this
theorem so_of {m : Mo} (ho : m.Ok) {u : List Int} {c : Nat} {j : Nat} {w : Wo} (hw : m.words[j]? = some w) (hl : lastW w = (u.length : Int)) (hu : u.length < 5) (h : soR w (u ++ [(c : Int)]) = true) : soB w (arr5 (u ++ [(c : Int)])) = true := by
  obtain ⟨says, sm, of, back, cm⟩ := w
  have hk := ho.words j _ hw
  simp only at hk
  have hlen : (u ++ [(c : Int)]).length = u.length + 1 := by simp
  unfold lastW at hl
  simp only at hl
  obtain ⟨i, rfl⟩ := Int.eq_ofNat_of_zero_le hk.2.2.1
  obtain ⟨k, rfl⟩ := Int.eq_ofNat_of_zero_le hk.2.2.2.2.1
  unfold soR at h
  unfold soB
  rw [hlen] at h
  simp only [Int.toNat_natCast] at h ⊢
  have hi : i ≤ u.length := by split at hl <;> omega
  have ai : (arr5 (u ++ [(c : Int)])).getD i 0 = (u ++ [(c : Int)]).getD i 0 := arr5_at (by rw [hlen]; omega)
  rw [if_neg (by omega)] at h
  rw [ai]
  by_cases s2 : 2 ≤ says
  · rw [if_pos s2] at hl ⊢
    have hk2 : k ≤ u.length := by omega
    have ak : (arr5 (u ++ [(c : Int)])).getD k 0 = (u ++ [(c : Int)]).getD k 0 := arr5_at (by rw [hlen]; omega)
    rw [ak]
    have hd : decide (((u.length + 1 : Nat) : Int) ≤ (k : Int)) = false := decide_eq_false (by omega)
    rw [if_neg (by omega), if_neg (by omega), hd, Bool.false_or, Bool.false_or] at h
    by_cases s22 : says = 2
    · rw [if_pos s22] at h
      rw [if_pos (.inr s22)]; exact h
    · rw [if_neg s22] at h
      rw [if_neg (by omega)]; exact h
  · rw [if_neg s2]
    by_cases s0 : says = 0
    · rw [if_pos s0] at h
      rw [if_pos (.inl s0)]; exact h
    · rw [if_neg s0, if_pos (by omega)] at h
      rw [if_neg (by omega)]; exact h
theorem may_of {m : Mo} (ho : m.Ok) {u : List Int} {c : Nat} (hu : u.length < m.sums.length) (h : fineR m u.length u c = true) : mayM m (cameM m 0) u c = true := by
  have s5 := ho.s5
  unfold fineR at h
  unfold mayM
  rw [Bool.and_eq_true] at h ⊢
  refine ⟨h.1, ?_⟩
  unfold keptB
  have h2 := h.2
  rw [allTo_iff] at h2 ⊢
  intro j hj
  have hwj := h2 j hj
  have hx := List.getElem?_eq_getElem hj
  unfold wR at hwj
  unfold okW
  rw [hx] at hwj ⊢
  simp only at hwj ⊢
  cases hl : lastW m.words[j] == (u.length : Int) with
  | false => rfl
  | true =>
    have hl : lastW m.words[j] = (u.length : Int) := by simpa using hl
    cases hc : countB m (cameM m 0) j with
    | false => rfl
    | true =>
      rw [cnt_eq m hj hc] at hwj
      have := so_of ho hx hl (by omega) (c := c) (by simpa using hwj)
      rw [this]; rfl
theorem bfsM_fine (m : Mo) : ∀ (e : Nat) (t : List Int), t ∈ bfsM m e → ∀ i, i < e → ∃ c : Nat, c < m.who.length ∧ t[i]? = some (c : Int) ∧ fineR m i (t.take i) c = true
  | 0, _, _, i, hi => absurd hi (Nat.not_lt_zero i)
  | e + 1, t, h, i, hi => by
    obtain ⟨u, hu, ht⟩ := List.mem_flatMap.1 h
    obtain ⟨c, hc, hf, rfl⟩ := mem_extT.1 ht
    have hul := bfsM_mem m e u hu
    by_cases he : i < e
    · obtain ⟨c', h1, h2, h3⟩ := bfsM_fine m e u hu i he
      refine ⟨c', h1, by rw [List.getElem?_append_left (by omega)]; exact h2, ?_⟩
      rw [List.take_append_of_le_length (by omega)]; exact h3
    · obtain rfl : i = u.length := by omega
      refine ⟨c, hc, by rw [List.getElem?_append_right (Nat.le_refl _), Nat.sub_self]; rfl, ?_⟩
      rw [List.take_left, hul]; exact hf
theorem bfs_truths {m : Mo} (ho : m.Ok) {t : List Int} (h : t ∈ bfsM m m.sums.length) : t ∈ truthsM m 0 := by
  have hl := bfsM_mem m _ t h
  rw [mem_truthsM]
  refine ⟨hl, fun i hi => ?_⟩
  obtain ⟨c, h1, h2, h3⟩ := bfsM_fine m _ t h i (by omega)
  refine ⟨c, h1, h2, ?_⟩
  have hli : (t.take i).length = i := by rw [List.length_take]; omega
  exact may_of ho (by omega) (by rw [hli]; exact h3)
theorem due_arr {m : Mo} {t : List Int} (ht : t.length = m.sums.length) (c : Int) : dueC m (arr5 t) c m.sums.length = dueC m t c t.length := by
  have key : ∀ k, k ≤ t.length → dueC m (arr5 t) c k = dueC m t c k := by
    intro k
    induction k with
    | zero => intro _; rfl
    | succ k ih =>
      intro hk
      show dueC m (arr5 t) c k + (if (arr5 t).getD k 0 = c then penceAt m k else 0) = dueC m t c k + (if t.getD k 0 = c then penceAt m k else 0)
      rw [ih (by omega), arr5_at (by omega)]
  rw [← ht]; exact key _ (Nat.le_refl _)
end Go.Proofs.YtiighcpimecehaaGreat
end
section
namespace Go.Proofs.YtiighcpimecehaaGreat
open Go.Proofs

theorem esM_len (m : Mo) (ts : List (List Int)) : (esM m ts).length = ts.length := by simp [esM]
theorem esM_get (m : Mo) (ts : List (List Int)) (i : Nat) : (esM m ts)[i]? = (ts[i]?).map fun t => (.agg (I (arr5 t)), .agg (I (dueL m (arr5 t) m.sums.length))) := by simp [esM]
theorem bestA_len {m : Mo} (ho : m.Ok) {o : Option Nat} (h : ∀ i, o = some i → i < (truthsM m 0).length) : (bestA (truthsM m 0) o).length = 5 := by
  cases o with
  | none => rfl
  | some i =>
    have hi := h i rfl
    have := (truthsM_ok (List.getElem_mem hi)).2
    have := ho.s5
    unfold bestA
    simp only [List.getD_eq_getElem?_getD, List.getElem?_eq_getElem hi, Option.getD_some]
    exact arr5_len (by omega)
theorem dfsM_len {m : Mo} (ho : m.Ok) (came : Nat) : ∀ (n : Nat) (t : List Int), (dfsM m came n t).length ≤ 4 ^ n
  | 0, t => by simp [dfsM]
  | n + 1, t => by
    have ih := dfsM_len ho came n
    have key : ∀ l : List (List Int), (l.flatMap (dfsM m came n)).length ≤ l.length * 4 ^ n := by
      intro l
      induction l with
      | nil => simp
      | cons x l ihl => rw [List.flatMap_cons, List.length_append, List.length_cons, Nat.succ_mul]; have := ih x; omega
    have h1 := key (nextM m came t m.who.length)
    have h2 : (nextM m came t m.who.length).length ≤ 4 := by
      unfold nextM
      rw [List.length_map]
      have := List.length_filter_le (mayM m came t) (List.range m.who.length)
      rw [List.length_range] at this
      have := ho.w4
      omega
    have h3 : (nextM m came t m.who.length).length * 4 ^ n ≤ 4 * 4 ^ n := Nat.mul_le_mul_right _ h2
    show ((nextM m came t m.who.length).flatMap (dfsM m came n)).length ≤ _
    rw [Nat.pow_succ, Nat.mul_comm]
    omega
theorem truthsM_len {m : Mo} (ho : m.Ok) (more : Nat) : (truthsM m more).length ≤ 1024 := by
  have h := dfsM_len ho (cameM m more) m.sums.length []
  have : (4 : Nat) ^ m.sums.length ≤ 4 ^ 5 := Nat.pow_le_pow_right (by omega) ho.s5
  unfold truthsM
  omega
theorem w_map_x {X : Tab} {f : Nat} {rd : Option Nat} {c : Code} {m : Tmp × Tmp × Tmp × Nat × Code} {s : St} {x : Option (AExit × St)} (hx : (EW X).code f rd (.loop c) s = x) (hm : mapLoop c = some m)
    (R : List Nat → St → Prop) (r : AExit × St) (j b n : Nat) (es : List (AV × AV)) (hn : es.length = n)
    (hR : ∀ left s, R left s → getF s.fr m.1 = .ref j 0 ∧ (∃ cur, s.h.b[j]? = some (.mit b n left cur)) ∧ s.h.b[b]? = some (.map es) ∧ left.Nodup ∧ ∀ i ∈ left, i < n)
    (hend : ∀ s, R [] s → r = (.exit m.2.2.2.1, ⟨⟨adel (adel s.fr.g m.2.1) m.2.2.1, []⟩, s.h.put j .none, s.ms⟩))
    (hs : ∀ left s i, R left s → i ∈ left → ∃ x s', (EW X).code f rd m.2.2.2.2 ⟨⟨adel (adel s.fr.g m.2.1) m.2.2.1, []⟩, s.h.put j (.mit b n (left.erase i) (some i)), s.ms⟩ = some (x, s') ∧
      tidy (restr (adel (adel s.fr.g m.2.1) m.2.2.1) s'.fr.g) s.h s.ms s' ∧
      ((x = .normal ∧ R (left.erase i) ⟨⟨restr (adel (adel s.fr.g m.2.1) m.2.2.1) s'.fr.g, []⟩, ⟨s'.h.b.take s.h.b.length, s'.h.t⟩, s.ms⟩) ∨
       (isNormal x = false ∧ (∃ b1 n1 l1 c1, s'.h.b[j]? = some (.mit b1 n1 l1 c1)) ∧ r = (x, ⟨⟨restr (adel (adel s.fr.g m.2.1) m.2.2.1) s'.fr.g, []⟩, ⟨(s'.h.b.take s.h.b.length).set j .none, s'.h.t⟩, s.ms⟩))))
    (left : List Nat) (h0 : R left s) : x = some r := by
  rw [← hx]; exact w_map_rel hm R r j b n es hn hR hend hs left s h0
set_option maxHeartbeats 4000000 in
theorem m11_yes (m : Mo) (hm : m.fits) (he : enterM m 0 [] = 0) (h : Heap) : callPure (EW tabX) 11 [eM m] h = some (.tup [.lst 0 1 (I ((truthsM m 0).headD [])), .int .i64 (truthsM m 0).length, .int .i64 0], h) := by
  have hcl := eM_clean m
  rw [callPure_eq, w_call _ fn_11 rfl]
  obtain ⟨h0, h1, h2⟩ := enterM_zero he
  have ho := (ok_of_checkM h0).1
  obtain ⟨J, t, h46⟩ := enterY m hm 0 (fun _ => by omega) [] 0 (fun h => absurd rfl h) (by simp) he 1
  obtain ⟨E0, hE⟩ : ∃ E0, E0 = EM m (truthsM m 0) J := ⟨_, rfl⟩
  have o0 : ∀ X, (E0 ++ X)[0]? = some (.cells (eMc m)) := fun X => by rw [hE]; rfl
  have o3 : ∀ X, (E0 ++ X)[3]? = some (.map (esM m (truthsM m 0))) := fun X => by rw [hE]; rfl
  have o4 : ∀ X, (E0 ++ X)[4]? = some (.cells (eLc m (cameM m 0) 3 (evL m (truthsM m 0)))) := fun X => by rw [hE]; rfl
  have o0' := o0 []
  have o3' := o3 []
  have o4' := o4 []
  rw [List.append_nil] at o0' o3' o4'
  have hb6 : 6 ≤ E0.length := by rw [hE]; simp [EM]
  rw [← hE] at h46
  clear hE
  have hn : 0 < (truthsM m 0).length := List.length_pos_iff.2 h2
  have hrows := fun (i : Nat) (hi : i < (truthsM m 0).length) => truthsM_ok (List.getElem_mem hi)
  have hcmp := fun (i j : Nat) (hi : i < (truthsM m 0).length) (hj : j < (truthsM m 0).length) => rows_cmp ho (List.getElem?_eq_getElem hi) (List.getElem?_eq_getElem hj)
  generalize hts : truthsM m 0 = ts at *
  have hel := esM_len m ts
  have s5 := ho.s5
  have h3b : 3 < E0.length + 1 := by omega
  have hu0 : 0 < E0.length + 2 := by omega
  have hu1 : E0.length < E0.length + 2 := by omega
  have hu3 : 3 < E0.length + 2 := by omega
  have hu4 : 4 < E0.length + 2 := by omega
  have hu5 : E0.length + 1 < E0.length + 2 := by omega
  have htl : ts.length ≤ 1024 := by rw [← hts]; exact truthsM_len ho 0
  simp only [eM, eMc, I_nil, eLc, List.cons_append, List.nil_append] at h46 hcl o0 o4 o0' o4'
  simp (disch := omega) only [go_sem, ↓reduceIte, simprocAttr, eM, eMc, hcl, h46, o0, o3, o4, o0', o3', o4', hel, h3b]
  generalize hlx : (EW tabX).code 11 none (Code.loop _) _ = x
  obtain ⟨Z0, hZ0⟩ : ∃ Z0, Z0 = List.replicate 13 false := ⟨_, rfl⟩
  have hb0 : ∀ (X : List ABlk), (E0 ++ X)[E0.length]? = X[0]? := fun X => get_at0 _ _
  have hx : x = some (.exit 0, ⟨⟨[(0, .agg [.lst 0 m.zw (S m.who), .lst 0 m.zs (m.sums.map eSu), .lst 0 m.zo (m.words.map eWo), .lst 0 m.zp (m.paid.map ePd)]), (1, .ref 0 0), (2, .lst 1 0 []), (3, .int .i64 ts.length), (4, .int .i64 0), (5, .ref 4 0), (6, .ref E0.length 0), (20, .ref (E0.length + 1) 0)], []⟩, ⟨E0 ++ [.cells (I (arr5 (ts.headD []))), .none], t ++ flZ Z0 ts.length⟩, []⟩) := by
    refine w_map_x hlx rfl (fun left s => ∃ cnt o cur, Vis ts.length left cnt o ∧ s = ⟨⟨[(0, .agg [.lst 0 m.zw (S m.who), .lst 0 m.zs (m.sums.map eSu), .lst 0 m.zo (m.words.map eWo), .lst 0 m.zp (m.paid.map ePd)]), (1, .ref 0 0), (2, .lst 1 0 []), (3, .int .i64 cnt), (4, .int .i64 0), (5, .ref 4 0), (6, .ref E0.length 0), (20, .ref (E0.length + 1) 0)], []⟩, ⟨E0 ++ [.cells (I (bestA ts o)), .mit 3 ts.length left cur], t ++ flZ Z0 cnt⟩, []⟩) _ (E0.length + 1) 3 ts.length (esM m ts) hel ?_ ?_ ?_ (List.range ts.length) ?_
    · rintro left s ⟨cnt, o, cur, hv, rfl⟩
      refine ⟨?_, ⟨cur, ?_⟩, ?_, hv.nd, hv.lt⟩
      · simp only [go_sem, ↓reduceIte, simprocAttr]
      · simp only [go_sem, ↓reduceIte, simprocAttr]
      · simp only [go_sem, ↓reduceIte, simprocAttr, o3]
    · rintro s ⟨cnt, o, cur, hv, rfl⟩
      obtain ⟨rfl, rfl⟩ := hv.all hn
      have hh : ts.getD 0 [] = ts.headD [] := by cases ts <;> rfl
      simp only [go_sem, ↓reduceIte, simprocAttr, bestA, hh]
    · rintro left s i ⟨cnt, o, cur, hv, rfl⟩ hi
      have hi2 := hv.lt i hi
      have hst := hv.step hi
      have hx := List.getElem?_eq_getElem hi2
      have hl5 := arr5_len (t := ts[i]) (by have := (hrows i hi2).2; omega)
      have hesi : (esM m ts)[i]? = some (.agg (I (arr5 ts[i])), .agg (I (dueL m (arr5 ts[i]) m.sums.length))) := by rw [esM_get, hx]; rfl
      have hcnt := hv.len
      have hpos := List.length_pos_of_mem hi
      generalize ts[i] = u at hesi hl5 hx
      have h5 : 5 ≤ (arr5 u).length := by omega
      have hp5 : 0 < (arr5 u).length := by omega
      have htk : (arr5 u).take 5 = arr5 u := List.take_of_length_le (by omega)
      have hsp := fun x0 x1 x2 x3 x4 => splice5 x0 x1 x2 x3 x4 (arr5 u) hl5
      have hbl : (bestA ts o).length = 5 := by
        have := bestA_len ho (o := o) (fun j e => by rw [hts]; exact (hv.so j e).2.1)
        rw [hts] at this; exact this
      have h5b : 5 ≤ (bestA ts o).length := by omega
      have hp5b : 0 < (bestA ts o).length := by omega
      have htkb : (bestA ts o).take 5 = bestA ts o := List.take_of_length_le (by omega)
      have hspb : splice (I (bestA ts o)) 0 (I (arr5 u)) = I (arr5 u) := splice_all _ _ (by rw [I_len, I_len]; omega)
      simp (disch := omega) only [go_sem, ↓reduceIte, simprocAttr, o3, hel, hesi, hp5, hl5, hsp, wrap_i64]
      generalize hcf : okFam _ _ _ = cf
      obtain rfl : cf = true := by rw [← hcf]; kernel_rfl
      generalize List.replicate _ ABlk.none = N
      generalize hZ : List.replicate _ false = Z
      obtain rfl : Z = Z0 := by rw [← hZ, hZ0]; rfl
      have hbu : bestA ts (some i) = arr5 u := by simp [bestA, List.getD_eq_getElem?_getD, hx]
      cases o with
      | none =>
        obtain ⟨rfl, _⟩ := hv.no rfl
        simp (disch := omega) only [go_sem, ↓reduceIte, simprocAttr, cast_zero, h5, htk, hl5, hbl, h5b, hp5, hp5b, hspb, wrap_i64]
        refine ⟨_, _, rfl, tidy_of (B := E0) (C := [_, _]) (C' := [.cells (I (arr5 u)), .mit 3 ts.length (left.erase i) (some i)]) (M := .cells (I (arr5 u)) :: N) ?_ rfl ?_, .inl ⟨rfl, 1, some i, some i, hst, ?_⟩⟩
        · simp (disch := omega) only [go_sem, ↓reduceIte, simprocAttr, hu0, hu1, hu4, hu5]
        · simp (disch := omega) only [go_sem, ↓reduceIte, simprocAttr, ABlk.underB, hu3]
        · simp only [go_sem, ↓reduceIte, simprocAttr, hbu, flZ, cast_one', List.take_length_add_append]
      | some j =>
        obtain ⟨hc0, hj1, hj2, hj3⟩ := hv.so j rfl
        have hne : i ≠ j := fun e => hj2 (e ▸ hi)
        have hxj := List.getElem?_eq_getElem hj1
        have hbj : bestA ts (some j) = arr5 ts[j] := by simp [bestA, List.getD_eq_getElem?_getD, hxj]
        have c1 := hcmp i j hi2 hj1
        have c2 := hcmp j i hj1 hi2
        have hui : ts[i] = u := by rw [List.getElem?_eq_getElem hi2] at hx; exact Option.some.inj hx
        rw [hui] at c1 c2
        have hwc : (IntKind.i64.wrap ((cnt : Int) + 1) == 1) = false := by rw [wrap_i64 (by omega)]; simp; omega
        have hwc2 : ((cnt : Int) + 1 == 1) = false := by simp; omega
        have hl5j := hbl
        rw [hbj] at hbl h5b hp5b htkb hspb ⊢
        have hnab : ¬ arr5 ts[j] = arr5 u := fun e => by
          rw [e] at c1 c2
          rw [c1] at c2
          have : ¬ (i < j ↔ j < i) := by omega
          exact this (by simpa using c2)
        have heq := eqI5 (arr5 ts[j]) (arr5 u) hbl hl5
        rw [decide_eq_false hnab] at heq
        generalize arr5 ts[j] = w at *
        have h47 := m47 (arr5 u) w hl5 hbl (E0.length + 2) E0.length ⟨E0 ++ (.cells (I w) :: .mit 3 ts.length (left.erase i) (some i) :: .cells (I (arr5 u)) :: N), t ++ (flZ Z cnt ++ Z)⟩ (by simp) (by simp)
        by_cases hij : i < j
        · have c3 : cmpL (arr5 u) w < 0 := by rw [decide_eq_true hij] at c1; simpa using c1
          have ho2 : stepO (some j) i = some i := by simp [stepO, hij]
          rw [ho2] at hst
          simp (disch := omega) only [go_sem, ↓reduceIte, simprocAttr, hwc, hwc2, h5, htk, hl5, hbl, h5b, hp5, hp5b, hspb, htkb, aggBin, heq, h47, c3, wrap_i64]
          refine ⟨_, _, rfl, tidy_of (B := E0) (C := [_, _]) (C' := [.cells (I (arr5 u)), .mit 3 ts.length (left.erase i) (some i)]) (M := .cells (I (arr5 u)) :: N) ?_ rfl ?_, .inl ⟨rfl, cnt + 1, some i, some i, hst, ?_⟩⟩
          · simp (disch := omega) only [go_sem, ↓reduceIte, simprocAttr, hu0, hu1, hu4, hu5]
          · simp (disch := omega) only [go_sem, ↓reduceIte, simprocAttr, ABlk.underB, hu3]
          · simp only [go_sem, ↓reduceIte, simprocAttr, hbu, flZ, cast_succ, List.take_length_add_append]
        · have c3 : ¬ cmpL (arr5 u) w < 0 := by rw [decide_eq_false hij] at c1; simpa using c1
          have ho2 : stepO (some j) i = some j := by simp [stepO, hij]
          rw [ho2] at hst
          simp (disch := omega) only [go_sem, ↓reduceIte, simprocAttr, hwc, hwc2, h5, htk, hl5, hbl, h5b, hp5, hp5b, hspb, htkb, aggBin, heq, h47, c3, wrap_i64]
          refine ⟨_, _, rfl, tidy_of (B := E0) (C := [_, _]) (C' := [.cells (I w), .mit 3 ts.length (left.erase i) (some i)]) (M := .cells (I (arr5 u)) :: N) ?_ rfl ?_, .inl ⟨rfl, cnt + 1, some j, some i, hst, ?_⟩⟩
          · simp (disch := omega) only [go_sem, ↓reduceIte, simprocAttr, hu0, hu1, hu4, hu5]
          · simp (disch := omega) only [go_sem, ↓reduceIte, simprocAttr, ABlk.underB, hu3]
          · simp only [go_sem, ↓reduceIte, simprocAttr, hbj, flZ, cast_succ, List.take_length_add_append]
    · exact ⟨0, none, none, Vis.start _, by simp only [bestA, flZ, I_c, I_nil, List.append_nil, cast_zero]⟩
  rw [hx]
  have hhd : ∃ u, ts[0]? = some u ∧ ts.headD [] = u := by
    cases ts with
    | nil => simp at hn
    | cons u l => exact ⟨u, rfl, rfl⟩
  obtain ⟨u, hu, hhd⟩ := hhd
  rw [hhd]
  have hul : u.length = m.sums.length := by
    have := hrows 0 hn
    rw [List.getElem?_eq_getElem hn] at hu
    rw [Option.some.inj hu] at this
    exact this.2
  have hal := arr5_len (t := u) (by omega)
  have h5 : 5 ≤ (arr5 u).length := by omega
  have htk : (arr5 u).take 5 = arr5 u := List.take_of_length_le (by omega)
  have htS : (arr5 u).take m.sums.length = u := by
    unfold arr5; rw [← hul]; exact List.take_left
  have hm1 : (m.sums.length : Int) ≤ 4096 := by omega
  have hp0 : (0 : Int) ≤ m.sums.length := by omega
  have hmin : min 5 m.sums.length = m.sums.length := by omega
  have hfz : frz ⟨E0 ++ [.cells (I (arr5 u)), .none, .cells (I u)], t ++ flZ Z0 ts.length⟩ 6 (.tup [.bsl (E0.length + 2) 0 m.sums.length 1, .int .i64 ts.length, .int .i64 0]) = some (.tup [.lst 0 1 (I u), .int .i64 ts.length, .int .i64 0]) := by
    have h1 := frz_bsl ⟨E0 ++ [.cells (I (arr5 u)), .none, .cells (I u)], t ++ flZ Z0 ts.length⟩ 3 (E0.length + 2) m.sums.length u (by simp) hul.symm
    have e : frz ⟨E0 ++ [.cells (I (arr5 u)), .none, .cells (I u)], t ++ flZ Z0 ts.length⟩ 6 (.tup [.bsl (E0.length + 2) 0 m.sums.length 1, .int .i64 ts.length, .int .i64 0]) = match optL [frz ⟨E0 ++ [.cells (I (arr5 u)), .none, .cells (I u)], t ++ flZ Z0 ts.length⟩ 5 (.bsl (E0.length + 2) 0 m.sums.length 1), frz ⟨E0 ++ [.cells (I (arr5 u)), .none, .cells (I u)], t ++ flZ Z0 ts.length⟩ 5 (.int .i64 ts.length), frz ⟨E0 ++ [.cells (I (arr5 u)), .none, .cells (I u)], t ++ flZ Z0 ts.length⟩ 5 (.int .i64 0)] with
      | some ys => some (.tup ys)
      | none => none := rfl
    rw [e, h1, frz_int, frz_int]; rfl
  have hnu : ¬ (E0.length + 2 < 0) := by omega
  by_cases hz : m.sums.length = 0
  · have hnil : u = [] := List.eq_nil_of_length_eq_zero (by omega)
    subst hnil
    rw [hz] at hfz
    simp only [I_nil] at hfz
    simp (disch := omega) only [go_sem, ↓reduceIte, simprocAttr, o0, opMakeSlice, opCopy, hz, hal, h5, htk, I_nil]
    simp only [go_sem, ↓reduceIte, simprocAttr, hnu, orW_none, hfz]
  · have hpos : 0 < m.sums.length := by omega
    have hsp := splice_all (List.replicate m.sums.length (AV.int .i64 0)) (I u) (by rw [I_len, List.length_replicate]; omega)
    have hrl : (List.replicate m.sums.length (AV.int .i64 0)).length = m.sums.length := List.length_replicate
    simp (disch := omega) only [go_sem, ↓reduceIte, simprocAttr, o0, opMakeSlice, opCopy, hm1, hp0, hal, h5, htk, hmin, htS, hrl, hpos, hsp]
    simp only [go_sem, ↓reduceIte, simprocAttr, hnu, orW_none, hfz]
end Go.Proofs.YtiighcpimecehaaGreat
end
section
namespace Go.Proofs.YtiighcpimecehaaGreat
open Go.Proofs

def isMin (l : List Int) (x : Int) : Prop := x ∈ l ∧ ∀ y ∈ l, x ≤ y
def isMax (l : List Int) (x : Int) : Prop := x ∈ l ∧ ∀ y ∈ l, y ≤ x
theorem min_ex : ∀ {l : List Int}, l ≠ [] → ∃ x, isMin l x
  | [], h => absurd rfl h
  | [x], _ => ⟨x, by simp, by simp⟩
  | x :: y :: l, _ => by
    obtain ⟨z, h1, h2⟩ := min_ex (l := y :: l) (by simp)
    by_cases h : x ≤ z
    · refine ⟨x, by simp, fun w hw => ?_⟩
      rcases List.mem_cons.1 hw with rfl | hw
      · omega
      · have := h2 w hw; omega
    · refine ⟨z, List.mem_cons_of_mem _ h1, fun w hw => ?_⟩
      rcases List.mem_cons.1 hw with rfl | hw
      · omega
      · exact h2 w hw
theorem max_ex : ∀ {l : List Int}, l ≠ [] → ∃ x, isMax l x
  | [], h => absurd rfl h
  | [x], _ => ⟨x, by simp, by simp⟩
  | x :: y :: l, _ => by
    obtain ⟨z, h1, h2⟩ := max_ex (l := y :: l) (by simp)
    by_cases h : z ≤ x
    · refine ⟨x, by simp, fun w hw => ?_⟩
      rcases List.mem_cons.1 hw with rfl | hw
      · omega
      · have := h2 w hw; omega
    · refine ⟨z, List.mem_cons_of_mem _ h1, fun w hw => ?_⟩
      rcases List.mem_cons.1 hw with rfl | hw
      · omega
      · exact h2 w hw
def duesM (m : Mo) (c : Int) : List Int := (truthsM m 0).map fun t => dueC m (arr5 t) c m.sums.length
theorem dueL_get (m : Mo) (a : List Int) (k c : Nat) (hc : c < 4) : (I (dueL m a k))[c]? = some (.int .i64 (dueC m a c k)) := by
  have hcc : c = 0 ∨ c = 1 ∨ c = 2 ∨ c = 3 := by omega
  rcases hcc with rfl | rfl | rfl | rfl <;> rfl
structure Spn (n : Nat) (d : Nat → Int) (left : List Nat) (fst : Bool) (lo hi : Int) : Prop where
  nd : left.Nodup
  lt : ∀ i ∈ left, i < n
  no : fst = true → lo = 0 ∧ hi = 0 ∧ ∀ k, k < n → k ∈ left
  so : fst = false → (∃ k, k < n ∧ d k = lo) ∧ (∃ k, k < n ∧ d k = hi) ∧ ∀ k, k < n → k ∉ left → lo ≤ d k ∧ d k ≤ hi
theorem Spn.start (n : Nat) (d : Nat → Int) : Spn n d (List.range n) true 0 0 := ⟨List.nodup_range, fun _ hi => List.mem_range.1 hi, fun _ => ⟨rfl, rfl, fun _ hk => List.mem_range.2 hk⟩, nofun⟩
theorem Spn.one {n : Nat} {d : Nat → Int} {left : List Nat} {lo hi : Int} (h : Spn n d left true lo hi) {i : Nat} (hi' : i ∈ left) : Spn n d (left.erase i) false (d i) (d i) := by
  obtain ⟨_, _, hall⟩ := h.no rfl
  have hl := h.lt i hi'
  refine ⟨h.nd.erase i, fun k hk => h.lt k (List.mem_of_mem_erase hk), nofun, fun _ => ⟨⟨i, hl, rfl⟩, ⟨i, hl, rfl⟩, fun k hk hn => ?_⟩⟩
  rw [h.nd.mem_erase_iff] at hn
  have : k = i := by
    by_cases e : k = i
    · exact e
    · exact absurd ⟨e, hall k hk⟩ hn
  subst this
  omega
theorem Spn.next {n : Nat} {d : Nat → Int} {left : List Nat} {lo hi : Int} (h : Spn n d left false lo hi) {i : Nat} (hi' : i ∈ left) : Spn n d (left.erase i) false (min lo (d i)) (max hi (d i)) := by
  obtain ⟨h1, h2, h3⟩ := h.so rfl
  have hl := h.lt i hi'
  refine ⟨h.nd.erase i, fun k hk => h.lt k (List.mem_of_mem_erase hk), nofun, fun _ => ⟨?_, ?_, fun k hk hn => ?_⟩⟩
  · obtain ⟨k, a, b⟩ := h1
    by_cases e : lo ≤ d i
    · exact ⟨k, a, by omega⟩
    · exact ⟨i, hl, by omega⟩
  · obtain ⟨k, a, b⟩ := h2
    by_cases e : d i ≤ hi
    · exact ⟨k, a, by omega⟩
    · exact ⟨i, hl, by omega⟩
  · rw [h.nd.mem_erase_iff] at hn
    by_cases e : k = i
    · subst e; omega
    · have := h3 k hk (fun hm => hn ⟨e, hm⟩)
      omega
theorem tidy_mid {g : Slots} {B E C C' M : List ABlk} {x x' : ABlk} {t t' : List Bool} {ms : List Nat} {fr : Frm} (hg : (g.all fun p => p.2.under (B.length + (1 + (E.length + C.length)))) = true) (hl : C'.length = C.length)
    (hx : x'.underB (B.length + (1 + (E.length + C.length))) = true) (hC : (C'.all fun x => x.underB (B.length + (1 + (E.length + C.length)))) = true) : tidy g ⟨B ++ (x :: (E ++ C)), t⟩ ms ⟨fr, ⟨B ++ (x' :: (E ++ (C' ++ M))), t'⟩, ms⟩ := by
  have hlen : (B ++ (x :: (E ++ C))).length = B.length + (1 + (E.length + C.length)) := by simp; omega
  refine ⟨by show (g.all fun p => p.2.under (B ++ (x :: (E ++ C))).length) = true; rw [hlen]; exact hg, fun i y hi hy => ?_, rfl⟩
  have hi : i < (B ++ (x :: (E ++ C))).length := hi
  have hy : (B ++ (x' :: (E ++ (C' ++ M))))[i]? = some y := hy
  show (B ++ (x :: (E ++ C)))[i]? = some y ∨ y.underB (B ++ (x :: (E ++ C))).length = true
  rw [hlen] at hi ⊢
  by_cases h1 : i < B.length
  · left
    rw [List.getElem?_append_left h1] at hy ⊢; exact hy
  · rw [List.getElem?_append_right (by omega)] at hy ⊢
    obtain ⟨k, hk⟩ : ∃ k, i - B.length = k := ⟨_, rfl⟩
    rw [hk] at hy ⊢
    cases k with
    | zero =>
      right
      cases hy
      exact hx
    | succ k =>
      rw [List.getElem?_cons_succ] at hy ⊢
      by_cases h2 : k < E.length
      · left
        rw [List.getElem?_append_left h2] at hy ⊢; exact hy
      · right
        rw [List.getElem?_append_right (by omega), List.getElem?_append_left (by omega)] at hy
        exact List.all_eq_true.1 hC y (List.mem_of_getElem? hy)
set_option maxHeartbeats 4000000 in
theorem m22 (m : Mo) (hm : m.fits) (c : Nat) (he : enterM m m.who.length [(c : Int)] = 0) (lo hi : Int) (hlo : isMin (duesM m c) lo) (hhi : isMax (duesM m c) hi) (h : Heap) : callPure (EW tabX) 22 [eM m, .int .i64 c] h = some (.tup [.agg [.int .i64 lo, .int .i64 hi], .int .i64 0], h) := by
  have hcl := eM_clean m
  rw [callPure_eq, w_call _ fn_22 rfl]
  obtain ⟨h0, h1, h2⟩ := enterM_zero he
  have ho := (ok_of_checkM h0).1
  simp only [List.any_cons, List.any_nil, Bool.or_false] at h1
  have hr := out_false h1
  have w4 := ho.w4
  have hc : c < 4 := by omega
  obtain ⟨J, t, h46o⟩ := m46_yes m hm m.who.length many_ok' [(c : Int)] 1 (fun _ => rfl) (by simp) he ⟨[.cells (eMc m), .cells [.int .i64 0, .int .i64 0]], []⟩ 1
  obtain ⟨E0, hE⟩ : ∃ E0, E0 = ABlk.cells (eMc m) :: .cells (eMc m) :: .map (esM m (truthsM m 0)) :: .cells (eLc m (cameM m 0) 4 (evL m (truthsM m 0))) :: .cells [.ref 5 0] :: J := ⟨_, rfl⟩
  have h46 : (EW tabX).call 46 [eM m, .int .i64 m.who.length, .lst 1 1 (I [(c : Int)])] ⟨[.cells (eMc m), .cells [.int .i64 0, .int .i64 0]], []⟩ = some (.tup [.ref 5 0, .int .i64 0], ⟨.cells (eMc m) :: .cells [.int .i64 0, .int .i64 0] :: E0, t⟩) := by rw [hE]; exact h46o
  have o3 : ∀ X, (E0 ++ X)[2]? = some (.map (esM m (truthsM m 0))) := fun X => by rw [hE]; rfl
  have o4 : ∀ X, (E0 ++ X)[3]? = some (.cells (eLc m (cameM m 0) 4 (evL m (truthsM m 0)))) := fun X => by rw [hE]; rfl
  have o3' := o3 []
  have o4' := o4 []
  rw [List.append_nil] at o3' o4'
  have hb6 : 5 ≤ E0.length := by rw [hE]; simp
  clear hE h46o
  have hn : 0 < (truthsM m 0).length := List.length_pos_iff.2 h2
  have hel := esM_len m (truthsM m 0)
  have hbd := fun (t : List Int) => dueC_bd ho (arr5 t) c m.sums.length
  unfold duesM at hlo hhi
  generalize hts : truthsM m 0 = ts at *
  have s5 := ho.s5
  have h3b : 4 < E0.length + 3 := by omega
  simp only [eM, eMc, eLc, I_c, I_nil, List.cons_append, List.nil_append] at h46 hcl o4 o4'
  simp (disch := omega) only [go_sem, ↓reduceIte, simprocAttr, eM, eMc, hcl, h46, o3, o4, o3', o4', hel, h3b]
  have hu0 : 0 < 1 + (1 + (E0.length + 1)) := by omega
  have hu1 : 1 < 1 + (1 + (E0.length + 1)) := by omega
  have hu2 : 5 < 1 + (1 + (E0.length + 1)) := by omega
  have hu3 : E0.length + 1 + 1 < 1 + (1 + (E0.length + 1)) := by omega
  have hu4 : 4 < 1 + (1 + (E0.length + 1)) := by omega
  have ht3 : ∀ (a b e f : ABlk), List.take (E0.length + 1 + 1 + 1) (a :: b :: (E0 ++ [e, f])) = a :: b :: (E0 ++ [e]) := fun a b e f => by
    rw [List.take_succ_cons, List.take_succ_cons, show E0 ++ [e, f] = (E0 ++ [e]) ++ [f] by simp, List.take_left' (by simp)]
  generalize hlx : (EW tabX).code 22 none (Code.loop _) _ = x
  obtain ⟨gM, hgM⟩ : ∃ gM, gM = AV.agg [.lst 0 m.zw (S m.who), .lst 0 m.zs (m.sums.map eSu), .lst 0 m.zo (m.words.map eWo), .lst 0 m.zp (m.paid.map ePd)] := ⟨_, rfl⟩
  obtain ⟨d, hd⟩ : ∃ d : Nat → Int, d = fun i => dueC m (arr5 (ts.getD i [])) c m.sums.length := ⟨_, rfl⟩
  have hdbd : ∀ i, 0 ≤ d i ∧ d i ≤ 495 := fun i => by
    have := hbd (ts.getD i [])
    rw [hd]; simp only; omega
  have hdat : ∀ i t, ts[i]? = some t → dueC m (arr5 t) c m.sums.length = d i := fun i t h => by rw [hd]; simp only [List.getD_eq_getElem?_getD, h, Option.getD_some]
  have hmem : ∀ y, y ∈ ts.map (fun t => dueC m (arr5 t) c m.sums.length) ↔ ∃ i, i < ts.length ∧ d i = y := fun y => by
    rw [List.mem_map]
    constructor
    · rintro ⟨t, ht, rfl⟩
      obtain ⟨i, hi, rfl⟩ := List.mem_iff_getElem.1 ht
      exact ⟨i, hi, (hdat i _ (List.getElem?_eq_getElem hi)).symm⟩
    · rintro ⟨i, hi, rfl⟩
      exact ⟨_, List.getElem_mem hi, hdat i _ (List.getElem?_eq_getElem hi)⟩
  have hx : x = some (.exit 0, ⟨⟨[(0, gM), (1, .int .i64 c), (2, .ref 0 0), (4, .ref 1 0), (5, .int .i64 0), (6, .ref 5 0), (7, .bool false), (29, .ref (E0.length + 1 + 1) 0)], []⟩,
      ⟨.cells [.lst 0 m.zw (S m.who), .lst 0 m.zs (m.sums.map eSu), .lst 0 m.zo (m.words.map eWo), .lst 0 m.zp (m.paid.map ePd)] :: .cells [.int .i64 lo, .int .i64 hi] :: (E0 ++ [.none]), t⟩, []⟩) := by
    refine w_map_x hlx rfl (fun left s => ∃ fst l u cur, Spn ts.length d left fst l u ∧ s = ⟨⟨[(0, gM), (1, .int .i64 c), (2, .ref 0 0), (4, .ref 1 0), (5, .int .i64 0), (6, .ref 5 0), (7, .bool fst), (29, .ref (E0.length + 1 + 1) 0)], []⟩,
      ⟨.cells [.lst 0 m.zw (S m.who), .lst 0 m.zs (m.sums.map eSu), .lst 0 m.zo (m.words.map eWo), .lst 0 m.zp (m.paid.map ePd)] :: .cells [.int .i64 l, .int .i64 u] :: (E0 ++ [.mit 4 ts.length left cur]), t⟩, []⟩) _ (E0.length + 1 + 1) 4 ts.length (esM m ts) hel ?_ ?_ ?_ (List.range ts.length) ?_
    · rintro left s ⟨fst, l, u, cur, hv, rfl⟩
      refine ⟨?_, ⟨cur, ?_⟩, ?_, hv.nd, hv.lt⟩
      · simp only [go_sem, ↓reduceIte, simprocAttr]
      · simp only [go_sem, ↓reduceIte, simprocAttr]
      · simp only [go_sem, ↓reduceIte, simprocAttr, o3]
    · rintro s ⟨fst, l, u, cur, hv, rfl⟩
      cases fst with
      | true => have := (hv.no rfl).2.2 0 hn; cases this
      | false =>
        obtain ⟨h1, h2, h3⟩ := hv.so rfl
        have e1 : l = lo := by
          obtain ⟨k, hk, e⟩ := h1
          obtain ⟨j, hj, e2⟩ := (hmem lo).1 hlo.1
          have a := h3 j hj (by simp)
          have b := hlo.2 (d k) ((hmem _).2 ⟨k, hk, rfl⟩)
          omega
        have e2 : u = hi := by
          obtain ⟨k, hk, e⟩ := h2
          obtain ⟨j, hj, e2⟩ := (hmem hi).1 hhi.1
          have a := h3 j hj (by simp)
          have b := hhi.2 (d k) ((hmem _).2 ⟨k, hk, rfl⟩)
          omega
        subst e1 e2
        simp only [go_sem, ↓reduceIte, simprocAttr]
    · rintro left s i ⟨fst, l, u, cur, hv, rfl⟩ hi
      have hi2 := hv.lt i hi
      have hx := List.getElem?_eq_getElem hi2
      have hdi := hdat i _ hx
      have hbi := hdbd i
      have hesi : (esM m ts)[i]? = some (.agg (I (arr5 ts[i])), .agg (I (dueL m (arr5 ts[i]) m.sums.length))) := by rw [esM_get, hx]; rfl
      have hdg := dueL_get m (arr5 ts[i]) m.sums.length c hc
      rw [hdi] at hdg
      have hdg : ((I (dueL m (arr5 ts[i]) m.sums.length)).drop c)[0]? = some (.int .i64 (d i)) := by rw [List.getElem?_drop]; exact hdg
      have hdl : (I (dueL m (arr5 ts[i]) m.sums.length)).length = 4 := by rw [I_len]; rfl
      have hDo := I_one (dueL m (arr5 ts[i]) m.sums.length)
      have hDu := fun n => I_under n (dueL m (arr5 ts[i]) m.sums.length)
      have hDs := fun x0 x1 x2 x3 => splice4 x0 x1 x2 x3 (dueL m (arr5 ts[i]) m.sums.length) rfl
      generalize I (dueL m (arr5 ts[i]) m.sums.length) = D at hesi hdg hdl hDo hDu hDs
      generalize ts[i] = tt at hesi
      generalize hdd : d i = di at *
      cases fst with
      | true =>
        obtain ⟨rfl, rfl, _⟩ := hv.no rfl
        have hv1 := hv.one hi
        rw [hdd] at hv1
        simp (disch := omega) only [go_sem, ↓reduceIte, simprocAttr, o3, hel, hesi, hdg, hdl, hDo, hDu, hDs, hc, Nat.mul_one]
        refine ⟨_, _, rfl, tidy_mid (B := [_]) (E := E0) (C := [_]) (C' := [.mit 4 ts.length (left.erase i) (some i)]) (M := [.cells D]) ?_ rfl ?_ ?_, .inl ⟨rfl, false, _, _, some i, hv1, ?_⟩⟩
        · rw [hgM]
          simp (disch := omega) only [go_sem, ↓reduceIte, simprocAttr, hu0, hu1, hu2, hu3]
        · simp only [go_sem, ↓reduceIte, simprocAttr, ABlk.underB]
        · simp (disch := omega) only [go_sem, ↓reduceIte, simprocAttr, ABlk.underB, hu4]
        · simp only [go_sem, ↓reduceIte, simprocAttr, ht3]
      | false =>
        have hv1 := hv.next hi
        rw [hdd] at hv1
        simp (disch := omega) only [go_sem, ↓reduceIte, simprocAttr, o3, hel, hesi, hdg, hdl, hDo, hDu, hDs, hc, Nat.mul_one]
        have hlt1 : (if di < l then di else l) = min l di := by omega
        have hlt2 : (if u < di then di else u) = max u di := by omega
        rw [hlt1, hlt2]
        refine ⟨_, _, rfl, tidy_mid (B := [_]) (E := E0) (C := [_]) (C' := [.mit 4 ts.length (left.erase i) (some i)]) (M := [.cells D]) ?_ rfl ?_ ?_, .inl ⟨rfl, false, _, _, some i, hv1, ?_⟩⟩
        · rw [hgM]
          simp (disch := omega) only [go_sem, ↓reduceIte, simprocAttr, hu0, hu1, hu2, hu3]
        · simp only [go_sem, ↓reduceIte, simprocAttr, ABlk.underB]
        · simp (disch := omega) only [go_sem, ↓reduceIte, simprocAttr, ABlk.underB, hu4]
        · simp only [go_sem, ↓reduceIte, simprocAttr, ht3]
    · exact ⟨true, 0, 0, none, Spn.start _ _, by rw [hgM]⟩
  rw [hx]
  simp (disch := omega) only [go_sem, ↓reduceIte, simprocAttr]
  done
end Go.Proofs.YtiighcpimecehaaGreat
end
section
namespace Go.Proofs.YtiighcpimecehaaGreat
open Go.Proofs

def skipW (w b : List Int) : Bool := decide ((w.length : Int) > b.length) || (decide ((w.length : Int) = b.length) && decide (cmpL w b > 0))
def stepW (P : Nat → Bool) (n : Nat) (st : Option Nat) (s : Nat) : Option Nat := match st with
  | some t => if skipW (bitsL s n) (bitsL t n) = true then some t else if P s = true then some s else some t
  | none => if P s = true then some s else none
def bestW (P : Nat → Bool) (n : Nat) : Nat → Option Nat
  | 0 => none
  | k + 1 => stepW P n (bestW P n k) k
theorem shl_six {i : Nat} (hi : i ≤ 6) : IntKind.i64.wrap (1 * 2 ^ min i 64) = ((2 ^ i : Nat) : Int) := by
  match i, hi with
  | 0, _ => rfl
  | 1, _ => rfl
  | 2, _ => rfl
  | 3, _ => rfl
  | 4, _ => rfl
  | 5, _ => rfl
  | 6, _ => rfl
theorem bitsL_le (s n : Nat) : (bitsL s n).length ≤ n := by
  unfold bitsL
  rw [List.length_map]
  have := List.length_filter_le (fun i => s.testBit i) (List.range n)
  simpa using this
def bv (n : Nat) : Option Nat → AV
  | none => .lst 1 0 []
  | some s => vI (bitsL s n)
theorem bv_none (n : Nat) : bv n none = .lst 1 0 [] := rfl
theorem bv_some (n s : Nat) : bv n (some s) = vI (bitsL s n) := rfl
set_option maxHeartbeats 1000000 in
theorem m83 (n : Nat) (hn : n ≤ 6) (f : Nat) (cap : List AV) (P : Nat → Bool) (B : List ABlk) (hcap : cleanL cap = none) (hrr : retRef tabX f = false) (ho : tabX.orc f = none) (tb : List Bool)
    (hp : ∀ (w : Nat) (tb : List Bool), w < 64 → ∃ F, (EW tabX).call f (.int .i64 (w : Int) :: cap) ⟨B, tb⟩ = some (.bool (P w), ⟨B, tb ++ F⟩)) :
    ∃ F, (EW tabX).call 83 [.int .i64 (n : Int), .clo f [] cap] ⟨B, tb⟩ = some (.tup [bv n (bestW P n (2 ^ n)), .bool (bestW P n (2 ^ n)).isSome], ⟨B, tb ++ F⟩) := by
  have hsh := shl_six hn
  have h2n : 2 ^ n ≤ 64 := Nat.pow_le_pow_right (by omega) hn
  rw [w_call _ fn_83 rfl]
  simp only [go_sem, ↓reduceIte, simprocAttr, hsh]
  generalize hx : (EW tabX).code 83 none (Code.loop _) _ = x
  refine w_rounds_sk hx (fun k (_ : List Bool) => [(4, bv n (bestW P n k)), (5, .bool (bestW P n k).isSome), (10, .int .i64 (k : Int))]) (fun q => ⟨B, tb ++ q⟩) (fun _ _ => True) (2 ^ n) (.exit 0)
    (fun _ => [(4, bv n (bestW P n (2 ^ n))), (5, .bool (bestW P n (2 ^ n)).isSome), (10, .int .i64 ((2 ^ n : Nat) : Int))]) rfl [] ?_ ?_ trivial ?_ ?_ ?_
  · simp only [go_sem, ↓reduceIte, simprocAttr, bestW, bv, Option.isSome_none]
  · simp only [List.append_nil]
  · intro k F hk _
    have hki : (k : Int) < ((2 ^ n : Nat) : Int) := by omega
    have hwk : IntKind.i64.wrap ((k : Int) + 1) = (k : Int) + 1 := wrap_i64 (by omega)
    have h84 := m52 k n (by omega) hn
    obtain ⟨F1, h1⟩ := hp k (tb ++ F) (by omega)
    simp only [go_sem, ↓reduceIte, simprocAttr] at h1
    rw [show bestW P n (k + 1) = stepW P n (bestW P n k) k from rfl]
    cases hb : bestW P n k with
    | none =>
      refine ⟨F ++ F1, ?_, trivial⟩
      cases hpk : P k with
      | true =>
        rw [hpk] at h1
        simp only [go_sem, ↓reduceIte, simprocAttr, stepW, hpk, bv_none, bv_some, Option.isSome_none, Option.isSome_some, hki, h84, hcap, hrr, ho, h1, hwk, vI]
        done
      | false =>
        rw [hpk] at h1
        simp only [go_sem, ↓reduceIte, simprocAttr, stepW, hpk, bv_none, bv_some, Option.isSome_none, Option.isSome_some, hki, h84, hcap, hrr, ho, h1, hwk, vI]
        done
    | some t =>
      have h85 := c64 (bitsL k n) (bitsL t n) (zT 1 (bitsL k n).length) (zT 1 (bitsL t n).length) (fun h => zT_pos (List.length_pos_iff.2 h)) (fun h => zT_pos (List.length_pos_iff.2 h)) (by have := bitsL_le k n; omega) (by have := bitsL_le t n; omega)
      by_cases g1 : ((bitsL k n).length : Int) > (bitsL t n).length
      · refine ⟨F, ?_, trivial⟩
        have hsk : skipW (bitsL k n) (bitsL t n) = true := by unfold skipW; simp only [g1, decide_true, Bool.true_or]
        simp only [go_sem, ↓reduceIte, simprocAttr, stepW, hsk, bv_none, bv_some, Option.isSome_none, Option.isSome_some, hki, h84, hwk, vI, g1]
        done
      · by_cases g2 : ((bitsL k n).length : Int) = (bitsL t n).length
        · have g2b : (((bitsL k n).length : Int) == (bitsL t n).length) = true := by simpa using g2
          by_cases g3 : cmpL (bitsL k n) (bitsL t n) > 0
          · refine ⟨F, ?_, trivial⟩
            have hsk : skipW (bitsL k n) (bitsL t n) = true := by unfold skipW; rw [decide_eq_true g2, decide_eq_true g3]; simp
            simp only [go_sem, ↓reduceIte, simprocAttr, stepW, hsk, bv_none, bv_some, Option.isSome_none, Option.isSome_some, hki, h84, h85, hwk, vI, g1, g2b, g3]
            done
          · have hsk : skipW (bitsL k n) (bitsL t n) = false := by unfold skipW; rw [decide_eq_false g1, decide_eq_false g3]; simp
            refine ⟨F ++ F1, ?_, trivial⟩
            cases hpk : P k with
            | true =>
              rw [hpk] at h1
              simp only [go_sem, ↓reduceIte, simprocAttr, stepW, hsk, hpk, bv_none, bv_some, Option.isSome_none, Option.isSome_some, hki, h84, h85, hcap, hrr, ho, h1, hwk, vI, g1, g2b, g3]
              done
            | false =>
              rw [hpk] at h1
              simp only [go_sem, ↓reduceIte, simprocAttr, stepW, hsk, hpk, bv_none, bv_some, Option.isSome_none, Option.isSome_some, hki, h84, h85, hcap, hrr, ho, h1, hwk, vI, g1, g2b, g3]
              done
        · have g2b : (((bitsL k n).length : Int) == (bitsL t n).length) = false := by simpa using g2
          have hsk : skipW (bitsL k n) (bitsL t n) = false := by unfold skipW; rw [decide_eq_false g1, decide_eq_false g2]; simp
          refine ⟨F ++ F1, ?_, trivial⟩
          cases hpk : P k with
          | true =>
            rw [hpk] at h1
            simp only [go_sem, ↓reduceIte, simprocAttr, stepW, hsk, hpk, bv_none, bv_some, Option.isSome_none, Option.isSome_some, hki, h84, h85, hcap, hrr, ho, h1, hwk, vI, g1, g2b]
            done
          | false =>
            rw [hpk] at h1
            simp only [go_sem, ↓reduceIte, simprocAttr, stepW, hsk, hpk, bv_none, bv_some, Option.isSome_none, Option.isSome_some, hki, h84, h85, hcap, hrr, ho, h1, hwk, vI, g1, g2b]
            done
  · intro q _
    simp only [go_sem, ↓reduceIte, simprocAttr, Int.lt_irrefl]
  · intro q h1 _
    subst h1
    refine ⟨q, ?_⟩
    cases hb : bestW P n (2 ^ n) with
    | none => simp only [go_sem, ↓reduceIte, simprocAttr, bv_none, Option.isSome_none]
    | some t => simp only [go_sem, ↓reduceIte, simprocAttr, bv_some, Option.isSome_some, vI]
end Go.Proofs.YtiighcpimecehaaGreat
end
section
namespace Go.Proofs.YtiighcpimecehaaGreat
open Go.Proofs

def needA (m : Mo) : Nat → Int
  | 0 => 0
  | k + 1 => needA m k + penceAt m k
def needS (m : Mo) : Nat → Int
  | 0 => 0
  | k + 1 => needS m k + (if sureB (evN (truthsM m 0) k) = true then penceAt m k else 0)
theorem need_bd {m : Mo} (ho : m.Ok) : ∀ k : Nat, (0 ≤ needA m k ∧ needA m k ≤ 99 * k) ∧ 0 ≤ needS m k ∧ needS m k ≤ 99 * k
  | 0 => by simp [needA, needS]
  | k + 1 => by
    have := need_bd ho k
    have := pence_bd ho k
    unfold needA needS
    split <;> omega
theorem m112_nil (f b : Nat) (t z : Nat) (h : Heap) : (EW tabX).call 112 [.lst t z [], .clo f [] [.ref b 0]] h = some (.int .i64 (-1), h) := by
  obtain ⟨B, ht⟩ := h
  rw [w_call _ fn_112 rfl]
  simp only [go_sem, ↓reduceIte, simprocAttr]
  rw [w_rounds_u (fun k => [(8, .int .i64 k)]) 0 (.exit 0) [(8, .int .i64 0)] ?_ ?_ ?_ rfl]
  · simp only [go_sem, ↓reduceIte, simprocAttr]
  · simp only [go_sem, ↓reduceIte, simprocAttr]
  · intro k hk; omega
  · simp only [go_sem, ↓reduceIte, simprocAttr]
theorem m86_nil (f b : Nat) (t z : Nat) (h : Heap) : (EW tabX).call 86 [.lst t z [], .clo f [] [.ref b 0]] h = some (.bool false, h) := by
  obtain ⟨B, ht⟩ := h
  have h112 := m112_nil f b
  rw [w_call _ fn_86 rfl]
  simp only [go_sem, ↓reduceIte, simprocAttr, h112]
set_option maxHeartbeats 1000000 in
theorem m39 (m : Mo) (hm : m.fits) (he : enterM m 0 [] = 0) (hp : m.paid = []) (h : Heap) : callPure (EW tabX) 39 [eM m] h = some (.tup [.int .i64 (needS m m.sums.length), .int .i64 (needA m m.sums.length), .int .i64 0], h) := by
  have hcl := eM_clean m
  rw [callPure_eq, w_call _ fn_39 rfl]
  obtain ⟨h0, h1, h2⟩ := enterM_zero he
  have ho := (ok_of_checkM h0).1
  obtain ⟨J, t, h46⟩ := enterY m hm 0 (fun _ => by omega) [] 0 (fun h => absurd rfl h) (by simp) he 1
  have h51 := fun (B : List ABlk) (t : List Bool) (k : Nat) (hk : k < m.sums.length) (hB : B[4]? = some (.cells (eLc m (cameM m 0) 3 (evL m (truthsM m 0))))) => m51 m (cameM m 0) 3 (evL m (truthsM m 0)) (evL_len _ _) 4 k (by have := ho.s5; omega) (evN (truthsM m 0) k) (ev_lt ho 0 k) (evL_get ho hk) ⟨B, t⟩ hB
  obtain ⟨E0, hE⟩ : ∃ E0, E0 = EM m (truthsM m 0) J := ⟨_, rfl⟩
  have o0 : ∀ X, (E0 ++ X)[0]? = some (.cells (eMc m)) := fun X => by rw [hE]; rfl
  have o4 : ∀ X, (E0 ++ X)[4]? = some (.cells (eLc m (cameM m 0) 3 (evL m (truthsM m 0)))) := fun X => by rw [hE]; rfl
  have o0' := o0 []
  have o4' := o4 []
  rw [List.append_nil] at o0' o4'
  rw [← hE] at h46
  clear hE
  have s5 := ho.s5
  simp only [eM, eMc, I_nil, hp, List.map_nil] at h46 hcl o0 o0'
  simp (disch := omega) only [go_sem, ↓reduceIte, simprocAttr, eM, eMc, hcl, h46, o0, o0', hp]
  generalize hx : (EW tabX).code 39 none (Code.loop _) _ = x
  refine w_rounds_sk hx (fun k (_ : List ABlk × List Bool) => [(2, .int .i64 (needS m k)), (3, .int .i64 (needA m k)), (19, .int .i64 (k : Int))]) (fun q => ⟨E0 ++ q.1, t ++ q.2⟩) (fun _ _ => True) m.sums.length (.exit 0)
    (fun _ => [(2, .int .i64 (needS m m.sums.length)), (3, .int .i64 (needA m m.sums.length)), (19, .int .i64 (m.sums.length : Int))]) rfl ([], []) ?_ ?_ trivial ?_ ?_ ?_
  · simp only [go_sem, ↓reduceIte, simprocAttr, needS, needA]
  · simp only [List.append_nil]
  · rintro k ⟨B, F⟩ hk _
    have hki : (k : Int) < m.sums.length := by omega
    have hx := List.getElem?_eq_getElem hk
    have hz1 : m.zs = 3 := hm.zs (by intro e; rw [e] at hk; simp at hk)
    have hbd := need_bd ho k
    have hpb := pence_bd ho k
    have hpa : penceAt m k = (m.sums[k]).pence := by unfold penceAt; rw [hx]
    have hS : needS m (k + 1) = needS m k + (if sureB (evN (truthsM m 0) k) = true then penceAt m k else 0) := rfl
    have hA : needA m (k + 1) = needA m k + penceAt m k := rfl
    have h86 := m86_nil 87
    have h51 := fun X t => h51 (E0 ++ X) t k hk (o4 X)
    rw [hpa] at hS hA hpb
    generalize needS m (k + 1) = S1 at hS ⊢
    generalize needA m (k + 1) = A1 at hA ⊢
    generalize needS m k = S0 at hS hbd ⊢
    generalize needA m k = A0 at hA hbd ⊢
    generalize m.sums[k] = w at hx hS hA hpb
    cases hsu : sureB (evN (truthsM m 0) k) with
    | true =>
      rw [hsu] at h51
      rw [hsu, if_pos rfl] at hS
      subst hS hA
      refine ⟨(B ++ [.cells [.int .i64 k], bSu w], F), ?_, trivial⟩
      simp (disch := omega) only [go_sem, ↓reduceIte, simprocAttr, hki, hz1, eSu_get, hx, eSu, bSu, o0, o4, hp, h86, h51, wrap_i64]
      done
    | false =>
      rw [hsu] at h51
      rw [hsu, if_neg (by decide), Int.add_zero] at hS
      subst hS hA
      refine ⟨(B ++ [.cells [.int .i64 k], bSu w], F), ?_, trivial⟩
      simp (disch := omega) only [go_sem, ↓reduceIte, simprocAttr, hki, hz1, eSu_get, hx, eSu, bSu, o0, o4, hp, h86, h51, wrap_i64]
      done
  · intro q _
    simp only [go_sem, ↓reduceIte, simprocAttr, Int.lt_irrefl]
  · rintro ⟨B, F⟩ h1 _
    subst h1
    simp (disch := omega) only [go_sem, ↓reduceIte, simprocAttr, o0]
    done
end Go.Proofs.YtiighcpimecehaaGreat
end
section
namespace Go.Proofs.YtiighcpimecehaaGreat
open Go.Proofs

def waitB (m : Mo) (w : Nat) : Bool := if (IntKind.i64.wrap ((BitVec.ofInt 64 (w : Int) &&& BitVec.ofInt 64 ((cameM m 0 : Nat) : Int)).toNat : Nat) != 0) = true then false else decide (0 < (truthsM m w).length) && decide (heldK (evN (truthsM m w)) m.sums.length = [])
set_option maxHeartbeats 1000000 in
theorem m84 (m : Mo) (hm : m.fits) (ho : m.Ok) (B : List ABlk) (q : Nat) (r i : Nat) (hr : B[r]? = some (.cells [.ref i 0])) (hi : B[i]? = some (.cells (eLc m (cameM m 0) q (evL m (truthsM m 0))))) (h0 : B[0]? = some (.cells (eMc m)))
    (w : Nat) (hw : w < 64) (tb : List Bool) : ∃ F, (EW tabX).call 84 [.int .i64 (w : Int), .ref r 0, .ref 0 0] ⟨B, tb⟩ = some (.bool (waitB m w), ⟨B, tb ++ F⟩) := by
  obtain ⟨J, F, h85⟩ := m85 m hm ho w hw ⟨B, tb⟩
  have h82 := m82 m ho (cameM m w) (B.length + 1) (evL m (truthsM m w)) (evL_len _ _) (evN (truthsM m w)) (fun k hk => ⟨evL_get ho hk, ev_lt ho w k⟩) (B.length + 2) (PM m (cameM m w) B J (truthsM m w)) (tb ++ F) (by simp [PM])
  have hd : dfsM m (cameM m w) m.sums.length [] = truthsM m w := rfl
  have hel := esM_len m (truthsM m w)
  rw [hd] at h85
  rw [w_call _ fn_84 rfl]
  have hw : waitB m w = if (IntKind.i64.wrap ((BitVec.ofInt 64 (w : Int) &&& BitVec.ofInt 64 ((cameM m 0 : Nat) : Int)).toNat : Nat) != 0) = true then false else decide (0 < (truthsM m w).length) && decide (heldK (evN (truthsM m w)) m.sums.length = []) := rfl
  generalize waitB m w = wb at hw ⊢
  generalize truthsM m w = ts at *
  generalize heldK (evN ts) m.sums.length = hk at *
  simp (disch := omega) only [go_sem, ↓reduceIte, simprocAttr, hr, hi, h0, eLc, eMc]
  generalize hcb : (IntKind.i64.wrap _ != 0) = cb
  have hw : wb = if cb = true then false else decide (0 < ts.length) && decide (hk = []) := by rw [hw, ← hcb]; rfl
  cases cb with
  | true =>
    refine ⟨[], ?_⟩
    simp (disch := omega) only [go_sem, ↓reduceIte, simprocAttr, hw]
  | false =>
    rw [if_neg (by decide)] at hw
    have h46 := h85
    simp only [eM, eMc, PM, eLc, I_c, I_nil, List.cons_append, List.nil_append, List.append_assoc] at h85 h82
    cases ts with
    | nil =>
      refine ⟨F, ?_⟩
      simp (disch := omega) only [go_sem, ↓reduceIte, simprocAttr, hw, h85, hel, List.length_nil, esM]
      done
    | cons t0 ts =>
      cases hk with
      | nil =>
        refine ⟨F, ?_⟩
        have hpos : (0 : Int) < ts.length + 1 := by omega
        simp (disch := omega) only [go_sem, ↓reduceIte, simprocAttr, hw, h85, hel, h82, ownT, hpos, Nat.zero_lt_succ]
        done
      | cons x l =>
        have hpos : (0 : Int) < ts.length + 1 := by omega
        have hne : ¬ x :: l = [] := by simp
        have hz : (((l.length : Int) + 1) == 0) = false := by simp; omega
        simp (disch := omega) only [go_sem, ↓reduceIte, simprocAttr, hw, h85, hel, h82, ownT, hpos, Nat.zero_lt_succ, hne, hz]
        exact ⟨F ++ (List.replicate l.length false ++ [true]), by simp only [T, List.append_assoc]⟩
def waitV (m : Mo) : AV := match bestW (waitB m) m.words.length (2 ^ m.words.length) with
  | none => .tup [vI [], .int .i64 9]
  | some s => .tup [vI (bitsL s m.words.length), .int .i64 0]
theorem m38 (m : Mo) (hm : m.fits) (he : enterM m 0 [] = 0) (h : Heap) : callPure (EW tabX) 38 [eM m] h = some (waitV m, h) := by
  have hcl := eM_clean m
  rw [callPure_eq, w_call _ fn_38 rfl]
  obtain ⟨h0, h1, h2⟩ := enterM_zero he
  have ho := (ok_of_checkM h0).1
  obtain ⟨J, t, h46⟩ := enterY m hm 0 (fun _ => by omega) [] 0 (fun h => absurd rfl h) (by simp) he 1
  obtain ⟨E0, hE⟩ : ∃ E0, E0 = EM m (truthsM m 0) J := ⟨_, rfl⟩
  have o0 : ∀ X, (E0 ++ X)[0]? = some (.cells (eMc m)) := fun X => by rw [hE]; rfl
  have o4 : ∀ X, (E0 ++ X)[4]? = some (.cells (eLc m (cameM m 0) 3 (evL m (truthsM m 0)))) := fun X => by rw [hE]; rfl
  have o0' := o0 []
  rw [List.append_nil] at o0'
  rw [← hE] at h46
  have hb4 : 4 < E0.length + 1 := by rw [hE]; simp [EM]
  clear hE
  obtain ⟨F, h83⟩ := m83 m.words.length ho.o6 84 [.ref E0.length 0, .ref 0 0] (waitB m) (E0 ++ [.cells [.ref 4 0]]) (by simp only [go_sem, ↓reduceIte, simprocAttr]) rr_84 (by rfl) t
    (fun w tb hw => m84 m hm ho (E0 ++ [.cells [.ref 4 0]]) 3 E0.length 4 (by simp) (o4 _) (o0 _) w hw tb)
  unfold waitV
  simp only [eM, eMc, I_nil] at h46 hcl o0 o0'
  cases hb : bestW (waitB m) m.words.length (2 ^ m.words.length) with
  | none =>
    rw [hb] at h83
    simp only [go_sem, ↓reduceIte, simprocAttr, bv_none] at h83
    simp (disch := omega) only [go_sem, ↓reduceIte, simprocAttr, eM, eMc, hcl, h46, o0, o0', hb4, h83, vI, Option.isSome_none, Option.isSome_some]
    done
  | some s =>
    rw [hb] at h83
    simp only [go_sem, ↓reduceIte, simprocAttr, bv_some, vI] at h83
    simp (disch := omega) only [go_sem, ↓reduceIte, simprocAttr, eM, eMc, hcl, h46, o0, o0', hb4, h83, vI, Option.isSome_none, Option.isSome_some]
    done
end Go.Proofs.YtiighcpimecehaaGreat
end
section
namespace Go.Proofs.YtiighcpimecehaaGreat
open Go.Proofs

def sumsK (m : Mo) (but : Nat) : Nat → Nat
  | 0 => 0
  | k + 1 => if but.testBit k = true then sumsK m but k else match m.paid[k]? with | some p => sumsK m but k ||| 2 ^ p.sum.toNat | none => sumsK m but k
def rightI (m : Mo) (a : List Int) (but k : Nat) : Bool := match m.paid[k]? with
  | some p => but.testBit k || (!(sumsK m but k).testBit p.sum.toNat && a.getD p.sum.toNat 0 == p.who)
  | none => true
def rightB (m : Mo) (a : List Int) (but : Nat) : Bool := allTo (rightI m a but) m.paid.length
theorem sumsK_lt {m : Mo} (ho : m.Ok) (but : Nat) : ∀ k : Nat, sumsK m but k < 64
  | 0 => by simp [sumsK]
  | k + 1 => by
    have h := sumsK_lt ho but k
    unfold sumsK
    split
    · exact h
    · split
      · rename_i p hp
        have := ho.paid p (List.mem_of_getElem? hp)
        have s5 := ho.s5
        exact or64_lt ⟨_, h⟩ ⟨p.sum.toNat, by omega⟩
      · exact h
theorem shr1_c {s i : Nat} (hs : s < 64) (hi : i < 6) : (IntKind.i64.wrap (((@HAnd.hAnd (BitVec 64) (BitVec 64) (BitVec 64) (@instHAndOfAndOp (BitVec IntKind.i64.bits) (BitVec.instAndOp : AndOp (BitVec IntKind.i64.bits))) (BitVec.ofInt 64 ((s : Int).fdiv (2 ^ (min i 64)))) (1#64)).toNat : Nat) : Int) == 1) = s.testBit i := shr64 ⟨s, hs⟩ ⟨i, hi⟩
set_option maxHeartbeats 1000000 in
theorem m89 (m : Mo) (hm : m.fits) (ho : m.Ok) (came q : Nat) (ev : List Int) (r : Nat) (a : List Int) (ha : a.length = 5) (but : Nat) (hbut : but < 64) (h : Heap) (hr : h.b[r]? = some (.cells (eLc m came q ev))) :
   (EW tabX).call 89 [.ref r 0, .agg (I a), .int .i64 but] h = some (.bool (rightB m a but), h) := by
  obtain ⟨B, ht⟩ := h
  have hr : B[r]? = some (.cells (eLc m came q ev)) := hr
  simp only [eLc, List.cons_append, List.nil_append] at hr
  have oR := old hr
  have s5 := ho.s5
  have p5 := ho.p5
  have hz := fun (hne : 0 < m.paid.length) => hm.zp (by intro e; rw [e] at hne; simp at hne)
  have step : ∀ k c, m.paid[k]? = some c → B ++ .cells (I a) :: (m.paid.take (k + 1)).map bPd = B ++ .cells (I a) :: (m.paid.take k).map bPd ++ [bPd c] := fun k c hx => by rw [map_succ _ hx, ← List.cons_append, List.append_assoc]
  rw [w_call _ fn_89 rfl]
  simp only [go_sem, ↓reduceIte, simprocAttr, hr, oR]
  rw [w_first (fun k => [(7, .int .i64 (sumsK m but k : Nat)), (16, .int .i64 k)]) (fun k => ⟨B ++ .cells (I a) :: (m.paid.take k).map bPd, ht⟩) (firstE (rightI m a but)) m.paid.length .ret
    (fun k => [(6, .bool false), (7, .int .i64 (sumsK m but k : Nat)), (8, .int .i64 k), (9, .ref (B ++ .cells (I a) :: (m.paid.take k).map bPd).length 0), (16, .int .i64 k)]) (fun k => ⟨B ++ .cells (I a) :: (m.paid.take (k + 1)).map bPd, ht⟩)
    (.exit 0) [(7, .int .i64 (sumsK m but m.paid.length : Nat)), (16, .int .i64 m.paid.length)] ⟨B ++ .cells (I a) :: m.paid.map bPd, ht⟩ ?_ ?_ ?_ ?_ ?_ rfl rfl]
  · unfold firstW rightB
    cases hf : firstBad (firstE (rightI m a but)) 0 m.paid.length with
    | some n =>
      have : allTo (rightI m a but) m.paid.length = false := by
        cases hal : allTo (rightI m a but) m.paid.length with
        | false => rfl
        | true => rw [firstE_all.2 hal] at hf; cases hf
      rw [this]
      simp only [go_sem, ↓reduceIte, simprocAttr]
    | none =>
      rw [firstE_all.1 hf]
      simp only [go_sem, ↓reduceIte, simprocAttr]
  · simp only [go_sem, ↓reduceIte, simprocAttr, sumsK]
  · simp only [go_sem, ↓reduceIte, simprocAttr]
  · intro k hk h0
    have hx := List.getElem?_eq_getElem hk
    have hki : (k : Int) < m.paid.length := by omega
    have hz1 := hz (by omega)
    have h0 := firstE_zero.1 h0
    have hsk := shr1_c hbut (show k < 6 by omega)
    have hpk := ho.paid m.paid[k] (List.getElem_mem _)
    have hK : sumsK m but (k + 1) = if but.testBit k = true then sumsK m but k else sumsK m but k ||| 2 ^ (m.paid[k]).sum.toNat := by
      show (if but.testBit k = true then sumsK m but k else match m.paid[k]? with | some p => sumsK m but k ||| 2 ^ p.sum.toNat | none => sumsK m but k) = _
      rw [hx]
    have h0' : (but.testBit k || (!(sumsK m but k).testBit (m.paid[k]).sum.toNat && a.getD (m.paid[k]).sum.toNat 0 == (m.paid[k]).who)) = true := by
      unfold rightI at h0; rw [hx] at h0; exact h0
    have hlt := sumsK_lt ho but k
    rw [step k _ hx, hK]
    generalize m.paid[k] = p at *
    generalize sumsK m but k = K at *
    obtain ⟨ps, pw⟩ := p
    simp only at hpk h0' ⊢
    obtain ⟨j, rfl⟩ := Int.eq_ofNat_of_zero_le hpk.1
    rw [Int.toNat_natCast] at h0'
    rw [Int.toNat_natCast]
    have hsj := shr1_c hlt (show j < 6 by omega)
    have hor := or_c hlt (show j < 6 by omega)
    have hsl := shl6 (show j < 6 by omega)
    have haj : (a.drop j)[0]? = some (a.getD j 0) := by rw [List.getElem?_drop, Nat.add_zero, List.getElem?_eq_getElem (by omega), List.getD_eq_getElem?_getD, List.getElem?_eq_getElem (by omega)]; rfl
    have hj5 : j < 5 := by omega
    have hal : (I a).length = 5 := by rw [I_len]; exact ha
    have oC : ∀ X, (B ++ .cells (I a) :: (m.paid.take k).map bPd ++ X)[B.length]? = some (.cells (I a)) := fun X => by rw [List.append_assoc]; simp
    have hBC : B.length < (B ++ .cells (I a) :: (m.paid.take k).map bPd).length := by simp
    generalize B ++ .cells (I a) :: (m.paid.take k).map bPd = C at oC hBC ⊢
    cases hb : but.testBit k with
    | true =>
      rw [hb] at hsk
      simp (disch := omega) only [go_sem, ↓reduceIte, simprocAttr, hki, hz1, ePd_get, hx, ePd, bPd, wrap_i64, hsk]
    | false =>
      rw [hb] at hsk h0'
      have h2 : K.testBit j = false ∧ (a.getD j 0 == pw) = true := by simpa using h0'
      have h3 : (a.getD j 0 != pw) = false := by rw [bne, h2.2]; rfl
      rw [h2.1] at hsj
      simp (disch := omega) only [go_sem, ↓reduceIte, simprocAttr, hki, hz1, ePd_get, hx, ePd, bPd, wrap_i64, hsk, hsj, hj5, oC, hal, haj, h3, hsl, hor, Nat.mul_one]
      done
  · intro k hk h0
    have hx := List.getElem?_eq_getElem hk
    have hki : (k : Int) < m.paid.length := by omega
    have hz1 := hz (by omega)
    have h0 : rightI m a but k = false := by
      cases hh : rightI m a but k with
      | false => rfl
      | true => exact absurd (firstE_zero.2 hh) h0
    have hsk := shr1_c hbut (show k < 6 by omega)
    have hpk := ho.paid m.paid[k] (List.getElem_mem _)
    have hK : sumsK m but (k + 1) = if but.testBit k = true then sumsK m but k else sumsK m but k ||| 2 ^ (m.paid[k]).sum.toNat := by
      show (if but.testBit k = true then sumsK m but k else match m.paid[k]? with | some p => sumsK m but k ||| 2 ^ p.sum.toNat | none => sumsK m but k) = _
      rw [hx]
    have h0' : (but.testBit k || (!(sumsK m but k).testBit (m.paid[k]).sum.toNat && a.getD (m.paid[k]).sum.toNat 0 == (m.paid[k]).who)) = false := by
      unfold rightI at h0; rw [hx] at h0; exact h0
    have hlt := sumsK_lt ho but k
    rw [step k _ hx]
    generalize m.paid[k] = p at *
    generalize sumsK m but k = K at *
    obtain ⟨ps, pw⟩ := p
    simp only at hpk h0' ⊢
    obtain ⟨j, rfl⟩ := Int.eq_ofNat_of_zero_le hpk.1
    rw [Int.toNat_natCast] at h0'
    skip
    have hsj := shr1_c hlt (show j < 6 by omega)
    have hor := or_c hlt (show j < 6 by omega)
    have hsl := shl6 (show j < 6 by omega)
    have haj : (a.drop j)[0]? = some (a.getD j 0) := by rw [List.getElem?_drop, Nat.add_zero, List.getElem?_eq_getElem (by omega), List.getD_eq_getElem?_getD, List.getElem?_eq_getElem (by omega)]; rfl
    have hj5 : j < 5 := by omega
    have hal : (I a).length = 5 := by rw [I_len]; exact ha
    have oC : ∀ X, (B ++ .cells (I a) :: (m.paid.take k).map bPd ++ X)[B.length]? = some (.cells (I a)) := fun X => by rw [List.append_assoc]; simp
    have hBC : B.length < (B ++ .cells (I a) :: (m.paid.take k).map bPd).length := by simp
    generalize B ++ .cells (I a) :: (m.paid.take k).map bPd = C at oC hBC ⊢
    have hb : but.testBit k = false := by
      cases hb : but.testBit k with
      | false => rfl
      | true => rw [hb] at h0'; simp at h0'
    rw [hb] at hsk h0'
    cases h2 : K.testBit j with
    | true =>
      rw [h2] at hsj
      simp (disch := omega) only [go_sem, ↓reduceIte, simprocAttr, hki, hz1, ePd_get, hx, ePd, bPd, wrap_i64, hsk, hsj, hj5, oC, hal, haj, hsl, hor, Nat.mul_one]
      done
    | false =>
      rw [h2] at hsj h0'
      have h2 : (a.getD j 0 == pw) = false := by simpa using h0'
      have h3 : (a.getD j 0 != pw) = true := by rw [bne, h2]; rfl
      simp (disch := omega) only [go_sem, ↓reduceIte, simprocAttr, hki, hz1, ePd_get, hx, ePd, bPd, wrap_i64, hsk, hsj, hj5, oC, hal, haj, h3, hsl, hor, Nat.mul_one]
      done
  · simp (disch := omega) only [go_sem, ↓reduceIte, simprocAttr, Int.lt_irrefl]
end Go.Proofs.YtiighcpimecehaaGreat
end
section
namespace Go.Proofs.YtiighcpimecehaaGreat
open Go.Proofs

def someR (m : Mo) (w : Nat) : Bool := (truthsM m 0).any fun t => rightB m (arr5 t) w
set_option maxHeartbeats 2000000 in
theorem m88 (m : Mo) (hm : m.fits) (ho : m.Ok) (B : List ABlk) (q : Nat) (r i : Nat) (hr : B[r]? = some (.cells [.ref i 0])) (hi : B[i]? = some (.cells (eLc m (cameM m 0) q (evL m (truthsM m 0))))) (hq : B[q]? = some (.map (esM m (truthsM m 0))))
    (w : Nat) (hw : w < 64) (tb : List Bool) : (EW tabX).call 88 [.int .i64 (w : Int), .ref r 0] ⟨B, tb⟩ = some (.bool (someR m w), ⟨B, tb⟩) := by
  have h89 := fun (a : List Int) (ha : a.length = 5) (h : Heap) (hr : h.b[i]? = some (.cells (eLc m (cameM m 0) q (evL m (truthsM m 0))))) => m89 m hm ho (cameM m 0) q (evL m (truthsM m 0)) i a ha w hw h hr
  have oR := old hr
  have oI := old hi
  have oQ := old hq
  have oQ' := hq
  have hrl := (List.getElem?_eq_some_iff.1 hr).1
  have hil := (List.getElem?_eq_some_iff.1 hi).1
  have hql := (List.getElem?_eq_some_iff.1 hq).1
  have hrows := fun (k : Nat) (hk : k < (truthsM m 0).length) => truthsM_ok (List.getElem_mem hk)
  have hS : someR m w = (truthsM m 0).any fun t => rightB m (arr5 t) w := rfl
  have hel := esM_len m (truthsM m 0)
  generalize someR m w = sr at hS ⊢
  generalize truthsM m 0 = ts at *
  have s5 := ho.s5
  have hqb : q < B.length + 1 := by omega
  rw [w_call _ fn_88 rfl]
  have oI0 := oI
  have hi0 := hi
  simp only [eLc, List.cons_append, List.nil_append] at oI hi
  simp (disch := omega) only [go_sem, ↓reduceIte, simprocAttr, hr, hi, hq, oR, oI, oQ, hel, hqb, hql]
  have hr1 : r < B.length + 1 := by omega
  have ht1 : ∀ (a b : ABlk), List.take (B.length + 1) (B ++ [a, b]) = B ++ [a] := fun a b => by rw [show B ++ [a, b] = (B ++ [a]) ++ [b] by simp, List.take_left' (by simp)]
  generalize hlx : (EW tabX).code 88 none (Code.loop _) _ = x
  have hx : x = some (if sr = true then .ret else .exit 0, ⟨⟨[(0, .int .i64 w), (1, .ref r 0), (3, .bool sr), (9, .ref B.length 0)], []⟩, ⟨B ++ [.none], tb⟩, []⟩) := by
    refine w_map_x hlx rfl (fun left s => ∃ cur, (left.Nodup ∧ (∀ k ∈ left, k < ts.length) ∧ ∀ k t, ts[k]? = some t → k ∉ left → rightB m (arr5 t) w = false) ∧ s = ⟨⟨[(0, .int .i64 w), (1, .ref r 0), (3, .bool false), (9, .ref B.length 0)], []⟩, ⟨B ++ [.mit q ts.length left cur], tb⟩, []⟩) _ B.length q ts.length (esM m ts) hel ?_ ?_ ?_ (List.range ts.length) ?_
    · rintro left s ⟨cur, ⟨h1, h2, h3⟩, rfl⟩
      refine ⟨?_, ⟨cur, ?_⟩, ?_, h1, h2⟩
      · simp only [go_sem, ↓reduceIte, simprocAttr]
      · simp only [go_sem, ↓reduceIte, simprocAttr]
      · simp only [go_sem, ↓reduceIte, simprocAttr, oQ]
    · rintro s ⟨cur, ⟨h1, h2, h3⟩, rfl⟩
      have : sr = false := by
        rw [hS]
        cases hh : ts.any fun t => rightB m (arr5 t) w with
        | false => rfl
        | true =>
          obtain ⟨t, ht, e⟩ := List.any_eq_true.1 hh
          obtain ⟨k, hk, rfl⟩ := List.mem_iff_getElem.1 ht
          rw [h3 k _ (List.getElem?_eq_getElem hk) (by simp)] at e; cases e
      subst this
      simp only [go_sem, ↓reduceIte, simprocAttr]
    · rintro left s k ⟨cur, ⟨h1, h2, h3⟩, rfl⟩ hk
      have hk2 := h2 k hk
      have hx := List.getElem?_eq_getElem hk2
      have hl5 := arr5_len (t := ts[k]) (by have := (hrows k hk2).2; omega)
      have hesi : (esM m ts)[k]? = some (.agg (I (arr5 ts[k])), .agg (I (dueL m (arr5 ts[k]) m.sums.length))) := by rw [esM_get, hx]; rfl
      have hmem : ts[k] ∈ ts := List.getElem_mem hk2
      generalize ts[k] = u at hesi hl5 hx hmem
      have h5 : 5 ≤ (arr5 u).length := by omega
      have hp5 : 0 < (arr5 u).length := by omega
      have htk : (arr5 u).take 5 = arr5 u := List.take_of_length_le (by omega)
      have hsp := fun x0 x1 x2 x3 x4 => splice5 x0 x1 x2 x3 x4 (arr5 u) hl5
      have h89 := fun X tb => h89 (arr5 u) hl5 ⟨B ++ X, tb⟩ (oI0 X)
      simp (disch := omega) only [go_sem, ↓reduceIte, simprocAttr, oR, oI, oQ, hel, hesi, hp5, h5, hl5, htk, hsp, h89]
      cases hb : rightB m (arr5 u) w with
      | true =>
        have : sr = true := by rw [hS, List.any_eq_true]; exact ⟨u, hmem, hb⟩
        subst this
        simp only [go_sem, ↓reduceIte, simprocAttr]
        refine ⟨_, _, rfl, tidy_of (B := B) (C := [_]) (C' := [.mit q ts.length (left.erase k) (some k)]) (M := [.cells (I (arr5 u))]) ?_ rfl ?_, .inr ⟨rfl, ⟨q, ts.length, left.erase k, some k, by simp only [go_sem, ↓reduceIte, simprocAttr]⟩, ?_⟩⟩
        · simp (disch := omega) only [go_sem, ↓reduceIte, simprocAttr, hr1, Nat.lt_succ_self]
        · simp (disch := omega) only [go_sem, ↓reduceIte, simprocAttr, ABlk.underB, hql, hqb]
        · simp only [go_sem, ↓reduceIte, simprocAttr, ht1]
      | false =>
        simp only [go_sem, ↓reduceIte, simprocAttr]
        refine ⟨_, _, rfl, tidy_of (B := B) (C := [_]) (C' := [.mit q ts.length (left.erase k) (some k)]) (M := [.cells (I (arr5 u))]) ?_ rfl ?_, .inl ⟨rfl, some k, ⟨h1.erase k, fun j hj => h2 j (List.mem_of_mem_erase hj), fun j t hj hn => ?_⟩, ?_⟩⟩
        · simp (disch := omega) only [go_sem, ↓reduceIte, simprocAttr, hr1, Nat.lt_succ_self]
        · simp (disch := omega) only [go_sem, ↓reduceIte, simprocAttr, ABlk.underB, hql, hqb]
        · by_cases e : j = k
          · subst e
            rw [hx] at hj
            cases hj
            exact hb
          · exact h3 j t hj (fun hm => hn ((h1.mem_erase_iff).2 ⟨e, hm⟩))
        · simp only [go_sem, ↓reduceIte, simprocAttr, ht1]
    · exact ⟨none, ⟨List.nodup_range, fun k hk => List.mem_range.1 hk, fun k t hk hn => absurd (List.mem_range.2 (List.getElem?_eq_some_iff.1 hk).1) hn⟩, rfl⟩
  rw [hx]
  cases sr with
  | true => simp (disch := omega) only [go_sem, ↓reduceIte, simprocAttr]
  | false => simp (disch := omega) only [go_sem, ↓reduceIte, simprocAttr]
def wrongM (m : Mo) : List Int := match bestW (someR m) m.paid.length (2 ^ m.paid.length) with
  | none => []
  | some s => bitsL s m.paid.length
theorem m40 (m : Mo) (hm : m.fits) (he : enterM m 0 [] = 0) (h : Heap) : callPure (EW tabX) 40 [eM m] h = some (.tup [vI (wrongM m), .int .i64 0], h) := by
  have hcl := eM_clean m
  rw [callPure_eq, w_call _ fn_40 rfl]
  obtain ⟨h0, h1, h2⟩ := enterM_zero he
  have ho := (ok_of_checkM h0).1
  have p5 := ho.p5
  obtain ⟨J, t, h46⟩ := enterY m hm 0 (fun _ => by omega) [] 0 (fun h => absurd rfl h) (by simp) he 1
  obtain ⟨E0, hE⟩ : ∃ E0, E0 = EM m (truthsM m 0) J := ⟨_, rfl⟩
  have o0 : ∀ X, (E0 ++ X)[0]? = some (.cells (eMc m)) := fun X => by rw [hE]; rfl
  have o3 : ∀ X, (E0 ++ X)[3]? = some (.map (esM m (truthsM m 0))) := fun X => by rw [hE]; rfl
  have o4 : ∀ X, (E0 ++ X)[4]? = some (.cells (eLc m (cameM m 0) 3 (evL m (truthsM m 0)))) := fun X => by rw [hE]; rfl
  have o0' := o0 []
  rw [List.append_nil] at o0'
  rw [← hE] at h46
  have hb4 : 4 < E0.length + 1 := by rw [hE]; simp [EM]
  clear hE
  obtain ⟨F, h83⟩ := m83 m.paid.length (by omega) 88 [.ref E0.length 0] (someR m) (E0 ++ [.cells [.ref 4 0]]) (by simp only [go_sem, ↓reduceIte, simprocAttr]) rr_88 (by rfl) t
    (fun w tb hw => ⟨[], by rw [List.append_nil]; exact m88 m hm ho (E0 ++ [.cells [.ref 4 0]]) 3 E0.length 4 (by simp) (o4 _) (o3 _) w hw tb⟩)
  unfold wrongM
  simp only [eM, eMc, I_nil] at h46 hcl o0 o0'
  cases hb : bestW (someR m) m.paid.length (2 ^ m.paid.length) with
  | none =>
    rw [hb] at h83
    simp only [go_sem, ↓reduceIte, simprocAttr, bv_none] at h83
    simp (disch := omega) only [go_sem, ↓reduceIte, simprocAttr, eM, eMc, hcl, h46, o0, o0', hb4, h83, vI, Option.isSome_none, Option.isSome_some]
    done
  | some s =>
    rw [hb] at h83
    simp only [go_sem, ↓reduceIte, simprocAttr, bv_some, vI] at h83
    simp (disch := omega) only [go_sem, ↓reduceIte, simprocAttr, eM, eMc, hcl, h46, o0, o0', hb4, h83, vI, Option.isSome_none, Option.isSome_some]
    done
end Go.Proofs.YtiighcpimecehaaGreat
end
section
namespace Go.Proofs.YtiighcpimecehaaGreat
open Go.Proofs

end Go.Proofs.YtiighcpimecehaaGreat
end
