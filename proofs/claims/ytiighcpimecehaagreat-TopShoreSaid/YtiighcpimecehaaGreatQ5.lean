/- Equations of single operations, for following code on values that are not known. Conditions: those of each law. -/
import Derived.Test.YtiighcpimecehaaGreatQ4
set_option linter.unusedSimpArgs false
set_option linter.unusedVariables false
namespace Go.Proofs.YtiighcpimecehaaGreat

theorem pick_t (a b : AV) : pickAV true a b = a := by cases a <;> cases b <;> rfl
theorem pick_f (a b : AV) : pickAV false a b = b := by cases a <;> cases b <;> rfl
theorem pick_bb (c x y : Bool) : pickAV c (.bool x) (.bool y) = .bool (if c = true then x else y) := _root_.id rfl
theorem pick_ii (c : Bool) (k : IntKind) (x y : Int) : pickAV c (.int k x) (.int k y) = .int k (if c = true then x else y) := by cases c <;> rfl
theorem cast_neg (k : Nat) : ((k : Int) < 0) = False := by simp
theorem cast_toNat (k : Nat) : ((k : Int)).toNat = k := Int.toNat_natCast k
theorem heap_put (hb : List ABlk) (ht : List Bool) (b : Nat) (x : ABlk) : Heap.put ⟨hb, ht⟩ b x = ⟨hb.set b x, ht⟩ := _root_.id rfl
theorem get_at0 {α : Type} (a t : List α) : (a ++ t)[a.length]? = t[0]? := by rw [List.getElem?_append_right (Nat.le_refl _), Nat.sub_self]
theorem get_at {α : Type} (a t : List α) (i : Nat) : (a ++ t)[a.length + i]? = t[i]? := by rw [List.getElem?_append_right (by omega), Nat.add_sub_cancel_left]
theorem set_at0 {α : Type} (a t : List α) (x : α) : (a ++ t).set a.length x = a ++ t.set 0 x := by rw [List.set_append_right _ _ (Nat.le_refl _), Nat.sub_self]
theorem set_at {α : Type} (a t : List α) (i : Nat) (x : α) : (a ++ t).set (a.length + i) x = a ++ t.set i x := by rw [List.set_append_right _ _ (by omega), Nat.add_sub_cancel_left]
theorem old {α : Type} {a : List α} {i : Nat} {y : α} (h : a[i]? = some y) : ∀ b, (a ++ b)[i]? = some y := fun b => by
  rw [List.getElem?_append_left (List.getElem?_eq_some_iff.1 h).1]; exact h
theorem map_succ {α β : Type} (g : α → β) {l : List α} {k : Nat} {x : α} (h : l[k]? = some x) : (l.take (k + 1)).map g = (l.take k).map g ++ [g x] := by
  rw [List.take_add_one, h]; simp
theorem cast_zero : ((0 : Nat) : Int) = 0 := _root_.id rfl
theorem cast_succ (k : Nat) : ((k + 1 : Nat) : Int) = (k : Int) + 1 := by omega
theorem some_ite (c : Prop) [Decidable c] (g1 l1 g2 l2 : Slots) (h1 h2 : Heap) (m1 m2 : List Nat) : (if c then some (⟨⟨g1, l1⟩, h1, m1⟩ : St) else some ⟨⟨g2, l2⟩, h2, m2⟩) = some ⟨⟨if c then g1 else g2, if c then l1 else l2⟩, if c then h1 else h2, if c then m1 else m2⟩ := by split <;> rfl
theorem cut_ite (s : St) (c : Prop) [Decidable c] (a b : Option (AExit × St)) : cutS s (if c then a else b) = if c then cutS s a else cutS s b := by split <;> rfl
theorem slot_ite (c : Prop) [Decidable c] (t : Nat) (v w : AV) (r r' : Slots) : (if c then (t, v) :: r else (t, w) :: r') = (t, if c then v else w) :: (if c then r else r') := by split <;> rfl
theorem same_ite {α : Type} (c : Prop) [Decidable c] (a : α) : (if c then a else a) = a := by split <;> rfl
theorem bool_ite (c : Prop) [Decidable c] (a b : Bool) : (if c then AV.bool a else AV.bool b) = AV.bool (if c then a else b) := by split <;> rfl
theorem int_ite (c : Prop) [Decidable c] (k : IntKind) (a b : Int) : (if c then AV.int k a else AV.int k b) = AV.int k (if c then a else b) := by split <;> rfl
theorem ite_tf (c : Prop) [Decidable c] : (if c then true else false) = decide c := by split <;> simp_all
theorem ite_ft (c : Prop) [Decidable c] : (if c then false else true) = !decide c := by split <;> simp_all
theorem ite_and (c : Prop) [Decidable c] (b : Bool) : (if c then b else false) = (decide c && b) := by split <;> simp_all
theorem ite_or (c : Prop) [Decidable c] (b : Bool) : (if c then true else b) = (decide c || b) := by split <;> simp_all
theorem ite_nand (c : Prop) [Decidable c] (b : Bool) : (if c then false else b) = (!decide c && b) := by split <;> simp_all
theorem ite_nor (c : Prop) [Decidable c] (b : Bool) : (if c then b else true) = (!decide c || b) := by split <;> simp_all
theorem dec_true (b : Bool) : decide (b = true) = b := by cases b <;> rfl
theorem dec_false (b : Bool) : decide (b = false) = !b := by cases b <;> rfl
def I (l : List Int) : List AV := l.map (AV.int .i64)
theorem I_get (l : List Int) (k : Nat) : (I l)[k]? = (l[k]?).map (AV.int .i64) := by simp [I]
theorem I_len (l : List Int) : (I l).length = l.length := by simp [I]
theorem I_clean (l : List Int) : cleanL (I l) = some (I l) := cleanL_map (fun x => clean_int _ x) l
theorem I_under (n : Nat) (l : List Int) : underL n (I l) = true := underL_map (fun x => by simp [AV.under]) l
theorem I_var (l : List Int) : (I l).all AV.var = true := all_map (fun _ => rfl) l
theorem I_one (l : List Int) : (I l).all AV.one = true := all_map (fun _ => rfl) l
theorem I_take (n : Nat) (l : List Int) : (I l).take n = I (l.take n) := by simp [I]
theorem I_drop (n : Nat) (l : List Int) : (I l).drop n = I (l.drop n) := by simp [I]
theorem I_nil : I [] = [] := _root_.id rfl
theorem I_c (x : Int) (l : List Int) : I (x :: l) = .int .i64 x :: I l := _root_.id rfl
def S (l : List ByteArray) : List AV := l.map AV.str
theorem S_get (l : List ByteArray) (k : Nat) : (S l)[k]? = (l[k]?).map AV.str := by simp [S]
theorem S_len (l : List ByteArray) : (S l).length = l.length := by simp [S]
theorem S_clean (l : List ByteArray) : cleanL (S l) = some (S l) := cleanL_map (fun x => clean_str x) l
theorem S_under (n : Nat) (l : List ByteArray) : underL n (S l) = true := underL_map (fun x => by simp [AV.under]) l
theorem S_var (l : List ByteArray) : (S l).all AV.var = true := all_map (fun _ => rfl) l
theorem S_nil : S [] = [] := _root_.id rfl
theorem S_snoc (l : List ByteArray) (x : ByteArray) : S l ++ [.str x] = S (l ++ [x]) := by simp [S]
theorem I_snoc (l : List Int) (x : Int) : I l ++ [.int .i64 x] = I (l ++ [x]) := by simp [I]
def T (T0 : List Bool) : Nat → List Bool
  | 0 => T0
  | k + 1 => T0 ++ (List.replicate k false ++ [true])
def tagT (T0 : List Bool) : Nat → Nat
  | 0 => 1
  | k + 1 => T0.length + k + 2
def zT (sz : Nat) : Nat → Nat
  | 0 => 0
  | _ + 1 => sz
theorem T_zero (T0 : List Bool) : T T0 0 = T0 := _root_.id rfl
theorem tagT_zero (T0 : List Bool) : tagT T0 0 = 1 := _root_.id rfl
theorem zT_zero (z : Nat) : zT z 0 = 0 := _root_.id rfl
theorem zT_succ (z k : Nat) : zT z (k + 1) = z := _root_.id rfl
theorem zT_pos {z k : Nat} (h : 0 < k) : zT z k = z := by cases k with | zero => omega | succ k => rfl
theorem append_step {X : Tab} {t e : TypeId} {sz : Nat} (T0 : List Bool) (k : Nat) (hb : List ABlk) (z u z' : Nat) (xs ys : List AV) (ht : trow X t = .slice e) (hs : tsz X e = sz) (hz : (k = 0 ∧ xs.length = 0) ∨ z = sz) (hz' : z' = sz ∨ ys.length = 0)
    (h0 : 0 < sz) (hy : (xs.length + ys.length) * tbytes X e ≤ 140737488355328) (hl : xs.length + ys.length ≤ 140737488355328) (hf : zeroFits X e = true) (hv : ys.all AV.var = true) (hp : xs.length = 0 ∨ 0 < ys.length := by exact .inr (Nat.succ_pos _)) :
    appendAV X t (T T0 k).length ⟨hb, T T0 k⟩ (.lst (tagT T0 k) z xs) (.lst u z' ys) = some (.lst (tagT T0 (k + 1)) sz (xs ++ ys), ⟨hb, T T0 (k + 1)⟩) := by
  have hc : (z' = tsz X e ∨ ys.length = 0) ∧ 0 < tsz X e ∧ (xs.length + ys.length) * tbytes X e ≤ appLimit ∧ xs.length + ys.length ≤ appLimit ∧ zeroFits X e = true ∧ ys.all AV.var = true := by
    rw [hs]; exact ⟨hz', h0, hy, hl, hf, hv⟩
  cases k with
  | zero =>
    have hx : (z = tsz X e ∨ xs.length = 0) ∧ (xs.length = 0 ∨ 0 < ys.length) := ⟨by rcases hz with h | h; exact .inr h.2; exact .inl (by rw [hs]; exact h), hp⟩
    unfold appendAV
    rw [ht]
    simp only [tagT, T]
    rw [if_pos hc, if_pos hx, hs]
    simp only [lset, Nat.lt_irrefl, if_false, List.replicate, List.nil_append, Nat.add_zero]
  | succ k =>
    have hx : z = tsz X e := by rcases hz with h | h; exact absurd h.1 (by omega); rw [hs]; exact h
    have hg : (T0 ++ (List.replicate k false ++ [true]))[T0.length + k]? = some true := by
      rw [List.getElem?_append_right (by omega), Nat.add_sub_cancel_left, List.getElem?_append_right (by simp), List.length_replicate, Nat.sub_self]; rfl
    have hset : (T0 ++ (List.replicate k false ++ [true])).set (T0.length + k) false = T0 ++ List.replicate (k + 1) false := by
      rw [List.set_append_right _ _ (by omega), Nat.add_sub_cancel_left, List.set_append_right _ _ (by simp), List.length_replicate, Nat.sub_self, List.replicate_succ']; rfl
    show appendAV X t (T0 ++ (List.replicate k false ++ [true])).length ⟨hb, T0 ++ (List.replicate k false ++ [true])⟩ (.lst (T0.length + k + 2) z xs) (.lst u z' ys) = some (.lst (T0.length + (k + 1) + 2) sz (xs ++ ys), ⟨hb, T0 ++ (List.replicate (k + 1) false ++ [true])⟩)
    unfold appendAV
    rw [ht]
    simp only [if_pos hc]
    rw [if_pos hx, hg]
    simp only
    rw [hset, hs]
    simp only [lset]
    rw [if_neg (by simp)]
    have e1 : (T0 ++ (List.replicate k false ++ [true])).length = T0.length + (k + 1) := by simp
    rw [e1, List.append_assoc]

def consO (a : Option AV) (b : Option (List AV)) : Option (List AV) := match a, b with | some y, some ys => some (y :: ys) | _, _ => none
theorem consO_some (y : AV) (ys : List AV) : consO (some y) (some ys) = some (y :: ys) := _root_.id rfl
theorem consO_none (b : Option (List AV)) : consO none b = none := _root_.id rfl
theorem consO_none2 (a : Option AV) : consO a none = none := by cases a <;> rfl
theorem cleanL_cc (x : AV) (xs : List AV) : cleanL (x :: xs) = consO x.clean (cleanL xs) := by simp only [cleanL, consO]; cases x.clean <;> cases cleanL xs <;> rfl
theorem cl_lst (t z : Nat) (xs : List AV) : (AV.lst t z xs).clean = (cleanL xs).bind fun ys => some (.lst 0 z ys) := by simp only [AV.clean]; cases cleanL xs <;> rfl
theorem cl_agg (xs : List AV) : (AV.agg xs).clean = (cleanL xs).bind fun ys => some (.agg ys) := by simp only [AV.clean]; cases cleanL xs <;> rfl
theorem cl_tup (xs : List AV) : (AV.tup xs).clean = (cleanL xs).bind fun ys => some (.tup ys) := by simp only [AV.clean]; cases cleanL xs <;> rfl
noncomputable def callC (E : Eng) (q : Bool) (f : Nat) (o : Option (List AV → Option AV)) (r : Bool) (c : Option (List AV)) (raw : List AV) (h : Heap) : Option (AV × Heap) :=
  match o with
  | some O => if q then none else callOrc O raw h
  | none => if r then (if q then none else E.call f raw h) else match c with
    | some az => callPure E f az h
    | none => if q then none else E.call f raw h
theorem callAV_clo (X : Tab) (E : Eng) (q : Bool) (f : Nat) (fst cap args : List AV) (h : Heap) : callAV X E q (.clo f fst cap) args h = callC E q f (X.orc f) (retRef X f) (cleanL (fst ++ args ++ cap)) (fst ++ args ++ cap) h := _root_.id rfl
theorem callC_pure (E : Eng) (q : Bool) (f : Nat) (az raw : List AV) (h : Heap) : callC E q f none false (some az) raw h = callPure E f az h := _root_.id rfl
theorem callC_heap (E : Eng) (f : Nat) (raw : List AV) (h : Heap) : callC E false f none false none raw h = E.call f raw h := _root_.id rfl
theorem callC_ref (E : Eng) (f : Nat) (c : Option (List AV)) (raw : List AV) (h : Heap) : callC E false f none true c raw h = E.call f raw h := _root_.id rfl
theorem callC_orc (E : Eng) (f : Nat) (O : List AV → Option AV) (r : Bool) (c : Option (List AV)) (raw : List AV) (h : Heap) : callC E false f (some O) r c raw h = callOrc O raw h := _root_.id rfl
theorem wrap_i64 {n : Int} (h : -9223372036854775808 ≤ n ∧ n ≤ 9223372036854775807) : IntKind.i64.wrap n = n := by
  have := Go.IntWalk.i64_in n
  first | exact this h | exact this h.1 h.2 | exact this ⟨h.1, h.2⟩ | exact this (by omega) | exact this (by omega) (by omega)
theorem underL_app (n : Nat) (a b : List AV) : underL n (a ++ b) = (underL n a && underL n b) := by
  induction a with
  | nil => simp [underL]
  | cons x a ih => simp only [List.cons_append, underL, ih, Bool.and_assoc]
theorem take_app {α : Type} (a b : List α) : (a ++ b).take a.length = a := by simp
attribute [go_sem ↓] w_block w_cond w_cond_const w_exit w_region w_ret w_scope w_seq w_skip
attribute [go_sem] true_or or_true false_or or_false Nat.add_le_add_iff_left settle_eq orW_some Nat.le_refl Int.le_refl Int.lt_irrefl bne_self_eq_false S_get S_len S_clean S_under S_var S_nil w_drawn soloW_nil soloW_c famC_true m_nil m_c m_one sameW_self drop_mk fam_one fam_more hushed_nil hushed_c hushK opKind callKind q_nil q_c q_g guardQ_some guardQ_none underL_app List.all_append Option.isNone_none Option.isNone_some T_zero tagT_zero zT_zero zT_succ List.map_nil Nat.zero_le get_at0 get_at set_at0 set_at take_app List.append_assoc List.set_cons_zero List.set_cons_succ heap_put beq_self_eq_true some_ite cut_ite slot_ite same_ite bool_ite int_ite ite_tf ite_ft ite_and ite_or ite_nand ite_nor dec_true dec_false Bool.not_not Bool.or_false Bool.false_or Bool.or_true Bool.true_or Bool.and_false Bool.false_and opNext opRange clean_int clean_bool clean_str clean_nilp clean_nilf clean_nilm clean_ref clean_eptr clean_yld clean_mapr clean_bsl clean_clo clean_clo1 clean_clo2 cl_lst cl_agg cl_tup cleanL_nil cleanL_cc consO_some consO_none consO_none2 callAV_clo callC_pure callC_heap callC_ref callC_orc callOrc viewL viewV deepW_f deepW_t runR_none iceSt runBx_nil runBx_g o_st o_ap o_mv o_ld o_fa o_bs o_ix o_bo o_as o_co growApp growAV nilAV puts_nil puts_c cast_zero cast_succ Bool.and_assoc gt_iff_lt ge_iff_le I_get I_len I_clean I_under I_var I_one I_take I_drop I_nil run_g run_c0 setF_mk setD_some setD_none getF_mk adel_nil aget_c agetOr_nil aset_nil aset_c adel_c evo_tmp evo_func evo_int evo_bool evo_string evo_nilp evo_nilf evo_nilm evo_nils evo_agg ofCells_nil ofCells_c evoL_nil evoL_c next_normal next_exit next_ret next_ite catchB_normal catchB_ret catchB_exit catchB_ite endR_some endR_mk cut_normal cut_exit cut_ret restr_nil restr_c w_label condW_bool run_nil guardW_bool guardW_und guardK_some guardK_none o_move o_assign o_pick o_alloc o_box o_build o_buildSlice o_load o_store o_nilCheck o_binOp o_unOp o_convert o_makeFunc o_makeMap o_slice o_fieldAddr o_field o_indexAddr o_index o_lookup o_mapUpdate o_mapEntry o_entryStore o_range o_next o_entry opEntry o_extract o_makeSlice o_call o_builtin bindW_some bindW_none Option.bind_some Option.bind_none Option.map_some Option.map_none List.toList_toArray guardOf List.getElem?_cons_zero List.getElem?_cons_succ List.getElem?_nil afterCall unmark resAV resOne leave opPick pick_t pick_f pick_bb pick_ii opAlloc opBox opLoad opStore opNil opConvert opFieldAddr opField opIndex opExtract opBuiltin opLen opAppend opMin opMax opFunc idxAV sliceAV bound opBuildSlice litParts buildAV fillAV fieldParts rowParts binAV intBin cmpInt shiftAV isShift boolBin strBin unAV loadAV splice tsz tbytes tagg tfield trow tint tzero tmap teq tbool tref tfok known zeroFits appLimit AV.cells AV.var AV.one AV.under underL hput lset List.length_append cast_neg cast_toNat List.drop_zero List.drop_succ_cons List.drop_nil List.take_zero List.take_succ_cons List.take_nil List.length_cons List.length_nil List.set_cons_zero List.set_cons_succ List.append_nil List.take_length List.nil_append List.cons_append List.all_cons List.all_nil List.length_map List.replicate Bool.not_true Bool.not_false Bool.and_true Bool.true_and Bool.and_self and_true true_and and_self Bool.false_eq_true decide_true decide_false decide_eq_true_eq Nat.zero_add Nat.add_zero Nat.lt_irrefl Nat.zero_lt_one
end Go.Proofs.YtiighcpimecehaaGreat
