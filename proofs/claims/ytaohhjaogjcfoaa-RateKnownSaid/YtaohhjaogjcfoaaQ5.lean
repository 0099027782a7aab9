/- Parts of the proof, joined: The abstract interpreter in the limit: what it answers with enough rounds, as one engine that answers its own step. Equations by which the engine in the limit is followed step by step on values that are not known. Plain data as values of the abstract interpreter, and the calls of plain data. Equations of single operations, for following code on values that are not known. Conditions: those of each law. -/
import Derived.Test.YtaohhjaogjcfoaaQ4
set_option linter.unusedSimpArgs false
set_option linter.unusedVariables false
section
namespace Go.Proofs.Ytaohhjaogjcfoaa
open Go.RowKit

/-- From some number of rounds on, always this. -/
def Ev {α : Type} (g : Nat → Option α) (r : α) : Prop := ∃ n, ∀ m, n ≤ m → g m = some r
theorem Ev.unique {α : Type} {g : Nat → Option α} {r r' : α} (h : Ev g r) (h' : Ev g r') : r = r' := by
  obtain ⟨n, h⟩ := h
  obtain ⟨n', h'⟩ := h'
  have a := h (max n n') (by omega)
  have b := h' (max n n') (by omega)
  rw [a] at b
  exact Option.some.inj b

/-- What an engine answers, the later ones of a row answer. -/
structure Lim (E : Eng) (c : Nat → Eng) : Prop where
  code : ∀ f rd x s r, E.code f rd x s = some r → Ev (fun m => (c m).code f rd x s) r
  call : ∀ f a h r, E.call f a h = some r → Ev (fun m => (c m).call f a h) r

def Good {α : Type} (G : Eng → Option α) : Prop := ∀ E c, Lim E c → ∀ r, G E = some r → Ev (fun m => G (c m)) r

theorem Good.const {α : Type} (o : Option α) : Good fun _ => o := fun _ _ _ _ h => ⟨0, fun _ _ => h⟩
theorem Good.bind {α β : Type} {A : Eng → Option α} {B : α → Eng → Option β} (hA : Good A) (hB : ∀ x, Good (B x)) : Good fun E => (A E).bind fun x => B x E := by
  intro E c hl r h
  cases ha : A E with
  | none => simp [ha] at h
  | some x =>
    simp only [ha, Option.bind_some] at h
    obtain ⟨n1, h1⟩ := hA E c hl x ha
    obtain ⟨n2, h2⟩ := hB x E c hl r h
    exact ⟨max n1 n2, fun m hm => by simp only [h1 m (by omega), Option.bind_some]; exact h2 m (by omega)⟩
theorem Good.code (f rd x s) : Good fun E => E.code f rd x s := fun _ _ hl _ h => hl.code _ _ _ _ _ h
theorem Good.call (f a h) : Good fun E => E.call f a h := fun _ _ hl _ h => hl.call _ _ _ _ h
theorem Good.of_eq {α : Type} {A B : Eng → Option α} (h : ∀ E, A E = B E) (hB : Good B) : Good A := by
  have : A = B := funext h
  rw [this]; exact hB

section
variable (X : Tab)

theorem good_callPure (f az h) : Good fun E => callPure E f az h :=
  .of_eq (fun E => callPure_eq E f az h) (.bind (.call _ _ _) fun _ => .const _)

theorem good_round (l args h) : Good fun E => stepRound X E l args h := by
  cases hb : h.b[l]? with
  | none => exact .of_eq (fun E => by unfold stepRound; rw [hb]) (.const none)
  | some x =>
    cases x with
    | loop bu pe dn f fr ps asg body =>
      refine .of_eq (fun E => stepRound_eq X hb) (.bind (.const _) fun fr1 => ?_)
      unfold roundK
      refine .bind (.code _ _ _ _) fun r => ?_
      obtain ⟨e, s1⟩ := r
      cases e with
      | normal => exact .bind (.const _) fun h1 => .bind (.code _ _ _ _) fun q => .const _
      | exit i => exact .const none
      | ret => exact .const none
    | none => exact .of_eq (fun E => by unfold stepRound; rw [hb]) (.const none)
    | cells c => exact .of_eq (fun E => by unfold stepRound; rw [hb]) (.const none)
    | map es => exact .of_eq (fun E => by unfold stepRound; rw [hb]) (.const none)
    | siter s p => exact .of_eq (fun E => by unfold stepRound; rw [hb]) (.const none)
    | mark => exact .of_eq (fun E => by unfold stepRound; rw [hb]) (.const none)

theorem good_callAV (q g args h) : Good fun E => callAV X E q g args h := by
  unfold callAV
  cases g with
  | clo f fst cap =>
    simp only
    cases retRef X f with
    | true => simp only [if_true]; cases q with
      | true => exact .const none
      | false => exact .call _ _ _
    | false =>
      simp only [Bool.false_eq_true, if_false]
      cases cleanL (fst ++ args ++ cap) with
      | some az => exact good_callPure _ _ _
      | none => cases q with
        | true => exact .const none
        | false => exact .call _ _ _
  | yld l => cases q with
    | true => exact .const none
    | false => exact good_round X _ _ _
  | _ => exact .const none
theorem good_opAt (q p o fr h) : Good fun E => opAt X E q p o fr h := by
  unfold opAt
  cases o with
  | call c =>
    simp only
    cases c.callee with
    | value g => exact good_callAV X _ _ _ _
    | _ => exact .const _
  | _ => exact .const _
theorem good_oneS (L all q p o s) : Good fun E => oneS X E L all q p o s := by
  unfold oneS oneOp
  cases o.guard with
  | none => simp only [thenK_eq]; exact .bind (good_opAt X _ _ _ _ _) fun _ => .const _
  | some g =>
    simp only [thenK_eq, setFK_eq, setDstK_eq]
    cases guardOf all g with
    | none => exact .const _
    | some tw =>
      obtain ⟨t, want⟩ := tw
      simp only
      cases getF s.fr t with
      | bool c =>
        simp only
        split
        · exact .bind (good_opAt X _ _ _ _ _) fun _ => .const _
        · exact .const _
      | _ => exact .const _
theorem good_runOps (L all) : ∀ (os : List Oper) (s : St), Good fun E => runOps X E L all os s
  | [], s => .const _
  | o :: os, s => .of_eq (fun E => oneOp_eq (X := X)) (.bind (good_oneS X _ _ _ _ _ _) fun s' => good_runOps L all os s')
theorem good_runDraw (L b all n0 md) : ∀ (os : List Oper) (i : Nat) (s : St), Good fun E => runDraw X E L b all n0 md os i s
  | [], i, s => .const _
  | o :: os, i, s => .of_eq (fun E => oneOp_eq (X := X)) (.bind (good_oneS X _ _ _ _ _ _) fun s' => good_runDraw L b all n0 md os (i + 1) s')

theorem good_enterRange (f g ps asg body fr h ms) : Good fun E => enterRange E f g ps asg body fr h ms := by
  cases g with
  | clo gf fst cap => exact .of_eq (fun E => enterRange_eq) (.bind (.call _ _ _) fun _ => .const _)
  | _ => exact .const none

theorem good_runL (L all n0) : ∀ (l : List (Nat × Bool)) (s : St), Good fun E => runL X E L all n0 l s
  | [], s => .const _
  | (i, c) :: l, s => by
    cases ho : all[i]? with
    | none => exact .of_eq (fun E => by rw [runL, ho]) (.const none)
    | some o => exact .of_eq (fun E => by rw [runL, ho]; exact oneOp_eq (X := X)) (.bind (good_oneS X _ _ _ _ _ _) fun s' => good_runL L all n0 l s')
theorem good_runFam (L all n0 s) : ∀ (ls : List (List (Nat × Bool))), Good fun E => runFam X E L all n0 s ls
  | [] => .const _
  | [l] => .of_eq (fun E => by rw [runFam]) (.bind (good_runL X _ _ _ _ _) fun _ => .const _)
  | l :: m :: ls => .of_eq (fun E => by rw [runFam]) (.bind (good_runL X _ _ _ _ _) fun s1 => .bind (good_runFam L all n0 s (m :: ls)) fun d => .const _)
theorem good_thenN {A : Eng → Option (AExit × St)} {B : St → Eng → Option (AExit × St)} (hA : Good A) (hB : ∀ s, Good (B s)) : Good fun E => thenN (A E) fun s => B s E := by
  refine .bind hA fun r => ?_
  obtain ⟨e, s⟩ := r
  cases e with
  | normal => exact hB s
  | exit i => exact .const _
  | ret => exact .const _
theorem good_step (f rd c s) : Good fun E => stepCode X E f rd c s := by
  cases c with
  | seq a b => exact .of_eq (fun E => step_seq X E f rd a b s) (good_thenN (.code _ _ _ _) fun s => .code _ _ _ _)
  | loop b => exact .of_eq (fun E => step_loop X E f rd b s) (good_thenN (.of_eq (fun E => (by cases E.code f rd b s <;> rfl : cutS s (E.code f rd b s) = (E.code f rd b s).bind fun q => some (q.1, match q.1 with | .normal => ⟨⟨restr s.fr.g q.2.fr.g, []⟩, q.2.h, q.2.ms⟩ | _ => q.2))) (.bind (.code _ _ _ _) fun _ => .const _)) fun s => .code _ _ _ _)
  | block id b => exact .of_eq (fun E => step_block X E f rd id b s) (.bind (.code _ _ _ _) fun _ => .const _)
  | scope b => exact .code _ _ _ _
  | cond c a b =>
    unfold stepCode
    simp only
    cases evo s.fr c with
    | bool t =>
      simp only
      cases c with
      | tmp u => simp only [condK, adelK_eq]; split; exact .code _ _ _ _; exact .code _ _ _ _
      | _ => simp only [condK]; split; exact .code _ _ _ _; exact .code _ _ _ _
    | _ => exact .const none
  | region id ops draw =>
    cases draw with
    | false => exact .of_eq (fun E => step_region X E f rd id ops s) (.bind (good_runOps X _ _ _ _) fun _ => .const _)
    | true =>
      refine .of_eq (fun E => step_draw X E f rd id ops s) ?_
      split
      · split
        · exact .bind (good_runFam X _ _ _ _ _) fun _ => .const _
        · exact .const none
      split
      · split
        · exact .bind (good_runDraw X _ _ _ _ _ _ _ _) fun _ => .const _
        · exact .const none
      · split
        · exact .bind (good_runDraw X _ _ _ _ _ _ _ _) fun _ => .const _
        · exact .const none
  | rangeFunc g ps asg body =>
    unfold stepCode
    simp only
    cases rd with
    | none => exact good_enterRange _ _ _ _ _ _ _ _
    | some l =>
      simp only
      split
      · exact good_enterRange _ _ _ _ _ _ _ _
      · exact .const none
  | _ => exact .const _

theorem good_stepCall (g args h) : Good fun E => stepCall X E g args h := by
  cases hf : X.fn.get g with
  | none => exact .of_eq (fun E => by unfold stepCall; rw [hf]) (.const none)
  | some fn =>
    cases hc : fn.body with
    | none => exact .of_eq (fun E => by unfold stepCall; rw [hf]; simp only [hc]) (.const none)
    | some c => exact .of_eq (fun E => step_call X E hf hc) (.bind (.code _ _ _ _) fun _ => .const _)

/-! ### The limit -/
open Classical in
/-- The engine that answers whatever is answered with enough rounds. -/
noncomputable def EW : Eng :=
  ⟨fun f rd x s => if h : ∃ r, Ev (fun m => (eng X m).code f rd x s) r then some h.choose else none,
   fun f a q => if h : ∃ r, Ev (fun m => (eng X m).call f a q) r then some h.choose else none⟩
theorem lim_ew : Lim (EW X) (eng X) where
  code := fun f rd x s r h => by
    simp only [EW] at h
    split at h
    · rename_i hx; simp only [Option.some.injEq] at h; rw [← h]; exact hx.choose_spec
    · cases h
  call := fun f a q r h => by
    simp only [EW] at h
    split at h
    · rename_i hx; simp only [Option.some.injEq] at h; rw [← h]; exact hx.choose_spec
    · cases h
theorem ew_code_of {f rd x s r} (h : Ev (fun m => (eng X m).code f rd x s) r) : (EW X).code f rd x s = some r := by
  simp only [EW]
  have hx : ∃ r, Ev (fun m => (eng X m).code f rd x s) r := ⟨r, h⟩
  rw [dif_pos hx]
  exact congrArg some (hx.choose_spec.unique h)
theorem ew_call_of {f a q r} (h : Ev (fun m => (eng X m).call f a q) r) : (EW X).call f a q = some r := by
  simp only [EW]
  have hx : ∃ r, Ev (fun m => (eng X m).call f a q) r := ⟨r, h⟩
  rw [dif_pos hx]
  exact congrArg some (hx.choose_spec.unique h)

def Eng.le (E E' : Eng) : Prop := Lim E fun _ => E'
theorem Good.mono {α : Type} {G : Eng → Option α} (hG : Good G) {E E' : Eng} (hl : E.le E') {r : α} (h : G E = some r) : G E' = some r := by
  obtain ⟨n, hn⟩ := hG E _ hl r h
  exact hn n (Nat.le_refl _)
theorem eng_chain : ∀ n, (eng X n).le (eng X (n + 1))
  | 0 => ⟨fun f rd x s r h => (by cases h), fun f a q r h => (by cases h)⟩
  | n + 1 => ⟨fun f rd x s r h => ⟨0, fun _ _ => (good_step X f rd x s).mono (eng_chain n) h⟩, fun f a q r h => ⟨0, fun _ _ => (good_stepCall X f a q).mono (eng_chain n) h⟩⟩
theorem eng_le (n : Nat) : ∀ k, (eng X n).le (eng X (n + k))
  | 0 => ⟨fun f rd x s r h => ⟨0, fun _ _ => h⟩, fun f a q r h => ⟨0, fun _ _ => h⟩⟩
  | k + 1 => ⟨fun f rd x s r h => ⟨0, fun _ _ => (Good.code f rd x s).mono (eng_chain X (n + k)) ((Good.code f rd x s).mono (eng_le n k) h)⟩,
      fun f a q r h => ⟨0, fun _ _ => (Good.call f a q).mono (eng_chain X (n + k)) ((Good.call f a q).mono (eng_le n k) h)⟩⟩
theorem eng_ew (n : Nat) : (eng X n).le (EW X) where
  code := fun f rd x s r h => ⟨0, fun _ _ => ew_code_of X ⟨n, fun m hm => by
    have := (Good.code f rd x s).mono (eng_le X n (m - n)) h
    rwa [Nat.add_sub_cancel' hm] at this⟩⟩
  call := fun f a q r h => ⟨0, fun _ _ => ew_call_of X ⟨n, fun m hm => by
    have := (Good.call f a q).mono (eng_le X n (m - n)) h
    rwa [Nat.add_sub_cancel' hm] at this⟩⟩
theorem ew_code (f rd c s) : (EW X).code f rd c s = stepCode X (EW X) f rd c s := by
  apply Option.ext
  intro r
  constructor
  · intro h
    obtain ⟨n, hn⟩ := (lim_ew X).code _ _ _ _ _ h
    exact (good_step X f rd c s).mono (eng_ew X n) (hn (n + 1) (by omega))
  · intro h
    obtain ⟨n, hn⟩ := good_step X f rd c s _ _ (lim_ew X) r h
    exact ew_code_of X ⟨n + 1, fun m hm => by
      obtain ⟨m, rfl⟩ : ∃ k, m = k + 1 := ⟨m - 1, by omega⟩
      exact hn m (by omega)⟩
theorem ew_call (g args h) : (EW X).call g args h = stepCall X (EW X) g args h := by
  apply Option.ext
  intro r
  constructor
  · intro h'
    obtain ⟨n, hn⟩ := (lim_ew X).call _ _ _ _ h'
    exact (good_stepCall X g args h).mono (eng_ew X n) (hn (n + 1) (by omega))
  · intro h'
    obtain ⟨n, hn⟩ := good_stepCall X g args h _ _ (lim_ew X) r h'
    exact ew_call_of X ⟨n + 1, fun m hm => by
      obtain ⟨m, rfl⟩ : ∃ k, m = k + 1 := ⟨m - 1, by omega⟩
      exact hn m (by omega)⟩
end

section
variable {P : Program} {X : Tab} (hX : Fits P X)
include hX in
theorem ew_bool {g : Nat} {args : List AV} {b : Bool} {h' : Heap} {W : World} {vs : List Value} (ho : (EW X).call g args noHeap = some (.bool b, h')) (hv : RvL (Ctx.start X W) args vs) :
    Calls P g vs.toArray W fun e W' => e = .returned (.bool b) ∧ Below W.heap.size W W' := by
  obtain ⟨n, hn⟩ := (lim_ew X).call _ _ _ _ ho
  exact calls_bool hX (hn n (Nat.le_refl _)) hv
end
end Go.Proofs.Ytaohhjaogjcfoaa
end
section
namespace Go.Proofs.Ytaohhjaogjcfoaa

/-! ### Frames -/
theorem isIn_nil (t : Nat) : isIn t [] = false := _root_.id rfl
theorem isIn_cons (t j : Nat) (L : List Nat) : isIn t (j :: L) = if t = j then true else isIn t L := by
  have : isIn t (j :: L) = match Nat.beq t j with | true => true | false => isIn t L := _root_.id rfl
  rw [this]
  cases h : Nat.beq t j with
  | true => rw [if_pos (Nat.eq_of_beq_eq_true h)]
  | false => rw [if_neg (Nat.ne_of_beq_eq_false h)]
theorem setF_mk (L : List Nat) (g l : Slots) (t : Nat) (v : AV) : setF L ⟨g, l⟩ t v = if isIn t L = true then ⟨aset g t v, l⟩ else ⟨g, (t, v) :: l⟩ := by
  cases h : isIn t L with
  | true => rw [setF_in h]; rfl
  | false => rw [setF_out h]; rfl
theorem setD_some (L : List Nat) (fr : Frm) (t : Nat) (v : AV) : setD L fr (some t) v = setF L fr t v := _root_.id rfl
theorem setD_none (L : List Nat) (fr : Frm) (v : AV) : setD L fr none v = fr := _root_.id rfl
theorem getF_mk (g l : Slots) (t : Nat) : getF ⟨g, l⟩ t = agetOr l t (agetOr g t .junk) := _root_.id rfl
theorem adel_nil (t : Nat) : adel [] t = [] := _root_.id rfl
theorem aget_c (t u : Nat) (v : AV) (r : Slots) (d : AV) : agetOr ((u, v) :: r) t d = if t = u then v else agetOr r t d := agetOr_cons _ _ _ _
theorem aset_c (u : Nat) (x : AV) (r : Slots) (t : Nat) (v : AV) : aset ((u, x) :: r) t v = if t = u then (t, v) :: r else if t < u then (t, v) :: (u, x) :: r else (u, x) :: aset r t v := aset_cons _ _ _ _
theorem adel_c (u : Nat) (x : AV) (r : Slots) (t : Nat) : adel ((u, x) :: r) t = if t = u then adel r t else (u, x) :: adel r t := adel_cons _ _ _
theorem zipFrom_nil (L : List Nat) (i : Nat) : zipFrom L i [] = [] := _root_.id rfl
theorem zipFrom_c (L : List Nat) (i : Nat) (v : AV) (vs : List AV) : zipFrom L i (v :: vs) = if isIn i L = true then (i, v) :: zipFrom L (i + 1) vs else zipFrom L (i + 1) vs := by
  show (match isIn i L with | true => _ | false => _) = _
  cases isIn i L <;> rfl

/-! ### Operands -/
theorem evo_tmp (fr : Frm) (t : Nat) : evo fr (.tmp t) = getF fr t := _root_.id rfl
theorem evo_func (fr : Frm) (f : Nat) : evo fr (.func f) = .clo f [] [] := _root_.id rfl
theorem evo_int (fr : Frm) (k : IntKind) (n : Int) : evo fr (.const (.int k n)) = .int k n := _root_.id rfl
theorem evo_bool (fr : Frm) (b : Bool) : evo fr (.const (.bool b)) = .bool b := _root_.id rfl
theorem evo_string (fr : Frm) (s : ByteArray) : evo fr (.const (.string s)) = .str s := _root_.id rfl
theorem evo_nilp (fr : Frm) : evo fr (.const (.pointer none)) = .nilp := _root_.id rfl
theorem evo_nilf (fr : Frm) : evo fr (.const .nilFunc) = .nilf := _root_.id rfl
theorem evo_nilm (fr : Frm) : evo fr (.const (.map none)) = .nilm := _root_.id rfl
theorem evo_nils (fr : Frm) : evo fr (.const (.slice none 0 0)) = .lst 1 0 [] := _root_.id rfl
theorem evo_agg (fr : Frm) (cs : List Value) : evo fr (.const (.agg cs.toArray)) = match ofCells cs with | some c => .agg c | none => .junk := by
  show ((ofCells cs.toArray.toList).map AV.agg).getD .junk = _
  rw [List.toList_toArray]
  cases ofCells cs <;> rfl
theorem ofCells_nil : ofCells [] = some [] := _root_.id rfl
theorem ofCells_c (v : Value) (vs : List Value) : ofCells (v :: vs) = match ofCell v, ofCells vs with | some x, some xs => some (x :: xs) | _, _ => none := _root_.id rfl
theorem evoL_nil (fr : Frm) : evoL fr [] = [] := _root_.id rfl
theorem evoL_c (fr : Frm) (x : Operand) (xs : List Operand) : evoL fr (x :: xs) = evo fr x :: evoL fr xs := _root_.id rfl

/-- A mark behind a term: a walk does not look into what it marks. -/
structure Tag {α : Type} (x : α) : Type where
  mk ::
/-- What follows an outcome; a walk looks at what follows only when the outcome is known. -/
def bindW {α β : Type} (a : Option α) (f : α → Option β) (_ : Tag f) : Option β := a.bind f
theorem bindW_some {α β : Type} (x : α) (f : α → Option β) (d : Tag f) : bindW (some x) f d = f x := _root_.id rfl
theorem bindW_none {α β : Type} (f : α → Option β) (d : Tag f) : bindW none f d = none := _root_.id rfl
/-- What follows a normal end. -/
def nextW (r : Option (AExit × St)) (k : St → Option (AExit × St)) (_ : Tag k) : Option (AExit × St) := thenN r k

/-! ### Code -/
section
variable (X : Tab)
theorem next_normal (s : St) (k : St → Option (AExit × St)) (d : Tag k) : nextW (some (.normal, s)) k d = k s := _root_.id rfl
theorem next_exit (i : Nat) (s : St) (k : St → Option (AExit × St)) (d : Tag k) : nextW (some (.exit i, s)) k d = some (.exit i, s) := _root_.id rfl
theorem next_ret (s : St) (k : St → Option (AExit × St)) (d : Tag k) : nextW (some (.ret, s)) k d = some (.ret, s) := _root_.id rfl
theorem next_ite (c : Prop) [Decidable c] (a b : Option (AExit × St)) (k : St → Option (AExit × St)) (d : Tag k) : nextW (if c then a else b) k d = if c then nextW a k d else nextW b k d := by split <;> rfl
theorem thenN_normal (s : St) (k : St → Option (AExit × St)) : thenN (some (.normal, s)) k = k s := _root_.id rfl
theorem catchB_normal (id : Nat) (s : St) : catchB id (some (.normal, s)) = some (.normal, s) := _root_.id rfl
theorem catchB_ret (id : Nat) (s : St) : catchB id (some (.ret, s)) = some (.ret, s) := _root_.id rfl
theorem catchB_exit (id i : Nat) (s : St) : catchB id (some (.exit i, s)) = if i = id then some (.normal, s) else some (.exit i, s) := _root_.id rfl
theorem catchB_ite (id : Nat) (c : Prop) [Decidable c] (a b : Option (AExit × St)) : catchB id (if c then a else b) = if c then catchB id a else catchB id b := by split <;> rfl
theorem endR_some (s : St) : endR (some s) = some (.normal, ⟨⟨s.fr.g, []⟩, s.h, s.ms⟩) := _root_.id rfl
theorem endR_mk (g l : Slots) (h : Heap) (ms : List Nat) : endR (some ⟨⟨g, l⟩, h, ms⟩) = some (.normal, ⟨⟨g, []⟩, h, ms⟩) := _root_.id rfl
theorem w_seq (f rd a b s) : (EW X).code f rd (.seq a b) s = nextW ((EW X).code f rd a s) (fun s => (EW X).code f rd b s) .mk := by rw [ew_code, step_seq]; rfl
theorem cut_normal (g0 l0 : Slots) (h0 : Heap) (m0 : List Nat) (g l : Slots) (h : Heap) (m : List Nat) : cutS ⟨⟨g0, l0⟩, h0, m0⟩ (some (.normal, ⟨⟨g, l⟩, h, m⟩)) = some (.normal, ⟨⟨restr g0 g, []⟩, h, m⟩) := _root_.id rfl
theorem cut_exit (s : St) (i : Nat) (s1 : St) : cutS s (some (.exit i, s1)) = some (.exit i, s1) := _root_.id rfl
theorem cut_ret (s s1 : St) : cutS s (some (.ret, s1)) = some (.ret, s1) := _root_.id rfl
theorem restr_nil (g : Slots) : restr [] g = [] := _root_.id rfl
theorem restr_c (t : Nat) (v : AV) (r g : Slots) : restr ((t, v) :: r) g = (t, agetOr g t .junk) :: restr r g := _root_.id rfl
theorem w_loop (f rd b s) : (EW X).code f rd (.loop b) s = thenN (cutS s ((EW X).code f rd b s)) fun s => (EW X).code f rd (.loop b) s := by rw [ew_code, step_loop]
theorem w_block (f rd id b s) : (EW X).code f rd (.block id b) s = catchB id ((EW X).code f rd b s) := by rw [ew_code, step_block]
theorem w_scope (f rd b s) : (EW X).code f rd (.scope b) s = (EW X).code f rd b s := by rw [ew_code]; rfl
theorem w_skip (f rd s) : (EW X).code f rd .skip s = some (.normal, s) := by rw [ew_code]; rfl
theorem w_label (f rd l s) : (EW X).code f rd (.label l) s = some (.normal, s) := by rw [ew_code]; rfl
theorem w_exit (f rd id s) : (EW X).code f rd (.exit id) s = some (.exit id, s) := by rw [ew_code]; rfl
theorem w_ret (f rd s) : (EW X).code f rd .ret s = some (.ret, s) := by rw [ew_code]; rfl
theorem w_region (f rd id ops s) : (EW X).code f rd (.region id ops false) s = endR (runOps X (EW X) (X.keep f) ops.toList ops.toList s) := by rw [ew_code, step_region]
theorem w_draw (f rd id ops s) : (EW X).code f rd (.region id ops true) s =
    if (!(X.solo f id).isEmpty) = true then
      if okFam (Region.before ops).toList ops.toList (X.solo f id) = true then
        (runFam X (EW X) (X.keep f) ops.toList (s.h.b.length, s.h.t.length) ⟨s.fr, ⟨s.h.b ++ List.replicate ops.size .none, s.h.t ++ List.replicate ops.size false⟩, s.ms⟩ (X.solo f id)).bind fun d => some (.normal, d)
      else none
    else if (X.hush f id && hushed ops.toList) = true then
      if drawT (Region.before ops).toList ops.toList s.fr = true then
        endR (runDraw X (EW X) (X.keep f) (Region.before ops).toList ops.toList (s.h.b.length, s.h.t.length) true ops.toList 0 s)
      else none
    else
      if drawT (Region.before ops).toList ops.toList s.fr = true then
        endR (runDraw X (EW X) (X.keep f) (Region.before ops).toList ops.toList (s.h.b.length, s.h.t.length) false ops.toList 0 ⟨s.fr, ⟨s.h.b ++ List.replicate ops.size .none, s.h.t ++ List.replicate ops.size false⟩, s.ms⟩)
      else none := by rw [ew_code, step_draw]
/-- A test. -/
noncomputable def condW (v : AV) (k : Bool → Option (AExit × St)) (_ : Tag k) : Option (AExit × St) := match v with | .bool t => k t | _ => none
theorem condW_bool (t : Bool) (k) (d : Tag k) : condW (.bool t) k d = k t := _root_.id rfl
theorem w_cond (f rd t a b g l h ms) : (EW X).code f rd (.cond (.tmp t) a b) ⟨⟨g, l⟩, h, ms⟩ =
    condW (getF ⟨g, l⟩ t) (fun q => if q = true then (EW X).code f rd a ⟨⟨adel g t, l⟩, h, ms⟩ else (EW X).code f rd b ⟨⟨adel g t, l⟩, h, ms⟩) .mk := by
  rw [ew_code]
  show (match getF ⟨g, l⟩ t with | .bool q => _ | _ => none) = _
  unfold condW
  cases getF ⟨g, l⟩ t <;> simp only [condK, adelK_eq]
theorem w_cond_const (f rd v a b s) : (EW X).code f rd (.cond (.const (.bool v)) a b) s = if v = true then (EW X).code f rd a s else (EW X).code f rd b s := by
  rw [ew_code]; rfl
theorem w_call {g : Nat} {args : List AV} {h : Heap} {fn : Func} {c : Code} (hf : X.fn.get g = some fn) (hc : fn.body = some c) :
    (EW X).call g args h = bindW ((EW X).code g none c ⟨⟨zipFrom (X.keep g) 0 args, []⟩, h, []⟩) (afterCall X fn h.b.length) .mk := by rw [ew_call, step_call X _ hf hc]; rfl

/-! ### Operations in a row -/
variable {E : Eng} {L : List Nat} {all : List Oper}
theorem run_nil (s : St) : runOps X E L all [] s = some s := _root_.id rfl
theorem run_c (d : Option Tmp) (op : Op) (ty : TypeId) (po : String) (af : Array Edge) (os : List Oper) (s : St) :
    runOps X E L all (⟨d, op, ty, po, af, none⟩ :: os) s = bindW (opAt X E false (s.h.b.length, s.h.t.length) op s.fr s.h) (fun r => runOps X E L all os ⟨setD L s.fr d r.1, r.2, s.ms⟩) .mk := by
  have e : runOps X E L all (⟨d, op, ty, po, af, none⟩ :: os) s = oneOp X E L all false (s.h.b.length, s.h.t.length) ⟨d, op, ty, po, af, none⟩ s (runOps X E L all os) := _root_.id rfl
  rw [e]
  simp only [oneOp, thenK_eq]
  rfl
theorem run_c0 (d : Option Tmp) (op : Op) (ty : TypeId) (po : String) (af : Array Edge) (os : List Oper) (fr : Frm) (hb : List ABlk) (ht : List Bool) (ms : List Nat) :
    runOps X E L all (⟨d, op, ty, po, af, none⟩ :: os) ⟨fr, ⟨hb, ht⟩, ms⟩ = bindW (opAt X E false (hb.length, ht.length) op fr ⟨hb, ht⟩) (fun r => runOps X E L all os ⟨setD L fr d r.1, r.2, ms⟩) .mk := run_c X _ _ _ _ _ _ _

def guardW (v : AV) (k : Option Bool → Option St) (_ : Tag k) : Option St := match v with
  | .bool c => k (some c)
  | .und => k none
  | _ => none
theorem guardW_bool (c : Bool) (k) (d : Tag k) : guardW (.bool c) k d = k (some c) := _root_.id rfl
theorem guardW_und (k) (d : Tag k) : guardW .und k d = k none := _root_.id rfl
/-- What a guard leads to. -/
noncomputable def guardK (E : Eng) (L : List Nat) (all : List Oper) (d : Option Tmp) (op : Op) (os : List Oper) (t : Tmp) (want : Bool) (s : St) (c : Option Bool) : Option St := match c with
  | some c => if c = want then
      bindW (opAt X E false (s.h.b.length, s.h.t.length) op (setF L s.fr t (.bool want)) s.h) (fun r => runOps X E L all os ⟨setD L (setF L s.fr t (.bool want)) d r.1, r.2, s.ms⟩) .mk
    else runOps X E L all os ⟨setD L (setF L s.fr t (.bool !want)) d .und, s.h, s.ms⟩
  | none => runOps X E L all os ⟨setD L s.fr d .und, s.h, s.ms⟩
theorem guardK_some (d op os t want s c) : guardK X E L all d op os t want s (some c) = if c = want then
      bindW (opAt X E false (s.h.b.length, s.h.t.length) op (setF L s.fr t (.bool want)) s.h) (fun r => runOps X E L all os ⟨setD L (setF L s.fr t (.bool want)) d r.1, r.2, s.ms⟩) .mk
    else runOps X E L all os ⟨setD L (setF L s.fr t (.bool !want)) d .und, s.h, s.ms⟩ := _root_.id rfl
theorem guardK_none (d op os t want s) : guardK X E L all d op os t want s none = runOps X E L all os ⟨setD L s.fr d .und, s.h, s.ms⟩ := _root_.id rfl
theorem run_g (d : Option Tmp) (op : Op) (ty : TypeId) (po : String) (af : Array Edge) (gi : Nat) (want : Bool) (os : List Oper) (s : St) :
    runOps X E L all (⟨d, op, ty, po, af, some (gi, want)⟩ :: os) s = bindW (guardOf all (gi, want)) (fun g => guardW (getF s.fr g.1) (guardK X E L all d op os g.1 g.2 s) .mk) .mk := by
  have e : runOps X E L all (⟨d, op, ty, po, af, some (gi, want)⟩ :: os) s = oneOp X E L all false (s.h.b.length, s.h.t.length) ⟨d, op, ty, po, af, some (gi, want)⟩ s (runOps X E L all os) := _root_.id rfl
  rw [e]
  simp only [oneOp, thenK_eq, setFK_eq, setDstK_eq]
  cases guardOf all (gi, want) with
  | none => rfl
  | some tw =>
    obtain ⟨t, w⟩ := tw
    simp only [bindW, Option.bind_some, guardW, guardK]
    cases getF s.fr t <;> rfl

/-! ### Regions that draw their order and lay nothing -/
def hushK : Kind → Bool
  | .pure | .read | .call => true
  | _ => false
theorem hushed_nil : hushed [] = true := _root_.id rfl
theorem hushed_c (o : Oper) (os : List Oper) : hushed (o :: os) = (hushK (opKind o.op) && hushed os) := by
  show List.all (o :: os) _ = _
  rw [List.all_cons]
  cases opKind o.op <;> rfl
theorem conflicts_hush {b : List Nat} {ops : List Oper} (h : hushed ops = true) : conflicts b ops = [] := by
  have key : ∀ x ∈ ops, ∀ t a v, x.op ≠ .store t a v := fun x hx t a v e => by
    have := List.all_eq_true.1 h x hx
    rw [e] at this
    simp [opKind] at this
  unfold conflicts
  rw [List.filterMap_eq_nil_iff]
  rintro ⟨i, j⟩ _
  simp only
  split
  · rfl
  · split
    · rename_i x y hx hy
      have kx := key x (List.mem_of_getElem? hx)
      have ky := key y (List.mem_of_getElem? hy)
      unfold rwPair
      split
      · rename_i e1 e2; exact absurd e2 (ky _ _ _)
      · rename_i e1 e2; exact absurd e1 (kx _ _ _)
      · rfl
    · rfl
theorem fine_hush {b : List Nat} {ops : List Oper} (h : hushed ops = true) : pairsFine b ops = true := by
  unfold pairsFine
  rw [List.all_eq_true]
  rintro ⟨i, j⟩ _
  simp only [Bool.or_eq_true]
  right
  split
  · rename_i x y hx hy
    have kx := List.all_eq_true.1 h x (List.mem_of_getElem? hx)
    have ky := List.all_eq_true.1 h y (List.mem_of_getElem? hy)
    unfold pairOk
    cases hkx : opKind x.op <;> rw [hkx] at kx <;> first | (cases kx; done) | skip
    all_goals cases hky : opKind y.op <;> rw [hky] at ky <;> first | (cases ky; done) | rfl
  · rfl
theorem drawT_hush {b : List Nat} {ops : List Oper} {fr : Frm} (h : hushed ops = true) : drawT b ops fr = true := by
  unfold drawT; rw [fine_hush h, conflicts_hush h]; rfl
/-- The operations of such a region in a row. -/
noncomputable def runQ (E : Eng) (L : List Nat) (all : List Oper) (n0 : Nat × Nat) : List Oper → St → Option St
  | [], s => some s
  | o :: os, s => oneOp X E L all true n0 o s (runQ E L all n0 os)
theorem runDraw_Q (b : List Nat) (n0 : Nat × Nat) : ∀ (os : List Oper) (i : Nat) (s : St), runDraw X E L b all n0 true os i s = runQ X E L all n0 os s
  | [], i, s => rfl
  | o :: os, i, s => by
    have e : runDraw X E L b all n0 true (o :: os) i s = oneOp X E L all (true || !boundAll b all i) (posAt n0 true i) o s (runDraw X E L b all n0 true os (i + 1)) := rfl
    have e2 : runDraw X E L b all n0 true os (i + 1) = runQ X E L all n0 os := funext fun s => runDraw_Q b n0 os (i + 1) s
    rw [e, e2, Bool.true_or]
    first | rfl | skip
theorem w_hush (f rd id ops s) (hs : X.solo f id = []) (hh : X.hush f id = true) (hq : hushed ops.toList = true) : (EW X).code f rd (.region id ops true) s = endR (runQ X (EW X) (X.keep f) ops.toList (s.h.b.length, s.h.t.length) ops.toList s) := by
  rw [w_draw, hs, hh, hq, drawT_hush hq, runDraw_Q]
  simp
/-- What follows a row of orders: is there none? -/
noncomputable def soloW (F : List (List (Nat × Bool))) (k : List (List (Nat × Bool)) → Option (AExit × St)) (z : Unit → Option (AExit × St)) (_ : Tag (k, z)) : Option (AExit × St) := match F with
  | [] => z ()
  | l :: ls => k (l :: ls)
theorem soloW_nil (k z) (d : Tag (k, z)) : soloW [] k z d = z () := _root_.id rfl
theorem soloW_c (l ls k z) (d : Tag (k, z)) : soloW (l :: ls) k z d = k (l :: ls) := _root_.id rfl
/-- What each order comes to. -/
noncomputable def famC (b : Bool) (r : Option St) : Option (AExit × St) := if b = true then r.bind fun d => some (.normal, d) else none
theorem famC_true (d : St) : famC true (some d) = some (.normal, d) := _root_.id rfl
/-- A region that draws its order. -/
theorem w_drawn (f rd id ops s) : (EW X).code f rd (.region id ops true) s = soloW (X.solo f id)
    (fun F => famC (okFam (Region.before ops).toList ops.toList F) (runFam X (EW X) (X.keep f) ops.toList (s.h.b.length, s.h.t.length) ⟨s.fr, ⟨s.h.b ++ List.replicate ops.size .none, s.h.t ++ List.replicate ops.size false⟩, s.ms⟩ F))
    (fun _ => condW (.bool (X.hush f id && hushed ops.toList)) (fun q => if q = true then endR (runQ X (EW X) (X.keep f) ops.toList (s.h.b.length, s.h.t.length) ops.toList s) else
      if drawT (Region.before ops).toList ops.toList s.fr = true then
        endR (runDraw X (EW X) (X.keep f) (Region.before ops).toList ops.toList (s.h.b.length, s.h.t.length) false ops.toList 0 ⟨s.fr, ⟨s.h.b ++ List.replicate ops.size .none, s.h.t ++ List.replicate ops.size false⟩, s.ms⟩)
      else none) .mk) .mk := by
  cases hs : X.solo f id with
  | cons l ls => rw [w_draw, hs]; rfl
  | nil =>
    rw [soloW_nil]
    cases hc : (X.hush f id && hushed ops.toList) with
    | true =>
      simp only [Bool.and_eq_true] at hc
      rw [w_hush X f rd id ops s hs hc.1 hc.2]; rfl
    | false => rw [w_draw, hs, hc]; rfl
/-- One operation of an order. -/
noncomputable def oneM (E : Eng) (L : List Nat) (all : List Oper) (n0 : Nat × Nat) (c : Bool) (i : Nat) (o : Oper) (r : List (Nat × Bool)) (s : St) : Option St := oneOp X E L all (!c) (posL n0 all.length i) o s (runL X E L all n0 r)
theorem m_nil (n0 : Nat × Nat) (s : St) : runL X E L all n0 [] s = some s := by rw [runL]
theorem m_c (n0 : Nat × Nat) (i : Nat) (c : Bool) (r : List (Nat × Bool)) (s : St) : runL X E L all n0 ((i, c) :: r) s = bindW all[i]? (fun o => oneM X E L all n0 c i o r s) .mk := by
  rw [runL]
  cases all[i]? <;> rfl
theorem m_one (n0 : Nat × Nat) (c : Bool) (i : Nat) (d : Option Tmp) (op : Op) (ty : TypeId) (po : String) (af : Array Edge) (r : List (Nat × Bool)) (fr : Frm) (h : Heap) (ms : List Nat) :
    oneM X E L all n0 c i ⟨d, op, ty, po, af, none⟩ r ⟨fr, h, ms⟩ = bindW (opAt X E (!c) (n0.1 + (all.length - 1 - i), n0.2 + i) op fr h) (fun x => runL X E L all n0 r ⟨setD L fr d x.1, x.2, ms⟩) .mk := by
  simp only [oneM, oneOp, thenK_eq, bindW]
  rfl
/-- Two states: the same? -/
noncomputable def sameW (a d : St) : Option St := open Classical in if a = d then some d else none
theorem sameW_self (d : St) : sameW d d = some d := by unfold sameW; rw [if_pos rfl]
theorem drop_mk (g l : Slots) (h : Heap) (ms : List Nat) : dropS ⟨⟨g, l⟩, h, ms⟩ = ⟨⟨g, []⟩, h, ms⟩ := _root_.id rfl
theorem fam_one (n0 : Nat × Nat) (s : St) (l) : runFam X E L all n0 s [l] = bindW (runL X E L all n0 l s) (fun s1 => some (dropS s1)) .mk := by rw [runFam]; rfl
theorem fam_more (n0 : Nat × Nat) (s : St) (l m ls) : runFam X E L all n0 s (l :: m :: ls) = bindW (runL X E L all n0 l s) (fun s1 => bindW (runFam X E L all n0 s (m :: ls)) (fun d => sameW (dropS s1) d) .mk) .mk := by
  rw [runFam]
  unfold bindW sameW
  rfl
theorem q_nil (n0 : Nat × Nat) (s : St) : runQ X E L all n0 [] s = some s := _root_.id rfl
theorem q_c (n0 : Nat × Nat) (d : Option Tmp) (op : Op) (ty : TypeId) (po : String) (af : Array Edge) (os : List Oper) (fr : Frm) (h : Heap) (ms : List Nat) :
    runQ X E L all n0 (⟨d, op, ty, po, af, none⟩ :: os) ⟨fr, h, ms⟩ = bindW (opAt X E true n0 op fr h) (fun r => runQ X E L all n0 os ⟨setD L fr d r.1, r.2, ms⟩) .mk := by
  simp only [runQ, oneOp, thenK_eq, bindW]
noncomputable def guardQ (E : Eng) (L : List Nat) (all : List Oper) (n0 : Nat × Nat) (d : Option Tmp) (op : Op) (os : List Oper) (t : Tmp) (want : Bool) (s : St) (c : Option Bool) : Option St := match c with
  | some c => if c = want then
      bindW (opAt X E true n0 op (setF L s.fr t (.bool want)) s.h) (fun r => runQ X E L all n0 os ⟨setD L (setF L s.fr t (.bool want)) d r.1, r.2, s.ms⟩) .mk
    else runQ X E L all n0 os ⟨setD L (setF L s.fr t (.bool !want)) d .und, s.h, s.ms⟩
  | none => runQ X E L all n0 os ⟨setD L s.fr d .und, s.h, s.ms⟩
theorem guardQ_some (n0 d op os t want fr h ms c) : guardQ X E L all n0 d op os t want ⟨fr, h, ms⟩ (some c) = if c = want then
      bindW (opAt X E true n0 op (setF L fr t (.bool want)) h) (fun r => runQ X E L all n0 os ⟨setD L (setF L fr t (.bool want)) d r.1, r.2, ms⟩) .mk
    else runQ X E L all n0 os ⟨setD L (setF L fr t (.bool !want)) d .und, h, ms⟩ := _root_.id rfl
theorem guardQ_none (n0 d op os t want fr h ms) : guardQ X E L all n0 d op os t want ⟨fr, h, ms⟩ none = runQ X E L all n0 os ⟨setD L fr d .und, h, ms⟩ := _root_.id rfl
theorem q_g (n0 : Nat × Nat) (d : Option Tmp) (op : Op) (ty : TypeId) (po : String) (af : Array Edge) (gi : Nat) (want : Bool) (os : List Oper) (s : St) :
    runQ X E L all n0 (⟨d, op, ty, po, af, some (gi, want)⟩ :: os) s = bindW (guardOf all (gi, want)) (fun g => guardW (getF s.fr g.1) (guardQ X E L all n0 d op os g.1 g.2 s) .mk) .mk := by
  simp only [runQ, oneOp, thenK_eq, setFK_eq, setDstK_eq]
  cases guardOf all (gi, want) with
  | none => rfl
  | some tw =>
    obtain ⟨t, w⟩ := tw
    simp only [bindW, Option.bind_some, guardW, guardQ]
    cases getF s.fr t <;> rfl

/-! ### One operation -/
variable {q : Bool} {p : Nat × Nat} {fr : Frm} {h : Heap}
theorem o_move (x) : opAt X E q p (.move x) fr h = some (evo fr x, h) := _root_.id rfl
theorem o_assign (x) : opAt X E q p (.assign x) fr h = some (evo fr x, h) := _root_.id rfl
theorem o_pick (c a b) : opAt X E q p (.pick c a b) fr h = opPick (evo fr c) (evo fr a) (evo fr b) h := _root_.id rfl
theorem o_alloc (t) : opAt X E q p (.alloc t) fr h = opAlloc X p.1 t h := _root_.id rfl
theorem o_box (t x) : opAt X E q p (.box t x) fr h = opBox p.1 (evo fr x) h := _root_.id rfl
theorem o_build (t ps) : opAt X E q p (.build t ps) fr h = (buildAV X t fr ps.toList).bind fun v => some (v, h) := by
  show (buildAV X t fr ps.toList).map (·, h) = _
  cases buildAV X t fr ps.toList <;> rfl
theorem o_buildSlice (t n ps) : opAt X E q p (.buildSlice t n ps) fr h = opBuildSlice X t n fr ps.toList h := _root_.id rfl
theorem o_load (t a) : opAt X E q p (.load t a) fr h = opLoad X t (evo fr a) h := _root_.id rfl
theorem o_store (t a x) : opAt X E q p (.store t a x) fr h = opStore X p.1 t (evo fr a) (evo fr x) h := _root_.id rfl
theorem o_nilCheck (x) : opAt X E q p (.nilCheck x) fr h = opNil (evo fr x) h := _root_.id rfl
theorem o_binOp (o t x y u) : opAt X E q p (.binOp o t x y u) fr h = (binAV X o t (evo fr x) (evo fr y)).bind fun v => some (v, h) := by
  show (binAV X o t (evo fr x) (evo fr y)).map (·, h) = _
  cases binAV X o t (evo fr x) (evo fr y) <;> rfl
theorem o_unOp (o t x) : opAt X E q p (.unOp o t x) fr h = (unAV o (evo fr x)).bind fun v => some (v, h) := by
  show (unAV o (evo fr x)).map (·, h) = _
  cases unAV o (evo fr x) <;> rfl
theorem o_convert (s t x) : opAt X E q p (.convert s t x) fr h = opConvert X s t (evo fr x) h := _root_.id rfl
theorem o_makeFunc (f a b) : opAt X E q p (.makeFunc f a b) fr h = opFunc f (evoL fr a.toList) (evoL fr b.toList) h := _root_.id rfl
theorem o_makeMap (t) : opAt X E q p (.makeMap t none) fr h = some (.mapr p.1, hput h p.1 (.map [])) := _root_.id rfl
theorem o_slice (t x lo hi) : opAt X E q p (.slice t x lo hi none) fr h = (sliceAV X t (evo fr x) fr lo hi).bind fun v => some (v, h) := by
  show (sliceAV X t (evo fr x) fr lo hi).map (·, h) = _
  cases sliceAV X t (evo fr x) fr lo hi <;> rfl
theorem o_fieldAddr (t x f) : opAt X E q p (.fieldAddr t x f) fr h = opFieldAddr X t (evo fr x) f h := _root_.id rfl
theorem o_field (t x f) : opAt X E q p (.field t x f) fr h = opField X t (evo fr x) f h := _root_.id rfl
theorem o_indexAddr (t x i) : opAt X E q p (.indexAddr t x i) fr h = (idxAV X t (evo fr x) (evo fr i)).bind fun v => some (v, h) := by
  show (idxAV X t (evo fr x) (evo fr i)).map (·, h) = _
  cases idxAV X t (evo fr x) (evo fr i) <;> rfl
theorem o_index (t x i) : opAt X E q p (.index t x i) fr h = opIndex X t (evo fr x) (evo fr i) h := _root_.id rfl
theorem o_lookup (t m k ok) : opAt X E q p (.lookup t m k ok) fr h = opLookup X t (evo fr m) (evo fr k) ok h := _root_.id rfl
theorem o_mapUpdate (t m k v) : opAt X E q p (.mapUpdate t m k v) fr h = opMapUpdate X t (evo fr m) (evo fr k) (evo fr v) h := _root_.id rfl
theorem o_range (t x) : opAt X E q p (.range t x) fr h = opRange X p.1 t (evo fr x) h := _root_.id rfl
theorem o_next (it) : opAt X E q p (.next it true) fr h = opNext (evo fr it) h := _root_.id rfl
theorem o_extract (t i) : opAt X E q p (.extract t i) fr h = opExtract (evo fr t) i h := _root_.id rfl
theorem o_makeSlice (t l c) : opAt X E q p (.makeSlice t l c) fr h = opMakeSlice X p.1 t (evo fr l) (evo fr c) h := _root_.id rfl
theorem o_call (g az ts) : opAt X E q p (.call ⟨.value g, az, ts⟩) fr h = callAV X E q (evo fr g) (evoL fr az.toList) h := _root_.id rfl
theorem o_builtin (b az ts) : opAt X E q p (.call ⟨.builtin b, az, ts⟩) fr h = opBuiltin X p b ts.toList (evoL fr az.toList) h := _root_.id rfl
end
end Go.Proofs.Ytaohhjaogjcfoaa
end
section
namespace Go.Proofs.Ytaohhjaogjcfoaa

theorem clean_int (k n) : (AV.int k n).clean = some (.int k n) := by simp [AV.clean]
theorem clean_bool (b) : (AV.bool b).clean = some (.bool b) := by simp [AV.clean]
theorem clean_str (s) : (AV.str s).clean = some (.str s) := by simp [AV.clean]
theorem clean_nilp : AV.nilp.clean = some .nilp := by simp [AV.clean]
theorem clean_nilf : AV.nilf.clean = some .nilf := by simp [AV.clean]
theorem clean_nilm : AV.nilm.clean = some .nilm := by simp [AV.clean]
theorem clean_ref (b o) : (AV.ref b o).clean = none := by simp [AV.clean]
theorem clean_eptr (c) : (AV.eptr c).clean = none := by simp [AV.clean]
theorem clean_yld (l) : (AV.yld l).clean = none := by simp [AV.clean]
theorem clean_mapr (l) : (AV.mapr l).clean = none := by simp [AV.clean]
theorem clean_bsl (b o n z) : (AV.bsl b o n z).clean = none := by simp [AV.clean]
theorem clean_clo (f) : (AV.clo f [] []).clean = some (.clo f [] []) := by simp [AV.clean]
theorem clean_clo1 (f x xs c) : (AV.clo f (x :: xs) c).clean = none := by simp [AV.clean]
theorem clean_clo2 (f a x xs) : (AV.clo f a (x :: xs)).clean = none := by cases a <;> simp [AV.clean]
theorem clean_lst {t z xs ys} (h : cleanL xs = some ys) : (AV.lst t z xs).clean = some (.lst 0 z ys) := by simp [AV.clean, h]
theorem clean_agg {xs ys} (h : cleanL xs = some ys) : (AV.agg xs).clean = some (.agg ys) := by simp [AV.clean, h]
theorem clean_tup {xs ys} (h : cleanL xs = some ys) : (AV.tup xs).clean = some (.tup ys) := by simp [AV.clean, h]
theorem cleanL_nil : cleanL [] = some [] := by simp [cleanL]
theorem cleanL_c {x y xs ys} (h : x.clean = some y) (k : cleanL xs = some ys) : cleanL (x :: xs) = some (y :: ys) := by simp [cleanL, h, k]
theorem cleanL_no {x xs} (h : x.clean = none) : cleanL (x :: xs) = none := by simp [cleanL, h]
theorem cleanL_no2 {x xs} (h : cleanL xs = none) : cleanL (x :: xs) = none := by simp [cleanL, h]
theorem cleanL_map {α : Type} {e : α → AV} (h : ∀ x, (e x).clean = some (e x)) : ∀ l : List α, cleanL (l.map e) = some (l.map e)
  | [] => cleanL_nil
  | x :: l => cleanL_c (h x) (cleanL_map h l)
theorem cleanL_map_of {α : Type} {e : α → AV} : ∀ (l : List α), (∀ x ∈ l, (e x).clean = some (e x)) → cleanL (l.map e) = some (l.map e)
  | [], _ => cleanL_nil
  | x :: l, h => cleanL_c (h x (by simp)) (cleanL_map_of l fun y hy => h y (by simp [hy]))
theorem underL_map {α : Type} {e : α → AV} {n : Nat} (h : ∀ x, (e x).under n = true) : ∀ l : List α, underL n (l.map e) = true
  | [] => by simp [underL]
  | x :: l => by simp [underL, h x, underL_map h l]
theorem all_map {α : Type} {e : α → AV} {p : AV → Bool} (h : ∀ x, p (e x) = true) : ∀ l : List α, (l.map e).all p = true
  | [] => rfl
  | x :: l => by rw [List.map_cons, List.all_cons, h x, all_map h l]; rfl

/-- The first of two, if there is one. -/
def orW (a : Option AV) (h : Heap) (v : AV) : Option AV := match a with | some u => some u | none => frz h 6 v
theorem orW_some (u : AV) (h : Heap) (v : AV) : orW (some u) h v = some u := id rfl
theorem orW_none (h : Heap) (v : AV) : orW none h v = frz h 6 v := id rfl
theorem settle_eq (h : Heap) (v : AV) : settle h v = orW v.clean h v := id rfl

section
variable (X : Tab)
/-- A call of plain data answers plain data. -/
theorem pure_of {E : Eng} {f : Nat} {az : List AV} {v u : AV} {h h1 : Heap} (hE : E.call f az ⟨[], []⟩ = some (v, h1)) (hv : v.clean = some u) : callPure E f az h = some (u, h) := by
  rw [callPure_eq, hE]; simp [settle, hv]
theorem callAV_pure {E : Eng} {q : Bool} {f : Nat} {fst args cap az : List AV} {h : Heap} (hr : retRef X f = false) (hc : cleanL (fst ++ args ++ cap) = some az) : callAV X E q (.clo f fst cap) args h = callPure E f az h := by
  unfold callAV; simp only [hr, hc, Bool.false_eq_true, if_false]
theorem callAV_ref {E : Eng} {f : Nat} {fst args cap : List AV} {h : Heap} (hr : retRef X f = true) : callAV X E false (.clo f fst cap) args h = E.call f (fst ++ args ++ cap) h := by
  unfold callAV; simp only [hr, Bool.false_eq_true, if_false, if_true]
theorem callAV_heap {E : Eng} {f : Nat} {fst args cap : List AV} {h : Heap} (hr : retRef X f = false) (hc : cleanL (fst ++ args ++ cap) = none) : callAV X E false (.clo f fst cap) args h = E.call f (fst ++ args ++ cap) h := by
  unfold callAV; simp only [hr, hc, Bool.false_eq_true, if_false]
theorem callAV_yld {E : Eng} {l : Nat} {args : List AV} {h : Heap} : callAV X E false (.yld l) args h = stepRound X E l args h := rfl
end

/-! ### Loops -/
section
variable {X : Tab} {f : Nat} {rd : Option Nat} {b : Code}
/-- A loop that goes round a known number of times and is then left. -/
theorem w_rounds (S : Nat → St) (n : Nat) (r : Option (AExit × St)) (hs : ∀ k, k < n → cutS (S k) ((EW X).code f rd b (S k)) = some (.normal, S (k + 1)))
    (he : cutS (S n) ((EW X).code f rd b (S n)) = r) (hr : ∀ s, r ≠ some (.normal, s)) : (EW X).code f rd (.loop b) (S 0) = r := by
  have aux : ∀ m k, m + k = n → (EW X).code f rd (.loop b) (S k) = r := by
    intro m
    induction m with
    | zero =>
      intro k hk
      obtain rfl : k = n := by omega
      rw [w_loop, he]
      cases r with
      | none => rfl
      | some r =>
        obtain ⟨e, s⟩ := r
        cases e with
        | normal => exact absurd rfl (hr s)
        | exit i => rfl
        | ret => rfl
    | succ m ih =>
      intro k hk
      rw [w_loop, hs k (by omega), thenN_normal]
      exact ih (k + 1) (by omega)
  exact aux n 0 (by omega)
/-- The same with states that are said by a relation. -/
theorem w_rounds_rel (R : Nat → St → Prop) (n : Nat) (Q : AExit → St → Prop) (hs : ∀ k s, k < n → R k s → ∃ s', cutS s ((EW X).code f rd b s) = some (.normal, s') ∧ R (k + 1) s')
    (he : ∀ s, R n s → ∃ e s', cutS s ((EW X).code f rd b s) = some (e, s') ∧ isNormal e = false ∧ Q e s') (s : St) (h0 : R 0 s) : ∃ e s', (EW X).code f rd (.loop b) s = some (e, s') ∧ Q e s' := by
  have aux : ∀ m k s, m + k = n → R k s → ∃ e s', (EW X).code f rd (.loop b) s = some (e, s') ∧ Q e s' := by
    intro m
    induction m with
    | zero =>
      intro k s hk hR
      obtain rfl : k = n := by omega
      obtain ⟨e, s', h1, h2, h3⟩ := he s hR
      refine ⟨e, s', ?_, h3⟩
      rw [w_loop, h1]
      cases e with
      | normal => cases h2
      | exit i => rfl
      | ret => rfl
    | succ m ih =>
      intro k s hk hR
      obtain ⟨s1, h1, h2⟩ := hs k s (by omega) hR
      rw [w_loop, h1, thenN_normal]
      exact ih (k + 1) s1 (by omega) h2
  exact aux n 0 s (by omega) h0
theorem w_rounds_at {s : St} (S : Nat → St) (n : Nat) (r : Option (AExit × St)) (h0 : s = S 0) (hs : ∀ k, k < n → cutS (S k) ((EW X).code f rd b (S k)) = some (.normal, S (k + 1)))
    (he : cutS (S n) ((EW X).code f rd b (S n)) = r) (hr : ∀ s, r ≠ some (.normal, s)) : (EW X).code f rd (.loop b) s = r := by
  rw [h0]; exact w_rounds S n r hs he hr
theorem w_rounds_ex {s : St} {x : Option (AExit × St)} (hx : (EW X).code f rd (.loop b) s = x) (R : Nat → St → Prop) (n : Nat) (Q : AExit → St → Prop) (h0 : R 0 s)
    (hs : ∀ k s, k < n → R k s → ∃ s', cutS s ((EW X).code f rd b s) = some (.normal, s') ∧ R (k + 1) s')
    (he : ∀ s, R n s → ∃ e s', cutS s ((EW X).code f rd b s) = some (e, s') ∧ isNormal e = false ∧ Q e s') : ∃ e s', x = some (e, s') ∧ Q e s' := by
  obtain ⟨e, s', h1, h2⟩ := w_rounds_rel R n Q hs he s h0
  exact ⟨e, s', hx.symm.trans h1, h2⟩
/-- Slots that are given values, one by one. -/
noncomputable def puts (g : Slots) : Slots → Slots
  | [] => g
  | (t, v) :: r => puts (aset g t v) r
theorem puts_nil (g : Slots) : puts g [] = g := id rfl
theorem puts_c (g : Slots) (t : Nat) (v : AV) (r : Slots) : puts g ((t, v) :: r) = puts (aset g t v) r := id rfl
/-- A loop that changes some slots alone. -/
theorem w_rounds_u {g : Slots} {h : Heap} {ms : List Nat} (U : Nat → Slots) (n : Nat) (e : AExit) (V : Slots) (h0 : puts g (U 0) = g)
    (hs : ∀ k, k < n → cutS ⟨⟨puts g (U k), []⟩, h, ms⟩ ((EW X).code f rd b ⟨⟨puts g (U k), []⟩, h, ms⟩) = some (.normal, ⟨⟨puts g (U (k + 1)), []⟩, h, ms⟩))
    (he : cutS ⟨⟨puts g (U n), []⟩, h, ms⟩ ((EW X).code f rd b ⟨⟨puts g (U n), []⟩, h, ms⟩) = some (e, ⟨⟨puts g V, []⟩, h, ms⟩)) (hr : isNormal e = false) :
    (EW X).code f rd (.loop b) ⟨⟨g, []⟩, h, ms⟩ = some (e, ⟨⟨puts g V, []⟩, h, ms⟩) := by
  refine w_rounds_at (fun k => ⟨⟨puts g (U k), []⟩, h, ms⟩) n _ (by rw [h0]) hs he fun s hh => ?_
  simp only [Option.some.injEq, Prod.mk.injEq] at hh
  rw [hh.1] at hr; cases hr
/-- The same with a heap that changes. -/
theorem w_rounds_h {g : Slots} {h : Heap} {ms : List Nat} (U : Nat → Slots) (H : Nat → Heap) (n : Nat) (e : AExit) (V : Slots) (hV : Heap) (h0 : puts g (U 0) = g) (hh : H 0 = h)
    (hs : ∀ k, k < n → cutS ⟨⟨puts g (U k), []⟩, H k, ms⟩ ((EW X).code f rd b ⟨⟨puts g (U k), []⟩, H k, ms⟩) = some (.normal, ⟨⟨puts g (U (k + 1)), []⟩, H (k + 1), ms⟩))
    (he : cutS ⟨⟨puts g (U n), []⟩, H n, ms⟩ ((EW X).code f rd b ⟨⟨puts g (U n), []⟩, H n, ms⟩) = some (e, ⟨⟨puts g V, []⟩, hV, ms⟩)) (hr : isNormal e = false) :
    (EW X).code f rd (.loop b) ⟨⟨g, []⟩, h, ms⟩ = some (e, ⟨⟨puts g V, []⟩, hV, ms⟩) := by
  refine w_rounds_at (fun k => ⟨⟨puts g (U k), []⟩, H k, ms⟩) n _ (by rw [h0, hh]) hs he fun s hh => ?_
  simp only [Option.some.injEq, Prod.mk.injEq] at hh
  rw [hh.1] at hr; cases hr
end
end Go.Proofs.Ytaohhjaogjcfoaa
end
section
namespace Go.Proofs.Ytaohhjaogjcfoaa

theorem pick_t (a b : AV) : pickAV true a b = a := by cases a <;> cases b <;> rfl
theorem pick_f (a b : AV) : pickAV false a b = b := by cases a <;> cases b <;> rfl
theorem pick_bb (c x y : Bool) : pickAV c (.bool x) (.bool y) = .bool (if c = true then x else y) := _root_.id rfl
theorem pick_ii (c : Bool) (k : IntKind) (x y : Int) : pickAV c (.int k x) (.int k y) = .int k (if c = true then x else y) := by cases c <;> rfl
theorem bind_ite {α β : Type} (c : Prop) [Decidable c] (a b : Option α) (f : α → Option β) : (if c then a else b).bind f = if c then a.bind f else b.bind f := by split <;> rfl
theorem bindW_ite {α β : Type} (c : Prop) [Decidable c] (a b : Option α) (f : α → Option β) (d : Tag f) : bindW (if c then a else b) f d = if c then bindW a f d else bindW b f d := by split <;> rfl
theorem hput_last (hb : List ABlk) (ht : List Bool) (x : ABlk) : hput ⟨hb, ht⟩ hb.length x = ⟨hb ++ [x], ht⟩ := hput_end ⟨hb, ht⟩ x
theorem cast_neg (k : Nat) : ((k : Int) < 0) = False := by simp
theorem cast_toNat (k : Nat) : ((k : Int)).toNat = k := Int.toNat_natCast k
theorem heap_put (hb : List ABlk) (ht : List Bool) (b : Nat) (x : ABlk) : Heap.put ⟨hb, ht⟩ b x = ⟨hb.set b x, ht⟩ := _root_.id rfl
theorem get_at0 {α : Type} (a t : List α) : (a ++ t)[a.length]? = t[0]? := by rw [List.getElem?_append_right (Nat.le_refl _), Nat.sub_self]
theorem get_at {α : Type} (a t : List α) (i : Nat) : (a ++ t)[a.length + i]? = t[i]? := by rw [List.getElem?_append_right (by omega), Nat.add_sub_cancel_left]
theorem set_at0 {α : Type} (a t : List α) (x : α) : (a ++ t).set a.length x = a ++ t.set 0 x := by rw [List.set_append_right _ _ (Nat.le_refl _), Nat.sub_self]
theorem set_at {α : Type} (a t : List α) (i : Nat) (x : α) : (a ++ t).set (a.length + i) x = a ++ t.set i x := by rw [List.set_append_right _ _ (by omega), Nat.add_sub_cancel_left]
theorem old {α : Type} {a : List α} {i : Nat} {y : α} (h : a[i]? = some y) : ∀ b, (a ++ b)[i]? = some y := fun b => by
  rw [List.getElem?_append_left (List.getElem?_eq_some_iff.1 h).1]; exact h
theorem map_succ {α β : Type} (g : α → β) {l : List α} {k : Nat} {x : α} (h : l[k]? = some x) : (l.take (k + 1)).map g = (l.take k).map g ++ [g x] := by
  rw [List.take_add_one, h]; simp
theorem cast_zero : ((0 : Nat) : Int) = 0 := _root_.id rfl
theorem cast_succ (k : Nat) : ((k + 1 : Nat) : Int) = (k : Int) + 1 := by omega
/-! ### Two ways that meet again -/
theorem some_ite (c : Prop) [Decidable c] (g1 l1 g2 l2 : Slots) (h1 h2 : Heap) (m1 m2 : List Nat) : (if c then some (⟨⟨g1, l1⟩, h1, m1⟩ : St) else some ⟨⟨g2, l2⟩, h2, m2⟩) = some ⟨⟨if c then g1 else g2, if c then l1 else l2⟩, if c then h1 else h2, if c then m1 else m2⟩ := by split <;> rfl
theorem cut_ite (s : St) (c : Prop) [Decidable c] (a b : Option (AExit × St)) : cutS s (if c then a else b) = if c then cutS s a else cutS s b := by split <;> rfl
theorem slot_ite (c : Prop) [Decidable c] (t : Nat) (v w : AV) (r r' : Slots) : (if c then (t, v) :: r else (t, w) :: r') = (t, if c then v else w) :: (if c then r else r') := by split <;> rfl
theorem same_ite {α : Type} (c : Prop) [Decidable c] (a : α) : (if c then a else a) = a := by split <;> rfl
theorem bool_ite (c : Prop) [Decidable c] (a b : Bool) : (if c then AV.bool a else AV.bool b) = AV.bool (if c then a else b) := by split <;> rfl
theorem int_ite (c : Prop) [Decidable c] (k : IntKind) (a b : Int) : (if c then AV.int k a else AV.int k b) = AV.int k (if c then a else b) := by split <;> rfl
theorem ite_tf (c : Prop) [Decidable c] : (if c then true else false) = decide c := by split <;> simp_all
theorem ite_ft (c : Prop) [Decidable c] : (if c then false else true) = !decide c := by split <;> simp_all
theorem ite_and (c : Prop) [Decidable c] (b : Bool) : (if c then b else false) = (decide c && b) := by split <;> simp_all
theorem ite_or (c : Prop) [Decidable c] (b : Bool) : (if c then true else b) = (decide c || b) := by split <;> simp_all
theorem ite_nand (c : Prop) [Decidable c] (b : Bool) : (if c then false else b) = (!decide c && b) := by split <;> simp_all
theorem ite_nor (c : Prop) [Decidable c] (b : Bool) : (if c then b else true) = (!decide c || b) := by split <;> simp_all
theorem dec_true (b : Bool) : decide (b = true) = b := by cases b <;> rfl
theorem dec_false (b : Bool) : decide (b = false) = !b := by cases b <;> rfl
/-- A row of numbers. -/
def I (l : List Int) : List AV := l.map (AV.int .i64)
theorem I_get (l : List Int) (k : Nat) : (I l)[k]? = (l[k]?).map (AV.int .i64) := by simp [I]
theorem I_len (l : List Int) : (I l).length = l.length := by simp [I]
theorem I_clean (l : List Int) : cleanL (I l) = some (I l) := cleanL_map (fun x => clean_int _ x) l
theorem I_under (n : Nat) (l : List Int) : underL n (I l) = true := underL_map (fun x => by simp [AV.under]) l
theorem I_var (l : List Int) : (I l).all AV.var = true := all_map (fun _ => rfl) l
theorem I_one (l : List Int) : (I l).all AV.one = true := all_map (fun _ => rfl) l
theorem I_take (n : Nat) (l : List Int) : (I l).take n = I (l.take n) := by simp [I]
theorem I_drop (n : Nat) (l : List Int) : (I l).drop n = I (l.drop n) := by simp [I]
theorem I_nil : I [] = [] := _root_.id rfl
theorem I_c (x : Int) (l : List Int) : I (x :: l) = .int .i64 x :: I l := _root_.id rfl
/-- A row of strings. -/
def S (l : List ByteArray) : List AV := l.map AV.str
theorem S_get (l : List ByteArray) (k : Nat) : (S l)[k]? = (l[k]?).map AV.str := by simp [S]
theorem S_len (l : List ByteArray) : (S l).length = l.length := by simp [S]
theorem S_clean (l : List ByteArray) : cleanL (S l) = some (S l) := cleanL_map (fun x => clean_str x) l
theorem S_under (n : Nat) (l : List ByteArray) : underL n (S l) = true := underL_map (fun x => by simp [AV.under]) l
theorem S_var (l : List ByteArray) : (S l).all AV.var = true := all_map (fun _ => rfl) l
theorem S_nil : S [] = [] := _root_.id rfl
theorem S_snoc (l : List ByteArray) (x : ByteArray) : S l ++ [.str x] = S (l ++ [x]) := by simp [S]
theorem I_snoc (l : List Int) (x : Int) : I l ++ [.int .i64 x] = I (l ++ [x]) := by simp [I]
theorem I_app (l m : List Int) : I l ++ I m = I (l ++ m) := by simp [I]
/-! ### A slice that grows: what is owned, behind k rounds -/
def T (T0 : List Bool) : Nat → List Bool
  | 0 => T0
  | k + 1 => T0 ++ (List.replicate k false ++ [true])
def tagT (T0 : List Bool) : Nat → Nat
  | 0 => 1
  | k + 1 => T0.length + k + 2
def zT (sz : Nat) : Nat → Nat
  | 0 => 0
  | _ + 1 => sz
theorem T_zero (T0 : List Bool) : T T0 0 = T0 := _root_.id rfl
theorem tagT_zero (T0 : List Bool) : tagT T0 0 = 1 := _root_.id rfl
theorem zT_zero (z : Nat) : zT z 0 = 0 := _root_.id rfl
theorem zT_succ (z k : Nat) : zT z (k + 1) = z := _root_.id rfl
theorem zT_pos {z k : Nat} (h : 0 < k) : zT z k = z := by cases k with | zero => omega | succ k => rfl
theorem append_step {X : Tab} {t e : TypeId} {sz : Nat} (T0 : List Bool) (k : Nat) (hb : List ABlk) (z u z' : Nat) (xs ys : List AV) (ht : trow X t = .slice e) (hs : tsz X e = sz) (hz : (k = 0 ∧ xs.length = 0) ∨ z = sz) (hz' : z' = sz ∨ ys.length = 0)
    (h0 : 0 < sz) (hy : (xs.length + ys.length) * tbytes X e ≤ 140737488355328) (hl : xs.length + ys.length ≤ 140737488355328) (hf : zeroFits X e = true) (hv : ys.all AV.var = true) :
    appendAV X t (T T0 k).length ⟨hb, T T0 k⟩ (.lst (tagT T0 k) z xs) (.lst u z' ys) = some (.lst (tagT T0 (k + 1)) sz (xs ++ ys), ⟨hb, T T0 (k + 1)⟩) := by
  have hc : (z' = tsz X e ∨ ys.length = 0) ∧ 0 < tsz X e ∧ (xs.length + ys.length) * tbytes X e ≤ appLimit ∧ xs.length + ys.length ≤ appLimit ∧ zeroFits X e = true ∧ ys.all AV.var = true := by
    rw [hs]; exact ⟨hz', h0, hy, hl, hf, hv⟩
  cases k with
  | zero =>
    have hx : z = tsz X e ∨ xs.length = 0 := by rcases hz with h | h; exact .inr h.2; exact .inl (by rw [hs]; exact h)
    unfold appendAV
    rw [ht]
    simp only [tagT, T]
    rw [if_pos hc, if_pos hx, hs]
    simp only [lset, Nat.lt_irrefl, if_false, List.replicate, List.nil_append, Nat.add_zero]
  | succ k =>
    have hx : z = tsz X e := by rcases hz with h | h; exact absurd h.1 (by omega); rw [hs]; exact h
    have hg : (T0 ++ (List.replicate k false ++ [true]))[T0.length + k]? = some true := by
      rw [List.getElem?_append_right (by omega), Nat.add_sub_cancel_left, List.getElem?_append_right (by simp), List.length_replicate, Nat.sub_self]; rfl
    have hset : (T0 ++ (List.replicate k false ++ [true])).set (T0.length + k) false = T0 ++ List.replicate (k + 1) false := by
      rw [List.set_append_right _ _ (by omega), Nat.add_sub_cancel_left, List.set_append_right _ _ (by simp), List.length_replicate, Nat.sub_self, List.replicate_succ']; rfl
    show appendAV X t (T0 ++ (List.replicate k false ++ [true])).length ⟨hb, T0 ++ (List.replicate k false ++ [true])⟩ (.lst (T0.length + k + 2) z xs) (.lst u z' ys) = some (.lst (T0.length + (k + 1) + 2) sz (xs ++ ys), ⟨hb, T0 ++ (List.replicate (k + 1) false ++ [true])⟩)
    unfold appendAV
    rw [ht]
    simp only [if_pos hc]
    rw [if_pos hx, hg]
    simp only
    rw [hset, hs]
    simp only [lset]
    rw [if_neg (by simp)]
    have e1 : (T0 ++ (List.replicate k false ++ [true])).length = T0.length + (k + 1) := by simp
    rw [e1, List.append_assoc]

/-! ### Calls -/
def consO (a : Option AV) (b : Option (List AV)) : Option (List AV) := match a, b with | some y, some ys => some (y :: ys) | _, _ => none
theorem consO_some (y : AV) (ys : List AV) : consO (some y) (some ys) = some (y :: ys) := _root_.id rfl
theorem consO_none (b : Option (List AV)) : consO none b = none := _root_.id rfl
theorem consO_none2 (a : Option AV) : consO a none = none := by cases a <;> rfl
theorem cleanL_cc (x : AV) (xs : List AV) : cleanL (x :: xs) = consO x.clean (cleanL xs) := by simp only [cleanL, consO]; cases x.clean <;> cases cleanL xs <;> rfl
theorem cl_lst (t z : Nat) (xs : List AV) : (AV.lst t z xs).clean = (cleanL xs).bind fun ys => some (.lst 0 z ys) := by simp only [AV.clean]; cases cleanL xs <;> rfl
theorem cl_agg (xs : List AV) : (AV.agg xs).clean = (cleanL xs).bind fun ys => some (.agg ys) := by simp only [AV.clean]; cases cleanL xs <;> rfl
theorem cl_tup (xs : List AV) : (AV.tup xs).clean = (cleanL xs).bind fun ys => some (.tup ys) := by simp only [AV.clean]; cases cleanL xs <;> rfl
/-- A call, by what is known of it: r: it may hand back a place; c: its arguments as plain data; raw: as they are. -/
noncomputable def callC (E : Eng) (q : Bool) (f : Nat) (r : Bool) (c : Option (List AV)) (raw : List AV) (h : Heap) : Option (AV × Heap) :=
  if r then (if q then none else E.call f raw h) else match c with
    | some az => callPure E f az h
    | none => if q then none else E.call f raw h
theorem callAV_clo (X : Tab) (E : Eng) (q : Bool) (f : Nat) (fst cap args : List AV) (h : Heap) : callAV X E q (.clo f fst cap) args h = callC E q f (retRef X f) (cleanL (fst ++ args ++ cap)) (fst ++ args ++ cap) h := _root_.id rfl
theorem callC_pure (E : Eng) (q : Bool) (f : Nat) (az raw : List AV) (h : Heap) : callC E q f false (some az) raw h = callPure E f az h := _root_.id rfl
theorem callC_heap (E : Eng) (f : Nat) (raw : List AV) (h : Heap) : callC E false f false none raw h = E.call f raw h := _root_.id rfl
theorem callC_ref (E : Eng) (f : Nat) (c : Option (List AV)) (raw : List AV) (h : Heap) : callC E false f true c raw h = E.call f raw h := _root_.id rfl
theorem wrap_i64 {n : Int} (h : -9223372036854775808 ≤ n ∧ n ≤ 9223372036854775807) : IntKind.i64.wrap n = n := by
  have := Go.IntWalk.i64_in n
  first | exact this h | exact this h.1 h.2 | exact this ⟨h.1, h.2⟩ | exact this (by omega) | exact this (by omega) (by omega)
theorem under_map {α : Type} {e : α → AV} (h : ∀ x n, (e x).under n = true) (n : Nat) (l : List α) : underL n (l.map e) = true := underL_map (fun x => h x n) l
theorem underL_app (n : Nat) (a b : List AV) : underL n (a ++ b) = (underL n a && underL n b) := by
  induction a with
  | nil => simp [underL]
  | cons x a ih => simp only [List.cons_append, underL, ih, Bool.and_assoc]
theorem take_app {α : Type} (a b : List α) : (a ++ b).take a.length = a := by simp
theorem get_last {α : Type} (a : List α) (x : α) : (a ++ [x])[a.length]? = some x := by simp
theorem get_old {α : Type} {a : List α} {i : Nat} {y : α} (h : a[i]? = some y) (b : List α) : (a ++ b)[i]? = some y := by
  rw [List.getElem?_append_left (List.getElem?_eq_some_iff.1 h).1]; exact h
attribute [go_sem ↓] w_block w_cond w_cond_const w_exit w_region w_ret w_scope w_seq w_skip
attribute [go_sem] true_or or_true false_or or_false Nat.add_le_add_iff_left settle_eq orW_some Nat.le_refl Int.le_refl Int.lt_irrefl bne_self_eq_false S_get S_len S_clean S_under S_var S_nil w_drawn soloW_nil soloW_c famC_true m_nil m_c m_one sameW_self drop_mk fam_one fam_more hushed_nil hushed_c hushK opKind callKind q_nil q_c q_g guardQ_some guardQ_none underL_app List.all_append Option.isNone_none Option.isNone_some T_zero tagT_zero zT_zero zT_succ List.map_nil Nat.zero_le get_at0 get_at set_at0 set_at take_app List.append_assoc List.set_cons_zero List.set_cons_succ heap_put beq_self_eq_true some_ite cut_ite slot_ite same_ite bool_ite int_ite ite_tf ite_ft ite_and ite_or ite_nand ite_nor dec_true dec_false Bool.not_not Bool.or_false Bool.false_or Bool.or_true Bool.true_or Bool.and_false Bool.false_and opNext opRange clean_int clean_bool clean_str clean_nilp clean_nilf clean_nilm clean_ref clean_eptr clean_yld clean_mapr clean_bsl clean_clo clean_clo1 clean_clo2 cl_lst cl_agg cl_tup cleanL_nil cleanL_cc consO_some consO_none consO_none2 callAV_clo callC_pure callC_heap callC_ref puts_nil puts_c cast_zero cast_succ Bool.and_assoc gt_iff_lt ge_iff_le I_get I_len I_clean I_under I_var I_one I_take I_drop I_nil run_g run_c0 setF_mk setD_some setD_none getF_mk adel_nil aget_c agetOr_nil aset_nil aset_c adel_c evo_tmp evo_func evo_int evo_bool evo_string evo_nilp evo_nilf evo_nilm evo_nils evo_agg ofCells_nil ofCells_c evoL_nil evoL_c next_normal next_exit next_ret next_ite catchB_normal catchB_ret catchB_exit catchB_ite endR_some endR_mk cut_normal cut_exit cut_ret restr_nil restr_c w_label condW_bool run_nil guardW_bool guardW_und guardK_some guardK_none o_move o_assign o_pick o_alloc o_box o_build o_buildSlice o_load o_store o_nilCheck o_binOp o_unOp o_convert o_makeFunc o_makeMap o_slice o_fieldAddr o_field o_indexAddr o_index o_lookup o_mapUpdate o_range o_next o_extract o_makeSlice o_call o_builtin bindW_some bindW_none Option.bind_some Option.bind_none Option.map_some Option.map_none List.toList_toArray guardOf List.getElem?_cons_zero List.getElem?_cons_succ List.getElem?_nil afterCall unmark resAV resOne leave opPick pick_t pick_f pick_bb pick_ii opAlloc opBox opLoad opStore opNil opConvert opFieldAddr opField opIndex opExtract opBuiltin opLen opAppend opMin opMax opFunc idxAV sliceAV bound opBuildSlice litParts buildAV fillAV fieldParts rowParts binAV intBin cmpInt shiftAV isShift boolBin strBin unAV loadAV splice tsz tbytes tagg tfield trow tint tzero tmap teq tbool tref tfok known zeroFits appLimit AV.cells AV.var AV.one AV.under underL hput lset List.length_append cast_neg cast_toNat List.drop_zero List.drop_succ_cons List.drop_nil List.take_zero List.take_succ_cons List.take_nil List.length_cons List.length_nil List.set_cons_zero List.set_cons_succ List.append_nil List.take_length List.nil_append List.cons_append List.all_cons List.all_nil List.length_map List.replicate Bool.not_true Bool.not_false Bool.and_true Bool.true_and Bool.and_self and_true true_and and_self Bool.false_eq_true decide_true decide_false decide_eq_true_eq Nat.zero_add Nat.add_zero Nat.lt_irrefl Nat.zero_lt_one
end Go.Proofs.Ytaohhjaogjcfoaa
end
