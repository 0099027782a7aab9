/- Parts of the proof, joined: Maps: the model's run, by the abstract interpreter's word. 'make' of a slice, 'copy', closures, and all operations in one. Frames of the abstract interpreter: what is read behind a write; forcing hands on what it is given. The small heap never shrinks by an operation. The abstract interpreter is sound: what is kept from step to step; one operation of a region. The abstract interpreter is sound: one operation of a region, calls and rounds among them. A slice that lies in a box of its own: how it comes to be, and how it becomes one for good. The abstract interpreter is sound: rounds, ranges over functions, results. The abstract interpreter is sound: a function's call from its body. 'next' of an iterator over a map: one of the entries that are left comes out, whichever. The abstract interpreter is sound: code. Regions whose order is drawn: what comes before what; what an operation looks at. Regions whose order is drawn: operations that care for no heap, and those that do. Regions whose order is drawn: two operations that no order binds come to the same either way. Conditions: those of each law. -/
import Derived.Test.YthkpjbgadkkeeaaGreatQ1
import Derived.WideKeyRuns
import Derived.Laws.MakeOwn
import Derived.OrdersIn
import Derived.RangeFuncLeaves
set_option linter.unusedSimpArgs false
set_option linter.unusedVariables false
namespace Go.Proofs.YthkpjbgadkkeeaaGreat
section
open Go.RowKit
section
variable {P : Program} {X : Tab} (hX : Fits P X) {C : Ctx} {base : Nat} {h : Heap} {p : Nat × Nat} {w0 w : World}
theorem eq1_value {kd : Nat} {x y : AV} {u v : Value} (he : eqCells [kd] [x] [y] = some true) (hx : Rv C x u) (hy : Rv C y v) : u = v ∧ (∀ n, Instr.sameBits n u u = true) := by
 unfold eqCells at he
 split at he
 ·rename_i e _ _; cases e
 ·rename_i e1 e2 e3
  cases e1; cases e2; cases e3
  split at he
  ·rename_i hk; subst hk
   have := hx.int_inv; have := hy.int_inv; subst_vars
   simp [eqCells] at he
   exact ⟨by rw [he], fun n => by cases n <;> simp [Instr.sameBits]⟩
  ·cases he
 ·rename_i e1 e2 e3
  cases e1; cases e2; cases e3
  have := hx.bool_inv; have := hy.bool_inv; subst_vars
  simp [eqCells] at he
  exact ⟨by rw [he], fun n => by cases n <;> simp [Instr.sameBits]⟩
 ·rename_i e1 e2 e3
  cases e1; cases e2; cases e3
  have := hx.str_inv; have := hy.str_inv; subst_vars
  simp [eqCells] at he
  rw [beq_toListBytes] at he
  have e := eq_of_beq he
  rw [ByteArray.toList_eq, ByteArray.toList_eq] at e
  exact ⟨congrArg Value.string (ByteArray.ext (Array.ext' e)), fun n => by cases n <;> simp [Instr.sameBits, beq_toListBytes]⟩
 ·cases he
theorem eqCells_value : ∀ {ks : List Nat} {xs ys : List AV} {us vs : List Value}, eqCells ks xs ys = some true → RvL C xs us → RvL C ys vs → us = vs ∧ ∀ u ∈ us, ∀ n, Instr.sameBits n u u = true
 | [], xs, ys, us, vs, he, hx, hy => by
  have := eqCells_shape he
  have h1 := hx.1; have h2 := hy.1
  simp at this
  rw [this.1] at h1; rw [this.2] at h2
  have e1 := List.eq_nil_of_length_eq_zero h1
  have e2 := List.eq_nil_of_length_eq_zero h2
  subst e1; subst e2
  exact ⟨rfl, by simp⟩
 | kd :: ks, xs, ys, us, vs, he, hx, hy => by
  have hs := eqCells_shape he
  match xs, ys, us, vs, hx.1, hy.1, hs with
  | x :: xs, y :: ys, u :: us, v :: vs, hl1, hl2, _ =>
   obtain ⟨b1, b2, h1, h2, h3⟩ := eqCells_one he
   have h3 := h3.symm
   simp only [Bool.and_eq_true] at h3
   obtain ⟨rfl, rfl⟩ := h3
   obtain ⟨e1, s1⟩ := eq1_value h1 (by simpa using hx.2 0 x rfl) (by simpa using hy.2 0 y rfl)
   obtain ⟨e2, s2⟩ := eqCells_value (us := us) (vs := vs) h2 (by simpa using hx.drop 1) (by simpa using hy.drop 1)
   refine ⟨by rw [e1, e2], fun z hz => ?_⟩
   rcases List.mem_cons.1 hz with e | e
   ·subst e; rw [e1] at s1 ⊢; exact s1
   ·exact s2 z e
  | x :: xs, y :: ys, [], _, hl1, _, _ => simp at hl1
  | x :: xs, y :: ys, _ :: _, [], _, hl2, _ => simp at hl2
  | [], _, _, _, _, _, hs => simp at hs
  | _ :: _, [], _, _, _, _, hs => simp at hs
theorem sameBits_agg {us : List Value} (hs : ∀ u ∈ us, ∀ n, Instr.sameBits n u u = true) : Instr.sameBits 10000 (.agg us.toArray) (.agg us.toArray) = true := by
 show (us.toArray.size == us.toArray.size && (us.toArray.toList.zip us.toArray.toList).all fun (x, y) => Instr.sameBits 9999 x y) = true
 simp only [beq_self_eq_true, Bool.true_and, List.all_eq_true]
 intro z hz
 have : ∀ (l : List Value) (z : Value × Value), z ∈ l.zip l → z.1 ∈ l ∧ z.2 = z.1 := by
  intro l
  induction l with
  | nil => intro z hz; simp at hz
  | cons a l ih =>
   intro z hz
   simp only [List.zip_cons_cons, List.mem_cons] at hz
   rcases hz with rfl | hz
   ·simp
   ·have := ih z hz; exact ⟨by simp [this.1], this.2⟩
 obtain ⟨h1, h2⟩ := this _ z hz
 have h1 : z.1 ∈ us := by simpa using h1
 obtain ⟨z1, z2⟩ := z
 simp only at h1 h2 ⊢
 rw [h2]
 exact hs _ h1 _
theorem run_check1 {t : TypeId} {kd : Nat} (hk : plainKind P t = some kd) (u : Value) (em : Bool) (d : Nat) :
  (Instr.checkKey em (d + 1) t u).run P w = .ok () w := by
 unfold plainKind at hk
 split at hk
 ·rename_i k hu; simp [Instr.checkKey, run_underlying hu]
 ·rename_i hu; simp [Instr.checkKey, run_underlying hu]
 ·rename_i hu; simp [Instr.checkKey, run_underlying hu]
 ·cases hk
theorem run_checkItems (d : Nat) (em : Bool) {e : TypeId} {kd : Nat} (hk : plainKind P e = some kd) {i0 : TypeInfo} (hi : P.info? e = some i0) (hs : i0.size = 1) {xs : List AV} {us : List Value} (hx : RvL C xs us) : ∀ (n i : Nat) (b : Bool),
  eqCells (List.replicate n kd) (xs.drop i) (xs.drop i) = some b →
  (forIn (m := Sem) (List.range' i n) PUnit.unit fun i _ => do Instr.checkKey em (d + 1) e (← part e us.toArray (i * (← sizeOf e))); pure (ForInStep.yield PUnit.unit)).run P w = .ok PUnit.unit w
 | 0, i, b, he => by simp
 | n + 1, i, b, he => by
  have hsh := eqCells_shape he
  have hix : i < xs.length := by have := hsh.1; simp at this; omega
  rw [List.drop_eq_getElem_cons hix, List.replicate_succ] at he
  obtain ⟨b1, b2, h1, h2, rfl⟩ := eqCells_one he
  obtain ⟨u, hu, hru⟩ := hx.get (List.getElem?_eq_getElem hix)
  have ih := run_checkItems d em hk hi hs hx n (i + 1) b2 h2
  have hce : P.cellsOf e = 1 := by simp [Program.cellsOf, hi, hs]
  simp only [List.range'_succ, List.forIn_cons, Sem.run_bind, run_sizeOf w hi, hce, Nat.mul_one, Result.andThen_ok, run_part hk us hu, run_check1 hk u em d, Sem.run_pure]
  exact ih
theorem run_checkFields (d : Nat) (em : Bool) {xs : List AV} {us : List Value} (hx : RvL C xs us) : ∀ (fs : List Field) (i : Nat) (ks : List Nat) (b : Bool), fieldKinds P i fs = some ks →
  eqCells ks (xs.drop i) (xs.drop i) = some b →
  (forIn (m := Sem) fs PUnit.unit fun f _ => do
   if f.name ≠ "_" then do
    Instr.checkKey em (d + 1) f.type (← part f.type us.toArray f.offset)
    pure (ForInStep.yield PUnit.unit)
   else pure (ForInStep.yield PUnit.unit)).run P w = .ok PUnit.unit w
 | [], i, ks, b, hf, he => by simp
 | f :: fs, i, ks, b, hf, he => by
  simp only [fieldKinds] at hf
  split at hf
  ·rename_i hc
   split at hf
   ·rename_i k ks' hk hks
    simp only [Option.some.injEq] at hf; subst hf
    have hs := eqCells_shape he
    have hix : i < xs.length := by have := hs.1; simp at this; omega
    rw [List.drop_eq_getElem_cons hix] at he
    obtain ⟨b1, b2, h1, h2, rfl⟩ := eqCells_one he
    obtain ⟨u, hu, hru⟩ := hx.get (List.getElem?_eq_getElem hix)
    have ih := run_checkFields d em hx fs (i + 1) ks' b2 hks h2
    simp only [List.forIn_cons, hc.1, ne_eq, not_false_eq_true, if_true, Sem.run_bind, hc.2.1, run_part hk us hu, Result.andThen_ok, run_check1 hk u em d, Sem.run_pure]
    exact ih
   ·cases hf
  ·cases hf
theorem run_checkAgg (d : Nat) (em : Bool) {t : TypeId} {ks : List Nat} (ht : eqIn P t = some ks) {xs : List AV} {us : List Value} (hx : RvL C xs us) {b : Bool} (he : eqCells ks xs xs = some b) :
  (Instr.checkKey em (d + 2) t (.agg us.toArray)).run P w = .ok () w := by
 unfold eqIn at ht
 split at ht
 ·cases ht
 ·split at ht
  ·rename_i n e hu
   split at ht
   ·rename_i hs
    cases hk : plainKind P e with
    | none => rw [hk] at ht; cases ht
    | some kd =>
     rw [hk] at ht; cases ht
     have hi : ∃ i, P.info? e = some i ∧ i.size = 1 := by
      unfold sizeIn at hs
      cases hi : P.info? e with
      | none => rw [hi] at hs; simp at hs
      | some i => rw [hi] at hs; exact ⟨i, rfl, hs⟩
     obtain ⟨i, hi, his⟩ := hi
     rw [Instr.checkKey]
     simp only [Sem.run_bind, run_underlying hu, Result.andThen_ok]
     simp only [Std.Legacy.Range.forIn_eq_forIn_range', Std.Legacy.Range.size, Nat.sub_zero, Nat.add_one_sub_one, Nat.div_one]
     have := run_checkItems (w := w) d em hk hi his hx n 0 b (by simpa using he)
     simp at this ⊢
     rw [this]; rfl
   ·cases ht
  ·rename_i fs hu
   split at ht
   ·cases ht
   ·rw [Instr.checkKey]
    simp only [Sem.run_bind, run_underlying hu, Result.andThen_ok]
    have := run_checkFields (w := w) d em hx fs.toList 0 ks b ht (by simpa using he)
    simp at this ⊢
    rw [this]; rfl
  ·cases ht
def RM (C : Ctx) (es : List (AV × AV)) (rs : List MapEntry) : Prop := rs.length = es.length ∧
 ∀ (i : Nat) (k v : AV) (e : MapEntry), es[i]? = some (k, v) → rs[i]? = some e → Rv C k e.key ∧ Rv C v e.val ∧ k.var = true
theorem RM.tail {x : AV × AV} {es : List (AV × AV)} {e : MapEntry} {rs : List MapEntry} (hr : RM C (x :: es) (e :: rs)) : RM C es rs :=
 ⟨by simpa using hr.1, fun i k v e' h1 h2 => hr.2 (i + 1) k v e' (by simpa using h1) (by simpa using h2)⟩
theorem run_look {kt : TypeId} {ks : List Nat} (ht : eqIn P kt = some ks) {key : List AV} {us : List Value} (hk : RvL C key us) : ∀ (es : List (AV × AV)) (rs : List MapEntry) (i : Nat) (o : Option AV), RM C es rs → lookAV ks es key = some o →
  (o = none ∧ (Instr.findAsking kt (.agg us.toArray) rs i).run P w = .ok none w) ∨ ∃ v j u, o = some v ∧ (Instr.findAsking kt (.agg us.toArray) rs i).run P w = .ok (some (j, u)) w ∧ Rv C v u
 | [], [], i, o, _, ho => by
  simp only [lookAV, Option.some.injEq] at ho; subst ho
  exact .inl ⟨rfl, by simp [Instr.findAsking]⟩
 | [], _ :: _, _, _, hr, _ => by have := hr.1; simp at this
 | _ :: _, [], _, _, hr, _ => by have := hr.1; simp at this
 | (.agg kc, v) :: es, e :: rs, i, o, hr, ho => by
  obtain ⟨h1, h2, h3⟩ := hr.2 0 _ _ _ rfl rfl
  obtain ⟨ek, ev, eb⟩ := e
  simp only at h1 h2
  cases h1 with
  | agg _ vs a1 a2 =>
   simp only [lookAV] at ho
   split at ho
   ·rename_i he
    cases ho
    have hrun := run_equalAgg (P := P) (w := w) 9998 ht hk ⟨a1, a2⟩ he
    exact .inr ⟨v, i, ev, rfl, by simp [Instr.findAsking, Op.equal, Op.maxDepth, hrun], h2⟩
   ·rename_i he
    have hrun := run_equalAgg (P := P) (w := w) 9998 ht hk ⟨a1, a2⟩ he
    rcases run_look ht hk es rs (i + 1) o hr.tail ho with ⟨e1, e2⟩ | ⟨v', j, u, e1, e2, e3⟩
    ·exact .inl ⟨e1, by simp [Instr.findAsking, Op.equal, Op.maxDepth, hrun, e2]⟩
    ·exact .inr ⟨v', j, u, e1, by simp [Instr.findAsking, Op.equal, Op.maxDepth, hrun, e2], e3⟩
   ·cases ho
 | (.int _ _, _) :: _, _ :: _, _, _, _, ho | (.bool _, _) :: _, _ :: _, _, _, _, ho | (.str _, _) :: _, _ :: _, _, _, _, ho | (.nilp, _) :: _, _ :: _, _, _, _, ho | (.nilf, _) :: _, _ :: _, _, _, _, ho
 | (.nilm, _) :: _, _ :: _, _, _, _, ho | (.lst _ _ _, _) :: _, _ :: _, _, _, _, ho | (.bsl _ _ _ _, _) :: _, _ :: _, _, _, _, ho | (.ref _ _, _) :: _, _ :: _, _, _, _, ho | (.eptr _, _) :: _, _ :: _, _, _, _, ho
 | (.clo _ _ _, _) :: _, _ :: _, _, _, _, ho | (.yld _, _) :: _, _ :: _, _, _, _, ho | (.mapr _, _) :: _, _ :: _, _, _, _, ho | (.tup _, _) :: _, _ :: _, _, _, _, ho | (.und, _) :: _, _ :: _, _, _, _, ho | (.junk, _) :: _, _ :: _, _, _, _, ho => by
  simp [lookAV] at ho
theorem eqIn_wide {kt : TypeId} {ks : List Nat} (ht : eqIn P kt = some ks) : (match P.underlying kt with | some (.array _ _) | some (.struct _) => true | _ => false) = true := by
 unfold eqIn at ht
 split at ht
 ·cases ht
 ·split at ht
  ·rename_i hu; first | rfl | rw [hu]
  ·rename_i hu; first | rfl | rw [hu]
  ·cases ht
theorem getObj_map {m : Nat} {es : Array MapEntry} {clock : Nat} (hh : w.heap[m]? = some (.map es clock)) : (getObj m).run P w = .ok (.map es clock) w := by
 have hlt := World.lt_of_heap hh
 have hg : w.heap[m] = .map es clock := (Array.getElem?_eq_some_iff.1 hh).2
 simp [getObj, Sem.run, hg, hlt]
include hX in
theorem lands_lookup (r : Rel C base h w0 w) {t : TypeId} {x k : AV} {xv kv : Value} (hx : Rv C x xv) (hk : Rv C k kv) {ok : Bool} {z : AV} {h' : Heap} (ho : opLookup X t x k ok h = some (z, h')) :
  Lands P C base h p w0 (do pure (.value (← Instr.lookup t xv kv ok))) w z h' := by
 unfold opLookup at ho
 split at ho
 ·rename_i b key
  split at ho
  ·rename_i kt et es htm hb
   have hu := hX.map htm
   split at ho
   ·rename_i ks hks
    have ht := hX.eqt hks
    split at ho
    ·rename_i hkey
     cases hx with
     | mapr _ hok =>
      cases hk with
      | agg _ us h1 h2 =>
       have hku : RvL C key us := ⟨h1, h2⟩
       obtain ⟨rs, clock, hh, ⟨hlen, hclk, hborn⟩, hent⟩ := r.box b _ hb
       have hget := getObj_map (P := P) hh
       have hchk := run_checkAgg (w := w) 9998 rs.isEmpty ht hku hkey
       have hfind := fun rs' => run_findKey_eq (P := P) w (eqIn_wide ht) (.agg us.toArray) rs'
       split at ho
       ·rename_i v hl
        cases ho
        rcases run_look (w := w) ht hku es rs 0 _ ⟨hlen, hent⟩ hl with ⟨e1, _⟩ | ⟨v', j, u, e1, e2, e3⟩
        ·cases e1
        ·cases e1
         refine lands_same r (u := if ok then .tuple #[u, .bool true] else u) ?_ ?_
         ·simp [Instr.lookup, run_underlying hu, hget, hchk, hfind, e2]
         ·cases ok
          ·exact e3
          ·refine .tup _ [u, .bool true] rfl fun i x hi => ?_
           match i, hi with
           | 0, hi => simp at hi; subst hi; exact e3
           | 1, hi => simp at hi; subst hi; exact .bool _
           | i + 2, hi => simp at hi
       ·rename_i z0 hl hz
        cases ho
        obtain ⟨j, zv, hj, hjz, hov, _⟩ := hX.zero hz
        rcases run_look (w := w) ht hku es rs 0 _ ⟨hlen, hent⟩ hl with ⟨_, e2⟩ | ⟨v', j, u, e1, _, _⟩
        ·refine lands_same r (u := if ok then .tuple #[zv, .bool false] else zv) ?_ ?_
         ·simp [Instr.lookup, run_underlying hu, hget, hchk, hfind, e2, zeroValue, typeInfo, hj, hjz]
         ·cases ok
          ·exact ofValue_rv hov
          ·refine .tup _ [zv, .bool false] rfl fun i x hi => ?_
           match i, hi with
           | 0, hi => simp at hi; subst hi; exact ofValue_rv hov
           | 1, hi => simp at hi; subst hi; exact .bool _
           | i + 2, hi => simp at hi
        ·cases e1
       ·cases ho
    ·cases ho
   ·cases ho
  ·cases ho
 ·cases ho
theorem run_put {kt : TypeId} {ks : List Nat} (ht : eqIn P kt = some ks) {key : List AV} {us : List Value} (hk : RvL C key us) {v : AV} : ∀ (es : List (AV × AV)) (rs : List MapEntry) (i : Nat) (es' : List (AV × AV)), RM C es rs → putAV ks es key v = some es' →
  ((Instr.findAsking kt (.agg us.toArray) rs i).run P w = .ok none w ∧ es' = es ++ [(.agg key, v)]) ∨
  ∃ j u e, (Instr.findAsking kt (.agg us.toArray) rs i).run P w = .ok (some (i + j, u)) w ∧ rs[j]? = some e ∧ e.key = .agg us.toArray ∧ (∀ u ∈ us, ∀ n, Instr.sameBits n u u = true) ∧ es' = es.set j (.agg key, v)
 | [], [], i, es', _, ho => by
  simp only [putAV, Option.some.injEq] at ho; subst ho
  exact .inl ⟨by simp [Instr.findAsking], rfl⟩
 | [], _ :: _, _, _, hr, _ => by have := hr.1; simp at this
 | _ :: _, [], _, _, hr, _ => by have := hr.1; simp at this
 | (.agg kc, x) :: es, e :: rs, i, es', hr, ho => by
  obtain ⟨h1, h2, h3⟩ := hr.2 0 _ _ _ rfl rfl
  obtain ⟨ek, ev, eb⟩ := e
  simp only at h1 h2
  cases h1 with
  | agg _ vs a1 a2 =>
   simp only [putAV] at ho
   split at ho
   ·rename_i he
    cases ho
    have hrun := run_equalAgg (P := P) (w := w) 9998 ht hk ⟨a1, a2⟩ he
    obtain ⟨e1, e2⟩ := eqCells_value he hk ⟨a1, a2⟩
    exact .inr ⟨0, ev, _, by simp [Instr.findAsking, Op.equal, Op.maxDepth, hrun], rfl, by rw [e1], e2, rfl⟩
   ·rename_i he
    have hrun := run_equalAgg (P := P) (w := w) 9998 ht hk ⟨a1, a2⟩ he
    cases hp : putAV ks es key v with
    | none => rw [hp] at ho; cases ho
    | some es2 =>
     rw [hp] at ho; cases ho
     rcases run_put ht hk es rs (i + 1) es2 hr.tail hp with ⟨e1, e2⟩ | ⟨j, u, e, e1, e2, e3, e4, e5⟩
     ·exact .inl ⟨by simp [Instr.findAsking, Op.equal, Op.maxDepth, hrun, e1], by simp [e2]⟩
     ·refine .inr ⟨j + 1, u, e, ?_, by simpa using e2, e3, e4, by simp [e5]⟩
      have : i + (j + 1) = i + 1 + j := by omega
      rw [this]
      simp [Instr.findAsking, Op.equal, Op.maxDepth, hrun, e1]
   ·cases ho
 | (.int _ _, _) :: _, _ :: _, _, _, _, ho | (.bool _, _) :: _, _ :: _, _, _, _, ho | (.str _, _) :: _, _ :: _, _, _, _, ho | (.nilp, _) :: _, _ :: _, _, _, _, ho | (.nilf, _) :: _, _ :: _, _, _, _, ho
 | (.nilm, _) :: _, _ :: _, _, _, _, ho | (.lst _ _ _, _) :: _, _ :: _, _, _, _, ho | (.bsl _ _ _ _, _) :: _, _ :: _, _, _, _, ho | (.ref _ _, _) :: _, _ :: _, _, _, _, ho | (.eptr _, _) :: _, _ :: _, _, _, _, ho
 | (.clo _ _ _, _) :: _, _ :: _, _, _, _, ho | (.yld _, _) :: _, _ :: _, _, _, _, ho | (.mapr _, _) :: _, _ :: _, _, _, _, ho | (.tup _, _) :: _, _ :: _, _, _, _, ho | (.und, _) :: _, _ :: _, _, _, _, ho | (.junk, _) :: _, _ :: _, _, _, _, ho => by
  simp [putAV] at ho
theorem eqCells_ones {ks : List Nat} : ∀ {xs ys : List AV} {b : Bool}, eqCells ks xs ys = some b → (∀ x ∈ xs, x.one = true) ∧ ∀ n, underL n xs = true := by
 induction ks with
 | nil =>
  intro xs ys b he
  have := (eqCells_shape he).1
  have := List.eq_nil_of_length_eq_zero this
  subst this
  exact ⟨by simp, fun n => rfl⟩
 | cons kd ks ih =>
  intro xs ys b he
  have hs := eqCells_shape he
  match xs, ys, hs with
  | x :: xs, y :: ys, _ =>
   obtain ⟨b1, b2, h1, h2, _⟩ := eqCells_one he
   obtain ⟨i1, i2⟩ := ih h2
   have hx : x.one = true ∧ ∀ n, x.under n = true := by
    unfold eqCells at h1
    split at h1
    ·rename_i e _ _; cases e
    ·rename_i e1 e2 e3; cases e2; exact ⟨rfl, fun _ => rfl⟩
    ·rename_i e1 e2 e3; cases e2; exact ⟨rfl, fun _ => rfl⟩
    ·rename_i e1 e2 e3; cases e2; exact ⟨rfl, fun _ => rfl⟩
    ·cases h1
   exact ⟨by simpa using ⟨hx.1, i1⟩, fun n => by simp only [underL, Bool.and_eq_true]; exact ⟨hx.2 n, i2 n⟩⟩
  | [], _, hs => simp at hs
  | _ :: _, [], hs => simp at hs
include hX in
theorem lands_mapUpdate (r : Rel C base h w0 w) {t : TypeId} {x k v : AV} {xv kv vv : Value} (hx : Rv C x xv) (hk : Rv C k kv) (hv : Rv C v vv) {z : AV} {h' : Heap} (ho : opMapUpdate X t x k v h = some (z, h')) :
  Lands P C base h p w0 (do Instr.mapUpdate t xv kv vv; pure .skip) w z h' := by
 unfold opMapUpdate at ho
 split at ho
 ·rename_i b key
  split at ho
  ·rename_i kt et es htm hb
   have hu := hX.map htm
   split at ho
   ·rename_i ks hks
    have ht := hX.eqt hks
    split at ho
    ·rename_i hc
     obtain ⟨hvar, hund, hkey⟩ := hc
     obtain ⟨hones, hku⟩ := eqCells_ones hkey
     split at ho
     ·rename_i es' hp
      cases ho
      cases hx with
      | mapr _ hok =>
       cases hk with
       | agg _ us h1 h2 =>
        have hku' : RvL C key us := ⟨h1, h2⟩
        have hkrv : Rv C (.agg key) (.agg us.toArray) := .agg _ _ h1 h2
        have hkvar : (AV.agg key).var = true := by simp only [AV.var, List.all_eq_true]; exact hones
        obtain ⟨rs, clock, hh, ⟨hlen, hclk, hborn⟩, hent⟩ := r.box b _ hb
        have hget := getObj_map (P := P) hh
        have hlt := World.lt_of_heap hh
        have hg : w.heap[C.mu b] = .map rs.toArray clock := (Array.getElem?_eq_some_iff.1 hh).2
        have hchk := run_checkAgg (P := P) (w := w) 9998 false ht hku' hkey
        have hfind := fun rs' => run_findKey_eq (P := P) w (eqIn_wide ht) (.agg us.toArray) rs'
        have hold := fun f hf hbf => r.und b _ hb f hf hbf
        rcases run_put (P := P) (w := w) ht hku' es rs 0 _ ⟨hlen, hent⟩ hp with ⟨e1, e2⟩ | ⟨j, u, e, e1, e2, e3, e4, e5⟩
        ·refine ⟨C, { w with heap := w.heap.setIfInBounds (C.mu b) (.map (rs.toArray.push { key := .agg us.toArray, val := vv, born := clock }) (clock + 1)) }, .skip, undef, ?_, .inr ⟨rfl, rfl⟩, .junk _, Ctx.le.refl base C, ?_, fun _ _ _ => rfl, fun _ _ _ => rfl⟩
         ·simp [Instr.mapUpdate, run_underlying hu, hget, hchk, hfind, e1]
          simp [setObj, Sem.run, hlt, hg]
         ·refine r.put hb (by simp) _ (by simp) rfl rfl rfl (fun k hk => by simp [Ne.symm hk]) ?_ ?_
          ·refine ⟨rs ++ [{ key := .agg us.toArray, val := vv, born := clock }], clock + 1, by simp [hlt], ⟨by simp [e2, hlen], by simp [hclk], fun i e hi => by
            rw [List.getElem?_append] at hi
            split at hi
            ·exact hborn i e hi
            ·rename_i hge
             have h0 : i - rs.length = 0 := by
              have := (List.getElem?_eq_some_iff.1 hi).1
              simp at this; omega
             rw [h0] at hi
             simp at hi
             subst hi
             show clock = i
             omega⟩, ?_⟩
           intro i k' v' e' g1 g2
           rw [e2, List.getElem?_append] at g1
           rw [List.getElem?_append, hlen] at g2
           split at g1
           ·rename_i hi; rw [if_pos hi] at g2; exact hent i k' v' e' g1 g2
           ·rename_i hi
            rw [if_neg hi] at g2
            have h0 : i - es.length = 0 := by
             have := (List.getElem?_eq_some_iff.1 g1).1
             simp at this; omega
            rw [h0] at g1 g2
            simp at g1 g2
            obtain ⟨rfl, rfl⟩ := g1
            subst g2
            exact ⟨hkrv, hv, hkvar⟩
          ·intro f hf hbf e' he'
           rw [e2] at he'
           rcases List.mem_append.1 he' with he' | he'
           ·exact hold f hf hbf e' he'
           ·simp at he'; subst he'; exact ⟨hku _, AV.under_mono hbf _ hund⟩
        ·have hstay : (Instr.keyThatStays (.agg us.toArray) (.agg us.toArray)).run P w = .ok (.agg us.toArray) w := by
          simp [Instr.keyThatStays, sameBits_agg e4]
         have hjl : j < rs.length := (List.getElem?_eq_some_iff.1 e2).1
         have hrj : rs[j] = e := (List.getElem?_eq_some_iff.1 e2).2
         rw [Nat.zero_add] at e1
         refine ⟨C, { w with heap := w.heap.setIfInBounds (C.mu b) (.map (rs.toArray.modify j fun e => { e with key := .agg us.toArray, val := vv }) clock) }, .skip, undef, ?_, .inr ⟨rfl, rfl⟩, .junk _, Ctx.le.refl base C, ?_, fun _ _ _ => rfl, fun _ _ _ => rfl⟩
         ·simp [Instr.mapUpdate, run_underlying hu, hget, hchk, hfind, e1, hjl, hrj, e3, hstay]
          simp [setObj, Sem.run, hlt, hg]
         ·refine r.put hb (by simp) _ (by simp) rfl rfl rfl (fun k hk => by simp [Ne.symm hk]) ?_ ?_
          ·refine ⟨(rs.toArray.modify j fun e => { e with key := .agg us.toArray, val := vv }).toList, clock, by simp [hlt], ⟨by simp [e5, hlen], by simp [hclk], fun i e hi => by
            simp only [Array.getElem?_toList, Array.getElem?_modify] at hi
            split at hi
            ·cases hq : rs.toArray[i]? with
             | none => rw [hq] at hi; cases hi
             | some q => rw [hq] at hi; cases hi; exact hborn i q (by simpa using hq)
            ·exact hborn i e (by simpa using hi)⟩, ?_⟩
           intro i k' v' e' g1 g2
           rw [e5, List.getElem?_set] at g1
           simp only [Array.getElem?_toList, Array.getElem?_modify] at g2
           split at g1
           ·rename_i hij
            subst hij
            simp only [if_true] at g2
            split at g1
            ·cases g1
             cases hq : rs.toArray[j]? with
             | none => rw [hq] at g2; cases g2
             | some q => rw [hq] at g2; cases g2; exact ⟨hkrv, hv, hkvar⟩
            ·cases g1
           ·rename_i hij
            rw [if_neg hij] at g2
            exact hent i k' v' e' g1 (by simpa using g2)
          ·intro f hf hbf e' he'
           rw [e5] at he'
           rcases List.mem_or_eq_of_mem_set he' with he' | he'
           ·exact hold f hf hbf e' he'
           ·subst he'; exact ⟨hku _, AV.under_mono hbf _ hund⟩
     ·cases ho
    ·cases ho
   ·cases ho
  ·cases ho
 ·cases ho
theorem run_ix {kt : TypeId} {ks : List Nat} (ht : eqIn P kt = some ks) {key : List AV} {us : List Value} (hk : RvL C key us) : ∀ (es : List (AV × AV)) (rs : List MapEntry) (i : Nat) (o : Option Nat), RM C es rs → ixAV ks es key = some o →
  (o = none ∧ (Instr.findAsking kt (.agg us.toArray) rs i).run P w = .ok none w) ∨
  ∃ j u e, o = some j ∧ (Instr.findAsking kt (.agg us.toArray) rs i).run P w = .ok (some (i + j, u)) w ∧ rs[j]? = some e ∧ e.val = u ∧ e.key = .agg us.toArray ∧ (∀ u ∈ us, ∀ n, Instr.sameBits n u u = true)
 | [], [], i, o, _, ho => by
  simp only [ixAV, Option.some.injEq] at ho; subst ho
  exact .inl ⟨rfl, by simp [Instr.findAsking]⟩
 | [], _ :: _, _, _, hr, _ => by have := hr.1; simp at this
 | _ :: _, [], _, _, hr, _ => by have := hr.1; simp at this
 | (.agg kc, x) :: es, e :: rs, i, o, hr, ho => by
  obtain ⟨h1, h2, h3⟩ := hr.2 0 _ _ _ rfl rfl
  obtain ⟨ek, ev, eb⟩ := e
  simp only at h1 h2
  cases h1 with
  | agg _ vs a1 a2 =>
   simp only [ixAV] at ho
   split at ho
   ·rename_i he
    cases ho
    have hrun := run_equalAgg (P := P) (w := w) 9998 ht hk ⟨a1, a2⟩ he
    obtain ⟨e1, e2⟩ := eqCells_value he hk ⟨a1, a2⟩
    exact .inr ⟨0, ev, _, rfl, by simp [Instr.findAsking, Op.equal, Op.maxDepth, hrun], rfl, rfl, by rw [e1], e2⟩
   ·rename_i he
    have hrun := run_equalAgg (P := P) (w := w) 9998 ht hk ⟨a1, a2⟩ he
    cases hp : ixAV ks es key with
    | none => rw [hp] at ho; cases ho
    | some o2 =>
     rw [hp] at ho; cases ho
     rcases run_ix ht hk es rs (i + 1) o2 hr.tail hp with ⟨e1, e2⟩ | ⟨j, u, e, e0, e1, e2, e3, e4, e5⟩
     ·exact .inl ⟨by rw [e1]; rfl, by simp [Instr.findAsking, Op.equal, Op.maxDepth, hrun, e2]⟩
     ·refine .inr ⟨j + 1, u, e, by rw [e0]; rfl, ?_, by simpa using e2, e3, e4, e5⟩
      have : i + (j + 1) = i + 1 + j := by omega
      rw [this]
      simp [Instr.findAsking, Op.equal, Op.maxDepth, hrun, e1]
   ·cases ho
 | (.int _ _, _) :: _, _ :: _, _, _, _, ho | (.bool _, _) :: _, _ :: _, _, _, _, ho | (.str _, _) :: _, _ :: _, _, _, _, ho | (.nilp, _) :: _, _ :: _, _, _, _, ho | (.nilf, _) :: _, _ :: _, _, _, _, ho
 | (.nilm, _) :: _, _ :: _, _, _, _, ho | (.lst _ _ _, _) :: _, _ :: _, _, _, _, ho | (.bsl _ _ _ _, _) :: _, _ :: _, _, _, _, ho | (.ref _ _, _) :: _, _ :: _, _, _, _, ho | (.eptr _, _) :: _, _ :: _, _, _, _, ho
 | (.clo _ _ _, _) :: _, _ :: _, _, _, _, ho | (.yld _, _) :: _, _ :: _, _, _, _, ho | (.mapr _, _) :: _, _ :: _, _, _, _, ho | (.tup _, _) :: _, _ :: _, _, _, _, ho | (.und, _) :: _, _ :: _, _, _, _, ho | (.junk, _) :: _, _ :: _, _, _, _, ho => by
  simp [ixAV] at ho
include hX in
theorem lands_mapEntry (r : Rel C base h w0 w) {t : TypeId} {x k : AV} {xv kv : Value} (hx : Rv C x xv) (hk : Rv C k kv) {z : AV} {h' : Heap} (ho : opMapEntry X t x k h = some (z, h')) :
  Lands P C base h p w0 (do pure (.value (← Instr.mapEntry t xv kv))) w z h' := by
 unfold opMapEntry at ho
 split at ho
 ·rename_i b key
  split at ho
  ·rename_i kt et es htm hb
   have hu := hX.map htm
   split at ho
   ·rename_i ks hks
    have ht := hX.eqt hks
    split at ho
    ·rename_i hkey
     obtain ⟨hones, hku⟩ := eqCells_ones hkey
     cases hx with
     | mapr _ hok =>
      cases hk with
      | agg _ us h1 h2 =>
       have hku' : RvL C key us := ⟨h1, h2⟩
       have hkrv : Rv C (.agg key) (.agg us.toArray) := .agg _ _ h1 h2
       have hkvar : (AV.agg key).var = true := by simp only [AV.var, List.all_eq_true]; exact hones
       obtain ⟨rs, clock, hh, ⟨hlen, hclk, hborn⟩, hent⟩ := r.box b _ hb
       have hget := getObj_map (P := P) hh
       have hlt := World.lt_of_heap hh
       have hg : w.heap[C.mu b] = .map rs.toArray clock := (Array.getElem?_eq_some_iff.1 hh).2
       have hchk := run_checkAgg (P := P) (w := w) 9998 false ht hku' hkey
       have hfind := fun rs' => run_findKey_eq (P := P) w (eqIn_wide ht) (.agg us.toArray) rs'
       have hold := fun f hf hbf => r.und b _ hb f hf hbf
       split at ho
       ·rename_i j hix
        split at ho
        ·rename_i en hej
         cases ho
         rcases run_ix (P := P) (w := w) ht hku' es rs 0 _ ⟨hlen, hent⟩ hix with ⟨e0, _⟩ | ⟨j', u, e, e0, e1, e2, e3, e4, e5⟩
         ·cases e0
         cases e0
         obtain ⟨ek, ev⟩ := en
         have hstay : (Instr.keyThatStays (.agg us.toArray) (.agg us.toArray)).run P w = .ok (.agg us.toArray) w := by
          simp [Instr.keyThatStays, sameBits_agg e5]
         have hjl : j < rs.length := (List.getElem?_eq_some_iff.1 e2).1
         have hrj : rs[j] = e := (List.getElem?_eq_some_iff.1 e2).2
         have hbj := hborn j e e2
         rw [Nat.zero_add] at e1
         obtain ⟨_, hvr, _⟩ := hent j ek ev e hej e2
         rw [e3] at hvr
         refine ⟨C, { w with heap := w.heap.setIfInBounds (C.mu b) (.map (rs.toArray.modify j fun e => { e with key := .agg us.toArray }) clock) }, _, .tuple #[u, goInt j], ?_, .inl rfl, ?_, Ctx.le.refl base C, ?_, fun _ _ _ => rfl, fun _ _ _ => rfl⟩
         ·simp [Instr.mapEntry, run_underlying hu, hget, hchk, hfind, e1, hjl, hrj, e4, hstay, hbj]
          simp [setObj, Sem.run, hlt, hg]
         ·refine .tup _ [u, goInt j] rfl fun i x hi => ?_
          match i, hi with
          | 0, hi => simp at hi; subst hi; exact hvr
          | 1, hi => simp at hi; subst hi; exact .int _ _
          | i + 2, hi => simp at hi
         ·refine r.put hb (by simp) _ (by simp) rfl rfl rfl (fun k hk => by simp [Ne.symm hk]) ?_ ?_
          ·refine ⟨(rs.toArray.modify j fun e => { e with key := .agg us.toArray }).toList, clock, by simp [hlt], ⟨by simp [hlen], by simp [hclk], fun i e hi => by
            simp only [Array.getElem?_toList, Array.getElem?_modify] at hi
            split at hi
            ·cases hq : rs.toArray[i]? with
             | none => rw [hq] at hi; cases hi
             | some q => rw [hq] at hi; cases hi; exact hborn i q (by simpa using hq)
            ·exact hborn i e (by simpa using hi)⟩, ?_⟩
           intro i k' v' e' g1 g2
           rw [List.getElem?_set] at g1
           simp only [Array.getElem?_toList, Array.getElem?_modify] at g2
           split at g1
           ·rename_i hij
            subst hij
            simp only [if_true] at g2
            split at g1
            ·cases g1
             cases hq : rs.toArray[j]? with
             | none => rw [hq] at g2; cases g2
             | some q =>
              rw [hq] at g2; cases g2
              have hq' : rs[j]? = some q := by simpa using hq
              rw [e2] at hq'
              cases hq'
              exact ⟨hkrv, by show Rv C ev e.val; rw [e3]; exact hvr, hkvar⟩
            ·cases g1
           ·rename_i hij
            rw [if_neg hij] at g2
            exact hent i k' v' e' g1 (by simpa using g2)
          ·intro f hf hbf e' he'
           rcases List.mem_or_eq_of_mem_set he' with he' | he'
           ·exact hold f hf hbf e' he'
           ·subst he'; exact ⟨hku _, (hold f hf hbf _ (List.mem_of_getElem? hej)).2⟩
        ·cases ho
       ·rename_i hix
        split at ho
        ·rename_i z0 hz
         cases ho
         obtain ⟨j, zv, hj, hjz, hov, _⟩ := hX.zero hz
         rcases run_ix (P := P) (w := w) ht hku' es rs 0 _ ⟨hlen, hent⟩ hix with ⟨_, e1⟩ | ⟨j', u, e, e0, _⟩
         rotate_left
         ·cases e0
         refine ⟨C, { w with heap := w.heap.setIfInBounds (C.mu b) (.map (rs.toArray.push { key := .agg us.toArray, val := zv, born := clock }) (clock + 1)) }, _, .tuple #[zv, goInt es.length], ?_, .inl rfl, ?_, Ctx.le.refl base C, ?_, fun _ _ _ => rfl, fun _ _ _ => rfl⟩
         ·have hce : clock = es.length := by omega
          simp [Instr.mapEntry, run_underlying hu, hget, hchk, hfind, e1, zeroValue, typeInfo, hj, hjz]
          simp [setObj, Sem.run, hlt, hg, hce]
         ·refine .tup _ [zv, goInt es.length] rfl fun i x hi => ?_
          match i, hi with
          | 0, hi => simp at hi; subst hi; exact ofValue_rv hov
          | 1, hi => simp at hi; subst hi; exact .int _ _
          | i + 2, hi => simp at hi
         ·refine r.put hb (by simp) _ (by simp) rfl rfl rfl (fun k hk => by simp [Ne.symm hk]) ?_ ?_
          ·refine ⟨rs ++ [{ key := .agg us.toArray, val := zv, born := clock }], clock + 1, by simp [hlt], ⟨by simp [hlen], by simp [hclk], fun i e hi => by
            rw [List.getElem?_append] at hi
            split at hi
            ·exact hborn i e hi
            ·rename_i hge
             have h0 : i - rs.length = 0 := by
              have := (List.getElem?_eq_some_iff.1 hi).1
              simp at this; omega
             rw [h0] at hi
             simp at hi
             subst hi
             show clock = i
             omega⟩, ?_⟩
           intro i k' v' e' g1 g2
           rw [List.getElem?_append] at g1
           rw [List.getElem?_append, hlen] at g2
           split at g1
           ·rename_i hi; rw [if_pos hi] at g2; exact hent i k' v' e' g1 g2
           ·rename_i hi
            rw [if_neg hi] at g2
            have h0 : i - es.length = 0 := by
             have := (List.getElem?_eq_some_iff.1 g1).1
             simp at this; omega
            rw [h0] at g1 g2
            simp at g1 g2
            obtain ⟨rfl, rfl⟩ := g1
            subst g2
            exact ⟨hkrv, ofValue_rv hov, hkvar⟩
          ·intro f hf hbf e' he'
           rcases List.mem_append.1 he' with he' | he'
           ·exact hold f hf hbf e' he'
           ·simp at he'; subst he'; exact ⟨hku _, ofValue_under hov _⟩
        ·cases ho
       ·cases ho
    ·cases ho
   ·cases ho
  ·cases ho
 ·cases ho
theorem lands_entryStore (r : Rel C base h w0 w) {t : TypeId} {x s v : AV} {xv sv vv : Value} (hx : Rv C x xv) (hs : Rv C s sv) (hv : Rv C v vv) {z : AV} {h' : Heap} (ho : opEntryStore x s v h = some (z, h')) :
  Lands P C base h p w0 (do Instr.entryStore t xv sv vv; pure .skip) w z h' := by
 unfold opEntryStore at ho
 split at ho
 ·rename_i b n
  split at ho
  ·rename_i es hb
   split at ho
   ·rename_i hc
    obtain ⟨hn, hvar, hund⟩ := hc
    split at ho
    ·rename_i en hej
     cases ho
     cases hx with
     | mapr _ hok =>
      have := hs.int_inv; subst this
      obtain ⟨ek, ev⟩ := en
      obtain ⟨rs, clock, hh, ⟨hlen, hclk, hborn⟩, hent⟩ := r.box b _ hb
      have hget := getObj_map (P := P) hh
      have hlt := World.lt_of_heap hh
      have hg : w.heap[C.mu b] = .map rs.toArray clock := (Array.getElem?_eq_some_iff.1 hh).2
      have hold := fun f hf hbf => r.und b _ hb f hf hbf
      generalize hm : n.toNat = m at *
      have hnm : n = (m : Int) := by omega
      subst hnm
      have hml : m < rs.length := by rw [hlen]; exact (List.getElem?_eq_some_iff.1 hej).1
      have hrm := List.getElem?_eq_getElem hml
      have hfi : rs.findIdx? (fun e => (e.born : Int) == (m : Int)) = some m := by
       rw [List.findIdx?_eq_some_iff_getElem]
       refine ⟨hml, by rw [hborn m _ hrm]; simp, fun j hj => ?_⟩
       have hjl : j < rs.length := by omega
       rw [hborn j _ (List.getElem?_eq_getElem hjl)]
       simp; omega
      obtain ⟨hkr, _, hkv⟩ := hent m ek ev _ hej hrm
      refine ⟨C, { w with heap := w.heap.setIfInBounds (C.mu b) (.map (rs.toArray.modify m fun e => { e with val := vv }) clock) }, .skip, undef, ?_, .inr ⟨rfl, rfl⟩, .junk _, Ctx.le.refl base C, ?_, fun _ _ _ => rfl, fun _ _ _ => rfl⟩
      ·simp [Instr.entryStore, hget, asInt, asIntOf, hfi]
       simp [setObj, Sem.run, hlt, hg]
      ·refine r.put hb (by simp) _ (by simp) rfl rfl rfl (fun k hk => by simp [Ne.symm hk]) ?_ ?_
       ·refine ⟨(rs.toArray.modify m fun e => { e with val := vv }).toList, clock, by simp [hlt], ⟨by simp [hlen], by simp [hclk], fun i e hi => by
         simp only [Array.getElem?_toList, Array.getElem?_modify] at hi
         split at hi
         ·cases hq : rs.toArray[i]? with
          | none => rw [hq] at hi; cases hi
          | some q => rw [hq] at hi; cases hi; exact hborn i q (by simpa using hq)
         ·exact hborn i e (by simpa using hi)⟩, ?_⟩
        intro i k' v' e' g1 g2
        rw [List.getElem?_set] at g1
        simp only [Array.getElem?_toList, Array.getElem?_modify] at g2
        split at g1
        ·rename_i hij
         subst hij
         simp only [if_true] at g2
         split at g1
         ·cases g1
          cases hq : rs.toArray[m]? with
          | none => rw [hq] at g2; cases g2
          | some q =>
           rw [hq] at g2; cases g2
           have hq' : rs[m]? = some q := by simpa using hq
           rw [hrm] at hq'
           cases hq'
           exact ⟨hkr, hv, hkv⟩
         ·cases g1
        ·rename_i hij
         rw [if_neg hij] at g2
         exact hent i k' v' e' g1 (by simpa using g2)
       ·intro f hf hbf e' he'
        rcases List.mem_or_eq_of_mem_set he' with he' | he'
        ·exact hold f hf hbf e' he'
        ·subst he'; exact ⟨(hold f hf hbf _ (List.mem_of_getElem? hej)).1, AV.under_mono hbf _ hund⟩
    ·cases ho
   ·cases ho
  ·cases ho
 ·cases ho
end
end
section
open Go.RowKit
section
variable {P : Program} {X : Tab} (hX : Fits P X) {C : Ctx} {base : Nat} {h : Heap} {p : Nat × Nat} {w0 w : World}
theorem zeros_one (v : Value) (n : Nat) : ((Array.range n).map fun i => (#[v] : Array Value)[i % (#[v] : Array Value).size]!) = (List.replicate n v).toArray := by
 apply Array.ext
 ·simp
 ·intro i h1 h2
  simp [Nat.mod_one]
include hX in
theorem lands_makeSlice (r : Rel C base h w0 w) (hp : Free C h p.1) {t : TypeId} {l c : AV} {lv cv : Value} (hl : Rv C l lv) (hc : Rv C c cv) {z : AV} {h' : Heap} (ho : opMakeSlice X p.1 t l c h = some (z, h')) :
  Lands P C base h p w0 (do pure (.value (← Instr.makeSlice t lv cv))) w z h' := by
 unfold opMakeSlice at ho
 split at ho
 ·rename_i e k1 n k2 m hrow
  have hu := hX.row_slice hrow
  have := hl.int_inv; have := hc.int_inv; subst_vars
  split at ho
  ·rename_i y hy
   split at ho
   ·rename_i hcond
    obtain ⟨h0, rfl, h4, hb, hone, hsz⟩ := hcond
    cases ho
    obtain ⟨j, v, hj, hjz, hov, hjs⟩ := hX.zero hy
    have hbt : tbytes X e = j.bytes := by
     unfold tbytes
     have := hX.size_pos (t := e) (by omega)
     obtain ⟨j', hj', _, hg⟩ := this
     rw [hj] at hj'; cases hj'
     rw [hg]; rfl
    have hrv := ofValue_rv (C := C.lay p.1 w.heap.size) hov
    have hcells := hrv.one_cells hone
    obtain ⟨m, rfl⟩ : ∃ m : Nat, n = m := ⟨n.toNat, by omega⟩
    have hm : m ≤ 4096 := by omega
    have hbm : j.bytes * m ≤ 16777216 := by
     rw [← hbt]
     exact Nat.le_trans (Nat.mul_le_mul hb hm) (by decide)
    have hbm' : ¬ (281474976710656 < (j.bytes : Int) * (m : Int)) := by
     have : ((j.bytes : Int) * (m : Int)) = ((j.bytes * m : Nat) : Int) := by simp
     rw [this]; omega
    refine lands_new r hp (.cells (List.replicate m y)) (.cells (List.replicate m v).toArray e) (u := .slice (some ⟨w.heap.size, 0, none⟩) m m) ?_ ⟨List.replicate m v, [], e, by simpa using heap_alloc_new w (.cells (List.replicate m v).toArray e), by simp, fun i x hi => ?_⟩ (fun x hx => ?_) ?_
    ·rw [hsz] at hjs
     have hmade : madeCells v.cells (((m : Int).toNat) * j.size) = (List.replicate m v).toArray := by
      rw [hjs, Int.toNat_natCast, Nat.mul_one, hcells]
      by_cases hm0 : m = 0
      ·subst hm0; simp [madeCells]
      ·exact zeros_one v m
     have hrun := run_makeSlice w t e j v hu hj hjz k1 k2 m m (by omega) (Int.le_refl _) (by rw [hjs, Int.toNat_natCast]; omega) (by omega) (by omega)
     rw [hmade] at hrun
     simp [hrun]
    ·have hi' := List.getElem?_eq_some_iff.1 hi
     obtain ⟨hlt, he⟩ := hi'
     simp at hlt he
     subst he
     have : (List.replicate m v).getD i undef = v := by simp [List.getD_eq_getElem?_getD, hlt]
     rw [this]; exact hrv
    ·rw [List.eq_of_mem_replicate hx]; exact ofValue_under hov _
    ·simp only [Int.toNat_natCast]
     refine .bsl _ _ _ _ _ _ (C.lay_ok _ _) (Nat.le_refl _) fun _ => by rw [C.lay_mu]
   ·cases ho
  ·cases ho
 ·cases ho
theorem flat_ones_list {xs : List AV} {vs : Nat → Value} (hx : ∀ i x, xs[i]? = some x → Rv C x (vs i)) (ho : xs.all AV.one = true) : ∀ n, n ≤ xs.length → RvL C (xs.take n) (flat vs n)
 | 0, _ => ⟨by simp [flat], fun i x h => by simp at h⟩
 | n + 1, hn => by
  have ih := flat_ones_list hx ho n (by omega)
  have hxn : xs[n]? = some xs[n] := List.getElem?_eq_getElem (by omega)
  have hv := hx n _ hxn
  have hc := hv.one_cells (List.all_eq_true.1 ho _ (List.getElem_mem (by omega)))
  have e : xs.take (n + 1) = xs.take n ++ [xs[n]] := List.take_succ_eq_append_getElem (by omega)
  rw [e, flat_succ, hc]
  refine ih.append ⟨rfl, fun i x h => ?_⟩
  cases i with
  | zero => simp at h; subst h; simpa using hv
  | succ i => simp at h
theorem cell_of {w : World} {b off : Nat} {vs : List Value} {ty : TypeId} (hh : w.heap[b]? = some (.cells vs.toArray ty (0, 0))) {v : Value} (hv : vs[off]? = some v) : w.cell? ⟨b, off, none⟩ = some v := by
 unfold World.cell?
 simp [hh, hv]
include hX in
theorem lands_copy (r : Rel C base h w0 w) {ts : List TypeId} {ty : TypeId} {xs : List AV} {vs : List Value} (hv : RvL C xs vs) {z : AV} {h' : Heap} (ho : opCopy X ts xs h = some (z, h')) :
  Lands P C base h p w0 (do pure (.value (← Builtin.copy_ ts.toArray ty vs.toArray))) w z h' := by
 unfold opCopy at ho
 split at ho
 ·rename_i t tr b off len sz tg sz' ys
  obtain ⟨u, v, rfl, hu1, hu2⟩ := two_of hv rfl
  split at ho
  ·rename_i e c hrow hb
   have hut := hX.row_slice hrow
   split at ho
   ·rename_i hc
    obtain ⟨e1, e2, e3, hfit, hone, hund, hlen⟩ := hc
    cases ho
    obtain ⟨a2, c2, us, rfl, hcap2, ht2, hys, hs2, hr2⟩ := lst_inv hu2
    cases hu1 with
    | bsl _ _ _ _ a1 c1 hok hcap1 ha1 =>
     have ha1 := ha1 hlen
     subst ha1
     subst e3
     have hS1 : tsz X e = 1 := by omega
     have hrow2 : ∀ n, n ≤ ys.length → RowAt C 1 n a2 us := fun n hn hpos => by
      obtain ⟨blk, off', e1, e2⟩ := hr2 (by omega)
      exact ⟨blk, off', e1, fun i hi j hj => e2 i (by omega) j hj⟩
     generalize hn : min ys.length len = n
     have hnl : n ≤ ys.length := by omega
     have htake : ys.take len = ys.take n := by
      rw [← hn]
      by_cases h : len ≤ ys.length
      ·rw [Nat.min_eq_right h]
      ·rw [Nat.min_eq_left (by omega), List.take_of_length_le (by omega), List.take_of_length_le (Nat.le_refl _)]
     have hd := flat_ones_list hys hone n hnl
     have hf : (Builtin.firstCells 1 n (.slice a2 ys.length c2)).run P w = .ok (flat us n).toArray w := by
      have hs' : ∀ i, i < n → (us i).cells.size = 1 := fun i hi => hs2 i (by omega)
      by_cases hn0 : 0 < n
      ·obtain ⟨blk, off', rfl, hk1⟩ := hrow2 n hnl hn0
       refine run_firstCells_some w 1 n _ ys.length c2 _ (flat_length hs') fun o v hv => ?_
       have hlt : o < n * 1 := by have := (List.getElem?_eq_some_iff.1 hv).1; rwa [flat_length hs'] at this
       obtain ⟨i, j, rfl, hi, hj⟩ := flat_pos hlt
       rw [flat_get hs' i hi j hj] at hv
       rw [add_lit]
       exact r.known _ _ _ (by rw [← Nat.add_assoc, hk1 i hi j hj]; exact hv)
      ·have h0 : n = 0 := by omega
       rw [h0]
       cases a2 <;> simp [Builtin.firstCells, loadCells, loadCellsFrom, flat]
     have hdl : (ys.take n).length = n := by simp; omega
     obtain ⟨w', hst, hr⟩ := r.write (P := P) (off := off) hb hd (by rw [hdl]; omega) (fun y hy => List.all_eq_true.1 hone y (List.mem_of_mem_take hy))
      (fun f hf hbf y hy => by
       obtain ⟨i, hi⟩ := List.mem_iff_getElem?.1 (List.mem_of_mem_take hy)
       exact AV.under_mono hbf _ (underL_mem hund i y hi))
     have hsz := hX.run_sizeOf (t := e) (by omega) w
     rw [hS1] at hsz
     rw [htake]
     have hn' : Nat.min ys.length len = n := hn
     refine ⟨C, w', _, goInt n, ?_, .inl rfl, .int _ _, Ctx.le.refl base C, hr, fun _ _ _ => rfl, fun _ _ _ => rfl⟩
     simp [Builtin.copy_, run_underlying hut, Builtin.lenOf, hsz, hn', hf, hst]
   ·split at ho
    ·rename_i hc
     obtain ⟨e1, e2, e3, hlen⟩ := hc
     cases ho
     obtain ⟨a2, c2, us, rfl, hcap2, ht2, hys, hs2, hr2⟩ := lst_inv hu2
     cases hu1 with
     | bsl _ _ _ _ a1 c1 hok hcap1 ha1 =>
      subst hlen
      have hS1 : tsz X e = 1 := by omega
      have hsz := hX.run_sizeOf (t := e) (by omega) w
      rw [hS1] at hsz
      have hf : (Builtin.firstCells 1 0 (.slice a2 ys.length c2)).run P w = .ok #[] w := by
       cases a2 <;> simp [Builtin.firstCells, loadCells, loadCellsFrom]
      have hn' : Nat.min ys.length 0 = 0 := by simp
      refine ⟨C, w, _, goInt 0, ?_, .inl rfl, .int _ _, Ctx.le.refl base C, r, fun _ _ _ => rfl, fun _ _ _ => rfl⟩
      cases a1 <;> simp [Builtin.copy_, run_underlying hut, Builtin.lenOf, hsz, hn', hf, storeCells]
    ·cases ho
  ·cases ho
 ·rename_i t tr b off len sz b2 off2 len2 sz2
  obtain ⟨u, v, rfl, hu1, hu2⟩ := two_of hv rfl
  split at ho
  ·rename_i e c c2 hrow hb hb2
   have hut := hX.row_slice hrow
   split at ho
   ·rename_i hc
    obtain ⟨e1, e2, e3, hfit, hfit2, hone, hund, hlen, hlen2⟩ := hc
    cases ho
    cases hu1 with
    | bsl _ _ _ _ a1 cap1 hok hcap1 ha1 =>
     cases hu2 with
     | bsl _ _ _ _ a2 cap2 hok2 hcap2 ha2 =>
      have ha1 := ha1 hlen
      have ha2 := ha2 hlen2
      subst ha1 ha2
      have hS1 : tsz X e = 1 := by omega
      obtain ⟨vs2, zs2, ty2, hh2, hc2⟩ := r.box b2 _ hb2
      generalize hn : min len2 len = n
      have hnl : n ≤ len2 := by omega
      have hd : RvL C ((c2.drop off2).take n) ((vs2.drop off2).take n) := (hc2.drop off2).take n
      have hvl : ((vs2.drop off2).take n).length = n := by simp [hc2.1]; omega
      have hf : (Builtin.firstCells 1 n (.slice (some ⟨C.mu b2, off2, none⟩) len2 cap2)).run P w = .ok ((vs2.drop off2).take n).toArray w := by
       refine run_firstCells_some w 1 n _ len2 cap2 _ (by rw [hvl]; omega) fun j x hx => ?_
       rw [add_lit]
       have hjn : j < n := by have := (List.getElem?_eq_some_iff.1 hx).1; omega
       rw [List.getElem?_take_of_lt hjn, List.getElem?_drop] at hx
       exact cell_of hh2 (by rw [List.getElem?_append_left (List.getElem?_eq_some_iff.1 hx).1]; exact hx)
      have hdl : ((c2.drop off2).take n).length = n := by simp; omega
      have hsub : ∀ y ∈ (c2.drop off2).take n, y ∈ c2 := fun y hy => List.mem_of_mem_drop (List.mem_of_mem_take hy)
      obtain ⟨w', hst, hr⟩ := r.write (P := P) (off := off) hb hd (by rw [hdl]; omega) (fun y hy => List.all_eq_true.1 hone y (hsub y hy))
       (fun f hf hbf y hy => by
        obtain ⟨i, hi⟩ := List.mem_iff_getElem?.1 (hsub y hy)
        exact AV.under_mono hbf _ (underL_mem hund i y hi))
      have hsz := hX.run_sizeOf (t := e) (by omega) w
      rw [hS1] at hsz
      have hn' : Nat.min len2 len = n := hn
      refine ⟨C, w', _, goInt n, ?_, .inl rfl, .int _ _, Ctx.le.refl base C, hr, fun _ _ _ => rfl, fun _ _ _ => rfl⟩
      simp [Builtin.copy_, run_underlying hut, Builtin.lenOf, hsz, hn', hf, hst]
   ·split at ho
    ·rename_i hc
     obtain ⟨e1, e2, e3, hlen⟩ := hc
     cases ho
     cases hu1 with
     | bsl _ _ _ _ a1 cap1 hok hcap1 ha1 =>
      cases hu2 with
      | bsl _ _ _ _ a2 cap2 hok2 hcap2 ha2 =>
       subst hlen
       have hS1 : tsz X e = 1 := by omega
       have hsz := hX.run_sizeOf (t := e) (by omega) w
       rw [hS1] at hsz
       have hf : (Builtin.firstCells 1 0 (.slice a2 len2 cap2)).run P w = .ok #[] w := by
        cases a2 <;> simp [Builtin.firstCells, loadCells, loadCellsFrom]
       have hn' : Nat.min len2 0 = 0 := by simp
       refine ⟨C, w, _, goInt 0, ?_, .inl rfl, .int _ _, Ctx.le.refl base C, r, fun _ _ _ => rfl, fun _ _ _ => rfl⟩
       cases a1 <;> simp [Builtin.copy_, run_underlying hut, Builtin.lenOf, hsz, hn', hf, storeCells]
    ·cases ho
  ·cases ho
 ·cases ho
theorem map_list {α β : Type} (f : α → β) (xs : Array α) : (xs.toList.map f).toArray = xs.map f := by apply Array.ext'; simp
theorem some_map {α β : Type} {o : Option α} {f : α → β} {z : β} (h : o.map f = some z) : ∃ x, o = some x ∧ z = f x := by
 cases o with
 | none => cases h
 | some x => cases h; exact ⟨x, rfl, rfl⟩
theorem pair_map {o : Option AV} {h h' : Heap} {z : AV} (ho : o.map (·, h) = some (z, h')) : o = some z ∧ h' = h := by
 obtain ⟨x, rfl, e⟩ := some_map ho
 cases e; exact ⟨rfl, rfl⟩
include hX in
theorem lands_builtin (r : Rel C base h w0 w) (hq : FreeT C h p.2) {b : Builtin} {ts : Array TypeId} {ty : TypeId} {xs : List AV} {vs : List Value} (hv : RvL C xs vs) {cs : Array Bool} {z : AV} {h' : Heap}
  (ho : opBuiltin X p b ts.toList xs h = some (z, h')) : Lands P C base h p w0 (builtin b ts ty cs vs.toArray) w z h' := by
 cases b <;> simp only [opBuiltin] at ho <;> first | (cases ho; done) | skip
 ·unfold opAppend at ho
  split at ho
  ·rename_i t u x y ets
   obtain ⟨xv, yv, rfl, h1, h2⟩ := two_of hv rfl
   have hts : ts = #[t, u] := Array.ext' ets
   subst hts
   split at ho
   ·rename_i hc
    exact lands_append hX r hq h1 h2 hc.1 hc.2 ho
   ·cases ho
  ·cases ho
 ·have := lands_copy (p := p) (ty := ty) hX r hv ho
  simpa [builtin] using this
 ·have := lands_len (p := p) (ty := ty) hX r hv ho
  simpa [builtin] using this
 ·exact lands_max r hv ho
 ·exact lands_min r hv ho
include hX in
theorem lands_step (r : Rel C base h w0 w) (hfl : ∀ f, C.fl f = true → f ≤ p.1) (hp : Free C h p.1) (hq : FreeT C h p.2) {n : Nat} {fr : Frm} {a : Act} (hf : RF C n fr a.tmps) {o : Oper} {z : AV} {h' : Heap} (ho : stepOp X p o.op fr h = some (z, h')) :
  Lands P C base h p w0 (execOp a.eval o) w z h' := by
 have ev := fun x => evo_rv hf x
 unfold execOp
 cases hop : o.op <;> rw [hop] at ho <;> simp only [stepOp] at ho ⊢ <;> first | (cases ho; done) | skip
 case move x => cases ho; exact lands_same r rfl (ev x)
 case assign x => cases ho; exact lands_same r rfl (ev x)
 case pick c x y => exact lands_pick r (ev c) (ev x) (ev y) ho
 case alloc t => exact lands_alloc hX r hp ho
 case box t x => exact lands_box r hp (ev x) ho
 case build t parts => obtain ⟨h1, rfl⟩ := pair_map ho; exact lands_build hX r hf h1
 case buildSlice t len parts => exact lands_buildSlice hX r hf ho
 case load t x => exact lands_load hX r (ev x) ho
 case store t x y => exact lands_store hX r hfl (ev x) (ev y) ho
 case nilCheck x =>
  obtain ⟨rfl, rfl, ad, had⟩ := lands_nil (ev x) ho
  simp only [had]
  exact lands_same r rfl (by rw [← had]; exact ev x)
 case binOp bo xt x y _ => obtain ⟨h1, rfl⟩ := pair_map ho; exact lands_bin hX r (ev x) (ev y) h1
 case unOp bo _ x => obtain ⟨h1, rfl⟩ := pair_map ho; exact lands_un r (ev x) h1
 case convert s t x => exact lands_convert hX r (ev x) ho
 case makeFunc f fst cap =>
  unfold opFunc at ho
  split at ho
  ·rename_i g
   cases ho
   have h1 := evoL_rv hf fst.toList
   have h2 := evoL_rv hf cap.toList
   refine lands_same r (u := .func (.func g) (fst.map a.eval) (cap.map a.eval)) rfl ?_
   have := Rv.clo (C := C) g _ _ _ _ h1.1 h2.1 h1.2 h2.2
   rwa [map_list, map_list] at this
  ·cases ho
 case makeMap t rr =>
  cases rr with
  | none => cases ho; exact lands_makeMap r hp
  | some _ => cases ho
 case makeSlice t l c => exact lands_makeSlice hX r hp (ev l) (ev c) ho
 case slice t x lo hi mx =>
  cases mx with
  | none => obtain ⟨h1, rfl⟩ := pair_map ho; exact lands_slice hX r hf (ev x) h1
  | some _ => cases ho
 case fieldAddr t x f => exact lands_fieldAddr hX r (ev x) ho
 case field t x f => exact lands_field hX r (ev x) ho
 case indexAddr t x i => obtain ⟨h1, rfl⟩ := pair_map ho; exact lands_idx hX r (ev x) (ev i) h1
 case index t x i => exact lands_index hX r (ev x) (ev i) ho
 case lookup t m k ok => exact lands_lookup hX r (ev m) (ev k) ho
 case mapUpdate t m k v => exact lands_mapUpdate hX r (ev m) (ev k) (ev v) ho
 case mapEntry t m k => exact lands_mapEntry hX r (ev m) (ev k) ho
 case entryStore t m s v => exact lands_entryStore r (ev m) (ev s) (ev v) ho
 case entry it => exact lands_entry r (ev it) ho
 case range t x => exact lands_range hX r hp (ev x) ho
 case next it s =>
  cases s with
  | true => exact lands_next r (ev it) ho
  | false => cases ho
 case extract t i => exact lands_extract r (ev t) ho
 case call c =>
  unfold opCallee at ho
  split at ho
  ·rename_i b hc
   have hv := evoL_rv hf c.args.toList
   have := fun cs => lands_builtin (p := p) (ty := o.type) (cs := cs) hX r hq hv ho
   rw [map_list] at this
   simp only [resolve, hc]
   simp [invoke]
   exact this _
  ·cases ho
end
end
section
open Go.RowKit
theorem forceNat_eq {β : Type} (n : Nat) (k : Nat → β) : forceNat n k = k n := by cases n <;> rfl
theorem forceInt_eq {β : Type} (n : Int) (k : Int → β) : forceInt n k = k n := by cases n <;> simp [forceInt, forceNat_eq]
theorem forceBool_eq {β : Type} (b : Bool) (k : Bool → β) : forceBool b k = k b := by cases b <;> rfl
theorem forceSp_eq {α β : Type} (xs : List α) : ∀ (k : List α → β), forceSp xs k = k xs := by
 induction xs with
 | nil => intro k; rfl
 | cons x xs ih => intro k; exact ih fun ys => k (x :: ys)
theorem forceV_eq {β : Type} (v : AV) (k : AV → β) : forceV v k = k v := by
 cases v <;> simp [forceV, forceNat_eq, forceInt_eq, forceBool_eq, forceSp_eq]
mutual
theorem forceAV_eq {β : Type} : ∀ (v : AV) (k : AV → β), forceAV v k = k v
 | .int q n, k => by simp [forceAV, forceInt_eq]
 | .bool b, k => by simp [forceAV, forceBool_eq]
 | .str _, k => by simp [forceAV]
 | .nilp, k => by simp [forceAV]
 | .nilf, k => by simp [forceAV]
 | .nilm, k => by simp [forceAV]
 | .lst t z xs, k => by simp [forceAV, forceNat_eq, forceL_eq xs]
 | .bsl _ _ _ _, k => by simp [forceAV, forceNat_eq]
 | .ref _ _, k => by simp [forceAV, forceNat_eq]
 | .eptr c, k => by simp [forceAV, forceL_eq c]
 | .clo f x c, k => by simp [forceAV, forceNat_eq, forceL_eq x, forceL_eq c]
 | .yld _, k => by simp [forceAV, forceNat_eq]
 | .mapr _, k => by simp [forceAV, forceNat_eq]
 | .agg c, k => by simp [forceAV, forceL_eq c]
 | .tup c, k => by simp [forceAV, forceL_eq c]
 | .und, k => by simp [forceAV]
 | .junk, k => by simp [forceAV]
theorem forceL_eq {β : Type} : ∀ (xs : List AV) (k : List AV → β), forceL xs k = k xs
 | [], k => by simp [forceL]
 | x :: xs, k => by simp [forceL, forceAV_eq x, forceL_eq xs]
end
theorem forceBlk_eq {β : Type} (b : ABlk) (k : ABlk → β) : forceBlk b k = k b := by
 cases b <;> simp [forceBlk, forceNat_eq, forceSp_eq]
theorem forceBlks_eq {β : Type} (h : List ABlk) : ∀ (k : List ABlk → β), forceBlks h k = k h := by
 induction h with
 | nil => intro k; rfl
 | cons x xs ih =>
  intro k
  have : forceBlks (x :: xs) k = forceBlk x fun b => forceBlks xs fun h => k (b :: h) := rfl
  rw [this, forceBlk_eq]; exact ih _
theorem forceHeap_eq {β : Type} (h : Heap) (k : Heap → β) : forceHeap h k = k h := by simp [forceHeap, forceBlks_eq, forceSp_eq]
noncomputable def aset (r : Slots) (t : Nat) (v : AV) : Slots := asetK r t v id
noncomputable def adel (r : Slots) (t : Nat) : Slots := adelK r t id
theorem asetK_eq {β : Type} (r : Slots) (t : Nat) (v : AV) (k : Slots → β) : asetK r t v k = k (aset r t v) := by
 have aux : ∀ (r : Slots) {β : Type} (k : Slots → β), asetK r t v k = k (asetK r t v id) := by
  intro r
  induction r with
  | nil => intro β k; rfl
  | cons p r ih =>
   intro β k
   simp only [asetK]
   cases Nat.beq t p.1 with
   | true => rfl
   | false =>
    cases Nat.blt t p.1 with
    | true => rfl
    | false => exact (ih _).trans (congrArg k (ih fun r => p :: r).symm)
 exact aux r k
theorem adelK_eq {β : Type} (r : Slots) (t : Nat) (k : Slots → β) : adelK r t k = k (adel r t) := by
 have aux : ∀ (r : Slots) {β : Type} (k : Slots → β), adelK r t k = k (adelK r t id) := by
  intro r
  induction r with
  | nil => intro β k; rfl
  | cons p r ih =>
   intro β k
   simp only [adelK]
   cases Nat.beq t p.1 with
   | true => exact ih k
   | false => exact (ih _).trans (congrArg k (ih fun r => p :: r).symm)
 exact aux r k
theorem aset_nil (t : Nat) (v : AV) : aset [] t v = [(t, v)] := id rfl
theorem aset_cons (p : Nat × AV) (r : Slots) (t : Nat) (v : AV) : aset (p :: r) t v = if t = p.1 then (t, v) :: r else if t < p.1 then (t, v) :: p :: r else p :: aset r t v := by
 have : aset (p :: r) t v = match Nat.beq t p.1 with
   | true => (t, v) :: r
   | false => match Nat.blt t p.1 with
    | true => (t, v) :: p :: r
    | false => asetK r t v fun r => p :: r := rfl
 rw [this, asetK_eq]
 cases h1 : Nat.beq t p.1 with
 | true => rw [if_pos (Nat.eq_of_beq_eq_true h1)]
 | false =>
  rw [if_neg (Nat.ne_of_beq_eq_false h1)]
  cases h2 : Nat.blt t p.1 with
  | true => rw [if_pos (by simpa [Nat.blt_eq] using h2)]
  | false =>
   rw [if_neg]
   intro h3
   have : Nat.blt t p.1 = true := by simpa [Nat.blt_eq] using h3
   rw [h2] at this; cases this
theorem adel_cons (p : Nat × AV) (r : Slots) (t : Nat) : adel (p :: r) t = if t = p.1 then adel r t else p :: adel r t := by
 have : adel (p :: r) t = match Nat.beq t p.1 with
  | true => adelK r t id
  | false => adelK r t fun r => p :: r := rfl
 rw [this]
 cases h1 : Nat.beq t p.1 with
 | true => rw [if_pos (Nat.eq_of_beq_eq_true h1)]; rfl
 | false => rw [if_neg (Nat.ne_of_beq_eq_false h1)]; exact adelK_eq r t _
theorem agetOr_nil (t : Nat) (d : AV) : agetOr [] t d = d := id rfl
theorem agetOr_cons (p : Nat × AV) (r : Slots) (t : Nat) (d : AV) : agetOr (p :: r) t d = if t = p.1 then p.2 else agetOr r t d := by
 have : agetOr (p :: r) t d = match Nat.beq t p.1 with | true => p.2 | false => agetOr r t d := rfl
 rw [this]
 cases h1 : Nat.beq t p.1 with
 | true => rw [if_pos (Nat.eq_of_beq_eq_true h1)]
 | false => rw [if_neg (Nat.ne_of_beq_eq_false h1)]
theorem agetOr_aset (t : Nat) (v : AV) (u : Nat) (d : AV) : ∀ (r : Slots), agetOr (aset r t v) u d = if u = t then v else agetOr r u d
 | [] => by rw [aset_nil, agetOr_cons, agetOr_nil]
 | p :: r => by
  rw [aset_cons]
  split
  ·rename_i h; subst h
   rw [agetOr_cons, agetOr_cons]
   by_cases h : u = p.1
   ·simp [h]
   ·simp [h]
  ·rename_i h
   split
   ·rw [agetOr_cons]
   ·rw [agetOr_cons, agetOr_cons, agetOr_aset t v u d r]
    by_cases h2 : u = p.1
    ·simp [h2]
     intro e; exact absurd e.symm h
    ·simp [h2]
theorem agetOr_adel (t u : Nat) (d : AV) : ∀ (r : Slots), agetOr (adel r t) u d = if u = t then d else agetOr r u d
 | [] => by simp [adel, adelK, agetOr_nil]
 | p :: r => by
  rw [adel_cons]
  split
  ·rename_i h; subst h
   rw [agetOr_adel _ u d r, agetOr_cons]
   by_cases h2 : u = p.1
   ·simp [h2]
   ·simp [h2]
  ·rename_i h
   rw [agetOr_cons, agetOr_cons, agetOr_adel t u d r]
   by_cases h2 : u = p.1
   ·simp [h2]
    intro e; exact absurd e.symm h
   ·simp [h2]
noncomputable def setF (L : List Nat) (fr : Frm) (t : Nat) (v : AV) : Frm := setFK L fr t v id
theorem setFK_eq {β : Type} (L : List Nat) (fr : Frm) (t : Nat) (v : AV) (k : Frm → β) : setFK L fr t v k = k (setF L fr t v) := by
 unfold setF setFK
 cases isIn t L with
 | true => simp only [asetK_eq, id]
 | false => rfl
theorem setF_in {L : List Nat} {t : Nat} (h : isIn t L = true) (fr : Frm) (v : AV) : setF L fr t v = ⟨aset fr.g t v, fr.l⟩ := by
 unfold setF setFK; rw [h]; simp only [asetK_eq, id]
theorem setF_out {L : List Nat} {t : Nat} (h : isIn t L = false) (fr : Frm) (v : AV) : setF L fr t v = ⟨fr.g, (t, v) :: fr.l⟩ := by
 unfold setF setFK; rw [h]; rfl
theorem FI.set {L : List Nat} {fr : Frm} (hf : FI L fr) (t : Nat) (v : AV) : FI L (setF L fr t v) := by
 cases h : isIn t L with
 | true =>
  rw [setF_in h]
  refine ⟨hf.1, fun u hu d => ?_⟩
  show agetOr (aset fr.g t v) u d = d
  rw [agetOr_aset, if_neg (fun e => by subst e; rw [h] at hu; cases hu)]
  exact hf.2 u hu d
 | false =>
  rw [setF_out h]
  refine ⟨fun u hu d => ?_, hf.2⟩
  show agetOr ((t, v) :: fr.l) u d = d
  rw [agetOr_cons, if_neg (fun e => by simp only at e; subst e; rw [h] at hu; cases hu)]
  exact hf.1 u hu d
theorem getF_set {L : List Nat} {fr : Frm} (hf : FI L fr) (t : Nat) (v : AV) (u : Nat) : getF (setF L fr t v) u = if u = t then v else getF fr u := by
 cases h : isIn t L with
 | true =>
  rw [setF_in h]
  show agetOr fr.l u (agetOr (aset fr.g t v) u .junk) = _
  rw [agetOr_aset]
  by_cases e : u = t
  ·subst e; simp [hf.1 u h]
  ·simp [e, getF]
 | false =>
  rw [setF_out h]
  show agetOr ((t, v) :: fr.l) u (agetOr fr.g u .junk) = _
  rw [agetOr_cons]; rfl
theorem FI.drop {L : List Nat} {fr : Frm} (hf : FI L fr) : FI L ⟨fr.g, []⟩ := ⟨fun _ _ _ => rfl, hf.2⟩
theorem getF_drop {L : List Nat} {fr : Frm} (hf : FI L fr) (u : Nat) : getF ⟨fr.g, []⟩ u = getF fr u ∨ getF ⟨fr.g, []⟩ u = .junk := by
 cases h : isIn u L with
 | true => left; show agetOr fr.g u .junk = agetOr fr.l u (agetOr fr.g u .junk); rw [hf.1 u h]
 | false => right; exact hf.2 u h .junk
theorem getF_drop_eq {L : List Nat} {fr : Frm} (hf : FI L fr) (u : Nat) : getF ⟨fr.g, []⟩ u = if isIn u L then getF fr u else .junk := by
 cases h : isIn u L with
 | true => show agetOr fr.g u .junk = agetOr fr.l u (agetOr fr.g u .junk); rw [hf.1 u h]
 | false => exact hf.2 u h .junk
noncomputable def restr (old new : Slots) : Slots := old.map fun p => (p.1, agetOr new p.1 .junk)
theorem restrK_eq {β : Type} (new : Slots) : ∀ (old : Slots) (k : Slots → β), restrK old new k = k (restr old new)
 | [], _ => rfl
 | p :: r, k => by
  have : restrK (p :: r) new k = forceV (agetOr new p.1 .junk) fun v => restrK r new fun r => k ((p.1, v) :: r) := rfl
  rw [this, forceV_eq, restrK_eq new r]; rfl
theorem agetOr_restr (new : Slots) (t : Nat) : ∀ (old : Slots), ((∃ v, ∀ d, agetOr old t d = v) ∧ ∀ d, agetOr (restr old new) t d = agetOr new t .junk) ∨ (∀ d, agetOr (restr old new) t d = d)
 | [] => .inr fun _ => rfl
 | p :: r => by
  by_cases h : t = p.1
  ·left
   refine ⟨⟨p.2, fun d => by rw [agetOr_cons, if_pos h]⟩, fun d => ?_⟩
   show agetOr ((p.1, agetOr new p.1 .junk) :: restr r new) t d = _
   rw [agetOr_cons, if_pos h, h]
  ·rcases agetOr_restr new t r with ⟨⟨v, hv⟩, h2⟩ | h2
   ·left
    refine ⟨⟨v, fun d => by rw [agetOr_cons, if_neg h, hv]⟩, fun d => ?_⟩
    show agetOr ((p.1, agetOr new p.1 .junk) :: restr r new) t d = _
    rw [agetOr_cons, if_neg h, h2]
   ·right
    intro d
    show agetOr ((p.1, agetOr new p.1 .junk) :: restr r new) t d = _
    rw [agetOr_cons, if_neg h, h2]
theorem FI.restr {L : List Nat} {fo fn : Frm} (ho : FI L fo) (hn : FI L fn) : FI L ⟨restr fo.g fn.g, []⟩ := by
 refine ⟨fun _ _ _ => rfl, fun t ht d => ?_⟩
 rcases agetOr_restr fn.g t fo.g with ⟨⟨v, hv⟩, _⟩ | h2
 ·have a := ho.2 t ht .junk
  have b := ho.2 t ht .und
  rw [hv] at a b
  rw [a] at b; cases b
 ·exact h2 d
theorem getF_restr (old : Slots) (fr : Frm) {L : List Nat} (hf : FI L fr) (u : Nat) : getF ⟨restr old fr.g, []⟩ u = getF fr u ∨ getF ⟨restr old fr.g, []⟩ u = .junk := by
 rcases agetOr_restr fr.g u old with ⟨_, h2⟩ | h2
 ·have : getF ⟨restr old fr.g, []⟩ u = getF ⟨fr.g, []⟩ u := h2 .junk
  rw [this]; exact getF_drop hf u
 ·exact .inr (h2 .junk)
section
variable {P : Program} {C : Ctx} {n : Nat}
theorem RF.restr {L : List Nat} {fr : Frm} {tmps : Array Value} (hf : RF C n fr tmps) (hi : FI L fr) (old : Slots) : RF C n ⟨restr old fr.g, []⟩ tmps :=
 ⟨hf.1, fun t => by rcases getF_restr old fr hi t with e | e <;> rw [e]; exact hf.2 t; exact .junk _⟩
theorem RF.set {L : List Nat} {fr : Frm} {a : Act} (hf : RF C n fr a.tmps) (hi : FI L fr) {t : Nat} (ht : t < n) {v : AV} {u : Value} (hv : Rv C v u) : RF C n (setF L fr t v) (a.put (some t) u).tmps := by
 refine ⟨by simp [Act.put, hf.1], fun s => ?_⟩
 rw [getF_set hi]
 have hget : (a.put (some t) u).tmps.getD s undef = if s = t then u else a.tmps.getD s undef := by
  simp only [Act.put, Array.getD_eq_getD_getElem?, Array.getElem?_setIfInBounds]
  by_cases e : t = s
  ·subst e; simp [hf.1, ht]
  ·have : ¬ s = t := fun h => e h.symm
   simp [e, this]
 rw [hget]
 split
 ·exact hv
 ·exact hf.2 s
theorem RF.drop {L : List Nat} {fr : Frm} {tmps : Array Value} (hf : RF C n fr tmps) (hi : FI L fr) : RF C n ⟨fr.g, []⟩ tmps :=
 ⟨hf.1, fun t => by rcases getF_drop hi t with e | e <;> rw [e]; exact hf.2 t; exact .junk _⟩
theorem RF.again {L : List Nat} {fr : Frm} {tmps : Array Value} (hf : RF C n fr tmps) (hi : FI L fr) {t : Nat} {v : AV} (hv : getF fr t = v) : RF C n (setF L fr t v) tmps :=
  ⟨hf.1, fun s => by rw [getF_set hi]; split; · rename_i e; subst e; rw [← hv]; exact hf.2 s
                     · exact hf.2 s⟩
noncomputable def setD (L : List Nat) (fr : Frm) (d : Option Tmp) (v : AV) : Frm := match d with | some t => setF L fr t v | none => fr
theorem setDstK_eq {β : Type} (L : List Nat) (fr : Frm) (d : Option Tmp) (v : AV) (k : Frm → β) : setDstK L fr d v k = k (setD L fr d v) := by
 cases d with
 | none => rfl
 | some t => simp only [setDstK, forceV_eq, setFK_eq, setD]
theorem FI.setD {L : List Nat} {fr : Frm} (hf : FI L fr) (d : Option Tmp) (v : AV) : FI L (setD L fr d v) := by
 cases d with
 | none => exact hf
 | some t => exact hf.set t v
theorem RF.setD {L : List Nat} {fr : Frm} {a : Act} (hf : RF C n fr a.tmps) (hi : FI L fr) {d : Option Tmp} (hd : ∀ t, d = some t → t < n) {v : AV} {u : Value} (hv : Rv C v u) : RF C n (Proofs.YthkpjbgadkkeeaaGreat.setD L fr d v) (a.put d u).tmps := by
 cases d with
 | none => exact hf
 | some t => exact hf.set hi (hd t rfl) hv
theorem FI.cond {L : List Nat} {fr : Frm} (hf : FI L fr) (t : Nat) : FI L ⟨adel fr.g t, fr.l⟩ :=
 ⟨hf.1, fun u hu d => by show agetOr (adel fr.g t) u d = d; rw [agetOr_adel]; split; rfl; exact hf.2 u hu d⟩
theorem agetOr_two (t : Nat) (d1 d2 : AV) : ∀ (r : Slots), agetOr r t d1 = agetOr r t d2 ∨ agetOr r t d1 = d1
 | [] => .inr rfl
 | p :: r => by
  rw [agetOr_cons, agetOr_cons]
  split
  ·exact .inl rfl
  ·exact agetOr_two t d1 d2 r
theorem RF.cond {fr : Frm} {tmps : Array Value} (hf : RF C n fr tmps) (t : Nat) : RF C n ⟨adel fr.g t, fr.l⟩ tmps :=
 ⟨hf.1, fun s => by
  show Rv C (agetOr fr.l s (agetOr (adel fr.g t) s .junk)) _
  rw [agetOr_adel]
  split
  ·rename_i e; subst e
   rcases agetOr_two s .junk (agetOr fr.g s .junk) fr.l with h | h
   ·rw [h]; exact hf.2 s
   ·rw [h]; exact .junk _
  ·exact hf.2 s⟩
end
end
section
open Go.RowKit
def Longer (h h' : Heap) : Prop := h.b.length ≤ h'.b.length ∧ h.t.length ≤ h'.t.length
theorem Longer.refl (h : Heap) : Longer h h := ⟨Nat.le_refl _, Nat.le_refl _⟩
theorem Longer.trans {a b c : Heap} (h : Longer a b) (k : Longer b c) : Longer a c := ⟨Nat.le_trans h.1 k.1, Nat.le_trans h.2 k.2⟩
theorem longer_put (h : Heap) (b : Nat) (x : ABlk) : Longer h (h.put b x) := ⟨by simp [Heap.put], Nat.le_refl _⟩
theorem longer_hput (h : Heap) (b : Nat) (x : ABlk) : Longer h (hput h b x) := ⟨by simp only [hput, lset_length]; split <;> omega, Nat.le_refl _⟩
theorem longer_tags (h : Heap) (t : List Bool) (ht : t.length = h.t.length) (q : Nat) : Longer h ⟨h.b, lset t q true⟩ := ⟨Nat.le_refl _, by simp only [lset_length]; split <;> omega⟩
section
variable {X : Tab} {p : Nat × Nat} {fr : Frm} {h : Heap}
theorem longer_same {α : Type} {f : α → AV} {o : Option α} {v : AV} {h' : Heap} (ho : o.map (fun x => (f x, h)) = some (v, h')) : Longer h h' := by
 obtain ⟨_, rfl, e⟩ := some_map ho; cases e; exact Longer.refl h
theorem longer_append {t : TypeId} {q : Nat} {x y : AV} {v : AV} {h' : Heap} (ho : appendAV X t q h x y = some (v, h')) : Longer h h' := by
 unfold appendAV at ho
 repeat' (split at ho)
 all_goals first | (cases ho; done) | (cases ho; exact longer_tags h _ rfl q) | (cases ho; exact longer_tags h _ (by simp) q)
theorem longer_builtin {b : Builtin} {ts : List TypeId} {vs : List AV} {v : AV} {h' : Heap} (ho : opBuiltin X p b ts vs h = some (v, h')) : Longer h h' := by
 cases b <;> simp only [opBuiltin] at ho <;> first | (cases ho; done) | skip
 ·unfold opAppend at ho
  split at ho
  ·split at ho
   ·exact longer_append ho
   ·cases ho
  ·cases ho
 ·unfold opCopy at ho
  repeat' (split at ho)
  all_goals first | (cases ho; done) | (cases ho; exact longer_put h _ _) | (cases ho; exact Longer.refl h)
 ·unfold opLen at ho
  repeat' (split at ho)
  all_goals first | (cases ho; done) | (cases ho; exact Longer.refl h)
 ·unfold opMax at ho
  repeat' (split at ho)
  all_goals first | (cases ho; done) | (cases ho; exact Longer.refl h)
 ·unfold opMin at ho
  repeat' (split at ho)
  all_goals first | (cases ho; done) | (cases ho; exact Longer.refl h)
theorem longer_step {o : Op} {v : AV} {h' : Heap} (ho : stepOp X p o fr h = some (v, h')) : Longer h h' := by
  cases o <;> simp only [stepOp] at ho <;> first | (cases ho; done) | exact longer_same ho | (cases ho; exact Longer.refl h) | skip
  case pick => unfold opPick at ho; split at ho; (cases ho; exact Longer.refl h); cases ho
  case alloc => unfold opAlloc at ho; split at ho; (cases ho; exact longer_hput h _ _); cases ho
  case box => unfold opBox at ho; split at ho; (cases ho; exact longer_hput h _ _); cases ho
  case buildSlice => unfold opBuildSlice at ho; repeat' (split at ho)
                     all_goals first | (cases ho; done) | (cases ho; exact Longer.refl h)
  case load => unfold opLoad at ho; repeat' (split at ho)
               all_goals first | (cases ho; done) | exact longer_same ho
  case store => unfold opStore at ho; repeat' (split at ho)
                all_goals first | (cases ho; done) | (cases ho; exact longer_put h _ _)
  case nilCheck => unfold opNil at ho; repeat' (split at ho)
                   all_goals first | (cases ho; done) | (cases ho; exact Longer.refl h)
  case convert => unfold opConvert at ho; repeat' (split at ho)
                  all_goals first | (cases ho; done) | (cases ho; exact Longer.refl h)
  case makeFunc => unfold opFunc at ho; repeat' (split at ho)
                   all_goals first | (cases ho; done) | (cases ho; exact Longer.refl h)
  case makeMap _ r => cases r with
    | none => cases ho; exact longer_hput h _ _
    | some _ => cases ho
  case makeSlice => unfold opMakeSlice at ho; repeat' (split at ho)
                    all_goals first | (cases ho; done) | (cases ho; exact longer_hput h _ _)
  case slice _ _ _ _ mx => cases mx with
    | none => exact longer_same ho
    | some _ => cases ho
  case fieldAddr => unfold opFieldAddr at ho; repeat' (split at ho)
                    all_goals first | (cases ho; done) | (cases ho; exact Longer.refl h)
  case field => unfold opField at ho; repeat' (split at ho)
                all_goals first | (cases ho; done) | (cases ho; exact Longer.refl h) | exact longer_same ho
  case index => unfold opIndex at ho; repeat' (split at ho)
                all_goals first | (cases ho; done) | (cases ho; exact Longer.refl h) | exact longer_same ho
  case lookup => unfold opLookup at ho; repeat' (split at ho)
                 all_goals first | (cases ho; done) | (cases ho; exact Longer.refl h)
  case mapUpdate => unfold opMapUpdate at ho; repeat' (split at ho)
                    all_goals first | (cases ho; done) | (cases ho; exact longer_put h _ _)
  case mapEntry => unfold opMapEntry at ho; repeat' (split at ho)
                   all_goals first | (cases ho; done) | (cases ho; exact longer_put h _ _)
  case entryStore => unfold opEntryStore at ho; repeat' (split at ho)
                     all_goals first | (cases ho; done) | (cases ho; exact longer_put h _ _)
  case entry => unfold opEntry at ho; repeat' (split at ho)
                all_goals first | (cases ho; done) | (cases ho; exact Longer.refl h)
  case range => unfold opRange at ho; repeat' (split at ho)
                all_goals first | (cases ho; done) | (cases ho; exact longer_hput h _ _)
  case next _ s => cases s with
    | true =>
      simp only [if_true] at ho
      unfold opNext at ho; repeat' (split at ho)
      all_goals first | (cases ho; done) | (cases ho; exact longer_put h _ _) | (cases ho; exact Longer.refl h)
    | false => cases ho
  case extract => unfold opExtract at ho; repeat' (split at ho)
                  all_goals first | (cases ho; done) | exact longer_same ho
  case call => unfold opCallee at ho; split at ho
               · exact longer_builtin ho
               · cases ho
end
end
section
open Go.RowKit
structure Stab (n0 : Nat × Nat) (C C' : Ctx) : Prop where
 ok : ∀ i, i < n0.1 → C'.ok i = C.ok i
 tk : ∀ k, k < n0.2 → C'.tk k = C.tk k
theorem Stab.refl (n0 : Nat × Nat) (C : Ctx) : Stab n0 C C := ⟨fun _ _ => rfl, fun _ _ => rfl⟩
theorem Stab.trans {n0 : Nat × Nat} {A B C : Ctx} (h : Stab n0 A B) (k : Stab n0 B C) : Stab n0 A C := ⟨fun i hi => (k.ok i hi).trans (h.ok i hi), fun i hi => (k.tk i hi).trans (h.tk i hi)⟩
theorem Stab.weak {n0 n1 : Nat × Nat} {A B : Ctx} (h : Stab n1 A B) (h1 : n0.1 ≤ n1.1) (h2 : n0.2 ≤ n1.2) : Stab n0 A B := ⟨fun i hi => h.ok i (by omega), fun i hi => h.tk i (by omega)⟩
def Heap.ends (h : Heap) : Nat × Nat := (h.b.length, h.t.length)
def fenceOf (C : Ctx) : Option Nat → Fence
 | none => Fence.wide
 | some l => Fence.wide.inRound (C.mu l)
def markOf (C : Ctx) (i : Nat) : Deferred := { target := .collected (C.mu i), args := #[] }
structure At (X : Tab) (C : Ctx) (base : Nat) (w0 : World) (rd : Option Nat) (F : Fence) (L : List Nat) (N : Nat) (s : St) (a : Act) (w : World) : Prop where
 kp : C.kp = X.keep
 rel : Rel C base s.h w0 w
 rf : RF C N s.fr a.tmps
 fi : FI L s.fr
 ms : a.defers = s.ms.map (markOf C) ∧ ∀ i ∈ s.ms, C.ok i = true
 fence : F = fenceOf C rd ∧ ∀ l, rd = some l → C.ok l = true
 deep : isIn deepMark L = true → rd = none → ∀ n, C.fl n = true → n = 0
theorem fenceOf_le {base : Nat} {C C' : Ctx} (hl : C.le base C') {rd : Option Nat} (h : ∀ l, rd = some l → C.ok l = true) : fenceOf C' rd = fenceOf C rd := by
 cases rd with
 | none => rfl
 | some l => simp only [fenceOf]; rw [(hl.ok l (h l rfl)).2]
theorem marks_le {base : Nat} {C C' : Ctx} (hl : C.le base C') {ms : List Nat} (h : ∀ i ∈ ms, C.ok i = true) : ms.map (markOf C') = ms.map (markOf C) :=
 List.map_congr_left fun i hi => by simp only [markOf]; rw [(hl.ok i (h i hi)).2]
section
variable {P : Program} {X : Tab} (hX : Fits P X) {base : Nat} {w0 : World} {rd : Option Nat} {F : Fence} {L : List Nat} {N : Nat}
theorem At.to {C C' : Ctx} {s : St} {a : Act} {w : World} (h : At X C base w0 rd F L N s a w) (hl : C.le base C') {h' : Heap} {w' : World} (r : Rel C' base h' w0 w') {fr : Frm} {a' : Act} (hf : RF C' N fr a'.tmps) (hi : FI L fr) (hd : a'.defers = a.defers) :
  At X C' base w0 rd F L N ⟨fr, h', s.ms⟩ a' w' :=
 ⟨hl.kp.trans h.kp, r, hf, hi, ⟨by rw [hd, h.ms.1, marks_le hl h.ms.2], fun i hi => (hl.ok i (h.ms.2 i hi)).1⟩, ⟨by rw [fenceOf_le hl h.fence.2]; exact h.fence.1, fun l e => (hl.ok l (h.fence.2 l e)).1⟩, fun a b n hn => h.deep a b n (by rw [← hl.fl]; exact hn)⟩
def CallPost (C : Ctx) (base : Nat) (w0 : World) (h : Heap) (v : AV) (h' : Heap) : Ending → World → Prop := fun e w' =>
 ∃ u C', e = .returned u ∧ Rv C' v u ∧ C.le base C' ∧ Rel C' base h' w0 w' ∧ Stab h.ends C C' ∧ Longer h h'
def SoundCall (P : Program) (X : Tab) (E : Eng) : Prop :=
 ∀ (g : Nat) (args : List AV) (h : Heap) (v : AV) (h' : Heap) (C : Ctx) (base : Nat) (w0 w : World) (vs : List Value), E.call g args h = some (v, h') → C.kp = X.keep → Rel C base h w0 w → RvL C args vs →
  (∃ fn c, P.funcs[g]? = some fn ∧ fn.body = some c) ∧ ∀ n, CallsIn Fence.wide n P g vs.toArray w (CallPost C base w0 h v h')
def SoundRound (P : Program) (X : Tab) (E : Eng) : Prop :=
 ∀ (l : Nat) (args : List AV) (h : Heap) (v : AV) (h' : Heap) (C : Ctx) (base : Nat) (w0 w : World) (vs : List Value), stepRound X E l args h = some (v, h') → C.kp = X.keep → C.ok l = true → Rel C base h w0 w → RvL C args vs →
  ∃ (f : FuncId) (tmps : Array Value) (asg body : Code), (Instr.yield (C.mu l) vs.toArray).run P w = .ok (.round (C.mu l) f tmps asg body) w ∧
  ∀ n (F : Fence), (F = Fence.wide ∨ ∃ m, F = Fence.wide.inRound m) → RoundIn F n P (C.mu l) f tmps asg body w (CallPost C base w0 h v h')
noncomputable def oneS (X : Tab) (E : Eng) (L : List Nat) (all : List Oper) (q : Bool) (p : Nat × Nat) (o : Oper) (s : St) : Option St := oneOp X E L all q p o s some
theorem thenK_eq {L : List Nat} {o : Op} {fr : Frm} {d : Option Tmp} {r : Option (AV × Heap)} {k : Frm → Heap → Option St} : thenK L o fr d r k = r.bind fun x => k (setD L fr d x.1) x.2 := by
 unfold thenK
 cases r with
 | none => rfl
 | some x =>
  obtain ⟨v, h⟩ := x
  simp only [setDstK_eq, Option.bind_some]
  cases quietOp o with
  | true => rfl
  | false => simp only [forceHeap_eq]
theorem oneOp_eq {E : Eng} {all : List Oper} {q : Bool} {p : Nat × Nat} {o : Oper} {s : St} {k : St → Option St} : oneOp X E L all q p o s k = (oneS X E L all q p o s).bind k := by
 unfold oneS oneOp
 cases o.guard with
 | none =>
  simp only [thenK_eq]
  cases opAt X E q p o.op s.fr s.h <;> rfl
 | some g =>
  cases hgo : guardOf all g with
  | none => simp only [hgo, Option.bind_none]
  | some tw =>
   obtain ⟨t, want⟩ := tw
   simp only [hgo, thenK_eq, setFK_eq, setDstK_eq]
   cases hv : getF s.fr t <;> simp only [Option.bind_none, Option.bind_some]
   split
   ·cases opAt X E q p o.op (setF L s.fr t (.bool want)) s.h <;> rfl
   ·rfl
theorem Rv.und_inv {C : Ctx} {v : Value} (h : Rv C .und v) : v = undef := by cases h; rfl
inductive Guarded (L : List Nat) (all : List Oper) (o : Oper) (fr fr0 : Frm) : Bool → Prop
 | plain (h : o.guard = none) (e : fr0 = fr) : Guarded L all o fr fr0 true
 | yes (g : Nat × Bool) (t : Tmp) (want : Bool) (h : o.guard = some g) (hg : guardOf all g = some (t, want)) (hv : getF fr t = .bool want) (e : fr0 = setF L fr t (.bool want)) : Guarded L all o fr fr0 true
 | no (g : Nat × Bool) (t : Tmp) (want c : Bool) (h : o.guard = some g) (hg : guardOf all g = some (t, want)) (hv : getF fr t = .bool c) (hc : c = !want) (e : fr0 = setF L fr t (.bool c)) : Guarded L all o fr fr0 false
 | und (g : Nat × Bool) (t : Tmp) (want : Bool) (h : o.guard = some g) (hg : guardOf all g = some (t, want)) (hv : getF fr t = .und) (e : fr0 = fr) : Guarded L all o fr fr0 false
theorem oneS_inv {E : Eng} {all : List Oper} {q : Bool} {p : Nat × Nat} {o : Oper} {s s1 : St} (h : oneS X E L all q p o s = some s1) :
  ∃ fr0 b, Guarded L all o s.fr fr0 b ∧ ((b = true ∧ ∃ v h', opAt X E q p o.op fr0 s.h = some (v, h') ∧ s1 = ⟨setD L fr0 o.dst v, h', s.ms⟩) ∨ (b = false ∧ s1 = ⟨setD L fr0 o.dst .und, s.h, s.ms⟩)) := by
 unfold oneS oneOp at h
 cases hg : o.guard with
 | none =>
  rw [hg] at h
  simp only [thenK_eq] at h
  cases ho : opAt X E q p o.op s.fr s.h with
  | none => rw [ho] at h; cases h
  | some x => rw [ho] at h; cases h; exact ⟨s.fr, true, .plain hg rfl, .inl ⟨rfl, x.1, x.2, ho, rfl⟩⟩
 | some g =>
  rw [hg] at h
  simp only at h
  cases hgo : guardOf all g with
  | none => rw [hgo] at h; cases h
  | some tw =>
   obtain ⟨t, want⟩ := tw
   rw [hgo] at h
   simp only [thenK_eq, setFK_eq, setDstK_eq] at h
   cases hv : getF s.fr t <;> rw [hv] at h <;> first | (cases h; done) | skip
   ·rename_i c
    simp only at h
    split at h
    ·rename_i hc
     subst hc
     cases ho : opAt X E q p o.op (setF L s.fr t (.bool c)) s.h with
     | none => rw [ho] at h; cases h
     | some x => rw [ho] at h; cases h; exact ⟨_, true, .yes g t c hg hgo hv rfl, .inl ⟨rfl, x.1, x.2, ho, rfl⟩⟩
    ·rename_i hc
     have hc' : c = !want := by cases c <;> cases want <;> simp_all
     simp only [Option.some.injEq] at h
     exact ⟨_, false, .no g t want c hg hgo hv hc' (by rw [hc']), .inr ⟨rfl, h.symm⟩⟩
   ·simp only [Option.some.injEq] at h
    exact ⟨_, false, .und g t want hg hgo hv rfl, .inr ⟨rfl, h.symm⟩⟩
theorem Guarded.word {C : Ctx} {ops : Array Oper} {o : Oper} {fr fr0 : Frm} {b : Bool} {tmps : Array Value} (hg : Guarded L ops.toList o fr fr0 b) (hf : RF C N fr tmps) (hi : FI L fr) :
  Region.wanted o (yielded ops tmps) = b ∧ RF C N fr0 tmps ∧ FI L fr0 := by
 have key : ∀ {g : Nat × Bool} {t : Tmp} {want : Bool}, guardOf ops.toList g = some (t, want) → want = g.2 ∧ ((ops[g.1]?).bind (·.dst)) = some t := fun {g t want} h => by
  unfold guardOf at h
  cases ho : ops.toList[g.1]? with
  | none => rw [ho] at h; cases h
  | some oo =>
   rw [ho] at h
   simp only at h
   cases hd : oo.dst with
   | none => rw [hd] at h; cases h
   | some tt =>
    rw [hd] at h; cases h
    have ho' : ops[g.1]? = some oo := by simpa using ho
    exact ⟨rfl, by rw [ho']; exact hd⟩
 have slot : ∀ {t : Tmp} {c : Bool}, getF fr t = .bool c → tmps[t]? = some (.bool c) := fun {t c} hv => by
  have := hf.2 t
  rw [hv] at this
  have h2 := this.bool_inv
  rw [Array.getD_eq_getD_getElem?] at h2
  cases ht : tmps[t]? with
  | none => rw [ht] at h2; simp [undef] at h2
  | some x => rw [ht] at h2; simp at h2; rw [h2]
 cases hg with
 | plain h e => subst e; exact ⟨by simp [Region.wanted, h], hf, hi⟩
 | yes g t want h hgo hv e =>
  obtain ⟨rfl, hd⟩ := key hgo
  subst e
  refine ⟨?_, hf.again hi hv, hi.set _ _⟩
  simp [Region.wanted, h, yielded, hd, slot hv]
 | no g t want c h hgo hv hc e =>
  obtain ⟨rfl, hd⟩ := key hgo
  subst e
  refine ⟨?_, hf.again hi hv, hi.set _ _⟩
  simp [Region.wanted, h, yielded, hd, slot hv, hc]
 | und g t want h hgo hv e =>
  obtain ⟨rfl, hd⟩ := key hgo
  subst e
  refine ⟨?_, hf, hi⟩
  have := hf.2 t
  rw [hv] at this
  have hu : tmps.getD t undef = undef := this.und_inv
  rw [Array.getD_eq_getD_getElem?] at hu
  simp only [Region.wanted, h, yielded, hd, Option.bind_some]
  cases ht : tmps[t]? with
  | none => simp
  | some x =>
   rw [ht] at hu
   simp only [Option.getD_some] at hu
   subst hu
   simp [undef]
end
end
section
open Go.RowKit
def Ctx.bare (C : Ctx) : Ctx := { C with ok := fun _ => false, tk := fun _ => false, lv := fun _ => false, fl := fun _ => false }
section
variable {P : Program} {X : Tab} (hX : Fits P X) {base : Nat} {w0 w : World} {rd : Option Nat} {F : Fence} {L : List Nat} {N : Nat} {C : Ctx} {h : Heap}
theorem Rel.bare (r : Rel C base h w0 w) : Rel C.bare w.heap.size ⟨[], []⟩ w w where
 ok := fun i hi => by cases hi
 tk := fun i hi => by cases hi
 lv := fun i hi => by cases hi
 lt := fun i hi => by simp at hi
 below := Below.refl _ _
 size := Nat.le_refl _
 box := fun i x hx => by simp at hx
 has := fun i x hx => by simp at hx
 und := fun i x hx => by simp at hx
 inj := fun i j x y hx => by simp at hx
 known := r.known
 tag := fun k blk hk => by cases hk
 taginj := fun j k blk hk => by cases hk
 fle := fun f hf => by cases hf
 bs := Nat.le_trans r.bs r.size
theorem Rel.adopt (r : Rel C base h w0 w) {C1 : Ctx} {w' : World} (hl : C.bare.le w.heap.size C1) (hk1 : ∀ b o v, C1.K b o = some v → w'.cell? ⟨b, o, none⟩ = some v) (hb : Below w.heap.size w w') :
  C.le base { C with K := C1.K } ∧ Rel { C with K := C1.K } base h w0 w' := by
 have hle : C.le base { C with K := C1.K } := ⟨fun _ h => ⟨h, rfl⟩, fun _ h => ⟨h, fun h => ⟨h, rfl, rfl, rfl⟩⟩, fun b o v hv => hl.K b o v hv, fun b o hb => hl.Kb b o (Nat.lt_of_lt_of_le hb r.size), rfl, rfl, rfl⟩
 have r' := r.world hb
 refine ⟨hle, r'.ok, r'.tk, r'.lv, r'.lt, r'.below, r'.size, fun i x hx => (r'.box i x hx).mono hle rfl, fun i x hx hn => ?_, r'.und, r'.inj, hk1, fun k blk hl' ht => ?_, r'.taginj, r'.fle, r'.bs⟩
 ·obtain ⟨a, b, c, d⟩ := r.has i x hx hn
  exact ⟨a, b, Nat.lt_of_lt_of_le c hb.size, fun o => (hl.Kb _ _ c).trans (d o)⟩
 ·obtain ⟨a, b, c, d⟩ := r'.tag k blk hl' ht
  obtain ⟨_, ⟨_, _, h2, _⟩, c0, _⟩ := r.tag k blk hl' ht
  have hlt := World.lt_of_heap h2
  exact ⟨a, b, fun o ho => (hl.Kb _ _ hlt).trans (c0 o ho), d⟩
theorem cleanL_rv {D : Ctx} (hK : D.K = C.K) {xs ys : List AV} {vs : List Value} (hx : RvL C xs vs) (hc : cleanL xs = some ys) : RvL D ys vs := by
 obtain ⟨h1, h2⟩ := cleanL_get hc
 refine ⟨by rw [hx.1, h1], fun i y hy => ?_⟩
 obtain ⟨x, hx', hcl⟩ := h2 i y hy
 exact (hx.2 i x hx').clean D hK y hcl
theorem optL_get : ∀ {xs : List (Option AV)} {ys : List AV}, optL xs = some ys → ys.length = xs.length ∧ ∀ (i : Nat) (y : AV), ys[i]? = some y → xs[i]? = some (some y)
 | [], ys, h => by simp only [optL, Option.some.injEq] at h; subst h; exact ⟨rfl, fun i y hy => by simp at hy⟩
 | x :: xs, ys, h => by
  simp only [optL] at h
  split at h
  ·rename_i y zs hz
   simp only [Option.some.injEq] at h; subst h
   obtain ⟨hl, hg⟩ := optL_get hz
   refine ⟨by simp [hl], fun i u hu => ?_⟩
   cases i with
   | zero => simp at hu; subst hu; simp
   | succ i => simp at hu; simpa using hg i u hu
  ·cases h
theorem optL_map {f : AV → Option AV} {xs ys : List AV} (h : optL (xs.map f) = some ys) : ys.length = xs.length ∧ ∀ (i : Nat) (y : AV), ys[i]? = some y → ∃ x, xs[i]? = some x ∧ f x = some y := by
 obtain ⟨h1, h2⟩ := optL_get h
 refine ⟨by simpa using h1, fun i y hy => ?_⟩
 have := h2 i y hy
 rw [List.getElem?_map] at this
 cases hx : xs[i]? with
 | none => rw [hx] at this; cases this
 | some x => rw [hx] at this; exact ⟨x, rfl, by simpa using this⟩
theorem rowsOf_get {sz : Nat} {c : List AV} : ∀ {n off : Nat} {xs : List AV}, rowsOf sz c off n = some xs → xs.length = n ∧ ∀ (i : Nat) (x : AV), xs[i]? = some x → rowAt sz c (off + i * sz) = some x
 | 0, off, xs, h => by simp only [rowsOf, Option.some.injEq] at h; subst h; exact ⟨rfl, fun i x hx => by simp at hx⟩
 | n + 1, off, xs, h => by
  simp only [rowsOf] at h
  split at h
  ·rename_i y ys hy hz
   simp only [Option.some.injEq] at h; subst h
   obtain ⟨hl, hg⟩ := rowsOf_get hz
   refine ⟨by simp [hl], fun i x hx => ?_⟩
   cases i with
   | zero => simp at hx; subst hx; simpa using hy
   | succ i =>
    simp at hx
    have e : off + (i + 1) * sz = off + sz + i * sz := by rw [Nat.succ_mul]; omega
    rw [e]; exact hg i x hx
  ·cases h
noncomputable def rowVal (sz : Nat) (us : List Value) (off : Nat) : Value := if sz = 1 then us.getD off undef else .agg ((us.drop off).take sz).toArray
theorem rowAt_rv {C : Ctx} {sz : Nat} {c : List AV} {us : List Value} {off : Nat} {x : AV} (hu : RvL C c us) (h : rowAt sz c off = some x) :
  Rv C x (rowVal sz us off) ∧ (rowVal sz us off).cells.size = sz ∧ ∀ j, j < sz → us[off + j]? = (rowVal sz us off).cells[j]? := by
 unfold rowAt at h
 unfold rowVal
 by_cases h1 : sz = 1
 ·subst h1
  simp only [if_true] at h ⊢
  split at h
  ·rename_i y hy
   split at h
   ·rename_i ho
    cases h
    have hr := hu.2 _ _ hy
    have hlt : off < us.length := by rw [hu.1]; exact (List.getElem?_eq_some_iff.1 hy).1
    refine ⟨hr, by rw [hr.one_cells ho]; rfl, fun j hj => ?_⟩
    obtain rfl : j = 0 := by omega
    rw [hr.one_cells ho]
    simp [List.getD_eq_getElem?_getD, hlt]
   ·cases h
  ·cases h
 ·simp only [if_neg h1] at h ⊢
  split at h
  ·rename_i h2
   cases h
   have hul := hu.1
   refine ⟨.agg _ _ (by simp [hul]) fun j z hz => ?_, by simp [Value.cells]; omega, fun j hj => ?_⟩
   ·rw [List.getElem?_take] at hz
    split at hz
    ·rename_i hj
     rw [List.getElem?_drop] at hz
     have := hu.2 _ _ hz
     have e4 : ((us.drop off).take sz).getD j undef = us.getD (off + j) undef := by
      rw [List.getD_eq_getElem?_getD, List.getD_eq_getElem?_getD, List.getElem?_take, if_pos hj, List.getElem?_drop]
     rw [e4]; exact this
    ·cases hz
   ·simp only [Value.cells, List.getElem?_toArray]
    rw [List.getElem?_take, if_pos hj, List.getElem?_drop]
  ·cases h
def Ctx.all (C : Ctx) (base : Nat) (w : World) : Ctx := { C with K := fun b o => if b < base then C.K b o else w.cell? ⟨b, o, none⟩ }
theorem Rel.all_le {C : Ctx} {base : Nat} {h : Heap} {w0 w : World} (r : Rel C base h w0 w) : C.le base (C.all base w) :=
 ⟨fun _ h => ⟨h, rfl⟩, fun _ h => ⟨h, fun h => ⟨h, rfl, rfl, rfl⟩⟩, fun b o v hv => by
  simp only [Ctx.all]; split
  ·exact hv
  ·exact r.known b o v hv, fun b o hb => by simp only [Ctx.all]; rw [if_pos hb], rfl, rfl, rfl⟩
theorem frz_rv {C : Ctx} {base : Nat} {h : Heap} {w0 w : World} (r : Rel C base h w0 w) (D : Ctx) (hD : D.K = (C.all base w).K) : ∀ (k : Nat) (x y : AV) (v : Value), frz h k x = some y → Rv C x v → Rv D y v
 | 0, x, y, v, hf, hv => by cases hf
 | k + 1, x, y, v, hf, hv => by
  have hcl : ∀ y, x.clean = some y → Rv D y v := fun y hy => Rv.clean (C := C.all base w) D hD (hv.mono r.all_le) y hy
  have rows : ∀ {xs ys : List AV} {vs : Nat → Value}, optL (xs.map (frz h k)) = some ys → (∀ i x, xs[i]? = some x → Rv C x (vs i)) → ys.length = xs.length ∧ ∀ i y, ys[i]? = some y → Rv D y (vs i) := fun {xs ys vs} ho hx => by
   obtain ⟨h1, h2⟩ := optL_map ho
   refine ⟨h1, fun i y hy => ?_⟩
   obtain ⟨x, a, b⟩ := h2 i y hy
   exact frz_rv r D hD k x y _ b (hx i x a)
  cases hv with
  | lst t sz xs a cap vs hc ht hx hs hr hn =>
   simp only [frz] at hf
   split at hf
   ·rename_i ys ho
    cases hf
    obtain ⟨h1, h2⟩ := rows ho hx
    have hr2 : RowAt (C.all base w) sz xs.length a vs := hr.mono r.all_le hs
    have e := Rv.lst (C := D) 0 sz ys a cap vs (by rw [h1]; exact hc) trivial h2 (by rw [h1]; exact hs) (by rw [h1]; unfold RowAt at hr2 ⊢; rw [hD]; exact hr2) hn
    rw [h1] at e; exact e
   ·cases hf
  | bsl b off n sz a cap hb hc ha =>
   simp only [frz] at hf
   split at hf
   ·cases hf
   rename_i hsz0
   split at hf
   ·rename_i c hbox
    split at hf
    ·rename_i xs hrw
     split at hf
     ·rename_i ys ho
      cases hf
      obtain ⟨g1, g2⟩ := rowsOf_get hrw
      obtain ⟨us, zs, ty, hw, hu1, hu2⟩ := r.box b _ hbox
      obtain ⟨_, hbase, _, _⟩ := r.has b _ hbox (by simp)
      have hcell : ∀ o v, us[o]? = some v → (C.all base w).K (C.mu b) o = some v := fun o v hv => by
       simp only [Ctx.all]
       rw [if_neg (by omega)]
       have : w.cell? ⟨C.mu b, o, none⟩ = (us ++ zs).toArray[o]? := by
        simp [World.cell?, hw]
       rw [this, List.getElem?_toArray, List.getElem?_append_left (List.getElem?_eq_some_iff.1 hv).1]; exact hv
      have each : ∀ i x, xs[i]? = some x → _ := fun i x hx => rowAt_rv ⟨hu1, hu2⟩ (g2 i x hx)
      obtain ⟨h1, h2⟩ := rows (vs := fun i => rowVal sz us (off + i * sz)) ho (fun i x hx => (each i x hx).1)
      have hlen : ys.length = n := by rw [h1, g1]
      have row : ∀ i, i < n → ∃ x, xs[i]? = some x := fun i hi => ⟨_, List.getElem?_eq_getElem (by omega)⟩
      have e := Rv.lst (C := D) 0 sz ys a cap (fun i => rowVal sz us (off + i * sz)) (by rw [hlen]; exact hc) trivial h2
       (fun i hi => by obtain ⟨x, hx⟩ := row i (by omega); exact (each i x hx).2.1)
       (fun hn => ⟨C.mu b, off, ha (by omega), fun i hi j hj => by
        obtain ⟨x, hx⟩ := row i (by omega)
        have e1 := (each i x hx).2.2 j hj
        have e2 := (each i x hx).2.1
        rw [hD]
        rw [Array.getElem?_eq_getElem (by rw [e2]; exact hj)] at e1 ⊢
        exact hcell _ _ e1⟩) (fun e => absurd e hsz0)
      rw [hlen] at e; exact e
     ·cases hf
    ·cases hf
   ·cases hf
  | agg c vs h1 hx =>
   simp only [frz] at hf
   split at hf
   ·rename_i ys ho
    cases hf
    obtain ⟨e1, e2⟩ := rows (vs := fun i => vs.getD i undef) ho hx
    exact .agg ys vs (by rw [h1, e1]) e2
   ·cases hf
  | tup c vs h1 hx =>
   simp only [frz] at hf
   split at hf
   ·rename_i ys ho
    cases hf
    obtain ⟨e1, e2⟩ := rows (vs := fun i => vs.getD i undef) ho hx
    exact .tup ys vs (by rw [h1, e1]) e2
   ·cases hf
  | _ => exact hcl y (by simpa only [frz] using hf)
theorem sound_pure {E : Eng} (hE : SoundCall P X E) {f : Nat} {xs ys : List AV} {vs : List Value} {v : AV} {h' : Heap} (hc : callPure E f ys h = some (v, h')) (hcl : cleanL xs = some ys) (hkp : C.kp = X.keep) (r : Rel C base h w0 w) (hv : RvL C xs vs) :
  (∃ fn c, P.funcs[f]? = some fn ∧ fn.body = some c) ∧ ∀ n, CallsIn Fence.wide n P f vs.toArray w (CallPost C base w0 h v h') := by
 unfold callPure at hc
 rw [forceL_eq] at hc
 split at hc
 ·rename_i u h1 he
  split at hc
  ·rename_i z hz
   rw [forceAV_eq] at hc
   cases hc
   obtain ⟨h2, h3⟩ := hE f ys ⟨[], []⟩ u h1 C.bare w.heap.size w w vs he hkp r.bare (cleanL_rv (C := C) (D := C.bare) rfl hv hcl)
   refine ⟨h2, fun n => (h3 n).mono ?_⟩
   rintro e w' ⟨val, C1, rfl, hrv, hle, r1, _, _⟩
   have hle1 := hle.trans r1.all_le
   obtain ⟨hle2, r2⟩ := r.adopt hle1 (fun b o v hk => by
    simp only [Ctx.all] at hk
    split at hk
    ·exact r1.known b o v hk
    ·exact hk) r1.below
   refine ⟨val, { C with K := (C1.all w.heap.size w').K }, rfl, ?_, hle2, r2, ⟨fun _ _ => rfl, fun _ _ => rfl⟩, Longer.refl _⟩
   unfold settle at hz
   split at hz
   ·rename_i z' hz'
    cases hz
    exact Rv.clean (C := C1.all w.heap.size w') { C with K := (C1.all w.heap.size w').K } rfl (hrv.mono r1.all_le) v hz'
   ·exact frz_rv r1 { C with K := (C1.all w.heap.size w').K } rfl _ _ _ _ hz hrv
  ·cases hc
 ·cases hc
theorem RvL.append3 {a b c : List AV} {us vs ws : List Value} (ha : RvL C a us) (hb : RvL C b vs) (hc : RvL C c ws) : RvL C (a ++ b ++ c) (us ++ vs ++ ws) := (ha.append hb).append hc
theorem Rv.more {D : Ctx} (hK : ∀ b o v, C.K b o = some v → D.K b o = some v) {x y : AV} {v : Value} (h : Rv C x v) (hy : x.clean = some y) : Rv D y v := by
 have hl : C.le 0 { C with K := D.K } := ⟨fun _ h => ⟨h, rfl⟩, fun _ h => ⟨h, fun h => ⟨h, rfl, rfl, rfl⟩⟩, hK, fun b o hb => absurd hb (Nat.not_lt_zero _), rfl, rfl, rfl⟩
 exact Rv.clean (C := { C with K := D.K }) D rfl (h.mono hl) y hy
theorem view_rv (r : Rel C base h w0 w) {x y : AV} {v : Value} (hy : viewV h x = some y) (hv : Rv C x v) (kp : Nat → List Nat) : Rv (Ctx.viewOf kp w) y v := by
 have hK : ∀ b o v, C.K b o = some v → (Ctx.viewOf kp w).K b o = some v := fun b o v hk => r.known b o v hk
 unfold viewV at hy
 split at hy
 ·rename_i b off
  split at hy
  ·rename_i c hb
   split at hy
   ·rename_i d hd
    cases hy
    obtain ⟨vs, zs, ty, rfl, hh, hc⟩ := r.place_ref hv hb
    obtain ⟨h1, h2⟩ := cleanL_get hd
    have hcd := hc.drop off
    have hlen : d.length = (vs.drop off).length := by rw [h1, hcd.1]
    have hm := (cellsAt_box hh).drop off
    rw [Nat.zero_add] at hm
    refine .eptr d (fun i => (vs.drop off).getD i undef) (C.mu b) off (fun i z hz => ?_) (fun i hi => ?_)
    ·obtain ⟨u, hu, hcl⟩ := h2 i z hz
     exact (hcd.2 i u hu).more hK hcl
    ·have hi' : i < (vs.drop off).length := by omega
     have := hm i _ (List.getElem?_eq_getElem hi')
     show w.cell? ⟨C.mu b, off + i, none⟩ = some ((vs.drop off).getD i undef)
     rw [this, List.getD_eq_getElem?_getD, List.getElem?_eq_getElem hi']; rfl
   ·cases hy
  ·cases hy
 ·exact hv.more hK hy
theorem viewL_rv (r : Rel C base h w0 w) (kp : Nat → List Nat) : ∀ {xs ys : List AV} {vs : List Value}, viewL h xs = some ys → RvL C xs vs → RvL (Ctx.viewOf kp w) ys vs
 | [], ys, vs, hy, hv => by simp only [viewL, Option.some.injEq] at hy; subst hy; exact ⟨hv.1, fun i x hx => by simp at hx⟩
 | x :: xs, ys, vs, hy, hv => by
  simp only [viewL] at hy
  split at hy
  ·rename_i y ys' h1 h2
   cases hy
   match vs, hv with
   | u :: vs, hv =>
    have ih := viewL_rv r kp (vs := vs) h2 ⟨by have := hv.1; simpa using this, fun i z hz => by have := hv.2 (i + 1) z (by simpa using hz); simpa using this⟩
    have h0 := view_rv r h1 (by have := hv.2 0 x rfl; simpa using this) kp
    refine ⟨by simp [ih.1], fun i z hz => ?_⟩
    cases i with
    | zero => simp at hz; subst hz; simpa using h0
    | succ i => simpa using ih.2 i z (by simpa using hz)
   | [], hv => have := hv.1; simp at this
  ·cases hy
include hX in
theorem sound_orc {f : Nat} {O : List AV → Option AV} (ho : X.orc f = some O) {xs : List AV} {vs : List Value} {v : AV} {h' : Heap} (hc : callOrc O xs h = some (v, h')) (r : Rel C base h w0 w) (hv : RvL C xs vs) :
  (∃ fn c, P.funcs[f]? = some fn ∧ fn.body = some c) ∧ ∀ n, CallsIn Fence.wide n P f vs.toArray w (CallPost C base w0 h v h') := by
 unfold callOrc at hc
 split at hc
 ·rename_i ys hys
  split at hc
  ·rename_i v0 hv0
   split at hc
   ·rename_i u0 hu0
    cases hc
    obtain ⟨h1, h2⟩ := hX.orc f O ho
    refine ⟨h1, fun n => (h2 ys v0 w vs n hv0 (viewL_rv r _ hys hv)).mono ?_⟩
    rintro e w' ⟨u, rfl, hb, hrv⟩
    have hl : C.bare.le w.heap.size { C.bare with K := fun b o => if b < w.heap.size then C.K b o else w'.cell? ⟨b, o, none⟩ } :=
     ⟨fun _ h => ⟨h, rfl⟩, fun _ h => ⟨h, fun h => ⟨h, rfl, rfl, rfl⟩⟩, fun b o v hk => by
      have hk : C.K b o = some v := hk
      show (if _ then _ else _) = _
      rw [if_pos (r.known_lt hk)]; exact hk, fun b o hb => by show (if _ then _ else _) = _; rw [if_pos hb]; rfl, rfl, rfl, rfl⟩
    obtain ⟨hle, r2⟩ := r.adopt hl (fun b o v hk => by
     have hk : (if b < w.heap.size then C.K b o else w'.cell? ⟨b, o, none⟩) = some v := hk
     split at hk
     ·have hh := r.known b o v hk
      have hblt := r.known_lt hk
      rw [← hh]
      simp only [World.cell?]
      rw [hb.block b hblt]
     ·exact hk) hb
    refine ⟨u, _, rfl, hrv.more (fun b o v hk => ?_) hu0, hle, r2, ⟨fun _ _ => rfl, fun _ _ => rfl⟩, Longer.refl _⟩
    have hk : (if b < w.heap.size then none else w'.cell? ⟨b, o, none⟩) = some v := hk
    show (if b < w.heap.size then C.K b o else w'.cell? ⟨b, o, none⟩) = some v
    split at hk
    ·cases hk
    ·rename_i hn; rw [if_neg hn]; exact hk
   ·cases hc
  ·cases hc
 ·cases hc
include hX in
theorem sound_callAV {E : Eng} (hE : SoundCall P X E) (hR : SoundRound P X E) {q : Bool} {g : AV} {gv : Value} {xs : List AV} {vs : List Value} {v : AV} {h' : Heap} (hc : callAV X E q g xs h = some (v, h')) (hkp : C.kp = X.keep) (r : Rel C base h w0 w) (hg : Rv C g gv) (hv : RvL C xs vs) :
  (∃ f us ws, gv = .func (.func f) us.toArray ws.toArray ∧ (∃ fn c, P.funcs[f]? = some fn ∧ fn.body = some c) ∧ ∀ n, CallsIn Fence.wide n P f (us ++ vs ++ ws).toArray w (CallPost C base w0 h v h')) ∨
  (∃ l f tmps asg body, gv = .func (.yield l) #[] #[] ∧ (Instr.yield l vs.toArray).run P w = .ok (.round l f tmps asg body) w ∧
   ∀ n (F : Fence), (F = Fence.wide ∨ ∃ m, F = Fence.wide.inRound m) → RoundIn F n P l f tmps asg body w (CallPost C base w0 h v h')) := by
 unfold callAV at hc
 split at hc
 ·rename_i f fst cap
  cases hg with
  | clo _ _ _ us ws h1 h2 hx hy =>
   left
   have hall : RvL C (fst ++ xs ++ cap) (us ++ vs ++ ws) := RvL.append3 ⟨h1, hx⟩ hv ⟨h2, hy⟩
   refine ⟨f, us, ws, rfl, ?_⟩
   split at hc
   ·rename_i O ho
    split at hc
    ·cases hc
    ·exact sound_orc hX ho hc r hall
   split at hc
   ·split at hc
    ·cases hc
    ·exact hE _ _ _ _ _ _ _ _ _ _ hc hkp r hall
   ·split at hc
    ·rename_i ys hys
     exact sound_pure hE hc hys hkp r hall
    ·split at hc
     ·cases hc
     ·exact hE _ _ _ _ _ _ _ _ _ _ hc hkp r hall
 ·rename_i l
  cases hg with
  | yld _ hok =>
   right
   split at hc
   ·cases hc
   ·obtain ⟨f, tmps, asg, body, h1, h2⟩ := hR l xs h v h' C base w0 w vs hc hkp hok r hv
    exact ⟨_, f, tmps, asg, body, rfl, h1, h2⟩
 ·cases hc
theorem fence_kinds {rd : Option Nat} (hF : F = fenceOf C rd) : (F = Fence.wide ∨ ∃ m, F = Fence.wide.inRound m) ∧ (∀ f, F.fn f) ∧ F.depth = none := by
 subst hF
 cases rd with
 | none => exact ⟨.inl rfl, fun _ => trivial, rfl⟩
 | some l => exact ⟨.inr ⟨_, rfl⟩, fun _ => trivial, rfl⟩
theorem callsIn_kinds (hF : F = Fence.wide ∨ ∃ m, F = Fence.wide.inRound m) {n : Nat} {f : FuncId} {args : Array Value} {R : Ending → World → Prop} (h : CallsIn Fence.wide n P f args w R) : CallsIn F n P f args w R := by
 rcases hF with rfl | ⟨m, rfl⟩
 ·exact h
 ·exact h.inRound m
structure Stay (p : Nat × Nat) (h : Heap) (C C' : Ctx) : Prop where
 ok : ∀ i, i < h.b.length → i ≠ p.1 → C'.ok i = C.ok i
 tk : ∀ k, k < h.t.length → k ≠ p.2 → C'.tk k = C.tk k
include hX in
theorem sound_opAt {E : Eng} (hE : SoundCall P X E) (hR : SoundRound P X E) {s : St} {a : Act} {w : World} (hat : At X C base w0 rd F L N s a w) {p : Nat × Nat} (hfl : ∀ f, C.fl f = true → f ≤ p.1) (hp : Free C s.h p.1) (hq : FreeT C s.h p.2) {fr0 : Frm} (hf : RF C N fr0 a.tmps) (hi : FI L fr0)
  {o : Oper} (hd : ∀ t, o.dst = some t → t < N) {q : Bool} {v : AV} {h' : Heap} (ho : opAt X E q p o.op fr0 s.h = some (v, h')) {n : Nat} {K : Act → World → Prop} {Q : Exit → Act → World → Prop}
  (hK : ∀ C' a' w', C.le base C' → Stay p s.h C C' → Longer s.h h' → At X C' base w0 rd F L N ⟨setD L fr0 o.dst v, h', s.ms⟩ a' w' → K a' w') : o.wpIn F n P a w K Q := by
 obtain ⟨hk, hfn, hdep⟩ := fence_kinds hat.fence.1
 have fin : ∀ C' u w', Rv C' v u → C.le base C' → Rel C' base h' w0 w' → Stay p s.h C C' → Longer s.h h' → K (a.put o.dst u) w' := fun C' u w' hv hl r hs hlen =>
  hK C' _ w' hl hs hlen (hat.to hl r ((hf.mono hl).setD hi hd hv) (hi.setD _ _) (by cases o.dst <;> rfl))
 refine ⟨fun f _ => hfn f, ?_⟩
 have step : (stepOp X p o.op fr0 s.h = some (v, h')) → o.uponIn F n P a K Q ((o.semAt F.round a.eval).run P w) := fun ho => by
  have hnd : ∀ c, o.op ≠ .defer c := fun c e => by rw [e] at ho; simp [stepOp] at ho
  rw [Oper.semAt_eq _ _ _ hnd]
  obtain ⟨C', w', nx, u, hrun, hnx, hv, hl, hr, h1, h2⟩ := lands_step hX hat.rel hfl hp hq hf ho
  rw [hrun]
  have hst : Stay p s.h C C' := ⟨h1, h2⟩
  rcases hnx with rfl | ⟨rfl, rfl⟩
  ·exact fin C' u w' hv hl hr hst (longer_step ho)
  ·exact fin C' _ w' hv hl hr hst (longer_step ho)
 unfold opAt at ho
 split at ho
 ·rename_i c hop
  split at ho
  ·rename_i g hg
   have hnd : ∀ c, o.op ≠ .defer c := fun c e => by rw [hop] at e; cases e
   rw [Oper.semAt_eq _ _ _ hnd]
   have hgv := evo_rv hf g
   have hav := evoL_rv hf c.args.toList
   have post : ∀ {R : Ending → World → Prop}, (∀ e w', CallPost C base w0 s.h v h' e w' → R e w') → ∀ e w', CallPost C base w0 s.h v h' e w' → R e w' := fun h => h
   have stay : ∀ {C'}, Stab s.h.ends C C' → Stay p s.h C C' := fun hs => ⟨fun i h _ => hs.ok i h, fun k h _ => hs.tk k h⟩
   rcases sound_callAV hX hE hR ho hat.kp hat.rel hgv hav with ⟨f, us, ws, hfv, ⟨fn, cd, hfn1, hbd⟩, hcall⟩ | ⟨l, f, tmps, asg, body, hfv, hy, hround⟩
   ·have hname := hX.plain f fn hfn1 (by rw [hbd]; rfl)
    have hrun : (execOp a.eval o).run P w = .ok (.enter f (us ++ c.args.toList.map a.eval ++ ws).toArray) w := by
     have e1 : (us.toArray ++ c.args.map a.eval ++ ws.toArray) = (us ++ c.args.toList.map a.eval ++ ws).toArray := by
      rw [← map_list]; simp
     rw [← e1]
     simp [execOp, hop, resolve, hg, hfv, Deferred.ofValue, invoke, callFunc, hfn1, hname, hbd]
    rw [hrun, Oper.uponIn_enter]
    refine ⟨fun hd => (by rw [hdep] at hd; cases hd), callsIn_kinds hk ((hcall (n - 1)).mono ?_)⟩
    rintro e w' ⟨u, C', rfl, hv, hl, hr, hs, hlen⟩
    exact fin C' u w' hv hl hr (stay hs) hlen
   ·have hrun : (execOp a.eval o).run P w = .ok (.round l f tmps asg body) w := by
     rw [map_list] at hy
     simp [execOp, hop, resolve, hg, hfv, Deferred.ofValue, invoke, hy]
    rw [hrun, Oper.uponIn_round]
    refine ⟨fun hd => (by rw [hdep] at hd; cases hd), (hround (n - 1) F hk).mono ?_⟩
    rintro e w' ⟨u, C', rfl, hv, hl, hr, hs, hlen⟩
    exact fin C' u w' hv hl hr (stay hs) hlen
  ·exact step ho
 ·exact step ho
include hX in
theorem sound_one {E : Eng} (hE : SoundCall P X E) (hR : SoundRound P X E) {s s1 : St} {a : Act} {w : World} (hat : At X C base w0 rd F L N s a w) {p : Nat × Nat} (hfl : ∀ f, C.fl f = true → f ≤ p.1) (hp : Free C s.h p.1) (hq : FreeT C s.h p.2) {ops : Array Oper} {i : Nat} {o : Oper} (hoi : ops[i]? = some o)
  (hd : ∀ t, o.dst = some t → t < N) {q : Bool} (ho : oneS X E L ops.toList q p o s = some s1) {n : Nat} {K : Act → World → Prop} {Q : Exit → Act → World → Prop}
  (hK : ∀ C' a' w', C.le base C' → Stay p s.h C C' → Longer s.h s1.h → At X C' base w0 rd F L N s1 a' w' → K a' w') : wpOpIn F n P ops Q i K a w := by
 obtain ⟨hk, hfn, hdep⟩ := fence_kinds hat.fence.1
 obtain ⟨fr0, b, hg, hrest⟩ := oneS_inv ho
 obtain ⟨hw, hf0, hi0⟩ := hg.word hat.rf hat.fi
 unfold wpOpIn
 simp only [hoi, hw]
 rcases hrest with ⟨rfl, v, h', hop, rfl⟩ | ⟨rfl, rfl⟩
 ·simp only [if_true]
  exact sound_opAt hX hE hR hat hfl hp hq hf0 hi0 hd hop hK
 ·simp only [Bool.false_eq_true, if_false]
  exact ⟨fun f _ => hfn f, hK C _ w (Ctx.le.refl base C) ⟨fun _ _ _ => rfl, fun _ _ _ => rfl⟩ (Longer.refl _) (hat.to (Ctx.le.refl base C) hat.rel (hf0.setD hi0 hd .und) (hi0.setD _ _) (by cases o.dst <;> rfl))⟩
include hX in
theorem sound_ops {E : Eng} (hE : SoundCall P X E) (hR : SoundRound P X E) {ops : Array Oper} {n : Nat} {Q : Exit → Act → World → Prop} (hd : ∀ (i : Nat) (o : Oper), ops[i]? = some o → ∀ t, o.dst = some t → t < N) : ∀ (os : List Oper) (k : Nat) (C : Ctx) (s s' : St) (a : Act) (w : World),
  (∀ j, os[j]? = ops[k + j]?) → At X C base w0 rd F L N s a w → runOps X E L ops.toList os s = some s' →
  (∀ C' a' w', C.le base C' → Stab s.h.ends C C' → Longer s.h s'.h → At X C' base w0 rd F L N s' a' w' → Q .normal a' w') → wpOpsIn F n P ops Q (List.range' k os.length) a w
 | [], k, C, s, s', a, w, _, hat, ho, hQ => by
  simp only [runOps, Option.some.injEq] at ho; subst ho
  exact hQ C a w (Ctx.le.refl base C) (Stab.refl _ _) (Longer.refl _) hat
 | o :: os, k, C, s, s', a, w, hk, hat, ho, hQ => by
  have ho : oneOp X E L ops.toList false (s.h.b.length, s.h.t.length) o s (runOps X E L ops.toList os) = some s' := ho
  rw [oneOp_eq] at ho
  obtain ⟨s1, h1, h2⟩ := Option.bind_eq_some_iff.1 ho
  have hoi : ops[k]? = some o := by have := hk 0; simpa using this.symm
  rw [List.length_cons, List.range'_succ, wpOpsIn_cons]
  have hp : Free C s.h s.h.b.length := ⟨by cases hh : C.ok s.h.b.length with | false => rfl | true => have := hat.rel.ok _ hh; omega, Nat.le_refl _⟩
  have hq : FreeT C s.h s.h.t.length := ⟨by cases hh : C.tk s.h.t.length with | false => rfl | true => have := hat.rel.tk _ hh; omega, Nat.le_refl _⟩
  refine sound_one hX hE hR hat (fun f hf => hat.rel.fle f hf) hp hq hoi (hd k o hoi) h1 fun C1 a1 w1 hl1 hs1 hlen1 hat1 => ?_
  have hst1 : Stab s.h.ends C C1 := ⟨fun i hi => hs1.ok i hi (Nat.ne_of_lt hi), fun i hi => hs1.tk i hi (Nat.ne_of_lt hi)⟩
  refine sound_ops hE hR hd os (k + 1) C1 s1 s' a1 w1 (fun j => by have := hk (j + 1); simp only [List.getElem?_cons_succ] at this; rw [this]; congr 1; omega) hat1 h2 fun C' a' w' hl hs hlen hat' => ?_
  exact hQ C' a' w' (hl1.trans hl) (hst1.trans (hs.weak hlen1.1 hlen1.2)) (hlen1.trans hlen) hat'
end
end
section
open Go.RowKit
section
variable {P : Program} {X : Tab} (hX : Fits P X) {C : Ctx} {base : Nat} {h : Heap} {p : Nat × Nat} {w0 w : World}
theorem rvl_flat {ys : List AV} {vs : Nat → Value} (hy : ∀ (i : Nat) (x : AV), ys[i]? = some x → Rv C x (vs i)) (hv : ys.all AV.var = true) : RvL C (ys.flatMap AV.cells) (flat vs ys.length) := by
 have key : ∀ n, n ≤ ys.length → RvL C ((ys.take n).flatMap AV.cells) (flat vs n) := by
  intro n
  induction n with
  | zero => intro _; exact ⟨by simp [flat], fun i x hx => by simp at hx⟩
  | succ n ih =>
   intro hn
   have hg : ys[n]? = some ys[n] := List.getElem?_eq_getElem (by omega)
   have hvar : (ys[n]).var = true := List.all_eq_true.1 hv _ (List.getElem_mem (by omega))
   have hc := (hy n _ hg).cells hvar
   rw [flat_succ, List.take_add_one, hg]
   simp only [Option.toList_some, List.flatMap_append, List.flatMap_cons, List.flatMap_nil, List.append_nil]
   exact (ih (by omega)).append hc
 have := key ys.length (Nat.le_refl _)
 rwa [List.take_length] at this
theorem Rel.free_end (r : Rel C base h w0 w) : Free C h h.b.length :=
 ⟨by cases hh : C.ok h.b.length with | false => rfl | true => have := r.ok _ hh; omega, Nat.le_refl _⟩
include hX in
theorem lands_grow (r : Rel C base h w0 w) {t u ty : TypeId} {x y : AV} {xv yv : Value} (hx : Rv C x xv) (hy : Rv C y yv) (hu : known X u = true) (hi : (tint X u).isNone = true)
  {z : AV} {h' : Heap} (ho : growAV X t h x y = some (z, h')) :
  Lands P C base h (h.b.length, h.t.length) w0 (do pure (.value (← Builtin.append_ #[t, u] ty #[xv, yv]))) w z h' := by
 obtain ⟨d, hud, hnd⟩ : ∃ d, P.underlying u = some d ∧ ∀ k, d ≠ .int k := by
  unfold known at hu
  unfold tint at hi
  cases hg : X.ty.get u with
  | none => rw [hg] at hu; cases hu
  | some i =>
   obtain ⟨j, hj, rfl⟩ := hX.info hg
   rw [hg] at hu hi
   obtain ⟨d, hd⟩ := Option.isSome_iff_exists.1 (show (P.underlying u).isSome = true from hu)
   refine ⟨d, hd, fun k e => ?_⟩
   simp [tiOf, intIn, hd, e] at hi
 unfold growAV at ho
 split at ho
 ·rename_i e hrow
  have hut := hX.row_slice hrow
  split at ho
  ·rename_i sz1 sz ys
   split at ho
   ·rename_i hc
    obtain ⟨hS, hbytes, hsmall, hzf, hvar⟩ := hc
    obtain ⟨a1, c1, us, rfl, hcap1, ht1, hxs, hs1, hr1⟩ := lst_inv hx
    obtain ⟨a2, c2, vs, rfl, hcap2, ht2, hys, hs2, hr2⟩ := lst_inv hy
    have ht1 : (0 : Nat) = c1 := ht1.1
    subst ht1
    obtain ⟨j, hj, hjs, hjt⟩ := hX.size_pos hS
    have hSz := hX.run_sizeOf hS w
    have hbt : tbytes X e = j.bytes := by unfold tbytes; rw [hjt]; rfl
    obtain ⟨zc, hz0, hzl⟩ : ∃ zc, j.zero = some zc ∧ zc.cells.size = tsz X e := by
     unfold zeroFits at hzf
     split at hzf
     ·rename_i z0 hz0
      obtain ⟨j', v', hj', hv', hov, _⟩ := hX.zero hz0
      rw [hj] at hj'; cases hj'
      simp only [Bool.and_eq_true, beq_iff_eq] at hzf
      have hcells := Rv.cells (C := C) (ofValue_rv hov) hzf.2
      refine ⟨v', hv', ?_⟩
      rw [← hzf.1, ← hcells.1]; simp
     ·cases hzf
    split at ho
    ·rename_i h0
     cases ho
     have hys0 : ys = [] := List.eq_nil_of_length_eq_zero h0
     subst hys0
     have hf : (Builtin.firstCells (tsz X e) 0 (.slice a2 0 c2)).run P w = .ok (flat vs 0).toArray w := run_first (fun i hi => by omega) (fun hn => by omega) fun b o v hv => r.known b o v hv
     have hrun := run_append_in (ty := ty) (w := w) (w' := w) t u e hut hud hnd hSz a1 0 0 a2 0 c2 (flat vs 0) hf (Nat.le_refl _) (fun x _ => by simp [flat, storeCells]) (fun _ => rfl)
     exact lands_same r (u := .slice a1 (0 + 0) 0) (by simp [hrun]) (.lst 1 (tsz X e) [] a1 0 us (Nat.le_refl _) ⟨rfl, fun hn => by simp at hn⟩ (fun i x hx => by simp at hx) (fun i hi => by simp at hi) (fun hn => by simp at hn) (fun e => by omega))
    ·rename_i hn0
     split at ho
     ·rename_i hsz
      cases ho
      subst hsz
      have hfl2 := flat_length hs2
      have hf : (Builtin.firstCells j.size ys.length (.slice a2 ys.length c2)).run P w.drew = .ok (flat vs ys.length).toArray w.drew := run_first (by rw [hjs]; exact hs2) (by rw [hjs]; exact hr2) fun b o v hv => r.known b o v hv
      have hf1 : (Builtin.firstCells j.size 0 (.slice a1 0 0)).run P w.drew = .ok (flat us 0).toArray w.drew := run_first (fun i hi => by omega) (fun hn => by omega) fun b o v hv => r.known b o v hv
      have hlim : (0 + ys.length) * j.bytes ≤ 140737488355328 := by rw [Nat.zero_add, ← hbt]; exact Nat.le_trans hbytes (by decide)
      have hrun := run_append_out (ty := ty) (w := w) t u e hut hud hnd hj hz0 a1 0 0 a2 ys.length c2 (flat us 0) (flat vs ys.length) hf1 hf (by omega) hlim (by rw [Nat.zero_add]; exact hsmall)
      generalize hcap : grownCap w (0 + ys.length) 0 e = cap at hrun
      have hcapge : ys.length ≤ cap := by rw [← hcap]; simp only [grownCap, Question.cut]; omega
      have e0 : (flat us 0).toArray = #[] := by simp [flat]
      rw [e0] at hrun
      generalize hzs : (Builtin.zeroCells zc.cells (cap - (0 + ys.length))) = zs at hrun
      have hnew : (w.drew.alloc (.cells (#[] ++ (flat vs ys.length).toArray ++ zs) e)).heap[w.heap.size]? = some (.cells (flat vs ys.length ++ zs.toList).toArray e (0, 0)) := by
       have := heap_alloc_new w.drew (.cells (#[] ++ (flat vs ys.length).toArray ++ zs) e)
       have e1 : (#[] ++ (flat vs ys.length).toArray ++ zs) = (flat vs ys.length ++ zs.toList).toArray := by apply Array.ext'; simp
       rw [← e1]
       exact this
      have r1 : Rel C base h w0 w.drew := r.world (Below.refl _ _).drew
      have hrow := rvl_flat hys hvar
      have hle : C.le base (C.lay h.b.length w.drew.heap.size) := Ctx.le_lay r1.free_end.1
      have hund : ∀ y ∈ ys.flatMap AV.cells, y.under h.b.length = true := fun y hy => by
       obtain ⟨i, hi⟩ := List.mem_iff_getElem?.1 hy
       exact (hrow.2 i y hi).under r.ok
      have r2 := r1.new r1.free_end (.cells (ys.flatMap AV.cells)) (.cells (#[] ++ (flat vs ys.length).toArray ++ zs) e)
       ⟨flat vs ys.length, zs.toList, e, hnew, hrow.mono hle⟩ (fun y hy => AV.under_mono (Nat.le_succ _) y (hund y hy))
      refine ⟨_, _, _, .slice (some ⟨w.heap.size, 0, none⟩) (0 + ys.length) cap, by simp [hrun], .inl rfl, ?_, hle, r2, fun i _ hne => by simp [Ctx.lay, hne], fun _ _ _ => rfl⟩
      have := Rv.bsl (C := C.lay h.b.length w.drew.heap.size) h.b.length 0 ys.length (tsz X e) (some ⟨w.heap.size, 0, none⟩) cap (C.lay_ok _ _) hcapge (fun _ => by rw [C.lay_mu]; rfl)
      rw [Nat.zero_add]
      exact this
     ·cases ho
   ·cases ho
  ·cases ho
 ·cases ho
theorem longer_grow {t : TypeId} {x y : AV} {v : AV} {h' : Heap} (ho : growAV X t h x y = some (v, h')) : h.b.length ≤ h'.b.length ∧ h.t.length ≤ h'.t.length := by
 unfold growAV at ho
 repeat' (split at ho)
 all_goals first | (cases ho; done) | (cases ho; exact ⟨Nat.le_refl _, Nat.le_refl _⟩) | (cases ho; exact ⟨by simp only [hput, lset_length]; split <;> omega, Nat.le_refl _⟩)
theorem longer_app {t : TypeId} {q : Nat} {x y : AV} {v : AV} {h' : Heap} (ho : appendAV X t q h x y = some (v, h')) : Longer h h' := by
 unfold appendAV at ho
 repeat' (split at ho)
 all_goals first | (cases ho; done) | (cases ho; exact ⟨Nat.le_refl _, by simp only [lset_length, List.length_set]; split <;> omega⟩)
theorem longer_lit {t : TypeId} {q : Nat} {x : AV} {b off n sz : Nat} {v : AV} {h' : Heap} (ho : litAV X t q h x b off n sz = some (v, h')) : Longer h h' := by
 unfold litAV at ho
 split at ho
 ·split at ho
  ·exact longer_app ho
  ·cases ho
 ·cases ho
theorem longer_makeSlice {t : TypeId} {q : Nat} {l c : AV} {v : AV} {h' : Heap} (ho : opMakeSlice X q t l c h = some (v, h')) : Longer h h' := by
 unfold opMakeSlice at ho
 repeat' (split at ho)
 all_goals first | (cases ho; done) | (cases ho; exact longer_hput _ _ _)
theorem longer_make0 {t : TypeId} {p : Nat × Nat} {l c : AV} {v : AV} {h' : Heap} (ho : opMake0 X p t l c h = some (v, h')) : Longer h h' := by
 unfold opMake0 at ho
 split at ho
 ·split at ho
  ·cases ho; exact ⟨Nat.le_refl _, by simp only [lset_length]; split <;> omega⟩
  ·exact longer_makeSlice ho
 ·exact longer_makeSlice ho
theorem longer_zeros {t : TypeId} {q : Nat} {x : AV} {n : Int} {v : AV} {h' : Heap} (ho : zerosAV X t q h x n = some (v, h')) : Longer h h' := by
 unfold zerosAV at ho
 split at ho
 ·split at ho
  ·split at ho
   ·exact longer_app ho
   ·cases ho
  ·cases ho
 ·cases ho
theorem bsl_lst {b off n sz : Nat} {d xs : List AV} {us : List Value} {v : Value} (hK : ∀ o v, us[o]? = some v → C.K (C.mu b) o = some v) (hu : RvL C d us) (hr : rowsOf sz d off n = some xs) (hz : ¬ sz = 0) (hv : Rv C (.bsl b off n sz) v) : Rv C (.lst 0 sz xs) v := by
 cases hv with
 | bsl _ _ _ _ a cap hb hc ha =>
  obtain ⟨g1, g2⟩ := rowsOf_get hr
  have each : ∀ i x, xs[i]? = some x → _ := fun i x hx => rowAt_rv hu (g2 i x hx)
  have row : ∀ i, i < n → ∃ x, xs[i]? = some x := fun i hi => ⟨_, List.getElem?_eq_getElem (by omega)⟩
  have e := Rv.lst (C := C) 0 sz xs a cap (fun i => rowVal sz us (off + i * sz)) (by rw [g1]; exact hc) trivial (fun i x hx => (each i x hx).1)
   (fun i hi => by obtain ⟨x, hx⟩ := row i (by omega); exact (each i x hx).2.1)
   (fun hn => ⟨C.mu b, off, ha (by omega), fun i hi j hj => by
    obtain ⟨x, hx⟩ := row i (by omega)
    have e1 := (each i x hx).2.2 j hj
    have e2 := (each i x hx).2.1
    rw [Array.getElem?_eq_getElem (by rw [e2]; exact hj)] at e1 ⊢
    exact hK _ _ e1⟩) (fun e => absurd e hz)
  rw [g1] at e; exact e
theorem Rel.ice (r : Rel C base h w0 w) {bz b off n sz o : Nat} {c d xs : List AV} (hbz : h.b[bz]? = some (.cells c)) (hco : c[o]? = some (.bsl b off n sz)) (hb : h.b[b]? = some (.cells d)) (hrows : rowsOf sz d off n = some xs) (hne : ¬ (b = bz ∨ sz = 0))
  (hfl : ∀ f, C.fl f = true → f = 0) : ∃ C', C.le base C' ∧ C'.ok = C.ok ∧ C'.tk = C.tk ∧ Rel C' base ((h.put b .none).put bz (.cells (c.set o (.lst 0 sz xs)))) w0 w := by
 obtain ⟨us, zs, ty, hw, hu⟩ := r.box b _ hb
 obtain ⟨_, hbase, hlt, hK⟩ := r.has b _ hb (by simp)
 have hle : C.le base (C.learn (C.mu b) fun o => us[o]?) := Ctx.le_learn C _ _ hbase (fun o v hv => by rw [hK] at hv; cases hv)
 have r1 := r.free b
 have hget : ∀ (i : Nat) (z : ABlk), (h.put b .none).b[i]? = some z → z ≠ .none → i ≠ b ∧ h.b[i]? = some z := fun i z hz hz0 => by
  simp only [Heap.put, List.getElem?_set] at hz
  split at hz
  ·split at hz
   ·cases hz; exact absurd rfl hz0
   ·cases hz
  ·rename_i e; exact ⟨fun e' => e e'.symm, hz⟩
 have hmu : ∀ (i : Nat) (z : ABlk), (h.put b .none).b[i]? = some z → z ≠ .none → C.mu i ≠ C.mu b := fun i z hz hz0 e => by
  obtain ⟨h1, h2⟩ := hget i z hz hz0
  exact h1 (r.inj i b z _ h2 hb hz0 (by simp) e)
 have r2 : Rel (C.learn (C.mu b) fun o => us[o]?) base (h.put b .none) w0 w := by
  refine ⟨r1.ok, r1.tk, r1.lv, r1.lt, r1.below, r1.size, fun i x hx => (r1.box i x hx).mono hle rfl, fun i x hx hn => ?_, r1.und, r1.inj, ?_, fun k blk hl ht => ?_, r1.taginj, r1.fle, r1.bs⟩
  ·obtain ⟨a, b', c', d'⟩ := r1.has i x hx hn
   exact ⟨a, b', c', fun o => by show (if C.mu i = C.mu b then _ else C.K (C.mu i) o) = none; rw [if_neg (hmu i x hx hn)]; exact d' o⟩
  ·intro b' o v hv
   simp only [Ctx.learn] at hv
   split at hv
   ·rename_i e; subst e
    simp only [World.cell?, hw]
    rw [List.getElem?_toArray, List.getElem?_append_left (List.getElem?_eq_some_iff.1 hv).1]; exact hv
   ·exact r1.known b' o v hv
  ·obtain ⟨a, b', c', d'⟩ := r1.tag k blk hl ht
   have hnb : C.mu b ≠ blk := (r.tag k blk hl ht).2.2.2 b _ hb (by simp)
   exact ⟨a, b', fun o ho => by show (if blk = C.mu b then _ else C.K blk o) = none; rw [if_neg (fun e => hnb e.symm)]; exact c' o ho, d'⟩
 have hbz1 : (h.put b .none).b[bz]? = some (.cells c) := by
  simp only [Heap.put]
  rw [List.getElem?_set_ne (fun e => hne (.inl e))]; exact hbz
 obtain ⟨vs, zs', ty', hw', hc⟩ := r2.box bz _ hbz1
 refine ⟨_, hle, rfl, rfl, r2.put hbz1 (by simp) _ rfl rfl rfl rfl (fun _ _ => rfl) ⟨vs, zs', ty', hw', by simpa using hc.1, fun i x hx => ?_⟩ (fun f hf hlt => by have := hfl f hf; omega)⟩
 rw [List.getElem?_set] at hx
 split at hx
 ·rename_i e
  subst e
  split at hx
  ·cases hx
   exact bsl_lst (C := C.learn (C.mu b) fun o => us[o]?) (us := us) (fun o' v hv => by
    show (if C.mu b = C.mu b then us[o']? else _) = some v
    rw [if_pos rfl]; exact hv) (hu.mono hle) hrows (fun e => hne (.inr e)) (hc.2 o _ hco)
  ·cases hx
 ·exact hc.2 i x hx
end
section
variable {P : Program} {X : Tab} (hX : Fits P X) {base : Nat} {w0 w : World} {rd : Option Nat} {F : Fence} {L : List Nat} {N : Nat} {C : Ctx} {h : Heap}
include hX in
theorem lands_make0 {p : Nat × Nat} {w : World} (r : Rel C base h w0 w) (hp : Free C h p.1) (hq : FreeT C h p.2) {t : TypeId} {l c : AV} {lv cv : Value} (hl : Rv C l lv) (hc : Rv C c cv) {z : AV} {h' : Heap} (ho : opMake0 X p t l c h = some (z, h')) :
  Lands P C base h p w0 (do pure (.value (← Instr.makeSlice t lv cv))) w z h' := by
 unfold opMake0 at ho
 split at ho
 ·rename_i e k1 n k2 m hrow
  have hu := hX.row_slice hrow
  split at ho
  ·rename_i hcond
   obtain ⟨rfl, hm0, hm, hb, hS, hS2, hzf⟩ := hcond
   have := hl.int_inv; have := hc.int_inv; subst_vars
   cases ho
   obtain ⟨z0, hz0⟩ : ∃ z0, tzero X e = some z0 := by
    unfold zeroFits at hzf
    split at hzf
    ·rename_i z0 hz0; exact ⟨z0, hz0⟩
    ·cases hzf
   obtain ⟨j, v, hj, hjz, hov, hjs⟩ := hX.zero hz0
   have hbt : tbytes X e = j.bytes := by
    unfold tbytes
    obtain ⟨j', hj', _, hg⟩ := hX.size_pos hS
    rw [hj] at hj'; cases hj'
    rw [hg]; rfl
   obtain ⟨m', rfl⟩ : ∃ m' : Nat, m = m' := ⟨m.toNat, by omega⟩
   have hbm : j.bytes * m' ≤ 16777216 := by
    rw [← hbt]
    exact Nat.le_trans (Nat.mul_le_mul hb (show m' ≤ 4096 by omega)) (by decide)
   have hsm : m' * j.size ≤ 16777216 := by
    rw [hjs]
    exact Nat.le_trans (Nat.mul_le_mul (show m' ≤ 4096 by omega) hS2) (by decide)
   have hbm' : ((j.bytes : Int) * (m' : Int)) ≤ 281474976710656 := by
    have : ((j.bytes : Int) * (m' : Int)) = ((j.bytes * m' : Nat) : Int) := by simp
    rw [this]; omega
   have hrun := run_makeSlice w t e j v hu hj hjz k1 k2 0 m' (Int.le_refl _) (by omega) (by rw [Int.toNat_natCast]; exact hsm) hbm' (by omega)
   rw [Int.toNat_natCast, hjs] at hrun
   have hasz := size_madeCells v.cells (m' * tsz X e)
   generalize madeCells v.cells (m' * tsz X e) = arr at hrun hasz
   obtain ⟨hle1, r1⟩ := r.learn_new w (Below.refl _ _) rfl arr e (fun _ => none) (fun o v hv => by cases hv)
   have hKf : ∀ o, (C.learn w.heap.size fun _ => none).K w.heap.size o = none := fun o => by simp [Ctx.learn]
   have r2 := r1.retag (q := p.2) (kill := none) (o := some w.heap.size) (f := 0) (g := arr.size) hq.1 hq.2 (fun b hb => by
    cases hb
    refine ⟨r.size, ⟨arr, e, heap_alloc_new w _, Nat.le_refl _⟩, fun x _ => hKf x, fun i x hx hn => ?_, fun k' h1 h2 => ?_⟩
    ·have := (r.has i x hx hn).2.2.1
     intro e'; have e' : C.mu i = w.heap.size := e'; omega
    ·obtain ⟨_, ⟨_, _, h3, _⟩, _⟩ := r.tag k' _ h1 h2
     have := World.lt_of_heap h3; omega)
   have hle2 := hle1.trans (Ctx.le_retag (base := base) (C := C.learn w.heap.size fun _ => none) (q := p.2) (kill := none) (o := some w.heap.size) (f := 0) (g := arr.size) hq.1)
   refine ⟨_, _, _, .slice (some ⟨w.heap.size, 0, none⟩) 0 m', by simp [hrun], .inl rfl, ?_, hle2, r2, fun _ _ _ => rfl, fun k' _ hne => by simp [Ctx.retag, Ctx.learn, hne]⟩
   refine .lst (p.2 + 2) (tsz X e) [] (some ⟨w.heap.size, 0, none⟩) m' (fun _ => undef) (Nat.zero_le _) ⟨by simp [Ctx.retag], fun hn => absurd hn (Nat.lt_irrefl _), fun _ => ?_⟩ (fun i x hx => by simp at hx) (fun i hi => absurd hi (Nat.not_lt_zero _)) (fun hn => absurd hn (Nat.lt_irrefl _)) (fun e => by omega)
   simp only [Ctx.retag, if_true]
   exact ⟨0, rfl, by simp, by rw [hasz]; omega⟩
  ·exact lands_makeSlice hX r hp hl hc ho
 ·exact lands_makeSlice hX r hp hl hc ho
include hX in
theorem lands_lit {p : Nat × Nat} {w : World} (r : Rel C base h w0 w) (hq : FreeT C h p.2) {t u ty : TypeId} {x : AV} {b off n sz : Nat} {xv yv : Value} (hx : Rv C x xv) (hy : Rv C (.bsl b off n sz) yv) (hu : known X u = true) (hi : (tint X u).isNone = true)
  {z : AV} {h' : Heap} (ho : litAV X t p.2 h x b off n sz = some (z, h')) :
  Lands P C base h p w0 (do pure (.value (← Builtin.append_ #[t, u] ty #[xv, yv]))) w z h' := by
 unfold litAV at ho
 split at ho
 ·rename_i e c hrow hb
  split at ho
  ·rename_i hc
   obtain ⟨rfl, hS, hlen, hone⟩ := hc
   cases hy with
   | bsl _ _ _ _ a cap hok hcap ha =>
    have hlc : ((c.drop off).take n).length = n := by rw [List.length_take, List.length_drop]; omega
    obtain ⟨us, sp, ety, hh, hus⟩ := r.box b _ hb
    have hys : ∀ (i : Nat) (x : AV), ((c.drop off).take n)[i]? = some x → Rv C x (us.getD (off + i) undef) := fun i x hx => by
     rw [List.getElem?_take] at hx
     split at hx
     ·rw [List.getElem?_drop] at hx; exact hus.2 _ _ hx
     ·cases hx
    have hc1 : ∀ i, i < n → (us.getD (off + i) undef).cells = #[us.getD (off + i) undef] := fun i hi => by
     have hxi : ((c.drop off).take n)[i]? = some ((c.drop off).take n)[i] := List.getElem?_eq_getElem (by omega)
     exact (hys i _ hxi).one_cells (List.all_eq_true.1 hone _ (List.getElem_mem (by omega)))
    have hs2 : ∀ i, i < n → (us.getD (off + i) undef).cells.size = 1 := fun i hi => by rw [hc1 i hi]; rfl
    have hf : ∀ S, (1 = S ∨ n = 0) → ∀ w2, (w2 = w ∨ w2 = w.drew) → (Builtin.firstCells S n (.slice a n cap)).run P w2 = .ok (flat (fun i => us.getD (off + i) undef) n).toArray w2 := fun S hS w2 hw2 => by
     have hw2h : w2.heap = w.heap := by rcases hw2 with rfl | rfl <;> rfl
     by_cases hn : 0 < n
     ·obtain rfl : 1 = S := by omega
      have ha := ha hn
      subst ha
      refine run_firstCells_some w2 1 n _ n cap _ (flat_length hs2) fun o v hv => ?_
      have hlt : o < n * 1 := by have := (List.getElem?_eq_some_iff.1 hv).1; rwa [flat_length hs2] at this
      obtain ⟨i, j, rfl, hi, hj⟩ := flat_pos hlt
      rw [flat_get hs2 i hi j hj] at hv
      obtain rfl : j = 0 := by omega
      rw [hc1 i hi] at hv
      simp only [List.getElem?_toArray, List.getElem?_cons_zero, Option.some.injEq] at hv
      rw [add_lit]
      have hlu : off + i < us.length := by rw [hus.1]; omega
      have hg : us[off + i]? = some v := by rw [← hv, List.getD_eq_getElem?_getD, List.getElem?_eq_getElem hlu]; rfl
      unfold World.cell?
      rw [hw2h]
      simp only [hh, Nat.mul_one, Nat.add_zero]
      rw [List.getElem?_toArray, List.getElem?_append_left hlu]; exact hg
     ·have h0 : n = 0 := by omega
      subst h0
      cases a <;> simp [Builtin.firstCells, loadCells, loadCellsFrom, flat]
    rw [← hlc] at hf hs2
    have key := lands_append' (ty := ty) (a2 := a) (c2 := cap) (vs := fun i => us.getD (off + i) undef) hX r hq hx hys hs2 hf hu hi ho
    rw [hlc] at key
    exact key
  ·cases ho
 ·cases ho
include hX in
theorem lands_zeros {p : Nat × Nat} {w : World} (r : Rel C base h w0 w) (hq : FreeT C h p.2) {t u ty : TypeId} {x : AV} {k ki : IntKind} {n : Int} {xv yv : Value} (hx : Rv C x xv) (hy : Rv C (.int k n) yv) (hu : tint X u = some ki)
  {z : AV} {h' : Heap} (ho : zerosAV X t p.2 h x n = some (z, h')) :
  Lands P C base h p w0 (do pure (.value (← Builtin.append_ #[t, u] ty #[xv, yv]))) w z h' := by
 have := hy.int_inv; subst this
 have hui := hX.int hu
 unfold zerosAV at ho
 split at ho
 ·rename_i e hrow
  have hut := hX.row_slice hrow
  split at ho
  ·rename_i z0 hz0
   split at ho
   ·rename_i hc
    obtain ⟨h0, h1, hb, hS, hone⟩ := hc
    obtain ⟨m, rfl⟩ : ∃ m : Nat, n = m := ⟨n.toNat, by omega⟩
    rw [Int.toNat_natCast] at ho
    obtain ⟨j, v, hj, hjz, hov, hjs⟩ := hX.zero hz0
    have hrv : Rv C z0 v := ofValue_rv hov
    have hcell := hrv.one_cells hone
    have hbt : tbytes X e = j.bytes := by
     unfold tbytes
     obtain ⟨j', hj', _, hg⟩ := hX.size_pos (t := e) (by omega)
     rw [hj] at hj'; cases hj'
     rw [hg]; rfl
    rw [hbt] at hb
    have hj1 : j.size = 1 := by omega
    have hl : (List.replicate m z0).length = m := List.length_replicate
    refine lands_appendG (vs := fun _ => v) hX r hq hx (fun i y hy => ?_) (fun i _ => by show v.cells.size = 1; rw [hcell]; rfl) ?_ ?_ ho
    ·rw [List.getElem?_replicate] at hy
     split at hy
     ·cases hy; exact hrv
     ·cases hy
    ·intro e' S w' hut' hSz _ b n1 c1 hin hst hst0
     rw [hut] at hut'; cases hut'
     rw [hl] at hin hst ⊢
     rw [flat_const hcell] at hst
     exact run_zeros_in t u ty e hut hui hj hjz hcell hj1 hSz b n1 c1 m (by omega) hb hin hst hst0
    ·intro e' i' z' hut' hi' hz' _ b n1 c1 olds h2 hout hlim h63
     rw [hut] at hut'; cases hut'
     rw [hj] at hi'; cases hi'
     rw [hjz] at hz'; cases hz'
     rw [hl] at hout hlim h63 ⊢
     rw [flat_const hcell]
     exact run_zeros_out t u ty e hut hui hj hjz hcell hj1 b n1 c1 m olds (by omega) hb h2 hout hlim h63
   ·cases ho
  ·cases ho
 ·cases ho
include hX in
theorem sound_opG {E : Eng} (hE : SoundCall P X E) (hR : SoundRound P X E) {d : Bool} {s : St} {a : Act} {w : World} (hat : At X C base w0 rd F L N s a w) (h0 : d = true → ∀ f, C.fl f = true → f = 0) {o : Oper} (hd : ∀ t, o.dst = some t → t < N) {v : AV} {h' : Heap}
  (ho : opBx X d E (s.h.b.length, s.h.t.length) o.op s.fr s.h = some (v, h')) {n : Nat} {K : Act → World → Prop} {Q : Exit → Act → World → Prop}
  (hK : ∀ C' a' w', C.le base C' → Stay (s.h.b.length, s.h.t.length) s.h C C' → Longer s.h h' → At X C' base w0 rd F L N ⟨setD L s.fr o.dst v, h', s.ms⟩ a' w' → K a' w') : o.wpIn F n P a w K Q := by
 have hp : Free C s.h s.h.b.length := hat.rel.free_end
 have hq : FreeT C s.h s.h.t.length := ⟨by cases hh : C.tk s.h.t.length with | false => rfl | true => have := hat.rel.tk _ hh; omega, Nat.le_refl _⟩
 obtain ⟨hk, hfn, hdep⟩ := fence_kinds hat.fence.1
 have ev := fun x => evo_rv hat.rf x
 have plain : opAt X E false (s.h.b.length, s.h.t.length) o.op s.fr s.h = some (v, h') → o.wpIn F n P a w K Q := fun ho =>
  sound_opAt hX hE hR hat (p := (s.h.b.length, s.h.t.length)) (fun f hf => hat.rel.fle f hf) hp hq hat.rf hat.fi hd ho hK
 have step : (hnd : ∀ c, o.op ≠ .defer c) → Longer s.h h' → Lands P C base s.h (s.h.b.length, s.h.t.length) w0 (execOp a.eval o) w v h' → o.wpIn F n P a w K Q := fun hnd hlen hl => by
  refine ⟨fun f _ => hfn f, ?_⟩
  rw [Oper.semAt_eq _ _ _ hnd]
  obtain ⟨C', w', nx, u, hrun, hnx, hv, hl, hr, h1, h2⟩ := hl
  rw [hrun]
  have hst : Stay (s.h.b.length, s.h.t.length) s.h C C' := ⟨h1, h2⟩
  have fin : ∀ u, Rv C' v u → K (a.put o.dst u) w' := fun u hv => hK C' _ w' hl hst hlen (hat.to hl hr ((hat.rf.mono hl).setD hat.fi hd hv) (hat.fi.setD _ _) (by cases o.dst <;> rfl))
  rcases hnx with rfl | ⟨rfl, rfl⟩
  ·exact fin u hv
  ·exact fin _ hv
 unfold opBx at ho
 split at ho
 ·rename_i t x y hop
  cases d with
  | false => rw [← hop] at ho; exact plain ho
  | true =>
   have ho : opStore X 0 t (evo s.fr x) (evo s.fr y) s.h = some (v, h') := ho
   refine step (fun c e => by rw [hop] at e; cases e) ?_ ?_
   ·unfold opStore at ho
    repeat' (split at ho)
    all_goals first | (cases ho; done) | (cases ho; exact longer_put _ _ _)
   ·unfold execOp
    rw [hop]
    exact lands_store hX hat.rel (m := 0) (fun f hf => Nat.le_of_eq (h0 rfl f hf)) (ev x) (ev y) ho
 ·rename_i t l c hop
  refine step (fun c e => by rw [hop] at e; cases e) (longer_make0 ho) ?_
  unfold execOp
  rw [hop]
  exact lands_make0 hX hat.rel hp hq (ev l) (ev c) ho
 ·rename_i c hop
  split at ho
  ·rename_i hcal
   unfold growApp at ho
   split at ho
   ·rename_i t u x y ets evs
    have hv := evoL_rv hat.rf c.args.toList
    obtain ⟨xv, yv, e2, h1, h2⟩ := two_of hv evs
    have hts : c.argTypes = #[t, u] := Array.ext' ets
    have hargs : c.args.map a.eval = #[xv, yv] := by rw [← map_list, e2]
    split at ho
    ·rename_i hc
     split at ho
     ·refine step (fun c' e => by rw [hop] at e; cases e) (longer_lit ho) ?_
      have := lands_lit (ty := o.type) hX hat.rel hq h1 h2 hc.1 hc.2 ho
      unfold execOp
      rw [hop]
      simp only [resolve, hcal]
      simp [invoke, hargs, hts]
      exact this
     ·cases d with
      | true =>
       refine step (fun c' e => by rw [hop] at e; cases e) (longer_grow ho) ?_
       have := lands_grow (ty := o.type) hX hat.rel h1 h2 hc.1 hc.2 ho
       unfold execOp
       rw [hop]
       simp only [resolve, hcal]
       simp [invoke, hargs, hts]
       exact this
      | false =>
       refine step (fun c' e => by rw [hop] at e; cases e) (longer_app ho) ?_
       have := lands_append (ty := o.type) hX hat.rel hq h1 h2 hc.1 hc.2 ho
       unfold execOp
       rw [hop]
       simp only [resolve, hcal]
       simp [invoke, hargs, hts]
       exact this
    ·split at ho
     ·rename_i ki k n hui
      refine step (fun c' e => by rw [hop] at e; cases e) (longer_zeros ho) ?_
      have := lands_zeros (ty := o.type) hX hat.rel hq h1 h2 hui ho
      unfold execOp
      rw [hop]
      simp only [resolve, hcal]
      simp [invoke, hargs, hts]
      exact this
     ·cases ho
   ·cases ho
  ·rw [← hop] at ho; exact plain ho
 ·exact plain ho
theorem oneBx_eq {d : Bool} {E : Eng} {all : List Oper} {o : Oper} {s : St} {k : St → Option St} : oneBx X d E L all o s k = (oneBx X d E L all o s some).bind k := by
 unfold oneBx
 cases o.guard with
 | none =>
  simp only [thenK_eq]
  cases opBx X d E (s.h.b.length, s.h.t.length) o.op s.fr s.h <;> rfl
 | some g => simp only; rw [oneOp_eq]; rfl
include hX in
theorem sound_opsG {d : Bool} {E : Eng} (hE : SoundCall P X E) (hR : SoundRound P X E) {ops : Array Oper} {n : Nat} {Q : Exit → Act → World → Prop} (hd : ∀ (i : Nat) (o : Oper), ops[i]? = some o → ∀ t, o.dst = some t → t < N) : ∀ (os : List Oper) (k : Nat) (C : Ctx) (s s' : St) (a : Act) (w : World),
  (∀ j, os[j]? = ops[k + j]?) → At X C base w0 rd F L N s a w → (d = true → ∀ f, C.fl f = true → f = 0) → runBx X d E L ops.toList os s = some s' →
  (∀ C' a' w', C.le base C' → Stab s.h.ends C C' → Longer s.h s'.h → At X C' base w0 rd F L N s' a' w' → Q .normal a' w') → wpOpsIn F n P ops Q (List.range' k os.length) a w
 | [], k, C, s, s', a, w, _, hat, _, ho, hQ => by
  simp only [runBx, Option.some.injEq] at ho; subst ho
  exact hQ C a w (Ctx.le.refl base C) (Stab.refl _ _) (Longer.refl _) hat
 | o :: os, k, C, s, s', a, w, hk, hat, h0, ho, hQ => by
  have ho : oneBx X d E L ops.toList o s (runBx X d E L ops.toList os) = some s' := ho
  rw [oneBx_eq] at ho
  obtain ⟨s1, h1, h2⟩ := Option.bind_eq_some_iff.1 ho
  have hoi : ops[k]? = some o := by have := hk 0; simpa using this.symm
  rw [List.length_cons, List.range'_succ, wpOpsIn_cons]
  have hp : Free C s.h s.h.b.length := hat.rel.free_end
  have hq : FreeT C s.h s.h.t.length := ⟨by cases hh : C.tk s.h.t.length with | false => rfl | true => have := hat.rel.tk _ hh; omega, Nat.le_refl _⟩
  have rest : ∀ C1 a1 w1, C.le base C1 → Stay (s.h.b.length, s.h.t.length) s.h C C1 → Longer s.h s1.h → At X C1 base w0 rd F L N s1 a1 w1 → wpOpsIn F n P ops Q (List.range' (k + 1) os.length) a1 w1 := fun C1 a1 w1 hl1 hs1 hlen1 hat1 => by
   have hst1 : Stab s.h.ends C C1 := ⟨fun i hi => hs1.ok i hi (Nat.ne_of_lt hi), fun i hi => hs1.tk i hi (Nat.ne_of_lt hi)⟩
   refine sound_opsG hE hR hd os (k + 1) C1 s1 s' a1 w1 (fun j => by have := hk (j + 1); simp only [List.getElem?_cons_succ] at this; rw [this]; congr 1; omega) hat1 (fun hd' f hf => h0 hd' f (by rw [← hl1.fl]; exact hf)) h2 fun C' a' w' hl hs hlen hat' => ?_
   exact hQ C' a' w' (hl1.trans hl) (hst1.trans (hs.weak hlen1.1 hlen1.2)) (hlen1.trans hlen) hat'
  unfold oneBx at h1
  cases hg : o.guard with
  | none =>
   rw [hg] at h1
   simp only [thenK_eq] at h1
   obtain ⟨x, h3, h4⟩ := Option.bind_eq_some_iff.1 h1
   obtain ⟨v, h'⟩ := x
   cases h4
   unfold wpOpIn
   obtain ⟨hw, _, _⟩ := (Guarded.plain hg rfl : Guarded L ops.toList o s.fr s.fr true).word hat.rf hat.fi
   simp only [hoi, hw, if_true]
   exact sound_opG hX hE hR hat h0 (hd k o hoi) h3 rest
  | some g =>
   rw [hg] at h1
   exact sound_one hX hE hR hat (fun f hf => hat.rel.fle f hf) hp hq hoi (hd k o hoi) h1 rest
theorem sound_ice {z : Option (Nat × Nat)} {s s' : St} {a : Act} (hat : At X C base w0 rd F L N s a w) (h0 : ∀ f, C.fl f = true → f = 0) (ho : iceSt z s = some s') :
  ∃ C', C.le base C' ∧ Stab s.h.ends C C' ∧ Longer s.h s'.h ∧ At X C' base w0 rd F L N s' a w := by
 have same : s' = s → ∃ C', C.le base C' ∧ Stab s.h.ends C C' ∧ Longer s.h s'.h ∧ At X C' base w0 rd F L N s' a w := fun e => by
  subst e; exact ⟨C, Ctx.le.refl base C, Stab.refl _ _, Longer.refl _, hat⟩
 unfold iceSt at ho
 split at ho
 ·cases ho; exact same rfl
 ·split at ho
  ·rename_i bz _
   split at ho
   ·rename_i c hbz
    split at ho
    ·rename_i v hco
     split at ho
     ·rename_i b off n sz
      split at ho
      ·rename_i d hb
       split at ho
       ·rename_i xs hrows
        split at ho
        ·cases ho
        ·rename_i hne
         cases ho
         obtain ⟨C', h1, h2, h3, h4⟩ := hat.rel.ice hbz hco hb hrows hne h0
         exact ⟨C', h1, ⟨fun i _ => by rw [h2], fun k _ => by rw [h3]⟩, (longer_put _ _ _).trans (longer_put _ _ _), hat.to h1 h4 (hat.rf.mono h1) hat.fi rfl⟩
       ·cases ho
      ·cases ho
     ·cases ho; exact same rfl
    ·cases ho
   ·cases ho
  ·cases ho
include hX in
theorem sound_runR {E : Eng} (hE : SoundCall P X E) (hR : SoundRound P X E) {f id : Nat} {ops : Array Oper} {n : Nat} {Q : Exit → Act → World → Prop} (hd : ∀ (i : Nat) (o : Oper), ops[i]? = some o → ∀ t, o.dst = some t → t < N) {s s' : St} {a : Act}
  (hat : At X C base w0 rd F (X.keep f) N s a w) (hm : isIn deepMark (X.keep f) = true) (ho : runR X E f rd id ops.toList s = some s')
  (hQ : ∀ C' a' w', C.le base C' → Stab s.h.ends C C' → Longer s.h s'.h → At X C' base w0 rd F (X.keep f) N s' a' w' → Q .normal a' w') : wpOpsIn F n P ops Q (List.range' 0 ops.toList.length) a w := by
 unfold runR at ho
 cases rd with
 | some l => exact sound_ops hX hE hR hd ops.toList 0 C s s' a w (fun j => by simp) hat ho hQ
 | none =>
  simp only at ho
  obtain ⟨s1, h1, h2⟩ := Option.bind_eq_some_iff.1 ho
  have h0 := hat.deep hm rfl
  obtain ⟨C1, hl1, hs1, hlen1, hat1⟩ := sound_ice hat h0 h1
  have hQ1 : ∀ C' a' w', C1.le base C' → Stab s1.h.ends C1 C' → Longer s1.h s'.h → At X C' base w0 none F (X.keep f) N s' a' w' → Q .normal a' w' := fun C' a' w' hl hs hlen hat' =>
   hQ C' a' w' (hl1.trans hl) (hs1.trans (hs.weak hlen1.1 hlen1.2)) (hlen1.trans hlen) hat'
  split at h2
  ·exact sound_opsG hX hE hR hd ops.toList 0 C1 s1 s' a w (fun j => by simp) hat1 (fun _ f hf => h0 f (by rw [← hl1.fl]; exact hf)) h2 hQ1
  ·exact sound_ops hX hE hR hd ops.toList 0 C1 s1 s' a w (fun j => by simp) hat1 h2 hQ1
include hX in
theorem sound_runN {E : Eng} (hE : SoundCall P X E) (hR : SoundRound P X E) {f id : Nat} {ops : Array Oper} {n : Nat} {Q : Exit → Act → World → Prop} (hd : ∀ (i : Nat) (o : Oper), ops[i]? = some o → ∀ t, o.dst = some t → t < N) {s s' : St} {a : Act}
  (hat : At X C base w0 rd F (X.keep f) N s a w) (ho : runN X E f id ops.toList s = some s')
  (hQ : ∀ C' a' w', C.le base C' → Stab s.h.ends C C' → Longer s.h s'.h → At X C' base w0 rd F (X.keep f) N s' a' w' → Q .normal a' w') : wpOpsIn F n P ops Q (List.range' 0 ops.toList.length) a w := by
 unfold runN at ho
 split at ho
 ·split at ho
  ·exact sound_opsG hX hE hR hd ops.toList 0 C s s' a w (fun j => by simp) hat (fun h => by cases h) ho hQ
  ·exact sound_ops hX hE hR hd ops.toList 0 C s s' a w (fun j => by simp) hat ho hQ
 ·exact sound_ops hX hE hR hd ops.toList 0 C s s' a w (fun j => by simp) hat ho hQ
end
end
section
open Go.RowKit
def AExit.to : AExit → Exit
 | .normal => .normal
 | .exit id => .exit id
 | .ret => .ret
section
variable {P : Program} {X : Tab} (hX : Fits P X) {base : Nat} {w0 w : World} {rd : Option Nat} {F : Fence} {L : List Nat} {N : Nat} {C : Ctx} {h : Heap}
def CodePost (X : Tab) (C : Ctx) (base : Nat) (w0 : World) (rd : Option Nat) (F : Fence) (L : List Nat) (N : Nat) (h : Heap) (e : AExit) (s' : St) : Exit → Act → World → Prop := fun e' a' w' =>
 e' = e.to ∧ ∃ C', C.le base C' ∧ Stab h.ends C C' ∧ Longer h s'.h ∧ At X C' base w0 rd F L N s' a' w'
def SoundCode (P : Program) (X : Tab) (E : Eng) : Prop :=
 ∀ (f : Nat) (rd : Option Nat) (c : Code) (s : St) (e : AExit) (s' : St) (C : Ctx) (base : Nat) (w0 w : World) (a : Act) (N : Nat) (F : Fence), E.code f rd c s = some (e, s') → At X C base w0 rd F (X.keep f) N s a w → okCode N c = true →
  ∀ n, c.wpIn F n P (CodePost X C base w0 rd F (X.keep f) N s.h e s') a w
theorem getLoop_run {m : Nat} {r : Loop} (hh : w.heap[m]? = some (.loop r)) : (Instr.getLoop m).run P w = .ok r w := by
 have hlt := World.lt_of_heap hh
 have hg : w.heap[m] = .loop r := (Array.getElem?_eq_some_iff.1 hh).2
 simp [Instr.getLoop, getObj, Sem.run, hg, hlt]
theorem setLoop_run {m : Nat} {r r' : Loop} (hh : w.heap[m]? = some (.loop r)) : (setObj m (.loop r')).run P w = .ok () { w with heap := w.heap.setIfInBounds m (.loop r') } := by
 have hlt := World.lt_of_heap hh
 have hg : w.heap[m] = .loop r := (Array.getElem?_eq_some_iff.1 hh).2
 simp [setObj, Sem.run, hg, hlt]
theorem turnBlk_inv {l : Nat} {g : ABlk → Option ABlk} {h' : Heap} (ht : turnBlk h l g = some h') : ∃ x y, h.b[l]? = some x ∧ g x = some y ∧ h' = h.put l y := by
 unfold turnBlk at ht
 split at ht
 ·rename_i x hx
  split at ht
  ·rename_i y hy; cases ht; exact ⟨x, y, hx, hy, rfl⟩
  ·cases ht
 ·cases ht
def stateOf (busy done : Bool) : LoopState := if busy then .busy else if done then .done else .ready
theorem Rel.turn (r : Rel C base h w0 w) {l : Nat} {bz dn bz' dn' : Bool} {p p' : AExit} {f : Nat} {fr : Frm} {ps : List Tmp} {asg body : Code} (hb : h.b[l]? = some (.loop bz p dn f fr ps asg body)) :
  ∃ rc : Loop, w.heap[C.mu l]? = some (.loop rc) ∧ rc.state = stateOf bz dn ∧ rc.pending = p.jump ∧ Rel C base (h.put l (.loop bz' p' dn' f fr ps asg body)) w0 { w with heap := w.heap.setIfInBounds (C.mu l) (.loop { rc with state := stateOf bz' dn', pending := p'.jump }) } := by
 obtain ⟨rc, hh, h1, h2, h3, h4, h5, h6, h7⟩ := r.box l _ hb
 have hlt := World.lt_of_heap hh
 have hu : ∀ f', C.fl f' = true → l < f' → ∀ t, (getF fr t).under f' = true := r.und l _ hb
 refine ⟨rc, hh, h1, h2, r.put hb (by simp) _ (by simp) rfl rfl rfl (fun k hk => by simp [Ne.symm hk]) ⟨{ rc with state := stateOf bz' dn', pending := p'.jump }, by simp [hlt], rfl, rfl, h3, h4, h5, h6, h7⟩ hu⟩
theorem At.heap {s : St} {a : Act} (hat : At X C base w0 rd F L N s a w) {h' : Heap} {w' : World} (r : Rel C base h' w0 w') : At X C base w0 rd F L N ⟨s.fr, h', s.ms⟩ a w' :=
 ⟨hat.kp, r, hat.rf, hat.fi, hat.ms, hat.fence, hat.deep⟩
theorem yieldFr_rf : ∀ (ps : List Tmp) (xs : List AV) (vs : List Value) (fr fr1 : Frm) (tmps : Array Value), yieldFr L fr ps xs = some fr1 → RF C N fr tmps → FI L fr → RvL C xs vs → ps.all (fun t => decide (t < N)) = true →
  ps.length = vs.length ∧ RF C N fr1 ((ps.zip vs).foldl (fun tmps (x : Tmp × Value) => tmps.setIfInBounds x.1 x.2) tmps) ∧ FI L fr1
 | [], xs, vs, fr, fr1, tmps, ho, hf, hi, hv, _ => by
  cases xs with
  | nil =>
   simp only [yieldFr, Option.some.injEq] at ho; subst ho
   have := hv.1
   have e : vs = [] := List.eq_nil_of_length_eq_zero this
   subst e
   exact ⟨rfl, hf, hi⟩
  | cons x xs => simp [yieldFr] at ho
 | t :: ps, xs, vs, fr, fr1, tmps, ho, hf, hi, hv, hps => by
  cases xs with
  | nil => simp [yieldFr] at ho
  | cons x xs =>
   have hl := hv.1
   match vs, hl with
   | v :: vs, _ =>
    simp only [yieldFr, setFK_eq] at ho
    simp only [List.all_cons, Bool.and_eq_true, decide_eq_true_eq] at hps
    have hx : Rv C x v := by simpa using hv.2 0 x rfl
    have h1 := (RF.set (a := { tmps := tmps, defers := [] }) hf hi hps.1 hx)
    obtain ⟨a, b, c⟩ := yieldFr_rf ps xs vs _ fr1 _ ho h1 (hi.set _ _) (by simpa using hv.drop 1) hps.2
    exact ⟨by simp [a], by simpa [Act.put] using b, c⟩
theorem sound_round {E : Eng} (hE : SoundCode P X E) : SoundRound P X E := by
 intro l xs h v h' C base w0 w vs ho hkp hok r hv
 unfold stepRound at ho
 split at ho
 ·rename_i bz p dn f fr ps asg body hb
  obtain ⟨rc, hh, hst, hpend, hrf, hps, hasg, hbody, hfi, hok1, hok2, hpsok⟩ := r.box l _ hb
  split at ho
  ·rename_i fr1 hy
   obtain ⟨hlen, hrf1, hfi1⟩ := yieldFr_rf (C := C) (N := rc.tmps.size) ps xs vs fr fr1 rc.tmps hy ⟨rfl, hrf⟩ (by rw [← hkp]; exact hfi) hv hpsok
   split at ho
   ·rename_i s1 h1
    split at ho
    ·rename_i hp1 hturn1
     split at ho
     ·rename_i e s2 h2
      split at ho
      ·rename_i hp2 hturn2
       cases ho
       have hget := getLoop_run (P := P) hh
       have hpsz : rc.params.size = vs.length := by rw [← hlen, ← hps]; simp
       have hfold : (rc.params.zip vs.toArray).foldl (fun tmps (x : Tmp × Value) => tmps.setIfInBounds x.1 x.2) rc.tmps = (ps.zip vs).foldl (fun tmps (x : Tmp × Value) => tmps.setIfInBounds x.1 x.2) rc.tmps := by
        rw [← Array.foldl_toList, Array.toList_zip, hps]
       refine ⟨rc.fn, (ps.zip vs).foldl (fun tmps (x : Tmp × Value) => tmps.setIfInBounds x.1 x.2) rc.tmps, asg, body, ?_, ?_⟩
       ·have : (Instr.yield (C.mu l) vs.toArray).run P w = .ok (.round (C.mu l) rc.fn ((rc.params.zip vs.toArray).foldl (fun tmps (x : Tmp × Value) => tmps.setIfInBounds x.1 x.2) rc.tmps) rc.assign rc.body) w := by
         simp [Instr.yield, hget, hpsz]
        rw [this, hfold, hasg, hbody]
       ·intro n F hF
        have hfence : F.inRound (C.mu l) = fenceOf C (some l) := by rcases hF with rfl | ⟨m, rfl⟩ <;> rfl
        refine roundIn_of_wpIn (by rcases hF with rfl | ⟨m, rfl⟩ <;> trivial) ?_
        have hat0 : At X C base w0 (some l) (F.inRound (C.mu l)) (X.keep f) rc.tmps.size ⟨fr1, h, []⟩ { tmps := (ps.zip vs).foldl (fun tmps (x : Tmp × Value) => tmps.setIfInBounds x.1 x.2) rc.tmps, defers := [] } w :=
         ⟨hkp, r, hrf1, hfi1, ⟨rfl, fun i hi => by cases hi⟩, ⟨hfence, fun l' e => by cases e; exact hok⟩, fun _ e => by cases e⟩
        refine wpIn_mono (hE f (some l) asg ⟨fr1, h, []⟩ .normal s1 C base w0 w _ _ _ h1 hat0 hok1 n) ?_
        rintro e1 a1 w1 ⟨rfl, C1, hl1, hs1, hlen1, hat1⟩
        obtain ⟨x1, y1, hx1, hy1, rfl⟩ := turnBlk_inv hturn1
        have hmu1 : C1.mu l = C.mu l := (hl1.ok l hok).2
        unfold beginBlk at hy1
        split at hy1
        ·rename_i p1 f1 frr ps1 as1 bd1
         cases hy1
         obtain ⟨rc1, hh1, hst1, hpd1, hr1⟩ := hat1.rel.turn (bz' := true) (dn' := false) (p' := p1) hx1
         have hg1 := getLoop_run (P := P) hh1
         have hset1 := setLoop_run (P := P) (r' := { rc1 with state := .busy }) hh1
         have e2 : ({ rc1 with state := stateOf true false, pending := p1.jump } : Loop) = { rc1 with state := .busy } := by simp [stateOf, hpd1]
         rw [e2] at hr1
         have hready : rc1.state = .ready := hst1
         rw [hmu1] at hg1 hset1 hr1
         refine ⟨_, by simp [Instr.beginRound, hg1, hset1, hready]; rfl, ?_⟩
         refine wpIn_mono (hE f (some l) body _ e s2 C1 base w0 _ _ _ _ h2 (hat1.heap hr1) hok2 n) ?_
         rintro e3 a3 w3 ⟨rfl, C2, hl2, hs2, hlen2, hat2⟩
         obtain ⟨x2, y2, hx2, hy2, rfl⟩ := turnBlk_inv hturn2
         have hmu2 : C2.mu l = C.mu l := (hl2.ok l (hl1.ok l hok).1).2.trans hmu1
         unfold endBlk at hy2
         split at hy2
         ·rename_i bz2 p2 dn2 f2 fr2 ps2 as2 bd2
          have hle := hl1.trans hl2
          have hlenA : Longer h s2.h := hlen1.trans ((longer_put s1.h l _).trans hlen2)
          have hstab : Stab h.ends C C2 := hs1.trans (hs2.weak (by show h.b.length ≤ (s1.h.put l _).b.length; exact Nat.le_trans hlen1.1 (longer_put _ _ _).1) (by show h.t.length ≤ (s1.h.put l _).t.length; exact Nat.le_trans hlen1.2 (longer_put _ _ _).2))
          have fin : ∀ (bz' dn' : Bool) (p' : AExit) (w4 : World) (b : Bool), Rel C2 base (s2.h.put l (.loop bz' p' dn' f2 fr2 ps2 as2 bd2)) w0 w4 → CallPost C base w0 h (.bool b) (s2.h.put l (.loop bz' p' dn' f2 fr2 ps2 as2 bd2)) (.returned (.bool b)) w4 := fun bz' dn' p' w4 b hr =>
           ⟨.bool b, C2, rfl, .bool b, hle, hr, hstab, hlenA.trans (longer_put _ _ _)⟩
          cases e with
          | normal =>
           cases hy2
           obtain ⟨rc2, hh2, _, _, hr2⟩ := hat2.rel.turn (bz' := false) (dn' := false) (p' := .normal) hx2
           have hg2 := getLoop_run (P := P) hh2
           have hset2 := setLoop_run (P := P) (r' := { rc2 with state := .ready, pending := none }) hh2
           rw [hmu2] at hg2 hset2 hr2
           have hrun : (Instr.endRound (C.mu l) (none)).run P w3 = .ok (.bool true) { w3 with heap := w3.heap.setIfInBounds (C.mu l) (.loop { rc2 with state := .ready, pending := none }) } := by simp [Instr.endRound, hg2, hset2]
           exact ⟨_, _, hrun, fin _ _ _ _ _ hr2⟩
          | ret =>
           cases hy2
           obtain ⟨rc2, hh2, _, _, hr2⟩ := hat2.rel.turn (bz' := false) (dn' := true) (p' := .ret) hx2
           have hg2 := getLoop_run (P := P) hh2
           have hset2 := setLoop_run (P := P) (r' := { rc2 with state := .done, pending := some .ret }) hh2
           rw [hmu2] at hg2 hset2 hr2
           have hrun : (Instr.endRound (C.mu l) (some .ret)).run P w3 = .ok (.bool false) { w3 with heap := w3.heap.setIfInBounds (C.mu l) (.loop { rc2 with state := .done, pending := some .ret }) } := by simp [Instr.endRound, hg2, hset2]
           exact ⟨_, _, hrun, fin _ _ _ _ _ hr2⟩
          | exit id =>
           cases hy2
           obtain ⟨rc2, hh2, _, _, hr2⟩ := hat2.rel.turn (bz' := false) (dn' := true) (p' := .exit id) hx2
           have hg2 := getLoop_run (P := P) hh2
           have hset2 := setLoop_run (P := P) (r' := { rc2 with state := .done, pending := some (.exit id) }) hh2
           rw [hmu2] at hg2 hset2 hr2
           have hrun : (Instr.endRound (C.mu l) (some (.exit id))).run P w3 = .ok (.bool false) { w3 with heap := w3.heap.setIfInBounds (C.mu l) (.loop { rc2 with state := .done, pending := some (.exit id) }) } := by simp [Instr.endRound, hg2, hset2]
           exact ⟨_, _, hrun, fin _ _ _ _ _ hr2⟩
         ·cases hy2
        ·cases hy1
      ·cases ho
     ·cases ho
    ·cases ho
   ·cases ho
  ·cases ho
 ·cases ho
end
end
section
open Go.RowKit
def resOf (tmps : Array Value) : ResultVar → Sem Value
 | .tmp t => pure (tmps.getD t undef)
 | .cell a t => do loadVar t (← asAddr (tmps.getD a undef))
theorem results_eq (fn : Func) (tmps : Array Value) : results fn tmps = (do let vs ← fn.results.mapM (resOf tmps); pure (if h : vs.size = 1 then vs[0] else .tuple vs)) := by
 have e : (fun x => match x with
  | ResultVar.tmp t => pure (tmps.getD t undef)
  | ResultVar.cell a t => do loadVar t (← asAddr (tmps.getD a undef)) : ResultVar → Sem Value) = resOf tmps := by
  funext x; cases x <;> rfl
 rw [← e]; rfl
section
variable {P : Program} {X : Tab} (hX : Fits P X) {base : Nat} {w0 w : World} {rd : Option Nat} {F : Fence} {L : List Nat} {N : Nat} {C : Ctx} {h : Heap}
include hX in
theorem run_opLoad (r : Rel C base h w0 w) {t : TypeId} {a : AV} {av : Value} (ha : Rv C a av) {z : AV} {h' : Heap} (ho : opLoad X t a h = some (z, h')) :
  ∃ ad u, av = .pointer (some ad) ∧ (loadVar t ad).run P w = .ok u w ∧ Rv C z u := by
 unfold opLoad at ho
 split at ho
 ·rename_i b off
  split at ho
  ·rename_i c hb
   obtain ⟨hl, rfl⟩ := pair_map ho
   obtain ⟨vs, zs, ty, rfl, hh, hc⟩ := r.place_ref ha hb
   obtain ⟨u, hr, hu⟩ := run_loadVar hX hl (hc.drop off) (by simpa using (cellsAt_box hh).drop off)
   exact ⟨_, u, rfl, hr, hu⟩
  ·cases ho
 ·rename_i c
  obtain ⟨hl, rfl⟩ := pair_map ho
  obtain ⟨blk, off, vs, rfl, hc, hm, _⟩ := eptr_list r ha
  obtain ⟨u, hr, hu⟩ := run_loadVar hX hl hc hm
  exact ⟨_, u, rfl, hr, hu⟩
 ·cases ho
include hX in
theorem run_results1 (r : Rel C base h w0 w) {fr : Frm} {tmps : Array Value} (hf : ∀ t, Rv C (getF fr t) (tmps.getD t undef)) : ∀ (rs : List ResultVar) (vs : List AV), resAV X fr h rs = some vs →
  ∃ us, (rs.mapM (resOf tmps)).run P w = .ok us w ∧ RvL C vs us
 | [], vs, ho => by
  simp only [resAV, Option.some.injEq] at ho; subst ho
  exact ⟨[], by simp, rfl, fun i x hx => by simp at hx⟩
 | .tmp t :: rs, vs, ho => by
  simp only [resAV] at ho
  obtain ⟨ws, hw, rfl⟩ := some_map ho
  obtain ⟨us, h1, h2⟩ := run_results1 r hf rs ws hw
  refine ⟨tmps.getD t undef :: us, by simp only [List.mapM_cons, resOf, Sem.run_bind, Sem.run_pure, Result.andThen_ok]; rw [h1]; rfl, by simp [h2.1], fun i x hx => ?_⟩
  cases i with
  | zero => simp at hx; subst hx; simpa using hf t
  | succ i => simpa using h2.2 i x (by simpa using hx)
 | .cell a t :: rs, vs, ho => by
  simp only [resAV] at ho
  split at ho
  ·rename_i v h1 ws hl hw
   simp only [Option.some.injEq] at ho; subst ho
   obtain ⟨us, h2, h3⟩ := run_results1 r hf rs ws hw
   obtain ⟨ad, u, e, h4, h5⟩ := run_opLoad hX r (hf a) hl
   have ha : (asAddr (tmps.getD a undef)).run P w = .ok ad w := by rw [e]; rfl
   refine ⟨u :: us, by simp only [List.mapM_cons, resOf, Sem.run_bind, Sem.run_pure, Result.andThen_ok, ha, h4]; rw [h2]; rfl, by simp [h3.1], fun i x hx => ?_⟩
   cases i with
   | zero => simp at hx; subst hx; simpa using h5
   | succ i => simpa using h3.2 i x (by simpa using hx)
  ·cases ho
include hX in
theorem run_results (r : Rel C base h w0 w) {fr : Frm} {tmps : Array Value} (hf : ∀ t, Rv C (getF fr t) (tmps.getD t undef)) {fn : Func} {vs : List AV} (ho : resAV X fr h fn.results.toList = some vs) :
  ∃ u, (results fn tmps).run P w = .ok u w ∧ Rv C (resOne vs) u := by
 obtain ⟨us, h1, h2⟩ := run_results1 hX r hf _ _ ho
 have key : ∀ (f : ResultVar → Sem Value), (fn.results.toList.mapM f).run P w = .ok us w → (fn.results.mapM f).run P w = .ok us.toArray w := fun f hf => by
  rw [Array.mapM_eq_mapM_toList]; simp [hf]
 refine ⟨if h : us.toArray.size = 1 then us.toArray[0] else .tuple us.toArray, ?_, ?_⟩
 ·rw [results_eq]
  simp only [Sem.run_bind, key _ h1, Result.andThen_ok, Sem.run_pure]
 ·have hl := h2.1
  match vs, us, hl with
  | [v], [u], _ => simpa [resOne] using h2.2 0 v rfl
  | [], [], _ => simpa [resOne] using Rv.tup (C := C) [] [] rfl (fun i x hx => by simp at hx)
  | v1 :: v2 :: vs, u1 :: u2 :: us, hl => simpa [resOne] using Rv.tup (C := C) _ _ h2.1 h2.2
theorem take_run {m : Nat} (hh : w.heap[m]? = some (.deferred (some []))) : (Instr.takeDeferred m).run P w = .ok [] { w with heap := w.heap.setIfInBounds m (.deferred none) } := by
 have hlt := World.lt_of_heap hh
 have hg : w.heap[m] = .deferred (some []) := (Array.getElem?_eq_some_iff.1 hh).2
 simp [Instr.takeDeferred, getObj, setObj, Sem.run, hg, hlt]
theorem unmark_longer : ∀ (ms : List Nat) (h h' : Heap), unmark h ms = some h' → h'.b.length = h.b.length ∧ h'.t = h.t
 | [], h, h', ho => by simp only [unmark, Option.some.injEq] at ho; subst ho; exact ⟨rfl, rfl⟩
 | i :: ms, h, h', ho => by
  simp only [unmark] at ho
  split at ho
  ·obtain ⟨a, b⟩ := unmark_longer ms _ _ ho
   exact ⟨by rw [a]; simp [Heap.put], b⟩
  ·cases ho
theorem leaves_marks {n : Nat} {fn : Func} {tmps : Array Value} {R : Ending → World → Prop} : ∀ (ms : List Nat) (h h' : Heap) (w : World), unmark h ms = some h' → Rel C base h w0 w →
  (∀ w', Rel C base h' w0 w' → ∃ v, (results fn tmps).run P w' = .ok v w' ∧ R (.returned v) w') → LeavesInM Fence.wide n P fn tmps R (ms.map (markOf C)) .returning w
 | [], h, h', w, ho, r, hR => by
  simp only [unmark, Option.some.injEq] at ho; subst ho
  exact hR w r
 | i :: ms, h, h', w, ho, r, hR => by
  simp only [unmark] at ho
  split at ho
  ·rename_i hi
   have hh : w.heap[C.mu i]? = some (.deferred (some [])) := r.box i _ hi
   have hlt := World.lt_of_heap hh
   refine ⟨by simp, .inl ⟨C.mu i, _, rfl, take_run hh, ?_⟩⟩
   exact leaves_marks ms _ h' _ ho (r.put hi (by simp) .none (by simp) rfl rfl rfl (fun k hk => by simp [Ne.symm hk]) trivial (fun _ _ _ => trivial)) hR
  ·cases ho
theorem zipFrom_get {L : List Nat} : ∀ (xs : List AV) (k t : Nat) (d : AV), agetOr (zipFrom L k xs) t d = d ∨ (isIn t L = true ∧ k ≤ t ∧ ∃ x, xs[t - k]? = some x ∧ agetOr (zipFrom L k xs) t d = x)
 | [], k, t, d => .inl rfl
 | x :: xs, k, t, d => by
  have ih := zipFrom_get (L := L) xs (k + 1) t d
  have next : (agetOr (zipFrom L (k + 1) xs) t d = d ∨ (isIn t L = true ∧ k ≤ t ∧ ∃ y, (x :: xs)[t - k]? = some y ∧ agetOr (zipFrom L (k + 1) xs) t d = y)) := by
   rcases ih with h | ⟨h1, h2, y, h3, h4⟩
   ·exact .inl h
   ·refine .inr ⟨h1, by omega, y, ?_, h4⟩
    have : t - k = (t - (k + 1)) + 1 := by omega
    rw [this, List.getElem?_cons_succ]; exact h3
  simp only [zipFrom]
  split
  ·rename_i hin
   rw [agetOr_cons]
   split
   ·rename_i e
    simp only at e
    subst e
    exact .inr ⟨hin, Nat.le_refl _, x, by simp, rfl⟩
   ·exact next
  ·exact next
theorem okCode_mono {n m : Nat} (hnm : n ≤ m) : ∀ (c : Code), okCode n c = true → okCode m c = true := by
 intro c
 induction c with
 | seq a b ih1 ih2 => simp only [okCode, Bool.and_eq_true]; exact fun h => ⟨ih1 h.1, ih2 h.2⟩
 | cond x a b ih1 ih2 => simp only [okCode, Bool.and_eq_true]; exact fun h => ⟨ih1 h.1, ih2 h.2⟩
 | block i b ih => simp only [okCode]; exact ih
 | loop b ih => simp only [okCode]; exact ih
 | scope b ih => simp only [okCode]; exact ih
 | rangeFunc g ps a b ih1 ih2 =>
  simp only [okCode, Bool.and_eq_true, List.all_eq_true, decide_eq_true_eq]
  exact fun h => ⟨⟨fun t ht => Nat.lt_of_lt_of_le (h.1.1 t ht) hnm, ih1 h.1.2⟩, ih2 h.2⟩
 | region i ops d =>
  simp only [okCode, Bool.and_eq_true]
  refine fun h => ⟨?_, h.2⟩
  have h1 := h.1
  unfold okOps at h1 ⊢
  rw [List.all_eq_true] at h1 ⊢
  intro o ho
  have := h1 o ho
  cases hd : o.dst with
  | none => rfl
  | some d =>
   rw [hd] at this
   have h2 : d < n := by simpa using this
   exact decide_eq_true (Nat.lt_of_lt_of_le h2 hnm)
 | _ => exact fun _ => rfl
theorem stepCall_inv {E : Eng} {g : Nat} {args : List AV} {h : Heap} {v : AV} {h' : Heap} (ho : stepCall X E g args h = some (v, h')) :
  ∃ fn c e s h2 vs, X.fn.get g = some fn ∧ fn.body = some c ∧ E.code g none c ⟨⟨zipFrom (X.keep g) 0 args, []⟩, h, []⟩ = some (e, s) ∧ (e = .normal ∨ e = .ret) ∧ unmark s.h s.ms = some h2 ∧ resAV X s.fr h2 fn.results.toList = some vs ∧ leave h.b.length (resOne vs) h2 = (v, h') ∧ (isIn deepMark (X.keep g) = true → h.b = []) := by
 unfold stepCall at ho
 split at ho
 ·cases ho
 ·rename_i fn hfn
  split at ho
  ·cases ho
  ·rename_i c hb
   split at ho
   ·cases ho
   rename_i hdm
   have hdm : isIn deepMark (X.keep g) = true → h.b = [] := fun e => by
    rw [e] at hdm
    cases hh : h.b with
    | nil => rfl
    | cons x xs => rw [hh] at hdm; simp at hdm
   split at ho
   ·rename_i e s hc
    have rest : ∀ (he : e = .normal ∨ e = .ret), (match unmark s.h s.ms with
      | some h' => match resAV X s.fr h' fn.results.toList with
       | some vs => some (leave h.b.length (resOne vs) h')
       | none => none
      | none => none) = some (v, h') → ∃ fn c e s h2 vs, X.fn.get g = some fn ∧ fn.body = some c ∧ E.code g none c ⟨⟨zipFrom (X.keep g) 0 args, []⟩, h, []⟩ = some (e, s) ∧ (e = .normal ∨ e = .ret) ∧ unmark s.h s.ms = some h2 ∧ resAV X s.fr h2 fn.results.toList = some vs ∧ leave h.b.length (resOne vs) h2 = (v, h') ∧ (isIn deepMark (X.keep g) = true → h.b = []) := fun he ho => by
     split at ho
     ·rename_i h2 hu
      split at ho
      ·rename_i vs hr
       simp only [Option.some.injEq] at ho
       exact ⟨fn, c, e, s, h2, vs, hfn, hb, hc, he, hu, hr, ho, hdm⟩
      ·cases ho
     ·cases ho
    cases e with
    | exit id => cases ho
    | normal => exact rest (.inl rfl) ho
    | ret => exact rest (.inr rfl) ho
   ·cases ho
include hX in
theorem sound_call {E : Eng} (hE : SoundCode P X E) : SoundCall P X ⟨stepCode X E, stepCall X E⟩ := by
 intro g args h v h' C base w0 w us ho hkp r hv
 obtain ⟨fn, c, e, s, h2, vs, hfn, hb, hc, he, hu, hr, hl, hdm⟩ := stepCall_inv (E := E) ho
 have hfn' : P.funcs[g]? = some fn := by rw [← hX.fn]; exact hfn
 refine ⟨⟨fn, c, hfn', hb⟩, fun n => callsIn_of_wp_marks hfn' hb trivial ?_⟩
 obtain ⟨N, hN⟩ : ∃ N, N = (us.toArray ++ Array.replicate (fn.ntmps - us.toArray.size) undef).size := ⟨_, rfl⟩
 have hNn : fn.ntmps ≤ N := by rw [hN]; simp; omega
 have hok : okCode N c = true := okCode_mono hNn c (hX.wf g fn c hfn' hb)
 -- the call's own blocks begin here
 have hg : ∀ f, (fun f => C.fl f || f == h.b.length) f = true → C.fl f = true ∨ f = h.b.length := fun f hf => by simpa using hf
 have r0 := r
 have hv0 := hv
 have hC1 : ∃ C1, C1 = C.flr (fun f => C.fl f || f == h.b.length) := ⟨_, rfl⟩
 obtain ⟨C1, hC1⟩ := hC1
 have r : Rel C1 base h w0 w := by
  rw [hC1]
  refine r0.flr _ (fun i x hx f hf hlt => ?_) (fun f hf => ?_)
  ·rcases hg f hf with hf | rfl
   ·exact r0.und i x hx f hf hlt
   ·exact r0.under_all hx
  ·rcases hg f hf with hf | rfl
   ·exact r0.fle f hf
   ·exact Nat.le_refl _
 have hv : RvL C1 args us := by rw [hC1]; exact hv0.flr _
 have hkp1 : C1.kp = X.keep := by rw [hC1]; exact hkp
 have hat : At X C1 base w0 none Fence.wide (X.keep g) N ⟨⟨zipFrom (X.keep g) 0 args, []⟩, h, []⟩ { tmps := us.toArray ++ Array.replicate (fn.ntmps - us.toArray.size) undef, defers := [] } w := by
  refine ⟨hkp1, r, ⟨hN.symm, fun t => ?_⟩, ⟨fun _ _ _ => rfl, fun t ht d => ?_⟩, ⟨rfl, fun i hi => by cases hi⟩, ⟨rfl, fun l e => by cases e⟩, fun hm _ f hf => ?_⟩
  ·show Rv C1 (agetOr (zipFrom (X.keep g) 0 args) t .junk) _
   rcases zipFrom_get (L := X.keep g) args 0 t .junk with e | ⟨_, _, x, hx, e⟩
   ·rw [e]; exact .junk _
   ·rw [e]
    rw [Nat.sub_zero] at hx
    obtain ⟨u, hu, hrv⟩ := hv.get hx
    have hlt : t < us.length := (List.getElem?_eq_some_iff.1 hu).1
    have : (us.toArray ++ Array.replicate (fn.ntmps - us.toArray.size) undef).getD t undef = u := by
     rw [Array.getD_eq_getD_getElem?, Array.getElem?_append_left (by simpa using hlt)]
     simp [hu]
    rw [this]; exact hrv
  ·rcases zipFrom_get (L := X.keep g) args 0 t d with e | ⟨h1, _⟩
   ·exact e
   ·rw [h1] at ht; cases ht
  ·have hb0 := hdm hm
   rw [hC1] at hf
   rcases hg f hf with hf | rfl
   ·have := r0.fle f hf; rw [hb0] at this; exact Nat.le_zero.1 this
   ·rw [hb0]; rfl
 refine wpIn_mono (hE g none c _ e s C1 base w0 w _ N _ hc hat hok n) ?_
 rintro e' a' w' ⟨rfl, C', hl', hs', hlen', hat'⟩
 have post : LeavesInM Fence.wide n P fn a'.tmps (CallPost C base w0 h v h') a'.defers .returning w' := by
  rw [hat'.ms.1]
  refine leaves_marks s.ms s.h h2 w' hu hat'.rel fun w'' r'' => ?_
  obtain ⟨u, hrun, hrv⟩ := run_results hX r'' hat'.rf.2 hr
  refine ⟨u, hrun, ?_⟩
  obtain ⟨hul, hut⟩ := unmark_longer s.ms s.h h2 hu
  have hlenA : Longer h h2 := ⟨by rw [hul]; exact hlen'.1, by rw [hut]; exact hlen'.2⟩
  have hfl : C'.fl = fun f => C.fl f || f == h.b.length := by rw [hl'.fl, hC1]; rfl
  have hfn : C'.fl h.b.length = true := by rw [hfl]; simp
  have hfm : ∀ f, C'.fl f = true → f ≤ h.b.length := fun f hf => by
   rw [hfl] at hf
   rcases hg f hf with hf | rfl
   ·exact r0.fle f hf
   ·exact Nat.le_refl _
  have hsub : ∀ f, C.fl f = true → C'.fl f = true := fun f hf => by rw [hfl]; simp [hf]
  have hle : C.le base (C'.flr C.fl) := by
   refine ⟨fun i hi => ?_, fun k hk => ?_, fun b o v hk => ?_, fun b o hb => ?_, ?_, rfl, ?_⟩
   ·have := hl'.ok i (by rw [hC1]; exact hi); rw [hC1] at this; exact this
   ·have := hl'.tk k (by rw [hC1]; exact hk); rw [hC1] at this; exact this
   ·exact hl'.K b o v (by rw [hC1]; exact hk)
   ·have := hl'.Kb b o hb; rw [hC1] at this; exact this
   ·have := hl'.kp; rw [hC1] at this; exact this
   ·have := hl'.bs; rw [hC1] at this; exact this
  have hs0 : Stab h.ends C C' := ⟨fun i hi => by have := hs'.ok i hi; rw [hC1] at this; exact this, fun k hk => by have := hs'.tk k hk; rw [hC1] at this; exact this⟩
  unfold leave at hl
  split at hl
  ·rename_i hund
   cases hl
   have rc := r''.cut h.b.length hfn hfm
   refine ⟨u, (C'.cut h.b.length).flr C.fl, rfl, (hrv.cut hund).flr _, ?_, rc.flr _ (fun i x hx f hf hlt => rc.und i x hx f (hsub f hf) hlt) (fun f hf => rc.fle f (hsub f hf)), ⟨fun i hi => ?_, fun k hk => hs0.tk k hk⟩, ⟨by simp only [List.length_take]; have := hlenA.1; omega, hlenA.2⟩⟩
   ·refine ⟨fun i hi => ?_, fun k hk => hle.tk k hk, hle.K, hle.Kb, hle.kp, rfl, hle.bs⟩
    obtain ⟨a, b⟩ := hle.ok i hi
    have a : C'.ok i = true := a
    exact ⟨by simp [Ctx.flr, Ctx.cut, a, r0.ok i hi], b⟩
   ·have hi' : i < h.b.length := hi
    have := hs0.ok i hi
    simp [Ctx.flr, Ctx.cut, this, hi']
  ·cases hl
   exact ⟨u, C'.flr C.fl, rfl, hrv.flr _, hle, r''.flr _ (fun i x hx f hf hlt => r''.und i x hx f (hsub f hf) hlt) (fun f hf => r''.fle f (hsub f hf)), ⟨fun i hi => hs0.ok i hi, fun k hk => hs0.tk k hk⟩, hlenA⟩
 rcases he with rfl | rfl
 ·exact post
 ·exact post
end
end
section
open Go.RowKit
section
variable {P : Program} {w : World}
theorem run_next_mit {m mb n : Nat} {seen : Array Nat} {rs : List MapEntry} (hit : w.heap[m]? = some (.mapIter (some mb) n seen n)) (hmap : w.heap[mb]? = some (.map rs.toArray n)) (hlen : rs.length = n)
  (hborn : ∀ (i : Nat) (e : MapEntry), rs[i]? = some e → e.born = i) (ty : TypeId) :
  ((∀ i, i < n → i ∈ seen) ∧ (Instr.next (.pointer (some ⟨m, 0, none⟩)) false ty).run P w = .ok (.tuple #[.bool false]) w) ∨
  ∃ (i : Nat) (e : MapEntry) (w1 : World), i < n ∧ i ∉ seen ∧ rs[i]? = some e ∧ (w1 = w ∨ w1 = w.drew) ∧
   (Instr.next (.pointer (some ⟨m, 0, none⟩)) false ty).run P w = .ok (.tuple #[.bool true, e.key, e.val]) { w1 with heap := w1.heap.setIfInBounds m (.mapIter (some mb) n (seen.push i) n) } := by
 have hlt := World.lt_of_heap hit
 have hg : w.heap[m] = .mapIter (some mb) n seen n := (Array.getElem?_eq_some_iff.1 hit).2
 have hmlt := World.lt_of_heap hmap
 have hmg : w.heap[mb] = .map rs.toArray n := (Array.getElem?_eq_some_iff.1 hmap).2
 have hb : ∀ e ∈ rs, e.born < n := fun e he => by
  obtain ⟨i, hi⟩ := List.mem_iff_getElem?.1 he
  rw [hborn i e hi, ← hlen]; exact (List.getElem?_eq_some_iff.1 hi).1
 have htest : (!seen.isEmpty && !rs.toArray.isEmpty && rs.toArray.all (fun x => decide (x.born ≥ n))) = false := by
  cases hr : rs with
  | nil => simp
  | cons e r =>
   have he := hb e (by rw [hr]; simp)
   have : decide (e.born ≥ n) = false := decide_eq_false (by omega)
   simp [this]
 have h0 : (Instr.next (.pointer (some ⟨m, 0, none⟩)) false ty).run P w = ((do
   let left := rs.toArray.filter fun e => !seen.contains e.born
   let old := left.filter (·.born < n)
   let new := left.filter (·.born ≥ n)
   let candidates := (if old.isEmpty then #[none] else #[]) ++ (old ++ new).map some
   match candidates[← choose (.mapNext candidates.size)]? with
   | some (some e) =>
    setObj m (.mapIter (some mb) n (seen.push e.born) n)
    pure (.tuple #[.bool true, e.key, e.val])
   | some none => pure (.tuple #[.bool false])
   | none => stuck "Next: no such candidate" : Sem Value)).run P w := by
  simp only [Instr.next, getObj, Sem.run_bind, Sem.run, hit, hmap, Result.andThen, htest, Bool.false_eq_true, if_false]
  rfl
 rw [h0]
 generalize hL : (rs.toArray.filter fun e => !seen.contains e.born) = L
 have hmem : ∀ x ∈ L.toList, x ∈ rs ∧ x.born ∉ seen := fun x hx => by
  rw [← hL] at hx; simpa using hx
 have e1 : L.filter (fun x => decide (x.born < n)) = L := Array.filter_eq_self.2 (fun x hx => by simpa using hb x (hmem x (by simpa using hx)).1)
 have e2 : L.filter (fun x => decide (x.born ≥ n)) = #[] := by
  rw [Array.filter_eq_empty_iff]
  intro x hx
  have := hb x (hmem x (by simpa using hx)).1
  simp; omega
 simp only [e1, e2, Array.append_empty]
 by_cases hz : L.size = 0
 ·left
  have hLe : L = #[] := Array.eq_empty_of_size_eq_zero hz
  refine ⟨fun i hi => ?_, ?_⟩
  ·have hir : i < rs.length := by omega
   refine Classical.byContradiction fun hn => ?_
   have : rs[i] ∈ L.toList := by
    rw [← hL]
    have := hborn i _ (List.getElem?_eq_getElem hir)
    simp [this, hn]
   rw [hLe] at this
   simp at this
  ·subst hLe
   simp [choose, Sem.run, Question.forced]
 ·right
  have hne : L.isEmpty = false := by simp [Array.isEmpty, hz]
  simp only [hne, Bool.false_eq_true, if_false, Array.empty_append, Array.size_map]
  have hch : ∃ (j : Nat) (w1 : World), j < L.size ∧ (w1 = w ∨ w1 = w.drew) ∧ (choose (Question.mapNext L.size)).run P w = .ok j w1 := by
   by_cases hf : L.size ≤ 1
   ·exact ⟨0, w, by omega, .inl rfl, by simp [choose, Sem.run, Question.forced, hf]⟩
   ·exact ⟨_, w.drew, Nat.mod_lt _ (by omega), .inr rfl, by
     simp only [choose, Sem.run, Question.forced, decide_eq_true_eq, hf, if_false, Question.cut]
     rfl⟩
  obtain ⟨j, w1, hj, hw1, hrun⟩ := hch
  obtain ⟨hin, hns⟩ := hmem L[j] (by simp)
  obtain ⟨i, hi⟩ := List.mem_iff_getElem?.1 hin
  have hbi := hborn i _ hi
  refine ⟨i, L[j], w1, by rw [← hlen]; exact (List.getElem?_eq_some_iff.1 hi).1, by rw [← hbi]; exact hns, hi, hw1, ?_⟩
  have hheap : w1.heap = w.heap := by rcases hw1 with rfl | rfl <;> rfl
  have hset : ∀ o', (setObj m o').run P w1 = .ok () { w1 with heap := w1.heap.setIfInBounds m o' } := fun o' => by
   have hg1 : w1.heap[m]? = some (.mapIter (some mb) n seen n) := by rw [hheap]; exact hit
   simp only [setObj, Sem.run, hg1]
  simp only [Sem.run_bind, hrun, Result.andThen, Array.getElem?_map, Array.getElem?_eq_getElem hj, Option.map_some, hset, hbi]
  rfl
end
end
section
open Go.RowKit
section
variable {P : Program} {X : Tab} (hX : Fits P X) {base : Nat} {w0 w : World} {rd : Option Nat} {F : Fence} {L : List Nat} {N : Nat} {C : Ctx} {h : Heap}
def LoopIn (F : Fence) (n : Nat) (P : Program) (c : Code) (Q : Exit → Act → World → Prop) (a : Act) (w : World) : Prop :=
 ∀ (b : Frame) (k : List Item) (cs : List Frame), b.roundOf = F.round → F.fn b.fn → F.room (cs.length + 1 + n) →
  ∃ e a' w', Q e a' w' ∧ ArrivesIn (Machine.fenced P F) P (lone (b.atR a (.code c :: .inLoop c :: k)) cs w) b k cs e a' w'
theorem LoopIn.wpIn {n : Nat} {c : Code} {Q : Exit → Act → World → Prop} {a : Act} {w : World} (h : LoopIn F n P c Q a w) : (Code.loop c).wpIn F n P Q a w := by
 intro b k cs hro hb hr
 obtain ⟨e, a', w', hq, harr⟩ := h b k cs hro hb hr
 exact ⟨e, a', w', hq, .of_steps (.one (fenced_calm hb hr rfl) stepR_loop) harr⟩
theorem LoopIn.of {n : Nat} {c : Code} {Q : Exit → Act → World → Prop} {a : Act} {w : World} (h : c.wpIn F n P (Exit.then (LoopIn F n P c Q) Q) a w) : LoopIn F n P c Q a w := by
 intro b k cs hro hb hr
 obtain ⟨e, a₁, w₁, hq, harr⟩ := h b (.inLoop c :: k) cs hro hb hr
 cases e with
 | normal =>
  obtain ⟨e₂, a₂, w₂, hq₂, harr₂⟩ := hq b k cs hro hb hr
  exact ⟨e₂, a₂, w₂, hq₂, .of_steps (StepsIn.trans harr (.one (fenced_calm hb hr rfl) stepR_inLoop)) harr₂⟩
 | exit id => exact ⟨_, a₁, w₁, hq, .pass (x := .inLoop c) rfl (fun _ _ => .inl (by simp)) harr⟩
 | goto l => exact ⟨_, a₁, w₁, hq, .pass (x := .inLoop c) rfl (fun _ _ => .inl (by simp)) harr⟩
 | ret => exact ⟨_, a₁, w₁, hq, .pass (x := .inLoop c) rfl (fun _ _ => .inl (by simp)) harr⟩
 | panic ch => exact ⟨_, a₁, w₁, hq, .pass (x := .inLoop c) rfl (fun _ _ => .inl (by simp)) harr⟩
 | outgrown => exact ⟨_, a₁, w₁, hq, .pass (x := .inLoop c) rfl (fun _ _ => .inl (by simp)) harr⟩
theorem stepR_scope {b : Frame} {a : Act} {k : List Item} {cs : List Frame} {w : World} {c : Code} : step P (lone (b.atR a (.code (.scope c) :: k)) cs w) = .next (lone (b.atR a (.code c :: .inScope c :: k)) cs w) :=
 step_lone_go (by simp [stepG, stepG.exec, Frame.atR])
theorem stepR_inScope {b : Frame} {a : Act} {k : List Item} {cs : List Frame} {w : World} {c : Code} : step P (lone (b.atR a (.inScope c :: k)) cs w) = .next (lone (b.atR a k) cs w) :=
 step_lone_go (by simp [stepG, stepG.exec, Frame.atR])
theorem wpIn_scope {n : Nat} {c : Code} {Q : Exit → Act → World → Prop} {a : Act} {w : World} (h : c.wpIn F n P Q a w) (hg : ∀ l a w, ¬ Q (.goto l) a w) : (Code.scope c).wpIn F n P Q a w := by
 intro b k cs hro hb hr
 have h0 : (lone (b.atR a (.code (.scope c) :: k)) cs w).fenced P F := fenced_calm hb hr rfl
 obtain ⟨e, a₁, w₁, hq, harr⟩ := h b (.inScope c :: k) cs hro hb hr
 cases e with
 | normal => exact ⟨.normal, a₁, w₁, hq, .head h0 stepR_scope (StepsIn.trans harr (.one (fenced_calm hb hr rfl) stepR_inScope))⟩
 | exit id =>
  have hx : exitTo id (.inScope c :: k) = exitTo id k := by simp [exitTo]
  exact ⟨.exit id, a₁, w₁, hq, fun k' hk => .head h0 stepR_scope (harr.1 k' (by rw [hx]; exact hk)),
   fun hr' hk => let ⟨k₁, h1, h2⟩ := harr.2 hr' (by rw [hx]; exact hk); ⟨k₁, h1, .head h0 stepR_scope h2⟩⟩
 | goto l => exact absurd hq (hg l a₁ w₁)
 | ret => exact ⟨_, a₁, w₁, hq, .of_steps (.one h0 stepR_scope) harr⟩
 | panic ch => exact ⟨_, a₁, w₁, hq, .of_steps (.one h0 stepR_scope) harr⟩
 | outgrown => exact ⟨_, a₁, w₁, hq, .of_steps (.one h0 stepR_scope) harr⟩
def SoundLoop (P : Program) (X : Tab) (E : Eng) : Prop :=
 ∀ (f : Nat) (rd : Option Nat) (c : Code) (s : St) (e : AExit) (s' : St) (C : Ctx) (base : Nat) (w0 w : World) (a : Act) (N : Nat) (F : Fence), E.code f rd (.loop c) s = some (e, s') → At X C base w0 rd F (X.keep f) N s a w → okCode N c = true →
  ∀ n, LoopIn F n P c (CodePost X C base w0 rd F (X.keep f) N s.h e s') a w
def SoundDraw (P : Program) (X : Tab) (E : Eng) : Prop :=
 ∀ (f : Nat) (id : Nat) (ops : Array Oper) (rd : Option Nat) (s : St) (s' : St) (C : Ctx) (base : Nat) (w0 w : World) (a : Act) (N : Nat) (F : Fence),
  (conflicts (Region.before ops).toList ops.toList).all (refsApart s.fr) = true →
  (runDraw X E (X.keep f) (Region.before ops).toList ops.toList (s.h.b.length, s.h.t.length) false ops.toList 0 ⟨s.fr, ⟨s.h.b ++ List.replicate ops.size .none, s.h.t ++ List.replicate ops.size false⟩, s.ms⟩ = some s' ∨
   (hushed ops.toList = true ∧ runDraw X E (X.keep f) (Region.before ops).toList ops.toList (s.h.b.length, s.h.t.length) true ops.toList 0 s = some s')) →
  At X C base w0 rd F (X.keep f) N s a w → okOps N ops.toList = true → drawOk ops = true →
  ∀ n, (Code.region id ops true).wpIn F n P (CodePost X C base w0 rd F (X.keep f) N s.h .normal ⟨⟨s'.fr.g, []⟩, s'.h, s'.ms⟩) a w
def SoundFam (P : Program) (X : Tab) (E : Eng) : Prop :=
 ∀ (f : Nat) (id : Nat) (ops : Array Oper) (rd : Option Nat) (s : St) (d : St) (C : Ctx) (base : Nat) (w0 w : World) (a : Act) (N : Nat) (F : Fence) (Fa : List (List (Nat × Bool))),
  okFam (Region.before ops).toList ops.toList Fa = true →
  runFam X E (X.keep f) ops.toList (s.h.b.length, s.h.t.length) ⟨s.fr, ⟨s.h.b ++ List.replicate ops.size .none, s.h.t ++ List.replicate ops.size false⟩, s.ms⟩ Fa = some d →
  At X C base w0 rd F (X.keep f) N s a w → okOps N ops.toList = true → drawTxt ops = true →
  ∀ n, (Code.region id ops true).wpIn F n P (CodePost X C base w0 rd F (X.keep f) N s.h .normal d) a w
theorem CodePost.trans {h1 : Heap} {e : AExit} {s' : St} {C1 : Ctx} (hl : C.le base C1) (hs : Stab h.ends C C1) (hlen : Longer h h1) {e' : Exit} {a' : Act} {w' : World}
  (hp : CodePost X C1 base w0 rd F L N h1 e s' e' a' w') : CodePost X C base w0 rd F L N h e s' e' a' w' := by
 obtain ⟨he, C', h1, h2, h3, h4⟩ := hp
 exact ⟨he, C', hl.trans h1, hs.trans (h2.weak hlen.1 hlen.2), hlen.trans h3, h4⟩
theorem okOps_get {ops : Array Oper} (h : okOps N ops.toList = true) : ∀ (i : Nat) (o : Oper), ops[i]? = some o → ∀ t, o.dst = some t → t < N := fun i o ho t ht => by
 have := List.all_eq_true.1 h o (by have := Array.mem_of_getElem? ho; simpa using this)
 rw [ht] at this
 simpa using this
theorem At.drop {s : St} {a : Act} (hat : At X C base w0 rd F L N s a w) : At X C base w0 rd F L N ⟨⟨s.fr.g, []⟩, s.h, s.ms⟩ a w :=
 ⟨hat.kp, hat.rel, hat.rf.drop hat.fi, hat.fi.drop, hat.ms, hat.fence, hat.deep⟩
theorem hput_end (h : Heap) (x : ABlk) : hput h h.b.length x = ⟨h.b ++ [x], h.t⟩ := by simp [hput, lset]
include hX in
theorem sound_range {E : Eng} (hCall : SoundCall P X E) {f : Nat} {gop : Operand} {ps : Array Tmp} {asg body : Code} {s : St} {a : Act} (hat : At X C base w0 rd F (X.keep f) N s a w) {h1 : Heap} {mss : List Nat} {e : AExit} {s' : St}
  (ho : enterRange E f (evo s.fr gop) ps.toList asg body s.fr h1 mss = some (e, s')) {C1 : Ctx} {w1 : World} {mk : List Deferred} (hl1 : C.le base C1) (hs1 : Stab s.h.ends C C1) (hlen1 : Longer s.h h1)
  (hat1 : At X C1 base w0 rd F (X.keep f) N ⟨s.fr, h1, mss⟩ { a with defers := mk ++ a.defers } w1)
  (henter : ∀ fn, ∃ df, (Instr.enterLoop fn a.tmps ps asg body F.round).run P w = .ok (w1.heap.size, mk) (w1.alloc (.loop { state := .ready, pending := none, fn, tmps := a.tmps, params := ps, assign := asg, body, defers := df })))
  (hps : ps.toList.all (fun t => decide (t < N)) = true) (hok1 : okCode N asg = true) (hok2 : okCode N body = true) (n : Nat) :
  (Code.rangeFunc gop ps asg body).wpIn F n P (CodePost X C base w0 rd F (X.keep f) N s.h e s') a w := by
 unfold enterRange at ho
 split at ho
 ·rename_i gf fst cap hg
  split at ho
  ·rename_i v h2 hc
   split at ho
   ·rename_i pe dn2 f2 fr2 ps2 as2 bd2 hb2
    simp only [Option.some.injEq, Prod.mk.injEq] at ho
    obtain ⟨rfl, rfl⟩ := ho
    obtain ⟨hk, hfn, hdep⟩ := fence_kinds hat.fence.1
    have hgv := evo_rv hat.rf gop
    rw [hg] at hgv
    generalize hgval : a.eval gop = gval at hgv
    cases hgv with
    | clo _ _ _ us ws h3 h4 h5 h6 =>
     refine wpIn_rangeFunc fun fn _ => ?_
     obtain ⟨df, he⟩ := henter fn
     have hp1 : Free C1 h1 h1.b.length := ⟨by cases hh : C1.ok h1.b.length with | false => rfl | true => have := hat1.rel.ok _ hh; simp at this, Nat.le_refl _⟩
     have hund : ∀ t, (getF s.fr t).under (h1.b.length + 1) = true := fun t => (hat1.rf.2 t).under fun i hi => by have := hat1.rel.ok i hi; simp at this; omega
     have r2 := hat1.rel.new hp1 (.loop false .normal false f s.fr ps.toList asg body) (.loop { state := .ready, pending := none, fn, tmps := a.tmps, params := ps, assign := asg, body, defers := df })
      ⟨_, heap_alloc_new w1 _, rfl, rfl, fun t => (hat1.rf.2 t).mono (Ctx.le_lay (base := base) hp1.1), rfl, rfl, rfl, by
       have : FI ((C1.lay h1.b.length w1.heap.size).kp f) s.fr := by show FI (C1.kp f) s.fr; rw [hat1.kp]; exact hat.fi
       exact this, by rw [hat.rf.1]; exact hok1, by rw [hat.rf.1]; exact hok2, by rw [hat.rf.1]; exact hps⟩ hund
     rw [hput_end] at r2
     generalize hW : w1.alloc (.loop { state := .ready, pending := none, fn, tmps := a.tmps, params := ps, assign := asg, body, defers := df }) = W2 at he r2
     have hle2 := hl1.trans (Ctx.le_lay (base := base) (m := w1.heap.size) hp1.1)
     have hyld : Rv (C1.lay h1.b.length w1.heap.size) (.yld h1.b.length) (.func (.yield w1.heap.size) #[] #[]) := by
      have := Rv.yld (C := C1.lay h1.b.length w1.heap.size) h1.b.length (C1.lay_ok _ _)
      rwa [C1.lay_mu] at this
     have hargs : RvL (C1.lay h1.b.length w1.heap.size) (fst ++ [.yld h1.b.length] ++ cap) (us ++ [Value.func (.yield w1.heap.size) #[] #[]] ++ ws) :=
      RvL.append3 (RvL.mono hle2 ⟨h3, h5⟩) ⟨rfl, fun i x hx => by
       cases i with
       | zero => simp at hx; subst hx; simpa using hyld
       | succ i => simp at hx⟩ (RvL.mono hle2 ⟨h4, h6⟩)
     obtain ⟨⟨fnn, cd, hfn1, hbd⟩, hcall⟩ := hCall gf _ _ _ _ (C1.lay h1.b.length w1.heap.size) base w0 _ _ hc (by rw [hle2.kp, hat.kp]) r2 hargs
     have hname := hX.plain gf fnn hfn1 (by rw [hbd]; rfl)
     have hcall := hcall (n - 1)
     have hres : (resolve a.eval (rangeCall gop w1.heap.size) 0).run P W2 = .ok { target := .fn (.func gf) ws.toArray, args := us.toArray ++ #[Value.func (.yield w1.heap.size) #[] #[]] } W2 := by
      show (Deferred.ofValue (a.eval gop) ((#[.const (.func (.yield w1.heap.size) #[] #[])] : Array Operand).map a.eval)).run P W2 = _
      rw [hgval]
      simp [Deferred.ofValue, Act.eval]
     have hinv : (invoke (.fn (.func gf) ws.toArray) (us.toArray ++ #[Value.func (.yield w1.heap.size) #[] #[]])).run P W2 = .ok (.enter gf (us ++ [Value.func (.yield w1.heap.size) #[] #[]] ++ ws).toArray) W2 := by
      simp [invoke, callFunc, hfn1, hname, hbd]
     have hcallF := callsIn_kinds hk hcall
     refine ⟨w1.heap.size, mk, W2, { target := .fn (.func gf) ws.toArray, args := us.toArray ++ #[Value.func (.yield w1.heap.size) #[] #[]] }, W2, gf, (us ++ [Value.func (.yield w1.heap.size) #[] #[]] ++ ws).toArray, W2, he, hres, fun f' _ => hfn f', hinv, fun hd => (by rw [hdep] at hd; cases hd), hcallF.mono ?_⟩
     ·rintro e' w3 ⟨u, C3, rfl, _, hl3, r3, hs3, hlen3⟩
      have hok3 : (C1.lay h1.b.length w1.heap.size).ok h1.b.length = true := C1.lay_ok _ _
      have hmu3 : C3.mu h1.b.length = w1.heap.size := (hl3.ok _ hok3).2.trans (C1.lay_mu _ _)
      obtain ⟨rc, hh, hst, hpd, _⟩ := r3.turn (bz' := false) (dn' := false) (p' := .normal) hb2
      have hget := getLoop_run (P := P) hh
      have hset := setLoop_run (P := P) (r' := { rc with state := .exhausted }) hh
      have hlt := World.lt_of_heap hh
      rw [hmu3] at hget hset hh hlt
      have hnb : ¬ rc.state = .busy := by
       rw [hst]; cases dn2 <;> simp [stateOf]
      obtain ⟨w4, hw4⟩ : ∃ w4 : World, w4 = { w3 with heap := w3.heap.setIfInBounds w1.heap.size (.loop { rc with state := .exhausted }) } := ⟨_, rfl⟩
      rw [← hw4] at hset
      have r4 : Rel C3 base (h2.put h1.b.length .none) w0 w4 := by
       have e1 : w4.heap.size = w3.heap.size := by rw [hw4]; simp
       have e2 : w4.os = w3.os := by rw [hw4]
       have e3 : w4.tape = w3.tape := by rw [hw4]
       have e4 : w4.output = w3.output := by rw [hw4]
       have e5 : ∀ k, k ≠ C3.mu h1.b.length → w4.heap[k]? = w3.heap[k]? := fun k hk => by rw [hmu3] at hk; rw [hw4]; simp [Ne.symm hk]
       exact r3.put hb2 (fun e => by cases e) .none e1 e2 e3 e4 e5 trivial (fun _ _ _ => trivial)
      have hle3 := hle2.trans hl3
      have hlen4 : Longer s.h (h2.put h1.b.length .none) := hlen1.trans (Longer.trans (b := ⟨h1.b ++ [.loop false .normal false f s.fr ps.toList asg body], h1.t⟩) ⟨by simp, Nat.le_refl _⟩ (hlen3.trans (longer_put _ _ _)))
      have hstab : Stab s.h.ends C C3 := by
       refine hs1.trans (Stab.trans (B := C1.lay h1.b.length w1.heap.size) ⟨fun i hi => ?_, fun _ _ => rfl⟩ (hs3.weak ?_ ?_))
       ·have : i < h1.b.length := Nat.lt_of_lt_of_le hi hlen1.1
        simp [Ctx.lay, show ¬ i = h1.b.length by omega]
       ·show s.h.b.length ≤ (h1.b ++ _).length
        have := hlen1.1; simp; omega
       ·exact hlen1.2
      have hle13 := (Ctx.le_lay (base := base) (m := w1.heap.size) hp1.1).trans hl3
      have hat4 : At X C3 base w0 rd F (X.keep f) N ⟨s.fr, h2.put h1.b.length .none, mss⟩ { a with defers := mk ++ a.defers } w4 :=
       hat1.to hle13 r4 (hat1.rf.mono hle13) hat1.fi rfl
      refine ⟨rc.pending, w4, by simp [Instr.endLoop, hget, hset, hnb], ?_⟩
      rw [hpd]
      cases pe with
      | normal => exact ⟨rfl, C3, hle3, hstab, hlen4, hat4⟩
      | ret => exact wpIn_ret ⟨rfl, C3, hle3, hstab, hlen4, hat4⟩
      | exit id => exact wpIn_exit ⟨rfl, C3, hle3, hstab, hlen4, hat4⟩
   ·cases ho
  ·cases ho
 ·cases ho
theorem region_inv {E : Eng} {f : Nat} {rd : Option Nat} {id : Nat} {ops : Array Oper} {s : St} {e : AExit} {s' : St} (ho : stepCode X E f rd (.region id ops false) s = some (e, s')) :
  e = .normal ∧ ∃ s1, ((isIn deepMark (X.keep f) = false ∧ runN X E f id ops.toList s = some s1) ∨ (isIn deepMark (X.keep f) = true ∧ runR X E f rd id ops.toList s = some s1)) ∧ s' = ⟨⟨s1.fr.g, []⟩, s1.h, s1.ms⟩ := by
 simp only [stepCode, Bool.false_eq_true, if_false] at ho
 cases hm : isIn deepMark (X.keep f) with
 | false =>
  rw [hm] at ho
  simp only at ho
  split at ho
  ·rename_i s1 h1; cases ho; exact ⟨rfl, s1, .inl ⟨rfl, h1⟩, rfl⟩
  ·cases ho
 | true =>
  rw [hm] at ho
  simp only at ho
  split at ho
  ·rename_i s1 h1; cases ho; exact ⟨rfl, s1, .inr ⟨rfl, h1⟩, rfl⟩
  ·cases ho
theorem draw_inv {E : Eng} {f : Nat} {rd : Option Nat} {id : Nat} {ops : Array Oper} {s : St} {e : AExit} {s' : St} (ho : stepCode X E f rd (.region id ops true) s = some (e, s')) :
  e = .normal ∧ ((okFam (Region.before ops).toList ops.toList (X.solo f id) = true ∧ runFam X E (X.keep f) ops.toList (s.h.b.length, s.h.t.length) ⟨s.fr, ⟨s.h.b ++ List.replicate ops.size .none, s.h.t ++ List.replicate ops.size false⟩, s.ms⟩ (X.solo f id) = some s') ∨ drawT (Region.before ops).toList ops.toList s.fr = true ∧
  ∃ s1, (runDraw X E (X.keep f) (Region.before ops).toList ops.toList (s.h.b.length, s.h.t.length) false ops.toList 0 ⟨s.fr, ⟨s.h.b ++ List.replicate ops.size .none, s.h.t ++ List.replicate ops.size false⟩, s.ms⟩ = some s1 ∨
   (hushed ops.toList = true ∧ runDraw X E (X.keep f) (Region.before ops).toList ops.toList (s.h.b.length, s.h.t.length) true ops.toList 0 s = some s1)) ∧ s' = ⟨⟨s1.fr.g, []⟩, s1.h, s1.ms⟩) := by
 simp only [stepCode, if_true] at ho
 split at ho
 ·split at ho
  ·rename_i hf
   split at ho
   ·rename_i d h1; cases ho; exact ⟨rfl, .inl ⟨hf, h1⟩⟩
   ·cases ho
  ·cases ho
 split at ho
 ·rename_i hq
  split at ho
  ·rename_i hc
   split at ho
   ·rename_i s1 h1; cases ho; exact ⟨rfl, .inr ⟨hc, s1, .inr ⟨by simp only [Bool.and_eq_true] at hq; exact hq.2, h1⟩, rfl⟩⟩
   ·cases ho
  ·cases ho
 ·split at ho
  ·rename_i hc
   split at ho
   ·rename_i s1 h1; cases ho; exact ⟨rfl, .inr ⟨hc, s1, .inl h1, rfl⟩⟩
   ·cases ho
  ·cases ho
theorem drawT_inv {b : List Nat} {ops : List Oper} {fr : Frm} (h : drawT b ops fr = true) : pairsFine b ops = true ∧ (conflicts b ops).all (refsApart fr) = true := by
 unfold drawT at h; simpa only [Bool.and_eq_true] using h
theorem drawOk_mk {ops : Array Oper} (h1 : drawTxt ops = true) (h2 : pairsFine (Region.before ops).toList ops.toList = true) : drawOk ops = true := by
 unfold drawTxt at h1
 simp only [Bool.and_eq_true] at h1
 obtain ⟨h1, h3⟩ := h1
 unfold drawOk
 rw [Bool.and_eq_true]
 refine ⟨h1, ?_⟩
 rw [List.all_eq_true]
 rintro ⟨i, j⟩ hm
 have a := List.all_eq_true.1 h3 _ hm
 have c := List.all_eq_true.1 h2 _ hm
 simp only [Bool.or_eq_true] at a c ⊢
 rcases a with a | a
 ·exact .inl a
 ·rcases c with c | c
  ·exact .inl c
  ·right
   split
   ·rename_i x y hx hy
    rw [hx, hy] at a c
    simp only at a c
    rw [a, c]; rfl
   ·rfl
theorem put_getD {a : Act} {d t : Nat} {v : Value} (h : d < a.tmps.size) : (a.put (some d) v).tmps.getD t undef = if t = d then v else a.tmps.getD t undef := by
 simp only [Act.put, Array.getD_eq_getD_getElem?, Array.getElem?_setIfInBounds]
 by_cases e : d = t
 ·subst e; simp [h]
 ·rw [if_neg e, if_neg (fun e' => e e'.symm)]
theorem put_size (a : Act) (d : Option Nat) (v : Value) : (a.put d v).tmps.size = a.tmps.size := by cases d <;> simp [Act.put]
theorem put_defers (a : Act) (d : Option Nat) (v : Value) : (a.put d v).defers = a.defers := by cases d <;> rfl
theorem mapLoop_inv {c : Code} {m : Tmp × Tmp × Tmp × Nat × Code} (h : mapLoop c = some m) : ∃ (id : Nat) (ops : Array Oper) (ty1 ty2 : TypeId) (p1 p2 : String) (a1 a2 : Array Edge),
  c = .seq (.region id ops false) (.seq (.cond (.tmp m.2.2.1) .skip (.exit m.2.2.2.1)) m.2.2.2.2) ∧
  ops.toList = [⟨some m.2.1, .next (.tmp m.1) false, ty1, p1, a1, none⟩, ⟨some m.2.2.1, .extract (.tmp m.2.1) 0, ty2, p2, a2, none⟩] ∧ m.2.1 ≠ m.2.2.1 := by
 unfold mapLoop at h
 split at h
 ·rename_i id ops draw t e body
  cases draw with
  | true => cases h
  | false =>
   simp only [Bool.false_eq_true, if_false] at h
   split at h
   ·rename_i d it ty1 p1 a1 d2 d' ty2 p2 a2 hops
    split at h
    ·rename_i hc
     obtain ⟨rfl, rfl, hne, _⟩ := hc
     cases h
     exact ⟨id, ops, ty1, ty2, p1, p2, a1, a2, rfl, hops, hne⟩
    ·cases h
   ·cases h
 ·cases h
theorem agree_inv {α : Type} {l : List (Option α)} {r : α} (h : agree l = some r) : ∀ y ∈ l, y = some r := by
 cases l with
 | nil => cases h
 | cons x xs =>
  simp only [agree] at h
  by_cases hall : ∀ y ∈ xs, y = x
  ·rw [if_pos hall] at h
   intro y hy
   rcases List.mem_cons.1 hy with rfl | hy
   ·exact h
   ·rw [hall y hy]; exact h
  ·rw [if_neg hall] at h; cases h
theorem head_map {f : Nat} {id : Nat} {ops : Array Oper} {d it t : Tmp} {ty1 ty2 : TypeId} {p1 p2 : String} {a1 a2 : Array Edge} {ex : Nat}
  (hops : ops.toList = [⟨some d, .next (.tmp it) false, ty1, p1, a1, none⟩, ⟨some t, .extract (.tmp d) 0, ty2, p2, a2, none⟩]) (hdt : d ≠ t) (hd : d < N) (ht : t < N)
  {s : St} {a : Act} {j b m : Nat} {left : List Nat} {cur : Option Nat} {es : List (AV × AV)}
  (hat : At X C base w0 rd F (X.keep f) N s a w) (hit : getF s.fr it = .ref j 0) (hj : s.h.b[j]? = some (.mit b m left cur)) (hb : s.h.b[b]? = some (.map es)) (hlen : es.length = m) (hnd : left.Nodup)
  {n : Nat} {K : Exit → Act → World → Prop} {body : Code}
  (hdone : left = [] → ∀ a', At X C base w0 rd F (X.keep f) N ⟨⟨adel (adel s.fr.g d) t, []⟩, s.h, s.ms⟩ a' w → Exit.then (body.wpIn F n P K) K (.exit ex) a' w)
  (hone : ∀ i, i ∈ left → ∀ a' w', At X C base w0 rd F (X.keep f) N ⟨⟨adel (adel s.fr.g d) t, []⟩, s.h.put j (.mit b m (left.erase i) (some i)), s.ms⟩ a' w' → Exit.then (body.wpIn F n P K) K .normal a' w') :
  (Code.seq (.region id ops false) (.seq (.cond (.tmp t) .skip (.exit ex)) body)).wpIn F n P K a w := by
 refine wpIn_seq (wpIn_region ?_)
 have hsz : ops.size = 2 := by rw [← Array.length_toList, hops]; rfl
 have h0 : ops[0]? = some ⟨some d, .next (.tmp it) false, ty1, p1, a1, none⟩ := by rw [← Array.getElem?_toList, hops]; rfl
 have h1 : ops[1]? = some ⟨some t, .extract (.tmp d) 0, ty2, p2, a2, none⟩ := by rw [← Array.getElem?_toList, hops]; rfl
 rw [hsz]
 show wpOpsIn _ _ _ _ _ [0, 1] _ _
 rw [wpOpsIn_cons]
 obtain ⟨_, hfn, _⟩ := fence_kinds hat.fence.1
 have hN : a.tmps.size = N := hat.rf.1
 have hu : a.tmps.getD it undef = .pointer (some ⟨C.mu j, 0, none⟩) ∧ C.ok j = true := by
  have := hat.rf.2 it
  rw [hit] at this
  generalize a.tmps.getD it undef = u at this ⊢
  cases this with
  | ref _ _ hok => exact ⟨rfl, hok⟩
 obtain ⟨seen, hh, hbok, hleft, hcur⟩ := hat.rel.box j _ hj
 obtain ⟨rs, clock, hm, ⟨hl, hclk, hborn⟩, hent⟩ := hat.rel.box b _ hb
 obtain rfl : clock = m := by omega
 -- what follows once 'next' has answered
 have go : ∀ (v : Bool) (rest : List Value) (w' : World), (Instr.next (.pointer (some ⟨C.mu j, 0, none⟩)) false ty1).run P w = .ok (.tuple (.bool v :: rest).toArray) w' →
   (∀ a', a'.tmps.size = N → a'.defers = a.defers → (∀ u, u ≠ d → u ≠ t → a'.tmps.getD u undef = a.tmps.getD u undef) → Exit.then (body.wpIn F n P K) K (if v then .normal else .exit ex) a' w') →
   wpOpIn F n P ops (Exit.then ((Code.seq (.cond (.tmp t) .skip (.exit ex)) body).wpIn F n P K) K) 0 (wpOpsIn F n P ops (Exit.then ((Code.seq (.cond (.tmp t) .skip (.exit ex)) body).wpIn F n P K) K) [1]) a w := by
  intro v rest w' hrun hK
  unfold wpOpIn
  simp only [h0, Region.wanted]
  refine ⟨fun g _ => hfn g, ?_⟩
  rw [Oper.semAt_eq _ _ _ (fun c e => by cases e)]
  have hx : (execOp a.eval ⟨some d, .next (.tmp it) false, ty1, p1, a1, none⟩).run P w = .ok (.value (.tuple (.bool v :: rest).toArray)) w' := by
   have : a.eval (.tmp it) = .pointer (some ⟨C.mu j, 0, none⟩) := hu.1
   simp [execOp, this, Sem.run_bind, hrun, Result.andThen, Sem.run]
  rw [hx, Oper.uponIn_value]
  rw [wpOpsIn_cons]
  unfold wpOpIn
  simp only [h1, Region.wanted]
  refine ⟨fun g _ => hfn g, ?_⟩
  rw [Oper.semAt_eq _ _ _ (fun c e => by cases e)]
  have g1 : (a.put (some d) (.tuple (.bool v :: rest).toArray)).tmps.getD d undef = .tuple (.bool v :: rest).toArray := by rw [put_getD (by rw [hN]; exact hd), if_pos rfl]
  have hx2 : (execOp (a.put (some d) (.tuple (.bool v :: rest).toArray)).eval ⟨some t, .extract (.tmp d) 0, ty2, p2, a2, none⟩).run P w' = .ok (.value (.bool v)) w' := by
   have : (a.put (some d) (.tuple (.bool v :: rest).toArray)).eval (.tmp d) = .tuple (.bool v :: rest).toArray := g1
   simp [execOp, this, Instr.extract]
  rw [hx2, Oper.uponIn_value]
  show Code.wpIn _ _ _ _ _ _ _
  have e1 := put_size a (some d) (.tuple (.bool v :: rest).toArray)
  have e2 := put_size (a.put (some d) (.tuple (.bool v :: rest).toArray)) (some t) (.bool v)
  have hcond : ((a.put (some d) (.tuple (.bool v :: rest).toArray)).put (some t) (.bool v)).eval (.tmp t) = .bool v := by
   show ((a.put (some d) (.tuple (.bool v :: rest).toArray)).put (some t) (.bool v)).tmps.getD t undef = _
   rw [put_getD (by rw [e1, hN]; exact ht), if_pos rfl]
  have hk := hK ((a.put (some d) (.tuple (.bool v :: rest).toArray)).put (some t) (.bool v)) (by rw [e2, e1, hN]) (by rw [put_defers, put_defers]) fun u h1 h2 => by
   rw [put_getD (by rw [e1, hN]; exact ht), if_neg h2, put_getD (by rw [hN]; exact hd), if_neg h1]
  refine wpIn_seq (wpIn_cond hcond ?_)
  cases v with
  | true => exact wpIn_skip hk
  | false => exact wpIn_exit hk
 have rf : ∀ (a' : Act), a'.tmps.size = N → (∀ u, u ≠ d → u ≠ t → a'.tmps.getD u undef = a.tmps.getD u undef) → RF C N ⟨adel (adel s.fr.g d) t, []⟩ a'.tmps := fun a' h1 h2 => by
  refine ⟨h1, fun u => ?_⟩
  show Rv C (agetOr [] u (agetOr (adel (adel s.fr.g d) t) u .junk)) _
  rw [agetOr_nil, agetOr_adel, agetOr_adel]
  by_cases e1 : u = t
  ·rw [if_pos e1]; exact .junk _
  ·rw [if_neg e1]
   by_cases e2 : u = d
   ·rw [if_pos e2]; exact .junk _
   ·rw [if_neg e2, h2 u e2 e1]
    exact hat.drop.rf.2 u
 have fi : FI (X.keep f) ⟨adel (adel s.fr.g d) t, []⟩ := ⟨fun u hu d' => by simp [agetOr_nil], fun u hu d' => by
  rw [agetOr_adel, agetOr_adel]
  split
  ·rfl
  ·split
   ·rfl
   ·exact hat.fi.2 u hu d'⟩
 rcases run_next_mit (P := P) (w := w) (m := C.mu j) (mb := C.mu b) hh hm (by omega) (fun i e he => hborn i e he) ty1 with ⟨hall, hrun⟩ | ⟨i, e, w1, hi1, hi2, hi3, hw1, hrun⟩
 ·have hnil : left = [] := by
   cases left with
   | nil => rfl
   | cons x xs =>
    have := (hleft x).1 (by simp)
    exact absurd (hall x this.1) this.2
  exact go false [] w hrun fun a' h1 h2 h3 => hdone hnil a' ⟨hat.kp, hat.rel, rf a' h1 h3, fi, ⟨by rw [h2]; exact hat.ms.1, hat.ms.2⟩, hat.fence, hat.deep⟩
 ·have hil : i ∈ left := (hleft i).2 ⟨hi1, hi2⟩
  have hheap : w1.heap = w.heap := by rcases hw1 with rfl | rfl <;> rfl
  have hjlt := World.lt_of_heap hh
  refine go true [e.key, e.val] _ hrun fun a' h1 h2 h3 => hone i hil a' _ ⟨hat.kp, ?_, rf a' h1 h3, fi, ⟨by rw [h2]; exact hat.ms.1, hat.ms.2⟩, hat.fence, hat.deep⟩
  refine hat.rel.put hj (by simp) _ (by simp [hheap]) (by rcases hw1 with rfl | rfl <;> rfl) (by rcases hw1 with rfl | rfl <;> rfl) (by rcases hw1 with rfl | rfl <;> rfl) (fun k hk => ?_) ?_ (fun g hg hlt => ?_)
  ·rw [hheap]; simp [Ne.symm hk]
  ·refine ⟨seen.push i, ?_, hbok, fun k => ?_, fun k hk => ?_⟩
   ·rw [hheap]; simp [hjlt]
   ·rw [hnd.mem_erase_iff, hleft k]
    constructor
    ·rintro ⟨q1, q2, q3⟩
     exact ⟨q2, by simp; exact ⟨q3, q1⟩⟩
    ·rintro ⟨q1, q2⟩
     simp at q2
     exact ⟨q2.2, q1, q2.1⟩
   ·cases hk
    exact ⟨by simp, hi1⟩
  ·have := hat.rel.und j _ hj g hg hlt
   exact this
theorem underB_under {n : Nat} {x : ABlk} (h : x.underB n = true) : x.under n := by
  cases x with
  | none => trivial
  | cells c => exact fun y hy => by obtain ⟨i, hi⟩ := List.mem_iff_getElem?.1 hy; exact underL_mem h i y hi
  | map es => exact fun e he => by have := List.all_eq_true.1 h e he; simpa using this
  | siter s p => trivial
  | mit b k l c => have h : decide (b < n) = true := h
                   show b < n
                   exact of_decide_eq_true h
  | mark => trivial
  | loop _ _ _ _ _ _ _ _ => cases h
theorem agetOr_or : ∀ (g : Slots) (t : Nat) (d : AV), agetOr g t d = d ∨ ∃ p ∈ g, p.2 = agetOr g t d
 | [], t, d => .inl (agetOr_nil t d)
 | p :: r, t, d => by
  rw [agetOr_cons]
  split
  ·exact .inr ⟨p, by simp, rfl⟩
  ·rcases agetOr_or r t d with h | ⟨q, h1, h2⟩
   ·exact .inl h
   ·exact .inr ⟨q, by simp [h1], h2⟩
theorem sound_map {E : Eng} (hCode : SoundCode P X E) (hL : SoundLoop P X E) {f : Nat} {c : Code} {m : Tmp × Tmp × Tmp × Nat × Code} {s : St} {e : AExit} {s' : St} {a : Act}
  (hm : mapLoop c = some m) (ho : mapRounds E f rd c m s = some (e, s')) (hat : At X C base w0 rd F (X.keep f) N s a w) (hok : okCode N c = true) (n : Nat) :
  LoopIn F n P c (CodePost X C base w0 rd F (X.keep f) N s.h e s') a w := by
 obtain ⟨id, ops, ty1, ty2, p1, p2, a1, a2, hc, hops, hdt⟩ := mapLoop_inv hm
 unfold mapRounds at ho
 split at ho
 rotate_left
 ·cases ho
 rename_i j hit
 split at ho
 rotate_left
 ·cases ho
 rename_i b k left cur hj
 split at ho
 rotate_left
 ·cases ho
 rename_i es hb
 split at ho
 rotate_left
 ·cases ho
 rename_i hcond
 obtain ⟨hlen, hnd, hlt, hbl⟩ := hcond
 have hjl : j < s.h.b.length := (List.getElem?_eq_some_iff.1 hj).1
 have hok2 : okOps N ops.toList = true ∧ okCode N m.2.2.2.2 = true := by
  have := hok
  rw [hc] at this
  simp only [okCode, Bool.and_eq_true] at this
  exact ⟨this.1.1, this.2.2⟩
 have hdN : m.2.1 < N ∧ m.2.2.1 < N := by
  have := hok2.1
  rw [hops] at this
  simp [okOps] at this
  exact this
 refine LoopIn.of ?_
 suffices h : (Code.seq (.region id ops false) (.seq (.cond (.tmp m.2.2.1) .skip (.exit m.2.2.2.1)) m.2.2.2.2)).wpIn F n P (Exit.then (LoopIn F n P c (CodePost X C base w0 rd F (X.keep f) N s.h e s')) (CodePost X C base w0 rd F (X.keep f) N s.h e s')) a w by
  rw [hc] at h ⊢; exact h
 refine (head_map hops hdt hdN.1 hdN.2 hat hit hj hb hlen hnd ?_ ?_)
 ·rintro rfl a' hat'
  simp only at ho
  cases ho
  exact ⟨rfl, C, Ctx.le.refl base C, Stab.refl _ _, longer_put _ _ _, hat'.heap (hat'.rel.put hj (by simp) .none rfl rfl rfl rfl (fun _ _ => rfl) trivial (fun _ _ _ => trivial))⟩
 ·intro i hi a' w' hat'
  have hr : mapRound E f rd c m.2.2.2.2 j (adelK (adelK s.fr.g m.2.1 _root_.id) m.2.2.1 _root_.id) s.h s.ms (.mit b k (left.erase i) (some i)) = some (e, s') := by
   cases left with
   | nil => cases hi
   | cons x xs => exact agree_inv ho _ (List.mem_map.2 ⟨i, hi, rfl⟩)
  unfold mapRound at hr
  split at hr
  rotate_left
  ·cases hr
  rename_i x s1 hb1
  rw [restrK_eq] at hr
  split at hr
  rotate_left
  ·cases hr
  rename_i htidy
  obtain ⟨ht1, ht2, ht3⟩ := htidy
  refine wpIn_mono (hCode f rd m.2.2.2.2 _ x s1 C base w0 w' a' N F hb1 hat' hok2.2 n) ?_
  rintro e1 a2 w2 ⟨rfl, C1, hl1, hs1, hlen1, hat1⟩
  have hn0 : s.h.b.length ≤ s1.h.b.length := by have := hlen1.1; simpa [Heap.put] using this
  have hrel : Rel (C1.cut s.h.b.length) base ⟨s1.h.b.take s.h.b.length, s1.h.t⟩ w0 w2 := hat1.rel.cut' s.h.b.length
   (fun i x hx hi => (ht2 i x hi hx).elim (fun hx0 => hat.rel.under_all hx0) underB_under) hn0 (fun g hg => hat.rel.fle g (by rw [← hl1.fl]; exact hg))
  have hle : C.le base (C1.cut s.h.b.length) := by
   refine ⟨fun i hi => ?_, hl1.tk, hl1.K, hl1.Kb, hl1.kp, hl1.fl, hl1.bs⟩
   obtain ⟨q1, q2⟩ := hl1.ok i hi
   exact ⟨by simp [Ctx.cut, q1, hat.rel.ok i hi], q2⟩
  have hst : Stab s.h.ends C (C1.cut s.h.b.length) := ⟨fun i hi => by
   have hi : i < s.h.b.length := hi
   have := hs1.ok i (by simpa [Heap.put, Heap.ends] using hi)
   simp [Ctx.cut, this, hi], fun k hk => hs1.tk k (by simpa [Heap.put, Heap.ends] using hk)⟩
  have hlen2 : Longer s.h ⟨s1.h.b.take s.h.b.length, s1.h.t⟩ := ⟨by simp; omega, by have := hlen1.2; simpa [Heap.put] using this⟩
  have hrf := hat1.rf.restr hat1.fi (adelK (adelK s.fr.g m.2.1 _root_.id) m.2.2.1 _root_.id)
  have hat2 : At X (C1.cut s.h.b.length) base w0 rd F (X.keep f) N ⟨⟨restr (adelK (adelK s.fr.g m.2.1 _root_.id) m.2.2.1 _root_.id) s1.fr.g, []⟩, ⟨s1.h.b.take s.h.b.length, s1.h.t⟩, s.ms⟩ a2 w2 := by
   refine ⟨hat1.kp, hrel, ⟨hrf.1, fun t => ?_⟩, hat'.fi.restr hat1.fi, ⟨?_, fun i hi => (hle.ok i (hat.ms.2 i hi)).1⟩, ⟨?_, fun l hl => (hle.ok l (hat.fence.2 l hl)).1⟩, hat1.deep⟩
   ·have := hrf.2 t
    refine this.cut ?_
    show (agetOr [] t (agetOr _ t .junk)).under _ = true
    rw [agetOr_nil]
    rcases agetOr_or (restr (adelK (adelK s.fr.g m.2.1 _root_.id) m.2.2.1 _root_.id) s1.fr.g) t .junk with h | ⟨p, h1, h2⟩
    ·rw [h]; rfl
    ·rw [← h2]; exact List.all_eq_true.1 ht1 p h1
   ·rw [hat1.ms.1, ht3]; rfl
   ·rw [hat1.fence.1]; cases rd <;> rfl
  cases x with
  | normal =>
   intro b' k' cs hro hbf hr'
   obtain ⟨e', a3, w3, hq, harr⟩ := hL f rd c _ e s' (C1.cut s.h.b.length) base w0 w2 a2 N F hr hat2 hok n b' k' cs hro hbf hr'
   exact ⟨e', a3, w3, hq.trans hle hst hlen2, harr⟩
  | exit q =>
   simp only at hr
   split at hr
   rotate_left
   ·cases hr
   rename_i hj2
   cases hr
   exact ⟨rfl, C1.cut s.h.b.length, hle, hst, ⟨by simp; omega, hlen2.2⟩, hat2.heap (hat2.rel.put (b := j) (by rw [List.getElem?_take, if_pos hjl]; exact hj2) (by simp) .none rfl rfl rfl rfl (fun _ _ => rfl) trivial (fun _ _ _ => trivial))⟩
  | ret =>
   simp only at hr
   split at hr
   rotate_left
   ·cases hr
   rename_i hj2
   cases hr
   exact ⟨rfl, C1.cut s.h.b.length, hle, hst, ⟨by simp; omega, hlen2.2⟩, hat2.heap (hat2.rel.put (b := j) (by rw [List.getElem?_take, if_pos hjl]; exact hj2) (by simp) .none rfl rfl rfl rfl (fun _ _ => rfl) trivial (fun _ _ _ => trivial))⟩
include hX in
theorem sound_code {E : Eng} (hCode : SoundCode P X E) (hCall : SoundCall P X E) (hR : SoundRound P X E) (hL : SoundLoop P X E) (hD : SoundDraw P X E) (hM : SoundFam P X E) :
  SoundCode P X ⟨stepCode X E, stepCall X E⟩ ∧ SoundLoop P X ⟨stepCode X E, stepCall X E⟩ := by
 have loop : SoundLoop P X ⟨stepCode X E, stepCall X E⟩ := by
  intro f rd c s e s' C base w0 w a N F ho hat hok n
  have ho : stepCode X E f rd (.loop c) s = some (e, s') := ho
  simp only [stepCode] at ho
  split at ho
  ·rename_i m hm
   exact sound_map hCode hL hm ho hat hok n
  refine LoopIn.of ?_
  split at ho
  ·rename_i s1 h1
   refine wpIn_mono (hCode f rd c s .normal s1 C base w0 w a N F h1 hat hok n) ?_
   rintro e1 a1 w1 ⟨rfl, C1, hl1, hs1, hlen1, hat1⟩
   intro b k cs hro hb hr
   rw [restrK_eq] at ho
   have hat2 : At X C1 base w0 rd F (X.keep f) N ⟨⟨restr s.fr.g s1.fr.g, []⟩, s1.h, s1.ms⟩ a1 w1 :=
    ⟨hat1.kp, hat1.rel, hat1.rf.restr hat1.fi _, hat.fi.restr hat1.fi, hat1.ms, hat1.fence, hat1.deep⟩
   obtain ⟨e', a', w', hq, harr⟩ := hL f rd c _ e s' C1 base w0 w1 a1 N F ho hat2 hok n b k cs hro hb hr
   exact ⟨e', a', w', hq.trans hl1 hs1 hlen1, harr⟩
  ·rename_i r hne
   cases e with
   | normal => exact absurd ho (hne s')
   | ret =>
    refine wpIn_mono (hCode f rd c s .ret s' C base w0 w a N F ho hat hok n) ?_
    rintro e1 a1 w1 ⟨rfl, h⟩; exact ⟨rfl, h⟩
   | exit id =>
    refine wpIn_mono (hCode f rd c s (.exit id) s' C base w0 w a N F ho hat hok n) ?_
    rintro e1 a1 w1 ⟨rfl, h⟩; exact ⟨rfl, h⟩
 refine ⟨?_, loop⟩
 intro f rd c s e s' C base w0 w a N F ho hat hok n
 have ho : stepCode X E f rd c s = some (e, s') := ho
 cases c with
 | skip => cases ho; exact wpIn_skip ⟨rfl, C, Ctx.le.refl base C, Stab.refl _ _, Longer.refl _, hat⟩
 | label l => cases ho; exact wpIn_label ⟨rfl, C, Ctx.le.refl base C, Stab.refl _ _, Longer.refl _, hat⟩
 | exit id => cases ho; exact wpIn_exit ⟨rfl, C, Ctx.le.refl base C, Stab.refl _ _, Longer.refl _, hat⟩
 | ret => cases ho; exact wpIn_ret ⟨rfl, C, Ctx.le.refl base C, Stab.refl _ _, Longer.refl _, hat⟩
 | region id ops draw =>
  simp only [okCode, Bool.and_eq_true] at hok
  cases draw with
  | false =>
   obtain ⟨rfl, s1, h1, rfl⟩ := region_inv ho
   refine wpIn_region ?_
   rw [List.range_eq_range']
   rcases h1 with ⟨_, h1⟩ | ⟨hm, h1⟩
   rotate_left
   ·have := sound_runR (n := n) (Q := CodePost X C base w0 rd F (X.keep f) N s.h .normal ⟨⟨s1.fr.g, []⟩, s1.h, s1.ms⟩) hX hCall hR (okOps_get hok.1) hat hm h1
     (fun C' a' w' hl hs hlen hat' => ⟨rfl, C', hl, hs, hlen, hat'.drop⟩)
    simpa using this
   have := sound_runN (n := n) (Q := CodePost X C base w0 rd F (X.keep f) N s.h .normal ⟨⟨s1.fr.g, []⟩, s1.h, s1.ms⟩) hX hCall hR (okOps_get hok.1) hat h1
    (fun C' a' w' hl hs hlen hat' => ⟨rfl, C', hl, hs, hlen, hat'.drop⟩)
   simpa using this
  | true =>
   obtain ⟨rfl, ⟨hf, h1⟩ | ⟨hcf, s1, h1, rfl⟩⟩ := draw_inv ho
   ·exact hM f id ops rd s s' C base w0 w a N F _ hf h1 hat hok.1 (by simpa using hok.2) n
   ·exact hD f id ops rd s s1 C base w0 w a N F (drawT_inv hcf).2 h1 hat hok.1 (drawOk_mk (by simpa using hok.2) (drawT_inv hcf).1) n
 | seq x y =>
  simp only [okCode, Bool.and_eq_true] at hok
  simp only [stepCode] at ho
  refine wpIn_seq ?_
  split at ho
  ·rename_i s1 h1
   refine wpIn_mono (hCode f rd x s .normal s1 C base w0 w a N F h1 hat hok.1 n) ?_
   rintro e1 a1 w1 ⟨rfl, C1, hl1, hs1, hlen1, hat1⟩
   refine wpIn_mono (hCode f rd y s1 e s' C1 base w0 w1 a1 N F ho hat1 hok.2 n) ?_
   exact fun e2 a2 w2 h => h.trans hl1 hs1 hlen1
  ·rename_i r hne
   cases e with
   | normal => exact absurd ho (hne s')
   | ret =>
    refine wpIn_mono (hCode f rd x s .ret s' C base w0 w a N F ho hat hok.1 n) ?_
    rintro e1 a1 w1 ⟨rfl, h⟩; exact ⟨rfl, h⟩
   | exit id =>
    refine wpIn_mono (hCode f rd x s (.exit id) s' C base w0 w a N F ho hat hok.1 n) ?_
    rintro e1 a1 w1 ⟨rfl, h⟩; exact ⟨rfl, h⟩
 | cond x y z =>
  simp only [okCode, Bool.and_eq_true] at hok
  simp only [stepCode] at ho
  split at ho
  ·rename_i t ht
   have hx : a.eval x = .bool t := by have := evo_rv hat.rf x; rw [ht] at this; exact this.bool_inv
   refine wpIn_cond hx ?_
   have hcond : ∃ s1, condK x s (fun s => if t then E.code f rd y s else E.code f rd z s) = (if t then E.code f rd y s1 else E.code f rd z s1) ∧ s1.h = s.h ∧ At X C base w0 rd F (X.keep f) N s1 a w := by
    cases x with
    | tmp u => exact ⟨⟨⟨adel s.fr.g u, s.fr.l⟩, s.h, s.ms⟩, by simp only [condK, adelK_eq], rfl, hat.kp, hat.rel, hat.rf.cond u, hat.fi.cond u, hat.ms, hat.fence, hat.deep⟩
    | const v => exact ⟨s, rfl, rfl, hat⟩
    | func v => exact ⟨s, rfl, rfl, hat⟩
    | global v => exact ⟨s, rfl, rfl, hat⟩
   obtain ⟨s1, h1, h2, hat1⟩ := hcond
   rw [h1] at ho
   rw [← h2]
   cases t with
   | true => exact hCode f rd y s1 e s' C base w0 w a N F ho hat1 hok.1 n
   | false => exact hCode f rd z s1 e s' C base w0 w a N F ho hat1 hok.2 n
  ·cases ho
 | block id b =>
  simp only [okCode] at hok
  simp only [stepCode] at ho
  refine wpIn_block ?_
  split at ho
  ·rename_i i s1 h1
   refine wpIn_mono (hCode f rd b s (.exit i) s1 C base w0 w a N F h1 hat hok n) ?_
   rintro e1 a1 w1 ⟨rfl, C1, h⟩
   split at ho
   ·rename_i hi
    cases ho
    show (if i = id then _ else _)
    rw [if_pos hi]
    exact ⟨rfl, C1, h⟩
   ·rename_i hi
    cases ho
    show (if i = id then _ else _)
    rw [if_neg hi]
    exact ⟨rfl, C1, h⟩
  ·rename_i r hne
   cases e with
   | normal =>
    refine wpIn_mono (hCode f rd b s .normal s' C base w0 w a N F ho hat hok n) ?_
    rintro e1 a1 w1 ⟨rfl, h⟩; exact ⟨rfl, h⟩
   | ret =>
    refine wpIn_mono (hCode f rd b s .ret s' C base w0 w a N F ho hat hok n) ?_
    rintro e1 a1 w1 ⟨rfl, h⟩; exact ⟨rfl, h⟩
   | exit id' => exact absurd ho (hne id' s')
 | loop b =>
  exact (loop f rd b s e s' C base w0 w a N F ho hat hok n).wpIn
 | scope b =>
  simp only [okCode] at hok
  refine wpIn_scope (hCode f rd b s e s' C base w0 w a N F ho hat hok n) fun l a1 w1 h => ?_
  have := h.1
  cases e <;> cases this
 | rangeFunc gop ps asg body =>
  simp only [okCode, Bool.and_eq_true] at hok
  simp only [stepCode] at ho
  cases rd with
  | none =>
   simp only at ho
   have hp : Free C s.h s.h.b.length := ⟨by cases hh : C.ok s.h.b.length with | false => rfl | true => have := hat.rel.ok _ hh; omega, Nat.le_refl _⟩
   have hle : C.le base (C.lay s.h.b.length w.heap.size) := Ctx.le_lay hp.1
   have r1 := hat.rel.new hp .mark (.deferred (some [])) (heap_alloc_new w _) trivial
   rw [hput_end] at r1
   have hfence := hat.fence.1
   subst hfence
   refine sound_range (mk := [markOf (C.lay s.h.b.length w.heap.size) s.h.b.length]) hX hCall hat ho hle ⟨fun i hi => ?_, fun _ _ => rfl⟩ ⟨by simp, Nat.le_refl _⟩ ?_ (fun fn => ?_) hok.1.1 hok.1.2 hok.2 n (w1 := w.alloc (.deferred (some [])))
   ·have hi : i < s.h.b.length := hi
    simp [Ctx.lay, show ¬ i = s.h.b.length by omega]
   ·have h1 := hat.to (a' := a) hle r1 (hat.rf.mono hle) hat.fi rfl
    refine ⟨h1.kp, h1.rel, h1.rf, h1.fi, ⟨?_, fun i hi => ?_⟩, h1.fence, h1.deep⟩
    ·show _ ++ a.defers = _
     rw [h1.ms.1]; rfl
    ·rcases List.mem_cons.1 hi with e | hi
     ·subst e; exact C.lay_ok _ _
     ·exact h1.ms.2 i hi
   ·refine ⟨w.heap.size, ?_⟩
    have hmk : markOf (C.lay s.h.b.length w.heap.size) s.h.b.length = { target := .collected w.heap.size, args := #[] } := by simp only [markOf, C.lay_mu]
    rw [hmk]
    simp [Instr.enterLoop, fenceOf, Fence.wide]
  | some l =>
   simp only at ho
   split at ho
   ·rename_i bz p dn f2 fr2 ps2 as2 bd2 hl
    obtain ⟨rc, hh, _⟩ := hat.rel.box l _ hl
    have hget := getLoop_run (P := P) hh
    refine sound_range (mk := []) hX hCall hat ho (Ctx.le.refl base C) (Stab.refl _ _) (Longer.refl _) hat (fun fn => ⟨rc.defers, ?_⟩) hok.1.1 hok.1.2 hok.2 n
    rw [hat.fence.1]
    simp [Instr.enterLoop, fenceOf, Fence.inRound, hget]
   ·cases ho
 | _ => cases ho
end
end
section
open Go.RowKit
def maskOf (acc : Array Nat) (o : Oper) : Nat := o.after.foldl (fun s e => if Region.binds .any e then s ||| 2 ^ e.on ||| acc.getD e.on 0 else s) 0
theorem before_eq (ops : Array Oper) : Region.before ops = ops.foldl (init := #[]) fun acc o => acc.push (maskOf acc o) := rfl
theorem mask_spec (acc : Array Nat) (j : Nat) : ∀ (es : List Edge) (s : Nat), (es.foldl (fun s e => if Region.binds .any e then s ||| 2 ^ e.on ||| acc.getD e.on 0 else s) s).testBit j = true →
  s.testBit j = true ∨ ∃ e ∈ es, Region.binds .any e = true ∧ (e.on = j ∨ (acc.getD e.on 0).testBit j = true)
 | [], s, h => .inl h
 | e :: es, s, h => by
  rw [List.foldl_cons] at h
  rcases mask_spec acc j es _ h with h1 | ⟨e', he, h1⟩
  ·split at h1
   ·rename_i hb
    simp only [Nat.testBit_or, Bool.or_eq_true, Nat.testBit_two_pow, decide_eq_true_eq] at h1
    rcases h1 with (h1 | h1) | h1
    ·exact .inl h1
    ·exact .inr ⟨e, by simp, hb, .inl h1⟩
    ·exact .inr ⟨e, by simp, hb, .inr h1⟩
   ·exact .inl h1
  ·exact .inr ⟨e', by simp [he], h1⟩
theorem before_list : ∀ (os : List Oper) (acc : Array Nat), (∀ i, i < acc.size → (os.foldl (fun acc o => acc.push (maskOf acc o)) acc).getD i 0 = acc.getD i 0) ∧
  ∀ (k : Nat) (o : Oper), os[k]? = some o → ∀ j, ((os.foldl (fun acc o => acc.push (maskOf acc o)) acc).getD (acc.size + k) 0).testBit j = true →
   ∃ e ∈ o.after, Region.binds .any e = true ∧ (e.on = j ∨ ((os.foldl (fun acc o => acc.push (maskOf acc o)) acc).getD e.on 0).testBit j = true)
 | [], acc => ⟨fun _ _ => rfl, fun k o h => by simp at h⟩
 | o :: os, acc => by
  obtain ⟨h1, h2⟩ := before_list os (acc.push (maskOf acc o))
  have keep : ∀ i, i < acc.size → (List.foldl (fun acc o => acc.push (maskOf acc o)) (acc.push (maskOf acc o)) os).getD i 0 = acc.getD i 0 := fun i hi => by
   rw [h1 i (by simp; omega)]
   simp [Array.getElem?_push, show ¬ i = acc.size by omega]
  refine ⟨fun i hi => keep i hi, fun k o' hk j hj => ?_⟩
  rw [List.foldl_cons] at hj ⊢
  cases k with
  | zero =>
   simp only [List.getElem?_cons_zero, Option.some.injEq] at hk; subst hk
   have hm : (List.foldl (fun acc o => acc.push (maskOf acc o)) (acc.push (maskOf acc o)) os).getD (acc.size + 0) 0 = maskOf acc o := by
    rw [h1 _ (by simp)]; simp
   rw [hm] at hj
   unfold maskOf at hj
   rw [← Array.foldl_toList] at hj
   rcases mask_spec acc j _ 0 hj with h3 | ⟨e, he, hb, h3⟩
   ·simp at h3
   ·refine ⟨e, by simpa using he, hb, h3.imp id fun h3 => ?_⟩
    have hlt : e.on < acc.size := by
     by_cases hlt : e.on < acc.size
     ·exact hlt
     ·rw [Array.getD_eq_getD_getElem?, Array.getElem?_eq_none (by omega)] at h3; simp at h3
    rw [keep _ hlt]; exact h3
  | succ k =>
   simp only [List.getElem?_cons_succ] at hk
   have e1 : acc.size + (k + 1) = (acc.push (maskOf acc o)).size + k := by simp; omega
   rw [e1] at hj
   exact h2 k o' hk j hj
theorem earlier_spec {ops : Array Oper} {i j : Nat} {o : Oper} (ho : ops[i]? = some o) (h : earlier (Region.before ops).toList j i = true) : ∃ e ∈ o.after, Region.binds .any e = true ∧ (e.on = j ∨ earlier (Region.before ops).toList j e.on = true) := by
 have conv : ∀ i, (Region.before ops).toList.getD i 0 = (ops.toList.foldl (fun acc o => acc.push (maskOf acc o)) #[]).getD i 0 := fun i => by
  rw [before_eq, ← Array.foldl_toList]
  simp [List.getD_eq_getElem?_getD, Array.getD_eq_getD_getElem?]
 unfold earlier at h ⊢
 rw [conv] at h
 obtain ⟨e, he, hb, h3⟩ := (before_list ops.toList #[]).2 i o (by simpa using ho) j (by simpa using h)
 exact ⟨e, he, hb, h3.imp id fun h3 => by rw [conv]; exact h3⟩
def Down (ops : Array Oper) (listed : Array Bool) : Prop := ∀ (i : Nat) (o : Oper), ops[i]? = some o → listed.getD i false = true → ∀ j, earlier (Region.before ops).toList j i = true → listed.getD j false = true
theorem ready_down {ops : Array Oper} {listed : Array Bool} (hd : Down ops listed) (hs : listed.size = ops.size) {i : Nat} (hr : i ∈ Region.ready .any ops listed) : ∀ j, earlier (Region.before ops).toList j i = true → listed.getD j false = true := by
 intro j hj
 obtain ⟨_, o, ho, hall⟩ := mem_ready.1 hr
 obtain ⟨e, he, hb, h3⟩ := earlier_spec ho hj
 have hl := hall e he hb
 rcases h3 with rfl | h3
 ·exact hl
 ·have hlt : e.on < ops.size := by
   rw [← hs]
   by_cases hlt : e.on < listed.size
   ·exact hlt
   ·rw [Array.getD_eq_getD_getElem?, Array.getElem?_eq_none (by omega)] at hl; simp at hl
  exact hd e.on ops[e.on] (Array.getElem?_eq_getElem hlt) hl j h3
theorem Down.set {ops : Array Oper} {listed : Array Bool} (hd : Down ops listed) (hs : listed.size = ops.size) {i : Nat} (hr : i ∈ Region.ready .any ops listed) : Down ops (listed.setIfInBounds i true) := by
 intro k o ho hk j hj
 by_cases e : i = k
 ·subst e
  exact getD_set_true (ready_down hd hs hr j hj)
 ·rw [getD_set_ne _ e] at hk
  exact getD_set_true (hd k o ho hk j hj)
section
variable {X : Tab} {L : List Nat}
theorem evoL_congr {fr fr' : Frm} : ∀ (xs : List Operand), (∀ x ∈ xs, evo fr x = evo fr' x) → evoL fr xs = evoL fr' xs
 | [], _ => rfl
 | x :: xs, h => by simp only [evoL, h x (by simp), evoL_congr xs fun y hy => h y (by simp [hy])]
theorem litParts_congr {fr fr' : Frm} (S : Nat) : ∀ (ps : List (Nat × Operand)) (i : Nat), (∀ x ∈ ps, evo fr x.2 = evo fr' x.2) → litParts S fr i ps = litParts S fr' i ps
 | [], i, _ => rfl
 | (j, x) :: ps, i, h => by simp only [litParts, h (j, x) (by simp), litParts_congr S ps (i + 1) fun y hy => h y (by simp [hy])]
theorem rowParts_congr {fr fr' : Frm} (S : Nat) : ∀ (ps : List (Nat × Operand)), (∀ x ∈ ps, evo fr x.2 = evo fr' x.2) → rowParts S fr ps = rowParts S fr' ps
 | [], _ => rfl
 | (j, x) :: ps, h => by simp only [rowParts, h (j, x) (by simp), rowParts_congr S ps fun y hy => h y (by simp [hy])]
theorem fieldParts_congr {fr fr' : Frm} (t : TypeId) : ∀ (ps : List (Nat × Operand)), (∀ x ∈ ps, evo fr x.2 = evo fr' x.2) → fieldParts X t fr ps = fieldParts X t fr' ps
 | [], _ => rfl
 | (j, x) :: ps, h => by simp only [fieldParts, h (j, x) (by simp), fieldParts_congr t ps fun y hy => h y (by simp [hy])]
theorem bound_congr {fr fr' : Frm} (d : Nat) (o : Option Operand) (h : ∀ x, o = some x → evo fr x = evo fr' x) : bound fr d o = bound fr' d o := by
 cases o with
 | none => rfl
 | some x => simp only [bound, h x rfl]
theorem buildAV_congr {fr fr' : Frm} (t : TypeId) (ps : List (Nat × Operand)) (h : ∀ x ∈ ps, evo fr x.2 = evo fr' x.2) : buildAV X t fr ps = buildAV X t fr' ps := by
 unfold buildAV; simp only [rowParts_congr _ ps h, fieldParts_congr t ps h]
theorem sliceAV_congr {fr fr' : Frm} (t : TypeId) (x : AV) (lo hi : Option Operand) (h1 : ∀ x, lo = some x → evo fr x = evo fr' x) (h2 : ∀ x, hi = some x → evo fr x = evo fr' x) : sliceAV X t x fr lo hi = sliceAV X t x fr' lo hi := by
 unfold sliceAV; simp only [bound_congr _ lo h1, bound_congr _ hi h2]
theorem stepOp_congr {p : Nat × Nat} {o : Op} {fr fr' : Frm} {h : Heap} (hs : ∀ x ∈ o.operands, evo fr x = evo fr' x) : stepOp X p o fr h = stepOp X p o fr' h := by
 cases o <;> simp only [Op.operands] at hs <;> simp only [stepOp]
 case build t ps => rw [buildAV_congr t ps.toList fun x hx => hs x.2 (by simp; exact ⟨x.1, by simpa using hx⟩)]
 case buildSlice t n ps =>
  unfold opBuildSlice
  simp only [litParts_congr _ ps.toList 0 fun x hx => hs x.2 (by simp; exact ⟨x.1, by simpa using hx⟩)]
 case makeFunc fn first captured =>
  rw [evoL_congr first.toList fun x hx => hs x (by simp at hx; simp [hx]), evoL_congr captured.toList fun x hx => hs x (by simp at hx; simp [hx])]
 case call c => rw [evoL_congr c.args.toList fun x hx => hs x (by simp at hx; simp [Call.operands, hx])]
 case slice t x lo hi mx =>
  cases mx with
  | some _ => rfl
  | none =>
   simp only
   rw [hs x (by simp), sliceAV_congr t _ lo hi (fun y hy => hs y (by simp [hy])) (fun y hy => hs y (by simp [hy]))]
 all_goals (first | rfl | (simp_all; done))
theorem opAt_congr {E : Eng} {q : Bool} {p : Nat × Nat} {o : Op} {fr fr' : Frm} {h : Heap} (hs : ∀ x ∈ o.operands, evo fr x = evo fr' x) : opAt X E q p o fr h = opAt X E q p o fr' h := by
 unfold opAt
 split
 ·rename_i c
  split
  ·rename_i g hg
   simp only [Op.operands, Call.operands, hg] at hs
   rw [hs g (by simp), evoL_congr c.args.toList fun x hx => hs x (by simp at hx; simp [hx])]
  ·exact stepOp_congr hs
 ·exact stepOp_congr hs
end
end
section
open Go.RowKit
section
variable {X : Tab} {L : List Nat}
def onHeap (r : Option (AV × Heap)) (h : Heap) : Option (AV × Heap) := r.map fun x => (x.1, h)
def noHeap : Heap := ⟨[], []⟩
theorem onHeap_map (o : Option AV) (h : Heap) : o.map (·, h) = onHeap (o.map (·, noHeap)) h := by cases o <;> rfl
theorem onHeap_mapf {α : Type} (f : α → AV) (o : Option α) (h : Heap) : o.map (fun b => (f b, h)) = onHeap (o.map fun b => (f b, noHeap)) h := by cases o <;> rfl
theorem alone_builtin {p : Nat × Nat} {b : Builtin} (hb : callKind (.builtin b) = .pure) (ts : List TypeId) (vs : List AV) (h : Heap) : opBuiltin X p b ts vs h = onHeap (opBuiltin X p b ts vs noHeap) h := by
 cases b <;> simp only [opBuiltin] <;> first | rfl | (cases hb; done) | skip
 ·unfold opMax
  split
  ·split <;> rfl
  ·rfl
 ·unfold opMin
  split
  ·split <;> rfl
  ·rfl
theorem alone_step {p : Nat × Nat} {o : Op} (hk : opKind o = .pure) (fr : Frm) (h : Heap) : stepOp X p o fr h = onHeap (stepOp X p o fr noHeap) h := by
 cases o <;> simp only [opKind] at hk <;> first | (cases hk; done) | skip
 all_goals simp only [stepOp]
 case move => rfl
 case assign => rfl
 case pick => unfold opPick; split <;> rfl
 case build => exact onHeap_map _ _
 case buildSlice =>
  unfold opBuildSlice
  split
  ·split
   ·split <;> rfl
   ·rfl
  ·rfl
 case nilCheck => unfold opNil; split <;> rfl
 case binOp => exact onHeap_map _ _
 case unOp => exact onHeap_map _ _
 case convert =>
  unfold opConvert
  split
  ·split
   ·split <;> rfl
   ·rfl
  ·rfl
 case makeFunc => unfold opFunc; split <;> rfl
 case slice _ _ _ _ mx => cases mx with
  | none => exact onHeap_map _ _
  | some _ => rfl
 case fieldAddr =>
  unfold opFieldAddr
  split
  ·split
   ·split <;> rfl
   ·rfl
  ·rfl
 case field =>
  unfold opField
  split
  ·split
   ·split
    ·split
     ·split <;> rfl
     ·exact onHeap_map _ _
    ·rfl
   ·rfl
  ·rfl
 case indexAddr => exact onHeap_map _ _
 case index =>
  unfold opIndex
  split
  ·split
   ·rfl
   ·split
    ·split
     ·exact onHeap_map _ _
     ·rfl
    ·exact onHeap_mapf (fun b : UInt8 => .int .u8 b.toNat) _ h
    ·rfl
  ·rfl
 case extract =>
  unfold opExtract
  split
  ·exact onHeap_map _ _
  ·rfl
 case call c =>
  unfold opCallee
  split
  ·rename_i b hb
   rw [hb] at hk
   exact alone_builtin hk _ _ _
  ·rfl
 all_goals rfl
theorem alone_call {E : Eng} (g : AV) (xs : List AV) (h : Heap) : callAV X E true g xs h = onHeap (callAV X E true g xs noHeap) h := by
 unfold callAV
 split
 ·split
  ·rfl
  split
  ·rfl
  ·split
   ·unfold callPure
    simp only [forceL_eq, forceAV_eq]
    split
    ·split <;> rfl
    ·rfl
   ·rfl
 ·rfl
 ·rfl
def lone1 (q : Bool) (o : Op) : Bool := match opKind o with | .pure => true | .call => q | _ => false
theorem alone_opAt {E : Eng} {q : Bool} {p : Nat × Nat} {o : Op} (hl : lone1 q o = true) (fr : Frm) (h : Heap) : opAt X E q p o fr h = onHeap (opAt X E q p o fr noHeap) h := by
 unfold lone1 at hl
 unfold opAt
 split
 ·rename_i c
  split
  ·rename_i g hg
   have hk : opKind (.call c) = .call := by simp [opKind, callKind, hg]
   rw [hk] at hl
   simp only at hl
   subst hl
   exact alone_call _ _ _
  ·rename_i hng
   cases hk : opKind (.call c) with
   | pure => exact alone_step hk fr h
   | call =>
    exfalso
    simp only [opKind] at hk
    unfold callKind at hk
    split at hk
    ·cases hk
    ·cases hk
    ·cases hk
    ·rename_i g hg; exact hng g hg
    ·cases hk
   | read => rw [hk] at hl; cases hl
   | app => rw [hk] at hl; cases hl
   | write => rw [hk] at hl; cases hl
 ·rename_i hnc
  cases hk : opKind o with
  | pure => exact alone_step hk fr h
  | call =>
   exfalso
   cases o <;> simp only [opKind] at hk <;> first | (cases hk; done) | skip
   exact hnc _ rfl
  | read => rw [hk] at hl; cases hl
  | app => rw [hk] at hl; cases hl
  | write => rw [hk] at hl; cases hl
theorem read_step {p : Nat × Nat} {o : Op} (hk : opKind o = .read) {fr : Frm} {h h' : Heap} {v : AV} (ho : stepOp X p o fr h = some (v, h')) : h' = h ∧ ∀ h2 : Heap, h2.b = h.b → stepOp X p o fr h2 = some (v, h2) := by
 cases o <;> simp only [opKind] at hk <;> first | (cases hk; done) | skip
 case load =>
  simp only [stepOp] at ho ⊢
  unfold opLoad at ho ⊢
  split at ho
  ·split at ho
   ·rename_i hb
    obtain ⟨h1, rfl⟩ := pair_map ho
    exact ⟨rfl, fun h2 he => by rw [he, hb]; simp only [h1]; rfl⟩
   ·cases ho
  ·obtain ⟨h1, rfl⟩ := pair_map ho
   exact ⟨rfl, fun h2 he => by simp only [h1]; rfl⟩
  ·cases ho
 case lookup =>
  simp only [stepOp] at ho ⊢
  unfold opLookup at ho ⊢
  split at ho
  ·split at ho
   ·rename_i hm hb
    split at ho
    ·rename_i ks hks
     split at ho
     ·rename_i heq
      split at ho
      ·rename_i v0 hl
       cases ho
       exact ⟨rfl, fun h2 he => by rw [he]; simp only [hm, hb, hks, heq, hl, if_true]⟩
      ·rename_i z0 hl hz
       cases ho
       exact ⟨rfl, fun h2 he => by rw [he]; simp only [hm, hb, hks, heq, hl, hz, if_true]⟩
      ·cases ho
     ·cases ho
    ·cases ho
   ·cases ho
  ·cases ho
 case call c =>
  have hc : c.callee = .builtin .len := by
   unfold callKind at hk
   split at hk <;> first | (cases hk; done) | assumption
  simp only [stepOp, hc, opCallee, opBuiltin] at ho ⊢
  unfold opLen at ho ⊢
  split at ho
  ·split at ho
   all_goals first | (cases ho; exact ⟨rfl, fun h2 _ => by simp only [*]⟩) | skip
   ·rename_i hn1 hn2 hn3 hn4
    split at ho
    ·rename_i hm hb
     cases ho
     exact ⟨rfl, fun h2 he => by rw [he]; simp only [hm, hb]⟩
    ·cases ho
   ·cases ho
  ·cases ho
end
end
section
open Go.RowKit
section
variable {X : Tab} {L : List Nat}
theorem app_step {E : Eng} {q : Bool} {p : Nat × Nat} {o : Op} (hk : opKind o = .app) {fr : Frm} {h h' : Heap} {v : AV} (ho : opAt X E q p o fr h = some (v, h')) : h'.b = h.b ∧ ∀ b2, opAt X E q p o fr ⟨b2, h.t⟩ = some (v, ⟨b2, h'.t⟩) := by
 cases o <;> simp only [opKind] at hk <;> first | (cases hk; done) | skip
 rename_i c
 have hc : c.callee = .builtin .append := by
  unfold callKind at hk
  split at hk <;> first | (cases hk; done) | assumption
 unfold opAt at ho ⊢
 simp only [hc, stepOp, opCallee, opBuiltin] at ho ⊢
 unfold opAppend at ho ⊢
 split at ho
 ·split at ho
  ·rename_i hcond
   unfold appendAV at ho ⊢
   split at ho
   ·split at ho
    ·split at ho
     ·rename_i hc2
      split at ho
      ·cases ho
      ·split at ho
       ·rename_i h3
        cases ho
        exact ⟨rfl, fun b2 => by simp only [hcond, hc2, h3, if_true, and_self]⟩
       ·cases ho
      ·split at ho
       ·rename_i h3
        split at ho
        ·rename_i h4
         cases ho
         exact ⟨rfl, fun b2 => by simp only [hcond, hc2, h3, h4, if_true, and_self]⟩
        ·cases ho
       ·cases ho
     ·cases ho
    ·cases ho
   ·cases ho
  ·cases ho
 ·cases ho
theorem load_inv {t : TypeId} {i off : Nat} {h h' : Heap} {v : AV} (ho : opLoad X t (.ref i off) h = some (v, h')) : h' = h ∧ ∀ h2 : Heap, h2.b[i]? = h.b[i]? → opLoad X t (.ref i off) h2 = some (v, h2) := by
 unfold opLoad at ho ⊢
 simp only at ho ⊢
 split at ho
 ·rename_i c hb
  obtain ⟨h1, rfl⟩ := pair_map ho
  exact ⟨rfl, fun h2 he => by rw [he, hb]; simp only [h1]; rfl⟩
 ·cases ho
theorem store_inv {q : Nat} {t : TypeId} {i off : Nat} {x : AV} {h h' : Heap} {v : AV} (ho : opStore X q t (.ref i off) x h = some (v, h')) : ∃ y, h' = h.put i y := by
 unfold opStore at ho
 simp only at ho
 split at ho
 ·split at ho
  ·cases ho; exact ⟨_, rfl⟩
  ·cases ho
 ·cases ho
theorem put_other (h : Heap) {i j : Nat} (y : ABlk) (hne : j ≠ i) : (h.put i y).b[j]? = h.b[j]? := by
 simp [Heap.put, List.getElem?_set, Ne.symm hne]
theorem onHeap_some {r : Option (AV × Heap)} {h h' : Heap} {v : AV} (ho : onHeap r h = some (v, h')) : h' = h ∧ ∀ h2, onHeap r h2 = some (v, h2) := by
 unfold onHeap at ho ⊢
 obtain ⟨x, rfl, e⟩ := some_map ho
 cases e; exact ⟨rfl, fun _ => rfl⟩
theorem alone_inv {E : Eng} {q : Bool} {p : Nat × Nat} {o : Op} (hl : lone1 q o = true) {fr : Frm} {h h' : Heap} {v : AV} (ho : opAt X E q p o fr h = some (v, h')) : h' = h ∧ ∀ h2, opAt X E q p o fr h2 = some (v, h2) := by
 rw [alone_opAt hl] at ho
 obtain ⟨h1, h2⟩ := onHeap_some ho
 exact ⟨h1, fun h3 => by rw [alone_opAt hl]; exact h2 h3⟩
def Swaps (x y : Op) (qx qy : Bool) (fx fy : Frm) : Prop :=
 lone1 qx x = true ∨ lone1 qy y = true ∨ (opKind x = .read ∧ opKind y = .read) ∨ (opKind x = .read ∧ opKind y = .app) ∨ (opKind x = .app ∧ opKind y = .read) ∨
 (∃ t t' a b z i off j off', x = .load t (.tmp a) ∧ y = .store t' (.tmp b) z ∧ getF fx a = .ref i off ∧ getF fy b = .ref j off' ∧ i ≠ j) ∨
 (∃ t t' a b z i off j off', y = .load t (.tmp a) ∧ x = .store t' (.tmp b) z ∧ getF fy a = .ref i off ∧ getF fx b = .ref j off' ∧ i ≠ j)
theorem read_opAt {E : Eng} {q : Bool} {p : Nat × Nat} {o : Op} (hk : opKind o = .read) {fr : Frm} {h h' : Heap} {v : AV} (ho : opAt X E q p o fr h = some (v, h')) : h' = h ∧ ∀ h2 : Heap, h2.b = h.b → opAt X E q p o fr h2 = some (v, h2) := by
 have hnc : ∀ c, o = .call c → c.callee = .builtin .len := fun c e => by
  subst e
  simp only [opKind, callKind] at hk
  split at hk <;> first | (cases hk; done) | assumption
 have e : ∀ h, opAt X E q p o fr h = stepOp X p o fr h := fun h => by
  unfold opAt
  split
  ·rename_i c; rw [hnc c rfl]
  ·rfl
 rw [e] at ho
 obtain ⟨h1, h2⟩ := read_step hk ho
 exact ⟨h1, fun h3 he => by rw [e]; exact h2 h3 he⟩
theorem swap_opAt {E : Eng} {x y : Op} {qx qy : Bool} {px py : Nat × Nat} {fx fy : Frm} {h h1 h2 : Heap} {u v : AV} (hs : Swaps x y qx qy fx fy)
  (hx : opAt X E qx px x fx h = some (u, h1)) (hy : opAt X E qy py y fy h1 = some (v, h2)) : ∃ h3, opAt X E qy py y fy h = some (v, h3) ∧ opAt X E qx px x fx h3 = some (u, h2) := by
 rcases hs with hl | hl | ⟨k1, k2⟩ | ⟨k1, k2⟩ | ⟨k1, k2⟩ | ⟨t, t', a, b, z, i, off, j, off', rfl, rfl, ha, hb, hne⟩ | ⟨t, t', a, b, z, i, off, j, off', rfl, rfl, ha, hb, hne⟩
 ·obtain ⟨rfl, hall⟩ := alone_inv hl hx
  exact ⟨h2, hy, hall h2⟩
 ·obtain ⟨rfl, hall⟩ := alone_inv hl hy
  exact ⟨h, hall h, hx⟩
 ·obtain ⟨rfl, r1⟩ := read_opAt k1 hx
  obtain ⟨rfl, r2⟩ := read_opAt k2 hy
  exact ⟨_, hy, hx⟩
 ·obtain ⟨rfl, r1⟩ := read_opAt k1 hx
  obtain ⟨e, _⟩ := app_step k2 hy
  exact ⟨h2, hy, r1 h2 e⟩
 ·obtain ⟨rfl, r2⟩ := read_opAt k2 hy
  obtain ⟨e, _⟩ := app_step k1 hx
  exact ⟨h, r2 h e.symm, hx⟩
 ·simp only [opAt, stepOp, evo, ha, hb] at hx hy ⊢
  obtain ⟨rfl, r1⟩ := load_inv hx
  obtain ⟨y, rfl⟩ := store_inv hy
  exact ⟨_, hy, r1 _ (put_other _ _ hne)⟩
 ·simp only [opAt, stepOp, evo, ha, hb] at hx hy ⊢
  obtain ⟨y, rfl⟩ := store_inv hx
  obtain ⟨rfl, r1⟩ := load_inv hy
  exact ⟨h, r1 h (put_other _ _ hne).symm, hx⟩
noncomputable def gval (all : List Oper) (o : Oper) (fr : Frm) : Option Bool :=
 match o.guard with
 | none => some true
 | some g => match guardOf all g with
  | some (t, want) => match getF fr t with
   | .bool c => some (c == want)
   | .und => some false
   | _ => none
  | none => none
structure Behind (L : List Nat) (d : Option Tmp) (v : AV) (fr : Frm) (h' : Heap) (ms : List Nat) (s1 : St) : Prop where
 h : s1.h = h'
 ms : s1.ms = ms
 fi : FI L s1.fr
 fr : ∀ t, getF s1.fr t = if d = some t then v else getF fr t
theorem behind_set {fr fr0 : Frm} (hi : FI L fr0) (he : ∀ t, getF fr0 t = getF fr t) (d : Option Tmp) (v : AV) (h' : Heap) (ms : List Nat) : Behind L d v fr h' ms ⟨setD L fr0 d v, h', ms⟩ := by
 refine ⟨rfl, rfl, hi.setD _ _, fun t => ?_⟩
 cases d with
 | none => simpa [setD] using he t
 | some u =>
  simp only [setD, getF_set hi, Option.some.injEq]
  by_cases e : t = u
  ·subst e; simp
  ·have : ¬ u = t := fun h => e h.symm
   simp [e, this, he t]
def StepE (X : Tab) (E : Eng) (L : List Nat) (all : List Oper) (q : Bool) (p : Nat × Nat) (o : Oper) (s s1 : St) : Prop :=
 (gval all o s.fr = some true ∧ ∃ v h', opAt X E q p o.op s.fr s.h = some (v, h') ∧ Behind L o.dst v s.fr h' s.ms s1) ∨ (gval all o s.fr = some false ∧ Behind L o.dst .und s.fr s.h s.ms s1)
theorem evo_same {fr fr' : Frm} (he : ∀ t, getF fr t = getF fr' t) (x : Operand) : evo fr x = evo fr' x := by
 cases x <;> simp only [evo, he]
theorem again_same {fr : Frm} (hi : FI L fr) {t : Nat} {v : AV} (hv : getF fr t = v) : ∀ u, getF (setF L fr t v) u = getF fr u := fun u => by
 rw [getF_set hi]; split
 ·rename_i e; subst e; exact hv.symm
 ·rfl
theorem stepE_of {E : Eng} {all : List Oper} {q : Bool} {p : Nat × Nat} {o : Oper} {s s1 : St} (hi : FI L s.fr) (h : oneS X E L all q p o s = some s1) : StepE X E L all q p o s s1 := by
 obtain ⟨fr0, b, hg, hrest⟩ := oneS_inv h
 have hfr : (∀ t, getF fr0 t = getF s.fr t) ∧ FI L fr0 ∧ gval all o s.fr = some b := by
  cases hg with
  | plain hgd e => subst e; exact ⟨fun _ => rfl, hi, by simp [gval, hgd]⟩
  | yes g t want hgd hgo hv e => subst e; exact ⟨again_same hi hv, hi.set _ _, by simp [gval, hgd, hgo, hv]⟩
  | no g t want c hgd hgo hv hc e => subst e; exact ⟨again_same hi hv, hi.set _ _, by simp [gval, hgd, hgo, hv, hc]⟩
  | und g t want hgd hgo hv e => subst e; exact ⟨fun _ => rfl, hi, by simp [gval, hgd, hgo, hv]⟩
 obtain ⟨he, hi0, hgv⟩ := hfr
 rcases hrest with ⟨rfl, v, h', hop, rfl⟩ | ⟨rfl, rfl⟩
 ·rw [opAt_congr fun x _ => evo_same he x] at hop
  exact .inl ⟨hgv, v, h', hop, behind_set hi0 he _ _ _ _⟩
 ·exact .inr ⟨hgv, behind_set hi0 he _ _ _ _⟩
theorem oneS_true {E : Eng} {all : List Oper} {q : Bool} {p : Nat × Nat} {o : Oper} {s : St} (hi : FI L s.fr) (hg : gval all o s.fr = some true) {v : AV} {h' : Heap} (ho : opAt X E q p o.op s.fr s.h = some (v, h')) :
  ∃ s1, oneS X E L all q p o s = some s1 ∧ Behind L o.dst v s.fr h' s.ms s1 := by
 unfold gval at hg
 unfold oneS oneOp
 cases hgd : o.guard with
 | none =>
  simp only [thenK_eq, ho, Option.bind_some]
  exact ⟨_, rfl, behind_set hi (fun _ => rfl) _ _ _ _⟩
 | some g =>
  rw [hgd] at hg
  simp only at hg ⊢
  cases hgo : guardOf all g with
  | none => rw [hgo] at hg; cases hg
  | some tw =>
   obtain ⟨t, want⟩ := tw
   rw [hgo] at hg
   simp only at hg ⊢
   cases hv : getF s.fr t <;> rw [hv] at hg <;> first | (cases hg; done) | skip
   ·rename_i c
    simp only [Option.some.injEq, beq_iff_eq] at hg
    subst hg
    have hsame := again_same hi hv
    rw [← opAt_congr fun x _ => evo_same hsame x] at ho
    simp only [if_true, thenK_eq, setFK_eq, ho, Option.bind_some]
    exact ⟨_, rfl, behind_set (hi.set _ _) hsame _ _ _ _⟩
theorem oneS_false {E : Eng} {all : List Oper} {q : Bool} {p : Nat × Nat} {o : Oper} {s : St} (hi : FI L s.fr) (hg : gval all o s.fr = some false) :
  ∃ s1, oneS X E L all q p o s = some s1 ∧ Behind L o.dst .und s.fr s.h s.ms s1 := by
 unfold gval at hg
 unfold oneS oneOp
 cases hgd : o.guard with
 | none => rw [hgd] at hg; cases hg
 | some g =>
  rw [hgd] at hg
  simp only at hg ⊢
  cases hgo : guardOf all g with
  | none => rw [hgo] at hg; cases hg
  | some tw =>
   obtain ⟨t, want⟩ := tw
   rw [hgo] at hg
   simp only at hg ⊢
   cases hv : getF s.fr t <;> rw [hv] at hg <;> first | (cases hg; done) | skip
   ·rename_i c
    simp only [Option.some.injEq, beq_eq_false_iff_ne] at hg
    have hc : (!want) = c := by cases c <;> cases want <;> simp_all
    simp only [if_neg hg, setFK_eq, setDstK_eq, hc]
    exact ⟨_, rfl, behind_set (hi.set _ _) (again_same hi hv) _ _ _ _⟩
   ·simp only [setDstK_eq]
    exact ⟨_, rfl, behind_set hi (fun _ => rfl) _ _ _ _⟩
end
end
end Go.Proofs.YthkpjbgadkkeeaaGreat
