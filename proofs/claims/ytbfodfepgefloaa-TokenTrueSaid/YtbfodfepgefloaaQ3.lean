/- Parts of the proof, joined: What comes in, read as data of the abstract interpreter: integers, strings, rows, structs. Which slots of each function are read in another region than the one that wrote them (nothing rests on it: the others are forgotten), and which regions that draw their order lay nothing. Conditions: those of each law. -/
import Derived.Test.YtbfodfepgefloaaQ2
import Derived.SizedLaws
import Derived.Deep.Slices
import Derived.OpenShut
import Derived.Carry
set_option linter.unusedSimpArgs false
set_option linter.unusedVariables false
section
namespace Go.Proofs.Ytbfodfepgefloaa
open Go.ChangeShapes Go.WideShapes Go.RowKit

/-- No part of a datum is larger than what a machine holds. -/
def Light {H : Type} (P : Program) (t : TypeId) (d : DataW H) : Prop := ∀ n ∈ d.weights P t, n ≤ reachBytes
section
variable {H : Type} {enc : TypeId × Value → H} {P : Program}
theorem light_each {ts : List TypeId} {ds : List (DataW H)} (h : (DataW.weightsEach P ts ds).all (· ≤ reachBytes) = true) {j : Nat} {t : TypeId} {d : DataW H} (ht : ts[j]? = some t) (hd : ds[j]? = some d) : Light P t d := fun n hn => by
  have := List.all_eq_true.1 h n (DataW.weights_mem_each ht hd n hn)
  simpa using this
theorem light_struct {t : TypeId} {fs : Array Field} {parts : List (DataW H)} (ht : P.underlying t = some (.struct fs)) (h : Light P t (.agg parts)) {i : Nat} {f : Field} {d : DataW H} (hf : fs[i]? = some f) (hd : parts[i]? = some d) : Light P f.type d := fun n hn => by
  refine h n ?_
  simp only [DataW.weights, ht]
  exact DataW.weights_mem_each (j := i) (by rw [List.getElem?_map, Array.getElem?_toList, hf]; rfl) hd n hn
theorem weightsAll_mem {e : TypeId} : ∀ {l : List (DataW H)} {d : DataW H}, d ∈ l → ∀ n ∈ d.weights P e, n ∈ DataW.weightsAll P e l
  | x :: l, d, hd, n, hn => by
    simp only [DataW.weightsAll, List.mem_append]
    rcases List.mem_cons.1 hd with rfl | h
    · exact .inl hn
    · exact .inr (weightsAll_mem h n hn)
theorem light_slice {t e : TypeId} {elems spare : List (DataW H)} (ht : P.underlying t = some (.slice e)) (h : Light P t (.slice elems spare)) : elems.length * P.bytesOf e ≤ reachBytes ∧ ∀ d ∈ elems, Light P e d := by
  constructor
  · have := h ((elems.length + spare.length) * P.bytesOf e) (by simp only [DataW.weights, ht]; exact List.mem_cons_self)
    rw [Nat.add_mul] at this; omega
  · intro d hd n hn
    refine h n ?_
    simp only [DataW.weights, ht]
    exact List.mem_cons_of_mem _ (List.mem_append.2 (.inl (weightsAll_mem hd n hn)))

/-- A value, by its cells. -/
def eVal (ag : Bool) (cs : List Value) : Value := if ag then .agg cs.toArray else cs.headD undef
variable {W : World} {X : Tab}
/-- A row that comes in. -/
theorem rd_slice {α : Type} {t e : TypeId} (en : α → AV) (Q : α → Prop) (ag : Bool) (sz : Nat) (hsz : P.cellsOf e = sz) (hs0 : 0 < sz) (h1 : ag = true ∨ sz = 1) (ht : P.underlying t = some (.slice e))
    (he : ∀ (n : Nat) (cs : List Value) (d : DataW H) (ps : List MemPlace), cs.length = sz → DataW.trod enc P W 0 (fun _ => true) true n e cs = some (d, ps) → Light P e d → ∃ y, Q y ∧ Rv (Ctx.start X W) (en y) (eVal ag cs) ∧ (eVal ag cs).cells = cs.toArray)
    {n : Nat} {cs : List Value} {d : DataW H} {ps : List MemPlace} (h : DataW.trod enc P W 0 (fun _ => true) true n t cs = some (d, ps)) (hl : Light P t d) :
    ∃ (l : List α) (z : Nat) (v : Value), cs = [v] ∧ Rv (Ctx.start X W) (.lst 0 z (l.map en)) v ∧ (l ≠ [] → z = sz) ∧ l.length * P.bytesOf e ≤ reachBytes ∧ ∀ y ∈ l, Q y := by
  rcases Go.Deep.open_slice ht h with ⟨rfl, hx⟩ | ⟨a, len, cap, m, k, D, Pl, rfl, hb, hlc, hcm, hm, hx, hel⟩
  · exact ⟨[], 0, _, rfl, .lst 0 0 [] none 0 (fun _ => undef) (Nat.le_refl _) trivial (fun i x h => by simp at h) (fun i h => absurd h (Nat.not_lt_zero _)) (fun h => absurd h (Nat.lt_irrefl _)), fun h => absurd rfl h, by simp, fun y hy => by cases hy⟩
  · simp only [Prod.mk.injEq] at hx
    obtain ⟨rfl, _⟩ := hx
    obtain ⟨l1, l2⟩ := light_slice ht hl
    have hm' : len ≤ m := by rw [hm]; simpa using hlc
    have each : ∀ i, i < len → ∃ (p : α × List Value), Q p.1 ∧ Rv (Ctx.start X W) (en p.1) (eVal ag p.2) ∧ (eVal ag p.2).cells = p.2.toArray ∧ p.2.length = sz ∧ ∀ j, j < sz → W.cell? ((a.add (i * sz)).add j) = p.2[j]? := fun i hi => by
      obtain ⟨cs', h2, h3⟩ := hel i (by omega)
      rw [hsz] at h2
      obtain ⟨_, c1, c2⟩ := World.cells?_some h2
      obtain ⟨y, q1, q2, q3⟩ := he k cs' (D i) (Pl i) c1 h3 (l2 _ (by simp; exact ⟨i, hi, rfl⟩))
      exact ⟨(y, cs'), q1, q2, q3, c1, c2⟩
    have each2 : ∃ f : Nat → Option (α × List Value), ∀ i, i < len → ∃ p : α × List Value, f i = some p ∧ Q p.1 ∧ Rv (Ctx.start X W) (en p.1) (eVal ag p.2) ∧ (eVal ag p.2).cells = p.2.toArray ∧ p.2.length = sz ∧ ∀ j, j < sz → W.cell? ((a.add (i * sz)).add j) = p.2[j]? :=
      Go.Deep.choose_lt (p := fun i (x : Option (α × List Value)) => ∃ p : α × List Value, x = some p ∧ Q p.1 ∧ Rv (Ctx.start X W) (en p.1) (eVal ag p.2) ∧ (eVal ag p.2).cells = p.2.toArray ∧ p.2.length = sz ∧ ∀ j, j < sz → W.cell? ((a.add (i * sz)).add j) = p.2[j]?) fun i hi => by obtain ⟨p, hp⟩ := each i hi; exact ⟨some p, p, rfl, hp⟩
    obtain ⟨f, hf⟩ := each2
    have gl : ∀ k, k ≤ len → ∃ l : List α, l.length = k ∧ (∀ i y, l[i]? = some y → ∃ c, f i = some (y, c)) := fun k hk => by
      induction k with
      | zero => exact ⟨[], rfl, fun i y h => by simp at h⟩
      | succ k ih =>
        obtain ⟨l, h2, h3⟩ := ih (by omega)
        obtain ⟨⟨y, c⟩, hp, _⟩ := hf k (by omega)
        refine ⟨l ++ [y], by simp [h2], fun i z hz => ?_⟩
        rw [List.getElem?_append] at hz
        split at hz
        · exact h3 i z hz
        · rename_i hi
          have : i = k := by
            by_cases e0 : i - l.length = 0
            · omega
            · rw [List.getElem?_eq_none (by simp; omega)] at hz; cases hz
          subst this
          rw [h2, Nat.sub_self] at hz
          simp at hz; subst hz
          exact ⟨c, hp⟩
    obtain ⟨l, g1, g2⟩ := gl len (Nat.le_refl _)
    have hlen : (l.map en).length = len := by simp [g1]
    have hv := Rv.lst (C := Ctx.start X W) 0 sz (l.map en) (some a) cap (fun i => match f i with | some p => eVal ag p.2 | none => undef) (by rw [hlen]; exact hlc) trivial
      (fun i x hx => by
        rw [List.getElem?_map] at hx
        cases hy : l[i]? with
        | none => rw [hy] at hx; cases hx
        | some y =>
          rw [hy] at hx
          simp only [Option.map_some, Option.some.injEq] at hx
          subst hx
          have hi : i < len := by rw [← g1]; exact (List.getElem?_eq_some_iff.1 hy).1
          obtain ⟨c, hc⟩ := g2 i y hy
          obtain ⟨p, hp, _, r, _⟩ := hf i hi
          rw [hc] at hp
          simp only [Option.some.injEq] at hp
          subst hp
          simp only [hc]; exact r)
      (fun i hi => by
        obtain ⟨p, hp, _, _, r, r2, _⟩ := hf i (by omega)
        simp only [hp]; rw [r]; simpa using r2)
      (fun hn => by
        have hsp : a.spot = none := by
          obtain ⟨p, hp, _, _, _, r2, r3⟩ := hf 0 (by omega)
          have := r3 0 hs0
          rw [List.getElem?_eq_getElem (by omega)] at this
          have := World.cell?_spot (a := (a.add (0 * sz)).add 0) this
          simpa [Addr.add] using this
        refine ⟨a.block, a.off, by rw [← hsp], fun i hi j hj => ?_⟩
        obtain ⟨p, hp, _, _, r, r2, r3⟩ := hf i (by omega)
        simp only [hp]
        rw [r]
        have := r3 j hj
        simp only [Ctx.start, List.getElem?_toArray]
        rw [← this]
        have e0 : ∀ k, a.add k = ⟨a.block, a.off + k, none⟩ := fun k => by
          unfold Addr.add
          by_cases hk : k = 0
          · subst hk; simp only [if_true, Nat.add_zero]; rw [← hsp]
          · rw [if_neg hk]
        have e1 : ∀ (b o k : Nat), (⟨b, o, none⟩ : Addr).add k = ⟨b, o + k, none⟩ := fun b o k => by
          unfold Addr.add
          by_cases hk : k = 0
          · subst hk; rfl
          · rw [if_neg hk]
        rw [e0, e1])
    rw [hlen] at hv
    refine ⟨l, sz, _, rfl, hv, fun _ => rfl, by rw [g1]; simpa using l1, fun y hy => ?_⟩
    obtain ⟨i, hi, e⟩ := List.mem_iff_getElem.1 hy
    have hy' : l[i]? = some y := by rw [List.getElem?_eq_getElem hi, e]
    obtain ⟨c, hc⟩ := g2 i y hy'
    obtain ⟨p, hp, q, _⟩ := hf i (by omega)
    rw [hc] at hp
    simp only [Option.some.injEq] at hp
    subst hp
    exact q

/-- A number that comes in. -/
theorem rd_int {e : TypeId} (hu : P.underlying e = some (.int .i64)) (n : Nat) (cs : List Value) (d : DataW H) (ps : List MemPlace) (_ : cs.length = 1) (h : DataW.trod enc P W 0 (fun _ => true) true n e cs = some (d, ps)) (_ : Light P e d) :
    ∃ y : Int, (-9223372036854775808 ≤ y ∧ y ≤ 9223372036854775807) ∧ Rv (Ctx.start X W) (.int .i64 y) (eVal false cs) ∧ (eVal false cs).cells = cs.toArray := by
  obtain ⟨y, rfl, hx, hw⟩ := DataW.trod_int hu h
  refine ⟨y, ?_, .int _ _, rfl⟩
  exact bounds_i64 hw
/-- A row of numbers that comes in, as an argument. -/
theorem rd_ints {t e : TypeId} (ht : P.underlying t = some (.slice e)) (hu : P.underlying e = some (.int .i64)) (hc : P.cellsOf e = 1) (hb : P.bytesOf e = 8) {n : Nat} {cs : List Value} {d : DataW H} {ps : List MemPlace}
    (h : DataW.trod enc P W 0 (fun _ => true) true n t cs = some (d, ps)) (hl : Light P t d) :
    ∃ (l : List Int) (z : Nat) (v : Value), cs = [v] ∧ Rv (Ctx.start X W) (.lst 0 z (l.map (AV.int .i64))) v ∧ (l ≠ [] → z = 1) ∧ l.length < 1000000000000000000 ∧ ∀ y ∈ l, -9223372036854775808 ≤ y ∧ y ≤ 9223372036854775807 := by
  obtain ⟨l, z, v, h1, h2, h3, h4, h5⟩ := rd_slice (X := X) (AV.int .i64) (fun y => -9223372036854775808 ≤ y ∧ y ≤ 9223372036854775807) false 1 hc (by omega) (.inr rfl) ht (rd_int hu) h hl
  refine ⟨l, z, v, h1, h2, h3, ?_, h5⟩
  have := reachBytes_lt
  rw [hb] at h4
  omega
/-- An empty row has elements of any size. -/
theorem rv_nil {C : Ctx} {z : Nat} (z' : Nat) {v : Value} (h : Rv C (.lst 0 z []) v) : Rv C (.lst 0 z' []) v := by
  cases h with
  | lst _ _ _ a cap vs hc ht hx hs hr => exact .lst 0 z' [] a cap vs hc trivial (fun i x h => by simp at h) (fun i h => absurd h (Nat.not_lt_zero _)) (fun h => absurd h (Nat.lt_irrefl _))
theorem rv_sz {C : Ctx} {α : Type} {en : α → AV} {l : List α} {z sz : Nat} {v : Value} (h : Rv C (.lst 0 z (l.map en)) v) (hz : l ≠ [] → z = sz) : Rv C (.lst 0 sz (l.map en)) v := by
  cases l with
  | nil => exact rv_nil sz h
  | cons x l => rw [hz (by simp)] at h; exact h
end
end Go.Proofs.Ytbfodfepgefloaa
end
section
namespace Go.Proofs.Ytbfodfepgefloaa
def keepTab (n : Nat) : List Nat :=
  bif Nat.blt n 44 then (bif Nat.blt n 23 then (bif Nat.blt n 12 then (bif Nat.blt n 7 then (bif Nat.blt n 4 then (bif Nat.blt n 3 then ([]) else ([0, 1, 2, 3, 6, 7, 8, 9, 10, 11, 12, 13, 14, 39])) else (bif Nat.blt n 5 then ([0, 1, 2, 3, 4, 5, 6, 7, 8, 34]) else (bif Nat.blt n 6 then ([0, 1, 2, 4, 5, 6, 7, 8, 9, 10, 31]) else ([0, 1, 2, 3, 4, 6, 7, 8, 9, 10, 11, 12, 13, 14, 40, 58])))) else (bif Nat.blt n 9 then (bif Nat.blt n 8 then ([0, 1, 2, 3, 4, 5, 6, 7, 8, 9, 10, 11, 12, 13, 14, 15, 16, 17, 18, 19, 20, 21]) else ([0, 1, 2, 4, 7, 8, 9, 10, 11, 12, 13, 14, 15, 16, 17, 18, 19, 22, 52, 56, 124])) else (bif Nat.blt n 10 then ([0, 1, 2, 4, 6, 7, 8, 9, 10, 11, 12, 13, 14, 17, 42, 82, 84, 90, 108]) else (bif Nat.blt n 11 then ([0, 1, 2, 4, 5, 6, 7, 8, 9, 10, 11, 12, 26, 74, 78, 118]) else ([0, 1, 2, 3, 4, 5, 6, 7, 8, 9, 10, 11, 12, 13, 14, 15, 23, 49, 54, 59, 99, 104, 148]))))) else (bif Nat.blt n 17 then (bif Nat.blt n 14 then (bif Nat.blt n 13 then ([0, 1, 2, 3, 4, 5, 6, 7, 8, 9, 10, 11, 12, 13, 14, 15, 16, 17, 18, 19, 20, 21, 22, 23, 24, 25, 28, 71, 76, 83, 105, 109, 118, 121, 150]) else ([0, 1, 2, 4, 6, 7, 8, 9, 10, 11, 12, 13, 14, 15, 16, 17, 18, 19, 20, 23, 45, 73, 76, 83, 101, 106, 150])) else (bif Nat.blt n 15 then ([0, 1, 2, 3, 6, 7, 8, 9, 10, 11, 12, 13, 14, 15, 16, 17, 20, 30, 64, 68]) else (bif Nat.blt n 16 then ([0, 1, 2, 3, 4, 5, 6, 7, 8, 9, 10, 11, 12, 13, 14, 15, 16, 17, 18, 19, 20, 21, 22, 23, 24, 25, 26, 27, 28, 31, 40, 62, 127, 132, 139, 168, 172, 192, 195, 222]) else ([0, 1, 2, 3, 4, 5, 7, 9, 10, 29, 35, 36, 37, 38, 58, 64, 66, 67, 68, 69, 89])))) else (bif Nat.blt n 20 then (bif Nat.blt n 18 then ([0, 1, 2, 3, 4, 5, 6, 7, 8, 9, 27, 31, 36, 69, 81, 83, 89, 94, 130, 142, 144]) else (bif Nat.blt n 19 then ([0, 1, 2, 3, 6, 7, 8, 10, 21, 25, 36, 37, 38, 39, 48]) else ([0, 1, 2, 3, 6, 7, 8, 16, 24]))) else (bif Nat.blt n 21 then ([0, 1, 4]) else (bif Nat.blt n 22 then ([0, 1, 2, 3, 4, 5, 6, 7, 8, 9, 10, 11, 12, 13, 15, 16, 17, 18, 19, 20, 21, 22, 23, 25]) else ([0, 1, 2, 3, 4, 5, 6, 7, 14, 31, 32, 33])))))) else (bif Nat.blt n 33 then (bif Nat.blt n 28 then (bif Nat.blt n 25 then (bif Nat.blt n 24 then ([0, 1, 2, 3, 4, 7, 8, 16]) else ([0, 1, 2, 3, 4, 5, 7, 8, 9, 10, 11, 18, 25, 26, 27, 28, 34, 35, 36, 41, 59])) else (bif Nat.blt n 26 then ([0, 1, 2, 3, 6, 7, 8, 9, 10, 18, 29, 39]) else (bif Nat.blt n 27 then ([0, 1, 2, 4, 5, 6, 7, 8, 9, 12, 24, 31, 32, 33, 34, 40]) else ([0, 1, 2, 4, 5, 6, 7, 8, 9, 10, 11, 19, 27, 33, 48])))) else (bif Nat.blt n 30 then (bif Nat.blt n 29 then ([0, 1, 2, 4, 5, 6, 7, 8, 10, 12, 24, 36, 37, 38, 39, 50]) else ([0, 1, 2, 4, 5, 6, 7, 8, 9, 17, 30, 41, 43])) else (bif Nat.blt n 31 then ([0, 1, 2, 3, 6, 7, 8, 9, 21, 25]) else (bif Nat.blt n 32 then ([0, 1, 2, 3, 6, 7, 8, 16, 29, 31]) else ([0, 1, 2, 3, 4, 5, 6, 7, 8, 10, 17, 20, 21, 22, 23, 30, 31, 32, 33, 48, 56]))))) else (bif Nat.blt n 38 then (bif Nat.blt n 35 then (bif Nat.blt n 34 then ([0, 1, 2, 3, 6, 7, 8, 9, 10, 18, 23, 30, 35, 57]) else ([0, 1, 2, 4, 5, 6, 7, 8, 9, 10, 16, 20, 26, 30, 31, 32, 33, 43])) else (bif Nat.blt n 36 then ([0, 1, 2, 4, 5, 8, 9, 10, 25, 32, 34, 40, 53]) else (bif Nat.blt n 37 then ([0, 2, 3, 17]) else ([0, 1, 2, 5])))) else (bif Nat.blt n 41 then (bif Nat.blt n 39 then ([0, 1, 2, 4, 5, 6, 7, 8, 9, 10, 11, 12, 13, 14, 15, 16, 17, 18, 34, 72, 102]) else (bif Nat.blt n 40 then ([0, 1, 4, 5, 6, 10]) else ([0, 1, 2, 3, 4, 5, 6, 7, 16, 30, 40]))) else (bif Nat.blt n 42 then ([0, 1, 4, 5, 6, 10, 26]) else (bif Nat.blt n 43 then ([0, 1, 2, 6]) else ([0, 1, 2, 3, 6, 7, 8, 12, 29]))))))) else (bif Nat.blt n 65 then (bif Nat.blt n 54 then (bif Nat.blt n 49 then (bif Nat.blt n 46 then (bif Nat.blt n 45 then ([0, 1, 2, 3, 4, 5, 6, 7, 13, 19, 26, 47]) else ([0, 2, 3, 4, 8, 15])) else (bif Nat.blt n 47 then ([0, 1, 4, 5, 26, 32]) else (bif Nat.blt n 48 then ([0, 1, 2]) else ([0, 1, 4, 7])))) else (bif Nat.blt n 51 then (bif Nat.blt n 50 then ([0, 1, 2, 3, 6]) else ([0, 2, 3, 4, 9])) else (bif Nat.blt n 52 then ([0, 1, 2, 3, 4, 6]) else (bif Nat.blt n 53 then ([0, 1, 3]) else ([0, 1, 4, 5, 6, 7, 8, 9, 10, 11, 12, 21]))))) else (bif Nat.blt n 59 then (bif Nat.blt n 56 then (bif Nat.blt n 55 then ([0, 1, 2, 5]) else ([0, 1, 4, 5, 10, 15, 21, 28])) else (bif Nat.blt n 57 then ([0, 1, 3]) else (bif Nat.blt n 58 then ([0, 1, 2, 5]) else ([0, 1, 4, 5, 9, 12])))) else (bif Nat.blt n 62 then (bif Nat.blt n 60 then ([0, 1, 4, 5, 6, 10]) else (bif Nat.blt n 61 then ([0, 1, 2, 3, 6, 7, 10, 17, 21]) else ([0, 1, 2, 3, 6, 9, 24]))) else (bif Nat.blt n 63 then ([0, 2, 3, 4, 5, 14, 15, 16, 17, 24]) else (bif Nat.blt n 64 then ([0, 1, 4, 5, 6, 7, 8, 14]) else ([0, 1, 4, 5, 6, 7, 8, 9, 10, 11, 12, 19, 28, 35])))))) else (bif Nat.blt n 76 then (bif Nat.blt n 70 then (bif Nat.blt n 67 then (bif Nat.blt n 66 then ([0, 1, 2, 3, 8, 9, 10, 11, 16, 17, 18, 24, 25, 26, 59, 64]) else ([0, 1, 2, 3, 4, 8, 9, 10, 11, 12, 18, 26, 31, 56])) else (bif Nat.blt n 68 then ([0, 1, 2, 3, 4, 8, 9, 16, 20, 44]) else (bif Nat.blt n 69 then ([0, 1, 4]) else ([0, 1, 2, 4])))) else (bif Nat.blt n 73 then (bif Nat.blt n 71 then ([0, 2, 3, 4, 5, 7, 8, 9, 35]) else (bif Nat.blt n 72 then ([0, 1, 4]) else ([0, 1, 2, 3]))) else (bif Nat.blt n 74 then ([0, 1, 4, 5, 17, 23]) else (bif Nat.blt n 75 then ([0, 2, 3, 4, 5, 12]) else ([0, 1, 2, 3, 4, 5, 6, 7, 14, 15, 16, 20, 21, 22, 25, 26, 27, 35]))))) else (bif Nat.blt n 81 then (bif Nat.blt n 78 then (bif Nat.blt n 77 then ([0, 1, 2]) else ([0, 1, 4, 5, 6, 11, 12, 13, 16, 19])) else (bif Nat.blt n 79 then ([0, 1, 4, 5, 7, 8, 9, 16]) else (bif Nat.blt n 80 then ([0, 1, 2, 3, 4, 6]) else ([0, 1, 4, 5, 7, 8, 9, 16])))) else (bif Nat.blt n 84 then (bif Nat.blt n 82 then ([0, 1, 3, 4, 5, 6, 7, 8, 36, 37, 38, 39, 40, 60]) else (bif Nat.blt n 83 then ([0, 1, 2, 3, 4, 5]) else ([0, 1, 2, 6, 7, 12, 13, 14, 25]))) else (bif Nat.blt n 85 then ([0, 1, 2, 3, 4, 5, 6, 7, 11, 12, 20, 34, 40, 41, 42, 55, 69]) else (bif Nat.blt n 86 then ([0, 2]) else ([0, 1, 2, 4])))))))
def hushTab (f r : Nat) : Bool := (Nat.beq f 8 && Nat.beq r 11) || (Nat.beq f 10 && Nat.beq r 10) || (Nat.beq f 15 && Nat.beq r 34) || (Nat.beq f 17 && Nat.beq r 11) || (Nat.beq f 17 && Nat.beq r 25) || (Nat.beq f 31 && Nat.beq r 8) || (Nat.beq f 33 && Nat.beq r 14) || (Nat.beq f 35 && Nat.beq r 12) || (Nat.beq f 38 && Nat.beq r 9) || (Nat.beq f 38 && Nat.beq r 10) || (Nat.beq f 38 && Nat.beq r 16) || (Nat.beq f 43 && Nat.beq r 5) || (Nat.beq f 46 && Nat.beq r 2) || (Nat.beq f 46 && Nat.beq r 6) || (Nat.beq f 62 && Nat.beq r 7) || (Nat.beq f 65 && Nat.beq r 8) || (Nat.beq f 66 && Nat.beq r 11) || (Nat.beq f 67 && Nat.beq r 6) || (Nat.beq f 81 && Nat.beq r 1) || (Nat.beq f 81 && Nat.beq r 7)
end Go.Proofs.Ytbfodfepgefloaa
end
