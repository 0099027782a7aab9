/- Halves torn from cards. Conditions: those of each law. -/
import Derived.Test.YtbfodfepgefloaaQ26
set_option linter.unusedSimpArgs false
set_option linter.unusedVariables false
namespace Go.Proofs.Ytbfodfepgefloaa
open Go.Proofs

def tornC (d : Dr) (x : List Int) (e : Nat) : Nat := ((turnL x 0).toNat + e) % d.cards.length
def tornM (d : Dr) (x : List Int) (e : Nat) : Nat := d.least.toNat + (turnL x (3 * e + 1)).toNat % (d.steps.toNat - d.least.toNat + 1)
def tornA (d : Dr) (x : List Int) (e : Nat) : Nat := (turnL x (3 * e + 2)).toNat % (d.steps.toNat - tornM d x e + 1)
def tornH (d : Dr) (x : List Int) (e i : Nat) : Int := if (turnL x (3 * e + i)).tmod 5 = 4 then -1 else max 0 ((cardE d (tornC d x e)).getD (tornA d x e + i) 0 - ((turnL x (3 * e + i)).tdiv 4).tmod (d.wear + 1))
def tornE (d : Dr) (x : List Int) (e n : Nat) : List Int := (List.range n).map (tornH d x e)
def tornP (d : Dr) (x : List Int) (e : Nat) : Card := ⟨(d.halves.getD e ⟨default, []⟩).name, tornE d x e (tornM d x e)⟩
def tornD (d : Dr) (x : List Int) (k : Nat) : Dr := { d with halves := (List.range k).map (tornP d x), zh := zT 2 k }
theorem tornE_len (d : Dr) (x : List Int) (e n : Nat) : (tornE d x e n).length = n := by simp [tornE]
theorem tornE_succ (d : Dr) (x : List Int) (e n : Nat) : tornE d x e (n + 1) = tornE d x e n ++ [tornH d x e n] := by unfold tornE; rw [List.range_succ, List.map_append]; rfl
theorem tornE_get (d : Dr) (x : List Int) (e : Nat) {n i : Nat} (h : i < n) : (tornE d x e n).getD i 0 = tornH d x e i := by
  unfold tornE
  rw [List.getD_eq_getElem?_getD, List.getElem?_map, List.getElem?_range h]; rfl
theorem tornC_lt (d : Dr) (x : List Int) (e : Nat) (h : 0 < d.cards.length) : tornC d x e < d.cards.length := Nat.mod_lt _ h
theorem tornC_ne (d : Dr) (x : List Int) {e j : Nat} (he : e < d.cards.length) (hj : j < e) : tornC d x j ≠ tornC d x e := by
  unfold tornC
  intro h
  generalize (turnL x 0).toNat = a at h
  have h1 : (a + e) % d.cards.length = (a + e) - d.cards.length * ((a + e) / d.cards.length) := by have := Nat.div_add_mod (a + e) d.cards.length; omega
  have h2 : (a + j) % d.cards.length = (a + j) - d.cards.length * ((a + j) / d.cards.length) := by have := Nat.div_add_mod (a + j) d.cards.length; omega
  have h3 := Nat.div_add_mod (a + e) d.cards.length
  have h4 := Nat.div_add_mod (a + j) d.cards.length
  have h5 : (a + j) / d.cards.length ≤ (a + e) / d.cards.length := Nat.div_le_div_right (by omega)
  by_cases h6 : (a + e) / d.cards.length = (a + j) / d.cards.length
  · rw [h6] at h3; omega
  · have h7 : d.cards.length * ((a + j) / d.cards.length + 1) ≤ d.cards.length * ((a + e) / d.cards.length) := Nat.mul_le_mul_left _ (by omega)
    rw [Nat.mul_add] at h7; omega
theorem tornM_rng {d : Dr} (ho : d.Ok) (x : List Int) (e : Nat) : d.least.toNat ≤ tornM d x e ∧ tornM d x e ≤ d.steps.toNat := by
  have := Nat.mod_lt (turnL x (3 * e + 1)).toNat (show 0 < d.steps.toNat - d.least.toNat + 1 by omega)
  have l1 := ho.l1
  have ls := ho.ls
  unfold tornM; omega
theorem tornA_rng {d : Dr} (ho : d.Ok) (x : List Int) (e : Nat) : tornA d x e + tornM d x e ≤ d.steps.toNat := by
  have := tornM_rng ho x e
  have h := Nat.mod_lt (turnL x (3 * e + 2)).toNat (show 0 < d.steps.toNat - tornM d x e + 1 by omega)
  unfold tornA; omega
theorem card_rng {d : Dr} (ho : d.Ok) {c : Nat} (hc : c < d.cards.length) {i : Nat} (hi : i < d.steps.toNat) : 0 ≤ (cardE d c).getD i 0 ∧ (cardE d c).getD i 0 ≤ 9 := by
  have hl := card_len ho hc
  have := (ho.ce _ (List.mem_of_getElem? (card_at d c hc))).2
  rw [List.getD_eq_getElem?_getD, List.getElem?_eq_getElem (by omega)]
  exact this _ (List.getElem_mem _)
theorem torn_worn {d : Dr} (ho : d.Ok) {x : List Int} (hx : ∀ n ∈ x, 0 ≤ n ∧ n ≤ 255) (n : Nat) : 0 ≤ ((turnL x n).tdiv 4).tmod (d.wear + 1) ∧ ((turnL x n).tdiv 4).tmod (d.wear + 1) ≤ d.wear := by
  have w0 := ho.w0
  have h := tmod_rng (Int.tdiv_nonneg (turnL_rng hx n).1 (show (0 : Int) ≤ 4 by omega)) (show (0 : Int) < d.wear + 1 by omega)
  omega
theorem tornH_rng {d : Dr} (ho : d.Ok) {x : List Int} (hx : ∀ n ∈ x, 0 ≤ n ∧ n ≤ 255) (hc : 0 < d.cards.length) (e : Nat) {i : Nat} (hi : i < tornM d x e) : -1 ≤ tornH d x e i ∧ tornH d x e i ≤ 9 ∧ fit1 d.wear ((cardE d (tornC d x e)).getD (tornA d x e + i) 0) (tornH d x e i) = true := by
  have h1 := tornA_rng ho x e
  have h2 := card_rng ho (tornC_lt d x e hc) (show tornA d x e + i < d.steps.toNat by omega)
  have h3 := torn_worn ho hx (3 * e + i)
  have w0 := ho.w0
  unfold tornH
  split
  · exact ⟨by omega, by omega, by simp [fit1]⟩
  · refine ⟨by omega, by omega, ?_⟩
    unfold fit1
    simp only [inR, Bool.or_eq_true, Bool.and_eq_true, decide_eq_true_eq]
    right; omega
theorem torn_beside {d : Dr} (ho : d.Ok) {x : List Int} (hx : ∀ n ∈ x, 0 ≤ n ∧ n ≤ 255) (hc : 0 < d.cards.length) (e : Nat) : besideB d.wear (cardE d (tornC d x e)) (tornE d x e (tornM d x e)) (tornA d x e) = true := by
  have h1 := tornA_rng ho x e
  have h2 := card_len ho (tornC_lt d x e hc)
  unfold besideB
  simp only [Bool.and_eq_true, decide_eq_true_eq, allTo_iff, tornE_len]
  refine ⟨by omega, fun i hi => ?_⟩
  rw [tornE_get _ _ _ hi]
  exact (tornH_rng ho hx hc e hi).2.2
theorem torn_half (d : Dr) (x : List Int) {k e : Nat} (he : e < k) : (tornD d x k).halves[e]? = some (tornP d x e) := by
  show ((List.range k).map (tornP d x))[e]? = _
  rw [List.getElem?_map, List.getElem?_range he]; rfl
theorem torn_len (d : Dr) (x : List Int) (k : Nat) : (tornD d x k).halves.length = k := by
  show ((List.range k).map (tornP d x)).length = k
  simp
theorem torn_ok {d : Dr} (ho : d.Ok) {x : List Int} (hx : ∀ n ∈ x, 0 ≤ n ∧ n ≤ 255) {k : Nat} (hk : k ≤ d.halves.length) (hc : k ≤ d.cards.length) : (tornD d x k).Ok := by
  have hh4 := ho.h4
  have s1 := ho.s1
  have l1 := ho.l1
  refine ⟨ho.s1, ho.s6, ho.l1, ho.ls, ho.w0, ho.w9, ho.c4, by rw [torn_len]; omega, ho.ce, fun c hcm => ?_, ho.cn, fun i j a b ha hb hij => ?_, ho.ck, fun c hcm => ?_⟩
  · obtain ⟨e, he, rfl⟩ := List.mem_map.1 hcm
    have he := List.mem_range.1 he
    have hm := tornM_rng ho x e
    show d.least ≤ ((tornE d x e (tornM d x e)).length : Int) ∧ ((tornE d x e (tornM d x e)).length : Int) ≤ d.steps ∧ _
    rw [tornE_len]
    refine ⟨by omega, by omega, fun n hn => ?_⟩
    obtain ⟨i, hi, rfl⟩ := List.mem_map.1 hn
    have := tornH_rng ho hx (by omega) e (List.mem_range.1 hi)
    omega
  · have hi : i < k := by have := (List.getElem?_eq_some_iff.1 ha).1; rw [torn_len] at this; exact this
    rw [torn_half d x hi] at ha
    rw [torn_half d x (by omega)] at hb
    cases ha; cases hb
    have h5 := ho.hn i j _ _ (half_at (show i < d.halves.length by omega)) (half_at (show j < d.halves.length by omega)) hij
    exact h5
  · obtain ⟨e, he, rfl⟩ := List.mem_map.1 hcm
    have he := List.mem_range.1 he
    have h5 := ho.hk _ (List.mem_of_getElem? (half_at (show e < d.halves.length by omega)))
    exact h5
theorem torn_fit {d : Dr} (ho : d.Ok) {x : List Int} (hx : ∀ n ∈ x, 0 ≤ n ∧ n ≤ 255) {k e : Nat} (hc : k ≤ d.cards.length) (he : e < k) : ((tornA d x e : Nat) : Int) ∈ fitN (tornD d x k) (tornC d x e) e := by
  have l1 := ho.l1
  have h1 := tornA_rng ho x e
  have h2 := tornM_rng ho x e
  refine mem_fitN.2 ⟨tornA d x e, by show _ < d.steps.toNat; omega, rfl, ?_⟩
  rw [List.getD_eq_getElem?_getD, torn_half d x he]
  exact torn_beside ho hx (by omega) e
def tornT (d : Dr) (x : List Int) (k : Nat) : List Int := (List.range k).map fun e => ((tornC d x e : Nat) : Int)
theorem tornT_get (d : Dr) (x : List Int) {k e : Nat} (he : e < k) : (tornT d x k).getD e 0 = ((tornC d x e : Nat) : Int) := by
  unfold tornT
  rw [List.getD_eq_getElem?_getD, List.getElem?_map, List.getElem?_range he]; rfl
theorem torn_truth {d : Dr} (ho : d.Ok) {x : List Int} (hx : ∀ n ∈ x, 0 ≤ n ∧ n ≤ 255) {k : Nat} (hc : k ≤ d.cards.length) : IsTruth (tornD d x k) k (tornT d x k) := by
  refine ⟨by simp [tornT], fun i hi => .inr ⟨tornC d x i, tornC_lt d x i (by omega), tornT_get d x hi, ?_, fun j hj => ?_⟩⟩
  · refine okHC_iff.2 ?_
    obtain ⟨s, h1, h2, h3⟩ := mem_fitN.1 (torn_fit ho hx hc hi)
    exact ⟨s, h1, h3⟩
  · rw [tornT_get d x (by omega)]
    have := tornC_ne d x (show i < d.cards.length by omega) hj
    omega
theorem torn_fair {d : Dr} (ho : d.Ok) {x : List Int} (hx : ∀ n ∈ x, 0 ≤ n ∧ n ≤ 255) {k : Nat} (hc : k ≤ d.cards.length) : tornT d x k ∈ fairL (tornD d x k) ∧ forged (tornD d x k) = [] := by
  have ht := torn_truth ho hx hc
  have hl : lostN (tornT d x k) = 0 := by
    rw [lostN_count _ _ rfl, List.count_eq_zero]
    intro h
    obtain ⟨e, _, he⟩ := List.mem_map.1 h
    omega
  have hh := torn_len d x k
  have ht2 : IsTruth (tornD d x k) (tornD d x k).halves.length (tornT d x k) := by rw [hh]; exact ht
  have hle := least_le ht2
  refine ⟨mem_fair.2 ⟨ht2, by omega⟩, ?_⟩
  have := forged_many (tornD d x k)
  have h2 := (mem_fair.1 (first_mem (tornD d x k))).2
  exact List.eq_nil_of_length_eq_zero (by omega)
theorem torn_whose {d : Dr} (ho : d.Ok) {x : List Int} (hx : ∀ n ∈ x, 0 ≤ n ∧ n ≤ 255) {k e : Nat} (hc : k ≤ d.cards.length) (he : e < k) : ((tornC d x e : Nat) : Int) ∈ whoseL (tornD d x k) e d.cards.length :=
  mem_whose.2 ⟨tornC d x e, tornC_lt d x e (by omega), rfl, _, (torn_fair ho hx hc).1, tornT_get d x he⟩
theorem torn_card {d : Dr} (ho : d.Ok) {x : List Int} (hx : ∀ n ∈ x, 0 ≤ n ∧ n ≤ 255) {k e : Nat} (hc : k ≤ d.cards.length) (he : e < k) (h : cardV (tornD d x k) e ≠ -1) : cardV (tornD d x k) e = ((tornC d x e : Nat) : Int) := by
  rw [← card_all h _ (torn_fair ho hx hc).1, tornT_get d x he]
end Go.Proofs.Ytbfodfepgefloaa
