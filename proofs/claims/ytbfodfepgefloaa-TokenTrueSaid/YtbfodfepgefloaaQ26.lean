/- A drawer with all edges turned. Conditions: those of each law. -/
import Derived.Test.YtbfodfepgefloaaQ25
set_option linter.unusedSimpArgs false
set_option linter.unusedVariables false
namespace Go.Proofs.Ytbfodfepgefloaa
open Go.Proofs

def revC (c : Card) : Card := ⟨c.name, c.edge.reverse⟩
def revD (d : Dr) : Dr := { d with cards := d.cards.map revC, halves := d.halves.map revC, zc := zT 2 d.cards.length, zh := zT 2 d.halves.length }
theorem rev_getD {l : List Int} {i : Nat} (h : i < l.length) : l.reverse.getD i 0 = l.getD (l.length - 1 - i) 0 := by
  rw [List.getD_eq_getElem?_getD, List.getElem?_reverse h, ← List.getD_eq_getElem?_getD]
theorem revC_at (l : List Card) (i : Nat) : (l.map revC).getD i ⟨default, []⟩ = revC (l.getD i ⟨default, []⟩) := by
  rw [List.getD_eq_getElem?_getD, List.getD_eq_getElem?_getD, List.getElem?_map]
  cases l[i]? <;> rfl
theorem revD_card (d : Dr) (c : Nat) : cardE (revD d) c = (cardE d c).reverse := by
  show ((d.cards.map revC).getD c ⟨default, []⟩).edge = _
  rw [revC_at]; rfl
def halfE (d : Dr) (e : Nat) : List Int := (d.halves.getD e ⟨default, []⟩).edge
theorem revD_half (d : Dr) (e : Nat) : halfE (revD d) e = (halfE d e).reverse := by
  show ((d.halves.map revC).getD e ⟨default, []⟩).edge = _
  rw [revC_at]; rfl
theorem beside_rev {w : Int} {a b : List Int} {s r : Nat} (hs : s + b.length + r = a.length) : besideB w a.reverse b.reverse r = besideB w a b s := by
  have key : ∀ {a b : List Int} {s r : Nat}, s + b.length + r = a.length → besideB w a b s = true → besideB w a.reverse b.reverse r = true := fun {a b s r} hs h => by
    unfold besideB at h ⊢
    simp only [Bool.and_eq_true, decide_eq_true_eq, allTo_iff, List.length_reverse] at h ⊢
    refine ⟨by omega, fun i hi => ?_⟩
    have := h.2 (b.length - 1 - i) (by omega)
    rw [rev_getD (by omega), rev_getD hi]
    rw [show a.length - 1 - (r + i) = s + (b.length - 1 - i) by omega]
    exact this
  rw [Bool.eq_iff_iff]
  refine ⟨fun h => ?_, key hs⟩
  have := key (a := a.reverse) (b := b.reverse) (s := r) (r := s) (by simp; omega) h
  simpa using this
theorem beside_len {w : Int} {a b : List Int} {s : Nat} (h : besideB w a b s = true) : s + b.length ≤ a.length := by
  unfold besideB at h
  simp only [Bool.and_eq_true, decide_eq_true_eq] at h
  exact h.1
theorem near_rev (w : Int) (a b : List Int) (m : Nat) : nearB w a.reverse b.reverse m = nearB w a b m := by
  have key : ∀ {a b : List Int}, nearB w a b m = true → nearB w a.reverse b.reverse m = true := fun {a b} h => by
    obtain ⟨i, k, h1, h2, h3⟩ := nearB_iff.1 h
    refine nearB_iff.2 ⟨a.length - m - i, b.length - m - k, by simp; omega, by simp; omega, fun n hn => ?_⟩
    have := h3 (m - 1 - n) (by omega)
    rw [rev_getD (by omega), rev_getD (by omega)]
    rw [show a.length - 1 - (a.length - m - i + n) = i + (m - 1 - n) by omega, show b.length - 1 - (b.length - m - k + n) = k + (m - 1 - n) by omega]
    exact this
  rw [Bool.eq_iff_iff]
  refine ⟨fun h => ?_, key⟩
  have := key h
  simpa using this
theorem revC_ok {P : Int → Prop} {l : List Card} {Q : Int → Prop} (h : ∀ c ∈ l, Q (c.edge.length : Int) ∧ ∀ n ∈ c.edge, P n) : ∀ c ∈ l.map revC, Q (c.edge.length : Int) ∧ ∀ n ∈ c.edge, P n := by
  intro c hc
  obtain ⟨x, hx, rfl⟩ := List.mem_map.1 hc
  have := h x hx
  refine ⟨by show Q (x.edge.reverse.length : Int); rw [List.length_reverse]; exact this.1, fun n hn => this.2 n (List.mem_reverse.1 hn)⟩
theorem revC_names {l : List Card} (h : ∀ (i j : Nat) (x y : Card), l[i]? = some x → l[j]? = some y → j < i → y.name ≠ x.name) : ∀ (i j : Nat) (x y : Card), (l.map revC)[i]? = some x → (l.map revC)[j]? = some y → j < i → y.name ≠ x.name := by
  intro i j x y hx hy hij
  rw [List.getElem?_map] at hx hy
  obtain ⟨a, ha, rfl⟩ := Option.map_eq_some_iff.1 hx
  obtain ⟨b, hb, rfl⟩ := Option.map_eq_some_iff.1 hy
  exact h i j a b ha hb hij
theorem revD_ok {d : Dr} (ho : d.Ok) : (revD d).Ok := by
  refine ⟨ho.s1, ho.s6, ho.l1, ho.ls, ho.w0, ho.w9, by show (d.cards.map revC).length ≤ 4; rw [List.length_map]; exact ho.c4, by show (d.halves.map revC).length ≤ 4; rw [List.length_map]; exact ho.h4, ?_, ?_, revC_names ho.cn, revC_names ho.hn, fun c hc => ?_, fun c hc => ?_⟩
  · exact revC_ok (Q := fun n => n = d.steps) (P := fun n => 0 ≤ n ∧ n ≤ 9) ho.ce
  · intro c hc
    have := revC_ok (Q := fun n => d.least ≤ n ∧ n ≤ d.steps) (P := fun n => -1 ≤ n ∧ n ≤ 9) (fun c hc => ⟨⟨(ho.he c hc).1, (ho.he c hc).2.1⟩, (ho.he c hc).2.2⟩) c hc
    exact ⟨this.1.1, this.1.2, this.2⟩
  · obtain ⟨x, hx, rfl⟩ := List.mem_map.1 hc
    exact ho.ck x hx
  · obtain ⟨x, hx, rfl⟩ := List.mem_map.1 hc
    exact ho.hk x hx
theorem card_len {d : Dr} (ho : d.Ok) {c : Nat} (hc : c < d.cards.length) : (cardE d c).length = d.steps.toNat := by
  have := (ho.ce _ (List.mem_of_getElem? (card_at d c hc))).1
  have s1 := ho.s1
  unfold cardE; omega
theorem half_len {d : Dr} (ho : d.Ok) {e : Nat} (he : e < d.halves.length) : 1 ≤ (halfE d e).length ∧ (halfE d e).length ≤ d.steps.toNat := by
  have := ho.he _ (List.mem_of_getElem? (half_at he))
  have l1 := ho.l1
  have s1 := ho.s1
  unfold halfE; omega
theorem fitN_eq (d : Dr) (c e : Nat) : fitN d c e = ((List.range d.steps.toNat).filter fun s => besideB d.wear (cardE d c) (halfE d e) s).map fun (s : Nat) => (s : Int) := rfl
/-- The places, turned. -/
theorem fit_rev {d : Dr} (ho : d.Ok) {c e : Nat} (hc : c < d.cards.length) (he : e < d.halves.length) : ∀ x ∈ fitN d c e, d.steps - (halfE d e).length - x ∈ fitN (revD d) c e := by
  intro x hx
  have l1 := card_len ho hc
  obtain ⟨l2, l3⟩ := half_len ho he
  have s1 := ho.s1
  rw [fitN_eq] at hx ⊢
  obtain ⟨s, hs, rfl⟩ := List.mem_map.1 hx
  obtain ⟨h1, h2⟩ := List.mem_filter.1 hs
  have h3 := beside_len h2
  refine List.mem_map.2 ⟨d.steps.toNat - (halfE d e).length - s, List.mem_filter.2 ⟨List.mem_range.2 (by show _ < d.steps.toNat; omega), ?_⟩, by omega⟩
  rw [revD_card, revD_half]
  show besideB d.wear _ _ _ = true
  rw [beside_rev (s := s) (by omega)]; exact h2
theorem count_le (p : Nat → Bool) (n m : Nat) (hm : m ≤ n) (h : ∀ s, m ≤ s → p s = false) : ((List.range n).filter p).length = ((List.range m).filter p).length := by
  obtain ⟨k, rfl⟩ : ∃ k, n = m + k := ⟨n - m, by omega⟩
  rw [List.range_add, List.filter_append, List.length_append]
  have : List.filter p (List.map (fun x => m + x) (List.range k)) = [] := by
    rw [List.filter_eq_nil_iff]
    intro a ha
    obtain ⟨b, _, rfl⟩ := List.mem_map.1 ha
    rw [h _ (by omega)]; simp
  rw [this]; rfl
theorem count_rev (p q : Nat → Bool) : ∀ m, (∀ s, s < m → q (m - 1 - s) = p s) → ((List.range m).filter q).length = ((List.range m).filter p).length
  | 0, _ => rfl
  | m + 1, h => by
    have e : List.range (m + 1) = 0 :: (List.range m).map Nat.succ := List.range_succ_eq_map
    rw [show ((List.range (m + 1)).filter p).length = ((0 :: (List.range m).map Nat.succ).filter p).length by rw [e], List.range_succ, List.filter_append, List.length_append]
    have h0 : q m = p 0 := by have := h 0 (by omega); simpa using this
    have ih := count_rev (fun s => p (s + 1)) q m (fun s hs => by have := h (s + 1) (by omega); rw [← this]; congr 1; omega)
    rw [ih, List.filter_cons, List.filter_cons, List.filter_nil, List.filter_map, h0]
    cases p 0 <;> simp [Function.comp_def]
theorem fit_rev_len {d : Dr} (ho : d.Ok) {c e : Nat} (hc : c < d.cards.length) (he : e < d.halves.length) : (fitN (revD d) c e).length = (fitN d c e).length := by
  have l1 := card_len ho hc
  obtain ⟨l2, l3⟩ := half_len ho he
  have s1 := ho.s1
  rw [fitN_eq, fitN_eq, List.length_map, List.length_map, revD_card, revD_half]
  show ((List.range d.steps.toNat).filter fun s => besideB d.wear _ _ s).length = _
  rw [count_le _ _ (d.steps.toNat - (halfE d e).length + 1) (by omega) (fun s hs => ?_), count_le (fun s => besideB d.wear (cardE d c) (halfE d e) s) _ (d.steps.toNat - (halfE d e).length + 1) (by omega) (fun s hs => ?_)]
  · refine count_rev _ _ _ fun s hs => ?_
    exact beside_rev (by omega)
  · cases h : besideB d.wear (cardE d c) (halfE d e) s with
    | false => rfl
    | true => have := beside_len h; omega
  · cases h : besideB d.wear (cardE d c).reverse (halfE d e).reverse s with
    | false => rfl
    | true => have := beside_len h; simp only [List.length_reverse] at this; omega
theorem okHC_rev {d : Dr} (ho : d.Ok) {c e : Nat} (hc : c < d.cards.length) (he : e < d.halves.length) : okHC (revD d) e c = okHC d e c := by
  show decide (0 < (fitN (revD d) c e).length) = decide (0 < (fitN d c e).length)
  rw [fit_rev_len ho hc he]
theorem truths_congr {d d' : Dr} (hl : d'.cards.length = d.cards.length) : ∀ n, (∀ e c, e < n → c < d.cards.length → okHC d' e c = okHC d e c) → truthsL d' n = truthsL d n
  | 0, _ => rfl
  | n + 1, h => by
    unfold truthsL
    rw [truths_congr hl n fun e c he => h e c (by omega), hl]
    congr 1
    funext t
    unfold extK
    congr 1
    refine List.filter_congr fun i hi => ?_
    have hi := List.mem_range.1 hi
    match i, hi with
    | 0, _ => rfl
    | k + 1, hi =>
      show (!(t.any fun x => x == (k : Int)) && okHC d' n k) = (!(t.any fun x => x == (k : Int)) && okHC d n k)
      rw [h n k (by omega) (by omega)]
theorem first_rev {d : Dr} (ho : d.Ok) : fairL (revD d) = fairL d := by
  have hh : (revD d).halves.length = d.halves.length := List.length_map _
  have hcl : (revD d).cards.length = d.cards.length := List.length_map _
  unfold fairL
  rw [hh, truths_congr hcl d.halves.length fun e c he hc => okHC_rev ho hc he]
theorem met_rev (d : Dr) (m : Nat) : metB (revD d) m = metB d m := by
  have hcl : (revD d).cards.length = d.cards.length := List.length_map _
  unfold metB
  rw [hcl]
  congr 1; funext i; congr 1; funext k
  rw [revD_card, revD_card]
  exact near_rev _ _ _ _
theorem enough_rev {d : Dr} (ho : d.Ok) : enoughR (revD d) = enoughR d := by
  unfold enoughR
  rw [if_pos (checked ho), if_pos (checked (revD_ok ho))]
  simp only [met_rev]
  rfl
theorem alike_rev (d : Dr) (a b : Nat) : alikeB (revD d) a b = alikeB d a b := by
  unfold alikeB
  rw [revD_card, revD_card]
  exact near_rev _ _ _ _
end Go.Proofs.Ytbfodfepgefloaa
