/- The body of TokenAlikes. Conditions: those of each law. -/
import Derived.Test.YtbfodfepgefloaaQ17
set_option linter.unusedSimpArgs false
set_option linter.unusedVariables false
namespace Go.Proofs.Ytbfodfepgefloaa
open Go.Proofs

theorem alike_two (d : Dr) (hd : d.fits) (a b : Int) : ∃ x y, (∀ h, callPure (EW tabX) 30 [eD d, .int .i64 a, .int .i64 b] h = some (.tup [.bool x, .int .i64 y], h)) ∧ (∀ h, callPure (EW tabX) 31 [eD d, .int .i64 a, .int .i64 b] h = some (.tup [.bool x, .int .i64 y], h)) := by
  by_cases he : alikeE d a b = 0
  · have ha : askedE d a d.cards.length = 0 := by
      unfold alikeE at he
      by_cases ha : askedE d a d.cards.length = 0
      · exact ha
      · rw [if_neg ha] at he; exact he
    have hb : askedE d b d.cards.length = 0 := by
      unfold alikeE at he
      rw [if_pos ha] at he
      by_cases hb : askedE d b d.cards.length = 0
      · exact hb
      · rw [if_neg hb] at he; exact he
    obtain ⟨_, a0, _⟩ := asked_yes ha
    obtain ⟨_, b0, _⟩ := asked_yes hb
    obtain ⟨a, rfl⟩ : ∃ n : Nat, a = n := ⟨a.toNat, by omega⟩
    obtain ⟨b, rfl⟩ : ∃ n : Nat, b = n := ⟨b.toNat, by omega⟩
    exact ⟨_, _, c30_yes d hd a b he, c31_yes d hd a b he⟩
  · exact ⟨_, _, c30_no d hd a b he, c31_no d hd a b he⟩
theorem new_two (d : Dr) (hd : d.fits) (l : List Int) (hl : l.length < 1000000000000000000) : ∃ x y, (∀ h, callPure (EW tabX) 34 [eD d, .lst 0 1 (I l)] h = some (.tup [vI x, .int .i64 y], h)) ∧ (∀ h, callPure (EW tabX) 35 [eD d, .lst 0 1 (I l)] h = some (.tup [vI x, .int .i64 y], h)) ∧ x.length < 1000000000000000000 := by
  by_cases he : newE d l = 0
  · refine ⟨_, _, c34_yes d hd l 1 (fun _ => rfl) hl he, c35_yes d hd l 1 (fun _ => rfl) hl he, ?_⟩
    have := hd.lc
    unfold newL
    rw [List.length_map]
    have := List.length_filter_le (fun (c : Nat) => nearB d.wear l (cardE d c) d.least.toNat) (List.range d.cards.length)
    rw [List.length_range] at this
    omega
  · exact ⟨_, _, c34_no d hd l 1 (fun _ => rfl) hl he, c35_no d hd l 1 (fun _ => rfl) hl he, by decide⟩
theorem l6 (d : Dr) (hd : d.fits) (p : Int × Int) (_ : True) (l : List Int) (hl : l.length < 1000000000000000000) : ∃ h', (EW tabX).call 6 [eD d, .agg [.int .i64 p.1, .int .i64 p.2], .lst 0 1 (I l)] noHeap = some (.bool true, h') := by
  obtain ⟨a, b⟩ := p
  have hcl := eD_clean d
  have h21 := c21
  obtain ⟨x, y, h30, h31⟩ := alike_two d hd a b
  obtain ⟨u, v, h34, h35, hu⟩ := new_two d hd l hl
  have h32 := c32 d hd
  have h33 := c33 d hd
  have h20 := vI_same u hu
  have hbx : (x != x) = false := by simp
  rw [noHeap, w_call _ fn_6 rfl]
  refine ⟨?_, ?_⟩
  rotate_left
  · simp only [go_sem, ↓reduceIte, Nat.reduceBEq, Nat.reduceEqDiff, Nat.reduceLT, Nat.reduceLeDiff, Nat.reduceAdd, Nat.reduceMul, Nat.reduceSub, reduceCtorEq, Int.reduceLT, Int.reduceLE, Int.reduceEq, Int.reduceBEq, Int.reduceBNe, Int.reduceToNat, Int.reduceAdd, Int.reduceNeg, Int.reduceSub, eD, eDc, eC_under] at hcl h30 h31 h32 h33 h34 h35 ⊢
    simp only [go_sem, ↓reduceIte, Nat.reduceBEq, Nat.reduceEqDiff, Nat.reduceLT, Nat.reduceLeDiff, Nat.reduceAdd, Nat.reduceMul, Nat.reduceSub, reduceCtorEq, Int.reduceLT, Int.reduceLE, Int.reduceEq, Int.reduceBEq, Int.reduceBNe, Int.reduceToNat, Int.reduceAdd, Int.reduceNeg, Int.reduceSub, eC_clean, h30, h31, h32, h33, h34, h35, ne_same, hbx, vI_clean, h20, h21]
    rfl
end Go.Proofs.Ytbfodfepgefloaa
