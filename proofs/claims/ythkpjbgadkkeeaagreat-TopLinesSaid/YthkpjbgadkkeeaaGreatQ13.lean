/- The fewest entries that are wrong, and the fewest visits that are refused, by the program. Conditions: those of each law. -/
import Derived.Test.YthkpjbgadkkeeaaGreatQ12
set_option linter.unusedSimpArgs false
set_option linter.unusedVariables false
namespace Go.Proofs.YthkpjbgadkkeeaaGreat
open Go.Proofs
def bestL (n : Nat) : Option Nat → List Int
 | none => []
 | some s => bitsL s n
theorem bv_clean (n : Nat) (o : Option Nat) : (bv n o).clean = some (vI (bestL n o)) := by
 cases o with
 | none => simp only [bv_none, bestL, vI, go_sem, ↓reduceIte, simprocAttr]
 | some s => simp only [bv_some, bestL, vI, go_sem, ↓reduceIte, simprocAttr]
theorem bv_under (n k : Nat) (o : Option Nat) : (bv n o).under k = true := by
 cases o with
 | none => simp only [bv_none, go_sem, ↓reduceIte, simprocAttr]
 | some s => simp only [bv_some, vI, go_sem, ↓reduceIte, simprocAttr]
def wrongP (d : Fu) : List Int × Int := if checkE d = 0 then (bestL d.entries.length (bestW (someB d) d.entries.length (2 ^ d.entries.length)), 0) else ([], checkE d)
def refuseP (d : Fu) : List Int × Int := if enterE d 0 = 0 then (bestL d.visits.length (bestW (fun w => decide (endsV d w 0 < 0)) d.visits.length (2 ^ d.visits.length)), 0) else ([], enterE d 0)
def G18 (d : Fu) (s : Nat) : List ABlk := [.cells (eFc d), .cells (eFc d), .cells (eFs d 0 s), .cells [.ref 2 0]]
def G29 (d : Fu) (s : Nat) : List ABlk := [.cells (eFc d), .cells (eFc d), .cells (eFc d), .cells (eFs d s 0), .cells [.ref 3 0]]
theorem c62 {d : Fu} (hd : d.fits) (ho : d.Ok) (s w : Nat) (tb : List Bool) (hw : w < 32) : ∃ F, (EW tabX).call 67 [.int .i64 (w : Int), .ref 3 0] ⟨G18 d s, tb⟩ = some (.bool (someB d w), ⟨G18 d w, tb ++ F⟩) := by
 have h63 := c63 hd ho 0 hw 2 (G18 d w) tb rfl
 refine ⟨[], ?_⟩
 rw [w_call _ fn_67 rfl]
 simp only [G18, eFc, eFs, cast_zero] at h63 ⊢
 simp only [go_sem, ↓reduceIte, simprocAttr, h63]
theorem c67 {d : Fu} (hd : d.fits) (ho : d.Ok) (s w : Nat) (tb : List Bool) (hw : w < 32) : ∃ F, (EW tabX).call 62 [.int .i64 (w : Int), .ref 4 0] ⟨G29 d s, tb⟩ = some (.bool (decide (endsV d w 0 < 0)), ⟨G29 d w, tb ++ F⟩) := by
 obtain ⟨F, h66⟩ := c66 hd ho hw (but := 0) (by omega) 3 (G29 d w) tb rfl
 refine ⟨F, ?_⟩
 rw [w_call _ fn_62 rfl]
 simp only [G29, eFc, eFs, cast_zero] at h66 ⊢
 simp only [go_sem, ↓reduceIte, simprocAttr, h66]
theorem c18 (d : Fu) (hd : d.fits) (h : Heap) : callPure (EW tabX) 23 [eF d] h = some (vP (wrongP d), h) := by
 have hcl := eF_clean d
 have h9 := c9 d hd
 have hce : (checkF d).2.2 = checkE d := rfl
 rw [callPure_eq, w_call _ fn_23 rfl]
 unfold wrongP
 simp only [eF, eFc, tup3, hce] at h9 hcl
 by_cases h0 : checkE d = 0
 rotate_left
 ·have hne : (checkE d != 0) = true := by simpa using h0
  rw [if_neg h0]
  simp only [go_sem, ↓reduceIte, simprocAttr, eF, eFc, h9, hne, vP, vI]
 have ho := ok_of_check h0
 have he4 := ho.entries
 rw [if_pos h0]
 have h60 := c60 d [.cells (eFc d)] []
 obtain ⟨s', F, h61⟩ := c61 d.entries.length (by omega) 67 3 (someB d) (G18 d) 4 (fun _ => rfl) (by omega) rr_67 orc_67 0 [] (fun s w tb hw => c62 hd ho s w tb hw)
 generalize bestW (someB d) d.entries.length (2 ^ d.entries.length) = o at h61 ⊢
 have hbc := bv_clean d.entries.length o
 have hbu := fun k => bv_under d.entries.length k o
 simp only [G18, eF, eFc, eFs, cast_zero] at h60 h61
 simp only [go_sem, ↓reduceIte, simprocAttr] at h60 h61
 simp only [go_sem, ↓reduceIte, simprocAttr, eF, eFc, h9, h0, h60, h61, hbc, hbu, vP]
theorem c29 (d : Fu) (hd : d.fits) (h : Heap) : callPure (EW tabX) 20 [eF d] h = some (vP (refuseP d), h) := by
 have hcl := eF_clean d
 obtain ⟨hno, hyes⟩ := enter_fine d hd [.cells (eFc d)] []
 rw [callPure_eq, w_call _ fn_20 rfl]
 unfold refuseP
 by_cases h0 : enterE d 0 = 0
 rotate_left
 ·rw [if_neg h0]
  have hc := hno h0
  have hne : (enterE d 0 != 0) = true := by simpa using h0
  simp only [eF, eFc] at hc
  simp only [go_sem, ↓reduceIte, simprocAttr, eF, eFc, hc, hne, vP, vI]
 rw [if_pos h0]
 have hc := hyes h0
 obtain ⟨k1, k2, k3⟩ := enterE_zero h0
 have ho := ok_of_check k1
 obtain ⟨s', F, h61⟩ := c61 d.visits.length ho.visits 62 4 (fun w => decide (endsV d w 0 < 0)) (G29 d) 5 (fun _ => rfl) (by omega) rr_62 orc_62 0 [] (fun s w tb hw => c67 hd ho s w tb hw)
 generalize bestW (fun w => decide (endsV d w 0 < 0)) d.visits.length (2 ^ d.visits.length) = o at h61 ⊢
 have hbc := bv_clean d.visits.length o
 have hbu := fun k => bv_under d.visits.length k o
 simp only [HE, G29, eF, eFc, eFs, cast_zero] at hc h61
 simp only [go_sem, ↓reduceIte, simprocAttr] at hc h61
 simp only [go_sem, ↓reduceIte, simprocAttr, eF, eFc, hc, h61, hbc, hbu, vP]
end Go.Proofs.YthkpjbgadkkeeaaGreat
