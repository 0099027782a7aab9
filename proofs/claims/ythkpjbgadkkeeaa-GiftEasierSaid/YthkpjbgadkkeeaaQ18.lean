/- A gift without entries, and one whose letters cost less. Conditions: those of each law. -/
import Derived.Test.YthkpjbgadkkeeaaQ17
set_option linter.unusedSimpArgs false
set_option linter.unusedVariables false
namespace Go.Proofs.Ythkpjbgadkkeeaa
open Go.Proofs

def Fu.free (d : Fu) : Fu := { d with entries := [], ze := 0 }
theorem fits_free {d : Fu} (hd : d.fits) : d.free.fits := ⟨hd.zl, hd.zp, hd.zv, fun h => absurd rfl h, hd.ll, hd.lp, hd.lv, by show 0 < _; decide, hd.np⟩
theorem eF_free (d : Fu) : eF d.free = .agg [.int .i64 d.pence, .int .i64 d.days, .int .i64 d.opn, .int .i64 d.late, .int .i64 d.frm, .lst 0 d.zl (I d.lines), .lst 0 d.zp (d.people.map ePe), .lst 0 d.zv (d.visits.map eVi), .lst 0 0 []] := rfl
theorem check_free {d : Fu} (h : checkE d = 0) : checkE d.free = 0 := by
  have ho := ok_of_check h
  exact check_alike h ⟨ho.pence, rfl, ho.opn, ho.late, rfl, rfl, ho.line, rfl, rfl, .inr rfl⟩
theorem some_of_free {d : Fu} (h : checkE d = 0) (hn : d.entries = []) : someE d = true := by
  unfold someE
  rw [some_free (ok_of_check h) hn, h]; rfl
def low (a b : Int) : Int := if a - b > 0 then a - b else 0
theorem low_bd {a b n : Int} (ha : 0 ≤ a ∧ a ≤ n) (hb : 0 ≤ b) : 0 ≤ low a b ∧ low a b ≤ n ∧ low a b ≤ a := by unfold low; split <;> omega
def Fu.cheap (d : Fu) (opn late : Int) (kind : Nat) (line : Int) : Fu := { d with opn := opn, late := late, lines := d.lines.set kind line, zl := 1, entries := [], ze := 0 }
theorem fits_cheap {d : Fu} (hd : d.fits) (opn late : Int) (kind : Nat) (line : Int) : (d.cheap opn late kind line).fits :=
  ⟨fun _ => rfl, hd.zp, hd.zv, fun h => absurd rfl h, by show (d.lines.set kind line).length < _; rw [List.length_set]; exact hd.ll, hd.lp, hd.lv, by show 0 < _; decide, hd.np⟩
theorem eF_cheap (d : Fu) (opn late : Int) (kind : Nat) (line : Int) : eF (d.cheap opn late kind line) = .agg [.int .i64 d.pence, .int .i64 d.days, .int .i64 opn, .int .i64 late, .int .i64 d.frm, .lst 0 1 (I (d.lines.set kind line)), .lst 0 d.zp (d.people.map ePe), .lst 0 d.zv (d.visits.map eVi), .lst 0 0 []] := rfl
theorem check_cheap {d : Fu} (h : checkE d = 0) {opn late line : Int} (h1 : 0 ≤ opn ∧ opn ≤ 9) (h2 : 0 ≤ late ∧ late ≤ 9) (h3 : 0 ≤ line ∧ line ≤ 9) (kind : Nat) : checkE (d.cheap opn late kind line) = 0 := by
  have ho := ok_of_check h
  refine check_alike h ⟨ho.pence, rfl, h1, h2, rfl, ?_, fun n hn => ?_, rfl, rfl, .inr rfl⟩
  · show (d.lines.set kind line).length = _; rw [List.length_set]
  · rcases List.mem_or_eq_of_mem_set hn with hn | hn
    · exact ho.line n hn
    · rw [hn]; exact h3
theorem less_cheap {d : Fu} {opn late line : Int} (h1 : opn ≤ d.opn) (h2 : late ≤ d.late) {kind : Nat} (h3 : line ≤ d.lines.getD kind 0) : Less d.free (d.cheap opn late kind line) := by
  refine ⟨rfl, rfl, rfl, h1, h2, fun k => ?_, rfl, rfl⟩
  show (d.lines.set kind line).getD k 0 ≤ d.lines.getD k 0
  rw [List.getD_eq_getElem?_getD, List.getElem?_set]
  by_cases e : kind = k
  · rw [if_pos e]
    subst e
    by_cases hk : kind < d.lines.length
    · rw [if_pos hk]; exact h3
    · rw [if_neg hk, List.getD_eq_getElem?_getD, List.getElem?_eq_none (by omega)]; exact Int.le_refl _
  · rw [if_neg e, List.getD_eq_getElem?_getD]
    exact Int.le_refl _
theorem need_cheap {d : Fu} (h : checkE d = 0) {opn late line : Int} (h1 : (0 ≤ opn ∧ opn ≤ 9) ∧ opn ≤ d.opn) (h2 : (0 ≤ late ∧ late ≤ 9) ∧ late ≤ d.late) {kind : Nat} (h3 : (0 ≤ line ∧ line ≤ 9) ∧ line ≤ d.lines.getD kind 0) :
    needV (d.cheap opn late kind line) ≤ needV d.free := by
  have hc := check_cheap h h1.1 h2.1 h3.1 kind
  have hf := check_free h
  have := most_less (ok_of_check hf) (ok_of_check hc) (less_cheap h1.2 h2.2 h3.2) d.visits.length (Nat.le_refl _)
  have e1 : (d.cheap opn late kind line).visits.length = d.visits.length := rfl
  have e2 : (d.cheap opn late kind line).pence = d.pence := rfl
  have e3 : d.free.visits.length = d.visits.length := rfl
  have e4 : d.free.pence = d.pence := rfl
  unfold needV
  rw [e1, e2, e3, e4]
  split <;> split <;> omega
def refN (d : Fu) : List Int := bestL d.visits.length (bestW (fun w => decide (endsV d w 0 < 0)) d.visits.length (2 ^ d.visits.length))
theorem refuse_yes {d : Fu} (h : someE d = true) : refuseP d = (refN d, 0) := by unfold refuseP; rw [if_pos (enter_yes h)]; rfl
theorem refN_rich {d : Fu} (h : someE d = true) {p : Int} (hp : 0 ≤ p ∧ p ≤ 300) (hle : d.pence ≤ p) : (refN (d.rich p)).length ≤ (refN d).length := by
  obtain ⟨h1, h2⟩ := someE_yes h
  exact refuse_rich (ok_of_check h1) h2 (ok_of_check (check_rich h1 hp)) hle
end Go.Proofs.Ythkpjbgadkkeeaa
