/- A drawer that comes in, its rows' sizes fixed. Conditions: those of each law. -/
import Derived.Test.YtbfodfepgefloaaQ10
set_option linter.unusedSimpArgs false
set_option linter.unusedVariables false
namespace Go.Proofs.Ytbfodfepgefloaa
open Go.ChangeShapes Go.WideShapes Go.RowKit Go.Proofs
variable {H : Type} {enc : TypeId × Value → H} {W : World}
theorem rv_dr2 {C : Ctx} {y : Dr} (hf : y.fits) {v : Value} (h : Rv C (eD y) v) : Rv C (eD { y with zc := 2, zh := 2 }) v := by
  unfold eD eDc at h ⊢
  cases h with
  | agg cs xs he hh =>
    refine .agg _ _ (by simpa using he) fun i x hx => ?_
    match i, hx with
    | 0, hx => exact hh 0 x hx
    | 1, hx => exact hh 1 x hx
    | 2, hx => exact hh 2 x hx
    | 3, hx => obtain rfl : AV.lst 0 2 (y.cards.map eC) = x := Option.some.inj hx; exact rv_sz (hh 3 _ rfl) hf.zc
    | 4, hx => obtain rfl : AV.lst 0 2 (y.halves.map eC) = x := Option.some.inj hx; exact rv_sz (hh 4 _ rfl) hf.zh
set_option maxRecDepth 100000 in
theorem rd_dr2 {v : Value} {d : DataW H} {ps : List MemPlace} {b0 : Nat} (hv : Value.okWide Try.prog W .any b0 25 v) (h : DataW.Trod enc Try.prog W 0 (fun _ => true) true 25 v d ps) (hw : Light Try.prog 25 d) :
    ∃ y : Dr, (y.fits ∧ y.zc = 2 ∧ y.zh = 2) ∧ Rv (Ctx.start tabX W) (eD y) v := by
  obtain ⟨y, g, r⟩ := rd_dr hv h hw
  exact ⟨{ y with zc := 2, zh := 2 }, ⟨⟨fun _ => rfl, fun _ => rfl, g.lc, g.lh, g.nc, g.nh⟩, rfl, rfl⟩, rv_dr2 g r⟩
end Go.Proofs.Ytbfodfepgefloaa
