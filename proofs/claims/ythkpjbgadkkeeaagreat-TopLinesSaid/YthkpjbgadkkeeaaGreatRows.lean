/-
  No cell of these rows narrows 'for every input' (looked for: loops, veiled, ifaces, maps, wideKeys, modest, calm, conditions, laid).
  DERIVED. THE GIVEN ROWS OF THIS SEAT. 8 by the template 'for every input the law returns true; each argument reads behind the call as it read before'; 0 by the template 'total and deterministic' (their statements: YthkpjbgadkkeeaaGreatTotals.lean).
  GIVEN WITH THE SEED: the statements are not yours to turn. If you find one false, say at which input.
  Laid BY PROGRAM, IN A SANDBOX (cutbox-rows.mjs): the forced cells as the released guide's own fill.sh prints them over the translation 18d3503c50529d4b… (all of the seat's roots in one cut). By AI agents, Wed Nov 11 2026. No macro, syntax, notation, axiom, sorry.
-/
import Derived.Test.YthkpjbgadkkeeaaGreatChecked
import GoSem.Claim
import GoSem.ClaimJoined
import GoSem.ClaimMapViews
import Derived.JoinedTies
import Derived.KernelRfl
namespace Go.Proofs.YthkpjbgadkkeeaaGreat
/- THE CELL 'sum', in the pinned program and in every row, IS THE sha256 OF THE DUMP (.gsa) THAT YthkpjbgadkkeeaaGreatProg.lean LOADS. Nothing in Lean hashes anything: it is a label: what it is worth is what the hold of that sum in a sandbox is worth. -/
noncomputable def Tryz.pinned : Pinned := { name := "ythkpjbgadkkeeaagreat", sum := "18d3503c50529d4b89c4fbd07d2514f769770e05c2161e3bb293e64b205780f6", checked := Tryz.checked }
namespace Rows
def none {H : Type} : Left H := { results := [], args := [] }

/-- 'escribanolaw11.GiftLefts': WHATEVER THE INPUT: true; the input reads as it did. -/
def giftLeftsSpec : ChangeSpec := { name := "giftLefts", fn := fun _ => fun
  | [d1, d2, d3] => { results := [.lit (.bool true)], args := [d1, d2, d3] }
  | _ => none }
def giftLeftsRow : OpenClaim := { program := "ythkpjbgadkkeeaagreat", sum := "18d3503c50529d4b89c4fbd07d2514f769770e05c2161e3bb293e64b205780f6", func := "escribano/escribanolaw11.GiftLefts", spec := "giftLefts", unfollowed := true, recurses := true, plainKeys := false, apart := false }
def GiftLeftsSaid : Prop := giftLeftsRow.holds Tryz.pinned (OpenSpec.ofChange giftLeftsSpec)

/-- ITS FALSE NEIGHBOUR: 'it returns false'. Refute it at one input. -/
def giftLeftsWrong : ChangeSpec := { name := "giftLefts", fn := fun _ => fun
  | [d1, d2, d3] => { results := [.lit (.bool false)], args := [d1, d2, d3] }
  | _ => none }
def GiftLeftsWrongFalsely : Prop := giftLeftsRow.holds Tryz.pinned (OpenSpec.ofChange giftLeftsWrong)

/-- 'escribanolaw11.GiftNeeds': WHATEVER THE INPUT: true; the input reads as it did. -/
def giftNeedsSpec : ChangeSpec := { name := "giftNeeds", fn := fun _ => fun
  | [d] => { results := [.lit (.bool true)], args := [d] }
  | _ => none }
def giftNeedsRow : OpenClaim := { program := "ythkpjbgadkkeeaagreat", sum := "18d3503c50529d4b89c4fbd07d2514f769770e05c2161e3bb293e64b205780f6", func := "escribano/escribanolaw11.GiftNeeds", spec := "giftNeeds", unfollowed := true, recurses := true, plainKeys := false, apart := false }
def GiftNeedsSaid : Prop := giftNeedsRow.holds Tryz.pinned (OpenSpec.ofChange giftNeedsSpec)

/-- ITS FALSE NEIGHBOUR: 'it returns false'. Refute it at one input. -/
def giftNeedsWrong : ChangeSpec := { name := "giftNeeds", fn := fun _ => fun
  | [d] => { results := [.lit (.bool false)], args := [d] }
  | _ => none }
def GiftNeedsWrongFalsely : Prop := giftNeedsRow.holds Tryz.pinned (OpenSpec.ofChange giftNeedsWrong)

/-- 'escribanolaw11.GiftRefuses': WHATEVER THE INPUT: true; the input reads as it did. -/
def giftRefusesSpec : ChangeSpec := { name := "giftRefuses", fn := fun _ => fun
  | [d] => { results := [.lit (.bool true)], args := [d] }
  | _ => none }
def giftRefusesRow : OpenClaim := { program := "ythkpjbgadkkeeaagreat", sum := "18d3503c50529d4b89c4fbd07d2514f769770e05c2161e3bb293e64b205780f6", func := "escribano/escribanolaw11.GiftRefuses", spec := "giftRefuses", unfollowed := true, recurses := true, plainKeys := false, apart := false }
def GiftRefusesSaid : Prop := giftRefusesRow.holds Tryz.pinned (OpenSpec.ofChange giftRefusesSpec)

/-- ITS FALSE NEIGHBOUR: 'it returns false'. Refute it at one input. -/
def giftRefusesWrong : ChangeSpec := { name := "giftRefuses", fn := fun _ => fun
  | [d] => { results := [.lit (.bool false)], args := [d] }
  | _ => none }
def GiftRefusesWrongFalsely : Prop := giftRefusesRow.holds Tryz.pinned (OpenSpec.ofChange giftRefusesWrong)

/-- 'escribanolaw11.GiftLasts': WHATEVER THE INPUT: true; the input reads as it did. -/
def giftLastsSpec : ChangeSpec := { name := "giftLasts", fn := fun _ => fun
  | [d1, d2] => { results := [.lit (.bool true)], args := [d1, d2] }
  | _ => none }
def giftLastsRow : OpenClaim := { program := "ythkpjbgadkkeeaagreat", sum := "18d3503c50529d4b89c4fbd07d2514f769770e05c2161e3bb293e64b205780f6", func := "escribano/escribanolaw11.GiftLasts", spec := "giftLasts", unfollowed := true, recurses := true, plainKeys := false, apart := false }
def GiftLastsSaid : Prop := giftLastsRow.holds Tryz.pinned (OpenSpec.ofChange giftLastsSpec)

/-- ITS FALSE NEIGHBOUR: 'it returns false'. Refute it at one input. -/
def giftLastsWrong : ChangeSpec := { name := "giftLasts", fn := fun _ => fun
  | [d1, d2] => { results := [.lit (.bool false)], args := [d1, d2] }
  | _ => none }
def GiftLastsWrongFalsely : Prop := giftLastsRow.holds Tryz.pinned (OpenSpec.ofChange giftLastsWrong)

/-- 'escribanolaw11.GiftLeft': WHATEVER THE INPUT: true; the input reads as it did. -/
def giftLeftSpec : ChangeSpec := { name := "giftLeft", fn := fun _ => fun
  | [d1, d2] => { results := [.lit (.bool true)], args := [d1, d2] }
  | _ => none }
def giftLeftRow : OpenClaim := { program := "ythkpjbgadkkeeaagreat", sum := "18d3503c50529d4b89c4fbd07d2514f769770e05c2161e3bb293e64b205780f6", func := "escribano/escribanolaw11.GiftLeft", spec := "giftLeft", unfollowed := true, recurses := true, plainKeys := false, apart := false }
def GiftLeftSaid : Prop := giftLeftRow.holds Tryz.pinned (OpenSpec.ofChange giftLeftSpec)

/-- ITS FALSE NEIGHBOUR: 'it returns false'. Refute it at one input. -/
def giftLeftWrong : ChangeSpec := { name := "giftLeft", fn := fun _ => fun
  | [d1, d2] => { results := [.lit (.bool false)], args := [d1, d2] }
  | _ => none }
def GiftLeftWrongFalsely : Prop := giftLeftRow.holds Tryz.pinned (OpenSpec.ofChange giftLeftWrong)

/-- 'escribanolaw11.GiftRefused': WHATEVER THE INPUT: true; the input reads as it did. -/
def giftRefusedSpec : ChangeSpec := { name := "giftRefused", fn := fun _ => fun
  | [d1, d2] => { results := [.lit (.bool true)], args := [d1, d2] }
  | _ => none }
def giftRefusedRow : OpenClaim := { program := "ythkpjbgadkkeeaagreat", sum := "18d3503c50529d4b89c4fbd07d2514f769770e05c2161e3bb293e64b205780f6", func := "escribano/escribanolaw11.GiftRefused", spec := "giftRefused", unfollowed := true, recurses := true, plainKeys := false, apart := false }
def GiftRefusedSaid : Prop := giftRefusedRow.holds Tryz.pinned (OpenSpec.ofChange giftRefusedSpec)

/-- ITS FALSE NEIGHBOUR: 'it returns false'. Refute it at one input. -/
def giftRefusedWrong : ChangeSpec := { name := "giftRefused", fn := fun _ => fun
  | [d1, d2] => { results := [.lit (.bool false)], args := [d1, d2] }
  | _ => none }
def GiftRefusedWrongFalsely : Prop := giftRefusedRow.holds Tryz.pinned (OpenSpec.ofChange giftRefusedWrong)

/-- 'escribanolaw11.GiftPaid': WHATEVER THE INPUT: true; the input reads as it did. -/
def giftPaidSpec : ChangeSpec := { name := "giftPaid", fn := fun _ => fun
  | [d1, d2] => { results := [.lit (.bool true)], args := [d1, d2] }
  | _ => none }
def giftPaidRow : OpenClaim := { program := "ythkpjbgadkkeeaagreat", sum := "18d3503c50529d4b89c4fbd07d2514f769770e05c2161e3bb293e64b205780f6", func := "escribano/escribanolaw11.GiftPaid", spec := "giftPaid", unfollowed := true, recurses := true, plainKeys := false, apart := false }
def GiftPaidSaid : Prop := giftPaidRow.holds Tryz.pinned (OpenSpec.ofChange giftPaidSpec)

/-- ITS FALSE NEIGHBOUR: 'it returns false'. Refute it at one input. -/
def giftPaidWrong : ChangeSpec := { name := "giftPaid", fn := fun _ => fun
  | [d1, d2] => { results := [.lit (.bool false)], args := [d1, d2] }
  | _ => none }
def GiftPaidWrongFalsely : Prop := giftPaidRow.holds Tryz.pinned (OpenSpec.ofChange giftPaidWrong)

/-- 'escribanotop.TopLines': WHATEVER THE INPUT: true; the input reads as it did. -/
def topLinesSpec : ChangeSpec := { name := "topLines", fn := fun _ => fun
  | [d1, d2, d3] => { results := [.lit (.bool true)], args := [d1, d2, d3] }
  | _ => none }
def topLinesRow : OpenClaim := { program := "ythkpjbgadkkeeaagreat", sum := "18d3503c50529d4b89c4fbd07d2514f769770e05c2161e3bb293e64b205780f6", func := "escribano/escribanotop.TopLines", spec := "topLines", inPlace := ["internal/abi.NoEscape"], unfollowed := true, recurses := true, plainKeys := false, apart := false }
def TopLinesSaid : Prop := topLinesRow.holds Tryz.pinned (OpenSpec.ofChange topLinesSpec)

/-- ITS FALSE NEIGHBOUR: 'it returns false'. Refute it at one input. -/
def topLinesWrong : ChangeSpec := { name := "topLines", fn := fun _ => fun
  | [d1, d2, d3] => { results := [.lit (.bool false)], args := [d1, d2, d3] }
  | _ => none }
def TopLinesWrongFalsely : Prop := topLinesRow.holds Tryz.pinned (OpenSpec.ofChange topLinesWrong)

/- THE SECOND FORM. 'bulk': how many values and letters a reading holds, each counted each time it is reached (what is shared counts as often as it is met; a slice's spare places count too). A statement '..UptoSaid' is the law's where the arguments, and the package variables that the reading takes, are together of bulk at most 1048576: NARROWER than '..Said'. Prove '..Said' where nothing that the law and all that it calls make is longer than what came in: it says more and counts as full. Else prove '..UptoSaid'. A law counts once. -/
mutual
def uptoBulk {H : Type} : DataW H → Nat
  | .lit (.string bytes) => bytes.length + 1
  | .lit _ => 1
  | .nil => 1
  | .ptr d => uptoBulk d + 1
  | .slice elems spare => uptoBulkAll elems + uptoBulkAll spare + 1
  | .agg parts => uptoBulkAll parts + 1
  | .iface _ d => uptoBulk d + 1
  | .map entries => uptoBulkEntries entries + 1
  | .held _ => 1
def uptoBulkAll {H : Type} : List (DataW H) → Nat
  | [] => 0
  | d :: r => uptoBulk d + uptoBulkAll r
def uptoBulkEntries {H : Type} : List (Lit × DataW H) → Nat
  | [] => 0
  | x :: r => uptoBulkEntry x + uptoBulkEntries r
def uptoBulkEntry {H : Type} : Lit × DataW H → Nat
  | (.string bytes, d) => bytes.length + uptoBulk d + 1
  | (_, d) => uptoBulk d + 1
 end
def uptoSmall : (H : Type) → List (DataW H) → Bool := fun _ ds => decide (uptoBulkAll ds ≤ 1048576)
def OpenSpec.upto (s : _root_.Go.ChangeSpec) : _root_.Go.OpenSpec := { _root_.Go.OpenSpec.ofChange s with cond := some uptoSmall }

/-- 'escribanolaw11.GiftLefts', WHERE WHAT IT READS IS OF BULK AT MOST 1048576: true; the input reads as it did. -/
def giftLeftsUptoRow : OpenClaim := { program := "ythkpjbgadkkeeaagreat", sum := "18d3503c50529d4b89c4fbd07d2514f769770e05c2161e3bb293e64b205780f6", func := "escribano/escribanolaw11.GiftLefts", spec := "giftLefts", unfollowed := true, recurses := true, plainKeys := false, apart := false, narrowed := true }
def GiftLeftsUptoSaid : Prop := giftLeftsUptoRow.holds Tryz.pinned (OpenSpec.upto giftLeftsSpec)

/-- 'escribanolaw11.GiftNeeds', WHERE WHAT IT READS IS OF BULK AT MOST 1048576: true; the input reads as it did. -/
def giftNeedsUptoRow : OpenClaim := { program := "ythkpjbgadkkeeaagreat", sum := "18d3503c50529d4b89c4fbd07d2514f769770e05c2161e3bb293e64b205780f6", func := "escribano/escribanolaw11.GiftNeeds", spec := "giftNeeds", unfollowed := true, recurses := true, plainKeys := false, apart := false, narrowed := true }
def GiftNeedsUptoSaid : Prop := giftNeedsUptoRow.holds Tryz.pinned (OpenSpec.upto giftNeedsSpec)

/-- 'escribanolaw11.GiftRefuses', WHERE WHAT IT READS IS OF BULK AT MOST 1048576: true; the input reads as it did. -/
def giftRefusesUptoRow : OpenClaim := { program := "ythkpjbgadkkeeaagreat", sum := "18d3503c50529d4b89c4fbd07d2514f769770e05c2161e3bb293e64b205780f6", func := "escribano/escribanolaw11.GiftRefuses", spec := "giftRefuses", unfollowed := true, recurses := true, plainKeys := false, apart := false, narrowed := true }
def GiftRefusesUptoSaid : Prop := giftRefusesUptoRow.holds Tryz.pinned (OpenSpec.upto giftRefusesSpec)

/-- 'escribanolaw11.GiftLasts', WHERE WHAT IT READS IS OF BULK AT MOST 1048576: true; the input reads as it did. -/
def giftLastsUptoRow : OpenClaim := { program := "ythkpjbgadkkeeaagreat", sum := "18d3503c50529d4b89c4fbd07d2514f769770e05c2161e3bb293e64b205780f6", func := "escribano/escribanolaw11.GiftLasts", spec := "giftLasts", unfollowed := true, recurses := true, plainKeys := false, apart := false, narrowed := true }
def GiftLastsUptoSaid : Prop := giftLastsUptoRow.holds Tryz.pinned (OpenSpec.upto giftLastsSpec)

/-- 'escribanolaw11.GiftLeft', WHERE WHAT IT READS IS OF BULK AT MOST 1048576: true; the input reads as it did. -/
def giftLeftUptoRow : OpenClaim := { program := "ythkpjbgadkkeeaagreat", sum := "18d3503c50529d4b89c4fbd07d2514f769770e05c2161e3bb293e64b205780f6", func := "escribano/escribanolaw11.GiftLeft", spec := "giftLeft", unfollowed := true, recurses := true, plainKeys := false, apart := false, narrowed := true }
def GiftLeftUptoSaid : Prop := giftLeftUptoRow.holds Tryz.pinned (OpenSpec.upto giftLeftSpec)

/-- 'escribanolaw11.GiftRefused', WHERE WHAT IT READS IS OF BULK AT MOST 1048576: true; the input reads as it did. -/
def giftRefusedUptoRow : OpenClaim := { program := "ythkpjbgadkkeeaagreat", sum := "18d3503c50529d4b89c4fbd07d2514f769770e05c2161e3bb293e64b205780f6", func := "escribano/escribanolaw11.GiftRefused", spec := "giftRefused", unfollowed := true, recurses := true, plainKeys := false, apart := false, narrowed := true }
def GiftRefusedUptoSaid : Prop := giftRefusedUptoRow.holds Tryz.pinned (OpenSpec.upto giftRefusedSpec)

/-- 'escribanolaw11.GiftPaid', WHERE WHAT IT READS IS OF BULK AT MOST 1048576: true; the input reads as it did. -/
def giftPaidUptoRow : OpenClaim := { program := "ythkpjbgadkkeeaagreat", sum := "18d3503c50529d4b89c4fbd07d2514f769770e05c2161e3bb293e64b205780f6", func := "escribano/escribanolaw11.GiftPaid", spec := "giftPaid", unfollowed := true, recurses := true, plainKeys := false, apart := false, narrowed := true }
def GiftPaidUptoSaid : Prop := giftPaidUptoRow.holds Tryz.pinned (OpenSpec.upto giftPaidSpec)

/-- 'escribanotop.TopLines', WHERE WHAT IT READS IS OF BULK AT MOST 1048576: true; the input reads as it did. -/
def topLinesUptoRow : OpenClaim := { program := "ythkpjbgadkkeeaagreat", sum := "18d3503c50529d4b89c4fbd07d2514f769770e05c2161e3bb293e64b205780f6", func := "escribano/escribanotop.TopLines", spec := "topLines", inPlace := ["internal/abi.NoEscape"], unfollowed := true, recurses := true, plainKeys := false, apart := false, narrowed := true }
def TopLinesUptoSaid : Prop := topLinesUptoRow.holds Tryz.pinned (OpenSpec.upto topLinesSpec)

end Rows
end Go.Proofs.YthkpjbgadkkeeaaGreat
