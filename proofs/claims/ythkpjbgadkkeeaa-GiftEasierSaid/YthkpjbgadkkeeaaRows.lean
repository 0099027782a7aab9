/-
  No cell of these rows narrows 'for every input' (looked for: loops, veiled, ifaces, maps, wideKeys, modest, calm, conditions, laid).
  DERIVED. THE GIVEN ROWS OF THIS SEAT. 6 by the template 'for every input the law returns true; each argument reads behind the call as it read before'; 0 by the template 'total and deterministic' (their statements: YthkpjbgadkkeeaaTotals.lean).
  GIVEN WITH THE SEED: the statements are not yours to turn. If you find one false, say at which input.
  Laid BY PROGRAM, IN A SANDBOX (cutbox-rows.mjs): the forced cells as the released guide's own fill.sh prints them over the translation 4c334a3266c7a54c… (all of the seat's roots in one cut). By AI agents, Wed Nov 11 2026. No macro, syntax, notation, axiom, sorry.
-/
import Derived.Test.YthkpjbgadkkeeaaChecked
import GoSem.Claim
import GoSem.ClaimJoined
import GoSem.ClaimMapViews
import Derived.JoinedTies
import Derived.KernelRfl
namespace Go.Proofs.Ythkpjbgadkkeeaa
/- THE CELL 'sum', in the pinned program and in every row, IS THE sha256 OF THE DUMP (.gsa) THAT YthkpjbgadkkeeaaProg.lean LOADS. Nothing in Lean hashes anything: it is a label: what it is worth is what the hold of that sum in a sandbox is worth. -/
noncomputable def Try.pinned : Pinned := { name := "ythkpjbgadkkeeaa", sum := "4c334a3266c7a54cdf46441d53477328b47f2d080cb77d0d6b9bd2f48bc97d2c", checked := Try.checked }
namespace Rows
def none {H : Type} : Left H := { results := [], args := [] }

/-- 'escribanolaw11.GiftFees': WHATEVER THE INPUT: true; the input reads as it did. -/
def giftFeesSpec : ChangeSpec := { name := "giftFees", fn := fun _ => fun
  | [d1, d2] => { results := [.lit (.bool true)], args := [d1, d2] }
  | _ => none }
def giftFeesRow : OpenClaim := { program := "ythkpjbgadkkeeaa", sum := "4c334a3266c7a54cdf46441d53477328b47f2d080cb77d0d6b9bd2f48bc97d2c", func := "escribano/escribanolaw11.GiftFees", spec := "giftFees", unfollowed := true, recurses := true, plainKeys := false, apart := false }
def GiftFeesSaid : Prop := giftFeesRow.holds Try.pinned (OpenSpec.ofChange giftFeesSpec)

/-- ITS FALSE NEIGHBOUR: 'it returns false'. Refute it at one input. -/
def giftFeesWrong : ChangeSpec := { name := "giftFees", fn := fun _ => fun
  | [d1, d2] => { results := [.lit (.bool false)], args := [d1, d2] }
  | _ => none }
def GiftFeesWrongFalsely : Prop := giftFeesRow.holds Try.pinned (OpenSpec.ofChange giftFeesWrong)

/-- 'escribanolaw11.GiftKnown': WHATEVER THE INPUT: true; the input reads as it did. -/
def giftKnownSpec : ChangeSpec := { name := "giftKnown", fn := fun _ => fun
  | [] => { results := [.lit (.bool true)], args := [] }
  | _ => none }
def giftKnownRow : OpenClaim := { program := "ythkpjbgadkkeeaa", sum := "4c334a3266c7a54cdf46441d53477328b47f2d080cb77d0d6b9bd2f48bc97d2c", func := "escribano/escribanolaw11.GiftKnown", spec := "giftKnown", unfollowed := true, recurses := true, plainKeys := false, apart := false }
def GiftKnownSaid : Prop := giftKnownRow.holds Try.pinned (OpenSpec.ofChange giftKnownSpec)

/-- ITS FALSE NEIGHBOUR: 'it returns false'. Refute it at one input. -/
def giftKnownWrong : ChangeSpec := { name := "giftKnown", fn := fun _ => fun
  | [] => { results := [.lit (.bool false)], args := [] }
  | _ => none }
def GiftKnownWrongFalsely : Prop := giftKnownRow.holds Try.pinned (OpenSpec.ofChange giftKnownWrong)

/-- 'escribanolaw11.GiftEnough': WHATEVER THE INPUT: true; the input reads as it did. -/
def giftEnoughSpec : ChangeSpec := { name := "giftEnough", fn := fun _ => fun
  | [d] => { results := [.lit (.bool true)], args := [d] }
  | _ => none }
def giftEnoughRow : OpenClaim := { program := "ythkpjbgadkkeeaa", sum := "4c334a3266c7a54cdf46441d53477328b47f2d080cb77d0d6b9bd2f48bc97d2c", func := "escribano/escribanolaw11.GiftEnough", spec := "giftEnough", unfollowed := true, recurses := true, plainKeys := false, apart := false }
def GiftEnoughSaid : Prop := giftEnoughRow.holds Try.pinned (OpenSpec.ofChange giftEnoughSpec)

/-- ITS FALSE NEIGHBOUR: 'it returns false'. Refute it at one input. -/
def giftEnoughWrong : ChangeSpec := { name := "giftEnough", fn := fun _ => fun
  | [d] => { results := [.lit (.bool false)], args := [d] }
  | _ => none }
def GiftEnoughWrongFalsely : Prop := giftEnoughRow.holds Try.pinned (OpenSpec.ofChange giftEnoughWrong)

/-- 'escribanolaw11.GiftEntries': WHATEVER THE INPUT: true; the input reads as it did. -/
def giftEntriesSpec : ChangeSpec := { name := "giftEntries", fn := fun _ => fun
  | [d1, d2] => { results := [.lit (.bool true)], args := [d1, d2] }
  | _ => none }
def giftEntriesRow : OpenClaim := { program := "ythkpjbgadkkeeaa", sum := "4c334a3266c7a54cdf46441d53477328b47f2d080cb77d0d6b9bd2f48bc97d2c", func := "escribano/escribanolaw11.GiftEntries", spec := "giftEntries", unfollowed := true, recurses := true, plainKeys := false, apart := false }
def GiftEntriesSaid : Prop := giftEntriesRow.holds Try.pinned (OpenSpec.ofChange giftEntriesSpec)

/-- ITS FALSE NEIGHBOUR: 'it returns false'. Refute it at one input. -/
def giftEntriesWrong : ChangeSpec := { name := "giftEntries", fn := fun _ => fun
  | [d1, d2] => { results := [.lit (.bool false)], args := [d1, d2] }
  | _ => none }
def GiftEntriesWrongFalsely : Prop := giftEntriesRow.holds Try.pinned (OpenSpec.ofChange giftEntriesWrong)

/-- 'escribanolaw11.GiftMore': WHATEVER THE INPUT: true; the input reads as it did. -/
def giftMoreSpec : ChangeSpec := { name := "giftMore", fn := fun _ => fun
  | [d1, d2] => { results := [.lit (.bool true)], args := [d1, d2] }
  | _ => none }
def giftMoreRow : OpenClaim := { program := "ythkpjbgadkkeeaa", sum := "4c334a3266c7a54cdf46441d53477328b47f2d080cb77d0d6b9bd2f48bc97d2c", func := "escribano/escribanolaw11.GiftMore", spec := "giftMore", unfollowed := true, recurses := true, plainKeys := false, apart := false }
def GiftMoreSaid : Prop := giftMoreRow.holds Try.pinned (OpenSpec.ofChange giftMoreSpec)

/-- ITS FALSE NEIGHBOUR: 'it returns false'. Refute it at one input. -/
def giftMoreWrong : ChangeSpec := { name := "giftMore", fn := fun _ => fun
  | [d1, d2] => { results := [.lit (.bool false)], args := [d1, d2] }
  | _ => none }
def GiftMoreWrongFalsely : Prop := giftMoreRow.holds Try.pinned (OpenSpec.ofChange giftMoreWrong)

/-- 'escribanolaw11.GiftEasier': WHATEVER THE INPUT: true; the input reads as it did. -/
def giftEasierSpec : ChangeSpec := { name := "giftEasier", fn := fun _ => fun
  | [d1, d2] => { results := [.lit (.bool true)], args := [d1, d2] }
  | _ => none }
def giftEasierRow : OpenClaim := { program := "ythkpjbgadkkeeaa", sum := "4c334a3266c7a54cdf46441d53477328b47f2d080cb77d0d6b9bd2f48bc97d2c", func := "escribano/escribanolaw11.GiftEasier", spec := "giftEasier", unfollowed := true, recurses := true, plainKeys := false, apart := false }
def GiftEasierSaid : Prop := giftEasierRow.holds Try.pinned (OpenSpec.ofChange giftEasierSpec)

/-- ITS FALSE NEIGHBOUR: 'it returns false'. Refute it at one input. -/
def giftEasierWrong : ChangeSpec := { name := "giftEasier", fn := fun _ => fun
  | [d1, d2] => { results := [.lit (.bool false)], args := [d1, d2] }
  | _ => none }
def GiftEasierWrongFalsely : Prop := giftEasierRow.holds Try.pinned (OpenSpec.ofChange giftEasierWrong)

/- THE SECOND FORM. 'bulk': how many values and letters a reading holds, each counted each time it is reached (what is shared counts as often as it is met; a slice's spare places count too). A statement '..UptoSaid' is the law's where the arguments, and the package variables that the reading takes, are together of bulk at most 1048576: NARROWER than '..Said'. Prove '..Said' where nothing that the law and all that it calls make is longer than what came in: it says more and counts as full. Else prove '..UptoSaid'. A law counts once. -/
mutual
def uptoBulk {H : Type} : DataW H → Nat
  | .lit (.string bytes) => bytes.length + 1
  | .lit _ => 1
  | .nil => 1
  | .ptr d => uptoBulk d + 1
  | .slice elems spare => uptoBulkAll elems + uptoBulkAll spare + 1
  | .agg parts => uptoBulkAll parts + 1
  | .iface _ d => uptoBulk d + 1
  | .map entries => uptoBulkEntries entries + 1
  | .held _ => 1
def uptoBulkAll {H : Type} : List (DataW H) → Nat
  | [] => 0
  | d :: r => uptoBulk d + uptoBulkAll r
def uptoBulkEntries {H : Type} : List (Lit × DataW H) → Nat
  | [] => 0
  | x :: r => uptoBulkEntry x + uptoBulkEntries r
def uptoBulkEntry {H : Type} : Lit × DataW H → Nat
  | (.string bytes, d) => bytes.length + uptoBulk d + 1
  | (_, d) => uptoBulk d + 1
 end
def uptoSmall : (H : Type) → List (DataW H) → Bool := fun _ ds => decide (uptoBulkAll ds ≤ 1048576)
def OpenSpec.upto (s : _root_.Go.ChangeSpec) : _root_.Go.OpenSpec := { _root_.Go.OpenSpec.ofChange s with cond := some uptoSmall }

/-- 'escribanolaw11.GiftFees', WHERE WHAT IT READS IS OF BULK AT MOST 1048576: true; the input reads as it did. -/
def giftFeesUptoRow : OpenClaim := { program := "ythkpjbgadkkeeaa", sum := "4c334a3266c7a54cdf46441d53477328b47f2d080cb77d0d6b9bd2f48bc97d2c", func := "escribano/escribanolaw11.GiftFees", spec := "giftFees", unfollowed := true, recurses := true, plainKeys := false, apart := false, narrowed := true }
def GiftFeesUptoSaid : Prop := giftFeesUptoRow.holds Try.pinned (OpenSpec.upto giftFeesSpec)

/-- 'escribanolaw11.GiftKnown', WHERE WHAT IT READS IS OF BULK AT MOST 1048576: true; the input reads as it did. -/
def giftKnownUptoRow : OpenClaim := { program := "ythkpjbgadkkeeaa", sum := "4c334a3266c7a54cdf46441d53477328b47f2d080cb77d0d6b9bd2f48bc97d2c", func := "escribano/escribanolaw11.GiftKnown", spec := "giftKnown", unfollowed := true, recurses := true, plainKeys := false, apart := false, narrowed := true }
def GiftKnownUptoSaid : Prop := giftKnownUptoRow.holds Try.pinned (OpenSpec.upto giftKnownSpec)

/-- 'escribanolaw11.GiftEnough', WHERE WHAT IT READS IS OF BULK AT MOST 1048576: true; the input reads as it did. -/
def giftEnoughUptoRow : OpenClaim := { program := "ythkpjbgadkkeeaa", sum := "4c334a3266c7a54cdf46441d53477328b47f2d080cb77d0d6b9bd2f48bc97d2c", func := "escribano/escribanolaw11.GiftEnough", spec := "giftEnough", unfollowed := true, recurses := true, plainKeys := false, apart := false, narrowed := true }
def GiftEnoughUptoSaid : Prop := giftEnoughUptoRow.holds Try.pinned (OpenSpec.upto giftEnoughSpec)

/-- 'escribanolaw11.GiftEntries', WHERE WHAT IT READS IS OF BULK AT MOST 1048576: true; the input reads as it did. -/
def giftEntriesUptoRow : OpenClaim := { program := "ythkpjbgadkkeeaa", sum := "4c334a3266c7a54cdf46441d53477328b47f2d080cb77d0d6b9bd2f48bc97d2c", func := "escribano/escribanolaw11.GiftEntries", spec := "giftEntries", unfollowed := true, recurses := true, plainKeys := false, apart := false, narrowed := true }
def GiftEntriesUptoSaid : Prop := giftEntriesUptoRow.holds Try.pinned (OpenSpec.upto giftEntriesSpec)

/-- 'escribanolaw11.GiftMore', WHERE WHAT IT READS IS OF BULK AT MOST 1048576: true; the input reads as it did. -/
def giftMoreUptoRow : OpenClaim := { program := "ythkpjbgadkkeeaa", sum := "4c334a3266c7a54cdf46441d53477328b47f2d080cb77d0d6b9bd2f48bc97d2c", func := "escribano/escribanolaw11.GiftMore", spec := "giftMore", unfollowed := true, recurses := true, plainKeys := false, apart := false, narrowed := true }
def GiftMoreUptoSaid : Prop := giftMoreUptoRow.holds Try.pinned (OpenSpec.upto giftMoreSpec)

/-- 'escribanolaw11.GiftEasier', WHERE WHAT IT READS IS OF BULK AT MOST 1048576: true; the input reads as it did. -/
def giftEasierUptoRow : OpenClaim := { program := "ythkpjbgadkkeeaa", sum := "4c334a3266c7a54cdf46441d53477328b47f2d080cb77d0d6b9bd2f48bc97d2c", func := "escribano/escribanolaw11.GiftEasier", spec := "giftEasier", unfollowed := true, recurses := true, plainKeys := false, apart := false, narrowed := true }
def GiftEasierUptoSaid : Prop := giftEasierUptoRow.holds Try.pinned (OpenSpec.upto giftEasierSpec)

end Rows
end Go.Proofs.Ythkpjbgadkkeeaa
