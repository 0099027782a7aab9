/-
  No cell of these rows narrows 'for every input' (looked for: loops, veiled, ifaces, maps, wideKeys, modest, calm, conditions, laid).
  DERIVED. THE GIVEN ROWS OF THIS SEAT. 13 by the template 'for every input the law returns true; each argument reads behind the call as it read before'; 0 by the template 'total and deterministic' (their statements: YtbfodfepgefloaaTotals.lean).
  GIVEN WITH THE SEED: the statements are not yours to turn. If you find one false, say at which input.
  Laid BY PROGRAM, IN A SANDBOX (cutbox-rows.mjs): the forced cells as the released guide's own fill.sh prints them over the translation 73febf51cbb8f4d8… (all of the seat's roots in one cut). By AI agents, Wed Nov 11 2026. No macro, syntax, notation, axiom, sorry.
-/
import Derived.Test.YtbfodfepgefloaaChecked
import GoSem.Claim
import GoSem.ClaimJoined
import GoSem.ClaimMapViews
import Derived.JoinedTies
import Derived.KernelRfl
namespace Go.Proofs.Ytbfodfepgefloaa
/- THE CELL 'sum', in the pinned program and in every row, IS THE sha256 OF THE DUMP (.gsa) THAT YtbfodfepgefloaaProg.lean LOADS. Nothing in Lean hashes anything: it is a label: what it is worth is what the hold of that sum in a sandbox is worth. -/
noncomputable def Try.pinned : Pinned := { name := "ytbfodfepgefloaa", sum := "73febf51cbb8f4d88d9f546dc4a25ba8c535cee104e549d97deac84d211c381a", checked := Try.checked }
namespace Rows
def none {H : Type} : Left H := { results := [], args := [] }

/-- 'escribanolaw05.TokenFits': WHATEVER THE INPUT: true; the input reads as it did. -/
def tokenFitsSpec : ChangeSpec := { name := "tokenFits", fn := fun _ => fun
  | [d1, d2, d3] => { results := [.lit (.bool true)], args := [d1, d2, d3] }
  | _ => none }
def tokenFitsRow : OpenClaim := { program := "ytbfodfepgefloaa", sum := "73febf51cbb8f4d88d9f546dc4a25ba8c535cee104e549d97deac84d211c381a", func := "escribano/escribanolaw05.TokenFits", spec := "tokenFits", unfollowed := true, recurses := true, plainKeys := false, apart := false }
def TokenFitsSaid : Prop := tokenFitsRow.holds Try.pinned (OpenSpec.ofChange tokenFitsSpec)

/-- ITS FALSE NEIGHBOUR: 'it returns false'. Refute it at one input. -/
def tokenFitsWrong : ChangeSpec := { name := "tokenFits", fn := fun _ => fun
  | [d1, d2, d3] => { results := [.lit (.bool false)], args := [d1, d2, d3] }
  | _ => none }
def TokenFitsWrongFalsely : Prop := tokenFitsRow.holds Try.pinned (OpenSpec.ofChange tokenFitsWrong)

/-- 'escribanolaw05.TokenFirsts': WHATEVER THE INPUT: true; the input reads as it did. -/
def tokenFirstsSpec : ChangeSpec := { name := "tokenFirsts", fn := fun _ => fun
  | [d] => { results := [.lit (.bool true)], args := [d] }
  | _ => none }
def tokenFirstsRow : OpenClaim := { program := "ytbfodfepgefloaa", sum := "73febf51cbb8f4d88d9f546dc4a25ba8c535cee104e549d97deac84d211c381a", func := "escribano/escribanolaw05.TokenFirsts", spec := "tokenFirsts", unfollowed := true, recurses := true, plainKeys := false, apart := false }
def TokenFirstsSaid : Prop := tokenFirstsRow.holds Try.pinned (OpenSpec.ofChange tokenFirstsSpec)

/-- ITS FALSE NEIGHBOUR: 'it returns false'. Refute it at one input. -/
def tokenFirstsWrong : ChangeSpec := { name := "tokenFirsts", fn := fun _ => fun
  | [d] => { results := [.lit (.bool false)], args := [d] }
  | _ => none }
def TokenFirstsWrongFalsely : Prop := tokenFirstsRow.holds Try.pinned (OpenSpec.ofChange tokenFirstsWrong)

/-- 'escribanolaw05.TokenReads': WHATEVER THE INPUT: true; the input reads as it did. -/
def tokenReadsSpec : ChangeSpec := { name := "tokenReads", fn := fun _ => fun
  | [d1, d2] => { results := [.lit (.bool true)], args := [d1, d2] }
  | _ => none }
def tokenReadsRow : OpenClaim := { program := "ytbfodfepgefloaa", sum := "73febf51cbb8f4d88d9f546dc4a25ba8c535cee104e549d97deac84d211c381a", func := "escribano/escribanolaw05.TokenReads", spec := "tokenReads", unfollowed := true, recurses := true, plainKeys := false, apart := false }
def TokenReadsSaid : Prop := tokenReadsRow.holds Try.pinned (OpenSpec.ofChange tokenReadsSpec)

/-- ITS FALSE NEIGHBOUR: 'it returns false'. Refute it at one input. -/
def tokenReadsWrong : ChangeSpec := { name := "tokenReads", fn := fun _ => fun
  | [d1, d2] => { results := [.lit (.bool false)], args := [d1, d2] }
  | _ => none }
def TokenReadsWrongFalsely : Prop := tokenReadsRow.holds Try.pinned (OpenSpec.ofChange tokenReadsWrong)

/-- 'escribanolaw05.TokenAlikes': WHATEVER THE INPUT: true; the input reads as it did. -/
def tokenAlikesSpec : ChangeSpec := { name := "tokenAlikes", fn := fun _ => fun
  | [d1, d2, d3] => { results := [.lit (.bool true)], args := [d1, d2, d3] }
  | _ => none }
def tokenAlikesRow : OpenClaim := { program := "ytbfodfepgefloaa", sum := "73febf51cbb8f4d88d9f546dc4a25ba8c535cee104e549d97deac84d211c381a", func := "escribano/escribanolaw05.TokenAlikes", spec := "tokenAlikes", unfollowed := true, recurses := true, plainKeys := false, apart := false }
def TokenAlikesSaid : Prop := tokenAlikesRow.holds Try.pinned (OpenSpec.ofChange tokenAlikesSpec)

/-- ITS FALSE NEIGHBOUR: 'it returns false'. Refute it at one input. -/
def tokenAlikesWrong : ChangeSpec := { name := "tokenAlikes", fn := fun _ => fun
  | [d1, d2, d3] => { results := [.lit (.bool false)], args := [d1, d2, d3] }
  | _ => none }
def TokenAlikesWrongFalsely : Prop := tokenAlikesRow.holds Try.pinned (OpenSpec.ofChange tokenAlikesWrong)

/-- 'escribanolaw05.TokenKnown': WHATEVER THE INPUT: true; the input reads as it did. -/
def tokenKnownSpec : ChangeSpec := { name := "tokenKnown", fn := fun _ => fun
  | [] => { results := [.lit (.bool true)], args := [] }
  | _ => none }
def tokenKnownRow : OpenClaim := { program := "ytbfodfepgefloaa", sum := "73febf51cbb8f4d88d9f546dc4a25ba8c535cee104e549d97deac84d211c381a", func := "escribano/escribanolaw05.TokenKnown", spec := "tokenKnown", unfollowed := true, recurses := true, plainKeys := false, apart := false }
def TokenKnownSaid : Prop := tokenKnownRow.holds Try.pinned (OpenSpec.ofChange tokenKnownSpec)

/-- ITS FALSE NEIGHBOUR: 'it returns false'. Refute it at one input. -/
def tokenKnownWrong : ChangeSpec := { name := "tokenKnown", fn := fun _ => fun
  | [] => { results := [.lit (.bool false)], args := [] }
  | _ => none }
def TokenKnownWrongFalsely : Prop := tokenKnownRow.holds Try.pinned (OpenSpec.ofChange tokenKnownWrong)

/-- 'escribanolaw05.TokenTrue': WHATEVER THE INPUT: true; the input reads as it did. -/
def tokenTrueSpec : ChangeSpec := { name := "tokenTrue", fn := fun _ => fun
  | [d1, d2] => { results := [.lit (.bool true)], args := [d1, d2] }
  | _ => none }
def tokenTrueRow : OpenClaim := { program := "ytbfodfepgefloaa", sum := "73febf51cbb8f4d88d9f546dc4a25ba8c535cee104e549d97deac84d211c381a", func := "escribano/escribanolaw05.TokenTrue", spec := "tokenTrue", unfollowed := true, recurses := true, plainKeys := false, apart := false }
def TokenTrueSaid : Prop := tokenTrueRow.holds Try.pinned (OpenSpec.ofChange tokenTrueSpec)

/-- ITS FALSE NEIGHBOUR: 'it returns false'. Refute it at one input. -/
def tokenTrueWrong : ChangeSpec := { name := "tokenTrue", fn := fun _ => fun
  | [d1, d2] => { results := [.lit (.bool false)], args := [d1, d2] }
  | _ => none }
def TokenTrueWrongFalsely : Prop := tokenTrueRow.holds Try.pinned (OpenSpec.ofChange tokenTrueWrong)

/-- 'escribanolaw05.TokenSure': WHATEVER THE INPUT: true; the input reads as it did. -/
def tokenSureSpec : ChangeSpec := { name := "tokenSure", fn := fun _ => fun
  | [d1, d2] => { results := [.lit (.bool true)], args := [d1, d2] }
  | _ => none }
def tokenSureRow : OpenClaim := { program := "ytbfodfepgefloaa", sum := "73febf51cbb8f4d88d9f546dc4a25ba8c535cee104e549d97deac84d211c381a", func := "escribano/escribanolaw05.TokenSure", spec := "tokenSure", unfollowed := true, recurses := true, plainKeys := false, apart := false }
def TokenSureSaid : Prop := tokenSureRow.holds Try.pinned (OpenSpec.ofChange tokenSureSpec)

/-- ITS FALSE NEIGHBOUR: 'it returns false'. Refute it at one input. -/
def tokenSureWrong : ChangeSpec := { name := "tokenSure", fn := fun _ => fun
  | [d1, d2] => { results := [.lit (.bool false)], args := [d1, d2] }
  | _ => none }
def TokenSureWrongFalsely : Prop := tokenSureRow.holds Try.pinned (OpenSpec.ofChange tokenSureWrong)

/-- 'escribanolaw05.TokenFewest': WHATEVER THE INPUT: true; the input reads as it did. -/
def tokenFewestSpec : ChangeSpec := { name := "tokenFewest", fn := fun _ => fun
  | [d1, d2] => { results := [.lit (.bool true)], args := [d1, d2] }
  | _ => none }
def tokenFewestRow : OpenClaim := { program := "ytbfodfepgefloaa", sum := "73febf51cbb8f4d88d9f546dc4a25ba8c535cee104e549d97deac84d211c381a", func := "escribano/escribanolaw05.TokenFewest", spec := "tokenFewest", unfollowed := true, recurses := true, plainKeys := false, apart := false }
def TokenFewestSaid : Prop := tokenFewestRow.holds Try.pinned (OpenSpec.ofChange tokenFewestSpec)

/-- ITS FALSE NEIGHBOUR: 'it returns false'. Refute it at one input. -/
def tokenFewestWrong : ChangeSpec := { name := "tokenFewest", fn := fun _ => fun
  | [d1, d2] => { results := [.lit (.bool false)], args := [d1, d2] }
  | _ => none }
def TokenFewestWrongFalsely : Prop := tokenFewestRow.holds Try.pinned (OpenSpec.ofChange tokenFewestWrong)

/-- 'escribanolaw05.TokenTaken': WHATEVER THE INPUT: true; the input reads as it did. -/
def tokenTakenSpec : ChangeSpec := { name := "tokenTaken", fn := fun _ => fun
  | [d] => { results := [.lit (.bool true)], args := [d] }
  | _ => none }
def tokenTakenRow : OpenClaim := { program := "ytbfodfepgefloaa", sum := "73febf51cbb8f4d88d9f546dc4a25ba8c535cee104e549d97deac84d211c381a", func := "escribano/escribanolaw05.TokenTaken", spec := "tokenTaken", unfollowed := true, recurses := true, plainKeys := false, apart := false }
def TokenTakenSaid : Prop := tokenTakenRow.holds Try.pinned (OpenSpec.ofChange tokenTakenSpec)

/-- ITS FALSE NEIGHBOUR: 'it returns false'. Refute it at one input. -/
def tokenTakenWrong : ChangeSpec := { name := "tokenTaken", fn := fun _ => fun
  | [d] => { results := [.lit (.bool false)], args := [d] }
  | _ => none }
def TokenTakenWrongFalsely : Prop := tokenTakenRow.holds Try.pinned (OpenSpec.ofChange tokenTakenWrong)

/-- 'escribanolaw05.TokenWear': WHATEVER THE INPUT: true; the input reads as it did. -/
def tokenWearSpec : ChangeSpec := { name := "tokenWear", fn := fun _ => fun
  | [d1, d2] => { results := [.lit (.bool true)], args := [d1, d2] }
  | _ => none }
def tokenWearRow : OpenClaim := { program := "ytbfodfepgefloaa", sum := "73febf51cbb8f4d88d9f546dc4a25ba8c535cee104e549d97deac84d211c381a", func := "escribano/escribanolaw05.TokenWear", spec := "tokenWear", unfollowed := true, recurses := true, plainKeys := false, apart := false }
def TokenWearSaid : Prop := tokenWearRow.holds Try.pinned (OpenSpec.ofChange tokenWearSpec)

/-- ITS FALSE NEIGHBOUR: 'it returns false'. Refute it at one input. -/
def tokenWearWrong : ChangeSpec := { name := "tokenWear", fn := fun _ => fun
  | [d1, d2] => { results := [.lit (.bool false)], args := [d1, d2] }
  | _ => none }
def TokenWearWrongFalsely : Prop := tokenWearRow.holds Try.pinned (OpenSpec.ofChange tokenWearWrong)

/-- 'escribanolaw05.TokenNew': WHATEVER THE INPUT: true; the input reads as it did. -/
def tokenNewSpec : ChangeSpec := { name := "tokenNew", fn := fun _ => fun
  | [d1, d2] => { results := [.lit (.bool true)], args := [d1, d2] }
  | _ => none }
def tokenNewRow : OpenClaim := { program := "ytbfodfepgefloaa", sum := "73febf51cbb8f4d88d9f546dc4a25ba8c535cee104e549d97deac84d211c381a", func := "escribano/escribanolaw05.TokenNew", spec := "tokenNew", unfollowed := true, recurses := true, plainKeys := false, apart := false }
def TokenNewSaid : Prop := tokenNewRow.holds Try.pinned (OpenSpec.ofChange tokenNewSpec)

/-- ITS FALSE NEIGHBOUR: 'it returns false'. Refute it at one input. -/
def tokenNewWrong : ChangeSpec := { name := "tokenNew", fn := fun _ => fun
  | [d1, d2] => { results := [.lit (.bool false)], args := [d1, d2] }
  | _ => none }
def TokenNewWrongFalsely : Prop := tokenNewRow.holds Try.pinned (OpenSpec.ofChange tokenNewWrong)

/-- 'escribanolaw05.TokenMore': WHATEVER THE INPUT: true; the input reads as it did. -/
def tokenMoreSpec : ChangeSpec := { name := "tokenMore", fn := fun _ => fun
  | [d1, d2, d3] => { results := [.lit (.bool true)], args := [d1, d2, d3] }
  | _ => none }
def tokenMoreRow : OpenClaim := { program := "ytbfodfepgefloaa", sum := "73febf51cbb8f4d88d9f546dc4a25ba8c535cee104e549d97deac84d211c381a", func := "escribano/escribanolaw05.TokenMore", spec := "tokenMore", unfollowed := true, recurses := true, plainKeys := false, apart := false }
def TokenMoreSaid : Prop := tokenMoreRow.holds Try.pinned (OpenSpec.ofChange tokenMoreSpec)

/-- ITS FALSE NEIGHBOUR: 'it returns false'. Refute it at one input. -/
def tokenMoreWrong : ChangeSpec := { name := "tokenMore", fn := fun _ => fun
  | [d1, d2, d3] => { results := [.lit (.bool false)], args := [d1, d2, d3] }
  | _ => none }
def TokenMoreWrongFalsely : Prop := tokenMoreRow.holds Try.pinned (OpenSpec.ofChange tokenMoreWrong)

/-- 'escribanolaw05.TokenEnds': WHATEVER THE INPUT: true; the input reads as it did. -/
def tokenEndsSpec : ChangeSpec := { name := "tokenEnds", fn := fun _ => fun
  | [d] => { results := [.lit (.bool true)], args := [d] }
  | _ => none }
def tokenEndsRow : OpenClaim := { program := "ytbfodfepgefloaa", sum := "73febf51cbb8f4d88d9f546dc4a25ba8c535cee104e549d97deac84d211c381a", func := "escribano/escribanolaw05.TokenEnds", spec := "tokenEnds", unfollowed := true, recurses := true, plainKeys := false, apart := false }
def TokenEndsSaid : Prop := tokenEndsRow.holds Try.pinned (OpenSpec.ofChange tokenEndsSpec)

/-- ITS FALSE NEIGHBOUR: 'it returns false'. Refute it at one input. -/
def tokenEndsWrong : ChangeSpec := { name := "tokenEnds", fn := fun _ => fun
  | [d] => { results := [.lit (.bool false)], args := [d] }
  | _ => none }
def TokenEndsWrongFalsely : Prop := tokenEndsRow.holds Try.pinned (OpenSpec.ofChange tokenEndsWrong)

/- THE SECOND FORM. 'bulk': how many values and letters a reading holds, each counted each time it is reached (what is shared counts as often as it is met; a slice's spare places count too). A statement '..UptoSaid' is the law's where the arguments, and the package variables that the reading takes, are together of bulk at most 1048576: NARROWER than '..Said'. Prove '..Said' where nothing that the law and all that it calls make is longer than what came in: it says more and counts as full. Else prove '..UptoSaid'. A law counts once. -/
mutual
def uptoBulk {H : Type} : DataW H → Nat
  | .lit (.string bytes) => bytes.length + 1
  | .lit _ => 1
  | .nil => 1
  | .ptr d => uptoBulk d + 1
  | .slice elems spare => uptoBulkAll elems + uptoBulkAll spare + 1
  | .agg parts => uptoBulkAll parts + 1
  | .iface _ d => uptoBulk d + 1
  | .map entries => uptoBulkEntries entries + 1
  | .held _ => 1
def uptoBulkAll {H : Type} : List (DataW H) → Nat
  | [] => 0
  | d :: r => uptoBulk d + uptoBulkAll r
def uptoBulkEntries {H : Type} : List (Lit × DataW H) → Nat
  | [] => 0
  | x :: r => uptoBulkEntry x + uptoBulkEntries r
def uptoBulkEntry {H : Type} : Lit × DataW H → Nat
  | (.string bytes, d) => bytes.length + uptoBulk d + 1
  | (_, d) => uptoBulk d + 1
 end
def uptoSmall : (H : Type) → List (DataW H) → Bool := fun _ ds => decide (uptoBulkAll ds ≤ 1048576)
def OpenSpec.upto (s : _root_.Go.ChangeSpec) : _root_.Go.OpenSpec := { _root_.Go.OpenSpec.ofChange s with cond := some uptoSmall }

/-- 'escribanolaw05.TokenFits', WHERE WHAT IT READS IS OF BULK AT MOST 1048576: true; the input reads as it did. -/
def tokenFitsUptoRow : OpenClaim := { program := "ytbfodfepgefloaa", sum := "73febf51cbb8f4d88d9f546dc4a25ba8c535cee104e549d97deac84d211c381a", func := "escribano/escribanolaw05.TokenFits", spec := "tokenFits", unfollowed := true, recurses := true, plainKeys := false, apart := false, narrowed := true }
def TokenFitsUptoSaid : Prop := tokenFitsUptoRow.holds Try.pinned (OpenSpec.upto tokenFitsSpec)

/-- 'escribanolaw05.TokenFirsts', WHERE WHAT IT READS IS OF BULK AT MOST 1048576: true; the input reads as it did. -/
def tokenFirstsUptoRow : OpenClaim := { program := "ytbfodfepgefloaa", sum := "73febf51cbb8f4d88d9f546dc4a25ba8c535cee104e549d97deac84d211c381a", func := "escribano/escribanolaw05.TokenFirsts", spec := "tokenFirsts", unfollowed := true, recurses := true, plainKeys := false, apart := false, narrowed := true }
def TokenFirstsUptoSaid : Prop := tokenFirstsUptoRow.holds Try.pinned (OpenSpec.upto tokenFirstsSpec)

/-- 'escribanolaw05.TokenReads', WHERE WHAT IT READS IS OF BULK AT MOST 1048576: true; the input reads as it did. -/
def tokenReadsUptoRow : OpenClaim := { program := "ytbfodfepgefloaa", sum := "73febf51cbb8f4d88d9f546dc4a25ba8c535cee104e549d97deac84d211c381a", func := "escribano/escribanolaw05.TokenReads", spec := "tokenReads", unfollowed := true, recurses := true, plainKeys := false, apart := false, narrowed := true }
def TokenReadsUptoSaid : Prop := tokenReadsUptoRow.holds Try.pinned (OpenSpec.upto tokenReadsSpec)

/-- 'escribanolaw05.TokenAlikes', WHERE WHAT IT READS IS OF BULK AT MOST 1048576: true; the input reads as it did. -/
def tokenAlikesUptoRow : OpenClaim := { program := "ytbfodfepgefloaa", sum := "73febf51cbb8f4d88d9f546dc4a25ba8c535cee104e549d97deac84d211c381a", func := "escribano/escribanolaw05.TokenAlikes", spec := "tokenAlikes", unfollowed := true, recurses := true, plainKeys := false, apart := false, narrowed := true }
def TokenAlikesUptoSaid : Prop := tokenAlikesUptoRow.holds Try.pinned (OpenSpec.upto tokenAlikesSpec)

/-- 'escribanolaw05.TokenKnown', WHERE WHAT IT READS IS OF BULK AT MOST 1048576: true; the input reads as it did. -/
def tokenKnownUptoRow : OpenClaim := { program := "ytbfodfepgefloaa", sum := "73febf51cbb8f4d88d9f546dc4a25ba8c535cee104e549d97deac84d211c381a", func := "escribano/escribanolaw05.TokenKnown", spec := "tokenKnown", unfollowed := true, recurses := true, plainKeys := false, apart := false, narrowed := true }
def TokenKnownUptoSaid : Prop := tokenKnownUptoRow.holds Try.pinned (OpenSpec.upto tokenKnownSpec)

/-- 'escribanolaw05.TokenTrue', WHERE WHAT IT READS IS OF BULK AT MOST 1048576: true; the input reads as it did. -/
def tokenTrueUptoRow : OpenClaim := { program := "ytbfodfepgefloaa", sum := "73febf51cbb8f4d88d9f546dc4a25ba8c535cee104e549d97deac84d211c381a", func := "escribano/escribanolaw05.TokenTrue", spec := "tokenTrue", unfollowed := true, recurses := true, plainKeys := false, apart := false, narrowed := true }
def TokenTrueUptoSaid : Prop := tokenTrueUptoRow.holds Try.pinned (OpenSpec.upto tokenTrueSpec)

/-- 'escribanolaw05.TokenSure', WHERE WHAT IT READS IS OF BULK AT MOST 1048576: true; the input reads as it did. -/
def tokenSureUptoRow : OpenClaim := { program := "ytbfodfepgefloaa", sum := "73febf51cbb8f4d88d9f546dc4a25ba8c535cee104e549d97deac84d211c381a", func := "escribano/escribanolaw05.TokenSure", spec := "tokenSure", unfollowed := true, recurses := true, plainKeys := false, apart := false, narrowed := true }
def TokenSureUptoSaid : Prop := tokenSureUptoRow.holds Try.pinned (OpenSpec.upto tokenSureSpec)

/-- 'escribanolaw05.TokenFewest', WHERE WHAT IT READS IS OF BULK AT MOST 1048576: true; the input reads as it did. -/
def tokenFewestUptoRow : OpenClaim := { program := "ytbfodfepgefloaa", sum := "73febf51cbb8f4d88d9f546dc4a25ba8c535cee104e549d97deac84d211c381a", func := "escribano/escribanolaw05.TokenFewest", spec := "tokenFewest", unfollowed := true, recurses := true, plainKeys := false, apart := false, narrowed := true }
def TokenFewestUptoSaid : Prop := tokenFewestUptoRow.holds Try.pinned (OpenSpec.upto tokenFewestSpec)

/-- 'escribanolaw05.TokenTaken', WHERE WHAT IT READS IS OF BULK AT MOST 1048576: true; the input reads as it did. -/
def tokenTakenUptoRow : OpenClaim := { program := "ytbfodfepgefloaa", sum := "73febf51cbb8f4d88d9f546dc4a25ba8c535cee104e549d97deac84d211c381a", func := "escribano/escribanolaw05.TokenTaken", spec := "tokenTaken", unfollowed := true, recurses := true, plainKeys := false, apart := false, narrowed := true }
def TokenTakenUptoSaid : Prop := tokenTakenUptoRow.holds Try.pinned (OpenSpec.upto tokenTakenSpec)

/-- 'escribanolaw05.TokenWear', WHERE WHAT IT READS IS OF BULK AT MOST 1048576: true; the input reads as it did. -/
def tokenWearUptoRow : OpenClaim := { program := "ytbfodfepgefloaa", sum := "73febf51cbb8f4d88d9f546dc4a25ba8c535cee104e549d97deac84d211c381a", func := "escribano/escribanolaw05.TokenWear", spec := "tokenWear", unfollowed := true, recurses := true, plainKeys := false, apart := false, narrowed := true }
def TokenWearUptoSaid : Prop := tokenWearUptoRow.holds Try.pinned (OpenSpec.upto tokenWearSpec)

/-- 'escribanolaw05.TokenNew', WHERE WHAT IT READS IS OF BULK AT MOST 1048576: true; the input reads as it did. -/
def tokenNewUptoRow : OpenClaim := { program := "ytbfodfepgefloaa", sum := "73febf51cbb8f4d88d9f546dc4a25ba8c535cee104e549d97deac84d211c381a", func := "escribano/escribanolaw05.TokenNew", spec := "tokenNew", unfollowed := true, recurses := true, plainKeys := false, apart := false, narrowed := true }
def TokenNewUptoSaid : Prop := tokenNewUptoRow.holds Try.pinned (OpenSpec.upto tokenNewSpec)

/-- 'escribanolaw05.TokenMore', WHERE WHAT IT READS IS OF BULK AT MOST 1048576: true; the input reads as it did. -/
def tokenMoreUptoRow : OpenClaim := { program := "ytbfodfepgefloaa", sum := "73febf51cbb8f4d88d9f546dc4a25ba8c535cee104e549d97deac84d211c381a", func := "escribano/escribanolaw05.TokenMore", spec := "tokenMore", unfollowed := true, recurses := true, plainKeys := false, apart := false, narrowed := true }
def TokenMoreUptoSaid : Prop := tokenMoreUptoRow.holds Try.pinned (OpenSpec.upto tokenMoreSpec)

/-- 'escribanolaw05.TokenEnds', WHERE WHAT IT READS IS OF BULK AT MOST 1048576: true; the input reads as it did. -/
def tokenEndsUptoRow : OpenClaim := { program := "ytbfodfepgefloaa", sum := "73febf51cbb8f4d88d9f546dc4a25ba8c535cee104e549d97deac84d211c381a", func := "escribano/escribanolaw05.TokenEnds", spec := "tokenEnds", unfollowed := true, recurses := true, plainKeys := false, apart := false, narrowed := true }
def TokenEndsUptoSaid : Prop := tokenEndsUptoRow.holds Try.pinned (OpenSpec.upto tokenEndsSpec)

end Rows
end Go.Proofs.Ytbfodfepgefloaa
