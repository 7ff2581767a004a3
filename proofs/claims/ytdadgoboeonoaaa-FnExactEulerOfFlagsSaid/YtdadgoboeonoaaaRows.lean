/-
  No cell of these rows narrows 'for every input' (looked for: loops, veiled, ifaces, maps, wideKeys, modest, calm, conditions, laid).
  DERIVED. THE GIVEN ROWS OF THIS SEAT. 15 by the template 'for every input the law returns true; each argument reads behind the call as it read before'; 0 by the template 'total and deterministic' (their statements: YtdadgoboeonoaaaTotals.lean).
  GIVEN WITH THE SEED: the statements are not yours to turn. If you find one false, say at which input.
  Laid BY PROGRAM, IN A SANDBOX (cutbox-rows.mjs): the forced cells as the released guide's own fill.sh prints them over the translation e79862e47c59783f… (all of the seat's roots in one cut). By AI agents, Wed Nov 11 2026. No macro, syntax, notation, axiom, sorry.
-/
import Derived.Test.YtdadgoboeonoaaaChecked
import GoSem.Claim
import GoSem.ClaimJoined
import GoSem.ClaimMapViews
import Derived.JoinedTies
import Derived.KernelRfl
namespace Go.Proofs.Ytdadgoboeonoaaa
/- THE CELL 'sum', in the pinned program and in every row, IS THE sha256 OF THE DUMP (.gsa) THAT YtdadgoboeonoaaaProg.lean LOADS. Nothing in Lean hashes anything: it is a label: what it is worth is what the hold of that sum in a sandbox is worth. -/
noncomputable def Try.pinned : Pinned := { name := "ytdadgoboeonoaaa", sum := "e79862e47c59783f99991cea206b340d01a389e2ae45d52b0648e34264fcdfe3", checked := Try.checked }
namespace Rows
def none {H : Type} : Left H := { results := [], args := [] }

/-- 'laws.FnExactAreFlags': WHATEVER THE INPUT: true; the input reads as it did. -/
def fnExactAreFlagsSpec : ChangeSpec := { name := "fnExactAreFlags", fn := fun _ => fun
  | [d] => { results := [.lit (.bool true)], args := [d] }
  | _ => none }
def fnExactAreFlagsRow : OpenClaim := { program := "ytdadgoboeonoaaa", sum := "e79862e47c59783f99991cea206b340d01a389e2ae45d52b0648e34264fcdfe3", func := "loop.example/g01200/laws.FnExactAreFlags", spec := "fnExactAreFlags", apart := false }
def FnExactAreFlagsSaid : Prop := fnExactAreFlagsRow.holds Try.pinned (OpenSpec.ofChange fnExactAreFlagsSpec)

/-- ITS FALSE NEIGHBOUR: 'it returns false'. Refute it at one input. -/
def fnExactAreFlagsWrong : ChangeSpec := { name := "fnExactAreFlags", fn := fun _ => fun
  | [d] => { results := [.lit (.bool false)], args := [d] }
  | _ => none }
def FnExactAreFlagsWrongFalsely : Prop := fnExactAreFlagsRow.holds Try.pinned (OpenSpec.ofChange fnExactAreFlagsWrong)

/-- 'laws.FnExactEulerOfFlags': WHATEVER THE INPUT: true; the input reads as it did. -/
def fnExactEulerOfFlagsSpec : ChangeSpec := { name := "fnExactEulerOfFlags", fn := fun _ => fun
  | [d] => { results := [.lit (.bool true)], args := [d] }
  | _ => none }
def fnExactEulerOfFlagsRow : OpenClaim := { program := "ytdadgoboeonoaaa", sum := "e79862e47c59783f99991cea206b340d01a389e2ae45d52b0648e34264fcdfe3", func := "loop.example/g01200/laws.FnExactEulerOfFlags", spec := "fnExactEulerOfFlags", apart := false }
def FnExactEulerOfFlagsSaid : Prop := fnExactEulerOfFlagsRow.holds Try.pinned (OpenSpec.ofChange fnExactEulerOfFlagsSpec)

/-- ITS FALSE NEIGHBOUR: 'it returns false'. Refute it at one input. -/
def fnExactEulerOfFlagsWrong : ChangeSpec := { name := "fnExactEulerOfFlags", fn := fun _ => fun
  | [d] => { results := [.lit (.bool false)], args := [d] }
  | _ => none }
def FnExactEulerOfFlagsWrongFalsely : Prop := fnExactEulerOfFlagsRow.holds Try.pinned (OpenSpec.ofChange fnExactEulerOfFlagsWrong)

/-- 'laws.FnExactMirrorOf': WHATEVER THE INPUT: true; the input reads as it did. -/
def fnExactMirrorOfSpec : ChangeSpec := { name := "fnExactMirrorOf", fn := fun _ => fun
  | [d] => { results := [.lit (.bool true)], args := [d] }
  | _ => none }
def fnExactMirrorOfRow : OpenClaim := { program := "ytdadgoboeonoaaa", sum := "e79862e47c59783f99991cea206b340d01a389e2ae45d52b0648e34264fcdfe3", func := "loop.example/g01200/laws.FnExactMirrorOf", spec := "fnExactMirrorOf", apart := false }
def FnExactMirrorOfSaid : Prop := fnExactMirrorOfRow.holds Try.pinned (OpenSpec.ofChange fnExactMirrorOfSpec)

/-- ITS FALSE NEIGHBOUR: 'it returns false'. Refute it at one input. -/
def fnExactMirrorOfWrong : ChangeSpec := { name := "fnExactMirrorOf", fn := fun _ => fun
  | [d] => { results := [.lit (.bool false)], args := [d] }
  | _ => none }
def FnExactMirrorOfWrongFalsely : Prop := fnExactMirrorOfRow.holds Try.pinned (OpenSpec.ofChange fnExactMirrorOfWrong)

/-- 'laws.FnExactSubdividedOf': WHATEVER THE INPUT: true; the input reads as it did. -/
def fnExactSubdividedOfSpec : ChangeSpec := { name := "fnExactSubdividedOf", fn := fun _ => fun
  | [d] => { results := [.lit (.bool true)], args := [d] }
  | _ => none }
def fnExactSubdividedOfRow : OpenClaim := { program := "ytdadgoboeonoaaa", sum := "e79862e47c59783f99991cea206b340d01a389e2ae45d52b0648e34264fcdfe3", func := "loop.example/g01200/laws.FnExactSubdividedOf", spec := "fnExactSubdividedOf", apart := false }
def FnExactSubdividedOfSaid : Prop := fnExactSubdividedOfRow.holds Try.pinned (OpenSpec.ofChange fnExactSubdividedOfSpec)

/-- ITS FALSE NEIGHBOUR: 'it returns false'. Refute it at one input. -/
def fnExactSubdividedOfWrong : ChangeSpec := { name := "fnExactSubdividedOf", fn := fun _ => fun
  | [d] => { results := [.lit (.bool false)], args := [d] }
  | _ => none }
def FnExactSubdividedOfWrongFalsely : Prop := fnExactSubdividedOfRow.holds Try.pinned (OpenSpec.ofChange fnExactSubdividedOfWrong)

/-- 'laws.FnExactIsOrientable': WHATEVER THE INPUT: true; the input reads as it did. -/
def fnExactIsOrientableSpec : ChangeSpec := { name := "fnExactIsOrientable", fn := fun _ => fun
  | [d] => { results := [.lit (.bool true)], args := [d] }
  | _ => none }
def fnExactIsOrientableRow : OpenClaim := { program := "ytdadgoboeonoaaa", sum := "e79862e47c59783f99991cea206b340d01a389e2ae45d52b0648e34264fcdfe3", func := "loop.example/g01200/laws.FnExactIsOrientable", spec := "fnExactIsOrientable", apart := false }
def FnExactIsOrientableSaid : Prop := fnExactIsOrientableRow.holds Try.pinned (OpenSpec.ofChange fnExactIsOrientableSpec)

/-- ITS FALSE NEIGHBOUR: 'it returns false'. Refute it at one input. -/
def fnExactIsOrientableWrong : ChangeSpec := { name := "fnExactIsOrientable", fn := fun _ => fun
  | [d] => { results := [.lit (.bool false)], args := [d] }
  | _ => none }
def FnExactIsOrientableWrongFalsely : Prop := fnExactIsOrientableRow.holds Try.pinned (OpenSpec.ofChange fnExactIsOrientableWrong)

/-- 'laws.FnExactExchangeOf': WHATEVER THE INPUT: true; the input reads as it did. -/
def fnExactExchangeOfSpec : ChangeSpec := { name := "fnExactExchangeOf", fn := fun _ => fun
  | [d1, d2] => { results := [.lit (.bool true)], args := [d1, d2] }
  | _ => none }
def fnExactExchangeOfRow : OpenClaim := { program := "ytdadgoboeonoaaa", sum := "e79862e47c59783f99991cea206b340d01a389e2ae45d52b0648e34264fcdfe3", func := "loop.example/g01200/laws.FnExactExchangeOf", spec := "fnExactExchangeOf", apart := false }
def FnExactExchangeOfSaid : Prop := fnExactExchangeOfRow.holds Try.pinned (OpenSpec.ofChange fnExactExchangeOfSpec)

/-- ITS FALSE NEIGHBOUR: 'it returns false'. Refute it at one input. -/
def fnExactExchangeOfWrong : ChangeSpec := { name := "fnExactExchangeOf", fn := fun _ => fun
  | [d1, d2] => { results := [.lit (.bool false)], args := [d1, d2] }
  | _ => none }
def FnExactExchangeOfWrongFalsely : Prop := fnExactExchangeOfRow.holds Try.pinned (OpenSpec.ofChange fnExactExchangeOfWrong)

/-- 'laws.FnExactTurnFlags': WHATEVER THE INPUT: true; the input reads as it did. -/
def fnExactTurnFlagsSpec : ChangeSpec := { name := "fnExactTurnFlags", fn := fun _ => fun
  | [d1, d2] => { results := [.lit (.bool true)], args := [d1, d2] }
  | _ => none }
def fnExactTurnFlagsRow : OpenClaim := { program := "ytdadgoboeonoaaa", sum := "e79862e47c59783f99991cea206b340d01a389e2ae45d52b0648e34264fcdfe3", func := "loop.example/g01200/laws.FnExactTurnFlags", spec := "fnExactTurnFlags", apart := false }
def FnExactTurnFlagsSaid : Prop := fnExactTurnFlagsRow.holds Try.pinned (OpenSpec.ofChange fnExactTurnFlagsSpec)

/-- ITS FALSE NEIGHBOUR: 'it returns false'. Refute it at one input. -/
def fnExactTurnFlagsWrong : ChangeSpec := { name := "fnExactTurnFlags", fn := fun _ => fun
  | [d1, d2] => { results := [.lit (.bool false)], args := [d1, d2] }
  | _ => none }
def FnExactTurnFlagsWrongFalsely : Prop := fnExactTurnFlagsRow.holds Try.pinned (OpenSpec.ofChange fnExactTurnFlagsWrong)

/-- 'laws.FnExactAreAlike': WHATEVER THE INPUT: true; the input reads as it did. -/
def fnExactAreAlikeSpec : ChangeSpec := { name := "fnExactAreAlike", fn := fun _ => fun
  | [d1, d2] => { results := [.lit (.bool true)], args := [d1, d2] }
  | _ => none }
def fnExactAreAlikeRow : OpenClaim := { program := "ytdadgoboeonoaaa", sum := "e79862e47c59783f99991cea206b340d01a389e2ae45d52b0648e34264fcdfe3", func := "loop.example/g01200/laws.FnExactAreAlike", spec := "fnExactAreAlike", inPlace := ["internal/bytealg.Compare"], apart := false }
def FnExactAreAlikeSaid : Prop := fnExactAreAlikeRow.holds Try.pinned (OpenSpec.ofChange fnExactAreAlikeSpec)

/-- ITS FALSE NEIGHBOUR: 'it returns false'. Refute it at one input. -/
def fnExactAreAlikeWrong : ChangeSpec := { name := "fnExactAreAlike", fn := fun _ => fun
  | [d1, d2] => { results := [.lit (.bool false)], args := [d1, d2] }
  | _ => none }
def FnExactAreAlikeWrongFalsely : Prop := fnExactAreAlikeRow.holds Try.pinned (OpenSpec.ofChange fnExactAreAlikeWrong)

/-- 'laws.FnExactIsChiral': WHATEVER THE INPUT: true; the input reads as it did. -/
def fnExactIsChiralSpec : ChangeSpec := { name := "fnExactIsChiral", fn := fun _ => fun
  | [d] => { results := [.lit (.bool true)], args := [d] }
  | _ => none }
def fnExactIsChiralRow : OpenClaim := { program := "ytdadgoboeonoaaa", sum := "e79862e47c59783f99991cea206b340d01a389e2ae45d52b0648e34264fcdfe3", func := "loop.example/g01200/laws.FnExactIsChiral", spec := "fnExactIsChiral", inPlace := ["internal/bytealg.Compare"], apart := false }
def FnExactIsChiralSaid : Prop := fnExactIsChiralRow.holds Try.pinned (OpenSpec.ofChange fnExactIsChiralSpec)

/-- ITS FALSE NEIGHBOUR: 'it returns false'. Refute it at one input. -/
def fnExactIsChiralWrong : ChangeSpec := { name := "fnExactIsChiral", fn := fun _ => fun
  | [d] => { results := [.lit (.bool false)], args := [d] }
  | _ => none }
def FnExactIsChiralWrongFalsely : Prop := fnExactIsChiralRow.holds Try.pinned (OpenSpec.ofChange fnExactIsChiralWrong)

/-- 'laws.FnExactMapOfFlags': WHATEVER THE INPUT: true; the input reads as it did. -/
def fnExactMapOfFlagsSpec : ChangeSpec := { name := "fnExactMapOfFlags", fn := fun _ => fun
  | [d] => { results := [.lit (.bool true)], args := [d] }
  | _ => none }
def fnExactMapOfFlagsRow : OpenClaim := { program := "ytdadgoboeonoaaa", sum := "e79862e47c59783f99991cea206b340d01a389e2ae45d52b0648e34264fcdfe3", func := "loop.example/g01200/laws.FnExactMapOfFlags", spec := "fnExactMapOfFlags", apart := false }
def FnExactMapOfFlagsSaid : Prop := fnExactMapOfFlagsRow.holds Try.pinned (OpenSpec.ofChange fnExactMapOfFlagsSpec)

/-- ITS FALSE NEIGHBOUR: 'it returns false'. Refute it at one input. -/
def fnExactMapOfFlagsWrong : ChangeSpec := { name := "fnExactMapOfFlags", fn := fun _ => fun
  | [d] => { results := [.lit (.bool false)], args := [d] }
  | _ => none }
def FnExactMapOfFlagsWrongFalsely : Prop := fnExactMapOfFlagsRow.holds Try.pinned (OpenSpec.ofChange fnExactMapOfFlagsWrong)

/-- 'laws.FnExactIsClean': WHATEVER THE INPUT: true; the input reads as it did. -/
def fnExactIsCleanSpec : ChangeSpec := { name := "fnExactIsClean", fn := fun _ => fun
  | [d] => { results := [.lit (.bool true)], args := [d] }
  | _ => none }
def fnExactIsCleanRow : OpenClaim := { program := "ytdadgoboeonoaaa", sum := "e79862e47c59783f99991cea206b340d01a389e2ae45d52b0648e34264fcdfe3", func := "loop.example/g01200/laws.FnExactIsClean", spec := "fnExactIsClean", recurses := true, apart := false }
def FnExactIsCleanSaid : Prop := fnExactIsCleanRow.holds Try.pinned (OpenSpec.ofChange fnExactIsCleanSpec)

/-- ITS FALSE NEIGHBOUR: 'it returns false'. Refute it at one input. -/
def fnExactIsCleanWrong : ChangeSpec := { name := "fnExactIsClean", fn := fun _ => fun
  | [d] => { results := [.lit (.bool false)], args := [d] }
  | _ => none }
def FnExactIsCleanWrongFalsely : Prop := fnExactIsCleanRow.holds Try.pinned (OpenSpec.ofChange fnExactIsCleanWrong)

/-- 'laws.FnExactFaceDegrees': WHATEVER THE INPUT: true; the input reads as it did. -/
def fnExactFaceDegreesSpec : ChangeSpec := { name := "fnExactFaceDegrees", fn := fun _ => fun
  | [d] => { results := [.lit (.bool true)], args := [d] }
  | _ => none }
def fnExactFaceDegreesRow : OpenClaim := { program := "ytdadgoboeonoaaa", sum := "e79862e47c59783f99991cea206b340d01a389e2ae45d52b0648e34264fcdfe3", func := "loop.example/g01200/laws.FnExactFaceDegrees", spec := "fnExactFaceDegrees", recurses := true, apart := false }
def FnExactFaceDegreesSaid : Prop := fnExactFaceDegreesRow.holds Try.pinned (OpenSpec.ofChange fnExactFaceDegreesSpec)

/-- ITS FALSE NEIGHBOUR: 'it returns false'. Refute it at one input. -/
def fnExactFaceDegreesWrong : ChangeSpec := { name := "fnExactFaceDegrees", fn := fun _ => fun
  | [d] => { results := [.lit (.bool false)], args := [d] }
  | _ => none }
def FnExactFaceDegreesWrongFalsely : Prop := fnExactFaceDegreesRow.holds Try.pinned (OpenSpec.ofChange fnExactFaceDegreesWrong)

/-- 'laws.FnExactVertexDegrees': WHATEVER THE INPUT: true; the input reads as it did. -/
def fnExactVertexDegreesSpec : ChangeSpec := { name := "fnExactVertexDegrees", fn := fun _ => fun
  | [d] => { results := [.lit (.bool true)], args := [d] }
  | _ => none }
def fnExactVertexDegreesRow : OpenClaim := { program := "ytdadgoboeonoaaa", sum := "e79862e47c59783f99991cea206b340d01a389e2ae45d52b0648e34264fcdfe3", func := "loop.example/g01200/laws.FnExactVertexDegrees", spec := "fnExactVertexDegrees", recurses := true, apart := false }
def FnExactVertexDegreesSaid : Prop := fnExactVertexDegreesRow.holds Try.pinned (OpenSpec.ofChange fnExactVertexDegreesSpec)

/-- ITS FALSE NEIGHBOUR: 'it returns false'. Refute it at one input. -/
def fnExactVertexDegreesWrong : ChangeSpec := { name := "fnExactVertexDegrees", fn := fun _ => fun
  | [d] => { results := [.lit (.bool false)], args := [d] }
  | _ => none }
def FnExactVertexDegreesWrongFalsely : Prop := fnExactVertexDegreesRow.holds Try.pinned (OpenSpec.ofChange fnExactVertexDegreesWrong)

/-- 'laws.FnExactZigzagDegrees': WHATEVER THE INPUT: true; the input reads as it did. -/
def fnExactZigzagDegreesSpec : ChangeSpec := { name := "fnExactZigzagDegrees", fn := fun _ => fun
  | [d] => { results := [.lit (.bool true)], args := [d] }
  | _ => none }
def fnExactZigzagDegreesRow : OpenClaim := { program := "ytdadgoboeonoaaa", sum := "e79862e47c59783f99991cea206b340d01a389e2ae45d52b0648e34264fcdfe3", func := "loop.example/g01200/laws.FnExactZigzagDegrees", spec := "fnExactZigzagDegrees", recurses := true, apart := false }
def FnExactZigzagDegreesSaid : Prop := fnExactZigzagDegreesRow.holds Try.pinned (OpenSpec.ofChange fnExactZigzagDegreesSpec)

/-- ITS FALSE NEIGHBOUR: 'it returns false'. Refute it at one input. -/
def fnExactZigzagDegreesWrong : ChangeSpec := { name := "fnExactZigzagDegrees", fn := fun _ => fun
  | [d] => { results := [.lit (.bool false)], args := [d] }
  | _ => none }
def FnExactZigzagDegreesWrongFalsely : Prop := fnExactZigzagDegreesRow.holds Try.pinned (OpenSpec.ofChange fnExactZigzagDegreesWrong)

/-- 'laws.FnExactFlagsOf': WHATEVER THE INPUT: true; the input reads as it did. -/
def fnExactFlagsOfSpec : ChangeSpec := { name := "fnExactFlagsOf", fn := fun _ => fun
  | [d] => { results := [.lit (.bool true)], args := [d] }
  | _ => none }
def fnExactFlagsOfRow : OpenClaim := { program := "ytdadgoboeonoaaa", sum := "e79862e47c59783f99991cea206b340d01a389e2ae45d52b0648e34264fcdfe3", func := "loop.example/g01200/laws.FnExactFlagsOf", spec := "fnExactFlagsOf", recurses := true, apart := false }
def FnExactFlagsOfSaid : Prop := fnExactFlagsOfRow.holds Try.pinned (OpenSpec.ofChange fnExactFlagsOfSpec)

/-- ITS FALSE NEIGHBOUR: 'it returns false'. Refute it at one input. -/
def fnExactFlagsOfWrong : ChangeSpec := { name := "fnExactFlagsOf", fn := fun _ => fun
  | [d] => { results := [.lit (.bool false)], args := [d] }
  | _ => none }
def FnExactFlagsOfWrongFalsely : Prop := fnExactFlagsOfRow.holds Try.pinned (OpenSpec.ofChange fnExactFlagsOfWrong)

/- THE SECOND FORM. 'bulk': how many values and letters a reading holds, each counted each time it is reached (what is shared counts as often as it is met; a slice's spare places count too). A statement '..UptoSaid' is the law's where the arguments, and the package variables that the reading takes, are together of bulk at most 1048576: NARROWER than '..Said'. Prove '..Said' where nothing that the law and all that it calls make is longer than what came in: it says more and counts as full. Else prove '..UptoSaid'. A law counts once. -/
mutual
def uptoBulk {H : Type} : DataW H → Nat
  | .lit (.string bytes) => bytes.length + 1
  | .lit _ => 1
  | .nil => 1
  | .ptr d => uptoBulk d + 1
  | .slice elems spare => uptoBulkAll elems + uptoBulkAll spare + 1
  | .agg parts => uptoBulkAll parts + 1
  | .iface _ d => uptoBulk d + 1
  | .map entries => uptoBulkEntries entries + 1
  | .held _ => 1
def uptoBulkAll {H : Type} : List (DataW H) → Nat
  | [] => 0
  | d :: r => uptoBulk d + uptoBulkAll r
def uptoBulkEntries {H : Type} : List (Lit × DataW H) → Nat
  | [] => 0
  | x :: r => uptoBulkEntry x + uptoBulkEntries r
def uptoBulkEntry {H : Type} : Lit × DataW H → Nat
  | (.string bytes, d) => bytes.length + uptoBulk d + 1
  | (_, d) => uptoBulk d + 1
 end
def uptoSmall : (H : Type) → List (DataW H) → Bool := fun _ ds => decide (uptoBulkAll ds ≤ 1048576)
def OpenSpec.upto (s : _root_.Go.ChangeSpec) : _root_.Go.OpenSpec := { _root_.Go.OpenSpec.ofChange s with cond := some uptoSmall }

/-- 'laws.FnExactAreFlags', WHERE WHAT IT READS IS OF BULK AT MOST 1048576: true; the input reads as it did. -/
def fnExactAreFlagsUptoRow : OpenClaim := { program := "ytdadgoboeonoaaa", sum := "e79862e47c59783f99991cea206b340d01a389e2ae45d52b0648e34264fcdfe3", func := "loop.example/g01200/laws.FnExactAreFlags", spec := "fnExactAreFlags", apart := false, narrowed := true }
def FnExactAreFlagsUptoSaid : Prop := fnExactAreFlagsUptoRow.holds Try.pinned (OpenSpec.upto fnExactAreFlagsSpec)

/-- 'laws.FnExactEulerOfFlags', WHERE WHAT IT READS IS OF BULK AT MOST 1048576: true; the input reads as it did. -/
def fnExactEulerOfFlagsUptoRow : OpenClaim := { program := "ytdadgoboeonoaaa", sum := "e79862e47c59783f99991cea206b340d01a389e2ae45d52b0648e34264fcdfe3", func := "loop.example/g01200/laws.FnExactEulerOfFlags", spec := "fnExactEulerOfFlags", apart := false, narrowed := true }
def FnExactEulerOfFlagsUptoSaid : Prop := fnExactEulerOfFlagsUptoRow.holds Try.pinned (OpenSpec.upto fnExactEulerOfFlagsSpec)

/-- 'laws.FnExactMirrorOf', WHERE WHAT IT READS IS OF BULK AT MOST 1048576: true; the input reads as it did. -/
def fnExactMirrorOfUptoRow : OpenClaim := { program := "ytdadgoboeonoaaa", sum := "e79862e47c59783f99991cea206b340d01a389e2ae45d52b0648e34264fcdfe3", func := "loop.example/g01200/laws.FnExactMirrorOf", spec := "fnExactMirrorOf", apart := false, narrowed := true }
def FnExactMirrorOfUptoSaid : Prop := fnExactMirrorOfUptoRow.holds Try.pinned (OpenSpec.upto fnExactMirrorOfSpec)

/-- 'laws.FnExactSubdividedOf', WHERE WHAT IT READS IS OF BULK AT MOST 1048576: true; the input reads as it did. -/
def fnExactSubdividedOfUptoRow : OpenClaim := { program := "ytdadgoboeonoaaa", sum := "e79862e47c59783f99991cea206b340d01a389e2ae45d52b0648e34264fcdfe3", func := "loop.example/g01200/laws.FnExactSubdividedOf", spec := "fnExactSubdividedOf", apart := false, narrowed := true }
def FnExactSubdividedOfUptoSaid : Prop := fnExactSubdividedOfUptoRow.holds Try.pinned (OpenSpec.upto fnExactSubdividedOfSpec)

/-- 'laws.FnExactIsOrientable', WHERE WHAT IT READS IS OF BULK AT MOST 1048576: true; the input reads as it did. -/
def fnExactIsOrientableUptoRow : OpenClaim := { program := "ytdadgoboeonoaaa", sum := "e79862e47c59783f99991cea206b340d01a389e2ae45d52b0648e34264fcdfe3", func := "loop.example/g01200/laws.FnExactIsOrientable", spec := "fnExactIsOrientable", apart := false, narrowed := true }
def FnExactIsOrientableUptoSaid : Prop := fnExactIsOrientableUptoRow.holds Try.pinned (OpenSpec.upto fnExactIsOrientableSpec)

/-- 'laws.FnExactExchangeOf', WHERE WHAT IT READS IS OF BULK AT MOST 1048576: true; the input reads as it did. -/
def fnExactExchangeOfUptoRow : OpenClaim := { program := "ytdadgoboeonoaaa", sum := "e79862e47c59783f99991cea206b340d01a389e2ae45d52b0648e34264fcdfe3", func := "loop.example/g01200/laws.FnExactExchangeOf", spec := "fnExactExchangeOf", apart := false, narrowed := true }
def FnExactExchangeOfUptoSaid : Prop := fnExactExchangeOfUptoRow.holds Try.pinned (OpenSpec.upto fnExactExchangeOfSpec)

/-- 'laws.FnExactTurnFlags', WHERE WHAT IT READS IS OF BULK AT MOST 1048576: true; the input reads as it did. -/
def fnExactTurnFlagsUptoRow : OpenClaim := { program := "ytdadgoboeonoaaa", sum := "e79862e47c59783f99991cea206b340d01a389e2ae45d52b0648e34264fcdfe3", func := "loop.example/g01200/laws.FnExactTurnFlags", spec := "fnExactTurnFlags", apart := false, narrowed := true }
def FnExactTurnFlagsUptoSaid : Prop := fnExactTurnFlagsUptoRow.holds Try.pinned (OpenSpec.upto fnExactTurnFlagsSpec)

/-- 'laws.FnExactAreAlike', WHERE WHAT IT READS IS OF BULK AT MOST 1048576: true; the input reads as it did. -/
def fnExactAreAlikeUptoRow : OpenClaim := { program := "ytdadgoboeonoaaa", sum := "e79862e47c59783f99991cea206b340d01a389e2ae45d52b0648e34264fcdfe3", func := "loop.example/g01200/laws.FnExactAreAlike", spec := "fnExactAreAlike", inPlace := ["internal/bytealg.Compare"], apart := false, narrowed := true }
def FnExactAreAlikeUptoSaid : Prop := fnExactAreAlikeUptoRow.holds Try.pinned (OpenSpec.upto fnExactAreAlikeSpec)

/-- 'laws.FnExactIsChiral', WHERE WHAT IT READS IS OF BULK AT MOST 1048576: true; the input reads as it did. -/
def fnExactIsChiralUptoRow : OpenClaim := { program := "ytdadgoboeonoaaa", sum := "e79862e47c59783f99991cea206b340d01a389e2ae45d52b0648e34264fcdfe3", func := "loop.example/g01200/laws.FnExactIsChiral", spec := "fnExactIsChiral", inPlace := ["internal/bytealg.Compare"], apart := false, narrowed := true }
def FnExactIsChiralUptoSaid : Prop := fnExactIsChiralUptoRow.holds Try.pinned (OpenSpec.upto fnExactIsChiralSpec)

/-- 'laws.FnExactMapOfFlags', WHERE WHAT IT READS IS OF BULK AT MOST 1048576: true; the input reads as it did. -/
def fnExactMapOfFlagsUptoRow : OpenClaim := { program := "ytdadgoboeonoaaa", sum := "e79862e47c59783f99991cea206b340d01a389e2ae45d52b0648e34264fcdfe3", func := "loop.example/g01200/laws.FnExactMapOfFlags", spec := "fnExactMapOfFlags", apart := false, narrowed := true }
def FnExactMapOfFlagsUptoSaid : Prop := fnExactMapOfFlagsUptoRow.holds Try.pinned (OpenSpec.upto fnExactMapOfFlagsSpec)

/-- 'laws.FnExactIsClean', WHERE WHAT IT READS IS OF BULK AT MOST 1048576: true; the input reads as it did. -/
def fnExactIsCleanUptoRow : OpenClaim := { program := "ytdadgoboeonoaaa", sum := "e79862e47c59783f99991cea206b340d01a389e2ae45d52b0648e34264fcdfe3", func := "loop.example/g01200/laws.FnExactIsClean", spec := "fnExactIsClean", recurses := true, apart := false, narrowed := true }
def FnExactIsCleanUptoSaid : Prop := fnExactIsCleanUptoRow.holds Try.pinned (OpenSpec.upto fnExactIsCleanSpec)

/-- 'laws.FnExactFaceDegrees', WHERE WHAT IT READS IS OF BULK AT MOST 1048576: true; the input reads as it did. -/
def fnExactFaceDegreesUptoRow : OpenClaim := { program := "ytdadgoboeonoaaa", sum := "e79862e47c59783f99991cea206b340d01a389e2ae45d52b0648e34264fcdfe3", func := "loop.example/g01200/laws.FnExactFaceDegrees", spec := "fnExactFaceDegrees", recurses := true, apart := false, narrowed := true }
def FnExactFaceDegreesUptoSaid : Prop := fnExactFaceDegreesUptoRow.holds Try.pinned (OpenSpec.upto fnExactFaceDegreesSpec)

/-- 'laws.FnExactVertexDegrees', WHERE WHAT IT READS IS OF BULK AT MOST 1048576: true; the input reads as it did. -/
def fnExactVertexDegreesUptoRow : OpenClaim := { program := "ytdadgoboeonoaaa", sum := "e79862e47c59783f99991cea206b340d01a389e2ae45d52b0648e34264fcdfe3", func := "loop.example/g01200/laws.FnExactVertexDegrees", spec := "fnExactVertexDegrees", recurses := true, apart := false, narrowed := true }
def FnExactVertexDegreesUptoSaid : Prop := fnExactVertexDegreesUptoRow.holds Try.pinned (OpenSpec.upto fnExactVertexDegreesSpec)

/-- 'laws.FnExactZigzagDegrees', WHERE WHAT IT READS IS OF BULK AT MOST 1048576: true; the input reads as it did. -/
def fnExactZigzagDegreesUptoRow : OpenClaim := { program := "ytdadgoboeonoaaa", sum := "e79862e47c59783f99991cea206b340d01a389e2ae45d52b0648e34264fcdfe3", func := "loop.example/g01200/laws.FnExactZigzagDegrees", spec := "fnExactZigzagDegrees", recurses := true, apart := false, narrowed := true }
def FnExactZigzagDegreesUptoSaid : Prop := fnExactZigzagDegreesUptoRow.holds Try.pinned (OpenSpec.upto fnExactZigzagDegreesSpec)

/-- 'laws.FnExactFlagsOf', WHERE WHAT IT READS IS OF BULK AT MOST 1048576: true; the input reads as it did. -/
def fnExactFlagsOfUptoRow : OpenClaim := { program := "ytdadgoboeonoaaa", sum := "e79862e47c59783f99991cea206b340d01a389e2ae45d52b0648e34264fcdfe3", func := "loop.example/g01200/laws.FnExactFlagsOf", spec := "fnExactFlagsOf", recurses := true, apart := false, narrowed := true }
def FnExactFlagsOfUptoSaid : Prop := fnExactFlagsOfUptoRow.holds Try.pinned (OpenSpec.upto fnExactFlagsOfSpec)

end Rows
end Go.Proofs.Ytdadgoboeonoaaa
