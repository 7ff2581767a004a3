/-
  No cell of these rows narrows 'for every input' (looked for: loops, veiled, ifaces, maps, wideKeys, modest, calm, conditions, laid).
  DERIVED. THE GIVEN ROWS OF THIS SEAT. 14 by the template 'for every input the law returns true; each argument reads behind the call as it read before'; 0 by the template 'total and deterministic' (their statements: YtbbgifoamnjhoaaTotals.lean).
  GIVEN WITH THE SEED: the statements are not yours to turn. If you find one false, say at which input.
  Laid BY PROGRAM, IN A SANDBOX (cutbox-rows.mjs): the forced cells as the released guide's own fill.sh prints them over the translation 9cb4b3484888efa4… (all of the seat's roots in one cut). By AI agents, Wed Nov 11 2026. No macro, syntax, notation, axiom, sorry.
-/
import Derived.Test.YtbbgifoamnjhoaaChecked
import GoSem.Claim
import GoSem.ClaimJoined
import GoSem.ClaimMapViews
import Derived.JoinedTies
import Derived.KernelRfl
namespace Go.Proofs.Ytbbgifoamnjhoaa
/- THE CELL 'sum', in the pinned program and in every row, IS THE sha256 OF THE DUMP (.gsa) THAT YtbbgifoamnjhoaaProg.lean LOADS. Nothing in Lean hashes anything: it is a label: what it is worth is what the hold of that sum in a sandbox is worth. -/
noncomputable def Try.pinned : Pinned := { name := "ytbbgifoamnjhoaa", sum := "9cb4b3484888efa414175245ae9e281dd23da55a9b3cd1744cab35df581f036f", checked := Try.checked }
namespace Rows
def none {H : Type} : Left H := { results := [], args := [] }

/-- 'laws.FnExactTreeOfWord': WHATEVER THE INPUT: true; the input reads as it did. -/
def fnExactTreeOfWordSpec : ChangeSpec := { name := "fnExactTreeOfWord", fn := fun _ => fun
  | [d] => { results := [.lit (.bool true)], args := [d] }
  | _ => none }
def fnExactTreeOfWordRow : OpenClaim := { program := "ytbbgifoamnjhoaa", sum := "9cb4b3484888efa414175245ae9e281dd23da55a9b3cd1744cab35df581f036f", func := "loop.example/g01200/laws.FnExactTreeOfWord", spec := "fnExactTreeOfWord", unfollowed := true, recurses := true, apart := false }
def FnExactTreeOfWordSaid : Prop := fnExactTreeOfWordRow.holds Try.pinned (OpenSpec.ofChange fnExactTreeOfWordSpec)

/-- ITS FALSE NEIGHBOUR: 'it returns false'. Refute it at one input. -/
def fnExactTreeOfWordWrong : ChangeSpec := { name := "fnExactTreeOfWord", fn := fun _ => fun
  | [d] => { results := [.lit (.bool false)], args := [d] }
  | _ => none }
def FnExactTreeOfWordWrongFalsely : Prop := fnExactTreeOfWordRow.holds Try.pinned (OpenSpec.ofChange fnExactTreeOfWordWrong)

/-- 'laws.FnExactEulerOfPassport': WHATEVER THE INPUT: true; the input reads as it did. -/
def fnExactEulerOfPassportSpec : ChangeSpec := { name := "fnExactEulerOfPassport", fn := fun _ => fun
  | [d] => { results := [.lit (.bool true)], args := [d] }
  | _ => none }
def fnExactEulerOfPassportRow : OpenClaim := { program := "ytbbgifoamnjhoaa", sum := "9cb4b3484888efa414175245ae9e281dd23da55a9b3cd1744cab35df581f036f", func := "loop.example/g01200/laws.FnExactEulerOfPassport", spec := "fnExactEulerOfPassport", apart := false }
def FnExactEulerOfPassportSaid : Prop := fnExactEulerOfPassportRow.holds Try.pinned (OpenSpec.ofChange fnExactEulerOfPassportSpec)

/-- ITS FALSE NEIGHBOUR: 'it returns false'. Refute it at one input. -/
def fnExactEulerOfPassportWrong : ChangeSpec := { name := "fnExactEulerOfPassport", fn := fun _ => fun
  | [d] => { results := [.lit (.bool false)], args := [d] }
  | _ => none }
def FnExactEulerOfPassportWrongFalsely : Prop := fnExactEulerOfPassportRow.holds Try.pinned (OpenSpec.ofChange fnExactEulerOfPassportWrong)

/-- 'laws.FnExactAreAlike': WHATEVER THE INPUT: true; the input reads as it did. -/
def fnExactAreAlikeSpec : ChangeSpec := { name := "fnExactAreAlike", fn := fun _ => fun
  | [d1, d2] => { results := [.lit (.bool true)], args := [d1, d2] }
  | _ => none }
def fnExactAreAlikeRow : OpenClaim := { program := "ytbbgifoamnjhoaa", sum := "9cb4b3484888efa414175245ae9e281dd23da55a9b3cd1744cab35df581f036f", func := "loop.example/g01200/laws.FnExactAreAlike", spec := "fnExactAreAlike", inPlace := ["internal/bytealg.Compare"], apart := false }
def FnExactAreAlikeSaid : Prop := fnExactAreAlikeRow.holds Try.pinned (OpenSpec.ofChange fnExactAreAlikeSpec)

/-- ITS FALSE NEIGHBOUR: 'it returns false'. Refute it at one input. -/
def fnExactAreAlikeWrong : ChangeSpec := { name := "fnExactAreAlike", fn := fun _ => fun
  | [d1, d2] => { results := [.lit (.bool false)], args := [d1, d2] }
  | _ => none }
def FnExactAreAlikeWrongFalsely : Prop := fnExactAreAlikeRow.holds Try.pinned (OpenSpec.ofChange fnExactAreAlikeWrong)

/-- 'laws.FnExactIsChiral': WHATEVER THE INPUT: true; the input reads as it did. -/
def fnExactIsChiralSpec : ChangeSpec := { name := "fnExactIsChiral", fn := fun _ => fun
  | [d] => { results := [.lit (.bool true)], args := [d] }
  | _ => none }
def fnExactIsChiralRow : OpenClaim := { program := "ytbbgifoamnjhoaa", sum := "9cb4b3484888efa414175245ae9e281dd23da55a9b3cd1744cab35df581f036f", func := "loop.example/g01200/laws.FnExactIsChiral", spec := "fnExactIsChiral", inPlace := ["internal/bytealg.Compare"], apart := false }
def FnExactIsChiralSaid : Prop := fnExactIsChiralRow.holds Try.pinned (OpenSpec.ofChange fnExactIsChiralSpec)

/-- ITS FALSE NEIGHBOUR: 'it returns false'. Refute it at one input. -/
def fnExactIsChiralWrong : ChangeSpec := { name := "fnExactIsChiral", fn := fun _ => fun
  | [d] => { results := [.lit (.bool false)], args := [d] }
  | _ => none }
def FnExactIsChiralWrongFalsely : Prop := fnExactIsChiralRow.holds Try.pinned (OpenSpec.ofChange fnExactIsChiralWrong)

/-- 'laws.FnExactIsClean': WHATEVER THE INPUT: true; the input reads as it did. -/
def fnExactIsCleanSpec : ChangeSpec := { name := "fnExactIsClean", fn := fun _ => fun
  | [d] => { results := [.lit (.bool true)], args := [d] }
  | _ => none }
def fnExactIsCleanRow : OpenClaim := { program := "ytbbgifoamnjhoaa", sum := "9cb4b3484888efa414175245ae9e281dd23da55a9b3cd1744cab35df581f036f", func := "loop.example/g01200/laws.FnExactIsClean", spec := "fnExactIsClean", recurses := true, apart := false }
def FnExactIsCleanSaid : Prop := fnExactIsCleanRow.holds Try.pinned (OpenSpec.ofChange fnExactIsCleanSpec)

/-- ITS FALSE NEIGHBOUR: 'it returns false'. Refute it at one input. -/
def fnExactIsCleanWrong : ChangeSpec := { name := "fnExactIsClean", fn := fun _ => fun
  | [d] => { results := [.lit (.bool false)], args := [d] }
  | _ => none }
def FnExactIsCleanWrongFalsely : Prop := fnExactIsCleanRow.holds Try.pinned (OpenSpec.ofChange fnExactIsCleanWrong)

/-- 'laws.FnExactFaceDegrees': WHATEVER THE INPUT: true; the input reads as it did. -/
def fnExactFaceDegreesSpec : ChangeSpec := { name := "fnExactFaceDegrees", fn := fun _ => fun
  | [d] => { results := [.lit (.bool true)], args := [d] }
  | _ => none }
def fnExactFaceDegreesRow : OpenClaim := { program := "ytbbgifoamnjhoaa", sum := "9cb4b3484888efa414175245ae9e281dd23da55a9b3cd1744cab35df581f036f", func := "loop.example/g01200/laws.FnExactFaceDegrees", spec := "fnExactFaceDegrees", recurses := true, apart := false }
def FnExactFaceDegreesSaid : Prop := fnExactFaceDegreesRow.holds Try.pinned (OpenSpec.ofChange fnExactFaceDegreesSpec)

/-- ITS FALSE NEIGHBOUR: 'it returns false'. Refute it at one input. -/
def fnExactFaceDegreesWrong : ChangeSpec := { name := "fnExactFaceDegrees", fn := fun _ => fun
  | [d] => { results := [.lit (.bool false)], args := [d] }
  | _ => none }
def FnExactFaceDegreesWrongFalsely : Prop := fnExactFaceDegreesRow.holds Try.pinned (OpenSpec.ofChange fnExactFaceDegreesWrong)

/-- 'laws.FnExactVertexDegrees': WHATEVER THE INPUT: true; the input reads as it did. -/
def fnExactVertexDegreesSpec : ChangeSpec := { name := "fnExactVertexDegrees", fn := fun _ => fun
  | [d] => { results := [.lit (.bool true)], args := [d] }
  | _ => none }
def fnExactVertexDegreesRow : OpenClaim := { program := "ytbbgifoamnjhoaa", sum := "9cb4b3484888efa414175245ae9e281dd23da55a9b3cd1744cab35df581f036f", func := "loop.example/g01200/laws.FnExactVertexDegrees", spec := "fnExactVertexDegrees", recurses := true, apart := false }
def FnExactVertexDegreesSaid : Prop := fnExactVertexDegreesRow.holds Try.pinned (OpenSpec.ofChange fnExactVertexDegreesSpec)

/-- ITS FALSE NEIGHBOUR: 'it returns false'. Refute it at one input. -/
def fnExactVertexDegreesWrong : ChangeSpec := { name := "fnExactVertexDegrees", fn := fun _ => fun
  | [d] => { results := [.lit (.bool false)], args := [d] }
  | _ => none }
def FnExactVertexDegreesWrongFalsely : Prop := fnExactVertexDegreesRow.holds Try.pinned (OpenSpec.ofChange fnExactVertexDegreesWrong)

/-- 'laws.FnExactZigzagDegrees': WHATEVER THE INPUT: true; the input reads as it did. -/
def fnExactZigzagDegreesSpec : ChangeSpec := { name := "fnExactZigzagDegrees", fn := fun _ => fun
  | [d] => { results := [.lit (.bool true)], args := [d] }
  | _ => none }
def fnExactZigzagDegreesRow : OpenClaim := { program := "ytbbgifoamnjhoaa", sum := "9cb4b3484888efa414175245ae9e281dd23da55a9b3cd1744cab35df581f036f", func := "loop.example/g01200/laws.FnExactZigzagDegrees", spec := "fnExactZigzagDegrees", recurses := true, apart := false }
def FnExactZigzagDegreesSaid : Prop := fnExactZigzagDegreesRow.holds Try.pinned (OpenSpec.ofChange fnExactZigzagDegreesSpec)

/-- ITS FALSE NEIGHBOUR: 'it returns false'. Refute it at one input. -/
def fnExactZigzagDegreesWrong : ChangeSpec := { name := "fnExactZigzagDegrees", fn := fun _ => fun
  | [d] => { results := [.lit (.bool false)], args := [d] }
  | _ => none }
def FnExactZigzagDegreesWrongFalsely : Prop := fnExactZigzagDegreesRow.holds Try.pinned (OpenSpec.ofChange fnExactZigzagDegreesWrong)

/-- 'laws.FnExactFlagsOf': WHATEVER THE INPUT: true; the input reads as it did. -/
def fnExactFlagsOfSpec : ChangeSpec := { name := "fnExactFlagsOf", fn := fun _ => fun
  | [d] => { results := [.lit (.bool true)], args := [d] }
  | _ => none }
def fnExactFlagsOfRow : OpenClaim := { program := "ytbbgifoamnjhoaa", sum := "9cb4b3484888efa414175245ae9e281dd23da55a9b3cd1744cab35df581f036f", func := "loop.example/g01200/laws.FnExactFlagsOf", spec := "fnExactFlagsOf", recurses := true, apart := false }
def FnExactFlagsOfSaid : Prop := fnExactFlagsOfRow.holds Try.pinned (OpenSpec.ofChange fnExactFlagsOfSpec)

/-- ITS FALSE NEIGHBOUR: 'it returns false'. Refute it at one input. -/
def fnExactFlagsOfWrong : ChangeSpec := { name := "fnExactFlagsOf", fn := fun _ => fun
  | [d] => { results := [.lit (.bool false)], args := [d] }
  | _ => none }
def FnExactFlagsOfWrongFalsely : Prop := fnExactFlagsOfRow.holds Try.pinned (OpenSpec.ofChange fnExactFlagsOfWrong)

/-- 'laws.FnExactIsTree': WHATEVER THE INPUT: true; the input reads as it did. -/
def fnExactIsTreeSpec : ChangeSpec := { name := "fnExactIsTree", fn := fun _ => fun
  | [d] => { results := [.lit (.bool true)], args := [d] }
  | _ => none }
def fnExactIsTreeRow : OpenClaim := { program := "ytbbgifoamnjhoaa", sum := "9cb4b3484888efa414175245ae9e281dd23da55a9b3cd1744cab35df581f036f", func := "loop.example/g01200/laws.FnExactIsTree", spec := "fnExactIsTree", recurses := true, apart := false }
def FnExactIsTreeSaid : Prop := fnExactIsTreeRow.holds Try.pinned (OpenSpec.ofChange fnExactIsTreeSpec)

/-- ITS FALSE NEIGHBOUR: 'it returns false'. Refute it at one input. -/
def fnExactIsTreeWrong : ChangeSpec := { name := "fnExactIsTree", fn := fun _ => fun
  | [d] => { results := [.lit (.bool false)], args := [d] }
  | _ => none }
def FnExactIsTreeWrongFalsely : Prop := fnExactIsTreeRow.holds Try.pinned (OpenSpec.ofChange fnExactIsTreeWrong)

/-- 'laws.FnExactWordOfTree': WHATEVER THE INPUT: true; the input reads as it did. -/
def fnExactWordOfTreeSpec : ChangeSpec := { name := "fnExactWordOfTree", fn := fun _ => fun
  | [d1, d2] => { results := [.lit (.bool true)], args := [d1, d2] }
  | _ => none }
def fnExactWordOfTreeRow : OpenClaim := { program := "ytbbgifoamnjhoaa", sum := "9cb4b3484888efa414175245ae9e281dd23da55a9b3cd1744cab35df581f036f", func := "loop.example/g01200/laws.FnExactWordOfTree", spec := "fnExactWordOfTree", recurses := true, apart := false }
def FnExactWordOfTreeSaid : Prop := fnExactWordOfTreeRow.holds Try.pinned (OpenSpec.ofChange fnExactWordOfTreeSpec)

/-- ITS FALSE NEIGHBOUR: 'it returns false'. Refute it at one input. -/
def fnExactWordOfTreeWrong : ChangeSpec := { name := "fnExactWordOfTree", fn := fun _ => fun
  | [d1, d2] => { results := [.lit (.bool false)], args := [d1, d2] }
  | _ => none }
def FnExactWordOfTreeWrongFalsely : Prop := fnExactWordOfTreeRow.holds Try.pinned (OpenSpec.ofChange fnExactWordOfTreeWrong)

/-- 'laws.FnExactLeavesOf': WHATEVER THE INPUT: true; the input reads as it did. -/
def fnExactLeavesOfSpec : ChangeSpec := { name := "fnExactLeavesOf", fn := fun _ => fun
  | [d] => { results := [.lit (.bool true)], args := [d] }
  | _ => none }
def fnExactLeavesOfRow : OpenClaim := { program := "ytbbgifoamnjhoaa", sum := "9cb4b3484888efa414175245ae9e281dd23da55a9b3cd1744cab35df581f036f", func := "loop.example/g01200/laws.FnExactLeavesOf", spec := "fnExactLeavesOf", recurses := true, apart := false }
def FnExactLeavesOfSaid : Prop := fnExactLeavesOfRow.holds Try.pinned (OpenSpec.ofChange fnExactLeavesOfSpec)

/-- ITS FALSE NEIGHBOUR: 'it returns false'. Refute it at one input. -/
def fnExactLeavesOfWrong : ChangeSpec := { name := "fnExactLeavesOf", fn := fun _ => fun
  | [d] => { results := [.lit (.bool false)], args := [d] }
  | _ => none }
def FnExactLeavesOfWrongFalsely : Prop := fnExactLeavesOfRow.holds Try.pinned (OpenSpec.ofChange fnExactLeavesOfWrong)

/-- 'laws.FnExactCanonicalWord': WHATEVER THE INPUT: true; the input reads as it did. -/
def fnExactCanonicalWordSpec : ChangeSpec := { name := "fnExactCanonicalWord", fn := fun _ => fun
  | [d] => { results := [.lit (.bool true)], args := [d] }
  | _ => none }
def fnExactCanonicalWordRow : OpenClaim := { program := "ytbbgifoamnjhoaa", sum := "9cb4b3484888efa414175245ae9e281dd23da55a9b3cd1744cab35df581f036f", func := "loop.example/g01200/laws.FnExactCanonicalWord", spec := "fnExactCanonicalWord", recurses := true, apart := false }
def FnExactCanonicalWordSaid : Prop := fnExactCanonicalWordRow.holds Try.pinned (OpenSpec.ofChange fnExactCanonicalWordSpec)

/-- ITS FALSE NEIGHBOUR: 'it returns false'. Refute it at one input. -/
def fnExactCanonicalWordWrong : ChangeSpec := { name := "fnExactCanonicalWord", fn := fun _ => fun
  | [d] => { results := [.lit (.bool false)], args := [d] }
  | _ => none }
def FnExactCanonicalWordWrongFalsely : Prop := fnExactCanonicalWordRow.holds Try.pinned (OpenSpec.ofChange fnExactCanonicalWordWrong)

/-- 'laws.FnExactSymmetryOf': WHATEVER THE INPUT: true; the input reads as it did. -/
def fnExactSymmetryOfSpec : ChangeSpec := { name := "fnExactSymmetryOf", fn := fun _ => fun
  | [d] => { results := [.lit (.bool true)], args := [d] }
  | _ => none }
def fnExactSymmetryOfRow : OpenClaim := { program := "ytbbgifoamnjhoaa", sum := "9cb4b3484888efa414175245ae9e281dd23da55a9b3cd1744cab35df581f036f", func := "loop.example/g01200/laws.FnExactSymmetryOf", spec := "fnExactSymmetryOf", recurses := true, apart := false }
def FnExactSymmetryOfSaid : Prop := fnExactSymmetryOfRow.holds Try.pinned (OpenSpec.ofChange fnExactSymmetryOfSpec)

/-- ITS FALSE NEIGHBOUR: 'it returns false'. Refute it at one input. -/
def fnExactSymmetryOfWrong : ChangeSpec := { name := "fnExactSymmetryOf", fn := fun _ => fun
  | [d] => { results := [.lit (.bool false)], args := [d] }
  | _ => none }
def FnExactSymmetryOfWrongFalsely : Prop := fnExactSymmetryOfRow.holds Try.pinned (OpenSpec.ofChange fnExactSymmetryOfWrong)

/- THE SECOND FORM. 'bulk': how many values and letters a reading holds, each counted each time it is reached (what is shared counts as often as it is met; a slice's spare places count too). A statement '..UptoSaid' is the law's where the arguments, and the package variables that the reading takes, are together of bulk at most 1048576: NARROWER than '..Said'. Prove '..Said' where nothing that the law and all that it calls make is longer than what came in: it says more and counts as full. Else prove '..UptoSaid'. A law counts once. -/
mutual
def uptoBulk {H : Type} : DataW H → Nat
  | .lit (.string bytes) => bytes.length + 1
  | .lit _ => 1
  | .nil => 1
  | .ptr d => uptoBulk d + 1
  | .slice elems spare => uptoBulkAll elems + uptoBulkAll spare + 1
  | .agg parts => uptoBulkAll parts + 1
  | .iface _ d => uptoBulk d + 1
  | .map entries => uptoBulkEntries entries + 1
  | .held _ => 1
def uptoBulkAll {H : Type} : List (DataW H) → Nat
  | [] => 0
  | d :: r => uptoBulk d + uptoBulkAll r
def uptoBulkEntries {H : Type} : List (Lit × DataW H) → Nat
  | [] => 0
  | x :: r => uptoBulkEntry x + uptoBulkEntries r
def uptoBulkEntry {H : Type} : Lit × DataW H → Nat
  | (.string bytes, d) => bytes.length + uptoBulk d + 1
  | (_, d) => uptoBulk d + 1
 end
def uptoSmall : (H : Type) → List (DataW H) → Bool := fun _ ds => decide (uptoBulkAll ds ≤ 1048576)
def OpenSpec.upto (s : _root_.Go.ChangeSpec) : _root_.Go.OpenSpec := { _root_.Go.OpenSpec.ofChange s with cond := some uptoSmall }

/-- 'laws.FnExactTreeOfWord', WHERE WHAT IT READS IS OF BULK AT MOST 1048576: true; the input reads as it did. -/
def fnExactTreeOfWordUptoRow : OpenClaim := { program := "ytbbgifoamnjhoaa", sum := "9cb4b3484888efa414175245ae9e281dd23da55a9b3cd1744cab35df581f036f", func := "loop.example/g01200/laws.FnExactTreeOfWord", spec := "fnExactTreeOfWord", unfollowed := true, recurses := true, apart := false, narrowed := true }
def FnExactTreeOfWordUptoSaid : Prop := fnExactTreeOfWordUptoRow.holds Try.pinned (OpenSpec.upto fnExactTreeOfWordSpec)

/-- 'laws.FnExactEulerOfPassport', WHERE WHAT IT READS IS OF BULK AT MOST 1048576: true; the input reads as it did. -/
def fnExactEulerOfPassportUptoRow : OpenClaim := { program := "ytbbgifoamnjhoaa", sum := "9cb4b3484888efa414175245ae9e281dd23da55a9b3cd1744cab35df581f036f", func := "loop.example/g01200/laws.FnExactEulerOfPassport", spec := "fnExactEulerOfPassport", apart := false, narrowed := true }
def FnExactEulerOfPassportUptoSaid : Prop := fnExactEulerOfPassportUptoRow.holds Try.pinned (OpenSpec.upto fnExactEulerOfPassportSpec)

/-- 'laws.FnExactAreAlike', WHERE WHAT IT READS IS OF BULK AT MOST 1048576: true; the input reads as it did. -/
def fnExactAreAlikeUptoRow : OpenClaim := { program := "ytbbgifoamnjhoaa", sum := "9cb4b3484888efa414175245ae9e281dd23da55a9b3cd1744cab35df581f036f", func := "loop.example/g01200/laws.FnExactAreAlike", spec := "fnExactAreAlike", inPlace := ["internal/bytealg.Compare"], apart := false, narrowed := true }
def FnExactAreAlikeUptoSaid : Prop := fnExactAreAlikeUptoRow.holds Try.pinned (OpenSpec.upto fnExactAreAlikeSpec)

/-- 'laws.FnExactIsChiral', WHERE WHAT IT READS IS OF BULK AT MOST 1048576: true; the input reads as it did. -/
def fnExactIsChiralUptoRow : OpenClaim := { program := "ytbbgifoamnjhoaa", sum := "9cb4b3484888efa414175245ae9e281dd23da55a9b3cd1744cab35df581f036f", func := "loop.example/g01200/laws.FnExactIsChiral", spec := "fnExactIsChiral", inPlace := ["internal/bytealg.Compare"], apart := false, narrowed := true }
def FnExactIsChiralUptoSaid : Prop := fnExactIsChiralUptoRow.holds Try.pinned (OpenSpec.upto fnExactIsChiralSpec)

/-- 'laws.FnExactIsClean', WHERE WHAT IT READS IS OF BULK AT MOST 1048576: true; the input reads as it did. -/
def fnExactIsCleanUptoRow : OpenClaim := { program := "ytbbgifoamnjhoaa", sum := "9cb4b3484888efa414175245ae9e281dd23da55a9b3cd1744cab35df581f036f", func := "loop.example/g01200/laws.FnExactIsClean", spec := "fnExactIsClean", recurses := true, apart := false, narrowed := true }
def FnExactIsCleanUptoSaid : Prop := fnExactIsCleanUptoRow.holds Try.pinned (OpenSpec.upto fnExactIsCleanSpec)

/-- 'laws.FnExactFaceDegrees', WHERE WHAT IT READS IS OF BULK AT MOST 1048576: true; the input reads as it did. -/
def fnExactFaceDegreesUptoRow : OpenClaim := { program := "ytbbgifoamnjhoaa", sum := "9cb4b3484888efa414175245ae9e281dd23da55a9b3cd1744cab35df581f036f", func := "loop.example/g01200/laws.FnExactFaceDegrees", spec := "fnExactFaceDegrees", recurses := true, apart := false, narrowed := true }
def FnExactFaceDegreesUptoSaid : Prop := fnExactFaceDegreesUptoRow.holds Try.pinned (OpenSpec.upto fnExactFaceDegreesSpec)

/-- 'laws.FnExactVertexDegrees', WHERE WHAT IT READS IS OF BULK AT MOST 1048576: true; the input reads as it did. -/
def fnExactVertexDegreesUptoRow : OpenClaim := { program := "ytbbgifoamnjhoaa", sum := "9cb4b3484888efa414175245ae9e281dd23da55a9b3cd1744cab35df581f036f", func := "loop.example/g01200/laws.FnExactVertexDegrees", spec := "fnExactVertexDegrees", recurses := true, apart := false, narrowed := true }
def FnExactVertexDegreesUptoSaid : Prop := fnExactVertexDegreesUptoRow.holds Try.pinned (OpenSpec.upto fnExactVertexDegreesSpec)

/-- 'laws.FnExactZigzagDegrees', WHERE WHAT IT READS IS OF BULK AT MOST 1048576: true; the input reads as it did. -/
def fnExactZigzagDegreesUptoRow : OpenClaim := { program := "ytbbgifoamnjhoaa", sum := "9cb4b3484888efa414175245ae9e281dd23da55a9b3cd1744cab35df581f036f", func := "loop.example/g01200/laws.FnExactZigzagDegrees", spec := "fnExactZigzagDegrees", recurses := true, apart := false, narrowed := true }
def FnExactZigzagDegreesUptoSaid : Prop := fnExactZigzagDegreesUptoRow.holds Try.pinned (OpenSpec.upto fnExactZigzagDegreesSpec)

/-- 'laws.FnExactFlagsOf', WHERE WHAT IT READS IS OF BULK AT MOST 1048576: true; the input reads as it did. -/
def fnExactFlagsOfUptoRow : OpenClaim := { program := "ytbbgifoamnjhoaa", sum := "9cb4b3484888efa414175245ae9e281dd23da55a9b3cd1744cab35df581f036f", func := "loop.example/g01200/laws.FnExactFlagsOf", spec := "fnExactFlagsOf", recurses := true, apart := false, narrowed := true }
def FnExactFlagsOfUptoSaid : Prop := fnExactFlagsOfUptoRow.holds Try.pinned (OpenSpec.upto fnExactFlagsOfSpec)

/-- 'laws.FnExactIsTree', WHERE WHAT IT READS IS OF BULK AT MOST 1048576: true; the input reads as it did. -/
def fnExactIsTreeUptoRow : OpenClaim := { program := "ytbbgifoamnjhoaa", sum := "9cb4b3484888efa414175245ae9e281dd23da55a9b3cd1744cab35df581f036f", func := "loop.example/g01200/laws.FnExactIsTree", spec := "fnExactIsTree", recurses := true, apart := false, narrowed := true }
def FnExactIsTreeUptoSaid : Prop := fnExactIsTreeUptoRow.holds Try.pinned (OpenSpec.upto fnExactIsTreeSpec)

/-- 'laws.FnExactWordOfTree', WHERE WHAT IT READS IS OF BULK AT MOST 1048576: true; the input reads as it did. -/
def fnExactWordOfTreeUptoRow : OpenClaim := { program := "ytbbgifoamnjhoaa", sum := "9cb4b3484888efa414175245ae9e281dd23da55a9b3cd1744cab35df581f036f", func := "loop.example/g01200/laws.FnExactWordOfTree", spec := "fnExactWordOfTree", recurses := true, apart := false, narrowed := true }
def FnExactWordOfTreeUptoSaid : Prop := fnExactWordOfTreeUptoRow.holds Try.pinned (OpenSpec.upto fnExactWordOfTreeSpec)

/-- 'laws.FnExactLeavesOf', WHERE WHAT IT READS IS OF BULK AT MOST 1048576: true; the input reads as it did. -/
def fnExactLeavesOfUptoRow : OpenClaim := { program := "ytbbgifoamnjhoaa", sum := "9cb4b3484888efa414175245ae9e281dd23da55a9b3cd1744cab35df581f036f", func := "loop.example/g01200/laws.FnExactLeavesOf", spec := "fnExactLeavesOf", recurses := true, apart := false, narrowed := true }
def FnExactLeavesOfUptoSaid : Prop := fnExactLeavesOfUptoRow.holds Try.pinned (OpenSpec.upto fnExactLeavesOfSpec)

/-- 'laws.FnExactCanonicalWord', WHERE WHAT IT READS IS OF BULK AT MOST 1048576: true; the input reads as it did. -/
def fnExactCanonicalWordUptoRow : OpenClaim := { program := "ytbbgifoamnjhoaa", sum := "9cb4b3484888efa414175245ae9e281dd23da55a9b3cd1744cab35df581f036f", func := "loop.example/g01200/laws.FnExactCanonicalWord", spec := "fnExactCanonicalWord", recurses := true, apart := false, narrowed := true }
def FnExactCanonicalWordUptoSaid : Prop := fnExactCanonicalWordUptoRow.holds Try.pinned (OpenSpec.upto fnExactCanonicalWordSpec)

/-- 'laws.FnExactSymmetryOf', WHERE WHAT IT READS IS OF BULK AT MOST 1048576: true; the input reads as it did. -/
def fnExactSymmetryOfUptoRow : OpenClaim := { program := "ytbbgifoamnjhoaa", sum := "9cb4b3484888efa414175245ae9e281dd23da55a9b3cd1744cab35df581f036f", func := "loop.example/g01200/laws.FnExactSymmetryOf", spec := "fnExactSymmetryOf", recurses := true, apart := false, narrowed := true }
def FnExactSymmetryOfUptoSaid : Prop := fnExactSymmetryOfUptoRow.holds Try.pinned (OpenSpec.upto fnExactSymmetryOfSpec)

end Rows
end Go.Proofs.Ytbbgifoamnjhoaa
