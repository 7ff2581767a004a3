/-
  No cell of these rows narrows 'for every input' (looked for: loops, veiled, ifaces, maps, wideKeys, modest, calm, conditions, laid).
  DERIVED. THE GIVEN ROWS OF THIS SEAT. 8 by the template 'for every input the law returns true; each argument reads behind the call as it read before'; 0 by the template 'total and deterministic' (their statements: YthjjfdiofpdknaaTotals.lean).
  GIVEN WITH THE SEED: the statements are not yours to turn. If you find one false, say at which input.
  Laid BY PROGRAM, IN A SANDBOX (cutbox-rows.mjs): the forced cells as the released guide's own fill.sh prints them over the translation 61a29d0562e95475… (all of the seat's roots in one cut). By AI agents, Wed Nov 11 2026. No macro, syntax, notation, axiom, sorry.
-/
import Derived.Test.YthjjfdiofpdknaaChecked
import GoSem.Claim
import GoSem.ClaimJoined
import GoSem.ClaimMapViews
import Derived.JoinedTies
import Derived.KernelRfl
namespace Go.Proofs.Ythjjfdiofpdknaa
/- THE CELL 'sum', in the pinned program and in every row, IS THE sha256 OF THE DUMP (.gsa) THAT YthjjfdiofpdknaaProg.lean LOADS. Nothing in Lean hashes anything: it is a label: what it is worth is what the hold of that sum in a sandbox is worth. -/
noncomputable def Try.pinned : Pinned := { name := "ythjjfdiofpdknaa", sum := "61a29d0562e9547589faa4a71c2d847b76addc661f9c74d9ceb26a65112feead", checked := Try.checked }
namespace Rows
def none {H : Type} : Left H := { results := [], args := [] }

/-- 'laws.FnExactDiameterOf': WHATEVER THE INPUT: true; the input reads as it did. -/
def fnExactDiameterOfSpec : ChangeSpec := { name := "fnExactDiameterOf", fn := fun _ => fun
  | [d] => { results := [.lit (.bool true)], args := [d] }
  | _ => none }
def fnExactDiameterOfRow : OpenClaim := { program := "ythjjfdiofpdknaa", sum := "61a29d0562e9547589faa4a71c2d847b76addc661f9c74d9ceb26a65112feead", func := "loop.example/g01200/laws.FnExactDiameterOf", spec := "fnExactDiameterOf", recurses := true, apart := false }
def FnExactDiameterOfSaid : Prop := fnExactDiameterOfRow.holds Try.pinned (OpenSpec.ofChange fnExactDiameterOfSpec)

/-- ITS FALSE NEIGHBOUR: 'it returns false'. Refute it at one input. -/
def fnExactDiameterOfWrong : ChangeSpec := { name := "fnExactDiameterOf", fn := fun _ => fun
  | [d] => { results := [.lit (.bool false)], args := [d] }
  | _ => none }
def FnExactDiameterOfWrongFalsely : Prop := fnExactDiameterOfRow.holds Try.pinned (OpenSpec.ofChange fnExactDiameterOfWrong)

/-- 'laws.FnExactCentreOf': WHATEVER THE INPUT: true; the input reads as it did. -/
def fnExactCentreOfSpec : ChangeSpec := { name := "fnExactCentreOf", fn := fun _ => fun
  | [d] => { results := [.lit (.bool true)], args := [d] }
  | _ => none }
def fnExactCentreOfRow : OpenClaim := { program := "ythjjfdiofpdknaa", sum := "61a29d0562e9547589faa4a71c2d847b76addc661f9c74d9ceb26a65112feead", func := "loop.example/g01200/laws.FnExactCentreOf", spec := "fnExactCentreOf", recurses := true, apart := false }
def FnExactCentreOfSaid : Prop := fnExactCentreOfRow.holds Try.pinned (OpenSpec.ofChange fnExactCentreOfSpec)

/-- ITS FALSE NEIGHBOUR: 'it returns false'. Refute it at one input. -/
def fnExactCentreOfWrong : ChangeSpec := { name := "fnExactCentreOf", fn := fun _ => fun
  | [d] => { results := [.lit (.bool false)], args := [d] }
  | _ => none }
def FnExactCentreOfWrongFalsely : Prop := fnExactCentreOfRow.holds Try.pinned (OpenSpec.ofChange fnExactCentreOfWrong)

/-- 'laws.FnExactWeightsOf': WHATEVER THE INPUT: true; the input reads as it did. -/
def fnExactWeightsOfSpec : ChangeSpec := { name := "fnExactWeightsOf", fn := fun _ => fun
  | [d1, d2, d3] => { results := [.lit (.bool true)], args := [d1, d2, d3] }
  | _ => none }
def fnExactWeightsOfRow : OpenClaim := { program := "ythjjfdiofpdknaa", sum := "61a29d0562e9547589faa4a71c2d847b76addc661f9c74d9ceb26a65112feead", func := "loop.example/g01200/laws.FnExactWeightsOf", spec := "fnExactWeightsOf", recurses := true, apart := false }
def FnExactWeightsOfSaid : Prop := fnExactWeightsOfRow.holds Try.pinned (OpenSpec.ofChange fnExactWeightsOfSpec)

/-- ITS FALSE NEIGHBOUR: 'it returns false'. Refute it at one input. -/
def fnExactWeightsOfWrong : ChangeSpec := { name := "fnExactWeightsOf", fn := fun _ => fun
  | [d1, d2, d3] => { results := [.lit (.bool false)], args := [d1, d2, d3] }
  | _ => none }
def FnExactWeightsOfWrongFalsely : Prop := fnExactWeightsOfRow.holds Try.pinned (OpenSpec.ofChange fnExactWeightsOfWrong)

/-- 'laws.FnExactCountPairs': WHATEVER THE INPUT: true; the input reads as it did. -/
def fnExactCountPairsSpec : ChangeSpec := { name := "fnExactCountPairs", fn := fun _ => fun
  | [d] => { results := [.lit (.bool true)], args := [d] }
  | _ => none }
def fnExactCountPairsRow : OpenClaim := { program := "ythjjfdiofpdknaa", sum := "61a29d0562e9547589faa4a71c2d847b76addc661f9c74d9ceb26a65112feead", func := "loop.example/g01200/laws.FnExactCountPairs", spec := "fnExactCountPairs", unfollowed := true, recurses := true, apart := false }
def FnExactCountPairsSaid : Prop := fnExactCountPairsRow.holds Try.pinned (OpenSpec.ofChange fnExactCountPairsSpec)

/-- ITS FALSE NEIGHBOUR: 'it returns false'. Refute it at one input. -/
def fnExactCountPairsWrong : ChangeSpec := { name := "fnExactCountPairs", fn := fun _ => fun
  | [d] => { results := [.lit (.bool false)], args := [d] }
  | _ => none }
def FnExactCountPairsWrongFalsely : Prop := fnExactCountPairsRow.holds Try.pinned (OpenSpec.ofChange fnExactCountPairsWrong)

/-- 'laws.FnExactCountConnected': WHATEVER THE INPUT: true; the input reads as it did. -/
def fnExactCountConnectedSpec : ChangeSpec := { name := "fnExactCountConnected", fn := fun _ => fun
  | [d] => { results := [.lit (.bool true)], args := [d] }
  | _ => none }
def fnExactCountConnectedRow : OpenClaim := { program := "ythjjfdiofpdknaa", sum := "61a29d0562e9547589faa4a71c2d847b76addc661f9c74d9ceb26a65112feead", func := "loop.example/g01200/laws.FnExactCountConnected", spec := "fnExactCountConnected", unfollowed := true, recurses := true, apart := false }
def FnExactCountConnectedSaid : Prop := fnExactCountConnectedRow.holds Try.pinned (OpenSpec.ofChange fnExactCountConnectedSpec)

/-- ITS FALSE NEIGHBOUR: 'it returns false'. Refute it at one input. -/
def fnExactCountConnectedWrong : ChangeSpec := { name := "fnExactCountConnected", fn := fun _ => fun
  | [d] => { results := [.lit (.bool false)], args := [d] }
  | _ => none }
def FnExactCountConnectedWrongFalsely : Prop := fnExactCountConnectedRow.holds Try.pinned (OpenSpec.ofChange fnExactCountConnectedWrong)

/-- 'laws.FnExactTreesOfTypes': WHATEVER THE INPUT: true; the input reads as it did. -/
def fnExactTreesOfTypesSpec : ChangeSpec := { name := "fnExactTreesOfTypes", fn := fun _ => fun
  | [d1, d2] => { results := [.lit (.bool true)], args := [d1, d2] }
  | _ => none }
def fnExactTreesOfTypesRow : OpenClaim := { program := "ythjjfdiofpdknaa", sum := "61a29d0562e9547589faa4a71c2d847b76addc661f9c74d9ceb26a65112feead", func := "loop.example/g01200/laws.FnExactTreesOfTypes", spec := "fnExactTreesOfTypes", unfollowed := true, recurses := true, apart := false }
def FnExactTreesOfTypesSaid : Prop := fnExactTreesOfTypesRow.holds Try.pinned (OpenSpec.ofChange fnExactTreesOfTypesSpec)

/-- ITS FALSE NEIGHBOUR: 'it returns false'. Refute it at one input. -/
def fnExactTreesOfTypesWrong : ChangeSpec := { name := "fnExactTreesOfTypes", fn := fun _ => fun
  | [d1, d2] => { results := [.lit (.bool false)], args := [d1, d2] }
  | _ => none }
def FnExactTreesOfTypesWrongFalsely : Prop := fnExactTreesOfTypesRow.holds Try.pinned (OpenSpec.ofChange fnExactTreesOfTypesWrong)

/-- 'laws.FnTypes': WHATEVER THE INPUT: true; the input reads as it did. -/
def fnTypesSpec : ChangeSpec := { name := "fnTypes", fn := fun _ => fun
  | [d] => { results := [.lit (.bool true)], args := [d] }
  | _ => none }
def fnTypesRow : OpenClaim := { program := "ythjjfdiofpdknaa", sum := "61a29d0562e9547589faa4a71c2d847b76addc661f9c74d9ceb26a65112feead", func := "loop.example/g01200/laws.FnTypes", spec := "fnTypes", recurses := true, apart := false }
def FnTypesSaid : Prop := fnTypesRow.holds Try.pinned (OpenSpec.ofChange fnTypesSpec)

/-- ITS FALSE NEIGHBOUR: 'it returns false'. Refute it at one input. -/
def fnTypesWrong : ChangeSpec := { name := "fnTypes", fn := fun _ => fun
  | [d] => { results := [.lit (.bool false)], args := [d] }
  | _ => none }
def FnTypesWrongFalsely : Prop := fnTypesRow.holds Try.pinned (OpenSpec.ofChange fnTypesWrong)

/-- 'laws.FnNamings': WHATEVER THE INPUT: true; the input reads as it did. -/
def fnNamingsSpec : ChangeSpec := { name := "fnNamings", fn := fun _ => fun
  | [d] => { results := [.lit (.bool true)], args := [d] }
  | _ => none }
def fnNamingsRow : OpenClaim := { program := "ythjjfdiofpdknaa", sum := "61a29d0562e9547589faa4a71c2d847b76addc661f9c74d9ceb26a65112feead", func := "loop.example/g01200/laws.FnNamings", spec := "fnNamings", inPlace := ["internal/bytealg.Compare"], recurses := true, apart := false }
def FnNamingsSaid : Prop := fnNamingsRow.holds Try.pinned (OpenSpec.ofChange fnNamingsSpec)

/-- ITS FALSE NEIGHBOUR: 'it returns false'. Refute it at one input. -/
def fnNamingsWrong : ChangeSpec := { name := "fnNamings", fn := fun _ => fun
  | [d] => { results := [.lit (.bool false)], args := [d] }
  | _ => none }
def FnNamingsWrongFalsely : Prop := fnNamingsRow.holds Try.pinned (OpenSpec.ofChange fnNamingsWrong)

/- THE SECOND FORM. 'bulk': how many values and letters a reading holds, each counted each time it is reached (what is shared counts as often as it is met; a slice's spare places count too). A statement '..UptoSaid' is the law's where the arguments, and the package variables that the reading takes, are together of bulk at most 1048576: NARROWER than '..Said'. Prove '..Said' where nothing that the law and all that it calls make is longer than what came in: it says more and counts as full. Else prove '..UptoSaid'. A law counts once. -/
mutual
def uptoBulk {H : Type} : DataW H → Nat
  | .lit (.string bytes) => bytes.length + 1
  | .lit _ => 1
  | .nil => 1
  | .ptr d => uptoBulk d + 1
  | .slice elems spare => uptoBulkAll elems + uptoBulkAll spare + 1
  | .agg parts => uptoBulkAll parts + 1
  | .iface _ d => uptoBulk d + 1
  | .map entries => uptoBulkEntries entries + 1
  | .held _ => 1
def uptoBulkAll {H : Type} : List (DataW H) → Nat
  | [] => 0
  | d :: r => uptoBulk d + uptoBulkAll r
def uptoBulkEntries {H : Type} : List (Lit × DataW H) → Nat
  | [] => 0
  | x :: r => uptoBulkEntry x + uptoBulkEntries r
def uptoBulkEntry {H : Type} : Lit × DataW H → Nat
  | (.string bytes, d) => bytes.length + uptoBulk d + 1
  | (_, d) => uptoBulk d + 1
 end
def uptoSmall : (H : Type) → List (DataW H) → Bool := fun _ ds => decide (uptoBulkAll ds ≤ 1048576)
def OpenSpec.upto (s : _root_.Go.ChangeSpec) : _root_.Go.OpenSpec := { _root_.Go.OpenSpec.ofChange s with cond := some uptoSmall }

/-- 'laws.FnExactDiameterOf', WHERE WHAT IT READS IS OF BULK AT MOST 1048576: true; the input reads as it did. -/
def fnExactDiameterOfUptoRow : OpenClaim := { program := "ythjjfdiofpdknaa", sum := "61a29d0562e9547589faa4a71c2d847b76addc661f9c74d9ceb26a65112feead", func := "loop.example/g01200/laws.FnExactDiameterOf", spec := "fnExactDiameterOf", recurses := true, apart := false, narrowed := true }
def FnExactDiameterOfUptoSaid : Prop := fnExactDiameterOfUptoRow.holds Try.pinned (OpenSpec.upto fnExactDiameterOfSpec)

/-- 'laws.FnExactCentreOf', WHERE WHAT IT READS IS OF BULK AT MOST 1048576: true; the input reads as it did. -/
def fnExactCentreOfUptoRow : OpenClaim := { program := "ythjjfdiofpdknaa", sum := "61a29d0562e9547589faa4a71c2d847b76addc661f9c74d9ceb26a65112feead", func := "loop.example/g01200/laws.FnExactCentreOf", spec := "fnExactCentreOf", recurses := true, apart := false, narrowed := true }
def FnExactCentreOfUptoSaid : Prop := fnExactCentreOfUptoRow.holds Try.pinned (OpenSpec.upto fnExactCentreOfSpec)

/-- 'laws.FnExactWeightsOf', WHERE WHAT IT READS IS OF BULK AT MOST 1048576: true; the input reads as it did. -/
def fnExactWeightsOfUptoRow : OpenClaim := { program := "ythjjfdiofpdknaa", sum := "61a29d0562e9547589faa4a71c2d847b76addc661f9c74d9ceb26a65112feead", func := "loop.example/g01200/laws.FnExactWeightsOf", spec := "fnExactWeightsOf", recurses := true, apart := false, narrowed := true }
def FnExactWeightsOfUptoSaid : Prop := fnExactWeightsOfUptoRow.holds Try.pinned (OpenSpec.upto fnExactWeightsOfSpec)

/-- 'laws.FnExactCountPairs', WHERE WHAT IT READS IS OF BULK AT MOST 1048576: true; the input reads as it did. -/
def fnExactCountPairsUptoRow : OpenClaim := { program := "ythjjfdiofpdknaa", sum := "61a29d0562e9547589faa4a71c2d847b76addc661f9c74d9ceb26a65112feead", func := "loop.example/g01200/laws.FnExactCountPairs", spec := "fnExactCountPairs", unfollowed := true, recurses := true, apart := false, narrowed := true }
def FnExactCountPairsUptoSaid : Prop := fnExactCountPairsUptoRow.holds Try.pinned (OpenSpec.upto fnExactCountPairsSpec)

/-- 'laws.FnExactCountConnected', WHERE WHAT IT READS IS OF BULK AT MOST 1048576: true; the input reads as it did. -/
def fnExactCountConnectedUptoRow : OpenClaim := { program := "ythjjfdiofpdknaa", sum := "61a29d0562e9547589faa4a71c2d847b76addc661f9c74d9ceb26a65112feead", func := "loop.example/g01200/laws.FnExactCountConnected", spec := "fnExactCountConnected", unfollowed := true, recurses := true, apart := false, narrowed := true }
def FnExactCountConnectedUptoSaid : Prop := fnExactCountConnectedUptoRow.holds Try.pinned (OpenSpec.upto fnExactCountConnectedSpec)

/-- 'laws.FnExactTreesOfTypes', WHERE WHAT IT READS IS OF BULK AT MOST 1048576: true; the input reads as it did. -/
def fnExactTreesOfTypesUptoRow : OpenClaim := { program := "ythjjfdiofpdknaa", sum := "61a29d0562e9547589faa4a71c2d847b76addc661f9c74d9ceb26a65112feead", func := "loop.example/g01200/laws.FnExactTreesOfTypes", spec := "fnExactTreesOfTypes", unfollowed := true, recurses := true, apart := false, narrowed := true }
def FnExactTreesOfTypesUptoSaid : Prop := fnExactTreesOfTypesUptoRow.holds Try.pinned (OpenSpec.upto fnExactTreesOfTypesSpec)

/-- 'laws.FnTypes', WHERE WHAT IT READS IS OF BULK AT MOST 1048576: true; the input reads as it did. -/
def fnTypesUptoRow : OpenClaim := { program := "ythjjfdiofpdknaa", sum := "61a29d0562e9547589faa4a71c2d847b76addc661f9c74d9ceb26a65112feead", func := "loop.example/g01200/laws.FnTypes", spec := "fnTypes", recurses := true, apart := false, narrowed := true }
def FnTypesUptoSaid : Prop := fnTypesUptoRow.holds Try.pinned (OpenSpec.upto fnTypesSpec)

/-- 'laws.FnNamings', WHERE WHAT IT READS IS OF BULK AT MOST 1048576: true; the input reads as it did. -/
def fnNamingsUptoRow : OpenClaim := { program := "ythjjfdiofpdknaa", sum := "61a29d0562e9547589faa4a71c2d847b76addc661f9c74d9ceb26a65112feead", func := "loop.example/g01200/laws.FnNamings", spec := "fnNamings", inPlace := ["internal/bytealg.Compare"], recurses := true, apart := false, narrowed := true }
def FnNamingsUptoSaid : Prop := fnNamingsUptoRow.holds Try.pinned (OpenSpec.upto fnNamingsSpec)

end Rows
end Go.Proofs.Ythjjfdiofpdknaa
