/-
  No cell of these rows narrows 'for every input' (looked for: loops, veiled, ifaces, maps, wideKeys, modest, calm, conditions, laid).
  DERIVED. THE GIVEN ROWS OF THIS SEAT. 3 by the template 'for every input the law returns true; each argument reads behind the call as it read before'; 0 by the template 'total and deterministic' (their statements: YtbpfbfbabpkceaaGreatTotals.lean).
  GIVEN WITH THE SEED: the statements are not yours to turn. If you find one false, say at which input.
  Laid BY PROGRAM, IN A SANDBOX (cutbox-rows.mjs): the forced cells as the released guide's own fill.sh prints them over the translation a5e6ed18d6446829… (all of the seat's roots in one cut). By AI agents, Wed Nov 11 2026. No macro, syntax, notation, axiom, sorry.
-/
import Derived.Test.YtbpfbfbabpkceaaGreatChecked
import GoSem.Claim
import GoSem.ClaimJoined
import GoSem.ClaimMapViews
import Derived.JoinedTies
import Derived.KernelRfl
namespace Go.Proofs.YtbpfbfbabpkceaaGreat
/- THE CELL 'sum', in the pinned program and in every row, IS THE sha256 OF THE DUMP (.gsa) THAT YtbpfbfbabpkceaaGreatProg.lean LOADS. Nothing in Lean hashes anything: it is a label: what it is worth is what the hold of that sum in a sandbox is worth. -/
noncomputable def Tryz.pinned : Pinned := { name := "ytbpfbfbabpkceaagreat", sum := "a5e6ed18d644682917e347e03d6733f5281df4c2e5badc4e1324916f70b68c27", checked := Tryz.checked }
namespace Rows
def none {H : Type} : Left H := { results := [], args := [] }

/-- 'laws.FnExactPassportsOf': WHATEVER THE INPUT: true; the input reads as it did. -/
def fnExactPassportsOfSpec : ChangeSpec := { name := "fnExactPassportsOf", fn := fun _ => fun
  | [d1, d2] => { results := [.lit (.bool true)], args := [d1, d2] }
  | _ => none }
def fnExactPassportsOfRow : OpenClaim := { program := "ytbpfbfbabpkceaagreat", sum := "a5e6ed18d644682917e347e03d6733f5281df4c2e5badc4e1324916f70b68c27", func := "loop.example/g01200/laws.FnExactPassportsOf", spec := "fnExactPassportsOf", inPlace := ["internal/bytealg.Compare"], unfollowed := true, recurses := true, plainKeys := false, apart := false }
def FnExactPassportsOfSaid : Prop := fnExactPassportsOfRow.holds Tryz.pinned (OpenSpec.ofChange fnExactPassportsOfSpec)

/-- ITS FALSE NEIGHBOUR: 'it returns false'. Refute it at one input. -/
def fnExactPassportsOfWrong : ChangeSpec := { name := "fnExactPassportsOf", fn := fun _ => fun
  | [d1, d2] => { results := [.lit (.bool false)], args := [d1, d2] }
  | _ => none }
def FnExactPassportsOfWrongFalsely : Prop := fnExactPassportsOfRow.holds Tryz.pinned (OpenSpec.ofChange fnExactPassportsOfWrong)

/-- 'laws.FnExactDessinsOf': WHATEVER THE INPUT: true; the input reads as it did. -/
def fnExactDessinsOfSpec : ChangeSpec := { name := "fnExactDessinsOf", fn := fun _ => fun
  | [d] => { results := [.lit (.bool true)], args := [d] }
  | _ => none }
def fnExactDessinsOfRow : OpenClaim := { program := "ytbpfbfbabpkceaagreat", sum := "a5e6ed18d644682917e347e03d6733f5281df4c2e5badc4e1324916f70b68c27", func := "loop.example/g01200/laws.FnExactDessinsOf", spec := "fnExactDessinsOf", inPlace := ["internal/bytealg.Compare"], unfollowed := true, recurses := true, plainKeys := false, apart := false }
def FnExactDessinsOfSaid : Prop := fnExactDessinsOfRow.holds Tryz.pinned (OpenSpec.ofChange fnExactDessinsOfSpec)

/-- ITS FALSE NEIGHBOUR: 'it returns false'. Refute it at one input. -/
def fnExactDessinsOfWrong : ChangeSpec := { name := "fnExactDessinsOf", fn := fun _ => fun
  | [d] => { results := [.lit (.bool false)], args := [d] }
  | _ => none }
def FnExactDessinsOfWrongFalsely : Prop := fnExactDessinsOfRow.holds Tryz.pinned (OpenSpec.ofChange fnExactDessinsOfWrong)

/-- 'laws.FnDessinLists': WHATEVER THE INPUT: true; the input reads as it did. -/
def fnDessinListsSpec : ChangeSpec := { name := "fnDessinLists", fn := fun _ => fun
  | [d] => { results := [.lit (.bool true)], args := [d] }
  | _ => none }
def fnDessinListsRow : OpenClaim := { program := "ytbpfbfbabpkceaagreat", sum := "a5e6ed18d644682917e347e03d6733f5281df4c2e5badc4e1324916f70b68c27", func := "loop.example/g01200/laws.FnDessinLists", spec := "fnDessinLists", inPlace := ["internal/bytealg.Compare"], unfollowed := true, recurses := true, plainKeys := false, apart := false }
def FnDessinListsSaid : Prop := fnDessinListsRow.holds Tryz.pinned (OpenSpec.ofChange fnDessinListsSpec)

/-- ITS FALSE NEIGHBOUR: 'it returns false'. Refute it at one input. -/
def fnDessinListsWrong : ChangeSpec := { name := "fnDessinLists", fn := fun _ => fun
  | [d] => { results := [.lit (.bool false)], args := [d] }
  | _ => none }
def FnDessinListsWrongFalsely : Prop := fnDessinListsRow.holds Tryz.pinned (OpenSpec.ofChange fnDessinListsWrong)

/- THE SECOND FORM. 'bulk': how many values and letters a reading holds, each counted each time it is reached (what is shared counts as often as it is met; a slice's spare places count too). A statement '..UptoSaid' is the law's where the arguments, and the package variables that the reading takes, are together of bulk at most 1048576: NARROWER than '..Said'. Prove '..Said' where nothing that the law and all that it calls make is longer than what came in: it says more and counts as full. Else prove '..UptoSaid'. A law counts once. -/
mutual
def uptoBulk {H : Type} : DataW H → Nat
  | .lit (.string bytes) => bytes.length + 1
  | .lit _ => 1
  | .nil => 1
  | .ptr d => uptoBulk d + 1
  | .slice elems spare => uptoBulkAll elems + uptoBulkAll spare + 1
  | .agg parts => uptoBulkAll parts + 1
  | .iface _ d => uptoBulk d + 1
  | .map entries => uptoBulkEntries entries + 1
  | .held _ => 1
def uptoBulkAll {H : Type} : List (DataW H) → Nat
  | [] => 0
  | d :: r => uptoBulk d + uptoBulkAll r
def uptoBulkEntries {H : Type} : List (Lit × DataW H) → Nat
  | [] => 0
  | x :: r => uptoBulkEntry x + uptoBulkEntries r
def uptoBulkEntry {H : Type} : Lit × DataW H → Nat
  | (.string bytes, d) => bytes.length + uptoBulk d + 1
  | (_, d) => uptoBulk d + 1
 end
def uptoSmall : (H : Type) → List (DataW H) → Bool := fun _ ds => decide (uptoBulkAll ds ≤ 1048576)
def OpenSpec.upto (s : _root_.Go.ChangeSpec) : _root_.Go.OpenSpec := { _root_.Go.OpenSpec.ofChange s with cond := some uptoSmall }

/-- 'laws.FnExactPassportsOf', WHERE WHAT IT READS IS OF BULK AT MOST 1048576: true; the input reads as it did. -/
def fnExactPassportsOfUptoRow : OpenClaim := { program := "ytbpfbfbabpkceaagreat", sum := "a5e6ed18d644682917e347e03d6733f5281df4c2e5badc4e1324916f70b68c27", func := "loop.example/g01200/laws.FnExactPassportsOf", spec := "fnExactPassportsOf", inPlace := ["internal/bytealg.Compare"], unfollowed := true, recurses := true, plainKeys := false, apart := false, narrowed := true }
def FnExactPassportsOfUptoSaid : Prop := fnExactPassportsOfUptoRow.holds Tryz.pinned (OpenSpec.upto fnExactPassportsOfSpec)

/-- 'laws.FnExactDessinsOf', WHERE WHAT IT READS IS OF BULK AT MOST 1048576: true; the input reads as it did. -/
def fnExactDessinsOfUptoRow : OpenClaim := { program := "ytbpfbfbabpkceaagreat", sum := "a5e6ed18d644682917e347e03d6733f5281df4c2e5badc4e1324916f70b68c27", func := "loop.example/g01200/laws.FnExactDessinsOf", spec := "fnExactDessinsOf", inPlace := ["internal/bytealg.Compare"], unfollowed := true, recurses := true, plainKeys := false, apart := false, narrowed := true }
def FnExactDessinsOfUptoSaid : Prop := fnExactDessinsOfUptoRow.holds Tryz.pinned (OpenSpec.upto fnExactDessinsOfSpec)

/-- 'laws.FnDessinLists', WHERE WHAT IT READS IS OF BULK AT MOST 1048576: true; the input reads as it did. -/
def fnDessinListsUptoRow : OpenClaim := { program := "ytbpfbfbabpkceaagreat", sum := "a5e6ed18d644682917e347e03d6733f5281df4c2e5badc4e1324916f70b68c27", func := "loop.example/g01200/laws.FnDessinLists", spec := "fnDessinLists", inPlace := ["internal/bytealg.Compare"], unfollowed := true, recurses := true, plainKeys := false, apart := false, narrowed := true }
def FnDessinListsUptoSaid : Prop := fnDessinListsUptoRow.holds Tryz.pinned (OpenSpec.upto fnDessinListsSpec)

end Rows
end Go.Proofs.YtbpfbfbabpkceaaGreat
