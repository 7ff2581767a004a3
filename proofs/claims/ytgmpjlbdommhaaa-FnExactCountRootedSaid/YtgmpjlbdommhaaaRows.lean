/-
  No cell of these rows narrows 'for every input' (looked for: loops, veiled, ifaces, maps, wideKeys, modest, calm, conditions, laid).
  DERIVED. THE GIVEN ROWS OF THIS SEAT. 18 by the template 'for every input the law returns true; each argument reads behind the call as it read before'; 0 by the template 'total and deterministic' (their statements: YtgmpjlbdommhaaaTotals.lean).
  GIVEN WITH THE SEED: the statements are not yours to turn. If you find one false, say at which input.
  Laid BY PROGRAM, IN A SANDBOX (cutbox-rows.mjs): the forced cells as the released guide's own fill.sh prints them over the translation 45eb6e75f5c0253c… (all of the seat's roots in one cut). By AI agents, Wed Nov 11 2026. No macro, syntax, notation, axiom, sorry.
-/
import Derived.Test.YtgmpjlbdommhaaaChecked
import GoSem.Claim
import GoSem.ClaimJoined
import GoSem.ClaimMapViews
import Derived.JoinedTies
import Derived.KernelRfl
namespace Go.Proofs.Ytgmpjlbdommhaaa
/- THE CELL 'sum', in the pinned program and in every row, IS THE sha256 OF THE DUMP (.gsa) THAT YtgmpjlbdommhaaaProg.lean LOADS. Nothing in Lean hashes anything: it is a label: what it is worth is what the hold of that sum in a sandbox is worth. -/
noncomputable def Try.pinned : Pinned := { name := "ytgmpjlbdommhaaa", sum := "45eb6e75f5c0253c315d797a42ab244b78c6b66ad7831d3bf58b4c345c9c4e4b", checked := Try.checked }
namespace Rows
def none {H : Type} : Left H := { results := [], args := [] }

/-- 'laws.FnExactIsPolynomial': WHATEVER THE INPUT: true; the input reads as it did. -/
def fnExactIsPolynomialSpec : ChangeSpec := { name := "fnExactIsPolynomial", fn := fun _ => fun
  | [d] => { results := [.lit (.bool true)], args := [d] }
  | _ => none }
def fnExactIsPolynomialRow : OpenClaim := { program := "ytgmpjlbdommhaaa", sum := "45eb6e75f5c0253c315d797a42ab244b78c6b66ad7831d3bf58b4c345c9c4e4b", func := "loop.example/g01200/laws.FnExactIsPolynomial", spec := "fnExactIsPolynomial", apart := false }
def FnExactIsPolynomialSaid : Prop := fnExactIsPolynomialRow.holds Try.pinned (OpenSpec.ofChange fnExactIsPolynomialSpec)

/-- ITS FALSE NEIGHBOUR: 'it returns false'. Refute it at one input. -/
def fnExactIsPolynomialWrong : ChangeSpec := { name := "fnExactIsPolynomial", fn := fun _ => fun
  | [d] => { results := [.lit (.bool false)], args := [d] }
  | _ => none }
def FnExactIsPolynomialWrongFalsely : Prop := fnExactIsPolynomialRow.holds Try.pinned (OpenSpec.ofChange fnExactIsPolynomialWrong)

/-- 'laws.FnExactStarPolynomial': WHATEVER THE INPUT: true; the input reads as it did. -/
def fnExactStarPolynomialSpec : ChangeSpec := { name := "fnExactStarPolynomial", fn := fun _ => fun
  | [d] => { results := [.lit (.bool true)], args := [d] }
  | _ => none }
def fnExactStarPolynomialRow : OpenClaim := { program := "ytgmpjlbdommhaaa", sum := "45eb6e75f5c0253c315d797a42ab244b78c6b66ad7831d3bf58b4c345c9c4e4b", func := "loop.example/g01200/laws.FnExactStarPolynomial", spec := "fnExactStarPolynomial", apart := false }
def FnExactStarPolynomialSaid : Prop := fnExactStarPolynomialRow.holds Try.pinned (OpenSpec.ofChange fnExactStarPolynomialSpec)

/-- ITS FALSE NEIGHBOUR: 'it returns false'. Refute it at one input. -/
def fnExactStarPolynomialWrong : ChangeSpec := { name := "fnExactStarPolynomial", fn := fun _ => fun
  | [d] => { results := [.lit (.bool false)], args := [d] }
  | _ => none }
def FnExactStarPolynomialWrongFalsely : Prop := fnExactStarPolynomialRow.holds Try.pinned (OpenSpec.ofChange fnExactStarPolynomialWrong)

/-- 'laws.FnExactValueOf': WHATEVER THE INPUT: true; the input reads as it did. -/
def fnExactValueOfSpec : ChangeSpec := { name := "fnExactValueOf", fn := fun _ => fun
  | [d1, d2] => { results := [.lit (.bool true)], args := [d1, d2] }
  | _ => none }
def fnExactValueOfRow : OpenClaim := { program := "ytgmpjlbdommhaaa", sum := "45eb6e75f5c0253c315d797a42ab244b78c6b66ad7831d3bf58b4c345c9c4e4b", func := "loop.example/g01200/laws.FnExactValueOf", spec := "fnExactValueOf", apart := false }
def FnExactValueOfSaid : Prop := fnExactValueOfRow.holds Try.pinned (OpenSpec.ofChange fnExactValueOfSpec)

/-- ITS FALSE NEIGHBOUR: 'it returns false'. Refute it at one input. -/
def fnExactValueOfWrong : ChangeSpec := { name := "fnExactValueOf", fn := fun _ => fun
  | [d1, d2] => { results := [.lit (.bool false)], args := [d1, d2] }
  | _ => none }
def FnExactValueOfWrongFalsely : Prop := fnExactValueOfRow.holds Try.pinned (OpenSpec.ofChange fnExactValueOfWrong)

/-- 'laws.FnExactDerivativeOf': WHATEVER THE INPUT: true; the input reads as it did. -/
def fnExactDerivativeOfSpec : ChangeSpec := { name := "fnExactDerivativeOf", fn := fun _ => fun
  | [d] => { results := [.lit (.bool true)], args := [d] }
  | _ => none }
def fnExactDerivativeOfRow : OpenClaim := { program := "ytgmpjlbdommhaaa", sum := "45eb6e75f5c0253c315d797a42ab244b78c6b66ad7831d3bf58b4c345c9c4e4b", func := "loop.example/g01200/laws.FnExactDerivativeOf", spec := "fnExactDerivativeOf", apart := false }
def FnExactDerivativeOfSaid : Prop := fnExactDerivativeOfRow.holds Try.pinned (OpenSpec.ofChange fnExactDerivativeOfSpec)

/-- ITS FALSE NEIGHBOUR: 'it returns false'. Refute it at one input. -/
def fnExactDerivativeOfWrong : ChangeSpec := { name := "fnExactDerivativeOf", fn := fun _ => fun
  | [d] => { results := [.lit (.bool false)], args := [d] }
  | _ => none }
def FnExactDerivativeOfWrongFalsely : Prop := fnExactDerivativeOfRow.holds Try.pinned (OpenSpec.ofChange fnExactDerivativeOfWrong)

/-- 'laws.FnExactCountRooted': WHATEVER THE INPUT: true; the input reads as it did. -/
def fnExactCountRootedSpec : ChangeSpec := { name := "fnExactCountRooted", fn := fun _ => fun
  | [d1, d2] => { results := [.lit (.bool true)], args := [d1, d2] }
  | _ => none }
def fnExactCountRootedRow : OpenClaim := { program := "ytgmpjlbdommhaaa", sum := "45eb6e75f5c0253c315d797a42ab244b78c6b66ad7831d3bf58b4c345c9c4e4b", func := "loop.example/g01200/laws.FnExactCountRooted", spec := "fnExactCountRooted", apart := false }
def FnExactCountRootedSaid : Prop := fnExactCountRootedRow.holds Try.pinned (OpenSpec.ofChange fnExactCountRootedSpec)

/-- ITS FALSE NEIGHBOUR: 'it returns false'. Refute it at one input. -/
def fnExactCountRootedWrong : ChangeSpec := { name := "fnExactCountRooted", fn := fun _ => fun
  | [d1, d2] => { results := [.lit (.bool false)], args := [d1, d2] }
  | _ => none }
def FnExactCountRootedWrongFalsely : Prop := fnExactCountRootedRow.holds Try.pinned (OpenSpec.ofChange fnExactCountRootedWrong)

/-- 'laws.FnExactAddPolynomials': WHATEVER THE INPUT: true; the input reads as it did. -/
def fnExactAddPolynomialsSpec : ChangeSpec := { name := "fnExactAddPolynomials", fn := fun _ => fun
  | [d1, d2] => { results := [.lit (.bool true)], args := [d1, d2] }
  | _ => none }
def fnExactAddPolynomialsRow : OpenClaim := { program := "ytgmpjlbdommhaaa", sum := "45eb6e75f5c0253c315d797a42ab244b78c6b66ad7831d3bf58b4c345c9c4e4b", func := "loop.example/g01200/laws.FnExactAddPolynomials", spec := "fnExactAddPolynomials", apart := false }
def FnExactAddPolynomialsSaid : Prop := fnExactAddPolynomialsRow.holds Try.pinned (OpenSpec.ofChange fnExactAddPolynomialsSpec)

/-- ITS FALSE NEIGHBOUR: 'it returns false'. Refute it at one input. -/
def fnExactAddPolynomialsWrong : ChangeSpec := { name := "fnExactAddPolynomials", fn := fun _ => fun
  | [d1, d2] => { results := [.lit (.bool false)], args := [d1, d2] }
  | _ => none }
def FnExactAddPolynomialsWrongFalsely : Prop := fnExactAddPolynomialsRow.holds Try.pinned (OpenSpec.ofChange fnExactAddPolynomialsWrong)

/-- 'laws.FnExactMultiplyPolynomials': WHATEVER THE INPUT: true; the input reads as it did. -/
def fnExactMultiplyPolynomialsSpec : ChangeSpec := { name := "fnExactMultiplyPolynomials", fn := fun _ => fun
  | [d1, d2] => { results := [.lit (.bool true)], args := [d1, d2] }
  | _ => none }
def fnExactMultiplyPolynomialsRow : OpenClaim := { program := "ytgmpjlbdommhaaa", sum := "45eb6e75f5c0253c315d797a42ab244b78c6b66ad7831d3bf58b4c345c9c4e4b", func := "loop.example/g01200/laws.FnExactMultiplyPolynomials", spec := "fnExactMultiplyPolynomials", apart := false }
def FnExactMultiplyPolynomialsSaid : Prop := fnExactMultiplyPolynomialsRow.holds Try.pinned (OpenSpec.ofChange fnExactMultiplyPolynomialsSpec)

/-- ITS FALSE NEIGHBOUR: 'it returns false'. Refute it at one input. -/
def fnExactMultiplyPolynomialsWrong : ChangeSpec := { name := "fnExactMultiplyPolynomials", fn := fun _ => fun
  | [d1, d2] => { results := [.lit (.bool false)], args := [d1, d2] }
  | _ => none }
def FnExactMultiplyPolynomialsWrongFalsely : Prop := fnExactMultiplyPolynomialsRow.holds Try.pinned (OpenSpec.ofChange fnExactMultiplyPolynomialsWrong)

/-- 'laws.FnExactChainPolynomial': WHATEVER THE INPUT: true; the input reads as it did. -/
def fnExactChainPolynomialSpec : ChangeSpec := { name := "fnExactChainPolynomial", fn := fun _ => fun
  | [d] => { results := [.lit (.bool true)], args := [d] }
  | _ => none }
def fnExactChainPolynomialRow : OpenClaim := { program := "ytgmpjlbdommhaaa", sum := "45eb6e75f5c0253c315d797a42ab244b78c6b66ad7831d3bf58b4c345c9c4e4b", func := "loop.example/g01200/laws.FnExactChainPolynomial", spec := "fnExactChainPolynomial", apart := false }
def FnExactChainPolynomialSaid : Prop := fnExactChainPolynomialRow.holds Try.pinned (OpenSpec.ofChange fnExactChainPolynomialSpec)

/-- ITS FALSE NEIGHBOUR: 'it returns false'. Refute it at one input. -/
def fnExactChainPolynomialWrong : ChangeSpec := { name := "fnExactChainPolynomial", fn := fun _ => fun
  | [d] => { results := [.lit (.bool false)], args := [d] }
  | _ => none }
def FnExactChainPolynomialWrongFalsely : Prop := fnExactChainPolynomialRow.holds Try.pinned (OpenSpec.ofChange fnExactChainPolynomialWrong)

/-- 'laws.FnExactEulerOfPassport': WHATEVER THE INPUT: true; the input reads as it did. -/
def fnExactEulerOfPassportSpec : ChangeSpec := { name := "fnExactEulerOfPassport", fn := fun _ => fun
  | [d] => { results := [.lit (.bool true)], args := [d] }
  | _ => none }
def fnExactEulerOfPassportRow : OpenClaim := { program := "ytgmpjlbdommhaaa", sum := "45eb6e75f5c0253c315d797a42ab244b78c6b66ad7831d3bf58b4c345c9c4e4b", func := "loop.example/g01200/laws.FnExactEulerOfPassport", spec := "fnExactEulerOfPassport", apart := false }
def FnExactEulerOfPassportSaid : Prop := fnExactEulerOfPassportRow.holds Try.pinned (OpenSpec.ofChange fnExactEulerOfPassportSpec)

/-- ITS FALSE NEIGHBOUR: 'it returns false'. Refute it at one input. -/
def fnExactEulerOfPassportWrong : ChangeSpec := { name := "fnExactEulerOfPassport", fn := fun _ => fun
  | [d] => { results := [.lit (.bool false)], args := [d] }
  | _ => none }
def FnExactEulerOfPassportWrongFalsely : Prop := fnExactEulerOfPassportRow.holds Try.pinned (OpenSpec.ofChange fnExactEulerOfPassportWrong)

/-- 'laws.FnExactForkPolynomial': WHATEVER THE INPUT: true; the input reads as it did. -/
def fnExactForkPolynomialSpec : ChangeSpec := { name := "fnExactForkPolynomial", fn := fun _ => fun
  | [d1, d2] => { results := [.lit (.bool true)], args := [d1, d2] }
  | _ => none }
def fnExactForkPolynomialRow : OpenClaim := { program := "ytgmpjlbdommhaaa", sum := "45eb6e75f5c0253c315d797a42ab244b78c6b66ad7831d3bf58b4c345c9c4e4b", func := "loop.example/g01200/laws.FnExactForkPolynomial", spec := "fnExactForkPolynomial", apart := false }
def FnExactForkPolynomialSaid : Prop := fnExactForkPolynomialRow.holds Try.pinned (OpenSpec.ofChange fnExactForkPolynomialSpec)

/-- ITS FALSE NEIGHBOUR: 'it returns false'. Refute it at one input. -/
def fnExactForkPolynomialWrong : ChangeSpec := { name := "fnExactForkPolynomial", fn := fun _ => fun
  | [d1, d2] => { results := [.lit (.bool false)], args := [d1, d2] }
  | _ => none }
def FnExactForkPolynomialWrongFalsely : Prop := fnExactForkPolynomialRow.holds Try.pinned (OpenSpec.ofChange fnExactForkPolynomialWrong)

/-- 'laws.FnExactComposePolynomials': WHATEVER THE INPUT: true; the input reads as it did. -/
def fnExactComposePolynomialsSpec : ChangeSpec := { name := "fnExactComposePolynomials", fn := fun _ => fun
  | [d1, d2] => { results := [.lit (.bool true)], args := [d1, d2] }
  | _ => none }
def fnExactComposePolynomialsRow : OpenClaim := { program := "ytgmpjlbdommhaaa", sum := "45eb6e75f5c0253c315d797a42ab244b78c6b66ad7831d3bf58b4c345c9c4e4b", func := "loop.example/g01200/laws.FnExactComposePolynomials", spec := "fnExactComposePolynomials", apart := false }
def FnExactComposePolynomialsSaid : Prop := fnExactComposePolynomialsRow.holds Try.pinned (OpenSpec.ofChange fnExactComposePolynomialsSpec)

/-- ITS FALSE NEIGHBOUR: 'it returns false'. Refute it at one input. -/
def fnExactComposePolynomialsWrong : ChangeSpec := { name := "fnExactComposePolynomials", fn := fun _ => fun
  | [d1, d2] => { results := [.lit (.bool false)], args := [d1, d2] }
  | _ => none }
def FnExactComposePolynomialsWrongFalsely : Prop := fnExactComposePolynomialsRow.holds Try.pinned (OpenSpec.ofChange fnExactComposePolynomialsWrong)

/-- 'laws.FnExactCommonDivisor': WHATEVER THE INPUT: true; the input reads as it did. -/
def fnExactCommonDivisorSpec : ChangeSpec := { name := "fnExactCommonDivisor", fn := fun _ => fun
  | [d1, d2] => { results := [.lit (.bool true)], args := [d1, d2] }
  | _ => none }
def fnExactCommonDivisorRow : OpenClaim := { program := "ytgmpjlbdommhaaa", sum := "45eb6e75f5c0253c315d797a42ab244b78c6b66ad7831d3bf58b4c345c9c4e4b", func := "loop.example/g01200/laws.FnExactCommonDivisor", spec := "fnExactCommonDivisor", apart := false }
def FnExactCommonDivisorSaid : Prop := fnExactCommonDivisorRow.holds Try.pinned (OpenSpec.ofChange fnExactCommonDivisorSpec)

/-- ITS FALSE NEIGHBOUR: 'it returns false'. Refute it at one input. -/
def fnExactCommonDivisorWrong : ChangeSpec := { name := "fnExactCommonDivisor", fn := fun _ => fun
  | [d1, d2] => { results := [.lit (.bool false)], args := [d1, d2] }
  | _ => none }
def FnExactCommonDivisorWrongFalsely : Prop := fnExactCommonDivisorRow.holds Try.pinned (OpenSpec.ofChange fnExactCommonDivisorWrong)

/-- 'laws.FnExactIsCritical': WHATEVER THE INPUT: true; the input reads as it did. -/
def fnExactIsCriticalSpec : ChangeSpec := { name := "fnExactIsCritical", fn := fun _ => fun
  | [d1, d2] => { results := [.lit (.bool true)], args := [d1, d2] }
  | _ => none }
def fnExactIsCriticalRow : OpenClaim := { program := "ytgmpjlbdommhaaa", sum := "45eb6e75f5c0253c315d797a42ab244b78c6b66ad7831d3bf58b4c345c9c4e4b", func := "loop.example/g01200/laws.FnExactIsCritical", spec := "fnExactIsCritical", apart := false }
def FnExactIsCriticalSaid : Prop := fnExactIsCriticalRow.holds Try.pinned (OpenSpec.ofChange fnExactIsCriticalSpec)

/-- ITS FALSE NEIGHBOUR: 'it returns false'. Refute it at one input. -/
def fnExactIsCriticalWrong : ChangeSpec := { name := "fnExactIsCritical", fn := fun _ => fun
  | [d1, d2] => { results := [.lit (.bool false)], args := [d1, d2] }
  | _ => none }
def FnExactIsCriticalWrongFalsely : Prop := fnExactIsCriticalRow.holds Try.pinned (OpenSpec.ofChange fnExactIsCriticalWrong)

/-- 'laws.FnExactMultiplicitiesOf': WHATEVER THE INPUT: true; the input reads as it did. -/
def fnExactMultiplicitiesOfSpec : ChangeSpec := { name := "fnExactMultiplicitiesOf", fn := fun _ => fun
  | [d1, d2] => { results := [.lit (.bool true)], args := [d1, d2] }
  | _ => none }
def fnExactMultiplicitiesOfRow : OpenClaim := { program := "ytgmpjlbdommhaaa", sum := "45eb6e75f5c0253c315d797a42ab244b78c6b66ad7831d3bf58b4c345c9c4e4b", func := "loop.example/g01200/laws.FnExactMultiplicitiesOf", spec := "fnExactMultiplicitiesOf", apart := false }
def FnExactMultiplicitiesOfSaid : Prop := fnExactMultiplicitiesOfRow.holds Try.pinned (OpenSpec.ofChange fnExactMultiplicitiesOfSpec)

/-- ITS FALSE NEIGHBOUR: 'it returns false'. Refute it at one input. -/
def fnExactMultiplicitiesOfWrong : ChangeSpec := { name := "fnExactMultiplicitiesOf", fn := fun _ => fun
  | [d1, d2] => { results := [.lit (.bool false)], args := [d1, d2] }
  | _ => none }
def FnExactMultiplicitiesOfWrongFalsely : Prop := fnExactMultiplicitiesOfRow.holds Try.pinned (OpenSpec.ofChange fnExactMultiplicitiesOfWrong)

/-- 'laws.FnExactIsShabat': WHATEVER THE INPUT: true; the input reads as it did. -/
def fnExactIsShabatSpec : ChangeSpec := { name := "fnExactIsShabat", fn := fun _ => fun
  | [d1, d2, d3] => { results := [.lit (.bool true)], args := [d1, d2, d3] }
  | _ => none }
def fnExactIsShabatRow : OpenClaim := { program := "ytgmpjlbdommhaaa", sum := "45eb6e75f5c0253c315d797a42ab244b78c6b66ad7831d3bf58b4c345c9c4e4b", func := "loop.example/g01200/laws.FnExactIsShabat", spec := "fnExactIsShabat", apart := false }
def FnExactIsShabatSaid : Prop := fnExactIsShabatRow.holds Try.pinned (OpenSpec.ofChange fnExactIsShabatSpec)

/-- ITS FALSE NEIGHBOUR: 'it returns false'. Refute it at one input. -/
def fnExactIsShabatWrong : ChangeSpec := { name := "fnExactIsShabat", fn := fun _ => fun
  | [d1, d2, d3] => { results := [.lit (.bool false)], args := [d1, d2, d3] }
  | _ => none }
def FnExactIsShabatWrongFalsely : Prop := fnExactIsShabatRow.holds Try.pinned (OpenSpec.ofChange fnExactIsShabatWrong)

/-- 'laws.FnExactPassportOfShabat': WHATEVER THE INPUT: true; the input reads as it did. -/
def fnExactPassportOfShabatSpec : ChangeSpec := { name := "fnExactPassportOfShabat", fn := fun _ => fun
  | [d1, d2, d3] => { results := [.lit (.bool true)], args := [d1, d2, d3] }
  | _ => none }
def fnExactPassportOfShabatRow : OpenClaim := { program := "ytgmpjlbdommhaaa", sum := "45eb6e75f5c0253c315d797a42ab244b78c6b66ad7831d3bf58b4c345c9c4e4b", func := "loop.example/g01200/laws.FnExactPassportOfShabat", spec := "fnExactPassportOfShabat", apart := false }
def FnExactPassportOfShabatSaid : Prop := fnExactPassportOfShabatRow.holds Try.pinned (OpenSpec.ofChange fnExactPassportOfShabatSpec)

/-- ITS FALSE NEIGHBOUR: 'it returns false'. Refute it at one input. -/
def fnExactPassportOfShabatWrong : ChangeSpec := { name := "fnExactPassportOfShabat", fn := fun _ => fun
  | [d1, d2, d3] => { results := [.lit (.bool false)], args := [d1, d2, d3] }
  | _ => none }
def FnExactPassportOfShabatWrongFalsely : Prop := fnExactPassportOfShabatRow.holds Try.pinned (OpenSpec.ofChange fnExactPassportOfShabatWrong)

/-- 'laws.FnFieldPolynomials': WHATEVER THE INPUT: true; the input reads as it did. -/
def fnFieldPolynomialsSpec : ChangeSpec := { name := "fnFieldPolynomials", fn := fun _ => fun
  | [d] => { results := [.lit (.bool true)], args := [d] }
  | _ => none }
def fnFieldPolynomialsRow : OpenClaim := { program := "ytgmpjlbdommhaaa", sum := "45eb6e75f5c0253c315d797a42ab244b78c6b66ad7831d3bf58b4c345c9c4e4b", func := "loop.example/g01200/laws.FnFieldPolynomials", spec := "fnFieldPolynomials", apart := false }
def FnFieldPolynomialsSaid : Prop := fnFieldPolynomialsRow.holds Try.pinned (OpenSpec.ofChange fnFieldPolynomialsSpec)

/-- ITS FALSE NEIGHBOUR: 'it returns false'. Refute it at one input. -/
def fnFieldPolynomialsWrong : ChangeSpec := { name := "fnFieldPolynomials", fn := fun _ => fun
  | [d] => { results := [.lit (.bool false)], args := [d] }
  | _ => none }
def FnFieldPolynomialsWrongFalsely : Prop := fnFieldPolynomialsRow.holds Try.pinned (OpenSpec.ofChange fnFieldPolynomialsWrong)

/-- 'laws.FnShabats': WHATEVER THE INPUT: true; the input reads as it did. -/
def fnShabatsSpec : ChangeSpec := { name := "fnShabats", fn := fun _ => fun
  | [d] => { results := [.lit (.bool true)], args := [d] }
  | _ => none }
def fnShabatsRow : OpenClaim := { program := "ytgmpjlbdommhaaa", sum := "45eb6e75f5c0253c315d797a42ab244b78c6b66ad7831d3bf58b4c345c9c4e4b", func := "loop.example/g01200/laws.FnShabats", spec := "fnShabats", apart := false }
def FnShabatsSaid : Prop := fnShabatsRow.holds Try.pinned (OpenSpec.ofChange fnShabatsSpec)

/-- ITS FALSE NEIGHBOUR: 'it returns false'. Refute it at one input. -/
def fnShabatsWrong : ChangeSpec := { name := "fnShabats", fn := fun _ => fun
  | [d] => { results := [.lit (.bool false)], args := [d] }
  | _ => none }
def FnShabatsWrongFalsely : Prop := fnShabatsRow.holds Try.pinned (OpenSpec.ofChange fnShabatsWrong)

/- THE SECOND FORM. 'bulk': how many values and letters a reading holds, each counted each time it is reached (what is shared counts as often as it is met; a slice's spare places count too). A statement '..UptoSaid' is the law's where the arguments, and the package variables that the reading takes, are together of bulk at most 1048576: NARROWER than '..Said'. Prove '..Said' where nothing that the law and all that it calls make is longer than what came in: it says more and counts as full. Else prove '..UptoSaid'. A law counts once. -/
mutual
def uptoBulk {H : Type} : DataW H → Nat
  | .lit (.string bytes) => bytes.length + 1
  | .lit _ => 1
  | .nil => 1
  | .ptr d => uptoBulk d + 1
  | .slice elems spare => uptoBulkAll elems + uptoBulkAll spare + 1
  | .agg parts => uptoBulkAll parts + 1
  | .iface _ d => uptoBulk d + 1
  | .map entries => uptoBulkEntries entries + 1
  | .held _ => 1
def uptoBulkAll {H : Type} : List (DataW H) → Nat
  | [] => 0
  | d :: r => uptoBulk d + uptoBulkAll r
def uptoBulkEntries {H : Type} : List (Lit × DataW H) → Nat
  | [] => 0
  | x :: r => uptoBulkEntry x + uptoBulkEntries r
def uptoBulkEntry {H : Type} : Lit × DataW H → Nat
  | (.string bytes, d) => bytes.length + uptoBulk d + 1
  | (_, d) => uptoBulk d + 1
 end
def uptoSmall : (H : Type) → List (DataW H) → Bool := fun _ ds => decide (uptoBulkAll ds ≤ 1048576)
def OpenSpec.upto (s : _root_.Go.ChangeSpec) : _root_.Go.OpenSpec := { _root_.Go.OpenSpec.ofChange s with cond := some uptoSmall }

/-- 'laws.FnExactIsPolynomial', WHERE WHAT IT READS IS OF BULK AT MOST 1048576: true; the input reads as it did. -/
def fnExactIsPolynomialUptoRow : OpenClaim := { program := "ytgmpjlbdommhaaa", sum := "45eb6e75f5c0253c315d797a42ab244b78c6b66ad7831d3bf58b4c345c9c4e4b", func := "loop.example/g01200/laws.FnExactIsPolynomial", spec := "fnExactIsPolynomial", apart := false, narrowed := true }
def FnExactIsPolynomialUptoSaid : Prop := fnExactIsPolynomialUptoRow.holds Try.pinned (OpenSpec.upto fnExactIsPolynomialSpec)

/-- 'laws.FnExactStarPolynomial', WHERE WHAT IT READS IS OF BULK AT MOST 1048576: true; the input reads as it did. -/
def fnExactStarPolynomialUptoRow : OpenClaim := { program := "ytgmpjlbdommhaaa", sum := "45eb6e75f5c0253c315d797a42ab244b78c6b66ad7831d3bf58b4c345c9c4e4b", func := "loop.example/g01200/laws.FnExactStarPolynomial", spec := "fnExactStarPolynomial", apart := false, narrowed := true }
def FnExactStarPolynomialUptoSaid : Prop := fnExactStarPolynomialUptoRow.holds Try.pinned (OpenSpec.upto fnExactStarPolynomialSpec)

/-- 'laws.FnExactValueOf', WHERE WHAT IT READS IS OF BULK AT MOST 1048576: true; the input reads as it did. -/
def fnExactValueOfUptoRow : OpenClaim := { program := "ytgmpjlbdommhaaa", sum := "45eb6e75f5c0253c315d797a42ab244b78c6b66ad7831d3bf58b4c345c9c4e4b", func := "loop.example/g01200/laws.FnExactValueOf", spec := "fnExactValueOf", apart := false, narrowed := true }
def FnExactValueOfUptoSaid : Prop := fnExactValueOfUptoRow.holds Try.pinned (OpenSpec.upto fnExactValueOfSpec)

/-- 'laws.FnExactDerivativeOf', WHERE WHAT IT READS IS OF BULK AT MOST 1048576: true; the input reads as it did. -/
def fnExactDerivativeOfUptoRow : OpenClaim := { program := "ytgmpjlbdommhaaa", sum := "45eb6e75f5c0253c315d797a42ab244b78c6b66ad7831d3bf58b4c345c9c4e4b", func := "loop.example/g01200/laws.FnExactDerivativeOf", spec := "fnExactDerivativeOf", apart := false, narrowed := true }
def FnExactDerivativeOfUptoSaid : Prop := fnExactDerivativeOfUptoRow.holds Try.pinned (OpenSpec.upto fnExactDerivativeOfSpec)

/-- 'laws.FnExactCountRooted', WHERE WHAT IT READS IS OF BULK AT MOST 1048576: true; the input reads as it did. -/
def fnExactCountRootedUptoRow : OpenClaim := { program := "ytgmpjlbdommhaaa", sum := "45eb6e75f5c0253c315d797a42ab244b78c6b66ad7831d3bf58b4c345c9c4e4b", func := "loop.example/g01200/laws.FnExactCountRooted", spec := "fnExactCountRooted", apart := false, narrowed := true }
def FnExactCountRootedUptoSaid : Prop := fnExactCountRootedUptoRow.holds Try.pinned (OpenSpec.upto fnExactCountRootedSpec)

/-- 'laws.FnExactAddPolynomials', WHERE WHAT IT READS IS OF BULK AT MOST 1048576: true; the input reads as it did. -/
def fnExactAddPolynomialsUptoRow : OpenClaim := { program := "ytgmpjlbdommhaaa", sum := "45eb6e75f5c0253c315d797a42ab244b78c6b66ad7831d3bf58b4c345c9c4e4b", func := "loop.example/g01200/laws.FnExactAddPolynomials", spec := "fnExactAddPolynomials", apart := false, narrowed := true }
def FnExactAddPolynomialsUptoSaid : Prop := fnExactAddPolynomialsUptoRow.holds Try.pinned (OpenSpec.upto fnExactAddPolynomialsSpec)

/-- 'laws.FnExactMultiplyPolynomials', WHERE WHAT IT READS IS OF BULK AT MOST 1048576: true; the input reads as it did. -/
def fnExactMultiplyPolynomialsUptoRow : OpenClaim := { program := "ytgmpjlbdommhaaa", sum := "45eb6e75f5c0253c315d797a42ab244b78c6b66ad7831d3bf58b4c345c9c4e4b", func := "loop.example/g01200/laws.FnExactMultiplyPolynomials", spec := "fnExactMultiplyPolynomials", apart := false, narrowed := true }
def FnExactMultiplyPolynomialsUptoSaid : Prop := fnExactMultiplyPolynomialsUptoRow.holds Try.pinned (OpenSpec.upto fnExactMultiplyPolynomialsSpec)

/-- 'laws.FnExactChainPolynomial', WHERE WHAT IT READS IS OF BULK AT MOST 1048576: true; the input reads as it did. -/
def fnExactChainPolynomialUptoRow : OpenClaim := { program := "ytgmpjlbdommhaaa", sum := "45eb6e75f5c0253c315d797a42ab244b78c6b66ad7831d3bf58b4c345c9c4e4b", func := "loop.example/g01200/laws.FnExactChainPolynomial", spec := "fnExactChainPolynomial", apart := false, narrowed := true }
def FnExactChainPolynomialUptoSaid : Prop := fnExactChainPolynomialUptoRow.holds Try.pinned (OpenSpec.upto fnExactChainPolynomialSpec)

/-- 'laws.FnExactEulerOfPassport', WHERE WHAT IT READS IS OF BULK AT MOST 1048576: true; the input reads as it did. -/
def fnExactEulerOfPassportUptoRow : OpenClaim := { program := "ytgmpjlbdommhaaa", sum := "45eb6e75f5c0253c315d797a42ab244b78c6b66ad7831d3bf58b4c345c9c4e4b", func := "loop.example/g01200/laws.FnExactEulerOfPassport", spec := "fnExactEulerOfPassport", apart := false, narrowed := true }
def FnExactEulerOfPassportUptoSaid : Prop := fnExactEulerOfPassportUptoRow.holds Try.pinned (OpenSpec.upto fnExactEulerOfPassportSpec)

/-- 'laws.FnExactForkPolynomial', WHERE WHAT IT READS IS OF BULK AT MOST 1048576: true; the input reads as it did. -/
def fnExactForkPolynomialUptoRow : OpenClaim := { program := "ytgmpjlbdommhaaa", sum := "45eb6e75f5c0253c315d797a42ab244b78c6b66ad7831d3bf58b4c345c9c4e4b", func := "loop.example/g01200/laws.FnExactForkPolynomial", spec := "fnExactForkPolynomial", apart := false, narrowed := true }
def FnExactForkPolynomialUptoSaid : Prop := fnExactForkPolynomialUptoRow.holds Try.pinned (OpenSpec.upto fnExactForkPolynomialSpec)

/-- 'laws.FnExactComposePolynomials', WHERE WHAT IT READS IS OF BULK AT MOST 1048576: true; the input reads as it did. -/
def fnExactComposePolynomialsUptoRow : OpenClaim := { program := "ytgmpjlbdommhaaa", sum := "45eb6e75f5c0253c315d797a42ab244b78c6b66ad7831d3bf58b4c345c9c4e4b", func := "loop.example/g01200/laws.FnExactComposePolynomials", spec := "fnExactComposePolynomials", apart := false, narrowed := true }
def FnExactComposePolynomialsUptoSaid : Prop := fnExactComposePolynomialsUptoRow.holds Try.pinned (OpenSpec.upto fnExactComposePolynomialsSpec)

/-- 'laws.FnExactCommonDivisor', WHERE WHAT IT READS IS OF BULK AT MOST 1048576: true; the input reads as it did. -/
def fnExactCommonDivisorUptoRow : OpenClaim := { program := "ytgmpjlbdommhaaa", sum := "45eb6e75f5c0253c315d797a42ab244b78c6b66ad7831d3bf58b4c345c9c4e4b", func := "loop.example/g01200/laws.FnExactCommonDivisor", spec := "fnExactCommonDivisor", apart := false, narrowed := true }
def FnExactCommonDivisorUptoSaid : Prop := fnExactCommonDivisorUptoRow.holds Try.pinned (OpenSpec.upto fnExactCommonDivisorSpec)

/-- 'laws.FnExactIsCritical', WHERE WHAT IT READS IS OF BULK AT MOST 1048576: true; the input reads as it did. -/
def fnExactIsCriticalUptoRow : OpenClaim := { program := "ytgmpjlbdommhaaa", sum := "45eb6e75f5c0253c315d797a42ab244b78c6b66ad7831d3bf58b4c345c9c4e4b", func := "loop.example/g01200/laws.FnExactIsCritical", spec := "fnExactIsCritical", apart := false, narrowed := true }
def FnExactIsCriticalUptoSaid : Prop := fnExactIsCriticalUptoRow.holds Try.pinned (OpenSpec.upto fnExactIsCriticalSpec)

/-- 'laws.FnExactMultiplicitiesOf', WHERE WHAT IT READS IS OF BULK AT MOST 1048576: true; the input reads as it did. -/
def fnExactMultiplicitiesOfUptoRow : OpenClaim := { program := "ytgmpjlbdommhaaa", sum := "45eb6e75f5c0253c315d797a42ab244b78c6b66ad7831d3bf58b4c345c9c4e4b", func := "loop.example/g01200/laws.FnExactMultiplicitiesOf", spec := "fnExactMultiplicitiesOf", apart := false, narrowed := true }
def FnExactMultiplicitiesOfUptoSaid : Prop := fnExactMultiplicitiesOfUptoRow.holds Try.pinned (OpenSpec.upto fnExactMultiplicitiesOfSpec)

/-- 'laws.FnExactIsShabat', WHERE WHAT IT READS IS OF BULK AT MOST 1048576: true; the input reads as it did. -/
def fnExactIsShabatUptoRow : OpenClaim := { program := "ytgmpjlbdommhaaa", sum := "45eb6e75f5c0253c315d797a42ab244b78c6b66ad7831d3bf58b4c345c9c4e4b", func := "loop.example/g01200/laws.FnExactIsShabat", spec := "fnExactIsShabat", apart := false, narrowed := true }
def FnExactIsShabatUptoSaid : Prop := fnExactIsShabatUptoRow.holds Try.pinned (OpenSpec.upto fnExactIsShabatSpec)

/-- 'laws.FnExactPassportOfShabat', WHERE WHAT IT READS IS OF BULK AT MOST 1048576: true; the input reads as it did. -/
def fnExactPassportOfShabatUptoRow : OpenClaim := { program := "ytgmpjlbdommhaaa", sum := "45eb6e75f5c0253c315d797a42ab244b78c6b66ad7831d3bf58b4c345c9c4e4b", func := "loop.example/g01200/laws.FnExactPassportOfShabat", spec := "fnExactPassportOfShabat", apart := false, narrowed := true }
def FnExactPassportOfShabatUptoSaid : Prop := fnExactPassportOfShabatUptoRow.holds Try.pinned (OpenSpec.upto fnExactPassportOfShabatSpec)

/-- 'laws.FnFieldPolynomials', WHERE WHAT IT READS IS OF BULK AT MOST 1048576: true; the input reads as it did. -/
def fnFieldPolynomialsUptoRow : OpenClaim := { program := "ytgmpjlbdommhaaa", sum := "45eb6e75f5c0253c315d797a42ab244b78c6b66ad7831d3bf58b4c345c9c4e4b", func := "loop.example/g01200/laws.FnFieldPolynomials", spec := "fnFieldPolynomials", apart := false, narrowed := true }
def FnFieldPolynomialsUptoSaid : Prop := fnFieldPolynomialsUptoRow.holds Try.pinned (OpenSpec.upto fnFieldPolynomialsSpec)

/-- 'laws.FnShabats', WHERE WHAT IT READS IS OF BULK AT MOST 1048576: true; the input reads as it did. -/
def fnShabatsUptoRow : OpenClaim := { program := "ytgmpjlbdommhaaa", sum := "45eb6e75f5c0253c315d797a42ab244b78c6b66ad7831d3bf58b4c345c9c4e4b", func := "loop.example/g01200/laws.FnShabats", spec := "fnShabats", apart := false, narrowed := true }
def FnShabatsUptoSaid : Prop := fnShabatsUptoRow.holds Try.pinned (OpenSpec.upto fnShabatsSpec)

end Rows
end Go.Proofs.Ytgmpjlbdommhaaa
