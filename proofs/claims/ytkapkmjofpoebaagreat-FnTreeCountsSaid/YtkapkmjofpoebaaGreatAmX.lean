/- What is taken from outside: bytes.Compare, whose inside the language leaves to the machine; every other function that is called is walked. -/
import Derived.Test.YtkapkmjofpoebaaGreatAmTab
import Derived.Lib.BytesEntry
namespace Go.Am
open Go
def TR:Nat:=226
def BytesAt (H:aA) (v:Value) (xs:List Int):Prop:=
 ∃b o blk,v= .slice (some ⟨b,o,none⟩) xs.length 1∧0<xs.length∧H.get b=some blk∧ ∀i x,xs[i]? =some x→blk.cells[o+i]? =some (.int .u8 x)
def X:Outer:=fun g args H v H'=>g=TR∧H'=H∧ ∃a b xs ys,args=[a,b]∧BytesAt H a xs∧BytesAt H b ys∧v= .int .i64 (Lib.compareBytes (Lib.bytesOf xs) (Lib.bytesOf ys))
end Go.Am
