/- What is taken from outside: bytes.Compare, whose inside the language leaves to the machine, and inOrder, which ranges over a map in any order; every other function that is called is walked. -/
import Derived.Test.YtbpfbfbabpkceaaGreatAmTab
import Derived.Lib.BytesEntry
namespace Go.Am
open Go
def tu:Nat:=226
def BytesAt (H:AHeap) (v:Value) (xs:List Int):Prop:=
 ∃b o blk,v= .slice (some ⟨b,o,none⟩) xs.length 1∧0<xs.length∧H.get b=some blk∧ ∀i x,xs[i]? =some x→blk.cells[o+i]? =some (.int .u8 x)
def XB:Outer:=fun g args H v H'=>g=tu∧H'=H∧ ∃a b xs ys,args=[a,b]∧BytesAt H a xs∧BytesAt H b ys∧v= .int .i64 (Lib.compareBytes (Lib.bytesOf xs) (Lib.bytesOf ys))
def Cj:Nat:=421
def wH:Value→Int
 | .int _ n=>n
 | _=>0
def oN (a b:Value):Prop:=((cellsL a).drop 1).map wH<((cellsL b).drop 1).map wH
def XM:Outer:=fun g args H v H'=>g=Cj∧ ∃(b:Nat) (gk:Blk) (n:Int) (ds:List Value),args=[.map (some b)]∧H.get b=some ⟨[],true⟩∧H.get (b+1)=some gk∧gk.cells.length≤1000000∧
 (∀k∈gk.cells,∃cs,k= .agg ⟨.int .i64 n::cs⟩∧keyG (.i64::List.replicate 32 .u8) (.int .i64 n::cs)=true)∧ds.Pairwise oN∧(∀k,k∈ds↔k∈gk.cells)∧v=S H.n 0 ds.length 33∧H'=H.alloc (ds.flatMap cellsL)
def X:Outer:=fun g args H v H'=>XB g args H v H'∨XM g args H v H'
end Go.Am
