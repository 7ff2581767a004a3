/- What is taken from outside: bytes.Compare, whose inside the language leaves to the machine, and inOrder, which ranges over a map in any order; every other function that is called is walked. -/
import Derived.Test.YtbpfbfbabpkceaaGreatAmTab
import Derived.Lib.BytesEntry
import Derived.Lib.BitFns
import Derived.Sort.Statements
namespace Go.Am
open Go
def uO:Nat:=226
def BytesAt (H:AHeap) (v:Value) (xs:List Int):Prop:=
 ∃b o blk,v= .slice (some ⟨b,o,none⟩) xs.length 1∧0<xs.length∧H.get b=some blk∧ ∀i x,xs[i]? =some x→blk.cells[o+i]? =some (.int .u8 x)
def XB:Outer:=fun g args H v H'=>g=uO∧H'=H∧ ∃a b xs ys,args=[a,b]∧BytesAt H a xs∧BytesAt H b ys∧v= .int .i64 (Lib.compareBytes (Lib.bytesOf xs) (Lib.bytesOf ys))
def EJ:Nat:=421
def yu:Value→Int
 | .int _ n=>n
 | _=>0
def pK (a b:Value):Prop:=((cellsL a).drop 1).map yu<((cellsL b).drop 1).map yu
def XM:Outer:=fun g args H v H'=>g=EJ∧ ∃(b:Nat) (gk:Blk) (n:Int) (ds:List Value),args=[.map (some b)]∧H.get b=some ⟨[],true⟩∧H.get (b+1)=some gk∧gk.cells.length≤1000000∧
 (∀k∈gk.cells,∃cs,k= .agg ⟨.int .i64 n::cs⟩∧keyG (.i64::List.replicate 32 .u8) (.int .i64 n::cs)=true)∧ds.Pairwise pK∧(∀k,k∈ds↔k∈gk.cells)∧v=S H.n 0 ds.length 33∧H'=H.alloc (ds.flatMap cellsL)
def mD (H:AHeap) (b:Nat):AHeap:=⟨H.n,fun x=>if x=b then none else (H.get x).map fun k=>⟨k.cells,false⟩⟩
def yw:Nat:=466
def pO:Nat:=467
def jY (cf:Nat→Nat→Int) (l:Nat):List Nat:=(Go.Sort.pdq (fun i j:Nat=>decide (cf i j<0)) (Array.range l) 0 l (Go.Lib.bitLen l) true true).toList
def XP:Outer:=fun g args H v H'=>g=yw∧ ∃(b l M:Nat) (vs:List Value) (cf:Nat→Nat→Int),args=[S b 0 l 1, .func (.func pO) #[] #[]]∧0<l∧l≤1000000∧H.get b=some ⟨vs,true⟩∧vs.length=l∧(∀c∈vs,c.oneCell'=true)∧Go.Sort.SWO (fun i j:Nat=>decide (cf i j<0))∧
 (∀i j,∃HA,HA.n≤H.n+M∧Cal Γ XB pO [vs.getD (i%l) undef,vs.getD (j%l) undef] (mD H b) (.int .i64 (cf i j)) HA)∧v= .tuple ⟨[]⟩∧H'=⟨H.n+M,(H.set b ((jY cf l).map fun i=>vs.getD (i%l) undef)).get⟩
def X:Outer:=fun g args H v H'=>XB g args H v H'∨XM g args H v H'∨XP g args H v H'
end Go.Am
