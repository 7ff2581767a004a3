/- A small deterministic machine for the code that the claims reach: its values are the model's own, its memory is a list of blocks of one's own names. What it computes is carried over to the model by AmSound. -/
import GoSem.Dispatch
import GoSem.Machine.Frame
import Derived.Laws.Sem
namespace Go.Am
open Go
inductive Opd where
 |t (n:Nat)
 |c (v:Value)
 |f (n:Nat)
 deriving Inhabited
inductive AOp where
 |move (x:Opd)
 |pick (c a b:Opd)
 |alloc (z:List Value)
 |box (x:Opd)
 |build (z:List Value) (parts:List (Nat×Nat×Opd))
 |buildSlice (e n:Nat) (z:List Value) (parts:List (Nat×Nat×Opd))
 |load (n:Option Nat) (a:Opd)
 |store (n:Nat) (a v:Opd)
 |storeF (n:Nat) (a v:Opd) (fl:List Opd)
 |bin (op:BinOp) (x y:Opd)
 |sbin (op:BinOp) (x y:Opd)
 |eqb (neg:Bool) (x y:Opd)
 |eqa (neg:Bool) (n:Nat) (x y:Opd)
 |eqn (neg:Bool) (x:Opd)
 |not (x:Opd)
 |neg (x:Opd)
 |conv (k:IntKind) (x:Opd)
 |makeSlice (e bytes:Nat) (z:List Value) (len cap:Opd)
 |slice (e:Nat) (x:Opd) (lo hi:Option Opd)
 |sliceStr (x:Opd) (lo hi:Option Opd)
 |sliceArr (len e:Nat) (x:Opd) (lo hi:Option Opd)
 |fieldAddr (off:Nat) (x:Opd)
 |field (n:Option Nat) (off:Nat) (x:Opd)
 |indexAddr (arr:Option Nat) (e:Nat) (x i:Opd)
 |index (len e:Nat) (n:Option Nat) (x i:Opd)
 |indexStr (x i:Opd)
 |extract (x:Opd) (j:Nat)
 |len (x:Opd)
 |lenStr (x:Opd)
 |lenConst (n:Nat)
 |append (e bytes:Nat) (s x:Opd)
 |appendF (e bytes:Nat) (s x:Opd) (fl:List Opd)
 |max (xs:List Opd)
 |min (xs:List Opd)
 |nilCheck (x:Opd)
 |makeFunc (f:Nat) (caps:List Opd)
 |strOf (x:Opd)
 |makeMap
 |mapPut (qs:List IntKind) (x k:Opd)
 |lenMap (qs:List IntKind) (x:Opd)
 |kR (z:Value) (x:Opd)
 |call (f:Nat) (args:List Opd)
 |callv (f:Opd) (args:List Opd)
 |callF (f:Nat) (args:List Opd) (fl:List Opd)
 deriving Inhabited
structure AOper where
 dst:Option Nat
 op:AOp
 guard:Option (Nat×Bool):=none
 deriving Inhabited
abbrev oM (d s:Nat):AOper:=⟨some d, .move (.t s),none⟩
abbrev oP (d:Nat) (o:AOp):AOper:=⟨some d,o,none⟩
inductive ACode where
 |skip
 |region (draw:Option Nat) (ops:List AOper)
 |seq (a b:ACode)
 |cond (c:Opd) (a b:ACode)
 |block (id:Nat) (a:ACode)
 |loop (a:ACode)
 |exit (id:Nat)
 |ret
 deriving Inhabited
inductive ARes where
 |tmp (t:Nat)
 |cell (t:Nat) (n:Option Nat)
 deriving Inhabited
structure AFunc where
 results:List ARes
 body:ACode
 deriving Inhabited
abbrev Fr:=Nat→Value
def upd (f:Fr) (d:Nat) (v:Value):Fr:=fun t=>if t=d then v else f t
def updO (f:Fr):Option Nat→Value→Fr
 |some d,v=>upd f d v
 |none,_=>f
def ev (f:Fr):Opd→Value
 | .t n=>f n
 | .c v=>v
 | .f n=> .func (.func n) #[] #[]
theorem upd_apply (f:Fr) (d:Nat) (v:Value) (t:Nat):upd f d v t=if t=d then v else f t:=rfl
theorem upd_same (f:Fr) (d:Nat) (v:Value):upd f d v d=v:=if_pos rfl
theorem upd_ne (f:Fr) (d t:Nat) (v:Value) (h:t≠d):upd f d v t=f t:=if_neg h
structure Blk where
 cells:List Value
 rw:Bool
structure AHeap where
 n:Nat
 get:Nat→Option Blk
def AHeap.alloc (H:AHeap) (cs:List Value):AHeap:=⟨H.n+1,fun b=>if b=H.n then some ⟨cs,true⟩ else H.get b⟩
def AHeap.set (H:AHeap) (b:Nat) (cs:List Value):AHeap:=⟨H.n,fun x=>if x=b then some ⟨cs,true⟩ else H.get x⟩
def AHeap.kill (H:AHeap) (b:Nat):AHeap:=⟨H.n,fun x=>if x=b then none else H.get x⟩
def AHeap.row (H:AHeap) (b o n:Nat):Option (List Value):=
 match H.get b with
 |some blk=>if o+n≤blk.cells.length then some ((blk.cells.drop o).take n) else none
 |none=>none
def AHeap.cell (H:AHeap) (b o:Nat):Option Value:=
 match H.get b with
 |some blk=>blk.cells[o]?
 |none=>none
structure Ext (H H':AHeap):Prop where
 n:H.n≤H'.n
 get: ∀b,b<H.n→H'.get b=H.get b
abbrev P (b o:Nat):Value:= .pointer (some ⟨b,o,none⟩)
abbrev S (b o l e:Nat):Value:= .slice (some ⟨b,o,none⟩) l e
abbrev I (n:Int):Value:= .int .i64 n
abbrev Y (n:Int):Value:= .int .u8 n
abbrev B (b:Bool):Value:= .bool b
abbrev aggL (cs:List Value):Value:= .agg ⟨cs⟩
def cellsL:Value→List Value
 | .agg cs=>cs.toList
 |v=>[v]
def splice (cs:List Value) (o:Nat) (seg:List Value):List Value:=cs.take o++seg++cs.drop (o+seg.length)
def fillL (cs:List Value):List (Nat×Nat×Value)→Option (List Value)
 |[]=>some cs
 |(o,n,v)::rest=>if (cellsL v).length=n∧o+n≤cs.length then fillL (splice cs o (cellsL v)) rest else none
def repl (z:List Value) (n:Nat):List Value:=(List.replicate n z).flatten
def plain:Value→Bool
 | .int _ _| .bool _| .string _| .nilFunc| .pointer none| .slice none 0 0| .map none=>true
 | .tuple vs=>vs.isEmpty
 | _=>false
def vals:Value→Option (List Value)
 | .tuple vs=>some vs.toList
 | _=>none
def aSh (op:BinOp) (k:IntKind) (a b:Int):Option Value:=
 match op with
 | .shl=>if b<0 then none else some (.int k (k.wrap (a*2^(min b.toNat k.bits))))
 | .shr=>if b<0 then none else some (.int k (a.fdiv (2^(min b.toNat k.bits))))
 | _=>none
def aBin (op:BinOp):Value→Value→Option Value
 | .int k a, .int k' b=>
  if k=k' then
   match op with
   | .add=>some (.int k (k.wrap (a+b)))
   | .sub=>some (.int k (k.wrap (a-b)))
   | .mul=>some (.int k (k.wrap (a*b)))
   | .quo=>if b=0 then none else some (.int k (k.wrap (a.tdiv b)))
   | .rem=>if b=0 then none else some (.int k (a.tmod b))
   | .eql=>some (.bool (a==b))
   | .neq=>some (.bool (a !=b))
   | .lss=>some (.bool (a<b))
   | .leq=>some (.bool (a≤b))
   | .gtr=>some (.bool (a>b))
   | .geq=>some (.bool (a≥b))
   | .and=>some (.int k (k.wrap ((BitVec.ofInt k.bits a&&&BitVec.ofInt k.bits b).toNat:Int)))
   | .xor=>some (.int k (k.wrap ((BitVec.ofInt k.bits a^^^BitVec.ofInt k.bits b).toNat:Int)))
   | _=>aSh op k a b
  else aSh op k a b
 | _,_=>none
def aSbin (op:BinOp):Value→Value→Option Value
 | .string x, .string y=>
  match op with
  | .add=>if x.size+y.size≤9223372036854775807 then some (.string (x++y)) else none
  | .eql=>some (.bool (x.toList==y.toList))
  | .neq=>some (.bool !(x.toList==y.toList))
  | .lss=>some (.bool (Op.bytesLess x.toList y.toList))
  | _=>none
 | _,_=>none
def eqCell:Value→Value→Option Bool
 | .int k a, .int k' b=>if k=k' then some (a==b) else none
 | _,_=>none
def eqCells:List Value→List Value→Option Bool
 |[],[]=>some true
 |a::as,b::bs=>
  match eqCell a b with
  |some r=>(eqCells as bs).map (r&& ·)
  |none=>none
 | _,_=>none
def aEqa (n:Nat):Value→Value→Option Bool
 | .agg xs, .agg ys=>if xs.toList.length=n then eqCells xs.toList ys.toList else none
 | _,_=>none
def intOf:Value→Option Int
 | .int _ n=>some n
 | _=>none
def cutOf (ρ:Opd→Value) (len:Nat) (lo hi:Option Opd):Option (Nat×Nat):=
 match (match hi with|some x=>intOf (ρ x)|none=>some (len:Int)),(match lo with|some x=>intOf (ρ x)|none=>some 0) with
 |some h,some l=>if 0≤l∧l≤h∧h≤len then some (l.toNat,h.toNat) else none
 | _,_=>none
def max2:Value→Value→Option Value
 | .int k x, .int k' y=>if k=k' then some (.int k (if y>x then y else x)) else none
 | _,_=>none
def min2:Value→Value→Option Value
 | .int k x, .int k' y=>if k=k' then some (.int k (if y<x then y else x)) else none
 | _,_=>none
def foldV (g:Value→Value→Option Value):List Value→Option Value
 |[]=>none
 |[x]=>some x
 |x::y::rest=>
  match g x y with
  |some z=>foldV g (z::rest)
  |none=>none
termination_by l=>l.length
def getN (n:Option Nat) (cs:List Value) (o:Nat):Option Value:=
 match n with
 |none=>cs[o]?
 |some n=>if o+n≤cs.length then some (aggL ((cs.drop o).take n)) else none
def bytesL:List Value→Option (List UInt8)
 |[]=>some []
 | .int .u8 n::rest=>(bytesL rest).map (UInt8.ofNat n.toNat:: ·)
 | _::_=>none
def aAppend (e bytes:Nat) (s x:Value) (H:AHeap):Option (Value×AHeap):=
 match x with
 | .slice xa xl xe=>
  if xl≠0∧xe≠e then none else
  match (match xa with|some ⟨b,o,none⟩=>if xl=0 then some [] else H.row b o (xl*e)|none=>if xl=0 then some [] else none| _=>none) with
  |none=>none
  |some new=>
   match s with
   | .slice none 0 0=>
    if xl=0 then some (s,H)
    else if xl*bytes≤140737488355328 then some (S H.n 0 xl e,H.alloc new) else none
   | .slice (some ⟨b,0,none⟩) l e'=>
    if e'≠e then none else
    (match H.get b with
    |some blk=>
     if blk.rw=true∧l*e≤blk.cells.length∧(l+xl)*bytes≤140737488355328∧new.all (·.oneCell')=true
     then some (S H.n 0 (l+xl) e,(H.kill b).alloc (blk.cells.take (l*e)++new)) else none
    |none=>none)
   | _=>none
 | _=>none
def blkOf:Value→Option Nat
 | .pointer (some ⟨b,_,none⟩)=>some b
 | .slice (some ⟨b,_,none⟩) _ _=>some b
 | _=>none
def flok (a x:Value):Bool:=
 match blkOf a with
 |some b=> !(blkOf x==some b)
 |none=>false
def flokS (a x:Value):Bool:=
 match blkOf a with
 |some b=> !(blkOf x==some b)
 |none=>true
def keyG:List IntKind→List Value→Bool
 |[],[]=>true
 |q::qs, .int q' n::cs=>decide (q'=q)&&(decide (q.min≤n)&&decide (n≤q.max))&&keyG qs cs
 | _,_=>false
def keyV (qs:List IntKind):Value→Bool
 | .agg ⟨cs⟩=>keyG qs cs
 | _=>false
def aPut (qs:List IntKind) (x k:Value) (H:AHeap):Option (Value×AHeap):=
 match x with
 | .map (some b)=>
  match H.get b,H.get (b+1) with
  |some ⟨[],true⟩,some gk=>if (keyV qs k&&gk.cells.all (keyV qs))=true then some (undef,H.set (b+1) (gk.cells++[k])) else none
  | _,_=>none
 | _=>none
def numV:Value→Int
 | .int _ n=>n
 | _=>0
def keyI:Value→List Int
 | .agg ⟨cs⟩=>cs.map numV
 | _=>[]
def cntI:List (List Int)→Nat
 |[]=>0
 |a::l=>if a∈l then cntI l else cntI l+1
def aLen (qs:List IntKind) (x:Value) (H:AHeap):Option (Value×AHeap):=
 match x with
 | .map (some b)=>
  match H.get b,H.get (b+1) with
  |some ⟨[],true⟩,some gk=>if gk.cells.all (keyV qs)=true then some (.int .i64 (cntI (gk.cells.map keyI)),H) else none
  | _,_=>none
 | _=>none
def sJ (z x:Value) (H:AHeap):Option (Value×AHeap):=
 match x with
 | .slice none 0 0=>some (.tuple ⟨[]⟩,H)
 | .slice (some ⟨b,o,none⟩) n e=>
  if n=0 then some (.tuple ⟨[]⟩,H) else
  match H.get b with
  |some blk=>if e=1∧blk.rw=true∧o+n≤blk.cells.length∧plain z=true∧z.oneCell'=true then some (.tuple ⟨[]⟩,H.set b (splice blk.cells o (List.replicate n z))) else none
  |none=>none
 | _=>none
def aStore (n:Nat) (a v:Value) (H:AHeap):Option (Value×AHeap):=
 match a with
 | .pointer (some ⟨b,o,none⟩)=>
  (match H.get b with
  |some blk=>
   if blk.rw=true∧(cellsL v).length=n∧o+n≤blk.cells.length∧(cellsL v).all (·.oneCell')=true
   then some (undef,H.set b (splice blk.cells o (cellsL v))) else none
  |none=>none)
 | _=>none
def aOp (o:AOp) (ρ:Opd→Value) (H:AHeap):Option (Value×AHeap):=
 match o with
 | .move x=>some (ρ x,H)
 | .pick c a b=>match ρ c with| .bool t=>some (if t then ρ a else ρ b,H)| _=>none
 | .alloc z=>some (P H.n 0,H.alloc z)
 | .box x=>some (P H.n 0,H.alloc (cellsL (ρ x)))
 | .build z parts=>(fillL z (parts.map fun p=>(p.1,p.2.1,ρ p.2.2))).map fun cs=>(aggL cs,H)
 | .buildSlice e n z parts=>
  if n*e≤16777216 then
   (fillL (repl z n) (parts.map fun p=>(p.1,p.2.1,ρ p.2.2))).map fun cs=>(S H.n 0 n e,H.alloc cs)
  else none
 | .load n a=>
  match ρ a with
  | .pointer (some ⟨b,o,none⟩)=>(match H.get b with|some blk=>(getN n blk.cells o).map fun v=>(v,H)|none=>none)
  | _=>none
 | .store n a v=>
  match ρ a with
  | .pointer (some ⟨b,o,none⟩)=>
   (match H.get b with
   |some blk=>
    if blk.rw=true∧(cellsL (ρ v)).length=n∧o+n≤blk.cells.length∧(cellsL (ρ v)).all (·.oneCell')=true
    then some (undef,H.set b (splice blk.cells o (cellsL (ρ v)))) else none
   |none=>none)
  | _=>none
 | .storeF n a v fl=>if (fl.all fun x=>flok (ρ a) (ρ x))=true then aStore n (ρ a) (ρ v) H else none
 | .bin op x y=>(aBin op (ρ x) (ρ y)).map fun v=>(v,H)
 | .sbin op x y=>(aSbin op (ρ x) (ρ y)).map fun v=>(v,H)
 | .eqb neg x y=>match ρ x,ρ y with| .bool a, .bool b=>some (.bool (if neg then !(a==b) else (a==b)),H)| _,_=>none
 | .eqa neg n x y=>(aEqa n (ρ x) (ρ y)).map fun r=>(.bool (if neg then !r else r),H)
 | .eqn neg x=>match ρ x with| .slice a _ _=>some (.bool (if neg then !a.isNone else a.isNone),H)| _=>none
 | .not x=>match ρ x with| .bool b=>some (.bool !b,H)| _=>none
 | .neg x=>match ρ x with| .int k n=>some (.int k (k.wrap (0-n)),H)| _=>none
 | .conv k x=>match ρ x with| .int _ n=>some (.int k (k.wrap n),H)| _=>none
 | .makeSlice e bytes z l c=>
  match ρ l,ρ c with
  | .int _ l, .int _ c=>if 0≤l∧l≤c∧c*bytes≤140737488355328∧c≤9223372036854775807 then some (S H.n 0 l.toNat e,H.alloc (repl z c.toNat)) else none
  | _,_=>none
 | .slice e x lo hi=>
  match ρ x with
  | .slice (some ⟨b,o,none⟩) len e'=>if e'=e then (cutOf ρ len lo hi).map fun (l,h)=>(S b (o+l*e) (h-l) e,H) else none
  | .slice none 0 0=>(cutOf ρ 0 lo hi).map fun _=>(.slice none 0 0,H)
  | _=>none
 | .sliceStr x lo hi=>match ρ x with| .string s=>(cutOf ρ s.size lo hi).map fun (l,h)=>(.string (s.extract l h),H)| _=>none
 | .sliceArr len e x lo hi=>
  match ρ x with
  | .pointer (some ⟨b,o,none⟩)=>(match H.get b with|some blk=>if o+len*e≤blk.cells.length then (cutOf ρ len lo hi).map fun (l,h)=>(S b (o+l*e) (h-l) e,H) else none|none=>none)
  | _=>none
 | .fieldAddr off x=>match ρ x with| .pointer (some ⟨b,o,none⟩)=>some (P b (o+off),H)| _=>none
 | .field n off x=>match ρ x with| .agg cs=>(getN n cs.toList off).map fun v=>(v,H)| _=>none
 | .indexAddr none e x i=>
  match ρ x,intOf (ρ i) with
  | .slice (some ⟨b,o,none⟩) len e',some i=>if 0≤i∧i<len∧e'=e then some (P b (o+i.toNat*e),H) else none
  | _,_=>none
 | .indexAddr (some n) e x i=>
  match ρ x,intOf (ρ i) with
  | .pointer (some ⟨b,o,none⟩),some i=>if 0≤i∧i<n then some (P b (o+i.toNat*e),H) else none
  | _,_=>none
 | .index len e n x i=>
  match ρ x,intOf (ρ i) with
  | .agg cs,some i=>if 0≤i∧i<len then (getN n cs.toList (i.toNat*e)).map fun v=>(v,H) else none
  | _,_=>none
 | .indexStr x i=>
  match ρ x,intOf (ρ i) with
  | .string s,some i=>if 0≤i then (s[i.toNat]?).map fun b=>(.int .u8 b.toNat,H) else none
  | _,_=>none
 | .extract x j=>match ρ x with| .tuple vs=>(vs[j]?).map fun v=>(v,H)| _=>none
 | .len x=>match ρ x with| .slice _ n _=>some (.int .i64 n,H)| _=>none
 | .lenStr x=>match ρ x with| .string s=>some (.int .i64 s.size,H)| _=>none
 | .lenConst n=>some (.int .i64 n,H)
 | .append e bytes s x=>aAppend e bytes (ρ s) (ρ x) H
 | .appendF e bytes s x fl=>if (fl.all fun y=>flokS (ρ s) (ρ y))=true then aAppend e bytes (ρ s) (ρ x) H else none
 | .max xs=>(foldV max2 (xs.map ρ)).map fun v=>(v,H)
 | .min xs=>(foldV min2 (xs.map ρ)).map fun v=>(v,H)
 | .nilCheck x=>match ρ x with| .pointer (some a)=>some (.pointer (some a),H)| _=>none
 | .makeFunc f caps=>some (.func (.func f) #[] ⟨caps.map ρ⟩,H)
 | .strOf x=>
  match ρ x with
  | .slice (some ⟨b,o,none⟩) n 1=>((H.row b o n).bind bytesL).map fun l=>(.string ⟨⟨l⟩⟩,H)
  | .slice none 0 0=>some (.string ⟨#[]⟩,H)
  | _=>none
 | .makeMap=>some (.map (some H.n),(H.alloc []).alloc [])
 | .mapPut qs x k=>aPut qs (ρ x) (ρ k) H
 | .lenMap qs x=>aLen qs (ρ x) H
 | .kR z x=>sJ z (ρ x) H
 | .call .. | .callv .. | .callF .. =>none
def resOf (f:Fr) (H:AHeap):ARes→Option Value
 | .tmp t=>some (f t)
 | .cell t n=>match f t with| .pointer (some ⟨b,o,none⟩)=>(match H.get b with|some blk=>getN n blk.cells o|none=>none)| _=>none
def resAll (f:Fr) (H:AHeap):List ARes→Option (List Value)
 |[]=>some []
 |r::rs=>match resOf f H r,resAll f H rs with|some v,some vs=>some (v::vs)| _,_=>none
def tup:List Value→Value
 |[v]=>v
 |vs=> .tuple ⟨vs⟩
inductive Ex where
 |normal
 |exit (id:Nat)
 |ret
 deriving DecidableEq
abbrev Env:=Nat→Option AFunc
abbrev Outer:=Nat→List Value→AHeap→Value→AHeap→Prop
def wantedA (g:Option (Nat×Bool)) (f:Fr):Bool:=
 match g with
 |none=>true
 |some (t,b)=>match f t with| .bool x=>x==b| _=>false
def frame0 (args:List Value):Fr:=fun t=>args.getD t undef
mutual
inductive Big (Γ:Env) (X:Outer):ACode→Fr→AHeap→Ex→Fr→AHeap→Prop where
 |skip {f H}:Big Γ X .skip f H .normal f H
 |region {d ops f H f' H'}:Ops Γ X d ops f H f' H'→Big Γ X (.region d ops) f H .normal f' H'
 |seqN {a b f H f1 H1 ex f' H'}:Big Γ X a f H .normal f1 H1→Big Γ X b f1 H1 ex f' H'→Big Γ X (.seq a b) f H ex f' H'
 |seqX {a b f H ex f' H'}:Big Γ X a f H ex f' H'→ex≠ .normal→Big Γ X (.seq a b) f H ex f' H'
 |cond {c a b f H t ex f' H'}:ev f c= .bool t→Big Γ X (if t then a else b) f H ex f' H'→Big Γ X (.cond c a b) f H ex f' H'
 |block {id a f H ex f' H'}:Big Γ X a f H ex f' H'→ex≠ .exit id→Big Γ X (.block id a) f H ex f' H'
 |blockX {id a f H f' H'}:Big Γ X a f H (.exit id) f' H'→Big Γ X (.block id a) f H .normal f' H'
 |loopN {a f H f1 H1 ex f' H'}:Big Γ X a f H .normal f1 H1→Big Γ X (.loop a) f1 H1 ex f' H'→Big Γ X (.loop a) f H ex f' H'
 |loopX {a f H ex f' H'}:Big Γ X a f H ex f' H'→ex≠ .normal→Big Γ X (.loop a) f H ex f' H'
 |exit {id f H}:Big Γ X (.exit id) f H (.exit id) f H
 |ret {f H}:Big Γ X .ret f H .ret f H
inductive Ops (Γ:Env) (X:Outer):Option Nat→List AOper→Fr→AHeap→Fr→AHeap→Prop where
 |nil {d f H}:Ops Γ X d [] f H f H
 |cons {d o rest f H f1 H1 f' H'}:One Γ X o f H f1 H1→(∀m,d=some (m+1)→Ext H H1)→
   Ops Γ X (d.map (· -1)) rest f1 H1 f' H'→Ops Γ X d (o::rest) f H f' H'
inductive One (Γ:Env) (X:Outer):AOper→Fr→AHeap→Fr→AHeap→Prop where
 |skip {o f H}:wantedA o.guard f=false→One Γ X o f H (updO f o.dst undef) H
 |op {o f H v H'}:wantedA o.guard f=true→aOp o.op (ev f) H=some (v,H')→One Γ X o f H (updO f o.dst v) H'
 |call {o f H g args v H'}:wantedA o.guard f=true→o.op= .call g args→Cal Γ X g (args.map (ev f)) H v H'→One Γ X o f H (updO f o.dst v) H'
 |callv {o f H g cap caps args v H'}:wantedA o.guard f=true→o.op= .callv g args→ev f g= .func (.func cap) #[] ⟨caps⟩→
   Cal Γ X cap (args.map (ev f)++caps) H v H'→One Γ X o f H (updO f o.dst v) H'
 |callF {o f H g args fl v H'}:wantedA o.guard f=true→o.op= .callF g args fl→Cal Γ X g (args.map (ev f)) H v H'→
   (∀x∈fl,∀b,b<H.n→blkOf (ev f x)=some b→H'.get b=H.get b)→One Γ X o f H (updO f o.dst v) H'
inductive Cal (Γ:Env) (X:Outer):Nat→List Value→AHeap→Value→AHeap→Prop where
 |body {g fn args H ex f' vs H'}:Γ g=some fn→Big Γ X fn.body (frame0 args) H ex f' H'→(ex= .normal∨ex= .ret)→
   resAll f' H' fn.results=some vs→Cal Γ X g args H (tup vs) H'
 |outer {g args H v H'}:X g args H v H'→Cal Γ X g args H v H'
end
end Go.Am
