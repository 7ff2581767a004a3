/- A small deterministic machine for the code that the claims reach: its values are the model's own, its memory is a list of blocks of one's own names. What it computes is carried over to the model by AmSound. -/
import GoSem.Dispatch
import GoSem.Machine.Frame
import Derived.Laws.Sem
namespace Go.Am
open Go
inductive aN where
 |t (n:Nat)
 |c (v:Value)
 |f (n:Nat)
 deriving Inhabited
inductive kJ where
 |move (x:aN)
 |pick (c a b:aN)
 |alloc (z:List Value)
 |box (x:aN)
 |build (z:List Value) (parts:List (Nat×Nat×aN))
 |buildSlice (e n:Nat) (z:List Value) (parts:List (Nat×Nat×aN))
 |load (n:Option Nat) (a:aN)
 |store (n:Nat) (a v:aN)
 |iw (n:Nat) (a v:aN) (fl:List aN)
 |bin (op:BinOp) (x y:aN)
 |iL (op:BinOp) (x y:aN)
 |uz (neg:Bool) (x y:aN)
 |yN (neg:Bool) (n:Nat) (x y:aN)
 |eqn (neg:Bool) (x:aN)
 |not (x:aN)
 |neg (x:aN)
 |conv (k:IntKind) (x:aN)
 |makeSlice (e bytes:Nat) (z:List Value) (len cap:aN)
 |slice (e:Nat) (x:aN) (lo hi:Option aN)
 |BJ (x:aN) (lo hi:Option aN)
 |zV (len e:Nat) (x:aN) (lo hi:Option aN)
 |fieldAddr (off:Nat) (x:aN)
 |field (n:Option Nat) (off:Nat) (x:aN)
 |indexAddr (arr:Option Nat) (e:Nat) (x i:aN)
 |index (len e:Nat) (n:Option Nat) (x i:aN)
 |indexStr (x i:aN)
 |extract (x:aN) (j:Nat)
 |len (x:aN)
 |lenStr (x:aN)
 |lenConst (n:Nat)
 |append (e bytes:Nat) (s x:aN)
 |lK (e bytes:Nat) (s x:aN) (fl:List aN)
 |max (xs:List aN)
 |min (xs:List aN)
 |nilCheck (x:aN)
 |makeFunc (f:Nat) (caps:List aN)
 |strOf (x:aN)
 |call (f:Nat) (args:List aN)
 |kV (f:aN) (args:List aN)
 |lV (f:Nat) (args:List aN) (fl:List aN)
 deriving Inhabited
structure cO where
 dst:Option Nat
 op:kJ
 guard:Option (Nat×Bool):=none
 deriving Inhabited
abbrev oM (d s:Nat):cO:=⟨some d, .move (.t s),none⟩
abbrev oP (d:Nat) (o:kJ):cO:=⟨some d,o,none⟩
inductive aj where
 |skip
 |region (draw:Option Nat) (ops:List cO)
 |seq (a b:aj)
 |cond (c:aN) (a b:aj)
 |block (id:Nat) (a:aj)
 |loop (a:aj)
 |exit (id:Nat)
 |ret
 deriving Inhabited
inductive oU where
 |tmp (t:Nat)
 |cell (t:Nat) (n:Option Nat)
 deriving Inhabited
structure aZ where
 results:List oU
 body:aj
 deriving Inhabited
abbrev Fr:=Nat→Value
def upd (f:Fr) (d:Nat) (v:Value):Fr:=fun t=>if t=d then v else f t
def dR (f:Fr):Option Nat→Value→Fr
 |some d,v=>upd f d v
 |none,_=>f
def ev (f:Fr):aN→Value
 | .t n=>f n
 | .c v=>v
 | .f n=> .func (.func n) #[] #[]
theorem Jg (f:Fr) (d:Nat) (v:Value) (t:Nat):upd f d v t=if t=d then v else f t:=rfl
theorem upd_same (f:Fr) (d:Nat) (v:Value):upd f d v d=v:=if_pos rfl
theorem upd_ne (f:Fr) (d t:Nat) (v:Value) (h:t≠d):upd f d v t=f t:=if_neg h
structure dh where
 cells:List Value
 rw:Bool
structure aA where
 n:Nat
 get:Nat→Option dh
def aA.alloc (H:aA) (cs:List Value):aA:=⟨H.n+1,fun b=>if b=H.n then some ⟨cs,true⟩ else H.get b⟩
def aA.set (H:aA) (b:Nat) (cs:List Value):aA:=⟨H.n,fun x=>if x=b then some ⟨cs,true⟩ else H.get x⟩
def aA.kill (H:aA) (b:Nat):aA:=⟨H.n,fun x=>if x=b then none else H.get x⟩
def aA.row (H:aA) (b o n:Nat):Option (List Value):=
 match H.get b with
 |some blk=>if o+n≤blk.cells.length then some ((blk.cells.drop o).take n) else none
 |none=>none
def aA.cell (H:aA) (b o:Nat):Option Value:=
 match H.get b with
 |some blk=>blk.cells[o]?
 |none=>none
structure Ext (H H':aA):Prop where
 n:H.n≤H'.n
 get: ∀b,b<H.n→H'.get b=H.get b
abbrev P (b o:Nat):Value:= .pointer (some ⟨b,o,none⟩)
abbrev S (b o l e:Nat):Value:= .slice (some ⟨b,o,none⟩) l e
abbrev I (n:Int):Value:= .int .i64 n
abbrev Y (n:Int):Value:= .int .u8 n
abbrev B (b:Bool):Value:= .bool b
abbrev eY (cs:List Value):Value:= .agg ⟨cs⟩
def iq:Value→List Value
 | .agg cs=>cs.toList
 |v=>[v]
def splice (cs:List Value) (o:Nat) (seg:List Value):List Value:=cs.take o++seg++cs.drop (o+seg.length)
def dG (cs:List Value):List (Nat×Nat×Value)→Option (List Value)
 |[]=>some cs
 |(o,n,v)::rest=>if (iq v).length=n∧o+n≤cs.length then dG (splice cs o (iq v)) rest else none
def fB (z:List Value) (n:Nat):List Value:=(List.replicate n z).flatten
def plain:Value→Bool
 | .int _ _| .bool _| .string _| .nilFunc| .pointer none| .slice none 0 0| .map none=>true
 | .tuple vs=>vs.isEmpty
 | _=>false
def vals:Value→Option (List Value)
 | .tuple vs=>some vs.toList
 | _=>none
def vk (op:BinOp) (k:IntKind) (a b:Int):Option Value:=
 match op with
 | .shl=>if b<0 then none else some (.int k (k.wrap (a*2^(min b.toNat k.bits))))
 | .shr=>if b<0 then none else some (.int k (a.fdiv (2^(min b.toNat k.bits))))
 | _=>none
def fM (op:BinOp):Value→Value→Option Value
 | .int k a, .int k' b=>
  if k=k' then
   match op with
   | .add=>some (.int k (k.wrap (a+b)))
   | .sub=>some (.int k (k.wrap (a-b)))
   | .mul=>some (.int k (k.wrap (a*b)))
   | .quo=>if b=0 then none else some (.int k (k.wrap (a.tdiv b)))
   | .rem=>if b=0 then none else some (.int k (a.tmod b))
   | .eql=>some (.bool (a==b))
   | .neq=>some (.bool (a !=b))
   | .lss=>some (.bool (a<b))
   | .leq=>some (.bool (a≤b))
   | .gtr=>some (.bool (a>b))
   | .geq=>some (.bool (a≥b))
   | .and=>some (.int k (k.wrap ((BitVec.ofInt k.bits a&&&BitVec.ofInt k.bits b).toNat:Int)))
   | .xor=>some (.int k (k.wrap ((BitVec.ofInt k.bits a^^^BitVec.ofInt k.bits b).toNat:Int)))
   | _=>vk op k a b
  else vk op k a b
 | _,_=>none
def jB (op:BinOp):Value→Value→Option Value
 | .string x, .string y=>
  match op with
  | .add=>if x.size+y.size≤9223372036854775807 then some (.string (x++y)) else none
  | .eql=>some (.bool (x.toList==y.toList))
  | .neq=>some (.bool !(x.toList==y.toList))
  | .lss=>some (.bool (Op.bytesLess x.toList y.toList))
  | _=>none
 | _,_=>none
def wO:Value→Value→Option Bool
 | .int k a, .int k' b=>if k=k' then some (a==b) else none
 | _,_=>none
def iU:List Value→List Value→Option Bool
 |[],[]=>some true
 |a::as,b::bs=>
  match wO a b with
  |some r=>(iU as bs).map (r&& ·)
  |none=>none
 | _,_=>none
def wP (n:Nat):Value→Value→Option Bool
 | .agg xs, .agg ys=>if xs.toList.length=n then iU xs.toList ys.toList else none
 | _,_=>none
def intOf:Value→Option Int
 | .int _ n=>some n
 | _=>none
def jc (ρ:aN→Value) (len:Nat) (lo hi:Option aN):Option (Nat×Nat):=
 match (match hi with|some x=>intOf (ρ x)|none=>some (len:Int)),(match lo with|some x=>intOf (ρ x)|none=>some 0) with
 |some h,some l=>if 0≤l∧l≤h∧h≤len then some (l.toNat,h.toNat) else none
 | _,_=>none
def max2:Value→Value→Option Value
 | .int k x, .int k' y=>if k=k' then some (.int k (if y>x then y else x)) else none
 | _,_=>none
def min2:Value→Value→Option Value
 | .int k x, .int k' y=>if k=k' then some (.int k (if y<x then y else x)) else none
 | _,_=>none
def ku (g:Value→Value→Option Value):List Value→Option Value
 |[]=>none
 |[x]=>some x
 |x::y::rest=>
  match g x y with
  |some z=>ku g (z::rest)
  |none=>none
termination_by l=>l.length
def bV (n:Option Nat) (cs:List Value) (o:Nat):Option Value:=
 match n with
 |none=>cs[o]?
 |some n=>if o+n≤cs.length then some (eY ((cs.drop o).take n)) else none
def rC:List Value→Option (List UInt8)
 |[]=>some []
 | .int .u8 n::rest=>(rC rest).map (UInt8.ofNat n.toNat:: ·)
 | _::_=>none
def nJ (e bytes:Nat) (s x:Value) (H:aA):Option (Value×aA):=
 match x with
 | .slice xa xl xe=>
  if xl≠0∧xe≠e then none else
  match (match xa with|some ⟨b,o,none⟩=>if xl=0 then some [] else H.row b o (xl*e)|none=>if xl=0 then some [] else none| _=>none) with
  |none=>none
  |some new=>
   match s with
   | .slice none 0 0=>
    if xl=0 then some (s,H)
    else if xl*bytes≤140737488355328 then some (S H.n 0 xl e,H.alloc new) else none
   | .slice (some ⟨b,0,none⟩) l e'=>
    if e'≠e then none else
    (match H.get b with
    |some blk=>
     if blk.rw=true∧l*e≤blk.cells.length∧(l+xl)*bytes≤140737488355328∧new.all (·.oneCell')=true
     then some (S H.n 0 (l+xl) e,(H.kill b).alloc (blk.cells.take (l*e)++new)) else none
    |none=>none)
   | _=>none
 | _=>none
def lW:Value→Option Nat
 | .pointer (some ⟨b,_,none⟩)=>some b
 | .slice (some ⟨b,_,none⟩) _ _=>some b
 | _=>none
def BK (a x:Value):Bool:=
 match lW a with
 |some b=> !(lW x==some b)
 |none=>false
def Jm (a x:Value):Bool:=
 match lW a with
 |some b=> !(lW x==some b)
 |none=>true
def Jo (n:Nat) (a v:Value) (H:aA):Option (Value×aA):=
 match a with
 | .pointer (some ⟨b,o,none⟩)=>
  (match H.get b with
  |some blk=>
   if blk.rw=true∧(iq v).length=n∧o+n≤blk.cells.length∧(iq v).all (·.oneCell')=true
   then some (undef,H.set b (splice blk.cells o (iq v))) else none
  |none=>none)
 | _=>none
def aS (o:kJ) (ρ:aN→Value) (H:aA):Option (Value×aA):=
 match o with
 | .move x=>some (ρ x,H)
 | .pick c a b=>match ρ c with| .bool t=>some (if t then ρ a else ρ b,H)| _=>none
 | .alloc z=>some (P H.n 0,H.alloc z)
 | .box x=>some (P H.n 0,H.alloc (iq (ρ x)))
 | .build z parts=>(dG z (parts.map fun p=>(p.1,p.2.1,ρ p.2.2))).map fun cs=>(eY cs,H)
 | .buildSlice e n z parts=>
  if n*e≤16777216 then
   (dG (fB z n) (parts.map fun p=>(p.1,p.2.1,ρ p.2.2))).map fun cs=>(S H.n 0 n e,H.alloc cs)
  else none
 | .load n a=>
  match ρ a with
  | .pointer (some ⟨b,o,none⟩)=>(match H.get b with|some blk=>(bV n blk.cells o).map fun v=>(v,H)|none=>none)
  | _=>none
 | .store n a v=>
  match ρ a with
  | .pointer (some ⟨b,o,none⟩)=>
   (match H.get b with
   |some blk=>
    if blk.rw=true∧(iq (ρ v)).length=n∧o+n≤blk.cells.length∧(iq (ρ v)).all (·.oneCell')=true
    then some (undef,H.set b (splice blk.cells o (iq (ρ v)))) else none
   |none=>none)
  | _=>none
 | .iw n a v fl=>if (fl.all fun x=>BK (ρ a) (ρ x))=true then Jo n (ρ a) (ρ v) H else none
 | .bin op x y=>(fM op (ρ x) (ρ y)).map fun v=>(v,H)
 | .iL op x y=>(jB op (ρ x) (ρ y)).map fun v=>(v,H)
 | .uz neg x y=>match ρ x,ρ y with| .bool a, .bool b=>some (.bool (if neg then !(a==b) else (a==b)),H)| _,_=>none
 | .yN neg n x y=>(wP n (ρ x) (ρ y)).map fun r=>(.bool (if neg then !r else r),H)
 | .eqn neg x=>match ρ x with| .slice a _ _=>some (.bool (if neg then !a.isNone else a.isNone),H)| _=>none
 | .not x=>match ρ x with| .bool b=>some (.bool !b,H)| _=>none
 | .neg x=>match ρ x with| .int k n=>some (.int k (k.wrap (0-n)),H)| _=>none
 | .conv k x=>match ρ x with| .int _ n=>some (.int k (k.wrap n),H)| _=>none
 | .makeSlice e bytes z l c=>
  match ρ l,ρ c with
  | .int _ l, .int _ c=>if 0≤l∧l≤c∧c*bytes≤140737488355328∧c≤9223372036854775807 then some (S H.n 0 l.toNat e,H.alloc (fB z c.toNat)) else none
  | _,_=>none
 | .slice e x lo hi=>
  match ρ x with
  | .slice (some ⟨b,o,none⟩) len e'=>if e'=e then (jc ρ len lo hi).map fun (l,h)=>(S b (o+l*e) (h-l) e,H) else none
  | .slice none 0 0=>(jc ρ 0 lo hi).map fun _=>(.slice none 0 0,H)
  | _=>none
 | .BJ x lo hi=>match ρ x with| .string s=>(jc ρ s.size lo hi).map fun (l,h)=>(.string (s.extract l h),H)| _=>none
 | .zV len e x lo hi=>
  match ρ x with
  | .pointer (some ⟨b,o,none⟩)=>(match H.get b with|some blk=>if o+len*e≤blk.cells.length then (jc ρ len lo hi).map fun (l,h)=>(S b (o+l*e) (h-l) e,H) else none|none=>none)
  | _=>none
 | .fieldAddr off x=>match ρ x with| .pointer (some ⟨b,o,none⟩)=>some (P b (o+off),H)| _=>none
 | .field n off x=>match ρ x with| .agg cs=>(bV n cs.toList off).map fun v=>(v,H)| _=>none
 | .indexAddr none e x i=>
  match ρ x,intOf (ρ i) with
  | .slice (some ⟨b,o,none⟩) len e',some i=>if 0≤i∧i<len∧e'=e then some (P b (o+i.toNat*e),H) else none
  | _,_=>none
 | .indexAddr (some n) e x i=>
  match ρ x,intOf (ρ i) with
  | .pointer (some ⟨b,o,none⟩),some i=>if 0≤i∧i<n then some (P b (o+i.toNat*e),H) else none
  | _,_=>none
 | .index len e n x i=>
  match ρ x,intOf (ρ i) with
  | .agg cs,some i=>if 0≤i∧i<len then (bV n cs.toList (i.toNat*e)).map fun v=>(v,H) else none
  | _,_=>none
 | .indexStr x i=>
  match ρ x,intOf (ρ i) with
  | .string s,some i=>if 0≤i then (s[i.toNat]?).map fun b=>(.int .u8 b.toNat,H) else none
  | _,_=>none
 | .extract x j=>match ρ x with| .tuple vs=>(vs[j]?).map fun v=>(v,H)| _=>none
 | .len x=>match ρ x with| .slice _ n _=>some (.int .i64 n,H)| _=>none
 | .lenStr x=>match ρ x with| .string s=>some (.int .i64 s.size,H)| _=>none
 | .lenConst n=>some (.int .i64 n,H)
 | .append e bytes s x=>nJ e bytes (ρ s) (ρ x) H
 | .lK e bytes s x fl=>if (fl.all fun y=>Jm (ρ s) (ρ y))=true then nJ e bytes (ρ s) (ρ x) H else none
 | .max xs=>(ku max2 (xs.map ρ)).map fun v=>(v,H)
 | .min xs=>(ku min2 (xs.map ρ)).map fun v=>(v,H)
 | .nilCheck x=>match ρ x with| .pointer (some a)=>some (.pointer (some a),H)| _=>none
 | .makeFunc f caps=>some (.func (.func f) #[] ⟨caps.map ρ⟩,H)
 | .strOf x=>
  match ρ x with
  | .slice (some ⟨b,o,none⟩) n 1=>((H.row b o n).bind rC).map fun l=>(.string ⟨⟨l⟩⟩,H)
  | .slice none 0 0=>some (.string ⟨#[]⟩,H)
  | _=>none
 | .call .. | .kV .. | .lV .. =>none
def gJ (f:Fr) (H:aA):oU→Option Value
 | .tmp t=>some (f t)
 | .cell t n=>match f t with| .pointer (some ⟨b,o,none⟩)=>(match H.get b with|some blk=>bV n blk.cells o|none=>none)| _=>none
def dS (f:Fr) (H:aA):List oU→Option (List Value)
 |[]=>some []
 |r::rs=>match gJ f H r,dS f H rs with|some v,some vs=>some (v::vs)| _,_=>none
def aF:List Value→Value
 |[v]=>v
 |vs=> .tuple ⟨vs⟩
inductive Ex where
 |normal
 |exit (id:Nat)
 |ret
 deriving DecidableEq
abbrev Env:=Nat→Option aZ
abbrev Outer:=Nat→List Value→aA→Value→aA→Prop
def iQ (g:Option (Nat×Bool)) (f:Fr):Bool:=
 match g with
 |none=>true
 |some (t,b)=>match f t with| .bool x=>x==b| _=>false
def qE (args:List Value):Fr:=fun t=>args.getD t undef
mutual
inductive Big (Γ:Env) (X:Outer):aj→Fr→aA→Ex→Fr→aA→Prop where
 |skip {f H}:Big Γ X .skip f H .normal f H
 |region {d ops f H f' H'}:Ops Γ X d ops f H f' H'→Big Γ X (.region d ops) f H .normal f' H'
 |gq {a b f H f1 H1 ex f' H'}:Big Γ X a f H .normal f1 H1→Big Γ X b f1 H1 ex f' H'→Big Γ X (.seq a b) f H ex f' H'
 |fG {a b f H ex f' H'}:Big Γ X a f H ex f' H'→ex≠ .normal→Big Γ X (.seq a b) f H ex f' H'
 |cond {c a b f H t ex f' H'}:ev f c= .bool t→Big Γ X (if t then a else b) f H ex f' H'→Big Γ X (.cond c a b) f H ex f' H'
 |block {id a f H ex f' H'}:Big Γ X a f H ex f' H'→ex≠ .exit id→Big Γ X (.block id a) f H ex f' H'
 |Na {id a f H f' H'}:Big Γ X a f H (.exit id) f' H'→Big Γ X (.block id a) f H .normal f' H'
 |TP {a f H f1 H1 ex f' H'}:Big Γ X a f H .normal f1 H1→Big Γ X (.loop a) f1 H1 ex f' H'→Big Γ X (.loop a) f H ex f' H'
 |Jh {a f H ex f' H'}:Big Γ X a f H ex f' H'→ex≠ .normal→Big Γ X (.loop a) f H ex f' H'
 |exit {id f H}:Big Γ X (.exit id) f H (.exit id) f H
 |ret {f H}:Big Γ X .ret f H .ret f H
inductive Ops (Γ:Env) (X:Outer):Option Nat→List cO→Fr→aA→Fr→aA→Prop where
 |nil {d f H}:Ops Γ X d [] f H f H
 |cons {d o rest f H f1 H1 f' H'}:One Γ X o f H f1 H1→(∀m,d=some (m+1)→Ext H H1)→
   Ops Γ X (d.map (· -1)) rest f1 H1 f' H'→Ops Γ X d (o::rest) f H f' H'
inductive One (Γ:Env) (X:Outer):cO→Fr→aA→Fr→aA→Prop where
 |skip {o f H}:iQ o.guard f=false→One Γ X o f H (dR f o.dst undef) H
 |op {o f H v H'}:iQ o.guard f=true→aS o.op (ev f) H=some (v,H')→One Γ X o f H (dR f o.dst v) H'
 |call {o f H g args v H'}:iQ o.guard f=true→o.op= .call g args→Cal Γ X g (args.map (ev f)) H v H'→One Γ X o f H (dR f o.dst v) H'
 |kV {o f H g cap caps args v H'}:iQ o.guard f=true→o.op= .kV g args→ev f g= .func (.func cap) #[] ⟨caps⟩→
   Cal Γ X cap (args.map (ev f)++caps) H v H'→One Γ X o f H (dR f o.dst v) H'
 |lV {o f H g args fl v H'}:iQ o.guard f=true→o.op= .lV g args fl→Cal Γ X g (args.map (ev f)) H v H'→
   (∀x∈fl,∀b,b<H.n→lW (ev f x)=some b→H'.get b=H.get b)→One Γ X o f H (dR f o.dst v) H'
inductive Cal (Γ:Env) (X:Outer):Nat→List Value→aA→Value→aA→Prop where
 |body {g fn args H ex f' vs H'}:Γ g=some fn→Big Γ X fn.body (qE args) H ex f' H'→(ex= .normal∨ex= .ret)→
   dS f' H' fn.results=some vs→Cal Γ X g args H (aF vs) H'
 |outer {g args H v H'}:X g args H v H'→Cal Γ X g args H v H'
end
end Go.Am
