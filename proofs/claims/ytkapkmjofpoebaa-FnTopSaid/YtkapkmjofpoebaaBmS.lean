/- Rules by which a run of the second machine is gone through, operation by operation. -/
import Derived.Test.YtkapkmjofpoebaaBmT
import Derived.Test.YtkapkmjofpoebaaAmS2
set_option linter.unusedVariables false
set_option linter.unusedSimpArgs false
namespace Go.Bm
open Go Go.Am
abbrev N8 (n:Nat):Value:= .int .u8 (n:Int)
abbrev PL (p:List Nat):Value:=bJ (p.map N8)
abbrev FI (xs:List Int):Value:=Fz xs.length 1 (xs.map I)
abbrev FB (xs:List Nat):Value:=Fz xs.length 1 (xs.map N8)
abbrev vU (xss:List (List Int)):Value:=Fz xss.length 1 (xss.map FI)
def nl (p:List Nat) (i:Nat):Nat:=p.getD i 0
section
def iw (o:Option (Value×BH)) (k:Value→BH→Prop):Prop:=
 match o with
 |some (v,H)=>k v H
 |none=>False
theorem Yw {v:Value} {H:BH} {k:Value→BH→Prop}:iw (some (v,H)) k=k v H:=rfl
def dK (d t:Option Nat) (r:List bT) (K:Fr→BH→Prop) (f:Fr) (H:BH):Value→Prop:=fun v=>opsT (dn d) r K (dF f t v) H
def jE (d t:Option Nat) (r:List bT) (K:Fr→BH→Prop) (f:Fr):Value→BH→Prop:=fun v H=>opsT (dn d) r K (dF f t v) H
variable {d:Option Nat} {t:Option Nat} {r:List bT} {K:Fr→BH→Prop} {f:Fr} {H:BH}
theorem yY {v:Value}:dH (some v) (dK d t r K f H)=opsT (dn d) r K (dF f t v) H:=rfl
theorem yZ {v:Value}:iw (some (v,H)) (jE d t r K f)=opsT (dn d) r K (dF f t v) H:=rfl
theorem OG {v:Value}:jE d t r K f v H=opsT (dn d) r K (dF f t v) H:=rfl
theorem y5 {n:Nat}:ev f (.t n)=f n:=rfl
theorem OH {k:IntKind} {n:Int}:ev f (.c (.int k n))= .int k n:=rfl
theorem OI {b:Bool}:ev f (.c (.bool b))= .bool b:=rfl
theorem OJ {b:ByteArray}:ev f (.c (.string b))= .string b:=rfl
theorem OL:ev f (.c (.slice none 0 0))= .slice none 0 0:=rfl
theorem OM:ev f (.c .nilFunc)= .nilFunc:=rfl
theorem OO:ev f (.c (.pointer none))= .pointer none:=rfl
theorem y7 {n:Nat}:ev f (.f n)= .func (.func n) #[] #[]:=rfl
theorem zf:opsT d [] K f H=K f H:=rfl
def gV (b:Bool):Value→Option Bool
 | .bool x=>some (x==b)
 | .tuple ⟨[]⟩=>some false
 | _=>none
def Hl (o:Option Bool) (p q:Prop):Prop:=
 match o with
 |some true=>p
 |some false=>q
 |none=>False
theorem OQ {x:Bool}:gV true (.bool x)=some x:=by cases x<;>rfl
theorem OT {x:Bool}:gV false (.bool x)=some (!x):=by cases x<;>rfl
theorem OU {b:Bool}:gV b undef=some false:=rfl
theorem OV {p q:Prop}:Hl (some true) p q=p:=rfl
theorem OW {p q:Prop}:Hl (some false) p q=q:=rfl
theorem zh {o:iO} {g:Nat} {b:Bool}:opsT d (⟨t,o,some (g,b)⟩::r) K f H=Hl (gV b (f g)) (opsT d (⟨t,o,none⟩::r) K f H) (opsT (dn d) r K (dF f t undef) H):=by
 have e:vV (some (g,b)) f=gV b (f g):=rfl
 rw [opsT]
 simp only [e]
 generalize gV b (f g)=q
 match q with
 |some true=>
  show _=opsT d (⟨t,o,none⟩::r) K f H
  conv=>rhs;rw [opsT]
  rfl
 |some false=>rfl
 |none=>rfl
theorem zi {g:Nat} {as:List aB}:opsT d (⟨t, .call g as,none⟩::r) K f H=aQ (iW d) g (as.map (ev f)) H (jE d t r K f):=by rw [opsT];rfl
theorem aee {g:aB} {as:List aB} {cap:Nat} {caps:Array Value} (hg:ev f g= .func (.func cap) #[] caps):opsT d (⟨t, .jF g as,none⟩::r) K f H=aQ (iW d) cap (as.map (ev f)++caps.toList) H (jE d t r K f):=by
 rw [opsT]
 simp only [vV,hg,true_and]
 rfl
theorem kS {o:iO} (h2:uJ o=false) (h3: ∀g as,o≠ .call g as) (h4:(∀g as,o≠ .jF g as)∧ ∀g as fl,o≠ .jS g as fl):opsT d (⟨t,o,none⟩::r) K f H=iw (bD o (ev f) H) (jE d t r K f):=by
 rw [opsT]
 simp only [vV]
 cases o<;>first|exact absurd rfl (h3 _ _)|exact absurd rfl (h4.1 _ _)|exact absurd rfl (h4.2 _ _ _)|(simp only [h2,Bool.false_eq_true,false_implies,true_and];rfl)
theorem Ef {o:iO} (h2:uJ o=true):opsT d (⟨t,o,none⟩::r) K f H=(iW d=false∧iw (bD o (ev f) H) (jE d t r K f)):=by
 rw [opsT]
 simp only [vV]
 cases o<;>first|(simp [uJ] at h2;done)|skip
 all_goals
  simp only [uJ,true_implies]
  generalize bD _ (ev f) H=q
  match q with
  |some (v,H')=>rfl
  |none=>simp [iw]
theorem dS {o:iO} {w:Option Value} (h2:uJ o=false) (h3: ∀g as,o≠ .call g as) (h4:(∀g as,o≠ .jF g as)∧ ∀g as fl,o≠ .jS g as fl) (h:bD o (ev f) H=w.map fun v=>(v,H)):opsT d (⟨t,o,none⟩::r) K f H=dH w (dK d t r K f H):=by
 rw [kS h2 h3 h4,h]
 cases w<;>rfl
theorem zo {x:aB}:opsT d (⟨t, .move x,none⟩::r) K f H=opsT (dn d) r K (dF f t (ev f x)) H:=by
 rw [kS rfl (by simp) (by simp)];rfl
theorem zq {c a b:aB}:opsT d (⟨t, .pick c a b,none⟩::r) K f H=dH (y9 (ev f c) (ev f a) (ev f b)) (dK d t r K f H):=
 dS rfl (by simp) (by simp) (by simp only [bD];cases ev f c<;>rfl)
theorem zu {op:BinOp} {x y:aB}:opsT d (⟨t, .bin op x y,none⟩::r) K f H=dH (dZ op (ev f x) (ev f y)) (dK d t r K f H):=
 dS rfl (by simp) (by simp) (by rfl)
theorem OX {op:BinOp} {x y:aB}:opsT d (⟨t, .wX op x y,none⟩::r) K f H=dH (nT op (ev f x) (ev f y)) (dK d t r K f H):=
 dS rfl (by simp) (by simp) (by rfl)
theorem zy {x:aB}:opsT d (⟨t, .not x,none⟩::r) K f H=dH (Gt (ev f x)) (dK d t r K f H):=
 dS rfl (by simp) (by simp) (by simp only [bD];cases ev f x<;>rfl)
theorem zA {x:aB}:opsT d (⟨t, .neg x,none⟩::r) K f H=dH (Gu (ev f x)) (dK d t r K f H):=
 dS rfl (by simp) (by simp) (by simp only [bD];cases ev f x<;>rfl)
theorem zB {k:IntKind} {x:aB}:opsT d (⟨t, .conv k x,none⟩::r) K f H=dH (Gv k (ev f x)) (dK d t r K f H):=
 dS rfl (by simp) (by simp) (by simp only [bD];cases ev f x<;>rfl)
theorem zC {n:Bool} {x y:aB}:opsT d (⟨t, .rO n x y,none⟩::r) K f H=dH (Di n (ev f x) (ev f y)) (dK d t r K f H):=
 dS rfl (by simp) (by simp) (by simp only [bD];cases ev f x<;>cases ev f y<;>rfl)
def Eh (neg:Bool) (n:Nat) (x y:Value):Option Value:=(pW n x y).map fun r=> .bool (if neg then !r else r)
theorem OY {neg:Bool} {n:Nat} {x y:aB}:opsT d (⟨t, .qH neg n x y,none⟩::r) K f H=dH (Eh neg n (ev f x) (ev f y)) (dK d t r K f H):=
 dS rfl (by simp) (by simp) (by simp only [bD,Eh,Option.map_map];rfl)
def Ak (neg:Bool):Value→Option Value
 | .slice a _ _=>some (.bool (if neg then !a.isNone else a.isNone))
 | .iface (_+1) (.iface _ (.tuple _))=>some (.bool neg)
 | _=>none
theorem OZ {neg:Bool} {n e:Nat}:Ak neg (.slice none n e)=some (.bool !neg):=by cases neg<;>rfl
theorem O1 {neg:Bool} {b o n e:Nat}:Ak neg (S b o n e)=some (.bool neg):=by cases neg<;>rfl
theorem aef {neg:Bool} {l e:Nat} {cs:List Value} (h:0<l):Ak neg (Fz l e cs)=some (.bool neg):=by
 obtain ⟨n,rfl⟩: ∃n,l=n+1:=⟨l-1,by omega⟩
 rfl
theorem zI {n:Bool} {x:aB}:opsT d (⟨t, .eqn n x,none⟩::r) K f H=dH (Ak n (ev f x)) (dK d t r K f H):=
 dS rfl (by simp) (by simp) (by
  simp only [bD,Ak]
  repeat' split
  all_goals first|rfl|simp_all)
def Ap:Value→Option Value
 | .slice _ n _=>some (.int .i64 n)
 | .iface n (.iface _ (.tuple _))=>some (.int .i64 n)
 | _=>none
theorem O4 {a:Option Addr} {n e:Nat}:Ap (.slice a n e)=some (.int .i64 n):=rfl
theorem O5 {n e:Nat} {cs:List Value}:Ap (Fz n e cs)=some (.int .i64 n):=rfl
theorem zD {x:aB}:opsT d (⟨t, .len x,none⟩::r) K f H=dH (Ap (ev f x)) (dK d t r K f H):=
 dS rfl (by simp) (by simp) (by
  simp only [bD,Ap]
  repeat' split
  all_goals first|rfl|simp_all)
def O6:Value→Option Value
 | .string s=>some (.int .i64 s.size)
 | _=>none
theorem O7 {s:ByteArray}:O6 (.string s)=some (.int .i64 s.size):=rfl
theorem O8 {x:aB}:opsT d (⟨t, .lenStr x,none⟩::r) K f H=dH (O6 (ev f x)) (dK d t r K f H):=
 dS rfl (by simp) (by simp) (by simp only [bD];cases ev f x<;>rfl)
theorem Ho {n:Nat}:opsT d (⟨t, .lenConst n,none⟩::r) K f H=opsT (dn d) r K (dF f t (.int .i64 n)) H:=by
 rw [kS rfl (by simp) (by simp)];rfl
theorem zF {x:aB} {j:Nat}:opsT d (⟨t, .extract x j,none⟩::r) K f H=dH (tu j (ev f x)) (dK d t r K f H):=
 dS rfl (by simp) (by simp) (by simp only [bD];cases ev f x<;>rfl)
theorem zG {xs:List aB}:opsT d (⟨t, .max xs,none⟩::r) K f H=dH (iU max2 (xs.map (ev f))) (dK d t r K f H):=
 dS rfl (by simp) (by simp) (by rfl)
theorem zH {xs:List aB}:opsT d (⟨t, .min xs,none⟩::r) K f H=dH (iU min2 (xs.map (ev f))) (dK d t r K f H):=
 dS rfl (by simp) (by simp) (by rfl)
def vW (e:Nat) (x i:Value):Option Value:=
 match x,intOf i with
 | .slice (some ⟨b,o,none⟩) len e',some i=>if 0≤i∧i<len∧e'=e then some (P b (o+i.toNat*e)) else none
 | .iface len (.iface e' (.tuple ⟨cs⟩)),some i=>if 0≤i∧i<len∧e'=e then some (Fp (i.toNat*e) cs) else none
 | _,_=>none
theorem Hq {b o len e:Nat} {k:IntKind} {i:Int} (h:0≤i∧i<len):vW e (S b o len e) (.int k i)=some (P b (o+i.toNat*e)):=by simp [vW,intOf,h]
theorem Hr {len e:Nat} {cs:List Value} {k:IntKind} {i:Int} (h:0≤i∧i<len):vW e (Fz len e cs) (.int k i)=some (Fp (i.toNat*e) cs):=by simp [vW,Fz,intOf,h]
theorem zJ {e:Nat} {x i:aB}:opsT d (⟨t, .indexAddr none e x i,none⟩::r) K f H=dH (vW e (ev f x) (ev f i)) (dK d t r K f H):=
 dS rfl (by simp) (by simp) (by
  simp only [bD,vW]
  generalize intOf (ev f i)=q
  generalize ev f x=vx
  cases vx<;>try rfl
  case slice a n e'=>
   cases a<;>try rfl
   rename_i a
   obtain ⟨b,o,sp⟩:=a
   cases sp<;>cases q<;>try rfl
   simp only
   split<;>rfl
  case iface l w=>
   cases w<;>try rfl
   rename_i l w
   cases w<;>try rfl
   cases q<;>try rfl
   simp only
   split<;>rfl)
def xF (n e:Nat) (x i:Value):Option Value:=
 match x,intOf i with
 | .pointer (some ⟨b,o,none⟩),some i=>if 0≤i∧i<n then some (P b (o+i.toNat*e)) else none
 | .iface o (.tuple ⟨cs⟩),some i=>if 0≤i∧i<n then some (Fp (o+i.toNat*e) cs) else none
 | _,_=>none
theorem O9 {n e b o:Nat} {k:IntKind} {i:Int} (h:0≤i∧i<n):xF n e (P b o) (.int k i)=some (P b (o+i.toNat*e)):=by simp [xF,intOf,h]
theorem Pg {n e o:Nat} {cs:List Value} {k:IntKind} {i:Int} (h:0≤i∧i<n):xF n e (Fp o cs) (.int k i)=some (Fp (o+i.toNat*e) cs):=by simp [xF,Fp,intOf,h]
theorem Ht {n e:Nat} {x i:aB}:opsT d (⟨t, .indexAddr (some n) e x i,none⟩::r) K f H=dH (xF n e (ev f x) (ev f i)) (dK d t r K f H):=
 dS rfl (by simp) (by simp) (by
  simp only [bD,xF]
  generalize intOf (ev f i)=q
  generalize ev f x=vx
  cases vx<;>try rfl
  case pointer a=>
   cases a<;>try rfl
   rename_i a
   obtain ⟨b,o,sp⟩:=a
   cases sp<;>cases q<;>try rfl
   simp only
   split<;>rfl
  case iface l w=>
   cases w<;>try rfl
   cases q<;>try rfl
   simp only
   split<;>rfl)
def xG (n:Option Nat) (H:BH):Value→Option Value
 | .pointer (some ⟨b,o,none⟩)=>(match blk H b with|some cs=>aY n cs o|none=>none)
 | .iface o (.tuple ⟨cs⟩)=>aY n cs o
 | _=>none
def Hu (n:Option Nat) (c:Option (List Value)) (o:Nat):Option Value:=
 match c with
 |some cs=>aY n cs o
 |none=>none
theorem Hw {n:Option Nat} {cs:List Value} {o:Nat}:Hu n (some cs) o=aY n cs o:=rfl
theorem Hy {n:Option Nat} {b o:Nat}:xG n H (P b o)=Hu n (blk H b) o:=by simp only [xG,Hu]
theorem Hz {n:Option Nat} {o:Nat} {cs:List Value}:xG n H (Fp o cs)=aY n cs o:=rfl
theorem zK {n:Option Nat} {a:aB}:opsT d (⟨t, .load n a,none⟩::r) K f H=dH (xG n H (ev f a)) (dK d t r K f H):=
 dS rfl (by simp) (by simp) (by
  simp only [bD,xG]
  repeat' split
  all_goals simp_all)
def xH (n:Nat) (a v:Value) (H:BH):Option (Value×BH):=
 match a with
 | .pointer (some ⟨b,o,none⟩)=>
  (match blk H b with
  |some cs=>
   (match cells2 v with
   |some vs=>if vs.length=n∧o+n≤cs.length∧vs.all iE=true then some (undef,H.set b (some (splice cs o vs))) else none
   |none=>none)
  |none=>none)
 | _=>none
def dP (c:Option (List Value)) (H:BH) (b o n:Nat) (v:Value):Option (Value×BH):=
 match c,cells2 v with
 |some cs,some vs=>if vs.length=n∧o+n≤cs.length∧vs.all iE=true then some (undef,H.set b (some (splice cs o vs))) else none
 | _,_=>none
theorem Ph {b o n:Nat} {v:Value}:xH n (P b o) v H=dP (blk H b) H b o n v:=by
 simp only [xH,dP]
 cases blk H b<;>cases cells2 v<;>rfl
theorem zk {n:Nat} {a v:aB}:opsT d (⟨t, .store n a v,none⟩::r) K f H=(iW d=false∧iw (xH n (ev f a) (ev f v) H) (jE d t r K f)):=by
 rw [Ef rfl]
 have:bD (.store n a v) (ev f) H=xH n (ev f a) (ev f v) H:=rfl
 rw [this]
def uK (H:BH) (a:Value):List Value→Bool
 |[]=>true
 |x::xs=>lH H a x&&uK H a xs
theorem Pj {a:Value}:uK H a []=true:=rfl
theorem HY {a x:Value} {xs:List Value}:uK H a (x::xs)=(lH H a x&&uK H a xs):=rfl
theorem Pm {i o j q:Nat}:lH H (P i o) (P j q)=(!(j==i)&&(blk H j).isSome):=rfl
theorem Pn {i o j q n e:Nat}:lH H (P i o) (S j q n e)=(!(j==i)&&(blk H j).isSome):=rfl
theorem Po {i o:Nat}:lH H (P i o) (.slice none 0 0)=true:=rfl
theorem Pq {i o:Nat} {k:IntKind} {n:Int}:lH H (P i o) (.int k n)=true:=rfl
theorem Pv {i o:Nat} {b:Bool}:lH H (P i o) (.bool b)=true:=rfl
theorem Px {i o l e:Nat} {cs:List Value}:lH H (P i o) (Fz l e cs)=true:=rfl
theorem Py {i o l:Nat} {cs:List Value}:lH H (P i o) (Fp l cs)=true:=rfl
theorem Pz {i o:Nat} {cs:List Value}:lH H (P i o) (bJ cs)=true:=rfl
theorem PD {cs:List Value}:(some cs).isSome=true:=rfl
theorem PE {n:Nat} {a v:aB} {fl:List aB}:opsT d (⟨t, .fE n a v fl,none⟩::r) K f H=(uK H (ev f a) (fl.map (ev f))=true∧iW d=false∧iw (xH n (ev f a) (ev f v) H) (jE d t r K f)):=by
 rw [Ef rfl]
 have e:(fl.all fun x=>lH H (ev f a) (ev f x))=uK H (ev f a) (fl.map (ev f)):=by
  induction fl with
  |nil=>rfl
  |cons x xs ih=>simp only [List.all_cons,List.map_cons,HY,ih]
 have:bD (.fE n a v fl) (ev f) H=if uK H (ev f a) (fl.map (ev f))=true then xH n (ev f a) (ev f v) H else none:=by
  rw [←e];rfl
 rw [this]
 by_cases h:uK H (ev f a) (fl.map (ev f))=true
 ·rw [if_pos h];simp [h]
 ·rw [if_neg h];simp [h,iw]
theorem zl {e b:Nat} {s x:aB}:opsT d (⟨t, .append e b s x,none⟩::r) K f H=(iW d=false∧iw (kH e b (ev f s) (ev f x) H) (jE d t r K f)):=by
 rw [Ef rfl];rfl
def PG (d t:Option Nat) (r:List bT) (K:Fr→BH→Prop) (f:Fr) (H:BH) (l:List Value):Value→BH→Prop:=fun v H'=>keepW H H' l∧opsT (dn d) r K (dF f t v) H'
theorem PK {l:List Value} {v:Value} {H1:BH}:PG d t r K f H l v H1=(keepW H H1 l∧opsT (dn d) r K (dF f t v) H1):=rfl
theorem PO {g:Nat} {as fl:List aB}:opsT d (⟨t, .jS g as fl,none⟩::r) K f H=(iW d=false∧aQ false g (as.map (ev f)) H (PG d t r K f H (fl.map (ev f)))):=by rw [opsT];rfl
theorem PS {H1:BH}:keepW H H1 []=True:=rfl
theorem PU {H1:BH} {x:Value} {xs:List Value}:keepW H H1 (x::xs)=(vX H H1 x∧keepW H H1 xs):=rfl
theorem PV {H1:BH} {j o:Nat}:vX H H1 (P j o)=vY (blk H j) (blk H1 j):=rfl
theorem PW {H1:BH} {j o l e:Nat}:vX H H1 (S j o l e)=vY (blk H j) (blk H1 j):=rfl
theorem PX {H1:BH} {k:IntKind} {n:Int}:vX H H1 (.int k n)=True:=rfl
theorem aiK {cs:List Value} (h:cs.all Am.plain=true):vY (some cs) (some cs)=True:=eq_true ⟨rfl,h⟩
def uM (H:BH) (a:Value):List Value→Bool
 |[]=>true
 |x::xs=>vZ H a x&&uM H a xs
theorem PY {a:Value}:uM H a []=true:=rfl
theorem H6 {a x:Value} {xs:List Value}:uM H a (x::xs)=(vZ H a x&&uM H a xs):=rfl
theorem PZ {i o l e:Nat} {x:Value}:vZ H (S i o l e) x=lH H (P i 0) x:=rfl
theorem P5 {x:Value}:vZ H (.slice none 0 0) x=true:=rfl
theorem P6 {e_1 b:Nat} {s x:aB} {fl:List aB}:opsT d (⟨t, .jG e_1 b s x fl,none⟩::r) K f H=(uM H (ev f s) (fl.map (ev f))=true∧iW d=false∧iw (kH e_1 b (ev f s) (ev f x) H) (jE d t r K f)):=by
 rw [Ef rfl]
 have e:(fl.all fun y=>vZ H (ev f s) (ev f y))=uM H (ev f s) (fl.map (ev f)):=by
  induction fl with
  |nil=>rfl
  |cons x xs ih=>simp only [List.all_cons,List.map_cons,H6,ih]
 have:bD (.jG e_1 b s x fl) (ev f) H=if uM H (ev f s) (fl.map (ev f))=true then kH e_1 b (ev f s) (ev f x) H else none:=by
  rw [←e];rfl
 rw [this]
 by_cases h:uM H (ev f s) (fl.map (ev f))=true
 ·rw [if_pos h];simp [h]
 ·rw [if_neg h];simp [h,iw]
theorem H7 {z:List Value}:opsT d (⟨t, .alloc z,none⟩::r) K f H=(z.all Am.plain=true∧opsT (dn d) r K (dF f t (P H.length 0)) (H++[some z])):=by
 rw [kS rfl (by simp) (by simp)]
 simp only [bD]
 split
 ·rename_i h;simp only [h,true_and];rfl
 ·rename_i h;simp only [h];simp [iw]
def qL (v:Value) (H:BH):Option (Value×BH):=
 match cells2 v with
 |some cs=>some (P H.length 0,H++[some cs])
 |none=>none
theorem H8 {x:aB}:opsT d (⟨t, .box x,none⟩::r) K f H=iw (qL (ev f x) H) (jE d t r K f):=by
 rw [kS rfl (by simp) (by simp)];rfl
theorem P7 {cs:List Value}:qL (bJ cs) H=some (P H.length 0,H++[some cs]):=rfl
theorem P8 {k:IntKind} {n:Int}:qL (.int k n) H=some (P H.length 0,H++[some [.int k n]]):=rfl
theorem P9 {b:Bool}:qL (.bool b) H=some (P H.length 0,H++[some [.bool b]]):=rfl
theorem Qa {s:ByteArray}:qL (.string s) H=some (P H.length 0,H++[some [.string s]]):=rfl
theorem Qb {a:Option Addr} {l e:Nat}:qL (.slice a l e) H=some (P H.length 0,H++[some [.slice a l e]]):=rfl
theorem Qc {l e:Nat} {cs:List Value}:qL (Fz l e cs) H=some (P H.length 0,H++[some [Fz l e cs]]):=rfl
theorem Qd {b o:Nat}:qL (P b o) H=some (P H.length 0,H++[some [P b o]]):=rfl
theorem Qe {g:Fn} {a b:Array Value}:qL (.func g a b) H=some (P H.length 0,H++[some [.func g a b]]):=rfl
theorem H9 {z:List Value} {p:List (Nat×Nat×aB)}:opsT d (⟨t, .build z p,none⟩::r) K f H=(z.all Am.plain=true∧(p.map fun p=>nj (ev f p.2.2)).all id=true∧dH ((bK z (p.map fun p=>(p.1,p.2.1,ev f p.2.2))).map bJ) (dK d t r K f H)):=by
 rw [kS rfl (by simp) (by simp)]
 simp only [bD,List.all_map,Function.id_comp]
 by_cases h:z.all Am.plain=true∧(p.all fun p=>nj (ev f p.2.2))=true
 ·rw [if_pos h,←and_assoc]
  simp only [h.1,h.2,and_self,true_and]
  cases bK z _<;>rfl
 ·rw [if_neg h,←and_assoc]
  simp only [h,false_and]
  rfl
theorem zM {e n:Nat} {z:List Value} {p:List (Nat×Nat×aB)}:opsT d (⟨t, .buildSlice e n z p,none⟩::r) K f H=(n*e≤16777216∧z.all Am.plain=true∧(p.map fun p=>nj (ev f p.2.2)).all id=true∧
  iw ((bK (dA z n) (p.map fun p=>(p.1,p.2.1,ev f p.2.2))).map fun cs=>(S H.length 0 n e,H++[some cs])) (jE d t r K f)):=by
 rw [kS rfl (by simp) (by simp)]
 simp only [bD,List.all_map,Function.id_comp]
 by_cases h:n*e≤16777216∧z.all Am.plain=true∧(p.all fun p=>nj (ev f p.2.2))=true
 ·rw [if_pos h]
  simp only [h.1,h.2.1,h.2.2,true_and]
 ·rw [if_neg h,←and_assoc,←and_assoc,and_assoc (a:=n*e≤16777216)]
  simp only [h,false_and]
  rfl
def Ei (e:Nat) (bytes:Nat) (z:List Value) (l c:Value) (H:BH):Option (Value×BH):=
 match l,c with
 | .int _ l, .int _ c=>if 0≤l∧l≤c∧c*bytes≤140737488355328∧c≤9223372036854775807 then some (S H.length 0 l.toNat e,H++[some (dA z c.toNat)]) else none
 | _,_=>none
theorem Qg {e b:Nat} {z:List Value} {k:IntKind} {n:Int} {H:BH} (h:0≤n∧n*b≤140737488355328∧n≤9223372036854775807):Ei e b z (.int k n) (.int k n) H=some (S H.length 0 n.toNat e,H++[some (dA z n.toNat)]):=by
 simp only [Ei]
 rw [if_pos (by omega)]
theorem zN {e b:Nat} {z:List Value} {l c:aB}:opsT d (⟨t, .makeSlice e b z l c,none⟩::r) K f H=(z.all Am.plain=true∧iw (Ei e b z (ev f l) (ev f c) H) (jE d t r K f)):=by
 rw [kS rfl (by simp) (by simp)]
 simp only [bD,Ei]
 generalize ev f l=vl
 generalize ev f c=vc
 by_cases hz:z.all Am.plain=true
 ·simp only [hz,true_and]
  cases vl<;>cases vc<;>rfl
 ·simp only [hz,Bool.false_eq_true,false_and,if_false]
  cases vl<;>cases vc<;>simp [iw]
def Ej (off:Nat):Value→Option Value
 | .pointer (some ⟨b,o,none⟩)=>some (P b (o+off))
 | .iface o (.tuple ⟨cs⟩)=>some (Fp (o+off) cs)
 | _=>none
theorem Qh {off b o:Nat}:Ej off (P b o)=some (P b (o+off)):=rfl
theorem Qi {off o:Nat} {cs:List Value}:Ej off (Fp o cs)=some (Fp (o+off) cs):=rfl
theorem Ia {o:Nat} {x:aB}:opsT d (⟨t, .fieldAddr o x,none⟩::r) K f H=dH (Ej o (ev f x)) (dK d t r K f H):=
 dS rfl (by simp) (by simp) (by
  simp only [bD,Ej]
  repeat' split
  all_goals first|rfl|simp_all)
theorem Ib {n:Option Nat} {o:Nat} {x:aB}:opsT d (⟨t, .field n o x,none⟩::r) K f H=dH (Ic n o (ev f x)) (dK d t r K f H):=
 dS rfl (by simp) (by simp) (by simp only [bD];cases ev f x<;>rfl)
theorem Ie {l e:Nat} {n:Option Nat} {x i:aB}:opsT d (⟨t, .index l e n x i,none⟩::r) K f H=dH (uN l e n (ev f x) (ev f i)) (dK d t r K f H):=
 dS rfl (by simp) (by simp) (by
  simp only [bD]
  generalize ev f x=vx
  generalize ev f i=vi
  cases vx<;>cases vi<;>try rfl
  simp only [intOf,uN]
  split<;>rfl)
def Em:Value→Value→Option Value
 | .string s, .int _ i=>if 0≤i then (s[i.toNat]?).map fun b=> .int .u8 b.toNat else none
 | _,_=>none
theorem Qj {x i:aB}:opsT d (⟨t, .indexStr x i,none⟩::r) K f H=dH (Em (ev f x) (ev f i)) (dK d t r K f H):=
 dS rfl (by simp) (by simp) (by
  simp only [bD]
  generalize ev f x=vx
  generalize ev f i=vi
  cases vx<;>cases vi<;>try rfl
  simp only [intOf,Em]
  split
  ·rw [Option.map_map];rfl
  ·rfl)
def En:Value→Option Value
 | .pointer (some ⟨b,o,none⟩)=>some (P b o)
 | .iface o (.tuple ⟨cs⟩)=>some (Fp o cs)
 | _=>none
theorem Qk {b o:Nat}:En (P b o)=some (P b o):=rfl
theorem Ql {o:Nat} {cs:List Value}:En (Fp o cs)=some (Fp o cs):=rfl
theorem Ig {x:aB}:opsT d (⟨t, .nilCheck x,none⟩::r) K f H=dH (En (ev f x)) (dK d t r K f H):=
 dS rfl (by simp) (by simp) (by
  simp only [bD,En]
  repeat' split
  all_goals first|rfl|simp_all)
theorem Qm {g:Nat} {cs:List aB}:opsT d (⟨t, .makeFunc g cs,none⟩::r) K f H=opsT (dn d) r K (dF f t (.func (.func g) #[] ⟨cs.map (ev f)⟩)) H:=by
 rw [kS rfl (by simp) (by simp)];rfl
def kV (len:Nat) (lo hi:Option Value):Option (Nat×Nat):=gG (fun| .c v=>v| _=>undef) len (lo.map .c) (hi.map .c)
theorem Ih {len:Nat} {lo hi:Option aB}:kV len (lo.map (ev f)) (hi.map (ev f))=gG (ev f) len lo hi:=by cases lo<;>cases hi<;>rfl
theorem Ii {len:Nat} {k:IntKind} {h:Int} (hh:0≤h∧h≤len):kV len none (some (.int k h))=some (0,h.toNat):=by
 simp only [kV,Option.map_none,Option.map_some,gG,intOf]
 rw [if_pos (by omega)];rfl
theorem Qn {len:Nat} {k:IntKind} {l:Int} (hh:0≤l∧l≤len):kV len (some (.int k l)) none=some (l.toNat,len):=by
 simp only [kV,Option.map_none,Option.map_some,gG,intOf]
 rw [if_pos (by omega)];simp
theorem Qo {len:Nat} {k k':IntKind} {l h:Int} (hh:0≤l∧l≤h∧h≤len):kV len (some (.int k l)) (some (.int k' h))=some (l.toNat,h.toNat):=by
 simp only [kV,Option.map_some,gG,intOf]
 rw [if_pos (by omega)]
theorem aeg {len:Nat}:kV len none none=some (0,len):=by
 simp [kV,gG]
def wo (e:Nat) (x:Value) (lo hi:Option Value):Option Value:=
 match x with
 | .slice (some ⟨b,o,none⟩) len e'=>if e'=e then (kV len lo hi).map fun (l,h)=>S b (o+l*e) (h-l) e else none
 | .slice none 0 0=>(kV 0 lo hi).map fun _=> .slice none 0 0
 | .iface len (.iface e' (.tuple ⟨cs⟩))=>if e'=e then (kV len lo hi).map fun (l,h)=>Fz (h-l) e ((cs.drop (l*e)).take ((h-l)*e)) else none
 | _=>none
theorem aeh {e b o len l h:Nat} {lo hi:Option Value} (hc:kV len lo hi=some (l,h)):wo e (S b o len e) lo hi=some (S b (o+l*e) (h-l) e):=by simp [wo,hc]
theorem aiL {e len l h:Nat} {cs:List Value} {lo hi:Option Value} (hc:kV len lo hi=some (l,h)):wo e (Fz len e cs) lo hi=some (Fz (h-l) e ((cs.drop (l*e)).take ((h-l)*e))):=by simp [wo,Fz,hc]
theorem zL {e:Nat} {x:aB} {lo hi:Option aB}:opsT d (⟨t, .slice e x lo hi,none⟩::r) K f H=dH (wo e (ev f x) (lo.map (ev f)) (hi.map (ev f))) (dK d t r K f H):=
 dS rfl (by simp) (by simp) (by
  simp only [bD,wo,Ih]
  generalize ev f x=vx
  cases vx<;>try rfl
  case slice a n e'=>
   cases a with
   |none=>
    cases n<;>cases e'<;>try rfl
    simp only
    rw [Option.map_map];rfl
   |some a=>
    obtain ⟨b,o,sp⟩:=a
    cases sp<;>try rfl
    simp only
    split
    ·rw [Option.map_map];rfl
    ·rfl
  case iface l w=>
   cases w<;>try rfl
   rename_i l w
   cases w<;>try rfl
   simp only
   split
   ·rw [Option.map_map];rfl
   ·rfl)
def Qp (x:Value) (lo hi:Option Value):Option Value:=
 match x with
 | .string s=>(kV s.size lo hi).map fun (l,h)=> .string (s.extract l h)
 | _=>none
theorem Qq {x:aB} {lo hi:Option aB}:opsT d (⟨t, .wY x lo hi,none⟩::r) K f H=dH (Qp (ev f x) (lo.map (ev f)) (hi.map (ev f))) (dK d t r K f H):=
 dS rfl (by simp) (by simp) (by
  simp only [bD,Qp,Ih]
  generalize ev f x=vx
  cases vx<;>try rfl
  simp only
  rw [Option.map_map];rfl)
def Ij (len e:Nat) (H:BH) (x:Value) (lo hi:Option Value):Option Value:=
 match x with
 | .pointer (some ⟨b,o,none⟩)=>(match blk H b with|some cs=>if o+len*e≤cs.length then (kV len lo hi).map fun (l,h)=>S b (o+l*e) (h-l) e else none|none=>none)
 | _=>none
theorem Qr {len e:Nat} {x:aB} {lo hi:Option aB}:opsT d (⟨t, .rQ len e x lo hi,none⟩::r) K f H=dH (Ij len e H (ev f x) (lo.map (ev f)) (hi.map (ev f))) (dK d t r K f H):=
 dS rfl (by simp) (by simp) (by
  simp only [bD,Ij,Ih]
  generalize ev f x=vx
  cases vx<;>try rfl
  case pointer a=>
   cases a<;>try rfl
   rename_i a
   obtain ⟨b,o,sp⟩:=a
   cases sp<;>try rfl
   simp only
   cases blk H b with
   |none=>rfl
   |some cs=>
    simp only
    split
    ·rw [Option.map_map];rfl
    ·rfl)
end
section
variable {H:BH}
theorem Qs {a:Option (List Value)} {l:BH}:blk (a::l) 0=a:=rfl
theorem Qu {a b:Option (List Value)} {l:BH}:blk (a::b::l) 1=b:=rfl
theorem Qv {a b c:Option (List Value)} {l:BH}:blk (a::b::c::l) 2=c:=rfl
theorem Qw {a b c e:Option (List Value)} {l:BH}:blk (a::b::c::e::l) 3=e:=rfl
theorem Qx {a b c e g:Option (List Value)} {l:BH}:blk (a::b::c::e::g::l) 4=g:=rfl
theorem Qy {a b c e g h:Option (List Value)} {l:BH}:blk (a::b::c::e::g::h::l) 5=h:=rfl
theorem Qz {a b c e g h i:Option (List Value)} {l:BH}:blk (a::b::c::e::g::h::i::l) 6=i:=rfl
theorem QA {a b c e g h i j:Option (List Value)} {l:BH}:blk (a::b::c::e::g::h::i::j::l) 7=j:=rfl
theorem QB {x0 x1 x2 x3 x4 x5 x6 x7 x8:Option (List Value)} {l:BH}:blk (x0::x1::x2::x3::x4::x5::x6::x7::x8::l) 8=x8:=rfl
theorem QC {x0 x1 x2 x3 x4 x5 x6 x7 x8 x9:Option (List Value)} {l:BH}:blk (x0::x1::x2::x3::x4::x5::x6::x7::x8::x9::l) 9=x9:=rfl
theorem QD {x0 x1 x2 x3 x4 x5 x6 x7 x8 x9 x10:Option (List Value)} {l:BH}:blk (x0::x1::x2::x3::x4::x5::x6::x7::x8::x9::x10::l) 10=x10:=rfl
theorem QE {x0 x1 x2 x3 x4 x5 x6 x7 x8 x9 x10 x11:Option (List Value)} {l:BH}:blk (x0::x1::x2::x3::x4::x5::x6::x7::x8::x9::x10::x11::l) 11=x11:=rfl
theorem QF {x0 x1 x2 x3 x4 x5 x6 x7 x8 x9 x10 x11 x12:Option (List Value)} {l:BH}:blk (x0::x1::x2::x3::x4::x5::x6::x7::x8::x9::x10::x11::x12::l) 12=x12:=rfl
theorem QG {x0 x1 x2 x3 x4 x5 x6 x7 x8 x9 x10 x11 x12 QH:Option (List Value)} {l:BH}:blk (x0::x1::x2::x3::x4::x5::x6::x7::x8::x9::x10::x11::x12::QH::l) 13=QH:=rfl
theorem QI {xs:List Int} {rest:List Value} {k:Nat} (h:k<xs.length):aY none (xs.map I++rest) k=some (I (el xs k)):=by
 simp [aY,List.getElem?_append_left,h,el,List.getD]
theorem Eo {xs:List Int} {k:Nat} (h:k<xs.length):aY none (xs.map I) k=some (I (el xs k)):=by
 simp [aY,h,el,List.getD]
theorem Ik {p:List Nat} {k:Nat} (h:k<p.length):aY none (p.map N8) k=some (N8 (nl p k)):=by
 simp [aY,h,nl,List.getD]
def bl (p:List Bool) (i:Nat):Bool:=p.getD i false
theorem QJ {p:List Bool} {k:Nat} (h:k<p.length):aY none (p.map B) k=some (.bool (bl p k)):=by
 simp [aY,h,bl,List.getD]
theorem rX {n o:Nat} {cs:List Value} (h:o+n≤cs.length):aY (some n) cs o=some (bJ ((cs.drop o).take n)):=by simp [aY,h]
theorem Ep {α:Type} {g:α→Value} {xs:List α} {k:Nat} {y:α} (h:k<xs.length):splice (xs.map g) k [g y]=(xs.set k y).map g:=by
 simp only [splice,List.length_singleton]
 rw [List.set_eq_take_append_cons_drop]
 simp [h,List.map_take,List.map_drop]
theorem aei {xs:List Int} {k:Nat} {y:Int} (h:k<xs.length):splice (xs.map I) k [I y]=(xs.set k y).map I:=Ep h
theorem QK {xs:List Nat} {k y:Nat} (h:k<xs.length):splice (xs.map N8) k [N8 y]=(xs.set k y).map N8:=Ep h
theorem QL {xs:List Bool} {k:Nat} {y:Bool} (h:k<xs.length):splice (xs.map B) k [.bool y]=(xs.set k y).map B:=Ep h
theorem Es {cs:List Value} {b o:Nat} {v:Value} {vs:List Value} (hv:cells2 v=some vs) (h1:vs.length=1) (h2:vs.all iE=true) (h:o<cs.length):dP (some cs) H b o 1 v=some (undef,H.set b (some (splice cs o vs))):=by
 simp only [dP,hv]
 rw [if_pos ⟨h1,by omega,h2⟩]
theorem qM {cs:List Value} {b o:Nat} {k:IntKind} {n:Int} (h:o<cs.length):dP (some cs) H b o 1 (.int k n)=some (undef,H.set b (some (splice cs o [.int k n]))):=Es rfl rfl rfl h
theorem QM {cs:List Value} {b o:Nat} {t:Bool} (h:o<cs.length):dP (some cs) H b o 1 (.bool t)=some (undef,H.set b (some (splice cs o [.bool t]))):=Es rfl rfl rfl h
theorem nG {cs vs:List Value} {b o n:Nat} (h1:vs.length=n) (h2:vs.all iE=true) (h:o+n≤cs.length):dP (some cs) H b o n (bJ vs)=some (undef,H.set b (some (splice cs o vs))):=by
 simp only [dP,cells2]
 rw [if_pos ⟨h1,h,h2⟩]
theorem all_map {α:Type} {g:α→Value} {p:Value→Bool} {xs:List α} (h: ∀a,p (g a)=true):(xs.map g).all p=true:=by
 simp [List.all_map,Function.comp_def,h]
theorem mg {p:List Nat}:(p.map N8).all iE=true:=all_map fun _=>rfl
theorem QN {p:List Int}:(p.map I).all iE=true:=all_map fun _=>rfl
theorem Il {p:List Bool}:(p.map B).all iE=true:=all_map fun _=>rfl
theorem Io {n:Nat} {b:Bool}:(List.replicate n (Value.bool b)).all Am.plain=true:=by simp [List.all_replicate,Am.plain]
theorem Ip {n:Nat} {k:IntKind} {m:Int}:(List.replicate n (Value.int k m)).all Am.plain=true:=by simp [List.all_replicate,Am.plain]
theorem QO {b:Bool}:Am.plain (.bool b)=true:=rfl
theorem QS {k:IntKind} {m:Int}:Am.plain (.int k m)=true:=rfl
theorem QT {s:ByteArray}:Am.plain (.string s)=true:=rfl
theorem QU:Am.plain (.slice none 0 0)=true:=rfl
theorem QV:Am.plain .nilFunc=true:=rfl
theorem w8 {n:Int} (h0:0≤n) (h1:n<256):IntKind.u8.wrap n=n:=by
 have hb:(2:Int)^(8:Nat)=256:=by decide
 have hb':(2:Int)^(7:Nat)=128:=by decide
 simp only [IntKind.wrap,IntKind.bits,IntKind.signed,hb,hb']
 simp only [Bool.false_and,Bool.false_eq_true,if_false]
 omega
theorem QW {len:Nat} {p:List Nat} {k:IntKind} {i:Int} (h:0≤i∧i<len) (hl:p.length=len):uN len 1 none (PL p) (.int k i)=some (N8 (nl p i.toNat)):=by
 rw [aej,if_pos h,Nat.mul_one,Ik (by omega)]
theorem xI {z:List Value}:bK z []=some z:=rfl
theorem Et {z:List Value} {o n:Nat} {v:Value} {r:List (Nat×Nat×Value)} (h:(dL v).length=n∧o+n≤z.length):bK z ((o,n,v)::r)=bK (splice z o (dL v)) r:=by
 simp only [bK];rw [if_pos h]
theorem QX {v:Value} {k0:IntKind} {n0:Int}:bK (List.replicate 1 v) [(0,1, .int k0 n0)]=some [.int k0 n0]:=rfl
theorem QY {v:Value} {k0:IntKind} {n0:Int} {k1:IntKind} {n1:Int}:bK (List.replicate 2 v) [(0,1, .int k0 n0),(1,1, .int k1 n1)]=some [.int k0 n0, .int k1 n1]:=rfl
theorem QZ {v:Value} {k0:IntKind} {n0:Int} {k1:IntKind} {n1:Int} {k2:IntKind} {n2:Int}:bK (List.replicate 3 v) [(0,1, .int k0 n0),(1,1, .int k1 n1),(2,1, .int k2 n2)]=some [.int k0 n0, .int k1 n1, .int k2 n2]:=rfl
theorem Q5 {v:Value} {k0:IntKind} {n0:Int} {k1:IntKind} {n1:Int} {k2:IntKind} {n2:Int} {k3:IntKind} {n3:Int}:bK (List.replicate 4 v) [(0,1, .int k0 n0),(1,1, .int k1 n1),(2,1, .int k2 n2),(3,1, .int k3 n3)]=some [.int k0 n0, .int k1 n1, .int k2 n2, .int k3 n3]:=rfl
theorem Q7 {v:Value} {k0:IntKind} {n0:Int} {k1:IntKind} {n1:Int} {k2:IntKind} {n2:Int} {k3:IntKind} {n3:Int} {k4:IntKind} {n4:Int}:bK (List.replicate 5 v) [(0,1, .int k0 n0),(1,1, .int k1 n1),(2,1, .int k2 n2),(3,1, .int k3 n3),(4,1, .int k4 n4)]=some [.int k0 n0, .int k1 n1, .int k2 n2, .int k3 n3, .int k4 n4]:=rfl
theorem Q8 {v:Value} {k0:IntKind} {n0:Int} {k1:IntKind} {n1:Int} {k2:IntKind} {n2:Int} {k3:IntKind} {n3:Int} {k4:IntKind} {n4:Int} {k5:IntKind} {n5:Int}:bK (List.replicate 6 v) [(0,1, .int k0 n0),(1,1, .int k1 n1),(2,1, .int k2 n2),(3,1, .int k3 n3),(4,1, .int k4 n4),(5,1, .int k5 n5)]=some [.int k0 n0, .int k1 n1, .int k2 n2, .int k3 n3, .int k4 n4, .int k5 n5]:=rfl
theorem Q9 {v:Value} {k0:IntKind} {n0:Int} {k1:IntKind} {n1:Int} {k2:IntKind} {n2:Int} {k3:IntKind} {n3:Int} {k4:IntKind} {n4:Int} {k5:IntKind} {n5:Int} {k6:IntKind} {n6:Int}:bK (List.replicate 7 v) [(0,1, .int k0 n0),(1,1, .int k1 n1),(2,1, .int k2 n2),(3,1, .int k3 n3),(4,1, .int k4 n4),(5,1, .int k5 n5),(6,1, .int k6 n6)]=some [.int k0 n0, .int k1 n1, .int k2 n2, .int k3 n3, .int k4 n4, .int k5 n5, .int k6 n6]:=rfl
theorem Rf {v:Value} {l0 e0:Nat} {c0:List Value}:bK (List.replicate 1 v) [(0,1,Fz l0 e0 c0)]=some [Fz l0 e0 c0]:=rfl
theorem Rh {v:Value} {l0 e0:Nat} {c0:List Value} {l1 e1:Nat} {c1:List Value}:bK (List.replicate 2 v) [(0,1,Fz l0 e0 c0),(1,1,Fz l1 e1 c1)]=some [Fz l0 e0 c0,Fz l1 e1 c1]:=rfl
theorem Ri {v:Value} {l0 e0:Nat} {c0:List Value} {l1 e1:Nat} {c1:List Value} {l2 e2:Nat} {c2:List Value}:bK (List.replicate 3 v) [(0,1,Fz l0 e0 c0),(1,1,Fz l1 e1 c1),(2,1,Fz l2 e2 c2)]=some [Fz l0 e0 c0,Fz l1 e1 c1,Fz l2 e2 c2]:=rfl
theorem Rj {v:Value} {s0:ByteArray}:bK (List.replicate 1 v) [(0,1, .string s0)]=some [.string s0]:=rfl
theorem Rk {v:Value} {s0:ByteArray} {s1:ByteArray}:bK (List.replicate 2 v) [(0,1, .string s0),(1,1, .string s1)]=some [.string s0, .string s1]:=rfl
theorem Rl {v:Value} {s0:ByteArray} {s1:ByteArray} {s2:ByteArray}:bK (List.replicate 3 v) [(0,1, .string s0),(1,1, .string s1),(2,1, .string s2)]=some [.string s0, .string s1, .string s2]:=rfl
theorem Rn {v:Value} {a0:Option Addr} {l0 e0:Nat}:bK (List.replicate 1 v) [(0,1, .slice a0 l0 e0)]=some [.slice a0 l0 e0]:=rfl
theorem Ro {v:Value} {a0:Option Addr} {l0 e0:Nat} {a1:Option Addr} {l1 e1:Nat}:bK (List.replicate 2 v) [(0,1, .slice a0 l0 e0),(1,1, .slice a1 l1 e1)]=some [.slice a0 l0 e0, .slice a1 l1 e1]:=rfl
theorem Rq {v:Value} {a0:Option Addr} {l0 e0:Nat} {a1:Option Addr} {l1 e1:Nat} {a2:Option Addr} {l2 e2:Nat}:bK (List.replicate 3 v) [(0,1, .slice a0 l0 e0),(1,1, .slice a1 l1 e1),(2,1, .slice a2 l2 e2)]=some [.slice a0 l0 e0, .slice a1 l1 e1, .slice a2 l2 e2]:=rfl
theorem Rt {v:Value} {b0:Bool}:bK (List.replicate 1 v) [(0,1, .bool b0)]=some [.bool b0]:=rfl
theorem Ru {v:Value} {b0:Bool} {b1:Bool}:bK (List.replicate 2 v) [(0,1, .bool b0),(1,1, .bool b1)]=some [.bool b0, .bool b1]:=rfl
theorem Rw {v:Value} {b0:Bool} {b1:Bool} {b2:Bool}:bK (List.replicate 3 v) [(0,1, .bool b0),(1,1, .bool b1),(2,1, .bool b2)]=some [.bool b0, .bool b1, .bool b2]:=rfl
theorem Rx {v:Value} {n:Nat}:dA [v] n=List.replicate n v:=KU v n
theorem xJ {a b:Value} {l:List Value}:splice (a::l) 0 [b]=b::l:=rfl
theorem Ry {a b:Value} {l:List Value} {n:Nat}:splice (a::l) (n+1) [b]=a::splice l n [b]:=rfl
theorem uO {cs vs:List Value} (h:vs.length=cs.length):splice cs 0 vs=vs:=by
 simp [splice,h]
theorem Eu {k:IntKind} {n:Int}:dL (.int k n)=[.int k n]:=rfl
theorem Rz {b:Bool}:dL (.bool b)=[.bool b]:=rfl
theorem RG {b:ByteArray}:dL (.string b)=[.string b]:=rfl
theorem RI {l e:Nat} {cs:List Value}:dL (Fz l e cs)=[Fz l e cs]:=rfl
theorem Ew {cs:List Value}:dL (bJ cs)=cs:=rfl
theorem RJ {a:Option Addr} {l e:Nat}:dL (.slice a l e)=[.slice a l e]:=rfl
theorem RP {k:IntKind} {n:Int}:nj (.int k n)=true:=rfl
theorem RQ {b:Bool}:nj (.bool b)=true:=rfl
theorem RS {b:ByteArray}:nj (.string b)=true:=rfl
theorem RU {l e:Nat} {cs:List Value}:nj (Fz l e cs)=true:=rfl
theorem RX {cs:List Value}:nj (bJ cs)=true:=rfl
theorem RY {a:Option Addr} {l e:Nat}:nj (.slice a l e)=true:=rfl
theorem Si {cs:List Value} {b o n:Nat} {c:Bool} (h:o+n≤cs.length):dP (some cs) H b o n (bJ (List.replicate n (.bool c)))=some (undef,H.set b (some (splice cs o (List.replicate n (.bool c))))):=nG (by simp) (by simp [iE]) h
theorem Sj {cs:List Value} {b o n:Nat} {k:IntKind} {c:Int} (h:o+n≤cs.length):dP (some cs) H b o n (bJ (List.replicate n (.int k c)))=some (undef,H.set b (some (splice cs o (List.replicate n (.int k c))))):=nG (by simp) (by simp [iE]) h
theorem Ey {cs:List Value} {b o n:Nat} {p:List Nat} (hp:p.length=n) (h:o+n≤cs.length):dP (some cs) H b o n (bJ (p.map N8))=some (undef,H.set b (some (splice cs o (p.map N8)))):=nG (by simpa using hp) mg h
theorem Sm {cs:List Value} {b o n:Nat} {p:List Int} (hp:p.length=n) (h:o+n≤cs.length):dP (some cs) H b o n (bJ (p.map I))=some (undef,H.set b (some (splice cs o (p.map I)))):=nG (by simpa using hp) QN h
theorem Sr {cs:List Value} {b o n:Nat} {p:List Bool} (hp:p.length=n) (h:o+n≤cs.length):dP (some cs) H b o n (bJ (p.map B))=some (undef,H.set b (some (splice cs o (p.map B)))):=nG (by simpa using hp) Il h
theorem Sv {n:Nat} {p:List Nat} (hp:p.length=n):aY (some n) (p.map N8) 0=some (PL p):=by
 rw [rX (by simp [hp]),List.drop_zero,List.take_of_length_le (by simp [hp])]
theorem Sz {n:Nat} {p:List Bool} (hp:p.length=n):aY (some n) (p.map B) 0=some (bJ (p.map B)):=by
 rw [rX (by simp [hp]),List.drop_zero,List.take_of_length_le (by simp [hp])]
theorem SA {n:Nat} {p:List Int} (hp:p.length=n):aY (some n) (p.map I) 0=some (bJ (p.map I)):=by
 rw [rX (by simp [hp]),List.drop_zero,List.take_of_length_le (by simp [hp])]
theorem SB {s:List Bool} {b o:Nat} {c:Bool} (h:o<s.length):dP (some (s.map B)) H b o 1 (.bool c)=some (undef,H.set b (some ((s.set o c).map B))):=by
 rw [QM (by simpa using h),QL h]
theorem SE {s:List Nat} {b o c:Nat} (h:o<s.length):dP (some (s.map N8)) H b o 1 (.int .u8 (c:Int))=some (undef,H.set b (some ((s.set o c).map N8))):=by
 rw [qM (by simpa using h),QK h]
theorem SG {s:List Int} {b o:Nat} {c:Int} (h:o<s.length):dP (some (s.map I)) H b o 1 (.int .i64 c)=some (undef,H.set b (some ((s.set o c).map I))):=by
 rw [qM (by simpa using h),aei h]
theorem wu {v:Value} {b n:Nat} {vs:List Value} (hp:vs.length=n) (h1:vs.all iE=true):dP (some (List.replicate n v)) H b 0 n (bJ vs)=some (undef,H.set b (some vs)):=by
 rw [nG hp h1 (by simp),uO (by simpa using hp)]
theorem SH {v:Value} {b n:Nat} {p:List Nat} (hp:p.length=n):dP (some (List.replicate n v)) H b 0 n (bJ (p.map N8))=some (undef,H.set b (some (p.map N8))):=wu (by simpa using hp) mg
theorem SI {v:Value} {b n:Nat} {p:List Int} (hp:p.length=n):dP (some (List.replicate n v)) H b 0 n (bJ (p.map I))=some (undef,H.set b (some (p.map I))):=wu (by simpa using hp) QN
theorem SK {v:Value} {b n:Nat} {p:List Bool} (hp:p.length=n):dP (some (List.replicate n v)) H b 0 n (bJ (p.map B))=some (undef,H.set b (some (p.map B))):=wu (by simpa using hp) Il
theorem SL {v:Value} {b n:Nat} {c:Bool}:dP (some (List.replicate n v)) H b 0 n (bJ (List.replicate n (.bool c)))=some (undef,H.set b (some (List.replicate n (.bool c)))):=wu (by simp) (by simp [iE])
theorem Iq {v:Value} {b n:Nat} {k:IntKind} {c:Int}:dP (some (List.replicate n v)) H b 0 n (bJ (List.replicate n (.int k c)))=some (undef,H.set b (some (List.replicate n (.int k c)))):=wu (by simp) (by simp [iE])
theorem SN {n:Nat} {c:Bool} (h:0<n):bK (List.replicate n (.bool false)) [(0,1, .bool c)]=some (((List.replicate n false).set 0 c).map B):=by
 simp only [bK,dL,List.length_singleton,List.length_replicate]
 rw [if_pos ⟨trivial,by omega⟩,show List.replicate n (Value.bool false)=(List.replicate n false).map B by simp,QL (by simpa using h)]
theorem aek {n:Nat} {c:Nat} (h:0<n):bK (List.replicate n (.int .u8 0)) [(0,1, .int .u8 (c:Int))]=some (((List.replicate n 0).set 0 c).map N8):=by
 simp only [bK,dL,List.length_singleton,List.length_replicate]
 rw [if_pos ⟨trivial,by omega⟩,show List.replicate n (Value.int .u8 0)=(List.replicate n 0).map N8 by simp,QK (by simpa using h)]
theorem SQ {n:Nat} (h:0<n):bK (List.replicate n (.int .u8 0)) [(0,1, .int .u8 1)]=some (((List.replicate n 0).set 0 1).map N8):=aek (c:=1) h
theorem SS {v:Value} {b n:Nat} {c:Bool}:dP (some (List.replicate n v)) H b 0 n (bJ (((List.replicate n false).set 0 c).map B))=some (undef,H.set b (some (((List.replicate n false).set 0 c).map B))):=wu (by simp) Il
theorem SV {v:Value} {b n c:Nat}:dP (some (List.replicate n v)) H b 0 n (bJ (((List.replicate n 0).set 0 c).map N8))=some (undef,H.set b (some (((List.replicate n 0).set 0 c).map N8))):=wu (by simp) mg
theorem SX {n:Nat} {b:Bool}:List.replicate n (Value.bool b)=(List.replicate n b).map B:=by simp
theorem aiM {n m:Nat}:List.replicate n (Value.int .u8 (m:Int))=(List.replicate n m).map N8:=by simp
theorem aiN {n:Nat} {m:Int}:List.replicate n (Value.int .i64 m)=(List.replicate n m).map I:=by simp
end
def app1 (y:Option (List Value)) (c:Option (List Value)) (H:BH) (b l bytes cn:Nat):Option (Value×BH):=
 match c,y with
 |some cs,some [v]=>if l≤cs.length∧(l+1)*bytes≤140737488355328∧iE v=true then some (S H.length 0 (l+1) 1,(H.set b none)++[some (cs.take l++[v])]) else none
 | _,_=>kH 1 bytes (S b 0 l 1) (S cn 0 1 1) H
theorem SY {H:BH} {b c l bytes:Nat}:kH 1 bytes (S b 0 l 1) (S c 0 1 1) H=app1 (blk H c) (blk H b) H b l bytes c:=by
 unfold app1
 split
 ·rename_i cs v hb hc
  simp [kH,newC,hb,hc]
 ·rfl
section
variable {H:BH} {b bytes cn:Nat}
theorem Aq {α:Type} {g:α→Value} {xs:List α} {y:α} (ho:iE (g y)=true) (h:(xs.length+1)*bytes≤140737488355328):app1 (some [g y]) (some (xs.map g)) H b xs.length bytes cn=some (S H.length 0 (xs.length+1) 1,(H.set b none)++[some ((xs++[y]).map g)]):=by
 simp only [app1]
 rw [if_pos ⟨by simp,h,ho⟩]
 simp [List.take_of_length_le]
theorem S9 {xs:List Nat} {y:Nat} (h:(xs.length+1)*bytes≤140737488355328):app1 (some [.int .u8 (y:Int)]) (some (xs.map N8)) H b xs.length bytes cn=some (S H.length 0 (xs.length+1) 1,(H.set b none)++[some ((xs++[y]).map N8)]):=Aq (g:=N8) rfl h
theorem Tc {xs:List Int} {y:Int} (h:(xs.length+1)*bytes≤140737488355328):app1 (some [.int .i64 y]) (some (xs.map I)) H b xs.length bytes cn=some (S H.length 0 (xs.length+1) 1,(H.set b none)++[some ((xs++[y]).map I)]):=Aq (g:=I) rfl h
theorem Td {xs:List (List Int)} {y:List Int} (h:(xs.length+1)*bytes≤140737488355328):app1 (some [Fz y.length 1 (y.map I)]) (some (xs.map FI)) H b xs.length bytes cn=some (S H.length 0 (xs.length+1) 1,(H.set b none)++[some ((xs++[y]).map FI)]):=Aq (g:=FI) rfl h
theorem aiO {v:Value} (ho:iE v=true) (h:bytes≤140737488355328):app1 (some [v]) (some []) H b 0 bytes cn=some (S H.length 0 1 1,(H.set b none)++[some [v]]):=by
 simp only [app1]
 rw [if_pos ⟨by simp,by omega,ho⟩];rfl
end
theorem Ir {α:Type} {g:α→Value} {ns:List Nat} {xs:List α} (h: ∀a,pl1 (g a)=true):ren ns (bJ (xs.map g))=bJ (xs.map g):=by
 simp only [ren]
 rw [if_pos (all_map h)]
theorem Tf {ns:List Nat} {p:List Nat}:ren ns (PL p)=PL p:=Ir fun _=>rfl
theorem Ti {ns:List Nat} {p:List Bool}:ren ns (bJ (p.map B))=bJ (p.map B):=Ir fun _=>rfl
theorem Tj {ns:List Nat} {p:List Int}:ren ns (bJ (p.map I))=bJ (p.map I):=Ir fun _=>rfl
theorem aS {k:Nat} {rs:List nR} {K:Value→BH→Prop} {f:Fr} {H:BH} {vs:List Value} {v1:Value} {H1:BH} (h:aG f H rs=some vs) (g:aC k (aH vs) H v1 H1) (hK:K v1 H1):pU k rs K .ret f H:=⟨vs,h,v1,H1,g,hK⟩
theorem aiP {k:Nat} {rs:List nR} {K:Value→BH→Prop} {f:Fr} {H:BH} {vs:List Value} {v1:Value} {H1:BH} (h:aG f H rs=some vs) (g:aC k (aH vs) H v1 H1) (hK:K v1 H1):pU k rs K .normal f H:=⟨vs,h,v1,H1,g,hK⟩
theorem aX {k:Nat} {Q:Ex→Fr→BH→Prop} {f:Fr} {H:BH} {c:aB} {a b r:aj} {p:Prop} {t:Bool} (hc:ev f c= .bool t) (hp:t=true↔p) (h1:p→T k (.seq a r) Q f H) (h2: ¬p→T k (.seq b r) Q f H):T k (.seq (.cond c a b) r) Q f H:=by
 refine dG hc ?_
 cases t
 ·exact h2 fun h=>by simpa using hp.2 h
 ·exact h1 (hp.1 rfl)
theorem qN {k:Nat} {Q:Ex→Fr→BH→Prop} {f:Fr} {H:BH} {c:aB} {a b:aj} {p:Prop} {t:Bool} (hc:ev f c= .bool t) (hp:t=true↔p) (h1:p→T k a Q f H) (h2: ¬p→T k b Q f H):T k (.cond c a b) Q f H:=by
 refine lW hc ?_
 cases t
 ·exact h2 fun h=>by simpa using hp.2 h
 ·exact h1 (hp.1 rfl)
def Tm:aj→Option Ex
 | .exit i=>some (.exit i)
 | .ret=>some .ret
 | .skip=>some .normal
 | _=>none
theorem ah {k:Nat} {Q:Ex→Fr→BH→Prop} {f:Fr} {H:BH} {c:aj} {ex:Ex} (h:Tm c=some ex) (hq:Q ex f H):T k c Q f H:=by
 cases c<;>simp only [Tm,Option.some.injEq,reduceCtorEq] at h<;>subst h
 ·exact vM hq
 ·exact LV hq
 ·exact Gy hq
def Ar:List Nat→Bool
 |[]=>true
 |a::l=> !l.contains a&&Ar l
theorem Iu: ∀{l:List Nat},Ar l=true→l.Nodup
 |[],_=>List.nodup_nil
 |a::l,h=>by
  simp only [Ar,Bool.and_eq_true,Bool.not_eq_true',List.contains_eq_mem,decide_eq_false_iff_not] at h
  exact List.nodup_cons.2 ⟨h.1,Iu h.2⟩
def xK:Nat→Nat→List Nat→Bool
 | _,0,_=>true
 |j,k+1,a::ns=>Nat.beq a j&&xK (j+1) k ns
 | _,_+1,[]=>false
theorem Iw: ∀{j k:Nat} {ns:List Nat},xK j k ns=true→ ∀i,i<k→ns[i]? =some (j+i)
 | _,0,_,_,i,hi=>absurd hi (Nat.not_lt_zero i)
 |j,k+1,[],h,_,_=>by simp [xK] at h
 |j,k+1,a::ns,h,i,hi=>by
  simp only [xK,Bool.and_eq_true] at h
  cases i with
  |zero=>simp [Nat.eq_of_beq_eq_true h.1]
  |succ i=>
   rw [List.getElem?_cons_succ,Iw h.2 i (by omega)]
   simp
   omega
theorem Gh.nrm {k:Nat} {f:Fr} {H:BH} (ns:List Nat) (h1:Ar ns=true) (h2:xK 0 k ns=true) (hn:HN H):Gh k f H (fun t=>ren ns (f t)) (ns.map (blk H)):=
 Gh.norm ns (Iu h1) (fun j hj=>by rw [Iw h2 j hj,Nat.zero_add]) hn
theorem aC.nrm {k:Nat} {v:Value} {H:BH} (ns:List Nat) (h1:Ar ns=true) (h2:xK 0 k ns=true) (hn:HN H) (hv:NN v):aC k v H v (ns.map (blk H)):=
 aC.norm ns (Iu h1) (fun j hj=>by rw [Iw h2 j hj,Nat.zero_add]) hn hv
theorem Tn:aW []=True:=eq_true aW.nil
theorem Tq {c:Value} {cs:List Value}:aW (c::cs)=(NN c∧aW cs):=propext ⟨fun h=>⟨h c (by simp),fun x hx=>h x (by simp [hx])⟩,fun h=>aW.cons h.1 h.2⟩
theorem Tt:HN []=True:=eq_true HN.nil
theorem Tv {H:BH}:HN (none::H)=HN H:=propext ⟨fun h i cs hc=>h (i+1) cs (by simpa [blk] using hc),HN.none⟩
theorem Tz {H:BH} {c:List Value}:HN (some c::H)=(aW c∧HN H):=propext ⟨fun h=>⟨h 0 c rfl,fun i cs hc=>h (i+1) cs (by simpa [blk] using hc)⟩,fun h=>HN.cons h.1 h.2⟩
theorem kM {cs:List Value} (h:aW cs):NN (.agg ⟨cs⟩):=NN.agg h
theorem Iy {cs:List Value} (h:aW cs):NN (.tuple ⟨cs⟩):=NN.tuple h
theorem TA {m:Nat} {cs:List Value} (h:aW cs):NN (.func (.func m) #[] ⟨cs⟩):=NN.func h
theorem TB {as bs:List Value} (h:aW as) (k:aW bs):aW (as++bs):=aW.append h k
theorem TD {n:Nat} {v:Value} (h:NN v):aW (List.replicate n v):=aW.replicate h
theorem TF {p:List Nat}:aW (p.map N8):=aW.map fun _=>NN.int
theorem TG {p:List Int}:aW (p.map I):=aW.map fun _=>NN.int
theorem TI {p:List Bool}:aW (p.map B):=aW.map fun _=>NN.bool
theorem TJ {p:List (List Int)}:aW (p.map FI):=aW.map fun _=>NN.fz
theorem TK {k:IntKind} {α:Type} {g:α→Int} {p:List α}:aW (p.map fun x=>Value.int k (g x)):=aW.map fun _=>NN.int
theorem TL {α:Type} {g:α→ByteArray} {p:List α}:aW (p.map fun x=>Value.string (g x)):=aW.map fun _=>NN.string
theorem RF:(type_of% @DR)∧(type_of% @BZ)∧(type_of% @Cb)∧(type_of% @Cc)∧(type_of% @Ce)∧(type_of% @BX):=⟨@DR, @BZ, @Cb, @Cc, @Ce, @BX⟩
theorem RO:(type_of% @zf)∧(type_of% @zh)∧(type_of% @zi)∧(type_of% @zk)∧(type_of% @PE)∧(type_of% @Pj)∧(type_of% @HY)∧(type_of% @Pm)∧(type_of% @Pn)∧(type_of% @Po)∧(type_of% @Pq)∧(type_of% @Pv)∧(type_of% @Px)∧(type_of% @Py)∧(type_of% @Pz)∧(type_of% @PD)∧(type_of% @Bool.true_and)∧(type_of% @Bool.and_true)∧(type_of% @Bool.not_false)∧(type_of% @Bool.and_self)∧(type_of% @zl)∧(type_of% @zo)∧(type_of% @zq)∧(type_of% @zu)∧(type_of% @OX)∧(type_of% @zy)∧(type_of% @zA)∧(type_of% @zB)∧(type_of% @zC)∧(type_of% @OY)∧(type_of% @zI)∧(type_of% @zD)∧(type_of% @O8)∧(type_of% @Ho)∧(type_of% @zF)∧(type_of% @zG)∧(type_of% @zH)∧(type_of% @zJ)∧(type_of% @Ht)∧(type_of% @zK)∧(type_of% @H7)∧(type_of% @H8)∧(type_of% @H9)∧(type_of% @zM)∧(type_of% @zN)∧(type_of% @Ia)∧(type_of% @Ib)∧(type_of% @Ie)∧(type_of% @Qj)∧(type_of% @Ig)∧(type_of% @Qm)∧(type_of% @zL)∧(type_of% @Qq)∧(type_of% @Qr)∧(type_of% @yY)∧(type_of% @yZ)∧(type_of% @OG)∧(type_of% @CQ)∧(type_of% @CS)∧(type_of% @CV)∧(type_of% @CW)∧(type_of% @y5)∧(type_of% @OH)∧(type_of% @OI)∧(type_of% @OJ)∧(type_of% @OL)∧(type_of% @OM)∧(type_of% @OO)∧(type_of% @y7)∧(type_of% @CX)∧(type_of% @CY)∧(type_of% @OQ)∧(type_of% @OT)∧(type_of% @OU)∧(type_of% @OV)∧(type_of% @OW)∧(type_of% @CZ)∧(type_of% @C9)∧(type_of% @Dc)∧(type_of% @Df)∧(type_of% @Dh)∧(type_of% @Dj)∧(type_of% @Dk)∧(type_of% @OZ)∧(type_of% @O1)∧(type_of% @O4)∧(type_of% @O5)∧(type_of% @O7)∧(type_of% @Dl)∧(type_of% @ext1)∧(type_of% @Hy)∧(type_of% @Hz)∧(type_of% @Hw)∧(type_of% @Ph)∧(type_of% @P7)∧(type_of% @P8)∧(type_of% @P9)∧(type_of% @Qa)∧(type_of% @Qb)∧(type_of% @Qc)∧(type_of% @Qd)∧(type_of% @Qe)∧(type_of% @Qh)∧(type_of% @Qi)∧(type_of% @TM)∧(type_of% @Qk)∧(type_of% @Ql)∧(type_of% @Dt)∧(type_of% @Du)∧(type_of% @Dv)∧(type_of% @Dw)∧(type_of% @Dx)∧(type_of% @Dy)∧(type_of% @Dz)∧(type_of% @DF)∧(type_of% @DI)∧(type_of% @DJ)∧(type_of% @DK)∧(type_of% @DL)∧(type_of% @DN)∧(type_of% @LH)∧(type_of% @LJ)∧(type_of% @LK)∧(type_of% @LM)∧(type_of% @Qs)∧(type_of% @Qu)∧(type_of% @Qv)∧(type_of% @Qw)∧(type_of% @Qx)∧(type_of% @Qy)∧(type_of% @Qz)∧(type_of% @QA)∧(type_of% @QB)∧(type_of% @QC)∧(type_of% @QD)∧(type_of% @QE)∧(type_of% @QF)∧(type_of% @QG)∧(type_of% @SY)∧(type_of% @Io)∧(type_of% @Ip)∧(type_of% @QO)∧(type_of% @QS)∧(type_of% @QT)∧(type_of% @QU)∧(type_of% @QV)∧(type_of% @xI)∧(type_of% @Rx)∧(type_of% @QX)∧(type_of% @QY)∧(type_of% @QZ)∧(type_of% @Q5)∧(type_of% @Q7)∧(type_of% @Q8)∧(type_of% @Q9)∧(type_of% @Rf)∧(type_of% @Rh)∧(type_of% @Ri)∧(type_of% @Rj)∧(type_of% @Rk)∧(type_of% @Rl)∧(type_of% @Rn)∧(type_of% @Ro)∧(type_of% @Rq)∧(type_of% @Rt)∧(type_of% @Ru)∧(type_of% @Rw)∧(type_of% @Eu)∧(type_of% @Rz)∧(type_of% @RG)∧(type_of% @RI)∧(type_of% @Ew)∧(type_of% @RJ)∧(type_of% @RP)∧(type_of% @RQ)∧(type_of% @RS)∧(type_of% @RU)∧(type_of% @RX)∧(type_of% @RY)∧(type_of% @xJ)∧(type_of% @Ry)∧(type_of% @List.replicate_zero.{0})∧(type_of% @id_eq.{1}):=⟨@zf, @zh, @zi, @zk, @PE, @Pj, @HY, @Pm, @Pn, @Po, @Pq, @Pv, @Px, @Py, @Pz, @PD, @Bool.true_and, @Bool.and_true, @Bool.not_false, @Bool.and_self, @zl, @zo, @zq, @zu, @OX, @zy, @zA, @zB, @zC, @OY, @zI, @zD, @O8, @Ho, @zF, @zG, @zH, @zJ, @Ht, @zK, @H7, @H8, @H9, @zM, @zN, @Ia, @Ib, @Ie, @Qj, @Ig, @Qm, @zL, @Qq, @Qr, @yY, @yZ, @OG, @CQ, @CS, @CV, @CW, @y5, @OH, @OI, @OJ, @OL, @OM, @OO, @y7, @CX, @CY, @OQ, @OT, @OU, @OV, @OW, @CZ, @C9, @Dc, @Df, @Dh, @Dj, @Dk, @OZ, @O1, @O4, @O5, @O7, @Dl, @ext1, @Hy, @Hz, @Hw, @Ph, @P7, @P8, @P9, @Qa, @Qb, @Qc, @Qd, @Qe, @Qh, @Qi, @TM, @Qk, @Ql, @Dt, @Du, @Dv, @Dw, @Dx, @Dy, @Dz, @DF, @DI, @DJ, @DK, @DL, @DN, @LH, @LJ, @LK, @LM, @Qs, @Qu, @Qv, @Qw, @Qx, @Qy, @Qz, @QA, @QB, @QC, @QD, @QE, @QF, @QG, @SY, @Io, @Ip, @QO, @QS, @QT, @QU, @QV, @xI, @Rx, @QX, @QY, @QZ, @Q5, @Q7, @Q8, @Q9, @Rf, @Rh, @Ri, @Rj, @Rk, @Rl, @Rn, @Ro, @Rq, @Rt, @Ru, @Rw, @Eu, @Rz, @RG, @RI, @Ew, @RJ, @RP, @RQ, @RS, @RU, @RX, @RY, @xJ, @Ry, @List.replicate_zero.{0}, @id_eq.{1}⟩
theorem RC:(type_of% @List.map_cons.{0,0})∧(type_of% @List.map_nil.{0,0})∧(type_of% @Option.map_some.{0,0})∧(type_of% @Option.map_none.{0,0})∧(type_of% @ge_iff_le.{0})∧(type_of% @gt_iff_lt.{0})∧(type_of% @decide_eq_true_eq)∧(type_of% @beq_self_eq_true.{0})∧(type_of% @bne_self_eq_false.{0})∧(type_of% @decide_true)∧(type_of% @decide_false)∧(type_of% @Bool.not_true)∧(type_of% @Bool.not_false)∧(type_of% @and_true)∧(type_of% @true_and)∧(type_of% @and_self)∧(type_of% @Bool.false_eq_true)∧(type_of% @beq_iff_eq.{0})∧(type_of% @Int.natCast_nonneg)∧(type_of% @Int.ofNat_lt)∧(type_of% @Int.ofNat_le)∧(type_of% @Int.ofNat_inj)∧(type_of% @Int.toNat_natCast)∧(type_of% @Nat.mul_one)∧(type_of% @Nat.one_mul)∧(type_of% @Nat.zero_add)∧(type_of% @Nat.add_zero)∧(type_of% @Nat.sub_zero)∧(type_of% @List.length_append.{0})∧(type_of% @List.length_map.{0,0})∧(type_of% @List.length_cons.{0})∧(type_of% @List.length_nil.{0})∧(type_of% @List.length_set.{0})∧(type_of% @List.length_replicate.{0})∧(type_of% @List.all_cons.{0})∧(type_of% @List.all_nil.{0})∧(type_of% @Bool.and_true)∧(type_of% @Bool.true_and)∧(type_of% @Bool.not_eq_true)∧(type_of% @beq_true)∧(type_of% @beq_false)∧(type_of% @true_implies)∧(type_of% @false_implies)∧(type_of% @decide_eq_false_iff_not)∧(type_of% @bne_iff_ne.{0})∧(type_of% @ne_eq.{1})∧(type_of% @not_true_eq_false)∧(type_of% @not_false_eq_true)∧(type_of% @Int.natCast_zero)∧(type_of% @Int.toNat_zero)∧(type_of% @List.cons_append.{0})∧(type_of% @List.nil_append.{0})∧(type_of% @List.set_cons_zero.{0})∧(type_of% @List.set_cons_succ.{0}):=⟨@List.map_cons.{0,0}, @List.map_nil.{0,0}, @Option.map_some.{0,0}, @Option.map_none.{0,0}, @ge_iff_le.{0}, @gt_iff_lt.{0}, @decide_eq_true_eq, @beq_self_eq_true.{0}, @bne_self_eq_false.{0}, @decide_true, @decide_false, @Bool.not_true, @Bool.not_false, @and_true, @true_and, @and_self, @Bool.false_eq_true, @beq_iff_eq.{0}, @Int.natCast_nonneg, @Int.ofNat_lt, @Int.ofNat_le, @Int.ofNat_inj, @Int.toNat_natCast, @Nat.mul_one, @Nat.one_mul, @Nat.zero_add, @Nat.add_zero, @Nat.sub_zero, @List.length_append.{0}, @List.length_map.{0,0}, @List.length_cons.{0}, @List.length_nil.{0}, @List.length_set.{0}, @List.length_replicate.{0}, @List.all_cons.{0}, @List.all_nil.{0}, @Bool.and_true, @Bool.true_and, @Bool.not_eq_true, @beq_true, @beq_false, @true_implies, @false_implies, @decide_eq_false_iff_not, @bne_iff_ne.{0}, @ne_eq.{1}, @not_true_eq_false, @not_false_eq_true, @Int.natCast_zero, @Int.toNat_zero, @List.cons_append.{0}, @List.nil_append.{0}, @List.set_cons_zero.{0}, @List.set_cons_succ.{0}⟩
theorem RD:(type_of% @Ci)∧(type_of% @Cj)∧(type_of% @tq)∧(type_of% @w8)∧(type_of% @Cm)∧(type_of% @CB)∧(type_of% @CG)∧(type_of% @CJ)∧(type_of% @CO)∧(type_of% @CP)∧(type_of% @Hq)∧(type_of% @Hr)∧(type_of% @O9)∧(type_of% @Pg)∧(type_of% @QI)∧(type_of% @Eo)∧(type_of% @Ik)∧(type_of% @QJ)∧(type_of% @SB)∧(type_of% @SE)∧(type_of% @SG)∧(type_of% @QW)∧(type_of% @Qg)∧(type_of% @S9)∧(type_of% @Tc)∧(type_of% @Td)∧(type_of% @SN)∧(type_of% @SQ)∧(type_of% @SS)∧(type_of% @SV)∧(type_of% @uO)∧(type_of% @SL)∧(type_of% @Iq)∧(type_of% @SH)∧(type_of% @SI)∧(type_of% @SK)∧(type_of% @Si)∧(type_of% @Sj)∧(type_of% @Ey)∧(type_of% @Sm)∧(type_of% @Sr)∧(type_of% @Sv)∧(type_of% @Sz)∧(type_of% @SA)∧(type_of% @Ii)∧(type_of% @Qn)∧(type_of% @Qo):=⟨@Ci, @Cj, @tq, @w8, @Cm, @CB, @CG, @CJ, @CO, @CP, @Hq, @Hr, @O9, @Pg, @QI, @Eo, @Ik, @QJ, @SB, @SE, @SG, @QW, @Qg, @S9, @Tc, @Td, @SN, @SQ, @SS, @SV, @uO, @SL, @Iq, @SH, @SI, @SK, @Si, @Sj, @Ey, @Sm, @Sr, @Sv, @Sz, @SA, @Ii, @Qn, @Qo⟩
theorem RK:(type_of% @PO)∧(type_of% @PK)∧(type_of% @PS)∧(type_of% @PU)∧(type_of% @PV)∧(type_of% @PW)∧(type_of% @PX)∧(type_of% @P6)∧(type_of% @PY)∧(type_of% @H6)∧(type_of% @PZ)∧(type_of% @P5):=⟨@PO, @PK, @PS, @PU, @PV, @PW, @PX, @P6, @PY, @H6, @PZ, @P5⟩
theorem RZ:(type_of% @TN)∧(type_of% @TP)∧(type_of% @TQ)∧(type_of% @TR)∧(type_of% @TS)∧(type_of% @TT)∧(type_of% @TU)∧(type_of% @List.map_cons.{0,0})∧(type_of% @List.map_nil.{0,0})∧(type_of% @List.set_cons_zero.{0})∧(type_of% @List.set_cons_succ.{0}):=⟨@TN, @TP, @TQ, @TR, @TS, @TT, @TU, @List.map_cons.{0,0}, @List.map_nil.{0,0}, @List.set_cons_zero.{0}, @List.set_cons_succ.{0}⟩
theorem RN:(type_of% @aI)∧(type_of% @yU)∧(type_of% @yV)∧(type_of% @yX)∧(type_of% @if_true.{1})∧(type_of% @if_false.{1})∧(type_of% @Bool.false_eq_true):=⟨@aI, @yU, @yV, @yX, @if_true.{1}, @if_false.{1}, @Bool.false_eq_true⟩
theorem RA:(type_of% @RF)∧(type_of% @RO)∧(type_of% @RC):=⟨@RF, @RO, @RC⟩
theorem RB:(type_of% @decide_eq_true_eq)∧(type_of% @Bool.or_eq_true)∧(type_of% @Bool.and_eq_true)∧(type_of% @Bool.not_eq_true')∧(type_of% @decide_eq_false_iff_not)∧(type_of% @Bool.not_eq_eq_eq_not)∧(type_of% @Bool.not_true)∧(type_of% @Bool.not_false)∧(type_of% @beq_iff_eq.{0})∧(type_of% @Bool.false_eq_true):=⟨@decide_eq_true_eq, @Bool.or_eq_true, @Bool.and_eq_true, @Bool.not_eq_true', @decide_eq_false_iff_not, @Bool.not_eq_eq_eq_not, @Bool.not_true, @Bool.not_false, @beq_iff_eq.{0}, @Bool.false_eq_true⟩
theorem RE:(type_of% @Tf)∧(type_of% @Ti)∧(type_of% @Tj):=⟨@Tf, @Ti, @Tj⟩
theorem RH:(type_of% @Tn)∧(type_of% @Tq)∧(type_of% @Tt)∧(type_of% @Tv)∧(type_of% @Tz)∧(type_of% @kM)∧(type_of% @Iy)∧(type_of% @TA)∧(type_of% @TB)∧(type_of% @TD)∧(type_of% @TF)∧(type_of% @TG)∧(type_of% @TI)∧(type_of% @TJ)∧(type_of% @TK)∧(type_of% @TL)∧(type_of% @NN.int)∧(type_of% @NN.bool)∧(type_of% @NN.string)∧(type_of% @NN.nil)∧(type_of% @NN.undef)∧(type_of% @NN.fz)∧(type_of% @and_true)∧(type_of% @true_and)∧(type_of% @and_self):=⟨@Tn, @Tq, @Tt, @Tv, @Tz, @kM, @Iy, @TA, @TB, @TD, @TF, @TG, @TI, @TJ, @TK, @TL, @NN.int, @NN.bool, @NN.string, @NN.nil, @NN.undef, @NN.fz, @and_true, @true_and, @and_self⟩
end Go.Bm
