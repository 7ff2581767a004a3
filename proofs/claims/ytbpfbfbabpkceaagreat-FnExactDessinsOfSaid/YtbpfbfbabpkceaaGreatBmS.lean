/- Rules by which a run of the second machine is gone through, operation by operation. -/
import Derived.Test.YtbpfbfbabpkceaaGreatBmT
import Derived.Test.YtbpfbfbabpkceaaGreatAmS2
set_option linter.unusedVariables false
set_option linter.unusedSimpArgs false
namespace Go.Bm
open Go Go.Am
abbrev N8 (n:Nat):Value:= .int .u8 (n:Int)
abbrev PL (p:List Nat):Value:=aggL (p.map N8)
abbrev FI (xs:List Int):Value:=Fz xs.length 1 (xs.map I)
abbrev FB (xs:List Nat):Value:=Fz xs.length 1 (xs.map N8)
abbrev dU (xss:List (List Int)):Value:=Fz xss.length 1 (xss.map FI)
def nl (p:List Nat) (i:Nat):Nat:=p.getD i 0
section
def eu (o:Option (Value×BH)) (k:Value→BH→Prop):Prop:=
 match o with
 |some (v,H)=>k v H
 |none=>False
theorem Us {v:Value} {H:BH} {k:Value→BH→Prop}:eu (some (v,H)) k=k v H:=rfl
def bJ (d t:Option Nat) (r:List AOper) (K:Fr→BH→Prop) (f:Fr) (H:BH):Value→Prop:=fun v=>opsT (dn d) r K (updO f t v) H
def gU (d t:Option Nat) (r:List AOper) (K:Fr→BH→Prop) (f:Fr):Value→BH→Prop:=fun v H=>opsT (dn d) r K (updO f t v) H
variable {d:Option Nat} {t:Option Nat} {r:List AOper} {K:Fr→BH→Prop} {f:Fr} {H:BH}
theorem uZ {v:Value}:bH (some v) (bJ d t r K f H)=opsT (dn d) r K (updO f t v) H:=rfl
theorem vg {v:Value}:eu (some (v,H)) (gU d t r K f)=opsT (dn d) r K (updO f t v) H:=rfl
theorem MG {v:Value}:gU d t r K f v H=opsT (dn d) r K (updO f t v) H:=rfl
theorem vk {n:Nat}:ev f (.t n)=f n:=rfl
theorem MH {k:IntKind} {n:Int}:ev f (.c (.int k n))= .int k n:=rfl
theorem MI {b:Bool}:ev f (.c (.bool b))= .bool b:=rfl
theorem MJ {b:ByteArray}:ev f (.c (.string b))= .string b:=rfl
theorem MK:ev f (.c (.slice none 0 0))= .slice none 0 0:=rfl
theorem ML:ev f (.c .nilFunc)= .nilFunc:=rfl
theorem MN:ev f (.c (.pointer none))= .pointer none:=rfl
theorem vw {n:Nat}:ev f (.f n)= .func (.func n) #[] #[]:=rfl
theorem vG:opsT d [] K f H=K f H:=rfl
def gV (b:Bool):Value→Option Bool
 | .bool x=>some (x==b)
 | .tuple ⟨[]⟩=>some false
 | _=>none
def EO (o:Option Bool) (p q:Prop):Prop:=
 match o with
 |some true=>p
 |some false=>q
 |none=>False
theorem MO {x:Bool}:gV true (.bool x)=some x:=by cases x<;>rfl
theorem MP {x:Bool}:gV false (.bool x)=some (!x):=by cases x<;>rfl
theorem MQ {b:Bool}:gV b undef=some false:=rfl
theorem MR {p q:Prop}:EO (some true) p q=p:=rfl
theorem MV {p q:Prop}:EO (some false) p q=q:=rfl
theorem vH {o:AOp} {g:Nat} {b:Bool}:opsT d (⟨t,o,some (g,b)⟩::r) K f H=EO (gV b (f g)) (opsT d (⟨t,o,none⟩::r) K f H) (opsT (dn d) r K (updO f t undef) H):=by
 have e:qA (some (g,b)) f=gV b (f g):=rfl
 rw [opsT]
 simp only [e]
 generalize gV b (f g)=q
 match q with
 |some true=>
  show _=opsT d (⟨t,o,none⟩::r) K f H
  conv=>rhs;rw [opsT]
  rfl
 |some false=>rfl
 |none=>rfl
theorem vJ {g:Nat} {as:List Opd}:opsT d (⟨t, .call g as,none⟩::r) K f H=aB (fU d) g (as.map (ev f)) H (gU d t r K f):=by rw [opsT];rfl
theorem abI {g:Opd} {as:List Opd} {cap:Nat} {caps:Array Value} (hg:ev f g= .func (.func cap) #[] caps):opsT d (⟨t, .callv g as,none⟩::r) K f H=aB (fU d) cap (as.map (ev f)++caps.toList) H (gU d t r K f):=by
 rw [opsT]
 simp only [qA,hg,true_and]
 rfl
theorem jv {o:AOp} (h2:qJ o=false) (h3: ∀g as,o≠ .call g as) (h4:(∀g as,o≠ .callv g as)∧ ∀g as fl,o≠ .callF g as fl):opsT d (⟨t,o,none⟩::r) K f H=eu (aO o (ev f) H) (gU d t r K f):=by
 rw [opsT]
 simp only [qA]
 cases o<;>first|exact absurd rfl (h3 _ _)|exact absurd rfl (h4.1 _ _)|exact absurd rfl (h4.2 _ _ _)|(simp only [h2,Bool.false_eq_true,false_implies,true_and];rfl)
theorem yg {o:AOp} (h2:qJ o=true):opsT d (⟨t,o,none⟩::r) K f H=(fU d=false∧eu (aO o (ev f) H) (gU d t r K f)):=by
 rw [opsT]
 simp only [qA]
 cases o<;>first|(simp [qJ] at h2;done)|skip
 all_goals
  simp only [qJ,true_implies]
  generalize aO _ (ev f) H=q
  match q with
  |some (v,H')=>rfl
  |none=>simp [eu]
theorem bW {o:AOp} {w:Option Value} (h2:qJ o=false) (h3: ∀g as,o≠ .call g as) (h4:(∀g as,o≠ .callv g as)∧ ∀g as fl,o≠ .callF g as fl) (h:aO o (ev f) H=w.map fun v=>(v,H)):opsT d (⟨t,o,none⟩::r) K f H=bH w (bJ d t r K f H):=by
 rw [jv h2 h3 h4,h]
 cases w<;>rfl
theorem vN {x:Opd}:opsT d (⟨t, .move x,none⟩::r) K f H=opsT (dn d) r K (updO f t (ev f x)) H:=by
 rw [jv rfl (by simp) (by simp)];rfl
theorem vO {c a b:Opd}:opsT d (⟨t, .pick c a b,none⟩::r) K f H=bH (vF (ev f c) (ev f a) (ev f b)) (bJ d t r K f H):=
 bW rfl (by simp) (by simp) (by simp only [aO];cases ev f c<;>rfl)
theorem vP {op:BinOp} {x y:Opd}:opsT d (⟨t, .bin op x y,none⟩::r) K f H=bH (aBin op (ev f x) (ev f y)) (bJ d t r K f H):=
 bW rfl (by simp) (by simp) (by rfl)
theorem MW {op:BinOp} {x y:Opd}:opsT d (⟨t, .sbin op x y,none⟩::r) K f H=bH (aSbin op (ev f x) (ev f y)) (bJ d t r K f H):=
 bW rfl (by simp) (by simp) (by rfl)
theorem vT {x:Opd}:opsT d (⟨t, .not x,none⟩::r) K f H=bH (BX (ev f x)) (bJ d t r K f H):=
 bW rfl (by simp) (by simp) (by simp only [aO];cases ev f x<;>rfl)
theorem vU {x:Opd}:opsT d (⟨t, .neg x,none⟩::r) K f H=bH (BZ (ev f x)) (bJ d t r K f H):=
 bW rfl (by simp) (by simp) (by simp only [aO];cases ev f x<;>rfl)
theorem vV {k:IntKind} {x:Opd}:opsT d (⟨t, .conv k x,none⟩::r) K f H=bH (Cb k (ev f x)) (bJ d t r K f H):=
 bW rfl (by simp) (by simp) (by simp only [aO];cases ev f x<;>rfl)
theorem vW {n:Bool} {x y:Opd}:opsT d (⟨t, .eqb n x y,none⟩::r) K f H=bH (y9 n (ev f x) (ev f y)) (bJ d t r K f H):=
 bW rfl (by simp) (by simp) (by simp only [aO];cases ev f x<;>cases ev f y<;>rfl)
def uF (neg:Bool) (n:Nat) (x y:Value):Option Value:=(aEqa n x y).map fun r=> .bool (if neg then !r else r)
theorem MZ {neg:Bool} {n:Nat} {x y:Opd}:opsT d (⟨t, .eqa neg n x y,none⟩::r) K f H=bH (uF neg n (ev f x) (ev f y)) (bJ d t r K f H):=
 bW rfl (by simp) (by simp) (by simp only [aO,uF,Option.map_map];rfl)
def yh (neg:Bool):Value→Option Value
 | .slice a _ _=>some (.bool (if neg then !a.isNone else a.isNone))
 | .iface (_+1) (.iface _ (.tuple _))=>some (.bool neg)
 | _=>none
theorem Na {neg:Bool} {n e:Nat}:yh neg (.slice none n e)=some (.bool !neg):=by cases neg<;>rfl
theorem Nb {neg:Bool} {b o n e:Nat}:yh neg (S b o n e)=some (.bool neg):=by cases neg<;>rfl
theorem adM {neg:Bool} {l e:Nat} {cs:List Value} (h:0<l):yh neg (Fz l e cs)=some (.bool neg):=by
 obtain ⟨n,rfl⟩: ∃n,l=n+1:=⟨l-1,by omega⟩
 rfl
theorem wu {n:Bool} {x:Opd}:opsT d (⟨t, .eqn n x,none⟩::r) K f H=bH (yh n (ev f x)) (bJ d t r K f H):=
 bW rfl (by simp) (by simp) (by
  simp only [aO,yh]
  repeat' split
  all_goals first|rfl|simp_all)
def rP:Value→Option Value
 | .slice _ n _=>some (.int .i64 n)
 | .iface n (.iface _ (.tuple _))=>some (.int .i64 n)
 | _=>none
theorem Nc {a:Option Addr} {n e:Nat}:rP (.slice a n e)=some (.int .i64 n):=rfl
theorem Nh {n e:Nat} {cs:List Value}:rP (Fz n e cs)=some (.int .i64 n):=rfl
theorem vX {x:Opd}:opsT d (⟨t, .len x,none⟩::r) K f H=bH (rP (ev f x)) (bJ d t r K f H):=
 bW rfl (by simp) (by simp) (by
  simp only [aO,rP]
  repeat' split
  all_goals first|rfl|simp_all)
def Nj:Value→Option Value
 | .string s=>some (.int .i64 s.size)
 | _=>none
theorem Nk {s:ByteArray}:Nj (.string s)=some (.int .i64 s.size):=rfl
theorem Nl {x:Opd}:opsT d (⟨t, .lenStr x,none⟩::r) K f H=bH (Nj (ev f x)) (bJ d t r K f H):=
 bW rfl (by simp) (by simp) (by simp only [aO];cases ev f x<;>rfl)
theorem EP {n:Nat}:opsT d (⟨t, .lenConst n,none⟩::r) K f H=opsT (dn d) r K (updO f t (.int .i64 n)) H:=by
 rw [jv rfl (by simp) (by simp)];rfl
theorem vY {x:Opd} {j:Nat}:opsT d (⟨t, .extract x j,none⟩::r) K f H=bH (pX j (ev f x)) (bJ d t r K f H):=
 bW rfl (by simp) (by simp) (by simp only [aO];cases ev f x<;>rfl)
theorem vZ {xs:List Opd}:opsT d (⟨t, .max xs,none⟩::r) K f H=bH (foldV max2 (xs.map (ev f))) (bJ d t r K f H):=
 bW rfl (by simp) (by simp) (by rfl)
theorem wo {xs:List Opd}:opsT d (⟨t, .min xs,none⟩::r) K f H=bH (foldV min2 (xs.map (ev f))) (bJ d t r K f H):=
 bW rfl (by simp) (by simp) (by rfl)
def rQ (e:Nat) (x i:Value):Option Value:=
 match x,intOf i with
 | .slice (some ⟨b,o,none⟩) len e',some i=>if 0≤i∧i<len∧e'=e then some (P b (o+i.toNat*e)) else none
 | .iface len (.iface e' (.tuple ⟨cs⟩)),some i=>if 0≤i∧i<len∧e'=e then some (Fp (i.toNat*e) cs) else none
 | _,_=>none
theorem Ej {b o len e:Nat} {k:IntKind} {i:Int} (h:0≤i∧i<len):rQ e (S b o len e) (.int k i)=some (P b (o+i.toNat*e)):=by simp [rQ,intOf,h]
theorem Eo {len e:Nat} {cs:List Value} {k:IntKind} {i:Int} (h:0≤i∧i<len):rQ e (Fz len e cs) (.int k i)=some (Fp (i.toNat*e) cs):=by simp [rQ,Fz,intOf,h]
theorem wz {e:Nat} {x i:Opd}:opsT d (⟨t, .indexAddr none e x i,none⟩::r) K f H=bH (rQ e (ev f x) (ev f i)) (bJ d t r K f H):=
 bW rfl (by simp) (by simp) (by
  simp only [aO,rQ]
  generalize intOf (ev f i)=q
  generalize ev f x=vx
  cases vx<;>try rfl
  case slice a n e'=>
   cases a<;>try rfl
   rename_i a
   obtain ⟨b,o,sp⟩:=a
   cases sp<;>cases q<;>try rfl
   simp only
   split<;>rfl
  case iface l w=>
   cases w<;>try rfl
   rename_i l w
   cases w<;>try rfl
   cases q<;>try rfl
   simp only
   split<;>rfl)
def uG (n e:Nat) (x i:Value):Option Value:=
 match x,intOf i with
 | .pointer (some ⟨b,o,none⟩),some i=>if 0≤i∧i<n then some (P b (o+i.toNat*e)) else none
 | .iface o (.tuple ⟨cs⟩),some i=>if 0≤i∧i<n then some (Fp (o+i.toNat*e) cs) else none
 | _,_=>none
theorem Np {n e b o:Nat} {k:IntKind} {i:Int} (h:0≤i∧i<n):uG n e (P b o) (.int k i)=some (P b (o+i.toNat*e)):=by simp [uG,intOf,h]
theorem Nq {n e o:Nat} {cs:List Value} {k:IntKind} {i:Int} (h:0≤i∧i<n):uG n e (Fp o cs) (.int k i)=some (Fp (o+i.toNat*e) cs):=by simp [uG,Fp,intOf,h]
theorem ER {n e:Nat} {x i:Opd}:opsT d (⟨t, .indexAddr (some n) e x i,none⟩::r) K f H=bH (uG n e (ev f x) (ev f i)) (bJ d t r K f H):=
 bW rfl (by simp) (by simp) (by
  simp only [aO,uG]
  generalize intOf (ev f i)=q
  generalize ev f x=vx
  cases vx<;>try rfl
  case pointer a=>
   cases a<;>try rfl
   rename_i a
   obtain ⟨b,o,sp⟩:=a
   cases sp<;>cases q<;>try rfl
   simp only
   split<;>rfl
  case iface l w=>
   cases w<;>try rfl
   cases q<;>try rfl
   simp only
   split<;>rfl)
def uo (n:Option Nat) (H:BH):Value→Option Value
 | .pointer (some ⟨b,o,none⟩)=>(match blk H b with|some cs=>getN n cs o|none=>none)
 | .iface o (.tuple ⟨cs⟩)=>getN n cs o
 | _=>none
def ES (n:Option Nat) (c:Option (List Value)) (o:Nat):Option Value:=
 match c with
 |some cs=>getN n cs o
 |none=>none
theorem En {n:Option Nat} {cs:List Value} {o:Nat}:ES n (some cs) o=getN n cs o:=rfl
theorem Em {n:Option Nat} {b o:Nat}:uo n H (P b o)=ES n (blk H b) o:=by simp only [uo,ES]
theorem Ep {n:Option Nat} {o:Nat} {cs:List Value}:uo n H (Fp o cs)=getN n cs o:=rfl
theorem wB {n:Option Nat} {a:Opd}:opsT d (⟨t, .load n a,none⟩::r) K f H=bH (uo n H (ev f a)) (bJ d t r K f H):=
 bW rfl (by simp) (by simp) (by
  simp only [aO,uo]
  repeat' split
  all_goals simp_all)
def uH (n:Nat) (a v:Value) (H:BH):Option (Value×BH):=
 match a with
 | .pointer (some ⟨b,o,none⟩)=>
  (match blk H b with
  |some cs=>
   (match cells2 v with
   |some vs=>if vs.length=n∧o+n≤cs.length∧vs.all fF=true then some (undef,H.set b (some (splice cs o vs))) else none
   |none=>none)
  |none=>none)
 | _=>none
def bQ (c:Option (List Value)) (H:BH) (b o n:Nat) (v:Value):Option (Value×BH):=
 match c,cells2 v with
 |some cs,some vs=>if vs.length=n∧o+n≤cs.length∧vs.all fF=true then some (undef,H.set b (some (splice cs o vs))) else none
 | _,_=>none
theorem Nr {b o n:Nat} {v:Value}:uH n (P b o) v H=bQ (blk H b) H b o n v:=by
 simp only [uH,bQ]
 cases blk H b<;>cases cells2 v<;>rfl
theorem vK {n:Nat} {a v:Opd}:opsT d (⟨t, .store n a v,none⟩::r) K f H=(fU d=false∧eu (uH n (ev f a) (ev f v) H) (gU d t r K f)):=by
 rw [yg rfl]
 have:aO (.store n a v) (ev f) H=uH n (ev f a) (ev f v) H:=rfl
 rw [this]
def qK (H:BH) (a:Value):List Value→Bool
 |[]=>true
 |x::xs=>kG H a x&&qK H a xs
theorem Ns {a:Value}:qK H a []=true:=rfl
theorem ET {a x:Value} {xs:List Value}:qK H a (x::xs)=(kG H a x&&qK H a xs):=rfl
theorem Nu {i o j q:Nat}:kG H (P i o) (P j q)=(!(j==i)&&(blk H j).isSome):=rfl
theorem Nv {i o j q n e:Nat}:kG H (P i o) (S j q n e)=(!(j==i)&&(blk H j).isSome):=rfl
theorem Nw {i o:Nat}:kG H (P i o) (.slice none 0 0)=true:=rfl
theorem Ny {i o:Nat} {k:IntKind} {n:Int}:kG H (P i o) (.int k n)=true:=rfl
theorem Nz {i o:Nat} {b:Bool}:kG H (P i o) (.bool b)=true:=rfl
theorem NC {i o l e:Nat} {cs:List Value}:kG H (P i o) (Fz l e cs)=true:=rfl
theorem ND {i o l:Nat} {cs:List Value}:kG H (P i o) (Fp l cs)=true:=rfl
theorem NG {i o:Nat} {cs:List Value}:kG H (P i o) (aggL cs)=true:=rfl
theorem NH {cs:List Value}:(some cs).isSome=true:=rfl
theorem NI {n:Nat} {a v:Opd} {fl:List Opd}:opsT d (⟨t, .storeF n a v fl,none⟩::r) K f H=(qK H (ev f a) (fl.map (ev f))=true∧fU d=false∧eu (uH n (ev f a) (ev f v) H) (gU d t r K f)):=by
 rw [yg rfl]
 have e:(fl.all fun x=>kG H (ev f a) (ev f x))=qK H (ev f a) (fl.map (ev f)):=by
  induction fl with
  |nil=>rfl
  |cons x xs ih=>simp only [List.all_cons,List.map_cons,ET,ih]
 have:aO (.storeF n a v fl) (ev f) H=if qK H (ev f a) (fl.map (ev f))=true then uH n (ev f a) (ev f v) H else none:=by
  rw [←e];rfl
 rw [this]
 by_cases h:qK H (ev f a) (fl.map (ev f))=true
 ·rw [if_pos h];simp [h]
 ·rw [if_neg h];simp [h,eu]
theorem vM {e b:Nat} {s x:Opd}:opsT d (⟨t, .append e b s x,none⟩::r) K f H=(fU d=false∧eu (jl e b (ev f s) (ev f x) H) (gU d t r K f)):=by
 rw [yg rfl];rfl
def NJ (d t:Option Nat) (r:List AOper) (K:Fr→BH→Prop) (f:Fr) (H:BH) (l:List Value):Value→BH→Prop:=fun v H'=>keepW H H' l∧opsT (dn d) r K (updO f t v) H'
theorem NK {l:List Value} {v:Value} {H1:BH}:NJ d t r K f H l v H1=(keepW H H1 l∧opsT (dn d) r K (updO f t v) H1):=rfl
theorem NM {g:Nat} {as fl:List Opd}:opsT d (⟨t, .callF g as fl,none⟩::r) K f H=(fU d=false∧aB false g (as.map (ev f)) H (NJ d t r K f H (fl.map (ev f)))):=by rw [opsT];rfl
theorem NP {H1:BH}:keepW H H1 []=True:=rfl
theorem NQ {H1:BH} {x:Value} {xs:List Value}:keepW H H1 (x::xs)=(sH H H1 x∧keepW H H1 xs):=rfl
theorem NR {H1:BH} {j o:Nat}:sH H H1 (P j o)=sJ (blk H j) (blk H1 j):=rfl
theorem NS {H1:BH} {j o l e:Nat}:sH H H1 (S j o l e)=sJ (blk H j) (blk H1 j):=rfl
theorem NT {H1:BH} {k:IntKind} {n:Int}:sH H H1 (.int k n)=True:=rfl
theorem adN {cs:List Value} (h:cs.all Am.plain=true):sJ (some cs) (some cs)=True:=eq_true ⟨rfl,h⟩
def qL (H:BH) (a:Value):List Value→Bool
 |[]=>true
 |x::xs=>sK H a x&&qL H a xs
theorem NU {a:Value}:qL H a []=true:=rfl
theorem EU {a x:Value} {xs:List Value}:qL H a (x::xs)=(sK H a x&&qL H a xs):=rfl
theorem NV {i o l e:Nat} {x:Value}:sK H (S i o l e) x=kG H (P i 0) x:=rfl
theorem NW {x:Value}:sK H (.slice none 0 0) x=true:=rfl
theorem NY {e_1 b:Nat} {s x:Opd} {fl:List Opd}:opsT d (⟨t, .appendF e_1 b s x fl,none⟩::r) K f H=(qL H (ev f s) (fl.map (ev f))=true∧fU d=false∧eu (jl e_1 b (ev f s) (ev f x) H) (gU d t r K f)):=by
 rw [yg rfl]
 have e:(fl.all fun y=>sK H (ev f s) (ev f y))=qL H (ev f s) (fl.map (ev f)):=by
  induction fl with
  |nil=>rfl
  |cons x xs ih=>simp only [List.all_cons,List.map_cons,EU,ih]
 have:aO (.appendF e_1 b s x fl) (ev f) H=if qL H (ev f s) (fl.map (ev f))=true then jl e_1 b (ev f s) (ev f x) H else none:=by
  rw [←e];rfl
 rw [this]
 by_cases h:qL H (ev f s) (fl.map (ev f))=true
 ·rw [if_pos h];simp [h]
 ·rw [if_neg h];simp [h,eu]
theorem EW {z:List Value}:opsT d (⟨t, .alloc z,none⟩::r) K f H=(z.all Am.plain=true∧opsT (dn d) r K (updO f t (P H.length 0)) (H++[some z])):=by
 rw [jv rfl (by simp) (by simp)]
 simp only [aO]
 split
 ·rename_i h;simp only [h,true_and];rfl
 ·rename_i h;simp only [h];simp [eu]
def pU (v:Value) (H:BH):Option (Value×BH):=
 match cells2 v with
 |some cs=>some (P H.length 0,H++[some cs])
 |none=>none
theorem EX {x:Opd}:opsT d (⟨t, .box x,none⟩::r) K f H=eu (pU (ev f x) H) (gU d t r K f):=by
 rw [jv rfl (by simp) (by simp)];rfl
theorem NZ {cs:List Value}:pU (aggL cs) H=some (P H.length 0,H++[some cs]):=rfl
theorem N7 {k:IntKind} {n:Int}:pU (.int k n) H=some (P H.length 0,H++[some [.int k n]]):=rfl
theorem N9 {b:Bool}:pU (.bool b) H=some (P H.length 0,H++[some [.bool b]]):=rfl
theorem Oa {s:ByteArray}:pU (.string s) H=some (P H.length 0,H++[some [.string s]]):=rfl
theorem Ob {a:Option Addr} {l e:Nat}:pU (.slice a l e) H=some (P H.length 0,H++[some [.slice a l e]]):=rfl
theorem Oc {l e:Nat} {cs:List Value}:pU (Fz l e cs) H=some (P H.length 0,H++[some [Fz l e cs]]):=rfl
theorem Oe {b o:Nat}:pU (P b o) H=some (P H.length 0,H++[some [P b o]]):=rfl
theorem Og {g:Fn} {a b:Array Value}:pU (.func g a b) H=some (P H.length 0,H++[some [.func g a b]]):=rfl
theorem EY {z:List Value} {p:List (Nat×Nat×Opd)}:opsT d (⟨t, .build z p,none⟩::r) K f H=(z.all Am.plain=true∧(p.map fun p=>nj (ev f p.2.2)).all id=true∧bH ((fillL z (p.map fun p=>(p.1,p.2.1,ev f p.2.2))).map aggL) (bJ d t r K f H)):=by
 rw [jv rfl (by simp) (by simp)]
 simp only [aO,List.all_map,Function.id_comp]
 by_cases h:z.all Am.plain=true∧(p.all fun p=>nj (ev f p.2.2))=true
 ·rw [if_pos h,←and_assoc]
  simp only [h.1,h.2,and_self,true_and]
  cases fillL z _<;>rfl
 ·rw [if_neg h,←and_assoc]
  simp only [h,false_and]
  rfl
theorem wE {e n:Nat} {z:List Value} {p:List (Nat×Nat×Opd)}:opsT d (⟨t, .buildSlice e n z p,none⟩::r) K f H=(n*e≤16777216∧z.all Am.plain=true∧(p.map fun p=>nj (ev f p.2.2)).all id=true∧
  eu ((fillL (repl z n) (p.map fun p=>(p.1,p.2.1,ev f p.2.2))).map fun cs=>(S H.length 0 n e,H++[some cs])) (gU d t r K f)):=by
 rw [jv rfl (by simp) (by simp)]
 simp only [aO,List.all_map,Function.id_comp]
 by_cases h:n*e≤16777216∧z.all Am.plain=true∧(p.all fun p=>nj (ev f p.2.2))=true
 ·rw [if_pos h]
  simp only [h.1,h.2.1,h.2.2,true_and]
 ·rw [if_neg h,←and_assoc,←and_assoc,and_assoc (a:=n*e≤16777216)]
  simp only [h,false_and]
  rfl
def Bv (e:Nat) (bytes:Nat) (z:List Value) (l c:Value) (H:BH):Option (Value×BH):=
 match l,c with
 | .int _ l, .int _ c=>if 0≤l∧l≤c∧c*bytes≤140737488355328∧c≤9223372036854775807 then some (S H.length 0 l.toNat e,H++[some (repl z c.toNat)]) else none
 | _,_=>none
theorem Oh {e b:Nat} {z:List Value} {k:IntKind} {n:Int} {H:BH} (h:0≤n∧n*b≤140737488355328∧n≤9223372036854775807):Bv e b z (.int k n) (.int k n) H=some (S H.length 0 n.toNat e,H++[some (repl z n.toNat)]):=by
 simp only [Bv]
 rw [if_pos (by omega)]
theorem wF {e b:Nat} {z:List Value} {l c:Opd}:opsT d (⟨t, .makeSlice e b z l c,none⟩::r) K f H=(z.all Am.plain=true∧eu (Bv e b z (ev f l) (ev f c) H) (gU d t r K f)):=by
 rw [jv rfl (by simp) (by simp)]
 simp only [aO,Bv]
 generalize ev f l=vl
 generalize ev f c=vc
 by_cases hz:z.all Am.plain=true
 ·simp only [hz,true_and]
  cases vl<;>cases vc<;>rfl
 ·simp only [hz,Bool.false_eq_true,false_and,if_false]
  cases vl<;>cases vc<;>simp [eu]
def Bz (off:Nat):Value→Option Value
 | .pointer (some ⟨b,o,none⟩)=>some (P b (o+off))
 | .iface o (.tuple ⟨cs⟩)=>some (Fp (o+off) cs)
 | _=>none
theorem Oi {off b o:Nat}:Bz off (P b o)=some (P b (o+off)):=rfl
theorem Oj {off o:Nat} {cs:List Value}:Bz off (Fp o cs)=some (Fp (o+off) cs):=rfl
theorem EZ {o:Nat} {x:Opd}:opsT d (⟨t, .fieldAddr o x,none⟩::r) K f H=bH (Bz o (ev f x)) (bJ d t r K f H):=
 bW rfl (by simp) (by simp) (by
  simp only [aO,Bz]
  repeat' split
  all_goals first|rfl|simp_all)
theorem E5 {n:Option Nat} {o:Nat} {x:Opd}:opsT d (⟨t, .field n o x,none⟩::r) K f H=bH (E8 n o (ev f x)) (bJ d t r K f H):=
 bW rfl (by simp) (by simp) (by simp only [aO];cases ev f x<;>rfl)
theorem E9 {l e:Nat} {n:Option Nat} {x i:Opd}:opsT d (⟨t, .index l e n x i,none⟩::r) K f H=bH (uI l e n (ev f x) (ev f i)) (bJ d t r K f H):=
 bW rfl (by simp) (by simp) (by
  simp only [aO]
  generalize ev f x=vx
  generalize ev f i=vi
  cases vx<;>cases vi<;>try rfl
  simp only [intOf,uI]
  split<;>rfl)
def AZ:Value→Value→Option Value
 | .string s, .int _ i=>if 0≤i then (s[i.toNat]?).map fun b=> .int .u8 b.toNat else none
 | _,_=>none
theorem Ol {x i:Opd}:opsT d (⟨t, .indexStr x i,none⟩::r) K f H=bH (AZ (ev f x) (ev f i)) (bJ d t r K f H):=
 bW rfl (by simp) (by simp) (by
  simp only [aO]
  generalize ev f x=vx
  generalize ev f i=vi
  cases vx<;>cases vi<;>try rfl
  simp only [intOf,AZ]
  split
  ·rw [Option.map_map];rfl
  ·rfl)
def BA:Value→Option Value
 | .pointer (some ⟨b,o,none⟩)=>some (P b o)
 | .iface o (.tuple ⟨cs⟩)=>some (Fp o cs)
 | _=>none
theorem Om {b o:Nat}:BA (P b o)=some (P b o):=rfl
theorem Oo {o:Nat} {cs:List Value}:BA (Fp o cs)=some (Fp o cs):=rfl
theorem Fa {x:Opd}:opsT d (⟨t, .nilCheck x,none⟩::r) K f H=bH (BA (ev f x)) (bJ d t r K f H):=
 bW rfl (by simp) (by simp) (by
  simp only [aO,BA]
  repeat' split
  all_goals first|rfl|simp_all)
theorem Oq {g:Nat} {cs:List Opd}:opsT d (⟨t, .makeFunc g cs,none⟩::r) K f H=opsT (dn d) r K (updO f t (.func (.func g) #[] ⟨cs.map (ev f)⟩)) H:=by
 rw [jv rfl (by simp) (by simp)];rfl
def jV (len:Nat) (lo hi:Option Value):Option (Nat×Nat):=cutOf (fun| .c v=>v| _=>undef) len (lo.map .c) (hi.map .c)
theorem Fb {len:Nat} {lo hi:Option Opd}:jV len (lo.map (ev f)) (hi.map (ev f))=cutOf (ev f) len lo hi:=by cases lo<;>cases hi<;>rfl
theorem Fe {len:Nat} {k:IntKind} {h:Int} (hh:0≤h∧h≤len):jV len none (some (.int k h))=some (0,h.toNat):=by
 simp only [jV,Option.map_none,Option.map_some,cutOf,intOf]
 rw [if_pos (by omega)];rfl
theorem Fg {len:Nat} {k:IntKind} {l:Int} (hh:0≤l∧l≤len):jV len (some (.int k l)) none=some (l.toNat,len):=by
 simp only [jV,Option.map_none,Option.map_some,cutOf,intOf]
 rw [if_pos (by omega)];simp
theorem Ot {len:Nat} {k k':IntKind} {l h:Int} (hh:0≤l∧l≤h∧h≤len):jV len (some (.int k l)) (some (.int k' h))=some (l.toNat,h.toNat):=by
 simp only [jV,Option.map_some,cutOf,intOf]
 rw [if_pos (by omega)]
theorem ZV {len:Nat}:jV len none none=some (0,len):=by
 simp [jV,cutOf]
def qM (e:Nat) (x:Value) (lo hi:Option Value):Option Value:=
 match x with
 | .slice (some ⟨b,o,none⟩) len e'=>if e'=e then (jV len lo hi).map fun (l,h)=>S b (o+l*e) (h-l) e else none
 | .slice none 0 0=>(jV 0 lo hi).map fun _=> .slice none 0 0
 | .iface len (.iface e' (.tuple ⟨cs⟩))=>if e'=e then (jV len lo hi).map fun (l,h)=>Fz (h-l) e ((cs.drop (l*e)).take ((h-l)*e)) else none
 | _=>none
theorem adO {e b o len l h:Nat} {lo hi:Option Value} (hc:jV len lo hi=some (l,h)):qM e (S b o len e) lo hi=some (S b (o+l*e) (h-l) e):=by simp [qM,hc]
theorem Ou {e len l h:Nat} {cs:List Value} {lo hi:Option Value} (hc:jV len lo hi=some (l,h)):qM e (Fz len e cs) lo hi=some (Fz (h-l) e ((cs.drop (l*e)).take ((h-l)*e))):=by simp [qM,Fz,hc]
theorem wC {e:Nat} {x:Opd} {lo hi:Option Opd}:opsT d (⟨t, .slice e x lo hi,none⟩::r) K f H=bH (qM e (ev f x) (lo.map (ev f)) (hi.map (ev f))) (bJ d t r K f H):=
 bW rfl (by simp) (by simp) (by
  simp only [aO,qM,Fb]
  generalize ev f x=vx
  cases vx<;>try rfl
  case slice a n e'=>
   cases a with
   |none=>
    cases n<;>cases e'<;>try rfl
    simp only
    rw [Option.map_map];rfl
   |some a=>
    obtain ⟨b,o,sp⟩:=a
    cases sp<;>try rfl
    simp only
    split
    ·rw [Option.map_map];rfl
    ·rfl
  case iface l w=>
   cases w<;>try rfl
   rename_i l w
   cases w<;>try rfl
   simp only
   split
   ·rw [Option.map_map];rfl
   ·rfl)
def Ov (x:Value) (lo hi:Option Value):Option Value:=
 match x with
 | .string s=>(jV s.size lo hi).map fun (l,h)=> .string (s.extract l h)
 | _=>none
theorem Ox {x:Opd} {lo hi:Option Opd}:opsT d (⟨t, .sliceStr x lo hi,none⟩::r) K f H=bH (Ov (ev f x) (lo.map (ev f)) (hi.map (ev f))) (bJ d t r K f H):=
 bW rfl (by simp) (by simp) (by
  simp only [aO,Ov,Fb]
  generalize ev f x=vx
  cases vx<;>try rfl
  simp only
  rw [Option.map_map];rfl)
def DF (len e:Nat) (H:BH) (x:Value) (lo hi:Option Value):Option Value:=
 match x with
 | .pointer (some ⟨b,o,none⟩)=>(match blk H b with|some cs=>if o+len*e≤cs.length then (jV len lo hi).map fun (l,h)=>S b (o+l*e) (h-l) e else none|none=>none)
 | _=>none
theorem Oy {len e:Nat} {x:Opd} {lo hi:Option Opd}:opsT d (⟨t, .sliceArr len e x lo hi,none⟩::r) K f H=bH (DF len e H (ev f x) (lo.map (ev f)) (hi.map (ev f))) (bJ d t r K f H):=
 bW rfl (by simp) (by simp) (by
  simp only [aO,DF,Fb]
  generalize ev f x=vx
  cases vx<;>try rfl
  case pointer a=>
   cases a<;>try rfl
   rename_i a
   obtain ⟨b,o,sp⟩:=a
   cases sp<;>try rfl
   simp only
   cases blk H b with
   |none=>rfl
   |some cs=>
    simp only
    split
    ·rw [Option.map_map];rfl
    ·rfl)
end
section
variable {H:BH}
theorem Oz {a:Option (List Value)} {l:BH}:blk (a::l) 0=a:=rfl
theorem OA {a b:Option (List Value)} {l:BH}:blk (a::b::l) 1=b:=rfl
theorem OB {a b c:Option (List Value)} {l:BH}:blk (a::b::c::l) 2=c:=rfl
theorem OC {a b c e:Option (List Value)} {l:BH}:blk (a::b::c::e::l) 3=e:=rfl
theorem OD {a b c e g:Option (List Value)} {l:BH}:blk (a::b::c::e::g::l) 4=g:=rfl
theorem OE {a b c e g h:Option (List Value)} {l:BH}:blk (a::b::c::e::g::h::l) 5=h:=rfl
theorem OG {a b c e g h i:Option (List Value)} {l:BH}:blk (a::b::c::e::g::h::i::l) 6=i:=rfl
theorem OH {a b c e g h i j:Option (List Value)} {l:BH}:blk (a::b::c::e::g::h::i::j::l) 7=j:=rfl
theorem OI {x0 x1 x2 x3 x4 x5 x6 x7 x8:Option (List Value)} {l:BH}:blk (x0::x1::x2::x3::x4::x5::x6::x7::x8::l) 8=x8:=rfl
theorem OJ {x0 x1 x2 x3 x4 x5 x6 x7 x8 x9:Option (List Value)} {l:BH}:blk (x0::x1::x2::x3::x4::x5::x6::x7::x8::x9::l) 9=x9:=rfl
theorem OL {x0 x1 x2 x3 x4 x5 x6 x7 x8 x9 x10:Option (List Value)} {l:BH}:blk (x0::x1::x2::x3::x4::x5::x6::x7::x8::x9::x10::l) 10=x10:=rfl
theorem OM {x0 x1 x2 x3 x4 x5 x6 x7 x8 x9 x10 x11:Option (List Value)} {l:BH}:blk (x0::x1::x2::x3::x4::x5::x6::x7::x8::x9::x10::x11::l) 11=x11:=rfl
theorem OO {x0 x1 x2 x3 x4 x5 x6 x7 x8 x9 x10 x11 x12:Option (List Value)} {l:BH}:blk (x0::x1::x2::x3::x4::x5::x6::x7::x8::x9::x10::x11::x12::l) 12=x12:=rfl
theorem OQ {x0 x1 x2 x3 x4 x5 x6 x7 x8 x9 x10 x11 x12 OT:Option (List Value)} {l:BH}:blk (x0::x1::x2::x3::x4::x5::x6::x7::x8::x9::x10::x11::x12::OT::l) 13=OT:=rfl
theorem OU {xs:List Int} {rest:List Value} {k:Nat} (h:k<xs.length):getN none (xs.map I++rest) k=some (I (el xs k)):=by
 simp [getN,List.getElem?_append_left,h,el,List.getD]
theorem AX {xs:List Int} {k:Nat} (h:k<xs.length):getN none (xs.map I) k=some (I (el xs k)):=by
 simp [getN,h,el,List.getD]
theorem Fh {p:List Nat} {k:Nat} (h:k<p.length):getN none (p.map N8) k=some (N8 (nl p k)):=by
 simp [getN,h,nl,List.getD]
def bl (p:List Bool) (i:Nat):Bool:=p.getD i false
theorem OV {p:List Bool} {k:Nat} (h:k<p.length):getN none (p.map B) k=some (.bool (bl p k)):=by
 simp [getN,h,bl,List.getD]
theorem rW {n o:Nat} {cs:List Value} (h:o+n≤cs.length):getN (some n) cs o=some (aggL ((cs.drop o).take n)):=by simp [getN,h]
theorem Aq {α:Type} {g:α→Value} {xs:List α} {k:Nat} {y:α} (h:k<xs.length):splice (xs.map g) k [g y]=(xs.set k y).map g:=by
 simp only [splice,List.length_singleton]
 rw [List.set_eq_take_append_cons_drop]
 simp [h,List.map_take,List.map_drop]
theorem abJ {xs:List Int} {k:Nat} {y:Int} (h:k<xs.length):splice (xs.map I) k [I y]=(xs.set k y).map I:=Aq h
theorem OW {xs:List Nat} {k y:Nat} (h:k<xs.length):splice (xs.map N8) k [N8 y]=(xs.set k y).map N8:=Aq h
theorem OX {xs:List Bool} {k:Nat} {y:Bool} (h:k<xs.length):splice (xs.map B) k [.bool y]=(xs.set k y).map B:=Aq h
theorem rU {cs:List Value} {b o:Nat} {v:Value} {vs:List Value} (hv:cells2 v=some vs) (h1:vs.length=1) (h2:vs.all fF=true) (h:o<cs.length):bQ (some cs) H b o 1 v=some (undef,H.set b (some (splice cs o vs))):=by
 simp only [bQ,hv]
 rw [if_pos ⟨h1,by omega,h2⟩]
theorem nX {cs:List Value} {b o:Nat} {k:IntKind} {n:Int} (h:o<cs.length):bQ (some cs) H b o 1 (.int k n)=some (undef,H.set b (some (splice cs o [.int k n]))):=rU rfl rfl rfl h
theorem abK {cs:List Value} {b o:Nat} {t:Bool} (h:o<cs.length):bQ (some cs) H b o 1 (.bool t)=some (undef,H.set b (some (splice cs o [.bool t]))):=rU rfl rfl rfl h
theorem lU {cs vs:List Value} {b o n:Nat} (h1:vs.length=n) (h2:vs.all fF=true) (h:o+n≤cs.length):bQ (some cs) H b o n (aggL vs)=some (undef,H.set b (some (splice cs o vs))):=by
 simp only [bQ,cells2]
 rw [if_pos ⟨h1,h,h2⟩]
theorem all_map {α:Type} {g:α→Value} {p:Value→Bool} {xs:List α} (h: ∀a,p (g a)=true):(xs.map g).all p=true:=by
 simp [List.all_map,Function.comp_def,h]
theorem rX {p:List Nat}:(p.map N8).all fF=true:=all_map fun _=>rfl
theorem OY {p:List Int}:(p.map I).all fF=true:=all_map fun _=>rfl
theorem Fj {p:List Bool}:(p.map B).all fF=true:=all_map fun _=>rfl
theorem OZ {n:Nat} {b:Bool}:(List.replicate n (Value.bool b)).all Am.plain=true:=by simp [List.all_replicate,Am.plain]
theorem O1 {n:Nat} {k:IntKind} {m:Int}:(List.replicate n (Value.int k m)).all Am.plain=true:=by simp [List.all_replicate,Am.plain]
theorem O4 {b:Bool}:Am.plain (.bool b)=true:=rfl
theorem O5 {k:IntKind} {m:Int}:Am.plain (.int k m)=true:=rfl
theorem O6 {s:ByteArray}:Am.plain (.string s)=true:=rfl
theorem O7:Am.plain (.slice none 0 0)=true:=rfl
theorem O8:Am.plain .nilFunc=true:=rfl
theorem w8 {n:Int} (h0:0≤n) (h1:n<256):IntKind.u8.wrap n=n:=by
 have hb:(2:Int)^(8:Nat)=256:=by decide
 have hb':(2:Int)^(7:Nat)=128:=by decide
 simp only [IntKind.wrap,IntKind.bits,IntKind.signed,hb,hb']
 simp only [Bool.false_and,Bool.false_eq_true,if_false]
 omega
theorem O9 {len:Nat} {p:List Nat} {k:IntKind} {i:Int} (h:0≤i∧i<len) (hl:p.length=len):uI len 1 none (PL p) (.int k i)=some (N8 (nl p i.toNat)):=by
 rw [abL,if_pos h,Nat.mul_one,Fh (by omega)]
theorem Pg {z:List Value}:fillL z []=some z:=rfl
theorem adP {z:List Value} {o n:Nat} {v:Value} {r:List (Nat×Nat×Value)} (h:(cellsL v).length=n∧o+n≤z.length):fillL z ((o,n,v)::r)=fillL (splice z o (cellsL v)) r:=by
 simp only [fillL];rw [if_pos h]
theorem Ph {v:Value} {k0:IntKind} {n0:Int}:fillL (List.replicate 1 v) [(0,1, .int k0 n0)]=some [.int k0 n0]:=rfl
theorem Pj {v:Value} {k0:IntKind} {n0:Int} {k1:IntKind} {n1:Int}:fillL (List.replicate 2 v) [(0,1, .int k0 n0),(1,1, .int k1 n1)]=some [.int k0 n0, .int k1 n1]:=rfl
theorem Pm {v:Value} {k0:IntKind} {n0:Int} {k1:IntKind} {n1:Int} {k2:IntKind} {n2:Int}:fillL (List.replicate 3 v) [(0,1, .int k0 n0),(1,1, .int k1 n1),(2,1, .int k2 n2)]=some [.int k0 n0, .int k1 n1, .int k2 n2]:=rfl
theorem Pn {v:Value} {k0:IntKind} {n0:Int} {k1:IntKind} {n1:Int} {k2:IntKind} {n2:Int} {k3:IntKind} {n3:Int}:fillL (List.replicate 4 v) [(0,1, .int k0 n0),(1,1, .int k1 n1),(2,1, .int k2 n2),(3,1, .int k3 n3)]=some [.int k0 n0, .int k1 n1, .int k2 n2, .int k3 n3]:=rfl
theorem Po {v:Value} {k0:IntKind} {n0:Int} {k1:IntKind} {n1:Int} {k2:IntKind} {n2:Int} {k3:IntKind} {n3:Int} {k4:IntKind} {n4:Int}:fillL (List.replicate 5 v) [(0,1, .int k0 n0),(1,1, .int k1 n1),(2,1, .int k2 n2),(3,1, .int k3 n3),(4,1, .int k4 n4)]=some [.int k0 n0, .int k1 n1, .int k2 n2, .int k3 n3, .int k4 n4]:=rfl
theorem Pq {v:Value} {k0:IntKind} {n0:Int} {k1:IntKind} {n1:Int} {k2:IntKind} {n2:Int} {k3:IntKind} {n3:Int} {k4:IntKind} {n4:Int} {k5:IntKind} {n5:Int}:fillL (List.replicate 6 v) [(0,1, .int k0 n0),(1,1, .int k1 n1),(2,1, .int k2 n2),(3,1, .int k3 n3),(4,1, .int k4 n4),(5,1, .int k5 n5)]=some [.int k0 n0, .int k1 n1, .int k2 n2, .int k3 n3, .int k4 n4, .int k5 n5]:=rfl
theorem Pv {v:Value} {k0:IntKind} {n0:Int} {k1:IntKind} {n1:Int} {k2:IntKind} {n2:Int} {k3:IntKind} {n3:Int} {k4:IntKind} {n4:Int} {k5:IntKind} {n5:Int} {k6:IntKind} {n6:Int}:fillL (List.replicate 7 v) [(0,1, .int k0 n0),(1,1, .int k1 n1),(2,1, .int k2 n2),(3,1, .int k3 n3),(4,1, .int k4 n4),(5,1, .int k5 n5),(6,1, .int k6 n6)]=some [.int k0 n0, .int k1 n1, .int k2 n2, .int k3 n3, .int k4 n4, .int k5 n5, .int k6 n6]:=rfl
theorem Px {v:Value} {l0 e0:Nat} {c0:List Value}:fillL (List.replicate 1 v) [(0,1,Fz l0 e0 c0)]=some [Fz l0 e0 c0]:=rfl
theorem Py {v:Value} {l0 e0:Nat} {c0:List Value} {l1 e1:Nat} {c1:List Value}:fillL (List.replicate 2 v) [(0,1,Fz l0 e0 c0),(1,1,Fz l1 e1 c1)]=some [Fz l0 e0 c0,Fz l1 e1 c1]:=rfl
theorem Pz {v:Value} {l0 e0:Nat} {c0:List Value} {l1 e1:Nat} {c1:List Value} {l2 e2:Nat} {c2:List Value}:fillL (List.replicate 3 v) [(0,1,Fz l0 e0 c0),(1,1,Fz l1 e1 c1),(2,1,Fz l2 e2 c2)]=some [Fz l0 e0 c0,Fz l1 e1 c1,Fz l2 e2 c2]:=rfl
theorem PD {v:Value} {s0:ByteArray}:fillL (List.replicate 1 v) [(0,1, .string s0)]=some [.string s0]:=rfl
theorem PE {v:Value} {s0:ByteArray} {s1:ByteArray}:fillL (List.replicate 2 v) [(0,1, .string s0),(1,1, .string s1)]=some [.string s0, .string s1]:=rfl
theorem PG {v:Value} {s0:ByteArray} {s1:ByteArray} {s2:ByteArray}:fillL (List.replicate 3 v) [(0,1, .string s0),(1,1, .string s1),(2,1, .string s2)]=some [.string s0, .string s1, .string s2]:=rfl
theorem PK {v:Value} {a0:Option Addr} {l0 e0:Nat}:fillL (List.replicate 1 v) [(0,1, .slice a0 l0 e0)]=some [.slice a0 l0 e0]:=rfl
theorem PN {v:Value} {a0:Option Addr} {l0 e0:Nat} {a1:Option Addr} {l1 e1:Nat}:fillL (List.replicate 2 v) [(0,1, .slice a0 l0 e0),(1,1, .slice a1 l1 e1)]=some [.slice a0 l0 e0, .slice a1 l1 e1]:=rfl
theorem PO {v:Value} {a0:Option Addr} {l0 e0:Nat} {a1:Option Addr} {l1 e1:Nat} {a2:Option Addr} {l2 e2:Nat}:fillL (List.replicate 3 v) [(0,1, .slice a0 l0 e0),(1,1, .slice a1 l1 e1),(2,1, .slice a2 l2 e2)]=some [.slice a0 l0 e0, .slice a1 l1 e1, .slice a2 l2 e2]:=rfl
theorem PS {v:Value} {b0:Bool}:fillL (List.replicate 1 v) [(0,1, .bool b0)]=some [.bool b0]:=rfl
theorem PU {v:Value} {b0:Bool} {b1:Bool}:fillL (List.replicate 2 v) [(0,1, .bool b0),(1,1, .bool b1)]=some [.bool b0, .bool b1]:=rfl
theorem PV {v:Value} {b0:Bool} {b1:Bool} {b2:Bool}:fillL (List.replicate 3 v) [(0,1, .bool b0),(1,1, .bool b1),(2,1, .bool b2)]=some [.bool b0, .bool b1, .bool b2]:=rfl
theorem PW {v:Value} {n:Nat}:repl [v] n=List.replicate n v:=Gx v n
theorem xY {a b:Value} {l:List Value}:splice (a::l) 0 [b]=b::l:=rfl
theorem PX {a b:Value} {l:List Value} {n:Nat}:splice (a::l) (n+1) [b]=a::splice l n [b]:=rfl
theorem Bg {cs vs:List Value} (h:vs.length=cs.length):splice cs 0 vs=vs:=by
 simp [splice,h]
theorem Bh {k:IntKind} {n:Int}:cellsL (.int k n)=[.int k n]:=rfl
theorem PY {b:Bool}:cellsL (.bool b)=[.bool b]:=rfl
theorem PZ {b:ByteArray}:cellsL (.string b)=[.string b]:=rfl
theorem P5 {l e:Nat} {cs:List Value}:cellsL (Fz l e cs)=[Fz l e cs]:=rfl
theorem Bj {cs:List Value}:cellsL (aggL cs)=cs:=rfl
theorem P6 {a:Option Addr} {l e:Nat}:cellsL (.slice a l e)=[.slice a l e]:=rfl
theorem P7 {k:IntKind} {n:Int}:nj (.int k n)=true:=rfl
theorem P8 {b:Bool}:nj (.bool b)=true:=rfl
theorem P9 {b:ByteArray}:nj (.string b)=true:=rfl
theorem Qa {l e:Nat} {cs:List Value}:nj (Fz l e cs)=true:=rfl
theorem Qb {cs:List Value}:nj (aggL cs)=true:=rfl
theorem Qc {a:Option Addr} {l e:Nat}:nj (.slice a l e)=true:=rfl
theorem Qd {cs:List Value} {b o n:Nat} {c:Bool} (h:o+n≤cs.length):bQ (some cs) H b o n (aggL (List.replicate n (.bool c)))=some (undef,H.set b (some (splice cs o (List.replicate n (.bool c))))):=lU (by simp) (by simp [fF]) h
theorem Qe {cs:List Value} {b o n:Nat} {k:IntKind} {c:Int} (h:o+n≤cs.length):bQ (some cs) H b o n (aggL (List.replicate n (.int k c)))=some (undef,H.set b (some (splice cs o (List.replicate n (.int k c))))):=lU (by simp) (by simp [fF]) h
theorem Qg {cs:List Value} {b o n:Nat} {p:List Nat} (hp:p.length=n) (h:o+n≤cs.length):bQ (some cs) H b o n (aggL (p.map N8))=some (undef,H.set b (some (splice cs o (p.map N8)))):=lU (by simpa using hp) rX h
theorem Qh {cs:List Value} {b o n:Nat} {p:List Int} (hp:p.length=n) (h:o+n≤cs.length):bQ (some cs) H b o n (aggL (p.map I))=some (undef,H.set b (some (splice cs o (p.map I)))):=lU (by simpa using hp) OY h
theorem Qi {cs:List Value} {b o n:Nat} {p:List Bool} (hp:p.length=n) (h:o+n≤cs.length):bQ (some cs) H b o n (aggL (p.map B))=some (undef,H.set b (some (splice cs o (p.map B)))):=lU (by simpa using hp) Fj h
theorem Qj {n:Nat} {p:List Nat} (hp:p.length=n):getN (some n) (p.map N8) 0=some (PL p):=by
 rw [rW (by simp [hp]),List.drop_zero,List.take_of_length_le (by simp [hp])]
theorem Qk {n:Nat} {p:List Bool} (hp:p.length=n):getN (some n) (p.map B) 0=some (aggL (p.map B)):=by
 rw [rW (by simp [hp]),List.drop_zero,List.take_of_length_le (by simp [hp])]
theorem Ql {n:Nat} {p:List Int} (hp:p.length=n):getN (some n) (p.map I) 0=some (aggL (p.map I)):=by
 rw [rW (by simp [hp]),List.drop_zero,List.take_of_length_le (by simp [hp])]
theorem Qm {s:List Bool} {b o:Nat} {c:Bool} (h:o<s.length):bQ (some (s.map B)) H b o 1 (.bool c)=some (undef,H.set b (some ((s.set o c).map B))):=by
 rw [abK (by simpa using h),OX h]
theorem Qn {s:List Nat} {b o c:Nat} (h:o<s.length):bQ (some (s.map N8)) H b o 1 (.int .u8 (c:Int))=some (undef,H.set b (some ((s.set o c).map N8))):=by
 rw [nX (by simpa using h),OW h]
theorem Qo {s:List Int} {b o:Nat} {c:Int} (h:o<s.length):bQ (some (s.map I)) H b o 1 (.int .i64 c)=some (undef,H.set b (some ((s.set o c).map I))):=by
 rw [nX (by simpa using h),abJ h]
theorem sN {v:Value} {b n:Nat} {vs:List Value} (hp:vs.length=n) (h1:vs.all fF=true):bQ (some (List.replicate n v)) H b 0 n (aggL vs)=some (undef,H.set b (some vs)):=by
 rw [lU hp h1 (by simp),Bg (by simpa using hp)]
theorem Qp {v:Value} {b n:Nat} {p:List Nat} (hp:p.length=n):bQ (some (List.replicate n v)) H b 0 n (aggL (p.map N8))=some (undef,H.set b (some (p.map N8))):=sN (by simpa using hp) rX
theorem Qq {v:Value} {b n:Nat} {p:List Int} (hp:p.length=n):bQ (some (List.replicate n v)) H b 0 n (aggL (p.map I))=some (undef,H.set b (some (p.map I))):=sN (by simpa using hp) OY
theorem Qr {v:Value} {b n:Nat} {p:List Bool} (hp:p.length=n):bQ (some (List.replicate n v)) H b 0 n (aggL (p.map B))=some (undef,H.set b (some (p.map B))):=sN (by simpa using hp) Fj
theorem Qs {v:Value} {b n:Nat} {c:Bool}:bQ (some (List.replicate n v)) H b 0 n (aggL (List.replicate n (.bool c)))=some (undef,H.set b (some (List.replicate n (.bool c)))):=sN (by simp) (by simp [fF])
theorem DN {v:Value} {b n:Nat} {k:IntKind} {c:Int}:bQ (some (List.replicate n v)) H b 0 n (aggL (List.replicate n (.int k c)))=some (undef,H.set b (some (List.replicate n (.int k c)))):=sN (by simp) (by simp [fF])
theorem Qu {n:Nat} {c:Bool} (h:0<n):fillL (List.replicate n (.bool false)) [(0,1, .bool c)]=some (((List.replicate n false).set 0 c).map B):=by
 simp only [fillL,cellsL,List.length_singleton,List.length_replicate]
 rw [if_pos ⟨trivial,by omega⟩,show List.replicate n (Value.bool false)=(List.replicate n false).map B by simp,OX (by simpa using h)]
theorem abM {n:Nat} {c:Nat} (h:0<n):fillL (List.replicate n (.int .u8 0)) [(0,1, .int .u8 (c:Int))]=some (((List.replicate n 0).set 0 c).map N8):=by
 simp only [fillL,cellsL,List.length_singleton,List.length_replicate]
 rw [if_pos ⟨trivial,by omega⟩,show List.replicate n (Value.int .u8 0)=(List.replicate n 0).map N8 by simp,OW (by simpa using h)]
theorem Qv {n:Nat} (h:0<n):fillL (List.replicate n (.int .u8 0)) [(0,1, .int .u8 1)]=some (((List.replicate n 0).set 0 1).map N8):=abM (c:=1) h
theorem Qw {v:Value} {b n:Nat} {c:Bool}:bQ (some (List.replicate n v)) H b 0 n (aggL (((List.replicate n false).set 0 c).map B))=some (undef,H.set b (some (((List.replicate n false).set 0 c).map B))):=sN (by simp) Fj
theorem Qx {v:Value} {b n c:Nat}:bQ (some (List.replicate n v)) H b 0 n (aggL (((List.replicate n 0).set 0 c).map N8))=some (undef,H.set b (some (((List.replicate n 0).set 0 c).map N8))):=sN (by simp) rX
theorem Dv {n:Nat} {b:Bool}:List.replicate n (Value.bool b)=(List.replicate n b).map B:=by simp
theorem adQ {n m:Nat}:List.replicate n (Value.int .u8 (m:Int))=(List.replicate n m).map N8:=by simp
theorem adR {n:Nat} {m:Int}:List.replicate n (Value.int .i64 m)=(List.replicate n m).map I:=by simp
end
def app1 (y:Option (List Value)) (c:Option (List Value)) (H:BH) (b l bytes cn:Nat):Option (Value×BH):=
 match c,y with
 |some cs,some [v]=>if l≤cs.length∧(l+1)*bytes≤140737488355328∧fF v=true then some (S H.length 0 (l+1) 1,(H.set b none)++[some (cs.take l++[v])]) else none
 | _,_=>jl 1 bytes (S b 0 l 1) (S cn 0 1 1) H
theorem Qy {H:BH} {b c l bytes:Nat}:jl 1 bytes (S b 0 l 1) (S c 0 1 1) H=app1 (blk H c) (blk H b) H b l bytes c:=by
 unfold app1
 split
 ·rename_i cs v hb hc
  simp [jl,newC,hb,hc]
 ·rfl
section
variable {H:BH} {b bytes cn:Nat}
theorem xW {α:Type} {g:α→Value} {xs:List α} {y:α} (ho:fF (g y)=true) (h:(xs.length+1)*bytes≤140737488355328):app1 (some [g y]) (some (xs.map g)) H b xs.length bytes cn=some (S H.length 0 (xs.length+1) 1,(H.set b none)++[some ((xs++[y]).map g)]):=by
 simp only [app1]
 rw [if_pos ⟨by simp,h,ho⟩]
 simp [List.take_of_length_le]
theorem Qz {xs:List Nat} {y:Nat} (h:(xs.length+1)*bytes≤140737488355328):app1 (some [.int .u8 (y:Int)]) (some (xs.map N8)) H b xs.length bytes cn=some (S H.length 0 (xs.length+1) 1,(H.set b none)++[some ((xs++[y]).map N8)]):=xW (g:=N8) rfl h
theorem QA {xs:List Int} {y:Int} (h:(xs.length+1)*bytes≤140737488355328):app1 (some [.int .i64 y]) (some (xs.map I)) H b xs.length bytes cn=some (S H.length 0 (xs.length+1) 1,(H.set b none)++[some ((xs++[y]).map I)]):=xW (g:=I) rfl h
theorem QB {xs:List (List Int)} {y:List Int} (h:(xs.length+1)*bytes≤140737488355328):app1 (some [Fz y.length 1 (y.map I)]) (some (xs.map FI)) H b xs.length bytes cn=some (S H.length 0 (xs.length+1) 1,(H.set b none)++[some ((xs++[y]).map FI)]):=xW (g:=FI) rfl h
theorem adS {v:Value} (ho:fF v=true) (h:bytes≤140737488355328):app1 (some [v]) (some []) H b 0 bytes cn=some (S H.length 0 1 1,(H.set b none)++[some [v]]):=by
 simp only [app1]
 rw [if_pos ⟨by simp,by omega,ho⟩];rfl
end
theorem Fq {α:Type} {g:α→Value} {ns:List Nat} {xs:List α} (h: ∀a,pl1 (g a)=true):ren ns (aggL (xs.map g))=aggL (xs.map g):=by
 simp only [ren]
 rw [if_pos (all_map h)]
theorem QC {ns:List Nat} {p:List Nat}:ren ns (PL p)=PL p:=Fq fun _=>rfl
theorem QD {ns:List Nat} {p:List Bool}:ren ns (aggL (p.map B))=aggL (p.map B):=Fq fun _=>rfl
theorem QE {ns:List Nat} {p:List Int}:ren ns (aggL (p.map I))=aggL (p.map I):=Fq fun _=>rfl
theorem aN {k:Nat} {rs:List ARes} {K:Value→BH→Prop} {f:Fr} {H:BH} {vs:List Value} {v1:Value} {H1:BH} (h:resAll f H rs=some vs) (g:aF k (tup vs) H v1 H1) (hK:K v1 H1):lC k rs K .ret f H:=⟨vs,h,v1,H1,g,hK⟩
theorem rF {k:Nat} {rs:List ARes} {K:Value→BH→Prop} {f:Fr} {H:BH} {vs:List Value} {v1:Value} {H1:BH} (h:resAll f H rs=some vs) (g:aF k (tup vs) H v1 H1) (hK:K v1 H1):lC k rs K .normal f H:=⟨vs,h,v1,H1,g,hK⟩
theorem bD {k:Nat} {Q:Ex→Fr→BH→Prop} {f:Fr} {H:BH} {c:Opd} {a b r:ACode} {p:Prop} {t:Bool} (hc:ev f c= .bool t) (hp:t=true↔p) (h1:p→T k (.seq a r) Q f H) (h2: ¬p→T k (.seq b r) Q f H):T k (.seq (.cond c a b) r) Q f H:=by
 refine aQ hc ?_
 cases t
 ·exact h2 fun h=>by simpa using hp.2 h
 ·exact h1 (hp.1 rfl)
theorem QF {k:Nat} {Q:Ex→Fr→BH→Prop} {f:Fr} {H:BH} {c:Opd} {a b:ACode} {p:Prop} {t:Bool} (hc:ev f c= .bool t) (hp:t=true↔p) (h1:p→T k a Q f H) (h2: ¬p→T k b Q f H):T k (.cond c a b) Q f H:=by
 refine jw hc ?_
 cases t
 ·exact h2 fun h=>by simpa using hp.2 h
 ·exact h1 (hp.1 rfl)
def QG:ACode→Option Ex
 | .exit i=>some (.exit i)
 | .ret=>some .ret
 | .skip=>some .normal
 | _=>none
theorem aj {k:Nat} {Q:Ex→Fr→BH→Prop} {f:Fr} {H:BH} {c:ACode} {ex:Ex} (h:QG c=some ex) (hq:Q ex f H):T k c Q f H:=by
 cases c<;>simp only [QG,Option.some.injEq,reduceCtorEq] at h<;>subst h
 ·exact oL hq
 ·exact Hu hq
 ·exact Ci hq
def yj:List Nat→Bool
 |[]=>true
 |a::l=> !l.contains a&&yj l
theorem Fv: ∀{l:List Nat},yj l=true→l.Nodup
 |[],_=>List.nodup_nil
 |a::l,h=>by
  simp only [yj,Bool.and_eq_true,Bool.not_eq_true',List.contains_eq_mem,decide_eq_false_iff_not] at h
  exact List.nodup_cons.2 ⟨h.1,Fv h.2⟩
def uJ:Nat→Nat→List Nat→Bool
 | _,0,_=>true
 |j,k+1,a::ns=>Nat.beq a j&&uJ (j+1) k ns
 | _,_+1,[]=>false
theorem FC: ∀{j k:Nat} {ns:List Nat},uJ j k ns=true→ ∀i,i<k→ns[i]? =some (j+i)
 | _,0,_,_,i,hi=>absurd hi (Nat.not_lt_zero i)
 |j,k+1,[],h,_,_=>by simp [uJ] at h
 |j,k+1,a::ns,h,i,hi=>by
  simp only [uJ,Bool.and_eq_true] at h
  cases i with
  |zero=>simp [Nat.eq_of_beq_eq_true h.1]
  |succ i=>
   rw [List.getElem?_cons_succ,FC h.2 i (by omega)]
   simp
   omega
theorem Gh.nrm {k:Nat} {f:Fr} {H:BH} (ns:List Nat) (h1:yj ns=true) (h2:uJ 0 k ns=true) (hn:HN H):Gh k f H (fun t=>ren ns (f t)) (ns.map (blk H)):=
 Gh.norm ns (Fv h1) (fun j hj=>by rw [FC h2 j hj,Nat.zero_add]) hn
theorem aF.nrm {k:Nat} {v:Value} {H:BH} (ns:List Nat) (h1:yj ns=true) (h2:uJ 0 k ns=true) (hn:HN H) (hv:NN v):aF k v H v (ns.map (blk H)):=
 aF.norm ns (Fv h1) (fun j hj=>by rw [FC h2 j hj,Nat.zero_add]) hn hv
theorem QH:aP []=True:=eq_true aP.nil
theorem QI {c:Value} {cs:List Value}:aP (c::cs)=(NN c∧aP cs):=propext ⟨fun h=>⟨h c (by simp),fun x hx=>h x (by simp [hx])⟩,fun h=>aP.cons h.1 h.2⟩
theorem QJ:HN []=True:=eq_true HN.nil
theorem QK {H:BH}:HN (none::H)=HN H:=propext ⟨fun h i cs hc=>h (i+1) cs (by simpa [blk] using hc),HN.none⟩
theorem QL {H:BH} {c:List Value}:HN (some c::H)=(aP c∧HN H):=propext ⟨fun h=>⟨h 0 c rfl,fun i cs hc=>h (i+1) cs (by simpa [blk] using hc)⟩,fun h=>HN.cons h.1 h.2⟩
theorem dV {cs:List Value} (h:aP cs):NN (.agg ⟨cs⟩):=NN.agg h
theorem QM {cs:List Value} (h:aP cs):NN (.tuple ⟨cs⟩):=NN.tuple h
theorem QN {m:Nat} {cs:List Value} (h:aP cs):NN (.func (.func m) #[] ⟨cs⟩):=NN.func h
theorem QO {as bs:List Value} (h:aP as) (k:aP bs):aP (as++bs):=aP.append h k
theorem QS {n:Nat} {v:Value} (h:NN v):aP (List.replicate n v):=aP.replicate h
theorem AO {p:List Nat}:aP (p.map N8):=aP.map fun _=>NN.int
theorem AY {p:List Int}:aP (p.map I):=aP.map fun _=>NN.int
theorem QT {p:List Bool}:aP (p.map B):=aP.map fun _=>NN.bool
theorem Eu {p:List (List Int)}:aP (p.map FI):=aP.map fun _=>NN.fz
theorem QU {k:IntKind} {α:Type} {g:α→Int} {p:List α}:aP (p.map fun x=>Value.int k (g x)):=aP.map fun _=>NN.int
theorem QV {α:Type} {g:α→ByteArray} {p:List α}:aP (p.map fun x=>Value.string (g x)):=aP.map fun _=>NN.string
theorem RF:(type_of% @upd_apply)∧(type_of% @yE)∧(type_of% @yF)∧(type_of% @yG)∧(type_of% @yH)∧(type_of% @yD):=⟨@upd_apply, @yE, @yF, @yG, @yH, @yD⟩
theorem RO:(type_of% @vG)∧(type_of% @vH)∧(type_of% @vJ)∧(type_of% @vK)∧(type_of% @NI)∧(type_of% @Ns)∧(type_of% @ET)∧(type_of% @Nu)∧(type_of% @Nv)∧(type_of% @Nw)∧(type_of% @Ny)∧(type_of% @Nz)∧(type_of% @NC)∧(type_of% @ND)∧(type_of% @NG)∧(type_of% @NH)∧(type_of% @Bool.true_and)∧(type_of% @Bool.and_true)∧(type_of% @Bool.not_false)∧(type_of% @Bool.and_self)∧(type_of% @vM)∧(type_of% @vN)∧(type_of% @vO)∧(type_of% @vP)∧(type_of% @MW)∧(type_of% @vT)∧(type_of% @vU)∧(type_of% @vV)∧(type_of% @vW)∧(type_of% @MZ)∧(type_of% @wu)∧(type_of% @vX)∧(type_of% @Nl)∧(type_of% @EP)∧(type_of% @vY)∧(type_of% @vZ)∧(type_of% @wo)∧(type_of% @wz)∧(type_of% @ER)∧(type_of% @wB)∧(type_of% @EW)∧(type_of% @EX)∧(type_of% @EY)∧(type_of% @wE)∧(type_of% @wF)∧(type_of% @EZ)∧(type_of% @E5)∧(type_of% @E9)∧(type_of% @Ol)∧(type_of% @Fa)∧(type_of% @Oq)∧(type_of% @wC)∧(type_of% @Ox)∧(type_of% @Oy)∧(type_of% @uZ)∧(type_of% @vg)∧(type_of% @MG)∧(type_of% @yQ)∧(type_of% @yR)∧(type_of% @yT)∧(type_of% @yU)∧(type_of% @vk)∧(type_of% @MH)∧(type_of% @MI)∧(type_of% @MJ)∧(type_of% @MK)∧(type_of% @ML)∧(type_of% @MN)∧(type_of% @vw)∧(type_of% @yV)∧(type_of% @yX)∧(type_of% @MO)∧(type_of% @MP)∧(type_of% @MQ)∧(type_of% @MR)∧(type_of% @MV)∧(type_of% @yY)∧(type_of% @yZ)∧(type_of% @y5)∧(type_of% @y7)∧(type_of% @y8)∧(type_of% @zf)∧(type_of% @zh)∧(type_of% @Na)∧(type_of% @Nb)∧(type_of% @Nc)∧(type_of% @Nh)∧(type_of% @Nk)∧(type_of% @zi)∧(type_of% @ext1)∧(type_of% @Em)∧(type_of% @Ep)∧(type_of% @En)∧(type_of% @Nr)∧(type_of% @NZ)∧(type_of% @N7)∧(type_of% @N9)∧(type_of% @Oa)∧(type_of% @Ob)∧(type_of% @Oc)∧(type_of% @Oe)∧(type_of% @Og)∧(type_of% @Oi)∧(type_of% @Oj)∧(type_of% @QW)∧(type_of% @Om)∧(type_of% @Oo)∧(type_of% @zq)∧(type_of% @zu)∧(type_of% @zy)∧(type_of% @zA)∧(type_of% @zB)∧(type_of% @zC)∧(type_of% @zD)∧(type_of% @zF)∧(type_of% @zG)∧(type_of% @zH)∧(type_of% @zI)∧(type_of% @zJ)∧(type_of% @zK)∧(type_of% @Hf)∧(type_of% @Hg)∧(type_of% @Hl)∧(type_of% @Ho)∧(type_of% @Oz)∧(type_of% @OA)∧(type_of% @OB)∧(type_of% @OC)∧(type_of% @OD)∧(type_of% @OE)∧(type_of% @OG)∧(type_of% @OH)∧(type_of% @OI)∧(type_of% @OJ)∧(type_of% @OL)∧(type_of% @OM)∧(type_of% @OO)∧(type_of% @OQ)∧(type_of% @Qy)∧(type_of% @OZ)∧(type_of% @O1)∧(type_of% @O4)∧(type_of% @O5)∧(type_of% @O6)∧(type_of% @O7)∧(type_of% @O8)∧(type_of% @Pg)∧(type_of% @PW)∧(type_of% @Ph)∧(type_of% @Pj)∧(type_of% @Pm)∧(type_of% @Pn)∧(type_of% @Po)∧(type_of% @Pq)∧(type_of% @Pv)∧(type_of% @Px)∧(type_of% @Py)∧(type_of% @Pz)∧(type_of% @PD)∧(type_of% @PE)∧(type_of% @PG)∧(type_of% @PK)∧(type_of% @PN)∧(type_of% @PO)∧(type_of% @PS)∧(type_of% @PU)∧(type_of% @PV)∧(type_of% @Bh)∧(type_of% @PY)∧(type_of% @PZ)∧(type_of% @P5)∧(type_of% @Bj)∧(type_of% @P6)∧(type_of% @P7)∧(type_of% @P8)∧(type_of% @P9)∧(type_of% @Qa)∧(type_of% @Qb)∧(type_of% @Qc)∧(type_of% @xY)∧(type_of% @PX)∧(type_of% @List.replicate_zero.{0})∧(type_of% @id_eq.{1}):=⟨@vG, @vH, @vJ, @vK, @NI, @Ns, @ET, @Nu, @Nv, @Nw, @Ny, @Nz, @NC, @ND, @NG, @NH, @Bool.true_and, @Bool.and_true, @Bool.not_false, @Bool.and_self, @vM, @vN, @vO, @vP, @MW, @vT, @vU, @vV, @vW, @MZ, @wu, @vX, @Nl, @EP, @vY, @vZ, @wo, @wz, @ER, @wB, @EW, @EX, @EY, @wE, @wF, @EZ, @E5, @E9, @Ol, @Fa, @Oq, @wC, @Ox, @Oy, @uZ, @vg, @MG, @yQ, @yR, @yT, @yU, @vk, @MH, @MI, @MJ, @MK, @ML, @MN, @vw, @yV, @yX, @MO, @MP, @MQ, @MR, @MV, @yY, @yZ, @y5, @y7, @y8, @zf, @zh, @Na, @Nb, @Nc, @Nh, @Nk, @zi, @ext1, @Em, @Ep, @En, @Nr, @NZ, @N7, @N9, @Oa, @Ob, @Oc, @Oe, @Og, @Oi, @Oj, @QW, @Om, @Oo, @zq, @zu, @zy, @zA, @zB, @zC, @zD, @zF, @zG, @zH, @zI, @zJ, @zK, @Hf, @Hg, @Hl, @Ho, @Oz, @OA, @OB, @OC, @OD, @OE, @OG, @OH, @OI, @OJ, @OL, @OM, @OO, @OQ, @Qy, @OZ, @O1, @O4, @O5, @O6, @O7, @O8, @Pg, @PW, @Ph, @Pj, @Pm, @Pn, @Po, @Pq, @Pv, @Px, @Py, @Pz, @PD, @PE, @PG, @PK, @PN, @PO, @PS, @PU, @PV, @Bh, @PY, @PZ, @P5, @Bj, @P6, @P7, @P8, @P9, @Qa, @Qb, @Qc, @xY, @PX, @List.replicate_zero.{0}, @id_eq.{1}⟩
theorem RC:(type_of% @List.map_cons.{0,0})∧(type_of% @List.map_nil.{0,0})∧(type_of% @Option.map_some.{0,0})∧(type_of% @Option.map_none.{0,0})∧(type_of% @ge_iff_le.{0})∧(type_of% @gt_iff_lt.{0})∧(type_of% @decide_eq_true_eq)∧(type_of% @beq_self_eq_true.{0})∧(type_of% @bne_self_eq_false.{0})∧(type_of% @decide_true)∧(type_of% @decide_false)∧(type_of% @Bool.not_true)∧(type_of% @Bool.not_false)∧(type_of% @and_true)∧(type_of% @true_and)∧(type_of% @and_self)∧(type_of% @Bool.false_eq_true)∧(type_of% @beq_iff_eq.{0})∧(type_of% @Int.natCast_nonneg)∧(type_of% @Int.ofNat_lt)∧(type_of% @Int.ofNat_le)∧(type_of% @Int.ofNat_inj)∧(type_of% @Int.toNat_natCast)∧(type_of% @Nat.mul_one)∧(type_of% @Nat.one_mul)∧(type_of% @Nat.zero_add)∧(type_of% @Nat.add_zero)∧(type_of% @Nat.sub_zero)∧(type_of% @List.length_append.{0})∧(type_of% @List.length_map.{0,0})∧(type_of% @List.length_cons.{0})∧(type_of% @List.length_nil.{0})∧(type_of% @List.length_set.{0})∧(type_of% @List.length_replicate.{0})∧(type_of% @List.all_cons.{0})∧(type_of% @List.all_nil.{0})∧(type_of% @Bool.and_true)∧(type_of% @Bool.true_and)∧(type_of% @Bool.not_eq_true)∧(type_of% @beq_true)∧(type_of% @beq_false)∧(type_of% @true_implies)∧(type_of% @false_implies)∧(type_of% @decide_eq_false_iff_not)∧(type_of% @bne_iff_ne.{0})∧(type_of% @ne_eq.{1})∧(type_of% @not_true_eq_false)∧(type_of% @not_false_eq_true)∧(type_of% @Int.natCast_zero)∧(type_of% @Int.toNat_zero)∧(type_of% @List.cons_append.{0})∧(type_of% @List.nil_append.{0})∧(type_of% @List.set_cons_zero.{0})∧(type_of% @List.set_cons_succ.{0}):=⟨@List.map_cons.{0,0}, @List.map_nil.{0,0}, @Option.map_some.{0,0}, @Option.map_none.{0,0}, @ge_iff_le.{0}, @gt_iff_lt.{0}, @decide_eq_true_eq, @beq_self_eq_true.{0}, @bne_self_eq_false.{0}, @decide_true, @decide_false, @Bool.not_true, @Bool.not_false, @and_true, @true_and, @and_self, @Bool.false_eq_true, @beq_iff_eq.{0}, @Int.natCast_nonneg, @Int.ofNat_lt, @Int.ofNat_le, @Int.ofNat_inj, @Int.toNat_natCast, @Nat.mul_one, @Nat.one_mul, @Nat.zero_add, @Nat.add_zero, @Nat.sub_zero, @List.length_append.{0}, @List.length_map.{0,0}, @List.length_cons.{0}, @List.length_nil.{0}, @List.length_set.{0}, @List.length_replicate.{0}, @List.all_cons.{0}, @List.all_nil.{0}, @Bool.and_true, @Bool.true_and, @Bool.not_eq_true, @beq_true, @beq_false, @true_implies, @false_implies, @decide_eq_false_iff_not, @bne_iff_ne.{0}, @ne_eq.{1}, @not_true_eq_false, @not_false_eq_true, @Int.natCast_zero, @Int.toNat_zero, @List.cons_append.{0}, @List.nil_append.{0}, @List.set_cons_zero.{0}, @List.set_cons_succ.{0}⟩
theorem RD:(type_of% @yI)∧(type_of% @yJ)∧(type_of% @uT)∧(type_of% @w8)∧(type_of% @yK)∧(type_of% @yL)∧(type_of% @yM)∧(type_of% @yN)∧(type_of% @yO)∧(type_of% @yP)∧(type_of% @Ej)∧(type_of% @Eo)∧(type_of% @Np)∧(type_of% @Nq)∧(type_of% @OU)∧(type_of% @AX)∧(type_of% @Fh)∧(type_of% @OV)∧(type_of% @Qm)∧(type_of% @Qn)∧(type_of% @Qo)∧(type_of% @O9)∧(type_of% @Oh)∧(type_of% @Qz)∧(type_of% @QA)∧(type_of% @QB)∧(type_of% @Qu)∧(type_of% @Qv)∧(type_of% @Qw)∧(type_of% @Qx)∧(type_of% @Bg)∧(type_of% @Qs)∧(type_of% @DN)∧(type_of% @Qp)∧(type_of% @Qq)∧(type_of% @Qr)∧(type_of% @Qd)∧(type_of% @Qe)∧(type_of% @Qg)∧(type_of% @Qh)∧(type_of% @Qi)∧(type_of% @Qj)∧(type_of% @Qk)∧(type_of% @Ql)∧(type_of% @Fe)∧(type_of% @Fg)∧(type_of% @Ot):=⟨@yI, @yJ, @uT, @w8, @yK, @yL, @yM, @yN, @yO, @yP, @Ej, @Eo, @Np, @Nq, @OU, @AX, @Fh, @OV, @Qm, @Qn, @Qo, @O9, @Oh, @Qz, @QA, @QB, @Qu, @Qv, @Qw, @Qx, @Bg, @Qs, @DN, @Qp, @Qq, @Qr, @Qd, @Qe, @Qg, @Qh, @Qi, @Qj, @Qk, @Ql, @Fe, @Fg, @Ot⟩
theorem RK:(type_of% @NM)∧(type_of% @NK)∧(type_of% @NP)∧(type_of% @NQ)∧(type_of% @NR)∧(type_of% @NS)∧(type_of% @NT)∧(type_of% @NY)∧(type_of% @NU)∧(type_of% @EU)∧(type_of% @NV)∧(type_of% @NW):=⟨@NM, @NK, @NP, @NQ, @NR, @NS, @NT, @NY, @NU, @EU, @NV, @NW⟩
theorem RZ:(type_of% @QX)∧(type_of% @QY)∧(type_of% @QZ)∧(type_of% @Q8)∧(type_of% @Q9)∧(type_of% @Rf)∧(type_of% @Rh)∧(type_of% @List.map_cons.{0,0})∧(type_of% @List.map_nil.{0,0})∧(type_of% @List.set_cons_zero.{0})∧(type_of% @List.set_cons_succ.{0}):=⟨@QX, @QY, @QZ, @Q8, @Q9, @Rf, @Rh, @List.map_cons.{0,0}, @List.map_nil.{0,0}, @List.set_cons_zero.{0}, @List.set_cons_succ.{0}⟩
theorem RN:(type_of% @aA)∧(type_of% @uU)∧(type_of% @uV)∧(type_of% @uX)∧(type_of% @if_true.{1})∧(type_of% @if_false.{1})∧(type_of% @Bool.false_eq_true):=⟨@aA, @uU, @uV, @uX, @if_true.{1}, @if_false.{1}, @Bool.false_eq_true⟩
theorem RA:(type_of% @RF)∧(type_of% @RO)∧(type_of% @RC):=⟨@RF, @RO, @RC⟩
theorem RB:(type_of% @decide_eq_true_eq)∧(type_of% @Bool.or_eq_true)∧(type_of% @Bool.and_eq_true)∧(type_of% @Bool.not_eq_true')∧(type_of% @decide_eq_false_iff_not)∧(type_of% @Bool.not_eq_eq_eq_not)∧(type_of% @Bool.not_true)∧(type_of% @Bool.not_false)∧(type_of% @beq_iff_eq.{0})∧(type_of% @Bool.false_eq_true):=⟨@decide_eq_true_eq, @Bool.or_eq_true, @Bool.and_eq_true, @Bool.not_eq_true', @decide_eq_false_iff_not, @Bool.not_eq_eq_eq_not, @Bool.not_true, @Bool.not_false, @beq_iff_eq.{0}, @Bool.false_eq_true⟩
theorem RE:(type_of% @QC)∧(type_of% @QD)∧(type_of% @QE):=⟨@QC, @QD, @QE⟩
theorem RH:(type_of% @QH)∧(type_of% @QI)∧(type_of% @QJ)∧(type_of% @QK)∧(type_of% @QL)∧(type_of% @dV)∧(type_of% @QM)∧(type_of% @QN)∧(type_of% @QO)∧(type_of% @QS)∧(type_of% @AO)∧(type_of% @AY)∧(type_of% @QT)∧(type_of% @Eu)∧(type_of% @QU)∧(type_of% @QV)∧(type_of% @NN.int)∧(type_of% @NN.bool)∧(type_of% @NN.string)∧(type_of% @NN.nil)∧(type_of% @NN.undef)∧(type_of% @NN.fz)∧(type_of% @and_true)∧(type_of% @true_and)∧(type_of% @and_self):=⟨@QH, @QI, @QJ, @QK, @QL, @dV, @QM, @QN, @QO, @QS, @AO, @AY, @QT, @Eu, @QU, @QV, @NN.int, @NN.bool, @NN.string, @NN.nil, @NN.undef, @NN.fz, @and_true, @true_and, @and_self⟩
theorem aG {k:Nat} {Q:Ex→Fr→BH→Prop} {f:Fr} {H:BH} {d:Option Nat} {l:List AOper} {b:ACode} {f1:Fr} {H1:BH} {p:Prop} (hp:p) (h: ∀K:Fr→BH→Prop,K f1 H1→opsT d l K f H:=by intro _ h;simp (disch:=omega) only [RA,↓reduceIte,Nat.reduceEqDiff,Nat.reduceBEq,Nat.reduceSub,Nat.reduceAdd,Nat.reduceMul,Nat.reduceLT,Nat.reduceLeDiff,Int.reduceLE,Int.reduceLT,Int.reduceEq,Int.reduceNeg,Int.reduceToNat,Int.reduceMul,Int.reduceAdd,Int.reduceSub,Int.reduceBEq,Int.reduceBNe,reduceCtorEq,RD];exact h) (e:p→T k b Q f1 H1:=by intro h;(try simp only [RN,reduceIte]);first|exact aj rfl h|exact h):T k (.seq (.region d l) b) Q f H:=au fun _ hK=>h _ (hK _ _ (e hp))
theorem aC {k:Nat} {Q:Ex→Fr→BH→Prop} {f:Fr} {H:BH} {d:Option Nat} {l:List AOper} {b:ACode} {f1:Fr} {H1:BH} {p:Prop} {A:Prop} (a:A) (hp:p) (h:A→ ∀K:Fr→BH→Prop,K f1 H1→opsT d l K f H:=by intro q;intro _ h;simp (disch:=omega) only [RA,↓reduceIte,Nat.reduceEqDiff,Nat.reduceBEq,Nat.reduceSub,Nat.reduceAdd,Nat.reduceMul,Nat.reduceLT,Nat.reduceLeDiff,Int.reduceLE,Int.reduceLT,Int.reduceEq,Int.reduceNeg,Int.reduceToNat,Int.reduceMul,Int.reduceAdd,Int.reduceSub,Int.reduceBEq,Int.reduceBNe,reduceCtorEq,RD,q];exact h) (e:p→T k b Q f1 H1:=by intro h;(try simp only [RN,reduceIte]);first|exact aj rfl h|exact h):T k (.seq (.region d l) b) Q f H:=au fun _ hK=>(h a) _ (hK _ _ (e hp))
theorem lH {k:Nat} {Q:Ex→Fr→BH→Prop} {f:Fr} {H:BH} {d:Option Nat} {l:List AOper} {b:ACode} {G:(Fr→BH→Prop)→Prop} (g: ∀K:Fr→BH→Prop,(∀f1 H1,T k b Q f1 H1→K f1 H1)→G K) (h: ∀K:Fr→BH→Prop,G K→opsT d l K f H:=by intro _ h;simp (disch:=omega) only [RA,↓reduceIte,Nat.reduceEqDiff,Nat.reduceBEq,Nat.reduceSub,Nat.reduceAdd,Nat.reduceMul,Nat.reduceLT,Nat.reduceLeDiff,Int.reduceLE,Int.reduceLT,Int.reduceEq,Int.reduceNeg,Int.reduceToNat,Int.reduceMul,Int.reduceAdd,Int.reduceSub,Int.reduceBEq,Int.reduceBNe,reduceCtorEq,RD];exact h):T k (.seq (.region d l) b) Q f H:=au fun K hK=>h K (g K hK)
theorem iG {k:Nat} {Q:Ex→Fr→BH→Prop} {f:Fr} {H:BH} {d:Option Nat} {l:List AOper} {b:ACode} {G:(Fr→BH→Prop)→Prop} {A:Prop} (a:A) (g: ∀K:Fr→BH→Prop,(∀f1 H1,T k b Q f1 H1→K f1 H1)→G K) (h:A→ ∀K:Fr→BH→Prop,G K→opsT d l K f H:=by intro q;intro _ h;simp (disch:=omega) only [RA,↓reduceIte,Nat.reduceEqDiff,Nat.reduceBEq,Nat.reduceSub,Nat.reduceAdd,Nat.reduceMul,Nat.reduceLT,Nat.reduceLeDiff,Int.reduceLE,Int.reduceLT,Int.reduceEq,Int.reduceNeg,Int.reduceToNat,Int.reduceMul,Int.reduceAdd,Int.reduceSub,Int.reduceBEq,Int.reduceBNe,reduceCtorEq,RD,q];exact h):T k (.seq (.region d l) b) Q f H:=au fun K hK=>(h a) K (g K hK)
theorem KO {k:Nat} {Q:Ex→Fr→BH→Prop} {f:Fr} {H:BH} {d:Option Nat} {l:List AOper} {f1:Fr} {H1:BH} (hp:Q .normal f1 H1) (h: ∀K:Fr→BH→Prop,K f1 H1→opsT d l K f H:=by intro _ h;simp (disch:=omega) only [RA,↓reduceIte,Nat.reduceEqDiff,Nat.reduceBEq,Nat.reduceSub,Nat.reduceAdd,Nat.reduceMul,Nat.reduceLT,Nat.reduceLeDiff,Int.reduceLE,Int.reduceLT,Int.reduceEq,Int.reduceNeg,Int.reduceToNat,Int.reduceMul,Int.reduceAdd,Int.reduceSub,Int.reduceBEq,Int.reduceBNe,reduceCtorEq,RD];exact h):T k (.region d l) Q f H:=bK fun _ hK=>h _ (hK _ _ hp)
theorem dw {k:Nat} {Q:Ex→Fr→BH→Prop} {f:Fr} {H:BH} {d:Option Nat} {l:List AOper} {f1:Fr} {H1:BH} {A:Prop} (a:A) (hp:Q .normal f1 H1) (h:A→ ∀K:Fr→BH→Prop,K f1 H1→opsT d l K f H:=by intro q;intro _ h;simp (disch:=omega) only [RA,↓reduceIte,Nat.reduceEqDiff,Nat.reduceBEq,Nat.reduceSub,Nat.reduceAdd,Nat.reduceMul,Nat.reduceLT,Nat.reduceLeDiff,Int.reduceLE,Int.reduceLT,Int.reduceEq,Int.reduceNeg,Int.reduceToNat,Int.reduceMul,Int.reduceAdd,Int.reduceSub,Int.reduceBEq,Int.reduceBNe,reduceCtorEq,RD,q];exact h):T k (.region d l) Q f H:=bK fun _ hK=>(h a) _ (hK _ _ hp)
theorem dI {p q:Prop} (hp:p) (e:(p→q):=by intro h;simp (disch:=omega) only [RA,↓reduceIte,Nat.reduceEqDiff,Nat.reduceBEq,Nat.reduceSub,Nat.reduceAdd,Nat.reduceMul,Nat.reduceLT,Nat.reduceLeDiff,Int.reduceLE,Int.reduceLT,Int.reduceEq,Int.reduceNeg,Int.reduceToNat,Int.reduceMul,Int.reduceAdd,Int.reduceSub,Int.reduceBEq,Int.reduceBNe,reduceCtorEq,RD];exact h):q:=e hp
theorem uf {p q:Prop} {A:Prop} (a:A) (hp:p) (e:A→(p→q):=by intro q;intro h;simp (disch:=omega) only [RA,↓reduceIte,Nat.reduceEqDiff,Nat.reduceBEq,Nat.reduceSub,Nat.reduceAdd,Nat.reduceMul,Nat.reduceLT,Nat.reduceLeDiff,Int.reduceLE,Int.reduceLT,Int.reduceEq,Int.reduceNeg,Int.reduceToNat,Int.reduceMul,Int.reduceAdd,Int.reduceSub,Int.reduceBEq,Int.reduceBNe,reduceCtorEq,RD,q];exact h):q:=(e a) hp
theorem pF {k:Nat} {Q:Ex→Fr→BH→Prop} {f:Fr} {H:BH} {c:Opd} {a1 b1 r:ACode} {p:Prop} (hp:p) (h:ev f c= .bool true:=by simp (disch:=omega) only [RA,↓reduceIte,Nat.reduceEqDiff,Nat.reduceBEq,Nat.reduceSub,Nat.reduceAdd,Nat.reduceMul,Nat.reduceLT,Nat.reduceLeDiff,Int.reduceLE,Int.reduceLT,Int.reduceEq,Int.reduceNeg,Int.reduceToNat,Int.reduceMul,Int.reduceAdd,Int.reduceSub,Int.reduceBEq,Int.reduceBNe,reduceCtorEq,RD]) (e:p→T k (.seq a1 r) Q f H:=by intro h;(try simp only [RN,reduceIte]);first|exact aj rfl h|exact h):T k (.seq (.cond c a1 b1) r) Q f H:=aQ (t:=true) h (e hp)
theorem aa4 {k:Nat} {Q:Ex→Fr→BH→Prop} {f:Fr} {H:BH} {c:Opd} {a1 b1 r:ACode} {p:Prop} {A:Prop} (a:A) (hp:p) (h:A→ev f c= .bool true:=by intro q;simp (disch:=omega) only [RA,↓reduceIte,Nat.reduceEqDiff,Nat.reduceBEq,Nat.reduceSub,Nat.reduceAdd,Nat.reduceMul,Nat.reduceLT,Nat.reduceLeDiff,Int.reduceLE,Int.reduceLT,Int.reduceEq,Int.reduceNeg,Int.reduceToNat,Int.reduceMul,Int.reduceAdd,Int.reduceSub,Int.reduceBEq,Int.reduceBNe,reduceCtorEq,RD,q]) (e:p→T k (.seq a1 r) Q f H:=by intro h;(try simp only [RN,reduceIte]);first|exact aj rfl h|exact h):T k (.seq (.cond c a1 b1) r) Q f H:=aQ (t:=true) (h a) (e hp)
theorem jG {k:Nat} {Q:Ex→Fr→BH→Prop} {f:Fr} {H:BH} {c:Opd} {a1 b1 r:ACode} {p:Prop} (hp:p) (h:ev f c= .bool false:=by simp (disch:=omega) only [RA,↓reduceIte,Nat.reduceEqDiff,Nat.reduceBEq,Nat.reduceSub,Nat.reduceAdd,Nat.reduceMul,Nat.reduceLT,Nat.reduceLeDiff,Int.reduceLE,Int.reduceLT,Int.reduceEq,Int.reduceNeg,Int.reduceToNat,Int.reduceMul,Int.reduceAdd,Int.reduceSub,Int.reduceBEq,Int.reduceBNe,reduceCtorEq,RD]) (e:p→T k (.seq b1 r) Q f H:=by intro h;(try simp only [RN,reduceIte]);first|exact aj rfl h|exact h):T k (.seq (.cond c a1 b1) r) Q f H:=aQ (t:=false) h (e hp)
theorem KR {k:Nat} {Q:Ex→Fr→BH→Prop} {f:Fr} {H:BH} {c:Opd} {a1 b1 r:ACode} {p:Prop} {A:Prop} (a:A) (hp:p) (h:A→ev f c= .bool false:=by intro q;simp (disch:=omega) only [RA,↓reduceIte,Nat.reduceEqDiff,Nat.reduceBEq,Nat.reduceSub,Nat.reduceAdd,Nat.reduceMul,Nat.reduceLT,Nat.reduceLeDiff,Int.reduceLE,Int.reduceLT,Int.reduceEq,Int.reduceNeg,Int.reduceToNat,Int.reduceMul,Int.reduceAdd,Int.reduceSub,Int.reduceBEq,Int.reduceBNe,reduceCtorEq,RD,q]) (e:p→T k (.seq b1 r) Q f H:=by intro h;(try simp only [RN,reduceIte]);first|exact aj rfl h|exact h):T k (.seq (.cond c a1 b1) r) Q f H:=aQ (t:=false) (h a) (e hp)
theorem bP {k:Nat} {Q:Ex→Fr→BH→Prop} {f:Fr} {H:BH} {c:Opd} {a1 b1 r:ACode} {t:Bool} {p1 p2:Prop} (p:Prop) (h1:p→p1) (h2: ¬p→p2) (h:ev f c= .bool t:=by simp only [RA,↓reduceIte,Nat.reduceEqDiff,Nat.reduceBEq,Nat.reduceSub,Nat.reduceAdd,Nat.reduceMul,Nat.reduceLT,Nat.reduceLeDiff,Int.reduceLE,Int.reduceLT,Int.reduceEq,Int.reduceNeg,Int.reduceToNat,Int.reduceMul,Int.reduceAdd,Int.reduceSub,Int.reduceBEq,Int.reduceBNe,reduceCtorEq]<;>rfl) (hp:t=true↔p:=by (try simp only [RB])<;>first|done|exact Iff.rfl|omega|simp) (e1:p→p1→T k (.seq a1 r) Q f H:=by intro hc h;(try simp only [RN,reduceIte]);first|exact aj rfl h|exact h) (e2: ¬p→p2→T k (.seq b1 r) Q f H:=by intro hc h;(try simp only [RN,reduceIte]);first|exact aj rfl h|exact h):T k (.seq (.cond c a1 b1) r) Q f H:=bD h hp (fun h=>e1 h (h1 h)) fun h=>e2 h (h2 h)
theorem adT {k:Nat} {Q:Ex→Fr→BH→Prop} {f:Fr} {H:BH} {c:Opd} {a1 b1 r:ACode} {t:Bool} {p1 p2:Prop} {A:Prop} (a:A) (p:Prop) (h1:p→p1) (h2: ¬p→p2) (h:A→ev f c= .bool t:=by intro q;simp only [RA,↓reduceIte,Nat.reduceEqDiff,Nat.reduceBEq,Nat.reduceSub,Nat.reduceAdd,Nat.reduceMul,Nat.reduceLT,Nat.reduceLeDiff,Int.reduceLE,Int.reduceLT,Int.reduceEq,Int.reduceNeg,Int.reduceToNat,Int.reduceMul,Int.reduceAdd,Int.reduceSub,Int.reduceBEq,Int.reduceBNe,reduceCtorEq,q]<;>rfl) (hp:t=true↔p:=by (try simp only [RB])<;>first|done|exact Iff.rfl|omega|simp) (e1:p→p1→T k (.seq a1 r) Q f H:=by intro hc h;(try simp only [RN,reduceIte]);first|exact aj rfl h|exact h) (e2: ¬p→p2→T k (.seq b1 r) Q f H:=by intro hc h;(try simp only [RN,reduceIte]);first|exact aj rfl h|exact h):T k (.seq (.cond c a1 b1) r) Q f H:=bD (h a) hp (fun h=>e1 h (h1 h)) fun h=>e2 h (h2 h)
theorem Ey {k:Nat} {Q:Ex→Fr→BH→Prop} {f:Fr} {H:BH} {c:Opd} {a1 b1:ACode} {t:Bool} {p1 p2:Prop} (p:Prop) (h1:p→p1) (h2: ¬p→p2) (h:ev f c= .bool t:=by simp only [RA,↓reduceIte,Nat.reduceEqDiff,Nat.reduceBEq,Nat.reduceSub,Nat.reduceAdd,Nat.reduceMul,Nat.reduceLT,Nat.reduceLeDiff,Int.reduceLE,Int.reduceLT,Int.reduceEq,Int.reduceNeg,Int.reduceToNat,Int.reduceMul,Int.reduceAdd,Int.reduceSub,Int.reduceBEq,Int.reduceBNe,reduceCtorEq]<;>rfl) (hp:t=true↔p:=by (try simp only [RB])<;>first|done|exact Iff.rfl|omega|simp) (e1:p→p1→T k (a1) Q f H:=by intro hc h;(try simp only [RN,reduceIte]);first|exact aj rfl h|exact h) (e2: ¬p→p2→T k (b1) Q f H:=by intro hc h;(try simp only [RN,reduceIte]);first|exact aj rfl h|exact h):T k (.cond c a1 b1) Q f H:=QF h hp (fun h=>e1 h (h1 h)) fun h=>e2 h (h2 h)
theorem adU {k:Nat} {Q:Ex→Fr→BH→Prop} {f:Fr} {H:BH} {c:Opd} {a1 b1:ACode} {t:Bool} {p1 p2:Prop} {A:Prop} (a:A) (p:Prop) (h1:p→p1) (h2: ¬p→p2) (h:A→ev f c= .bool t:=by intro q;simp only [RA,↓reduceIte,Nat.reduceEqDiff,Nat.reduceBEq,Nat.reduceSub,Nat.reduceAdd,Nat.reduceMul,Nat.reduceLT,Nat.reduceLeDiff,Int.reduceLE,Int.reduceLT,Int.reduceEq,Int.reduceNeg,Int.reduceToNat,Int.reduceMul,Int.reduceAdd,Int.reduceSub,Int.reduceBEq,Int.reduceBNe,reduceCtorEq,q]<;>rfl) (hp:t=true↔p:=by (try simp only [RB])<;>first|done|exact Iff.rfl|omega|simp) (e1:p→p1→T k (a1) Q f H:=by intro hc h;(try simp only [RN,reduceIte]);first|exact aj rfl h|exact h) (e2: ¬p→p2→T k (b1) Q f H:=by intro hc h;(try simp only [RN,reduceIte]);first|exact aj rfl h|exact h):T k (.cond c a1 b1) Q f H:=QF (h a) hp (fun h=>e1 h (h1 h)) fun h=>e2 h (h2 h)
theorem dG {k:Nat} {f:Fr} {H:BH} {rs:List ARes} {K:Value→BH→Prop} {vs:List Value} {p:Prop} (hp:p) (h:resAll f H rs=some vs:=by simp (disch:=omega) only [RA,↓reduceIte,Nat.reduceEqDiff,Nat.reduceBEq,Nat.reduceSub,Nat.reduceAdd,Nat.reduceMul,Nat.reduceLT,Nat.reduceLeDiff,Int.reduceLE,Int.reduceLT,Int.reduceEq,Int.reduceNeg,Int.reduceToNat,Int.reduceMul,Int.reduceAdd,Int.reduceSub,Int.reduceBEq,Int.reduceBNe,reduceCtorEq,RD,resAll,resOf];rfl) (e:p→K (tup vs) H:=by intro h;simp only [tup];exact h):lC k rs K .ret f H:=aN h .refl (e hp)
theorem lZ {k:Nat} {f:Fr} {H:BH} {rs:List ARes} {K:Value→BH→Prop} {vs:List Value} {p:Prop} {A:Prop} (a:A) (hp:p) (h:A→resAll f H rs=some vs:=by intro q;simp (disch:=omega) only [RA,↓reduceIte,Nat.reduceEqDiff,Nat.reduceBEq,Nat.reduceSub,Nat.reduceAdd,Nat.reduceMul,Nat.reduceLT,Nat.reduceLeDiff,Int.reduceLE,Int.reduceLT,Int.reduceEq,Int.reduceNeg,Int.reduceToNat,Int.reduceMul,Int.reduceAdd,Int.reduceSub,Int.reduceBEq,Int.reduceBNe,reduceCtorEq,RD,resAll,resOf,q];rfl) (e:p→K (tup vs) H:=by intro h;simp only [tup];exact h):lC k rs K .ret f H:=aN (h a) .refl (e hp)
theorem adV {k:Nat} {f:Fr} {H:BH} {rs:List ARes} {K:Value→BH→Prop} {vs:List Value} (h:resAll f H rs=some vs:=by simp (disch:=omega) only [RA,↓reduceIte,Nat.reduceEqDiff,Nat.reduceBEq,Nat.reduceSub,Nat.reduceAdd,Nat.reduceMul,Nat.reduceLT,Nat.reduceLeDiff,Int.reduceLE,Int.reduceLT,Int.reduceEq,Int.reduceNeg,Int.reduceToNat,Int.reduceMul,Int.reduceAdd,Int.reduceSub,Int.reduceBEq,Int.reduceBNe,reduceCtorEq,RD,resAll,resOf];rfl) (e:K (tup vs) H:=by simp only [tup]):lC k rs K .ret f H:=aN h .refl e
theorem adW {k:Nat} {f:Fr} {H:BH} {rs:List ARes} {K:Value→BH→Prop} {vs:List Value} {A:Prop} (a:A) (h:A→resAll f H rs=some vs:=by intro q;simp (disch:=omega) only [RA,↓reduceIte,Nat.reduceEqDiff,Nat.reduceBEq,Nat.reduceSub,Nat.reduceAdd,Nat.reduceMul,Nat.reduceLT,Nat.reduceLeDiff,Int.reduceLE,Int.reduceLT,Int.reduceEq,Int.reduceNeg,Int.reduceToNat,Int.reduceMul,Int.reduceAdd,Int.reduceSub,Int.reduceBEq,Int.reduceBNe,reduceCtorEq,RD,resAll,resOf,q];rfl) (e:K (tup vs) H:=by simp only [tup]):lC k rs K .ret f H:=aN (h a) .refl e
theorem dJ {K P:Fr→BH→Prop} {p:Prop} {f:Fr} {H:BH} (hK: ∀f1 H1,P f1 H1→K f1 H1) (hp:p) (e:p→P f H:=by intro h;(try simp only [aH,aJ,aI]);(try simp only [RN,reduceIte]);first|exact aj rfl h|exact h):K f H:=hK _ _ (e hp)
theorem dL {k:Nat} {Q:Ex→Fr→BH→Prop} {f:Fr} {H:BH} {c:ACode} {p:Prop} (hp:p) (e:p→T k c Q f H:=by intro h;(first|refine cZ rfl ?_|refine dh rfl ?_);(try simp only [RN,reduceIte]);first|exact aj rfl h|exact h):T k c Q f H:=e hp
theorem jQ {p q:Prop} (hp:p) (e:p→q:=by intro h;(try simp only [RN,reduceIte]);first|exact aj rfl h|exact h):q:=e hp
theorem abf {k:Nat} {Q:Ex→Fr→BH→Prop} {f:Fr} {H:BH} {i:Nat} {a b:ACode} {p:Prop} (hp:p) (e:p→T k a (aH i (aJ k b Q)) f H:=by intro h;(try simp only [RN,reduceIte]);first|exact aj rfl h|exact h):T k (.seq (.block i a) b) Q f H:=oJ (uY (e hp))
theorem Ew {p q:Prop} (hp:p) (e:p→q:=by intro h;simp only [aH,aJ,aI,if_true];exact h):q:=e hp
theorem ah {p:Prop} (h:p:=by simp (disch:=omega) only [RA,↓reduceIte,Nat.reduceEqDiff,Nat.reduceBEq,Nat.reduceSub,Nat.reduceAdd,Nat.reduceMul,Nat.reduceLT,Nat.reduceLeDiff,Int.reduceLE,Int.reduceLT,Int.reduceEq,Int.reduceNeg,Int.reduceToNat,Int.reduceMul,Int.reduceAdd,Int.reduceSub,Int.reduceBEq,Int.reduceBNe,reduceCtorEq,RD,RE, *]<;>rfl):p:=h
theorem mD {p:Prop} (h:p:=by simp (disch:=omega) only [RA,↓reduceIte,Nat.reduceEqDiff,Nat.reduceBEq,Nat.reduceSub,Nat.reduceAdd,Nat.reduceMul,Nat.reduceLT,Nat.reduceLeDiff,Int.reduceLE,Int.reduceLT,Int.reduceEq,Int.reduceNeg,Int.reduceToNat,Int.reduceMul,Int.reduceAdd,Int.reduceSub,Int.reduceBEq,Int.reduceBNe,reduceCtorEq,RD,RE,RZ,abd,zZ, *]<;>rfl):p:=h
theorem Bc {p:Prop} (h:p:=by simp only [RH]):p:=h
theorem aU {A0 A1:Prop} (a0:A0) (a1:A1):A0∧A1:=⟨a0,a1⟩
theorem cO {A0 A1 A2:Prop} (a0:A0) (a1:A1) (a2:A2):A0∧A1∧A2:=⟨a0,a1,a2⟩
theorem fQ {A0 A1 A2 A3:Prop} (a0:A0) (a1:A1) (a2:A2) (a3:A3):A0∧A1∧A2∧A3:=⟨a0,a1,a2,a3⟩
theorem mF {A0 A1 A2 A3 A4:Prop} (a0:A0) (a1:A1) (a2:A2) (a3:A3) (a4:A4):A0∧A1∧A2∧A3∧A4:=⟨a0,a1,a2,a3,a4⟩
theorem rV {A0 A1 A2 A3 A4 A5:Prop} (a0:A0) (a1:A1) (a2:A2) (a3:A3) (a4:A4) (a5:A5):A0∧A1∧A2∧A3∧A4∧A5:=⟨a0,a1,a2,a3,a4,a5⟩
end Go.Bm
