/- Rules by which a run of the second machine is gone through, operation by operation. -/
import Derived.Test.YtbpfbfbabpkceaaGreatBmT
import Derived.Test.YtbpfbfbabpkceaaGreatAmS2
set_option linter.unusedVariables false
set_option linter.unusedSimpArgs false
namespace Go.Bm
open Go Go.Am
abbrev N8 (n:Nat):Value:= .int .u8 (n:Int)
abbrev PL (p:List Nat):Value:=aggL (p.map N8)
abbrev FI (xs:List Int):Value:=Fz xs.length 1 (xs.map I)
abbrev FB (xs:List Nat):Value:=Fz xs.length 1 (xs.map N8)
abbrev sZ (xss:List (List Int)):Value:=Fz xss.length 1 (xss.map FI)
def nl (p:List Nat) (i:Nat):Nat:=p.getD i 0
section
def fO (o:Option (Value×BH)) (k:Value→BH→Prop):Prop:=
 match o with
 |some (v,H)=>k v H
 |none=>False
theorem Xa {v:Value} {H:BH} {k:Value→BH→Prop}:fO (some (v,H)) k=k v H:=rfl
def bQ (d t:Option Nat) (r:List AOper) (K:Fr→BH→Prop) (f:Fr) (H:BH):Value→Prop:=fun v=>opsT (dn d) r K (updO f t v) H
def iE (d t:Option Nat) (r:List AOper) (K:Fr→BH→Prop) (f:Fr):Value→BH→Prop:=fun v H=>opsT (dn d) r K (updO f t v) H
variable {d:Option Nat} {t:Option Nat} {r:List AOper} {K:Fr→BH→Prop} {f:Fr} {H:BH}
theorem xg {v:Value}:bJ (some v) (bQ d t r K f H)=opsT (dn d) r K (updO f t v) H:=rfl
theorem xk {v:Value}:fO (some (v,H)) (iE d t r K f)=opsT (dn d) r K (updO f t v) H:=rfl
theorem O8 {v:Value}:iE d t r K f v H=opsT (dn d) r K (updO f t v) H:=rfl
theorem xq {n:Nat}:ev f (.t n)=f n:=rfl
theorem O9 {k:IntKind} {n:Int}:ev f (.c (.int k n))= .int k n:=rfl
theorem Pg {b:Bool}:ev f (.c (.bool b))= .bool b:=rfl
theorem Ph {b:ByteArray}:ev f (.c (.string b))= .string b:=rfl
theorem Pj:ev f (.c (.slice none 0 0))= .slice none 0 0:=rfl
theorem Pm:ev f (.c .nilFunc)= .nilFunc:=rfl
theorem Pn:ev f (.c (.pointer none))= .pointer none:=rfl
theorem xu {n:Nat}:ev f (.f n)= .func (.func n) #[] #[]:=rfl
theorem xB:opsT d [] K f H=K f H:=rfl
def gV (b:Bool):Value→Option Bool
 | .bool x=>some (x==b)
 | .tuple ⟨[]⟩=>some false
 | _=>none
def G7 (o:Option Bool) (p q:Prop):Prop:=
 match o with
 |some true=>p
 |some false=>q
 |none=>False
theorem Po {x:Bool}:gV true (.bool x)=some x:=by cases x<;>rfl
theorem Pq {x:Bool}:gV false (.bool x)=some (!x):=by cases x<;>rfl
theorem Pv {b:Bool}:gV b undef=some false:=rfl
theorem Px {p q:Prop}:G7 (some true) p q=p:=rfl
theorem Py {p q:Prop}:G7 (some false) p q=q:=rfl
theorem xC {o:AOp} {g:Nat} {b:Bool}:opsT d (⟨t,o,some (g,b)⟩::r) K f H=G7 (gV b (f g)) (opsT d (⟨t,o,none⟩::r) K f H) (opsT (dn d) r K (updO f t undef) H):=by
 have e:rD (some (g,b)) f=gV b (f g):=rfl
 rw [opsT]
 simp only [e]
 generalize gV b (f g)=q
 match q with
 |some true=>
  show _=opsT d (⟨t,o,none⟩::r) K f H
  conv=>rhs;rw [opsT]
  rfl
 |some false=>rfl
 |none=>rfl
theorem xE {g:Nat} {as:List Opd}:opsT d (⟨t, .call g as,none⟩::r) K f H=aF (gX d) g (as.map (ev f)) H (iE d t r K f):=by rw [opsT];rfl
theorem adP {g:Opd} {as:List Opd} {cap:Nat} {caps:Array Value} (hg:ev f g= .func (.func cap) #[] caps):opsT d (⟨t, .callv g as,none⟩::r) K f H=aF (gX d) cap (as.map (ev f)++caps.toList) H (iE d t r K f):=by
 rw [opsT]
 simp only [rD,hg,true_and]
 rfl
theorem jW {o:AOp} (h2:rW o=false) (h3: ∀g as,o≠ .call g as) (h4:(∀g as,o≠ .callv g as)∧ ∀g as fl,o≠ .callF g as fl):opsT d (⟨t,o,none⟩::r) K f H=fO (aK o (ev f) H) (iE d t r K f):=by
 rw [opsT]
 simp only [rD]
 cases o<;>first|exact absurd rfl (h3 _ _)|exact absurd rfl (h4.1 _ _)|exact absurd rfl (h4.2 _ _ _)|(simp only [h2,Bool.false_eq_true,false_implies,true_and];rfl)
theorem wo {o:AOp} (h2:rW o=true):opsT d (⟨t,o,none⟩::r) K f H=(gX d=false∧fO (aK o (ev f) H) (iE d t r K f)):=by
 rw [opsT]
 simp only [rD]
 cases o<;>first|(simp [rW] at h2;done)|skip
 all_goals
  simp only [rW,true_implies]
  generalize aK _ (ev f) H=q
  match q with
  |some (v,H')=>rfl
  |none=>simp [fO]
theorem dB {o:AOp} {w:Option Value} (h2:rW o=false) (h3: ∀g as,o≠ .call g as) (h4:(∀g as,o≠ .callv g as)∧ ∀g as fl,o≠ .callF g as fl) (h:aK o (ev f) H=w.map fun v=>(v,H)):opsT d (⟨t,o,none⟩::r) K f H=bJ w (bQ d t r K f H):=by
 rw [jW h2 h3 h4,h]
 cases w<;>rfl
theorem xH {x:Opd}:opsT d (⟨t, .move x,none⟩::r) K f H=opsT (dn d) r K (updO f t (ev f x)) H:=by
 rw [jW rfl (by simp) (by simp)];rfl
theorem xI {c a b:Opd}:opsT d (⟨t, .pick c a b,none⟩::r) K f H=bJ (xA (ev f c) (ev f a) (ev f b)) (bQ d t r K f H):=
 dB rfl (by simp) (by simp) (by simp only [aK];cases ev f c<;>rfl)
theorem xJ {op:BinOp} {x y:Opd}:opsT d (⟨t, .bin op x y,none⟩::r) K f H=bJ (aBin op (ev f x) (ev f y)) (bQ d t r K f H):=
 dB rfl (by simp) (by simp) (by rfl)
theorem Pz {op:BinOp} {x y:Opd}:opsT d (⟨t, .sbin op x y,none⟩::r) K f H=bJ (aSbin op (ev f x) (ev f y)) (bQ d t r K f H):=
 dB rfl (by simp) (by simp) (by rfl)
theorem xK {x:Opd}:opsT d (⟨t, .not x,none⟩::r) K f H=bJ (EC (ev f x)) (bQ d t r K f H):=
 dB rfl (by simp) (by simp) (by simp only [aK];cases ev f x<;>rfl)
theorem xM {x:Opd}:opsT d (⟨t, .neg x,none⟩::r) K f H=bJ (ED (ev f x)) (bQ d t r K f H):=
 dB rfl (by simp) (by simp) (by simp only [aK];cases ev f x<;>rfl)
theorem xO {k:IntKind} {x:Opd}:opsT d (⟨t, .conv k x,none⟩::r) K f H=bJ (EF k (ev f x)) (bQ d t r K f H):=
 dB rfl (by simp) (by simp) (by simp only [aK];cases ev f x<;>rfl)
theorem xP {n:Bool} {x y:Opd}:opsT d (⟨t, .eqb n x y,none⟩::r) K f H=bJ (AV n (ev f x) (ev f y)) (bQ d t r K f H):=
 dB rfl (by simp) (by simp) (by simp only [aK];cases ev f x<;>cases ev f y<;>rfl)
def wu (neg:Bool) (n:Nat) (x y:Value):Option Value:=(aEqa n x y).map fun r=> .bool (if neg then !r else r)
theorem PD {neg:Bool} {n:Nat} {x y:Opd}:opsT d (⟨t, .eqa neg n x y,none⟩::r) K f H=bJ (wu neg n (ev f x) (ev f y)) (bQ d t r K f H):=
 dB rfl (by simp) (by simp) (by simp only [aK,wu,Option.map_map];rfl)
def zB (neg:Bool):Value→Option Value
 | .slice a _ _=>some (.bool (if neg then !a.isNone else a.isNone))
 | .iface (_+1) (.iface _ (.tuple _))=>some (.bool neg)
 | _=>none
theorem PE {neg:Bool} {n e:Nat}:zB neg (.slice none n e)=some (.bool !neg):=by cases neg<;>rfl
theorem PG {neg:Bool} {b o n e:Nat}:zB neg (S b o n e)=some (.bool neg):=by cases neg<;>rfl
theorem agE {neg:Bool} {l e:Nat} {cs:List Value} (h:0<l):zB neg (Fz l e cs)=some (.bool neg):=by
 obtain ⟨n,rfl⟩: ∃n,l=n+1:=⟨l-1,by omega⟩
 rfl
theorem xX {n:Bool} {x:Opd}:opsT d (⟨t, .eqn n x,none⟩::r) K f H=bJ (zB n (ev f x)) (bQ d t r K f H):=
 dB rfl (by simp) (by simp) (by
  simp only [aK,zB]
  repeat' split
  all_goals first|rfl|simp_all)
def yP:Value→Option Value
 | .slice _ n _=>some (.int .i64 n)
 | .iface n (.iface _ (.tuple _))=>some (.int .i64 n)
 | _=>none
theorem PK {a:Option Addr} {n e:Nat}:yP (.slice a n e)=some (.int .i64 n):=rfl
theorem PO {n e:Nat} {cs:List Value}:yP (Fz n e cs)=some (.int .i64 n):=rfl
theorem xQ {x:Opd}:opsT d (⟨t, .len x,none⟩::r) K f H=bJ (yP (ev f x)) (bQ d t r K f H):=
 dB rfl (by simp) (by simp) (by
  simp only [aK,yP]
  repeat' split
  all_goals first|rfl|simp_all)
def PS:Value→Option Value
 | .string s=>some (.int .i64 s.size)
 | _=>none
theorem PU {s:ByteArray}:PS (.string s)=some (.int .i64 s.size):=rfl
theorem PV {x:Opd}:opsT d (⟨t, .lenStr x,none⟩::r) K f H=bJ (PS (ev f x)) (bQ d t r K f H):=
 dB rfl (by simp) (by simp) (by simp only [aK];cases ev f x<;>rfl)
theorem G8 {n:Nat}:opsT d (⟨t, .lenConst n,none⟩::r) K f H=opsT (dn d) r K (updO f t (.int .i64 n)) H:=by
 rw [jW rfl (by simp) (by simp)];rfl
theorem xR {x:Opd} {j:Nat}:opsT d (⟨t, .extract x j,none⟩::r) K f H=bJ (qH j (ev f x)) (bQ d t r K f H):=
 dB rfl (by simp) (by simp) (by simp only [aK];cases ev f x<;>rfl)
theorem xU {xs:List Opd}:opsT d (⟨t, .max xs,none⟩::r) K f H=bJ (foldV max2 (xs.map (ev f))) (bQ d t r K f H):=
 dB rfl (by simp) (by simp) (by rfl)
theorem xW {xs:List Opd}:opsT d (⟨t, .min xs,none⟩::r) K f H=bJ (foldV min2 (xs.map (ev f))) (bQ d t r K f H):=
 dB rfl (by simp) (by simp) (by rfl)
def sW (e:Nat) (x i:Value):Option Value:=
 match x,intOf i with
 | .slice (some ⟨b,o,none⟩) len e',some i=>if 0≤i∧i<len∧e'=e then some (P b (o+i.toNat*e)) else none
 | .iface len (.iface e' (.tuple ⟨cs⟩)),some i=>if 0≤i∧i<len∧e'=e then some (Fp (i.toNat*e) cs) else none
 | _,_=>none
theorem FX {b o len e:Nat} {k:IntKind} {i:Int} (h:0≤i∧i<len):sW e (S b o len e) (.int k i)=some (P b (o+i.toNat*e)):=by simp [sW,intOf,h]
theorem F5 {len e:Nat} {cs:List Value} {k:IntKind} {i:Int} (h:0≤i∧i<len):sW e (Fz len e cs) (.int k i)=some (Fp (i.toNat*e) cs):=by simp [sW,Fz,intOf,h]
theorem xY {e:Nat} {x i:Opd}:opsT d (⟨t, .indexAddr none e x i,none⟩::r) K f H=bJ (sW e (ev f x) (ev f i)) (bQ d t r K f H):=
 dB rfl (by simp) (by simp) (by
  simp only [aK,sW]
  generalize intOf (ev f i)=q
  generalize ev f x=vx
  cases vx<;>try rfl
  case slice a n e'=>
   cases a<;>try rfl
   rename_i a
   obtain ⟨b,o,sp⟩:=a
   cases sp<;>cases q<;>try rfl
   simp only
   split<;>rfl
  case iface l w=>
   cases w<;>try rfl
   rename_i l w
   cases w<;>try rfl
   cases q<;>try rfl
   simp only
   split<;>rfl)
def wz (n e:Nat) (x i:Value):Option Value:=
 match x,intOf i with
 | .pointer (some ⟨b,o,none⟩),some i=>if 0≤i∧i<n then some (P b (o+i.toNat*e)) else none
 | .iface o (.tuple ⟨cs⟩),some i=>if 0≤i∧i<n then some (Fp (o+i.toNat*e) cs) else none
 | _,_=>none
theorem PW {n e b o:Nat} {k:IntKind} {i:Int} (h:0≤i∧i<n):wz n e (P b o) (.int k i)=some (P b (o+i.toNat*e)):=by simp [wz,intOf,h]
theorem PX {n e o:Nat} {cs:List Value} {k:IntKind} {i:Int} (h:0≤i∧i<n):wz n e (Fp o cs) (.int k i)=some (Fp (o+i.toNat*e) cs):=by simp [wz,Fp,intOf,h]
theorem G9 {n e:Nat} {x i:Opd}:opsT d (⟨t, .indexAddr (some n) e x i,none⟩::r) K f H=bJ (wz n e (ev f x) (ev f i)) (bQ d t r K f H):=
 dB rfl (by simp) (by simp) (by
  simp only [aK,wz]
  generalize intOf (ev f i)=q
  generalize ev f x=vx
  cases vx<;>try rfl
  case pointer a=>
   cases a<;>try rfl
   rename_i a
   obtain ⟨b,o,sp⟩:=a
   cases sp<;>cases q<;>try rfl
   simp only
   split<;>rfl
  case iface l w=>
   cases w<;>try rfl
   cases q<;>try rfl
   simp only
   split<;>rfl)
def vH (n:Option Nat) (H:BH):Value→Option Value
 | .pointer (some ⟨b,o,none⟩)=>(match blk H b with|some cs=>getN n cs o|none=>none)
 | .iface o (.tuple ⟨cs⟩)=>getN n cs o
 | _=>none
def He (n:Option Nat) (c:Option (List Value)) (o:Nat):Option Value:=
 match c with
 |some cs=>getN n cs o
 |none=>none
theorem FZ {n:Option Nat} {cs:List Value} {o:Nat}:He n (some cs) o=getN n cs o:=rfl
theorem FY {n:Option Nat} {b o:Nat}:vH n H (P b o)=He n (blk H b) o:=by simp only [vH,He]
theorem F6 {n:Option Nat} {o:Nat} {cs:List Value}:vH n H (Fp o cs)=getN n cs o:=rfl
theorem xZ {n:Option Nat} {a:Opd}:opsT d (⟨t, .load n a,none⟩::r) K f H=bJ (vH n H (ev f a)) (bQ d t r K f H):=
 dB rfl (by simp) (by simp) (by
  simp only [aK,vH]
  repeat' split
  all_goals simp_all)
def wB (n:Nat) (a v:Value) (H:BH):Option (Value×BH):=
 match a with
 | .pointer (some ⟨b,o,none⟩)=>
  (match blk H b with
  |some cs=>
   (match cells2 v with
   |some vs=>if vs.length=n∧o+n≤cs.length∧vs.all fJ=true then some (undef,H.set b (some (splice cs o vs))) else none
   |none=>none)
  |none=>none)
 | _=>none
def dV (c:Option (List Value)) (H:BH) (b o n:Nat) (v:Value):Option (Value×BH):=
 match c,cells2 v with
 |some cs,some vs=>if vs.length=n∧o+n≤cs.length∧vs.all fJ=true then some (undef,H.set b (some (splice cs o vs))) else none
 | _,_=>none
theorem PY {b o n:Nat} {v:Value}:wB n (P b o) v H=dV (blk H b) H b o n v:=by
 simp only [wB,dV]
 cases blk H b<;>cases cells2 v<;>rfl
theorem xF {n:Nat} {a v:Opd}:opsT d (⟨t, .store n a v,none⟩::r) K f H=(gX d=false∧fO (wB n (ev f a) (ev f v) H) (iE d t r K f)):=by
 rw [wo rfl]
 have:aK (.store n a v) (ev f) H=wB n (ev f a) (ev f v) H:=rfl
 rw [this]
def rX (H:BH) (a:Value):List Value→Bool
 |[]=>true
 |x::xs=>lg H a x&&rX H a xs
theorem PZ {a:Value}:rX H a []=true:=rfl
theorem Hf {a x:Value} {xs:List Value}:rX H a (x::xs)=(lg H a x&&rX H a xs):=rfl
theorem P5 {i o j q:Nat}:lg H (P i o) (P j q)=(!(j==i)&&(blk H j).isSome):=rfl
theorem P6 {i o j q n e:Nat}:lg H (P i o) (S j q n e)=(!(j==i)&&(blk H j).isSome):=rfl
theorem P7 {i o:Nat}:lg H (P i o) (.slice none 0 0)=true:=rfl
theorem P8 {i o:Nat} {k:IntKind} {n:Int}:lg H (P i o) (.int k n)=true:=rfl
theorem P9 {i o:Nat} {b:Bool}:lg H (P i o) (.bool b)=true:=rfl
theorem Qa {i o l e:Nat} {cs:List Value}:lg H (P i o) (Fz l e cs)=true:=rfl
theorem Qb {i o l:Nat} {cs:List Value}:lg H (P i o) (Fp l cs)=true:=rfl
theorem Qc {i o:Nat} {cs:List Value}:lg H (P i o) (aggL cs)=true:=rfl
theorem Qd {cs:List Value}:(some cs).isSome=true:=rfl
theorem Qe {n:Nat} {a v:Opd} {fl:List Opd}:opsT d (⟨t, .storeF n a v fl,none⟩::r) K f H=(rX H (ev f a) (fl.map (ev f))=true∧gX d=false∧fO (wB n (ev f a) (ev f v) H) (iE d t r K f)):=by
 rw [wo rfl]
 have e:(fl.all fun x=>lg H (ev f a) (ev f x))=rX H (ev f a) (fl.map (ev f)):=by
  induction fl with
  |nil=>rfl
  |cons x xs ih=>simp only [List.all_cons,List.map_cons,Hf,ih]
 have:aK (.storeF n a v fl) (ev f) H=if rX H (ev f a) (fl.map (ev f))=true then wB n (ev f a) (ev f v) H else none:=by
  rw [←e];rfl
 rw [this]
 by_cases h:rX H (ev f a) (fl.map (ev f))=true
 ·rw [if_pos h];simp [h]
 ·rw [if_neg h];simp [h,fO]
theorem xG {e b:Nat} {s x:Opd}:opsT d (⟨t, .append e b s x,none⟩::r) K f H=(gX d=false∧fO (eH e b (ev f s) (ev f x) H) (iE d t r K f)):=by
 rw [wo rfl];rfl
def Qg (d t:Option Nat) (r:List AOper) (K:Fr→BH→Prop) (f:Fr) (H:BH) (l:List Value):Value→BH→Prop:=fun v H'=>keepW H H' l∧opsT (dn d) r K (updO f t v) H'
theorem Qh {l:List Value} {v:Value} {H1:BH}:Qg d t r K f H l v H1=(keepW H H1 l∧opsT (dn d) r K (updO f t v) H1):=rfl
theorem Qi {g:Nat} {as fl:List Opd}:opsT d (⟨t, .callF g as fl,none⟩::r) K f H=(gX d=false∧aF false g (as.map (ev f)) H (Qg d t r K f H (fl.map (ev f)))):=by rw [opsT];rfl
theorem Qj {H1:BH}:keepW H H1 []=True:=rfl
theorem Qk {H1:BH} {x:Value} {xs:List Value}:keepW H H1 (x::xs)=(uf H H1 x∧keepW H H1 xs):=rfl
theorem Ql {H1:BH} {j o:Nat}:uf H H1 (P j o)=ug (blk H j) (blk H1 j):=rfl
theorem Qm {H1:BH} {j o l e:Nat}:uf H H1 (S j o l e)=ug (blk H j) (blk H1 j):=rfl
theorem Qn {H1:BH} {k:IntKind} {n:Int}:uf H H1 (.int k n)=True:=rfl
theorem agF {cs:List Value} (h:cs.all Am.plain=true):ug (some cs) (some cs)=True:=eq_true ⟨rfl,h⟩
def rY (H:BH) (a:Value):List Value→Bool
 |[]=>true
 |x::xs=>uh H a x&&rY H a xs
theorem Qo {a:Value}:rY H a []=true:=rfl
theorem Hg {a x:Value} {xs:List Value}:rY H a (x::xs)=(uh H a x&&rY H a xs):=rfl
theorem Qp {i o l e:Nat} {x:Value}:uh H (S i o l e) x=lg H (P i 0) x:=rfl
theorem Qq {x:Value}:uh H (.slice none 0 0) x=true:=rfl
theorem Qr {e_1 b:Nat} {s x:Opd} {fl:List Opd}:opsT d (⟨t, .appendF e_1 b s x fl,none⟩::r) K f H=(rY H (ev f s) (fl.map (ev f))=true∧gX d=false∧fO (eH e_1 b (ev f s) (ev f x) H) (iE d t r K f)):=by
 rw [wo rfl]
 have e:(fl.all fun y=>uh H (ev f s) (ev f y))=rY H (ev f s) (fl.map (ev f)):=by
  induction fl with
  |nil=>rfl
  |cons x xs ih=>simp only [List.all_cons,List.map_cons,Hg,ih]
 have:aK (.appendF e_1 b s x fl) (ev f) H=if rY H (ev f s) (fl.map (ev f))=true then eH e_1 b (ev f s) (ev f x) H else none:=by
  rw [←e];rfl
 rw [this]
 by_cases h:rY H (ev f s) (fl.map (ev f))=true
 ·rw [if_pos h];simp [h]
 ·rw [if_neg h];simp [h,fO]
theorem Hl {z:List Value}:opsT d (⟨t, .alloc z,none⟩::r) K f H=(z.all Am.plain=true∧opsT (dn d) r K (updO f t (P H.length 0)) (H++[some z])):=by
 rw [jW rfl (by simp) (by simp)]
 simp only [aK]
 split
 ·rename_i h;simp only [h,true_and];rfl
 ·rename_i h;simp only [h];simp [fO]
def qF (v:Value) (H:BH):Option (Value×BH):=
 match cells2 v with
 |some cs=>some (P H.length 0,H++[some cs])
 |none=>none
theorem Ho {x:Opd}:opsT d (⟨t, .box x,none⟩::r) K f H=fO (qF (ev f x) H) (iE d t r K f):=by
 rw [jW rfl (by simp) (by simp)];rfl
theorem Qs {cs:List Value}:qF (aggL cs) H=some (P H.length 0,H++[some cs]):=rfl
theorem Qu {k:IntKind} {n:Int}:qF (.int k n) H=some (P H.length 0,H++[some [.int k n]]):=rfl
theorem Qv {b:Bool}:qF (.bool b) H=some (P H.length 0,H++[some [.bool b]]):=rfl
theorem Qw {s:ByteArray}:qF (.string s) H=some (P H.length 0,H++[some [.string s]]):=rfl
theorem Qx {a:Option Addr} {l e:Nat}:qF (.slice a l e) H=some (P H.length 0,H++[some [.slice a l e]]):=rfl
theorem Qy {l e:Nat} {cs:List Value}:qF (Fz l e cs) H=some (P H.length 0,H++[some [Fz l e cs]]):=rfl
theorem Qz {b o:Nat}:qF (P b o) H=some (P H.length 0,H++[some [P b o]]):=rfl
theorem QA {g:Fn} {a b:Array Value}:qF (.func g a b) H=some (P H.length 0,H++[some [.func g a b]]):=rfl
theorem Hq {z:List Value} {p:List (Nat×Nat×Opd)}:opsT d (⟨t, .build z p,none⟩::r) K f H=(z.all Am.plain=true∧(p.map fun p=>nj (ev f p.2.2)).all id=true∧bJ ((fillL z (p.map fun p=>(p.1,p.2.1,ev f p.2.2))).map aggL) (bQ d t r K f H)):=by
 rw [jW rfl (by simp) (by simp)]
 simp only [aK,List.all_map,Function.id_comp]
 by_cases h:z.all Am.plain=true∧(p.all fun p=>nj (ev f p.2.2))=true
 ·rw [if_pos h,←and_assoc]
  simp only [h.1,h.2,and_self,true_and]
  cases fillL z _<;>rfl
 ·rw [if_neg h,←and_assoc]
  simp only [h,false_and]
  rfl
theorem yg {e n:Nat} {z:List Value} {p:List (Nat×Nat×Opd)}:opsT d (⟨t, .buildSlice e n z p,none⟩::r) K f H=(n*e≤16777216∧z.all Am.plain=true∧(p.map fun p=>nj (ev f p.2.2)).all id=true∧
  fO ((fillL (repl z n) (p.map fun p=>(p.1,p.2.1,ev f p.2.2))).map fun cs=>(S H.length 0 n e,H++[some cs])) (iE d t r K f)):=by
 rw [jW rfl (by simp) (by simp)]
 simp only [aK,List.all_map,Function.id_comp]
 by_cases h:n*e≤16777216∧z.all Am.plain=true∧(p.all fun p=>nj (ev f p.2.2))=true
 ·rw [if_pos h]
  simp only [h.1,h.2.1,h.2.2,true_and]
 ·rw [if_neg h,←and_assoc,←and_assoc,and_assoc (a:=n*e≤16777216)]
  simp only [h,false_and]
  rfl
def Dx (e:Nat) (bytes:Nat) (z:List Value) (l c:Value) (H:BH):Option (Value×BH):=
 match l,c with
 | .int _ l, .int _ c=>if 0≤l∧l≤c∧c*bytes≤140737488355328∧c≤9223372036854775807 then some (S H.length 0 l.toNat e,H++[some (repl z c.toNat)]) else none
 | _,_=>none
theorem QB {e b:Nat} {z:List Value} {k:IntKind} {n:Int} {H:BH} (h:0≤n∧n*b≤140737488355328∧n≤9223372036854775807):Dx e b z (.int k n) (.int k n) H=some (S H.length 0 n.toNat e,H++[some (repl z n.toNat)]):=by
 simp only [Dx]
 rw [if_pos (by omega)]
theorem yh {e b:Nat} {z:List Value} {l c:Opd}:opsT d (⟨t, .makeSlice e b z l c,none⟩::r) K f H=(z.all Am.plain=true∧fO (Dx e b z (ev f l) (ev f c) H) (iE d t r K f)):=by
 rw [jW rfl (by simp) (by simp)]
 simp only [aK,Dx]
 generalize ev f l=vl
 generalize ev f c=vc
 by_cases hz:z.all Am.plain=true
 ·simp only [hz,true_and]
  cases vl<;>cases vc<;>rfl
 ·simp only [hz,Bool.false_eq_true,false_and,if_false]
  cases vl<;>cases vc<;>simp [fO]
def Dy (off:Nat):Value→Option Value
 | .pointer (some ⟨b,o,none⟩)=>some (P b (o+off))
 | .iface o (.tuple ⟨cs⟩)=>some (Fp (o+off) cs)
 | _=>none
theorem QC {off b o:Nat}:Dy off (P b o)=some (P b (o+off)):=rfl
theorem QD {off o:Nat} {cs:List Value}:Dy off (Fp o cs)=some (Fp (o+off) cs):=rfl
theorem Hr {o:Nat} {x:Opd}:opsT d (⟨t, .fieldAddr o x,none⟩::r) K f H=bJ (Dy o (ev f x)) (bQ d t r K f H):=
 dB rfl (by simp) (by simp) (by
  simp only [aK,Dy]
  repeat' split
  all_goals first|rfl|simp_all)
theorem Ht {n:Option Nat} {o:Nat} {x:Opd}:opsT d (⟨t, .field n o x,none⟩::r) K f H=bJ (Hu n o (ev f x)) (bQ d t r K f H):=
 dB rfl (by simp) (by simp) (by simp only [aK];cases ev f x<;>rfl)
theorem Hw {l e:Nat} {n:Option Nat} {x i:Opd}:opsT d (⟨t, .index l e n x i,none⟩::r) K f H=bJ (wC l e n (ev f x) (ev f i)) (bQ d t r K f H):=
 dB rfl (by simp) (by simp) (by
  simp only [aK]
  generalize ev f x=vx
  generalize ev f i=vi
  cases vx<;>cases vi<;>try rfl
  simp only [intOf,wC]
  split<;>rfl)
def Dc:Value→Value→Option Value
 | .string s, .int _ i=>if 0≤i then (s[i.toNat]?).map fun b=> .int .u8 b.toNat else none
 | _,_=>none
theorem QE {x i:Opd}:opsT d (⟨t, .indexStr x i,none⟩::r) K f H=bJ (Dc (ev f x) (ev f i)) (bQ d t r K f H):=
 dB rfl (by simp) (by simp) (by
  simp only [aK]
  generalize ev f x=vx
  generalize ev f i=vi
  cases vx<;>cases vi<;>try rfl
  simp only [intOf,Dc]
  split
  ·rw [Option.map_map];rfl
  ·rfl)
def Dz:Value→Option Value
 | .pointer (some ⟨b,o,none⟩)=>some (P b o)
 | .iface o (.tuple ⟨cs⟩)=>some (Fp o cs)
 | _=>none
theorem QF {b o:Nat}:Dz (P b o)=some (P b o):=rfl
theorem QG {o:Nat} {cs:List Value}:Dz (Fp o cs)=some (Fp o cs):=rfl
theorem Hy {x:Opd}:opsT d (⟨t, .nilCheck x,none⟩::r) K f H=bJ (Dz (ev f x)) (bQ d t r K f H):=
 dB rfl (by simp) (by simp) (by
  simp only [aK,Dz]
  repeat' split
  all_goals first|rfl|simp_all)
theorem QH {g:Nat} {cs:List Opd}:opsT d (⟨t, .makeFunc g cs,none⟩::r) K f H=opsT (dn d) r K (updO f t (.func (.func g) #[] ⟨cs.map (ev f)⟩)) H:=by
 rw [jW rfl (by simp) (by simp)];rfl
def kK (len:Nat) (lo hi:Option Value):Option (Nat×Nat):=cutOf (fun| .c v=>v| _=>undef) len (lo.map .c) (hi.map .c)
theorem Hz {len:Nat} {lo hi:Option Opd}:kK len (lo.map (ev f)) (hi.map (ev f))=cutOf (ev f) len lo hi:=by cases lo<;>cases hi<;>rfl
theorem zC {len:Nat} {k:IntKind} {h:Int} (hh:0≤h∧h≤len):kK len none (some (.int k h))=some (0,h.toNat):=by
 simp only [kK,Option.map_none,Option.map_some,cutOf,intOf]
 rw [if_pos (by omega)];rfl
theorem wE {len:Nat} {k:IntKind} {l:Int} (hh:0≤l∧l≤len):kK len (some (.int k l)) none=some (l.toNat,len):=by
 simp only [kK,Option.map_none,Option.map_some,cutOf,intOf]
 rw [if_pos (by omega)];simp
theorem QI {len:Nat} {k k':IntKind} {l h:Int} (hh:0≤l∧l≤h∧h≤len):kK len (some (.int k l)) (some (.int k' h))=some (l.toNat,h.toNat):=by
 simp only [kK,Option.map_some,cutOf,intOf]
 rw [if_pos (by omega)]
theorem ab8 {len:Nat}:kK len none none=some (0,len):=by
 simp [kK,cutOf]
def mP (e:Nat) (x:Value) (lo hi:Option Value):Option Value:=
 match x with
 | .slice (some ⟨b,o,none⟩) len e'=>if e'=e then (kK len lo hi).map fun (l,h)=>S b (o+l*e) (h-l) e else none
 | .slice none 0 0=>(kK 0 lo hi).map fun _=> .slice none 0 0
 | .iface len (.iface e' (.tuple ⟨cs⟩))=>if e'=e then (kK len lo hi).map fun (l,h)=>Fz (h-l) e ((cs.drop (l*e)).take ((h-l)*e)) else none
 | _=>none
theorem HY {e b o len l h:Nat} {lo hi:Option Value} (hc:kK len lo hi=some (l,h)):mP e (S b o len e) lo hi=some (S b (o+l*e) (h-l) e):=by simp [mP,hc]
theorem DF {e len l h:Nat} {cs:List Value} {lo hi:Option Value} (hc:kK len lo hi=some (l,h)):mP e (Fz len e cs) lo hi=some (Fz (h-l) e ((cs.drop (l*e)).take ((h-l)*e))):=by simp [mP,Fz,hc]
theorem yc {e:Nat} {x:Opd} {lo hi:Option Opd}:opsT d (⟨t, .slice e x lo hi,none⟩::r) K f H=bJ (mP e (ev f x) (lo.map (ev f)) (hi.map (ev f))) (bQ d t r K f H):=
 dB rfl (by simp) (by simp) (by
  simp only [aK,mP,Hz]
  generalize ev f x=vx
  cases vx<;>try rfl
  case slice a n e'=>
   cases a with
   |none=>
    cases n<;>cases e'<;>try rfl
    simp only
    rw [Option.map_map];rfl
   |some a=>
    obtain ⟨b,o,sp⟩:=a
    cases sp<;>try rfl
    simp only
    split
    ·rw [Option.map_map];rfl
    ·rfl
  case iface l w=>
   cases w<;>try rfl
   rename_i l w
   cases w<;>try rfl
   simp only
   split
   ·rw [Option.map_map];rfl
   ·rfl)
def QJ (x:Value) (lo hi:Option Value):Option Value:=
 match x with
 | .string s=>(kK s.size lo hi).map fun (l,h)=> .string (s.extract l h)
 | _=>none
theorem QK {x:Opd} {lo hi:Option Opd}:opsT d (⟨t, .sliceStr x lo hi,none⟩::r) K f H=bJ (QJ (ev f x) (lo.map (ev f)) (hi.map (ev f))) (bQ d t r K f H):=
 dB rfl (by simp) (by simp) (by
  simp only [aK,QJ,Hz]
  generalize ev f x=vx
  cases vx<;>try rfl
  simp only
  rw [Option.map_map];rfl)
def FT (len e:Nat) (H:BH) (x:Value) (lo hi:Option Value):Option Value:=
 match x with
 | .pointer (some ⟨b,o,none⟩)=>(match blk H b with|some cs=>if o+len*e≤cs.length then (kK len lo hi).map fun (l,h)=>S b (o+l*e) (h-l) e else none|none=>none)
 | _=>none
theorem QL {len e:Nat} {x:Opd} {lo hi:Option Opd}:opsT d (⟨t, .sliceArr len e x lo hi,none⟩::r) K f H=bJ (FT len e H (ev f x) (lo.map (ev f)) (hi.map (ev f))) (bQ d t r K f H):=
 dB rfl (by simp) (by simp) (by
  simp only [aK,FT,Hz]
  generalize ev f x=vx
  cases vx<;>try rfl
  case pointer a=>
   cases a<;>try rfl
   rename_i a
   obtain ⟨b,o,sp⟩:=a
   cases sp<;>try rfl
   simp only
   cases blk H b with
   |none=>rfl
   |some cs=>
    simp only
    split
    ·rw [Option.map_map];rfl
    ·rfl)
end
section
variable {H:BH}
theorem QM {a:Option (List Value)} {l:BH}:blk (a::l) 0=a:=rfl
theorem QN {a b:Option (List Value)} {l:BH}:blk (a::b::l) 1=b:=rfl
theorem QO {a b c:Option (List Value)} {l:BH}:blk (a::b::c::l) 2=c:=rfl
theorem QS {a b c e:Option (List Value)} {l:BH}:blk (a::b::c::e::l) 3=e:=rfl
theorem QT {a b c e g:Option (List Value)} {l:BH}:blk (a::b::c::e::g::l) 4=g:=rfl
theorem QU {a b c e g h:Option (List Value)} {l:BH}:blk (a::b::c::e::g::h::l) 5=h:=rfl
theorem QV {a b c e g h i:Option (List Value)} {l:BH}:blk (a::b::c::e::g::h::i::l) 6=i:=rfl
theorem QW {a b c e g h i j:Option (List Value)} {l:BH}:blk (a::b::c::e::g::h::i::j::l) 7=j:=rfl
theorem QX {x0 x1 x2 x3 x4 x5 x6 x7 x8:Option (List Value)} {l:BH}:blk (x0::x1::x2::x3::x4::x5::x6::x7::x8::l) 8=x8:=rfl
theorem QY {x0 x1 x2 x3 x4 x5 x6 x7 x8 x9:Option (List Value)} {l:BH}:blk (x0::x1::x2::x3::x4::x5::x6::x7::x8::x9::l) 9=x9:=rfl
theorem QZ {x0 x1 x2 x3 x4 x5 x6 x7 x8 x9 x10:Option (List Value)} {l:BH}:blk (x0::x1::x2::x3::x4::x5::x6::x7::x8::x9::x10::l) 10=x10:=rfl
theorem Q7 {x0 x1 x2 x3 x4 x5 x6 x7 x8 x9 x10 x11:Option (List Value)} {l:BH}:blk (x0::x1::x2::x3::x4::x5::x6::x7::x8::x9::x10::x11::l) 11=x11:=rfl
theorem Q8 {x0 x1 x2 x3 x4 x5 x6 x7 x8 x9 x10 x11 x12:Option (List Value)} {l:BH}:blk (x0::x1::x2::x3::x4::x5::x6::x7::x8::x9::x10::x11::x12::l) 12=x12:=rfl
theorem Q9 {x0 x1 x2 x3 x4 x5 x6 x7 x8 x9 x10 x11 x12 Rf:Option (List Value)} {l:BH}:blk (x0::x1::x2::x3::x4::x5::x6::x7::x8::x9::x10::x11::x12::Rf::l) 13=Rf:=rfl
theorem Rh {xs:List Int} {rest:List Value} {k:Nat} (h:k<xs.length):getN none (xs.map I++rest) k=some (I (el xs k)):=by
 simp [getN,List.getElem?_append_left,h,el,List.getD]
theorem CU {xs:List Int} {k:Nat} (h:k<xs.length):getN none (xs.map I) k=some (I (el xs k)):=by
 simp [getN,h,el,List.getD]
theorem H6 {p:List Nat} {k:Nat} (h:k<p.length):getN none (p.map N8) k=some (N8 (nl p k)):=by
 simp [getN,h,nl,List.getD]
def bl (p:List Bool) (i:Nat):Bool:=p.getD i false
theorem Ri {p:List Bool} {k:Nat} (h:k<p.length):getN none (p.map B) k=some (.bool (bl p k)):=by
 simp [getN,h,bl,List.getD]
theorem tJ {n o:Nat} {cs:List Value} (h:o+n≤cs.length):getN (some n) cs o=some (aggL ((cs.drop o).take n)):=by simp [getN,h]
theorem CW {α:Type} {g:α→Value} {xs:List α} {k:Nat} {y:α} (h:k<xs.length):splice (xs.map g) k [g y]=(xs.set k y).map g:=by
 simp only [splice,List.length_singleton]
 rw [List.set_eq_take_append_cons_drop]
 simp [h,List.map_take,List.map_drop]
theorem adQ {xs:List Int} {k:Nat} {y:Int} (h:k<xs.length):splice (xs.map I) k [I y]=(xs.set k y).map I:=CW h
theorem Rj {xs:List Nat} {k y:Nat} (h:k<xs.length):splice (xs.map N8) k [N8 y]=(xs.set k y).map N8:=CW h
theorem Rk {xs:List Bool} {k:Nat} {y:Bool} (h:k<xs.length):splice (xs.map B) k [.bool y]=(xs.set k y).map B:=CW h
theorem H7 {cs:List Value} {b o:Nat} {v:Value} {vs:List Value} (hv:cells2 v=some vs) (h1:vs.length=1) (h2:vs.all fJ=true) (h:o<cs.length):dV (some cs) H b o 1 v=some (undef,H.set b (some (splice cs o vs))):=by
 simp only [dV,hv]
 rw [if_pos ⟨h1,by omega,h2⟩]
theorem rC {cs:List Value} {b o:Nat} {k:IntKind} {n:Int} (h:o<cs.length):dV (some cs) H b o 1 (.int k n)=some (undef,H.set b (some (splice cs o [.int k n]))):=H7 rfl rfl rfl h
theorem adR {cs:List Value} {b o:Nat} {t:Bool} (h:o<cs.length):dV (some cs) H b o 1 (.bool t)=some (undef,H.set b (some (splice cs o [.bool t]))):=H7 rfl rfl rfl h
theorem oV {cs vs:List Value} {b o n:Nat} (h1:vs.length=n) (h2:vs.all fJ=true) (h:o+n≤cs.length):dV (some cs) H b o n (aggL vs)=some (undef,H.set b (some (splice cs o vs))):=by
 simp only [dV,cells2]
 rw [if_pos ⟨h1,h,h2⟩]
theorem all_map {α:Type} {g:α→Value} {p:Value→Bool} {xs:List α} (h: ∀a,p (g a)=true):(xs.map g).all p=true:=by
 simp [List.all_map,Function.comp_def,h]
theorem tK {p:List Nat}:(p.map N8).all fJ=true:=all_map fun _=>rfl
theorem Rl {p:List Int}:(p.map I).all fJ=true:=all_map fun _=>rfl
theorem H8 {p:List Bool}:(p.map B).all fJ=true:=all_map fun _=>rfl
theorem Rn {n:Nat} {b:Bool}:(List.replicate n (Value.bool b)).all Am.plain=true:=by simp [List.all_replicate,Am.plain]
theorem Ro {n:Nat} {k:IntKind} {m:Int}:(List.replicate n (Value.int k m)).all Am.plain=true:=by simp [List.all_replicate,Am.plain]
theorem Rq {b:Bool}:Am.plain (.bool b)=true:=rfl
theorem Rt {k:IntKind} {m:Int}:Am.plain (.int k m)=true:=rfl
theorem Ru {s:ByteArray}:Am.plain (.string s)=true:=rfl
theorem Rw:Am.plain (.slice none 0 0)=true:=rfl
theorem Rx:Am.plain .nilFunc=true:=rfl
theorem w8 {n:Int} (h0:0≤n) (h1:n<256):IntKind.u8.wrap n=n:=by
 have hb:(2:Int)^(8:Nat)=256:=by decide
 have hb':(2:Int)^(7:Nat)=128:=by decide
 simp only [IntKind.wrap,IntKind.bits,IntKind.signed,hb,hb']
 simp only [Bool.false_and,Bool.false_eq_true,if_false]
 omega
theorem Ry {len:Nat} {p:List Nat} {k:IntKind} {i:Int} (h:0≤i∧i<len) (hl:p.length=len):wC len 1 none (PL p) (.int k i)=some (N8 (nl p i.toNat)):=by
 rw [adS,if_pos h,Nat.mul_one,H6 (by omega)]
theorem Rz {z:List Value}:fillL z []=some z:=rfl
theorem agG {z:List Value} {o n:Nat} {v:Value} {r:List (Nat×Nat×Value)} (h:(cellsL v).length=n∧o+n≤z.length):fillL z ((o,n,v)::r)=fillL (splice z o (cellsL v)) r:=by
 simp only [fillL];rw [if_pos h]
theorem RG {v:Value} {k0:IntKind} {n0:Int}:fillL (List.replicate 1 v) [(0,1, .int k0 n0)]=some [.int k0 n0]:=rfl
theorem RI {v:Value} {k0:IntKind} {n0:Int} {k1:IntKind} {n1:Int}:fillL (List.replicate 2 v) [(0,1, .int k0 n0),(1,1, .int k1 n1)]=some [.int k0 n0, .int k1 n1]:=rfl
theorem RJ {v:Value} {k0:IntKind} {n0:Int} {k1:IntKind} {n1:Int} {k2:IntKind} {n2:Int}:fillL (List.replicate 3 v) [(0,1, .int k0 n0),(1,1, .int k1 n1),(2,1, .int k2 n2)]=some [.int k0 n0, .int k1 n1, .int k2 n2]:=rfl
theorem RP {v:Value} {k0:IntKind} {n0:Int} {k1:IntKind} {n1:Int} {k2:IntKind} {n2:Int} {k3:IntKind} {n3:Int}:fillL (List.replicate 4 v) [(0,1, .int k0 n0),(1,1, .int k1 n1),(2,1, .int k2 n2),(3,1, .int k3 n3)]=some [.int k0 n0, .int k1 n1, .int k2 n2, .int k3 n3]:=rfl
theorem RQ {v:Value} {k0:IntKind} {n0:Int} {k1:IntKind} {n1:Int} {k2:IntKind} {n2:Int} {k3:IntKind} {n3:Int} {k4:IntKind} {n4:Int}:fillL (List.replicate 5 v) [(0,1, .int k0 n0),(1,1, .int k1 n1),(2,1, .int k2 n2),(3,1, .int k3 n3),(4,1, .int k4 n4)]=some [.int k0 n0, .int k1 n1, .int k2 n2, .int k3 n3, .int k4 n4]:=rfl
theorem RS {v:Value} {k0:IntKind} {n0:Int} {k1:IntKind} {n1:Int} {k2:IntKind} {n2:Int} {k3:IntKind} {n3:Int} {k4:IntKind} {n4:Int} {k5:IntKind} {n5:Int}:fillL (List.replicate 6 v) [(0,1, .int k0 n0),(1,1, .int k1 n1),(2,1, .int k2 n2),(3,1, .int k3 n3),(4,1, .int k4 n4),(5,1, .int k5 n5)]=some [.int k0 n0, .int k1 n1, .int k2 n2, .int k3 n3, .int k4 n4, .int k5 n5]:=rfl
theorem RU {v:Value} {k0:IntKind} {n0:Int} {k1:IntKind} {n1:Int} {k2:IntKind} {n2:Int} {k3:IntKind} {n3:Int} {k4:IntKind} {n4:Int} {k5:IntKind} {n5:Int} {k6:IntKind} {n6:Int}:fillL (List.replicate 7 v) [(0,1, .int k0 n0),(1,1, .int k1 n1),(2,1, .int k2 n2),(3,1, .int k3 n3),(4,1, .int k4 n4),(5,1, .int k5 n5),(6,1, .int k6 n6)]=some [.int k0 n0, .int k1 n1, .int k2 n2, .int k3 n3, .int k4 n4, .int k5 n5, .int k6 n6]:=rfl
theorem RX {v:Value} {l0 e0:Nat} {c0:List Value}:fillL (List.replicate 1 v) [(0,1,Fz l0 e0 c0)]=some [Fz l0 e0 c0]:=rfl
theorem RY {v:Value} {l0 e0:Nat} {c0:List Value} {l1 e1:Nat} {c1:List Value}:fillL (List.replicate 2 v) [(0,1,Fz l0 e0 c0),(1,1,Fz l1 e1 c1)]=some [Fz l0 e0 c0,Fz l1 e1 c1]:=rfl
theorem Si {v:Value} {l0 e0:Nat} {c0:List Value} {l1 e1:Nat} {c1:List Value} {l2 e2:Nat} {c2:List Value}:fillL (List.replicate 3 v) [(0,1,Fz l0 e0 c0),(1,1,Fz l1 e1 c1),(2,1,Fz l2 e2 c2)]=some [Fz l0 e0 c0,Fz l1 e1 c1,Fz l2 e2 c2]:=rfl
theorem Sj {v:Value} {s0:ByteArray}:fillL (List.replicate 1 v) [(0,1, .string s0)]=some [.string s0]:=rfl
theorem Sm {v:Value} {s0:ByteArray} {s1:ByteArray}:fillL (List.replicate 2 v) [(0,1, .string s0),(1,1, .string s1)]=some [.string s0, .string s1]:=rfl
theorem Sr {v:Value} {s0:ByteArray} {s1:ByteArray} {s2:ByteArray}:fillL (List.replicate 3 v) [(0,1, .string s0),(1,1, .string s1),(2,1, .string s2)]=some [.string s0, .string s1, .string s2]:=rfl
theorem Sv {v:Value} {a0:Option Addr} {l0 e0:Nat}:fillL (List.replicate 1 v) [(0,1, .slice a0 l0 e0)]=some [.slice a0 l0 e0]:=rfl
theorem Sz {v:Value} {a0:Option Addr} {l0 e0:Nat} {a1:Option Addr} {l1 e1:Nat}:fillL (List.replicate 2 v) [(0,1, .slice a0 l0 e0),(1,1, .slice a1 l1 e1)]=some [.slice a0 l0 e0, .slice a1 l1 e1]:=rfl
theorem SA {v:Value} {a0:Option Addr} {l0 e0:Nat} {a1:Option Addr} {l1 e1:Nat} {a2:Option Addr} {l2 e2:Nat}:fillL (List.replicate 3 v) [(0,1, .slice a0 l0 e0),(1,1, .slice a1 l1 e1),(2,1, .slice a2 l2 e2)]=some [.slice a0 l0 e0, .slice a1 l1 e1, .slice a2 l2 e2]:=rfl
theorem SB {v:Value} {b0:Bool}:fillL (List.replicate 1 v) [(0,1, .bool b0)]=some [.bool b0]:=rfl
theorem SC {v:Value} {b0:Bool} {b1:Bool}:fillL (List.replicate 2 v) [(0,1, .bool b0),(1,1, .bool b1)]=some [.bool b0, .bool b1]:=rfl
theorem SE {v:Value} {b0:Bool} {b1:Bool} {b2:Bool}:fillL (List.replicate 3 v) [(0,1, .bool b0),(1,1, .bool b1),(2,1, .bool b2)]=some [.bool b0, .bool b1, .bool b2]:=rfl
theorem SG {v:Value} {n:Nat}:repl [v] n=List.replicate n v:=JC v n
theorem zq {a b:Value} {l:List Value}:splice (a::l) 0 [b]=b::l:=rfl
theorem SH {a b:Value} {l:List Value} {n:Nat}:splice (a::l) (n+1) [b]=a::splice l n [b]:=rfl
theorem Dk {cs vs:List Value} (h:vs.length=cs.length):splice cs 0 vs=vs:=by
 simp [splice,h]
theorem Dl {k:IntKind} {n:Int}:cellsL (.int k n)=[.int k n]:=rfl
theorem SI {b:Bool}:cellsL (.bool b)=[.bool b]:=rfl
theorem SK {b:ByteArray}:cellsL (.string b)=[.string b]:=rfl
theorem SL {l e:Nat} {cs:List Value}:cellsL (Fz l e cs)=[Fz l e cs]:=rfl
theorem Dn {cs:List Value}:cellsL (aggL cs)=cs:=rfl
theorem SN {a:Option Addr} {l e:Nat}:cellsL (.slice a l e)=[.slice a l e]:=rfl
theorem SQ {k:IntKind} {n:Int}:nj (.int k n)=true:=rfl
theorem SS {b:Bool}:nj (.bool b)=true:=rfl
theorem SV {b:ByteArray}:nj (.string b)=true:=rfl
theorem SX {l e:Nat} {cs:List Value}:nj (Fz l e cs)=true:=rfl
theorem SY {cs:List Value}:nj (aggL cs)=true:=rfl
theorem S9 {a:Option Addr} {l e:Nat}:nj (.slice a l e)=true:=rfl
theorem Tc {cs:List Value} {b o n:Nat} {c:Bool} (h:o+n≤cs.length):dV (some cs) H b o n (aggL (List.replicate n (.bool c)))=some (undef,H.set b (some (splice cs o (List.replicate n (.bool c))))):=oV (by simp) (by simp [fJ]) h
theorem Td {cs:List Value} {b o n:Nat} {k:IntKind} {c:Int} (h:o+n≤cs.length):dV (some cs) H b o n (aggL (List.replicate n (.int k c)))=some (undef,H.set b (some (splice cs o (List.replicate n (.int k c))))):=oV (by simp) (by simp [fJ]) h
theorem Tf {cs:List Value} {b o n:Nat} {p:List Nat} (hp:p.length=n) (h:o+n≤cs.length):dV (some cs) H b o n (aggL (p.map N8))=some (undef,H.set b (some (splice cs o (p.map N8)))):=oV (by simpa using hp) tK h
theorem Ti {cs:List Value} {b o n:Nat} {p:List Int} (hp:p.length=n) (h:o+n≤cs.length):dV (some cs) H b o n (aggL (p.map I))=some (undef,H.set b (some (splice cs o (p.map I)))):=oV (by simpa using hp) Rl h
theorem Tj {cs:List Value} {b o n:Nat} {p:List Bool} (hp:p.length=n) (h:o+n≤cs.length):dV (some cs) H b o n (aggL (p.map B))=some (undef,H.set b (some (splice cs o (p.map B)))):=oV (by simpa using hp) H8 h
theorem Tm {n:Nat} {p:List Nat} (hp:p.length=n):getN (some n) (p.map N8) 0=some (PL p):=by
 rw [tJ (by simp [hp]),List.drop_zero,List.take_of_length_le (by simp [hp])]
theorem Tn {n:Nat} {p:List Bool} (hp:p.length=n):getN (some n) (p.map B) 0=some (aggL (p.map B)):=by
 rw [tJ (by simp [hp]),List.drop_zero,List.take_of_length_le (by simp [hp])]
theorem Tq {n:Nat} {p:List Int} (hp:p.length=n):getN (some n) (p.map I) 0=some (aggL (p.map I)):=by
 rw [tJ (by simp [hp]),List.drop_zero,List.take_of_length_le (by simp [hp])]
theorem Tt {s:List Bool} {b o:Nat} {c:Bool} (h:o<s.length):dV (some (s.map B)) H b o 1 (.bool c)=some (undef,H.set b (some ((s.set o c).map B))):=by
 rw [adR (by simpa using h),Rk h]
theorem Tv {s:List Nat} {b o c:Nat} (h:o<s.length):dV (some (s.map N8)) H b o 1 (.int .u8 (c:Int))=some (undef,H.set b (some ((s.set o c).map N8))):=by
 rw [rC (by simpa using h),Rj h]
theorem Tz {s:List Int} {b o:Nat} {c:Int} (h:o<s.length):dV (some (s.map I)) H b o 1 (.int .i64 c)=some (undef,H.set b (some ((s.set o c).map I))):=by
 rw [rC (by simpa using h),adQ h]
theorem uj {v:Value} {b n:Nat} {vs:List Value} (hp:vs.length=n) (h1:vs.all fJ=true):dV (some (List.replicate n v)) H b 0 n (aggL vs)=some (undef,H.set b (some vs)):=by
 rw [oV hp h1 (by simp),Dk (by simpa using hp)]
theorem TA {v:Value} {b n:Nat} {p:List Nat} (hp:p.length=n):dV (some (List.replicate n v)) H b 0 n (aggL (p.map N8))=some (undef,H.set b (some (p.map N8))):=uj (by simpa using hp) tK
theorem TB {v:Value} {b n:Nat} {p:List Int} (hp:p.length=n):dV (some (List.replicate n v)) H b 0 n (aggL (p.map I))=some (undef,H.set b (some (p.map I))):=uj (by simpa using hp) Rl
theorem TD {v:Value} {b n:Nat} {p:List Bool} (hp:p.length=n):dV (some (List.replicate n v)) H b 0 n (aggL (p.map B))=some (undef,H.set b (some (p.map B))):=uj (by simpa using hp) H8
theorem TF {v:Value} {b n:Nat} {c:Bool}:dV (some (List.replicate n v)) H b 0 n (aggL (List.replicate n (.bool c)))=some (undef,H.set b (some (List.replicate n (.bool c)))):=uj (by simp) (by simp [fJ])
theorem F9 {v:Value} {b n:Nat} {k:IntKind} {c:Int}:dV (some (List.replicate n v)) H b 0 n (aggL (List.replicate n (.int k c)))=some (undef,H.set b (some (List.replicate n (.int k c)))):=uj (by simp) (by simp [fJ])
theorem TG {n:Nat} {c:Bool} (h:0<n):fillL (List.replicate n (.bool false)) [(0,1, .bool c)]=some (((List.replicate n false).set 0 c).map B):=by
 simp only [fillL,cellsL,List.length_singleton,List.length_replicate]
 rw [if_pos ⟨trivial,by omega⟩,show List.replicate n (Value.bool false)=(List.replicate n false).map B by simp,Rk (by simpa using h)]
theorem adT {n:Nat} {c:Nat} (h:0<n):fillL (List.replicate n (.int .u8 0)) [(0,1, .int .u8 (c:Int))]=some (((List.replicate n 0).set 0 c).map N8):=by
 simp only [fillL,cellsL,List.length_singleton,List.length_replicate]
 rw [if_pos ⟨trivial,by omega⟩,show List.replicate n (Value.int .u8 0)=(List.replicate n 0).map N8 by simp,Rj (by simpa using h)]
theorem TI {n:Nat} (h:0<n):fillL (List.replicate n (.int .u8 0)) [(0,1, .int .u8 1)]=some (((List.replicate n 0).set 0 1).map N8):=adT (c:=1) h
theorem TJ {v:Value} {b n:Nat} {c:Bool}:dV (some (List.replicate n v)) H b 0 n (aggL (((List.replicate n false).set 0 c).map B))=some (undef,H.set b (some (((List.replicate n false).set 0 c).map B))):=uj (by simp) H8
theorem TK {v:Value} {b n c:Nat}:dV (some (List.replicate n v)) H b 0 n (aggL (((List.replicate n 0).set 0 c).map N8))=some (undef,H.set b (some (((List.replicate n 0).set 0 c).map N8))):=uj (by simp) tK
theorem FK {n:Nat} {b:Bool}:List.replicate n (Value.bool b)=(List.replicate n b).map B:=by simp
theorem agH {n m:Nat}:List.replicate n (Value.int .u8 (m:Int))=(List.replicate n m).map N8:=by simp
theorem agI {n:Nat} {m:Int}:List.replicate n (Value.int .i64 m)=(List.replicate n m).map I:=by simp
end
def app1 (y:Option (List Value)) (c:Option (List Value)) (H:BH) (b l bytes cn:Nat):Option (Value×BH):=
 match c,y with
 |some cs,some [v]=>if l≤cs.length∧(l+1)*bytes≤140737488355328∧fJ v=true then some (S H.length 0 (l+1) 1,(H.set b none)++[some (cs.take l++[v])]) else none
 | _,_=>eH 1 bytes (S b 0 l 1) (S cn 0 1 1) H
theorem TL {H:BH} {b c l bytes:Nat}:eH 1 bytes (S b 0 l 1) (S c 0 1 1) H=app1 (blk H c) (blk H b) H b l bytes c:=by
 unfold app1
 split
 ·rename_i cs v hb hc
  simp [eH,newC,hb,hc]
 ·rfl
section
variable {H:BH} {b bytes cn:Nat}
theorem zl {α:Type} {g:α→Value} {xs:List α} {y:α} (ho:fJ (g y)=true) (h:(xs.length+1)*bytes≤140737488355328):app1 (some [g y]) (some (xs.map g)) H b xs.length bytes cn=some (S H.length 0 (xs.length+1) 1,(H.set b none)++[some ((xs++[y]).map g)]):=by
 simp only [app1]
 rw [if_pos ⟨by simp,h,ho⟩]
 simp [List.take_of_length_le]
theorem TM {xs:List Nat} {y:Nat} (h:(xs.length+1)*bytes≤140737488355328):app1 (some [.int .u8 (y:Int)]) (some (xs.map N8)) H b xs.length bytes cn=some (S H.length 0 (xs.length+1) 1,(H.set b none)++[some ((xs++[y]).map N8)]):=zl (g:=N8) rfl h
theorem TN {xs:List Int} {y:Int} (h:(xs.length+1)*bytes≤140737488355328):app1 (some [.int .i64 y]) (some (xs.map I)) H b xs.length bytes cn=some (S H.length 0 (xs.length+1) 1,(H.set b none)++[some ((xs++[y]).map I)]):=zl (g:=I) rfl h
theorem TP {xs:List (List Int)} {y:List Int} (h:(xs.length+1)*bytes≤140737488355328):app1 (some [Fz y.length 1 (y.map I)]) (some (xs.map FI)) H b xs.length bytes cn=some (S H.length 0 (xs.length+1) 1,(H.set b none)++[some ((xs++[y]).map FI)]):=zl (g:=FI) rfl h
theorem agJ {v:Value} (ho:fJ v=true) (h:bytes≤140737488355328):app1 (some [v]) (some []) H b 0 bytes cn=some (S H.length 0 1 1,(H.set b none)++[some [v]]):=by
 simp only [app1]
 rw [if_pos ⟨by simp,by omega,ho⟩];rfl
end
theorem H9 {α:Type} {g:α→Value} {ns:List Nat} {xs:List α} (h: ∀a,pl1 (g a)=true):ren ns (aggL (xs.map g))=aggL (xs.map g):=by
 simp only [ren]
 rw [if_pos (all_map h)]
theorem TQ {ns:List Nat} {p:List Nat}:ren ns (PL p)=PL p:=H9 fun _=>rfl
theorem TR {ns:List Nat} {p:List Bool}:ren ns (aggL (p.map B))=aggL (p.map B):=H9 fun _=>rfl
theorem TS {ns:List Nat} {p:List Int}:ren ns (aggL (p.map I))=aggL (p.map I):=H9 fun _=>rfl
theorem bZ {k:Nat} {rs:List ARes} {K:Value→BH→Prop} {f:Fr} {H:BH} {vs:List Value} {v1:Value} {H1:BH} (h:resAll f H rs=some vs) (g:aY k (tup vs) H v1 H1) (hK:K v1 H1):mg k rs K .ret f H:=⟨vs,h,v1,H1,g,hK⟩
theorem Fa {k:Nat} {rs:List ARes} {K:Value→BH→Prop} {f:Fr} {H:BH} {vs:List Value} {v1:Value} {H1:BH} (h:resAll f H rs=some vs) (g:aY k (tup vs) H v1 H1) (hK:K v1 H1):mg k rs K .normal f H:=⟨vs,h,v1,H1,g,hK⟩
theorem eY {k:Nat} {Q:Ex→Fr→BH→Prop} {f:Fr} {H:BH} {c:Opd} {a b r:ACode} {p:Prop} {t:Bool} (hc:ev f c= .bool t) (hp:t=true↔p) (h1:p→T k (.seq a r) Q f H) (h2: ¬p→T k (.seq b r) Q f H):T k (.seq (.cond c a b) r) Q f H:=by
 refine dY hc ?_
 cases t
 ·exact h2 fun h=>by simpa using hp.2 h
 ·exact h1 (hp.1 rfl)
theorem TT {k:Nat} {Q:Ex→Fr→BH→Prop} {f:Fr} {H:BH} {c:Opd} {a b:ACode} {p:Prop} {t:Bool} (hc:ev f c= .bool t) (hp:t=true↔p) (h1:p→T k a Q f H) (h2: ¬p→T k b Q f H):T k (.cond c a b) Q f H:=by
 refine jX hc ?_
 cases t
 ·exact h2 fun h=>by simpa using hp.2 h
 ·exact h1 (hp.1 rfl)
def TU:ACode→Option Ex
 | .exit i=>some (.exit i)
 | .ret=>some .ret
 | .skip=>some .normal
 | _=>none
theorem aj {k:Nat} {Q:Ex→Fr→BH→Prop} {f:Fr} {H:BH} {c:ACode} {ex:Ex} (h:TU c=some ex) (hq:Q ex f H):T k c Q f H:=by
 cases c<;>simp only [TU,Option.some.injEq,reduceCtorEq] at h<;>subst h
 ·exact pJ hq
 ·exact Ko hq
 ·exact EI hq
def zD:List Nat→Bool
 |[]=>true
 |a::l=> !l.contains a&&zD l
theorem Ia: ∀{l:List Nat},zD l=true→l.Nodup
 |[],_=>List.nodup_nil
 |a::l,h=>by
  simp only [zD,Bool.and_eq_true,Bool.not_eq_true',List.contains_eq_mem,decide_eq_false_iff_not] at h
  exact List.nodup_cons.2 ⟨h.1,Ia h.2⟩
def wF:Nat→Nat→List Nat→Bool
 | _,0,_=>true
 |j,k+1,a::ns=>Nat.beq a j&&wF (j+1) k ns
 | _,_+1,[]=>false
theorem Ib: ∀{j k:Nat} {ns:List Nat},wF j k ns=true→ ∀i,i<k→ns[i]? =some (j+i)
 | _,0,_,_,i,hi=>absurd hi (Nat.not_lt_zero i)
 |j,k+1,[],h,_,_=>by simp [wF] at h
 |j,k+1,a::ns,h,i,hi=>by
  simp only [wF,Bool.and_eq_true] at h
  cases i with
  |zero=>simp [Nat.eq_of_beq_eq_true h.1]
  |succ i=>
   rw [List.getElem?_cons_succ,Ib h.2 i (by omega)]
   simp
   omega
theorem Gh.nrm {k:Nat} {f:Fr} {H:BH} (ns:List Nat) (h1:zD ns=true) (h2:wF 0 k ns=true) (hn:HN H):Gh k f H (fun t=>ren ns (f t)) (ns.map (blk H)):=
 Gh.norm ns (Ia h1) (fun j hj=>by rw [Ib h2 j hj,Nat.zero_add]) hn
theorem aY.nrm {k:Nat} {v:Value} {H:BH} (ns:List Nat) (h1:zD ns=true) (h2:wF 0 k ns=true) (hn:HN H) (hv:NN v):aY k v H v (ns.map (blk H)):=
 aY.norm ns (Ia h1) (fun j hj=>by rw [Ib h2 j hj,Nat.zero_add]) hn hv
theorem TV:aJ []=True:=eq_true aJ.nil
theorem TW {c:Value} {cs:List Value}:aJ (c::cs)=(NN c∧aJ cs):=propext ⟨fun h=>⟨h c (by simp),fun x hx=>h x (by simp [hx])⟩,fun h=>aJ.cons h.1 h.2⟩
theorem TY:HN []=True:=eq_true HN.nil
theorem Ua {H:BH}:HN (none::H)=HN H:=propext ⟨fun h i cs hc=>h (i+1) cs (by simpa [blk] using hc),HN.none⟩
theorem Ub {H:BH} {c:List Value}:HN (some c::H)=(aJ c∧HN H):=propext ⟨fun h=>⟨h 0 c rfl,fun i cs hc=>h (i+1) cs (by simpa [blk] using hc)⟩,fun h=>HN.cons h.1 h.2⟩
theorem jr {cs:List Value} (h:aJ cs):NN (.agg ⟨cs⟩):=NN.agg h
theorem Uc {cs:List Value} (h:aJ cs):NN (.tuple ⟨cs⟩):=NN.tuple h
theorem Ud {m:Nat} {cs:List Value} (h:aJ cs):NN (.func (.func m) #[] ⟨cs⟩):=NN.func h
theorem Ue {as bs:List Value} (h:aJ as) (k:aJ bs):aJ (as++bs):=aJ.append h k
theorem Uf {n:Nat} {v:Value} (h:NN v):aJ (List.replicate n v):=aJ.replicate h
theorem Cb {p:List Nat}:aJ (p.map N8):=aJ.map fun _=>NN.int
theorem Ug {p:List Int}:aJ (p.map I):=aJ.map fun _=>NN.int
theorem Uh {p:List Bool}:aJ (p.map B):=aJ.map fun _=>NN.bool
theorem Ui {p:List (List Int)}:aJ (p.map FI):=aJ.map fun _=>NN.fz
theorem Uj {k:IntKind} {α:Type} {g:α→Int} {p:List α}:aJ (p.map fun x=>Value.int k (g x)):=aJ.map fun _=>NN.int
theorem Uk {α:Type} {g:α→ByteArray} {p:List α}:aJ (p.map fun x=>Value.string (g x)):=aJ.map fun _=>NN.string
theorem RF:(type_of% @upd_apply)∧(type_of% @zZ)∧(type_of% @Aa)∧(type_of% @Ac)∧(type_of% @Ad)∧(type_of% @zY):=⟨@upd_apply, @zZ, @Aa, @Ac, @Ad, @zY⟩
theorem RO:(type_of% @xB)∧(type_of% @xC)∧(type_of% @xE)∧(type_of% @xF)∧(type_of% @Qe)∧(type_of% @PZ)∧(type_of% @Hf)∧(type_of% @P5)∧(type_of% @P6)∧(type_of% @P7)∧(type_of% @P8)∧(type_of% @P9)∧(type_of% @Qa)∧(type_of% @Qb)∧(type_of% @Qc)∧(type_of% @Qd)∧(type_of% @Bool.true_and)∧(type_of% @Bool.and_true)∧(type_of% @Bool.not_false)∧(type_of% @Bool.and_self)∧(type_of% @xG)∧(type_of% @xH)∧(type_of% @xI)∧(type_of% @xJ)∧(type_of% @Pz)∧(type_of% @xK)∧(type_of% @xM)∧(type_of% @xO)∧(type_of% @xP)∧(type_of% @PD)∧(type_of% @xX)∧(type_of% @xQ)∧(type_of% @PV)∧(type_of% @G8)∧(type_of% @xR)∧(type_of% @xU)∧(type_of% @xW)∧(type_of% @xY)∧(type_of% @G9)∧(type_of% @xZ)∧(type_of% @Hl)∧(type_of% @Ho)∧(type_of% @Hq)∧(type_of% @yg)∧(type_of% @yh)∧(type_of% @Hr)∧(type_of% @Ht)∧(type_of% @Hw)∧(type_of% @QE)∧(type_of% @Hy)∧(type_of% @QH)∧(type_of% @yc)∧(type_of% @QK)∧(type_of% @QL)∧(type_of% @xg)∧(type_of% @xk)∧(type_of% @O8)∧(type_of% @Aq)∧(type_of% @Ar)∧(type_of% @Aw)∧(type_of% @Az)∧(type_of% @xq)∧(type_of% @O9)∧(type_of% @Pg)∧(type_of% @Ph)∧(type_of% @Pj)∧(type_of% @Pm)∧(type_of% @Pn)∧(type_of% @xu)∧(type_of% @AA)∧(type_of% @AB)∧(type_of% @Po)∧(type_of% @Pq)∧(type_of% @Pv)∧(type_of% @Px)∧(type_of% @Py)∧(type_of% @AL)∧(type_of% @AO)∧(type_of% @AP)∧(type_of% @AQ)∧(type_of% @AU)∧(type_of% @AX)∧(type_of% @AY)∧(type_of% @PE)∧(type_of% @PG)∧(type_of% @PK)∧(type_of% @PO)∧(type_of% @PU)∧(type_of% @AZ)∧(type_of% @ext1)∧(type_of% @FY)∧(type_of% @F6)∧(type_of% @FZ)∧(type_of% @PY)∧(type_of% @Qs)∧(type_of% @Qu)∧(type_of% @Qv)∧(type_of% @Qw)∧(type_of% @Qx)∧(type_of% @Qy)∧(type_of% @Qz)∧(type_of% @QA)∧(type_of% @QC)∧(type_of% @QD)∧(type_of% @Ul)∧(type_of% @QF)∧(type_of% @QG)∧(type_of% @Bd)∧(type_of% @Bf)∧(type_of% @Bg)∧(type_of% @Bh)∧(type_of% @Bj)∧(type_of% @Bl)∧(type_of% @Bo)∧(type_of% @Bq)∧(type_of% @Bv)∧(type_of% @Bz)∧(type_of% @BA)∧(type_of% @BD)∧(type_of% @BF)∧(type_of% @J3)∧(type_of% @J4)∧(type_of% @J5)∧(type_of% @J6)∧(type_of% @QM)∧(type_of% @QN)∧(type_of% @QO)∧(type_of% @QS)∧(type_of% @QT)∧(type_of% @QU)∧(type_of% @QV)∧(type_of% @QW)∧(type_of% @QX)∧(type_of% @QY)∧(type_of% @QZ)∧(type_of% @Q7)∧(type_of% @Q8)∧(type_of% @Q9)∧(type_of% @TL)∧(type_of% @Rn)∧(type_of% @Ro)∧(type_of% @Rq)∧(type_of% @Rt)∧(type_of% @Ru)∧(type_of% @Rw)∧(type_of% @Rx)∧(type_of% @Rz)∧(type_of% @SG)∧(type_of% @RG)∧(type_of% @RI)∧(type_of% @RJ)∧(type_of% @RP)∧(type_of% @RQ)∧(type_of% @RS)∧(type_of% @RU)∧(type_of% @RX)∧(type_of% @RY)∧(type_of% @Si)∧(type_of% @Sj)∧(type_of% @Sm)∧(type_of% @Sr)∧(type_of% @Sv)∧(type_of% @Sz)∧(type_of% @SA)∧(type_of% @SB)∧(type_of% @SC)∧(type_of% @SE)∧(type_of% @Dl)∧(type_of% @SI)∧(type_of% @SK)∧(type_of% @SL)∧(type_of% @Dn)∧(type_of% @SN)∧(type_of% @SQ)∧(type_of% @SS)∧(type_of% @SV)∧(type_of% @SX)∧(type_of% @SY)∧(type_of% @S9)∧(type_of% @zq)∧(type_of% @SH)∧(type_of% @List.replicate_zero.{0})∧(type_of% @id_eq.{1}):=⟨@xB, @xC, @xE, @xF, @Qe, @PZ, @Hf, @P5, @P6, @P7, @P8, @P9, @Qa, @Qb, @Qc, @Qd, @Bool.true_and, @Bool.and_true, @Bool.not_false, @Bool.and_self, @xG, @xH, @xI, @xJ, @Pz, @xK, @xM, @xO, @xP, @PD, @xX, @xQ, @PV, @G8, @xR, @xU, @xW, @xY, @G9, @xZ, @Hl, @Ho, @Hq, @yg, @yh, @Hr, @Ht, @Hw, @QE, @Hy, @QH, @yc, @QK, @QL, @xg, @xk, @O8, @Aq, @Ar, @Aw, @Az, @xq, @O9, @Pg, @Ph, @Pj, @Pm, @Pn, @xu, @AA, @AB, @Po, @Pq, @Pv, @Px, @Py, @AL, @AO, @AP, @AQ, @AU, @AX, @AY, @PE, @PG, @PK, @PO, @PU, @AZ, @ext1, @FY, @F6, @FZ, @PY, @Qs, @Qu, @Qv, @Qw, @Qx, @Qy, @Qz, @QA, @QC, @QD, @Ul, @QF, @QG, @Bd, @Bf, @Bg, @Bh, @Bj, @Bl, @Bo, @Bq, @Bv, @Bz, @BA, @BD, @BF, @J3, @J4, @J5, @J6, @QM, @QN, @QO, @QS, @QT, @QU, @QV, @QW, @QX, @QY, @QZ, @Q7, @Q8, @Q9, @TL, @Rn, @Ro, @Rq, @Rt, @Ru, @Rw, @Rx, @Rz, @SG, @RG, @RI, @RJ, @RP, @RQ, @RS, @RU, @RX, @RY, @Si, @Sj, @Sm, @Sr, @Sv, @Sz, @SA, @SB, @SC, @SE, @Dl, @SI, @SK, @SL, @Dn, @SN, @SQ, @SS, @SV, @SX, @SY, @S9, @zq, @SH, @List.replicate_zero.{0}, @id_eq.{1}⟩
theorem RC:(type_of% @List.map_cons.{0,0})∧(type_of% @List.map_nil.{0,0})∧(type_of% @Option.map_some.{0,0})∧(type_of% @Option.map_none.{0,0})∧(type_of% @ge_iff_le.{0})∧(type_of% @gt_iff_lt.{0})∧(type_of% @decide_eq_true_eq)∧(type_of% @beq_self_eq_true.{0})∧(type_of% @bne_self_eq_false.{0})∧(type_of% @decide_true)∧(type_of% @decide_false)∧(type_of% @Bool.not_true)∧(type_of% @Bool.not_false)∧(type_of% @and_true)∧(type_of% @true_and)∧(type_of% @and_self)∧(type_of% @Bool.false_eq_true)∧(type_of% @beq_iff_eq.{0})∧(type_of% @Int.natCast_nonneg)∧(type_of% @Int.ofNat_lt)∧(type_of% @Int.ofNat_le)∧(type_of% @Int.ofNat_inj)∧(type_of% @Int.toNat_natCast)∧(type_of% @Nat.mul_one)∧(type_of% @Nat.one_mul)∧(type_of% @Nat.zero_add)∧(type_of% @Nat.add_zero)∧(type_of% @Nat.sub_zero)∧(type_of% @List.length_append.{0})∧(type_of% @List.length_map.{0,0})∧(type_of% @List.length_cons.{0})∧(type_of% @List.length_nil.{0})∧(type_of% @List.length_set.{0})∧(type_of% @List.length_replicate.{0})∧(type_of% @List.all_cons.{0})∧(type_of% @List.all_nil.{0})∧(type_of% @Bool.and_true)∧(type_of% @Bool.true_and)∧(type_of% @Bool.not_eq_true)∧(type_of% @beq_true)∧(type_of% @beq_false)∧(type_of% @true_implies)∧(type_of% @false_implies)∧(type_of% @decide_eq_false_iff_not)∧(type_of% @bne_iff_ne.{0})∧(type_of% @ne_eq.{1})∧(type_of% @not_true_eq_false)∧(type_of% @not_false_eq_true)∧(type_of% @Int.natCast_zero)∧(type_of% @Int.toNat_zero)∧(type_of% @List.cons_append.{0})∧(type_of% @List.nil_append.{0})∧(type_of% @List.set_cons_zero.{0})∧(type_of% @List.set_cons_succ.{0}):=⟨@List.map_cons.{0,0}, @List.map_nil.{0,0}, @Option.map_some.{0,0}, @Option.map_none.{0,0}, @ge_iff_le.{0}, @gt_iff_lt.{0}, @decide_eq_true_eq, @beq_self_eq_true.{0}, @bne_self_eq_false.{0}, @decide_true, @decide_false, @Bool.not_true, @Bool.not_false, @and_true, @true_and, @and_self, @Bool.false_eq_true, @beq_iff_eq.{0}, @Int.natCast_nonneg, @Int.ofNat_lt, @Int.ofNat_le, @Int.ofNat_inj, @Int.toNat_natCast, @Nat.mul_one, @Nat.one_mul, @Nat.zero_add, @Nat.add_zero, @Nat.sub_zero, @List.length_append.{0}, @List.length_map.{0,0}, @List.length_cons.{0}, @List.length_nil.{0}, @List.length_set.{0}, @List.length_replicate.{0}, @List.all_cons.{0}, @List.all_nil.{0}, @Bool.and_true, @Bool.true_and, @Bool.not_eq_true, @beq_true, @beq_false, @true_implies, @false_implies, @decide_eq_false_iff_not, @bne_iff_ne.{0}, @ne_eq.{1}, @not_true_eq_false, @not_false_eq_true, @Int.natCast_zero, @Int.toNat_zero, @List.cons_append.{0}, @List.nil_append.{0}, @List.set_cons_zero.{0}, @List.set_cons_succ.{0}⟩
theorem RD:(type_of% @Ae)∧(type_of% @Af)∧(type_of% @wW)∧(type_of% @w8)∧(type_of% @Ag)∧(type_of% @Ah)∧(type_of% @Ai)∧(type_of% @Aj)∧(type_of% @Ak)∧(type_of% @Ap)∧(type_of% @FX)∧(type_of% @F5)∧(type_of% @PW)∧(type_of% @PX)∧(type_of% @Rh)∧(type_of% @CU)∧(type_of% @H6)∧(type_of% @Ri)∧(type_of% @Tt)∧(type_of% @Tv)∧(type_of% @Tz)∧(type_of% @Ry)∧(type_of% @QB)∧(type_of% @TM)∧(type_of% @TN)∧(type_of% @TP)∧(type_of% @TG)∧(type_of% @TI)∧(type_of% @TJ)∧(type_of% @TK)∧(type_of% @Dk)∧(type_of% @TF)∧(type_of% @F9)∧(type_of% @TA)∧(type_of% @TB)∧(type_of% @TD)∧(type_of% @Tc)∧(type_of% @Td)∧(type_of% @Tf)∧(type_of% @Ti)∧(type_of% @Tj)∧(type_of% @Tm)∧(type_of% @Tn)∧(type_of% @Tq)∧(type_of% @zC)∧(type_of% @wE)∧(type_of% @QI):=⟨@Ae, @Af, @wW, @w8, @Ag, @Ah, @Ai, @Aj, @Ak, @Ap, @FX, @F5, @PW, @PX, @Rh, @CU, @H6, @Ri, @Tt, @Tv, @Tz, @Ry, @QB, @TM, @TN, @TP, @TG, @TI, @TJ, @TK, @Dk, @TF, @F9, @TA, @TB, @TD, @Tc, @Td, @Tf, @Ti, @Tj, @Tm, @Tn, @Tq, @zC, @wE, @QI⟩
theorem RK:(type_of% @Qi)∧(type_of% @Qh)∧(type_of% @Qj)∧(type_of% @Qk)∧(type_of% @Ql)∧(type_of% @Qm)∧(type_of% @Qn)∧(type_of% @Qr)∧(type_of% @Qo)∧(type_of% @Hg)∧(type_of% @Qp)∧(type_of% @Qq):=⟨@Qi, @Qh, @Qj, @Qk, @Ql, @Qm, @Qn, @Qr, @Qo, @Hg, @Qp, @Qq⟩
theorem RZ:(type_of% @vG)∧(type_of% @Um)∧(type_of% @Un)∧(type_of% @Uo)∧(type_of% @Ur)∧(type_of% @FW)∧(type_of% @Us)∧(type_of% @List.map_cons.{0,0})∧(type_of% @List.map_nil.{0,0})∧(type_of% @List.set_cons_zero.{0})∧(type_of% @List.set_cons_succ.{0}):=⟨@vG, @Um, @Un, @Uo, @Ur, @FW, @Us, @List.map_cons.{0,0}, @List.map_nil.{0,0}, @List.set_cons_zero.{0}, @List.set_cons_succ.{0}⟩
theorem RN:(type_of% @aB)∧(type_of% @wX)∧(type_of% @wY)∧(type_of% @wZ)∧(type_of% @if_true.{1})∧(type_of% @if_false.{1})∧(type_of% @Bool.false_eq_true):=⟨@aB, @wX, @wY, @wZ, @if_true.{1}, @if_false.{1}, @Bool.false_eq_true⟩
theorem RA:(type_of% @RF)∧(type_of% @RO)∧(type_of% @RC):=⟨@RF, @RO, @RC⟩
theorem RB:(type_of% @decide_eq_true_eq)∧(type_of% @Bool.or_eq_true)∧(type_of% @Bool.and_eq_true)∧(type_of% @Bool.not_eq_true')∧(type_of% @decide_eq_false_iff_not)∧(type_of% @Bool.not_eq_eq_eq_not)∧(type_of% @Bool.not_true)∧(type_of% @Bool.not_false)∧(type_of% @beq_iff_eq.{0})∧(type_of% @Bool.false_eq_true):=⟨@decide_eq_true_eq, @Bool.or_eq_true, @Bool.and_eq_true, @Bool.not_eq_true', @decide_eq_false_iff_not, @Bool.not_eq_eq_eq_not, @Bool.not_true, @Bool.not_false, @beq_iff_eq.{0}, @Bool.false_eq_true⟩
theorem RE:(type_of% @TQ)∧(type_of% @TR)∧(type_of% @TS):=⟨@TQ, @TR, @TS⟩
theorem RH:(type_of% @TV)∧(type_of% @TW)∧(type_of% @TY)∧(type_of% @Ua)∧(type_of% @Ub)∧(type_of% @jr)∧(type_of% @Uc)∧(type_of% @Ud)∧(type_of% @Ue)∧(type_of% @Uf)∧(type_of% @Cb)∧(type_of% @Ug)∧(type_of% @Uh)∧(type_of% @Ui)∧(type_of% @Uj)∧(type_of% @Uk)∧(type_of% @NN.int)∧(type_of% @NN.bool)∧(type_of% @NN.string)∧(type_of% @NN.nil)∧(type_of% @NN.undef)∧(type_of% @NN.fz)∧(type_of% @and_true)∧(type_of% @true_and)∧(type_of% @and_self):=⟨@TV, @TW, @TY, @Ua, @Ub, @jr, @Uc, @Ud, @Ue, @Uf, @Cb, @Ug, @Uh, @Ui, @Uj, @Uk, @NN.int, @NN.bool, @NN.string, @NN.nil, @NN.undef, @NN.fz, @and_true, @true_and, @and_self⟩
theorem aC {k:Nat} {Q:Ex→Fr→BH→Prop} {f:Fr} {H:BH} {d:Option Nat} {l:List AOper} {b:ACode} {f1:Fr} {H1:BH} {p:Prop} (hp:p) (h: ∀K:Fr→BH→Prop,K f1 H1→opsT d l K f H:=by intro _ h;simp (disch:=omega) only [RA,↓reduceIte,Nat.reduceEqDiff,Nat.reduceBEq,Nat.reduceSub,Nat.reduceAdd,Nat.reduceMul,Nat.reduceLT,Nat.reduceLeDiff,Int.reduceLE,Int.reduceLT,Int.reduceEq,Int.reduceNeg,Int.reduceToNat,Int.reduceMul,Int.reduceAdd,Int.reduceSub,Int.reduceBEq,Int.reduceBNe,reduceCtorEq,RD];exact h) (e:p→T k b Q f1 H1:=by intro h;(try simp only [RN,reduceIte]);first|exact aj rfl h|exact h):T k (.seq (.region d l) b) Q f H:=au fun _ hK=>h _ (hK _ _ (e hp))
theorem aA {k:Nat} {Q:Ex→Fr→BH→Prop} {f:Fr} {H:BH} {d:Option Nat} {l:List AOper} {b:ACode} {f1:Fr} {H1:BH} {p:Prop} {A:Prop} (a:A) (hp:p) (h:A→ ∀K:Fr→BH→Prop,K f1 H1→opsT d l K f H:=by intro q;intro _ h;simp (disch:=omega) only [RA,↓reduceIte,Nat.reduceEqDiff,Nat.reduceBEq,Nat.reduceSub,Nat.reduceAdd,Nat.reduceMul,Nat.reduceLT,Nat.reduceLeDiff,Int.reduceLE,Int.reduceLT,Int.reduceEq,Int.reduceNeg,Int.reduceToNat,Int.reduceMul,Int.reduceAdd,Int.reduceSub,Int.reduceBEq,Int.reduceBNe,reduceCtorEq,RD,q];exact h) (e:p→T k b Q f1 H1:=by intro h;(try simp only [RN,reduceIte]);first|exact aj rfl h|exact h):T k (.seq (.region d l) b) Q f H:=au fun _ hK=>(h a) _ (hK _ _ (e hp))
theorem eP {k:Nat} {Q:Ex→Fr→BH→Prop} {f:Fr} {H:BH} {d:Option Nat} {l:List AOper} {b:ACode} {G:(Fr→BH→Prop)→Prop} (g: ∀K:Fr→BH→Prop,(∀f1 H1,T k b Q f1 H1→K f1 H1)→G K) (h: ∀K:Fr→BH→Prop,G K→opsT d l K f H:=by intro _ h;simp (disch:=omega) only [RA,↓reduceIte,Nat.reduceEqDiff,Nat.reduceBEq,Nat.reduceSub,Nat.reduceAdd,Nat.reduceMul,Nat.reduceLT,Nat.reduceLeDiff,Int.reduceLE,Int.reduceLT,Int.reduceEq,Int.reduceNeg,Int.reduceToNat,Int.reduceMul,Int.reduceAdd,Int.reduceSub,Int.reduceBEq,Int.reduceBNe,reduceCtorEq,RD];exact h):T k (.seq (.region d l) b) Q f H:=au fun K hK=>h K (g K hK)
theorem dF {k:Nat} {Q:Ex→Fr→BH→Prop} {f:Fr} {H:BH} {d:Option Nat} {l:List AOper} {b:ACode} {G:(Fr→BH→Prop)→Prop} {A:Prop} (a:A) (g: ∀K:Fr→BH→Prop,(∀f1 H1,T k b Q f1 H1→K f1 H1)→G K) (h:A→ ∀K:Fr→BH→Prop,G K→opsT d l K f H:=by intro q;intro _ h;simp (disch:=omega) only [RA,↓reduceIte,Nat.reduceEqDiff,Nat.reduceBEq,Nat.reduceSub,Nat.reduceAdd,Nat.reduceMul,Nat.reduceLT,Nat.reduceLeDiff,Int.reduceLE,Int.reduceLT,Int.reduceEq,Int.reduceNeg,Int.reduceToNat,Int.reduceMul,Int.reduceAdd,Int.reduceSub,Int.reduceBEq,Int.reduceBNe,reduceCtorEq,RD,q];exact h):T k (.seq (.region d l) b) Q f H:=au fun K hK=>(h a) K (g K hK)
theorem Oa {k:Nat} {Q:Ex→Fr→BH→Prop} {f:Fr} {H:BH} {d:Option Nat} {l:List AOper} {f1:Fr} {H1:BH} (hp:Q .normal f1 H1) (h: ∀K:Fr→BH→Prop,K f1 H1→opsT d l K f H:=by intro _ h;simp (disch:=omega) only [RA,↓reduceIte,Nat.reduceEqDiff,Nat.reduceBEq,Nat.reduceSub,Nat.reduceAdd,Nat.reduceMul,Nat.reduceLT,Nat.reduceLeDiff,Int.reduceLE,Int.reduceLT,Int.reduceEq,Int.reduceNeg,Int.reduceToNat,Int.reduceMul,Int.reduceAdd,Int.reduceSub,Int.reduceBEq,Int.reduceBNe,reduceCtorEq,RD];exact h):T k (.region d l) Q f H:=dN fun _ hK=>h _ (hK _ _ hp)
theorem bM {k:Nat} {Q:Ex→Fr→BH→Prop} {f:Fr} {H:BH} {d:Option Nat} {l:List AOper} {f1:Fr} {H1:BH} {A:Prop} (a:A) (hp:Q .normal f1 H1) (h:A→ ∀K:Fr→BH→Prop,K f1 H1→opsT d l K f H:=by intro q;intro _ h;simp (disch:=omega) only [RA,↓reduceIte,Nat.reduceEqDiff,Nat.reduceBEq,Nat.reduceSub,Nat.reduceAdd,Nat.reduceMul,Nat.reduceLT,Nat.reduceLeDiff,Int.reduceLE,Int.reduceLT,Int.reduceEq,Int.reduceNeg,Int.reduceToNat,Int.reduceMul,Int.reduceAdd,Int.reduceSub,Int.reduceBEq,Int.reduceBNe,reduceCtorEq,RD,q];exact h):T k (.region d l) Q f H:=dN fun _ hK=>(h a) _ (hK _ _ hp)
theorem aS {p q:Prop} (hp:p) (e:(p→q):=by intro h;simp (disch:=omega) only [RA,↓reduceIte,Nat.reduceEqDiff,Nat.reduceBEq,Nat.reduceSub,Nat.reduceAdd,Nat.reduceMul,Nat.reduceLT,Nat.reduceLeDiff,Int.reduceLE,Int.reduceLT,Int.reduceEq,Int.reduceNeg,Int.reduceToNat,Int.reduceMul,Int.reduceAdd,Int.reduceSub,Int.reduceBEq,Int.reduceBNe,reduceCtorEq,RD];exact h):q:=e hp
theorem gU {p q:Prop} {A:Prop} (a:A) (hp:p) (e:A→(p→q):=by intro q;intro h;simp (disch:=omega) only [RA,↓reduceIte,Nat.reduceEqDiff,Nat.reduceBEq,Nat.reduceSub,Nat.reduceAdd,Nat.reduceMul,Nat.reduceLT,Nat.reduceLeDiff,Int.reduceLE,Int.reduceLT,Int.reduceEq,Int.reduceNeg,Int.reduceToNat,Int.reduceMul,Int.reduceAdd,Int.reduceSub,Int.reduceBEq,Int.reduceBNe,reduceCtorEq,RD,q];exact h):q:=(e a) hp
theorem jy {k:Nat} {Q:Ex→Fr→BH→Prop} {f:Fr} {H:BH} {c:Opd} {a1 b1 r:ACode} {p:Prop} (hp:p) (h:ev f c= .bool true:=by simp (disch:=omega) only [RA,↓reduceIte,Nat.reduceEqDiff,Nat.reduceBEq,Nat.reduceSub,Nat.reduceAdd,Nat.reduceMul,Nat.reduceLT,Nat.reduceLeDiff,Int.reduceLE,Int.reduceLT,Int.reduceEq,Int.reduceNeg,Int.reduceToNat,Int.reduceMul,Int.reduceAdd,Int.reduceSub,Int.reduceBEq,Int.reduceBNe,reduceCtorEq,RD]) (e:p→T k (.seq a1 r) Q f H:=by intro h;(try simp only [RN,reduceIte]);first|exact aj rfl h|exact h):T k (.seq (.cond c a1 b1) r) Q f H:=dY (t:=true) h (e hp)
theorem vV {k:Nat} {Q:Ex→Fr→BH→Prop} {f:Fr} {H:BH} {c:Opd} {a1 b1 r:ACode} {p:Prop} {A:Prop} (a:A) (hp:p) (h:A→ev f c= .bool true:=by intro q;simp (disch:=omega) only [RA,↓reduceIte,Nat.reduceEqDiff,Nat.reduceBEq,Nat.reduceSub,Nat.reduceAdd,Nat.reduceMul,Nat.reduceLT,Nat.reduceLeDiff,Int.reduceLE,Int.reduceLT,Int.reduceEq,Int.reduceNeg,Int.reduceToNat,Int.reduceMul,Int.reduceAdd,Int.reduceSub,Int.reduceBEq,Int.reduceBNe,reduceCtorEq,RD,q]) (e:p→T k (.seq a1 r) Q f H:=by intro h;(try simp only [RN,reduceIte]);first|exact aj rfl h|exact h):T k (.seq (.cond c a1 b1) r) Q f H:=dY (t:=true) (h a) (e hp)
theorem bV {k:Nat} {Q:Ex→Fr→BH→Prop} {f:Fr} {H:BH} {c:Opd} {a1 b1 r:ACode} {p:Prop} (hp:p) (h:ev f c= .bool false:=by simp (disch:=omega) only [RA,↓reduceIte,Nat.reduceEqDiff,Nat.reduceBEq,Nat.reduceSub,Nat.reduceAdd,Nat.reduceMul,Nat.reduceLT,Nat.reduceLeDiff,Int.reduceLE,Int.reduceLT,Int.reduceEq,Int.reduceNeg,Int.reduceToNat,Int.reduceMul,Int.reduceAdd,Int.reduceSub,Int.reduceBEq,Int.reduceBNe,reduceCtorEq,RD]) (e:p→T k (.seq b1 r) Q f H:=by intro h;(try simp only [RN,reduceIte]);first|exact aj rfl h|exact h):T k (.seq (.cond c a1 b1) r) Q f H:=dY (t:=false) h (e hp)
theorem o9 {k:Nat} {Q:Ex→Fr→BH→Prop} {f:Fr} {H:BH} {c:Opd} {a1 b1 r:ACode} {p:Prop} {A:Prop} (a:A) (hp:p) (h:A→ev f c= .bool false:=by intro q;simp (disch:=omega) only [RA,↓reduceIte,Nat.reduceEqDiff,Nat.reduceBEq,Nat.reduceSub,Nat.reduceAdd,Nat.reduceMul,Nat.reduceLT,Nat.reduceLeDiff,Int.reduceLE,Int.reduceLT,Int.reduceEq,Int.reduceNeg,Int.reduceToNat,Int.reduceMul,Int.reduceAdd,Int.reduceSub,Int.reduceBEq,Int.reduceBNe,reduceCtorEq,RD,q]) (e:p→T k (.seq b1 r) Q f H:=by intro h;(try simp only [RN,reduceIte]);first|exact aj rfl h|exact h):T k (.seq (.cond c a1 b1) r) Q f H:=dY (t:=false) (h a) (e hp)
theorem bI {k:Nat} {Q:Ex→Fr→BH→Prop} {f:Fr} {H:BH} {c:Opd} {a1 b1 r:ACode} {t:Bool} {p1 p2:Prop} (p:Prop) (h1:p→p1) (h2: ¬p→p2) (h:ev f c= .bool t:=by simp only [RA,↓reduceIte,Nat.reduceEqDiff,Nat.reduceBEq,Nat.reduceSub,Nat.reduceAdd,Nat.reduceMul,Nat.reduceLT,Nat.reduceLeDiff,Int.reduceLE,Int.reduceLT,Int.reduceEq,Int.reduceNeg,Int.reduceToNat,Int.reduceMul,Int.reduceAdd,Int.reduceSub,Int.reduceBEq,Int.reduceBNe,reduceCtorEq]<;>rfl) (hp:t=true↔p:=by (try simp only [RB])<;>first|done|exact Iff.rfl|omega|simp) (e1:p→p1→T k (.seq a1 r) Q f H:=by intro hc h;(try simp only [RN,reduceIte]);first|exact aj rfl h|exact h) (e2: ¬p→p2→T k (.seq b1 r) Q f H:=by intro hc h;(try simp only [RN,reduceIte]);first|exact aj rfl h|exact h):T k (.seq (.cond c a1 b1) r) Q f H:=eY h hp (fun h=>e1 h (h1 h)) fun h=>e2 h (h2 h)
theorem agK {k:Nat} {Q:Ex→Fr→BH→Prop} {f:Fr} {H:BH} {c:Opd} {a1 b1 r:ACode} {t:Bool} {p1 p2:Prop} {A:Prop} (a:A) (p:Prop) (h1:p→p1) (h2: ¬p→p2) (h:A→ev f c= .bool t:=by intro q;simp only [RA,↓reduceIte,Nat.reduceEqDiff,Nat.reduceBEq,Nat.reduceSub,Nat.reduceAdd,Nat.reduceMul,Nat.reduceLT,Nat.reduceLeDiff,Int.reduceLE,Int.reduceLT,Int.reduceEq,Int.reduceNeg,Int.reduceToNat,Int.reduceMul,Int.reduceAdd,Int.reduceSub,Int.reduceBEq,Int.reduceBNe,reduceCtorEq,q]<;>rfl) (hp:t=true↔p:=by (try simp only [RB])<;>first|done|exact Iff.rfl|omega|simp) (e1:p→p1→T k (.seq a1 r) Q f H:=by intro hc h;(try simp only [RN,reduceIte]);first|exact aj rfl h|exact h) (e2: ¬p→p2→T k (.seq b1 r) Q f H:=by intro hc h;(try simp only [RN,reduceIte]);first|exact aj rfl h|exact h):T k (.seq (.cond c a1 b1) r) Q f H:=eY (h a) hp (fun h=>e1 h (h1 h)) fun h=>e2 h (h2 h)
theorem GK {k:Nat} {Q:Ex→Fr→BH→Prop} {f:Fr} {H:BH} {c:Opd} {a1 b1:ACode} {t:Bool} {p1 p2:Prop} (p:Prop) (h1:p→p1) (h2: ¬p→p2) (h:ev f c= .bool t:=by simp only [RA,↓reduceIte,Nat.reduceEqDiff,Nat.reduceBEq,Nat.reduceSub,Nat.reduceAdd,Nat.reduceMul,Nat.reduceLT,Nat.reduceLeDiff,Int.reduceLE,Int.reduceLT,Int.reduceEq,Int.reduceNeg,Int.reduceToNat,Int.reduceMul,Int.reduceAdd,Int.reduceSub,Int.reduceBEq,Int.reduceBNe,reduceCtorEq]<;>rfl) (hp:t=true↔p:=by (try simp only [RB])<;>first|done|exact Iff.rfl|omega|simp) (e1:p→p1→T k (a1) Q f H:=by intro hc h;(try simp only [RN,reduceIte]);first|exact aj rfl h|exact h) (e2: ¬p→p2→T k (b1) Q f H:=by intro hc h;(try simp only [RN,reduceIte]);first|exact aj rfl h|exact h):T k (.cond c a1 b1) Q f H:=TT h hp (fun h=>e1 h (h1 h)) fun h=>e2 h (h2 h)
theorem agL {k:Nat} {Q:Ex→Fr→BH→Prop} {f:Fr} {H:BH} {c:Opd} {a1 b1:ACode} {t:Bool} {p1 p2:Prop} {A:Prop} (a:A) (p:Prop) (h1:p→p1) (h2: ¬p→p2) (h:A→ev f c= .bool t:=by intro q;simp only [RA,↓reduceIte,Nat.reduceEqDiff,Nat.reduceBEq,Nat.reduceSub,Nat.reduceAdd,Nat.reduceMul,Nat.reduceLT,Nat.reduceLeDiff,Int.reduceLE,Int.reduceLT,Int.reduceEq,Int.reduceNeg,Int.reduceToNat,Int.reduceMul,Int.reduceAdd,Int.reduceSub,Int.reduceBEq,Int.reduceBNe,reduceCtorEq,q]<;>rfl) (hp:t=true↔p:=by (try simp only [RB])<;>first|done|exact Iff.rfl|omega|simp) (e1:p→p1→T k (a1) Q f H:=by intro hc h;(try simp only [RN,reduceIte]);first|exact aj rfl h|exact h) (e2: ¬p→p2→T k (b1) Q f H:=by intro hc h;(try simp only [RN,reduceIte]);first|exact aj rfl h|exact h):T k (.cond c a1 b1) Q f H:=TT (h a) hp (fun h=>e1 h (h1 h)) fun h=>e2 h (h2 h)
theorem aV {k:Nat} {f:Fr} {H:BH} {rs:List ARes} {K:Value→BH→Prop} {vs:List Value} {p:Prop} (hp:p) (h:resAll f H rs=some vs:=by simp (disch:=omega) only [RA,↓reduceIte,Nat.reduceEqDiff,Nat.reduceBEq,Nat.reduceSub,Nat.reduceAdd,Nat.reduceMul,Nat.reduceLT,Nat.reduceLeDiff,Int.reduceLE,Int.reduceLT,Int.reduceEq,Int.reduceNeg,Int.reduceToNat,Int.reduceMul,Int.reduceAdd,Int.reduceSub,Int.reduceBEq,Int.reduceBNe,reduceCtorEq,RD,resAll,resOf];rfl) (e:p→K (tup vs) H:=by intro h;simp only [tup];exact h):mg k rs K .ret f H:=bZ h .refl (e hp)
theorem mJ {k:Nat} {f:Fr} {H:BH} {rs:List ARes} {K:Value→BH→Prop} {vs:List Value} {p:Prop} {A:Prop} (a:A) (hp:p) (h:A→resAll f H rs=some vs:=by intro q;simp (disch:=omega) only [RA,↓reduceIte,Nat.reduceEqDiff,Nat.reduceBEq,Nat.reduceSub,Nat.reduceAdd,Nat.reduceMul,Nat.reduceLT,Nat.reduceLeDiff,Int.reduceLE,Int.reduceLT,Int.reduceEq,Int.reduceNeg,Int.reduceToNat,Int.reduceMul,Int.reduceAdd,Int.reduceSub,Int.reduceBEq,Int.reduceBNe,reduceCtorEq,RD,resAll,resOf,q];rfl) (e:p→K (tup vs) H:=by intro h;simp only [tup];exact h):mg k rs K .ret f H:=bZ (h a) .refl (e hp)
theorem Ut {k:Nat} {f:Fr} {H:BH} {rs:List ARes} {K:Value→BH→Prop} {vs:List Value} (h:resAll f H rs=some vs:=by simp (disch:=omega) only [RA,↓reduceIte,Nat.reduceEqDiff,Nat.reduceBEq,Nat.reduceSub,Nat.reduceAdd,Nat.reduceMul,Nat.reduceLT,Nat.reduceLeDiff,Int.reduceLE,Int.reduceLT,Int.reduceEq,Int.reduceNeg,Int.reduceToNat,Int.reduceMul,Int.reduceAdd,Int.reduceSub,Int.reduceBEq,Int.reduceBNe,reduceCtorEq,RD,resAll,resOf];rfl) (e:K (tup vs) H:=by simp only [tup]):mg k rs K .ret f H:=bZ h .refl e
theorem agM {k:Nat} {f:Fr} {H:BH} {rs:List ARes} {K:Value→BH→Prop} {vs:List Value} {A:Prop} (a:A) (h:A→resAll f H rs=some vs:=by intro q;simp (disch:=omega) only [RA,↓reduceIte,Nat.reduceEqDiff,Nat.reduceBEq,Nat.reduceSub,Nat.reduceAdd,Nat.reduceMul,Nat.reduceLT,Nat.reduceLeDiff,Int.reduceLE,Int.reduceLT,Int.reduceEq,Int.reduceNeg,Int.reduceToNat,Int.reduceMul,Int.reduceAdd,Int.reduceSub,Int.reduceBEq,Int.reduceBNe,reduceCtorEq,RD,resAll,resOf,q];rfl) (e:K (tup vs) H:=by simp only [tup]):mg k rs K .ret f H:=bZ (h a) .refl e
theorem aO {K P:Fr→BH→Prop} {p:Prop} {f:Fr} {H:BH} (hK: ∀f1 H1,P f1 H1→K f1 H1) (hp:p) (e:p→P f H:=by intro h;(try simp only [bW,dH,dG]);(try simp only [RN,reduceIte]);first|exact aj rfl h|exact h):K f H:=hK _ _ (e hp)
theorem dD {k:Nat} {Q:Ex→Fr→BH→Prop} {f:Fr} {H:BH} {c:ACode} {p:Prop} (hp:p) (e:p→T k c Q f H:=by intro h;(first|refine fV rfl ?_|refine fZ rfl ?_);(try simp only [RN,reduceIte]);first|exact aj rfl h|exact h):T k c Q f H:=e hp
theorem jQ {p q:Prop} (hp:p) (e:p→q:=by intro h;(try simp only [RN,reduceIte]);first|exact aj rfl h|exact h):q:=e hp
theorem Oo {k:Nat} {Q:Ex→Fr→BH→Prop} {f:Fr} {H:BH} {i:Nat} {a b:ACode} {p:Prop} (hp:p) (e:p→T k a (bW i (dH k b Q)) f H:=by intro h;(try simp only [RN,reduceIte]);first|exact aj rfl h|exact h):T k (.seq (.block i a) b) Q f H:=pG (uK (e hp))
theorem zi {p q:Prop} (hp:p) (e:p→q:=by intro h;simp only [bW,dH,dG,if_true];exact h):q:=e hp
theorem ah {p:Prop} (h:p:=by simp (disch:=omega) only [RA,↓reduceIte,Nat.reduceEqDiff,Nat.reduceBEq,Nat.reduceSub,Nat.reduceAdd,Nat.reduceMul,Nat.reduceLT,Nat.reduceLeDiff,Int.reduceLE,Int.reduceLT,Int.reduceEq,Int.reduceNeg,Int.reduceToNat,Int.reduceMul,Int.reduceAdd,Int.reduceSub,Int.reduceBEq,Int.reduceBNe,reduceCtorEq,RD,RE, *]<;>rfl):p:=h
theorem kE {p:Prop} (h:p:=by simp (disch:=omega) only [RA,↓reduceIte,Nat.reduceEqDiff,Nat.reduceBEq,Nat.reduceSub,Nat.reduceAdd,Nat.reduceMul,Nat.reduceLT,Nat.reduceLeDiff,Int.reduceLE,Int.reduceLT,Int.reduceEq,Int.reduceNeg,Int.reduceToNat,Int.reduceMul,Int.reduceAdd,Int.reduceSub,Int.reduceBEq,Int.reduceBNe,reduceCtorEq,RD,RE,RZ,CS,nC, *]<;>rfl):p:=h
theorem Dh {p:Prop} (h:p:=by simp only [RH]):p:=h
theorem aH {A0 A1:Prop} (a0:A0) (a1:A1):A0∧A1:=⟨a0,a1⟩
theorem bP {A0 A1 A2:Prop} (a0:A0) (a1:A1) (a2:A2):A0∧A1∧A2:=⟨a0,a1,a2⟩
theorem dh {A0 A1 A2 A3:Prop} (a0:A0) (a1:A1) (a2:A2) (a3:A3):A0∧A1∧A2∧A3:=⟨a0,a1,a2,a3⟩
theorem iy {A0 A1 A2 A3 A4:Prop} (a0:A0) (a1:A1) (a2:A2) (a3:A3) (a4:A4):A0∧A1∧A2∧A3∧A4:=⟨a0,a1,a2,a3,a4⟩
theorem nN {A0 A1 A2 A3 A4 A5:Prop} (a0:A0) (a1:A1) (a2:A2) (a3:A3) (a4:A4) (a5:A5):A0∧A1∧A2∧A3∧A4∧A5:=⟨a0,a1,a2,a3,a4,a5⟩
end Go.Bm
