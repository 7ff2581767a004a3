/- Rules by which a run of the second machine is gone through, operation by operation. -/
import Derived.Test.YtbpfbfbabpkceaaBmT
import Derived.Test.YtbpfbfbabpkceaaAmS2
set_option linter.unusedVariables false
set_option linter.unusedSimpArgs false
namespace Go.Bm
open Go Go.Am
abbrev N8 (n:Nat):Value:= .int .u8 (n:Int)
abbrev PL (p:List Nat):Value:=aggL (p.map N8)
abbrev FI (xs:List Int):Value:=Fz xs.length 1 (xs.map I)
abbrev FB (xs:List Nat):Value:=Fz xs.length 1 (xs.map N8)
abbrev Wn (xss:List (List Int)):Value:=Fz xss.length 1 (xss.map FI)
def nl (p:List Nat) (i:Nat):Nat:=p.getD i 0
section
def dh (o:Option (Value×BH)) (k:Value→BH→Prop):Prop:=
 match o with
 |some (v,H)=>k v H
 |none=>False
theorem Oh {v:Value} {H:BH} {k:Value→BH→Prop}:dh (some (v,H)) k=k v H:=rfl
def aW (d t:Option Nat) (r:List AOper) (K:Fr→BH→Prop) (f:Fr) (H:BH):Value→Prop:=fun v=>opsT (dn d) r K (updO f t v) H
def dW (d t:Option Nat) (r:List AOper) (K:Fr→BH→Prop) (f:Fr):Value→BH→Prop:=fun v H=>opsT (dn d) r K (updO f t v) H
variable {d:Option Nat} {t:Option Nat} {r:List AOper} {K:Fr→BH→Prop} {f:Fr} {H:BH}
theorem ou {v:Value}:aU (some v) (aW d t r K f H)=opsT (dn d) r K (updO f t v) H:=rfl
theorem oz {v:Value}:dh (some (v,H)) (dW d t r K f)=opsT (dn d) r K (updO f t v) H:=rfl
theorem Gy {v:Value}:dW d t r K f v H=opsT (dn d) r K (updO f t v) H:=rfl
theorem oC {n:Nat}:ev f (.t n)=f n:=rfl
theorem Gz {k:IntKind} {n:Int}:ev f (.c (.int k n))= .int k n:=rfl
theorem GH {b:Bool}:ev f (.c (.bool b))= .bool b:=rfl
theorem GI {b:ByteArray}:ev f (.c (.string b))= .string b:=rfl
theorem GK:ev f (.c (.slice none 0 0))= .slice none 0 0:=rfl
theorem GL:ev f (.c .nilFunc)= .nilFunc:=rfl
theorem GN:ev f (.c (.pointer none))= .pointer none:=rfl
theorem oD {n:Nat}:ev f (.f n)= .func (.func n) #[] #[]:=rfl
theorem oI:opsT d [] K f H=K f H:=rfl
def gV (b:Bool):Value→Option Bool
 | .bool x=>some (x==b)
 | .tuple ⟨[]⟩=>some false
 | _=>none
def zI (o:Option Bool) (p q:Prop):Prop:=
 match o with
 |some true=>p
 |some false=>q
 |none=>False
theorem GR {x:Bool}:gV true (.bool x)=some x:=by cases x<;>rfl
theorem GU {x:Bool}:gV false (.bool x)=some (!x):=by cases x<;>rfl
theorem GV {b:Bool}:gV b undef=some false:=rfl
theorem GX {p q:Prop}:zI (some true) p q=p:=rfl
theorem GY {p q:Prop}:zI (some false) p q=q:=rfl
theorem oJ {o:AOp} {g:Nat} {b:Bool}:opsT d (⟨t,o,some (g,b)⟩::r) K f H=zI (gV b (f g)) (opsT d (⟨t,o,none⟩::r) K f H) (opsT (dn d) r K (updO f t undef) H):=by
 have e:kR (some (g,b)) f=gV b (f g):=rfl
 rw [opsT]
 simp only [e]
 generalize gV b (f g)=q
 match q with
 |some true=>
  show _=opsT d (⟨t,o,none⟩::r) K f H
  conv=>rhs;rw [opsT]
  rfl
 |some false=>rfl
 |none=>rfl
theorem oK {g:Nat} {as:List Opd}:opsT d (⟨t, .call g as,none⟩::r) K f H=aA (dP d) g (as.map (ev f)) H (dW d t r K f):=by rw [opsT];rfl
theorem Ud {g:Opd} {as:List Opd} {cap:Nat} {caps:Array Value} (hg:ev f g= .func (.func cap) #[] caps):opsT d (⟨t, .callv g as,none⟩::r) K f H=aA (dP d) cap (as.map (ev f)++caps.toList) H (dW d t r K f):=by
 rw [opsT]
 simp only [kR,hg,true_and]
 rfl
theorem fO {o:AOp} (h2:kT o=false) (h3: ∀g as,o≠ .call g as) (h4:(∀g as,o≠ .callv g as)∧ ∀g as fl,o≠ .callF g as fl):opsT d (⟨t,o,none⟩::r) K f H=dh (aC o (ev f) H) (dW d t r K f):=by
 rw [opsT]
 simp only [kR]
 cases o<;>first|exact absurd rfl (h3 _ _)|exact absurd rfl (h4.1 _ _)|exact absurd rfl (h4.2 _ _ _)|(simp only [h2,Bool.false_eq_true,false_implies,true_and];rfl)
theorem qX {o:AOp} (h2:kT o=true):opsT d (⟨t,o,none⟩::r) K f H=(dP d=false∧dh (aC o (ev f) H) (dW d t r K f)):=by
 rw [opsT]
 simp only [kR]
 cases o<;>first|(simp [kT] at h2;done)|skip
 all_goals
  simp only [kT,true_implies]
  generalize aC _ (ev f) H=q
  match q with
  |some (v,H')=>rfl
  |none=>simp [dh]
theorem bD {o:AOp} {w:Option Value} (h2:kT o=false) (h3: ∀g as,o≠ .call g as) (h4:(∀g as,o≠ .callv g as)∧ ∀g as fl,o≠ .callF g as fl) (h:aC o (ev f) H=w.map fun v=>(v,H)):opsT d (⟨t,o,none⟩::r) K f H=aU w (aW d t r K f H):=by
 rw [fO h2 h3 h4,h]
 cases w<;>rfl
theorem oO {x:Opd}:opsT d (⟨t, .move x,none⟩::r) K f H=opsT (dn d) r K (updO f t (ev f x)) H:=by
 rw [fO rfl (by simp) (by simp)];rfl
theorem oQ {c a b:Opd}:opsT d (⟨t, .pick c a b,none⟩::r) K f H=aU (oH (ev f c) (ev f a) (ev f b)) (aW d t r K f H):=
 bD rfl (by simp) (by simp) (by simp only [aC];cases ev f c<;>rfl)
theorem oU {op:BinOp} {x y:Opd}:opsT d (⟨t, .bin op x y,none⟩::r) K f H=aU (aBin op (ev f x) (ev f y)) (aW d t r K f H):=
 bD rfl (by simp) (by simp) (by rfl)
theorem GZ {op:BinOp} {x y:Opd}:opsT d (⟨t, .sbin op x y,none⟩::r) K f H=aU (aSbin op (ev f x) (ev f y)) (aW d t r K f H):=
 bD rfl (by simp) (by simp) (by rfl)
theorem oV {x:Opd}:opsT d (⟨t, .not x,none⟩::r) K f H=aU (xu (ev f x)) (aW d t r K f H):=
 bD rfl (by simp) (by simp) (by simp only [aC];cases ev f x<;>rfl)
theorem oW {x:Opd}:opsT d (⟨t, .neg x,none⟩::r) K f H=aU (xw (ev f x)) (aW d t r K f H):=
 bD rfl (by simp) (by simp) (by simp only [aC];cases ev f x<;>rfl)
theorem oZ {k:IntKind} {x:Opd}:opsT d (⟨t, .conv k x,none⟩::r) K f H=aU (xA k (ev f x)) (aW d t r K f H):=
 bD rfl (by simp) (by simp) (by simp only [aC];cases ev f x<;>rfl)
theorem o7 {n:Bool} {x y:Opd}:opsT d (⟨t, .eqb n x y,none⟩::r) K f H=aU (tu n (ev f x) (ev f y)) (aW d t r K f H):=
 bD rfl (by simp) (by simp) (by simp only [aC];cases ev f x<;>cases ev f y<;>rfl)
def nN (neg:Bool) (n:Nat) (x y:Value):Option Value:=(aEqa n x y).map fun r=> .bool (if neg then !r else r)
theorem G5 {neg:Bool} {n:Nat} {x y:Opd}:opsT d (⟨t, .eqa neg n x y,none⟩::r) K f H=aU (nN neg n (ev f x) (ev f y)) (aW d t r K f H):=
 bD rfl (by simp) (by simp) (by simp only [aC,nN,Option.map_map];rfl)
def qY (neg:Bool):Value→Option Value
 | .slice a _ _=>some (.bool (if neg then !a.isNone else a.isNone))
 | .iface (_+1) (.iface _ (.tuple _))=>some (.bool neg)
 | _=>none
theorem G6 {neg:Bool} {n e:Nat}:qY neg (.slice none n e)=some (.bool !neg):=by cases neg<;>rfl
theorem G7 {neg:Bool} {b o n e:Nat}:qY neg (S b o n e)=some (.bool neg):=by cases neg<;>rfl
theorem Wp {neg:Bool} {l e:Nat} {cs:List Value} (h:0<l):qY neg (Fz l e cs)=some (.bool neg):=by
 obtain ⟨n,rfl⟩: ∃n,l=n+1:=⟨l-1,by omega⟩
 rfl
theorem pF {n:Bool} {x:Opd}:opsT d (⟨t, .eqn n x,none⟩::r) K f H=aU (qY n (ev f x)) (aW d t r K f H):=
 bD rfl (by simp) (by simp) (by
  simp only [aC,qY]
  repeat' split
  all_goals first|rfl|simp_all)
def qB:Value→Option Value
 | .slice _ n _=>some (.int .i64 n)
 | .iface n (.iface _ (.tuple _))=>some (.int .i64 n)
 | _=>none
theorem G8 {a:Option Addr} {n e:Nat}:qB (.slice a n e)=some (.int .i64 n):=rfl
theorem G9 {n e:Nat} {cs:List Value}:qB (Fz n e cs)=some (.int .i64 n):=rfl
theorem o8 {x:Opd}:opsT d (⟨t, .len x,none⟩::r) K f H=aU (qB (ev f x)) (aW d t r K f H):=
 bD rfl (by simp) (by simp) (by
  simp only [aC,qB]
  repeat' split
  all_goals first|rfl|simp_all)
def He:Value→Option Value
 | .string s=>some (.int .i64 s.size)
 | _=>none
theorem Hf {s:ByteArray}:He (.string s)=some (.int .i64 s.size):=rfl
theorem Hg {x:Opd}:opsT d (⟨t, .lenStr x,none⟩::r) K f H=aU (He (ev f x)) (aW d t r K f H):=
 bD rfl (by simp) (by simp) (by simp only [aC];cases ev f x<;>rfl)
theorem zJ {n:Nat}:opsT d (⟨t, .lenConst n,none⟩::r) K f H=opsT (dn d) r K (updO f t (.int .i64 n)) H:=by
 rw [fO rfl (by simp) (by simp)];rfl
theorem o9 {x:Opd} {j:Nat}:opsT d (⟨t, .extract x j,none⟩::r) K f H=aU (jZ j (ev f x)) (aW d t r K f H):=
 bD rfl (by simp) (by simp) (by simp only [aC];cases ev f x<;>rfl)
theorem pq {xs:List Opd}:opsT d (⟨t, .max xs,none⟩::r) K f H=aU (foldV max2 (xs.map (ev f))) (aW d t r K f H):=
 bD rfl (by simp) (by simp) (by rfl)
theorem pz {xs:List Opd}:opsT d (⟨t, .min xs,none⟩::r) K f H=aU (foldV min2 (xs.map (ev f))) (aW d t r K f H):=
 bD rfl (by simp) (by simp) (by rfl)
def lH (e:Nat) (x i:Value):Option Value:=
 match x,intOf i with
 | .slice (some ⟨b,o,none⟩) len e',some i=>if 0≤i∧i<len∧e'=e then some (P b (o+i.toNat*e)) else none
 | .iface len (.iface e' (.tuple ⟨cs⟩)),some i=>if 0≤i∧i<len∧e'=e then some (Fp (i.toNat*e) cs) else none
 | _,_=>none
theorem yI {b o len e:Nat} {k:IntKind} {i:Int} (h:0≤i∧i<len):lH e (S b o len e) (.int k i)=some (P b (o+i.toNat*e)):=by simp [lH,intOf,h]
theorem yL {len e:Nat} {cs:List Value} {k:IntKind} {i:Int} (h:0≤i∧i<len):lH e (Fz len e cs) (.int k i)=some (Fp (i.toNat*e) cs):=by simp [lH,Fz,intOf,h]
theorem pG {e:Nat} {x i:Opd}:opsT d (⟨t, .indexAddr none e x i,none⟩::r) K f H=aU (lH e (ev f x) (ev f i)) (aW d t r K f H):=
 bD rfl (by simp) (by simp) (by
  simp only [aC,lH]
  generalize intOf (ev f i)=q
  generalize ev f x=vx
  cases vx<;>try rfl
  case slice a n e'=>
   cases a<;>try rfl
   rename_i a
   obtain ⟨b,o,sp⟩:=a
   cases sp<;>cases q<;>try rfl
   simp only
   split<;>rfl
  case iface l w=>
   cases w<;>try rfl
   rename_i l w
   cases w<;>try rfl
   cases q<;>try rfl
   simp only
   split<;>rfl)
def nO (n e:Nat) (x i:Value):Option Value:=
 match x,intOf i with
 | .pointer (some ⟨b,o,none⟩),some i=>if 0≤i∧i<n then some (P b (o+i.toNat*e)) else none
 | .iface o (.tuple ⟨cs⟩),some i=>if 0≤i∧i<n then some (Fp (o+i.toNat*e) cs) else none
 | _,_=>none
theorem Hl {n e b o:Nat} {k:IntKind} {i:Int} (h:0≤i∧i<n):nO n e (P b o) (.int k i)=some (P b (o+i.toNat*e)):=by simp [nO,intOf,h]
theorem Ho {n e o:Nat} {cs:List Value} {k:IntKind} {i:Int} (h:0≤i∧i<n):nO n e (Fp o cs) (.int k i)=some (Fp (o+i.toNat*e) cs):=by simp [nO,Fp,intOf,h]
theorem zK {n e:Nat} {x i:Opd}:opsT d (⟨t, .indexAddr (some n) e x i,none⟩::r) K f H=aU (nO n e (ev f x) (ev f i)) (aW d t r K f H):=
 bD rfl (by simp) (by simp) (by
  simp only [aC,nO]
  generalize intOf (ev f i)=q
  generalize ev f x=vx
  cases vx<;>try rfl
  case pointer a=>
   cases a<;>try rfl
   rename_i a
   obtain ⟨b,o,sp⟩:=a
   cases sp<;>cases q<;>try rfl
   simp only
   split<;>rfl
  case iface l w=>
   cases w<;>try rfl
   cases q<;>try rfl
   simp only
   split<;>rfl)
def nG (n:Option Nat) (H:BH):Value→Option Value
 | .pointer (some ⟨b,o,none⟩)=>(match blk H b with|some cs=>getN n cs o|none=>none)
 | .iface o (.tuple ⟨cs⟩)=>getN n cs o
 | _=>none
def zL (n:Option Nat) (c:Option (List Value)) (o:Nat):Option Value:=
 match c with
 |some cs=>getN n cs o
 |none=>none
theorem yK {n:Option Nat} {cs:List Value} {o:Nat}:zL n (some cs) o=getN n cs o:=rfl
theorem yJ {n:Option Nat} {b o:Nat}:nG n H (P b o)=zL n (blk H b) o:=by simp only [nG,zL]
theorem yM {n:Option Nat} {o:Nat} {cs:List Value}:nG n H (Fp o cs)=getN n cs o:=rfl
theorem pI {n:Option Nat} {a:Opd}:opsT d (⟨t, .load n a,none⟩::r) K f H=aU (nG n H (ev f a)) (aW d t r K f H):=
 bD rfl (by simp) (by simp) (by
  simp only [aC,nG]
  repeat' split
  all_goals simp_all)
def nP (n:Nat) (a v:Value) (H:BH):Option (Value×BH):=
 match a with
 | .pointer (some ⟨b,o,none⟩)=>
  (match blk H b with
  |some cs=>
   (match cells2 v with
   |some vs=>if vs.length=n∧o+n≤cs.length∧vs.all dB=true then some (undef,H.set b (some (splice cs o vs))) else none
   |none=>none)
  |none=>none)
 | _=>none
def bQ (c:Option (List Value)) (H:BH) (b o n:Nat) (v:Value):Option (Value×BH):=
 match c,cells2 v with
 |some cs,some vs=>if vs.length=n∧o+n≤cs.length∧vs.all dB=true then some (undef,H.set b (some (splice cs o vs))) else none
 | _,_=>none
theorem Hq {b o n:Nat} {v:Value}:nP n (P b o) v H=bQ (blk H b) H b o n v:=by
 simp only [nP,bQ]
 cases blk H b<;>cases cells2 v<;>rfl
theorem oL {n:Nat} {a v:Opd}:opsT d (⟨t, .store n a v,none⟩::r) K f H=(dP d=false∧dh (nP n (ev f a) (ev f v) H) (dW d t r K f)):=by
 rw [qX rfl]
 have:aC (.store n a v) (ev f) H=nP n (ev f a) (ev f v) H:=rfl
 rw [this]
def kU (H:BH) (a:Value):List Value→Bool
 |[]=>true
 |x::xs=>gU H a x&&kU H a xs
theorem Hr {a:Value}:kU H a []=true:=rfl
theorem zM {a x:Value} {xs:List Value}:kU H a (x::xs)=(gU H a x&&kU H a xs):=rfl
theorem Ht {i o j q:Nat}:gU H (P i o) (P j q)=(!(j==i)&&(blk H j).isSome):=rfl
theorem Hu {i o j q n e:Nat}:gU H (P i o) (S j q n e)=(!(j==i)&&(blk H j).isSome):=rfl
theorem Hw {i o:Nat}:gU H (P i o) (.slice none 0 0)=true:=rfl
theorem Hy {i o:Nat} {k:IntKind} {n:Int}:gU H (P i o) (.int k n)=true:=rfl
theorem Hz {i o:Nat} {b:Bool}:gU H (P i o) (.bool b)=true:=rfl
theorem HY {i o l e:Nat} {cs:List Value}:gU H (P i o) (Fz l e cs)=true:=rfl
theorem H6 {i o l:Nat} {cs:List Value}:gU H (P i o) (Fp l cs)=true:=rfl
theorem H7 {i o:Nat} {cs:List Value}:gU H (P i o) (aggL cs)=true:=rfl
theorem H8 {cs:List Value}:(some cs).isSome=true:=rfl
theorem H9 {n:Nat} {a v:Opd} {fl:List Opd}:opsT d (⟨t, .storeF n a v fl,none⟩::r) K f H=(kU H (ev f a) (fl.map (ev f))=true∧dP d=false∧dh (nP n (ev f a) (ev f v) H) (dW d t r K f)):=by
 rw [qX rfl]
 have e:(fl.all fun x=>gU H (ev f a) (ev f x))=kU H (ev f a) (fl.map (ev f)):=by
  induction fl with
  |nil=>rfl
  |cons x xs ih=>simp only [List.all_cons,List.map_cons,zM,ih]
 have:aC (.storeF n a v fl) (ev f) H=if kU H (ev f a) (fl.map (ev f))=true then nP n (ev f a) (ev f v) H else none:=by
  rw [←e];rfl
 rw [this]
 by_cases h:kU H (ev f a) (fl.map (ev f))=true
 ·rw [if_pos h];simp [h]
 ·rw [if_neg h];simp [h,dh]
theorem oN {e b:Nat} {s x:Opd}:opsT d (⟨t, .append e b s x,none⟩::r) K f H=(dP d=false∧dh (dK e b (ev f s) (ev f x) H) (dW d t r K f)):=by
 rw [qX rfl];rfl
def Ia (d t:Option Nat) (r:List AOper) (K:Fr→BH→Prop) (f:Fr) (H:BH) (l:List Value):Value→BH→Prop:=fun v H'=>keepW H H' l∧opsT (dn d) r K (updO f t v) H'
theorem Ib {l:List Value} {v:Value} {H1:BH}:Ia d t r K f H l v H1=(keepW H H1 l∧opsT (dn d) r K (updO f t v) H1):=rfl
theorem Ic {g:Nat} {as fl:List Opd}:opsT d (⟨t, .callF g as fl,none⟩::r) K f H=(dP d=false∧aA false g (as.map (ev f)) H (Ia d t r K f H (fl.map (ev f)))):=by rw [opsT];rfl
theorem Ie {H1:BH}:keepW H H1 []=True:=rfl
theorem Ig {H1:BH} {x:Value} {xs:List Value}:keepW H H1 (x::xs)=(lZ H H1 x∧keepW H H1 xs):=rfl
theorem Ih {H1:BH} {j o:Nat}:lZ H H1 (P j o)=l7 (blk H j) (blk H1 j):=rfl
theorem Ii {H1:BH} {j o l e:Nat}:lZ H H1 (S j o l e)=l7 (blk H j) (blk H1 j):=rfl
theorem Ij {H1:BH} {k:IntKind} {n:Int}:lZ H H1 (.int k n)=True:=rfl
theorem Wq {cs:List Value} (h:cs.all Am.plain=true):l7 (some cs) (some cs)=True:=eq_true ⟨rfl,h⟩
def kV (H:BH) (a:Value):List Value→Bool
 |[]=>true
 |x::xs=>l9 H a x&&kV H a xs
theorem Ik {a:Value}:kV H a []=true:=rfl
theorem zN {a x:Value} {xs:List Value}:kV H a (x::xs)=(l9 H a x&&kV H a xs):=rfl
theorem Il {i o l e:Nat} {x:Value}:l9 H (S i o l e) x=gU H (P i 0) x:=rfl
theorem Io {x:Value}:l9 H (.slice none 0 0) x=true:=rfl
theorem Ip {e_1 b:Nat} {s x:Opd} {fl:List Opd}:opsT d (⟨t, .appendF e_1 b s x fl,none⟩::r) K f H=(kV H (ev f s) (fl.map (ev f))=true∧dP d=false∧dh (dK e_1 b (ev f s) (ev f x) H) (dW d t r K f)):=by
 rw [qX rfl]
 have e:(fl.all fun y=>l9 H (ev f s) (ev f y))=kV H (ev f s) (fl.map (ev f)):=by
  induction fl with
  |nil=>rfl
  |cons x xs ih=>simp only [List.all_cons,List.map_cons,zN,ih]
 have:aC (.appendF e_1 b s x fl) (ev f) H=if kV H (ev f s) (fl.map (ev f))=true then dK e_1 b (ev f s) (ev f x) H else none:=by
  rw [←e];rfl
 rw [this]
 by_cases h:kV H (ev f s) (fl.map (ev f))=true
 ·rw [if_pos h];simp [h]
 ·rw [if_neg h];simp [h,dh]
theorem zO {z:List Value}:opsT d (⟨t, .alloc z,none⟩::r) K f H=(z.all Am.plain=true∧opsT (dn d) r K (updO f t (P H.length 0)) (H++[some z])):=by
 rw [fO rfl (by simp) (by simp)]
 simp only [aC]
 split
 ·rename_i h;simp only [h,true_and];rfl
 ·rename_i h;simp only [h];simp [dh]
def jX (v:Value) (H:BH):Option (Value×BH):=
 match cells2 v with
 |some cs=>some (P H.length 0,H++[some cs])
 |none=>none
theorem zQ {x:Opd}:opsT d (⟨t, .box x,none⟩::r) K f H=dh (jX (ev f x) H) (dW d t r K f):=by
 rw [fO rfl (by simp) (by simp)];rfl
theorem Iq {cs:List Value}:jX (aggL cs) H=some (P H.length 0,H++[some cs]):=rfl
theorem Ir {k:IntKind} {n:Int}:jX (.int k n) H=some (P H.length 0,H++[some [.int k n]]):=rfl
theorem Iu {b:Bool}:jX (.bool b) H=some (P H.length 0,H++[some [.bool b]]):=rfl
theorem Iw {s:ByteArray}:jX (.string s) H=some (P H.length 0,H++[some [.string s]]):=rfl
theorem Iy {a:Option Addr} {l e:Nat}:jX (.slice a l e) H=some (P H.length 0,H++[some [.slice a l e]]):=rfl
theorem Iz {l e:Nat} {cs:List Value}:jX (Fz l e cs) H=some (P H.length 0,H++[some [Fz l e cs]]):=rfl
theorem IB {b o:Nat}:jX (P b o) H=some (P H.length 0,H++[some [P b o]]):=rfl
theorem IC {g:Fn} {a b:Array Value}:jX (.func g a b) H=some (P H.length 0,H++[some [.func g a b]]):=rfl
theorem zS {z:List Value} {p:List (Nat×Nat×Opd)}:opsT d (⟨t, .build z p,none⟩::r) K f H=(z.all Am.plain=true∧(p.map fun p=>nj (ev f p.2.2)).all id=true∧aU ((fillL z (p.map fun p=>(p.1,p.2.1,ev f p.2.2))).map aggL) (aW d t r K f H)):=by
 rw [fO rfl (by simp) (by simp)]
 simp only [aC,List.all_map,Function.id_comp]
 by_cases h:z.all Am.plain=true∧(p.all fun p=>nj (ev f p.2.2))=true
 ·rw [if_pos h,←and_assoc]
  simp only [h.1,h.2,and_self,true_and]
  cases fillL z _<;>rfl
 ·rw [if_neg h,←and_assoc]
  simp only [h,false_and]
  rfl
theorem pK {e n:Nat} {z:List Value} {p:List (Nat×Nat×Opd)}:opsT d (⟨t, .buildSlice e n z p,none⟩::r) K f H=(n*e≤16777216∧z.all Am.plain=true∧(p.map fun p=>nj (ev f p.2.2)).all id=true∧
  dh ((fillL (repl z n) (p.map fun p=>(p.1,p.2.1,ev f p.2.2))).map fun cs=>(S H.length 0 n e,H++[some cs])) (dW d t r K f)):=by
 rw [fO rfl (by simp) (by simp)]
 simp only [aC,List.all_map,Function.id_comp]
 by_cases h:n*e≤16777216∧z.all Am.plain=true∧(p.all fun p=>nj (ev f p.2.2))=true
 ·rw [if_pos h]
  simp only [h.1,h.2.1,h.2.2,true_and]
 ·rw [if_neg h,←and_assoc,←and_assoc,and_assoc (a:=n*e≤16777216)]
  simp only [h,false_and]
  rfl
def wJ (e:Nat) (bytes:Nat) (z:List Value) (l c:Value) (H:BH):Option (Value×BH):=
 match l,c with
 | .int _ l, .int _ c=>if 0≤l∧l≤c∧c*bytes≤140737488355328∧c≤9223372036854775807 then some (S H.length 0 l.toNat e,H++[some (repl z c.toNat)]) else none
 | _,_=>none
theorem IE {e b:Nat} {z:List Value} {k:IntKind} {n:Int} {H:BH} (h:0≤n∧n*b≤140737488355328∧n≤9223372036854775807):wJ e b z (.int k n) (.int k n) H=some (S H.length 0 n.toNat e,H++[some (repl z n.toNat)]):=by
 simp only [wJ]
 rw [if_pos (by omega)]
theorem pO {e b:Nat} {z:List Value} {l c:Opd}:opsT d (⟨t, .makeSlice e b z l c,none⟩::r) K f H=(z.all Am.plain=true∧dh (wJ e b z (ev f l) (ev f c) H) (dW d t r K f)):=by
 rw [fO rfl (by simp) (by simp)]
 simp only [aC,wJ]
 generalize ev f l=vl
 generalize ev f c=vc
 by_cases hz:z.all Am.plain=true
 ·simp only [hz,true_and]
  cases vl<;>cases vc<;>rfl
 ·simp only [hz,Bool.false_eq_true,false_and,if_false]
  cases vl<;>cases vc<;>simp [dh]
def wK (off:Nat):Value→Option Value
 | .pointer (some ⟨b,o,none⟩)=>some (P b (o+off))
 | .iface o (.tuple ⟨cs⟩)=>some (Fp (o+off) cs)
 | _=>none
theorem IG {off b o:Nat}:wK off (P b o)=some (P b (o+off)):=rfl
theorem II {off o:Nat} {cs:List Value}:wK off (Fp o cs)=some (Fp (o+off) cs):=rfl
theorem zT {o:Nat} {x:Opd}:opsT d (⟨t, .fieldAddr o x,none⟩::r) K f H=aU (wK o (ev f x)) (aW d t r K f H):=
 bD rfl (by simp) (by simp) (by
  simp only [aC,wK]
  repeat' split
  all_goals first|rfl|simp_all)
theorem zU {n:Option Nat} {o:Nat} {x:Opd}:opsT d (⟨t, .field n o x,none⟩::r) K f H=aU (zV n o (ev f x)) (aW d t r K f H):=
 bD rfl (by simp) (by simp) (by simp only [aC];cases ev f x<;>rfl)
theorem zW {l e:Nat} {n:Option Nat} {x i:Opd}:opsT d (⟨t, .index l e n x i,none⟩::r) K f H=aU (nR l e n (ev f x) (ev f i)) (aW d t r K f H):=
 bD rfl (by simp) (by simp) (by
  simp only [aC]
  generalize ev f x=vx
  generalize ev f i=vi
  cases vx<;>cases vi<;>try rfl
  simp only [intOf,nR]
  split<;>rfl)
def IJ:Value→Value→Option Value
 | .string s, .int _ i=>if 0≤i then (s[i.toNat]?).map fun b=> .int .u8 b.toNat else none
 | _,_=>none
theorem IK {x i:Opd}:opsT d (⟨t, .indexStr x i,none⟩::r) K f H=aU (IJ (ev f x) (ev f i)) (aW d t r K f H):=
 bD rfl (by simp) (by simp) (by
  simp only [aC]
  generalize ev f x=vx
  generalize ev f i=vi
  cases vx<;>cases vi<;>try rfl
  simp only [intOf,IJ]
  split
  ·rw [Option.map_map];rfl
  ·rfl)
def wL:Value→Option Value
 | .pointer (some ⟨b,o,none⟩)=>some (P b o)
 | .iface o (.tuple ⟨cs⟩)=>some (Fp o cs)
 | _=>none
theorem IL {b o:Nat}:wL (P b o)=some (P b o):=rfl
theorem IQ {o:Nat} {cs:List Value}:wL (Fp o cs)=some (Fp o cs):=rfl
theorem zX {x:Opd}:opsT d (⟨t, .nilCheck x,none⟩::r) K f H=aU (wL (ev f x)) (aW d t r K f H):=
 bD rfl (by simp) (by simp) (by
  simp only [aC,wL]
  repeat' split
  all_goals first|rfl|simp_all)
theorem IU {g:Nat} {cs:List Opd}:opsT d (⟨t, .makeFunc g cs,none⟩::r) K f H=opsT (dn d) r K (updO f t (.func (.func g) #[] ⟨cs.map (ev f)⟩)) H:=by
 rw [fO rfl (by simp) (by simp)];rfl
def gy (len:Nat) (lo hi:Option Value):Option (Nat×Nat):=cutOf (fun| .c v=>v| _=>undef) len (lo.map .c) (hi.map .c)
theorem zY {len:Nat} {lo hi:Option Opd}:gy len (lo.map (ev f)) (hi.map (ev f))=cutOf (ev f) len lo hi:=by cases lo<;>cases hi<;>rfl
theorem zZ {len:Nat} {k:IntKind} {h:Int} (hh:0≤h∧h≤len):gy len none (some (.int k h))=some (0,h.toNat):=by
 simp only [gy,Option.map_none,Option.map_some,cutOf,intOf]
 rw [if_pos (by omega)];rfl
theorem Aa {len:Nat} {k:IntKind} {l:Int} (hh:0≤l∧l≤len):gy len (some (.int k l)) none=some (l.toNat,len):=by
 simp only [gy,Option.map_none,Option.map_some,cutOf,intOf]
 rw [if_pos (by omega)];simp
theorem IV {len:Nat} {k k':IntKind} {l h:Int} (hh:0≤l∧l≤h∧h≤len):gy len (some (.int k l)) (some (.int k' h))=some (l.toNat,h.toNat):=by
 simp only [gy,Option.map_some,cutOf,intOf]
 rw [if_pos (by omega)]
theorem Rl {len:Nat}:gy len none none=some (0,len):=by
 simp [gy,cutOf]
def kW (e:Nat) (x:Value) (lo hi:Option Value):Option Value:=
 match x with
 | .slice (some ⟨b,o,none⟩) len e'=>if e'=e then (gy len lo hi).map fun (l,h)=>S b (o+l*e) (h-l) e else none
 | .slice none 0 0=>(gy 0 lo hi).map fun _=> .slice none 0 0
 | .iface len (.iface e' (.tuple ⟨cs⟩))=>if e'=e then (gy len lo hi).map fun (l,h)=>Fz (h-l) e ((cs.drop (l*e)).take ((h-l)*e)) else none
 | _=>none
theorem Ws {e b o len l h:Nat} {lo hi:Option Value} (hc:gy len lo hi=some (l,h)):kW e (S b o len e) lo hi=some (S b (o+l*e) (h-l) e):=by simp [kW,hc]
theorem IW {e len l h:Nat} {cs:List Value} {lo hi:Option Value} (hc:gy len lo hi=some (l,h)):kW e (Fz len e cs) lo hi=some (Fz (h-l) e ((cs.drop (l*e)).take ((h-l)*e))):=by simp [kW,Fz,hc]
theorem pJ {e:Nat} {x:Opd} {lo hi:Option Opd}:opsT d (⟨t, .slice e x lo hi,none⟩::r) K f H=aU (kW e (ev f x) (lo.map (ev f)) (hi.map (ev f))) (aW d t r K f H):=
 bD rfl (by simp) (by simp) (by
  simp only [aC,kW,zY]
  generalize ev f x=vx
  cases vx<;>try rfl
  case slice a n e'=>
   cases a with
   |none=>
    cases n<;>cases e'<;>try rfl
    simp only
    rw [Option.map_map];rfl
   |some a=>
    obtain ⟨b,o,sp⟩:=a
    cases sp<;>try rfl
    simp only
    split
    ·rw [Option.map_map];rfl
    ·rfl
  case iface l w=>
   cases w<;>try rfl
   rename_i l w
   cases w<;>try rfl
   simp only
   split
   ·rw [Option.map_map];rfl
   ·rfl)
def IX (x:Value) (lo hi:Option Value):Option Value:=
 match x with
 | .string s=>(gy s.size lo hi).map fun (l,h)=> .string (s.extract l h)
 | _=>none
theorem IY {x:Opd} {lo hi:Option Opd}:opsT d (⟨t, .sliceStr x lo hi,none⟩::r) K f H=aU (IX (ev f x) (lo.map (ev f)) (hi.map (ev f))) (aW d t r K f H):=
 bD rfl (by simp) (by simp) (by
  simp only [aC,IX,zY]
  generalize ev f x=vx
  cases vx<;>try rfl
  simp only
  rw [Option.map_map];rfl)
def yw (len e:Nat) (H:BH) (x:Value) (lo hi:Option Value):Option Value:=
 match x with
 | .pointer (some ⟨b,o,none⟩)=>(match blk H b with|some cs=>if o+len*e≤cs.length then (gy len lo hi).map fun (l,h)=>S b (o+l*e) (h-l) e else none|none=>none)
 | _=>none
theorem IZ {len e:Nat} {x:Opd} {lo hi:Option Opd}:opsT d (⟨t, .sliceArr len e x lo hi,none⟩::r) K f H=aU (yw len e H (ev f x) (lo.map (ev f)) (hi.map (ev f))) (aW d t r K f H):=
 bD rfl (by simp) (by simp) (by
  simp only [aC,yw,zY]
  generalize ev f x=vx
  cases vx<;>try rfl
  case pointer a=>
   cases a<;>try rfl
   rename_i a
   obtain ⟨b,o,sp⟩:=a
   cases sp<;>try rfl
   simp only
   cases blk H b with
   |none=>rfl
   |some cs=>
    simp only
    split
    ·rw [Option.map_map];rfl
    ·rfl)
end
section
variable {H:BH}
theorem I4 {a:Option (List Value)} {l:BH}:blk (a::l) 0=a:=rfl
theorem I5 {a b:Option (List Value)} {l:BH}:blk (a::b::l) 1=b:=rfl
theorem I7 {a b c:Option (List Value)} {l:BH}:blk (a::b::c::l) 2=c:=rfl
theorem I8 {a b c e:Option (List Value)} {l:BH}:blk (a::b::c::e::l) 3=e:=rfl
theorem I9 {a b c e g:Option (List Value)} {l:BH}:blk (a::b::c::e::g::l) 4=g:=rfl
theorem Ja {a b c e g h:Option (List Value)} {l:BH}:blk (a::b::c::e::g::h::l) 5=h:=rfl
theorem Jb {a b c e g h i:Option (List Value)} {l:BH}:blk (a::b::c::e::g::h::i::l) 6=i:=rfl
theorem Jc {a b c e g h i j:Option (List Value)} {l:BH}:blk (a::b::c::e::g::h::i::j::l) 7=j:=rfl
theorem Jd {x0 x1 x2 x3 x4 x5 x6 x7 x8:Option (List Value)} {l:BH}:blk (x0::x1::x2::x3::x4::x5::x6::x7::x8::l) 8=x8:=rfl
theorem Je {x0 x1 x2 x3 x4 x5 x6 x7 x8 x9:Option (List Value)} {l:BH}:blk (x0::x1::x2::x3::x4::x5::x6::x7::x8::x9::l) 9=x9:=rfl
theorem Jf {x0 x1 x2 x3 x4 x5 x6 x7 x8 x9 x10:Option (List Value)} {l:BH}:blk (x0::x1::x2::x3::x4::x5::x6::x7::x8::x9::x10::l) 10=x10:=rfl
theorem Jg {x0 x1 x2 x3 x4 x5 x6 x7 x8 x9 x10 x11:Option (List Value)} {l:BH}:blk (x0::x1::x2::x3::x4::x5::x6::x7::x8::x9::x10::x11::l) 11=x11:=rfl
theorem Jh {x0 x1 x2 x3 x4 x5 x6 x7 x8 x9 x10 x11 x12:Option (List Value)} {l:BH}:blk (x0::x1::x2::x3::x4::x5::x6::x7::x8::x9::x10::x11::x12::l) 12=x12:=rfl
theorem Ji {x0 x1 x2 x3 x4 x5 x6 x7 x8 x9 x10 x11 x12 Jj:Option (List Value)} {l:BH}:blk (x0::x1::x2::x3::x4::x5::x6::x7::x8::x9::x10::x11::x12::Jj::l) 13=Jj:=rfl
theorem Jk {xs:List Int} {rest:List Value} {k:Nat} (h:k<xs.length):getN none (xs.map I++rest) k=some (I (el xs k)):=by
 simp [getN,List.getElem?_append_left,h,el,List.getD]
theorem vC {xs:List Int} {k:Nat} (h:k<xs.length):getN none (xs.map I) k=some (I (el xs k)):=by
 simp [getN,h,el,List.getD]
theorem Ac {p:List Nat} {k:Nat} (h:k<p.length):getN none (p.map N8) k=some (N8 (nl p k)):=by
 simp [getN,h,nl,List.getD]
def bl (p:List Bool) (i:Nat):Bool:=p.getD i false
theorem Jl {p:List Bool} {k:Nat} (h:k<p.length):getN none (p.map B) k=some (.bool (bl p k)):=by
 simp [getN,h,bl,List.getD]
theorem lU {n o:Nat} {cs:List Value} (h:o+n≤cs.length):getN (some n) cs o=some (aggL ((cs.drop o).take n)):=by simp [getN,h]
theorem Ad {α:Type} {g:α→Value} {xs:List α} {k:Nat} {y:α} (h:k<xs.length):splice (xs.map g) k [g y]=(xs.set k y).map g:=by
 simp only [splice,List.length_singleton]
 rw [List.set_eq_take_append_cons_drop]
 simp [h,List.map_take,List.map_drop]
theorem Ue {xs:List Int} {k:Nat} {y:Int} (h:k<xs.length):splice (xs.map I) k [I y]=(xs.set k y).map I:=Ad h
theorem Jm {xs:List Nat} {k y:Nat} (h:k<xs.length):splice (xs.map N8) k [N8 y]=(xs.set k y).map N8:=Ad h
theorem Jo {xs:List Bool} {k:Nat} {y:Bool} (h:k<xs.length):splice (xs.map B) k [.bool y]=(xs.set k y).map B:=Ad h
theorem qZ {cs:List Value} {b o:Nat} {v:Value} {vs:List Value} (hv:cells2 v=some vs) (h1:vs.length=1) (h2:vs.all dB=true) (h:o<cs.length):bQ (some cs) H b o 1 v=some (undef,H.set b (some (splice cs o vs))):=by
 simp only [bQ,hv]
 rw [if_pos ⟨h1,by omega,h2⟩]
theorem lI {cs:List Value} {b o:Nat} {k:IntKind} {n:Int} (h:o<cs.length):bQ (some cs) H b o 1 (.int k n)=some (undef,H.set b (some (splice cs o [.int k n]))):=qZ rfl rfl rfl h
theorem Uf {cs:List Value} {b o:Nat} {t:Bool} (h:o<cs.length):bQ (some cs) H b o 1 (.bool t)=some (undef,H.set b (some (splice cs o [.bool t]))):=qZ rfl rfl rfl h
theorem jE {cs vs:List Value} {b o n:Nat} (h1:vs.length=n) (h2:vs.all dB=true) (h:o+n≤cs.length):bQ (some cs) H b o n (aggL vs)=some (undef,H.set b (some (splice cs o vs))):=by
 simp only [bQ,cells2]
 rw [if_pos ⟨h1,h,h2⟩]
theorem all_map {α:Type} {g:α→Value} {p:Value→Bool} {xs:List α} (h: ∀a,p (g a)=true):(xs.map g).all p=true:=by
 simp [List.all_map,Function.comp_def,h]
theorem lW {p:List Nat}:(p.map N8).all dB=true:=all_map fun _=>rfl
theorem Jp {p:List Int}:(p.map I).all dB=true:=all_map fun _=>rfl
theorem Ae {p:List Bool}:(p.map B).all dB=true:=all_map fun _=>rfl
theorem Jq {n:Nat} {b:Bool}:(List.replicate n (Value.bool b)).all Am.plain=true:=by simp [List.all_replicate,Am.plain]
theorem Jr {n:Nat} {k:IntKind} {m:Int}:(List.replicate n (Value.int k m)).all Am.plain=true:=by simp [List.all_replicate,Am.plain]
theorem Js {b:Bool}:Am.plain (.bool b)=true:=rfl
theorem Jt {k:IntKind} {m:Int}:Am.plain (.int k m)=true:=rfl
theorem Ju {s:ByteArray}:Am.plain (.string s)=true:=rfl
theorem Jv:Am.plain (.slice none 0 0)=true:=rfl
theorem Jw:Am.plain .nilFunc=true:=rfl
theorem w8 {n:Int} (h0:0≤n) (h1:n<256):IntKind.u8.wrap n=n:=by
 have hb:(2:Int)^(8:Nat)=256:=by decide
 have hb':(2:Int)^(7:Nat)=128:=by decide
 simp only [IntKind.wrap,IntKind.bits,IntKind.signed,hb,hb']
 simp only [Bool.false_and,Bool.false_eq_true,if_false]
 omega
theorem Jy {len:Nat} {p:List Nat} {k:IntKind} {i:Int} (h:0≤i∧i<len) (hl:p.length=len):nR len 1 none (PL p) (.int k i)=some (N8 (nl p i.toNat)):=by
 rw [Ug,if_pos h,Nat.mul_one,Ac (by omega)]
theorem Jz {z:List Value}:fillL z []=some z:=rfl
theorem Wu {z:List Value} {o n:Nat} {v:Value} {r:List (Nat×Nat×Value)} (h:(cellsL v).length=n∧o+n≤z.length):fillL z ((o,n,v)::r)=fillL (splice z o (cellsL v)) r:=by
 simp only [fillL];rw [if_pos h]
theorem JA {v:Value} {k0:IntKind} {n0:Int}:fillL (List.replicate 1 v) [(0,1, .int k0 n0)]=some [.int k0 n0]:=rfl
theorem JB {v:Value} {k0:IntKind} {n0:Int} {k1:IntKind} {n1:Int}:fillL (List.replicate 2 v) [(0,1, .int k0 n0),(1,1, .int k1 n1)]=some [.int k0 n0, .int k1 n1]:=rfl
theorem JC {v:Value} {k0:IntKind} {n0:Int} {k1:IntKind} {n1:Int} {k2:IntKind} {n2:Int}:fillL (List.replicate 3 v) [(0,1, .int k0 n0),(1,1, .int k1 n1),(2,1, .int k2 n2)]=some [.int k0 n0, .int k1 n1, .int k2 n2]:=rfl
theorem JD {v:Value} {k0:IntKind} {n0:Int} {k1:IntKind} {n1:Int} {k2:IntKind} {n2:Int} {k3:IntKind} {n3:Int}:fillL (List.replicate 4 v) [(0,1, .int k0 n0),(1,1, .int k1 n1),(2,1, .int k2 n2),(3,1, .int k3 n3)]=some [.int k0 n0, .int k1 n1, .int k2 n2, .int k3 n3]:=rfl
theorem JE {v:Value} {k0:IntKind} {n0:Int} {k1:IntKind} {n1:Int} {k2:IntKind} {n2:Int} {k3:IntKind} {n3:Int} {k4:IntKind} {n4:Int}:fillL (List.replicate 5 v) [(0,1, .int k0 n0),(1,1, .int k1 n1),(2,1, .int k2 n2),(3,1, .int k3 n3),(4,1, .int k4 n4)]=some [.int k0 n0, .int k1 n1, .int k2 n2, .int k3 n3, .int k4 n4]:=rfl
theorem JF {v:Value} {k0:IntKind} {n0:Int} {k1:IntKind} {n1:Int} {k2:IntKind} {n2:Int} {k3:IntKind} {n3:Int} {k4:IntKind} {n4:Int} {k5:IntKind} {n5:Int}:fillL (List.replicate 6 v) [(0,1, .int k0 n0),(1,1, .int k1 n1),(2,1, .int k2 n2),(3,1, .int k3 n3),(4,1, .int k4 n4),(5,1, .int k5 n5)]=some [.int k0 n0, .int k1 n1, .int k2 n2, .int k3 n3, .int k4 n4, .int k5 n5]:=rfl
theorem JG {v:Value} {k0:IntKind} {n0:Int} {k1:IntKind} {n1:Int} {k2:IntKind} {n2:Int} {k3:IntKind} {n3:Int} {k4:IntKind} {n4:Int} {k5:IntKind} {n5:Int} {k6:IntKind} {n6:Int}:fillL (List.replicate 7 v) [(0,1, .int k0 n0),(1,1, .int k1 n1),(2,1, .int k2 n2),(3,1, .int k3 n3),(4,1, .int k4 n4),(5,1, .int k5 n5),(6,1, .int k6 n6)]=some [.int k0 n0, .int k1 n1, .int k2 n2, .int k3 n3, .int k4 n4, .int k5 n5, .int k6 n6]:=rfl
theorem JH {v:Value} {l0 e0:Nat} {c0:List Value}:fillL (List.replicate 1 v) [(0,1,Fz l0 e0 c0)]=some [Fz l0 e0 c0]:=rfl
theorem JI {v:Value} {l0 e0:Nat} {c0:List Value} {l1 e1:Nat} {c1:List Value}:fillL (List.replicate 2 v) [(0,1,Fz l0 e0 c0),(1,1,Fz l1 e1 c1)]=some [Fz l0 e0 c0,Fz l1 e1 c1]:=rfl
theorem JJ {v:Value} {l0 e0:Nat} {c0:List Value} {l1 e1:Nat} {c1:List Value} {l2 e2:Nat} {c2:List Value}:fillL (List.replicate 3 v) [(0,1,Fz l0 e0 c0),(1,1,Fz l1 e1 c1),(2,1,Fz l2 e2 c2)]=some [Fz l0 e0 c0,Fz l1 e1 c1,Fz l2 e2 c2]:=rfl
theorem JK {v:Value} {s0:ByteArray}:fillL (List.replicate 1 v) [(0,1, .string s0)]=some [.string s0]:=rfl
theorem JL {v:Value} {s0:ByteArray} {s1:ByteArray}:fillL (List.replicate 2 v) [(0,1, .string s0),(1,1, .string s1)]=some [.string s0, .string s1]:=rfl
theorem JM {v:Value} {s0:ByteArray} {s1:ByteArray} {s2:ByteArray}:fillL (List.replicate 3 v) [(0,1, .string s0),(1,1, .string s1),(2,1, .string s2)]=some [.string s0, .string s1, .string s2]:=rfl
theorem JO {v:Value} {a0:Option Addr} {l0 e0:Nat}:fillL (List.replicate 1 v) [(0,1, .slice a0 l0 e0)]=some [.slice a0 l0 e0]:=rfl
theorem JQ {v:Value} {a0:Option Addr} {l0 e0:Nat} {a1:Option Addr} {l1 e1:Nat}:fillL (List.replicate 2 v) [(0,1, .slice a0 l0 e0),(1,1, .slice a1 l1 e1)]=some [.slice a0 l0 e0, .slice a1 l1 e1]:=rfl
theorem JR {v:Value} {a0:Option Addr} {l0 e0:Nat} {a1:Option Addr} {l1 e1:Nat} {a2:Option Addr} {l2 e2:Nat}:fillL (List.replicate 3 v) [(0,1, .slice a0 l0 e0),(1,1, .slice a1 l1 e1),(2,1, .slice a2 l2 e2)]=some [.slice a0 l0 e0, .slice a1 l1 e1, .slice a2 l2 e2]:=rfl
theorem JU {v:Value} {b0:Bool}:fillL (List.replicate 1 v) [(0,1, .bool b0)]=some [.bool b0]:=rfl
theorem JV {v:Value} {b0:Bool} {b1:Bool}:fillL (List.replicate 2 v) [(0,1, .bool b0),(1,1, .bool b1)]=some [.bool b0, .bool b1]:=rfl
theorem JW {v:Value} {b0:Bool} {b1:Bool} {b2:Bool}:fillL (List.replicate 3 v) [(0,1, .bool b0),(1,1, .bool b1),(2,1, .bool b2)]=some [.bool b0, .bool b1, .bool b2]:=rfl
theorem JX {v:Value} {n:Nat}:repl [v] n=List.replicate n v:=BA v n
theorem qU {a b:Value} {l:List Value}:splice (a::l) 0 [b]=b::l:=rfl
theorem JY {a b:Value} {l:List Value} {n:Nat}:splice (a::l) (n+1) [b]=a::splice l n [b]:=rfl
theorem wF {cs vs:List Value} (h:vs.length=cs.length):splice cs 0 vs=vs:=by
 simp [splice,h]
theorem wG {k:IntKind} {n:Int}:cellsL (.int k n)=[.int k n]:=rfl
theorem JZ {b:Bool}:cellsL (.bool b)=[.bool b]:=rfl
theorem J3 {b:ByteArray}:cellsL (.string b)=[.string b]:=rfl
theorem J4 {l e:Nat} {cs:List Value}:cellsL (Fz l e cs)=[Fz l e cs]:=rfl
theorem wH {cs:List Value}:cellsL (aggL cs)=cs:=rfl
theorem J5 {a:Option Addr} {l e:Nat}:cellsL (.slice a l e)=[.slice a l e]:=rfl
theorem J6 {k:IntKind} {n:Int}:nj (.int k n)=true:=rfl
theorem J7 {b:Bool}:nj (.bool b)=true:=rfl
theorem J8 {b:ByteArray}:nj (.string b)=true:=rfl
theorem J9 {l e:Nat} {cs:List Value}:nj (Fz l e cs)=true:=rfl
theorem Ko {cs:List Value}:nj (aggL cs)=true:=rfl
theorem Kq {a:Option Addr} {l e:Nat}:nj (.slice a l e)=true:=rfl
theorem Kt {cs:List Value} {b o n:Nat} {c:Bool} (h:o+n≤cs.length):bQ (some cs) H b o n (aggL (List.replicate n (.bool c)))=some (undef,H.set b (some (splice cs o (List.replicate n (.bool c))))):=jE (by simp) (by simp [dB]) h
theorem Ku {cs:List Value} {b o n:Nat} {k:IntKind} {c:Int} (h:o+n≤cs.length):bQ (some cs) H b o n (aggL (List.replicate n (.int k c)))=some (undef,H.set b (some (splice cs o (List.replicate n (.int k c))))):=jE (by simp) (by simp [dB]) h
theorem Kv {cs:List Value} {b o n:Nat} {p:List Nat} (hp:p.length=n) (h:o+n≤cs.length):bQ (some cs) H b o n (aggL (p.map N8))=some (undef,H.set b (some (splice cs o (p.map N8)))):=jE (by simpa using hp) lW h
theorem Kw {cs:List Value} {b o n:Nat} {p:List Int} (hp:p.length=n) (h:o+n≤cs.length):bQ (some cs) H b o n (aggL (p.map I))=some (undef,H.set b (some (splice cs o (p.map I)))):=jE (by simpa using hp) Jp h
theorem Ky {cs:List Value} {b o n:Nat} {p:List Bool} (hp:p.length=n) (h:o+n≤cs.length):bQ (some cs) H b o n (aggL (p.map B))=some (undef,H.set b (some (splice cs o (p.map B)))):=jE (by simpa using hp) Ae h
theorem Kz {n:Nat} {p:List Nat} (hp:p.length=n):getN (some n) (p.map N8) 0=some (PL p):=by
 rw [lU (by simp [hp]),List.drop_zero,List.take_of_length_le (by simp [hp])]
theorem KA {n:Nat} {p:List Bool} (hp:p.length=n):getN (some n) (p.map B) 0=some (aggL (p.map B)):=by
 rw [lU (by simp [hp]),List.drop_zero,List.take_of_length_le (by simp [hp])]
theorem KC {n:Nat} {p:List Int} (hp:p.length=n):getN (some n) (p.map I) 0=some (aggL (p.map I)):=by
 rw [lU (by simp [hp]),List.drop_zero,List.take_of_length_le (by simp [hp])]
theorem KE {s:List Bool} {b o:Nat} {c:Bool} (h:o<s.length):bQ (some (s.map B)) H b o 1 (.bool c)=some (undef,H.set b (some ((s.set o c).map B))):=by
 rw [Uf (by simpa using h),Jo h]
theorem KF {s:List Nat} {b o c:Nat} (h:o<s.length):bQ (some (s.map N8)) H b o 1 (.int .u8 (c:Int))=some (undef,H.set b (some ((s.set o c).map N8))):=by
 rw [lI (by simpa using h),Jm h]
theorem KG {s:List Int} {b o:Nat} {c:Int} (h:o<s.length):bQ (some (s.map I)) H b o 1 (.int .i64 c)=some (undef,H.set b (some ((s.set o c).map I))):=by
 rw [lI (by simpa using h),Ue h]
theorem mg {v:Value} {b n:Nat} {vs:List Value} (hp:vs.length=n) (h1:vs.all dB=true):bQ (some (List.replicate n v)) H b 0 n (aggL vs)=some (undef,H.set b (some vs)):=by
 rw [jE hp h1 (by simp),wF (by simpa using hp)]
theorem KH {v:Value} {b n:Nat} {p:List Nat} (hp:p.length=n):bQ (some (List.replicate n v)) H b 0 n (aggL (p.map N8))=some (undef,H.set b (some (p.map N8))):=mg (by simpa using hp) lW
theorem KI {v:Value} {b n:Nat} {p:List Int} (hp:p.length=n):bQ (some (List.replicate n v)) H b 0 n (aggL (p.map I))=some (undef,H.set b (some (p.map I))):=mg (by simpa using hp) Jp
theorem KJ {v:Value} {b n:Nat} {p:List Bool} (hp:p.length=n):bQ (some (List.replicate n v)) H b 0 n (aggL (p.map B))=some (undef,H.set b (some (p.map B))):=mg (by simpa using hp) Ae
theorem KL {v:Value} {b n:Nat} {c:Bool}:bQ (some (List.replicate n v)) H b 0 n (aggL (List.replicate n (.bool c)))=some (undef,H.set b (some (List.replicate n (.bool c)))):=mg (by simp) (by simp [dB])
theorem KN {v:Value} {b n:Nat} {k:IntKind} {c:Int}:bQ (some (List.replicate n v)) H b 0 n (aggL (List.replicate n (.int k c)))=some (undef,H.set b (some (List.replicate n (.int k c)))):=mg (by simp) (by simp [dB])
theorem KO {n:Nat} {c:Bool} (h:0<n):fillL (List.replicate n (.bool false)) [(0,1, .bool c)]=some (((List.replicate n false).set 0 c).map B):=by
 simp only [fillL,cellsL,List.length_singleton,List.length_replicate]
 rw [if_pos ⟨trivial,by omega⟩,show List.replicate n (Value.bool false)=(List.replicate n false).map B by simp,Jo (by simpa using h)]
theorem Uh {n:Nat} {c:Nat} (h:0<n):fillL (List.replicate n (.int .u8 0)) [(0,1, .int .u8 (c:Int))]=some (((List.replicate n 0).set 0 c).map N8):=by
 simp only [fillL,cellsL,List.length_singleton,List.length_replicate]
 rw [if_pos ⟨trivial,by omega⟩,show List.replicate n (Value.int .u8 0)=(List.replicate n 0).map N8 by simp,Jm (by simpa using h)]
theorem KP {n:Nat} (h:0<n):fillL (List.replicate n (.int .u8 0)) [(0,1, .int .u8 1)]=some (((List.replicate n 0).set 0 1).map N8):=Uh (c:=1) h
theorem KQ {v:Value} {b n:Nat} {c:Bool}:bQ (some (List.replicate n v)) H b 0 n (aggL (((List.replicate n false).set 0 c).map B))=some (undef,H.set b (some (((List.replicate n false).set 0 c).map B))):=mg (by simp) Ae
theorem KR {v:Value} {b n c:Nat}:bQ (some (List.replicate n v)) H b 0 n (aggL (((List.replicate n 0).set 0 c).map N8))=some (undef,H.set b (some (((List.replicate n 0).set 0 c).map N8))):=mg (by simp) lW
theorem yc {n:Nat} {b:Bool}:List.replicate n (Value.bool b)=(List.replicate n b).map B:=by simp
theorem Wv {n m:Nat}:List.replicate n (Value.int .u8 (m:Int))=(List.replicate n m).map N8:=by simp
theorem Wx {n:Nat} {m:Int}:List.replicate n (Value.int .i64 m)=(List.replicate n m).map I:=by simp
end
def app1 (y:Option (List Value)) (c:Option (List Value)) (H:BH) (b l bytes cn:Nat):Option (Value×BH):=
 match c,y with
 |some cs,some [v]=>if l≤cs.length∧(l+1)*bytes≤140737488355328∧dB v=true then some (S H.length 0 (l+1) 1,(H.set b none)++[some (cs.take l++[v])]) else none
 | _,_=>dK 1 bytes (S b 0 l 1) (S cn 0 1 1) H
theorem KT {H:BH} {b c l bytes:Nat}:dK 1 bytes (S b 0 l 1) (S c 0 1 1) H=app1 (blk H c) (blk H b) H b l bytes c:=by
 unfold app1
 split
 ·rename_i cs v hb hc
  simp [dK,newC,hb,hc]
 ·rfl
section
variable {H:BH} {b bytes cn:Nat}
theorem qR {α:Type} {g:α→Value} {xs:List α} {y:α} (ho:dB (g y)=true) (h:(xs.length+1)*bytes≤140737488355328):app1 (some [g y]) (some (xs.map g)) H b xs.length bytes cn=some (S H.length 0 (xs.length+1) 1,(H.set b none)++[some ((xs++[y]).map g)]):=by
 simp only [app1]
 rw [if_pos ⟨by simp,h,ho⟩]
 simp [List.take_of_length_le]
theorem KU {xs:List Nat} {y:Nat} (h:(xs.length+1)*bytes≤140737488355328):app1 (some [.int .u8 (y:Int)]) (some (xs.map N8)) H b xs.length bytes cn=some (S H.length 0 (xs.length+1) 1,(H.set b none)++[some ((xs++[y]).map N8)]):=qR (g:=N8) rfl h
theorem KW {xs:List Int} {y:Int} (h:(xs.length+1)*bytes≤140737488355328):app1 (some [.int .i64 y]) (some (xs.map I)) H b xs.length bytes cn=some (S H.length 0 (xs.length+1) 1,(H.set b none)++[some ((xs++[y]).map I)]):=qR (g:=I) rfl h
theorem KX {xs:List (List Int)} {y:List Int} (h:(xs.length+1)*bytes≤140737488355328):app1 (some [Fz y.length 1 (y.map I)]) (some (xs.map FI)) H b xs.length bytes cn=some (S H.length 0 (xs.length+1) 1,(H.set b none)++[some ((xs++[y]).map FI)]):=qR (g:=FI) rfl h
theorem Wy {v:Value} (ho:dB v=true) (h:bytes≤140737488355328):app1 (some [v]) (some []) H b 0 bytes cn=some (S H.length 0 1 1,(H.set b none)++[some [v]]):=by
 simp only [app1]
 rw [if_pos ⟨by simp,by omega,ho⟩];rfl
end
theorem Af {α:Type} {g:α→Value} {ns:List Nat} {xs:List α} (h: ∀a,pl1 (g a)=true):ren ns (aggL (xs.map g))=aggL (xs.map g):=by
 simp only [ren]
 rw [if_pos (all_map h)]
theorem KY {ns:List Nat} {p:List Nat}:ren ns (PL p)=PL p:=Af fun _=>rfl
theorem KZ {ns:List Nat} {p:List Bool}:ren ns (aggL (p.map B))=aggL (p.map B):=Af fun _=>rfl
theorem La {ns:List Nat} {p:List Int}:ren ns (aggL (p.map I))=aggL (p.map I):=Af fun _=>rfl
theorem aS {k:Nat} {rs:List ARes} {K:Value→BH→Prop} {f:Fr} {H:BH} {vs:List Value} {v1:Value} {H1:BH} (h:resAll f H rs=some vs) (g:aG k (tup vs) H v1 H1) (hK:K v1 H1):jd k rs K .ret f H:=⟨vs,h,v1,H1,g,hK⟩
theorem xY {k:Nat} {rs:List ARes} {K:Value→BH→Prop} {f:Fr} {H:BH} {vs:List Value} {v1:Value} {H1:BH} (h:resAll f H rs=some vs) (g:aG k (tup vs) H v1 H1) (hK:K v1 H1):jd k rs K .normal f H:=⟨vs,h,v1,H1,g,hK⟩
theorem bG {k:Nat} {Q:Ex→Fr→BH→Prop} {f:Fr} {H:BH} {c:Opd} {a b r:ACode} {p:Prop} {t:Bool} (hc:ev f c= .bool t) (hp:t=true↔p) (h1:p→T k (.seq a r) Q f H) (h2: ¬p→T k (.seq b r) Q f H):T k (.seq (.cond c a b) r) Q f H:=by
 refine aP hc ?_
 cases t
 ·exact h2 fun h=>by simpa using hp.2 h
 ·exact h1 (hp.1 rfl)
theorem Lc {k:Nat} {Q:Ex→Fr→BH→Prop} {f:Fr} {H:BH} {c:Opd} {a b:ACode} {p:Prop} {t:Bool} (hc:ev f c= .bool t) (hp:t=true↔p) (h1:p→T k a Q f H) (h2: ¬p→T k b Q f H):T k (.cond c a b) Q f H:=by
 refine ku hc ?_
 cases t
 ·exact h2 fun h=>by simpa using hp.2 h
 ·exact h1 (hp.1 rfl)
def Ld:ACode→Option Ex
 | .exit i=>some (.exit i)
 | .ret=>some .ret
 | .skip=>some .normal
 | _=>none
theorem ah {k:Nat} {Q:Ex→Fr→BH→Prop} {f:Fr} {H:BH} {c:ACode} {ex:Ex} (h:Ld c=some ex) (hq:Q ex f H):T k c Q f H:=by
 cases c<;>simp only [Ld,Option.some.injEq,reduceCtorEq] at h<;>subst h
 ·exact uD hq
 ·exact CP hq
 ·exact xE hq
def ru:List Nat→Bool
 |[]=>true
 |a::l=> !l.contains a&&ru l
theorem Ag: ∀{l:List Nat},ru l=true→l.Nodup
 |[],_=>List.nodup_nil
 |a::l,h=>by
  simp only [ru,Bool.and_eq_true,Bool.not_eq_true',List.contains_eq_mem,decide_eq_false_iff_not] at h
  exact List.nodup_cons.2 ⟨h.1,Ag h.2⟩
def nS:Nat→Nat→List Nat→Bool
 | _,0,_=>true
 |j,k+1,a::ns=>Nat.beq a j&&nS (j+1) k ns
 | _,_+1,[]=>false
theorem Ah: ∀{j k:Nat} {ns:List Nat},nS j k ns=true→ ∀i,i<k→ns[i]? =some (j+i)
 | _,0,_,_,i,hi=>absurd hi (Nat.not_lt_zero i)
 |j,k+1,[],h,_,_=>by simp [nS] at h
 |j,k+1,a::ns,h,i,hi=>by
  simp only [nS,Bool.and_eq_true] at h
  cases i with
  |zero=>simp [Nat.eq_of_beq_eq_true h.1]
  |succ i=>
   rw [List.getElem?_cons_succ,Ah h.2 i (by omega)]
   simp
   omega
theorem Gh.nrm {k:Nat} {f:Fr} {H:BH} (ns:List Nat) (h1:ru ns=true) (h2:nS 0 k ns=true) (hn:HN H):Gh k f H (fun t=>ren ns (f t)) (ns.map (blk H)):=
 Gh.norm ns (Ag h1) (fun j hj=>by rw [Ah h2 j hj,Nat.zero_add]) hn
theorem aG.nrm {k:Nat} {v:Value} {H:BH} (ns:List Nat) (h1:ru ns=true) (h2:nS 0 k ns=true) (hn:HN H) (hv:NN v):aG k v H v (ns.map (blk H)):=
 aG.norm ns (Ag h1) (fun j hj=>by rw [Ah h2 j hj,Nat.zero_add]) hn hv
theorem Le:aF []=True:=eq_true aF.nil
theorem Lh {c:Value} {cs:List Value}:aF (c::cs)=(NN c∧aF cs):=propext ⟨fun h=>⟨h c (by simp),fun x hx=>h x (by simp [hx])⟩,fun h=>aF.cons h.1 h.2⟩
theorem Lj:HN []=True:=eq_true HN.nil
theorem Ll {H:BH}:HN (none::H)=HN H:=propext ⟨fun h i cs hc=>h (i+1) cs (by simpa [blk] using hc),HN.none⟩
theorem Lm {H:BH} {c:List Value}:HN (some c::H)=(aF c∧HN H):=propext ⟨fun h=>⟨h 0 c rfl,fun i cs hc=>h (i+1) cs (by simpa [blk] using hc)⟩,fun h=>HN.cons h.1 h.2⟩
theorem gu {cs:List Value} (h:aF cs):NN (.agg ⟨cs⟩):=NN.agg h
theorem Lp {cs:List Value} (h:aF cs):NN (.tuple ⟨cs⟩):=NN.tuple h
theorem Lr {m:Nat} {cs:List Value} (h:aF cs):NN (.func (.func m) #[] ⟨cs⟩):=NN.func h
theorem Ls {as bs:List Value} (h:aF as) (k:aF bs):aF (as++bs):=aF.append h k
theorem Lu {n:Nat} {v:Value} (h:NN v):aF (List.replicate n v):=aF.replicate h
theorem vN {p:List Nat}:aF (p.map N8):=aF.map fun _=>NN.int
theorem LC {p:List Int}:aF (p.map I):=aF.map fun _=>NN.int
theorem LG {p:List Bool}:aF (p.map B):=aF.map fun _=>NN.bool
theorem LJ {p:List (List Int)}:aF (p.map FI):=aF.map fun _=>NN.fz
theorem LK {k:IntKind} {α:Type} {g:α→Int} {p:List α}:aF (p.map fun x=>Value.int k (g x)):=aF.map fun _=>NN.int
theorem LM {α:Type} {g:α→ByteArray} {p:List α}:aF (p.map fun x=>Value.string (g x)):=aF.map fun _=>NN.string
theorem RF:(type_of% @upd_apply)∧(type_of% @rM)∧(type_of% @rO)∧(type_of% @rP)∧(type_of% @rQ)∧(type_of% @rJ):=⟨@upd_apply, @rM, @rO, @rP, @rQ, @rJ⟩
theorem RO:(type_of% @oI)∧(type_of% @oJ)∧(type_of% @oK)∧(type_of% @oL)∧(type_of% @H9)∧(type_of% @Hr)∧(type_of% @zM)∧(type_of% @Ht)∧(type_of% @Hu)∧(type_of% @Hw)∧(type_of% @Hy)∧(type_of% @Hz)∧(type_of% @HY)∧(type_of% @H6)∧(type_of% @H7)∧(type_of% @H8)∧(type_of% @Bool.true_and)∧(type_of% @Bool.and_true)∧(type_of% @Bool.not_false)∧(type_of% @Bool.and_self)∧(type_of% @oN)∧(type_of% @oO)∧(type_of% @oQ)∧(type_of% @oU)∧(type_of% @GZ)∧(type_of% @oV)∧(type_of% @oW)∧(type_of% @oZ)∧(type_of% @o7)∧(type_of% @G5)∧(type_of% @pF)∧(type_of% @o8)∧(type_of% @Hg)∧(type_of% @zJ)∧(type_of% @o9)∧(type_of% @pq)∧(type_of% @pz)∧(type_of% @pG)∧(type_of% @zK)∧(type_of% @pI)∧(type_of% @zO)∧(type_of% @zQ)∧(type_of% @zS)∧(type_of% @pK)∧(type_of% @pO)∧(type_of% @zT)∧(type_of% @zU)∧(type_of% @zW)∧(type_of% @IK)∧(type_of% @zX)∧(type_of% @IU)∧(type_of% @pJ)∧(type_of% @IY)∧(type_of% @IZ)∧(type_of% @ou)∧(type_of% @oz)∧(type_of% @Gy)∧(type_of% @sH)∧(type_of% @sJ)∧(type_of% @sN)∧(type_of% @sO)∧(type_of% @oC)∧(type_of% @Gz)∧(type_of% @GH)∧(type_of% @GI)∧(type_of% @GK)∧(type_of% @GL)∧(type_of% @GN)∧(type_of% @oD)∧(type_of% @sQ)∧(type_of% @sS)∧(type_of% @GR)∧(type_of% @GU)∧(type_of% @GV)∧(type_of% @GX)∧(type_of% @GY)∧(type_of% @sU)∧(type_of% @sV)∧(type_of% @sW)∧(type_of% @sZ)∧(type_of% @tq)∧(type_of% @tC)∧(type_of% @tH)∧(type_of% @G6)∧(type_of% @G7)∧(type_of% @G8)∧(type_of% @G9)∧(type_of% @Hf)∧(type_of% @tJ)∧(type_of% @ext1)∧(type_of% @yJ)∧(type_of% @yM)∧(type_of% @yK)∧(type_of% @Hq)∧(type_of% @Iq)∧(type_of% @Ir)∧(type_of% @Iu)∧(type_of% @Iw)∧(type_of% @Iy)∧(type_of% @Iz)∧(type_of% @IB)∧(type_of% @IC)∧(type_of% @IG)∧(type_of% @II)∧(type_of% @LP)∧(type_of% @IL)∧(type_of% @IQ)∧(type_of% @tX)∧(type_of% @tY)∧(type_of% @tZ)∧(type_of% @uf)∧(type_of% @ug)∧(type_of% @uh)∧(type_of% @uj)∧(type_of% @um)∧(type_of% @uo)∧(type_of% @uq)∧(type_of% @uw)∧(type_of% @uy)∧(type_of% @uz)∧(type_of% @Ci)∧(type_of% @Cj)∧(type_of% @Cm)∧(type_of% @CB)∧(type_of% @I4)∧(type_of% @I5)∧(type_of% @I7)∧(type_of% @I8)∧(type_of% @I9)∧(type_of% @Ja)∧(type_of% @Jb)∧(type_of% @Jc)∧(type_of% @Jd)∧(type_of% @Je)∧(type_of% @Jf)∧(type_of% @Jg)∧(type_of% @Jh)∧(type_of% @Ji)∧(type_of% @KT)∧(type_of% @Jq)∧(type_of% @Jr)∧(type_of% @Js)∧(type_of% @Jt)∧(type_of% @Ju)∧(type_of% @Jv)∧(type_of% @Jw)∧(type_of% @Jz)∧(type_of% @JX)∧(type_of% @JA)∧(type_of% @JB)∧(type_of% @JC)∧(type_of% @JD)∧(type_of% @JE)∧(type_of% @JF)∧(type_of% @JG)∧(type_of% @JH)∧(type_of% @JI)∧(type_of% @JJ)∧(type_of% @JK)∧(type_of% @JL)∧(type_of% @JM)∧(type_of% @JO)∧(type_of% @JQ)∧(type_of% @JR)∧(type_of% @JU)∧(type_of% @JV)∧(type_of% @JW)∧(type_of% @wG)∧(type_of% @JZ)∧(type_of% @J3)∧(type_of% @J4)∧(type_of% @wH)∧(type_of% @J5)∧(type_of% @J6)∧(type_of% @J7)∧(type_of% @J8)∧(type_of% @J9)∧(type_of% @Ko)∧(type_of% @Kq)∧(type_of% @qU)∧(type_of% @JY)∧(type_of% @List.replicate_zero.{0})∧(type_of% @id_eq.{1}):=⟨@oI, @oJ, @oK, @oL, @H9, @Hr, @zM, @Ht, @Hu, @Hw, @Hy, @Hz, @HY, @H6, @H7, @H8, @Bool.true_and, @Bool.and_true, @Bool.not_false, @Bool.and_self, @oN, @oO, @oQ, @oU, @GZ, @oV, @oW, @oZ, @o7, @G5, @pF, @o8, @Hg, @zJ, @o9, @pq, @pz, @pG, @zK, @pI, @zO, @zQ, @zS, @pK, @pO, @zT, @zU, @zW, @IK, @zX, @IU, @pJ, @IY, @IZ, @ou, @oz, @Gy, @sH, @sJ, @sN, @sO, @oC, @Gz, @GH, @GI, @GK, @GL, @GN, @oD, @sQ, @sS, @GR, @GU, @GV, @GX, @GY, @sU, @sV, @sW, @sZ, @tq, @tC, @tH, @G6, @G7, @G8, @G9, @Hf, @tJ, @ext1, @yJ, @yM, @yK, @Hq, @Iq, @Ir, @Iu, @Iw, @Iy, @Iz, @IB, @IC, @IG, @II, @LP, @IL, @IQ, @tX, @tY, @tZ, @uf, @ug, @uh, @uj, @um, @uo, @uq, @uw, @uy, @uz, @Ci, @Cj, @Cm, @CB, @I4, @I5, @I7, @I8, @I9, @Ja, @Jb, @Jc, @Jd, @Je, @Jf, @Jg, @Jh, @Ji, @KT, @Jq, @Jr, @Js, @Jt, @Ju, @Jv, @Jw, @Jz, @JX, @JA, @JB, @JC, @JD, @JE, @JF, @JG, @JH, @JI, @JJ, @JK, @JL, @JM, @JO, @JQ, @JR, @JU, @JV, @JW, @wG, @JZ, @J3, @J4, @wH, @J5, @J6, @J7, @J8, @J9, @Ko, @Kq, @qU, @JY, @List.replicate_zero.{0}, @id_eq.{1}⟩
theorem RC:(type_of% @List.map_cons.{0,0})∧(type_of% @List.map_nil.{0,0})∧(type_of% @Option.map_some.{0,0})∧(type_of% @Option.map_none.{0,0})∧(type_of% @ge_iff_le.{0})∧(type_of% @gt_iff_lt.{0})∧(type_of% @decide_eq_true_eq)∧(type_of% @beq_self_eq_true.{0})∧(type_of% @bne_self_eq_false.{0})∧(type_of% @decide_true)∧(type_of% @decide_false)∧(type_of% @Bool.not_true)∧(type_of% @Bool.not_false)∧(type_of% @and_true)∧(type_of% @true_and)∧(type_of% @and_self)∧(type_of% @Bool.false_eq_true)∧(type_of% @beq_iff_eq.{0})∧(type_of% @Int.natCast_nonneg)∧(type_of% @Int.ofNat_lt)∧(type_of% @Int.ofNat_le)∧(type_of% @Int.ofNat_inj)∧(type_of% @Int.toNat_natCast)∧(type_of% @Nat.mul_one)∧(type_of% @Nat.one_mul)∧(type_of% @Nat.zero_add)∧(type_of% @Nat.add_zero)∧(type_of% @Nat.sub_zero)∧(type_of% @List.length_append.{0})∧(type_of% @List.length_map.{0,0})∧(type_of% @List.length_cons.{0})∧(type_of% @List.length_nil.{0})∧(type_of% @List.length_set.{0})∧(type_of% @List.length_replicate.{0})∧(type_of% @List.all_cons.{0})∧(type_of% @List.all_nil.{0})∧(type_of% @Bool.and_true)∧(type_of% @Bool.true_and)∧(type_of% @Bool.not_eq_true)∧(type_of% @beq_true)∧(type_of% @beq_false)∧(type_of% @true_implies)∧(type_of% @false_implies)∧(type_of% @decide_eq_false_iff_not)∧(type_of% @bne_iff_ne.{0})∧(type_of% @ne_eq.{1})∧(type_of% @not_true_eq_false)∧(type_of% @not_false_eq_true)∧(type_of% @Int.natCast_zero)∧(type_of% @Int.toNat_zero)∧(type_of% @List.cons_append.{0})∧(type_of% @List.nil_append.{0})∧(type_of% @List.set_cons_zero.{0})∧(type_of% @List.set_cons_succ.{0}):=⟨@List.map_cons.{0,0}, @List.map_nil.{0,0}, @Option.map_some.{0,0}, @Option.map_none.{0,0}, @ge_iff_le.{0}, @gt_iff_lt.{0}, @decide_eq_true_eq, @beq_self_eq_true.{0}, @bne_self_eq_false.{0}, @decide_true, @decide_false, @Bool.not_true, @Bool.not_false, @and_true, @true_and, @and_self, @Bool.false_eq_true, @beq_iff_eq.{0}, @Int.natCast_nonneg, @Int.ofNat_lt, @Int.ofNat_le, @Int.ofNat_inj, @Int.toNat_natCast, @Nat.mul_one, @Nat.one_mul, @Nat.zero_add, @Nat.add_zero, @Nat.sub_zero, @List.length_append.{0}, @List.length_map.{0,0}, @List.length_cons.{0}, @List.length_nil.{0}, @List.length_set.{0}, @List.length_replicate.{0}, @List.all_cons.{0}, @List.all_nil.{0}, @Bool.and_true, @Bool.true_and, @Bool.not_eq_true, @beq_true, @beq_false, @true_implies, @false_implies, @decide_eq_false_iff_not, @bne_iff_ne.{0}, @ne_eq.{1}, @not_true_eq_false, @not_false_eq_true, @Int.natCast_zero, @Int.toNat_zero, @List.cons_append.{0}, @List.nil_append.{0}, @List.set_cons_zero.{0}, @List.set_cons_succ.{0}⟩
theorem RD:(type_of% @rW)∧(type_of% @rX)∧(type_of% @rU)∧(type_of% @w8)∧(type_of% @rY)∧(type_of% @rZ)∧(type_of% @su)∧(type_of% @sD)∧(type_of% @sF)∧(type_of% @sG)∧(type_of% @yI)∧(type_of% @yL)∧(type_of% @Hl)∧(type_of% @Ho)∧(type_of% @Jk)∧(type_of% @vC)∧(type_of% @Ac)∧(type_of% @Jl)∧(type_of% @KE)∧(type_of% @KF)∧(type_of% @KG)∧(type_of% @Jy)∧(type_of% @IE)∧(type_of% @KU)∧(type_of% @KW)∧(type_of% @KX)∧(type_of% @KO)∧(type_of% @KP)∧(type_of% @KQ)∧(type_of% @KR)∧(type_of% @wF)∧(type_of% @KL)∧(type_of% @KN)∧(type_of% @KH)∧(type_of% @KI)∧(type_of% @KJ)∧(type_of% @Kt)∧(type_of% @Ku)∧(type_of% @Kv)∧(type_of% @Kw)∧(type_of% @Ky)∧(type_of% @Kz)∧(type_of% @KA)∧(type_of% @KC)∧(type_of% @zZ)∧(type_of% @Aa)∧(type_of% @IV):=⟨@rW, @rX, @rU, @w8, @rY, @rZ, @su, @sD, @sF, @sG, @yI, @yL, @Hl, @Ho, @Jk, @vC, @Ac, @Jl, @KE, @KF, @KG, @Jy, @IE, @KU, @KW, @KX, @KO, @KP, @KQ, @KR, @wF, @KL, @KN, @KH, @KI, @KJ, @Kt, @Ku, @Kv, @Kw, @Ky, @Kz, @KA, @KC, @zZ, @Aa, @IV⟩
theorem RK:(type_of% @Ic)∧(type_of% @Ib)∧(type_of% @Ie)∧(type_of% @Ig)∧(type_of% @Ih)∧(type_of% @Ii)∧(type_of% @Ij)∧(type_of% @Ip)∧(type_of% @Ik)∧(type_of% @zN)∧(type_of% @Il)∧(type_of% @Io):=⟨@Ic, @Ib, @Ie, @Ig, @Ih, @Ii, @Ij, @Ip, @Ik, @zN, @Il, @Io⟩
theorem RZ:(type_of% @nC)∧(type_of% @LQ)∧(type_of% @LU)∧(type_of% @LV)∧(type_of% @LW)∧(type_of% @yH)∧(type_of% @LX)∧(type_of% @List.map_cons.{0,0})∧(type_of% @List.map_nil.{0,0})∧(type_of% @List.set_cons_zero.{0})∧(type_of% @List.set_cons_succ.{0}):=⟨@nC, @LQ, @LU, @LV, @LW, @yH, @LX, @List.map_cons.{0,0}, @List.map_nil.{0,0}, @List.set_cons_zero.{0}, @List.set_cons_succ.{0}⟩
theorem RN:(type_of% @aB)∧(type_of% @og)∧(type_of% @oh)∧(type_of% @oq)∧(type_of% @if_true.{1})∧(type_of% @if_false.{1})∧(type_of% @Bool.false_eq_true):=⟨@aB, @og, @oh, @oq, @if_true.{1}, @if_false.{1}, @Bool.false_eq_true⟩
theorem RA:(type_of% @RF)∧(type_of% @RO)∧(type_of% @RC):=⟨@RF, @RO, @RC⟩
theorem RB:(type_of% @decide_eq_true_eq)∧(type_of% @Bool.or_eq_true)∧(type_of% @Bool.and_eq_true)∧(type_of% @Bool.not_eq_true')∧(type_of% @decide_eq_false_iff_not)∧(type_of% @Bool.not_eq_eq_eq_not)∧(type_of% @Bool.not_true)∧(type_of% @Bool.not_false)∧(type_of% @beq_iff_eq.{0})∧(type_of% @Bool.false_eq_true):=⟨@decide_eq_true_eq, @Bool.or_eq_true, @Bool.and_eq_true, @Bool.not_eq_true', @decide_eq_false_iff_not, @Bool.not_eq_eq_eq_not, @Bool.not_true, @Bool.not_false, @beq_iff_eq.{0}, @Bool.false_eq_true⟩
theorem RE:(type_of% @KY)∧(type_of% @KZ)∧(type_of% @La):=⟨@KY, @KZ, @La⟩
theorem RH:(type_of% @Le)∧(type_of% @Lh)∧(type_of% @Lj)∧(type_of% @Ll)∧(type_of% @Lm)∧(type_of% @gu)∧(type_of% @Lp)∧(type_of% @Lr)∧(type_of% @Ls)∧(type_of% @Lu)∧(type_of% @vN)∧(type_of% @LC)∧(type_of% @LG)∧(type_of% @LJ)∧(type_of% @LK)∧(type_of% @LM)∧(type_of% @NN.int)∧(type_of% @NN.bool)∧(type_of% @NN.string)∧(type_of% @NN.nil)∧(type_of% @NN.undef)∧(type_of% @NN.fz)∧(type_of% @and_true)∧(type_of% @true_and)∧(type_of% @and_self):=⟨@Le, @Lh, @Lj, @Ll, @Lm, @gu, @Lp, @Lr, @Ls, @Lu, @vN, @LC, @LG, @LJ, @LK, @LM, @NN.int, @NN.bool, @NN.string, @NN.nil, @NN.undef, @NN.fz, @and_true, @true_and, @and_self⟩
theorem fB {k:Nat} {Q:Ex→Fr→BH→Prop} {f:Fr} {H:BH} {d:Option Nat} {l:List AOper} {b:ACode} {f1:Fr} {H1:BH} {p:Prop} (hp:p) (h: ∀K:Fr→BH→Prop,K f1 H1→opsT d l K f H:=by intro _ h;simp (disch:=omega) only [RA,↓reduceIte,Nat.reduceEqDiff,Nat.reduceBEq,Nat.reduceSub,Nat.reduceAdd,Nat.reduceMul,Nat.reduceLT,Nat.reduceLeDiff,Int.reduceLE,Int.reduceLT,Int.reduceEq,Int.reduceNeg,Int.reduceToNat,Int.reduceMul,Int.reduceAdd,Int.reduceSub,Int.reduceBEq,Int.reduceBNe,reduceCtorEq,RD];exact h) (e:p→T k b Q f1 H1:=by intro h;(try simp only [RN,reduceIte]);first|exact ah rfl h|exact h):T k (.seq (.region d l) b) Q f H:=au fun _ hK=>h _ (hK _ _ (e hp))
theorem dM {k:Nat} {Q:Ex→Fr→BH→Prop} {f:Fr} {H:BH} {d:Option Nat} {l:List AOper} {b:ACode} {f1:Fr} {H1:BH} {p:Prop} {A:Prop} (a:A) (hp:p) (h:A→ ∀K:Fr→BH→Prop,K f1 H1→opsT d l K f H:=by intro q;intro _ h;simp (disch:=omega) only [RA,↓reduceIte,Nat.reduceEqDiff,Nat.reduceBEq,Nat.reduceSub,Nat.reduceAdd,Nat.reduceMul,Nat.reduceLT,Nat.reduceLeDiff,Int.reduceLE,Int.reduceLT,Int.reduceEq,Int.reduceNeg,Int.reduceToNat,Int.reduceMul,Int.reduceAdd,Int.reduceSub,Int.reduceBEq,Int.reduceBNe,reduceCtorEq,RD,q];exact h) (e:p→T k b Q f1 H1:=by intro h;(try simp only [RN,reduceIte]);first|exact ah rfl h|exact h):T k (.seq (.region d l) b) Q f H:=au fun _ hK=>(h a) _ (hK _ _ (e hp))
theorem TF {k:Nat} {Q:Ex→Fr→BH→Prop} {f:Fr} {H:BH} {d:Option Nat} {l:List AOper} {b:ACode} {G:(Fr→BH→Prop)→Prop} (g: ∀K:Fr→BH→Prop,(∀f1 H1,T k b Q f1 H1→K f1 H1)→G K) (h: ∀K:Fr→BH→Prop,G K→opsT d l K f H:=by intro _ h;simp (disch:=omega) only [RA,↓reduceIte,Nat.reduceEqDiff,Nat.reduceBEq,Nat.reduceSub,Nat.reduceAdd,Nat.reduceMul,Nat.reduceLT,Nat.reduceLeDiff,Int.reduceLE,Int.reduceLT,Int.reduceEq,Int.reduceNeg,Int.reduceToNat,Int.reduceMul,Int.reduceAdd,Int.reduceSub,Int.reduceBEq,Int.reduceBNe,reduceCtorEq,RD];exact h):T k (.seq (.region d l) b) Q f H:=au fun K hK=>h K (g K hK)
theorem TU {k:Nat} {Q:Ex→Fr→BH→Prop} {f:Fr} {H:BH} {d:Option Nat} {l:List AOper} {b:ACode} {G:(Fr→BH→Prop)→Prop} {A:Prop} (a:A) (g: ∀K:Fr→BH→Prop,(∀f1 H1,T k b Q f1 H1→K f1 H1)→G K) (h:A→ ∀K:Fr→BH→Prop,G K→opsT d l K f H:=by intro q;intro _ h;simp (disch:=omega) only [RA,↓reduceIte,Nat.reduceEqDiff,Nat.reduceBEq,Nat.reduceSub,Nat.reduceAdd,Nat.reduceMul,Nat.reduceLT,Nat.reduceLeDiff,Int.reduceLE,Int.reduceLT,Int.reduceEq,Int.reduceNeg,Int.reduceToNat,Int.reduceMul,Int.reduceAdd,Int.reduceSub,Int.reduceBEq,Int.reduceBNe,reduceCtorEq,RD,q];exact h):T k (.seq (.region d l) b) Q f H:=au fun K hK=>(h a) K (g K hK)
theorem WA {k:Nat} {Q:Ex→Fr→BH→Prop} {f:Fr} {H:BH} {d:Option Nat} {l:List AOper} {f1:Fr} {H1:BH} (hp:Q .normal f1 H1) (h: ∀K:Fr→BH→Prop,K f1 H1→opsT d l K f H:=by intro _ h;simp (disch:=omega) only [RA,↓reduceIte,Nat.reduceEqDiff,Nat.reduceBEq,Nat.reduceSub,Nat.reduceAdd,Nat.reduceMul,Nat.reduceLT,Nat.reduceLeDiff,Int.reduceLE,Int.reduceLT,Int.reduceEq,Int.reduceNeg,Int.reduceToNat,Int.reduceMul,Int.reduceAdd,Int.reduceSub,Int.reduceBEq,Int.reduceBNe,reduceCtorEq,RD];exact h):T k (.region d l) Q f H:=bI fun _ hK=>h _ (hK _ _ hp)
theorem nJ {k:Nat} {Q:Ex→Fr→BH→Prop} {f:Fr} {H:BH} {d:Option Nat} {l:List AOper} {f1:Fr} {H1:BH} {A:Prop} (a:A) (hp:Q .normal f1 H1) (h:A→ ∀K:Fr→BH→Prop,K f1 H1→opsT d l K f H:=by intro q;intro _ h;simp (disch:=omega) only [RA,↓reduceIte,Nat.reduceEqDiff,Nat.reduceBEq,Nat.reduceSub,Nat.reduceAdd,Nat.reduceMul,Nat.reduceLT,Nat.reduceLeDiff,Int.reduceLE,Int.reduceLT,Int.reduceEq,Int.reduceNeg,Int.reduceToNat,Int.reduceMul,Int.reduceAdd,Int.reduceSub,Int.reduceBEq,Int.reduceBNe,reduceCtorEq,RD,q];exact h):T k (.region d l) Q f H:=bI fun _ hK=>(h a) _ (hK _ _ hp)
theorem vX {p q:Prop} (hp:p) (e:(p→q):=by intro h;simp (disch:=omega) only [RA,↓reduceIte,Nat.reduceEqDiff,Nat.reduceBEq,Nat.reduceSub,Nat.reduceAdd,Nat.reduceMul,Nat.reduceLT,Nat.reduceLeDiff,Int.reduceLE,Int.reduceLT,Int.reduceEq,Int.reduceNeg,Int.reduceToNat,Int.reduceMul,Int.reduceAdd,Int.reduceSub,Int.reduceBEq,Int.reduceBNe,reduceCtorEq,RD];exact h):q:=e hp
theorem FX {p q:Prop} {A:Prop} (a:A) (hp:p) (e:A→(p→q):=by intro q;intro h;simp (disch:=omega) only [RA,↓reduceIte,Nat.reduceEqDiff,Nat.reduceBEq,Nat.reduceSub,Nat.reduceAdd,Nat.reduceMul,Nat.reduceLT,Nat.reduceLeDiff,Int.reduceLE,Int.reduceLT,Int.reduceEq,Int.reduceNeg,Int.reduceToNat,Int.reduceMul,Int.reduceAdd,Int.reduceSub,Int.reduceBEq,Int.reduceBNe,reduceCtorEq,RD,q];exact h):q:=(e a) hp
theorem TG {k:Nat} {Q:Ex→Fr→BH→Prop} {f:Fr} {H:BH} {c:Opd} {a1 b1 r:ACode} {p:Prop} (hp:p) (h:ev f c= .bool true:=by simp (disch:=omega) only [RA,↓reduceIte,Nat.reduceEqDiff,Nat.reduceBEq,Nat.reduceSub,Nat.reduceAdd,Nat.reduceMul,Nat.reduceLT,Nat.reduceLeDiff,Int.reduceLE,Int.reduceLT,Int.reduceEq,Int.reduceNeg,Int.reduceToNat,Int.reduceMul,Int.reduceAdd,Int.reduceSub,Int.reduceBEq,Int.reduceBNe,reduceCtorEq,RD]) (e:p→T k (.seq a1 r) Q f H:=by intro h;(try simp only [RN,reduceIte]);first|exact ah rfl h|exact h):T k (.seq (.cond c a1 b1) r) Q f H:=aP (t:=true) h (e hp)
theorem WB {k:Nat} {Q:Ex→Fr→BH→Prop} {f:Fr} {H:BH} {c:Opd} {a1 b1 r:ACode} {p:Prop} {A:Prop} (a:A) (hp:p) (h:A→ev f c= .bool true:=by intro q;simp (disch:=omega) only [RA,↓reduceIte,Nat.reduceEqDiff,Nat.reduceBEq,Nat.reduceSub,Nat.reduceAdd,Nat.reduceMul,Nat.reduceLT,Nat.reduceLeDiff,Int.reduceLE,Int.reduceLT,Int.reduceEq,Int.reduceNeg,Int.reduceToNat,Int.reduceMul,Int.reduceAdd,Int.reduceSub,Int.reduceBEq,Int.reduceBNe,reduceCtorEq,RD,q]) (e:p→T k (.seq a1 r) Q f H:=by intro h;(try simp only [RN,reduceIte]);first|exact ah rfl h|exact h):T k (.seq (.cond c a1 b1) r) Q f H:=aP (t:=true) (h a) (e hp)
theorem WC {k:Nat} {Q:Ex→Fr→BH→Prop} {f:Fr} {H:BH} {c:Opd} {a1 b1 r:ACode} {p:Prop} (hp:p) (h:ev f c= .bool false:=by simp (disch:=omega) only [RA,↓reduceIte,Nat.reduceEqDiff,Nat.reduceBEq,Nat.reduceSub,Nat.reduceAdd,Nat.reduceMul,Nat.reduceLT,Nat.reduceLeDiff,Int.reduceLE,Int.reduceLT,Int.reduceEq,Int.reduceNeg,Int.reduceToNat,Int.reduceMul,Int.reduceAdd,Int.reduceSub,Int.reduceBEq,Int.reduceBNe,reduceCtorEq,RD]) (e:p→T k (.seq b1 r) Q f H:=by intro h;(try simp only [RN,reduceIte]);first|exact ah rfl h|exact h):T k (.seq (.cond c a1 b1) r) Q f H:=aP (t:=false) h (e hp)
theorem WE {k:Nat} {Q:Ex→Fr→BH→Prop} {f:Fr} {H:BH} {c:Opd} {a1 b1 r:ACode} {p:Prop} {A:Prop} (a:A) (hp:p) (h:A→ev f c= .bool false:=by intro q;simp (disch:=omega) only [RA,↓reduceIte,Nat.reduceEqDiff,Nat.reduceBEq,Nat.reduceSub,Nat.reduceAdd,Nat.reduceMul,Nat.reduceLT,Nat.reduceLeDiff,Int.reduceLE,Int.reduceLT,Int.reduceEq,Int.reduceNeg,Int.reduceToNat,Int.reduceMul,Int.reduceAdd,Int.reduceSub,Int.reduceBEq,Int.reduceBNe,reduceCtorEq,RD,q]) (e:p→T k (.seq b1 r) Q f H:=by intro h;(try simp only [RN,reduceIte]);first|exact ah rfl h|exact h):T k (.seq (.cond c a1 b1) r) Q f H:=aP (t:=false) (h a) (e hp)
theorem iV {k:Nat} {Q:Ex→Fr→BH→Prop} {f:Fr} {H:BH} {c:Opd} {a1 b1 r:ACode} {t:Bool} {p1 p2:Prop} (p:Prop) (h1:p→p1) (h2: ¬p→p2) (h:ev f c= .bool t:=by simp only [RA,↓reduceIte,Nat.reduceEqDiff,Nat.reduceBEq,Nat.reduceSub,Nat.reduceAdd,Nat.reduceMul,Nat.reduceLT,Nat.reduceLeDiff,Int.reduceLE,Int.reduceLT,Int.reduceEq,Int.reduceNeg,Int.reduceToNat,Int.reduceMul,Int.reduceAdd,Int.reduceSub,Int.reduceBEq,Int.reduceBNe,reduceCtorEq]<;>rfl) (hp:t=true↔p:=by (try simp only [RB])<;>first|done|exact Iff.rfl|omega|simp) (e1:p→p1→T k (.seq a1 r) Q f H:=by intro hc h;(try simp only [RN,reduceIte]);first|exact ah rfl h|exact h) (e2: ¬p→p2→T k (.seq b1 r) Q f H:=by intro hc h;(try simp only [RN,reduceIte]);first|exact ah rfl h|exact h):T k (.seq (.cond c a1 b1) r) Q f H:=bG h hp (fun h=>e1 h (h1 h)) fun h=>e2 h (h2 h)
theorem WG {k:Nat} {Q:Ex→Fr→BH→Prop} {f:Fr} {H:BH} {c:Opd} {a1 b1 r:ACode} {t:Bool} {p1 p2:Prop} {A:Prop} (a:A) (p:Prop) (h1:p→p1) (h2: ¬p→p2) (h:A→ev f c= .bool t:=by intro q;simp only [RA,↓reduceIte,Nat.reduceEqDiff,Nat.reduceBEq,Nat.reduceSub,Nat.reduceAdd,Nat.reduceMul,Nat.reduceLT,Nat.reduceLeDiff,Int.reduceLE,Int.reduceLT,Int.reduceEq,Int.reduceNeg,Int.reduceToNat,Int.reduceMul,Int.reduceAdd,Int.reduceSub,Int.reduceBEq,Int.reduceBNe,reduceCtorEq,q]<;>rfl) (hp:t=true↔p:=by (try simp only [RB])<;>first|done|exact Iff.rfl|omega|simp) (e1:p→p1→T k (.seq a1 r) Q f H:=by intro hc h;(try simp only [RN,reduceIte]);first|exact ah rfl h|exact h) (e2: ¬p→p2→T k (.seq b1 r) Q f H:=by intro hc h;(try simp only [RN,reduceIte]);first|exact ah rfl h|exact h):T k (.seq (.cond c a1 b1) r) Q f H:=bG (h a) hp (fun h=>e1 h (h1 h)) fun h=>e2 h (h2 h)
theorem WH {k:Nat} {Q:Ex→Fr→BH→Prop} {f:Fr} {H:BH} {c:Opd} {a1 b1:ACode} {t:Bool} {p1 p2:Prop} (p:Prop) (h1:p→p1) (h2: ¬p→p2) (h:ev f c= .bool t:=by simp only [RA,↓reduceIte,Nat.reduceEqDiff,Nat.reduceBEq,Nat.reduceSub,Nat.reduceAdd,Nat.reduceMul,Nat.reduceLT,Nat.reduceLeDiff,Int.reduceLE,Int.reduceLT,Int.reduceEq,Int.reduceNeg,Int.reduceToNat,Int.reduceMul,Int.reduceAdd,Int.reduceSub,Int.reduceBEq,Int.reduceBNe,reduceCtorEq]<;>rfl) (hp:t=true↔p:=by (try simp only [RB])<;>first|done|exact Iff.rfl|omega|simp) (e1:p→p1→T k (a1) Q f H:=by intro hc h;(try simp only [RN,reduceIte]);first|exact ah rfl h|exact h) (e2: ¬p→p2→T k (b1) Q f H:=by intro hc h;(try simp only [RN,reduceIte]);first|exact ah rfl h|exact h):T k (.cond c a1 b1) Q f H:=Lc h hp (fun h=>e1 h (h1 h)) fun h=>e2 h (h2 h)
theorem WI {k:Nat} {Q:Ex→Fr→BH→Prop} {f:Fr} {H:BH} {c:Opd} {a1 b1:ACode} {t:Bool} {p1 p2:Prop} {A:Prop} (a:A) (p:Prop) (h1:p→p1) (h2: ¬p→p2) (h:A→ev f c= .bool t:=by intro q;simp only [RA,↓reduceIte,Nat.reduceEqDiff,Nat.reduceBEq,Nat.reduceSub,Nat.reduceAdd,Nat.reduceMul,Nat.reduceLT,Nat.reduceLeDiff,Int.reduceLE,Int.reduceLT,Int.reduceEq,Int.reduceNeg,Int.reduceToNat,Int.reduceMul,Int.reduceAdd,Int.reduceSub,Int.reduceBEq,Int.reduceBNe,reduceCtorEq,q]<;>rfl) (hp:t=true↔p:=by (try simp only [RB])<;>first|done|exact Iff.rfl|omega|simp) (e1:p→p1→T k (a1) Q f H:=by intro hc h;(try simp only [RN,reduceIte]);first|exact ah rfl h|exact h) (e2: ¬p→p2→T k (b1) Q f H:=by intro hc h;(try simp only [RN,reduceIte]);first|exact ah rfl h|exact h):T k (.cond c a1 b1) Q f H:=Lc (h a) hp (fun h=>e1 h (h1 h)) fun h=>e2 h (h2 h)
theorem jh {k:Nat} {f:Fr} {H:BH} {rs:List ARes} {K:Value→BH→Prop} {vs:List Value} {p:Prop} (hp:p) (h:resAll f H rs=some vs:=by simp (disch:=omega) only [RA,↓reduceIte,Nat.reduceEqDiff,Nat.reduceBEq,Nat.reduceSub,Nat.reduceAdd,Nat.reduceMul,Nat.reduceLT,Nat.reduceLeDiff,Int.reduceLE,Int.reduceLT,Int.reduceEq,Int.reduceNeg,Int.reduceToNat,Int.reduceMul,Int.reduceAdd,Int.reduceSub,Int.reduceBEq,Int.reduceBNe,reduceCtorEq,RD,resAll,resOf];rfl) (e:p→K (tup vs) H:=by intro h;simp only [tup];exact h):jd k rs K .ret f H:=aS h .refl (e hp)
theorem zu {k:Nat} {f:Fr} {H:BH} {rs:List ARes} {K:Value→BH→Prop} {vs:List Value} {p:Prop} {A:Prop} (a:A) (hp:p) (h:A→resAll f H rs=some vs:=by intro q;simp (disch:=omega) only [RA,↓reduceIte,Nat.reduceEqDiff,Nat.reduceBEq,Nat.reduceSub,Nat.reduceAdd,Nat.reduceMul,Nat.reduceLT,Nat.reduceLeDiff,Int.reduceLE,Int.reduceLT,Int.reduceEq,Int.reduceNeg,Int.reduceToNat,Int.reduceMul,Int.reduceAdd,Int.reduceSub,Int.reduceBEq,Int.reduceBNe,reduceCtorEq,RD,resAll,resOf,q];rfl) (e:p→K (tup vs) H:=by intro h;simp only [tup];exact h):jd k rs K .ret f H:=aS (h a) .refl (e hp)
theorem WJ {k:Nat} {f:Fr} {H:BH} {rs:List ARes} {K:Value→BH→Prop} {vs:List Value} (h:resAll f H rs=some vs:=by simp (disch:=omega) only [RA,↓reduceIte,Nat.reduceEqDiff,Nat.reduceBEq,Nat.reduceSub,Nat.reduceAdd,Nat.reduceMul,Nat.reduceLT,Nat.reduceLeDiff,Int.reduceLE,Int.reduceLT,Int.reduceEq,Int.reduceNeg,Int.reduceToNat,Int.reduceMul,Int.reduceAdd,Int.reduceSub,Int.reduceBEq,Int.reduceBNe,reduceCtorEq,RD,resAll,resOf];rfl) (e:K (tup vs) H:=by simp only [tup]):jd k rs K .ret f H:=aS h .refl e
theorem WL {k:Nat} {f:Fr} {H:BH} {rs:List ARes} {K:Value→BH→Prop} {vs:List Value} {A:Prop} (a:A) (h:A→resAll f H rs=some vs:=by intro q;simp (disch:=omega) only [RA,↓reduceIte,Nat.reduceEqDiff,Nat.reduceBEq,Nat.reduceSub,Nat.reduceAdd,Nat.reduceMul,Nat.reduceLT,Nat.reduceLeDiff,Int.reduceLE,Int.reduceLT,Int.reduceEq,Int.reduceNeg,Int.reduceToNat,Int.reduceMul,Int.reduceAdd,Int.reduceSub,Int.reduceBEq,Int.reduceBNe,reduceCtorEq,RD,resAll,resOf,q];rfl) (e:K (tup vs) H:=by simp only [tup]):jd k rs K .ret f H:=aS (h a) .refl e
theorem vY {K P:Fr→BH→Prop} {p:Prop} {f:Fr} {H:BH} (hK: ∀f1 H1,P f1 H1→K f1 H1) (hp:p) (e:p→P f H:=by intro h;(try simp only [aK,aO,aN]);(try simp only [RN,reduceIte]);first|exact ah rfl h|exact h):K f H:=hK _ _ (e hp)
theorem lS {k:Nat} {Q:Ex→Fr→BH→Prop} {f:Fr} {H:BH} {c:ACode} {p:Prop} (hp:p) (e:p→T k c Q f H:=by intro h;(first|refine bY rfl ?_|refine bZ rfl ?_);(try simp only [RN,reduceIte]);first|exact ah rfl h|exact h):T k c Q f H:=e hp
theorem zy {p q:Prop} (hp:p) (e:p→q:=by intro h;(try simp only [RN,reduceIte]);first|exact ah rfl h|exact h):q:=e hp
theorem WM {k:Nat} {Q:Ex→Fr→BH→Prop} {f:Fr} {H:BH} {i:Nat} {a b:ACode} {p:Prop} (hp:p) (e:p→T k a (aK i (aO k b Q)) f H:=by intro h;(try simp only [RN,reduceIte]);first|exact ah rfl h|exact h):T k (.seq (.block i a) b) Q f H:=jY (rV (e hp))
theorem WO {p q:Prop} (hp:p) (e:p→q:=by intro h;simp only [aK,aO,aN,if_true];exact h):q:=e hp
theorem aj {p:Prop} (h:p:=by simp (disch:=omega) only [RA,↓reduceIte,Nat.reduceEqDiff,Nat.reduceBEq,Nat.reduceSub,Nat.reduceAdd,Nat.reduceMul,Nat.reduceLT,Nat.reduceLeDiff,Int.reduceLE,Int.reduceLT,Int.reduceEq,Int.reduceNeg,Int.reduceToNat,Int.reduceMul,Int.reduceAdd,Int.reduceSub,Int.reduceBEq,Int.reduceBNe,reduceCtorEq,RD,RE, *]<;>rfl):p:=h
theorem lK {p:Prop} (h:p:=by simp (disch:=omega) only [RA,↓reduceIte,Nat.reduceEqDiff,Nat.reduceBEq,Nat.reduceSub,Nat.reduceAdd,Nat.reduceMul,Nat.reduceLT,Nat.reduceLeDiff,Int.reduceLE,Int.reduceLT,Int.reduceEq,Int.reduceNeg,Int.reduceToNat,Int.reduceMul,Int.reduceAdd,Int.reduceSub,Int.reduceBEq,Int.reduceBNe,reduceCtorEq,RD,RE,RZ,vw,ji, *]<;>rfl):p:=h
theorem wz {p:Prop} (h:p:=by simp only [RH]):p:=h
theorem iP {A0 A1:Prop} (a0:A0) (a1:A1):A0∧A1:=⟨a0,a1⟩
theorem vZ {A0 A1 A2:Prop} (a0:A0) (a1:A1) (a2:A2):A0∧A1∧A2:=⟨a0,a1,a2⟩
theorem zA {A0 A1 A2 A3:Prop} (a0:A0) (a1:A1) (a2:A2) (a3:A3):A0∧A1∧A2∧A3:=⟨a0,a1,a2,a3⟩
theorem wo {A0 A1 A2 A3 A4:Prop} (a0:A0) (a1:A1) (a2:A2) (a3:A3) (a4:A4):A0∧A1∧A2∧A3∧A4:=⟨a0,a1,a2,a3,a4⟩
theorem zB {A0 A1 A2 A3 A4 A5:Prop} (a0:A0) (a1:A1) (a2:A2) (a3:A3) (a4:A4) (a5:A5):A0∧A1∧A2∧A3∧A4∧A5:=⟨a0,a1,a2,a3,a4,a5⟩
end Go.Bm
