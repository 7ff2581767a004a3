/- Rules by which a run of the second machine is gone through, operation by operation. -/
import Derived.Test.YtbpfbfbabpkceaaBmT
import Derived.Test.YtbpfbfbabpkceaaAmS2
set_option linter.unusedVariables false
set_option linter.unusedSimpArgs false
namespace Go.Bm
open Go Go.Am
abbrev N8 (n:Nat):Value:= .int .u8 (n:Int)
abbrev PL (p:List Nat):Value:=aggL (p.map N8)
abbrev FI (xs:List Int):Value:=Fz xs.length 1 (xs.map I)
abbrev FB (xs:List Nat):Value:=Fz xs.length 1 (xs.map N8)
abbrev VF (xss:List (List Int)):Value:=Fz xss.length 1 (xss.map FI)
def nl (p:List Nat) (i:Nat):Nat:=p.getD i 0
section
def dh (o:Option (Value×BH)) (k:Value→BH→Prop):Prop:=
 match o with
 |some (v,H)=>k v H
 |none=>False
theorem NJ {v:Value} {H:BH} {k:Value→BH→Prop}:dh (some (v,H)) k=k v H:=rfl
def aW (d t:Option Nat) (r:List AOper) (K:Fr→BH→Prop) (f:Fr) (H:BH):Value→Prop:=fun v=>opsT (dn d) r K (updO f t v) H
def dW (d t:Option Nat) (r:List AOper) (K:Fr→BH→Prop) (f:Fr):Value→BH→Prop:=fun v H=>opsT (dn d) r K (updO f t v) H
variable {d:Option Nat} {t:Option Nat} {r:List AOper} {K:Fr→BH→Prop} {f:Fr} {H:BH}
theorem nZ {v:Value}:aU (some v) (aW d t r K f H)=opsT (dn d) r K (updO f t v) H:=rfl
theorem og {v:Value}:dh (some (v,H)) (dW d t r K f)=opsT (dn d) r K (updO f t v) H:=rfl
theorem Df {v:Value}:dW d t r K f v H=opsT (dn d) r K (updO f t v) H:=rfl
theorem oh {n:Nat}:ev f (.t n)=f n:=rfl
theorem Dh {k:IntKind} {n:Int}:ev f (.c (.int k n))= .int k n:=rfl
theorem Di {b:Bool}:ev f (.c (.bool b))= .bool b:=rfl
theorem Dj {b:ByteArray}:ev f (.c (.string b))= .string b:=rfl
theorem Dk:ev f (.c (.slice none 0 0))= .slice none 0 0:=rfl
theorem Dl:ev f (.c .nilFunc)= .nilFunc:=rfl
theorem Dn:ev f (.c (.pointer none))= .pointer none:=rfl
theorem oq {n:Nat}:ev f (.f n)= .func (.func n) #[] #[]:=rfl
theorem oC:opsT d [] K f H=K f H:=rfl
def gV (b:Bool):Value→Option Bool
 | .bool x=>some (x==b)
 | .tuple ⟨[]⟩=>some false
 | _=>none
def xg (o:Option Bool) (p q:Prop):Prop:=
 match o with
 |some true=>p
 |some false=>q
 |none=>False
theorem Dp {x:Bool}:gV true (.bool x)=some x:=by cases x<;>rfl
theorem Dq {x:Bool}:gV false (.bool x)=some (!x):=by cases x<;>rfl
theorem Dt {b:Bool}:gV b undef=some false:=rfl
theorem Du {p q:Prop}:xg (some true) p q=p:=rfl
theorem Dv {p q:Prop}:xg (some false) p q=q:=rfl
theorem oD {o:AOp} {g:Nat} {b:Bool}:opsT d (⟨t,o,some (g,b)⟩::r) K f H=xg (gV b (f g)) (opsT d (⟨t,o,none⟩::r) K f H) (opsT (dn d) r K (updO f t undef) H):=by
 have e:kE (some (g,b)) f=gV b (f g):=rfl
 rw [opsT]
 simp only [e]
 generalize gV b (f g)=q
 match q with
 |some true=>
  show _=opsT d (⟨t,o,none⟩::r) K f H
  conv=>rhs;rw [opsT]
  rfl
 |some false=>rfl
 |none=>rfl
theorem oG {g:Nat} {as:List Opd}:opsT d (⟨t, .call g as,none⟩::r) K f H=aA (dP d) g (as.map (ev f)) H (dW d t r K f):=by rw [opsT];rfl
theorem Qs {g:Opd} {as:List Opd} {cap:Nat} {caps:Array Value} (hg:ev f g= .func (.func cap) #[] caps):opsT d (⟨t, .callv g as,none⟩::r) K f H=aA (dP d) cap (as.map (ev f)++caps.toList) H (dW d t r K f):=by
 rw [opsT]
 simp only [kE,hg,true_and]
 rfl
theorem fM {o:AOp} (h2:kF o=false) (h3: ∀g as,o≠ .call g as) (h4:(∀g as,o≠ .callv g as)∧ ∀g as fl,o≠ .callF g as fl):opsT d (⟨t,o,none⟩::r) K f H=dh (aC o (ev f) H) (dW d t r K f):=by
 rw [opsT]
 simp only [kE]
 cases o<;>first|exact absurd rfl (h3 _ _)|exact absurd rfl (h4.1 _ _)|exact absurd rfl (h4.2 _ _ _)|(simp only [h2,Bool.false_eq_true,false_implies,true_and];rfl)
theorem pO {o:AOp} (h2:kF o=true):opsT d (⟨t,o,none⟩::r) K f H=(dP d=false∧dh (aC o (ev f) H) (dW d t r K f)):=by
 rw [opsT]
 simp only [kE]
 cases o<;>first|(simp [kF] at h2;done)|skip
 all_goals
  simp only [kF,true_implies]
  generalize aC _ (ev f) H=q
  match q with
  |some (v,H')=>rfl
  |none=>simp [dh]
theorem bC {o:AOp} {w:Option Value} (h2:kF o=false) (h3: ∀g as,o≠ .call g as) (h4:(∀g as,o≠ .callv g as)∧ ∀g as fl,o≠ .callF g as fl) (h:aC o (ev f) H=w.map fun v=>(v,H)):opsT d (⟨t,o,none⟩::r) K f H=aU w (aW d t r K f H):=by
 rw [fM h2 h3 h4,h]
 cases w<;>rfl
theorem oJ {x:Opd}:opsT d (⟨t, .move x,none⟩::r) K f H=opsT (dn d) r K (updO f t (ev f x)) H:=by
 rw [fM rfl (by simp) (by simp)];rfl
theorem oK {c a b:Opd}:opsT d (⟨t, .pick c a b,none⟩::r) K f H=aU (oz (ev f c) (ev f a) (ev f b)) (aW d t r K f H):=
 bC rfl (by simp) (by simp) (by simp only [aC];cases ev f c<;>rfl)
theorem oL {op:BinOp} {x y:Opd}:opsT d (⟨t, .bin op x y,none⟩::r) K f H=aU (aBin op (ev f x) (ev f y)) (aW d t r K f H):=
 bC rfl (by simp) (by simp) (by rfl)
theorem Dw {op:BinOp} {x y:Opd}:opsT d (⟨t, .sbin op x y,none⟩::r) K f H=aU (aSbin op (ev f x) (ev f y)) (aW d t r K f H):=
 bC rfl (by simp) (by simp) (by rfl)
theorem oN {x:Opd}:opsT d (⟨t, .not x,none⟩::r) K f H=aU (wQ (ev f x)) (aW d t r K f H):=
 bC rfl (by simp) (by simp) (by simp only [aC];cases ev f x<;>rfl)
theorem oO {x:Opd}:opsT d (⟨t, .neg x,none⟩::r) K f H=aU (wR (ev f x)) (aW d t r K f H):=
 bC rfl (by simp) (by simp) (by simp only [aC];cases ev f x<;>rfl)
theorem oQ {k:IntKind} {x:Opd}:opsT d (⟨t, .conv k x,none⟩::r) K f H=aU (wS k (ev f x)) (aW d t r K f H):=
 bC rfl (by simp) (by simp) (by simp only [aC];cases ev f x<;>rfl)
theorem oU {n:Bool} {x y:Opd}:opsT d (⟨t, .eqb n x y,none⟩::r) K f H=aU (sO n (ev f x) (ev f y)) (aW d t r K f H):=
 bC rfl (by simp) (by simp) (by simp only [aC];cases ev f x<;>cases ev f y<;>rfl)
def mO (neg:Bool) (n:Nat) (x y:Value):Option Value:=(aEqa n x y).map fun r=> .bool (if neg then !r else r)
theorem Dx {neg:Bool} {n:Nat} {x y:Opd}:opsT d (⟨t, .eqa neg n x y,none⟩::r) K f H=aU (mO neg n (ev f x) (ev f y)) (aW d t r K f H):=
 bC rfl (by simp) (by simp) (by simp only [aC,mO,Option.map_map];rfl)
def pR (neg:Bool):Value→Option Value
 | .slice a _ _=>some (.bool (if neg then !a.isNone else a.isNone))
 | .iface (_+1) (.iface _ (.tuple _))=>some (.bool neg)
 | _=>none
theorem Dy {neg:Bool} {n e:Nat}:pR neg (.slice none n e)=some (.bool !neg):=by cases neg<;>rfl
theorem Dz {neg:Bool} {b o n e:Nat}:pR neg (S b o n e)=some (.bool neg):=by cases neg<;>rfl
theorem VG {neg:Bool} {l e:Nat} {cs:List Value} (h:0<l):pR neg (Fz l e cs)=some (.bool neg):=by
 obtain ⟨n,rfl⟩: ∃n,l=n+1:=⟨l-1,by omega⟩
 rfl
theorem o8 {n:Bool} {x:Opd}:opsT d (⟨t, .eqn n x,none⟩::r) K f H=aU (pR n (ev f x)) (aW d t r K f H):=
 bC rfl (by simp) (by simp) (by
  simp only [aC,pR]
  repeat' split
  all_goals first|rfl|simp_all)
def pU:Value→Option Value
 | .slice _ n _=>some (.int .i64 n)
 | .iface n (.iface _ (.tuple _))=>some (.int .i64 n)
 | _=>none
theorem DF {a:Option Addr} {n e:Nat}:pU (.slice a n e)=some (.int .i64 n):=rfl
theorem DI {n e:Nat} {cs:List Value}:pU (Fz n e cs)=some (.int .i64 n):=rfl
theorem oV {x:Opd}:opsT d (⟨t, .len x,none⟩::r) K f H=aU (pU (ev f x)) (aW d t r K f H):=
 bC rfl (by simp) (by simp) (by
  simp only [aC,pU]
  repeat' split
  all_goals first|rfl|simp_all)
def DJ:Value→Option Value
 | .string s=>some (.int .i64 s.size)
 | _=>none
theorem DK {s:ByteArray}:DJ (.string s)=some (.int .i64 s.size):=rfl
theorem DN {x:Opd}:opsT d (⟨t, .lenStr x,none⟩::r) K f H=aU (DJ (ev f x)) (aW d t r K f H):=
 bC rfl (by simp) (by simp) (by simp only [aC];cases ev f x<;>rfl)
theorem xk {n:Nat}:opsT d (⟨t, .lenConst n,none⟩::r) K f H=opsT (dn d) r K (updO f t (.int .i64 n)) H:=by
 rw [fM rfl (by simp) (by simp)];rfl
theorem oW {x:Opd} {j:Nat}:opsT d (⟨t, .extract x j,none⟩::r) K f H=aU (jV j (ev f x)) (aW d t r K f H):=
 bC rfl (by simp) (by simp) (by simp only [aC];cases ev f x<;>rfl)
theorem oZ {xs:List Opd}:opsT d (⟨t, .max xs,none⟩::r) K f H=aU (foldV max2 (xs.map (ev f))) (aW d t r K f H):=
 bC rfl (by simp) (by simp) (by rfl)
theorem o7 {xs:List Opd}:opsT d (⟨t, .min xs,none⟩::r) K f H=aU (foldV min2 (xs.map (ev f))) (aW d t r K f H):=
 bC rfl (by simp) (by simp) (by rfl)
def kW (e:Nat) (x i:Value):Option Value:=
 match x,intOf i with
 | .slice (some ⟨b,o,none⟩) len e',some i=>if 0≤i∧i<len∧e'=e then some (P b (o+i.toNat*e)) else none
 | .iface len (.iface e' (.tuple ⟨cs⟩)),some i=>if 0≤i∧i<len∧e'=e then some (Fp (i.toNat*e) cs) else none
 | _,_=>none
theorem xq {b o len e:Nat} {k:IntKind} {i:Int} (h:0≤i∧i<len):kW e (S b o len e) (.int k i)=some (P b (o+i.toNat*e)):=by simp [kW,intOf,h]
theorem xu {len e:Nat} {cs:List Value} {k:IntKind} {i:Int} (h:0≤i∧i<len):kW e (Fz len e cs) (.int k i)=some (Fp (i.toNat*e) cs):=by simp [kW,Fz,intOf,h]
theorem o9 {e:Nat} {x i:Opd}:opsT d (⟨t, .indexAddr none e x i,none⟩::r) K f H=aU (kW e (ev f x) (ev f i)) (aW d t r K f H):=
 bC rfl (by simp) (by simp) (by
  simp only [aC,kW]
  generalize intOf (ev f i)=q
  generalize ev f x=vx
  cases vx<;>try rfl
  case slice a n e'=>
   cases a<;>try rfl
   rename_i a
   obtain ⟨b,o,sp⟩:=a
   cases sp<;>cases q<;>try rfl
   simp only
   split<;>rfl
  case iface l w=>
   cases w<;>try rfl
   rename_i l w
   cases w<;>try rfl
   cases q<;>try rfl
   simp only
   split<;>rfl)
def mP (n e:Nat) (x i:Value):Option Value:=
 match x,intOf i with
 | .pointer (some ⟨b,o,none⟩),some i=>if 0≤i∧i<n then some (P b (o+i.toNat*e)) else none
 | .iface o (.tuple ⟨cs⟩),some i=>if 0≤i∧i<n then some (Fp (o+i.toNat*e) cs) else none
 | _,_=>none
theorem DR {n e b o:Nat} {k:IntKind} {i:Int} (h:0≤i∧i<n):mP n e (P b o) (.int k i)=some (P b (o+i.toNat*e)):=by simp [mP,intOf,h]
theorem DT {n e o:Nat} {cs:List Value} {k:IntKind} {i:Int} (h:0≤i∧i<n):mP n e (Fp o cs) (.int k i)=some (Fp (o+i.toNat*e) cs):=by simp [mP,Fp,intOf,h]
theorem xw {n e:Nat} {x i:Opd}:opsT d (⟨t, .indexAddr (some n) e x i,none⟩::r) K f H=aU (mP n e (ev f x) (ev f i)) (aW d t r K f H):=
 bC rfl (by simp) (by simp) (by
  simp only [aC,mP]
  generalize intOf (ev f i)=q
  generalize ev f x=vx
  cases vx<;>try rfl
  case pointer a=>
   cases a<;>try rfl
   rename_i a
   obtain ⟨b,o,sp⟩:=a
   cases sp<;>cases q<;>try rfl
   simp only
   split<;>rfl
  case iface l w=>
   cases w<;>try rfl
   cases q<;>try rfl
   simp only
   split<;>rfl)
def mQ (n:Option Nat) (H:BH):Value→Option Value
 | .pointer (some ⟨b,o,none⟩)=>(match blk H b with|some cs=>getN n cs o|none=>none)
 | .iface o (.tuple ⟨cs⟩)=>getN n cs o
 | _=>none
def xA (n:Option Nat) (c:Option (List Value)) (o:Nat):Option Value:=
 match c with
 |some cs=>getN n cs o
 |none=>none
theorem xB {n:Option Nat} {cs:List Value} {o:Nat}:xA n (some cs) o=getN n cs o:=rfl
theorem xC {n:Option Nat} {b o:Nat}:mQ n H (P b o)=xA n (blk H b) o:=by simp only [mQ,xA]
theorem xE {n:Option Nat} {o:Nat} {cs:List Value}:mQ n H (Fp o cs)=getN n cs o:=rfl
theorem pq {n:Option Nat} {a:Opd}:opsT d (⟨t, .load n a,none⟩::r) K f H=aU (mQ n H (ev f a)) (aW d t r K f H):=
 bC rfl (by simp) (by simp) (by
  simp only [aC,mQ]
  repeat' split
  all_goals simp_all)
def mV (n:Nat) (a v:Value) (H:BH):Option (Value×BH):=
 match a with
 | .pointer (some ⟨b,o,none⟩)=>
  (match blk H b with
  |some cs=>
   (match cells2 v with
   |some vs=>if vs.length=n∧o+n≤cs.length∧vs.all dA=true then some (undef,H.set b (some (splice cs o vs))) else none
   |none=>none)
  |none=>none)
 | _=>none
def bQ (c:Option (List Value)) (H:BH) (b o n:Nat) (v:Value):Option (Value×BH):=
 match c,cells2 v with
 |some cs,some vs=>if vs.length=n∧o+n≤cs.length∧vs.all dA=true then some (undef,H.set b (some (splice cs o vs))) else none
 | _,_=>none
theorem DU {b o n:Nat} {v:Value}:mV n (P b o) v H=bQ (blk H b) H b o n v:=by
 simp only [mV,bQ]
 cases blk H b<;>cases cells2 v<;>rfl
theorem oH {n:Nat} {a v:Opd}:opsT d (⟨t, .store n a v,none⟩::r) K f H=(dP d=false∧dh (mV n (ev f a) (ev f v) H) (dW d t r K f)):=by
 rw [pO rfl]
 have:aC (.store n a v) (ev f) H=mV n (ev f a) (ev f v) H:=rfl
 rw [this]
def kG (H:BH) (a:Value):List Value→Bool
 |[]=>true
 |x::xs=>gJ H a x&&kG H a xs
theorem DW {a:Value}:kG H a []=true:=rfl
theorem xF {a x:Value} {xs:List Value}:kG H a (x::xs)=(gJ H a x&&kG H a xs):=rfl
theorem DX {i o j q:Nat}:gJ H (P i o) (P j q)=(!(j==i)&&(blk H j).isSome):=rfl
theorem DY {i o j q n e:Nat}:gJ H (P i o) (S j q n e)=(!(j==i)&&(blk H j).isSome):=rfl
theorem DZ {i o:Nat}:gJ H (P i o) (.slice none 0 0)=true:=rfl
theorem D5 {i o:Nat} {k:IntKind} {n:Int}:gJ H (P i o) (.int k n)=true:=rfl
theorem D6 {i o:Nat} {b:Bool}:gJ H (P i o) (.bool b)=true:=rfl
theorem D7 {i o l e:Nat} {cs:List Value}:gJ H (P i o) (Fz l e cs)=true:=rfl
theorem D8 {i o l:Nat} {cs:List Value}:gJ H (P i o) (Fp l cs)=true:=rfl
theorem D9 {i o:Nat} {cs:List Value}:gJ H (P i o) (aggL cs)=true:=rfl
theorem Ea {cs:List Value}:(some cs).isSome=true:=rfl
theorem Eb {n:Nat} {a v:Opd} {fl:List Opd}:opsT d (⟨t, .storeF n a v fl,none⟩::r) K f H=(kG H (ev f a) (fl.map (ev f))=true∧dP d=false∧dh (mV n (ev f a) (ev f v) H) (dW d t r K f)):=by
 rw [pO rfl]
 have e:(fl.all fun x=>gJ H (ev f a) (ev f x))=kG H (ev f a) (fl.map (ev f)):=by
  induction fl with
  |nil=>rfl
  |cons x xs ih=>simp only [List.all_cons,List.map_cons,xF,ih]
 have:aC (.storeF n a v fl) (ev f) H=if kG H (ev f a) (fl.map (ev f))=true then mV n (ev f a) (ev f v) H else none:=by
  rw [←e];rfl
 rw [this]
 by_cases h:kG H (ev f a) (fl.map (ev f))=true
 ·rw [if_pos h];simp [h]
 ·rw [if_neg h];simp [h,dh]
theorem oI {e b:Nat} {s x:Opd}:opsT d (⟨t, .append e b s x,none⟩::r) K f H=(dP d=false∧dh (dI e b (ev f s) (ev f x) H) (dW d t r K f)):=by
 rw [pO rfl];rfl
def Ec (d t:Option Nat) (r:List AOper) (K:Fr→BH→Prop) (f:Fr) (H:BH) (l:List Value):Value→BH→Prop:=fun v H'=>keepW H H' l∧opsT (dn d) r K (updO f t v) H'
theorem Ed {l:List Value} {v:Value} {H1:BH}:Ec d t r K f H l v H1=(keepW H H1 l∧opsT (dn d) r K (updO f t v) H1):=rfl
theorem Ee {g:Nat} {as fl:List Opd}:opsT d (⟨t, .callF g as fl,none⟩::r) K f H=(dP d=false∧aA false g (as.map (ev f)) H (Ec d t r K f H (fl.map (ev f)))):=by rw [opsT];rfl
theorem Ef {H1:BH}:keepW H H1 []=True:=rfl
theorem Eh {H1:BH} {x:Value} {xs:List Value}:keepW H H1 (x::xs)=(kX H H1 x∧keepW H H1 xs):=rfl
theorem Ei {H1:BH} {j o:Nat}:kX H H1 (P j o)=kY (blk H j) (blk H1 j):=rfl
theorem Ej {H1:BH} {j o l e:Nat}:kX H H1 (S j o l e)=kY (blk H j) (blk H1 j):=rfl
theorem Em {H1:BH} {k:IntKind} {n:Int}:kX H H1 (.int k n)=True:=rfl
theorem VH {cs:List Value} (h:cs.all Am.plain=true):kY (some cs) (some cs)=True:=eq_true ⟨rfl,h⟩
def kH (H:BH) (a:Value):List Value→Bool
 |[]=>true
 |x::xs=>kZ H a x&&kH H a xs
theorem En {a:Value}:kH H a []=true:=rfl
theorem xG {a x:Value} {xs:List Value}:kH H a (x::xs)=(kZ H a x&&kH H a xs):=rfl
theorem Eo {i o l e:Nat} {x:Value}:kZ H (S i o l e) x=gJ H (P i 0) x:=rfl
theorem Ep {x:Value}:kZ H (.slice none 0 0) x=true:=rfl
theorem Es {e_1 b:Nat} {s x:Opd} {fl:List Opd}:opsT d (⟨t, .appendF e_1 b s x fl,none⟩::r) K f H=(kH H (ev f s) (fl.map (ev f))=true∧dP d=false∧dh (dI e_1 b (ev f s) (ev f x) H) (dW d t r K f)):=by
 rw [pO rfl]
 have e:(fl.all fun y=>kZ H (ev f s) (ev f y))=kH H (ev f s) (fl.map (ev f)):=by
  induction fl with
  |nil=>rfl
  |cons x xs ih=>simp only [List.all_cons,List.map_cons,xG,ih]
 have:aC (.appendF e_1 b s x fl) (ev f) H=if kH H (ev f s) (fl.map (ev f))=true then dI e_1 b (ev f s) (ev f x) H else none:=by
  rw [←e];rfl
 rw [this]
 by_cases h:kH H (ev f s) (fl.map (ev f))=true
 ·rw [if_pos h];simp [h]
 ·rw [if_neg h];simp [h,dh]
theorem xH {z:List Value}:opsT d (⟨t, .alloc z,none⟩::r) K f H=(z.all Am.plain=true∧opsT (dn d) r K (updO f t (P H.length 0)) (H++[some z])):=by
 rw [fM rfl (by simp) (by simp)]
 simp only [aC]
 split
 ·rename_i h;simp only [h,true_and];rfl
 ·rename_i h;simp only [h];simp [dh]
def jK (v:Value) (H:BH):Option (Value×BH):=
 match cells2 v with
 |some cs=>some (P H.length 0,H++[some cs])
 |none=>none
theorem xI {x:Opd}:opsT d (⟨t, .box x,none⟩::r) K f H=dh (jK (ev f x) H) (dW d t r K f):=by
 rw [fM rfl (by simp) (by simp)];rfl
theorem Et {cs:List Value}:jK (aggL cs) H=some (P H.length 0,H++[some cs]):=rfl
theorem Eu {k:IntKind} {n:Int}:jK (.int k n) H=some (P H.length 0,H++[some [.int k n]]):=rfl
theorem Ew {b:Bool}:jK (.bool b) H=some (P H.length 0,H++[some [.bool b]]):=rfl
theorem Ey {s:ByteArray}:jK (.string s) H=some (P H.length 0,H++[some [.string s]]):=rfl
theorem Ez {a:Option Addr} {l e:Nat}:jK (.slice a l e) H=some (P H.length 0,H++[some [.slice a l e]]):=rfl
theorem EC {l e:Nat} {cs:List Value}:jK (Fz l e cs) H=some (P H.length 0,H++[some [Fz l e cs]]):=rfl
theorem ED {b o:Nat}:jK (P b o) H=some (P H.length 0,H++[some [P b o]]):=rfl
theorem EF {g:Fn} {a b:Array Value}:jK (.func g a b) H=some (P H.length 0,H++[some [.func g a b]]):=rfl
theorem xJ {z:List Value} {p:List (Nat×Nat×Opd)}:opsT d (⟨t, .build z p,none⟩::r) K f H=(z.all Am.plain=true∧(p.map fun p=>nj (ev f p.2.2)).all id=true∧aU ((fillL z (p.map fun p=>(p.1,p.2.1,ev f p.2.2))).map aggL) (aW d t r K f H)):=by
 rw [fM rfl (by simp) (by simp)]
 simp only [aC,List.all_map,Function.id_comp]
 by_cases h:z.all Am.plain=true∧(p.all fun p=>nj (ev f p.2.2))=true
 ·rw [if_pos h,←and_assoc]
  simp only [h.1,h.2,and_self,true_and]
  cases fillL z _<;>rfl
 ·rw [if_neg h,←and_assoc]
  simp only [h,false_and]
  rfl
theorem pF {e n:Nat} {z:List Value} {p:List (Nat×Nat×Opd)}:opsT d (⟨t, .buildSlice e n z p,none⟩::r) K f H=(n*e≤16777216∧z.all Am.plain=true∧(p.map fun p=>nj (ev f p.2.2)).all id=true∧
  dh ((fillL (repl z n) (p.map fun p=>(p.1,p.2.1,ev f p.2.2))).map fun cs=>(S H.length 0 n e,H++[some cs])) (dW d t r K f)):=by
 rw [fM rfl (by simp) (by simp)]
 simp only [aC,List.all_map,Function.id_comp]
 by_cases h:n*e≤16777216∧z.all Am.plain=true∧(p.all fun p=>nj (ev f p.2.2))=true
 ·rw [if_pos h]
  simp only [h.1,h.2.1,h.2.2,true_and]
 ·rw [if_neg h,←and_assoc,←and_assoc,and_assoc (a:=n*e≤16777216)]
  simp only [h,false_and]
  rfl
def uy (e:Nat) (bytes:Nat) (z:List Value) (l c:Value) (H:BH):Option (Value×BH):=
 match l,c with
 | .int _ l, .int _ c=>if 0≤l∧l≤c∧c*bytes≤140737488355328∧c≤9223372036854775807 then some (S H.length 0 l.toNat e,H++[some (repl z c.toNat)]) else none
 | _,_=>none
theorem EG {e b:Nat} {z:List Value} {k:IntKind} {n:Int} {H:BH} (h:0≤n∧n*b≤140737488355328∧n≤9223372036854775807):uy e b z (.int k n) (.int k n) H=some (S H.length 0 n.toNat e,H++[some (repl z n.toNat)]):=by
 simp only [uy]
 rw [if_pos (by omega)]
theorem pG {e b:Nat} {z:List Value} {l c:Opd}:opsT d (⟨t, .makeSlice e b z l c,none⟩::r) K f H=(z.all Am.plain=true∧dh (uy e b z (ev f l) (ev f c) H) (dW d t r K f)):=by
 rw [fM rfl (by simp) (by simp)]
 simp only [aC,uy]
 generalize ev f l=vl
 generalize ev f c=vc
 by_cases hz:z.all Am.plain=true
 ·simp only [hz,true_and]
  cases vl<;>cases vc<;>rfl
 ·simp only [hz,Bool.false_eq_true,false_and,if_false]
  cases vl<;>cases vc<;>simp [dh]
def uz (off:Nat):Value→Option Value
 | .pointer (some ⟨b,o,none⟩)=>some (P b (o+off))
 | .iface o (.tuple ⟨cs⟩)=>some (Fp (o+off) cs)
 | _=>none
theorem EH {off b o:Nat}:uz off (P b o)=some (P b (o+off)):=rfl
theorem EI {off o:Nat} {cs:List Value}:uz off (Fp o cs)=some (Fp (o+off) cs):=rfl
theorem xK {o:Nat} {x:Opd}:opsT d (⟨t, .fieldAddr o x,none⟩::r) K f H=aU (uz o (ev f x)) (aW d t r K f H):=
 bC rfl (by simp) (by simp) (by
  simp only [aC,uz]
  repeat' split
  all_goals first|rfl|simp_all)
theorem xM {n:Option Nat} {o:Nat} {x:Opd}:opsT d (⟨t, .field n o x,none⟩::r) K f H=aU (xO n o (ev f x)) (aW d t r K f H):=
 bC rfl (by simp) (by simp) (by simp only [aC];cases ev f x<;>rfl)
theorem xP {l e:Nat} {n:Option Nat} {x i:Opd}:opsT d (⟨t, .index l e n x i,none⟩::r) K f H=aU (mW l e n (ev f x) (ev f i)) (aW d t r K f H):=
 bC rfl (by simp) (by simp) (by
  simp only [aC]
  generalize ev f x=vx
  generalize ev f i=vi
  cases vx<;>cases vi<;>try rfl
  simp only [intOf,mW]
  split<;>rfl)
def EJ:Value→Value→Option Value
 | .string s, .int _ i=>if 0≤i then (s[i.toNat]?).map fun b=> .int .u8 b.toNat else none
 | _,_=>none
theorem EK {x i:Opd}:opsT d (⟨t, .indexStr x i,none⟩::r) K f H=aU (EJ (ev f x) (ev f i)) (aW d t r K f H):=
 bC rfl (by simp) (by simp) (by
  simp only [aC]
  generalize ev f x=vx
  generalize ev f i=vi
  cases vx<;>cases vi<;>try rfl
  simp only [intOf,EJ]
  split
  ·rw [Option.map_map];rfl
  ·rfl)
def uD:Value→Option Value
 | .pointer (some ⟨b,o,none⟩)=>some (P b o)
 | .iface o (.tuple ⟨cs⟩)=>some (Fp o cs)
 | _=>none
theorem EL {b o:Nat}:uD (P b o)=some (P b o):=rfl
theorem EN {o:Nat} {cs:List Value}:uD (Fp o cs)=some (Fp o cs):=rfl
theorem xQ {x:Opd}:opsT d (⟨t, .nilCheck x,none⟩::r) K f H=aU (uD (ev f x)) (aW d t r K f H):=
 bC rfl (by simp) (by simp) (by
  simp only [aC,uD]
  repeat' split
  all_goals first|rfl|simp_all)
theorem EO {g:Nat} {cs:List Opd}:opsT d (⟨t, .makeFunc g cs,none⟩::r) K f H=opsT (dn d) r K (updO f t (.func (.func g) #[] ⟨cs.map (ev f)⟩)) H:=by
 rw [fM rfl (by simp) (by simp)];rfl
def gq (len:Nat) (lo hi:Option Value):Option (Nat×Nat):=cutOf (fun| .c v=>v| _=>undef) len (lo.map .c) (hi.map .c)
theorem xR {len:Nat} {lo hi:Option Opd}:gq len (lo.map (ev f)) (hi.map (ev f))=cutOf (ev f) len lo hi:=by cases lo<;>cases hi<;>rfl
theorem xU {len:Nat} {k:IntKind} {h:Int} (hh:0≤h∧h≤len):gq len none (some (.int k h))=some (0,h.toNat):=by
 simp only [gq,Option.map_none,Option.map_some,cutOf,intOf]
 rw [if_pos (by omega)];rfl
theorem xW {len:Nat} {k:IntKind} {l:Int} (hh:0≤l∧l≤len):gq len (some (.int k l)) none=some (l.toNat,len):=by
 simp only [gq,Option.map_none,Option.map_some,cutOf,intOf]
 rw [if_pos (by omega)];simp
theorem EP {len:Nat} {k k':IntKind} {l h:Int} (hh:0≤l∧l≤h∧h≤len):gq len (some (.int k l)) (some (.int k' h))=some (l.toNat,h.toNat):=by
 simp only [gq,Option.map_some,cutOf,intOf]
 rw [if_pos (by omega)]
theorem Qu {len:Nat}:gq len none none=some (0,len):=by
 simp [gq,cutOf]
def kJ (e:Nat) (x:Value) (lo hi:Option Value):Option Value:=
 match x with
 | .slice (some ⟨b,o,none⟩) len e'=>if e'=e then (gq len lo hi).map fun (l,h)=>S b (o+l*e) (h-l) e else none
 | .slice none 0 0=>(gq 0 lo hi).map fun _=> .slice none 0 0
 | .iface len (.iface e' (.tuple ⟨cs⟩))=>if e'=e then (gq len lo hi).map fun (l,h)=>Fz (h-l) e ((cs.drop (l*e)).take ((h-l)*e)) else none
 | _=>none
theorem VI {e b o len l h:Nat} {lo hi:Option Value} (hc:gq len lo hi=some (l,h)):kJ e (S b o len e) lo hi=some (S b (o+l*e) (h-l) e):=by simp [kJ,hc]
theorem ER {e len l h:Nat} {cs:List Value} {lo hi:Option Value} (hc:gq len lo hi=some (l,h)):kJ e (Fz len e cs) lo hi=some (Fz (h-l) e ((cs.drop (l*e)).take ((h-l)*e))):=by simp [kJ,Fz,hc]
theorem pz {e:Nat} {x:Opd} {lo hi:Option Opd}:opsT d (⟨t, .slice e x lo hi,none⟩::r) K f H=aU (kJ e (ev f x) (lo.map (ev f)) (hi.map (ev f))) (aW d t r K f H):=
 bC rfl (by simp) (by simp) (by
  simp only [aC,kJ,xR]
  generalize ev f x=vx
  cases vx<;>try rfl
  case slice a n e'=>
   cases a with
   |none=>
    cases n<;>cases e'<;>try rfl
    simp only
    rw [Option.map_map];rfl
   |some a=>
    obtain ⟨b,o,sp⟩:=a
    cases sp<;>try rfl
    simp only
    split
    ·rw [Option.map_map];rfl
    ·rfl
  case iface l w=>
   cases w<;>try rfl
   rename_i l w
   cases w<;>try rfl
   simp only
   split
   ·rw [Option.map_map];rfl
   ·rfl)
def ES (x:Value) (lo hi:Option Value):Option Value:=
 match x with
 | .string s=>(gq s.size lo hi).map fun (l,h)=> .string (s.extract l h)
 | _=>none
theorem ET {x:Opd} {lo hi:Option Opd}:opsT d (⟨t, .sliceStr x lo hi,none⟩::r) K f H=aU (ES (ev f x) (lo.map (ev f)) (hi.map (ev f))) (aW d t r K f H):=
 bC rfl (by simp) (by simp) (by
  simp only [aC,ES,xR]
  generalize ev f x=vx
  cases vx<;>try rfl
  simp only
  rw [Option.map_map];rfl)
def xX (len e:Nat) (H:BH) (x:Value) (lo hi:Option Value):Option Value:=
 match x with
 | .pointer (some ⟨b,o,none⟩)=>(match blk H b with|some cs=>if o+len*e≤cs.length then (gq len lo hi).map fun (l,h)=>S b (o+l*e) (h-l) e else none|none=>none)
 | _=>none
theorem EU {len e:Nat} {x:Opd} {lo hi:Option Opd}:opsT d (⟨t, .sliceArr len e x lo hi,none⟩::r) K f H=aU (xX len e H (ev f x) (lo.map (ev f)) (hi.map (ev f))) (aW d t r K f H):=
 bC rfl (by simp) (by simp) (by
  simp only [aC,xX,xR]
  generalize ev f x=vx
  cases vx<;>try rfl
  case pointer a=>
   cases a<;>try rfl
   rename_i a
   obtain ⟨b,o,sp⟩:=a
   cases sp<;>try rfl
   simp only
   cases blk H b with
   |none=>rfl
   |some cs=>
    simp only
    split
    ·rw [Option.map_map];rfl
    ·rfl)
end
section
variable {H:BH}
theorem EW {a:Option (List Value)} {l:BH}:blk (a::l) 0=a:=rfl
theorem EX {a b:Option (List Value)} {l:BH}:blk (a::b::l) 1=b:=rfl
theorem EY {a b c:Option (List Value)} {l:BH}:blk (a::b::c::l) 2=c:=rfl
theorem EZ {a b c e:Option (List Value)} {l:BH}:blk (a::b::c::e::l) 3=e:=rfl
theorem E5 {a b c e g:Option (List Value)} {l:BH}:blk (a::b::c::e::g::l) 4=g:=rfl
theorem E8 {a b c e g h:Option (List Value)} {l:BH}:blk (a::b::c::e::g::h::l) 5=h:=rfl
theorem E9 {a b c e g h i:Option (List Value)} {l:BH}:blk (a::b::c::e::g::h::i::l) 6=i:=rfl
theorem Fa {a b c e g h i j:Option (List Value)} {l:BH}:blk (a::b::c::e::g::h::i::j::l) 7=j:=rfl
theorem Fb {x0 x1 x2 x3 x4 x5 x6 x7 x8:Option (List Value)} {l:BH}:blk (x0::x1::x2::x3::x4::x5::x6::x7::x8::l) 8=x8:=rfl
theorem Fe {x0 x1 x2 x3 x4 x5 x6 x7 x8 x9:Option (List Value)} {l:BH}:blk (x0::x1::x2::x3::x4::x5::x6::x7::x8::x9::l) 9=x9:=rfl
theorem Fg {x0 x1 x2 x3 x4 x5 x6 x7 x8 x9 x10:Option (List Value)} {l:BH}:blk (x0::x1::x2::x3::x4::x5::x6::x7::x8::x9::x10::l) 10=x10:=rfl
theorem Fh {x0 x1 x2 x3 x4 x5 x6 x7 x8 x9 x10 x11:Option (List Value)} {l:BH}:blk (x0::x1::x2::x3::x4::x5::x6::x7::x8::x9::x10::x11::l) 11=x11:=rfl
theorem Fj {x0 x1 x2 x3 x4 x5 x6 x7 x8 x9 x10 x11 x12:Option (List Value)} {l:BH}:blk (x0::x1::x2::x3::x4::x5::x6::x7::x8::x9::x10::x11::x12::l) 12=x12:=rfl
theorem Fq {x0 x1 x2 x3 x4 x5 x6 x7 x8 x9 x10 x11 x12 Fv:Option (List Value)} {l:BH}:blk (x0::x1::x2::x3::x4::x5::x6::x7::x8::x9::x10::x11::x12::Fv::l) 13=Fv:=rfl
theorem FC {xs:List Int} {rest:List Value} {k:Nat} (h:k<xs.length):getN none (xs.map I++rest) k=some (I (el xs k)):=by
 simp [getN,List.getElem?_append_left,h,el,List.getD]
theorem uF {xs:List Int} {k:Nat} (h:k<xs.length):getN none (xs.map I) k=some (I (el xs k)):=by
 simp [getN,h,el,List.getD]
theorem xY {p:List Nat} {k:Nat} (h:k<p.length):getN none (p.map N8) k=some (N8 (nl p k)):=by
 simp [getN,h,nl,List.getD]
def bl (p:List Bool) (i:Nat):Bool:=p.getD i false
theorem FD {p:List Bool} {k:Nat} (h:k<p.length):getN none (p.map B) k=some (.bool (bl p k)):=by
 simp [getN,h,bl,List.getD]
theorem lg {n o:Nat} {cs:List Value} (h:o+n≤cs.length):getN (some n) cs o=some (aggL ((cs.drop o).take n)):=by simp [getN,h]
theorem xZ {α:Type} {g:α→Value} {xs:List α} {k:Nat} {y:α} (h:k<xs.length):splice (xs.map g) k [g y]=(xs.set k y).map g:=by
 simp only [splice,List.length_singleton]
 rw [List.set_eq_take_append_cons_drop]
 simp [h,List.map_take,List.map_drop]
theorem Qv {xs:List Int} {k:Nat} {y:Int} (h:k<xs.length):splice (xs.map I) k [I y]=(xs.set k y).map I:=xZ h
theorem FH {xs:List Nat} {k y:Nat} (h:k<xs.length):splice (xs.map N8) k [N8 y]=(xs.set k y).map N8:=xZ h
theorem FK {xs:List Bool} {k:Nat} {y:Bool} (h:k<xs.length):splice (xs.map B) k [.bool y]=(xs.set k y).map B:=xZ h
theorem pV {cs:List Value} {b o:Nat} {v:Value} {vs:List Value} (hv:cells2 v=some vs) (h1:vs.length=1) (h2:vs.all dA=true) (h:o<cs.length):bQ (some cs) H b o 1 v=some (undef,H.set b (some (splice cs o vs))):=by
 simp only [bQ,hv]
 rw [if_pos ⟨h1,by omega,h2⟩]
theorem lu {cs:List Value} {b o:Nat} {k:IntKind} {n:Int} (h:o<cs.length):bQ (some cs) H b o 1 (.int k n)=some (undef,H.set b (some (splice cs o [.int k n]))):=pV rfl rfl rfl h
theorem Qw {cs:List Value} {b o:Nat} {t:Bool} (h:o<cs.length):bQ (some cs) H b o 1 (.bool t)=some (undef,H.set b (some (splice cs o [.bool t]))):=pV rfl rfl rfl h
theorem jy {cs vs:List Value} {b o n:Nat} (h1:vs.length=n) (h2:vs.all dA=true) (h:o+n≤cs.length):bQ (some cs) H b o n (aggL vs)=some (undef,H.set b (some (splice cs o vs))):=by
 simp only [bQ,cells2]
 rw [if_pos ⟨h1,h,h2⟩]
theorem all_map {α:Type} {g:α→Value} {p:Value→Bool} {xs:List α} (h: ∀a,p (g a)=true):(xs.map g).all p=true:=by
 simp [List.all_map,Function.comp_def,h]
theorem lC {p:List Nat}:(p.map N8).all dA=true:=all_map fun _=>rfl
theorem FM {p:List Int}:(p.map I).all dA=true:=all_map fun _=>rfl
theorem yc {p:List Bool}:(p.map B).all dA=true:=all_map fun _=>rfl
theorem FP {n:Nat} {b:Bool}:(List.replicate n (Value.bool b)).all Am.plain=true:=by simp [List.all_replicate,Am.plain]
theorem FQ {n:Nat} {k:IntKind} {m:Int}:(List.replicate n (Value.int k m)).all Am.plain=true:=by simp [List.all_replicate,Am.plain]
theorem FT {b:Bool}:Am.plain (.bool b)=true:=rfl
theorem FU {k:IntKind} {m:Int}:Am.plain (.int k m)=true:=rfl
theorem FV {s:ByteArray}:Am.plain (.string s)=true:=rfl
theorem FW:Am.plain (.slice none 0 0)=true:=rfl
theorem FX:Am.plain .nilFunc=true:=rfl
theorem w8 {n:Int} (h0:0≤n) (h1:n<256):IntKind.u8.wrap n=n:=by
 have hb:(2:Int)^(8:Nat)=256:=by decide
 have hb':(2:Int)^(7:Nat)=128:=by decide
 simp only [IntKind.wrap,IntKind.bits,IntKind.signed,hb,hb']
 simp only [Bool.false_and,Bool.false_eq_true,if_false]
 omega
theorem FY {len:Nat} {p:List Nat} {k:IntKind} {i:Int} (h:0≤i∧i<len) (hl:p.length=len):mW len 1 none (PL p) (.int k i)=some (N8 (nl p i.toNat)):=by
 rw [Qx,if_pos h,Nat.mul_one,xY (by omega)]
theorem FZ {z:List Value}:fillL z []=some z:=rfl
theorem VJ {z:List Value} {o n:Nat} {v:Value} {r:List (Nat×Nat×Value)} (h:(cellsL v).length=n∧o+n≤z.length):fillL z ((o,n,v)::r)=fillL (splice z o (cellsL v)) r:=by
 simp only [fillL];rw [if_pos h]
theorem F5 {v:Value} {k0:IntKind} {n0:Int}:fillL (List.replicate 1 v) [(0,1, .int k0 n0)]=some [.int k0 n0]:=rfl
theorem F6 {v:Value} {k0:IntKind} {n0:Int} {k1:IntKind} {n1:Int}:fillL (List.replicate 2 v) [(0,1, .int k0 n0),(1,1, .int k1 n1)]=some [.int k0 n0, .int k1 n1]:=rfl
theorem F7 {v:Value} {k0:IntKind} {n0:Int} {k1:IntKind} {n1:Int} {k2:IntKind} {n2:Int}:fillL (List.replicate 3 v) [(0,1, .int k0 n0),(1,1, .int k1 n1),(2,1, .int k2 n2)]=some [.int k0 n0, .int k1 n1, .int k2 n2]:=rfl
theorem F8 {v:Value} {k0:IntKind} {n0:Int} {k1:IntKind} {n1:Int} {k2:IntKind} {n2:Int} {k3:IntKind} {n3:Int}:fillL (List.replicate 4 v) [(0,1, .int k0 n0),(1,1, .int k1 n1),(2,1, .int k2 n2),(3,1, .int k3 n3)]=some [.int k0 n0, .int k1 n1, .int k2 n2, .int k3 n3]:=rfl
theorem F9 {v:Value} {k0:IntKind} {n0:Int} {k1:IntKind} {n1:Int} {k2:IntKind} {n2:Int} {k3:IntKind} {n3:Int} {k4:IntKind} {n4:Int}:fillL (List.replicate 5 v) [(0,1, .int k0 n0),(1,1, .int k1 n1),(2,1, .int k2 n2),(3,1, .int k3 n3),(4,1, .int k4 n4)]=some [.int k0 n0, .int k1 n1, .int k2 n2, .int k3 n3, .int k4 n4]:=rfl
theorem Gf {v:Value} {k0:IntKind} {n0:Int} {k1:IntKind} {n1:Int} {k2:IntKind} {n2:Int} {k3:IntKind} {n3:Int} {k4:IntKind} {n4:Int} {k5:IntKind} {n5:Int}:fillL (List.replicate 6 v) [(0,1, .int k0 n0),(1,1, .int k1 n1),(2,1, .int k2 n2),(3,1, .int k3 n3),(4,1, .int k4 n4),(5,1, .int k5 n5)]=some [.int k0 n0, .int k1 n1, .int k2 n2, .int k3 n3, .int k4 n4, .int k5 n5]:=rfl
theorem Gg {v:Value} {k0:IntKind} {n0:Int} {k1:IntKind} {n1:Int} {k2:IntKind} {n2:Int} {k3:IntKind} {n3:Int} {k4:IntKind} {n4:Int} {k5:IntKind} {n5:Int} {k6:IntKind} {n6:Int}:fillL (List.replicate 7 v) [(0,1, .int k0 n0),(1,1, .int k1 n1),(2,1, .int k2 n2),(3,1, .int k3 n3),(4,1, .int k4 n4),(5,1, .int k5 n5),(6,1, .int k6 n6)]=some [.int k0 n0, .int k1 n1, .int k2 n2, .int k3 n3, .int k4 n4, .int k5 n5, .int k6 n6]:=rfl
theorem Gi {v:Value} {l0 e0:Nat} {c0:List Value}:fillL (List.replicate 1 v) [(0,1,Fz l0 e0 c0)]=some [Fz l0 e0 c0]:=rfl
theorem Gj {v:Value} {l0 e0:Nat} {c0:List Value} {l1 e1:Nat} {c1:List Value}:fillL (List.replicate 2 v) [(0,1,Fz l0 e0 c0),(1,1,Fz l1 e1 c1)]=some [Fz l0 e0 c0,Fz l1 e1 c1]:=rfl
theorem Gl {v:Value} {l0 e0:Nat} {c0:List Value} {l1 e1:Nat} {c1:List Value} {l2 e2:Nat} {c2:List Value}:fillL (List.replicate 3 v) [(0,1,Fz l0 e0 c0),(1,1,Fz l1 e1 c1),(2,1,Fz l2 e2 c2)]=some [Fz l0 e0 c0,Fz l1 e1 c1,Fz l2 e2 c2]:=rfl
theorem Gm {v:Value} {s0:ByteArray}:fillL (List.replicate 1 v) [(0,1, .string s0)]=some [.string s0]:=rfl
theorem Gn {v:Value} {s0:ByteArray} {s1:ByteArray}:fillL (List.replicate 2 v) [(0,1, .string s0),(1,1, .string s1)]=some [.string s0, .string s1]:=rfl
theorem Gp {v:Value} {s0:ByteArray} {s1:ByteArray} {s2:ByteArray}:fillL (List.replicate 3 v) [(0,1, .string s0),(1,1, .string s1),(2,1, .string s2)]=some [.string s0, .string s1, .string s2]:=rfl
theorem Gq {v:Value} {a0:Option Addr} {l0 e0:Nat}:fillL (List.replicate 1 v) [(0,1, .slice a0 l0 e0)]=some [.slice a0 l0 e0]:=rfl
theorem Gs {v:Value} {a0:Option Addr} {l0 e0:Nat} {a1:Option Addr} {l1 e1:Nat}:fillL (List.replicate 2 v) [(0,1, .slice a0 l0 e0),(1,1, .slice a1 l1 e1)]=some [.slice a0 l0 e0, .slice a1 l1 e1]:=rfl
theorem Gt {v:Value} {a0:Option Addr} {l0 e0:Nat} {a1:Option Addr} {l1 e1:Nat} {a2:Option Addr} {l2 e2:Nat}:fillL (List.replicate 3 v) [(0,1, .slice a0 l0 e0),(1,1, .slice a1 l1 e1),(2,1, .slice a2 l2 e2)]=some [.slice a0 l0 e0, .slice a1 l1 e1, .slice a2 l2 e2]:=rfl
theorem Gu {v:Value} {b0:Bool}:fillL (List.replicate 1 v) [(0,1, .bool b0)]=some [.bool b0]:=rfl
theorem Gv {v:Value} {b0:Bool} {b1:Bool}:fillL (List.replicate 2 v) [(0,1, .bool b0),(1,1, .bool b1)]=some [.bool b0, .bool b1]:=rfl
theorem Gw {v:Value} {b0:Bool} {b1:Bool} {b2:Bool}:fillL (List.replicate 3 v) [(0,1, .bool b0),(1,1, .bool b1),(2,1, .bool b2)]=some [.bool b0, .bool b1, .bool b2]:=rfl
theorem Gx {v:Value} {n:Nat}:repl [v] n=List.replicate n v:=AZ v n
theorem pW {a b:Value} {l:List Value}:splice (a::l) 0 [b]=b::l:=rfl
theorem Gy {a b:Value} {l:List Value} {n:Nat}:splice (a::l) (n+1) [b]=a::splice l n [b]:=rfl
theorem uG {cs vs:List Value} (h:vs.length=cs.length):splice cs 0 vs=vs:=by
 simp [splice,h]
theorem uH {k:IntKind} {n:Int}:cellsL (.int k n)=[.int k n]:=rfl
theorem Gz {b:Bool}:cellsL (.bool b)=[.bool b]:=rfl
theorem GH {b:ByteArray}:cellsL (.string b)=[.string b]:=rfl
theorem GI {l e:Nat} {cs:List Value}:cellsL (Fz l e cs)=[Fz l e cs]:=rfl
theorem uI {cs:List Value}:cellsL (aggL cs)=cs:=rfl
theorem GK {a:Option Addr} {l e:Nat}:cellsL (.slice a l e)=[.slice a l e]:=rfl
theorem GL {k:IntKind} {n:Int}:nj (.int k n)=true:=rfl
theorem GN {b:Bool}:nj (.bool b)=true:=rfl
theorem GR {b:ByteArray}:nj (.string b)=true:=rfl
theorem GU {l e:Nat} {cs:List Value}:nj (Fz l e cs)=true:=rfl
theorem GV {cs:List Value}:nj (aggL cs)=true:=rfl
theorem GX {a:Option Addr} {l e:Nat}:nj (.slice a l e)=true:=rfl
theorem GY {cs:List Value} {b o n:Nat} {c:Bool} (h:o+n≤cs.length):bQ (some cs) H b o n (aggL (List.replicate n (.bool c)))=some (undef,H.set b (some (splice cs o (List.replicate n (.bool c))))):=jy (by simp) (by simp [dA]) h
theorem GZ {cs:List Value} {b o n:Nat} {k:IntKind} {c:Int} (h:o+n≤cs.length):bQ (some cs) H b o n (aggL (List.replicate n (.int k c)))=some (undef,H.set b (some (splice cs o (List.replicate n (.int k c))))):=jy (by simp) (by simp [dA]) h
theorem G5 {cs:List Value} {b o n:Nat} {p:List Nat} (hp:p.length=n) (h:o+n≤cs.length):bQ (some cs) H b o n (aggL (p.map N8))=some (undef,H.set b (some (splice cs o (p.map N8)))):=jy (by simpa using hp) lC h
theorem G6 {cs:List Value} {b o n:Nat} {p:List Int} (hp:p.length=n) (h:o+n≤cs.length):bQ (some cs) H b o n (aggL (p.map I))=some (undef,H.set b (some (splice cs o (p.map I)))):=jy (by simpa using hp) FM h
theorem G7 {cs:List Value} {b o n:Nat} {p:List Bool} (hp:p.length=n) (h:o+n≤cs.length):bQ (some cs) H b o n (aggL (p.map B))=some (undef,H.set b (some (splice cs o (p.map B)))):=jy (by simpa using hp) yc h
theorem G8 {n:Nat} {p:List Nat} (hp:p.length=n):getN (some n) (p.map N8) 0=some (PL p):=by
 rw [lg (by simp [hp]),List.drop_zero,List.take_of_length_le (by simp [hp])]
theorem G9 {n:Nat} {p:List Bool} (hp:p.length=n):getN (some n) (p.map B) 0=some (aggL (p.map B)):=by
 rw [lg (by simp [hp]),List.drop_zero,List.take_of_length_le (by simp [hp])]
theorem He {n:Nat} {p:List Int} (hp:p.length=n):getN (some n) (p.map I) 0=some (aggL (p.map I)):=by
 rw [lg (by simp [hp]),List.drop_zero,List.take_of_length_le (by simp [hp])]
theorem Hf {s:List Bool} {b o:Nat} {c:Bool} (h:o<s.length):bQ (some (s.map B)) H b o 1 (.bool c)=some (undef,H.set b (some ((s.set o c).map B))):=by
 rw [Qw (by simpa using h),FK h]
theorem Hg {s:List Nat} {b o c:Nat} (h:o<s.length):bQ (some (s.map N8)) H b o 1 (.int .u8 (c:Int))=some (undef,H.set b (some ((s.set o c).map N8))):=by
 rw [lu (by simpa using h),FH h]
theorem Hl {s:List Int} {b o:Nat} {c:Int} (h:o<s.length):bQ (some (s.map I)) H b o 1 (.int .i64 c)=some (undef,H.set b (some ((s.set o c).map I))):=by
 rw [lu (by simpa using h),Qv h]
theorem lF {v:Value} {b n:Nat} {vs:List Value} (hp:vs.length=n) (h1:vs.all dA=true):bQ (some (List.replicate n v)) H b 0 n (aggL vs)=some (undef,H.set b (some vs)):=by
 rw [jy hp h1 (by simp),uG (by simpa using hp)]
theorem Ho {v:Value} {b n:Nat} {p:List Nat} (hp:p.length=n):bQ (some (List.replicate n v)) H b 0 n (aggL (p.map N8))=some (undef,H.set b (some (p.map N8))):=lF (by simpa using hp) lC
theorem Hq {v:Value} {b n:Nat} {p:List Int} (hp:p.length=n):bQ (some (List.replicate n v)) H b 0 n (aggL (p.map I))=some (undef,H.set b (some (p.map I))):=lF (by simpa using hp) FM
theorem Hr {v:Value} {b n:Nat} {p:List Bool} (hp:p.length=n):bQ (some (List.replicate n v)) H b 0 n (aggL (p.map B))=some (undef,H.set b (some (p.map B))):=lF (by simpa using hp) yc
theorem Ht {v:Value} {b n:Nat} {c:Bool}:bQ (some (List.replicate n v)) H b 0 n (aggL (List.replicate n (.bool c)))=some (undef,H.set b (some (List.replicate n (.bool c)))):=lF (by simp) (by simp [dA])
theorem Hu {v:Value} {b n:Nat} {k:IntKind} {c:Int}:bQ (some (List.replicate n v)) H b 0 n (aggL (List.replicate n (.int k c)))=some (undef,H.set b (some (List.replicate n (.int k c)))):=lF (by simp) (by simp [dA])
theorem Hw {n:Nat} {c:Bool} (h:0<n):fillL (List.replicate n (.bool false)) [(0,1, .bool c)]=some (((List.replicate n false).set 0 c).map B):=by
 simp only [fillL,cellsL,List.length_singleton,List.length_replicate]
 rw [if_pos ⟨trivial,by omega⟩,show List.replicate n (Value.bool false)=(List.replicate n false).map B by simp,FK (by simpa using h)]
theorem Qy {n:Nat} {c:Nat} (h:0<n):fillL (List.replicate n (.int .u8 0)) [(0,1, .int .u8 (c:Int))]=some (((List.replicate n 0).set 0 c).map N8):=by
 simp only [fillL,cellsL,List.length_singleton,List.length_replicate]
 rw [if_pos ⟨trivial,by omega⟩,show List.replicate n (Value.int .u8 0)=(List.replicate n 0).map N8 by simp,FH (by simpa using h)]
theorem Hy {n:Nat} (h:0<n):fillL (List.replicate n (.int .u8 0)) [(0,1, .int .u8 1)]=some (((List.replicate n 0).set 0 1).map N8):=Qy (c:=1) h
theorem Hz {v:Value} {b n:Nat} {c:Bool}:bQ (some (List.replicate n v)) H b 0 n (aggL (((List.replicate n false).set 0 c).map B))=some (undef,H.set b (some (((List.replicate n false).set 0 c).map B))):=lF (by simp) yc
theorem HY {v:Value} {b n c:Nat}:bQ (some (List.replicate n v)) H b 0 n (aggL (((List.replicate n 0).set 0 c).map N8))=some (undef,H.set b (some (((List.replicate n 0).set 0 c).map N8))):=lF (by simp) lC
theorem yg {n:Nat} {b:Bool}:List.replicate n (Value.bool b)=(List.replicate n b).map B:=by simp
theorem VK {n m:Nat}:List.replicate n (Value.int .u8 (m:Int))=(List.replicate n m).map N8:=by simp
theorem VN {n:Nat} {m:Int}:List.replicate n (Value.int .i64 m)=(List.replicate n m).map I:=by simp
end
def app1 (y:Option (List Value)) (c:Option (List Value)) (H:BH) (b l bytes cn:Nat):Option (Value×BH):=
 match c,y with
 |some cs,some [v]=>if l≤cs.length∧(l+1)*bytes≤140737488355328∧dA v=true then some (S H.length 0 (l+1) 1,(H.set b none)++[some (cs.take l++[v])]) else none
 | _,_=>dI 1 bytes (S b 0 l 1) (S cn 0 1 1) H
theorem H6 {H:BH} {b c l bytes:Nat}:dI 1 bytes (S b 0 l 1) (S c 0 1 1) H=app1 (blk H c) (blk H b) H b l bytes c:=by
 unfold app1
 split
 ·rename_i cs v hb hc
  simp [dI,newC,hb,hc]
 ·rfl
section
variable {H:BH} {b bytes cn:Nat}
theorem pX {α:Type} {g:α→Value} {xs:List α} {y:α} (ho:dA (g y)=true) (h:(xs.length+1)*bytes≤140737488355328):app1 (some [g y]) (some (xs.map g)) H b xs.length bytes cn=some (S H.length 0 (xs.length+1) 1,(H.set b none)++[some ((xs++[y]).map g)]):=by
 simp only [app1]
 rw [if_pos ⟨by simp,h,ho⟩]
 simp [List.take_of_length_le]
theorem H7 {xs:List Nat} {y:Nat} (h:(xs.length+1)*bytes≤140737488355328):app1 (some [.int .u8 (y:Int)]) (some (xs.map N8)) H b xs.length bytes cn=some (S H.length 0 (xs.length+1) 1,(H.set b none)++[some ((xs++[y]).map N8)]):=pX (g:=N8) rfl h
theorem H8 {xs:List Int} {y:Int} (h:(xs.length+1)*bytes≤140737488355328):app1 (some [.int .i64 y]) (some (xs.map I)) H b xs.length bytes cn=some (S H.length 0 (xs.length+1) 1,(H.set b none)++[some ((xs++[y]).map I)]):=pX (g:=I) rfl h
theorem H9 {xs:List (List Int)} {y:List Int} (h:(xs.length+1)*bytes≤140737488355328):app1 (some [Fz y.length 1 (y.map I)]) (some (xs.map FI)) H b xs.length bytes cn=some (S H.length 0 (xs.length+1) 1,(H.set b none)++[some ((xs++[y]).map FI)]):=pX (g:=FI) rfl h
theorem VO {v:Value} (ho:dA v=true) (h:bytes≤140737488355328):app1 (some [v]) (some []) H b 0 bytes cn=some (S H.length 0 1 1,(H.set b none)++[some [v]]):=by
 simp only [app1]
 rw [if_pos ⟨by simp,by omega,ho⟩];rfl
end
theorem yh {α:Type} {g:α→Value} {ns:List Nat} {xs:List α} (h: ∀a,pl1 (g a)=true):ren ns (aggL (xs.map g))=aggL (xs.map g):=by
 simp only [ren]
 rw [if_pos (all_map h)]
theorem Ia {ns:List Nat} {p:List Nat}:ren ns (PL p)=PL p:=yh fun _=>rfl
theorem Ib {ns:List Nat} {p:List Bool}:ren ns (aggL (p.map B))=aggL (p.map B):=yh fun _=>rfl
theorem Ic {ns:List Nat} {p:List Int}:ren ns (aggL (p.map I))=aggL (p.map I):=yh fun _=>rfl
theorem aS {k:Nat} {rs:List ARes} {K:Value→BH→Prop} {f:Fr} {H:BH} {vs:List Value} {v1:Value} {H1:BH} (h:resAll f H rs=some vs) (g:aG k (tup vs) H v1 H1) (hK:K v1 H1):jc k rs K .ret f H:=⟨vs,h,v1,H1,g,hK⟩
theorem yj {k:Nat} {rs:List ARes} {K:Value→BH→Prop} {f:Fr} {H:BH} {vs:List Value} {v1:Value} {H1:BH} (h:resAll f H rs=some vs) (g:aG k (tup vs) H v1 H1) (hK:K v1 H1):jc k rs K .normal f H:=⟨vs,h,v1,H1,g,hK⟩
theorem bF {k:Nat} {Q:Ex→Fr→BH→Prop} {f:Fr} {H:BH} {c:Opd} {a b r:ACode} {p:Prop} {t:Bool} (hc:ev f c= .bool t) (hp:t=true↔p) (h1:p→T k (.seq a r) Q f H) (h2: ¬p→T k (.seq b r) Q f H):T k (.seq (.cond c a b) r) Q f H:=by
 refine aP hc ?_
 cases t
 ·exact h2 fun h=>by simpa using hp.2 h
 ·exact h1 (hp.1 rfl)
theorem Ie {k:Nat} {Q:Ex→Fr→BH→Prop} {f:Fr} {H:BH} {c:Opd} {a b:ACode} {p:Prop} {t:Bool} (hc:ev f c= .bool t) (hp:t=true↔p) (h1:p→T k a Q f H) (h2: ¬p→T k b Q f H):T k (.cond c a b) Q f H:=by
 refine jW hc ?_
 cases t
 ·exact h2 fun h=>by simpa using hp.2 h
 ·exact h1 (hp.1 rfl)
def Ig:ACode→Option Ex
 | .exit i=>some (.exit i)
 | .ret=>some .ret
 | .skip=>some .normal
 | _=>none
theorem ah {k:Nat} {Q:Ex→Fr→BH→Prop} {f:Fr} {H:BH} {c:ACode} {ex:Ex} (h:Ig c=some ex) (hq:Q ex f H):T k c Q f H:=by
 cases c<;>simp only [Ig,Option.some.injEq,reduceCtorEq] at h<;>subst h
 ·exact uh hq
 ·exact BR hq
 ·exact wW hq
def pY:List Nat→Bool
 |[]=>true
 |a::l=> !l.contains a&&pY l
theorem yu: ∀{l:List Nat},pY l=true→l.Nodup
 |[],_=>List.nodup_nil
 |a::l,h=>by
  simp only [pY,Bool.and_eq_true,Bool.not_eq_true',List.contains_eq_mem,decide_eq_false_iff_not] at h
  exact List.nodup_cons.2 ⟨h.1,yu h.2⟩
def mX:Nat→Nat→List Nat→Bool
 | _,0,_=>true
 |j,k+1,a::ns=>Nat.beq a j&&mX (j+1) k ns
 | _,_+1,[]=>false
theorem yw: ∀{j k:Nat} {ns:List Nat},mX j k ns=true→ ∀i,i<k→ns[i]? =some (j+i)
 | _,0,_,_,i,hi=>absurd hi (Nat.not_lt_zero i)
 |j,k+1,[],h,_,_=>by simp [mX] at h
 |j,k+1,a::ns,h,i,hi=>by
  simp only [mX,Bool.and_eq_true] at h
  cases i with
  |zero=>simp [Nat.eq_of_beq_eq_true h.1]
  |succ i=>
   rw [List.getElem?_cons_succ,yw h.2 i (by omega)]
   simp
   omega
theorem Gh.nrm {k:Nat} {f:Fr} {H:BH} (ns:List Nat) (h1:pY ns=true) (h2:mX 0 k ns=true) (hn:HN H):Gh k f H (fun t=>ren ns (f t)) (ns.map (blk H)):=
 Gh.norm ns (yu h1) (fun j hj=>by rw [yw h2 j hj,Nat.zero_add]) hn
theorem aG.nrm {k:Nat} {v:Value} {H:BH} (ns:List Nat) (h1:pY ns=true) (h2:mX 0 k ns=true) (hn:HN H) (hv:NN v):aG k v H v (ns.map (blk H)):=
 aG.norm ns (yu h1) (fun j hj=>by rw [yw h2 j hj,Nat.zero_add]) hn hv
theorem Ih:aF []=True:=eq_true aF.nil
theorem Ii {c:Value} {cs:List Value}:aF (c::cs)=(NN c∧aF cs):=propext ⟨fun h=>⟨h c (by simp),fun x hx=>h x (by simp [hx])⟩,fun h=>aF.cons h.1 h.2⟩
theorem Ij:HN []=True:=eq_true HN.nil
theorem Ik {H:BH}:HN (none::H)=HN H:=propext ⟨fun h i cs hc=>h (i+1) cs (by simpa [blk] using hc),HN.none⟩
theorem Il {H:BH} {c:List Value}:HN (some c::H)=(aF c∧HN H):=propext ⟨fun h=>⟨h 0 c rfl,fun i cs hc=>h (i+1) cs (by simpa [blk] using hc)⟩,fun h=>HN.cons h.1 h.2⟩
theorem gu {cs:List Value} (h:aF cs):NN (.agg ⟨cs⟩):=NN.agg h
theorem Io {cs:List Value} (h:aF cs):NN (.tuple ⟨cs⟩):=NN.tuple h
theorem Ip {m:Nat} {cs:List Value} (h:aF cs):NN (.func (.func m) #[] ⟨cs⟩):=NN.func h
theorem Iq {as bs:List Value} (h:aF as) (k:aF bs):aF (as++bs):=aF.append h k
theorem Ir {n:Nat} {v:Value} (h:NN v):aF (List.replicate n v):=aF.replicate h
theorem uJ {p:List Nat}:aF (p.map N8):=aF.map fun _=>NN.int
theorem Iu {p:List Int}:aF (p.map I):=aF.map fun _=>NN.int
theorem Iw {p:List Bool}:aF (p.map B):=aF.map fun _=>NN.bool
theorem Iy {p:List (List Int)}:aF (p.map FI):=aF.map fun _=>NN.fz
theorem Iz {k:IntKind} {α:Type} {g:α→Int} {p:List α}:aF (p.map fun x=>Value.int k (g x)):=aF.map fun _=>NN.int
theorem IB {α:Type} {g:α→ByteArray} {p:List α}:aF (p.map fun x=>Value.string (g x)):=aF.map fun _=>NN.string
theorem RF:(type_of% @upd_apply)∧(type_of% @ru)∧(type_of% @rC)∧(type_of% @rD)∧(type_of% @rE)∧(type_of% @qZ):=⟨@upd_apply, @ru, @rC, @rD, @rE, @qZ⟩
theorem RO:(type_of% @oC)∧(type_of% @oD)∧(type_of% @oG)∧(type_of% @oH)∧(type_of% @Eb)∧(type_of% @DW)∧(type_of% @xF)∧(type_of% @DX)∧(type_of% @DY)∧(type_of% @DZ)∧(type_of% @D5)∧(type_of% @D6)∧(type_of% @D7)∧(type_of% @D8)∧(type_of% @D9)∧(type_of% @Ea)∧(type_of% @Bool.true_and)∧(type_of% @Bool.and_true)∧(type_of% @Bool.not_false)∧(type_of% @Bool.and_self)∧(type_of% @oI)∧(type_of% @oJ)∧(type_of% @oK)∧(type_of% @oL)∧(type_of% @Dw)∧(type_of% @oN)∧(type_of% @oO)∧(type_of% @oQ)∧(type_of% @oU)∧(type_of% @Dx)∧(type_of% @o8)∧(type_of% @oV)∧(type_of% @DN)∧(type_of% @xk)∧(type_of% @oW)∧(type_of% @oZ)∧(type_of% @o7)∧(type_of% @o9)∧(type_of% @xw)∧(type_of% @pq)∧(type_of% @xH)∧(type_of% @xI)∧(type_of% @xJ)∧(type_of% @pF)∧(type_of% @pG)∧(type_of% @xK)∧(type_of% @xM)∧(type_of% @xP)∧(type_of% @EK)∧(type_of% @xQ)∧(type_of% @EO)∧(type_of% @pz)∧(type_of% @ET)∧(type_of% @EU)∧(type_of% @nZ)∧(type_of% @og)∧(type_of% @Df)∧(type_of% @rW)∧(type_of% @rX)∧(type_of% @rZ)∧(type_of% @su)∧(type_of% @oh)∧(type_of% @Dh)∧(type_of% @Di)∧(type_of% @Dj)∧(type_of% @Dk)∧(type_of% @Dl)∧(type_of% @Dn)∧(type_of% @oq)∧(type_of% @sD)∧(type_of% @sF)∧(type_of% @Dp)∧(type_of% @Dq)∧(type_of% @Dt)∧(type_of% @Du)∧(type_of% @Dv)∧(type_of% @sG)∧(type_of% @sH)∧(type_of% @sJ)∧(type_of% @sK)∧(type_of% @sN)∧(type_of% @sQ)∧(type_of% @sS)∧(type_of% @Dy)∧(type_of% @Dz)∧(type_of% @DF)∧(type_of% @DI)∧(type_of% @DK)∧(type_of% @sU)∧(type_of% @ext1)∧(type_of% @xC)∧(type_of% @xE)∧(type_of% @xB)∧(type_of% @DU)∧(type_of% @Et)∧(type_of% @Eu)∧(type_of% @Ew)∧(type_of% @Ey)∧(type_of% @Ez)∧(type_of% @EC)∧(type_of% @ED)∧(type_of% @EF)∧(type_of% @EH)∧(type_of% @EI)∧(type_of% @IC)∧(type_of% @EL)∧(type_of% @EN)∧(type_of% @tq)∧(type_of% @tu)∧(type_of% @tC)∧(type_of% @tH)∧(type_of% @tJ)∧(type_of% @tK)∧(type_of% @tN)∧(type_of% @tV)∧(type_of% @tX)∧(type_of% @tY)∧(type_of% @tZ)∧(type_of% @uf)∧(type_of% @ug)∧(type_of% @BK)∧(type_of% @BL)∧(type_of% @BM)∧(type_of% @BN)∧(type_of% @EW)∧(type_of% @EX)∧(type_of% @EY)∧(type_of% @EZ)∧(type_of% @E5)∧(type_of% @E8)∧(type_of% @E9)∧(type_of% @Fa)∧(type_of% @Fb)∧(type_of% @Fe)∧(type_of% @Fg)∧(type_of% @Fh)∧(type_of% @Fj)∧(type_of% @Fq)∧(type_of% @H6)∧(type_of% @FP)∧(type_of% @FQ)∧(type_of% @FT)∧(type_of% @FU)∧(type_of% @FV)∧(type_of% @FW)∧(type_of% @FX)∧(type_of% @FZ)∧(type_of% @Gx)∧(type_of% @F5)∧(type_of% @F6)∧(type_of% @F7)∧(type_of% @F8)∧(type_of% @F9)∧(type_of% @Gf)∧(type_of% @Gg)∧(type_of% @Gi)∧(type_of% @Gj)∧(type_of% @Gl)∧(type_of% @Gm)∧(type_of% @Gn)∧(type_of% @Gp)∧(type_of% @Gq)∧(type_of% @Gs)∧(type_of% @Gt)∧(type_of% @Gu)∧(type_of% @Gv)∧(type_of% @Gw)∧(type_of% @uH)∧(type_of% @Gz)∧(type_of% @GH)∧(type_of% @GI)∧(type_of% @uI)∧(type_of% @GK)∧(type_of% @GL)∧(type_of% @GN)∧(type_of% @GR)∧(type_of% @GU)∧(type_of% @GV)∧(type_of% @GX)∧(type_of% @pW)∧(type_of% @Gy)∧(type_of% @List.replicate_zero.{0})∧(type_of% @id_eq.{1}):=⟨@oC, @oD, @oG, @oH, @Eb, @DW, @xF, @DX, @DY, @DZ, @D5, @D6, @D7, @D8, @D9, @Ea, @Bool.true_and, @Bool.and_true, @Bool.not_false, @Bool.and_self, @oI, @oJ, @oK, @oL, @Dw, @oN, @oO, @oQ, @oU, @Dx, @o8, @oV, @DN, @xk, @oW, @oZ, @o7, @o9, @xw, @pq, @xH, @xI, @xJ, @pF, @pG, @xK, @xM, @xP, @EK, @xQ, @EO, @pz, @ET, @EU, @nZ, @og, @Df, @rW, @rX, @rZ, @su, @oh, @Dh, @Di, @Dj, @Dk, @Dl, @Dn, @oq, @sD, @sF, @Dp, @Dq, @Dt, @Du, @Dv, @sG, @sH, @sJ, @sK, @sN, @sQ, @sS, @Dy, @Dz, @DF, @DI, @DK, @sU, @ext1, @xC, @xE, @xB, @DU, @Et, @Eu, @Ew, @Ey, @Ez, @EC, @ED, @EF, @EH, @EI, @IC, @EL, @EN, @tq, @tu, @tC, @tH, @tJ, @tK, @tN, @tV, @tX, @tY, @tZ, @uf, @ug, @BK, @BL, @BM, @BN, @EW, @EX, @EY, @EZ, @E5, @E8, @E9, @Fa, @Fb, @Fe, @Fg, @Fh, @Fj, @Fq, @H6, @FP, @FQ, @FT, @FU, @FV, @FW, @FX, @FZ, @Gx, @F5, @F6, @F7, @F8, @F9, @Gf, @Gg, @Gi, @Gj, @Gl, @Gm, @Gn, @Gp, @Gq, @Gs, @Gt, @Gu, @Gv, @Gw, @uH, @Gz, @GH, @GI, @uI, @GK, @GL, @GN, @GR, @GU, @GV, @GX, @pW, @Gy, @List.replicate_zero.{0}, @id_eq.{1}⟩
theorem RC:(type_of% @List.map_cons.{0,0})∧(type_of% @List.map_nil.{0,0})∧(type_of% @Option.map_some.{0,0})∧(type_of% @Option.map_none.{0,0})∧(type_of% @ge_iff_le.{0})∧(type_of% @gt_iff_lt.{0})∧(type_of% @decide_eq_true_eq)∧(type_of% @beq_self_eq_true.{0})∧(type_of% @bne_self_eq_false.{0})∧(type_of% @decide_true)∧(type_of% @decide_false)∧(type_of% @Bool.not_true)∧(type_of% @Bool.not_false)∧(type_of% @and_true)∧(type_of% @true_and)∧(type_of% @and_self)∧(type_of% @Bool.false_eq_true)∧(type_of% @beq_iff_eq.{0})∧(type_of% @Int.natCast_nonneg)∧(type_of% @Int.ofNat_lt)∧(type_of% @Int.ofNat_le)∧(type_of% @Int.ofNat_inj)∧(type_of% @Int.toNat_natCast)∧(type_of% @Nat.mul_one)∧(type_of% @Nat.one_mul)∧(type_of% @Nat.zero_add)∧(type_of% @Nat.add_zero)∧(type_of% @Nat.sub_zero)∧(type_of% @List.length_append.{0})∧(type_of% @List.length_map.{0,0})∧(type_of% @List.length_cons.{0})∧(type_of% @List.length_nil.{0})∧(type_of% @List.length_set.{0})∧(type_of% @List.length_replicate.{0})∧(type_of% @List.all_cons.{0})∧(type_of% @List.all_nil.{0})∧(type_of% @Bool.and_true)∧(type_of% @Bool.true_and)∧(type_of% @Bool.not_eq_true)∧(type_of% @beq_true)∧(type_of% @beq_false)∧(type_of% @true_implies)∧(type_of% @false_implies)∧(type_of% @decide_eq_false_iff_not)∧(type_of% @bne_iff_ne.{0})∧(type_of% @ne_eq.{1})∧(type_of% @not_true_eq_false)∧(type_of% @not_false_eq_true)∧(type_of% @Int.natCast_zero)∧(type_of% @Int.toNat_zero)∧(type_of% @List.cons_append.{0})∧(type_of% @List.nil_append.{0})∧(type_of% @List.set_cons_zero.{0})∧(type_of% @List.set_cons_succ.{0}):=⟨@List.map_cons.{0,0}, @List.map_nil.{0,0}, @Option.map_some.{0,0}, @Option.map_none.{0,0}, @ge_iff_le.{0}, @gt_iff_lt.{0}, @decide_eq_true_eq, @beq_self_eq_true.{0}, @bne_self_eq_false.{0}, @decide_true, @decide_false, @Bool.not_true, @Bool.not_false, @and_true, @true_and, @and_self, @Bool.false_eq_true, @beq_iff_eq.{0}, @Int.natCast_nonneg, @Int.ofNat_lt, @Int.ofNat_le, @Int.ofNat_inj, @Int.toNat_natCast, @Nat.mul_one, @Nat.one_mul, @Nat.zero_add, @Nat.add_zero, @Nat.sub_zero, @List.length_append.{0}, @List.length_map.{0,0}, @List.length_cons.{0}, @List.length_nil.{0}, @List.length_set.{0}, @List.length_replicate.{0}, @List.all_cons.{0}, @List.all_nil.{0}, @Bool.and_true, @Bool.true_and, @Bool.not_eq_true, @beq_true, @beq_false, @true_implies, @false_implies, @decide_eq_false_iff_not, @bne_iff_ne.{0}, @ne_eq.{1}, @not_true_eq_false, @not_false_eq_true, @Int.natCast_zero, @Int.toNat_zero, @List.cons_append.{0}, @List.nil_append.{0}, @List.set_cons_zero.{0}, @List.set_cons_succ.{0}⟩
theorem RD:(type_of% @rH)∧(type_of% @rJ)∧(type_of% @rF)∧(type_of% @w8)∧(type_of% @rM)∧(type_of% @rO)∧(type_of% @rP)∧(type_of% @rQ)∧(type_of% @rU)∧(type_of% @rV)∧(type_of% @xq)∧(type_of% @xu)∧(type_of% @DR)∧(type_of% @DT)∧(type_of% @FC)∧(type_of% @uF)∧(type_of% @xY)∧(type_of% @FD)∧(type_of% @Hf)∧(type_of% @Hg)∧(type_of% @Hl)∧(type_of% @FY)∧(type_of% @EG)∧(type_of% @H7)∧(type_of% @H8)∧(type_of% @H9)∧(type_of% @Hw)∧(type_of% @Hy)∧(type_of% @Hz)∧(type_of% @HY)∧(type_of% @uG)∧(type_of% @Ht)∧(type_of% @Hu)∧(type_of% @Ho)∧(type_of% @Hq)∧(type_of% @Hr)∧(type_of% @GY)∧(type_of% @GZ)∧(type_of% @G5)∧(type_of% @G6)∧(type_of% @G7)∧(type_of% @G8)∧(type_of% @G9)∧(type_of% @He)∧(type_of% @xU)∧(type_of% @xW)∧(type_of% @EP):=⟨@rH, @rJ, @rF, @w8, @rM, @rO, @rP, @rQ, @rU, @rV, @xq, @xu, @DR, @DT, @FC, @uF, @xY, @FD, @Hf, @Hg, @Hl, @FY, @EG, @H7, @H8, @H9, @Hw, @Hy, @Hz, @HY, @uG, @Ht, @Hu, @Ho, @Hq, @Hr, @GY, @GZ, @G5, @G6, @G7, @G8, @G9, @He, @xU, @xW, @EP⟩
theorem RK:(type_of% @Ee)∧(type_of% @Ed)∧(type_of% @Ef)∧(type_of% @Eh)∧(type_of% @Ei)∧(type_of% @Ej)∧(type_of% @Em)∧(type_of% @Es)∧(type_of% @En)∧(type_of% @xG)∧(type_of% @Eo)∧(type_of% @Ep):=⟨@Ee, @Ed, @Ef, @Eh, @Ei, @Ej, @Em, @Es, @En, @xG, @Eo, @Ep⟩
theorem RZ:(type_of% @mY)∧(type_of% @IE)∧(type_of% @IG)∧(type_of% @II)∧(type_of% @IJ)∧(type_of% @yx)∧(type_of% @IK)∧(type_of% @List.map_cons.{0,0})∧(type_of% @List.map_nil.{0,0})∧(type_of% @List.set_cons_zero.{0})∧(type_of% @List.set_cons_succ.{0}):=⟨@mY, @IE, @IG, @II, @IJ, @yx, @IK, @List.map_cons.{0,0}, @List.map_nil.{0,0}, @List.set_cons_zero.{0}, @List.set_cons_succ.{0}⟩
theorem RN:(type_of% @aB)∧(type_of% @nV)∧(type_of% @nX)∧(type_of% @nY)∧(type_of% @if_true.{1})∧(type_of% @if_false.{1})∧(type_of% @Bool.false_eq_true):=⟨@aB, @nV, @nX, @nY, @if_true.{1}, @if_false.{1}, @Bool.false_eq_true⟩
theorem RA:(type_of% @RF)∧(type_of% @RO)∧(type_of% @RC):=⟨@RF, @RO, @RC⟩
theorem RB:(type_of% @decide_eq_true_eq)∧(type_of% @Bool.or_eq_true)∧(type_of% @Bool.and_eq_true)∧(type_of% @Bool.not_eq_true')∧(type_of% @decide_eq_false_iff_not)∧(type_of% @Bool.not_eq_eq_eq_not)∧(type_of% @Bool.not_true)∧(type_of% @Bool.not_false)∧(type_of% @beq_iff_eq.{0})∧(type_of% @Bool.false_eq_true):=⟨@decide_eq_true_eq, @Bool.or_eq_true, @Bool.and_eq_true, @Bool.not_eq_true', @decide_eq_false_iff_not, @Bool.not_eq_eq_eq_not, @Bool.not_true, @Bool.not_false, @beq_iff_eq.{0}, @Bool.false_eq_true⟩
theorem RE:(type_of% @Ia)∧(type_of% @Ib)∧(type_of% @Ic):=⟨@Ia, @Ib, @Ic⟩
theorem RH:(type_of% @Ih)∧(type_of% @Ii)∧(type_of% @Ij)∧(type_of% @Ik)∧(type_of% @Il)∧(type_of% @gu)∧(type_of% @Io)∧(type_of% @Ip)∧(type_of% @Iq)∧(type_of% @Ir)∧(type_of% @uJ)∧(type_of% @Iu)∧(type_of% @Iw)∧(type_of% @Iy)∧(type_of% @Iz)∧(type_of% @IB)∧(type_of% @NN.int)∧(type_of% @NN.bool)∧(type_of% @NN.string)∧(type_of% @NN.nil)∧(type_of% @NN.undef)∧(type_of% @NN.fz)∧(type_of% @and_true)∧(type_of% @true_and)∧(type_of% @and_self):=⟨@Ih, @Ii, @Ij, @Ik, @Il, @gu, @Io, @Ip, @Iq, @Ir, @uJ, @Iu, @Iw, @Iy, @Iz, @IB, @NN.int, @NN.bool, @NN.string, @NN.nil, @NN.undef, @NN.fz, @and_true, @true_and, @and_self⟩
theorem eY {k:Nat} {Q:Ex→Fr→BH→Prop} {f:Fr} {H:BH} {d:Option Nat} {l:List AOper} {b:ACode} {f1:Fr} {H1:BH} {p:Prop} (hp:p) (h: ∀K:Fr→BH→Prop,K f1 H1→opsT d l K f H:=by intro _ h;simp (disch:=omega) only [RA,↓reduceIte,Nat.reduceEqDiff,Nat.reduceBEq,Nat.reduceSub,Nat.reduceAdd,Nat.reduceMul,Nat.reduceLT,Nat.reduceLeDiff,Int.reduceLE,Int.reduceLT,Int.reduceEq,Int.reduceNeg,Int.reduceToNat,Int.reduceMul,Int.reduceAdd,Int.reduceSub,Int.reduceBEq,Int.reduceBNe,reduceCtorEq,RD];exact h) (e:p→T k b Q f1 H1:=by intro h;(try simp only [RN,reduceIte]);first|exact ah rfl h|exact h):T k (.seq (.region d l) b) Q f H:=au fun _ hK=>h _ (hK _ _ (e hp))
theorem dK {k:Nat} {Q:Ex→Fr→BH→Prop} {f:Fr} {H:BH} {d:Option Nat} {l:List AOper} {b:ACode} {f1:Fr} {H1:BH} {p:Prop} {A:Prop} (a:A) (hp:p) (h:A→ ∀K:Fr→BH→Prop,K f1 H1→opsT d l K f H:=by intro q;intro _ h;simp (disch:=omega) only [RA,↓reduceIte,Nat.reduceEqDiff,Nat.reduceBEq,Nat.reduceSub,Nat.reduceAdd,Nat.reduceMul,Nat.reduceLT,Nat.reduceLeDiff,Int.reduceLE,Int.reduceLT,Int.reduceEq,Int.reduceNeg,Int.reduceToNat,Int.reduceMul,Int.reduceAdd,Int.reduceSub,Int.reduceBEq,Int.reduceBNe,reduceCtorEq,RD,q];exact h) (e:p→T k b Q f1 H1:=by intro h;(try simp only [RN,reduceIte]);first|exact ah rfl h|exact h):T k (.seq (.region d l) b) Q f H:=au fun _ hK=>(h a) _ (hK _ _ (e hp))
theorem Qz {k:Nat} {Q:Ex→Fr→BH→Prop} {f:Fr} {H:BH} {d:Option Nat} {l:List AOper} {b:ACode} {G:(Fr→BH→Prop)→Prop} (g: ∀K:Fr→BH→Prop,(∀f1 H1,T k b Q f1 H1→K f1 H1)→G K) (h: ∀K:Fr→BH→Prop,G K→opsT d l K f H:=by intro _ h;simp (disch:=omega) only [RA,↓reduceIte,Nat.reduceEqDiff,Nat.reduceBEq,Nat.reduceSub,Nat.reduceAdd,Nat.reduceMul,Nat.reduceLT,Nat.reduceLeDiff,Int.reduceLE,Int.reduceLT,Int.reduceEq,Int.reduceNeg,Int.reduceToNat,Int.reduceMul,Int.reduceAdd,Int.reduceSub,Int.reduceBEq,Int.reduceBNe,reduceCtorEq,RD];exact h):T k (.seq (.region d l) b) Q f H:=au fun K hK=>h K (g K hK)
theorem QA {k:Nat} {Q:Ex→Fr→BH→Prop} {f:Fr} {H:BH} {d:Option Nat} {l:List AOper} {b:ACode} {G:(Fr→BH→Prop)→Prop} {A:Prop} (a:A) (g: ∀K:Fr→BH→Prop,(∀f1 H1,T k b Q f1 H1→K f1 H1)→G K) (h:A→ ∀K:Fr→BH→Prop,G K→opsT d l K f H:=by intro q;intro _ h;simp (disch:=omega) only [RA,↓reduceIte,Nat.reduceEqDiff,Nat.reduceBEq,Nat.reduceSub,Nat.reduceAdd,Nat.reduceMul,Nat.reduceLT,Nat.reduceLeDiff,Int.reduceLE,Int.reduceLT,Int.reduceEq,Int.reduceNeg,Int.reduceToNat,Int.reduceMul,Int.reduceAdd,Int.reduceSub,Int.reduceBEq,Int.reduceBNe,reduceCtorEq,RD,q];exact h):T k (.seq (.region d l) b) Q f H:=au fun K hK=>(h a) K (g K hK)
theorem VP {k:Nat} {Q:Ex→Fr→BH→Prop} {f:Fr} {H:BH} {d:Option Nat} {l:List AOper} {f1:Fr} {H1:BH} (hp:Q .normal f1 H1) (h: ∀K:Fr→BH→Prop,K f1 H1→opsT d l K f H:=by intro _ h;simp (disch:=omega) only [RA,↓reduceIte,Nat.reduceEqDiff,Nat.reduceBEq,Nat.reduceSub,Nat.reduceAdd,Nat.reduceMul,Nat.reduceLT,Nat.reduceLeDiff,Int.reduceLE,Int.reduceLT,Int.reduceEq,Int.reduceNeg,Int.reduceToNat,Int.reduceMul,Int.reduceAdd,Int.reduceSub,Int.reduceBEq,Int.reduceBNe,reduceCtorEq,RD];exact h):T k (.region d l) Q f H:=bI fun _ hK=>h _ (hK _ _ hp)
theorem mZ {k:Nat} {Q:Ex→Fr→BH→Prop} {f:Fr} {H:BH} {d:Option Nat} {l:List AOper} {f1:Fr} {H1:BH} {A:Prop} (a:A) (hp:Q .normal f1 H1) (h:A→ ∀K:Fr→BH→Prop,K f1 H1→opsT d l K f H:=by intro q;intro _ h;simp (disch:=omega) only [RA,↓reduceIte,Nat.reduceEqDiff,Nat.reduceBEq,Nat.reduceSub,Nat.reduceAdd,Nat.reduceMul,Nat.reduceLT,Nat.reduceLeDiff,Int.reduceLE,Int.reduceLT,Int.reduceEq,Int.reduceNeg,Int.reduceToNat,Int.reduceMul,Int.reduceAdd,Int.reduceSub,Int.reduceBEq,Int.reduceBNe,reduceCtorEq,RD,q];exact h):T k (.region d l) Q f H:=bI fun _ hK=>(h a) _ (hK _ _ hp)
theorem uK {p q:Prop} (hp:p) (e:(p→q):=by intro h;simp (disch:=omega) only [RA,↓reduceIte,Nat.reduceEqDiff,Nat.reduceBEq,Nat.reduceSub,Nat.reduceAdd,Nat.reduceMul,Nat.reduceLT,Nat.reduceLeDiff,Int.reduceLE,Int.reduceLT,Int.reduceEq,Int.reduceNeg,Int.reduceToNat,Int.reduceMul,Int.reduceAdd,Int.reduceSub,Int.reduceBEq,Int.reduceBNe,reduceCtorEq,RD];exact h):q:=e hp
theorem IL {p q:Prop} {A:Prop} (a:A) (hp:p) (e:A→(p→q):=by intro q;intro h;simp (disch:=omega) only [RA,↓reduceIte,Nat.reduceEqDiff,Nat.reduceBEq,Nat.reduceSub,Nat.reduceAdd,Nat.reduceMul,Nat.reduceLT,Nat.reduceLeDiff,Int.reduceLE,Int.reduceLT,Int.reduceEq,Int.reduceNeg,Int.reduceToNat,Int.reduceMul,Int.reduceAdd,Int.reduceSub,Int.reduceBEq,Int.reduceBNe,reduceCtorEq,RD,q];exact h):q:=(e a) hp
theorem QB {k:Nat} {Q:Ex→Fr→BH→Prop} {f:Fr} {H:BH} {c:Opd} {a1 b1 r:ACode} {p:Prop} (hp:p) (h:ev f c= .bool true:=by simp (disch:=omega) only [RA,↓reduceIte,Nat.reduceEqDiff,Nat.reduceBEq,Nat.reduceSub,Nat.reduceAdd,Nat.reduceMul,Nat.reduceLT,Nat.reduceLeDiff,Int.reduceLE,Int.reduceLT,Int.reduceEq,Int.reduceNeg,Int.reduceToNat,Int.reduceMul,Int.reduceAdd,Int.reduceSub,Int.reduceBEq,Int.reduceBNe,reduceCtorEq,RD]) (e:p→T k (.seq a1 r) Q f H:=by intro h;(try simp only [RN,reduceIte]);first|exact ah rfl h|exact h):T k (.seq (.cond c a1 b1) r) Q f H:=aP (t:=true) h (e hp)
theorem VQ {k:Nat} {Q:Ex→Fr→BH→Prop} {f:Fr} {H:BH} {c:Opd} {a1 b1 r:ACode} {p:Prop} {A:Prop} (a:A) (hp:p) (h:A→ev f c= .bool true:=by intro q;simp (disch:=omega) only [RA,↓reduceIte,Nat.reduceEqDiff,Nat.reduceBEq,Nat.reduceSub,Nat.reduceAdd,Nat.reduceMul,Nat.reduceLT,Nat.reduceLeDiff,Int.reduceLE,Int.reduceLT,Int.reduceEq,Int.reduceNeg,Int.reduceToNat,Int.reduceMul,Int.reduceAdd,Int.reduceSub,Int.reduceBEq,Int.reduceBNe,reduceCtorEq,RD,q]) (e:p→T k (.seq a1 r) Q f H:=by intro h;(try simp only [RN,reduceIte]);first|exact ah rfl h|exact h):T k (.seq (.cond c a1 b1) r) Q f H:=aP (t:=true) (h a) (e hp)
theorem VT {k:Nat} {Q:Ex→Fr→BH→Prop} {f:Fr} {H:BH} {c:Opd} {a1 b1 r:ACode} {p:Prop} (hp:p) (h:ev f c= .bool false:=by simp (disch:=omega) only [RA,↓reduceIte,Nat.reduceEqDiff,Nat.reduceBEq,Nat.reduceSub,Nat.reduceAdd,Nat.reduceMul,Nat.reduceLT,Nat.reduceLeDiff,Int.reduceLE,Int.reduceLT,Int.reduceEq,Int.reduceNeg,Int.reduceToNat,Int.reduceMul,Int.reduceAdd,Int.reduceSub,Int.reduceBEq,Int.reduceBNe,reduceCtorEq,RD]) (e:p→T k (.seq b1 r) Q f H:=by intro h;(try simp only [RN,reduceIte]);first|exact ah rfl h|exact h):T k (.seq (.cond c a1 b1) r) Q f H:=aP (t:=false) h (e hp)
theorem VU {k:Nat} {Q:Ex→Fr→BH→Prop} {f:Fr} {H:BH} {c:Opd} {a1 b1 r:ACode} {p:Prop} {A:Prop} (a:A) (hp:p) (h:A→ev f c= .bool false:=by intro q;simp (disch:=omega) only [RA,↓reduceIte,Nat.reduceEqDiff,Nat.reduceBEq,Nat.reduceSub,Nat.reduceAdd,Nat.reduceMul,Nat.reduceLT,Nat.reduceLeDiff,Int.reduceLE,Int.reduceLT,Int.reduceEq,Int.reduceNeg,Int.reduceToNat,Int.reduceMul,Int.reduceAdd,Int.reduceSub,Int.reduceBEq,Int.reduceBNe,reduceCtorEq,RD,q]) (e:p→T k (.seq b1 r) Q f H:=by intro h;(try simp only [RN,reduceIte]);first|exact ah rfl h|exact h):T k (.seq (.cond c a1 b1) r) Q f H:=aP (t:=false) (h a) (e hp)
theorem iL {k:Nat} {Q:Ex→Fr→BH→Prop} {f:Fr} {H:BH} {c:Opd} {a1 b1 r:ACode} {t:Bool} {p1 p2:Prop} (p:Prop) (h1:p→p1) (h2: ¬p→p2) (h:ev f c= .bool t:=by simp only [RA,↓reduceIte,Nat.reduceEqDiff,Nat.reduceBEq,Nat.reduceSub,Nat.reduceAdd,Nat.reduceMul,Nat.reduceLT,Nat.reduceLeDiff,Int.reduceLE,Int.reduceLT,Int.reduceEq,Int.reduceNeg,Int.reduceToNat,Int.reduceMul,Int.reduceAdd,Int.reduceSub,Int.reduceBEq,Int.reduceBNe,reduceCtorEq]<;>rfl) (hp:t=true↔p:=by (try simp only [RB])<;>first|done|exact Iff.rfl|omega|simp) (e1:p→p1→T k (.seq a1 r) Q f H:=by intro hc h;(try simp only [RN,reduceIte]);first|exact ah rfl h|exact h) (e2: ¬p→p2→T k (.seq b1 r) Q f H:=by intro hc h;(try simp only [RN,reduceIte]);first|exact ah rfl h|exact h):T k (.seq (.cond c a1 b1) r) Q f H:=bF h hp (fun h=>e1 h (h1 h)) fun h=>e2 h (h2 h)
theorem VW {k:Nat} {Q:Ex→Fr→BH→Prop} {f:Fr} {H:BH} {c:Opd} {a1 b1 r:ACode} {t:Bool} {p1 p2:Prop} {A:Prop} (a:A) (p:Prop) (h1:p→p1) (h2: ¬p→p2) (h:A→ev f c= .bool t:=by intro q;simp only [RA,↓reduceIte,Nat.reduceEqDiff,Nat.reduceBEq,Nat.reduceSub,Nat.reduceAdd,Nat.reduceMul,Nat.reduceLT,Nat.reduceLeDiff,Int.reduceLE,Int.reduceLT,Int.reduceEq,Int.reduceNeg,Int.reduceToNat,Int.reduceMul,Int.reduceAdd,Int.reduceSub,Int.reduceBEq,Int.reduceBNe,reduceCtorEq,q]<;>rfl) (hp:t=true↔p:=by (try simp only [RB])<;>first|done|exact Iff.rfl|omega|simp) (e1:p→p1→T k (.seq a1 r) Q f H:=by intro hc h;(try simp only [RN,reduceIte]);first|exact ah rfl h|exact h) (e2: ¬p→p2→T k (.seq b1 r) Q f H:=by intro hc h;(try simp only [RN,reduceIte]);first|exact ah rfl h|exact h):T k (.seq (.cond c a1 b1) r) Q f H:=bF (h a) hp (fun h=>e1 h (h1 h)) fun h=>e2 h (h2 h)
theorem VX {k:Nat} {Q:Ex→Fr→BH→Prop} {f:Fr} {H:BH} {c:Opd} {a1 b1:ACode} {t:Bool} {p1 p2:Prop} (p:Prop) (h1:p→p1) (h2: ¬p→p2) (h:ev f c= .bool t:=by simp only [RA,↓reduceIte,Nat.reduceEqDiff,Nat.reduceBEq,Nat.reduceSub,Nat.reduceAdd,Nat.reduceMul,Nat.reduceLT,Nat.reduceLeDiff,Int.reduceLE,Int.reduceLT,Int.reduceEq,Int.reduceNeg,Int.reduceToNat,Int.reduceMul,Int.reduceAdd,Int.reduceSub,Int.reduceBEq,Int.reduceBNe,reduceCtorEq]<;>rfl) (hp:t=true↔p:=by (try simp only [RB])<;>first|done|exact Iff.rfl|omega|simp) (e1:p→p1→T k (a1) Q f H:=by intro hc h;(try simp only [RN,reduceIte]);first|exact ah rfl h|exact h) (e2: ¬p→p2→T k (b1) Q f H:=by intro hc h;(try simp only [RN,reduceIte]);first|exact ah rfl h|exact h):T k (.cond c a1 b1) Q f H:=Ie h hp (fun h=>e1 h (h1 h)) fun h=>e2 h (h2 h)
theorem VY {k:Nat} {Q:Ex→Fr→BH→Prop} {f:Fr} {H:BH} {c:Opd} {a1 b1:ACode} {t:Bool} {p1 p2:Prop} {A:Prop} (a:A) (p:Prop) (h1:p→p1) (h2: ¬p→p2) (h:A→ev f c= .bool t:=by intro q;simp only [RA,↓reduceIte,Nat.reduceEqDiff,Nat.reduceBEq,Nat.reduceSub,Nat.reduceAdd,Nat.reduceMul,Nat.reduceLT,Nat.reduceLeDiff,Int.reduceLE,Int.reduceLT,Int.reduceEq,Int.reduceNeg,Int.reduceToNat,Int.reduceMul,Int.reduceAdd,Int.reduceSub,Int.reduceBEq,Int.reduceBNe,reduceCtorEq,q]<;>rfl) (hp:t=true↔p:=by (try simp only [RB])<;>first|done|exact Iff.rfl|omega|simp) (e1:p→p1→T k (a1) Q f H:=by intro hc h;(try simp only [RN,reduceIte]);first|exact ah rfl h|exact h) (e2: ¬p→p2→T k (b1) Q f H:=by intro hc h;(try simp only [RN,reduceIte]);first|exact ah rfl h|exact h):T k (.cond c a1 b1) Q f H:=Ie (h a) hp (fun h=>e1 h (h1 h)) fun h=>e2 h (h2 h)
theorem jd {k:Nat} {f:Fr} {H:BH} {rs:List ARes} {K:Value→BH→Prop} {vs:List Value} {p:Prop} (hp:p) (h:resAll f H rs=some vs:=by simp (disch:=omega) only [RA,↓reduceIte,Nat.reduceEqDiff,Nat.reduceBEq,Nat.reduceSub,Nat.reduceAdd,Nat.reduceMul,Nat.reduceLT,Nat.reduceLeDiff,Int.reduceLE,Int.reduceLT,Int.reduceEq,Int.reduceNeg,Int.reduceToNat,Int.reduceMul,Int.reduceAdd,Int.reduceSub,Int.reduceBEq,Int.reduceBNe,reduceCtorEq,RD,resAll,resOf];rfl) (e:p→K (tup vs) H:=by intro h;simp only [tup];exact h):jc k rs K .ret f H:=aS h .refl (e hp)
theorem yA {k:Nat} {f:Fr} {H:BH} {rs:List ARes} {K:Value→BH→Prop} {vs:List Value} {p:Prop} {A:Prop} (a:A) (hp:p) (h:A→resAll f H rs=some vs:=by intro q;simp (disch:=omega) only [RA,↓reduceIte,Nat.reduceEqDiff,Nat.reduceBEq,Nat.reduceSub,Nat.reduceAdd,Nat.reduceMul,Nat.reduceLT,Nat.reduceLeDiff,Int.reduceLE,Int.reduceLT,Int.reduceEq,Int.reduceNeg,Int.reduceToNat,Int.reduceMul,Int.reduceAdd,Int.reduceSub,Int.reduceBEq,Int.reduceBNe,reduceCtorEq,RD,resAll,resOf,q];rfl) (e:p→K (tup vs) H:=by intro h;simp only [tup];exact h):jc k rs K .ret f H:=aS (h a) .refl (e hp)
theorem V3 {k:Nat} {f:Fr} {H:BH} {rs:List ARes} {K:Value→BH→Prop} {vs:List Value} (h:resAll f H rs=some vs:=by simp (disch:=omega) only [RA,↓reduceIte,Nat.reduceEqDiff,Nat.reduceBEq,Nat.reduceSub,Nat.reduceAdd,Nat.reduceMul,Nat.reduceLT,Nat.reduceLeDiff,Int.reduceLE,Int.reduceLT,Int.reduceEq,Int.reduceNeg,Int.reduceToNat,Int.reduceMul,Int.reduceAdd,Int.reduceSub,Int.reduceBEq,Int.reduceBNe,reduceCtorEq,RD,resAll,resOf];rfl) (e:K (tup vs) H:=by simp only [tup]):jc k rs K .ret f H:=aS h .refl e
theorem V4 {k:Nat} {f:Fr} {H:BH} {rs:List ARes} {K:Value→BH→Prop} {vs:List Value} {A:Prop} (a:A) (h:A→resAll f H rs=some vs:=by intro q;simp (disch:=omega) only [RA,↓reduceIte,Nat.reduceEqDiff,Nat.reduceBEq,Nat.reduceSub,Nat.reduceAdd,Nat.reduceMul,Nat.reduceLT,Nat.reduceLeDiff,Int.reduceLE,Int.reduceLT,Int.reduceEq,Int.reduceNeg,Int.reduceToNat,Int.reduceMul,Int.reduceAdd,Int.reduceSub,Int.reduceBEq,Int.reduceBNe,reduceCtorEq,RD,resAll,resOf,q];rfl) (e:K (tup vs) H:=by simp only [tup]):jc k rs K .ret f H:=aS (h a) .refl e
theorem uM {K P:Fr→BH→Prop} {p:Prop} {f:Fr} {H:BH} (hK: ∀f1 H1,P f1 H1→K f1 H1) (hp:p) (e:p→P f H:=by intro h;(try simp only [aK,aO,aN]);(try simp only [RN,reduceIte]);first|exact ah rfl h|exact h):K f H:=hK _ _ (e hp)
theorem lG {k:Nat} {Q:Ex→Fr→BH→Prop} {f:Fr} {H:BH} {c:ACode} {p:Prop} (hp:p) (e:p→T k c Q f H:=by intro h;(first|refine bY rfl ?_|refine bZ rfl ?_);(try simp only [RN,reduceIte]);first|exact ah rfl h|exact h):T k c Q f H:=e hp
theorem yB {p q:Prop} (hp:p) (e:p→q:=by intro h;(try simp only [RN,reduceIte]);first|exact ah rfl h|exact h):q:=e hp
theorem V5 {k:Nat} {Q:Ex→Fr→BH→Prop} {f:Fr} {H:BH} {i:Nat} {a b:ACode} {p:Prop} (hp:p) (e:p→T k a (aK i (aO k b Q)) f H:=by intro h;(try simp only [RN,reduceIte]);first|exact ah rfl h|exact h):T k (.seq (.block i a) b) Q f H:=jU (rG (e hp))
theorem V6 {p q:Prop} (hp:p) (e:p→q:=by intro h;simp only [aK,aO,aN,if_true];exact h):q:=e hp
theorem aj {p:Prop} (h:p:=by simp (disch:=omega) only [RA,↓reduceIte,Nat.reduceEqDiff,Nat.reduceBEq,Nat.reduceSub,Nat.reduceAdd,Nat.reduceMul,Nat.reduceLT,Nat.reduceLeDiff,Int.reduceLE,Int.reduceLT,Int.reduceEq,Int.reduceNeg,Int.reduceToNat,Int.reduceMul,Int.reduceAdd,Int.reduceSub,Int.reduceBEq,Int.reduceBNe,reduceCtorEq,RD,RE, *]<;>rfl):p:=h
theorem lH {p:Prop} (h:p:=by simp (disch:=omega) only [RA,↓reduceIte,Nat.reduceEqDiff,Nat.reduceBEq,Nat.reduceSub,Nat.reduceAdd,Nat.reduceMul,Nat.reduceLT,Nat.reduceLeDiff,Int.reduceLE,Int.reduceLT,Int.reduceEq,Int.reduceNeg,Int.reduceToNat,Int.reduceMul,Int.reduceAdd,Int.reduceSub,Int.reduceBEq,Int.reduceBNe,reduceCtorEq,RD,RE,RZ,uN,je, *]<;>rfl):p:=h
theorem uO {p:Prop} (h:p:=by simp only [RH]):p:=h
theorem iM {A0 A1:Prop} (a0:A0) (a1:A1):A0∧A1:=⟨a0,a1⟩
theorem uP {A0 A1 A2:Prop} (a0:A0) (a1:A1) (a2:A2):A0∧A1∧A2:=⟨a0,a1,a2⟩
theorem yC {A0 A1 A2 A3:Prop} (a0:A0) (a1:A1) (a2:A2) (a3:A3):A0∧A1∧A2∧A3:=⟨a0,a1,a2,a3⟩
theorem uQ {A0 A1 A2 A3 A4:Prop} (a0:A0) (a1:A1) (a2:A2) (a3:A3) (a4:A4):A0∧A1∧A2∧A3∧A4:=⟨a0,a1,a2,a3,a4⟩
theorem yD {A0 A1 A2 A3 A4 A5:Prop} (a0:A0) (a1:A1) (a2:A2) (a3:A3) (a4:A4) (a5:A5):A0∧A1∧A2∧A3∧A4∧A5:=⟨a0,a1,a2,a3,a4,a5⟩
end Go.Bm
