/- Rules by which a run of the second machine is gone through, operation by operation. -/
import Derived.Test.YtkapkmjofpoebaaGreatBmT
import Derived.Test.YtkapkmjofpoebaaGreatAmS2
set_option linter.unusedVariables false
set_option linter.unusedSimpArgs false
namespace Go.Bm
open Go Go.Am
abbrev N8 (n:Nat):Value:= .int .u8 (n:Int)
abbrev PL (p:List Nat):Value:=eY (p.map N8)
abbrev FI (xs:List Int):Value:=Fz xs.length 1 (xs.map I)
abbrev FB (xs:List Nat):Value:=Fz xs.length 1 (xs.map N8)
abbrev FII (xss:List (List Int)):Value:=Fz xss.length 1 (xss.map FI)
def nl (p:List Nat) (i:Nat):Nat:=p.getD i 0
section
def jJ (o:Option (Value×BH)) (k:Value→BH→Prop):Prop:=
 match o with
 |some (v,H)=>k v H
 |none=>False
theorem ad3 {v:Value} {H:BH} {k:Value→BH→Prop}:jJ (some (v,H)) k=k v H:=rfl
def eH (d t:Option Nat) (r:List cO) (K:Fr→BH→Prop) (f:Fr) (H:BH):Value→Prop:=fun v=>opsT (dn d) r K (dR f t v) H
def lJ (d t:Option Nat) (r:List cO) (K:Fr→BH→Prop) (f:Fr):Value→BH→Prop:=fun v H=>opsT (dn d) r K (dR f t v) H
variable {d:Option Nat} {t:Option Nat} {r:List cO} {K:Fr→BH→Prop} {f:Fr} {H:BH}
theorem Ed {v:Value}:dV (some v) (eH d t r K f H)=opsT (dn d) r K (dR f t v) H:=rfl
theorem Ee {v:Value}:jJ (some (v,H)) (lJ d t r K f)=opsT (dn d) r K (dR f t v) H:=rfl
theorem V3 {v:Value}:lJ d t r K f v H=opsT (dn d) r K (dR f t v) H:=rfl
theorem jZ {n:Nat}:ev f (.t n)=f n:=rfl
theorem V4 {k:IntKind} {n:Int}:ev f (.c (.int k n))= .int k n:=rfl
theorem V5 {b:Bool}:ev f (.c (.bool b))= .bool b:=rfl
theorem V6 {b:ByteArray}:ev f (.c (.string b))= .string b:=rfl
theorem V7:ev f (.c (.slice none 0 0))= .slice none 0 0:=rfl
theorem V8:ev f (.c .nilFunc)= .nilFunc:=rfl
theorem V9:ev f (.c (.pointer none))= .pointer none:=rfl
theorem Ef {n:Nat}:ev f (.f n)= .func (.func n) #[] #[]:=rfl
theorem Em:opsT d [] K f H=K f H:=rfl
def gV (b:Bool):Value→Option Bool
 | .bool x=>some (x==b)
 | .tuple ⟨[]⟩=>some false
 | _=>none
def Og (o:Option Bool) (p q:Prop):Prop:=
 match o with
 |some true=>p
 |some false=>q
 |none=>False
theorem Wh {x:Bool}:gV true (.bool x)=some x:=by cases x<;>rfl
theorem Wi {x:Bool}:gV false (.bool x)=some (!x):=by cases x<;>rfl
theorem Wj {b:Bool}:gV b undef=some false:=rfl
theorem Wn {p q:Prop}:Og (some true) p q=p:=rfl
theorem Wp {p q:Prop}:Og (some false) p q=q:=rfl
theorem En {o:kJ} {g:Nat} {b:Bool}:opsT d (⟨t,o,some (g,b)⟩::r) K f H=Og (gV b (f g)) (opsT d (⟨t,o,none⟩::r) K f H) (opsT (dn d) r K (dR f t undef) H):=by
 have e:yT (some (g,b)) f=gV b (f g):=rfl
 rw [opsT]
 simp only [e]
 generalize gV b (f g)=q
 match q with
 |some true=>
  show _=opsT d (⟨t,o,none⟩::r) K f H
  conv=>rhs;rw [opsT]
  rfl
 |some false=>rfl
 |none=>rfl
theorem Eo {g:Nat} {as:List aN}:opsT d (⟨t, .call g as,none⟩::r) K f H=aJ (kQ d) g (as.map (ev f)) H (lJ d t r K f):=by rw [opsT];rfl
theorem akZ {g:aN} {as:List aN} {cap:Nat} {caps:Array Value} (hg:ev f g= .func (.func cap) #[] caps):opsT d (⟨t, .kV g as,none⟩::r) K f H=aJ (kQ d) cap (as.map (ev f)++caps.toList) H (lJ d t r K f):=by
 rw [opsT]
 simp only [yT,hg,true_and]
 rfl
theorem oO {o:kJ} (h2:yU o=false) (h3: ∀g as,o≠ .call g as) (h4:(∀g as,o≠ .kV g as)∧ ∀g as fl,o≠ .lV g as fl):opsT d (⟨t,o,none⟩::r) K f H=jJ (bW o (ev f) H) (lJ d t r K f):=by
 rw [opsT]
 simp only [yT]
 cases o<;>first|exact absurd rfl (h3 _ _)|exact absurd rfl (h4.1 _ _)|exact absurd rfl (h4.2 _ _ _)|(simp only [h2,Bool.false_eq_true,false_implies,true_and];rfl)
theorem JC {o:kJ} (h2:yU o=true):opsT d (⟨t,o,none⟩::r) K f H=(kQ d=false∧jJ (bW o (ev f) H) (lJ d t r K f)):=by
 rw [opsT]
 simp only [yT]
 cases o<;>first|(simp [yU] at h2;done)|skip
 all_goals
  simp only [yU,true_implies]
  generalize bW _ (ev f) H=q
  match q with
  |some (v,H')=>rfl
  |none=>simp [jJ]
theorem fE {o:kJ} {w:Option Value} (h2:yU o=false) (h3: ∀g as,o≠ .call g as) (h4:(∀g as,o≠ .kV g as)∧ ∀g as fl,o≠ .lV g as fl) (h:bW o (ev f) H=w.map fun v=>(v,H)):opsT d (⟨t,o,none⟩::r) K f H=dV w (eH d t r K f H):=by
 rw [oO h2 h3 h4,h]
 cases w<;>rfl
theorem Et {x:aN}:opsT d (⟨t, .move x,none⟩::r) K f H=opsT (dn d) r K (dR f t (ev f x)) H:=by
 rw [oO rfl (by simp) (by simp)];rfl
theorem Eu {c a b:aN}:opsT d (⟨t, .pick c a b,none⟩::r) K f H=dV (Ei (ev f c) (ev f a) (ev f b)) (eH d t r K f H):=
 fE rfl (by simp) (by simp) (by simp only [bW];cases ev f c<;>rfl)
theorem Ew {op:BinOp} {x y:aN}:opsT d (⟨t, .bin op x y,none⟩::r) K f H=dV (fM op (ev f x) (ev f y)) (eH d t r K f H):=
 fE rfl (by simp) (by simp) (by rfl)
theorem Wq {op:BinOp} {x y:aN}:opsT d (⟨t, .iL op x y,none⟩::r) K f H=dV (jB op (ev f x) (ev f y)) (eH d t r K f H):=
 fE rfl (by simp) (by simp) (by rfl)
theorem Ey {x:aN}:opsT d (⟨t, .not x,none⟩::r) K f H=dV (Nh (ev f x)) (eH d t r K f H):=
 fE rfl (by simp) (by simp) (by simp only [bW];cases ev f x<;>rfl)
theorem Ez {x:aN}:opsT d (⟨t, .neg x,none⟩::r) K f H=dV (Nj (ev f x)) (eH d t r K f H):=
 fE rfl (by simp) (by simp) (by simp only [bW];cases ev f x<;>rfl)
theorem EC {k:IntKind} {x:aN}:opsT d (⟨t, .conv k x,none⟩::r) K f H=dV (Nk k (ev f x)) (eH d t r K f H):=
 fE rfl (by simp) (by simp) (by simp only [bW];cases ev f x<;>rfl)
theorem ED {n:Bool} {x y:aN}:opsT d (⟨t, .uz n x y,none⟩::r) K f H=dV (IL n (ev f x) (ev f y)) (eH d t r K f H):=
 fE rfl (by simp) (by simp) (by simp only [bW];cases ev f x<;>cases ev f y<;>rfl)
def Ws (neg:Bool) (n:Nat) (x y:Value):Option Value:=(wP n x y).map fun r=> .bool (if neg then !r else r)
theorem Wu {neg:Bool} {n:Nat} {x y:aN}:opsT d (⟨t, .yN neg n x y,none⟩::r) K f H=dV (Ws neg n (ev f x) (ev f y)) (eH d t r K f H):=
 fE rfl (by simp) (by simp) (by simp only [bW,Ws,Option.map_map];rfl)
def FC (neg:Bool):Value→Option Value
 | .slice a _ _=>some (.bool (if neg then !a.isNone else a.isNone))
 | .iface (_+1) (.iface _ (.tuple _))=>some (.bool neg)
 | _=>none
theorem Wv {neg:Bool} {n e:Nat}:FC neg (.slice none n e)=some (.bool !neg):=by cases neg<;>rfl
theorem Wx {neg:Bool} {b o n e:Nat}:FC neg (S b o n e)=some (.bool neg):=by cases neg<;>rfl
theorem WA {neg:Bool} {l e:Nat} {cs:List Value} (h:0<l):FC neg (Fz l e cs)=some (.bool neg):=by
 obtain ⟨n,rfl⟩: ∃n,l=n+1:=⟨l-1,by omega⟩
 rfl
theorem EJ {n:Bool} {x:aN}:opsT d (⟨t, .eqn n x,none⟩::r) K f H=dV (FC n (ev f x)) (eH d t r K f H):=
 fE rfl (by simp) (by simp) (by
  simp only [bW,FC]
  repeat' split
  all_goals first|rfl|simp_all)
def Cc:Value→Option Value
 | .slice _ n _=>some (.int .i64 n)
 | .iface n (.iface _ (.tuple _))=>some (.int .i64 n)
 | _=>none
theorem WB {a:Option Addr} {n e:Nat}:Cc (.slice a n e)=some (.int .i64 n):=rfl
theorem WC {n e:Nat} {cs:List Value}:Cc (Fz n e cs)=some (.int .i64 n):=rfl
theorem EF {x:aN}:opsT d (⟨t, .len x,none⟩::r) K f H=dV (Cc (ev f x)) (eH d t r K f H):=
 fE rfl (by simp) (by simp) (by
  simp only [bW,Cc]
  repeat' split
  all_goals first|rfl|simp_all)
def WE:Value→Option Value
 | .string s=>some (.int .i64 s.size)
 | _=>none
theorem WG {s:ByteArray}:WE (.string s)=some (.int .i64 s.size):=rfl
theorem WH {x:aN}:opsT d (⟨t, .lenStr x,none⟩::r) K f H=dV (WE (ev f x)) (eH d t r K f H):=
 fE rfl (by simp) (by simp) (by simp only [bW];cases ev f x<;>rfl)
theorem Oh {n:Nat}:opsT d (⟨t, .lenConst n,none⟩::r) K f H=opsT (dn d) r K (dR f t (.int .i64 n)) H:=by
 rw [oO rfl (by simp) (by simp)];rfl
theorem EG {x:aN} {j:Nat}:opsT d (⟨t, .extract x j,none⟩::r) K f H=dV (wJ j (ev f x)) (eH d t r K f H):=
 fE rfl (by simp) (by simp) (by simp only [bW];cases ev f x<;>rfl)
theorem EH {xs:List aN}:opsT d (⟨t, .max xs,none⟩::r) K f H=dV (ku max2 (xs.map (ev f))) (eH d t r K f H):=
 fE rfl (by simp) (by simp) (by rfl)
theorem EI {xs:List aN}:opsT d (⟨t, .min xs,none⟩::r) K f H=dV (ku min2 (xs.map (ev f))) (eH d t r K f H):=
 fE rfl (by simp) (by simp) (by rfl)
def wW (e:Nat) (x i:Value):Option Value:=
 match x,intOf i with
 | .slice (some ⟨b,o,none⟩) len e',some i=>if 0≤i∧i<len∧e'=e then some (P b (o+i.toNat*e)) else none
 | .iface len (.iface e' (.tuple ⟨cs⟩)),some i=>if 0≤i∧i<len∧e'=e then some (Fp (i.toNat*e) cs) else none
 | _,_=>none
theorem JD {b o len e:Nat} {k:IntKind} {i:Int} (h:0≤i∧i<len):wW e (S b o len e) (.int k i)=some (P b (o+i.toNat*e)):=by simp [wW,intOf,h]
theorem JE {len e:Nat} {cs:List Value} {k:IntKind} {i:Int} (h:0≤i∧i<len):wW e (Fz len e cs) (.int k i)=some (Fp (i.toNat*e) cs):=by simp [wW,Fz,intOf,h]
theorem EK {e:Nat} {x i:aN}:opsT d (⟨t, .indexAddr none e x i,none⟩::r) K f H=dV (wW e (ev f x) (ev f i)) (eH d t r K f H):=
 fE rfl (by simp) (by simp) (by
  simp only [bW,wW]
  generalize intOf (ev f i)=q
  generalize ev f x=vx
  cases vx<;>try rfl
  case slice a n e'=>
   cases a<;>try rfl
   rename_i a
   obtain ⟨b,o,sp⟩:=a
   cases sp<;>cases q<;>try rfl
   simp only
   split<;>rfl
  case iface l w=>
   cases w<;>try rfl
   rename_i l w
   cases w<;>try rfl
   cases q<;>try rfl
   simp only
   split<;>rfl)
def Ce (n e:Nat) (x i:Value):Option Value:=
 match x,intOf i with
 | .pointer (some ⟨b,o,none⟩),some i=>if 0≤i∧i<n then some (P b (o+i.toNat*e)) else none
 | .iface o (.tuple ⟨cs⟩),some i=>if 0≤i∧i<n then some (Fp (o+i.toNat*e) cs) else none
 | _,_=>none
theorem WI {n e b o:Nat} {k:IntKind} {i:Int} (h:0≤i∧i<n):Ce n e (P b o) (.int k i)=some (P b (o+i.toNat*e)):=by simp [Ce,intOf,h]
theorem WJ {n e o:Nat} {cs:List Value} {k:IntKind} {i:Int} (h:0≤i∧i<n):Ce n e (Fp o cs) (.int k i)=some (Fp (o+i.toNat*e) cs):=by simp [Ce,Fp,intOf,h]
theorem Ad {n e:Nat} {x i:aN}:opsT d (⟨t, .indexAddr (some n) e x i,none⟩::r) K f H=dV (Ce n e (ev f x) (ev f i)) (eH d t r K f H):=
 fE rfl (by simp) (by simp) (by
  simp only [bW,Ce]
  generalize intOf (ev f i)=q
  generalize ev f x=vx
  cases vx<;>try rfl
  case pointer a=>
   cases a<;>try rfl
   rename_i a
   obtain ⟨b,o,sp⟩:=a
   cases sp<;>cases q<;>try rfl
   simp only
   split<;>rfl
  case iface l w=>
   cases w<;>try rfl
   cases q<;>try rfl
   simp only
   split<;>rfl)
def Ae (n:Option Nat) (H:BH):Value→Option Value
 | .pointer (some ⟨b,o,none⟩)=>(match blk H b with|some cs=>bV n cs o|none=>none)
 | .iface o (.tuple ⟨cs⟩)=>bV n cs o
 | _=>none
def Oi (n:Option Nat) (c:Option (List Value)) (o:Nat):Option Value:=
 match c with
 |some cs=>bV n cs o
 |none=>none
theorem JF {n:Option Nat} {cs:List Value} {o:Nat}:Oi n (some cs) o=bV n cs o:=rfl
theorem JG {n:Option Nat} {b o:Nat}:Ae n H (P b o)=Oi n (blk H b) o:=by simp only [Ae,Oi]
theorem JH {n:Option Nat} {o:Nat} {cs:List Value}:Ae n H (Fp o cs)=bV n cs o:=rfl
theorem EL {n:Option Nat} {a:aN}:opsT d (⟨t, .load n a,none⟩::r) K f H=dV (Ae n H (ev f a)) (eH d t r K f H):=
 fE rfl (by simp) (by simp) (by
  simp only [bW,Ae]
  repeat' split
  all_goals simp_all)
def Ci (n:Nat) (a v:Value) (H:BH):Option (Value×BH):=
 match a with
 | .pointer (some ⟨b,o,none⟩)=>
  (match blk H b with
  |some cs=>
   (match cells2 v with
   |some vs=>if vs.length=n∧o+n≤cs.length∧vs.all jV=true then some (undef,H.set b (some (splice cs o vs))) else none
   |none=>none)
  |none=>none)
 | _=>none
def fQ (c:Option (List Value)) (H:BH) (b o n:Nat) (v:Value):Option (Value×BH):=
 match c,cells2 v with
 |some cs,some vs=>if vs.length=n∧o+n≤cs.length∧vs.all jV=true then some (undef,H.set b (some (splice cs o vs))) else none
 | _,_=>none
theorem WL {b o n:Nat} {v:Value}:Ci n (P b o) v H=fQ (blk H b) H b o n v:=by
 simp only [Ci,fQ]
 cases blk H b<;>cases cells2 v<;>rfl
theorem Ep {n:Nat} {a v:aN}:opsT d (⟨t, .store n a v,none⟩::r) K f H=(kQ d=false∧jJ (Ci n (ev f a) (ev f v) H) (lJ d t r K f)):=by
 rw [JC rfl]
 have:bW (.store n a v) (ev f) H=Ci n (ev f a) (ev f v) H:=rfl
 rw [this]
def yV (H:BH) (a:Value):List Value→Bool
 |[]=>true
 |x::xs=>qc H a x&&yV H a xs
theorem WM {a:Value}:yV H a []=true:=rfl
theorem Oj {a x:Value} {xs:List Value}:yV H a (x::xs)=(qc H a x&&yV H a xs):=rfl
theorem WO {i o j q:Nat}:qc H (P i o) (P j q)=(!(j==i)&&(blk H j).isSome):=rfl
theorem WQ {i o j q n e:Nat}:qc H (P i o) (S j q n e)=(!(j==i)&&(blk H j).isSome):=rfl
theorem WR {i o:Nat}:qc H (P i o) (.slice none 0 0)=true:=rfl
theorem WT {i o:Nat} {k:IntKind} {n:Int}:qc H (P i o) (.int k n)=true:=rfl
theorem WU {i o:Nat} {b:Bool}:qc H (P i o) (.bool b)=true:=rfl
theorem WV {i o l e:Nat} {cs:List Value}:qc H (P i o) (Fz l e cs)=true:=rfl
theorem WW {i o l:Nat} {cs:List Value}:qc H (P i o) (Fp l cs)=true:=rfl
theorem WX {i o:Nat} {cs:List Value}:qc H (P i o) (eY cs)=true:=rfl
theorem WY {cs:List Value}:(some cs).isSome=true:=rfl
theorem WZ {n:Nat} {a v:aN} {fl:List aN}:opsT d (⟨t, .iw n a v fl,none⟩::r) K f H=(yV H (ev f a) (fl.map (ev f))=true∧kQ d=false∧jJ (Ci n (ev f a) (ev f v) H) (lJ d t r K f)):=by
 rw [JC rfl]
 have e:(fl.all fun x=>qc H (ev f a) (ev f x))=yV H (ev f a) (fl.map (ev f)):=by
  induction fl with
  |nil=>rfl
  |cons x xs ih=>simp only [List.all_cons,List.map_cons,Oj,ih]
 have:bW (.iw n a v fl) (ev f) H=if yV H (ev f a) (fl.map (ev f))=true then Ci n (ev f a) (ev f v) H else none:=by
  rw [←e];rfl
 rw [this]
 by_cases h:yV H (ev f a) (fl.map (ev f))=true
 ·rw [if_pos h];simp [h]
 ·rw [if_neg h];simp [h,jJ]
theorem Es {e b:Nat} {s x:aN}:opsT d (⟨t, .append e b s x,none⟩::r) K f H=(kQ d=false∧jJ (lY e b (ev f s) (ev f x) H) (lJ d t r K f)):=by
 rw [JC rfl];rfl
def W9 (d t:Option Nat) (r:List cO) (K:Fr→BH→Prop) (f:Fr) (H:BH) (l:List Value):Value→BH→Prop:=fun v H'=>keepW H H' l∧opsT (dn d) r K (dR f t v) H'
theorem Xa {l:List Value} {v:Value} {H1:BH}:W9 d t r K f H l v H1=(keepW H H1 l∧opsT (dn d) r K (dR f t v) H1):=rfl
theorem Xb {g:Nat} {as fl:List aN}:opsT d (⟨t, .lV g as fl,none⟩::r) K f H=(kQ d=false∧aJ false g (as.map (ev f)) H (W9 d t r K f H (fl.map (ev f)))):=by rw [opsT];rfl
theorem Xc {H1:BH}:keepW H H1 []=True:=rfl
theorem Xd {H1:BH} {x:Value} {xs:List Value}:keepW H H1 (x::xs)=(Af H H1 x∧keepW H H1 xs):=rfl
theorem Xe {H1:BH} {j o:Nat}:Af H H1 (P j o)=wX (blk H j) (blk H1 j):=rfl
theorem Xf {H1:BH} {j o l e:Nat}:Af H H1 (S j o l e)=wX (blk H j) (blk H1 j):=rfl
theorem Xg {H1:BH} {k:IntKind} {n:Int}:Af H H1 (.int k n)=True:=rfl
theorem Xh {cs:List Value} (h:cs.all Am.plain=true):wX (some cs) (some cs)=True:=eq_true ⟨rfl,h⟩
def yX (H:BH) (a:Value):List Value→Bool
 |[]=>true
 |x::xs=>Ag H a x&&yX H a xs
theorem Xi {a:Value}:yX H a []=true:=rfl
theorem Ol {a x:Value} {xs:List Value}:yX H a (x::xs)=(Ag H a x&&yX H a xs):=rfl
theorem Xj {i o l e:Nat} {x:Value}:Ag H (S i o l e) x=qc H (P i 0) x:=rfl
theorem Xk {x:Value}:Ag H (.slice none 0 0) x=true:=rfl
theorem Xl {e_1 b:Nat} {s x:aN} {fl:List aN}:opsT d (⟨t, .lK e_1 b s x fl,none⟩::r) K f H=(yX H (ev f s) (fl.map (ev f))=true∧kQ d=false∧jJ (lY e_1 b (ev f s) (ev f x) H) (lJ d t r K f)):=by
 rw [JC rfl]
 have e:(fl.all fun y=>Ag H (ev f s) (ev f y))=yX H (ev f s) (fl.map (ev f)):=by
  induction fl with
  |nil=>rfl
  |cons x xs ih=>simp only [List.all_cons,List.map_cons,Ol,ih]
 have:bW (.lK e_1 b s x fl) (ev f) H=if yX H (ev f s) (fl.map (ev f))=true then lY e_1 b (ev f s) (ev f x) H else none:=by
  rw [←e];rfl
 rw [this]
 by_cases h:yX H (ev f s) (fl.map (ev f))=true
 ·rw [if_pos h];simp [h]
 ·rw [if_neg h];simp [h,jJ]
theorem JI {z:List Value}:opsT d (⟨t, .alloc z,none⟩::r) K f H=(z.all Am.plain=true∧opsT (dn d) r K (dR f t (P H.length 0)) (H++[some z])):=by
 rw [oO rfl (by simp) (by simp)]
 simp only [bW]
 split
 ·rename_i h;simp only [h,true_and];rfl
 ·rename_i h;simp only [h];simp [jJ]
def wY (v:Value) (H:BH):Option (Value×BH):=
 match cells2 v with
 |some cs=>some (P H.length 0,H++[some cs])
 |none=>none
theorem Om {x:aN}:opsT d (⟨t, .box x,none⟩::r) K f H=jJ (wY (ev f x) H) (lJ d t r K f):=by
 rw [oO rfl (by simp) (by simp)];rfl
theorem Xm {cs:List Value}:wY (eY cs) H=some (P H.length 0,H++[some cs]):=rfl
theorem Xn {k:IntKind} {n:Int}:wY (.int k n) H=some (P H.length 0,H++[some [.int k n]]):=rfl
theorem Xo {b:Bool}:wY (.bool b) H=some (P H.length 0,H++[some [.bool b]]):=rfl
theorem Xp {s:ByteArray}:wY (.string s) H=some (P H.length 0,H++[some [.string s]]):=rfl
theorem Xq {a:Option Addr} {l e:Nat}:wY (.slice a l e) H=some (P H.length 0,H++[some [.slice a l e]]):=rfl
theorem Xr {l e:Nat} {cs:List Value}:wY (Fz l e cs) H=some (P H.length 0,H++[some [Fz l e cs]]):=rfl
theorem Xt {b o:Nat}:wY (P b o) H=some (P H.length 0,H++[some [P b o]]):=rfl
theorem Xu {g:Fn} {a b:Array Value}:wY (.func g a b) H=some (P H.length 0,H++[some [.func g a b]]):=rfl
theorem JJ {z:List Value} {p:List (Nat×Nat×aN)}:opsT d (⟨t, .build z p,none⟩::r) K f H=(z.all Am.plain=true∧(p.map fun p=>nj (ev f p.2.2)).all id=true∧dV ((dG z (p.map fun p=>(p.1,p.2.1,ev f p.2.2))).map eY) (eH d t r K f H)):=by
 rw [oO rfl (by simp) (by simp)]
 simp only [bW,List.all_map,Function.id_comp]
 by_cases h:z.all Am.plain=true∧(p.all fun p=>nj (ev f p.2.2))=true
 ·rw [if_pos h,←and_assoc]
  simp only [h.1,h.2,and_self,true_and]
  cases dG z _<;>rfl
 ·rw [if_neg h,←and_assoc]
  simp only [h,false_and]
  rfl
theorem EN {e n:Nat} {z:List Value} {p:List (Nat×Nat×aN)}:opsT d (⟨t, .buildSlice e n z p,none⟩::r) K f H=(n*e≤16777216∧z.all Am.plain=true∧(p.map fun p=>nj (ev f p.2.2)).all id=true∧
  jJ ((dG (fB z n) (p.map fun p=>(p.1,p.2.1,ev f p.2.2))).map fun cs=>(S H.length 0 n e,H++[some cs])) (lJ d t r K f)):=by
 rw [oO rfl (by simp) (by simp)]
 simp only [bW,List.all_map,Function.id_comp]
 by_cases h:n*e≤16777216∧z.all Am.plain=true∧(p.all fun p=>nj (ev f p.2.2))=true
 ·rw [if_pos h]
  simp only [h.1,h.2.1,h.2.2,true_and]
 ·rw [if_neg h,←and_assoc,←and_assoc,and_assoc (a:=n*e≤16777216)]
  simp only [h,false_and]
  rfl
def JK (e:Nat) (bytes:Nat) (z:List Value) (l c:Value) (H:BH):Option (Value×BH):=
 match l,c with
 | .int _ l, .int _ c=>if 0≤l∧l≤c∧c*bytes≤140737488355328∧c≤9223372036854775807 then some (S H.length 0 l.toNat e,H++[some (fB z c.toNat)]) else none
 | _,_=>none
theorem Xv {e b:Nat} {z:List Value} {k:IntKind} {n:Int} {H:BH} (h:0≤n∧n*b≤140737488355328∧n≤9223372036854775807):JK e b z (.int k n) (.int k n) H=some (S H.length 0 n.toNat e,H++[some (fB z n.toNat)]):=by
 simp only [JK]
 rw [if_pos (by omega)]
theorem EO {e b:Nat} {z:List Value} {l c:aN}:opsT d (⟨t, .makeSlice e b z l c,none⟩::r) K f H=(z.all Am.plain=true∧jJ (JK e b z (ev f l) (ev f c) H) (lJ d t r K f)):=by
 rw [oO rfl (by simp) (by simp)]
 simp only [bW,JK]
 generalize ev f l=vl
 generalize ev f c=vc
 by_cases hz:z.all Am.plain=true
 ·simp only [hz,true_and]
  cases vl<;>cases vc<;>rfl
 ·simp only [hz,Bool.false_eq_true,false_and,if_false]
  cases vl<;>cases vc<;>simp [jJ]
def JL (off:Nat):Value→Option Value
 | .pointer (some ⟨b,o,none⟩)=>some (P b (o+off))
 | .iface o (.tuple ⟨cs⟩)=>some (Fp (o+off) cs)
 | _=>none
theorem Xw {off b o:Nat}:JL off (P b o)=some (P b (o+off)):=rfl
theorem Xx {off o:Nat} {cs:List Value}:JL off (Fp o cs)=some (Fp (o+off) cs):=rfl
theorem Oo {o:Nat} {x:aN}:opsT d (⟨t, .fieldAddr o x,none⟩::r) K f H=dV (JL o (ev f x)) (eH d t r K f H):=
 fE rfl (by simp) (by simp) (by
  simp only [bW,JL]
  repeat' split
  all_goals first|rfl|simp_all)
theorem Oq {n:Option Nat} {o:Nat} {x:aN}:opsT d (⟨t, .field n o x,none⟩::r) K f H=dV (Ot n o (ev f x)) (eH d t r K f H):=
 fE rfl (by simp) (by simp) (by simp only [bW];cases ev f x<;>rfl)
theorem Ou {l e:Nat} {n:Option Nat} {x i:aN}:opsT d (⟨t, .index l e n x i,none⟩::r) K f H=dV (Cj l e n (ev f x) (ev f i)) (eH d t r K f H):=
 fE rfl (by simp) (by simp) (by
  simp only [bW]
  generalize ev f x=vx
  generalize ev f i=vi
  cases vx<;>cases vi<;>try rfl
  simp only [intOf,Cj]
  split<;>rfl)
def FD:Value→Value→Option Value
 | .string s, .int _ i=>if 0≤i then (s[i.toNat]?).map fun b=> .int .u8 b.toNat else none
 | _,_=>none
theorem Xy {x i:aN}:opsT d (⟨t, .indexStr x i,none⟩::r) K f H=dV (FD (ev f x) (ev f i)) (eH d t r K f H):=
 fE rfl (by simp) (by simp) (by
  simp only [bW]
  generalize ev f x=vx
  generalize ev f i=vi
  cases vx<;>cases vi<;>try rfl
  simp only [intOf,FD]
  split
  ·rw [Option.map_map];rfl
  ·rfl)
def JM:Value→Option Value
 | .pointer (some ⟨b,o,none⟩)=>some (P b o)
 | .iface o (.tuple ⟨cs⟩)=>some (Fp o cs)
 | _=>none
theorem Xz {b o:Nat}:JM (P b o)=some (P b o):=rfl
theorem XA {o:Nat} {cs:List Value}:JM (Fp o cs)=some (Fp o cs):=rfl
theorem Ov {x:aN}:opsT d (⟨t, .nilCheck x,none⟩::r) K f H=dV (JM (ev f x)) (eH d t r K f H):=
 fE rfl (by simp) (by simp) (by
  simp only [bW,JM]
  repeat' split
  all_goals first|rfl|simp_all)
theorem XB {g:Nat} {cs:List aN}:opsT d (⟨t, .makeFunc g cs,none⟩::r) K f H=opsT (dn d) r K (dR f t (.func (.func g) #[] ⟨cs.map (ev f)⟩)) H:=by
 rw [oO rfl (by simp) (by simp)];rfl
def qg (len:Nat) (lo hi:Option Value):Option (Nat×Nat):=jc (fun| .c v=>v| _=>undef) len (lo.map .c) (hi.map .c)
theorem Ox {len:Nat} {lo hi:Option aN}:qg len (lo.map (ev f)) (hi.map (ev f))=jc (ev f) len lo hi:=by cases lo<;>cases hi<;>rfl
theorem Oy {len:Nat} {k:IntKind} {h:Int} (hh:0≤h∧h≤len):qg len none (some (.int k h))=some (0,h.toNat):=by
 simp only [qg,Option.map_none,Option.map_some,jc,intOf]
 rw [if_pos (by omega)];rfl
theorem XC {len:Nat} {k:IntKind} {l:Int} (hh:0≤l∧l≤len):qg len (some (.int k l)) none=some (l.toNat,len):=by
 simp only [qg,Option.map_none,Option.map_some,jc,intOf]
 rw [if_pos (by omega)];simp
theorem XD {len:Nat} {k k':IntKind} {l h:Int} (hh:0≤l∧l≤h∧h≤len):qg len (some (.int k l)) (some (.int k' h))=some (l.toNat,h.toNat):=by
 simp only [qg,Option.map_some,jc,intOf]
 rw [if_pos (by omega)]
theorem apX {len:Nat}:qg len none none=some (0,len):=by
 simp [qg,jc]
def Ah (e:Nat) (x:Value) (lo hi:Option Value):Option Value:=
 match x with
 | .slice (some ⟨b,o,none⟩) len e'=>if e'=e then (qg len lo hi).map fun (l,h)=>S b (o+l*e) (h-l) e else none
 | .slice none 0 0=>(qg 0 lo hi).map fun _=> .slice none 0 0
 | .iface len (.iface e' (.tuple ⟨cs⟩))=>if e'=e then (qg len lo hi).map fun (l,h)=>Fz (h-l) e ((cs.drop (l*e)).take ((h-l)*e)) else none
 | _=>none
theorem ak0 {e b o len l h:Nat} {lo hi:Option Value} (hc:qg len lo hi=some (l,h)):Ah e (S b o len e) lo hi=some (S b (o+l*e) (h-l) e):=by simp [Ah,hc]
theorem apY {e len l h:Nat} {cs:List Value} {lo hi:Option Value} (hc:qg len lo hi=some (l,h)):Ah e (Fz len e cs) lo hi=some (Fz (h-l) e ((cs.drop (l*e)).take ((h-l)*e))):=by simp [Ah,Fz,hc]
theorem EM {e:Nat} {x:aN} {lo hi:Option aN}:opsT d (⟨t, .slice e x lo hi,none⟩::r) K f H=dV (Ah e (ev f x) (lo.map (ev f)) (hi.map (ev f))) (eH d t r K f H):=
 fE rfl (by simp) (by simp) (by
  simp only [bW,Ah,Ox]
  generalize ev f x=vx
  cases vx<;>try rfl
  case slice a n e'=>
   cases a with
   |none=>
    cases n<;>cases e'<;>try rfl
    simp only
    rw [Option.map_map];rfl
   |some a=>
    obtain ⟨b,o,sp⟩:=a
    cases sp<;>try rfl
    simp only
    split
    ·rw [Option.map_map];rfl
    ·rfl
  case iface l w=>
   cases w<;>try rfl
   rename_i l w
   cases w<;>try rfl
   simp only
   split
   ·rw [Option.map_map];rfl
   ·rfl)
def XE (x:Value) (lo hi:Option Value):Option Value:=
 match x with
 | .string s=>(qg s.size lo hi).map fun (l,h)=> .string (s.extract l h)
 | _=>none
theorem XF {x:aN} {lo hi:Option aN}:opsT d (⟨t, .BJ x lo hi,none⟩::r) K f H=dV (XE (ev f x) (lo.map (ev f)) (hi.map (ev f))) (eH d t r K f H):=
 fE rfl (by simp) (by simp) (by
  simp only [bW,XE,Ox]
  generalize ev f x=vx
  cases vx<;>try rfl
  simp only
  rw [Option.map_map];rfl)
def XG (len e:Nat) (H:BH) (x:Value) (lo hi:Option Value):Option Value:=
 match x with
 | .pointer (some ⟨b,o,none⟩)=>(match blk H b with|some cs=>if o+len*e≤cs.length then (qg len lo hi).map fun (l,h)=>S b (o+l*e) (h-l) e else none|none=>none)
 | _=>none
theorem XH {len e:Nat} {x:aN} {lo hi:Option aN}:opsT d (⟨t, .zV len e x lo hi,none⟩::r) K f H=dV (XG len e H (ev f x) (lo.map (ev f)) (hi.map (ev f))) (eH d t r K f H):=
 fE rfl (by simp) (by simp) (by
  simp only [bW,XG,Ox]
  generalize ev f x=vx
  cases vx<;>try rfl
  case pointer a=>
   cases a<;>try rfl
   rename_i a
   obtain ⟨b,o,sp⟩:=a
   cases sp<;>try rfl
   simp only
   cases blk H b with
   |none=>rfl
   |some cs=>
    simp only
    split
    ·rw [Option.map_map];rfl
    ·rfl)
end
section
variable {H:BH}
theorem Oz {a:Option (List Value)} {l:BH}:blk (a::l) 0=a:=rfl
theorem OA {a b:Option (List Value)} {l:BH}:blk (a::b::l) 1=b:=rfl
theorem OB {a b c:Option (List Value)} {l:BH}:blk (a::b::c::l) 2=c:=rfl
theorem OC {a b c e:Option (List Value)} {l:BH}:blk (a::b::c::e::l) 3=e:=rfl
theorem OD {a b c e g:Option (List Value)} {l:BH}:blk (a::b::c::e::g::l) 4=g:=rfl
theorem OE {a b c e g h:Option (List Value)} {l:BH}:blk (a::b::c::e::g::h::l) 5=h:=rfl
theorem OG {a b c e g h i:Option (List Value)} {l:BH}:blk (a::b::c::e::g::h::i::l) 6=i:=rfl
theorem OH {a b c e g h i j:Option (List Value)} {l:BH}:blk (a::b::c::e::g::h::i::j::l) 7=j:=rfl
theorem XI {x0 x1 x2 x3 x4 x5 x6 x7 x8:Option (List Value)} {l:BH}:blk (x0::x1::x2::x3::x4::x5::x6::x7::x8::l) 8=x8:=rfl
theorem XJ {x0 x1 x2 x3 x4 x5 x6 x7 x8 x9:Option (List Value)} {l:BH}:blk (x0::x1::x2::x3::x4::x5::x6::x7::x8::x9::l) 9=x9:=rfl
theorem XK {x0 x1 x2 x3 x4 x5 x6 x7 x8 x9 x10:Option (List Value)} {l:BH}:blk (x0::x1::x2::x3::x4::x5::x6::x7::x8::x9::x10::l) 10=x10:=rfl
theorem XL {x0 x1 x2 x3 x4 x5 x6 x7 x8 x9 x10 x11:Option (List Value)} {l:BH}:blk (x0::x1::x2::x3::x4::x5::x6::x7::x8::x9::x10::x11::l) 11=x11:=rfl
theorem XM {x0 x1 x2 x3 x4 x5 x6 x7 x8 x9 x10 x11 x12:Option (List Value)} {l:BH}:blk (x0::x1::x2::x3::x4::x5::x6::x7::x8::x9::x10::x11::x12::l) 12=x12:=rfl
theorem XO {x0 x1 x2 x3 x4 x5 x6 x7 x8 x9 x10 x11 x12 XP:Option (List Value)} {l:BH}:blk (x0::x1::x2::x3::x4::x5::x6::x7::x8::x9::x10::x11::x12::XP::l) 13=XP:=rfl
theorem XQ {xs:List Int} {rest:List Value} {k:Nat} (h:k<xs.length):bV none (xs.map I++rest) k=some (I (el xs k)):=by
 simp [bV,List.getElem?_append_left,h,el,List.getD]
theorem JO {xs:List Int} {k:Nat} (h:k<xs.length):bV none (xs.map I) k=some (I (el xs k)):=by
 simp [bV,h,el,List.getD]
theorem OI {p:List Nat} {k:Nat} (h:k<p.length):bV none (p.map N8) k=some (N8 (nl p k)):=by
 simp [bV,h,nl,List.getD]
def bl (p:List Bool) (i:Nat):Bool:=p.getD i false
theorem XR {p:List Bool} {k:Nat} (h:k<p.length):bV none (p.map B) k=some (.bool (bl p k)):=by
 simp [bV,h,bl,List.getD]
theorem Ai {n o:Nat} {cs:List Value} (h:o+n≤cs.length):bV (some n) cs o=some (eY ((cs.drop o).take n)):=by simp [bV,h]
theorem Cm {α:Type} {g:α→Value} {xs:List α} {k:Nat} {y:α} (h:k<xs.length):splice (xs.map g) k [g y]=(xs.set k y).map g:=by
 simp only [splice,List.length_singleton]
 rw [List.set_eq_take_append_cons_drop]
 simp [h,List.map_take,List.map_drop]
theorem ak1 {xs:List Int} {k:Nat} {y:Int} (h:k<xs.length):splice (xs.map I) k [I y]=(xs.set k y).map I:=Cm h
theorem XT {xs:List Nat} {k y:Nat} (h:k<xs.length):splice (xs.map N8) k [N8 y]=(xs.set k y).map N8:=Cm h
theorem XU {xs:List Bool} {k:Nat} {y:Bool} (h:k<xs.length):splice (xs.map B) k [.bool y]=(xs.set k y).map B:=Cm h
theorem CB {cs:List Value} {b o:Nat} {v:Value} {vs:List Value} (hv:cells2 v=some vs) (h1:vs.length=1) (h2:vs.all jV=true) (h:o<cs.length):fQ (some cs) H b o 1 v=some (undef,H.set b (some (splice cs o vs))):=by
 simp only [fQ,hv]
 rw [if_pos ⟨h1,by omega,h2⟩]
theorem Aj {cs:List Value} {b o:Nat} {k:IntKind} {n:Int} (h:o<cs.length):fQ (some cs) H b o 1 (.int k n)=some (undef,H.set b (some (splice cs o [.int k n]))):=CB rfl rfl rfl h
theorem ak2 {cs:List Value} {b o:Nat} {t:Bool} (h:o<cs.length):fQ (some cs) H b o 1 (.bool t)=some (undef,H.set b (some (splice cs o [.bool t]))):=CB rfl rfl rfl h
theorem wZ {cs vs:List Value} {b o n:Nat} (h1:vs.length=n) (h2:vs.all jV=true) (h:o+n≤cs.length):fQ (some cs) H b o n (eY vs)=some (undef,H.set b (some (splice cs o vs))):=by
 simp only [fQ,cells2]
 rw [if_pos ⟨h1,h,h2⟩]
theorem all_map {α:Type} {g:α→Value} {p:Value→Bool} {xs:List α} (h: ∀a,p (g a)=true):(xs.map g).all p=true:=by
 simp [List.all_map,Function.comp_def,h]
theorem Ak {p:List Nat}:(p.map N8).all jV=true:=all_map fun _=>rfl
theorem XV {p:List Int}:(p.map I).all jV=true:=all_map fun _=>rfl
theorem OJ {p:List Bool}:(p.map B).all jV=true:=all_map fun _=>rfl
theorem XW {n:Nat} {b:Bool}:(List.replicate n (Value.bool b)).all Am.plain=true:=by simp [List.all_replicate,Am.plain]
theorem XY {n:Nat} {k:IntKind} {m:Int}:(List.replicate n (Value.int k m)).all Am.plain=true:=by simp [List.all_replicate,Am.plain]
theorem XZ {b:Bool}:Am.plain (.bool b)=true:=rfl
theorem X0 {k:IntKind} {m:Int}:Am.plain (.int k m)=true:=rfl
theorem X3 {s:ByteArray}:Am.plain (.string s)=true:=rfl
theorem X4:Am.plain (.slice none 0 0)=true:=rfl
theorem X5:Am.plain .nilFunc=true:=rfl
theorem w8 {n:Int} (h0:0≤n) (h1:n<256):IntKind.u8.wrap n=n:=by
 have hb:(2:Int)^(8:Nat)=256:=by decide
 have hb':(2:Int)^(7:Nat)=128:=by decide
 simp only [IntKind.wrap,IntKind.bits,IntKind.signed,hb,hb']
 simp only [Bool.false_and,Bool.false_eq_true,if_false]
 omega
theorem X6 {len:Nat} {p:List Nat} {k:IntKind} {i:Int} (h:0≤i∧i<len) (hl:p.length=len):Cj len 1 none (PL p) (.int k i)=some (N8 (nl p i.toNat)):=by
 rw [ak3,if_pos h,Nat.mul_one,OI (by omega)]
theorem X7 {z:List Value}:dG z []=some z:=rfl
theorem apZ {z:List Value} {o n:Nat} {v:Value} {r:List (Nat×Nat×Value)} (h:(iq v).length=n∧o+n≤z.length):dG z ((o,n,v)::r)=dG (splice z o (iq v)) r:=by
 simp only [dG];rw [if_pos h]
theorem X8 {v:Value} {k0:IntKind} {n0:Int}:dG (List.replicate 1 v) [(0,1, .int k0 n0)]=some [.int k0 n0]:=rfl
theorem X9 {v:Value} {k0:IntKind} {n0:Int} {k1:IntKind} {n1:Int}:dG (List.replicate 2 v) [(0,1, .int k0 n0),(1,1, .int k1 n1)]=some [.int k0 n0, .int k1 n1]:=rfl
theorem Ya {v:Value} {k0:IntKind} {n0:Int} {k1:IntKind} {n1:Int} {k2:IntKind} {n2:Int}:dG (List.replicate 3 v) [(0,1, .int k0 n0),(1,1, .int k1 n1),(2,1, .int k2 n2)]=some [.int k0 n0, .int k1 n1, .int k2 n2]:=rfl
theorem Yb {v:Value} {k0:IntKind} {n0:Int} {k1:IntKind} {n1:Int} {k2:IntKind} {n2:Int} {k3:IntKind} {n3:Int}:dG (List.replicate 4 v) [(0,1, .int k0 n0),(1,1, .int k1 n1),(2,1, .int k2 n2),(3,1, .int k3 n3)]=some [.int k0 n0, .int k1 n1, .int k2 n2, .int k3 n3]:=rfl
theorem Yc {v:Value} {k0:IntKind} {n0:Int} {k1:IntKind} {n1:Int} {k2:IntKind} {n2:Int} {k3:IntKind} {n3:Int} {k4:IntKind} {n4:Int}:dG (List.replicate 5 v) [(0,1, .int k0 n0),(1,1, .int k1 n1),(2,1, .int k2 n2),(3,1, .int k3 n3),(4,1, .int k4 n4)]=some [.int k0 n0, .int k1 n1, .int k2 n2, .int k3 n3, .int k4 n4]:=rfl
theorem Yd {v:Value} {k0:IntKind} {n0:Int} {k1:IntKind} {n1:Int} {k2:IntKind} {n2:Int} {k3:IntKind} {n3:Int} {k4:IntKind} {n4:Int} {k5:IntKind} {n5:Int}:dG (List.replicate 6 v) [(0,1, .int k0 n0),(1,1, .int k1 n1),(2,1, .int k2 n2),(3,1, .int k3 n3),(4,1, .int k4 n4),(5,1, .int k5 n5)]=some [.int k0 n0, .int k1 n1, .int k2 n2, .int k3 n3, .int k4 n4, .int k5 n5]:=rfl
theorem Ye {v:Value} {k0:IntKind} {n0:Int} {k1:IntKind} {n1:Int} {k2:IntKind} {n2:Int} {k3:IntKind} {n3:Int} {k4:IntKind} {n4:Int} {k5:IntKind} {n5:Int} {k6:IntKind} {n6:Int}:dG (List.replicate 7 v) [(0,1, .int k0 n0),(1,1, .int k1 n1),(2,1, .int k2 n2),(3,1, .int k3 n3),(4,1, .int k4 n4),(5,1, .int k5 n5),(6,1, .int k6 n6)]=some [.int k0 n0, .int k1 n1, .int k2 n2, .int k3 n3, .int k4 n4, .int k5 n5, .int k6 n6]:=rfl
theorem Yf {v:Value} {l0 e0:Nat} {c0:List Value}:dG (List.replicate 1 v) [(0,1,Fz l0 e0 c0)]=some [Fz l0 e0 c0]:=rfl
theorem Yg {v:Value} {l0 e0:Nat} {c0:List Value} {l1 e1:Nat} {c1:List Value}:dG (List.replicate 2 v) [(0,1,Fz l0 e0 c0),(1,1,Fz l1 e1 c1)]=some [Fz l0 e0 c0,Fz l1 e1 c1]:=rfl
theorem Yh {v:Value} {l0 e0:Nat} {c0:List Value} {l1 e1:Nat} {c1:List Value} {l2 e2:Nat} {c2:List Value}:dG (List.replicate 3 v) [(0,1,Fz l0 e0 c0),(1,1,Fz l1 e1 c1),(2,1,Fz l2 e2 c2)]=some [Fz l0 e0 c0,Fz l1 e1 c1,Fz l2 e2 c2]:=rfl
theorem Yi {v:Value} {s0:ByteArray}:dG (List.replicate 1 v) [(0,1, .string s0)]=some [.string s0]:=rfl
theorem Yj {v:Value} {s0:ByteArray} {s1:ByteArray}:dG (List.replicate 2 v) [(0,1, .string s0),(1,1, .string s1)]=some [.string s0, .string s1]:=rfl
theorem Yk {v:Value} {s0:ByteArray} {s1:ByteArray} {s2:ByteArray}:dG (List.replicate 3 v) [(0,1, .string s0),(1,1, .string s1),(2,1, .string s2)]=some [.string s0, .string s1, .string s2]:=rfl
theorem Yl {v:Value} {a0:Option Addr} {l0 e0:Nat}:dG (List.replicate 1 v) [(0,1, .slice a0 l0 e0)]=some [.slice a0 l0 e0]:=rfl
theorem Ym {v:Value} {a0:Option Addr} {l0 e0:Nat} {a1:Option Addr} {l1 e1:Nat}:dG (List.replicate 2 v) [(0,1, .slice a0 l0 e0),(1,1, .slice a1 l1 e1)]=some [.slice a0 l0 e0, .slice a1 l1 e1]:=rfl
theorem Yn {v:Value} {a0:Option Addr} {l0 e0:Nat} {a1:Option Addr} {l1 e1:Nat} {a2:Option Addr} {l2 e2:Nat}:dG (List.replicate 3 v) [(0,1, .slice a0 l0 e0),(1,1, .slice a1 l1 e1),(2,1, .slice a2 l2 e2)]=some [.slice a0 l0 e0, .slice a1 l1 e1, .slice a2 l2 e2]:=rfl
theorem Yo {v:Value} {b0:Bool}:dG (List.replicate 1 v) [(0,1, .bool b0)]=some [.bool b0]:=rfl
theorem Yp {v:Value} {b0:Bool} {b1:Bool}:dG (List.replicate 2 v) [(0,1, .bool b0),(1,1, .bool b1)]=some [.bool b0, .bool b1]:=rfl
theorem Yq {v:Value} {b0:Bool} {b1:Bool} {b2:Bool}:dG (List.replicate 3 v) [(0,1, .bool b0),(1,1, .bool b1),(2,1, .bool b2)]=some [.bool b0, .bool b1, .bool b2]:=rfl
theorem Yr {v:Value} {n:Nat}:fB [v] n=List.replicate n v:=SV v n
theorem FH {a b:Value} {l:List Value}:splice (a::l) 0 [b]=b::l:=rfl
theorem Yt {a b:Value} {l:List Value} {n:Nat}:splice (a::l) (n+1) [b]=a::splice l n [b]:=rfl
theorem FK {cs vs:List Value} (h:vs.length=cs.length):splice cs 0 vs=vs:=by
 simp [splice,h]
theorem JQ {k:IntKind} {n:Int}:iq (.int k n)=[.int k n]:=rfl
theorem Yu {b:Bool}:iq (.bool b)=[.bool b]:=rfl
theorem Yv {b:ByteArray}:iq (.string b)=[.string b]:=rfl
theorem Yw {l e:Nat} {cs:List Value}:iq (Fz l e cs)=[Fz l e cs]:=rfl
theorem JR {cs:List Value}:iq (eY cs)=cs:=rfl
theorem Yx {a:Option Addr} {l e:Nat}:iq (.slice a l e)=[.slice a l e]:=rfl
theorem Yy {k:IntKind} {n:Int}:nj (.int k n)=true:=rfl
theorem Yz {b:Bool}:nj (.bool b)=true:=rfl
theorem YA {b:ByteArray}:nj (.string b)=true:=rfl
theorem YB {l e:Nat} {cs:List Value}:nj (Fz l e cs)=true:=rfl
theorem YC {cs:List Value}:nj (eY cs)=true:=rfl
theorem YD {a:Option Addr} {l e:Nat}:nj (.slice a l e)=true:=rfl
theorem YE {cs:List Value} {b o n:Nat} {c:Bool} (h:o+n≤cs.length):fQ (some cs) H b o n (eY (List.replicate n (.bool c)))=some (undef,H.set b (some (splice cs o (List.replicate n (.bool c))))):=wZ (by simp) (by simp [jV]) h
theorem YF {cs:List Value} {b o n:Nat} {k:IntKind} {c:Int} (h:o+n≤cs.length):fQ (some cs) H b o n (eY (List.replicate n (.int k c)))=some (undef,H.set b (some (splice cs o (List.replicate n (.int k c))))):=wZ (by simp) (by simp [jV]) h
theorem OL {cs:List Value} {b o n:Nat} {p:List Nat} (hp:p.length=n) (h:o+n≤cs.length):fQ (some cs) H b o n (eY (p.map N8))=some (undef,H.set b (some (splice cs o (p.map N8)))):=wZ (by simpa using hp) Ak h
theorem YG {cs:List Value} {b o n:Nat} {p:List Int} (hp:p.length=n) (h:o+n≤cs.length):fQ (some cs) H b o n (eY (p.map I))=some (undef,H.set b (some (splice cs o (p.map I)))):=wZ (by simpa using hp) XV h
theorem YH {cs:List Value} {b o n:Nat} {p:List Bool} (hp:p.length=n) (h:o+n≤cs.length):fQ (some cs) H b o n (eY (p.map B))=some (undef,H.set b (some (splice cs o (p.map B)))):=wZ (by simpa using hp) OJ h
theorem YI {n:Nat} {p:List Nat} (hp:p.length=n):bV (some n) (p.map N8) 0=some (PL p):=by
 rw [Ai (by simp [hp]),List.drop_zero,List.take_of_length_le (by simp [hp])]
theorem YJ {n:Nat} {p:List Bool} (hp:p.length=n):bV (some n) (p.map B) 0=some (eY (p.map B)):=by
 rw [Ai (by simp [hp]),List.drop_zero,List.take_of_length_le (by simp [hp])]
theorem YK {n:Nat} {p:List Int} (hp:p.length=n):bV (some n) (p.map I) 0=some (eY (p.map I)):=by
 rw [Ai (by simp [hp]),List.drop_zero,List.take_of_length_le (by simp [hp])]
theorem YL {s:List Bool} {b o:Nat} {c:Bool} (h:o<s.length):fQ (some (s.map B)) H b o 1 (.bool c)=some (undef,H.set b (some ((s.set o c).map B))):=by
 rw [ak2 (by simpa using h),XU h]
theorem YM {s:List Nat} {b o c:Nat} (h:o<s.length):fQ (some (s.map N8)) H b o 1 (.int .u8 (c:Int))=some (undef,H.set b (some ((s.set o c).map N8))):=by
 rw [Aj (by simpa using h),XT h]
theorem YN {s:List Int} {b o:Nat} {c:Int} (h:o<s.length):fQ (some (s.map I)) H b o 1 (.int .i64 c)=some (undef,H.set b (some ((s.set o c).map I))):=by
 rw [Aj (by simpa using h),ak1 h]
theorem Ap {v:Value} {b n:Nat} {vs:List Value} (hp:vs.length=n) (h1:vs.all jV=true):fQ (some (List.replicate n v)) H b 0 n (eY vs)=some (undef,H.set b (some vs)):=by
 rw [wZ hp h1 (by simp),FK (by simpa using hp)]
theorem YO {v:Value} {b n:Nat} {p:List Nat} (hp:p.length=n):fQ (some (List.replicate n v)) H b 0 n (eY (p.map N8))=some (undef,H.set b (some (p.map N8))):=Ap (by simpa using hp) Ak
theorem YP {v:Value} {b n:Nat} {p:List Int} (hp:p.length=n):fQ (some (List.replicate n v)) H b 0 n (eY (p.map I))=some (undef,H.set b (some (p.map I))):=Ap (by simpa using hp) XV
theorem YQ {v:Value} {b n:Nat} {p:List Bool} (hp:p.length=n):fQ (some (List.replicate n v)) H b 0 n (eY (p.map B))=some (undef,H.set b (some (p.map B))):=Ap (by simpa using hp) OJ
theorem YR {v:Value} {b n:Nat} {c:Bool}:fQ (some (List.replicate n v)) H b 0 n (eY (List.replicate n (.bool c)))=some (undef,H.set b (some (List.replicate n (.bool c)))):=Ap (by simp) (by simp [jV])
theorem OM {v:Value} {b n:Nat} {k:IntKind} {c:Int}:fQ (some (List.replicate n v)) H b 0 n (eY (List.replicate n (.int k c)))=some (undef,H.set b (some (List.replicate n (.int k c)))):=Ap (by simp) (by simp [jV])
theorem YS {n:Nat} {c:Bool} (h:0<n):dG (List.replicate n (.bool false)) [(0,1, .bool c)]=some (((List.replicate n false).set 0 c).map B):=by
 simp only [dG,iq,List.length_singleton,List.length_replicate]
 rw [if_pos ⟨trivial,by omega⟩,show List.replicate n (Value.bool false)=(List.replicate n false).map B by simp,XU (by simpa using h)]
theorem ak4 {n:Nat} {c:Nat} (h:0<n):dG (List.replicate n (.int .u8 0)) [(0,1, .int .u8 (c:Int))]=some (((List.replicate n 0).set 0 c).map N8):=by
 simp only [dG,iq,List.length_singleton,List.length_replicate]
 rw [if_pos ⟨trivial,by omega⟩,show List.replicate n (Value.int .u8 0)=(List.replicate n 0).map N8 by simp,XT (by simpa using h)]
theorem YT {n:Nat} (h:0<n):dG (List.replicate n (.int .u8 0)) [(0,1, .int .u8 1)]=some (((List.replicate n 0).set 0 1).map N8):=ak4 (c:=1) h
theorem YU {v:Value} {b n:Nat} {c:Bool}:fQ (some (List.replicate n v)) H b 0 n (eY (((List.replicate n false).set 0 c).map B))=some (undef,H.set b (some (((List.replicate n false).set 0 c).map B))):=Ap (by simp) OJ
theorem YV {v:Value} {b n c:Nat}:fQ (some (List.replicate n v)) H b 0 n (eY (((List.replicate n 0).set 0 c).map N8))=some (undef,H.set b (some (((List.replicate n 0).set 0 c).map N8))):=Ap (by simp) Ak
theorem ak5 {n:Nat} {b:Bool}:List.replicate n (Value.bool b)=(List.replicate n b).map B:=by simp
theorem ap0 {n m:Nat}:List.replicate n (Value.int .u8 (m:Int))=(List.replicate n m).map N8:=by simp
theorem ap1 {n:Nat} {m:Int}:List.replicate n (Value.int .i64 m)=(List.replicate n m).map I:=by simp
end
def app1 (y:Option (List Value)) (c:Option (List Value)) (H:BH) (b l bytes cn:Nat):Option (Value×BH):=
 match c,y with
 |some cs,some [v]=>if l≤cs.length∧(l+1)*bytes≤140737488355328∧jV v=true then some (S H.length 0 (l+1) 1,(H.set b none)++[some (cs.take l++[v])]) else none
 | _,_=>lY 1 bytes (S b 0 l 1) (S cn 0 1 1) H
theorem YW {H:BH} {b c l bytes:Nat}:lY 1 bytes (S b 0 l 1) (S c 0 1 1) H=app1 (blk H c) (blk H b) H b l bytes c:=by
 unfold app1
 split
 ·rename_i cs v hb hc
  simp [lY,newC,hb,hc]
 ·rfl
section
variable {H:BH} {b bytes cn:Nat}
theorem CG {α:Type} {g:α→Value} {xs:List α} {y:α} (ho:jV (g y)=true) (h:(xs.length+1)*bytes≤140737488355328):app1 (some [g y]) (some (xs.map g)) H b xs.length bytes cn=some (S H.length 0 (xs.length+1) 1,(H.set b none)++[some ((xs++[y]).map g)]):=by
 simp only [app1]
 rw [if_pos ⟨by simp,h,ho⟩]
 simp [List.take_of_length_le]
theorem YX {xs:List Nat} {y:Nat} (h:(xs.length+1)*bytes≤140737488355328):app1 (some [.int .u8 (y:Int)]) (some (xs.map N8)) H b xs.length bytes cn=some (S H.length 0 (xs.length+1) 1,(H.set b none)++[some ((xs++[y]).map N8)]):=CG (g:=N8) rfl h
theorem YZ {xs:List Int} {y:Int} (h:(xs.length+1)*bytes≤140737488355328):app1 (some [.int .i64 y]) (some (xs.map I)) H b xs.length bytes cn=some (S H.length 0 (xs.length+1) 1,(H.set b none)++[some ((xs++[y]).map I)]):=CG (g:=I) rfl h
theorem Y0 {xs:List (List Int)} {y:List Int} (h:(xs.length+1)*bytes≤140737488355328):app1 (some [Fz y.length 1 (y.map I)]) (some (xs.map FI)) H b xs.length bytes cn=some (S H.length 0 (xs.length+1) 1,(H.set b none)++[some ((xs++[y]).map FI)]):=CG (g:=FI) rfl h
theorem ap2 {v:Value} (ho:jV v=true) (h:bytes≤140737488355328):app1 (some [v]) (some []) H b 0 bytes cn=some (S H.length 0 1 1,(H.set b none)++[some [v]]):=by
 simp only [app1]
 rw [if_pos ⟨by simp,by omega,ho⟩];rfl
end
theorem OO {α:Type} {g:α→Value} {ns:List Nat} {xs:List α} (h: ∀a,pl1 (g a)=true):ren ns (eY (xs.map g))=eY (xs.map g):=by
 simp only [ren]
 rw [if_pos (all_map h)]
theorem Y1 {ns:List Nat} {p:List Nat}:ren ns (PL p)=PL p:=OO fun _=>rfl
theorem Y2 {ns:List Nat} {p:List Bool}:ren ns (eY (p.map B))=eY (p.map B):=OO fun _=>rfl
theorem Y3 {ns:List Nat} {p:List Int}:ren ns (eY (p.map I))=eY (p.map I):=OO fun _=>rfl
theorem ji {k:Nat} {rs:List oU} {K:Value→BH→Prop} {f:Fr} {H:BH} {vs:List Value} {v1:Value} {H1:BH} (h:dS f H rs=some vs) (g:dK k (aF vs) H v1 H1) (hK:K v1 H1):jq k rs K .ret f H:=⟨vs,h,v1,H1,g,hK⟩
theorem ak6 {k:Nat} {rs:List oU} {K:Value→BH→Prop} {f:Fr} {H:BH} {vs:List Value} {v1:Value} {H1:BH} (h:dS f H rs=some vs) (g:dK k (aF vs) H v1 H1) (hK:K v1 H1):jq k rs K .normal f H:=⟨vs,h,v1,H1,g,hK⟩
theorem JU {k:Nat} {Q:Ex→Fr→BH→Prop} {f:Fr} {H:BH} {c:aN} {a b r:aj} {p:Prop} {t:Bool} (hc:ev f c= .bool t) (hp:t=true↔p) (h1:p→T k (.seq a r) Q f H) (h2: ¬p→T k (.seq b r) Q f H):T k (.seq (.cond c a b) r) Q f H:=by
 refine dW hc ?_
 cases t
 ·exact h2 fun h=>by simpa using hp.2 h
 ·exact h1 (hp.1 rfl)
theorem OQ {k:Nat} {Q:Ex→Fr→BH→Prop} {f:Fr} {H:BH} {c:aN} {a b:aj} {p:Prop} {t:Bool} (hc:ev f c= .bool t) (hp:t=true↔p) (h1:p→T k a Q f H) (h2: ¬p→T k b Q f H):T k (.cond c a b) Q f H:=by
 refine pJ hc ?_
 cases t
 ·exact h2 fun h=>by simpa using hp.2 h
 ·exact h1 (hp.1 rfl)
def Y4:aj→Option Ex
 | .exit i=>some (.exit i)
 | .ret=>some .ret
 | .skip=>some .normal
 | _=>none
theorem eG {k:Nat} {Q:Ex→Fr→BH→Prop} {f:Fr} {H:BH} {c:aj} {ex:Ex} (h:Y4 c=some ex) (hq:Q ex f H):T k c Q f H:=by
 cases c<;>simp only [Y4,Option.some.injEq,reduceCtorEq] at h<;>subst h
 ·exact wL hq
 ·exact TN hq
 ·exact Nq hq
def FM:List Nat→Bool
 |[]=>true
 |a::l=> !l.contains a&&FM l
theorem OT: ∀{l:List Nat},FM l=true→l.Nodup
 |[],_=>List.nodup_nil
 |a::l,h=>by
  simp only [FM,Bool.and_eq_true,Bool.not_eq_true',List.contains_eq_mem,decide_eq_false_iff_not] at h
  exact List.nodup_cons.2 ⟨h.1,OT h.2⟩
def CJ:Nat→Nat→List Nat→Bool
 | _,0,_=>true
 |j,k+1,a::ns=>Nat.beq a j&&CJ (j+1) k ns
 | _,_+1,[]=>false
theorem OU: ∀{j k:Nat} {ns:List Nat},CJ j k ns=true→ ∀i,i<k→ns[i]? =some (j+i)
 | _,0,_,_,i,hi=>absurd hi (Nat.not_lt_zero i)
 |j,k+1,[],h,_,_=>by simp [CJ] at h
 |j,k+1,a::ns,h,i,hi=>by
  simp only [CJ,Bool.and_eq_true] at h
  cases i with
  |zero=>simp [Nat.eq_of_beq_eq_true h.1]
  |succ i=>
   rw [List.getElem?_cons_succ,OU h.2 i (by omega)]
   simp
   omega
theorem Gh.nrm {k:Nat} {f:Fr} {H:BH} (ns:List Nat) (h1:FM ns=true) (h2:CJ 0 k ns=true) (hn:HN H):Gh k f H (fun t=>ren ns (f t)) (ns.map (blk H)):=
 Gh.norm ns (OT h1) (fun j hj=>by rw [OU h2 j hj,Nat.zero_add]) hn
theorem dK.nrm {k:Nat} {v:Value} {H:BH} (ns:List Nat) (h1:FM ns=true) (h2:CJ 0 k ns=true) (hn:HN H) (hv:NN v):dK k v H v (ns.map (blk H)):=
 dK.norm ns (OT h1) (fun j hj=>by rw [OU h2 j hj,Nat.zero_add]) hn hv
theorem Y5:aT []=True:=eq_true aT.nil
theorem Y6 {c:Value} {cs:List Value}:aT (c::cs)=(NN c∧aT cs):=propext ⟨fun h=>⟨h c (by simp),fun x hx=>h x (by simp [hx])⟩,fun h=>aT.cons h.1 h.2⟩
theorem Y7:HN []=True:=eq_true HN.nil
theorem Y8 {H:BH}:HN (none::H)=HN H:=propext ⟨fun h i cs hc=>h (i+1) cs (by simpa [blk] using hc),HN.none⟩
theorem Y9 {H:BH} {c:List Value}:HN (some c::H)=(aT c∧HN H):=propext ⟨fun h=>⟨h 0 c rfl,fun i cs hc=>h (i+1) cs (by simpa [blk] using hc)⟩,fun h=>HN.cons h.1 h.2⟩
theorem oG {cs:List Value} (h:aT cs):NN (.agg ⟨cs⟩):=NN.agg h
theorem Za {cs:List Value} (h:aT cs):NN (.tuple ⟨cs⟩):=NN.tuple h
theorem Zb {m:Nat} {cs:List Value} (h:aT cs):NN (.func (.func m) #[] ⟨cs⟩):=NN.func h
theorem Zc {as bs:List Value} (h:aT as) (k:aT bs):aT (as++bs):=aT.append h k
theorem Zd {n:Nat} {v:Value} (h:NN v):aT (List.replicate n v):=aT.replicate h
theorem Ze {p:List Nat}:aT (p.map N8):=aT.map fun _=>NN.int
theorem JV {p:List Int}:aT (p.map I):=aT.map fun _=>NN.int
theorem Zg {p:List Bool}:aT (p.map B):=aT.map fun _=>NN.bool
theorem Zh {p:List (List Int)}:aT (p.map FI):=aT.map fun _=>NN.fz
theorem Zi {k:IntKind} {α:Type} {g:α→Int} {p:List α}:aT (p.map fun x=>Value.int k (g x)):=aT.map fun _=>NN.int
theorem Zj {α:Type} {g:α→ByteArray} {p:List α}:aT (p.map fun x=>Value.string (g x)):=aT.map fun _=>NN.string
theorem RF:(type_of% @Jg)∧(type_of% @Ie)∧(type_of% @Ig)∧(type_of% @Ih)∧(type_of% @Ii)∧(type_of% @Ic):=⟨@Jg, @Ie, @Ig, @Ih, @Ii, @Ic⟩
theorem RO:(type_of% @Em)∧(type_of% @En)∧(type_of% @Eo)∧(type_of% @Ep)∧(type_of% @WZ)∧(type_of% @WM)∧(type_of% @Oj)∧(type_of% @WO)∧(type_of% @WQ)∧(type_of% @WR)∧(type_of% @WT)∧(type_of% @WU)∧(type_of% @WV)∧(type_of% @WW)∧(type_of% @WX)∧(type_of% @WY)∧(type_of% @Bool.true_and)∧(type_of% @Bool.and_true)∧(type_of% @Bool.not_false)∧(type_of% @Bool.and_self)∧(type_of% @Es)∧(type_of% @Et)∧(type_of% @Eu)∧(type_of% @Ew)∧(type_of% @Wq)∧(type_of% @Ey)∧(type_of% @Ez)∧(type_of% @EC)∧(type_of% @ED)∧(type_of% @Wu)∧(type_of% @EJ)∧(type_of% @EF)∧(type_of% @WH)∧(type_of% @Oh)∧(type_of% @EG)∧(type_of% @EH)∧(type_of% @EI)∧(type_of% @EK)∧(type_of% @Ad)∧(type_of% @EL)∧(type_of% @JI)∧(type_of% @Om)∧(type_of% @JJ)∧(type_of% @EN)∧(type_of% @EO)∧(type_of% @Oo)∧(type_of% @Oq)∧(type_of% @Ou)∧(type_of% @Xy)∧(type_of% @Ov)∧(type_of% @XB)∧(type_of% @EM)∧(type_of% @XF)∧(type_of% @XH)∧(type_of% @Ed)∧(type_of% @Ee)∧(type_of% @V3)∧(type_of% @Ir)∧(type_of% @Iu)∧(type_of% @Iy)∧(type_of% @Iz)∧(type_of% @jZ)∧(type_of% @V4)∧(type_of% @V5)∧(type_of% @V6)∧(type_of% @V7)∧(type_of% @V8)∧(type_of% @V9)∧(type_of% @Ef)∧(type_of% @IB)∧(type_of% @IC)∧(type_of% @Wh)∧(type_of% @Wi)∧(type_of% @Wj)∧(type_of% @Wn)∧(type_of% @Wp)∧(type_of% @IE)∧(type_of% @IG)∧(type_of% @II)∧(type_of% @IJ)∧(type_of% @IK)∧(type_of% @IQ)∧(type_of% @IU)∧(type_of% @Wv)∧(type_of% @Wx)∧(type_of% @WB)∧(type_of% @WC)∧(type_of% @WG)∧(type_of% @IV)∧(type_of% @ext1)∧(type_of% @JG)∧(type_of% @JH)∧(type_of% @JF)∧(type_of% @WL)∧(type_of% @Xm)∧(type_of% @Xn)∧(type_of% @Xo)∧(type_of% @Xp)∧(type_of% @Xq)∧(type_of% @Xr)∧(type_of% @Xt)∧(type_of% @Xu)∧(type_of% @Xw)∧(type_of% @Xx)∧(type_of% @Zk)∧(type_of% @Xz)∧(type_of% @XA)∧(type_of% @IY)∧(type_of% @IZ)∧(type_of% @I4)∧(type_of% @I5)∧(type_of% @I7)∧(type_of% @I8)∧(type_of% @I9)∧(type_of% @Ja)∧(type_of% @Jb)∧(type_of% @Jc)∧(type_of% @Jd)∧(type_of% @Je)∧(type_of% @Jf)∧(type_of% @TF)∧(type_of% @TG)∧(type_of% @TI)∧(type_of% @TJ)∧(type_of% @Oz)∧(type_of% @OA)∧(type_of% @OB)∧(type_of% @OC)∧(type_of% @OD)∧(type_of% @OE)∧(type_of% @OG)∧(type_of% @OH)∧(type_of% @XI)∧(type_of% @XJ)∧(type_of% @XK)∧(type_of% @XL)∧(type_of% @XM)∧(type_of% @XO)∧(type_of% @YW)∧(type_of% @XW)∧(type_of% @XY)∧(type_of% @XZ)∧(type_of% @X0)∧(type_of% @X3)∧(type_of% @X4)∧(type_of% @X5)∧(type_of% @X7)∧(type_of% @Yr)∧(type_of% @X8)∧(type_of% @X9)∧(type_of% @Ya)∧(type_of% @Yb)∧(type_of% @Yc)∧(type_of% @Yd)∧(type_of% @Ye)∧(type_of% @Yf)∧(type_of% @Yg)∧(type_of% @Yh)∧(type_of% @Yi)∧(type_of% @Yj)∧(type_of% @Yk)∧(type_of% @Yl)∧(type_of% @Ym)∧(type_of% @Yn)∧(type_of% @Yo)∧(type_of% @Yp)∧(type_of% @Yq)∧(type_of% @JQ)∧(type_of% @Yu)∧(type_of% @Yv)∧(type_of% @Yw)∧(type_of% @JR)∧(type_of% @Yx)∧(type_of% @Yy)∧(type_of% @Yz)∧(type_of% @YA)∧(type_of% @YB)∧(type_of% @YC)∧(type_of% @YD)∧(type_of% @FH)∧(type_of% @Yt)∧(type_of% @List.replicate_zero.{0})∧(type_of% @id_eq.{1}):=⟨@Em, @En, @Eo, @Ep, @WZ, @WM, @Oj, @WO, @WQ, @WR, @WT, @WU, @WV, @WW, @WX, @WY, @Bool.true_and, @Bool.and_true, @Bool.not_false, @Bool.and_self, @Es, @Et, @Eu, @Ew, @Wq, @Ey, @Ez, @EC, @ED, @Wu, @EJ, @EF, @WH, @Oh, @EG, @EH, @EI, @EK, @Ad, @EL, @JI, @Om, @JJ, @EN, @EO, @Oo, @Oq, @Ou, @Xy, @Ov, @XB, @EM, @XF, @XH, @Ed, @Ee, @V3, @Ir, @Iu, @Iy, @Iz, @jZ, @V4, @V5, @V6, @V7, @V8, @V9, @Ef, @IB, @IC, @Wh, @Wi, @Wj, @Wn, @Wp, @IE, @IG, @II, @IJ, @IK, @IQ, @IU, @Wv, @Wx, @WB, @WC, @WG, @IV, @ext1, @JG, @JH, @JF, @WL, @Xm, @Xn, @Xo, @Xp, @Xq, @Xr, @Xt, @Xu, @Xw, @Xx, @Zk, @Xz, @XA, @IY, @IZ, @I4, @I5, @I7, @I8, @I9, @Ja, @Jb, @Jc, @Jd, @Je, @Jf, @TF, @TG, @TI, @TJ, @Oz, @OA, @OB, @OC, @OD, @OE, @OG, @OH, @XI, @XJ, @XK, @XL, @XM, @XO, @YW, @XW, @XY, @XZ, @X0, @X3, @X4, @X5, @X7, @Yr, @X8, @X9, @Ya, @Yb, @Yc, @Yd, @Ye, @Yf, @Yg, @Yh, @Yi, @Yj, @Yk, @Yl, @Ym, @Yn, @Yo, @Yp, @Yq, @JQ, @Yu, @Yv, @Yw, @JR, @Yx, @Yy, @Yz, @YA, @YB, @YC, @YD, @FH, @Yt, @List.replicate_zero.{0}, @id_eq.{1}⟩
theorem RC:(type_of% @List.map_cons.{0,0})∧(type_of% @List.map_nil.{0,0})∧(type_of% @Option.map_some.{0,0})∧(type_of% @Option.map_none.{0,0})∧(type_of% @ge_iff_le.{0})∧(type_of% @gt_iff_lt.{0})∧(type_of% @decide_eq_true_eq)∧(type_of% @beq_self_eq_true.{0})∧(type_of% @bne_self_eq_false.{0})∧(type_of% @decide_true)∧(type_of% @decide_false)∧(type_of% @Bool.not_true)∧(type_of% @Bool.not_false)∧(type_of% @and_true)∧(type_of% @true_and)∧(type_of% @and_self)∧(type_of% @Bool.false_eq_true)∧(type_of% @beq_iff_eq.{0})∧(type_of% @Int.natCast_nonneg)∧(type_of% @Int.ofNat_lt)∧(type_of% @Int.ofNat_le)∧(type_of% @Int.ofNat_inj)∧(type_of% @Int.toNat_natCast)∧(type_of% @Nat.mul_one)∧(type_of% @Nat.one_mul)∧(type_of% @Nat.zero_add)∧(type_of% @Nat.add_zero)∧(type_of% @Nat.sub_zero)∧(type_of% @List.length_append.{0})∧(type_of% @List.length_map.{0,0})∧(type_of% @List.length_cons.{0})∧(type_of% @List.length_nil.{0})∧(type_of% @List.length_set.{0})∧(type_of% @List.length_replicate.{0})∧(type_of% @List.all_cons.{0})∧(type_of% @List.all_nil.{0})∧(type_of% @Bool.and_true)∧(type_of% @Bool.true_and)∧(type_of% @Bool.not_eq_true)∧(type_of% @beq_true)∧(type_of% @beq_false)∧(type_of% @true_implies)∧(type_of% @false_implies)∧(type_of% @decide_eq_false_iff_not)∧(type_of% @bne_iff_ne.{0})∧(type_of% @ne_eq.{1})∧(type_of% @not_true_eq_false)∧(type_of% @not_false_eq_true)∧(type_of% @Int.natCast_zero)∧(type_of% @Int.toNat_zero)∧(type_of% @List.cons_append.{0})∧(type_of% @List.nil_append.{0})∧(type_of% @List.set_cons_zero.{0})∧(type_of% @List.set_cons_succ.{0}):=⟨@List.map_cons.{0,0}, @List.map_nil.{0,0}, @Option.map_some.{0,0}, @Option.map_none.{0,0}, @ge_iff_le.{0}, @gt_iff_lt.{0}, @decide_eq_true_eq, @beq_self_eq_true.{0}, @bne_self_eq_false.{0}, @decide_true, @decide_false, @Bool.not_true, @Bool.not_false, @and_true, @true_and, @and_self, @Bool.false_eq_true, @beq_iff_eq.{0}, @Int.natCast_nonneg, @Int.ofNat_lt, @Int.ofNat_le, @Int.ofNat_inj, @Int.toNat_natCast, @Nat.mul_one, @Nat.one_mul, @Nat.zero_add, @Nat.add_zero, @Nat.sub_zero, @List.length_append.{0}, @List.length_map.{0,0}, @List.length_cons.{0}, @List.length_nil.{0}, @List.length_set.{0}, @List.length_replicate.{0}, @List.all_cons.{0}, @List.all_nil.{0}, @Bool.and_true, @Bool.true_and, @Bool.not_eq_true, @beq_true, @beq_false, @true_implies, @false_implies, @decide_eq_false_iff_not, @bne_iff_ne.{0}, @ne_eq.{1}, @not_true_eq_false, @not_false_eq_true, @Int.natCast_zero, @Int.toNat_zero, @List.cons_append.{0}, @List.nil_append.{0}, @List.set_cons_zero.{0}, @List.set_cons_succ.{0}⟩
theorem RD:(type_of% @dZ)∧(type_of% @eF)∧(type_of% @BA)∧(type_of% @w8)∧(type_of% @Ij)∧(type_of% @Ik)∧(type_of% @Il)∧(type_of% @Io)∧(type_of% @Ip)∧(type_of% @Iq)∧(type_of% @JD)∧(type_of% @JE)∧(type_of% @WI)∧(type_of% @WJ)∧(type_of% @XQ)∧(type_of% @JO)∧(type_of% @OI)∧(type_of% @XR)∧(type_of% @YL)∧(type_of% @YM)∧(type_of% @YN)∧(type_of% @X6)∧(type_of% @Xv)∧(type_of% @YX)∧(type_of% @YZ)∧(type_of% @Y0)∧(type_of% @YS)∧(type_of% @YT)∧(type_of% @YU)∧(type_of% @YV)∧(type_of% @FK)∧(type_of% @YR)∧(type_of% @OM)∧(type_of% @YO)∧(type_of% @YP)∧(type_of% @YQ)∧(type_of% @YE)∧(type_of% @YF)∧(type_of% @OL)∧(type_of% @YG)∧(type_of% @YH)∧(type_of% @YI)∧(type_of% @YJ)∧(type_of% @YK)∧(type_of% @Oy)∧(type_of% @XC)∧(type_of% @XD):=⟨@dZ, @eF, @BA, @w8, @Ij, @Ik, @Il, @Io, @Ip, @Iq, @JD, @JE, @WI, @WJ, @XQ, @JO, @OI, @XR, @YL, @YM, @YN, @X6, @Xv, @YX, @YZ, @Y0, @YS, @YT, @YU, @YV, @FK, @YR, @OM, @YO, @YP, @YQ, @YE, @YF, @OL, @YG, @YH, @YI, @YJ, @YK, @Oy, @XC, @XD⟩
theorem RK:(type_of% @Xb)∧(type_of% @Xa)∧(type_of% @Xc)∧(type_of% @Xd)∧(type_of% @Xe)∧(type_of% @Xf)∧(type_of% @Xg)∧(type_of% @Xl)∧(type_of% @Xi)∧(type_of% @Ol)∧(type_of% @Xj)∧(type_of% @Xk):=⟨@Xb, @Xa, @Xc, @Xd, @Xe, @Xf, @Xg, @Xl, @Xi, @Ol, @Xj, @Xk⟩
theorem RZ:(type_of% @Zl)∧(type_of% @Zm)∧(type_of% @Zn)∧(type_of% @Zp)∧(type_of% @Zq)∧(type_of% @Zr)∧(type_of% @Zt)∧(type_of% @List.map_cons.{0,0})∧(type_of% @List.map_nil.{0,0})∧(type_of% @List.set_cons_zero.{0})∧(type_of% @List.set_cons_succ.{0}):=⟨@Zl, @Zm, @Zn, @Zp, @Zq, @Zr, @Zt, @List.map_cons.{0,0}, @List.map_nil.{0,0}, @List.set_cons_zero.{0}, @List.set_cons_succ.{0}⟩
theorem RN:(type_of% @aG)∧(type_of% @D8)∧(type_of% @D9)∧(type_of% @Ea)∧(type_of% @if_true.{1})∧(type_of% @if_false.{1})∧(type_of% @Bool.false_eq_true):=⟨@aG, @D8, @D9, @Ea, @if_true.{1}, @if_false.{1}, @Bool.false_eq_true⟩
theorem RA:(type_of% @RF)∧(type_of% @RO)∧(type_of% @RC):=⟨@RF, @RO, @RC⟩
theorem RB:(type_of% @decide_eq_true_eq)∧(type_of% @Bool.or_eq_true)∧(type_of% @Bool.and_eq_true)∧(type_of% @Bool.not_eq_true')∧(type_of% @decide_eq_false_iff_not)∧(type_of% @Bool.not_eq_eq_eq_not)∧(type_of% @Bool.not_true)∧(type_of% @Bool.not_false)∧(type_of% @beq_iff_eq.{0})∧(type_of% @Bool.false_eq_true):=⟨@decide_eq_true_eq, @Bool.or_eq_true, @Bool.and_eq_true, @Bool.not_eq_true', @decide_eq_false_iff_not, @Bool.not_eq_eq_eq_not, @Bool.not_true, @Bool.not_false, @beq_iff_eq.{0}, @Bool.false_eq_true⟩
theorem RE:(type_of% @Y1)∧(type_of% @Y2)∧(type_of% @Y3):=⟨@Y1, @Y2, @Y3⟩
theorem RH:(type_of% @Y5)∧(type_of% @Y6)∧(type_of% @Y7)∧(type_of% @Y8)∧(type_of% @Y9)∧(type_of% @oG)∧(type_of% @Za)∧(type_of% @Zb)∧(type_of% @Zc)∧(type_of% @Zd)∧(type_of% @Ze)∧(type_of% @JV)∧(type_of% @Zg)∧(type_of% @Zh)∧(type_of% @Zi)∧(type_of% @Zj)∧(type_of% @NN.int)∧(type_of% @NN.bool)∧(type_of% @NN.string)∧(type_of% @NN.nil)∧(type_of% @NN.undef)∧(type_of% @NN.fz)∧(type_of% @and_true)∧(type_of% @true_and)∧(type_of% @and_self):=⟨@Y5, @Y6, @Y7, @Y8, @Y9, @oG, @Za, @Zb, @Zc, @Zd, @Ze, @JV, @Zg, @Zh, @Zi, @Zj, @NN.int, @NN.bool, @NN.string, @NN.nil, @NN.undef, @NN.fz, @and_true, @true_and, @and_self⟩
theorem aB {k:Nat} {Q:Ex→Fr→BH→Prop} {f:Fr} {H:BH} {d:Option Nat} {l:List cO} {b:aj} {f1:Fr} {H1:BH} {p:Prop} (hp:p) (h: ∀K:Fr→BH→Prop,K f1 H1→opsT d l K f H:=by intro _ h;simp (disch:=omega) only [RA,↓reduceIte,Nat.reduceEqDiff,Nat.reduceBEq,Nat.reduceSub,Nat.reduceAdd,Nat.reduceMul,Nat.reduceLT,Nat.reduceLeDiff,Int.reduceLE,Int.reduceLT,Int.reduceEq,Int.reduceNeg,Int.reduceToNat,Int.reduceMul,Int.reduceAdd,Int.reduceSub,Int.reduceBEq,Int.reduceBNe,reduceCtorEq,RD];exact h) (e:p→T k b Q f1 H1:=by intro h;(try simp only [RN,reduceIte]);first|exact eG rfl h|exact h):T k (.seq (.region d l) b) Q f H:=bD fun _ hK=>h _ (hK _ _ (e hp))
theorem au {k:Nat} {Q:Ex→Fr→BH→Prop} {f:Fr} {H:BH} {d:Option Nat} {l:List cO} {b:aj} {f1:Fr} {H1:BH} {p:Prop} {A:Prop} (a:A) (hp:p) (h:A→ ∀K:Fr→BH→Prop,K f1 H1→opsT d l K f H:=by intro q;intro _ h;simp (disch:=omega) only [RA,↓reduceIte,Nat.reduceEqDiff,Nat.reduceBEq,Nat.reduceSub,Nat.reduceAdd,Nat.reduceMul,Nat.reduceLT,Nat.reduceLeDiff,Int.reduceLE,Int.reduceLT,Int.reduceEq,Int.reduceNeg,Int.reduceToNat,Int.reduceMul,Int.reduceAdd,Int.reduceSub,Int.reduceBEq,Int.reduceBNe,reduceCtorEq,RD,q];exact h) (e:p→T k b Q f1 H1:=by intro h;(try simp only [RN,reduceIte]);first|exact eG rfl h|exact h):T k (.seq (.region d l) b) Q f H:=bD fun _ hK=>(h a) _ (hK _ _ (e hp))
theorem dB {k:Nat} {Q:Ex→Fr→BH→Prop} {f:Fr} {H:BH} {d:Option Nat} {l:List cO} {b:aj} {G:(Fr→BH→Prop)→Prop} (g: ∀K:Fr→BH→Prop,(∀f1 H1,T k b Q f1 H1→K f1 H1)→G K) (h: ∀K:Fr→BH→Prop,G K→opsT d l K f H:=by intro _ h;simp (disch:=omega) only [RA,↓reduceIte,Nat.reduceEqDiff,Nat.reduceBEq,Nat.reduceSub,Nat.reduceAdd,Nat.reduceMul,Nat.reduceLT,Nat.reduceLeDiff,Int.reduceLE,Int.reduceLT,Int.reduceEq,Int.reduceNeg,Int.reduceToNat,Int.reduceMul,Int.reduceAdd,Int.reduceSub,Int.reduceBEq,Int.reduceBNe,reduceCtorEq,RD];exact h):T k (.seq (.region d l) b) Q f H:=bD fun K hK=>h K (g K hK)
theorem aY {k:Nat} {Q:Ex→Fr→BH→Prop} {f:Fr} {H:BH} {d:Option Nat} {l:List cO} {b:aj} {G:(Fr→BH→Prop)→Prop} {A:Prop} (a:A) (g: ∀K:Fr→BH→Prop,(∀f1 H1,T k b Q f1 H1→K f1 H1)→G K) (h:A→ ∀K:Fr→BH→Prop,G K→opsT d l K f H:=by intro q;intro _ h;simp (disch:=omega) only [RA,↓reduceIte,Nat.reduceEqDiff,Nat.reduceBEq,Nat.reduceSub,Nat.reduceAdd,Nat.reduceMul,Nat.reduceLT,Nat.reduceLeDiff,Int.reduceLE,Int.reduceLT,Int.reduceEq,Int.reduceNeg,Int.reduceToNat,Int.reduceMul,Int.reduceAdd,Int.reduceSub,Int.reduceBEq,Int.reduceBNe,reduceCtorEq,RD,q];exact h):T k (.seq (.region d l) b) Q f H:=bD fun K hK=>(h a) K (g K hK)
theorem FP {k:Nat} {Q:Ex→Fr→BH→Prop} {f:Fr} {H:BH} {d:Option Nat} {l:List cO} {f1:Fr} {H1:BH} (hp:Q .normal f1 H1) (h: ∀K:Fr→BH→Prop,K f1 H1→opsT d l K f H:=by intro _ h;simp (disch:=omega) only [RA,↓reduceIte,Nat.reduceEqDiff,Nat.reduceBEq,Nat.reduceSub,Nat.reduceAdd,Nat.reduceMul,Nat.reduceLT,Nat.reduceLeDiff,Int.reduceLE,Int.reduceLT,Int.reduceEq,Int.reduceNeg,Int.reduceToNat,Int.reduceMul,Int.reduceAdd,Int.reduceSub,Int.reduceBEq,Int.reduceBNe,reduceCtorEq,RD];exact h):T k (.region d l) Q f H:=oQ fun _ hK=>h _ (hK _ _ hp)
theorem bI {k:Nat} {Q:Ex→Fr→BH→Prop} {f:Fr} {H:BH} {d:Option Nat} {l:List cO} {f1:Fr} {H1:BH} {A:Prop} (a:A) (hp:Q .normal f1 H1) (h:A→ ∀K:Fr→BH→Prop,K f1 H1→opsT d l K f H:=by intro q;intro _ h;simp (disch:=omega) only [RA,↓reduceIte,Nat.reduceEqDiff,Nat.reduceBEq,Nat.reduceSub,Nat.reduceAdd,Nat.reduceMul,Nat.reduceLT,Nat.reduceLeDiff,Int.reduceLE,Int.reduceLT,Int.reduceEq,Int.reduceNeg,Int.reduceToNat,Int.reduceMul,Int.reduceAdd,Int.reduceSub,Int.reduceBEq,Int.reduceBNe,reduceCtorEq,RD,q];exact h):T k (.region d l) Q f H:=oQ fun _ hK=>(h a) _ (hK _ _ hp)
theorem aO {p q:Prop} (hp:p) (e:(p→q):=by intro h;simp (disch:=omega) only [RA,↓reduceIte,Nat.reduceEqDiff,Nat.reduceBEq,Nat.reduceSub,Nat.reduceAdd,Nat.reduceMul,Nat.reduceLT,Nat.reduceLeDiff,Int.reduceLE,Int.reduceLT,Int.reduceEq,Int.reduceNeg,Int.reduceToNat,Int.reduceMul,Int.reduceAdd,Int.reduceSub,Int.reduceBEq,Int.reduceBNe,reduceCtorEq,RD];exact h):q:=e hp
theorem bP {p q:Prop} {A:Prop} (a:A) (hp:p) (e:A→(p→q):=by intro q;intro h;simp (disch:=omega) only [RA,↓reduceIte,Nat.reduceEqDiff,Nat.reduceBEq,Nat.reduceSub,Nat.reduceAdd,Nat.reduceMul,Nat.reduceLT,Nat.reduceLeDiff,Int.reduceLE,Int.reduceLT,Int.reduceEq,Int.reduceNeg,Int.reduceToNat,Int.reduceMul,Int.reduceAdd,Int.reduceSub,Int.reduceBEq,Int.reduceBNe,reduceCtorEq,RD,q];exact h):q:=(e a) hp
theorem dI {k:Nat} {Q:Ex→Fr→BH→Prop} {f:Fr} {H:BH} {c:aN} {a1 b1 r:aj} {p:Prop} (hp:p) (h:ev f c= .bool true:=by simp (disch:=omega) only [RA,↓reduceIte,Nat.reduceEqDiff,Nat.reduceBEq,Nat.reduceSub,Nat.reduceAdd,Nat.reduceMul,Nat.reduceLT,Nat.reduceLeDiff,Int.reduceLE,Int.reduceLT,Int.reduceEq,Int.reduceNeg,Int.reduceToNat,Int.reduceMul,Int.reduceAdd,Int.reduceSub,Int.reduceBEq,Int.reduceBNe,reduceCtorEq,RD]) (e:p→T k (.seq a1 r) Q f H:=by intro h;(try simp only [RN,reduceIte]);first|exact eG rfl h|exact h):T k (.seq (.cond c a1 b1) r) Q f H:=dW (t:=true) h (e hp)
theorem qL {k:Nat} {Q:Ex→Fr→BH→Prop} {f:Fr} {H:BH} {c:aN} {a1 b1 r:aj} {p:Prop} {A:Prop} (a:A) (hp:p) (h:A→ev f c= .bool true:=by intro q;simp (disch:=omega) only [RA,↓reduceIte,Nat.reduceEqDiff,Nat.reduceBEq,Nat.reduceSub,Nat.reduceAdd,Nat.reduceMul,Nat.reduceLT,Nat.reduceLeDiff,Int.reduceLE,Int.reduceLT,Int.reduceEq,Int.reduceNeg,Int.reduceToNat,Int.reduceMul,Int.reduceAdd,Int.reduceSub,Int.reduceBEq,Int.reduceBNe,reduceCtorEq,RD,q]) (e:p→T k (.seq a1 r) Q f H:=by intro h;(try simp only [RN,reduceIte]);first|exact eG rfl h|exact h):T k (.seq (.cond c a1 b1) r) Q f H:=dW (t:=true) (h a) (e hp)
theorem bY {k:Nat} {Q:Ex→Fr→BH→Prop} {f:Fr} {H:BH} {c:aN} {a1 b1 r:aj} {p:Prop} (hp:p) (h:ev f c= .bool false:=by simp (disch:=omega) only [RA,↓reduceIte,Nat.reduceEqDiff,Nat.reduceBEq,Nat.reduceSub,Nat.reduceAdd,Nat.reduceMul,Nat.reduceLT,Nat.reduceLeDiff,Int.reduceLE,Int.reduceLT,Int.reduceEq,Int.reduceNeg,Int.reduceToNat,Int.reduceMul,Int.reduceAdd,Int.reduceSub,Int.reduceBEq,Int.reduceBNe,reduceCtorEq,RD]) (e:p→T k (.seq b1 r) Q f H:=by intro h;(try simp only [RN,reduceIte]);first|exact eG rfl h|exact h):T k (.seq (.cond c a1 b1) r) Q f H:=dW (t:=false) h (e hp)
theorem oZ {k:Nat} {Q:Ex→Fr→BH→Prop} {f:Fr} {H:BH} {c:aN} {a1 b1 r:aj} {p:Prop} {A:Prop} (a:A) (hp:p) (h:A→ev f c= .bool false:=by intro q;simp (disch:=omega) only [RA,↓reduceIte,Nat.reduceEqDiff,Nat.reduceBEq,Nat.reduceSub,Nat.reduceAdd,Nat.reduceMul,Nat.reduceLT,Nat.reduceLeDiff,Int.reduceLE,Int.reduceLT,Int.reduceEq,Int.reduceNeg,Int.reduceToNat,Int.reduceMul,Int.reduceAdd,Int.reduceSub,Int.reduceBEq,Int.reduceBNe,reduceCtorEq,RD,q]) (e:p→T k (.seq b1 r) Q f H:=by intro h;(try simp only [RN,reduceIte]);first|exact eG rfl h|exact h):T k (.seq (.cond c a1 b1) r) Q f H:=dW (t:=false) (h a) (e hp)
theorem aV {k:Nat} {Q:Ex→Fr→BH→Prop} {f:Fr} {H:BH} {c:aN} {a1 b1 r:aj} {t:Bool} {p1 p2:Prop} (p:Prop) (h1:p→p1) (h2: ¬p→p2) (h:ev f c= .bool t:=by simp only [RA,↓reduceIte,Nat.reduceEqDiff,Nat.reduceBEq,Nat.reduceSub,Nat.reduceAdd,Nat.reduceMul,Nat.reduceLT,Nat.reduceLeDiff,Int.reduceLE,Int.reduceLT,Int.reduceEq,Int.reduceNeg,Int.reduceToNat,Int.reduceMul,Int.reduceAdd,Int.reduceSub,Int.reduceBEq,Int.reduceBNe,reduceCtorEq]<;>rfl) (hp:t=true↔p:=by (try simp only [RB])<;>first|done|exact Iff.rfl|omega|simp) (e1:p→p1→T k (.seq a1 r) Q f H:=by intro hc h;(try simp only [RN,reduceIte]);first|exact eG rfl h|exact h) (e2: ¬p→p2→T k (.seq b1 r) Q f H:=by intro hc h;(try simp only [RN,reduceIte]);first|exact eG rfl h|exact h):T k (.seq (.cond c a1 b1) r) Q f H:=JU h hp (fun h=>e1 h (h1 h)) fun h=>e2 h (h2 h)
theorem ap3 {k:Nat} {Q:Ex→Fr→BH→Prop} {f:Fr} {H:BH} {c:aN} {a1 b1 r:aj} {t:Bool} {p1 p2:Prop} {A:Prop} (a:A) (p:Prop) (h1:p→p1) (h2: ¬p→p2) (h:A→ev f c= .bool t:=by intro q;simp only [RA,↓reduceIte,Nat.reduceEqDiff,Nat.reduceBEq,Nat.reduceSub,Nat.reduceAdd,Nat.reduceMul,Nat.reduceLT,Nat.reduceLeDiff,Int.reduceLE,Int.reduceLT,Int.reduceEq,Int.reduceNeg,Int.reduceToNat,Int.reduceMul,Int.reduceAdd,Int.reduceSub,Int.reduceBEq,Int.reduceBNe,reduceCtorEq,q]<;>rfl) (hp:t=true↔p:=by (try simp only [RB])<;>first|done|exact Iff.rfl|omega|simp) (e1:p→p1→T k (.seq a1 r) Q f H:=by intro hc h;(try simp only [RN,reduceIte]);first|exact eG rfl h|exact h) (e2: ¬p→p2→T k (.seq b1 r) Q f H:=by intro hc h;(try simp only [RN,reduceIte]);first|exact eG rfl h|exact h):T k (.seq (.cond c a1 b1) r) Q f H:=JU (h a) hp (fun h=>e1 h (h1 h)) fun h=>e2 h (h2 h)
theorem xg {k:Nat} {Q:Ex→Fr→BH→Prop} {f:Fr} {H:BH} {c:aN} {a1 b1:aj} {t:Bool} {p1 p2:Prop} (p:Prop) (h1:p→p1) (h2: ¬p→p2) (h:ev f c= .bool t:=by simp only [RA,↓reduceIte,Nat.reduceEqDiff,Nat.reduceBEq,Nat.reduceSub,Nat.reduceAdd,Nat.reduceMul,Nat.reduceLT,Nat.reduceLeDiff,Int.reduceLE,Int.reduceLT,Int.reduceEq,Int.reduceNeg,Int.reduceToNat,Int.reduceMul,Int.reduceAdd,Int.reduceSub,Int.reduceBEq,Int.reduceBNe,reduceCtorEq]<;>rfl) (hp:t=true↔p:=by (try simp only [RB])<;>first|done|exact Iff.rfl|omega|simp) (e1:p→p1→T k (a1) Q f H:=by intro hc h;(try simp only [RN,reduceIte]);first|exact eG rfl h|exact h) (e2: ¬p→p2→T k (b1) Q f H:=by intro hc h;(try simp only [RN,reduceIte]);first|exact eG rfl h|exact h):T k (.cond c a1 b1) Q f H:=OQ h hp (fun h=>e1 h (h1 h)) fun h=>e2 h (h2 h)
theorem ap4 {k:Nat} {Q:Ex→Fr→BH→Prop} {f:Fr} {H:BH} {c:aN} {a1 b1:aj} {t:Bool} {p1 p2:Prop} {A:Prop} (a:A) (p:Prop) (h1:p→p1) (h2: ¬p→p2) (h:A→ev f c= .bool t:=by intro q;simp only [RA,↓reduceIte,Nat.reduceEqDiff,Nat.reduceBEq,Nat.reduceSub,Nat.reduceAdd,Nat.reduceMul,Nat.reduceLT,Nat.reduceLeDiff,Int.reduceLE,Int.reduceLT,Int.reduceEq,Int.reduceNeg,Int.reduceToNat,Int.reduceMul,Int.reduceAdd,Int.reduceSub,Int.reduceBEq,Int.reduceBNe,reduceCtorEq,q]<;>rfl) (hp:t=true↔p:=by (try simp only [RB])<;>first|done|exact Iff.rfl|omega|simp) (e1:p→p1→T k (a1) Q f H:=by intro hc h;(try simp only [RN,reduceIte]);first|exact eG rfl h|exact h) (e2: ¬p→p2→T k (b1) Q f H:=by intro hc h;(try simp only [RN,reduceIte]);first|exact eG rfl h|exact h):T k (.cond c a1 b1) Q f H:=OQ (h a) hp (fun h=>e1 h (h1 h)) fun h=>e2 h (h2 h)
theorem aU {k:Nat} {f:Fr} {H:BH} {rs:List oU} {K:Value→BH→Prop} {vs:List Value} {p:Prop} (hp:p) (h:dS f H rs=some vs:=by simp (disch:=omega) only [RA,↓reduceIte,Nat.reduceEqDiff,Nat.reduceBEq,Nat.reduceSub,Nat.reduceAdd,Nat.reduceMul,Nat.reduceLT,Nat.reduceLeDiff,Int.reduceLE,Int.reduceLT,Int.reduceEq,Int.reduceNeg,Int.reduceToNat,Int.reduceMul,Int.reduceAdd,Int.reduceSub,Int.reduceBEq,Int.reduceBNe,reduceCtorEq,RD,dS,gJ];rfl) (e:p→K (aF vs) H:=by intro h;simp only [aF];exact h):jq k rs K .ret f H:=ji h .refl (e hp)
theorem lD {k:Nat} {f:Fr} {H:BH} {rs:List oU} {K:Value→BH→Prop} {vs:List Value} {p:Prop} {A:Prop} (a:A) (hp:p) (h:A→dS f H rs=some vs:=by intro q;simp (disch:=omega) only [RA,↓reduceIte,Nat.reduceEqDiff,Nat.reduceBEq,Nat.reduceSub,Nat.reduceAdd,Nat.reduceMul,Nat.reduceLT,Nat.reduceLeDiff,Int.reduceLE,Int.reduceLT,Int.reduceEq,Int.reduceNeg,Int.reduceToNat,Int.reduceMul,Int.reduceAdd,Int.reduceSub,Int.reduceBEq,Int.reduceBNe,reduceCtorEq,RD,dS,gJ,q];rfl) (e:p→K (aF vs) H:=by intro h;simp only [aF];exact h):jq k rs K .ret f H:=ji (h a) .refl (e hp)
theorem Zu {k:Nat} {f:Fr} {H:BH} {rs:List oU} {K:Value→BH→Prop} {vs:List Value} (h:dS f H rs=some vs:=by simp (disch:=omega) only [RA,↓reduceIte,Nat.reduceEqDiff,Nat.reduceBEq,Nat.reduceSub,Nat.reduceAdd,Nat.reduceMul,Nat.reduceLT,Nat.reduceLeDiff,Int.reduceLE,Int.reduceLT,Int.reduceEq,Int.reduceNeg,Int.reduceToNat,Int.reduceMul,Int.reduceAdd,Int.reduceSub,Int.reduceBEq,Int.reduceBNe,reduceCtorEq,RD,dS,gJ];rfl) (e:K (aF vs) H:=by simp only [aF]):jq k rs K .ret f H:=ji h .refl e
theorem ap5 {k:Nat} {f:Fr} {H:BH} {rs:List oU} {K:Value→BH→Prop} {vs:List Value} {A:Prop} (a:A) (h:A→dS f H rs=some vs:=by intro q;simp (disch:=omega) only [RA,↓reduceIte,Nat.reduceEqDiff,Nat.reduceBEq,Nat.reduceSub,Nat.reduceAdd,Nat.reduceMul,Nat.reduceLT,Nat.reduceLeDiff,Int.reduceLE,Int.reduceLT,Int.reduceEq,Int.reduceNeg,Int.reduceToNat,Int.reduceMul,Int.reduceAdd,Int.reduceSub,Int.reduceBEq,Int.reduceBNe,reduceCtorEq,RD,dS,gJ,q];rfl) (e:K (aF vs) H:=by simp only [aF]):jq k rs K .ret f H:=ji (h a) .refl e
theorem aI {K P:Fr→BH→Prop} {p:Prop} {f:Fr} {H:BH} (hK: ∀f1 H1,P f1 H1→K f1 H1) (hp:p) (e:p→P f H:=by intro h;(try simp only [gu,iH,iP]);(try simp only [RN,reduceIte]);first|exact eG rfl h|exact h):K f H:=hK _ _ (e hp)
theorem bK {k:Nat} {Q:Ex→Fr→BH→Prop} {f:Fr} {H:BH} {c:aj} {p:Prop} (hp:p) (e:p→T k c Q f H:=by intro h;(first|refine uw rfl ?_|refine uy rfl ?_);(try simp only [RN,reduceIte]);first|exact eG rfl h|exact h):T k c Q f H:=e hp
theorem iE {p q:Prop} (hp:p) (e:p→q:=by intro h;(try simp only [RN,reduceIte]);first|exact eG rfl h|exact h):q:=e hp
theorem yY {k:Nat} {Q:Ex→Fr→BH→Prop} {f:Fr} {H:BH} {i:Nat} {a b:aj} {p:Prop} (hp:p) (e:p→T k a (gu i (iH k b Q)) f H:=by intro h;(try simp only [RN,reduceIte]);first|exact eG rfl h|exact h):T k (.seq (.block i a) b) Q f H:=uZ (zU (e hp))
theorem lq {p q:Prop} (hp:p) (e:p→q:=by intro h;simp only [gu,iH,iP,if_true];exact h):q:=e hp
theorem ah {p:Prop} (h:p:=by simp (disch:=omega) only [RA,↓reduceIte,Nat.reduceEqDiff,Nat.reduceBEq,Nat.reduceSub,Nat.reduceAdd,Nat.reduceMul,Nat.reduceLT,Nat.reduceLeDiff,Int.reduceLE,Int.reduceLT,Int.reduceEq,Int.reduceNeg,Int.reduceToNat,Int.reduceMul,Int.reduceAdd,Int.reduceSub,Int.reduceBEq,Int.reduceBNe,reduceCtorEq,RD,RE, *]<;>rfl):p:=h
theorem tN {p:Prop} (h:p:=by simp (disch:=omega) only [RA,↓reduceIte,Nat.reduceEqDiff,Nat.reduceBEq,Nat.reduceSub,Nat.reduceAdd,Nat.reduceMul,Nat.reduceLT,Nat.reduceLeDiff,Int.reduceLE,Int.reduceLT,Int.reduceEq,Int.reduceNeg,Int.reduceToNat,Int.reduceMul,Int.reduceAdd,Int.reduceSub,Int.reduceBEq,Int.reduceBNe,reduceCtorEq,RD,RE,RZ,OV,kS, *]<;>rfl):p:=h
theorem FQ {p:Prop} (h:p:=by simp only [RH]):p:=h
theorem aC {A0 A1:Prop} (a0:A0) (a1:A1):A0∧A1:=⟨a0,a1⟩
theorem aX {A0 A1 A2:Prop} (a0:A0) (a1:A1) (a2:A2):A0∧A1∧A2:=⟨a0,a1,a2⟩
theorem bG {A0 A1 A2 A3:Prop} (a0:A0) (a1:A1) (a2:A2) (a3:A3):A0∧A1∧A2∧A3:=⟨a0,a1,a2,a3⟩
theorem jk {A0 A1 A2 A3 A4:Prop} (a0:A0) (a1:A1) (a2:A2) (a3:A3) (a4:A4):A0∧A1∧A2∧A3∧A4:=⟨a0,a1,a2,a3,a4⟩
theorem jM {A0 A1 A2 A3 A4 A5:Prop} (a0:A0) (a1:A1) (a2:A2) (a3:A3) (a4:A4) (a5:A5):A0∧A1∧A2∧A3∧A4∧A5:=⟨a0,a1,a2,a3,a4,a5⟩
end Go.Bm
