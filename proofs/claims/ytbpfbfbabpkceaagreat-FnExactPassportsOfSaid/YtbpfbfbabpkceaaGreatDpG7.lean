/- DpTb, DpYa, DpYb, DpYc, DpYd, Dp0b, Dp6, Dp6b, DpX, DpZ, DpDm -/
import Derived.Sort.AssemblyPlain
import Derived.Test.YtbpfbfbabpkceaaGreatAmIs
import Derived.Test.YtbpfbfbabpkceaaGreatDpG0
import Derived.Test.YtbpfbfbabpkceaaGreatDpG1
import Derived.Test.YtbpfbfbabpkceaaGreatDpG2
import Derived.Test.YtbpfbfbabpkceaaGreatDpG3
import Derived.Test.YtbpfbfbabpkceaaGreatDpG4
set_option linter.unusedVariables false
set_option linter.unusedSimpArgs false
namespace Go.Bm
open Go Go.Am
theorem Ef {b w:List Nat} {n:Nat} (hn:n≤16):By 16 (jR b w n):=adB hn
def pass (b w:List Nat) (n:Nat):List (List Nat):=[typ b n,typ w n,typ (jR b w n) n]
abbrev wR (xs:List (List Nat)):Value:=Fz xs.length 1 (xs.map FN)
theorem afI {x:Bool} {n:Nat} {b w:List Nat} {H:BH} {K:Value→BH→Prop} (hb:By 16 b) (hw:By 16 w) (hd:aX n b w)
  (hK:K (wR (pass b w n)) H):aF x Kw [DV n b w] H K:=by
 have hlb:=hb.len
 have fG:=hw.len
 have hn:=hd.1.1
 have hb16:=fun i=>hd.1.jM hlb i
 have hw16:=fun i=>hd.2.1.jM fG i
 refine oz (l:=3) (e:=1) (cs:=(pass b w n).map FN) (.cons jP .nil) kL (by simp [pass]) ?_ hK
 refine aG KQ ?_;simp only [pR,aB]
 refine aA @aI ?_
 refine dF (aH @aI @aT) fun Kr hKr=>?_
 refine F8 hb hd.1 ?_
 refine gU (aH @aI @aT) ?_
 refine F8 hw hd.2.1 ?_
 refine gU (aH @aI @aT) ?_
 refine O1 hb hw (by omega) hb16 hw16 ?_
 refine gU (aH @aI @aT) ?_
 refine F8 (Ef (by omega)) (qA hd.1 hd.2.1) ?_
 refine aS ?_
 refine aO hKr ?_
 refine aV ?_
 exact ⟨1,rfl,rfl⟩
theorem aff {x:Bool} {n:Nat} {b w:List Nat} {H:BH} {K:Value→BH→Prop} (hb:By 16 b) (hw:By 16 w) (hd:aX n b w)
  (hK:K (wR (pass b w n)) H):aF x XV [DV n b w] H K:=by
 have hlb:=hb.len
 have fG:=hw.len
 have hn:=hd.1.1
 have hb16:=fun i=>hd.1.jM hlb i
 have hw16:=fun i=>hd.2.1.jM fG i
 refine oz (l:=3) (e:=1) (cs:=(pass b w n).map FN) (.cons jP .nil) kL (by simp [pass]) ?_ hK
 refine aG Za ?_;simp only [qV,aB]
 refine aA @aI ?_
 refine dF (aH @aI @aT) fun Kr hKr=>?_
 refine vN hb hd.1 ?_
 refine gU (aH @aI @aT) ?_
 refine vN hw hd.2.1 ?_
 refine gU (aH @aI @aT) ?_
 refine OZ hb hw (by omega) hb16 hw16 ?_
 refine gU (aH @aI @aT) ?_
 refine vN (Ef (by omega)) (qA hd.1 hd.2.1) ?_
 refine aS ?_
 refine aO hKr ?_
 refine aV ?_
 exact ⟨1,rfl,rfl⟩
end Go.Bm
set_option linter.unusedSectionVars false
namespace Go.Bm
open Go Go.Am
abbrev P3:=List Nat×List Nat×List Nat
def aP (p:P3):List (List Nat):=[p.1,p.2.1,p.2.2]
def dX (a b:List Nat):Int:=if a<b then-1 else if a=b then 0 else 1
def iU (p q:P3):Int:=if dX p.1 q.1≠0 then dX p.1 q.1 else if dX p.2.1 q.2.1≠0 then dX p.2.1 q.2.1 else dX p.2.2 q.2.2
def dM (p q:P3):Prop:=p.1<q.1∨(p.1=q.1∧(p.2.1<q.2.1∨(p.2.1=q.2.1∧p.2.2<q.2.2)))
theorem Ej {a b:List Nat}:dX a b<0↔a<b:=by
 unfold dX
 split
 ·simp [*]
 ·split<;>simp [*]
theorem sG {a b:List Nat}:dX a b=0↔a=b:=by
 unfold dX
 split
 ·rename_i h
  constructor
  ·intro e;omega
  ·rintro rfl;exact absurd h (List.lt_irrefl _)
 ·split<;>simp [*]
theorem wU {a b:List Nat}:0<dX a b↔b<a:=by
 unfold dX
 split
 ·rename_i h
  constructor
  ·intro e;omega
  ·intro k;exact absurd (List.lt_trans h k) (List.lt_irrefl _)
 ·rename_i h
  split
  ·rename_i e
   subst e
   simp [List.lt_irrefl]
  ·rename_i e
   refine ⟨fun _=>?_,fun _=>by omega⟩
   by_cases k:b<a
   ·exact k
   ·exact absurd (List.le_antisymm (List.not_lt.1 k) (List.not_lt.1 h)) e
theorem wO (p:P3): ¬dM p p:=fun h=>by
 rcases h with h|⟨_,h|⟨_,h⟩⟩<;>exact List.lt_irrefl _ h
theorem zO {p q r:P3} (h:dM p q) (k:dM q r):dM p r:=by
 rcases h with h|⟨h1,h⟩<;>rcases k with k|⟨k1,k⟩
 ·exact .inl (List.lt_trans h k)
 ·exact .inl (k1▸h)
 ·exact .inl (h1▸k)
 ·refine .inr ⟨h1.trans k1,?_⟩
  rcases h with h|⟨h2,h⟩<;>rcases k with k|⟨k2,k⟩
  ·exact .inl (List.lt_trans h k)
  ·exact .inl (k2▸h)
  ·exact .inl (h2▸k)
  ·exact .inr ⟨h2.trans k2,List.lt_trans h k⟩
theorem Ea {p q:P3}:iU p q<0↔dM p q:=by
 unfold iU dM
 have a1:= @Ej p.1 q.1
 have a2:= @sG p.1 q.1
 have b1:= @Ej p.2.1 q.2.1
 have b2:= @sG p.2.1 q.2.1
 have c1:= @Ej p.2.2 q.2.2
 by_cases h1:dX p.1 q.1=0
 ·have e1:=a2.1 h1
  have n1: ¬p.1<q.1:=fun h=>by have:=a1.2 h;omega
  by_cases h2:dX p.2.1 q.2.1=0
  ·have e2:=b2.1 h2
   have n2: ¬p.2.1<q.2.1:=fun h=>by have:=b1.2 h;omega
   rw [if_neg (by simp [h1]),if_neg (by simp [h2]),c1]
   simp [e1,e2,List.lt_irrefl]
  ·have e2:p.2.1≠q.2.1:=fun h=>h2 (b2.2 h)
   rw [if_neg (by simp [h1]),if_pos h2,b1]
   simp [e1,e2,List.lt_irrefl]
 ·have e1:p.1≠q.1:=fun h=>h1 (a2.2 h)
  rw [if_pos h1,a1]
  simp [e1]
theorem IJ {p q:P3}:iU p q=0↔p=q:=by
 unfold iU
 have a2:= @sG p.1 q.1
 have b2:= @sG p.2.1 q.2.1
 have c2:= @sG p.2.2 q.2.2
 obtain ⟨p0,p1,p2⟩:=p
 obtain ⟨q0,q1,q2⟩:=q
 simp only [Prod.mk.injEq] at*
 by_cases h1:dX p0 q0=0
 ·by_cases h2:dX p1 q1=0
  ·rw [if_neg (by simp [h1]),if_neg (by simp [h2]),c2]
   simp [a2.1 h1,b2.1 h2]
  ·have e2:p1≠q1:=fun h=>h2 (b2.2 h)
   rw [if_neg (by simp [h1]),if_pos h2]
   simp [h2,e2]
 ·have e1:p0≠q0:=fun h=>h1 (a2.2 h)
  rw [if_pos h1]
  simp [h1,e1]
theorem afT {p q:P3}:0<iU p q↔dM q p:=by
 unfold iU dM
 have a1:= @wU p.1 q.1
 have a2:= @sG p.1 q.1
 have b1:= @wU p.2.1 q.2.1
 have b2:= @sG p.2.1 q.2.1
 have c1:= @wU p.2.2 q.2.2
 by_cases h1:dX p.1 q.1=0
 ·have e1:=a2.1 h1
  by_cases h2:dX p.2.1 q.2.1=0
  ·have e2:=b2.1 h2
   rw [if_neg (by simp [h1]),if_neg (by simp [h2]),c1]
   simp [e1,e2,List.lt_irrefl]
  ·have e2:q.2.1≠p.2.1:=fun h=>h2 (b2.2 h.symm)
   rw [if_neg (by simp [h1]),if_pos h2,b1]
   simp [e1,e2,List.lt_irrefl]
 ·have e1:q.1≠p.1:=fun h=>h1 (a2.2 h.symm)
  rw [if_pos h1,a1]
  simp [e1]
theorem zQ {p q:P3} (h: ¬dM p q) (k: ¬dM q p):p=q:=by
 have h1: ¬iU p q<0:=fun e=>h (Ea.1 e)
 have h2: ¬0<iU p q:=fun e=>k (afT.1 e)
 exact IJ.1 (by omega)
theorem wV {a b:List Nat}: -1≤dX a b∧dX a b≤1:=by
 unfold dX
 split
 ·omega
 ·split<;>omega
theorem VH {p q:P3}: -1≤iU p q∧iU p q≤1:=by
 have h1:= @wV p.1 q.1
 have h2:= @wV p.2.1 q.2.1
 have h3:= @wV p.2.2 q.2.2
 unfold iU
 split
 ·exact h1
 ·split
  ·exact h2
  ·exact h3
theorem zV: ∀{i:Nat} {xs ys:List Nat},(∀j,j<i→nl xs j=nl ys j)→i<xs.length→i<ys.length→nl xs i<nl ys i→xs<ys
 |0,x::xs,y::ys,_,_,_,h=>List.cons_lt_cons_iff.2 (.inl h)
 |i+1,x::xs,y::ys,he,h1,h2,h=>by
  have e0:x=y:=he 0 (by omega)
  refine List.cons_lt_cons_iff.2 (.inr ⟨e0,zV (i:=i) (fun j hj=>he (j+1) (by omega)) (by simpa using h1) (by simpa using h2) h⟩)
theorem zW: ∀{xs ys:List Nat},(∀j,j<xs.length→nl xs j=nl ys j)→xs.length<ys.length→xs<ys
 |[],y::ys,_,_=>List.nil_lt_cons _ _
 |x::xs,y::ys,he,h=>by
  have e0:x=y:=he 0 (by simp)
  exact List.cons_lt_cons_iff.2 (.inr ⟨e0,zW (fun j hj=>he (j+1) (by simpa using hj)) (by simpa using h)⟩)
theorem Wj {xs ys:List Nat} (hl:xs.length=ys.length) (he: ∀j,j<xs.length→nl xs j=nl ys j):xs=ys:=by
 apply List.ext_getElem hl
 intro j h1 h2
 have:=he j h1
 simpa [nl,List.getD,h1,h2] using this
section
variable {x:Bool} {H:BH} {K:Value→BH→Prop}
theorem afU {a b:Int} (hK:K (I (if a<b then-1 else if b<a then 1 else 0)) H):aF x EP [I a,I b] H K:=by
 have Wn: ∀{x:Bool} {c:Int} {H:BH} {K:Value→BH→Prop},K (.bool false) H→aF x BK [I c] H K:=by
  intro x c H K hK
  refine bK (.cons .int .nil) ?_
  refine aG KU ?_;simp only [oU,aB]
  refine aC ?_
  refine aC ?_
  refine aV ?_
  exact ⟨.bool,hK⟩
 refine bK (.cons .int (.cons .int .nil)) ?_
 refine aG Zi ?_;simp only [fP,aB]
 refine aC ?_
 refine eP fun Kr hKr=>?_
 refine Wn ?_
 refine aS ?_
 refine aO hKr ?_
 refine eP fun Kr hKr=>?_
 refine Wn ?_
 refine aS ?_
 refine aO hKr ?_
 refine aC ?_
 refine bV ?_
 refine aC ?_
 refine bV ?_
 by_cases h1:a<b
 ·rw [if_pos h1] at hK
  refine aA @h1 ?_
  refine jy ?_
  refine aC ?_
  refine aV ?_
  exact ⟨.int,hK⟩
 ·rw [if_neg h1] at hK
  refine aA @h1 ?_
  refine bV ?_
  by_cases h2:b<a
  ·rw [if_pos h2] at hK
   refine aA @h2 ?_
   refine jy ?_
   refine aC ?_
   refine aV ?_
   exact ⟨.int,hK⟩
  ·rw [if_neg h2] at hK
   refine aA @h2 ?_
   refine bV ?_
   refine aC ?_
   refine aV ?_
   exact ⟨.int,hK⟩
theorem afV {xs ys:List Nat} (hl:xs.length<1000000) (hl':ys.length<1000000) (hK:K (I (dX xs ys)) H):aF x sH [FN xs,FN ys] H K:=by
 refine bK (.cons .fz (.cons .fz .nil)) ?_
 refine aG YZ ?_;simp only [fE,aB]
 refine aC ?_
 refine aC ?_
 refine aW (fun m f H'=> ∃i,i≤xs.length∧m=xs.length-i∧i≤ys.length∧(∀j,j<i→nl xs j=nl ys j)∧f 0=FN xs∧f 1=FN ys∧f 9=FN xs∧f 10=I xs.length∧f 11=I i∧H'=[]) (xs.length) ?_ ?_
 ·exact ⟨_,_,Gh.refl,0,by omega,by omega,by omega,fun j hj=>by omega,ah,ah,ah,ah,ah,rfl⟩
 ·rintro m f H' R ⟨i,hi,rfl,hy,he,g0,g1,g9,g10,g11,rfl⟩ hN hX hR hE
  simp only [fE.l0,aB]
  refine aA (aH @g10 @g11) ?_
  refine bI (i<xs.length) (fun hc=>?_) fun hc=>?_
  ·have hil:i<xs.length:=by assumption
   refine dD ?_
   refine aA (bP @g9 @g11 @vM) ?_
   by_cases uH:i<ys.length
   ·have e1:decide ((ys.length:Int)≤i)=false:=decide_eq_false (by omega)
    refine aA (aH @g1 @e1) ?_
    refine bV ?_
    refine aA (aH @g1 @vM) ?_
    refine eP fun Kr hKr=>?_
    refine afU ?_
    refine aS ?_
    refine aO hKr ?_
    by_cases hlt:nl xs i<nl ys i
    ·have h1:((nl xs i:Nat):Int)<nl ys i:=by omega
     have hk:dX xs ys= -1:=by rw [dX,if_pos (zV he hil uH hlt)]
     rw [hk] at hK
     rw [if_pos hlt]
     refine aC ?_
     refine jy ?_
     refine aC ?_
     refine hR _ _ ?_
     refine aV ?_
     exact ⟨.int,hK⟩
    ·rw [if_neg hlt]
     by_cases hgt:nl ys i<nl xs i
     ·have hlt2:=zV (fun j hj=>(he j hj).symm) uH hil hgt
      have hk:dX xs ys=1:=by
       have h3:=wU.2 hlt2
       have h4:= @wV xs ys
       omega
      rw [hk] at hK
      rw [if_pos hgt]
      refine aC ?_
      refine jy ?_
      refine aC ?_
      refine hR _ _ ?_
      refine aV ?_
      exact ⟨.int,hK⟩
     ·have hee:nl xs i=nl ys i:=by omega
      rw [if_neg hgt]
      refine aC ?_
      refine bV ?_
      refine bM @g11 ?_
      have he': ∀j,j<i+1→nl xs j=nl ys j:=fun j hj=>by
       by_cases e:j=i
       ·rw [e];exact hee
       ·exact he j (by omega)
      exact hN (xs.length-(i+1)) _ _ _ _ (by omega) Gh.refl ⟨i+1,by omega,rfl,by omega,he',ah,ah,ah,ah,ah,rfl⟩
   ·have e1:decide ((ys.length:Int)≤i)=true:=decide_eq_true (by omega)
    have hk:dX xs ys=1:=by
     have h3:=wU.2 (zW (xs:=ys) (ys:=xs) (fun j hj=>(he j (by omega)).symm) (by omega))
     have h4:= @wV xs ys
     omega
    rw [hk] at hK
    refine aA (aH @g1 @e1) ?_
    refine jy ?_
    refine aC ?_
    refine hR _ _ ?_
    refine aV ?_
    exact ⟨.int,hK⟩
  ·refine hX _ _ ?_
   refine jQ ?_
   obtain rfl:i=xs.length:=by omega
   by_cases Jq:xs.length<ys.length
   ·have hk:dX xs ys= -1:=by rw [dX,if_pos (zW he Jq)]
    rw [hk] at hK
    refine aA (bP @g0 @g1 @Jq) ?_
    refine jy ?_
    refine aC ?_
    refine aV ?_
    exact ⟨.int,hK⟩
   ·have hk:dX xs ys=0:=sG.2 (Wj (by omega) he)
    rw [hk] at hK
    refine aA (bP @g0 @g1 @Jq) ?_
    refine bV ?_
    refine aC ?_
    refine aV ?_
    exact ⟨.int,hK⟩
end
end Go.Bm
namespace Go.Bm
open Go Go.Am
theorem Em {p:P3} {i:Nat} (h:i<3):getN none ((aP p).map FN) i=some (FN ((aP p).getD i [])):=vK (by simpa [aP] using h)
abbrev dw (p:P3):Value:=wR (aP p)
section
variable {x:Bool} {H:BH} {K:Value→BH→Prop} {p q:P3}
theorem En (h: ∀r∈aP p,r.length<1000000) {i:Nat} (hi:i<3):((aP p).getD i []).length<1000000:=h _ (nJ (by simpa [aP] using hi))
theorem Wp {i:Nat} (hi:i<3) (he: ∀j,j<i→dX ((aP p).getD j []) ((aP q).getD j [])=0) (h:dX ((aP p).getD i []) ((aP q).getD i [])≠0):iU p q=dX ((aP p).getD i []) ((aP q).getD i []):=by
 rcases i with _| _| _|i
 ·exact if_pos h
 ·have:=he 0 (by omega)
  exact (if_neg (by simpa [aP] using this)).trans (if_pos h)
 ·have h0:=he 0 (by omega)
  have h1:=he 1 (by omega)
  exact (if_neg (by simpa [aP] using h0)).trans (if_neg (by simpa [aP] using h1))
 ·omega
theorem Wq (he: ∀j,j<3→dX ((aP p).getD j []) ((aP q).getD j [])=0):iU p q=0:=by
 have h0:=he 0 (by omega)
 have h1:=he 1 (by omega)
 have h2:=he 2 (by omega)
 exact (if_neg (by simpa [aP] using h0)).trans ((if_neg (by simpa [aP] using h1)).trans h2)
theorem afW (hp: ∀r∈aP p,r.length<1000000) (hq: ∀r∈aP q,r.length<1000000) (hK:K (I (iU p q)) H):
  aF x BJ [dw p,dw q, .func (.func sH) #[] #[]] H K:=by
 have l1:(aP p).length=3:=rfl
 have l2:(aP q).length=3:=rfl
 refine bK (.cons .fz (.cons .fz (.cons (.func (by simp)) .nil))) ?_
 refine aG YX ?_;simp only [fD,aB]
 refine aC ?_
 refine aC ?_
 refine aW (fun m f H'=> ∃i,i≤3∧m=3-i∧(∀j,j<i→dX ((aP p).getD j []) ((aP q).getD j [])=0)∧f 0=dw p∧f 1=dw q∧f 2= .func (.func sH) #[] #[]∧f 11=dw p∧f 12=I 3∧f 13=I i∧H'=[]) (3) ?_ ?_
 ·exact ⟨_,_,Gh.refl,0,by omega,by omega,fun j hj=>by omega,ah,ah,ah,ah,ah,ah,rfl⟩
 ·rintro m f H' R ⟨i,hi,rfl,he,g0,g1,g2,g11,g12,g13,rfl⟩ hN hX hR hE
  simp only [fD.l0,aB]
  refine aA (aH @g12 @g13) ?_
  refine bI (i<3) (fun hc=>?_) fun hc=>?_
  ·have hil:i<3:=by assumption
   have e1:decide (((3:Nat):Int)≤i)=false:=decide_eq_false (by omega)
   refine dD ?_
   refine aA (bP @g11 @g13 @Em) ?_
   refine aA (bP @g1 @l2 @e1) ?_
   refine bV ?_
   refine aA (aH @g1 @Em) ?_
   refine dF (dh @g2 @uX @uV @uY) fun Kr hKr=>?_
   refine afV (En hp hil) (En hq hil) ?_
   refine aS ?_
   refine aO hKr ?_
   by_cases hz:dX ((aP p).getD i []) ((aP q).getD i [])=0
   ·rw [hz]
    refine aC ?_
    refine bV ?_
    refine bM @g13 ?_
    have he': ∀j,j<i+1→dX ((aP p).getD j []) ((aP q).getD j [])=0:=fun j hj=>by
     by_cases e:j=i
     ·rw [e];exact hz
     ·exact he j (by omega)
    exact hN (3-(i+1)) _ _ _ _ (by omega) Gh.refl ⟨i+1,by omega,rfl,he',ah,ah,ah,ah,ah,ah,rfl⟩
   ·rw [Wp hil he hz] at hK
    generalize dX ((aP p).getD i []) ((aP q).getD i [])=c at hz hK
    refine aA @hz ?_
    refine jy ?_
    refine aC ?_
    refine hR _ _ ?_
    refine aV ?_
    exact ⟨.int,hK⟩
  ·refine hX _ _ ?_
   refine jQ ?_
   obtain rfl:i=3:=by omega
   rw [Wq he] at hK
   refine aA (dh @g0 @g1 @l1 @l2) ?_
   refine bV ?_
   refine aC ?_
   refine aV ?_
   exact ⟨.int,hK⟩
theorem Vh (hp: ∀r∈aP p,r.length<1000000) (hq: ∀r∈aP q,r.length<1000000) (hK:K (I (iU p q)) H):
  aF x EO [dw p,dw q] H K:=by
 refine bK (.cons .fz (.cons .fz .nil)) ?_
 refine aG YB ?_;simp only [pU,aB]
 refine aC ?_
 refine eP fun Kr hKr=>?_
 refine afW hp hq ?_
 refine aS ?_
 refine aO hKr ?_
 refine aV ?_
 exact ⟨.int,hK⟩
theorem Ws {xs ys:List Nat} (hl:xs.length<1000000) (hl':ys.length<1000000) (hK:K (.bool (decide (xs<ys))) H):aF x XD [FN xs,FN ys] H K:=by
 refine bK (.cons .fz (.cons .fz .nil)) ?_
 refine aG YP ?_;simp only [jJ,aB]
 refine aC ?_
 refine aC ?_
 refine aW (fun m f H'=> ∃i,i≤xs.length∧m=xs.length-i∧i≤ys.length∧(∀j,j<i→nl xs j=nl ys j)∧f 0=FN xs∧f 1=FN ys∧f 5=I i∧H'=[]) (xs.length) ?_ ?_
 ·exact ⟨_,_,Gh.refl,0,by omega,by omega,by omega,fun j hj=>by omega,ah,ah,ah,rfl⟩
 ·rintro m f H' R ⟨i,hi,rfl,hy,he,g0,g1,g5,rfl⟩ hN hX hR hE
  simp only [jJ.l0,aB]
  have hk: ¬(i<xs.length∧i<ys.length)→decide (xs<ys)=decide (xs.length<ys.length):=fun hc=>by
   by_cases h:xs.length<ys.length
   ·have:i=xs.length:=by omega
    rw [decide_eq_true (zW (fun j hj=>he j (by omega)) h),decide_eq_true h]
   ·have:i=ys.length:=by omega
    rw [decide_eq_false h]
    by_cases h2:ys.length<xs.length
    ·have h3:=zW (xs:=ys) (ys:=xs) (fun j hj=>(he j (by omega)).symm) h2
     exact decide_eq_false fun h4=>List.lt_irrefl _ (List.lt_trans h3 h4)
    ·rw [Wj (by omega) (fun j hj=>he j (by omega))]
     exact decide_eq_false (List.lt_irrefl _)
  by_cases hil:i<xs.length
  ·by_cases uH:i<ys.length
   ·refine aA (iy @g0 @g1 @g5 @hil @uH) ?_
    refine jy ?_
    refine dD ?_
    refine aA (dh @g0 @g1 @g5 @vM) ?_
    by_cases hee:nl xs i=nl ys i
    ·refine o9 @hee ?_
     refine bM @g5 ?_
     have he': ∀j,j<i+1→nl xs j=nl ys j:=fun j hj=>by
      by_cases e:j=i
      ·rw [e];exact hee
      ·exact he j (by omega)
     exact hN (xs.length-(i+1)) _ _ _ _ (by omega) Gh.refl ⟨i+1,by omega,rfl,by omega,he',ah,ah,ah,rfl⟩
    ·have hk2:decide (xs<ys)=decide (nl xs i<nl ys i):=by
      by_cases h:nl xs i<nl ys i
      ·rw [decide_eq_true (zV he hil uH h),decide_eq_true h]
      ·have h2:=zV (fun j hj=>(he j hj).symm) uH hil (show nl ys i<nl xs i by omega)
       rw [decide_eq_false (fun h3=>List.lt_irrefl _ (List.lt_trans h2 h3)),decide_eq_false h]
     rw [hk2] at hK
     refine jy ?_
     refine aA (dh @g0 @g1 @g5 @vM) ?_
     refine hR _ _ ?_
     refine aV ?_
     exact ⟨.bool,hK⟩
   ·rw [hk (by omega),decide_eq_false (by omega)] at hK
    refine aA (iy @g0 @g1 @g5 @hil @uH) ?_
    refine bV ?_
    refine hX _ _ ?_
    refine jQ ?_
    refine aA (aH @g0 @g1) ?_
    refine aV ?_
    exact ⟨.bool,hK⟩
  ·rw [hk (by omega)] at hK
   refine aA (dh @g0 @g1 @g5 @hil) ?_
   refine bV ?_
   refine hX _ _ ?_
   refine jQ ?_
   refine aA (aH @g0 @g1) ?_
   refine aV ?_
   exact ⟨.bool,hK⟩
theorem VG (hp: ∀r∈aP p,r.length<1000000) (hq: ∀r∈aP q,r.length<1000000) (hK:K (I (iU p q)) H):
  aF x Kv [dw p,dw q] H K:=by
 have l1:(aP p).length=3:=rfl
 have l2:(aP q).length=3:=rfl
 refine bK (.cons .fz (.cons .fz .nil)) ?_
 refine aG Yx ?_;simp only [iL,aB]
 refine aC ?_
 refine aC ?_
 refine aW (fun m f H'=> ∃i,i≤3∧m=3-i∧(∀j,j<i→dX ((aP p).getD j []) ((aP q).getD j [])=0)∧f 0=dw p∧f 1=dw q∧f 5=I i∧H'=[]) (3) ?_ ?_
 ·exact ⟨_,_,Gh.refl,0,by omega,by omega,fun j hj=>by omega,ah,ah,ah,rfl⟩
 ·rintro m f H' R ⟨i,hi,rfl,he,g0,g1,g5,rfl⟩ hN hX hR hE
  simp only [iL.l0,aB]
  refine aA @g5 ?_
  refine bI (i<3) (fun hc=>?_) fun hc=>?_
  ·have hil:i<3:=by assumption
   have k1:=En hp hil
   have k2:=En hq hil
   have hs:= @Wp p q i hil he
   have r1:= @Ej ((aP p).getD i []) ((aP q).getD i [])
   have r2:= @wU ((aP p).getD i []) ((aP q).getD i [])
   have r3:= @wV ((aP p).getD i []) ((aP q).getD i [])
   refine dD ?_
   refine dF (nN @g0 @g1 @g5 @l1 @l2 @Em) fun Kr hKr=>?_
   refine Ws k1 k2 ?_
   refine aS ?_
   refine aO hKr ?_
   by_cases h1:(aP p).getD i []<(aP q).getD i []
   ·have h1':=r1.2 h1
    rw [hs (by omega),show dX ((aP p).getD i []) ((aP q).getD i [])= -1 by omega] at hK
    refine vV @h1 ?_
    refine aC ?_
    refine hR _ _ ?_
    refine aV ?_
    exact ⟨.int,hK⟩
   ·refine o9 @h1 ?_
    refine dF (nN @g0 @g1 @g5 @l1 @l2 @Em) fun Kr hKr=>?_
    refine Ws k2 k1 ?_
    refine aS ?_
    refine aO hKr ?_
    by_cases h2:(aP q).getD i []<(aP p).getD i []
    ·have h2':=r2.2 h2
     rw [hs (by omega),show dX ((aP p).getD i []) ((aP q).getD i [])=1 by omega] at hK
     refine vV @h2 ?_
     refine aC ?_
     refine hR _ _ ?_
     refine aV ?_
     exact ⟨.int,hK⟩
    ·have h1':=mt r1.1 h1
     have h2':=mt r2.1 h2
     refine o9 @h2 ?_
     refine bM @g5 ?_
     have he': ∀j,j<i+1→dX ((aP p).getD j []) ((aP q).getD j [])=0:=fun j hj=>by
      by_cases e:j=i
      ·rw [e];omega
      ·exact he j (by omega)
     exact hN (3-(i+1)) _ _ _ _ (by omega) Gh.refl ⟨i+1,by omega,rfl,he',ah,ah,ah,rfl⟩
  ·refine hX _ _ ?_
   obtain rfl:i=3:=by omega
   rw [Wq he] at hK
   refine aC ?_
   refine aV ?_
   exact ⟨.int,hK⟩
end
end Go.Bm
namespace Go.Bm
open Go Go.Am
def At2 (H:BH) (i:Nat) (v:Value) (rows:List (List Value)):Prop:= ∃k h,v=S h 0 rows.length 1∧blk H h=some (hdr k rows)∧(∀j r,rows[j]? =some r→blk H (k+j)=some r∧k+j≠i)∧h≠i
def dS (p:P3):List (List Value):=(aP p).map fun r=>r.map bF
theorem Iy {p:P3}:(dS p).map tu=(aP p).map FN:=by
 rw [dS,List.map_map]
 refine List.map_congr_left fun r _=>?_
 show Fz (r.map bF).length 1 (r.map bF)=_
 rw [List.length_map]
theorem Jp {p:P3}: ∀r∈dS p,r.all Am.plain=true:=fun r hr=>by
 obtain ⟨y,_,rfl⟩:=List.mem_map.1 hr
 exact List.all_eq_true.2 fun v hv=>by
  obtain ⟨z,_,rfl⟩:=List.mem_map.1 hv
  rfl
def Zr (HA:AHeap) (b:Nat):Nat→Option Blk:=fun x=>if x<HA.n then (mD HA b).get x else none
theorem Wu {HA:AHeap} {b x:Nat} {bk:Blk} (h1:x<HA.n) (h2:x≠b) (h3:HA.get x=some bk):Zr HA b x=some ⟨bk.cells,false⟩:=by
 unfold Zr mD
 simp only
 rw [if_pos h1,if_neg h2,h3]
 rfl
theorem afX {HA:AHeap} {b:Nat}:Rel (fun _=>none) (Zr HA b) [] (mD HA b):=
 ⟨fun i cs h=>by simp [blk] at h,fun i j cs cs' b h=>by simp [blk] at h,fun i cs b h=>by simp [blk] at h,fun x bk hx=>by
  unfold Zr at hx
  by_cases h:x<HA.n
  ·rw [if_pos h] at hx
   exact ⟨h,hx⟩
  ·rw [if_neg h] at hx
   exact absurd hx (by simp),fun _ _=>rfl⟩
theorem At2.vz {ρ:Nat→Option Nat} {Z:Nat→Option Blk} {H:BH} {HA:AHeap} (hR:Rel ρ Z H HA) {i b:Nat} {cs0:List Value} (hi:blk H i=some cs0) (hb:ρ i=some b) {v u:Value} {rows:List (List Value)} (h:At2 H i v rows) (hpl: ∀r∈rows,r.all Am.plain=true) (hu:VR ρ Z v u):VZ (Zr HA b) (Fz rows.length 1 (rows.map tu)) u:=by
 obtain ⟨k,h,rfl,hh,hrow,hn1⟩:=h
 obtain ⟨bh,Wv,rfl⟩:=hu.slice_inv
 obtain ⟨b',bk,k1,k2,k3,k4,k5⟩:=hR.bH h _ hh
 rw [Wv] at k1;cases k1
 have hbne:bh≠b:=fun e=>hn1 (hR.inj h i _ _ bh hh hi Wv (by rw [e];exact hb))
 have hln:bk.cells.length=rows.length:=by rw [←k5.1,Gz]
 refine .fz (bk:=⟨bk.cells,false⟩) (ds:=bk.cells) (Wu k2 hbne k3) (by simp) (by rw [List.length_map,hln]) (by show 0+rows.length*1≤bk.cells.length;omega) (by rw [Nat.mul_one,←hln,List.drop_zero,List.take_length]) fun q c d e1 e2=>?_
 rw [List.getElem?_map] at e1
 obtain ⟨r,e3,rfl⟩:=map_inj e1
 obtain ⟨e4,e6⟩:=hrow q r e3
 have e5:=hpl r (List.mem_of_getElem? e3)
 obtain ⟨bq,hbq,rfl⟩:=(k5.2 q _ d (C9 e3) e2).slice_inv
 obtain ⟨b2,bk2,m1,m2,m3,m4,m5⟩:=hR.bH (k+q) r e4
 rw [hbq] at m1;cases m1
 have afY:bq≠b:=fun e=>e6 (hR.inj (k+q) i _ _ bq e4 hi hbq (by rw [e];exact hb))
 refine .fz (bk:=⟨bk2.cells,false⟩) (ds:=bk2.cells) (Wu m2 afY m3) (by simp) m5.1 (by show 0+r.length*1≤bk2.cells.length;rw [m5.1];omega) (by rw [Nat.mul_one,m5.1,List.drop_zero,List.take_length]) fun q' c' d' h1' h2'=>?_
 have hc:=List.all_eq_true.1 e5 c' (List.mem_of_getElem? h1')
 rw [(m5.2 q' c' d' h1' h2').rO hc]
 exact .plain hc
def GS (g:Nat):Bool:=g==EO||g==BJ||g==sH||g==EP||g==BK
def Wx (g:Nat):List (Nat×Nat):=if g=BJ then [(2,sH),(26,sH)] else []
theorem afZ: ∀g fn,GS g=true→Γ g=some fn→qG GS Wx (Wx g) fn.body=true:=by
 intro g fn h1 h2
 simp only [GS,Bool.or_eq_true,beq_iff_eq] at h1
 rcases h1 with (((rfl|rfl)|rfl)|rfl)|rfl
 ·rw [show Γ EO=some pU from rfl] at h2
  cases h2
  decide
 ·rw [show Γ BJ=some fD from rfl] at h2
  cases h2
  decide
 ·rw [show Γ sH=some fE from rfl] at h2
  cases h2
  decide
 ·rw [show Γ EP=some fP from rfl] at h2
  cases h2
  decide
 ·rw [show Γ BK=some oU from rfl] at h2
  cases h2
  decide
theorem af0: ∀g args H v H',GS g=true→X g args H v H'→XB g args H v H':=by
 rintro g args H v H' h1 (h|h|h)
 ·exact h
 ·obtain ⟨rfl,_⟩:=h
  exact absurd h1 (by decide)
 ·obtain ⟨rfl,_⟩:=h
  exact absurd h1 (by decide)
theorem af2 {ρ:Nat→Option Nat} {Z:Nat→Option Blk} {H:BH} {HA:AHeap} (hR:Rel ρ Z H HA) {i b:Nat} {cs0:List Value} (hi:blk H i=some cs0) (hb:ρ i=some b) {v u v' u':Value} {p q:P3} (hp:At2 H i v (dS p)) (hq:At2 H i v' (dS q)) (hu:VR ρ Z v u) (hu':VR ρ Z v' u')
  (lp: ∀r∈aP p,r.length<1000000) (lq: ∀r∈aP q,r.length<1000000): ∃HA',Cal Γ XB pO [u,u'] (mD HA b) (.int .i64 (iU p q)) HA':=by
 have h:=Vh (x:=false) (H:=[]) (K:=fun v _=>v=I (iU p q)) lp lq rfl
 have v1:=hp.vz hR hi hb Jp hu
 have v2:=hq.vz hR hi hb Jp hu'
 rw [Iy] at v1 v2
 have l1: ∀p:P3,(dS p).length=(aP p).length:=fun p=>by simp [dS]
 rw [l1] at v1 v2
 obtain ⟨w,HA',hc,_,ρ',Z',w1,H1,h1,_,_,_,_,rfl⟩:=h (fun _=>none) (Zr HA b) [u,u'] (mD HA b) (VL.cons (.z v1) (VL.cons (.z v2) VL.nil)) afX
 obtain rfl:=h1.int
 exact ⟨HA',Cal.af4 (X':=XB) afZ af0 hc (by decide) (fun p hp=>by cases hp)⟩
theorem bound {l:Nat} {P:Nat→Nat→Prop} (hm: ∀i m m',m≤m'→P i m→P i m') (h: ∀i,i<l→ ∃m,P i m): ∃M,∀i,i<l→P i M:=by
 induction l with
 |zero=>exact ⟨0,fun i hi=>by omega⟩
 |succ l ih=>
  obtain ⟨M,h1⟩:=ih fun i hi=>h i (by omega)
  obtain ⟨m,h2⟩:=h l (by omega)
  refine ⟨M+m,fun i hi=>?_⟩
  by_cases e:i=l
  ·rw [e];exact hm _ _ _ (by omega) h2
  ·exact hm _ _ _ (by omega) (h1 i (by omega))
theorem Rel.af5 {ρ:Nat→Option Nat} {Z:Nat→Option Blk} {H:BH} {HA:AHeap} (h:Rel ρ Z H HA) (M:Nat):Rel ρ Z H ⟨HA.n+M,HA.get⟩:=
 ⟨fun i cs hc=>by
  obtain ⟨b,bk,k1,k2,k3⟩:=h.bH i cs hc
  exact ⟨b,bk,k1,Nat.lt_of_lt_of_le k2 (Nat.le_add_right _ _),k3⟩,h.inj,h.eF,fun b bk hb=>⟨Nat.lt_of_lt_of_le (h.fH b bk hb).1 (Nat.le_add_right _ _),(h.fH b bk hb).2⟩,h.top⟩
theorem afS {ps:List P3} {b:Nat} {vs:List Value} {H:BH} {K:Value→BH→Prop} (hb:blk H b=some vs) (hl:vs.length=ps.length) (h0:0<ps.length) (hl2:ps.length≤1000000)
  (hv: ∀j,j<ps.length→At2 H b (vs.getD j undef) (dS (ps.getD j default))) (hone: ∀c∈vs,c.oneCell'=true) (hrow: ∀p∈ps,∀r∈aP p,r.length<1000000)
  (hK: ∀σ:List Nat,σ.Perm (List.range ps.length)→σ.Pairwise (fun i j=> ¬dM (ps.getD j default) (ps.getD i default))→K (.tuple ⟨[]⟩) (H.set b (some (σ.map fun i=>vs.getD i undef)))):
  aF false yw [S b 0 ps.length 1, .func (.func pO) #[] #[]] H K:=by
 intro ρ Z as HA h1 h2
 obtain ⟨u1,us,rfl,hv1,hr1⟩:=h1.iV
 obtain ⟨u2,us,rfl,hv2,hr2⟩:=hr1.iV
 obtain rfl:=hr2.jo
 obtain ⟨b',hb',rfl⟩:=hv1.slice_inv
 obtain ⟨⟨ds⟩,rfl,hds⟩:=hv2.Ig
 obtain rfl:=hds.jo
 obtain ⟨b2,bk,q1,q2,q3,q4,q5⟩:=h2.bH b vs hb
 rw [hb'] at q1;cases q1
 obtain ⟨ws,rwb⟩:=bk
 obtain rfl:rwb=true:=q4
 change VL ρ Z vs ws at q5
 have hwl:ws.length=ps.length:=by rw [←q5.1,hl]
 have hat: ∀j,j<ps.length→VR ρ Z (vs.getD j undef) (ws.getD j undef):=fun j hj=>by
  refine q5.2 j _ _ ?_ ?_<;>rw [List.getD_eq_getElem?_getD,List.getElem?_eq_getElem (by omega)]<;>rfl
 obtain ⟨cf,hcf⟩: ∃cf:Nat→Nat→Int,cf=fun i j=>iU (ps.getD (i%ps.length) default) (ps.getD (j%ps.length) default):=⟨_,rfl⟩
 have hlt: ∀i j,decide (cf i j<0)=true↔dM (ps.getD (i%ps.length) default) (ps.getD (j%ps.length) default):=fun i j=>by
  rw [hcf,decide_eq_true_iff]
  exact Ea
 have hnl: ∀i j,decide (cf i j<0)=false↔ ¬dM (ps.getD (i%ps.length) default) (ps.getD (j%ps.length) default):=fun i j=>by
  rw [←hlt,Bool.not_eq_true]
 have uq:Go.Sort.SWO (fun i j:Nat=>decide (cf i j<0)):=by
  refine ⟨fun i=>(hnl i i).2 (wO _),fun i j k h1 h2=>(hlt i k).2 (zO ((hlt i j).1 h1) ((hlt j k).1 h2)),fun i j k h1 h2=>(hnl i k).2 fun h3=>?_⟩
  have g1:=(hnl i j).1 h1
  have g2:=(hnl j k).1 h2
  by_cases g3:dM (ps.getD (j%ps.length) default) (ps.getD (i%ps.length) default)
  ·exact g2 (zO g3 h3)
  ·rw [zQ g1 g3] at h3
   exact g2 h3
 obtain ⟨M,hM⟩:=bound (l:=ps.length) (P:=fun i m=> ∀j,j<ps.length→ ∃HA',HA'.n≤HA.n+m∧Cal Γ XB pO [ws.getD i undef,ws.getD j undef] (mD HA b') (.int .i64 (iU (ps.getD i default) (ps.getD j default))) HA') (fun i m m' hm h j hj=>by
   obtain ⟨HA',h3,h4⟩:=h j hj
   exact ⟨HA',by omega,h4⟩) fun i hi=>by
  refine bound (l:=ps.length) (P:=fun j m=> ∃HA',HA'.n≤HA.n+m∧Cal Γ XB pO [ws.getD i undef,ws.getD j undef] (mD HA b') (.int .i64 (iU (ps.getD i default) (ps.getD j default))) HA') (fun j m m' hm ⟨HA',h3,h4⟩=>⟨HA',by omega,h4⟩) fun j hj=>?_
  obtain ⟨HA',h3⟩:=af2 h2 hb hb' (hv i hi) (hv j hj) (hat i hi) (hat j hj) (hrow _ (nJ hi)) (hrow _ (nJ hj))
  exact ⟨HA'.n,HA',by omega,h3⟩
 have hperm:=Go.Sort.pdq_sorts (fun i j:Nat=>decide (cf i j<0)) uq (Array.range ps.length) 0 ps.length (Go.Lib.bitLen ps.length) true true (Nat.zero_le _) (by simp) (Or.inl rfl)
 obtain ⟨⟨p1,_,p3⟩,p4⟩:=hperm
 have uw:jY cf ps.length=(Go.Sort.pdq (fun i j:Nat=>decide (cf i j<0)) (Array.range ps.length) 0 ps.length (Go.Lib.bitLen ps.length) true true).toList:=rfl
 generalize Go.Sort.pdq (fun i j:Nat=>decide (cf i j<0)) (Array.range ps.length) 0 ps.length (Go.Lib.bitLen ps.length) true true=d' at p1 p3 p4 uw
 have hds:d'.size=ps.length:=by simpa using p1
 have hσ:(jY cf ps.length).Perm (List.range ps.length):=by
  rw [uw]
  have e1:d'.extract 0 ps.length=d':=by rw [←hds];simp
  have e2:(Array.range ps.length).extract 0 ps.length=Array.range ps.length:=by simp
  rw [e1,e2] at p3
  simpa using p3
 have uG: ∀i∈jY cf ps.length,i<ps.length:=fun i hi=>by simpa using hσ.mem_iff.1 hi
 have hsorted:(jY cf ps.length).Pairwise (fun i j=> ¬dM (ps.getD j default) (ps.getD i default)):=by
  refine List.pairwise_iff_getElem.2 fun i j hi hj hij=>?_
  have hdl:(jY cf ps.length).length=ps.length:=by rw [uw,Array.length_toList,hds]
  have:=p4 i j (Nat.zero_le _) hij (by omega)
  have g1:=(hnl _ _).1 this
  have e1: ∀(i:Nat) (hi:i<(jY cf ps.length).length),d'[i]! =(jY cf ps.length)[i]:=fun i hi=>by
   have hi2:i<d'.size:=by omega
   rw [getElem!_pos d' i hi2]
   simp only [uw,Array.getElem_toList]
  rw [e1 i hi,e1 j hj,Nat.mod_eq_of_lt (uG _ (List.getElem_mem hi)),Nat.mod_eq_of_lt (uG _ (List.getElem_mem hj))] at g1
  exact g1
 have hmap:((jY cf ps.length).map fun i=>ws.getD (i%ps.length) undef)=(jY cf ps.length).map fun i=>ws.getD i undef:=List.map_congr_left fun i hi=>by rw [Nat.mod_eq_of_lt (uG i hi)]
 have hvl:VL ρ Z ((jY cf ps.length).map fun i=>vs.getD i undef) ((jY cf ps.length).map fun i=>ws.getD i undef):=by
  refine ⟨by simp,fun j c d e1 e2=>?_⟩
  rw [List.getElem?_map] at e1 e2
  obtain ⟨i,hi,rfl⟩:=map_inj e1
  rw [hi] at e2
  cases e2
  exact hat i (uG i (List.mem_of_getElem? hi))
 obtain ⟨r1,r2⟩:=h2.set hb hb' hvl
 have r3:=Rel.af5 r1 M
 refine ⟨.tuple ⟨[]⟩,⟨HA.n+M,(HA.set b' ((jY cf ps.length).map fun i=>ws.getD (i%ps.length) undef)).get⟩, .outer (.inr (.inr ⟨rfl,b',ps.length,M,ws,cf,rfl,h0,hl2,q3,hwl,?_,uq,fun i j=>?_,rfl,rfl⟩)),fun h=>(by cases h),ρ,Z, .tuple ⟨[]⟩,_, .tuple rfl (fun i c d h=>by simp at h),by rw [hmap];exact r3,by simp,fun _ _=>rfl,?_,hK _ hσ hsorted⟩
 ·intro c hc
  obtain ⟨j,hj⟩:=List.mem_iff_getElem?.1 hc
  have hj2:j<ps.length:=by rw [←hwl];exact (List.getElem?_eq_some_iff.1 hj).1
  have e:ws.getD j undef=c:=by rw [List.getD_eq_getElem?_getD,hj];rfl
  have Jr:=hat j hj2
  rw [e] at Jr
  obtain ⟨k,h,e2,_⟩:=hv j hj2
  rw [e2] at Jr
  obtain ⟨_,_,rfl⟩:=Jr.slice_inv
  rfl
 ·obtain ⟨HA',g1,g2⟩:=hM (i%ps.length) (Nat.mod_lt _ h0) (j%ps.length) (Nat.mod_lt _ h0)
  refine ⟨HA',g1,?_⟩
  rw [hcf]
  exact g2
 ·rw [hmap]
  exact ⟨Nat.le_trans r2.n (Nat.le_add_right _ _),r2.keep,r2.own,r2.zx,fun x bk hx=>r2.zn x bk hx⟩
end Go.Bm
namespace Go.Bm
open Go Go.Am
theorem af6 {b:Nat} {c:Value} {H:BH} {K:Value→BH→Prop} (hK:K (.tuple ⟨[]⟩) H):aF false X0 [S b 0 0 1,I 0,I 0,c] H K:=by
 refine aG Zg ?_;simp only [jl,aB]
 refine aC ?_
 refine tH ?_
 refine aW (fun m f H'=>f 2=I 0∧f 8=I 1∧H'=H) (0) ?_ ?_
 ·exact ⟨_,_,Gh.refl,ah,ah,rfl⟩
 ·rintro m f H' R ⟨g2,g8,rfl⟩ hN hX hR hE
  simp only [jl.l1,aB]
  refine aA (aH @g2 @g8) ?_
  refine bV ?_
  refine hX _ _ ?_
  refine pJ ?_
  refine aV ?_
  exact hK
theorem af7 {b:Nat} {c l:Value} {H:BH} {K:Value→BH→Prop} (hK:K (.tuple ⟨[]⟩) H):aF false XH [S b 0 0 1,I 0,I 0,l,c] H K:=by
 refine aG YV ?_;simp only [bf,aB]
 refine aC ?_
 refine aC ?_
 refine tH ?_
 refine aW (fun m f H'=>m=0∧f 0=S b 0 0 1∧f 1=I 0∧f 2=I 0∧f 4=c∧H'=H) (0) ?_ ?_
 ·exact ⟨_,_,Gh.refl,rfl,ah,ah,ah,ah,rfl⟩
 ·rintro m f H' R ⟨rfl,g0,g1,g2,g4,rfl⟩ hN hX hR hE
  simp only [bf.l0,aB]
  refine uK ?_
  refine jQ ?_
  refine aA (aH @g1 @g2) ?_
  refine aC ?_
  refine jy ?_
  refine dF (dh @g0 @g1 @g2 @g4) fun Kr hKr=>?_
  refine af6 ?_
  refine aS ?_
  refine aO hKr ?_
  refine zi ?_
  refine hR _ _ ?_
  refine aV ?_
  exact hK
theorem afR {b:Nat} {c:Value} {H:BH} {K:Value→BH→Prop} (hK:K (.tuple ⟨[]⟩) H):aF false yw [S b 0 0 1,c] H K:=by
 show aF false Xp _ _ _
 refine aG YA ?_;simp only [qM,aB]
 refine aC ?_
 refine dN fun Kr hKr=>?_;simp (disch:=omega) only [RA,↓reduceIte,Nat.reduceEqDiff,RD,wu64]
 refine GI (n:=0) (by omega) ?_
 refine aS ?_
 refine af7 ?_
 refine aS ?_
 refine hKr _ _ ?_;clear hKr Kr
 refine aV ?_
 exact hK
theorem afO {n:Nat} {b w:List Nat} {H:BH} {K:Value→BH→Prop} (hb:By 16 b) (hw:By 16 w) (hd:aX n b w)
  (hK:K (S (H.length+4) 0 3 1) (((((H++[some (DC n b w)])++[some ((typ b n).map bF)])++[some ((typ w n).map bF)])++[some ((typ (jR b w n) n).map bF)])++[some (hdr (H.length+1) (dS (typ b n,typ w n,typ (jR b w n) n)))])):aF false Kw [DV n b w] H K:=by
 have hlb:=hb.len
 have fG:=hw.len
 have hn:=hd.1.1
 have hb16:=fun i=>hd.1.jM hlb i
 have hw16:=fun i=>hd.2.1.jM fG i
 have ln: ∀(H:BH) (c:Option (List Value)),(H++[c]).length=H.length+1:=fun H c=>by simp
 have q0:blk (H++[some (DC n b w)]) H.length=some (DC n b w):=by rw [l9,if_pos rfl]
 have q1: ∀x,blk ((H++[some (DC n b w)])++[x]) H.length=some (DC n b w):=fun x=>by rw [l9,if_neg (by rw [ln];omega),q0]
 have q2: ∀x y,blk (((H++[some (DC n b w)])++[x])++[y]) H.length=some (DC n b w):=fun x y=>by rw [l9,if_neg (by rw [ln,ln];omega),q1]
 have hh:hdr (H.length+1) (dS (typ b n,typ w n,typ (jR b w n) n))=[S (H.length+1) 0 (typ b n).length 1,S (H.length+1+1) 0 (typ w n).length 1,S (H.length+1+1+1) 0 (typ (jR b w n) n).length 1]:=by
  simp [dS,aP,hdr]
 rw [hh] at hK
 refine aG KQ ?_;simp only [pR,aB]
 refine aA @aI ?_
 refine dF (bP @aI @aT @q0) fun Kr hKr=>?_
 refine CQ (by (simp only [RH])) kU (CV hb hd.1) ?_
 refine gU (dh @aI @aT @q1 @ln) ?_
 refine CQ (by (simp only [RH])) kU (CV hw hd.2.1) ?_
 refine gU (dh @aI @aT @q2 @ln) ?_
 refine O1 hb hw (by omega) hb16 hw16 ?_
 refine gU (dh @aI @aT @q2 @ln) ?_
 refine CQ (by (simp only [RH])) kU (CV (Ef (by omega)) (qA hd.1 hd.2.1)) ?_
 refine gU @ln ?_
 refine aO hKr ?_
 refine aV ?_
 exact hK
end Go.Bm
namespace Go.Bm
open Go Go.Am
theorem Js: ∀{p q:List Nat},p.length=q.length→eqCells (p.map N8) (q.map N8)=some (decide (p=q))
 |[],[],_=>rfl
 |[],_::_,h=>by simp at h
 | _::_,[],h=>by simp at h
 |a::p,b::q,h=>by
  have ih:=Js (p:=p) (q:=q) (by simpa using h)
  simp only [List.map_cons,eqCells,eqCell,if_true,ih,Option.map_some,Option.some.injEq]
  by_cases e:a=b
  ·subst e;simp
  ·have: ¬((a:Int)=(b:Int)):=by omega
   simp [e,this]
theorem af8 {neg:Bool} {m:Nat} {p q:List Nat} (hp:p.length=m) (hq:q.length=m):wu neg m (PL p) (PL q)=some (.bool (if neg then !decide (p=q) else decide (p=q))):=by
 have:aEqa m (PL p) (PL q)=some (decide (p=q)):=by
  simp only [aEqa]
  rw [if_pos (by simpa using hp)]
  exact Js (by omega)
 simp only [wu,this,Option.map_some]
end Go.Bm
namespace Go.Bm
open Go Go.Am
section
variable {H:BH} {i:Nat} {n m:Int} {c t s p c' t' s':List Nat}
end
def Jt (l:List Nat) (n:Int) (x:Nat):Prop:=(n≤(x:Int)→nl l x=0)∧((x:Int)<n→(nl l x:Int)<n∧nl l x≠x∧nl l (nl l x)=x)
instance (l:List Nat) (n:Int) (x:Nat):Decidable (Jt l n x):=by unfold Jt;infer_instance
def Pairs (l:List Nat) (n:Int):Prop:= ∀x,x<32→Jt l n x
instance (l:List Nat) (n:Int):Decidable (Pairs l n):=by unfold Pairs;infer_instance
end Go.Bm
namespace Go.Bm
open Go Go.Am
end Go.Bm
namespace Go.Bm
open Go Go.Am
end Go.Bm
namespace Go.Bm
open Go Go.Am
theorem afu {neg:Bool} {n m:Int} {b w b' w':List Nat} (hb:b.length=16) (hw:w.length=16) (hb':b'.length=16) (hw':w'.length=16):
  wu neg 33 (aggL (DC n b w)) (aggL (DC m b' w'))=some (.bool (if neg then !decide (n=m∧(b,w)=(b',w')) else decide (n=m∧(b,w)=(b',w')))):=by
 have e1:eqCells ((b++w).map N8) ((b'++w').map N8)=some (decide (b++w=b'++w')):=Js (by simp [hb,hw,hb',hw'])
 have e2:(b++w=b'++w')↔(b,w)=(b',w'):=by
  rw [Prod.mk.injEq]
  exact ⟨fun h=>List.append_inj h (by omega),fun h=>by rw [h.1,h.2]⟩
 have:aEqa 33 (aggL (DC n b w)) (aggL (DC m b' w'))=some (decide (n=m∧(b,w)=(b',w'))):=by
  simp only [aEqa]
  rw [if_pos (by simp [hb,hw])]
  rw [List.map_append,List.map_append] at e1
  simp only [DC,eqCells,eqCell,if_true,e1,Option.map_some,Option.some.injEq]
  by_cases h1:n=m
  ·by_cases h2:b++w=b'++w'
   ·rw [decide_eq_true h2,decide_eq_true ⟨h1,e2.1 h2⟩]
    simp [h1]
   ·have h3:=fun h=>h2 (e2.2 h)
    rw [decide_eq_false h2,decide_eq_false (fun h=>h3 h.2)]
    simp
  ·simp [h1]
 simp only [wu,this,Option.map_some]
end Go.Bm
namespace Go.Bm
open Go Go.Am
theorem Wy {ls:List (List Nat)} {st:BS} {k:Nat}: ∀d,∃q,(aN ls st (k+d)).2=(aN ls st k).2++q
 |0=>⟨[],by simp⟩
 |d+1=>by
  obtain ⟨q,hq⟩:=Wy (ls:=ls) (st:=st) (k:=k) d
  rw [show k+(d+1)=(k+d)+1 by omega,aN]
  split
  ·obtain ⟨r,hr⟩:= @rG (nl (aN ls st (k+d)).2 (k+d)) ls (aN ls st (k+d))
   exact ⟨q++r,by rw [hr,hq,List.append_assoc]⟩
  ·exact ⟨q,hq⟩
theorem af9 {p q:List Nat} {i:Nat} (h:i<p.length):nl (p++q) i=nl p i:=by rw [mO,if_pos h]
theorem WA {x0:Bool} {n x:Nat} {b w:List Nat} {H:BH} {K:Value→BH→Prop} (hb:By 16 b) (hw:By 16 w) (hd:aX n b w) (hx:x<n)
  (hK:K (PL (dW b w x)) H):aF x0 X8 [DV n b w,I x] H K:=by
 have hlb:=hb.len
 have fG:=hw.len
 have hn:=hd.1.1
 have hb16:=fun i=>hd.1.jM hlb i
 have hw16:=fun i=>hd.2.1.jM fG i
 have kG: ∀p∈[b,w],∀i,nl p i<16:=by simp;exact ⟨hb16,hw16⟩
 have hx16:x<16:=by omega
 have ab2:(List.replicate 16 false).length=16:=List.length_replicate
 have hz:=jS
 obtain ⟨l,hl⟩: ∃l,ord b w x=l:=⟨_,rfl⟩
 have hlen:=nH hd hx
 rw [hl] at hlen
 refine bK (.cons jP (.cons .int .nil)) ?_
 refine aG Zq ?_;simp only [bU,aB]
 refine au fun Kr hKr=>?_;simp (disch:=omega) only [RA,↓reduceIte,Nat.reduceEqDiff,Nat.reduceBEq,Nat.reduceSub,Nat.reduceAdd,Nat.reduceMul,Nat.reduceLT,Nat.reduceLeDiff,Int.reduceLE,Int.reduceLT,Int.reduceEq,Int.reduceNeg,Int.reduceToNat,Int.reduceMul,Int.reduceAdd,Int.reduceSub,Int.reduceBEq,Int.reduceBNe,reduceCtorEq,RD,aI];refine hKr _ _ ?_;clear hKr Kr;(try simp only [RN,reduceIte]);try refine aj rfl ?_
 refine au fun Kr hKr=>?_;simp (disch:=omega) only [RA,↓reduceIte,Nat.reduceEqDiff,Nat.reduceBEq,Nat.reduceSub,Nat.reduceAdd,Nat.reduceMul,Nat.reduceLT,Nat.reduceLeDiff,Int.reduceLE,Int.reduceLT,Int.reduceEq,Int.reduceNeg,Int.reduceToNat,Int.reduceMul,Int.reduceAdd,Int.reduceSub,Int.reduceBEq,Int.reduceBNe,reduceCtorEq,RD];refine hKr _ _ ?_;clear hKr Kr;(try simp only [RN,reduceIte]);try refine aj rfl ?_
 refine au fun Kr hKr=>?_;simp (disch:=omega) only [RA,↓reduceIte,Nat.reduceEqDiff,RD,FK];refine hKr _ _ ?_;clear hKr Kr;(try simp only [RN,reduceIte]);try refine aj rfl ?_
 refine au fun Kr hKr=>?_;simp (disch:=omega) only [RA,↓reduceIte,Nat.reduceEqDiff,Nat.reduceBEq,Nat.reduceSub,Nat.reduceAdd,Nat.reduceMul,Nat.reduceLT,Nat.reduceLeDiff,Int.reduceLE,Int.reduceLT,Int.reduceEq,Int.reduceNeg,Int.reduceToNat,Int.reduceMul,Int.reduceAdd,Int.reduceSub,Int.reduceBEq,Int.reduceBNe,reduceCtorEq,RD];refine hKr _ _ ?_;clear hKr Kr;(try simp only [RN,reduceIte]);try refine aj rfl ?_
 refine aW (fun m f H'=> ∃k st,k≤16∧m=16-k∧st=aN [b,w] (stA x) k∧k≤st.2.length∧f 2=P 0 0∧f 4=P 1 0∧f 5=P 3 0∧f 6=P 4 0∧f 7=S 2 0 st.2.length 1∧f 8=I k∧H'=[some (DC n b w),some (List.replicate 16 (.int .u8 0)),some (st.2.map N8),some ((iw l k).map N8),some (st.1.map B)]) (16) ?_ ?_
 ·exact ⟨_,_,Gh.refl,0,stA x,by omega,by omega,rfl,Nat.zero_le _,ah,ah,ah,ah,ah,ah,by simp [stA,oW,iw]⟩
 ·rintro m f H' R ⟨k,st,hk,rfl,hst,hkl,g2,g4,g5,g6,g7,g8,rfl⟩ hN hX hR hE
  simp only [bU.l1,aB]
  have hB:=(ML hx16).aN kG k
  rw [←hst] at hB
  have hpre: ∃q,l=st.2++q:=by
   obtain ⟨q,hq⟩:=Wy (ls:=[b,w]) (st:=stA x) (k:=k) (16-k)
   rw [show k+(16-k)=16 by omega,←hst] at hq
   exact ⟨q,by rw [←hl,←hq];rfl⟩
  replace hst:=hst.symm
  have hle:=hB.le
  have hsl:=hB.len
  refine au fun Kr hKr=>?_;simp (disch:=omega) only [RA,↓reduceIte,Nat.reduceEqDiff,RD,g7,g8];refine hKr _ _ ?_;clear hKr Kr;(try simp only [RN,reduceIte]);try refine aj rfl ?_
  refine eY (p:=k<st.2.length) (by simp only [RA,↓reduceIte,Nat.reduceEqDiff]<;>rfl) (by (try simp only [RB])<;>first|done|exact Iff.rfl|omega|simp) (fun hc=>?_) (fun hc=>?_)<;>(try simp only [RN,reduceIte])<;>(try refine aj rfl ?_)
  ·have yI:k<st.2.length:=by assumption
   have hxk:=hB.lt k yI
   have hlk:nl l k=nl st.2 k:=by
    obtain ⟨q,hq⟩:=hpre
    rw [hq,af9 yI]
   have h1:=hb16 (nl st.2 k)
   have h2:=hw16 (nl st.2 k)
   have hnl:= @yK l k
   have hnk:(iw l k).set (nl st.2 k) k=iw l (k+1):=by rw [iw,hlk]
   (first|refine fV rfl ?_|refine fZ rfl ?_);(try simp only [RN,reduceIte]);try refine aj rfl ?_
   refine au fun Kr hKr=>?_;simp (disch:=omega) only [RA,↓reduceIte,Nat.reduceEqDiff,RD,g7,g8];refine hKr _ _ ?_;clear hKr Kr;(try simp only [RN,reduceIte]);try refine aj rfl ?_
   obtain ⟨z,hz0⟩: ∃z,nl st.2 k=z:=⟨_,rfl⟩
   rw [hz0] at hxk h1 h2 hlk hnk
   refine au fun Kr hKr=>?_;simp (disch:=omega) only [RA,↓reduceIte,Nat.reduceEqDiff,RD,hz0,g5,g8,hnl,hnk];refine hKr _ _ ?_;clear hKr Kr;(try simp only [RN,reduceIte]);try refine aj rfl ?_
   refine au fun Kr hKr=>?_;simp (disch:=omega) only [RA,↓reduceIte,Nat.reduceEqDiff,Nat.reduceBEq,Nat.reduceSub,Nat.reduceAdd,Nat.reduceMul,Nat.reduceLT,Nat.reduceLeDiff,Int.reduceLE,Int.reduceLT,Int.reduceEq,Int.reduceNeg,Int.reduceToNat,Int.reduceMul,Int.reduceAdd,Int.reduceSub,Int.reduceBEq,Int.reduceBNe,reduceCtorEq,RD];refine hKr _ _ ?_;clear hKr Kr;(try simp only [RN,reduceIte]);try refine aj rfl ?_
   refine aW (fun m f H'=> ∃j st',j≤2∧m=2-j∧st'=gY ([b,w].take j) z st∧f 2=P 0 0∧f 4=P 1 0∧f 5=P 3 0∧f 6=P 4 0∧f 7=S 2 0 st'.2.length 1∧f 8=I k∧f 9=N8 z∧f 10=I j∧H'=[some (DC n b w),some (List.replicate 16 (.int .u8 0)),some (st'.2.map N8),some ((iw l (k+1)).map N8),some (st'.1.map B)]) (2) ?_ ?_
   ·exact ⟨_,_,Gh.refl,0,st,by omega,by omega,rfl,ah,ah,ah,ah,ah,ah,ah,ah,rfl⟩
   ·clear g2 g4 g5 g6 g7 g8
    rintro m f H' R2 ⟨j,st',hj,rfl,hst',g2,g4,g5,g6,g7,g8,g9,g10,rfl⟩ iT hX2 hR2 hE2
    simp only [bU.l0,aB]
    refine au fun Kr hKr=>?_;simp (disch:=omega) only [RA,↓reduceIte,Nat.reduceEqDiff,RD,g10];refine hKr _ _ ?_;clear hKr Kr;(try simp only [RN,reduceIte]);try refine aj rfl ?_
    have hB':Bi 16 st':=by rw [hst'];exact hB.round fun p hp=>kG p (List.mem_of_mem_take hp) _
    have hle':=hB'.le
    have oq:=hB'.len
    refine eY (p:=j<2) (by simp only [RA,↓reduceIte,Nat.reduceEqDiff]<;>rfl) (by (try simp only [RB])<;>first|done|exact Iff.rfl|omega|simp) (fun hc=>?_) (fun hc=>?_)<;>(try simp only [RN,reduceIte])<;>(try refine aj rfl ?_)
    ·have hj2:j<2:=by assumption
     have hnx:=CB (ls:=[b,w]) (x:=z) (st:=st) hj2
     rw [←hst'] at hnx
     have hyl:nl ([b,w].getD j []) z<16:=kG _ (getD_mem hj2) _
     have hgo: ∀f' y,nl ([b,w].getD j []) z=y→f' 2=P 0 0→f' 4=P 1 0→f' 5=P 3 0→f' 6=P 4 0→f' 7=S 2 0 st'.2.length 1→f' 8=I k→f' 9=N8 z→f' 10=I j→f' 11=N8 y→
       T 0 (.seq bU.iq (.seq (.cond (.t 50) (.seq bU.kC bU.r16) .skip) bU.r10)) R2 f' [some (DC n b w),some (List.replicate 16 (.int .u8 0)),some (st'.2.map N8),some ((iw l (k+1)).map N8),some (st'.1.map B)]:=by
      clear g2 g4 g5 g6 g7 g8 g9 g10
      intro f' y hy g2 g4 g5 g6 g7 g8 g9 g10 g11
      rw [hy] at hyl hnx
      have hxi:y<16:=hyl
      have hnext: ∀f' st2,f' 2=P 0 0→f' 4=P 1 0→f' 5=P 3 0→f' 6=P 4 0→f' 7=S 2 0 st2.2.length 1→f' 8=I k→f' 9=N8 z→f' 10=I j→st2=visit st' y→T 0 bU.r10 R2 f' [some (DC n b w),some (List.replicate 16 (.int .u8 0)),some (st2.2.map N8),some ((iw l (k+1)).map N8),some (st2.1.map B)]:=by
       clear g2 g4 g5 g6 g7 g8 g9 g10 g11
       intro f' st2 g2 g4 g5 g6 g7 g8 g9 g10 hs2
       refine dN fun Kr hKr=>?_;simp (disch:=omega) only [RA,↓reduceIte,Nat.reduceEqDiff,RD,g10];refine hKr _ _ ?_;clear hKr Kr
       exact iT (2-(j+1)) _ _ _ _ (by omega) Gh.refl ⟨j+1,st2,by omega,rfl,by rw [hnx,hs2],ah,ah,ah,ah,ah,ah,ah,ah,rfl⟩
      refine au fun Kr hKr=>?_;simp (disch:=omega) only [RA,↓reduceIte,Nat.reduceEqDiff,Nat.reduceAdd,Nat.reduceMul,Int.reduceToNat,Nat.reduceLT,reduceCtorEq,RD,g6,g11,oq];refine hKr _ _ ?_;clear hKr Kr;(try simp only [RN,reduceIte]);try refine aj rfl ?_
      refine eY (p:= ¬bl st'.1 y=true) (by simp only [RA,↓reduceIte,Nat.reduceEqDiff,Nat.reduceBEq,Nat.reduceSub,Nat.reduceAdd,Nat.reduceMul,Nat.reduceLT,Nat.reduceLeDiff,Int.reduceLE,Int.reduceLT,Int.reduceEq,Int.reduceNeg,Int.reduceToNat,Int.reduceMul,Int.reduceAdd,Int.reduceSub,Int.reduceBEq,Int.reduceBNe,reduceCtorEq]<;>rfl) (by (try simp only [RB])<;>first|done|exact Iff.rfl|omega|simp) (fun hc=>?_) (fun hc=>?_)<;>(try simp only [RN,reduceIte])<;>(try refine aj rfl ?_)
      ·refine au fun Kr hKr=>?_;simp (disch:=omega) only [RA,↓reduceIte,Nat.reduceEqDiff,Nat.reduceBEq,Nat.reduceSub,Nat.reduceAdd,Nat.reduceMul,Nat.reduceLT,Nat.reduceLeDiff,Int.reduceLE,Int.reduceLT,Int.reduceEq,Int.reduceNeg,Int.reduceToNat,Int.reduceMul,Int.reduceAdd,Int.reduceSub,Int.reduceBEq,Int.reduceBNe,reduceCtorEq,RD,g6,g11,oq];refine hKr _ _ ?_;clear hKr Kr;(try simp only [RN,reduceIte]);try refine aj rfl ?_
       refine au fun Kr hKr=>?_;simp (disch:=omega) only [RA,↓reduceIte,Nat.reduceEqDiff,Nat.reduceBEq,Nat.reduceSub,Nat.reduceAdd,Nat.reduceMul,Nat.reduceLT,Nat.reduceLeDiff,Int.reduceLE,Int.reduceLT,Int.reduceEq,Int.reduceNeg,Int.reduceToNat,Int.reduceMul,Int.reduceAdd,Int.reduceSub,Int.reduceBEq,Int.reduceBNe,reduceCtorEq,RD,g7,g11];refine hKr _ _ ?_;clear hKr Kr;(try simp only [RN,reduceIte]);try refine aj rfl ?_
       refine jT (Gh.nrm [0,1,6,3,4] rfl rfl (by simp only [RH,rF])) ?_
       refine hnext _ (st'.1.set y true,st'.2++[y]) ah ah ah ah ah ah ah ah ?_
       rw [visit,if_neg hc]
      ·(try simp only [RN,reduceIte]);try refine aj rfl ?_
       refine hnext _ st' ah ah ah ah ah ah ah ah ?_
       rw [visit,if_pos (by simpa using hc)]
     (first|refine fV rfl ?_|refine fZ rfl ?_);(try simp only [RN,reduceIte]);try refine aj rfl ?_
     refine au fun Kr hKr=>?_;simp (disch:=omega) only [RA,↓reduceIte,Nat.reduceEqDiff,RD,g2,g9,aI,aT];refine hKr _ _ ?_;clear hKr Kr;(try simp only [RN,reduceIte]);try refine aj rfl ?_
     have hjc:j=0∨j=1:=by omega
     rcases hjc with rfl|rfl
     ·refine au fun Kr hKr=>?_;simp (disch:=omega) only [RA,↓reduceIte,Nat.reduceEqDiff,RD,g10];refine hKr _ _ ?_;clear hKr Kr;(try simp only [RN,reduceIte]);try refine aj rfl ?_
      refine dY (t:=false) (by simp (disch:=omega) only [RA,↓reduceIte,Nat.reduceEqDiff,RD]) ?_;(try simp only [RN,reduceIte]);try refine aj rfl ?_
      exact hgo _ _ rfl ah ah ah ah ah ah ah ah ah
     ·refine au fun Kr hKr=>?_;simp (disch:=omega) only [RA,↓reduceIte,Nat.reduceEqDiff,RD,g10];refine hKr _ _ ?_;clear hKr Kr;(try simp only [RN,reduceIte]);try refine aj rfl ?_
      refine dY (t:=true) (by simp (disch:=omega) only [RA,↓reduceIte,Nat.reduceEqDiff,RD]) ?_;(try simp only [RN,reduceIte]);try refine aj rfl ?_
      refine au fun Kr hKr=>?_;simp (disch:=omega) only [RA,↓reduceIte,Nat.reduceEqDiff,RD,g2,g9,aI,aT];refine hKr _ _ ?_;clear hKr Kr;(try simp only [RN,reduceIte]);try refine aj rfl ?_
      exact hgo _ _ rfl ah ah ah ah ah ah ah ah ah
    ·refine hX2 _ _ ?_
     obtain rfl:j=2:=by omega
     have hst2:st'=aN [b,w] (stA x) (k+1):=by
      rw [hst',aN,hst,if_pos yI,hz0];rfl
     obtain ⟨q,hq⟩:= @rG z ([b,w].take 2) st
     have hlq:k+1≤st'.2.length:=by rw [hst',hq];simp;omega
     refine dN fun Kr hKr=>?_;simp (disch:=omega) only [RA,↓reduceIte,Nat.reduceEqDiff,RD,g8];refine hKr _ _ ?_;clear hKr Kr
     refine hN (16-(k+1)) _ _ _ _ (by omega) Gh.refl ⟨k+1,st',by omega,rfl,hst2,hlq,ah,ah,ah,ah,ah,ah,rfl⟩
  ·refine hX _ _ ?_
   have hfin:aN [b,w] (stA x) 16=st:=by rw [vC (i:=k) (by rw [hst];omega) 16 hk,hst]
   have hkl2:k=l.length:=by
    have:l=st.2:=by rw [←hl,ord,hfin]
    rw [this]
    omega
   have hnl:= @yK l k
   refine au fun Kr hKr=>?_;simp (disch:=omega) only [RA,↓reduceIte,Nat.reduceEqDiff,RD,g4,g5,hnl];refine hKr _ _ ?_;clear hKr Kr;(try simp only [RN,reduceIte]);try refine aj rfl ?_
   refine bZ (by simp (disch:=omega) only [RA,↓reduceIte,Nat.reduceEqDiff,RD,resAll,resOf,g4,hnl];rfl) aY.refl ?_;simp only [tup]
   rw [dW,hl,←hkl2] at hK
   exact ⟨jr mG,hK⟩
theorem WB {x0:Bool} {n:Nat} {b w nm:List Nat} {H:BH} {K:Value→BH→Prop} (hb:By 16 b) (hw:By 16 w) (hn:n≤16) (hb16: ∀i,nl b i<16) (hw16: ∀i,nl w i<16) (hm:By 16 nm) (FP: ∀i,nl nm i<16)
  (hK:K (DV n (dJ b nm n) (dJ w nm n)) H):aF x0 X7 [DV n b w,PL nm] H K:=by
 have hlb:=hb.len
 have fG:=hw.len
 have hlm:=hm.len
 have hz:=jS
 refine bK (by exact .cons jP (.cons (jr mG) .nil)) ?_
 refine aG Zp ?_;simp only [jm,aB]
 refine au fun Kr hKr=>?_;simp (disch:=omega) only [RA,↓reduceIte,Nat.reduceEqDiff,RD,aI];refine hKr _ _ ?_;clear hKr Kr;(try simp only [RN,reduceIte]);try refine aj rfl ?_
 refine au fun Kr hKr=>?_;simp (disch:=omega) only [RA,↓reduceIte,Nat.reduceEqDiff,RD,aI,aT];refine hKr _ _ ?_;clear hKr Kr;(try simp only [RN,reduceIte]);try refine aj rfl ?_
 refine au fun Kr hKr=>?_;simp (disch:=omega) only [RA,↓reduceIte,Nat.reduceEqDiff,RD,aI];refine hKr _ _ ?_;clear hKr Kr;(try simp only [RN,reduceIte]);try refine aj rfl ?_
 refine aW (fun m f H'=> ∃k,k≤n∧m=n-k∧f 2=P 0 0∧f 3=P 1 0∧f 4=P 2 0∧f 5=P 3 0∧f 6=I k∧H'=[some (DC n b w),some (nm.map N8),some (DC 0 fQ fQ),some (DC n (dJ b nm k) (dJ w nm k))]) (n) ?_ ?_
 ·exact ⟨_,_,Gh.refl,0,by omega,by omega,ah,ah,ah,ah,ah,rfl⟩
 ·rintro m f H' R ⟨k,hk,rfl,g2,g3,g4,g5,g6,rfl⟩ hN hX hR hE
  simp only [jm.l0,aB]
  have hl1:= @qp b nm k
  have hl2:= @qp w nm k
  refine au fun Kr hKr=>?_;simp (disch:=omega) only [RA,↓reduceIte,Nat.reduceEqDiff,RD,g2,g6,aI];refine hKr _ _ ?_;clear hKr Kr;(try simp only [RN,reduceIte]);try refine aj rfl ?_
  refine eY (p:=k<n) (by simp only [RA,↓reduceIte,Nat.reduceEqDiff]<;>rfl) (by (try simp only [RB])<;>first|done|exact Iff.rfl|omega|simp) (fun hc=>?_) (fun hc=>?_)<;>(try simp only [RN,reduceIte])<;>(try refine aj rfl ?_)
  ·have h1:=hb16 k
   have h2:=hw16 k
   have h3:=FP k
   have hl3:((dJ b nm k).set (nl nm k) (nl nm (nl b k))).length=16:=by rw [List.length_set];exact hl1
   (first|refine fV rfl ?_|refine fZ rfl ?_);(try simp only [RN,reduceIte]);try refine aj rfl ?_
   refine au fun Kr hKr=>?_;simp (disch:=omega) only [RA,↓reduceIte,Nat.reduceEqDiff,RD,g2,g3,g5,g6,aI,aT];refine hKr _ _ ?_;clear hKr Kr;(try simp only [RN,reduceIte]);try refine aj rfl ?_
   refine au fun Kr hKr=>?_;simp (disch:=omega) only [RA,↓reduceIte,Nat.reduceEqDiff,RD,g2,g3,g5,g6,aI,aT];refine hKr _ _ ?_;clear hKr Kr;(try simp only [RN,reduceIte]);try refine aj rfl ?_
   refine dN fun Kr hKr=>?_;simp (disch:=omega) only [RA,↓reduceIte,Nat.reduceEqDiff,RD,g6];refine hKr _ _ ?_;clear hKr Kr
   exact hN (n-(k+1)) _ _ _ _ (by omega) Gh.refl ⟨k+1,by omega,rfl,ah,ah,ah,ah,ah,rfl⟩
  ·refine hX _ _ ?_
   obtain rfl:k=n:=by omega
   refine au fun Kr hKr=>?_;simp (disch:=omega) only [RA,↓reduceIte,Nat.reduceEqDiff,RD,g4,g5,aI,aT];refine hKr _ _ ?_;clear hKr Kr;(try simp only [RN,reduceIte]);try refine aj rfl ?_
   refine bZ (by simp (disch:=omega) only [RA,↓reduceIte,Nat.reduceEqDiff,RD,resAll,resOf,g4,aI,aT];rfl) aY.refl ?_;simp only [tup]
   exact ⟨jP,hK⟩
theorem lex_lt {p q:List Nat} {i:Nat} (hp:i<p.length) (hq:i<q.length) (he: ∀j,j<i→nl p j=nl q j) (h:nl p i<nl q i):p<q:=by
 refine List.lt_iff_exists.2 (.inr ⟨i,hp,hq,fun j hj=>?_,?_⟩)
 ·have:=he j hj
  simpa [nl,List.getD,show j<p.length by omega,show j<q.length by omega] using this
 ·simpa [nl,List.getD,hp,hq] using h
theorem WC {x0:Bool} {p q:List Nat} {H:BH} {K:Value→BH→Prop} (hp:By 16 p) (hq:By 16 q) (hK:K (.bool (decide (p<q))) H):aF x0 Yd [PL p,PL q] H K:=by
 have hlp:=hp.len
 have hlq:=hq.len
 refine bK (by exact .cons (jr mG) (.cons (jr mG) .nil)) ?_
 refine aG Zx ?_;simp only [jK,aB]
 refine au fun Kr hKr=>?_;simp (disch:=omega) only [RA,↓reduceIte,Nat.reduceEqDiff,RD];refine hKr _ _ ?_;clear hKr Kr;(try simp only [RN,reduceIte]);try refine aj rfl ?_
 refine au fun Kr hKr=>?_;simp (disch:=omega) only [RA,↓reduceIte,Nat.reduceEqDiff,RD];refine hKr _ _ ?_;clear hKr Kr;(try simp only [RN,reduceIte]);try refine aj rfl ?_
 refine aW (fun m f H'=> ∃i,i≤16∧m=16-i∧(∀j,j<i→nl p j=nl q j)∧f 2=P 0 0∧f 3=P 1 0∧f 5=I i∧H'=[some (p.map N8),some (q.map N8)]) (16) ?_ ?_
 ·exact ⟨_,_,Gh.refl,0,by omega,by omega,fun j hj=>by omega,ah,ah,ah,rfl⟩
 ·rintro m f H' R ⟨i,hi,rfl,he,g2,g3,g5,rfl⟩ hN hX hR hE
  simp only [jK.l0,aB]
  refine au fun Kr hKr=>?_;simp (disch:=omega) only [RA,↓reduceIte,Nat.reduceEqDiff,RD,g5];refine hKr _ _ ?_;clear hKr Kr;(try simp only [RN,reduceIte]);try refine aj rfl ?_
  refine eY (p:=i<16) (by simp only [RA,↓reduceIte,Nat.reduceEqDiff]<;>rfl) (by (try simp only [RB])<;>first|done|exact Iff.rfl|omega|simp) (fun hc=>?_) (fun hc=>?_)<;>(try simp only [RN,reduceIte])<;>(try refine aj rfl ?_)
  ·have ag5:i<16:=by assumption
   (first|refine fV rfl ?_|refine fZ rfl ?_);(try simp only [RN,reduceIte]);try refine aj rfl ?_
   refine au fun Kr hKr=>?_;simp (disch:=omega) only [RA,↓reduceIte,Nat.reduceEqDiff,RD,g2,g3,g5,hlp,hlq];refine hKr _ _ ?_;clear hKr Kr;(try simp only [RN,reduceIte]);try refine aj rfl ?_
   refine eY (p:= ¬nl p i=nl q i) (by simp only [RA,↓reduceIte,Nat.reduceEqDiff]<;>rfl) (by (try simp only [RB])<;>first|done|exact Iff.rfl|omega|simp) (fun hc=>?_) (fun hc=>?_)<;>(try simp only [RN,reduceIte])<;>(try refine aj rfl ?_)
   ·refine au fun Kr hKr=>?_;simp (disch:=omega) only [RA,↓reduceIte,Nat.reduceEqDiff,RD,g2,g3,g5,hlp,hlq];refine hKr _ _ ?_;clear hKr Kr;(try simp only [RN,reduceIte]);try refine aj rfl ?_
    refine hR _ _ ?_
    refine bZ (by simp (disch:=omega) only [RA,↓reduceIte,Nat.reduceEqDiff,RD,resAll,resOf];rfl) aY.refl ?_;simp only [tup]
    have e:decide (nl p i<nl q i)=decide (p<q):=by
     rw [decide_eq_decide]
     constructor
     ·intro h
      exact lex_lt (by omega) (by omega) he h
     ·intro h
      have h2: ¬nl q i<nl p i:=fun h2=>List.lt_asymm h (lex_lt (by omega) (by omega) (fun j hj=>(he j hj).symm) h2)
      omega
    rw [←e] at hK
    exact ⟨.bool,hK⟩
   ·have hee:=Decidable.not_not.1 hc
    have he': ∀j,j<i+1→nl p j=nl q j:=fun j hj=>by
     by_cases e:j=i
     ·rw [e];exact hee
     ·exact he j (by omega)
    refine dN fun Kr hKr=>?_;simp (disch:=omega) only [RA,↓reduceIte,Nat.reduceEqDiff,RD,g5];refine hKr _ _ ?_;clear hKr Kr
    exact hN (16-(i+1)) _ _ _ _ (by omega) Gh.refl ⟨i+1,by omega,rfl,he',ah,ah,ah,rfl⟩
  ·refine hX _ _ ?_
   obtain rfl:i=16:=by omega
   have e:p=q:=vg (by omega) fun i hi=>he i (by omega)
   subst e
   rw [decide_eq_false (List.lt_irrefl p)] at hK
   refine au fun Kr hKr=>?_;simp (disch:=omega) only [RA,↓reduceIte,Nat.reduceEqDiff,RD];refine hKr _ _ ?_;clear hKr Kr;(try simp only [RN,reduceIte]);try refine aj rfl ?_
   refine bZ (by simp (disch:=omega) only [RA,↓reduceIte,Nat.reduceEqDiff,RD,resAll,resOf];rfl) aY.refl ?_;simp only [tup]
   exact ⟨.bool,hK⟩
theorem VQ {x0:Bool} {n m:Int} {x y:L2} {H:BH} {K:Value→BH→Prop} (h1:By 16 x.1) (h2:By 16 x.2) (h3:By 16 y.1) (h4:By 16 y.2)
  (hK:K (.bool (decide (cZ x y))) H):aF x0 X6 [DV n x.1 x.2,DV m y.1 y.2] H K:=by
 have l1:=h1.len
 have l2:=h2.len
 have l3:=h3.len
 have l4:=h4.len
 refine bK (by exact .cons jP (.cons jP .nil)) ?_
 refine aG Zn ?_;simp only [mZ,aB]
 refine au fun Kr hKr=>?_;simp (disch:=omega) only [RA,↓reduceIte,Nat.reduceEqDiff,RD,aI];refine hKr _ _ ?_;clear hKr Kr;(try simp only [RN,reduceIte]);try refine aj rfl ?_
 refine au fun Kr hKr=>?_;simp (disch:=omega) only [RA,↓reduceIte,Nat.reduceEqDiff,RD,aI,aT,af8];refine hKr _ _ ?_;clear hKr Kr;(try simp only [RN,reduceIte]);try refine aj rfl ?_
 refine eY (p:= ¬x.1=y.1) (by simp only [RA,↓reduceIte,Nat.reduceEqDiff]<;>rfl) (by (try simp only [RB])<;>first|done|exact Iff.rfl|omega|simp) (fun hc=>?_) (fun hc=>?_)<;>(try simp only [RN,reduceIte])<;>(try refine aj rfl ?_)
 ·refine au fun Kr hKr=>?_;simp (disch:=omega) only [RA,↓reduceIte,Nat.reduceEqDiff,RD,aI,aT]
  refine WC h1 h3 ?_
  simp (disch:=omega) only [RA,↓reduceIte,Nat.reduceEqDiff,RD]
  refine hKr _ _ ?_;clear hKr Kr;(try simp only [bW,dH,dG]);(try simp only [RN,reduceIte]);try refine aj rfl ?_
  refine bZ (by simp (disch:=omega) only [RA,↓reduceIte,Nat.reduceEqDiff,RD,resAll,resOf];rfl) aY.refl ?_;simp only [tup]
  rw [show decide (x.1<y.1)=decide (cZ x y) by
   rw [decide_eq_decide]
   exact ⟨fun h=> .inl h,fun h=>h.elim id fun h=>absurd h.1 hc⟩]
  exact ⟨.bool,hK⟩
 ·have he:=Decidable.not_not.1 hc
  refine au fun Kr hKr=>?_;simp (disch:=omega) only [RA,↓reduceIte,Nat.reduceEqDiff,RD,aI,aT]
  refine WC h2 h4 ?_
  simp (disch:=omega) only [RA,↓reduceIte,Nat.reduceEqDiff,RD]
  refine hKr _ _ ?_;clear hKr Kr;(try simp only [bW,dH,dG]);(try simp only [RN,reduceIte]);try refine aj rfl ?_
  refine bZ (by simp (disch:=omega) only [RA,↓reduceIte,Nat.reduceEqDiff,RD,resAll,resOf];rfl) aY.refl ?_;simp only [tup]
  rw [show decide (x.2<y.2)=decide (cZ x y) by
   rw [decide_eq_decide]
   exact ⟨fun h=> .inr ⟨he,h⟩,fun h=>h.elim (fun h=>absurd (he▸h) (List.lt_irrefl _)) fun h=>h.2⟩]
  exact ⟨.bool,hK⟩
theorem afB {x0:Bool} {n:Nat} {b w:List Nat} {H:BH} {K:Value→BH→Prop} (hb:By 16 b) (hw:By 16 w) (hd:aX n b w)
  (hK:K (DV n (eG b w n).1 (eG b w n).2) H):aF x0 XU [DV n b w] H K:=by
 have hlb:=hb.len
 have fG:=hw.len
 have hz:=jS
 have hn:=hd.1.1
 have hb16:=fun i=>hd.1.jM hlb i
 have hw16:=fun i=>hd.2.1.jM fG i
 refine bK (by exact .cons jP .nil) ?_
 refine aG Y9 ?_;simp only [iQ,aB]
 refine au fun Kr hKr=>?_;simp (disch:=omega) only [RA,↓reduceIte,Nat.reduceEqDiff,RD,aI];refine hKr _ _ ?_;clear hKr Kr;(try simp only [RN,reduceIte]);try refine aj rfl ?_
 refine au fun Kr hKr=>?_;simp (disch:=omega) only [RA,↓reduceIte,Nat.reduceEqDiff,Nat.reduceAdd,Nat.reduceMul,Int.reduceToNat,Nat.reduceLT,reduceCtorEq,RD,aI,aT]
 have hq0:=yM (x:=0) hd (by omega)
 have l1:=hq0.1.len
 have l2:=hq0.2.len
 simp only [dR] at l1 l2
 refine WA (x:=0) hb hw hd (by omega) ?_
 simp (disch:=omega) only [RA,↓reduceIte,Nat.reduceEqDiff,Nat.reduceAdd,Nat.reduceMul,Int.reduceToNat,Nat.reduceLT,reduceCtorEq,RD,aI,aT]
 refine WB hb hw (by omega) hb16 hw16 (CG hd (by omega)) (yL hd (by omega)) ?_
 simp (disch:=omega) only [RA,↓reduceIte,Nat.reduceEqDiff,Nat.reduceAdd,Nat.reduceMul,Int.reduceToNat,Nat.reduceLT,reduceCtorEq,RD,aI,aT]
 refine hKr _ _ ?_;clear hKr Kr;(try simp only [bW,dH,dG]);(try simp only [RN,reduceIte]);try refine aj rfl ?_
 refine au fun Kr hKr=>?_;simp (disch:=omega) only [RA,↓reduceIte,Nat.reduceEqDiff,RD];refine hKr _ _ ?_;clear hKr Kr;(try simp only [RN,reduceIte]);try refine aj rfl ?_
 clear l1 l2
 refine aW (fun m f H'=> ∃k r,k+1≤n∧m=n-(k+1)∧r=lH b w n k∧f 1=P 0 0∧f 2=P 1 0∧f 3=P 2 0∧f 4=I ((k+1:Nat):Int)∧H'=[some (DC n b w),some (DC 0 fQ fQ),some (DC n r.1 r.2)]) (n-1) ?_ ?_
 ·exact ⟨_,_,Gh.refl,0,dR b w n 0,by omega,by omega,rfl,ah,ah,ah,ah,rfl⟩
 ·rintro m f H' R ⟨k,r,hk,rfl,hr,g1,g2,g3,g4,rfl⟩ hN hX hR hE
  simp only [iQ.l0,aB]
  have hrb:=uT (k:=k) hd (by omega)
  rw [←hr] at hrb
  have l1:=hrb.1.len
  have l2:=hrb.2.len
  refine au fun Kr hKr=>?_;simp (disch:=omega) only [RA,↓reduceIte,Nat.reduceEqDiff,RD,g1,g4,aI];refine hKr _ _ ?_;clear hKr Kr;(try simp only [RN,reduceIte]);try refine aj rfl ?_
  refine eY (p:=k+1<n) (by simp only [RA,↓reduceIte,Nat.reduceEqDiff]<;>rfl) (by (try simp only [RB])<;>first|done|exact Iff.rfl|omega|simp) (fun hc=>?_) (fun hc=>?_)<;>(try simp only [RN,reduceIte])<;>(try refine aj rfl ?_)
  ·have hq:=yM hd hc
   have l3:=hq.1.len
   have l4:=hq.2.len
   have hc':=hc
   (first|refine fV rfl ?_|refine fZ rfl ?_);(try simp only [RN,reduceIte]);try refine aj rfl ?_
   refine au fun Kr hKr=>?_;simp (disch:=omega) only [RA,↓reduceIte,Nat.reduceEqDiff,Nat.reduceAdd,Nat.reduceMul,Int.reduceToNat,Nat.reduceLT,reduceCtorEq,RD,g1,g4,aI,aT]
   refine WA hb hw hd hc' ?_
   simp (disch:=omega) only [RA,↓reduceIte,Nat.reduceEqDiff,Nat.reduceAdd,Nat.reduceMul,Int.reduceToNat,Nat.reduceLT,reduceCtorEq,RD,g1,g4,aI,aT]
   refine WB hb hw (by omega) hb16 hw16 (CG hd hc') (yL hd hc') ?_
   have er1:dJ b (dW b w (k+1)) n=(dR b w n (k+1)).1:=rfl
   have er2:dJ w (dW b w (k+1)) n=(dR b w n (k+1)).2:=rfl
   rw [er1,er2]
   obtain ⟨q,Ju⟩: ∃q,dR b w n (k+1)=q:=⟨_,rfl⟩
   rw [Ju] at hq l3 l4⊢
   simp (disch:=omega) only [RA,↓reduceIte,Nat.reduceEqDiff,Nat.reduceAdd,Nat.reduceMul,Int.reduceToNat,Nat.reduceLT,reduceCtorEq,RD,g1,g4,aI,aT]
   refine hKr _ _ ?_;clear hKr Kr;(try simp only [bW,dH,dG]);(try simp only [RN,reduceIte]);try refine aj rfl ?_
   refine au fun Kr hKr=>?_;simp (disch:=omega) only [RA,↓reduceIte,Nat.reduceEqDiff,RD,g3,aI,aT]
   refine VQ hq.1 hq.2 hrb.1 hrb.2 ?_
   simp (disch:=omega) only [RA,↓reduceIte,Nat.reduceEqDiff,RD]
   refine hKr _ _ ?_;clear hKr Kr;(try simp only [bW,dH,dG]);(try simp only [RN,reduceIte]);try refine aj rfl ?_
   have e1:((k+1:Nat):Int)+1=((k+1+1:Nat):Int):=by omega
   refine eY (p:=cZ q r) (by simp only [RA,↓reduceIte,Nat.reduceEqDiff]<;>rfl) (by (try simp only [RB])<;>first|done|exact Iff.rfl|omega|simp) (fun hc=>?_) (fun hc=>?_)<;>(try simp only [RN,reduceIte])<;>(try refine aj rfl ?_)
   ·refine au fun Kr hKr=>?_;simp (disch:=omega) only [RA,↓reduceIte,Nat.reduceEqDiff,RD,g3,aI,aT];refine hKr _ _ ?_;clear hKr Kr;(try simp only [RN,reduceIte]);try refine aj rfl ?_
    refine dN fun Kr hKr=>?_;simp (disch:=omega) only [RA,↓reduceIte,Nat.reduceEqDiff,RD,g4,e1];refine hKr _ _ ?_;clear hKr Kr
    refine hN (n-(k+1+1)) _ _ _ _ (by omega) (Gh.nrm [0,1,2] rfl rfl (by simp only [RH,rF])) ⟨k+1,q,by omega,rfl,?_,ah,ah,ah,ah,rfl⟩
    rw [lH,←hr,Ju,if_pos hc]
   ·refine dN fun Kr hKr=>?_;simp (disch:=omega) only [RA,↓reduceIte,Nat.reduceEqDiff,RD,g4,e1];refine hKr _ _ ?_;clear hKr Kr
    refine hN (n-(k+1+1)) _ _ _ _ (by omega) (Gh.nrm [0,1,2] rfl rfl (by simp only [RH,rF])) ⟨k+1,r,by omega,rfl,?_,ah,ah,ah,ah,rfl⟩
    rw [lH,←hr,Ju,if_neg hc]
  ·refine hX _ _ ?_
   have hkn:k=n-1:=by omega
   rw [eG,←hkn,←hr] at hK
   refine au fun Kr hKr=>?_;simp (disch:=omega) only [RA,↓reduceIte,Nat.reduceEqDiff,RD,g2,g3,aI,aT];refine hKr _ _ ?_;clear hKr Kr;(try simp only [RN,reduceIte]);try refine aj rfl ?_
   refine bZ (by simp (disch:=omega) only [RA,↓reduceIte,Nat.reduceEqDiff,RD,resAll,resOf,g2,aI,aT];rfl) aY.refl ?_;simp only [tup]
   exact ⟨jP,hK⟩
end Go.Bm
