/- DpEb, DpW, BmU, BmV, DpDi, DpDj, DpDe, DpDk, DpDl, DpKb -/
import Derived.Test.YtbpfbfbabpkceaaGreatDpG1
import Derived.Test.YtbpfbfbabpkceaaGreatDpG2
set_option linter.unusedVariables false
set_option linter.unusedSimpArgs false
namespace Go.Bm
open Go Go.Am
def dW (xs:List Int):Nat→Int
 |0=>0
 |i+1=>dW xs i+el xs i
def fJ (xs:List Int):Int:=dW xs xs.length
def jF (xs:List Int) (i:Nat):Prop:=(1≤el xs i∧el xs i≤16)∧(0<i→el xs i≤el xs (i-1))
instance (xs:List Int) (i:Nat):Decidable (jF xs i):=by unfold jF;infer_instance
def fM (xs:List Int):Prop:=(1≤xs.length∧xs.length≤16)∧(∀i,i<xs.length→jF xs i)∧fJ xs≤16
instance (xs:List Int):Decidable (fM xs):=by unfold fM;infer_instance
theorem tZ {xs:List Int}: ∀{i:Nat},(∀j,j<i→jF xs j)→(i:Int)≤dW xs i∧dW xs i≤16*i
 |0,_=>by simp [dW]
 |i+1,h=>by
  have ih:=tZ (i:=i) fun j hj=>h j (by omega)
  have:=(h i (by omega)).1
  simp only [dW]
  omega
theorem xg {xs:List Int} {i:Nat}: ∀{k:Nat},(∀j,j<k→jF xs j)→i≤k→dW xs i≤dW xs k
 |0,_,h=>by
  obtain rfl:i=0:=by omega
  exact Int.le_refl _
 |k+1,hk,h=>by
  by_cases e:i=k+1
  ·rw [e];exact Int.le_refl _
  ·have ih:=xg (i:=i) (k:=k) (fun j hj=>hk j (by omega)) (by omega)
   have:=(hk k (by omega)).1
   simp only [dW]
   omega
theorem fM.pos {xs:List Int} (h:fM xs):1≤fJ xs:=by
 have:=(tZ h.2.1).1
 have:=h.1
 rw [fJ]
 omega
theorem wP {x:Bool} {xs:List Int} {H:BH} {K:Value→BH→Prop} (hl:xs.length≤16) (hb: ∀i,i<xs.length→jF xs i) (hK:K (I (fJ xs)) H):aB x UO [FI xs] H K:=by
 refine bf (.cons .fz .nil) ?_
 refine aK Ws ?_;simp only [iZ,aA]
 refine au fun Kr hKr=>?_;simp (disch:=omega) only [RA,↓reduceIte,Nat.reduceEqDiff,RD];refine hKr _ _ ?_;clear hKr Kr;(try simp only [RN,reduceIte]);try refine aj rfl ?_
 refine au fun Kr hKr=>?_;simp (disch:=omega) only [RA,↓reduceIte,Nat.reduceEqDiff,RD];refine hKr _ _ ?_;clear hKr Kr;(try simp only [RN,reduceIte]);try refine aj rfl ?_
 refine au fun Kr hKr=>?_;simp (disch:=omega) only [RA,↓reduceIte,Nat.reduceEqDiff,RD];refine hKr _ _ ?_;clear hKr Kr;(try simp only [RN,reduceIte]);try refine aj rfl ?_
 refine aS (fun m f H'=> ∃i,i≤xs.length∧m=xs.length-i∧f 0=FI xs∧f 3=I (dW xs i)∧f 4=I i∧H'=[]) (xs.length) ?_ ?_
 ·exact ⟨_,_,Gh.refl,0,by omega,by omega,ah,ah,ah,rfl⟩
 ·rintro m f H' R ⟨i,hi,rfl,g0,g3,g4,rfl⟩ hN hX hR hE
  simp only [iZ.l0,aA]
  have hs:=tZ (i:=i) fun j hj=>hb j (by omega)
  refine au fun Kr hKr=>?_;simp (disch:=omega) only [RA,↓reduceIte,Nat.reduceEqDiff,RD,g0,g4];refine hKr _ _ ?_;clear hKr Kr;(try simp only [RN,reduceIte]);try refine aj rfl ?_
  refine bD (p:=i<xs.length) (by simp only [RA,↓reduceIte,Nat.reduceEqDiff]<;>rfl) (by (try simp only [RB])<;>first|done|exact Iff.rfl|omega|simp) (fun hc=>?_) (fun hc=>?_)<;>(try simp only [RN,reduceIte])<;>(try refine aj rfl ?_)
  ·have ho:=(hb i hc).1
   have e1:dW xs (i+1)=dW xs i+el xs i:=rfl
   (first|refine cZ rfl ?_|refine dh rfl ?_);(try simp only [RN,reduceIte]);try refine aj rfl ?_
   refine au fun Kr hKr=>?_;simp (disch:=omega) only [RA,↓reduceIte,Nat.reduceEqDiff,RD,g0,g3,g4];refine hKr _ _ ?_;clear hKr Kr;(try simp only [RN,reduceIte]);try refine aj rfl ?_
   refine bK fun Kr hKr=>?_;simp (disch:=omega) only [RA,↓reduceIte,Nat.reduceEqDiff,RD,g4];refine hKr _ _ ?_;clear hKr Kr
   refine hN (xs.length-(i+1)) _ _ _ _ (by omega) Gh.refl ⟨i+1,by omega,rfl,ah,?_,ah,rfl⟩
   all_goals (rw [e1];simp (disch:=omega) only [RA,↓reduceIte,Nat.reduceEqDiff,RD, *])
  ·refine hX _ _ ?_
   obtain rfl:i=xs.length:=by omega
   refine au fun Kr hKr=>?_;simp (disch:=omega) only [RA,↓reduceIte,Nat.reduceEqDiff,RD,g3];refine hKr _ _ ?_;clear hKr Kr;(try simp only [RN,reduceIte]);try refine aj rfl ?_
   refine aN (by simp (disch:=omega) only [RA,↓reduceIte,Nat.reduceEqDiff,RD,resAll,resOf];rfl) aF.refl ?_;simp only [tup]
   exact ⟨.int,hK⟩
theorem DJ {x:Bool} {xs:List Int} {H:BH} {K:Value→BH→Prop} (hl:xs.length≤1048576) (hK:K (I (if fM xs then fJ xs else 0)) H):aB x UU [FI xs] H K:=by
 refine bf (.cons .fz .nil) ?_
 refine aK Wx ?_;simp only [dO,aA]
 refine aG ?_
 refine aG ?_
 refine aG ?_
 refine aS (fun m f H'=> ∃i,i≤xs.length∧m=xs.length-i∧(∀j,j<i→jF xs j)∧dW xs i≤16∧f 0=FI xs∧f 3=I (dW xs i)∧f 6=FI xs∧f 7=I xs.length∧f 8=I i∧H'=[]) (xs.length) ?_ ?_
 ·exact ⟨_,_,Gh.refl,0,by omega,by omega,fun j hj=>by omega,by simp [dW],ah,ah,ah,ah,ah,rfl⟩
 ·rintro m f H' R ⟨i,hi,rfl,hall,Z5,g0,g3,g6,g7,g8,rfl⟩ hN hX hR hE
  simp only [dO.l0,aA]
  have hs:=tZ hall
  refine aC (aU @g7 @g8) ?_
  refine bP (i<xs.length) (fun hc=>?_) fun hc=>?_
  ·have hil:i<xs.length:=by assumption
   have hno: ¬jF xs i→(if fM xs then fJ xs else 0)=0:=fun h=>if_neg fun ht=>h (ht.2.1 i hil)
   have hbad: ∀f' rest,¬fM xs→T 0 (.seq dO.r6 (.seq .ret rest)) R f' []:=fun f' rest h=>by
    rw [if_neg h] at hK
    refine aG ?_
    refine hR _ _ ?_
    refine dG ?_
    exact ⟨.int,hK⟩
   have hgood: ∀f',jF xs i→f' 0=FI xs→f' 3=I (dW xs i)→f' 5=I (el xs i)→f' 6=FI xs→f' 7=I xs.length→f' 8=I i→
     T 0 (.seq dO.r7 (.seq (.seq dO.r8 (.cond (.t 36) (.seq dO.r9 .ret) .skip)) dO.r10)) R f' []:=by
    clear g0 g3 g6 g7 g8
    intro f' ho g0 g3 g5 g6 g7 g8
    have ho1:=ho.1
    have e1:dW xs (i+1)=dW xs i+el xs i:=rfl
    have hall': ∀j,j<i+1→jF xs j:=fun j hj=>by
     by_cases e:j=i
     ·rw [e];exact ho
     ·exact hall j (by omega)
    refine aC (aU @g3 @g5) ?_
    refine aG ?_
    refine bP (16<dW xs i+el xs i) (fun hc=>?_) fun hc=>?_
    ·have hnt: ¬fM xs:=fun ht=>by
      have:=xg (i:=i+1) ht.2.1 (by omega)
      have:=ht.2.2
      rw [fJ] at this
      omega
     rw [if_neg hnt] at hK
     refine aG ?_
     refine hR _ _ ?_
     refine dG ?_
     exact ⟨.int,hK⟩
    ·refine jQ ?_
     refine dw @g8 ?_
     refine hN (xs.length-(i+1)) _ _ _ _ (by omega) Gh.refl ⟨i+1,by omega,rfl,hall',by omega,ah,?_,ah,ah,ah,rfl⟩
     all_goals (rw [e1];simp (disch:=omega) only [RA,↓reduceIte,Nat.reduceEqDiff,RD, *])
   refine dL ?_
   refine aC (aU @g6 @g8) ?_
   by_cases h1:el xs i<1
   ·refine aG ?_
    refine pF ?_
    exact hbad _ _ fun ht=>by have:=(ht.2.1 i hil).1;omega
   by_cases h2:16<el xs i
   ·refine aG ?_
    refine pF ?_
    exact hbad _ _ fun ht=>by have:=(ht.2.1 i hil).1;omega
   by_cases h3:i=0
   ·subst h3
    refine aG ?_
    refine jG ?_
    refine jQ ?_
    exact hgood _ ⟨by omega,fun h=>by omega⟩ ah ah ah ah ah ah
   ·have e2:(i:Int)-1=((i-1:Nat):Int):=by omega
    have h5:i-1<xs.length:=by omega
    by_cases h4:el xs (i-1)<el xs i
    ·refine aC (aU @g0 @e2) ?_
     refine pF ?_
     exact hbad _ _ fun ht=>by have:=(ht.2.1 i hil).2;omega
    ·refine aC (aU @g0 @e2) ?_
     refine jG ?_
     refine jQ ?_
     exact hgood _ ⟨by omega,fun h=>by omega⟩ ah ah ah ah ah ah
  ·refine hX _ _ ?_
   obtain rfl:i=xs.length:=by omega
   have e:(if fM xs then fJ xs else 0)=dW xs xs.length:=by
    by_cases ht:fM xs
    ·rw [if_pos ht];rfl
    ·rw [if_neg ht]
     rcases Nat.eq_zero_or_pos xs.length with h|h
     ·rw [h];rfl
     ·exact absurd ⟨⟨h,by omega⟩,hall,Z5⟩ ht
   rw [e] at hK
   refine aC @g3 ?_
   refine dG ?_
   exact ⟨.int,hK⟩
theorem Jt {x:Bool} {xs:List Int} {H:BH} {K:Value→BH→Prop} (hl:xs.length≤1048576) (hK:K (.bool (decide (fM xs))) H):aB x Vm [FI xs] H K:=by
 refine bf (.cons .fz .nil) ?_
 refine aK Xg ?_;simp only [gq,aA]
 refine au fun Kr hKr=>?_;simp (disch:=omega) only [RA,↓reduceIte,Nat.reduceEqDiff,RD];refine hKr _ _ ?_;clear hKr Kr;(try simp only [RN,reduceIte]);try refine aj rfl ?_
 by_cases hlen:1≤xs.length∧xs.length≤16
 ·by_cases hz:xs.length<1
  ·omega
  refine au fun Kr hKr=>?_;simp (disch:=omega) only [RA,↓reduceIte,Nat.reduceEqDiff,RD];refine hKr _ _ ?_;clear hKr Kr;(try simp only [RN,reduceIte]);try refine aj rfl ?_
  refine aQ (t:=false) (by simp (disch:=omega) only [RA,↓reduceIte,Nat.reduceEqDiff,RD]) ?_;(try simp only [RN,reduceIte]);try refine aj rfl ?_
  refine au fun Kr hKr=>?_;simp (disch:=omega) only [RA,↓reduceIte,Nat.reduceEqDiff,RD];refine hKr _ _ ?_;clear hKr Kr;(try simp only [RN,reduceIte]);try refine aj rfl ?_
  refine aS (fun m f H'=> ∃i,i≤xs.length∧m=xs.length-i∧(∀j,j<i→jF xs j)∧f 0=FI xs∧f 3=I i∧H'=[]) (xs.length) ?_ ?_
  ·exact ⟨_,_,Gh.refl,0,by omega,by omega,fun j hj=>by omega,ah,ah,rfl⟩
  ·rintro m f H' R ⟨i,hi,rfl,hall,g0,g3,rfl⟩ hN hX hR hE
   simp only [gq.l0,aA]
   refine au fun Kr hKr=>?_;simp (disch:=omega) only [RA,↓reduceIte,Nat.reduceEqDiff,RD,g0,g3];refine hKr _ _ ?_;clear hKr Kr;(try simp only [RN,reduceIte]);try refine aj rfl ?_
   refine bD (p:=i<xs.length) (by simp only [RA,↓reduceIte,Nat.reduceEqDiff]<;>rfl) (by (try simp only [RB])<;>first|done|exact Iff.rfl|omega|simp) (fun hc=>?_) (fun hc=>?_)<;>(try simp only [RN,reduceIte])<;>(try refine aj rfl ?_)
   ·have hil:i<xs.length:=by assumption
    have hbad: ∀f' rest,¬jF xs i→T 0 (.seq gq.r7 (.seq .ret rest)) R f' []:=fun f' rest h=>by
     rw [decide_eq_false (fun ht=>h (ht.2.1 i hil))] at hK
     refine au fun Kr hKr=>?_;simp (disch:=omega) only [RA,↓reduceIte,Nat.reduceEqDiff,RD];refine hKr _ _ ?_;clear hKr Kr;(try simp only [RN,reduceIte]);try refine aj rfl ?_
     refine hR _ _ ?_
     refine aN (by simp (disch:=omega) only [RA,↓reduceIte,Nat.reduceEqDiff,RD,resAll,resOf];rfl) aF.refl ?_;simp only [tup]
     exact ⟨.bool,hK⟩
    have hgood: ∀f',jF xs i→f' 0=FI xs→f' 3=I i→T 0 gq.r5 R f' []:=by
     clear g0 g3
     intro f' ho g0 g3
     have hall': ∀j,j<i+1→jF xs j:=fun j hj=>by
      by_cases e:j=i
      ·rw [e];exact ho
      ·exact hall j (by omega)
     refine bK fun Kr hKr=>?_;simp (disch:=omega) only [RA,↓reduceIte,Nat.reduceEqDiff,RD,g3];refine hKr _ _ ?_;clear hKr Kr
     exact hN (xs.length-(i+1)) _ _ _ _ (by omega) Gh.refl ⟨i+1,by omega,rfl,hall',ah,ah,rfl⟩
    (first|refine cZ rfl ?_|refine dh rfl ?_);(try simp only [RN,reduceIte]);try refine aj rfl ?_
    by_cases h1:1≤el xs i∧el xs i≤16
    ·by_cases h3:i=0
     ·subst h3
      refine au fun Kr hKr=>?_;simp (disch:=omega) only [RA,↓reduceIte,Nat.reduceEqDiff,RD,g0,g3]
      refine xk ?_
      rw [decide_eq_true h1]
      simp (disch:=omega) only [RA,↓reduceIte,Nat.reduceEqDiff,RD,g3]
      refine hKr _ _ ?_;clear hKr Kr;(try simp only [aH,aJ,aI]);(try simp only [RN,reduceIte]);try refine aj rfl ?_
      refine aQ (t:=false) (by simp (disch:=omega) only [RA,↓reduceIte,Nat.reduceEqDiff,RD]) ?_;(try simp only [RN,reduceIte]);try refine aj rfl ?_
      exact hgood _ ⟨h1,fun h=>by omega⟩ ah ah
     ·have e2:(i:Int)-1=((i-1:Nat):Int):=by omega
      have h5:i-1<xs.length:=by omega
      by_cases h4:el xs (i-1)<el xs i
      ·refine au fun Kr hKr=>?_;simp (disch:=omega) only [RA,↓reduceIte,Nat.reduceEqDiff,RD,g0,g3]
       refine xk ?_
       rw [decide_eq_true h1]
       simp (disch:=omega) only [RA,↓reduceIte,Nat.reduceEqDiff,RD,g0,g3,e2]
       refine hKr _ _ ?_;clear hKr Kr;(try simp only [aH,aJ,aI]);(try simp only [RN,reduceIte]);try refine aj rfl ?_
       refine aQ (t:=true) (by simp (disch:=omega) only [RA,↓reduceIte,Nat.reduceEqDiff,RD]) ?_;(try simp only [RN,reduceIte]);try refine aj rfl ?_
       exact hbad _ _ fun ho=>by have:=ho.2;omega
      ·refine au fun Kr hKr=>?_;simp (disch:=omega) only [RA,↓reduceIte,Nat.reduceEqDiff,RD,g0,g3]
       refine xk ?_
       rw [decide_eq_true h1]
       simp (disch:=omega) only [RA,↓reduceIte,Nat.reduceEqDiff,RD,g0,g3,e2]
       refine hKr _ _ ?_;clear hKr Kr;(try simp only [aH,aJ,aI]);(try simp only [RN,reduceIte]);try refine aj rfl ?_
       refine aQ (t:=false) (by simp (disch:=omega) only [RA,↓reduceIte,Nat.reduceEqDiff,RD]) ?_;(try simp only [RN,reduceIte]);try refine aj rfl ?_
       exact hgood _ ⟨h1,fun h=>by omega⟩ ah ah
    ·refine au fun Kr hKr=>?_;simp (disch:=omega) only [RA,↓reduceIte,Nat.reduceEqDiff,RD,g0,g3]
     refine xk ?_
     rw [decide_eq_false h1]
     simp (disch:=omega) only [RA,↓reduceIte,Nat.reduceEqDiff,RD]
     refine hKr _ _ ?_;clear hKr Kr;(try simp only [aH,aJ,aI]);(try simp only [RN,reduceIte]);try refine aj rfl ?_
     refine aQ (t:=true) (by simp (disch:=omega) only [RA,↓reduceIte,Nat.reduceEqDiff,RD]) ?_;(try simp only [RN,reduceIte]);try refine aj rfl ?_
     exact hbad _ _ fun ho=>h1 ho.1
   ·refine hX _ _ ?_
    obtain rfl:i=xs.length:=by omega
    refine au fun Kr hKr=>?_;simp (disch:=omega) only [RA,↓reduceIte,Nat.reduceEqDiff,RD,g0]
    refine wP hlen.2 hall ?_
    simp (disch:=omega) only [RA,↓reduceIte,Nat.reduceEqDiff,RD]
    refine hKr _ _ ?_;clear hKr Kr;(try simp only [aH,aJ,aI]);(try simp only [RN,reduceIte]);try refine aj rfl ?_
    refine aN (by simp (disch:=omega) only [RA,↓reduceIte,Nat.reduceEqDiff,RD,resAll,resOf];rfl) aF.refl ?_;simp only [tup]
    rw [show decide (fM xs)=decide (fJ xs≤16) by
     rw [decide_eq_decide]
     exact ⟨fun h=>h.2.2,fun h=>⟨hlen,hall,h⟩⟩] at hK
    exact ⟨.bool,hK⟩
 ·rw [decide_eq_false (fun ht=>hlen ht.1)] at hK
  by_cases hz:xs.length<1
  ·refine au fun Kr hKr=>?_;simp (disch:=omega) only [RA,↓reduceIte,Nat.reduceEqDiff,RD];refine hKr _ _ ?_;clear hKr Kr;(try simp only [RN,reduceIte]);try refine aj rfl ?_
   refine aQ (t:=true) (by simp (disch:=omega) only [RA,↓reduceIte,Nat.reduceEqDiff,RD]) ?_;(try simp only [RN,reduceIte]);try refine aj rfl ?_
   refine au fun Kr hKr=>?_;simp (disch:=omega) only [RA,↓reduceIte,Nat.reduceEqDiff,RD];refine hKr _ _ ?_;clear hKr Kr;(try simp only [RN,reduceIte]);try refine aj rfl ?_
   refine aN (by simp (disch:=omega) only [RA,↓reduceIte,Nat.reduceEqDiff,RD,resAll,resOf];rfl) aF.refl ?_;simp only [tup]
   exact ⟨.bool,hK⟩
  ·refine au fun Kr hKr=>?_;simp (disch:=omega) only [RA,↓reduceIte,Nat.reduceEqDiff,RD];refine hKr _ _ ?_;clear hKr Kr;(try simp only [RN,reduceIte]);try refine aj rfl ?_
   refine aQ (t:=true) (by simp (disch:=omega) only [RA,↓reduceIte,Nat.reduceEqDiff,RD]) ?_;(try simp only [RN,reduceIte]);try refine aj rfl ?_
   refine au fun Kr hKr=>?_;simp (disch:=omega) only [RA,↓reduceIte,Nat.reduceEqDiff,RD];refine hKr _ _ ?_;clear hKr Kr;(try simp only [RN,reduceIte]);try refine aj rfl ?_
   refine aN (by simp (disch:=omega) only [RA,↓reduceIte,Nat.reduceEqDiff,RD,resAll,resOf];rfl) aF.refl ?_;simp only [tup]
   exact ⟨.bool,hK⟩
def at3 (xss:List (List Int)) (i:Nat):List Int:=xss.getD i []
def jD (xss:List (List Int)):Prop:=xss.length=3∧ ∀i,i<3→fM (at3 xss i)∧fJ (at3 xss i)=fJ (at3 xss 0)
instance (xss:List (List Int)):Decidable (jD xss):=by unfold jD;infer_instance
theorem Zy {x:Bool} {xss:List (List Int)} {H:BH} {K:Value→BH→Prop} (hl:xss.length≤1048576) (hll: ∀xs∈xss,xs.length≤1048576) (hK:K (.bool (decide (jD xss))) H):aB x U5 [dU xss] H K:=by
 refine bf (.cons .fz .nil) ?_
 refine aK WM ?_;simp only [gB,aA]
 refine au fun Kr hKr=>?_;simp (disch:=omega) only [RA,↓reduceIte,Nat.reduceEqDiff,RD];refine hKr _ _ ?_;clear hKr Kr;(try simp only [RN,reduceIte]);try refine aj rfl ?_
 refine au fun Kr hKr=>?_;simp (disch:=omega) only [RA,↓reduceIte,Nat.reduceEqDiff,RD];refine hKr _ _ ?_;clear hKr Kr;(try simp only [RN,reduceIte]);try refine aj rfl ?_
 refine bD (p:= ¬xss.length=3) (by simp only [RA,↓reduceIte,Nat.reduceEqDiff]<;>rfl) (by (try simp only [RB])<;>first|done|exact Iff.rfl|omega|simp) (fun hc=>?_) (fun hc=>?_)<;>(try simp only [RN,reduceIte])<;>(try refine aj rfl ?_)
 ·refine au fun Kr hKr=>?_;simp (disch:=omega) only [RA,↓reduceIte,Nat.reduceEqDiff,RD];refine hKr _ _ ?_;clear hKr Kr;(try simp only [RN,reduceIte]);try refine aj rfl ?_
  refine aN (by simp (disch:=omega) only [RA,↓reduceIte,Nat.reduceEqDiff,RD,resAll,resOf];rfl) aF.refl ?_;simp only [tup]
  rw [decide_eq_false (fun h=>hc h.1)] at hK
  exact ⟨.bool,hK⟩
 have h3:=Decidable.not_not.1 hc
 clear hc
 have hg: ∀i,i<3→getN none (xss.map FI) i=some (FI (at3 xss i)):=fun i hi=>mW (by omega)
 have hm: ∀i,i<3→(at3 xss i).length≤1048576:=fun i hi=>hll _ (pG (by omega))
 have hg0:=hg 0 (by omega)
 refine au fun Kr hKr=>?_;simp (disch:=omega) only [RA,↓reduceIte,Nat.reduceEqDiff,RD];refine hKr _ _ ?_;clear hKr Kr;(try simp only [RN,reduceIte]);try refine aj rfl ?_
 refine aS (fun m f H'=> ∃i,i≤3∧m=3-i∧(∀j,j<i→fM (at3 xss j)∧fJ (at3 xss j)=fJ (at3 xss 0))∧f 0=dU xss∧f 3=I i∧H'=[]) (3) ?_ ?_
 ·exact ⟨_,_,Gh.refl,0,by omega,by omega,fun j hj=>by omega,ah,ah,rfl⟩
 ·rintro m f H' R ⟨i,hi,rfl,hall,g0,g3,rfl⟩ hN hX hR hE
  simp only [gB.l0,aA]
  refine au fun Kr hKr=>?_;simp (disch:=omega) only [RA,↓reduceIte,Nat.reduceEqDiff,RD,g3];refine hKr _ _ ?_;clear hKr Kr;(try simp only [RN,reduceIte]);try refine aj rfl ?_
  refine bD (p:=i<3) (by simp only [RA,↓reduceIte,Nat.reduceEqDiff]<;>rfl) (by (try simp only [RB])<;>first|done|exact Iff.rfl|omega|simp) (fun hc=>?_) (fun hc=>?_)<;>(try simp only [RN,reduceIte])<;>(try refine aj rfl ?_)
  ·have hi3:i<3:=by assumption
   have hbad: ∀f' rest,¬(fM (at3 xss i)∧fJ (at3 xss i)=fJ (at3 xss 0))→T 0 (.seq gB.r7 (.seq .ret rest)) R f' []:=fun f' rest h=>by
    rw [decide_eq_false (fun ht=>h (ht.2 i hi3))] at hK
    refine au fun Kr hKr=>?_;simp (disch:=omega) only [RA,↓reduceIte,Nat.reduceEqDiff,RD];refine hKr _ _ ?_;clear hKr Kr;(try simp only [RN,reduceIte]);try refine aj rfl ?_
    refine hR _ _ ?_
    refine aN (by simp (disch:=omega) only [RA,↓reduceIte,Nat.reduceEqDiff,RD,resAll,resOf];rfl) aF.refl ?_;simp only [tup]
    exact ⟨.bool,hK⟩
   (first|refine cZ rfl ?_|refine dh rfl ?_);(try simp only [RN,reduceIte]);try refine aj rfl ?_
   by_cases ht:fM (at3 xss i)
   ·have ht0:fM (at3 xss 0):=by
     by_cases e:i=0
     ·rw [←e];exact ht
     ·exact (hall 0 (by omega)).1
    refine au fun Kr hKr=>?_;simp (disch:=omega) only [RA,↓reduceIte,Nat.reduceEqDiff,RD,g0,g3,hg]
    refine Jt (hm i hi3) ?_
    rw [decide_eq_true ht]
    simp (disch:=omega) only [RA,↓reduceIte,Nat.reduceEqDiff,RD,g0,g3,hg]
    refine wP ht.1.2 ht.2.1 ?_
    simp (disch:=omega) only [RA,↓reduceIte,Nat.reduceEqDiff,RD,g0,g3,hg0]
    refine wP ht0.1.2 ht0.2.1 ?_
    simp (disch:=omega) only [RA,↓reduceIte,Nat.reduceEqDiff,RD]
    refine hKr _ _ ?_;clear hKr Kr;(try simp only [aH,aJ,aI]);(try simp only [RN,reduceIte]);try refine aj rfl ?_
    refine bD (p:= ¬fJ (at3 xss i)=fJ (at3 xss 0)) (by simp only [RA,↓reduceIte,Nat.reduceEqDiff]<;>rfl) (by (try simp only [RB])<;>first|done|exact Iff.rfl|omega|simp) (fun hc=>?_) (fun hc=>?_)<;>(try simp only [RN,reduceIte])<;>(try refine aj rfl ?_)
    ·exact hbad _ _ fun h=>hc h.2
    ·have he:=Decidable.not_not.1 hc
     have hall': ∀j,j<i+1→fM (at3 xss j)∧fJ (at3 xss j)=fJ (at3 xss 0):=fun j hj=>by
      by_cases e:j=i
      ·rw [e];exact ⟨ht,he⟩
      ·exact hall j (by omega)
     refine bK fun Kr hKr=>?_;simp (disch:=omega) only [RA,↓reduceIte,Nat.reduceEqDiff,RD,g3];refine hKr _ _ ?_;clear hKr Kr
     exact hN (3-(i+1)) _ _ _ _ (by omega) Gh.refl ⟨i+1,by omega,rfl,hall',ah,ah,rfl⟩
   ·refine au fun Kr hKr=>?_;simp (disch:=omega) only [RA,↓reduceIte,Nat.reduceEqDiff,RD,g0,g3,hg]
    refine Jt (hm i hi3) ?_
    rw [decide_eq_false ht]
    simp (disch:=omega) only [RA,↓reduceIte,Nat.reduceEqDiff,RD]
    refine hKr _ _ ?_;clear hKr Kr;(try simp only [aH,aJ,aI]);(try simp only [RN,reduceIte]);try refine aj rfl ?_
    refine aQ (t:=true) (by simp (disch:=omega) only [RA,↓reduceIte,Nat.reduceEqDiff,RD]) ?_;(try simp only [RN,reduceIte]);try refine aj rfl ?_
    exact hbad _ _ fun h=>ht h.1
  ·refine hX _ _ ?_
   obtain rfl:i=3:=by omega
   refine au fun Kr hKr=>?_;simp (disch:=omega) only [RA,↓reduceIte,Nat.reduceEqDiff,RD];refine hKr _ _ ?_;clear hKr Kr;(try simp only [RN,reduceIte]);try refine aj rfl ?_
   refine aN (by simp (disch:=omega) only [RA,↓reduceIte,Nat.reduceEqDiff,RD,resAll,resOf];rfl) aF.refl ?_;simp only [tup]
   have hp:jD xss:=⟨h3,hall⟩
   rw [decide_eq_true hp] at hK
   exact ⟨.bool,hK⟩
def nY (xss:List (List Int)):Int:=if jD xss then fJ (at3 xss 0) else 0
theorem Jf {x:Bool} {xss:List (List Int)} {H:BH} {K:Value→BH→Prop} (hl:xss.length≤1048576) (hll: ∀xs∈xss,xs.length≤1048576) (hK:K (I (nY xss)) H):aB x UR [dU xss] H K:=by
 refine bf (.cons .fz .nil) ?_
 refine aK Wv ?_;simp only [jK,aA]
 refine au fun Kr hKr=>?_;simp (disch:=omega) only [RA,↓reduceIte,Nat.reduceEqDiff,RD];refine hKr _ _ ?_;clear hKr Kr;(try simp only [RN,reduceIte]);try refine aj rfl ?_
 refine au fun Kr hKr=>?_;simp (disch:=omega) only [RA,↓reduceIte,Nat.reduceEqDiff,RD];refine hKr _ _ ?_;clear hKr Kr;(try simp only [RN,reduceIte]);try refine aj rfl ?_
 refine bD (p:= ¬xss.length=3) (by simp only [RA,↓reduceIte,Nat.reduceEqDiff]<;>rfl) (by (try simp only [RB])<;>first|done|exact Iff.rfl|omega|simp) (fun hc=>?_) (fun hc=>?_)<;>(try simp only [RN,reduceIte])<;>(try refine aj rfl ?_)
 ·refine au fun Kr hKr=>?_;simp (disch:=omega) only [RA,↓reduceIte,Nat.reduceEqDiff,RD];refine hKr _ _ ?_;clear hKr Kr;(try simp only [RN,reduceIte]);try refine aj rfl ?_
  refine aN (by simp (disch:=omega) only [RA,↓reduceIte,Nat.reduceEqDiff,RD,resAll,resOf];rfl) aF.refl ?_;simp only [tup]
  rw [nY,if_neg (fun h=>hc h.1)] at hK
  exact ⟨.int,hK⟩
 have h3:=Decidable.not_not.1 hc
 clear hc
 have hg: ∀i,i<3→getN none (xss.map FI) i=some (FI (at3 xss i)):=fun i hi=>mW (by omega)
 have hm: ∀i,i<3→(at3 xss i).length≤1048576:=fun i hi=>hll _ (pG (by omega))
 have hg0:=hg 0 (by omega)
 have hg1:=hg 1 (by omega)
 have hg2:=hg 2 (by omega)
 have hv: ∀i,i<3→ ∃s,(if fM (at3 xss i) then fJ (at3 xss i) else 0)=s∧(s=0↔ ¬fM (at3 xss i))∧(fM (at3 xss i)→fJ (at3 xss i)=s):=fun i _=>by
  by_cases h:fM (at3 xss i)
  ·have:=h.pos
   exact ⟨_,if_pos h,⟨fun e=>by omega,fun hn=>absurd h hn⟩,fun _=>rfl⟩
  ·exact ⟨0,if_neg h,by simp [h],fun hn=>absurd hn h⟩
 obtain ⟨s0,e0,z0,v0⟩:=hv 0 (by omega)
 obtain ⟨s1,e1,z1,v1⟩:=hv 1 (by omega)
 obtain ⟨s2,e2,z2,v2⟩:=hv 2 (by omega)
 have hps:nY xss=if s1=s0∧s2=s0 then s0 else 0:=by
  unfold nY
  by_cases hp:jD xss
  ·have p0:=hp.2 0 (by omega)
   have p1:=hp.2 1 (by omega)
   have p2:=hp.2 2 (by omega)
   have a0:=v0 p0.1
   have a1:=v1 p1.1
   have a2:=v2 p2.1
   rw [if_pos hp,if_pos ⟨by rw [←a1,←a0];exact p1.2,by rw [←a2,←a0];exact p2.2⟩,a0]
  ·rw [if_neg hp]
   by_cases hs:s1=s0∧s2=s0
   ·rw [if_pos hs]
    apply Classical.byContradiction
    intro hne
    have t0:fM (at3 xss 0):=Classical.byContradiction fun h=>hne (z0.2 h).symm
    have t1:fM (at3 xss 1):=Classical.byContradiction fun h=>hne (by rw [←hs.1];exact (z1.2 h).symm)
    have t2:fM (at3 xss 2):=Classical.byContradiction fun h=>hne (by rw [←hs.2];exact (z2.2 h).symm)
    refine hp ⟨h3,fun i hi=>?_⟩
    have:i=0∨i=1∨i=2:=by omega
    rcases this with rfl|rfl|rfl
    ·exact ⟨t0,rfl⟩
    ·exact ⟨t1,by rw [v1 t1,v0 t0];exact hs.1⟩
    ·exact ⟨t2,by rw [v2 t2,v0 t0];exact hs.2⟩
   ·rw [if_neg hs]
 rw [hps] at hK
 refine au fun Kr hKr=>?_;simp (disch:=omega) only [RA,↓reduceIte,Nat.reduceEqDiff,reduceCtorEq,RD,hg0]
 refine DJ (hm 0 (by omega)) ?_
 rw [e0]
 simp (disch:=omega) only [RA,↓reduceIte,Nat.reduceEqDiff,RD]
 refine hKr _ _ ?_;clear hKr Kr;(try simp only [aH,aJ,aI]);(try simp only [RN,reduceIte]);try refine aj rfl ?_
 refine au fun Kr hKr=>?_;simp (disch:=omega) only [RA,↓reduceIte,Nat.reduceEqDiff,Int.reduceToNat,reduceCtorEq,RD,hg1]
 refine DJ (hm 1 (by omega)) ?_
 rw [e1]
 by_cases h1:s1=s0
 ·simp (disch:=omega) only [RA,↓reduceIte,Nat.reduceEqDiff,Int.reduceToNat,reduceCtorEq,RD,hg2]
  refine DJ (hm 2 (by omega)) ?_
  rw [e2]
  by_cases h2:s2=s0
  ·simp (disch:=omega) only [RA,↓reduceIte,Nat.reduceEqDiff,RD]
   refine hKr _ _ ?_;clear hKr Kr;(try simp only [aH,aJ,aI]);(try simp only [RN,reduceIte]);try refine aj rfl ?_
   refine aQ (t:=false) (by simp (disch:=omega) only [RA,↓reduceIte,Nat.reduceEqDiff,RD]) ?_;(try simp only [RN,reduceIte]);try refine aj rfl ?_
   refine au fun Kr hKr=>?_;simp (disch:=omega) only [RA,↓reduceIte,Nat.reduceEqDiff,RD];refine hKr _ _ ?_;clear hKr Kr;(try simp only [RN,reduceIte]);try refine aj rfl ?_
   refine aN (by simp (disch:=omega) only [RA,↓reduceIte,Nat.reduceEqDiff,RD,resAll,resOf];rfl) aF.refl ?_;simp only [tup]
   rw [if_pos ⟨h1,h2⟩] at hK
   exact ⟨.int,hK⟩
  ·simp (disch:=omega) only [RA,↓reduceIte,Nat.reduceEqDiff,RD]
   refine hKr _ _ ?_;clear hKr Kr;(try simp only [aH,aJ,aI]);(try simp only [RN,reduceIte]);try refine aj rfl ?_
   refine aQ (t:=true) (by simp (disch:=omega) only [RA,↓reduceIte,Nat.reduceEqDiff,RD]) ?_;(try simp only [RN,reduceIte]);try refine aj rfl ?_
   refine au fun Kr hKr=>?_;simp (disch:=omega) only [RA,↓reduceIte,Nat.reduceEqDiff,RD];refine hKr _ _ ?_;clear hKr Kr;(try simp only [RN,reduceIte]);try refine aj rfl ?_
   refine aN (by simp (disch:=omega) only [RA,↓reduceIte,Nat.reduceEqDiff,RD,resAll,resOf];rfl) aF.refl ?_;simp only [tup]
   rw [if_neg (fun h=>h2 h.2)] at hK
   exact ⟨.int,hK⟩
 ·simp (disch:=omega) only [RA,↓reduceIte,Nat.reduceEqDiff,RD]
  refine hKr _ _ ?_;clear hKr Kr;(try simp only [aH,aJ,aI]);(try simp only [RN,reduceIte]);try refine aj rfl ?_
  refine aQ (t:=true) (by simp (disch:=omega) only [RA,↓reduceIte,Nat.reduceEqDiff,RD]) ?_;(try simp only [RN,reduceIte]);try refine aj rfl ?_
  refine au fun Kr hKr=>?_;simp (disch:=omega) only [RA,↓reduceIte,Nat.reduceEqDiff,RD];refine hKr _ _ ?_;clear hKr Kr;(try simp only [RN,reduceIte]);try refine aj rfl ?_
  refine aN (by simp (disch:=omega) only [RA,↓reduceIte,Nat.reduceEqDiff,RD,resAll,resOf];rfl) aF.refl ?_;simp only [tup]
  rw [if_neg (fun h=>h1 h.1)] at hK
  exact ⟨.int,hK⟩
end Go.Bm
namespace Go.Bm
open Go Go.Am
theorem Ju {p:List Nat} {n i:Nat} (h:i<(bg p n).length):nl (lens p n) i=((bg p n).getD i []).length:=by
 simp [nl,lens,List.getD,h]
theorem Z7 {p:List Nat} {n:Nat} (hb:By 16 p) (hp:Perm p n):
  aB false Ib [PL p,I n] [] fun v H1=> ∃j,v=S j 0 (typ p n).length 1∧blk H1 j=some ((typ p n).map eY):=by
 have hlen:=hb.len
 have hnum:=Ak hp
 have hn:=hp.1
 have hll:(lens p n).length=(bg p n).length:=by rw [lens,List.length_map]
 refine aK WI ?_;simp only [iJ,aA]
 refine aG ?_
 refine aG ?_
 refine lH fun Kr hKr=>?_
 refine Z8 hb hp ?_
 refine dI ?_
 refine dJ hKr ?_
 refine aS (fun m f H'=> ∃i out,i≤(bg p n).length∧m=(bg p n).length-i∧out=(lens p n).take i∧f 5=S 1 0 out.length 1∧f 11=Fz (bg p n).length 1 ((bg p n).map FN)∧f 12=I (bg p n).length∧f 13=I i∧H'=[some (p.map N8),some (out.map eY)]) ((bg p n).length) ?_ ?_
 ·exact ⟨_,_,Gh.refl,0,[],by omega,by omega,by simp,ah,ah,ah,ah,by simp⟩
 ·rintro m f H' R ⟨i,out,hi,rfl,hout,g5,g11,g12,g13,rfl⟩ hN hX hR hE
  simp only [iJ.l0,aA]
  refine aC (aU @g12 @g13) ?_
  refine bP (i<(bg p n).length) (fun hc=>?_) fun hc=>?_
  ·have hol:out.length≤16:=by rw [hout,List.length_take];omega
   have hci:=Ju hc
   refine dL ?_
   refine aC (cO @g11 @g13 @Jv) ?_
   refine au fun Kr hKr=>?_;simp (disch:=omega) only [RA,↓reduceIte,Nat.reduceEqDiff,Nat.reduceAdd,Nat.reduceLeDiff,RD,g5,←hci,Ap];refine hKr _ _ ?_;clear hKr Kr;(try simp only [RN,reduceIte]);try refine aj rfl ?_
   refine dw @g13 ?_
   exact hN ((bg p n).length-(i+1)) _ _ _ _ (by omega) (Gh.nrm [0,3] rfl rfl (by simp only [RH,RV])) ⟨i+1,out++[nl (lens p n) i],by omega,rfl,by rw [Jw (by omega),hout],ah,ah,ah,ah,rfl⟩
  ·refine hX _ _ ?_
   obtain rfl:i=(bg p n).length:=by omega
   have Z9:out=lens p n:=by rw [hout,←hll,List.take_length]
   subst Z9
   have hpl:(lY (lens p n)).length=(lens p n).length:=Jy
   have hpm:(lY (typ p n)).Perm (lY (lens p n)):=(DK hp).map _
   have htl:(typ p n).length=(lens p n).length:=(DK hp).length_eq
   have jO:=Jz hp
   refine iG @g5 fun Kr hKr=>?_
   refine aac (i:=1) rfl rM ?_
   have e:([S 1 0 (lens p n).length 1]:List Value).map (ren [1])=[S 0 0 (lY (lens p n)).length 1]:=by rw [hpl];simp [ren,oZ,nm]
   rw [e,JA]
   refine aad (r:=lY (typ p n)) (by omega) aae hpm ?_
   refine ⟨0,_,_,rfl,HN.cons (aP.map fun _=> .int) HN.nil,?_⟩
   rw [hpl]
   refine dI ?_
   refine dJ hKr ?_
   refine dG ?_
   exact ⟨1,by rw [htl],by rw [JA];rfl⟩
theorem JB {x:Bool} {p:List Nat} {n:Nat} {H:BH} {K:Value→BH→Prop} (hb:By 16 p) (hp:Perm p n) (hK:K (FN (typ p n)) H):aB x Ib [PL p,I n] H K:=
 rJ (by (simp only [RH])) rM (by simp) (Z7 hb hp) hK
theorem aaf {H:BH} {b:Nat}:bQ (some (List.replicate 17 (.int .i64 0))) H b 0 17 (aggL (List.replicate 17 (.int .i64 0)))=some (undef,H.set b (some ((List.replicate 17 0).map eY))):=by
 rw [DN];rfl
theorem aag {H:BH} {b o:Nat} {s:List Nat} {c:Nat} (h:o<s.length):bQ (some (s.map eY)) H b o 1 (.int .i64 (c:Int))=some (undef,H.set b (some ((s.set o c).map eY))):=by
 rw [nX (by simpa using h)]
 rw [Aq (g:=eY) h]
theorem aah {p:List Nat} {n:Nat} (hb:By 16 p) (hp:Perm p n):
  aB false H6 [PL p,I n] [] fun v H1=> ∃j,v=S j 0 (typ p n).length 1∧blk H1 j=some ((typ p n).map eY):=by
 have hlen:=hb.len
 have hnum:=Ak hp
 have hn:=hp.1
 have hll:(lens p n).length=(bg p n).length:=by rw [lens,List.length_map]
 have hlo:=JC hp
 have jO:=Jz hp
 refine aK V4 ?_;simp only [dB,aA]
 refine aG ?_
 refine lH fun Kr hKr=>?_
 refine aai hb hp ?_
 refine uf @aaf ?_
 refine dJ hKr ?_
 refine aG ?_
 refine aS (fun m f H'=> ∃i cn,i≤(bg p n).length∧m=(bg p n).length-i∧cn=ku (lens p n) i∧f 1=I n∧f 5=P 2 0∧f 6=Fz (bg p n).length 1 ((bg p n).map FN)∧f 7=S 1 0 0 1∧f 8=I i∧H'=[some (p.map N8),some (([]:List Nat).map eY),some (cn.map eY)]) ((bg p n).length) ?_ ?_
 ·exact ⟨_,_,Gh.refl,0,List.replicate 17 0,by omega,by omega,rfl,ah,ah,ah,ah,ah,rfl⟩
 ·rintro m f H' R ⟨i,cn,hi,rfl,hcn,g1,g5,g6,g7,g8,rfl⟩ hN hX hR hE
  simp only [dB.l0,aA]
  have hcl:cn.length=17:=by rw [hcn];exact JD
  refine aC (aU @g6 @g8) ?_
  refine bP (i<(bg p n).length) (fun hc=>?_) fun hc=>?_
  ·have hci:=Ju hc
   have hz:=hlo _ (iC (show i<(lens p n).length by omega))
   have hle:nl cn (nl (lens p n) i)≤16:=by
    rw [hcn,DR (by omega) (by omega)]
    have:=List.count_le_length (a:=nl (lens p n) i) (l:=(lens p n).take i)
    rw [List.length_take] at this
    omega
   have e1:(nl cn (nl (lens p n) i):Int)+1=((nl cn (nl (lens p n) i)+1:Nat):Int):=by omega
   refine dL ?_
   refine au fun Kr hKr=>?_;simp (disch:=omega) only [RA,↓reduceIte,Nat.reduceEqDiff,RD,g5,g6,g8,Jv,←hci,JE,hcl,e1,aag];refine hKr _ _ ?_;clear hKr Kr;(try simp only [RN,reduceIte]);try refine aj rfl ?_
   refine dw @g8 ?_
   exact hN ((bg p n).length-(i+1)) _ _ _ _ (by omega) Gh.refl ⟨i+1,cn.set (nl (lens p n) i) (nl cn (nl (lens p n) i)+1),by omega,rfl,by rw [ku,hcn],ah,ah,ah,ah,ah,rfl⟩
  ·refine hX _ _ ?_
   obtain rfl:i=(bg p n).length:=by omega
   rw [←hll] at hcn
   have aaj: ∀k,k≤n→(fO cn n k).length≤16:=fun k hk=>by
    rw [hcn]
    have:=aak (show n≤16 by omega) hk hlo
    omega
   have hcv: ∀v,v<17→nl cn v≤16:=fun v hv=>by
    rw [hcn,DR (Nat.le_refl _) hv]
    have:=List.count_le_length (a:=v) (l:=(lens p n).take (lens p n).length)
    rw [List.length_take] at this
    omega
   have hdl:typ p n=fO cn n n:=by rw [hcn];rfl
   rw [hdl] at hX
   clear g6 g8 hc hN hX hR hE
   refine jQ ?_
   refine aC @g1 ?_
   rw [hdl]
   refine aS (fun m f H'=> ∃v out,v≤n∧v=m∧out=fO cn n (n-v)∧f 5=P 1 0∧f 7=S 0 0 out.length 1∧f 9=I v∧H'=[some (out.map eY),some (cn.map eY)]) (n) ?_ ?_
   ·refine ⟨_,_,(Gh.nrm [1,2] rfl rfl (by simp only [RH,RV])),n,[],by omega,by omega,by simp [fO],ah,ah,ah,rfl⟩
   ·clear g1 g5 g7
    rintro m f H' R2 ⟨v,out,hv,rfl,hout,g5,g7,g9,rfl⟩ iy hX2 hR2 hE2
    simp only [dB.l2,aA]
    refine aC @g9 ?_
    refine bP (0<v) (fun hc=>?_) fun hc=>?_
    ·have hq:=hcv v (by omega)
     have hstep:fO cn n (n-(v-1))=fO cn n (n-v)++List.replicate (nl cn v) v:=by
      rw [show n-(v-1)=(n-v)+1 by omega,fO,show n-(n-v)=v by omega]
     have hdn:=aaj (n-(v-1)) (by omega)
     rw [hstep,←hout,List.length_append,List.length_replicate] at hdn
     rw [←hout] at hstep
     refine dL ?_
     refine aC (fQ @g5 @g9 @JE @hcl) ?_
     obtain ⟨q,hqe⟩: ∃q,nl cn v=q:=⟨_,rfl⟩
     rw [hqe] at hq hstep hdn
     simp only [hqe]
     refine aS (fun m f H'=> ∃j o,j≤q∧j=m∧o=out++List.replicate (q-j) v∧f 5=P 1 0∧f 7=S 0 0 o.length 1∧f 9=I v∧f 10=I j∧H'=[some (o.map eY),some (cn.map eY)]) (q) ?_ ?_
     ·exact ⟨_,_,Gh.refl,q,out,by omega,by omega,by simp,ah,ah,ah,ah,rfl⟩
     ·clear g5 g7 g9
      rintro m f H' R3 ⟨j,o,hj,rfl,ho,g5,g7,g9,g10,rfl⟩ hN3 hX3 xq hE3
      simp only [dB.l1,aA]
      have hol:o.length≤16:=by rw [ho,List.length_append,List.length_replicate];omega
      refine aC @g10 ?_
      refine bP (0<j) (fun hc=>?_) fun hc=>?_
      ·have hj1:(j:Int)-1=((j-1:Nat):Int):=by omega
       refine dL ?_
       refine aC (cO @g7 @g9 @Ap) ?_
       refine dw (aU @g10 @hj1) ?_
       refine hN3 (j-1) _ _ _ _ (by omega) (Gh.nrm [3,1] rfl rfl (by simp only [RH,RV])) ⟨j-1,o++[v],by omega,rfl,?_,ah,ah,ah,ah,rfl⟩
       rw [ho,List.append_assoc,show q-(j-1)=(q-j)+1 by omega,List.replicate_succ']
      ·refine hX3 _ _ ?_
       obtain rfl:j=0:=by omega
       have hv1:(v:Int)-1=((v-1:Nat):Int):=by omega
       refine dw (aU @g9 @hv1) ?_
       refine iy (v-1) _ _ _ _ (by omega) Gh.refl ⟨v-1,o,by omega,rfl,by rw [hstep,ho];rfl,ah,ah,ah,rfl⟩
    ·refine hX2 _ _ ?_
     obtain rfl:v=0:=by omega
     refine aC @g7 ?_
     refine lZ @g7 ?_
     rw [hout]
     exact ⟨0,rfl,rfl⟩
theorem JF {x:Bool} {p:List Nat} {n:Nat} {H:BH} {K:Value→BH→Prop} (hb:By 16 p) (hp:Perm p n) (hK:K (FN (typ p n)) H):aB x H6 [PL p,I n] H K:=
 rJ (by (simp only [RH])) rM (by simp) (aah hb hp) hK
def Clean (w:List Nat) (n:Nat):Prop:= ∀x,x<n→nl w x≠x∧nl w (nl w x)=x
instance (w:List Nat) (n:Nat):Decidable (Clean w n):=by unfold Clean;infer_instance
end Go.Bm
namespace Go.Bm
open Go Go.Am
theorem adI {g:Nat} {args:List Value} {H:BH} {K:Value→BH→Prop} {i:Nat} {cs0:List Value} (hc0:blk H i=some cs0) (hn0:aP cs0)
  (h:aB false g (args.map (ren [i])) [some cs0] fun v H1=> ∃j l e cs,v= .slice (some ⟨j,0,none⟩) l e∧j≠0∧blk H1 j=some cs∧aP cs∧ ∃cu,blk H1 0=some cu∧aP cu∧K (.slice (some ⟨H.length,0,none⟩) l e) ((H.set i (some cu))++[some cs])):aB false g args H K:=by
 intro ρ Z as HA h1 h2
 have hi:=xu hc0
 obtain ⟨b0,DT,r1,r2,r3,r4,r5⟩:=h2.bV i cs0 hc0
 obtain ⟨kQ,xw⟩: ∃kQ:Nat→Option Nat,kQ=fun j=>if j=0 then some b0 else none:=⟨_,rfl⟩
 have oq:kQ 0=some b0:=by rw [xw];rfl
 have hR0:Rel kQ Z [some cs0] HA:=by
  refine ⟨fun j cs hj=>?_,fun j j' c1 c2 b e1 e2 _ _=>?_,fun j cs b e1 e2=>?_,h2.fB,fun j hj=>?_⟩
  ·cases j with
   |zero=>
    simp [blk] at hj;subst hj
    exact ⟨b0,DT,oq,r2,r3,r4,(hn0.vz r5).vl⟩
   |succ j=>simp [blk] at hj
  ·cases j with
   |zero=>cases j' with
    |zero=>rfl
    |succ j'=>simp [blk] at e2
   |succ j=>simp [blk] at e1
  ·cases j with
   |zero=>
    rw [oq] at e2;cases e2
    exact h2.dX i cs0 b0 hc0 r1
   |succ j=>simp [blk] at e1
  ·rw [xw]
   simp only [List.length_singleton] at hj
   simp only
   rw [if_neg (by omega)]
 have hargs:VL kQ Z (args.map (ren [i])) as:=by
  refine ⟨by simpa using h1.1,fun q c d q1 q2=>?_⟩
  rw [List.getElem?_map] at q1
  obtain ⟨p,hp,rfl⟩:=map_inj q1
  refine ug (fun x y hxy=>?_) (h1.2 q p d hp q2)
  cases y with
  |zero=>
   simp at hxy
   subst hxy
   rw [oq,r1]
  |succ y=>simp at hxy
 obtain ⟨v',HA',h3,_,bI,Z1,v,H1,h4,h5,_,h7,h6,j,l,e,cs,rfl,hj0,hj,hn,cu,hu,hnu,hK⟩:=h kQ Z as HA hargs hR0
 obtain ⟨bn,bk1,hb0,e2,e3,e4,e5⟩:=h5.bV j cs hj
 have pI: ∀q cs' b,blk ([some cs0]:BH) q=some cs'→kQ q=some b→b=b0:=fun q cs' b e1 e2=>by
  cases q with
  |zero=>rw [oq] at e2;cases e2;rfl
  |succ q=>simp [blk] at e1
 obtain ⟨bu,bku,hbu,u2,u3,u4,u5⟩:=h5.bV 0 cu hu
 obtain rfl:bu=b0:=by
  have:=h7 0 (by simp)
  rw [hbu,oq] at this
  injection this
 have DU:bn≠bu:=fun e=>hj0 (h5.inj j 0 cs cu bn hj hu hb0 (by rw [e];exact hbu))
 have hge:HA.n≤bn:=by
  rcases h6.own j cs bn hj hb0 with h9|⟨q,cs',h9,h10⟩
  ·exact h9
  ·exact absurd (pI q cs' bn h9 h10) DU
 have hkeep: ∀b,b<HA.n→b≠bu→HA'.get b=HA.get b:=fun b hb hne=>h6.keep b hb fun q cs' e1 e2=>hne (pI q cs' b e1 e2)
 have hne: ∀q cs' b,q≠i→blk H q=some cs'→ρ q=some b→b≠bu:=fun q cs' b hq e1 e2 e=>hq (h2.inj q i cs' cs0 b e1 hc0 e2 (by rw [e];exact r1))
 have hold: ∀q cs',blk ((H.set i (some cu))++[some cs]) q=some cs'→(q=H.length∧cs'=cs)∨(q<H.length∧q≠i∧blk H q=some cs')∨(q<H.length∧q=i∧cs'=cu):=fun q cs' hc=>by
  rcases Nat.lt_trichotomy q H.length with hq|hq|hq
  ·right
   have hc':blk (H.set i (some cu)) q=some cs':=by
    unfold blk at hc⊢
    rwa [List.getElem?_append_left (by simpa using hq)] at hc
   rw [qH hi] at hc'
   split at hc'
   ·rename_i e
    injection hc' with hc'
    exact .inr ⟨hq,e,hc'.symm⟩
   ·exact .inl ⟨hq,by assumption,hc'⟩
  ·left
   subst hq
   unfold blk at hc
   rw [List.getElem?_append_right (by simp)] at hc
   simp at hc
   exact ⟨rfl,hc.symm⟩
  ·unfold blk at hc
   rw [List.getElem?_eq_none (by simp;omega)] at hc
   cases hc
 have hρ: ∀q,q<H.length→put ρ H.length bn q=ρ q:=fun q hq=>by simp only [put];rw [if_neg (by omega)]
 have iH:put ρ H.length bn H.length=some bn:=by simp [put]
 have hv:VR (put ρ H.length bn) Z1 (.slice (some ⟨H.length,0,none⟩) l e) v':=by
  obtain ⟨b,hb,rfl⟩:=h4.slice_inv
  rw [hb0] at hb;cases hb
  exact .slice iH
 have hat: ∀q cs' b,blk ((H.set i (some cu))++[some cs]) q=some cs'→put ρ H.length bn q=some b→(q=H.length∧b=bn)∨(q≠i∧q<H.length∧ρ q=some b∧blk H q=some cs')∨(q=i∧b=bu):=fun q cs' b hc hb=>by
  rcases hold q cs' hc with ⟨rfl,rfl⟩|⟨hq,hqi,hc⟩|⟨hq,rfl,rfl⟩
  ·rw [iH] at hb;cases hb
   exact .inl ⟨rfl,rfl⟩
  ·rw [hρ q hq] at hb
   exact .inr (.inl ⟨hqi,hq,hb,hc⟩)
  ·rw [hρ q hq,r1] at hb
   cases hb
   exact .inr (.inr ⟨rfl,rfl⟩)
 refine ⟨v',HA',h3,(fun h=>by cases h),put ρ H.length bn,Z1,_,_,hv,⟨fun q cs' hc=>?_,fun q q' c1 c2 b k1 k2 k3 k4=>?_,fun q cs' b k1 k2=>?_,h5.fB,fun q hq=>?_⟩,by simp,hρ,⟨h6.n,fun b hb hno=>?_,fun q cs' b k1 k2=>?_,h6.zx,fun b bk hb=>?_⟩,hK⟩
 ·rcases hold q cs' hc with ⟨rfl,rfl⟩|⟨hq,hqi,hc⟩|⟨hq,rfl,rfl⟩
  ·exact ⟨bn,bk1,iH,e2,e3,e4,(hn.vz e5).vl⟩
  ·obtain ⟨b,bk,k1,k2,k3,k4,k5⟩:=h2.bV q cs' hc
   refine ⟨b,bk,by rw [hρ q hq];exact k1,Nat.lt_of_lt_of_le k2 h6.n,by rw [hkeep b k2 (hne q cs' b hqi hc k1)];exact k3,k4,k5.mono (fun p d hp=>?_) h6.zx⟩
   rcases Nat.lt_or_ge p H.length with hpl|hpl
   ·rw [hρ p hpl];exact hp
   ·rw [h2.top p hpl] at hp;cases hp
  ·exact ⟨bu,bku,by rw [hρ q hq];exact r1,u2,u3,u4,(hnu.vz u5).vl⟩
 ·rcases hat q c1 b k1 k3 with ⟨rfl,rfl⟩|⟨hqi,hq,k3,hc⟩|⟨rfl,rfl⟩<;>rcases hat q' c2 _ k2 k4 with ⟨rfl,e⟩|⟨DW,hq',k4,hc'⟩|⟨rfl,e⟩
  ·rfl
  ·have:=h2.lt hc' k4;omega
  ·exact absurd e DU
  ·have:=h2.lt hc k3;omega
  ·exact h2.inj q q' c1 c2 b hc hc' k3 k4
  ·exact absurd e (hne q _ b hqi hc k3)
  ·exact absurd e.symm DU
  ·exact absurd rfl (hne q' _ _ DW hc' k4)
  ·rfl
 ·rcases hat q cs' b k1 k2 with ⟨rfl,rfl⟩|⟨hqi,hq,k2,hc⟩|⟨rfl,rfl⟩
  ·exact h5.dX j _ b hj hb0
  ·cases hz:Z1 b with
   |none=>rfl
   |some bk=>
    rcases h6.zn b bk hz with h9|h9|⟨p,cs',h9,h10⟩
    ·rw [h2.dX q _ b hc k2] at h9;cases h9
    ·have:=h2.lt hc k2;omega
    ·exact absurd (pI p cs' b h9 h10) (hne q _ b hqi hc k2)
  ·exact h5.dX 0 cu b hu hbu
 ·simp only [List.length_append,List.length_set,List.length_singleton] at hq
  simp only [put]
  rw [if_neg (by omega)]
  exact h2.top q (by omega)
 ·refine hkeep b hb fun e=>?_
  rw [e] at hno
  exact hno i cs0 hc0 r1
 ·rcases hat q cs' b k1 k2 with ⟨rfl,rfl⟩|⟨hqi,hq,k2,hc⟩|⟨rfl,rfl⟩
  ·exact .inl hge
  ·exact .inr ⟨q,cs',hc,k2⟩
  ·exact .inr ⟨q,cs0,hc0,r1⟩
 ·rcases h6.zn b bk hb with h9|h9|⟨p,cs',h9,h10⟩
  ·exact .inl h9
  ·exact .inr (.inl h9)
  ·rw [pI p cs' b h9 h10]
   exact .inr (.inr ⟨i,cs0,hc0,r1⟩)
end Go.Bm
namespace Go.Bm
open Go Go.Am
def kN (ns:List Nat) (H:BH):BH:=ns.map fun i=>(blk H i).map (List.map (ren ns))
theorem xA {ns:List Nat} {H:BH} {j:Nat} {cs:List Value} (h:blk (kN ns H) j=some cs): ∃i cs0,ns[j]? =some i∧blk H i=some cs0∧cs=cs0.map (ren ns):=by
 unfold blk kN at h
 rw [List.getElem?_map] at h
 cases h1:ns[j]? with
 |none=>rw [h1] at h;cases h
 |some i=>
  rw [h1] at h
  simp only [Option.map_some,Option.getD_some] at h
  change (blk H i).map _=some cs at h
  cases h2:blk H i with
  |none=>rw [h2] at h;cases h
  |some cs0=>rw [h2] at h;exact ⟨i,cs0,rfl,h2,by simpa using h.symm⟩
theorem Gh.rG {k:Nat} {f:Fr} {H:BH} (ns:List Nat) (hd:ns.Nodup) (hk: ∀j,j<k→ns[j]? =some j):Gh k f H (fun t=>ren ns (f t)) (kN ns H):=by
 refine ⟨fun _=>?_,fun ρ Z fA HA h1 h2=>?_⟩
 ·rcases Nat.lt_or_ge ns.length k with h|h
  ·have:=hk ns.length h
   simp at this
  ·simpa [kN] using h
 ·have hr: ∀(i j:Nat),ns[j]? =some i→(match ns[j]? with|some i=>ρ i|none=>none)=ρ i:=fun i j h=>by rw [h]
  refine ⟨fun j=>match ns[j]? with|some i=>ρ i|none=>none,Z,fun t=>ug hr (h1 t),⟨fun j cs hc=>?_,fun j j' cs cs' b hc hc' hb hb'=>?_,fun j cs b hc hb=>?_,h2.fB,fun j hj=>?_⟩,fun j hj=>?_,⟨Nat.le_refl _,fun _ _ _=>rfl,fun j cs b hc hb=>?_,fun _ _ h=>h,fun _ _ h=> .inl h⟩⟩
  ·obtain ⟨i,cs0,hi,hc',rfl⟩:=xA hc
   obtain ⟨b,bk,e1,e2,e3,e4,e5⟩:=h2.bV i cs0 hc'
   refine ⟨b,bk,by rw [hi];exact e1,e2,e3,e4,by simpa using e5.1,fun q c d q1 q2=>?_⟩
   rw [List.getElem?_map] at q1
   obtain ⟨p,hp,rfl⟩:=map_inj q1
   exact ug hr (e5.2 q p d hp q2)
  ·obtain ⟨i,c0,hi,hci,_⟩:=xA hc
   obtain ⟨i',c0',hi',lI,_⟩:=xA hc'
   rw [hi] at hb;rw [hi'] at hb'
   have:=h2.inj i i' c0 c0' b hci lI hb hb'
   subst this
   obtain ⟨e1,e2⟩:=List.getElem?_eq_some_iff.1 hi
   obtain ⟨e3,e4⟩:=List.getElem?_eq_some_iff.1 hi'
   have hp:=List.pairwise_iff_getElem.1 hd
   rcases Nat.lt_trichotomy j j' with hl|hl|hl
   ·exact absurd (e2.trans e4.symm) (hp j j' e1 e3 hl)
   ·exact hl
   ·exact absurd (e4.trans e2.symm) (hp j' j e3 e1 hl)
  ·obtain ⟨i,c0,hi,hci,_⟩:=xA hc
   rw [hi] at hb
   exact h2.dX i c0 b hci hb
  ·have:ns[j]? =none:=List.getElem?_eq_none (by simpa [kN] using hj)
   rw [this]
  ·exact hr j j (hk j hj)
  ·obtain ⟨i,c0,hi,hci,_⟩:=xA hc
   rw [hi] at hb
   exact .inr ⟨i,c0,hci,hb⟩
theorem aF.rG {k:Nat} {v:Value} {H:BH} (ns:List Nat) (hd:ns.Nodup) (hk: ∀j,j<k→ns[j]? =some j) (hv:NN v):aF k v H v (kN ns H):=
 ⟨(Gh.rG (f:=fun _=>v) ns hd hk).1,fun ρ Z u HA h1 h2=>by
  obtain ⟨ρ',Z',h3,h4,h5,h6⟩:=(Gh.rG (f:=fun _=>v) ns hd hk).2 ρ Z (fun _=>u) HA (fun _=>h1) h2
  refine ⟨ρ',Z',?_,h4,h5,h6⟩
  exact (hv ρ Z u h1).mono h6.zx|> .z⟩
theorem aal {ρ:Nat→Option Nat} {Z:Nat→Option Blk} {HA:AHeap} {H:BH} {i:Nat} {cs:List Value} (h2:Rel ρ Z H HA) (hc:blk H i=some cs) (hn:aP cs):
  ∃Z',Rel ρ Z' ((kZ (frz i cs) H).set i none) HA∧Frm ρ Z H HA ρ Z' ((kZ (frz i cs) H).set i none) HA∧ ∀v u,VR ρ Z v u→VR ρ Z' (frz i cs v) u:=by
 obtain ⟨Z',h3,h4,h5⟩:=xB h2 hc hn
 have hi:=xu hc
 have hset: ∀j cs',blk ((kZ (frz i cs) H).set i none) j=some cs'→j≠i∧ ∃cs0,blk H j=some cs0∧cs'=cs0.map (frz i cs):=fun j cs' h=>by
  rw [qH (by simpa [kZ] using hi)] at h
  split at h
  ·cases h
  ·rename_i hne
   exact ⟨hne,JG h⟩
 have hold: ∀j cs0,j≠i→blk H j=some cs0→blk (H.set i none) j=some cs0:=fun j cs0 hne h=>by rw [qH hi,if_neg hne];exact h
 refine ⟨Z',⟨fun j cs' h=>?_,fun j j' c1 c2 b e1 e2 e3 e4=>?_,fun j cs' b e1 e2=>?_,h3.fB,fun j hj=>h2.top j (by simpa [kZ] using hj)⟩,⟨h4.n,h4.keep,fun j cs' b e1 e2=>?_,h4.zx,h4.zn⟩,h5⟩
 ·obtain ⟨hne,cs0,g1,rfl⟩:=hset j cs' h
  obtain ⟨b,bk,k1,k2,k3,k4,k5⟩:=h2.bV j cs0 g1
  refine ⟨b,bk,k1,k2,k3,k4,by simpa using k5.1,fun q c d q1 q2=>?_⟩
  rw [List.getElem?_map] at q1
  obtain ⟨p,hp,rfl⟩:=map_inj q1
  exact h5 _ _ (k5.2 q p d hp q2)
 ·obtain ⟨n1,x1,g1,_⟩:=hset j c1 e1
  obtain ⟨n2,x2,g2,_⟩:=hset j' c2 e2
  exact h2.inj j j' x1 x2 b g1 g2 e3 e4
 ·obtain ⟨n1,x1,g1,_⟩:=hset j cs' e1
  exact h3.dX j x1 b (hold j x1 n1 g1) e2
 ·obtain ⟨n1,x1,g1,_⟩:=hset j cs' e1
  exact h4.own j x1 b (hold j x1 n1 g1) e2
theorem aF.fzA {k:Nat} {v:Value} {H:BH} {i:Nat} {cs:List Value} (hc:blk H i=some cs) (hn:aP cs):aF k v H (ou i cs v) ((kZ (frz i cs) H).set i none):=
 ⟨fun h=>by simpa [kZ] using h,fun ρ Z u HA h1 h2=>by
  obtain ⟨Z',h3,h4,h5⟩:=aal h2 hc hn
  refine ⟨ρ,Z',?_,h3,fun _ _=>rfl,h4⟩
  unfold ou
  split
  ·rename_i vs
   obtain ⟨ds,rfl,hl⟩:=h1.tuple_inv
   obtain ⟨ds⟩:=ds
   refine .tuple (by simpa using hl.1) fun i c d k1 k2=>?_
   rw [List.getElem?_map] at k1
   obtain ⟨q,hq,rfl⟩:=map_inj k1
   exact h5 _ _ (hl.2 i q d hq k2)
  ·exact h5 _ _ h1⟩
end Go.Bm
namespace Go.Bm
open Go Go.Am
section
variable {code:List Nat} {a:Nat} {h:Int}
def kM (r:List Nat):List Int:=r.map fun x:Nat=>(x:Int)
theorem xC {r:List Nat}:(kM r).length=r.length:=by simp [kM]
theorem aam {r:List Nat}:r.map eY=(kM r).map I:=by
 rw [kM,List.map_map]
 rfl
theorem Ar {r:List Nat}:FN r=FI (kM r):=by
 rw [FI,xC,←aam]
section
variable {x y z:Value} {H:BH} {b j o l e:Nat}
end
end
end Go.Bm
namespace Go.Bm
open Go Go.Am
section
variable {code:List Nat} {a:Nat} {h:Int}
theorem Au {p:List Nat} {n:Nat} (hp:Perm p n):(typ p n).length≤100:=by
 have hn:=hp.1
 have:=Ak hp
 rw [aan hp]
 omega
end
end Go.Bm
namespace Go.Bm
open Go Go.Am
def runK (xs:List Int):Nat→Int
 |0=>1
 |i+1=>if el xs (i+1)=el xs i then runK xs i+1 else 1
def gK (xs:List Int):Nat→Int
 |0=>1
 |i+1=>gK xs i*runK xs i
def iD (xs:List Int):Nat→Int
 |0=>1
 |i+1=>iD xs i*el xs i
def nC (xs:List Int):Nat→Int
 |0=>1
 |i+1=>nC xs i*el xs i*runK xs i
theorem xE {xs:List Int}: ∀i,nC xs i=gK xs i*iD xs i
 |0=>rfl
 |i+1=>by
  simp only [nC,gK,iD,xE i,Int.mul_assoc,Int.mul_left_comm,Int.mul_comm]
def gI:Nat→Int
 |0=>1
 |n+1=>gI n*((n+1:Nat):Int)
theorem wO: ∀n,1≤gI n
 |0=>by simp [gI]
 |n+1=>by
  have h:=wO n
  have:(1:Int)*1≤gI n*((n+1:Nat):Int):=Int.mul_le_mul h (by omega) (by omega) (by omega)
  simpa [gI] using this
theorem tN {m:Nat}: ∀{n:Nat},m≤n→gI m≤gI n
 |0,h=>by
  obtain rfl:m=0:=by omega
  exact Int.le_refl _
 |n+1,h=>by
  by_cases e:m=n+1
  ·rw [e];exact Int.le_refl _
  ·have ih:=tN (m:=m) (n:=n) (by omega)
   have hp:=wO n
   have:gI n*1≤gI n*((n+1:Nat):Int):=Int.mul_le_mul_of_nonneg_left (by omega) (by omega)
   simp only [gI]
   omega
theorem uh {xs:List Int}: ∀i,1≤runK xs i
 |0=>by simp [runK]
 |i+1=>by
  have:=uh (xs:=xs) i
  simp only [runK]
  split<;>omega
theorem uj {xs:List Int}: ∀i,1≤gK xs i
 |0=>by simp [gK]
 |i+1=>by
  have h:=uj (xs:=xs) i
  have hr:=uh (xs:=xs) i
  have:(1:Int)*1≤gK xs i*runK xs i:=Int.mul_le_mul h hr (by omega) (by omega)
  simpa [gK] using this
section
variable {xs:List Int} {n:Nat}
theorem DX (h: ∀j,j<n→jF xs j): ∀i,i<n→runK xs i*el xs i≤dW xs (i+1)
 |0,hi=>by simp [runK,dW]
 |i+1,hi=>by
  have ih:=DX h i (by omega)
  have h1:=(h (i+1) (by omega)).1
  have h0:=(h i (by omega)).1
  have hs:=(tZ (xs:=xs) (i:=i+1) fun j hj=>h j (by omega)).1
  rw [dW]
  simp only [runK]
  split
  ·rename_i e
   rw [e,Int.add_mul]
   omega
  ·omega
theorem xF (h: ∀j,j<n→jF xs j): ∀i,i≤n→1≤iD xs i
 |0,_=>by simp [iD]
 |i+1,hi=>by
  have ih:=xF h i (by omega)
  have h1:=(h i (by omega)).1
  have:(1:Int)*1≤iD xs i*el xs i:=Int.mul_le_mul ih h1.1 (by omega) (by omega)
  simpa [iD] using this
theorem JH (h: ∀j,j<n→jF xs j) {i:Nat} (hi:i≤n):1≤nC xs i:=by
 rw [xE]
 have:(1:Int)*1≤gK xs i*iD xs i:=Int.mul_le_mul (uj i) (xF h i hi) (by omega) (by have:=uj (xs:=xs) i;omega)
 simpa using this
theorem JI (h: ∀j,j<n→jF xs j): ∀i,i≤n→nC xs i≤gI (dW xs i).toNat
 |0,_=>by simp [nC,dW,gI]
 |i+1,hi=>by
  have ih:=JI h i (by omega)
  have h1:=(h i (by omega)).1
  have hs:=(tZ (xs:=xs) (i:=i) fun j hj=>h j (by omega)).1
  have hr:=DX h i (by omega)
  have hp:=uh (xs:=xs) i
  have hc:=JH h (i:=i) (by omega)
  obtain ⟨m,hm⟩: ∃m:Nat,(dW xs (i+1)).toNat=m+1:=⟨(dW xs (i+1)).toNat-1,by rw [dW] at hr⊢;omega⟩
  have hsm:dW xs (i+1)=((m+1:Nat):Int):=by
   rw [dW] at hm⊢
   omega
  have hmono:gI (dW xs i).toNat≤gI m:=tN (by rw [dW] at hm;omega)
  have e:nC xs (i+1)=nC xs i*(runK xs i*el xs i):=by
   simp only [nC,Int.mul_assoc,Int.mul_left_comm,Int.mul_comm]
  rw [e,hm,gI]
  have hre:0≤runK xs i*el xs i:=Int.mul_nonneg (by omega) (by omega)
  exact Int.mul_le_mul (by omega) (by omega) hre (by have:=wO m;omega)
theorem JJ (h: ∀j,j<n→jF xs j) {i:Nat}: ∀{k:Nat},i≤k→k≤n→iD xs i≤iD xs k
 |0,hik,_=>by
  obtain rfl:i=0:=by omega
  exact Int.le_refl _
 |k+1,hik,hk=>by
  by_cases e:i=k+1
  ·rw [e];exact Int.le_refl _
  ·have ih:=JJ h (i:=i) (k:=k) (by omega) (by omega)
   have h1:=(h k (by omega)).1
   have hp:=xF h k (by omega)
   have:iD xs k*1≤iD xs k*el xs k:=Int.mul_le_mul_of_nonneg_left (by omega) (by omega)
   simp only [iD]
   omega
end
def tK (xs:List Int):Int:=nC xs xs.length
theorem JK:gI 16=20922789888000:=by decide
section
variable {xs:List Int} (ht:fM xs)
include ht
theorem JL {i:Nat} (hi:i≤xs.length):nC xs i≤20922789888000:=by
 have h1:=JI ht.2.1 i hi
 have h2:=xg (xs:=xs) (i:=i) (k:=xs.length) ht.2.1 hi
 have h3:=ht.2.2
 rw [fJ] at h3
 have h4:gI (dW xs i).toNat≤gI 16:=tN (by omega)
 rw [JK] at h4
 omega
theorem I9:1≤tK xs:=JH ht.2.1 (Nat.le_refl _)
theorem aao {i:Nat} (hi:i≤xs.length):gK xs i≤20922789888000:=by
 have h1:=JL ht hi
 have h2:=xF ht.2.1 i hi
 have h3:=uj (xs:=xs) i
 rw [xE] at h1
 have:gK xs i*1≤gK xs i*iD xs i:=Int.mul_le_mul_of_nonneg_left h2 (by omega)
 omega
theorem aap {i:Nat} (hi:i≤xs.length):1≤gK xs xs.length*iD xs i∧gK xs xs.length*iD xs i≤20922789888000:=by
 have h1:=JL ht (Nat.le_refl xs.length)
 have h2:=JJ ht.2.1 hi (Nat.le_refl _)
 have h3:=uj (xs:=xs) xs.length
 have h4:=xF ht.2.1 i hi
 rw [xE] at h1
 have a1:gK xs xs.length*iD xs i≤gK xs xs.length*iD xs xs.length:=Int.mul_le_mul_of_nonneg_left h2 (by omega)
 have a2:(1:Int)*1≤gK xs xs.length*iD xs i:=Int.mul_le_mul h3 h4 (by omega) (by omega)
 omega
theorem JM {i:Nat} (hi:i<xs.length):runK xs i≤16:=by
 have h1:=DX ht.2.1 i hi
 have h2:=xg (xs:=xs) (i:=i+1) (k:=xs.length) ht.2.1 (by omega)
 have h3:=ht.2.2
 have h4:=(ht.2.1 i hi).1
 have h5:=uh (xs:=xs) i
 rw [fJ] at h3
 have:runK xs i*1≤runK xs i*el xs i:=Int.mul_le_mul_of_nonneg_left h4.1 (by omega)
 omega
end
end Go.Bm
namespace Go.Bm
open Go Go.Am
section
variable {xs:List Int}
theorem aaq {x:Bool} {H:BH} {K:Value→BH→Prop} (ht:fM xs) (hK:K (I (gK xs xs.length)) H):aB x Vp [FI xs] H K:=by
 have hl:=ht.1
 refine bf (.cons .fz .nil) ?_
 refine aK Xi ?_;simp only [eU,aA]
 refine aG ?_
 refine aG ?_
 refine aG ?_
 refine aS (fun m f H'=> ∃i r,i≤xs.length∧m=xs.length-i∧(∀j,i=j+1→r=runK xs j)∧f 0=FI xs∧f 3=I (gK xs i)∧f 4=I r∧f 7=FI xs∧f 8=I xs.length∧f 9=I i∧H'=[]) (xs.length) ?_ ?_
 ·exact ⟨_,_,Gh.refl,0,0,by omega,by omega,fun j hj=>by omega,ah,ah,ah,ah,ah,ah,rfl⟩
 ·rintro m f H' R ⟨i,r,hi,rfl,hr,g0,g3,g4,g7,g8,g9,rfl⟩ hN hX hR hE
  simp only [eU.l0,aA]
  refine aC (aU @g8 @g9) ?_
  refine bP (i<xs.length) (fun hc=>?_) fun hc=>?_
  ·have hil:i<xs.length:=by assumption
   have hp:=aao ht (i:=i+1) (by omega)
   have hp0:=uj (xs:=xs) (i+1)
   have hrun:=JM ht hil
   have hrp:=uh (xs:=xs) i
   have ep:gK xs i*runK xs i=gK xs (i+1):=rfl
   have hgo: ∀f',f' 0=FI xs→f' 3=I (gK xs i)→f' 4=I (runK xs i)→f' 7=FI xs→f' 8=I xs.length→f' 9=I i→T 0 (.seq eU.r8 eU.r9) R f' []:=by
    clear g0 g3 g4 g7 g8 g9
    intro f' g0 g3 g4 g7 g8 g9
    refine aC (cO @g3 @g4 @ep) ?_
    refine dw @g9 ?_
    exact hN (xs.length-(i+1)) _ _ _ _ (by omega) Gh.refl ⟨i+1,runK xs i,by omega,rfl,fun j hj=>by
     obtain rfl:j=i:=by omega
     rfl,ah,ah,ah,ah,ah,ah,rfl⟩
   refine dL ?_
   refine aC (aU @g7 @g9) ?_
   cases i with
   |zero=>
    refine aG ?_
    refine jG ?_
    refine aG ?_
    exact hgo _ ah ah ah ah ah ah
   |succ i=>
    have e2:((i+1:Nat):Int)-1=(i:Int):=by omega
    have hr1:=hr i rfl
    subst hr1
    have aar:i<xs.length:=by omega
    have hri:=uh (xs:=xs) i
    have adJ:=JM ht aar
    by_cases he:el xs (i+1)=el xs i
    ·have e3:runK xs (i+1)=runK xs i+1:=by rw [runK,if_pos he]
     refine aC (cO @g0 @e2 @he) ?_
     refine pF ?_
     refine aC @g4 ?_
     exact hgo _ ah ah ah ah ah ah
    ·have e3:runK xs (i+1)=1:=by rw [runK,if_neg he]
     refine aC (cO @g0 @e2 @he) ?_
     refine jG ?_
     refine aG ?_
     exact hgo _ ah ah ah ah ah ah
  ·refine hX _ _ ?_
   obtain rfl:i=xs.length:=by omega
   refine aC @g3 ?_
   refine dG ?_
   exact ⟨.int,hK⟩
theorem aas {x:Bool} {H:BH} {K:Value→BH→Prop} (ht:fM xs) (hK:K (I (tK xs)) H):aB x U8 [FI xs] H K:=by
 have hl:=ht.1
 refine bf (.cons .fz .nil) ?_
 refine aK WR ?_;simp only [iK,aA]
 refine au fun Kr hKr=>?_;simp (disch:=omega) only [RA,↓reduceIte,Nat.reduceEqDiff,RD];refine hKr _ _ ?_;clear hKr Kr;(try simp only [RN,reduceIte]);try refine aj rfl ?_
 refine au fun Kr hKr=>?_;simp (disch:=omega) only [RA,↓reduceIte,Nat.reduceEqDiff,RD]
 refine aaq ht ?_
 simp (disch:=omega) only [RA,↓reduceIte,Nat.reduceEqDiff,RD]
 refine hKr _ _ ?_;clear hKr Kr;(try simp only [aH,aJ,aI]);(try simp only [RN,reduceIte]);try refine aj rfl ?_
 refine au fun Kr hKr=>?_;simp (disch:=omega) only [RA,↓reduceIte,Nat.reduceEqDiff,RD];refine hKr _ _ ?_;clear hKr Kr;(try simp only [RN,reduceIte]);try refine aj rfl ?_
 refine aS (fun m f H'=> ∃i,i≤xs.length∧m=xs.length-i∧f 3=I (gK xs xs.length*iD xs i)∧f 8=FI xs∧f 9=I xs.length∧f 10=I i∧H'=[]) (xs.length) ?_ ?_
 ·have e0:gK xs xs.length*iD xs 0=gK xs xs.length:=by simp [iD]
  exact ⟨_,_,Gh.refl,0,by omega,by omega,ah,ah,ah,ah,rfl⟩
 ·rintro m f H' R ⟨i,hi,rfl,g3,g8,g9,g10,rfl⟩ hN hX hR hE
  simp only [iK.l0,aA]
  refine au fun Kr hKr=>?_;simp (disch:=omega) only [RA,↓reduceIte,Nat.reduceEqDiff,RD,g9,g10];refine hKr _ _ ?_;clear hKr Kr;(try simp only [RN,reduceIte]);try refine aj rfl ?_
  refine bD (p:=i<xs.length) (by simp only [RA,↓reduceIte,Nat.reduceEqDiff]<;>rfl) (by (try simp only [RB])<;>first|done|exact Iff.rfl|omega|simp) (fun hc=>?_) (fun hc=>?_)<;>(try simp only [RN,reduceIte])<;>(try refine aj rfl ?_)
  ·have hil:i<xs.length:=by assumption
   have hp:=aap ht (i:=i+1) (by omega)
   have ep:gK xs xs.length*iD xs i*el xs i=gK xs xs.length*iD xs (i+1):=by rw [iD,Int.mul_assoc]
   (first|refine cZ rfl ?_|refine dh rfl ?_);(try simp only [RN,reduceIte]);try refine aj rfl ?_
   refine au fun Kr hKr=>?_;simp (disch:=omega) only [RA,↓reduceIte,Nat.reduceEqDiff,RD,g8,g10];refine hKr _ _ ?_;clear hKr Kr;(try simp only [RN,reduceIte]);try refine aj rfl ?_
   refine au fun Kr hKr=>?_;simp (disch:=omega) only [RA,↓reduceIte,Nat.reduceEqDiff,RD,g3,ep];refine hKr _ _ ?_;clear hKr Kr;(try simp only [RN,reduceIte]);try refine aj rfl ?_
   refine bK fun Kr hKr=>?_;simp (disch:=omega) only [RA,↓reduceIte,Nat.reduceEqDiff,RD,g10];refine hKr _ _ ?_;clear hKr Kr
   exact hN (xs.length-(i+1)) _ _ _ _ (by omega) Gh.refl ⟨i+1,by omega,rfl,ah,ah,ah,ah,rfl⟩
  ·refine hX _ _ ?_
   obtain rfl:i=xs.length:=by omega
   rw [tK,xE] at hK
   refine au fun Kr hKr=>?_;simp (disch:=omega) only [RA,↓reduceIte,Nat.reduceEqDiff,RD,g3];refine hKr _ _ ?_;clear hKr Kr;(try simp only [RN,reduceIte]);try refine aj rfl ?_
   refine aN (by simp (disch:=omega) only [RA,↓reduceIte,Nat.reduceEqDiff,RD,resAll,resOf];rfl) aF.refl ?_;simp only [tup]
   exact ⟨.int,hK⟩
end
end Go.Bm
namespace Go.Bm
open Go Go.Am
section
variable {code:List Nat} {H:BH} {K:Value→BH→Prop} {x:Bool}
variable (hl:code.length≤1048576) (hcd: ∀i,nl code i<256)
include hl hcd
end
end Go.Bm
set_option linter.unusedSectionVars false
namespace Go.Bm
open Go Go.Am
def l7 (p:List Nat) (t m:Nat):Nat→List Nat
 |0=>p
 |k+1=>(l7 p t m k).set (t+k) (t+(k+1)%m)
def elN (xs:List Int) (i:Nat):Nat:=(el xs i).toNat
def jW (xs:List Int):Nat→List Nat×Nat
 |0=>(fH,0)
 |i+1=>(l7 (jW xs i).1 (jW xs i).2 (elN xs i) (elN xs i),(jW xs i).2+elN xs i)
def std (xs:List Int):List Nat:=(jW xs xs.length).1
theorem Aw {p:List Nat} {t m k:Nat}:(l7 p t m k).length=p.length:=by
 induction k with
 |zero=>rfl
 |succ k ih=>rw [l7,List.length_set,ih]
theorem Az {p:List Nat} {t m k x:Nat} (hl:p.length=16) (h:t+k≤16):nl (l7 p t m k) x=if t≤x∧x<t+k then t+(x-t+1)%m else nl p x:=by
 induction k with
 |zero=>rw [l7,if_neg (by omega)]
 |succ k ih=>
  rw [l7,iR,Aw,hl,ih (by omega)]
  by_cases e:x=t+k
  ·subst e
   rw [if_pos ⟨rfl,by omega⟩,if_pos (by omega),show t+k-t+1=k+1 by omega]
  ·rw [if_neg (by omega)]
   by_cases h2:t≤x∧x<t+k
   ·rw [if_pos h2,if_pos (by omega)]
   ·rw [if_neg h2,if_neg (by omega)]
structure AA (p:List Nat) (t:Nat):Prop where
 len:p.length=16
 lt: ∀x,x<t→nl p x<t
 inj: ∀x y,x<t→y<t→nl p x=nl p y→x=y
 zero: ∀x,t≤x→nl p x=0
theorem AA.seg {p:List Nat} {t m:Nat} (h:AA p t) (hm:1≤m) (AB:t+m≤16):AA (l7 p t m m) (t+m):=by
 have hmod: ∀x,t≤x→x<t+m→(x-t+1)%m=if x-t+1=m then 0 else x-t+1:=fun x h1 h2=>mod_one (by omega)
 refine ⟨by rw [Aw,h.len],fun x hx=>?_,fun x y hx hy=>?_,fun x hx=>?_⟩
 ·rw [Az h.len AB]
  have:=Nat.mod_lt (x-t+1) (show 0<m by omega)
  by_cases h1:t≤x∧x<t+m
  ·rw [if_pos h1];omega
  ·rw [if_neg h1]
   have:=h.lt x (by omega)
   omega
 ·rw [Az h.len AB,Az h.len AB]
  have hx':=h.lt x
  have hy':=h.lt y
  by_cases h1:t≤x∧x<t+m<;>by_cases h2:t≤y∧y<t+m
  ·rw [if_pos h1,if_pos h2,hmod x h1.1 h1.2,hmod y h2.1 h2.2]
   intro e
   split at e<;>split at e<;>omega
  ·rw [if_pos h1,if_neg h2]
   intro e
   have:=hy' (by omega)
   omega
  ·rw [if_neg h1,if_pos h2]
   intro e
   have:=hx' (by omega)
   omega
  ·rw [if_neg h1,if_neg h2]
   exact h.inj x y (by omega) (by omega)
 ·rw [Az h.len AB,if_neg (by omega)]
  exact h.zero x (by omega)
section
variable {xs:List Int} (ht:fM xs)
include ht
theorem AL {i:Nat} (hi:i<xs.length):el xs i=(elN xs i:Int)∧1≤elN xs i∧elN xs i≤16:=by
 have:=(ht.2.1 i hi).1
 unfold elN
 omega
theorem JO {i:Nat} (hi:i≤xs.length):((jW xs i).2:Int)=dW xs i:=by
 induction i with
 |zero=>rfl
 |succ i ih=>
  have:=(AL ht (i:=i) (by omega)).1
  rw [jW,dW,←ih (by omega)]
  omega
theorem DY {i:Nat} (hi:i≤xs.length):(jW xs i).2≤16:=by
 have h1:=JO ht hi
 have h2:=xg (xs:=xs) (i:=i) (k:=xs.length) ht.2.1 hi
 have h3:=ht.2.2
 rw [fJ] at h3
 omega
theorem DZ {i:Nat} (hi:i≤xs.length):AA (jW xs i).1 (jW xs i).2:=by
 induction i with
 |zero=>exact ⟨jU,fun x hx=>absurd hx (Nat.not_lt_zero x),fun x y hx=>absurd hx (Nat.not_lt_zero x),fun x _=>JQ⟩
 |succ i ih=>
  have h1:=AL ht (i:=i) (by omega)
  have h2:=DY ht hi
  rw [jW] at h2⊢
  exact (ih (by omega)).seg h1.2.1 h2
theorem Zw {n:Nat} (hn:fJ xs=n):Perm (std xs) n∧By 16 (std xs)∧1≤n∧n≤16:=by
 have h:=DZ ht (Nat.le_refl xs.length)
 have h1:=JO ht (Nat.le_refl xs.length)
 have h2:=ht.pos
 have h3:=ht.2.2
 rw [fJ] at hn h2 h3
 have e:(jW xs xs.length).2=n:=by omega
 rw [e] at h
 have hn1:1≤n∧n≤16:=by omega
 have hp:Perm (std xs) n:= .of hn1 (fun i h1 h2=>h.zero i h1) h.lt (fun i j hi hj e=>by have:=h.inj j i (by omega) hi e;omega)
 exact ⟨hp,⟨h.len,fun i=>by have:=hp.jM h.len i;omega⟩,hn1⟩
theorem aat {x:Bool} {H:BH} {K:Value→BH→Prop} (hK:K (PL (std xs)) H):aB x U2 [FI xs] H K:=by
 have hl:=ht.1
 have hz:=jU
 refine bf (.cons .fz .nil) ?_
 refine aK WH ?_;simp only [dP,aA]
 refine au fun Kr hKr=>?_;simp (disch:=omega) only [RA,↓reduceIte,Nat.reduceEqDiff,Nat.reduceBEq,Nat.reduceSub,Nat.reduceAdd,Nat.reduceMul,Nat.reduceLT,Nat.reduceLeDiff,Int.reduceLE,Int.reduceLT,Int.reduceEq,Int.reduceNeg,Int.reduceToNat,Int.reduceMul,Int.reduceAdd,Int.reduceSub,Int.reduceBEq,Int.reduceBNe,reduceCtorEq,RD];refine hKr _ _ ?_;clear hKr Kr;(try simp only [RN,reduceIte]);try refine aj rfl ?_
 refine au fun Kr hKr=>?_;simp (disch:=omega) only [RA,↓reduceIte,Nat.reduceEqDiff,Nat.reduceBEq,Nat.reduceSub,Nat.reduceAdd,Nat.reduceMul,Nat.reduceLT,Nat.reduceLeDiff,Int.reduceLE,Int.reduceLT,Int.reduceEq,Int.reduceNeg,Int.reduceToNat,Int.reduceMul,Int.reduceAdd,Int.reduceSub,Int.reduceBEq,Int.reduceBNe,reduceCtorEq,RD];refine hKr _ _ ?_;clear hKr Kr;(try simp only [RN,reduceIte]);try refine aj rfl ?_
 refine au fun Kr hKr=>?_;simp (disch:=omega) only [RA,↓reduceIte,Nat.reduceEqDiff,Nat.reduceBEq,Nat.reduceSub,Nat.reduceAdd,Nat.reduceMul,Nat.reduceLT,Nat.reduceLeDiff,Int.reduceLE,Int.reduceLT,Int.reduceEq,Int.reduceNeg,Int.reduceToNat,Int.reduceMul,Int.reduceAdd,Int.reduceSub,Int.reduceBEq,Int.reduceBNe,reduceCtorEq,RD];refine hKr _ _ ?_;clear hKr Kr;(try simp only [RN,reduceIte]);try refine aj rfl ?_
 refine aS (fun m f H'=> ∃i p t,i≤xs.length∧m=xs.length-i∧jW xs i=(p,t)∧f 2=P 0 0∧f 3=P 1 0∧f 4=I t∧f 9=FI xs∧f 10=I xs.length∧f 11=I i∧H'=[some (List.replicate 16 (.int .u8 0)),some (p.map N8)]) (xs.length) ?_ ?_
 ·exact ⟨_,_,Gh.refl,0,fH,0,by omega,by omega,rfl,ah,ah,ah,ah,ah,ah,rfl⟩
 ·rintro m f H' R ⟨i,p,t,hi,rfl,hst,g2,g3,g4,g9,g10,g11,rfl⟩ hN hX hR hE
  simp only [dP.l1,aA]
  have hok:=DZ ht hi
  rw [hst] at hok
  have hlp:=hok.len
  refine au fun Kr hKr=>?_;simp (disch:=omega) only [RA,↓reduceIte,Nat.reduceEqDiff,Nat.reduceBEq,Nat.reduceSub,Nat.reduceAdd,Nat.reduceMul,Nat.reduceLT,Nat.reduceLeDiff,Int.reduceLE,Int.reduceLT,Int.reduceEq,Int.reduceNeg,Int.reduceToNat,Int.reduceMul,Int.reduceAdd,Int.reduceSub,Int.reduceBEq,Int.reduceBNe,reduceCtorEq,RD,g10,g11];refine hKr _ _ ?_;clear hKr Kr;(try simp only [RN,reduceIte]);try refine aj rfl ?_
  refine bD (p:=i<xs.length) (by simp only [RA,↓reduceIte,Nat.reduceEqDiff,Nat.reduceBEq,Nat.reduceSub,Nat.reduceAdd,Nat.reduceMul,Nat.reduceLT,Nat.reduceLeDiff,Int.reduceLE,Int.reduceLT,Int.reduceEq,Int.reduceNeg,Int.reduceToNat,Int.reduceMul,Int.reduceAdd,Int.reduceSub,Int.reduceBEq,Int.reduceBNe,reduceCtorEq]<;>rfl) (by (try simp only [RB])<;>first|done|exact Iff.rfl|omega|simp) (fun hc=>?_) (fun hc=>?_)<;>(try simp only [RN,reduceIte])<;>(try refine aj rfl ?_)
  ·have hil:i<xs.length:=by assumption
   obtain ⟨e0,e1,e2⟩:=AL ht hil
   have hle:=DY ht (i:=i+1) (by omega)
   have hst1:jW xs (i+1)=(l7 p t (elN xs i) (elN xs i),t+elN xs i):=by rw [jW,hst]
   rw [hst1] at hle
   generalize elN xs i=q at e0 e1 e2 hle hst1
   have hle':t+q≤16:=hle
   have hq0:(q:Int)≠0:=by omega
   (first|refine cZ rfl ?_|refine dh rfl ?_);(try simp only [RN,reduceIte]);try refine aj rfl ?_
   refine au fun Kr hKr=>?_;simp (disch:=omega) only [RA,↓reduceIte,Nat.reduceEqDiff,Nat.reduceBEq,Nat.reduceSub,Nat.reduceAdd,Nat.reduceMul,Nat.reduceLT,Nat.reduceLeDiff,Int.reduceLE,Int.reduceLT,Int.reduceEq,Int.reduceNeg,Int.reduceToNat,Int.reduceMul,Int.reduceAdd,Int.reduceSub,Int.reduceBEq,Int.reduceBNe,reduceCtorEq,RD,g9,g11];refine hKr _ _ ?_;clear hKr Kr;(try simp only [RN,reduceIte]);try refine aj rfl ?_
   refine au fun Kr hKr=>?_;simp (disch:=omega) only [RA,↓reduceIte,Nat.reduceEqDiff,Nat.reduceBEq,Nat.reduceSub,Nat.reduceAdd,Nat.reduceMul,Nat.reduceLT,Nat.reduceLeDiff,Int.reduceLE,Int.reduceLT,Int.reduceEq,Int.reduceNeg,Int.reduceToNat,Int.reduceMul,Int.reduceAdd,Int.reduceSub,Int.reduceBEq,Int.reduceBNe,reduceCtorEq,RD,e0];refine hKr _ _ ?_;clear hKr Kr;(try simp only [RN,reduceIte]);try refine aj rfl ?_
   refine aS (fun m f H'=> ∃j,j≤q∧m=q-j∧f 2=P 0 0∧f 3=P 1 0∧f 4=I t∧f 6=I q∧f 9=FI xs∧f 10=I xs.length∧f 11=I i∧f 15=I q∧f 16=I j∧H'=[some (List.replicate 16 (.int .u8 0)),some ((l7 p t q j).map N8)]) (q) ?_ ?_
   ·exact ⟨_,_,Gh.refl,0,by omega,by omega,ah,ah,ah,ah,ah,ah,ah,ah,ah,rfl⟩
   ·clear g2 g3 g4 g9 g10 g11
    rintro m f H' R1 ⟨j,hj,rfl,g2,g3,g4,g6,g9,g10,g11,g15,g16,rfl⟩ hN1 hX1 hR1 hE1
    simp only [dP.l0,aA]
    have hsl:= @Aw p t q j
    rw [hlp] at hsl
    refine au fun Kr hKr=>?_;simp (disch:=omega) only [RA,↓reduceIte,Nat.reduceEqDiff,Nat.reduceBEq,Nat.reduceSub,Nat.reduceAdd,Nat.reduceMul,Nat.reduceLT,Nat.reduceLeDiff,Int.reduceLE,Int.reduceLT,Int.reduceEq,Int.reduceNeg,Int.reduceToNat,Int.reduceMul,Int.reduceAdd,Int.reduceSub,Int.reduceBEq,Int.reduceBNe,reduceCtorEq,RD,g15,g16];refine hKr _ _ ?_;clear hKr Kr;(try simp only [RN,reduceIte]);try refine aj rfl ?_
    refine bD (p:=j<q) (by simp only [RA,↓reduceIte,Nat.reduceEqDiff,Nat.reduceBEq,Nat.reduceSub,Nat.reduceAdd,Nat.reduceMul,Nat.reduceLT,Nat.reduceLeDiff,Int.reduceLE,Int.reduceLT,Int.reduceEq,Int.reduceNeg,Int.reduceToNat,Int.reduceMul,Int.reduceAdd,Int.reduceSub,Int.reduceBEq,Int.reduceBNe,reduceCtorEq]<;>rfl) (by (try simp only [RB])<;>first|done|exact Iff.rfl|omega|simp) (fun hc=>?_) (fun hc=>?_)<;>(try simp only [RN,reduceIte])<;>(try refine aj rfl ?_)
    ·have hjq:j<q:=by assumption
     have hm:=Nat.mod_lt (j+1) (show 0<q by omega)
     have a1:((t:Nat):Int)+((j:Nat):Int)=((t+j:Nat):Int):=by omega
     have a2:((j:Nat):Int)+1=((j+1:Nat):Int):=by omega
     have a3:(((j+1:Nat):Int)).tmod (q:Int)=(((j+1)%q:Nat):Int):=Int.ofNat_tmod (j+1) q
     have a4:((t:Nat):Int)+(((j+1)%q:Nat):Int)=((t+(j+1)%q:Nat):Int):=by omega
     (first|refine cZ rfl ?_|refine dh rfl ?_);(try simp only [RN,reduceIte]);try refine aj rfl ?_
     refine au fun Kr hKr=>?_;simp (disch:=omega) only [RA,↓reduceIte,Nat.reduceEqDiff,Nat.reduceBEq,Nat.reduceSub,Nat.reduceAdd,Nat.reduceMul,Nat.reduceLT,Nat.reduceLeDiff,Int.reduceLE,Int.reduceLT,Int.reduceEq,Int.reduceNeg,Int.reduceToNat,Int.reduceMul,Int.reduceAdd,Int.reduceSub,Int.reduceBEq,Int.reduceBNe,reduceCtorEq,RD,g16];refine hKr _ _ ?_;clear hKr Kr;(try simp only [RN,reduceIte]);try refine aj rfl ?_
     refine au fun Kr hKr=>?_;simp (disch:=omega) only [RA,↓reduceIte,Nat.reduceEqDiff,Nat.reduceBEq,Nat.reduceSub,Nat.reduceAdd,Nat.reduceMul,Nat.reduceLT,Nat.reduceLeDiff,Int.reduceLE,Int.reduceLT,Int.reduceEq,Int.reduceNeg,Int.reduceToNat,Int.reduceMul,Int.reduceAdd,Int.reduceSub,Int.reduceBEq,Int.reduceBNe,reduceCtorEq,RD,g3,g4,g6,hsl,hq0,a1,a2,a3,a4];refine hKr _ _ ?_;clear hKr Kr;(try simp only [RN,reduceIte]);try refine aj rfl ?_
     refine bK fun Kr hKr=>?_;simp (disch:=omega) only [RA,↓reduceIte,Nat.reduceEqDiff,Nat.reduceBEq,Nat.reduceSub,Nat.reduceAdd,Nat.reduceMul,Nat.reduceLT,Nat.reduceLeDiff,Int.reduceLE,Int.reduceLT,Int.reduceEq,Int.reduceNeg,Int.reduceToNat,Int.reduceMul,Int.reduceAdd,Int.reduceSub,Int.reduceBEq,Int.reduceBNe,reduceCtorEq,RD,g16,a2];refine hKr _ _ ?_;clear hKr Kr
     exact hN1 (q-(j+1)) _ _ _ _ (by omega) Gh.refl ⟨j+1,by omega,rfl,ah,ah,ah,ah,ah,ah,ah,ah,ah,rfl⟩
    ·refine hX1 _ _ ?_
     obtain rfl:j=q:=by omega
     have a1:((t:Nat):Int)+((j:Nat):Int)=((t+j:Nat):Int):=by omega
     refine au fun Kr hKr=>?_;simp (disch:=omega) only [RA,↓reduceIte,Nat.reduceEqDiff,Nat.reduceBEq,Nat.reduceSub,Nat.reduceAdd,Nat.reduceMul,Nat.reduceLT,Nat.reduceLeDiff,Int.reduceLE,Int.reduceLT,Int.reduceEq,Int.reduceNeg,Int.reduceToNat,Int.reduceMul,Int.reduceAdd,Int.reduceSub,Int.reduceBEq,Int.reduceBNe,reduceCtorEq,RD,g4,g6,a1];refine hKr _ _ ?_;clear hKr Kr;(try simp only [RN,reduceIte]);try refine aj rfl ?_
     refine bK fun Kr hKr=>?_;simp (disch:=omega) only [RA,↓reduceIte,Nat.reduceEqDiff,Nat.reduceBEq,Nat.reduceSub,Nat.reduceAdd,Nat.reduceMul,Nat.reduceLT,Nat.reduceLeDiff,Int.reduceLE,Int.reduceLT,Int.reduceEq,Int.reduceNeg,Int.reduceToNat,Int.reduceMul,Int.reduceAdd,Int.reduceSub,Int.reduceBEq,Int.reduceBNe,reduceCtorEq,RD,g11];refine hKr _ _ ?_;clear hKr Kr
     exact hN (xs.length-(i+1)) _ _ _ _ (by omega) Gh.refl ⟨i+1,_,_,by omega,rfl,hst1,ah,ah,ah,ah,ah,ah,rfl⟩
  ·refine hX _ _ ?_
   obtain rfl:i=xs.length:=by omega
   have e:std xs=p:=by rw [std,hst]
   rw [e] at hK
   refine au fun Kr hKr=>?_;simp (disch:=omega) only [RA,↓reduceIte,Nat.reduceEqDiff,Nat.reduceBEq,Nat.reduceSub,Nat.reduceAdd,Nat.reduceMul,Nat.reduceLT,Nat.reduceLeDiff,Int.reduceLE,Int.reduceLT,Int.reduceEq,Int.reduceNeg,Int.reduceToNat,Int.reduceMul,Int.reduceAdd,Int.reduceSub,Int.reduceBEq,Int.reduceBNe,reduceCtorEq,RD,g2,g3,hlp];refine hKr _ _ ?_;clear hKr Kr;(try simp only [RN,reduceIte]);try refine aj rfl ?_
   refine aN (by simp (disch:=omega) only [RA,↓reduceIte,Nat.reduceEqDiff,Nat.reduceBEq,Nat.reduceSub,Nat.reduceAdd,Nat.reduceMul,Nat.reduceLT,Nat.reduceLeDiff,Int.reduceLE,Int.reduceLT,Int.reduceEq,Int.reduceNeg,Int.reduceToNat,Int.reduceMul,Int.reduceAdd,Int.reduceSub,Int.reduceBEq,Int.reduceBNe,reduceCtorEq,RD,resAll,resOf,g2,hlp];rfl) aF.refl ?_;simp only [tup]
   exact ⟨dV AO,hK⟩
theorem aau {x:Bool} {H:BH} {K:Value→BH→Prop} (hK:K (PL (std xs)) H):aB x UY [FI xs] H K:=by
 have hl:=ht.1
 have hz:=jU
 refine bf (.cons .fz .nil) ?_
 refine aK WA ?_;simp only [eF,aA]
 refine au fun Kr hKr=>?_;simp (disch:=omega) only [RA,↓reduceIte,Nat.reduceEqDiff,Nat.reduceBEq,Nat.reduceSub,Nat.reduceAdd,Nat.reduceMul,Nat.reduceLT,Nat.reduceLeDiff,Int.reduceLE,Int.reduceLT,Int.reduceEq,Int.reduceNeg,Int.reduceToNat,Int.reduceMul,Int.reduceAdd,Int.reduceSub,Int.reduceBEq,Int.reduceBNe,reduceCtorEq,RD];refine hKr _ _ ?_;clear hKr Kr;(try simp only [RN,reduceIte]);try refine aj rfl ?_
 refine au fun Kr hKr=>?_;simp (disch:=omega) only [RA,↓reduceIte,Nat.reduceEqDiff,Nat.reduceBEq,Nat.reduceSub,Nat.reduceAdd,Nat.reduceMul,Nat.reduceLT,Nat.reduceLeDiff,Int.reduceLE,Int.reduceLT,Int.reduceEq,Int.reduceNeg,Int.reduceToNat,Int.reduceMul,Int.reduceAdd,Int.reduceSub,Int.reduceBEq,Int.reduceBNe,reduceCtorEq,RD];refine hKr _ _ ?_;clear hKr Kr;(try simp only [RN,reduceIte]);try refine aj rfl ?_
 refine au fun Kr hKr=>?_;simp (disch:=omega) only [RA,↓reduceIte,Nat.reduceEqDiff,Nat.reduceBEq,Nat.reduceSub,Nat.reduceAdd,Nat.reduceMul,Nat.reduceLT,Nat.reduceLeDiff,Int.reduceLE,Int.reduceLT,Int.reduceEq,Int.reduceNeg,Int.reduceToNat,Int.reduceMul,Int.reduceAdd,Int.reduceSub,Int.reduceBEq,Int.reduceBNe,reduceCtorEq,RD];refine hKr _ _ ?_;clear hKr Kr;(try simp only [RN,reduceIte]);try refine aj rfl ?_
 refine aS (fun m f H'=> ∃i p t,i≤xs.length∧m=xs.length-i∧jW xs i=(p,t)∧f 0=FI xs∧f 2=P 0 0∧f 3=P 1 0∧f 4=I t∧f 5=I i∧H'=[some (List.replicate 16 (.int .u8 0)),some (p.map N8)]) (xs.length) ?_ ?_
 ·exact ⟨_,_,Gh.refl,0,fH,0,by omega,by omega,rfl,ah,ah,ah,ah,ah,rfl⟩
 ·rintro m f H' R ⟨i,p,t,hi,rfl,hst,g0,g2,g3,g4,g5,rfl⟩ hN hX hR hE
  simp only [eF.l1,aA]
  have hok:=DZ ht hi
  rw [hst] at hok
  have hlp:=hok.len
  refine au fun Kr hKr=>?_;simp (disch:=omega) only [RA,↓reduceIte,Nat.reduceEqDiff,Nat.reduceBEq,Nat.reduceSub,Nat.reduceAdd,Nat.reduceMul,Nat.reduceLT,Nat.reduceLeDiff,Int.reduceLE,Int.reduceLT,Int.reduceEq,Int.reduceNeg,Int.reduceToNat,Int.reduceMul,Int.reduceAdd,Int.reduceSub,Int.reduceBEq,Int.reduceBNe,reduceCtorEq,RD,g0,g5];refine hKr _ _ ?_;clear hKr Kr;(try simp only [RN,reduceIte]);try refine aj rfl ?_
  refine bD (p:=i<xs.length) (by simp only [RA,↓reduceIte,Nat.reduceEqDiff,Nat.reduceBEq,Nat.reduceSub,Nat.reduceAdd,Nat.reduceMul,Nat.reduceLT,Nat.reduceLeDiff,Int.reduceLE,Int.reduceLT,Int.reduceEq,Int.reduceNeg,Int.reduceToNat,Int.reduceMul,Int.reduceAdd,Int.reduceSub,Int.reduceBEq,Int.reduceBNe,reduceCtorEq]<;>rfl) (by (try simp only [RB])<;>first|done|exact Iff.rfl|omega|simp) (fun hc=>?_) (fun hc=>?_)<;>(try simp only [RN,reduceIte])<;>(try refine aj rfl ?_)
  ·have hil:i<xs.length:=by assumption
   obtain ⟨e0,e1,e2⟩:=AL ht hil
   have hle:=DY ht (i:=i+1) (by omega)
   have hst1:jW xs (i+1)=(l7 p t (elN xs i) (elN xs i),t+elN xs i):=by rw [jW,hst]
   rw [hst1] at hle
   generalize elN xs i=q at e0 e1 e2 hle hst1
   have hle':t+q≤16:=hle
   have hq0:(q:Int)≠0:=by omega
   (first|refine cZ rfl ?_|refine dh rfl ?_);(try simp only [RN,reduceIte]);try refine aj rfl ?_
   refine au fun Kr hKr=>?_;simp (disch:=omega) only [RA,↓reduceIte,Nat.reduceEqDiff,Nat.reduceBEq,Nat.reduceSub,Nat.reduceAdd,Nat.reduceMul,Nat.reduceLT,Nat.reduceLeDiff,Int.reduceLE,Int.reduceLT,Int.reduceEq,Int.reduceNeg,Int.reduceToNat,Int.reduceMul,Int.reduceAdd,Int.reduceSub,Int.reduceBEq,Int.reduceBNe,reduceCtorEq,RD];refine hKr _ _ ?_;clear hKr Kr;(try simp only [RN,reduceIte]);try refine aj rfl ?_
   refine aS (fun m f H'=> ∃j,j≤q∧m=q-j∧f 0=FI xs∧f 2=P 0 0∧f 3=P 1 0∧f 4=I t∧f 5=I i∧f 6=I j∧H'=[some (List.replicate 16 (.int .u8 0)),some ((l7 p t q j).map N8)]) (q) ?_ ?_
   ·exact ⟨_,_,Gh.refl,0,by omega,by omega,ah,ah,ah,ah,ah,ah,rfl⟩
   ·clear g0 g2 g3 g4 g5
    rintro m f H' R1 ⟨j,hj,rfl,g0,g2,g3,g4,g5,g6,rfl⟩ hN1 hX1 hR1 hE1
    simp only [eF.l0,aA]
    have hsl:= @Aw p t q j
    rw [hlp] at hsl
    refine au fun Kr hKr=>?_;simp (disch:=omega) only [RA,↓reduceIte,Nat.reduceEqDiff,Nat.reduceBEq,Nat.reduceSub,Nat.reduceAdd,Nat.reduceMul,Nat.reduceLT,Nat.reduceLeDiff,Int.reduceLE,Int.reduceLT,Int.reduceEq,Int.reduceNeg,Int.reduceToNat,Int.reduceMul,Int.reduceAdd,Int.reduceSub,Int.reduceBEq,Int.reduceBNe,reduceCtorEq,RD,g0,g5,g6,e0];refine hKr _ _ ?_;clear hKr Kr;(try simp only [RN,reduceIte]);try refine aj rfl ?_
    refine bD (p:=j<q) (by simp only [RA,↓reduceIte,Nat.reduceEqDiff,Nat.reduceBEq,Nat.reduceSub,Nat.reduceAdd,Nat.reduceMul,Nat.reduceLT,Nat.reduceLeDiff,Int.reduceLE,Int.reduceLT,Int.reduceEq,Int.reduceNeg,Int.reduceToNat,Int.reduceMul,Int.reduceAdd,Int.reduceSub,Int.reduceBEq,Int.reduceBNe,reduceCtorEq]<;>rfl) (by (try simp only [RB])<;>first|done|exact Iff.rfl|omega|simp) (fun hc=>?_) (fun hc=>?_)<;>(try simp only [RN,reduceIte])<;>(try refine aj rfl ?_)
    ·have hjq:j<q:=by assumption
     have hm:=Nat.mod_lt (j+1) (show 0<q by omega)
     have a1:((t:Nat):Int)+((j:Nat):Int)=((t+j:Nat):Int):=by omega
     have a2:((j:Nat):Int)+1=((j+1:Nat):Int):=by omega
     have a3:(((j+1:Nat):Int)).tmod (q:Int)=(((j+1)%q:Nat):Int):=Int.ofNat_tmod (j+1) q
     have a4:((t:Nat):Int)+(((j+1)%q:Nat):Int)=((t+(j+1)%q:Nat):Int):=by omega
     (first|refine cZ rfl ?_|refine dh rfl ?_);(try simp only [RN,reduceIte]);try refine aj rfl ?_
     refine au fun Kr hKr=>?_;simp (disch:=omega) only [RA,↓reduceIte,Nat.reduceEqDiff,Nat.reduceBEq,Nat.reduceSub,Nat.reduceAdd,Nat.reduceMul,Nat.reduceLT,Nat.reduceLeDiff,Int.reduceLE,Int.reduceLT,Int.reduceEq,Int.reduceNeg,Int.reduceToNat,Int.reduceMul,Int.reduceAdd,Int.reduceSub,Int.reduceBEq,Int.reduceBNe,reduceCtorEq,RD,g0,g3,g4,g5,g6,e0,hsl,hq0,a1,a2,a3,a4];refine hKr _ _ ?_;clear hKr Kr;(try simp only [RN,reduceIte]);try refine aj rfl ?_
     refine bK fun Kr hKr=>?_;simp (disch:=omega) only [RA,↓reduceIte,Nat.reduceEqDiff,Nat.reduceBEq,Nat.reduceSub,Nat.reduceAdd,Nat.reduceMul,Nat.reduceLT,Nat.reduceLeDiff,Int.reduceLE,Int.reduceLT,Int.reduceEq,Int.reduceNeg,Int.reduceToNat,Int.reduceMul,Int.reduceAdd,Int.reduceSub,Int.reduceBEq,Int.reduceBNe,reduceCtorEq,RD,g6,a2];refine hKr _ _ ?_;clear hKr Kr
     exact hN1 (q-(j+1)) _ _ _ _ (by omega) Gh.refl ⟨j+1,by omega,rfl,ah,ah,ah,ah,ah,ah,rfl⟩
    ·refine hX1 _ _ ?_
     obtain rfl:j=q:=by omega
     have a1:((t:Nat):Int)+((j:Nat):Int)=((t+j:Nat):Int):=by omega
     refine au fun Kr hKr=>?_;simp (disch:=omega) only [RA,↓reduceIte,Nat.reduceEqDiff,Nat.reduceBEq,Nat.reduceSub,Nat.reduceAdd,Nat.reduceMul,Nat.reduceLT,Nat.reduceLeDiff,Int.reduceLE,Int.reduceLT,Int.reduceEq,Int.reduceNeg,Int.reduceToNat,Int.reduceMul,Int.reduceAdd,Int.reduceSub,Int.reduceBEq,Int.reduceBNe,reduceCtorEq,RD,g0,g4,g5,e0,a1];refine hKr _ _ ?_;clear hKr Kr;(try simp only [RN,reduceIte]);try refine aj rfl ?_
     refine bK fun Kr hKr=>?_;simp (disch:=omega) only [RA,↓reduceIte,Nat.reduceEqDiff,Nat.reduceBEq,Nat.reduceSub,Nat.reduceAdd,Nat.reduceMul,Nat.reduceLT,Nat.reduceLeDiff,Int.reduceLE,Int.reduceLT,Int.reduceEq,Int.reduceNeg,Int.reduceToNat,Int.reduceMul,Int.reduceAdd,Int.reduceSub,Int.reduceBEq,Int.reduceBNe,reduceCtorEq,RD,g5];refine hKr _ _ ?_;clear hKr Kr
     exact hN (xs.length-(i+1)) _ _ _ _ (by omega) Gh.refl ⟨i+1,_,_,by omega,rfl,hst1,ah,ah,ah,ah,ah,rfl⟩
  ·refine hX _ _ ?_
   obtain rfl:i=xs.length:=by omega
   have e:std xs=p:=by rw [std,hst]
   rw [e] at hK
   refine au fun Kr hKr=>?_;simp (disch:=omega) only [RA,↓reduceIte,Nat.reduceEqDiff,Nat.reduceBEq,Nat.reduceSub,Nat.reduceAdd,Nat.reduceMul,Nat.reduceLT,Nat.reduceLeDiff,Int.reduceLE,Int.reduceLT,Int.reduceEq,Int.reduceNeg,Int.reduceToNat,Int.reduceMul,Int.reduceAdd,Int.reduceSub,Int.reduceBEq,Int.reduceBNe,reduceCtorEq,RD,g2,g3,hlp];refine hKr _ _ ?_;clear hKr Kr;(try simp only [RN,reduceIte]);try refine aj rfl ?_
   refine aN (by simp (disch:=omega) only [RA,↓reduceIte,Nat.reduceEqDiff,Nat.reduceBEq,Nat.reduceSub,Nat.reduceAdd,Nat.reduceMul,Nat.reduceLT,Nat.reduceLeDiff,Int.reduceLE,Int.reduceLT,Int.reduceEq,Int.reduceNeg,Int.reduceToNat,Int.reduceMul,Int.reduceAdd,Int.reduceSub,Int.reduceBEq,Int.reduceBNe,reduceCtorEq,RD,resAll,resOf,g2,hlp];rfl) aF.refl ?_;simp only [tup]
   exact ⟨dV AO,hK⟩
end
section
variable {x:Bool} {H:BH} {K:Value→BH→Prop}
theorem aav {n:Nat} (h1:1≤n) (hn:n≤16) (hK:K (I (gI n)) H):aB x U7 [I n] H K:=by
 have h16:=tN hn
 rw [JK] at h16
 refine bf (.cons .int .nil) ?_
 refine aK WQ ?_;simp only [jf,aA]
 refine aG ?_
 refine aG ?_
 refine aG ?_
 refine aS (fun m f H'=> ∃k,1≤k∧k≤n∧m=n-k∧f 0=I n∧f 3=I (gI k)∧f 4=I ((k+1:Nat):Int)∧H'=[]) (n-1) ?_ ?_
 ·have f1:gI 1=1:=rfl
  exact ⟨_,_,Gh.refl,1,by omega,h1,by omega,ah,ah,ah,rfl⟩
 ·rintro m f H' R ⟨k,hk1,hkn,rfl,g0,g3,g4,rfl⟩ hN hX hR hE
  simp only [jf.l0,aA]
  refine aC (aU @g0 @g4) ?_
  refine bP (k+1≤n) (fun hc=>?_) fun hc=>?_
  ·have JR:k+1≤n:=by assumption
   have e:gI k*((k+1:Nat):Int)=gI (k+1):=rfl
   have a1:((k+1:Nat):Int)+1=((k+1+1:Nat):Int):=by omega
   have b1:=tN JR
   have b2:=wO (k+1)
   refine dL ?_
   refine aC (cO @g3 @g4 @e) ?_
   refine dw (aU @g4 @a1) ?_
   exact hN (n-(k+1)) _ _ _ _ (by omega) Gh.refl ⟨k+1,by omega,JR,rfl,ah,ah,ah,rfl⟩
  ·refine hX _ _ ?_
   obtain rfl:k=n:=by omega
   refine aC @g3 ?_
   refine dG ?_
   exact ⟨.int,hK⟩
end
end Go.Bm
