/- DpKc, DpKd, DpKe, DpKf, DpQa, BmX, DpY, DpQc -/
import Derived.Test.YtbpfbfbabpkceaaGreatBmM
import Derived.Test.YtbpfbfbabpkceaaGreatBmS
import Derived.Test.YtbpfbfbabpkceaaGreatDpG0
import Derived.Test.YtbpfbfbabpkceaaGreatDpG1
import Derived.Test.YtbpfbfbabpkceaaGreatDpG2
import Derived.Test.YtbpfbfbabpkceaaGreatDpG3
set_option linter.unusedVariables false
set_option linter.unusedSimpArgs false
set_option linter.unusedSectionVars false
namespace Go.Bm
open Go Go.Am
section
variable {H:BH} {K:Value→BH→Prop} {x:Bool}
theorem II {xs ys:List Int} (hl:xs.length<4611686018427387904) (hl':ys.length<4611686018427387904) (hK:K (.bool (decide (xs=ys))) H):aB x VB [FI xs,FI ys] H K:=by
 refine bf (.cons .fz (.cons .fz .nil)) ?_
 refine aK Xw ?_;simp only [iq,aA]
 refine au fun Kr hKr=>?_;simp (disch:=omega) only [RA,↓reduceIte,Nat.reduceEqDiff,RD];refine hKr _ _ ?_;clear hKr Kr;(try simp only [RN,reduceIte]);try refine aj rfl ?_
 refine au fun Kr hKr=>?_;simp (disch:=omega) only [RA,↓reduceIte,Nat.reduceEqDiff,RD];refine hKr _ _ ?_;clear hKr Kr;(try simp only [RN,reduceIte]);try refine aj rfl ?_
 refine bD (p:= ¬xs.length=ys.length) (by simp only [RA,↓reduceIte,Nat.reduceEqDiff]<;>rfl) (by (try simp only [RB])<;>first|done|exact Iff.rfl|omega|simp) (fun hc=>?_) (fun hc=>?_)<;>(try simp only [RN,reduceIte])<;>(try refine aj rfl ?_)
 ·refine au fun Kr hKr=>?_;simp (disch:=omega) only [RA,↓reduceIte,Nat.reduceEqDiff,RD];refine hKr _ _ ?_;clear hKr Kr;(try simp only [RN,reduceIte]);try refine aj rfl ?_
  refine aN (by simp (disch:=omega) only [RA,↓reduceIte,Nat.reduceEqDiff,RD,resAll,resOf];rfl) aF.refl ?_;simp only [tup]
  rw [show decide (xs=ys)=false by simp;intro e;exact hc (by rw [e])] at hK
  exact ⟨.bool,hK⟩
 have hll:=Decidable.not_not.1 hc
 clear hc
 refine au fun Kr hKr=>?_;simp (disch:=omega) only [RA,↓reduceIte,Nat.reduceEqDiff,RD];refine hKr _ _ ?_;clear hKr Kr;(try simp only [RN,reduceIte]);try refine aj rfl ?_
 refine aS (fun m f H'=> ∃i,i≤xs.length∧m=xs.length-i∧(∀j,j<i→el xs j=el ys j)∧f 0=FI xs∧f 1=FI ys∧f 5=I i∧H'=[]) (xs.length) ?_ ?_
 ·exact ⟨_,_,Gh.refl,0,by omega,by omega,fun j hj=>by omega,ah,ah,ah,rfl⟩
 ·rintro m f H' R ⟨i,hi,rfl,he,g0,g1,g5,rfl⟩ hN hX hR hE
  simp only [iq.l0,aA]
  refine au fun Kr hKr=>?_;simp (disch:=omega) only [RA,↓reduceIte,Nat.reduceEqDiff,RD,g0,g5];refine hKr _ _ ?_;clear hKr Kr;(try simp only [RN,reduceIte]);try refine aj rfl ?_
  refine bD (p:=i<xs.length) (by simp only [RA,↓reduceIte,Nat.reduceEqDiff]<;>rfl) (by (try simp only [RB])<;>first|done|exact Iff.rfl|omega|simp) (fun hc=>?_) (fun hc=>?_)<;>(try simp only [RN,reduceIte])<;>(try refine aj rfl ?_)
  ·have hil:i<xs.length:=by assumption
   have IJ:i<ys.length:=by omega
   (first|refine cZ rfl ?_|refine dh rfl ?_);(try simp only [RN,reduceIte]);try refine aj rfl ?_
   refine au fun Kr hKr=>?_;simp (disch:=omega) only [RA,↓reduceIte,Nat.reduceEqDiff,RD,g0,g1,g5];refine hKr _ _ ?_;clear hKr Kr;(try simp only [RN,reduceIte]);try refine aj rfl ?_
   refine bD (p:= ¬el xs i=el ys i) (by simp only [RA,↓reduceIte,Nat.reduceEqDiff]<;>rfl) (by (try simp only [RB])<;>first|done|exact Iff.rfl|omega|simp) (fun hc=>?_) (fun hc=>?_)<;>(try simp only [RN,reduceIte])<;>(try refine aj rfl ?_)
   ·refine au fun Kr hKr=>?_;simp (disch:=omega) only [RA,↓reduceIte,Nat.reduceEqDiff,RD];refine hKr _ _ ?_;clear hKr Kr;(try simp only [RN,reduceIte]);try refine aj rfl ?_
    refine hR _ _ ?_
    refine aN (by simp (disch:=omega) only [RA,↓reduceIte,Nat.reduceEqDiff,RD,resAll,resOf];rfl) aF.refl ?_;simp only [tup]
    rw [show decide (xs=ys)=false by simp;intro e;exact hc (by rw [e])] at hK
    exact ⟨.bool,hK⟩
   have hee:=Decidable.not_not.1 hc
   refine bK fun Kr hKr=>?_;simp (disch:=omega) only [RA,↓reduceIte,Nat.reduceEqDiff,RD,g5];refine hKr _ _ ?_;clear hKr Kr
   have he': ∀j,j<i+1→el xs j=el ys j:=fun j hj=>by
    by_cases e:j=i
    ·rw [e];exact hee
    ·exact he j (by omega)
   exact hN (xs.length-(i+1)) _ _ _ _ (by omega) Gh.refl ⟨i+1,by omega,rfl,he',ah,ah,ah,rfl⟩
  ·refine hX _ _ ?_
   have e:xs=ys:=by
    apply List.ext_getElem hll
    intro j h1 h2
    have:=he j (by omega)
    simpa [el,List.getD,h1,h2] using this
   rw [show decide (xs=ys)=true by simp [e]] at hK
   refine au fun Kr hKr=>?_;simp (disch:=omega) only [RA,↓reduceIte,Nat.reduceEqDiff,RD];refine hKr _ _ ?_;clear hKr Kr;(try simp only [RN,reduceIte]);try refine aj rfl ?_
   refine aN (by simp (disch:=omega) only [RA,↓reduceIte,Nat.reduceEqDiff,RD,resAll,resOf];rfl) aF.refl ?_;simp only [tup]
   exact ⟨.bool,hK⟩
theorem IK {xs ys:List Int} (hl:xs.length<4611686018427387904) (hl':ys.length<4611686018427387904) (hK:K (.bool (decide (xs=ys))) H):aB x UW [FI xs,FI ys] H K:=by
 refine bf (.cons .fz (.cons .fz .nil)) ?_
 refine aK Wy ?_;simp only [fZ,aA]
 refine aG ?_
 refine aG ?_
 refine bP (¬xs.length=ys.length) (fun hc=>?_) fun hc=>?_
 ·refine aG ?_
  refine dG ?_
  rw [show decide (xs=ys)=false by simp;intro e;exact hc (by rw [e])] at hK
  exact ⟨.bool,hK⟩
 have hll:=Decidable.not_not.1 hc
 clear hc
 refine aG ?_
 refine aS (fun m f H'=> ∃i,i≤xs.length∧m=xs.length-i∧(∀j,j<i→el xs j=el ys j)∧f 0=FI xs∧f 1=FI ys∧f 12=I xs.length∧f 13=I i∧H'=[]) (xs.length) ?_ ?_
 ·exact ⟨_,_,Gh.refl,0,by omega,by omega,fun j hj=>by omega,ah,ah,ah,ah,rfl⟩
 ·rintro m f H' R ⟨i,hi,rfl,he,g0,g1,g12,g13,rfl⟩ hN hX hR hE
  simp only [fZ.l0,aA]
  refine aC (aU @g12 @g13) ?_
  refine bP (i<xs.length) (fun hc=>?_) fun hc=>?_
  ·have hil:i<xs.length:=by assumption
   have IJ:i<ys.length:=by omega
   refine dL ?_
   refine aC @g13 ?_
   refine aC (aU @g0 @g1) ?_
   refine bP (¬el xs i=el ys i) (fun hc=>?_) fun hc=>?_
   ·refine aG ?_
    refine hR _ _ ?_
    refine dG ?_
    rw [show decide (xs=ys)=false by simp;intro e;exact hc (by rw [e])] at hK
    exact ⟨.bool,hK⟩
   have hee:=Decidable.not_not.1 hc
   refine dw @g13 ?_
   have he': ∀j,j<i+1→el xs j=el ys j:=fun j hj=>by
    by_cases e:j=i
    ·rw [e];exact hee
    ·exact he j (by omega)
   exact hN (xs.length-(i+1)) _ _ _ _ (by omega) Gh.refl ⟨i+1,by omega,rfl,he',ah,ah,ah,ah,rfl⟩
  ·refine hX _ _ ?_
   have e:xs=ys:=by
    apply List.ext_getElem hll
    intro j h1 h2
    have:=he j (by omega)
    simpa [el,List.getD,h1,h2] using this
   rw [show decide (xs=ys)=true by simp [e]] at hK
   refine aG ?_
   refine dG ?_
   exact ⟨.bool,hK⟩
end
abbrev jT (p c:Int):List Value:=[I p,I c, .slice none 0 0, .bool false]
abbrev IL (p c:Int):Value:=aggL (jT p c)
def Dh (t1 t2:List Int) (black:List Nat) (n:Nat) (w:List Nat):Bool:=decide (kM (typ w n)=t1)&&decide (kM (typ (oW black w n) n)=t2)
def nV (t1 t2:List Int) (black:List Nat) (n:Nat) (w:List Nat):Bool:=Dh t1 t2 black n w&&decide (bY n black w)
section
variable {p c p' c':Int} {H:BH} {b:Nat}
theorem IQ:getN (some 4) (jT p c) 0=some (IL p c):=rfl
theorem IU:getN none (jT p c) 0=some (I p):=rfl
theorem IV:getN none (jT p c) 1=some (I c):=rfl
theorem IW:getN none (jT p c) 3=some (.bool false):=rfl
theorem IX:bQ (some (jT p c)) H b 0 4 (IL p' c')=some (undef,H.set b (some (jT p' c'))):=(lU (vs:=jT p' c') (n:=4) rfl rfl (by simp)).trans rfl
theorem IY {y:Int}:bQ (some (jT p c)) H b 0 1 (.int .i64 y)=some (undef,H.set b (some (jT y c))):=by rw [nX (by simp)];rfl
theorem IZ {y:Int}:bQ (some (jT p c)) H b 1 1 (.int .i64 y)=some (undef,H.set b (some (jT p y))):=by rw [nX (by simp)];rfl
theorem I4:fillL (jT 0 0) [(3,1, .bool false)]=some (jT 0 0):=rfl
end
theorem I5 {a b c d e:Value} {l:List Value}:frame0 (a::b::c::d::e::l) 4=e:=rfl
theorem I7 {a b c d e g:Value} {l:List Value}:frame0 (a::b::c::d::e::g::l) 5=g:=rfl
theorem R4:(type_of% @I5)∧(type_of% @I7)∧(type_of% @IQ)∧(type_of% @IU)∧(type_of% @IV)∧(type_of% @IW)∧(type_of% @IX)∧(type_of% @IY)∧(type_of% @IZ)∧(type_of% @I4):=⟨@I5, @I7, @IQ, @IU, @IV, @IW, @IX, @IY, @IZ, @I4⟩
section
variable {black:List Nat} {n:Nat} {xss:List (List Int)} {H:BH} {K:Value→BH→Prop} {x:Bool}
def dY:Nat→Nat
 |0=>1
 |m+1=>(m+1)*dY m
theorem Di {n:Nat}: ∀(m:Nat) {p:List Nat} {k:Nat},(sw n m p k).length=dY m
 |0,p,k=>rfl
 |m+1,p,k=>by
  have key: ∀l:List Nat,(l.flatMap fun d=>sw n m (lV p k (k+d)) (k+1)).length=l.length*dY m:=by
   intro l
   induction l with
   |nil=>simp
   |cons d l ih=>rw [List.flatMap_cons,List.length_append,ih,Di m,List.length_cons,Nat.add_mul];omega
  rw [sw,key,List.length_range,dY]
end
end Go.Bm
namespace Go.Bm
open Go Go.Am
def nP (xss:List (List Int)):Nat:=(fJ (at3 xss 0)).toNat
def tJ (xss:List (List Int)):Int:=(gI (nP xss)).tdiv (tK (at3 xss 0))
theorem Dj {m:Nat}: ∀{n:Nat},m≤n→dY m≤dY n
 |0,h=>by
  obtain rfl:m=0:=by omega
  exact Nat.le_refl _
 |n+1,h=>by
  by_cases e:m=n+1
  ·rw [e];exact Nat.le_refl _
  ·have ih:=Dj (m:=m) (n:=n) (by omega)
   have:1*dY n≤(n+1)*dY n:=Nat.mul_le_mul_right _ (by omega)
   rw [dY]
   omega
section
variable {xss:List (List Int)} (hp:jD xss)
include hp
theorem qy:fJ (at3 xss 0)=(nP xss:Int)∧1≤nP xss∧nP xss≤16:=by
 have t0:=(hp.2 0 (by omega)).1
 have h1:=t0.pos
 have h2:=t0.2.2
 unfold nP
 omega
theorem I8:Perm (std (at3 xss 0)) (nP xss)∧By 16 (std (at3 xss 0)):=by
 have h:=Zw (hp.2 0 (by omega)).1 (qy hp).1
 exact ⟨h.1,h.2.1⟩
theorem Zx (h8:nP xss≤8):0≤tJ xss∧tJ xss≤40320:=by
 have h1:=wO (nP xss)
 have h2:=tN h8
 have h3:gI 8=40320:=rfl
 have h4:=I9 (hp.2 0 (by omega)).1
 unfold tJ
 refine ⟨Int.tdiv_nonneg (by omega) (by omega),?_⟩
 rw [Int.tdiv_eq_ediv_of_nonneg (by omega)]
 exact Int.le_trans (Int.ediv_le_self _ (by omega)) (by omega)
end
section
variable {xss:List (List Int)} {H:BH} {K:Value→BH→Prop} {x:Bool}
theorem Ja (hl:xss.length≤1048576) (hll: ∀xs∈xss,xs.length≤1048576) (hK:K (I (if jD xss then if nP xss≤8 then 0 else 2 else 1)) H):aB x UH [dU xss] H K:=by
 refine bf (.cons .fz .nil) ?_
 refine aK V7 ?_;simp only [jY,aA]
 refine au fun Kr hKr=>?_;simp (disch:=omega) only [RA,↓reduceIte,Nat.reduceEqDiff,Nat.reduceBEq,Nat.reduceSub,Nat.reduceAdd,Nat.reduceMul,Nat.reduceLT,Nat.reduceLeDiff,Int.reduceLE,Int.reduceLT,Int.reduceEq,Int.reduceNeg,Int.reduceToNat,Int.reduceMul,Int.reduceAdd,Int.reduceSub,Int.reduceBEq,Int.reduceBNe,reduceCtorEq,RD];refine hKr _ _ ?_;clear hKr Kr;(try simp only [RN,reduceIte]);try refine aj rfl ?_
 (first|refine cZ rfl ?_|refine dh rfl ?_);(try simp only [RN,reduceIte]);try refine aj rfl ?_
 refine au fun Kr hKr=>?_;simp (disch:=omega) only [RA,↓reduceIte,Nat.reduceEqDiff,Nat.reduceBEq,Nat.reduceSub,Nat.reduceAdd,Nat.reduceMul,Nat.reduceLT,Nat.reduceLeDiff,Int.reduceLE,Int.reduceLT,Int.reduceEq,Int.reduceNeg,Int.reduceToNat,Int.reduceMul,Int.reduceAdd,Int.reduceSub,Int.reduceBEq,Int.reduceBNe,reduceCtorEq,RD]
 refine Zy hl hll ?_
 simp (disch:=omega) only [RA,↓reduceIte,Nat.reduceEqDiff,Nat.reduceBEq,Nat.reduceSub,Nat.reduceAdd,Nat.reduceMul,Nat.reduceLT,Nat.reduceLeDiff,Int.reduceLE,Int.reduceLT,Int.reduceEq,Int.reduceNeg,Int.reduceToNat,Int.reduceMul,Int.reduceAdd,Int.reduceSub,Int.reduceBEq,Int.reduceBNe,reduceCtorEq,RD]
 refine hKr _ _ ?_;clear hKr Kr;(try simp only [aH,aJ,aI]);(try simp only [RN,reduceIte]);try refine aj rfl ?_
 by_cases hp:jD xss
 ·obtain ⟨e1,e2,e3⟩:=qy hp
  have t0:=(hp.2 0 (by omega)).1
  have hg0:getN none (xss.map FI) 0=some (FI (at3 xss 0)):=mW (by have:=hp.1;omega)
  have h3:=hp.1
  rw [if_pos hp] at hK
  refine aQ (t:=false) (by simp (disch:=omega) only [RA,↓reduceIte,Nat.reduceEqDiff,Nat.reduceBEq,Nat.reduceSub,Nat.reduceAdd,Nat.reduceMul,Nat.reduceLT,Nat.reduceLeDiff,Int.reduceLE,Int.reduceLT,Int.reduceEq,Int.reduceNeg,Int.reduceToNat,Int.reduceMul,Int.reduceAdd,Int.reduceSub,Int.reduceBEq,Int.reduceBNe,reduceCtorEq,RD,decide_eq_true hp]) ?_;(try simp only [RN,reduceIte]);try refine aj rfl ?_
  refine au fun Kr hKr=>?_;simp (disch:=omega) only [RA,↓reduceIte,Nat.reduceEqDiff,Nat.reduceBEq,Nat.reduceSub,Nat.reduceAdd,Nat.reduceMul,Nat.reduceLT,Nat.reduceLeDiff,Int.reduceLE,Int.reduceLT,Int.reduceEq,Int.reduceNeg,Int.reduceToNat,Int.reduceMul,Int.reduceAdd,Int.reduceSub,Int.reduceBEq,Int.reduceBNe,reduceCtorEq,RD,hg0]
  refine wP t0.1.2 t0.2.1 ?_
  simp (disch:=omega) only [RA,↓reduceIte,Nat.reduceEqDiff,Nat.reduceBEq,Nat.reduceSub,Nat.reduceAdd,Nat.reduceMul,Nat.reduceLT,Nat.reduceLeDiff,Int.reduceLE,Int.reduceLT,Int.reduceEq,Int.reduceNeg,Int.reduceToNat,Int.reduceMul,Int.reduceAdd,Int.reduceSub,Int.reduceBEq,Int.reduceBNe,reduceCtorEq,RD,e1]
  refine hKr _ _ ?_;clear hKr Kr;(try simp only [aH,aJ,aI]);(try simp only [RN,reduceIte]);try refine aj rfl ?_
  by_cases h8:nP xss≤8
  ·rw [if_pos h8] at hK
   have e:decide ((8:Int)<(nP xss:Int))=false:=decide_eq_false (by omega)
   refine aQ (t:=false) (by simp (disch:=omega) only [RA,↓reduceIte,Nat.reduceEqDiff,Nat.reduceBEq,Nat.reduceSub,Nat.reduceAdd,Nat.reduceMul,Nat.reduceLT,Nat.reduceLeDiff,Int.reduceLE,Int.reduceLT,Int.reduceEq,Int.reduceNeg,Int.reduceToNat,Int.reduceMul,Int.reduceAdd,Int.reduceSub,Int.reduceBEq,Int.reduceBNe,reduceCtorEq,RD,e]) ?_;(try simp only [RN,reduceIte]);try refine aj rfl ?_
   refine au fun Kr hKr=>?_;simp (disch:=omega) only [RA,↓reduceIte,Nat.reduceEqDiff,Nat.reduceBEq,Nat.reduceSub,Nat.reduceAdd,Nat.reduceMul,Nat.reduceLT,Nat.reduceLeDiff,Int.reduceLE,Int.reduceLT,Int.reduceEq,Int.reduceNeg,Int.reduceToNat,Int.reduceMul,Int.reduceAdd,Int.reduceSub,Int.reduceBEq,Int.reduceBNe,reduceCtorEq,RD];refine hKr _ _ ?_;clear hKr Kr;(try simp only [RN,reduceIte]);try refine aj rfl ?_
   refine aN (by simp (disch:=omega) only [RA,↓reduceIte,Nat.reduceEqDiff,Nat.reduceBEq,Nat.reduceSub,Nat.reduceAdd,Nat.reduceMul,Nat.reduceLT,Nat.reduceLeDiff,Int.reduceLE,Int.reduceLT,Int.reduceEq,Int.reduceNeg,Int.reduceToNat,Int.reduceMul,Int.reduceAdd,Int.reduceSub,Int.reduceBEq,Int.reduceBNe,reduceCtorEq,RD,resAll,resOf];rfl) aF.refl ?_;simp only [tup]
   exact ⟨.int,hK⟩
  ·rw [if_neg h8] at hK
   have e:decide ((8:Int)<(nP xss:Int))=true:=decide_eq_true (by omega)
   refine aQ (t:=true) (by simp (disch:=omega) only [RA,↓reduceIte,Nat.reduceEqDiff,Nat.reduceBEq,Nat.reduceSub,Nat.reduceAdd,Nat.reduceMul,Nat.reduceLT,Nat.reduceLeDiff,Int.reduceLE,Int.reduceLT,Int.reduceEq,Int.reduceNeg,Int.reduceToNat,Int.reduceMul,Int.reduceAdd,Int.reduceSub,Int.reduceBEq,Int.reduceBNe,reduceCtorEq,RD,e]) ?_;(try simp only [RN,reduceIte]);try refine aj rfl ?_
   refine au fun Kr hKr=>?_;simp (disch:=omega) only [RA,↓reduceIte,Nat.reduceEqDiff,Nat.reduceBEq,Nat.reduceSub,Nat.reduceAdd,Nat.reduceMul,Nat.reduceLT,Nat.reduceLeDiff,Int.reduceLE,Int.reduceLT,Int.reduceEq,Int.reduceNeg,Int.reduceToNat,Int.reduceMul,Int.reduceAdd,Int.reduceSub,Int.reduceBEq,Int.reduceBNe,reduceCtorEq,RD];refine hKr _ _ ?_;clear hKr Kr;(try simp only [RN,reduceIte]);try refine aj rfl ?_
   refine aN (by simp (disch:=omega) only [RA,↓reduceIte,Nat.reduceEqDiff,Nat.reduceBEq,Nat.reduceSub,Nat.reduceAdd,Nat.reduceMul,Nat.reduceLT,Nat.reduceLeDiff,Int.reduceLE,Int.reduceLT,Int.reduceEq,Int.reduceNeg,Int.reduceToNat,Int.reduceMul,Int.reduceAdd,Int.reduceSub,Int.reduceBEq,Int.reduceBNe,reduceCtorEq,RD,resAll,resOf];rfl) aF.refl ?_;simp only [tup]
   exact ⟨.int,hK⟩
 ·rw [if_neg hp] at hK
  refine aQ (t:=true) (by simp (disch:=omega) only [RA,↓reduceIte,Nat.reduceEqDiff,Nat.reduceBEq,Nat.reduceSub,Nat.reduceAdd,Nat.reduceMul,Nat.reduceLT,Nat.reduceLeDiff,Int.reduceLE,Int.reduceLT,Int.reduceEq,Int.reduceNeg,Int.reduceToNat,Int.reduceMul,Int.reduceAdd,Int.reduceSub,Int.reduceBEq,Int.reduceBNe,reduceCtorEq,RD,decide_eq_false hp]) ?_;(try simp only [RN,reduceIte]);try refine aj rfl ?_
  refine au fun Kr hKr=>?_;simp (disch:=omega) only [RA,↓reduceIte,Nat.reduceEqDiff,Nat.reduceBEq,Nat.reduceSub,Nat.reduceAdd,Nat.reduceMul,Nat.reduceLT,Nat.reduceLeDiff,Int.reduceLE,Int.reduceLT,Int.reduceEq,Int.reduceNeg,Int.reduceToNat,Int.reduceMul,Int.reduceAdd,Int.reduceSub,Int.reduceBEq,Int.reduceBNe,reduceCtorEq,RD];refine hKr _ _ ?_;clear hKr Kr;(try simp only [RN,reduceIte]);try refine aj rfl ?_
  refine aN (by simp (disch:=omega) only [RA,↓reduceIte,Nat.reduceEqDiff,Nat.reduceBEq,Nat.reduceSub,Nat.reduceAdd,Nat.reduceMul,Nat.reduceLT,Nat.reduceLeDiff,Int.reduceLE,Int.reduceLT,Int.reduceEq,Int.reduceNeg,Int.reduceToNat,Int.reduceMul,Int.reduceAdd,Int.reduceSub,Int.reduceBEq,Int.reduceBNe,reduceCtorEq,RD,resAll,resOf];rfl) aF.refl ?_;simp only [tup]
  exact ⟨.int,hK⟩
end
end Go.Bm
namespace Go.Bm
open Go Go.Am
theorem Jb {Q:Ex→Fr→BH→Prop} {f:Fr} {H:BH} {k:Nat} {c:ACode} (h:T k (.seq c .skip) Q f H):T k c Q f H:=mX (fun _ _ _ _ _ h=>by
 cases h with
 |seqN ha hb=>cases hb;exact ha
 |seqX ha hne=>exact ha) h
def zW (v:Value) (k:Nat→Array Value→Prop):Prop:=
 match v with
 | .func (.func cap) ⟨[]⟩ caps=>k cap caps
 | _=>False
theorem qW {m:Nat} {caps:Array Value} {k:Nat→Array Value→Prop}:zW (.func (.func m) #[] caps) k=k m caps:=rfl
theorem qX {d t:Option Nat} {r:List AOper} {K:Fr→BH→Prop} {f:Fr} {H:BH} {g:Opd} {as:List Opd}:
  opsT d (⟨t, .callv g as,none⟩::r) K f H=zW (ev f g) fun cap caps=>aB (fU d) cap (as.map (ev f)++caps.toList) H (gU d t r K f):=by
 rw [opsT]
 simp only [qA]
 generalize ev f g=v
 cases v<;>try rfl
 rename_i fid first caps
 cases fid<;>try rfl
 obtain ⟨first⟩:=first
 cases first with
 |nil=>simp [zW];rfl
 |cons a l=>simp [zW]
abbrev clo (g:Nat) (caps:List Value):Value:= .func (.func g) #[] ⟨caps⟩
theorem Dk {ns:List Nat} {xs:List Nat}:(xs.map N8).map (ren ns)=xs.map N8:=by
 rw [List.map_map]
 exact List.map_congr_left fun x _=>rfl
theorem Zz {ns:List Nat} {xs:List Bool}:(xs.map B).map (ren ns)=xs.map B:=by
 rw [List.map_map]
 exact List.map_congr_left fun x _=>rfl
theorem zX {ns:List Nat} {g:Nat} {caps:List Value}:ren ns (clo g caps)=clo g (caps.map (oZ ns)):=by
 show Value.func (.func g) #[] ((⟨caps⟩:Array Value).map (oZ ns))=_
 rw [List.map_toArray]
theorem zY {k j:Nat} (h:j<k):(List.range k)[j]? =some j:=by rw [List.getElem?_range h]
section
variable {g1 n many:Nat} {xss:List (List Int)} {black p:List Nat} {used:List Bool}
end
section
variable {g1 n:Nat} {xss:List (List Int)} {black:List Nat} {d1:List Nat→Bool}
def Jc (g1 n:Nat) (black:List Nat) (d1:List Nat→Bool):Prop:=
 ∀(many:Nat) (w:List Nat) (H:BH) (K:Value→BH→Prop),PQ n w→many<1000000000→blk H 0=some [I many]→(∀ex,K (.tuple ⟨[]⟩) (H.set 0 (some [I ((many+if d1 w then 1 else 0:Nat):Int)])++ex))→aB false g1 [DV n black w,P 0 0] H K
theorem qY {l:List Value}:(⟨l⟩:Array Value).toList=l:=rfl
variable (hdo:Jc g1 n black d1) (hb:By 16 black) (hbp:Perm black n) (h3:xss.length=3) (hll: ∀xs∈xss,xs.length≤1048576)
include hdo hb hbp h3 hll
omit hdo hb hbp h3 hll in
theorem Jd {used:List Bool} {y:Nat} (h:bl used y=false):(used.set y true).set y false=used:=by
 apply List.ext_getElem?
 intro i
 rw [List.set_set,List.getElem?_set]
 by_cases e:y=i
 ·subst e
  rw [if_pos rfl]
  by_cases hl:y<used.length
  ·rw [if_pos hl,List.getElem?_eq_getElem hl]
   simp only [bl,List.getD,List.getElem?_eq_getElem hl,Option.getD_some] at h
   rw [h]
  ·rw [if_neg hl,List.getElem?_eq_none (by omega)]
 ·rw [if_neg e]
end
end Go.Bm
namespace Go.Bm
open Go Go.Am
theorem ZA {x:Bool} {n:Int} {b w:List Nat} {H:BH} {K:Value→BH→Prop} (hb:By 16 b) (hw:By 16 w) (h1:Perm b n) (h2:Perm w n) (hK:K (.bool (decide (bY n b w))) H):aB x U9 [DV n b w] H K:=by
 have hlb:=hb.len
 have fK:=hw.len
 refine bf (by simp only [RH]) ?_
 refine aK WT ?_;simp only [qj,aA]
 refine au fun Kr hKr=>?_;simp (disch:=omega) only [RA,↓reduceIte,Nat.reduceEqDiff,Nat.reduceBEq,Nat.reduceSub,Nat.reduceAdd,Nat.reduceMul,Nat.reduceLT,Nat.reduceLeDiff,Int.reduceLE,Int.reduceLT,Int.reduceEq,Int.reduceNeg,Int.reduceToNat,Int.reduceMul,Int.reduceAdd,Int.reduceSub,Int.reduceBEq,Int.reduceBNe,reduceCtorEq,RD];refine hKr _ _ ?_;clear hKr Kr;(try simp only [RN,reduceIte]);try refine aj rfl ?_
 refine au fun Kr hKr=>?_;simp (disch:=omega) only [RA,↓reduceIte,Nat.reduceEqDiff,Nat.reduceBEq,Nat.reduceSub,Nat.reduceAdd,Nat.reduceMul,Nat.reduceLT,Nat.reduceLeDiff,Int.reduceLE,Int.reduceLT,Int.reduceEq,Int.reduceNeg,Int.reduceToNat,Int.reduceMul,Int.reduceAdd,Int.reduceSub,Int.reduceBEq,Int.reduceBNe,reduceCtorEq,RD,mY,qZ,ru,ZB hlb fK]
 have h32:2*16=(b.map N8++w.map N8).length:=by simp [hlb,fK]
 refine ZC 1 rfl (by simp only [RH]) ?_;simp only [RZ,zZ h32]
 rw [ZE]
 refine ZF (by simp) (by simp [hlb,fK]) (by simp;exact ⟨h1.Aa hb.len,h2.Aa hw.len⟩) ?_
 simp (disch:=omega) only [RA,↓reduceIte,Nat.reduceEqDiff,Nat.reduceBEq,Nat.reduceSub,Nat.reduceAdd,Nat.reduceMul,Nat.reduceLT,Nat.reduceLeDiff,Int.reduceLE,Int.reduceLT,Int.reduceEq,Int.reduceNeg,Int.reduceToNat,Int.reduceMul,Int.reduceAdd,Int.reduceSub,Int.reduceBEq,Int.reduceBNe,reduceCtorEq,RD,mY]
 refine hKr _ _ ?_;clear hKr Kr;(try simp only [aH,aJ,aI]);(try simp only [RN,reduceIte]);try refine aj rfl ?_
 refine aN (by simp (disch:=omega) only [RA,↓reduceIte,Nat.reduceEqDiff,Nat.reduceBEq,Nat.reduceSub,Nat.reduceAdd,Nat.reduceMul,Nat.reduceLT,Nat.reduceLeDiff,Int.reduceLE,Int.reduceLT,Int.reduceEq,Int.reduceNeg,Int.reduceToNat,Int.reduceMul,Int.reduceAdd,Int.reduceSub,Int.reduceBEq,Int.reduceBNe,reduceCtorEq,RD,resAll,resOf];rfl) aF.refl ?_;simp only [tup]
 exact ⟨NN.bool,by simpa [bY,h1,h2,reach] using hK⟩
theorem Je {H:BH} {c:Option (List Value)}:blk (H++[c]) H.length=c:=by rw [o7,if_pos rfl]
section
variable {n:Nat} {black:List Nat}
end
section
variable {g1 n:Nat} {xss:List (List Int)} {black:List Nat} {d1:List Nat→Bool}
variable (hdo:Jc g1 n black d1) (hb:By 16 black) (hbp:Perm black n) (h3:xss.length=3) (hll: ∀xs∈xss,xs.length≤1048576)
include hdo hb hbp h3 hll
end
section
variable {g1:Nat} {xss:List (List Int)} {d1:List Nat→Bool}
end
section
variable {xss:List (List Int)} {H:BH} {K:Value→BH→Prop} {x:Bool}
theorem ZG (hl:xss.length≤1048576) (hll: ∀xs∈xss,xs.length≤1048576) (hK:K (I (if jD xss then if nP xss≤8 then 0 else 2 else 1)) H):aB x UK [dU xss] H K:=by
 refine bf (.cons .fz .nil) ?_
 refine aK Wh ?_;simp only [jJ,aA]
 refine au fun Kr hKr=>?_;simp (disch:=omega) only [RA,↓reduceIte,Nat.reduceEqDiff,Nat.reduceBEq,Nat.reduceSub,Nat.reduceAdd,Nat.reduceMul,Nat.reduceLT,Nat.reduceLeDiff,Int.reduceLE,Int.reduceLT,Int.reduceEq,Int.reduceNeg,Int.reduceToNat,Int.reduceMul,Int.reduceAdd,Int.reduceSub,Int.reduceBEq,Int.reduceBNe,reduceCtorEq,RD];refine hKr _ _ ?_;clear hKr Kr;(try simp only [RN,reduceIte]);try refine aj rfl ?_
 refine au fun Kr hKr=>?_;simp (disch:=omega) only [RA,↓reduceIte,Nat.reduceEqDiff,Nat.reduceBEq,Nat.reduceSub,Nat.reduceAdd,Nat.reduceMul,Nat.reduceLT,Nat.reduceLeDiff,Int.reduceLE,Int.reduceLT,Int.reduceEq,Int.reduceNeg,Int.reduceToNat,Int.reduceMul,Int.reduceAdd,Int.reduceSub,Int.reduceBEq,Int.reduceBNe,reduceCtorEq,RD]
 refine Jf hl hll ?_
 simp (disch:=omega) only [RA,↓reduceIte,Nat.reduceEqDiff,Nat.reduceBEq,Nat.reduceSub,Nat.reduceAdd,Nat.reduceMul,Nat.reduceLT,Nat.reduceLeDiff,Int.reduceLE,Int.reduceLT,Int.reduceEq,Int.reduceNeg,Int.reduceToNat,Int.reduceMul,Int.reduceAdd,Int.reduceSub,Int.reduceBEq,Int.reduceBNe,reduceCtorEq,RD]
 refine hKr _ _ ?_;clear hKr Kr;(try simp only [aH,aJ,aI]);(try simp only [RN,reduceIte]);try refine aj rfl ?_
 (first|refine cZ rfl ?_|refine dh rfl ?_);(try simp only [RN,reduceIte]);try refine aj rfl ?_
 by_cases hp:jD xss
 ·obtain ⟨e1,e2,e3⟩:=qy hp
  have hps:nY xss=(nP xss:Int):=by rw [nY,if_pos hp,e1]
  have hne: ¬(nP xss:Int)=0:=by omega
  rw [if_pos hp] at hK
  refine au fun Kr hKr=>?_;simp (disch:=omega) only [RA,↓reduceIte,Nat.reduceEqDiff,Nat.reduceBEq,Nat.reduceSub,Nat.reduceAdd,Nat.reduceMul,Nat.reduceLT,Nat.reduceLeDiff,Int.reduceLE,Int.reduceLT,Int.reduceEq,Int.reduceNeg,Int.reduceToNat,Int.reduceMul,Int.reduceAdd,Int.reduceSub,Int.reduceBEq,Int.reduceBNe,reduceCtorEq,RD,hps,hne];refine hKr _ _ ?_;clear hKr Kr;(try simp only [RN,reduceIte]);try refine aj rfl ?_
  refine aQ (t:=false) (by simp (disch:=omega) only [RA,↓reduceIte,Nat.reduceEqDiff,Nat.reduceBEq,Nat.reduceSub,Nat.reduceAdd,Nat.reduceMul,Nat.reduceLT,Nat.reduceLeDiff,Int.reduceLE,Int.reduceLT,Int.reduceEq,Int.reduceNeg,Int.reduceToNat,Int.reduceMul,Int.reduceAdd,Int.reduceSub,Int.reduceBEq,Int.reduceBNe,reduceCtorEq,RD]) ?_;(try simp only [RN,reduceIte]);try refine aj rfl ?_
  by_cases h8:nP xss≤8
  ·rw [if_pos h8] at hK
   have e:decide ((8:Int)<(nP xss:Int))=false:=decide_eq_false (by omega)
   refine au fun Kr hKr=>?_;simp (disch:=omega) only [RA,↓reduceIte,Nat.reduceEqDiff,Nat.reduceBEq,Nat.reduceSub,Nat.reduceAdd,Nat.reduceMul,Nat.reduceLT,Nat.reduceLeDiff,Int.reduceLE,Int.reduceLT,Int.reduceEq,Int.reduceNeg,Int.reduceToNat,Int.reduceMul,Int.reduceAdd,Int.reduceSub,Int.reduceBEq,Int.reduceBNe,reduceCtorEq,RD,hps];refine hKr _ _ ?_;clear hKr Kr;(try simp only [RN,reduceIte]);try refine aj rfl ?_
   refine aQ (t:=false) (by simp (disch:=omega) only [RA,↓reduceIte,Nat.reduceEqDiff,Nat.reduceBEq,Nat.reduceSub,Nat.reduceAdd,Nat.reduceMul,Nat.reduceLT,Nat.reduceLeDiff,Int.reduceLE,Int.reduceLT,Int.reduceEq,Int.reduceNeg,Int.reduceToNat,Int.reduceMul,Int.reduceAdd,Int.reduceSub,Int.reduceBEq,Int.reduceBNe,reduceCtorEq,RD,e]) ?_;(try simp only [RN,reduceIte]);try refine aj rfl ?_
   refine au fun Kr hKr=>?_;simp (disch:=omega) only [RA,↓reduceIte,Nat.reduceEqDiff,Nat.reduceBEq,Nat.reduceSub,Nat.reduceAdd,Nat.reduceMul,Nat.reduceLT,Nat.reduceLeDiff,Int.reduceLE,Int.reduceLT,Int.reduceEq,Int.reduceNeg,Int.reduceToNat,Int.reduceMul,Int.reduceAdd,Int.reduceSub,Int.reduceBEq,Int.reduceBNe,reduceCtorEq,RD];refine hKr _ _ ?_;clear hKr Kr;(try simp only [RN,reduceIte]);try refine aj rfl ?_
   refine aN (by simp (disch:=omega) only [RA,↓reduceIte,Nat.reduceEqDiff,Nat.reduceBEq,Nat.reduceSub,Nat.reduceAdd,Nat.reduceMul,Nat.reduceLT,Nat.reduceLeDiff,Int.reduceLE,Int.reduceLT,Int.reduceEq,Int.reduceNeg,Int.reduceToNat,Int.reduceMul,Int.reduceAdd,Int.reduceSub,Int.reduceBEq,Int.reduceBNe,reduceCtorEq,RD,resAll,resOf];rfl) aF.refl ?_;simp only [tup]
   exact ⟨.int,hK⟩
  ·rw [if_neg h8] at hK
   have e:decide ((8:Int)<(nP xss:Int))=true:=decide_eq_true (by omega)
   refine au fun Kr hKr=>?_;simp (disch:=omega) only [RA,↓reduceIte,Nat.reduceEqDiff,Nat.reduceBEq,Nat.reduceSub,Nat.reduceAdd,Nat.reduceMul,Nat.reduceLT,Nat.reduceLeDiff,Int.reduceLE,Int.reduceLT,Int.reduceEq,Int.reduceNeg,Int.reduceToNat,Int.reduceMul,Int.reduceAdd,Int.reduceSub,Int.reduceBEq,Int.reduceBNe,reduceCtorEq,RD,hps];refine hKr _ _ ?_;clear hKr Kr;(try simp only [RN,reduceIte]);try refine aj rfl ?_
   refine aQ (t:=true) (by simp (disch:=omega) only [RA,↓reduceIte,Nat.reduceEqDiff,Nat.reduceBEq,Nat.reduceSub,Nat.reduceAdd,Nat.reduceMul,Nat.reduceLT,Nat.reduceLeDiff,Int.reduceLE,Int.reduceLT,Int.reduceEq,Int.reduceNeg,Int.reduceToNat,Int.reduceMul,Int.reduceAdd,Int.reduceSub,Int.reduceBEq,Int.reduceBNe,reduceCtorEq,RD,e]) ?_;(try simp only [RN,reduceIte]);try refine aj rfl ?_
   refine au fun Kr hKr=>?_;simp (disch:=omega) only [RA,↓reduceIte,Nat.reduceEqDiff,Nat.reduceBEq,Nat.reduceSub,Nat.reduceAdd,Nat.reduceMul,Nat.reduceLT,Nat.reduceLeDiff,Int.reduceLE,Int.reduceLT,Int.reduceEq,Int.reduceNeg,Int.reduceToNat,Int.reduceMul,Int.reduceAdd,Int.reduceSub,Int.reduceBEq,Int.reduceBNe,reduceCtorEq,RD];refine hKr _ _ ?_;clear hKr Kr;(try simp only [RN,reduceIte]);try refine aj rfl ?_
   refine aN (by simp (disch:=omega) only [RA,↓reduceIte,Nat.reduceEqDiff,Nat.reduceBEq,Nat.reduceSub,Nat.reduceAdd,Nat.reduceMul,Nat.reduceLT,Nat.reduceLeDiff,Int.reduceLE,Int.reduceLT,Int.reduceEq,Int.reduceNeg,Int.reduceToNat,Int.reduceMul,Int.reduceAdd,Int.reduceSub,Int.reduceBEq,Int.reduceBNe,reduceCtorEq,RD,resAll,resOf];rfl) aF.refl ?_;simp only [tup]
   exact ⟨.int,hK⟩
 ·have hps:nY xss=0:=by rw [nY,if_neg hp]
  rw [if_neg hp] at hK
  refine au fun Kr hKr=>?_;simp (disch:=omega) only [RA,↓reduceIte,Nat.reduceEqDiff,Nat.reduceBEq,Nat.reduceSub,Nat.reduceAdd,Nat.reduceMul,Nat.reduceLT,Nat.reduceLeDiff,Int.reduceLE,Int.reduceLT,Int.reduceEq,Int.reduceNeg,Int.reduceToNat,Int.reduceMul,Int.reduceAdd,Int.reduceSub,Int.reduceBEq,Int.reduceBNe,reduceCtorEq,RD,hps];refine hKr _ _ ?_;clear hKr Kr;(try simp only [RN,reduceIte]);try refine aj rfl ?_
  refine aQ (t:=true) (by simp (disch:=omega) only [RA,↓reduceIte,Nat.reduceEqDiff,Nat.reduceBEq,Nat.reduceSub,Nat.reduceAdd,Nat.reduceMul,Nat.reduceLT,Nat.reduceLeDiff,Int.reduceLE,Int.reduceLT,Int.reduceEq,Int.reduceNeg,Int.reduceToNat,Int.reduceMul,Int.reduceAdd,Int.reduceSub,Int.reduceBEq,Int.reduceBNe,reduceCtorEq,RD]) ?_;(try simp only [RN,reduceIte]);try refine aj rfl ?_
  refine au fun Kr hKr=>?_;simp (disch:=omega) only [RA,↓reduceIte,Nat.reduceEqDiff,Nat.reduceBEq,Nat.reduceSub,Nat.reduceAdd,Nat.reduceMul,Nat.reduceLT,Nat.reduceLeDiff,Int.reduceLE,Int.reduceLT,Int.reduceEq,Int.reduceNeg,Int.reduceToNat,Int.reduceMul,Int.reduceAdd,Int.reduceSub,Int.reduceBEq,Int.reduceBNe,reduceCtorEq,RD];refine hKr _ _ ?_;clear hKr Kr;(try simp only [RN,reduceIte]);try refine aj rfl ?_
  refine aN (by simp (disch:=omega) only [RA,↓reduceIte,Nat.reduceEqDiff,Nat.reduceBEq,Nat.reduceSub,Nat.reduceAdd,Nat.reduceMul,Nat.reduceLT,Nat.reduceLeDiff,Int.reduceLE,Int.reduceLT,Int.reduceEq,Int.reduceNeg,Int.reduceToNat,Int.reduceMul,Int.reduceAdd,Int.reduceSub,Int.reduceBEq,Int.reduceBNe,reduceCtorEq,RD,resAll,resOf];rfl) aF.refl ?_;simp only [tup]
  exact ⟨.int,hK⟩
end
end Go.Bm
namespace Go.Bm.Q5
open Go Go.Am Go.Bm
def nZ:Value:=clo zM [P 5 0,P 6 0,P 7 0,P 8 0,P 9 0]
def PM {σ:Type} (B0 B1 B2 B3 B4:σ→Option (List Value)) (s:σ):BH:=[B0 s,B1 s,B2 s,B3 s,B4 s]
def EM {σ:Type} (B0 B1 B2 B3 B4:σ→Option (List Value)) (g1:Nat) (caps:List Value) (n:Nat) (s:σ) (p:List Nat) (used:List Bool):BH:=
 [B0 s,B1 s,B2 s,B3 s,B4 s,some [I n],some [clo g1 caps],some (p.map N8),some (used.map B),some [nZ]]
section
variable {σ:Type} {B0 B1 B2 B3 B4:σ→Option (List Value)} {g1 n:Nat} {caps:List Value} {step:σ→List Nat→σ}
theorem Dl (hr: ∀s,kN (List.range 5) (PM B0 B1 B2 B3 B4 s)=PM B0 B1 B2 B3 B4 s) {s:σ} {p:List Nat} {used:List Bool}:kN (List.range 5) (EM B0 B1 B2 B3 B4 g1 caps n s p used)=PM B0 B1 B2 B3 B4 s:=by
 rw [←hr s]
 rfl
def Ac (B0 B1 B2 B3 B4:σ→Option (List Value)) (g1:Nat) (caps:List Value) (n:Nat) (step:σ→List Nat→σ):Prop:=
 ∀(s:σ) (w p:List Nat) (used:List Bool) (K:Value→BH→Prop),PQ n w→K (.tuple ⟨[]⟩) (EM B0 B1 B2 B3 B4 g1 caps n (step s w) p used)→aB false g1 (PL w::caps) (EM B0 B1 B2 B3 B4 g1 caps n s p used) K
variable (hdo:Ac B0 B1 B2 B3 B4 g1 caps n step)
include hdo
theorem Dn (hn0:1≤n) (wQ:n≤8): ∀(m:Nat) {i:Nat} {pre p:List Nat} {used:List Bool} {s:σ} {K:Value→BH→Prop},i=pre.length→i+m=n→o8 n pre→p.length=16→p.take i=pre→(∀j,n≤j→nl p j=0)→(∀j,nl p j<256)→
  used.length=16→(∀y,y<n→bl used y=decide (y∈pre))→
  (∀p',p'.length=16→p'.take i=pre→(∀j,n≤j→nl p' j=0)→(∀j,nl p' j<256)→K (.tuple ⟨[]⟩) (EM B0 B1 B2 B3 B4 g1 caps n ((lv n m pre).foldl step s) p' used))→
  aB false zM [I i,P 5 0,P 6 0,P 7 0,P 8 0,P 9 0] (EM B0 B1 B2 B3 B4 g1 caps n s p used) K:=by
 have gone: ∀{v:Value},getN none [v] 0=some v:=rfl
 intro m
 induction m with
 |zero=>
  intro i pre p used s K hi him hpre hlp htk hz hlt mZ hus hK
  obtain rfl:i=n:=by omega
  have hpq:PQ i p:=by
   have:p∈lv i 0 pre:=by
    rw [lv,List.mem_singleton]
    refine qB (by rw [hlp,Ad (by omega)]) fun j hj=>?_
    rw [rC]
    by_cases hjn:j<pre.length
    ·rw [if_pos hjn,←htk]
     simp [nl,List.getD,List.getElem?_take,show j<i by omega]
    ·rw [if_neg hjn]
     exact hz j (by omega)
   exact ((o9 (by omega) 0 hpre (by omega) p).1 this).1
  have Dp:lv i 0 pre=[p]:=by
   have:p∈lv i 0 pre:=(o9 (by omega) 0 hpre (by omega) p).2 ⟨hpq,by rw [←hi];exact htk⟩
   rw [lv,List.mem_singleton] at this
   rw [lv,this]
  have wR:=hK p hlp htk hz hlt
  rw [Dp,List.foldl_cons,List.foldl_nil] at wR
  refine aK zN ?_;simp only [dS,aA]
  unfold EM
  refine au fun Kr hKr=>?_;simp (disch:=omega) only [RA,↓reduceIte,Nat.reduceEqDiff,Nat.reduceBEq,Nat.reduceSub,Nat.reduceAdd,Nat.reduceMul,Nat.reduceLT,Nat.reduceLeDiff,Int.reduceLE,Int.reduceLT,Int.reduceEq,Int.reduceNeg,Int.reduceToNat,Int.reduceMul,Int.reduceAdd,Int.reduceSub,Int.reduceBEq,Int.reduceBNe,reduceCtorEq,RD,R4,gone];refine hKr _ _ ?_;clear hKr Kr;(try simp only [RN,reduceIte]);try refine aj rfl ?_
  refine aQ (t:=true) (by simp (disch:=omega) only [RA,↓reduceIte,Nat.reduceEqDiff,Nat.reduceBEq,Nat.reduceSub,Nat.reduceAdd,Nat.reduceMul,Nat.reduceLT,Nat.reduceLeDiff,Int.reduceLE,Int.reduceLT,Int.reduceEq,Int.reduceNeg,Int.reduceToNat,Int.reduceMul,Int.reduceAdd,Int.reduceSub,Int.reduceBEq,Int.reduceBNe,reduceCtorEq,RD]) ?_;(try simp only [RN,reduceIte]);try refine aj rfl ?_
  refine au fun Kr hKr=>?_;simp (disch:=omega) only [RA,↓reduceIte,Nat.reduceEqDiff,Nat.reduceBEq,Nat.reduceSub,Nat.reduceAdd,Nat.reduceMul,Nat.reduceLT,Nat.reduceLeDiff,Int.reduceLE,Int.reduceLT,Int.reduceEq,Int.reduceNeg,Int.reduceToNat,Int.reduceMul,Int.reduceAdd,Int.reduceSub,Int.reduceBEq,Int.reduceBNe,reduceCtorEq,RD,R4,gone,hlp,qX,qW,qY]
  refine hdo s p p used _ hpq ?_
  unfold EM
  simp (disch:=omega) only [RA,↓reduceIte,Nat.reduceEqDiff,Nat.reduceBEq,Nat.reduceSub,Nat.reduceAdd,Nat.reduceMul,Nat.reduceLT,Nat.reduceLeDiff,Int.reduceLE,Int.reduceLT,Int.reduceEq,Int.reduceNeg,Int.reduceToNat,Int.reduceMul,Int.reduceAdd,Int.reduceSub,Int.reduceBEq,Int.reduceBNe,reduceCtorEq,RD]
  refine hKr _ _ ?_;clear hKr Kr;(try simp only [aH,aJ,aI]);(try simp only [RN,reduceIte]);try refine aj rfl ?_
  refine aN (by simp (disch:=omega) only [RA,↓reduceIte,Nat.reduceEqDiff,Nat.reduceBEq,Nat.reduceSub,Nat.reduceAdd,Nat.reduceMul,Nat.reduceLT,Nat.reduceLeDiff,Int.reduceLE,Int.reduceLT,Int.reduceEq,Int.reduceNeg,Int.reduceToNat,Int.reduceMul,Int.reduceAdd,Int.reduceSub,Int.reduceBEq,Int.reduceBNe,reduceCtorEq,RD,resAll,resOf];rfl) aF.refl ?_;simp only [tup]
  exact wR
 |succ m ih=>
  intro i pre p used s K hi him hpre hlp htk hz hlt mZ hus hK
  have hin:i<n:=by omega
  have ZH:n≤16:=by omega
  obtain ⟨g,hg⟩: ∃g:Nat→List (List Nat),g=fun y=>if y∈pre then [] else lv n m (pre++[y]):=⟨_,rfl⟩
  obtain ⟨A,hA⟩: ∃A:Nat→σ,A=fun y=>((List.range y).flatMap g).foldl step s:=⟨_,rfl⟩
  have hAs: ∀y,A (y+1)=(g y).foldl step (A y):=fun y=>by
   rw [hA]
   simp only [List.range_succ,List.flatMap_append,List.foldl_append,List.flatMap_cons,List.flatMap_nil,List.append_nil]
  have hpre': ∀y,y<n→y∉pre→o8 n (pre++[y]):=fun y hy hyp=>⟨by
   rw [List.nodup_append]
   exact ⟨hpre.gJ,by simp,fun a ha b hb e=>by rw [List.mem_singleton] at hb;subst hb;subst e;exact hyp ha⟩,fun z hz=>by
   rcases List.mem_append.1 hz with hz|hz
   ·exact hpre.lt z hz
   ·rw [List.mem_singleton] at hz;subst hz;exact hy,by simp;omega⟩
  have hA0:A 0=s:=by rw [hA];rfl
  have Dq:A n=(lv n (m+1) pre).foldl step s:=by rw [hA,hg];rfl
  refine aK zN ?_;simp only [dS,aA]
  unfold EM
  have hne: ¬(i:Int)=n:=by omega
  refine au fun Kr hKr=>?_;simp (disch:=omega) only [RA,↓reduceIte,Nat.reduceEqDiff,Nat.reduceBEq,Nat.reduceSub,Nat.reduceAdd,Nat.reduceMul,Nat.reduceLT,Nat.reduceLeDiff,Int.reduceLE,Int.reduceLT,Int.reduceEq,Int.reduceNeg,Int.reduceToNat,Int.reduceMul,Int.reduceAdd,Int.reduceSub,Int.reduceBEq,Int.reduceBNe,reduceCtorEq,RD,R4,gone,hne];refine hKr _ _ ?_;clear hKr Kr;(try simp only [RN,reduceIte]);try refine aj rfl ?_
  refine aQ (t:=false) (by simp (disch:=omega) only [RA,↓reduceIte,Nat.reduceEqDiff,Nat.reduceBEq,Nat.reduceSub,Nat.reduceAdd,Nat.reduceMul,Nat.reduceLT,Nat.reduceLeDiff,Int.reduceLE,Int.reduceLT,Int.reduceEq,Int.reduceNeg,Int.reduceToNat,Int.reduceMul,Int.reduceAdd,Int.reduceSub,Int.reduceBEq,Int.reduceBNe,reduceCtorEq,RD]) ?_;(try simp only [RN,reduceIte]);try refine aj rfl ?_
  refine au fun Kr hKr=>?_;simp (disch:=omega) only [RA,↓reduceIte,Nat.reduceEqDiff,Nat.reduceBEq,Nat.reduceSub,Nat.reduceAdd,Nat.reduceMul,Nat.reduceLT,Nat.reduceLeDiff,Int.reduceLE,Int.reduceLT,Int.reduceEq,Int.reduceNeg,Int.reduceToNat,Int.reduceMul,Int.reduceAdd,Int.reduceSub,Int.reduceBEq,Int.reduceBNe,reduceCtorEq,RD,gone];refine hKr _ _ ?_;clear hKr Kr;(try simp only [RN,reduceIte]);try refine aj rfl ?_
  refine Jb ?_
  refine aS (fun mm f H'=> ∃y p',y≤n∧mm=n-y∧p'.length=16∧p'.take i=pre∧(∀j,n≤j→nl p' j=0)∧(∀j,nl p' j<256)∧f 0=I i∧f 1=P 5 0∧f 2=P 6 0∧f 3=P 7 0∧f 4=P 8 0∧f 5=P 9 0∧f 14=I n∧f 15=I y∧H'=EM B0 B1 B2 B3 B4 g1 caps n (A y) p' used) (n) ?_ ?_
  ·refine ⟨_,_,Gh.refl,0,p,by omega,by omega,hlp,htk,hz,hlt,?_,?_,?_,?_,?_,?_,?_,?_,by rw [hA0];rfl⟩
   all_goals (simp (disch:=omega) only [RA,↓reduceIte,Nat.reduceEqDiff,Nat.reduceBEq,Nat.reduceSub,Nat.reduceAdd,Nat.reduceMul,Nat.reduceLT,Nat.reduceLeDiff,Int.reduceLE,Int.reduceLT,Int.reduceEq,Int.reduceNeg,Int.reduceToNat,Int.reduceMul,Int.reduceAdd,Int.reduceSub,Int.reduceBEq,Int.reduceBNe,reduceCtorEq,R4,RD,RE]<;>rfl)
  ·rintro mm f H' R ⟨y,p',hy,rfl,pq,rD,hz',hlt',g0,g1',g2,g3,g4,g5,g14,g15,rfl⟩ hN hX hR hE
   simp only [dS.l0,aA]
   refine au fun Kr hKr=>?_;simp (disch:=omega) only [RA,↓reduceIte,Nat.reduceEqDiff,Nat.reduceBEq,Nat.reduceSub,Nat.reduceAdd,Nat.reduceMul,Nat.reduceLT,Nat.reduceLeDiff,Int.reduceLE,Int.reduceLT,Int.reduceEq,Int.reduceNeg,Int.reduceToNat,Int.reduceMul,Int.reduceAdd,Int.reduceSub,Int.reduceBEq,Int.reduceBNe,reduceCtorEq,RD,g14,g15];refine hKr _ _ ?_;clear hKr Kr;(try simp only [RN,reduceIte]);try refine aj rfl ?_
   refine bD (p:=y<n) (by simp only [RA,↓reduceIte,Nat.reduceEqDiff,Nat.reduceBEq,Nat.reduceSub,Nat.reduceAdd,Nat.reduceMul,Nat.reduceLT,Nat.reduceLeDiff,Int.reduceLE,Int.reduceLT,Int.reduceEq,Int.reduceNeg,Int.reduceToNat,Int.reduceMul,Int.reduceAdd,Int.reduceSub,Int.reduceBEq,Int.reduceBNe,reduceCtorEq]<;>rfl) (by (try simp only [RB])<;>first|done|exact Iff.rfl|omega|simp) (fun hc=>?_) (fun hc=>?_)<;>(try simp only [RN,reduceIte])<;>(try refine aj rfl ?_)
   ·have hyn:y<n:=by assumption
    have ZI:y<16:=by omega
    have hnext: ∀f' p2,p2.length=16→p2.take i=pre→(∀j,n≤j→nl p2 j=0)→(∀j,nl p2 j<256)→f' 0=I i→f' 1=P 5 0→f' 2=P 6 0→f' 3=P 7 0→f' 4=P 8 0→f' 5=P 9 0→f' 14=I n→f' 15=I y→T 10 dS.r10 R f' (EM B0 B1 B2 B3 B4 g1 caps n (A (y+1)) p2 used):=by
     clear g0 g1' g2 g3 g4 g5 g14 g15
     intro f' p2 q1 q2 q3 q4 g0 g1' g2 g3 g4 g5 g14 g15
     refine bK fun Kr hKr=>?_;simp (disch:=omega) only [RA,↓reduceIte,Nat.reduceEqDiff,Nat.reduceBEq,Nat.reduceSub,Nat.reduceAdd,Nat.reduceMul,Nat.reduceLT,Nat.reduceLeDiff,Int.reduceLE,Int.reduceLT,Int.reduceEq,Int.reduceNeg,Int.reduceToNat,Int.reduceMul,Int.reduceAdd,Int.reduceSub,Int.reduceBEq,Int.reduceBNe,reduceCtorEq,RD,g15];refine hKr _ _ ?_;clear hKr Kr
     refine hN (n-(y+1)) _ _ _ _ (by omega) Gh.refl ⟨y+1,p2,by omega,rfl,q1,q2,q3,q4,?_,?_,?_,?_,?_,?_,?_,?_,rfl⟩
     all_goals (simp (disch:=omega) only [RA,↓reduceIte,Nat.reduceEqDiff,Nat.reduceBEq,Nat.reduceSub,Nat.reduceAdd,Nat.reduceMul,Nat.reduceLT,Nat.reduceLeDiff,Int.reduceLE,Int.reduceLT,Int.reduceEq,Int.reduceNeg,Int.reduceToNat,Int.reduceMul,Int.reduceAdd,Int.reduceSub,Int.reduceBEq,Int.reduceBNe,reduceCtorEq,RD,RE, *]<;>rfl)
    (first|refine cZ rfl ?_|refine dh rfl ?_);(try simp only [RN,reduceIte]);try refine aj rfl ?_
    refine au fun Kr hKr=>?_;simp (disch:=omega) only [RA,↓reduceIte,Nat.reduceEqDiff,Nat.reduceBEq,Nat.reduceSub,Nat.reduceAdd,Nat.reduceMul,Nat.reduceLT,Nat.reduceLeDiff,Int.reduceLE,Int.reduceLT,Int.reduceEq,Int.reduceNeg,Int.reduceToNat,Int.reduceMul,Int.reduceAdd,Int.reduceSub,Int.reduceBEq,Int.reduceBNe,reduceCtorEq,RD,g15];refine hKr _ _ ?_;clear hKr Kr;(try simp only [RN,reduceIte]);try refine aj rfl ?_
    unfold EM
    refine au fun Kr hKr=>?_;simp (disch:=omega) only [RA,↓reduceIte,Nat.reduceEqDiff,Nat.reduceBEq,Nat.reduceSub,Nat.reduceAdd,Nat.reduceMul,Nat.reduceLT,Nat.reduceLeDiff,Int.reduceLE,Int.reduceLT,Int.reduceEq,Int.reduceNeg,Int.reduceToNat,Int.reduceMul,Int.reduceAdd,Int.reduceSub,Int.reduceBEq,Int.reduceBNe,reduceCtorEq,RD,g4,mZ];refine hKr _ _ ?_;clear hKr Kr;(try simp only [RN,reduceIte]);try refine aj rfl ?_
    by_cases hyp:y∈pre
    ·have hb1:bl used y=true:=by rw [hus y hyn,decide_eq_true hyp]
     have rE:g y=[]:=by rw [hg];simp [hyp]
     have Dt:A (y+1)=A y:=by rw [hAs,rE];rfl
     refine aQ (t:=false) (by simp (disch:=omega) only [RA,↓reduceIte,Nat.reduceEqDiff,Nat.reduceBEq,Nat.reduceSub,Nat.reduceAdd,Nat.reduceMul,Nat.reduceLT,Nat.reduceLeDiff,Int.reduceLE,Int.reduceLT,Int.reduceEq,Int.reduceNeg,Int.reduceToNat,Int.reduceMul,Int.reduceAdd,Int.reduceSub,Int.reduceBEq,Int.reduceBNe,reduceCtorEq,RD,hb1]) ?_;(try simp only [RN,reduceIte]);try refine aj rfl ?_
     rw [←Dt]
     refine hnext _ p' pq rD hz' hlt' ?_ ?_ ?_ ?_ ?_ ?_ ?_ ?_
     any_goals (simp (disch:=omega) only [RA,↓reduceIte,Nat.reduceEqDiff,Nat.reduceBEq,Nat.reduceSub,Nat.reduceAdd,Nat.reduceMul,Nat.reduceLT,Nat.reduceLeDiff,Int.reduceLE,Int.reduceLT,Int.reduceEq,Int.reduceNeg,Int.reduceToNat,Int.reduceMul,Int.reduceAdd,Int.reduceSub,Int.reduceBEq,Int.reduceBNe,reduceCtorEq,RD,RE, *]<;>rfl)
    ·have hb1:bl used y=false:=by rw [hus y hyn,decide_eq_false hyp]
     have rE:g y=lv n m (pre++[y]):=by rw [hg];simp [hyp]
     have wS:(used.set y true).length=16:=by rw [List.length_set,mZ]
     have a1:((i:Nat):Int)+1=((i+1:Nat):Int):=by omega
     refine aQ (t:=true) (by simp (disch:=omega) only [RA,↓reduceIte,Nat.reduceEqDiff,Nat.reduceBEq,Nat.reduceSub,Nat.reduceAdd,Nat.reduceMul,Nat.reduceLT,Nat.reduceLeDiff,Int.reduceLE,Int.reduceLT,Int.reduceEq,Int.reduceNeg,Int.reduceToNat,Int.reduceMul,Int.reduceAdd,Int.reduceSub,Int.reduceBEq,Int.reduceBNe,reduceCtorEq,RD,hb1]) ?_;(try simp only [RN,reduceIte]);try refine aj rfl ?_
     refine au fun Kr hKr=>?_;simp (disch:=omega) only [RA,↓reduceIte,Nat.reduceEqDiff,Nat.reduceBEq,Nat.reduceSub,Nat.reduceAdd,Nat.reduceMul,Nat.reduceLT,Nat.reduceLeDiff,Int.reduceLE,Int.reduceLT,Int.reduceEq,Int.reduceNeg,Int.reduceToNat,Int.reduceMul,Int.reduceAdd,Int.reduceSub,Int.reduceBEq,Int.reduceBNe,reduceCtorEq,RD,g4,mZ];refine hKr _ _ ?_;clear hKr Kr;(try simp only [RN,reduceIte]);try refine aj rfl ?_
     refine au fun Kr hKr=>?_;simp (disch:=omega) only [RA,↓reduceIte,Nat.reduceEqDiff,Nat.reduceBEq,Nat.reduceSub,Nat.reduceAdd,Nat.reduceMul,Nat.reduceLT,Nat.reduceLeDiff,Int.reduceLE,Int.reduceLT,Int.reduceEq,Int.reduceNeg,Int.reduceToNat,Int.reduceMul,Int.reduceAdd,Int.reduceSub,Int.reduceBEq,Int.reduceBNe,reduceCtorEq,RD,g0,g3,pq];refine hKr _ _ ?_;clear hKr Kr;(try simp only [RN,reduceIte]);try refine aj rfl ?_
     refine au fun Kr hKr=>?_;simp (disch:=omega) only [RA,↓reduceIte,Nat.reduceEqDiff,Nat.reduceBEq,Nat.reduceSub,Nat.reduceAdd,Nat.reduceMul,Nat.reduceLT,Nat.reduceLeDiff,Int.reduceLE,Int.reduceLT,Int.reduceEq,Int.reduceNeg,Int.reduceToNat,Int.reduceMul,Int.reduceAdd,Int.reduceSub,Int.reduceBEq,Int.reduceBNe,reduceCtorEq,RD,g0,g5,gone,a1,qX,nZ,qW,qY]
     refine ih (i:=i+1) (pre:=pre++[y]) (p:=p'.set i y) (used:=used.set y true) (s:=A y) (by simp;omega) (by omega) (hpre' y hyn hyp) (by rw [List.length_set,pq]) ?_ (fun j hj=>by rw [iR,if_neg (by omega)];exact hz' j hj) (fun j=>by rw [iR];split;omega;exact hlt' j) wS (fun z hzn=>?_) fun p2 q1 q2 q3 q4=>?_
     ·rw [List.take_set,List.take_add_one,rD,List.getElem?_eq_getElem (show i<p'.length by omega),Option.toList_some,List.set_append,if_neg (by omega)]
      simp [hi]
     ·rw [og,mZ]
      by_cases e:z=y
      ·rw [if_pos ⟨e,by omega⟩,e];simp
      ·rw [if_neg (by omega),hus z hzn]
       simp [e]
     ·rw [←rE,←hAs]
      unfold EM
      simp (disch:=omega) only [RA,↓reduceIte,Nat.reduceEqDiff,Nat.reduceBEq,Nat.reduceSub,Nat.reduceAdd,Nat.reduceMul,Nat.reduceLT,Nat.reduceLeDiff,Int.reduceLE,Int.reduceLT,Int.reduceEq,Int.reduceNeg,Int.reduceToNat,Int.reduceMul,Int.reduceAdd,Int.reduceSub,Int.reduceBEq,Int.reduceBNe,reduceCtorEq,RD]
      refine hKr _ _ ?_;clear hKr Kr;(try simp only [aH,aJ,aI]);(try simp only [RN,reduceIte]);try refine aj rfl ?_
      refine au fun Kr hKr=>?_;simp (disch:=omega) only [RA,↓reduceIte,Nat.reduceEqDiff,Nat.reduceBEq,Nat.reduceSub,Nat.reduceAdd,Nat.reduceMul,Nat.reduceLT,Nat.reduceLeDiff,Int.reduceLE,Int.reduceLT,Int.reduceEq,Int.reduceNeg,Int.reduceToNat,Int.reduceMul,Int.reduceAdd,Int.reduceSub,Int.reduceBEq,Int.reduceBNe,reduceCtorEq,RD,g4,wS];refine hKr _ _ ?_;clear hKr Kr;(try simp only [RN,reduceIte]);try refine aj rfl ?_
      rw [Jd hb1]
      refine hnext _ p2 q1 ?_ q3 q4 ?_ ?_ ?_ ?_ ?_ ?_ ?_ ?_
      any_goals (simp (disch:=omega) only [RA,↓reduceIte,Nat.reduceEqDiff,Nat.reduceBEq,Nat.reduceSub,Nat.reduceAdd,Nat.reduceMul,Nat.reduceLT,Nat.reduceLeDiff,Int.reduceLE,Int.reduceLT,Int.reduceEq,Int.reduceNeg,Int.reduceToNat,Int.reduceMul,Int.reduceAdd,Int.reduceSub,Int.reduceBEq,Int.reduceBNe,reduceCtorEq,RD,RE, *]<;>rfl)
      have q5:=congrArg (List.take i) q2
      rw [List.take_take,Nat.min_eq_left (by omega),List.take_append_of_le_length (by omega),List.take_of_length_le (l:=pre) (by omega)] at q5
      exact q5
   ·refine hX _ _ ?_
    obtain rfl:y=n:=by omega
    rw [Dq]
    exact oL (rF (vs:=[]) rfl aF.refl (hK p' pq rD hz' hlt'))
theorem Jg (hr: ∀s,kN (List.range 5) (PM B0 B1 B2 B3 B4 s)=PM B0 B1 B2 B3 B4 s) (hn0:1≤n) (wQ:n≤8) {s:σ} {K:Value→BH→Prop} (hK:K (.tuple ⟨[]⟩) (PM B0 B1 B2 B3 B4 ((lv n n []).foldl step s))):
  aB false Ia [I n,clo g1 caps] (PM B0 B1 B2 B3 B4 s) K:=by
 have gone: ∀{v:Value},getN none [v] 0=some v:=rfl
 refine aK Il ?_;simp only [jS,aA]
 unfold PM
 refine au fun Kr hKr=>?_;simp (disch:=omega) only [RA,↓reduceIte,Nat.reduceEqDiff,Nat.reduceBEq,Nat.reduceSub,Nat.reduceAdd,Nat.reduceMul,Nat.reduceLT,Nat.reduceLeDiff,Int.reduceLE,Int.reduceLT,Int.reduceEq,Int.reduceNeg,Int.reduceToNat,Int.reduceMul,Int.reduceAdd,Int.reduceSub,Int.reduceBEq,Int.reduceBNe,reduceCtorEq,RD];refine hKr _ _ ?_;clear hKr Kr;(try simp only [RN,reduceIte]);try refine aj rfl ?_
 refine au fun Kr hKr=>?_;simp (disch:=omega) only [RA,↓reduceIte,Nat.reduceEqDiff,Nat.reduceBEq,Nat.reduceSub,Nat.reduceAdd,Nat.reduceMul,Nat.reduceLT,Nat.reduceLeDiff,Int.reduceLE,Int.reduceLT,Int.reduceEq,Int.reduceNeg,Int.reduceToNat,Int.reduceMul,Int.reduceAdd,Int.reduceSub,Int.reduceBEq,Int.reduceBNe,reduceCtorEq,RD];refine hKr _ _ ?_;clear hKr Kr;(try simp only [RN,reduceIte]);try refine aj rfl ?_
 refine au fun Kr hKr=>?_;simp (disch:=omega) only [RA,↓reduceIte,Nat.reduceEqDiff,Nat.reduceBEq,Nat.reduceSub,Nat.reduceAdd,Nat.reduceMul,Nat.reduceLT,Nat.reduceLeDiff,Int.reduceLE,Int.reduceLT,Int.reduceEq,Int.reduceNeg,Int.reduceToNat,Int.reduceMul,Int.reduceAdd,Int.reduceSub,Int.reduceBEq,Int.reduceBNe,reduceCtorEq,RD];refine hKr _ _ ?_;clear hKr Kr;(try simp only [RN,reduceIte]);try refine aj rfl ?_
 refine au fun Kr hKr=>?_;simp (disch:=omega) only [RA,↓reduceIte,Nat.reduceEqDiff,Nat.reduceBEq,Nat.reduceSub,Nat.reduceAdd,Nat.reduceMul,Nat.reduceLT,Nat.reduceLeDiff,Int.reduceLE,Int.reduceLT,Int.reduceEq,Int.reduceNeg,Int.reduceToNat,Int.reduceMul,Int.reduceAdd,Int.reduceSub,Int.reduceBEq,Int.reduceBNe,reduceCtorEq,RD];refine hKr _ _ ?_;clear hKr Kr;(try simp only [RN,reduceIte]);try refine aj rfl ?_
 refine au fun Kr hKr=>?_;simp (disch:=omega) only [RA,↓reduceIte,Nat.reduceEqDiff,Nat.reduceBEq,Nat.reduceSub,Nat.reduceAdd,Nat.reduceMul,Nat.reduceLT,Nat.reduceLeDiff,Int.reduceLE,Int.reduceLT,Int.reduceEq,Int.reduceNeg,Int.reduceToNat,Int.reduceMul,Int.reduceAdd,Int.reduceSub,Int.reduceBEq,Int.reduceBNe,reduceCtorEq,RD];refine hKr _ _ ?_;clear hKr Kr;(try simp only [RN,reduceIte]);try refine aj rfl ?_
 refine bK fun Kr hKr=>?_;simp (disch:=omega) only [RA,↓reduceIte,Nat.reduceEqDiff,Nat.reduceBEq,Nat.reduceSub,Nat.reduceAdd,Nat.reduceMul,Nat.reduceLT,Nat.reduceLeDiff,Int.reduceLE,Int.reduceLT,Int.reduceEq,Int.reduceNeg,Int.reduceToNat,Int.reduceMul,Int.reduceAdd,Int.reduceSub,Int.reduceBEq,Int.reduceBNe,reduceCtorEq,RD,gone,qX,nZ,qW,qY]
 refine Dn hdo hn0 wQ n (i:=0) (pre:=[]) (p:=List.replicate 16 0) (used:=List.replicate 16 false) (s:=s) rfl (by omega) ⟨by simp,by simp,by simp⟩ rfl rfl (fun j _=>by rw [jZ];split<;>rfl) (fun j=>by rw [jZ];split<;>omega) rfl (fun y _=>?_) fun p' q1 q2 q3 q4=>?_
 ·have:bl (List.replicate 16 false) y=false:=by
   rw [bl,List.getD_eq_getElem?_getD,List.getElem?_replicate]
   split<;>rfl
  rw [this];simp
 ·simp (disch:=omega) only [RA,↓reduceIte,Nat.reduceEqDiff,Nat.reduceBEq,Nat.reduceSub,Nat.reduceAdd,Nat.reduceMul,Nat.reduceLT,Nat.reduceLeDiff,Int.reduceLE,Int.reduceLT,Int.reduceEq,Int.reduceNeg,Int.reduceToNat,Int.reduceMul,Int.reduceAdd,Int.reduceSub,Int.reduceBEq,Int.reduceBNe,reduceCtorEq,RD]
  refine hKr _ _ ?_;clear hKr Kr;(try simp only [aH,aJ,aI]);(try simp only [RN,reduceIte]);try refine aj rfl ?_
  refine rF (vs:=[]) rfl (aF.rG (List.range 5) List.nodup_range (fun j hj=>zY hj) .undef) ?_
  rw [Dl hr]
  exact hK
end
end Go.Bm.Q5
namespace Go.Bm
open Go Go.Am
def lW (p q:List Nat):Int:=Lib.compareBytes (Lib.bytesOf (p.map fun n:Nat=>(n:Int))) (Lib.bytesOf (q.map fun n:Nat=>(n:Int)))
theorem Jh {a b:Nat} (ha:a<256) (hb:b<256):((a:Int).toNat.toUInt8<(b:Int).toNat.toUInt8)↔a<b:=by
 rw [UInt8.lt_iff_toNat_lt]
 simp [Nat.mod_eq_of_lt ha,Nat.mod_eq_of_lt hb]
theorem ZJ {a b:Nat} {p q:List Nat} (ha:a<256) (hb:b<256):lW (a::p) (b::q)=if a<b then-1 else if b<a then 1 else lW p q:=by
 show Lib.compareBytes (_::_) (_::_)=_
 rw [Lib.compareBytes]
 simp only [Jh ha hb,Jh hb ha]
 rfl
theorem Du: ∀{p q:List Nat},p.length=q.length→(∀x∈p,x<256)→(∀x∈q,x<256)→((lW p q<0↔p<q)∧(lW p q=0↔p=q))
 |[],[],_,_,_=>⟨by simp [lW,Lib.bytesOf,Lib.compareBytes],by simp [lW,Lib.bytesOf,Lib.compareBytes]⟩
 |[],_::_,h,_,_=>by simp at h
 | _::_,[],h,_,_=>by simp at h
 |a::p,b::q,h,hp,hq=>by
  have ih:=Du (p:=p) (q:=q) (by simpa using h) (fun x hx=>hp x (by simp [hx])) (fun x hx=>hq x (by simp [hx]))
  rw [ZJ (hp a (by simp)) (hq b (by simp)),List.cons_lt_cons_iff]
  rcases Nat.lt_trichotomy a b with h1|h1|h1
  ·rw [if_pos h1]
   refine ⟨⟨fun _=> .inl h1,fun _=>by omega⟩,⟨fun h=>by omega,fun h=>?_⟩⟩
   injection h with h2
   omega
  ·subst h1
   rw [if_neg (by omega),if_neg (by omega),ih.1,ih.2]
   refine ⟨⟨fun h=> .inr ⟨rfl,h⟩,fun h=>?_⟩,by simp⟩
   rcases h with h|h
   ·omega
   ·exact h.2
  ·rw [if_neg (by omega),if_pos h1]
   refine ⟨⟨fun h=>by omega,fun h=>?_⟩,⟨fun h=>by omega,fun h=>?_⟩⟩
   ·rcases h with h|h<;>omega
   ·injection h with h2
    omega
theorem ZK {x:Bool} {i j:Nat} {p q:List Nat} {H:BH} {K:Value→BH→Prop} (hi:blk H i=some (p.map N8)) (hj:blk H j=some (q.map N8)) (hp:0<p.length) (hq:0<q.length)
  (hK:K (I (lW p q)) H):aB x tu [S i 0 p.length 1,S j 0 q.length 1] H K:=by
 intro ρ Z as HA h1 h2
 obtain ⟨u1,us,rfl,v1,h3⟩:=h1.jB
 obtain ⟨u2,us2,rfl,v2,h4⟩:=h3.jB
 obtain rfl:=h4.jC
 obtain ⟨b1,r1,rfl⟩:=v1.slice_inv
 obtain ⟨b2,r2,rfl⟩:=v2.slice_inv
 have hat: ∀(i b:Nat) (p:List Nat),blk H i=some (p.map N8)→0<p.length→ρ i=some b→BytesAt HA (.slice (some ⟨b,0,none⟩) p.length 1) (p.map fun n:Nat=>(n:Int)):=by
  intro i b p hb hp hr
  obtain ⟨b',bk,e1,e2,e3,e4,e5⟩:=h2.bV i _ hb
  rw [hr] at e1
  cases e1
  refine ⟨b,0,bk,by rw [List.length_map],by simpa using hp,e3,fun t x hx=>?_⟩
  simp only [List.getElem?_map,Option.map_eq_some_iff] at hx
  obtain ⟨n,hn,rfl⟩:=hx
  obtain ⟨d,hd,hv⟩:=e5.at_ (i:=t) (c:=N8 n) (by simp [hn])
  rw [Nat.zero_add,hd,hv.int]
 exact ⟨_,HA, .outer (.inl ⟨rfl,rfl,_,_,_,_,rfl,hat i b1 p hi hp r1,hat j b2 q hj hq r2,rfl⟩),fun _=>Ext.refl' _,ρ,Z,_,H, .z (.plain rfl),h2,Nat.le_refl _,fun _ _=>rfl, .refl _ _ _ _,hK⟩
end Go.Bm
namespace Go.Bm
open Go Go.Am
theorem ZL {a b:Nat}:fillL (List.replicate 2 (.int .u8 0)) [(0,1, .int .u8 (a:Int)),(1,1, .int .u8 (b:Int))]=some ([a,b].map N8):=rfl
theorem ZM {b w:List Nat} {z j:Nat} (h:j<2):nl [nl b z,nl w z] j=nl ([b,w].getD j []) z:=by
 have:j=0∨j=1:=by omega
 rcases this with rfl|rfl<;>rfl
theorem Ji {x:Nat} (hx:x<16):Bi 16 (stA x):=⟨by simp [stA,tV],fun i hi=>by
 rw [show (stA x).2=[x] from rfl,Ae (by simpa [stA] using hi)];exact hx,by
 show 1≤(oh.set x true).count true
 rw [Af (by rw [tV];exact hx) Ag]
 omega⟩
theorem ZN {n x:Nat} {b w:List Nat} (hb:By 16 b) (hw:By 16 w) (hd:bY n b w) (hx:x<n):
  aB false Ie [DV n b w,I x] [] fun v H1=> ∃j,v=S j 0 (ord b w x).length 1∧blk H1 j=some ((ord b w x).map N8):=by
 have hlb:=hb.len
 have fK:=hw.len
 have hn:=hd.1.1
 have hb16:=fun i=>hd.1.jM hlb i
 have hw16:=fun i=>hd.2.1.jM fK i
 have jO: ∀p∈[b,w],∀i,nl p i<16:=by simp;exact ⟨hb16,hw16⟩
 have hx16:x<16:=by omega
 have ZO:(List.replicate 16 false).length=16:=List.length_replicate
 refine aK Xk ?_;simp only [dF,aA]
 refine au fun Kr hKr=>?_;simp (disch:=omega) only [RA,↓reduceIte,Nat.reduceEqDiff,RD,aT];refine hKr _ _ ?_;clear hKr Kr;(try simp only [RN,reduceIte]);try refine aj rfl ?_
 refine au fun Kr hKr=>?_;simp (disch:=omega) only [RA,↓reduceIte,Nat.reduceEqDiff,Nat.reduceBEq,Nat.reduceSub,Nat.reduceAdd,Nat.reduceMul,Nat.reduceLT,Nat.reduceLeDiff,Int.reduceLE,Int.reduceLT,Int.reduceEq,Int.reduceNeg,Int.reduceToNat,Int.reduceMul,Int.reduceAdd,Int.reduceSub,Int.reduceBEq,Int.reduceBNe,reduceCtorEq,RD];refine hKr _ _ ?_;clear hKr Kr;(try simp only [RN,reduceIte]);try refine aj rfl ?_
 refine au fun Kr hKr=>?_;simp (disch:=omega) only [RA,↓reduceIte,Nat.reduceEqDiff,Nat.reduceBEq,Nat.reduceSub,Nat.reduceAdd,Nat.reduceMul,Nat.reduceLT,Nat.reduceLeDiff,Int.reduceLE,Int.reduceLT,Int.reduceEq,Int.reduceNeg,Int.reduceToNat,Int.reduceMul,Int.reduceAdd,Int.reduceSub,Int.reduceBEq,Int.reduceBNe,reduceCtorEq,RD,Dv];refine hKr _ _ ?_;clear hKr Kr;(try simp only [RN,reduceIte]);try refine aj rfl ?_
 refine au fun Kr hKr=>?_;simp (disch:=omega) only [RA,↓reduceIte,Nat.reduceEqDiff,Nat.reduceBEq,Nat.reduceSub,Nat.reduceAdd,Nat.reduceMul,Nat.reduceLT,Nat.reduceLeDiff,Int.reduceLE,Int.reduceLT,Int.reduceEq,Int.reduceNeg,Int.reduceToNat,Int.reduceMul,Int.reduceAdd,Int.reduceSub,Int.reduceBEq,Int.reduceBNe,reduceCtorEq,RD];refine hKr _ _ ?_;clear hKr Kr;(try simp only [RN,reduceIte]);try refine aj rfl ?_
 refine au fun Kr hKr=>?_;simp (disch:=omega) only [RA,↓reduceIte,Nat.reduceEqDiff,Nat.reduceBEq,Nat.reduceSub,Nat.reduceAdd,Nat.reduceMul,Nat.reduceLT,Nat.reduceLeDiff,Int.reduceLE,Int.reduceLT,Int.reduceEq,Int.reduceNeg,Int.reduceToNat,Int.reduceMul,Int.reduceAdd,Int.reduceSub,Int.reduceBEq,Int.reduceBNe,reduceCtorEq,RD];refine hKr _ _ ?_;clear hKr Kr;(try simp only [RN,reduceIte]);try refine aj rfl ?_
 refine aS (fun m f H'=> ∃k st,k≤16∧m=16-k∧st=aX [b,w] (stA x) k∧k≤st.2.length∧f 2=P 0 0∧f 5=P 1 0∧f 6=S 2 0 st.2.length 1∧f 7=I k∧H'=[some (DC n b w),some (st.1.map B),some (st.2.map N8)]) (16) ?_ ?_
 ·exact ⟨_,_,Gh.refl,0,stA x,by omega,by omega,rfl,Nat.zero_le _,ah,ah,ah,ah,by simp [stA,oh]⟩
 ·rintro m f H' R ⟨k,st,hk,rfl,hst,hkl,g2,g5,g6,g7,rfl⟩ hN hX hR hE
  simp only [dF.l1,aA]
  have hB:=(Ji hx16).aX jO k
  rw [←hst] at hB
  replace hst:=hst.symm
  have hle:=hB.le
  have hsl:=hB.len
  refine au fun Kr hKr=>?_;simp (disch:=omega) only [RA,↓reduceIte,Nat.reduceEqDiff,Nat.reduceBEq,Nat.reduceSub,Nat.reduceAdd,Nat.reduceMul,Nat.reduceLT,Nat.reduceLeDiff,Int.reduceLE,Int.reduceLT,Int.reduceEq,Int.reduceNeg,Int.reduceToNat,Int.reduceMul,Int.reduceAdd,Int.reduceSub,Int.reduceBEq,Int.reduceBNe,reduceCtorEq,RD,g6,g7];refine hKr _ _ ?_;clear hKr Kr;(try simp only [RN,reduceIte]);try refine aj rfl ?_
  refine bD (p:=k<st.2.length) (by simp only [RA,↓reduceIte,Nat.reduceEqDiff,Nat.reduceBEq,Nat.reduceSub,Nat.reduceAdd,Nat.reduceMul,Nat.reduceLT,Nat.reduceLeDiff,Int.reduceLE,Int.reduceLT,Int.reduceEq,Int.reduceNeg,Int.reduceToNat,Int.reduceMul,Int.reduceAdd,Int.reduceSub,Int.reduceBEq,Int.reduceBNe,reduceCtorEq]<;>rfl) (by (try simp only [RB])<;>first|done|exact Iff.rfl|omega|simp) (fun hc=>?_) (fun hc=>?_)<;>(try simp only [RN,reduceIte])<;>(try refine aj rfl ?_)
  ·have hxk:=hB.lt k hc
   have wU:k<st.2.length:=by assumption
   have h1:=hb16 (nl st.2 k)
   have h2:=hw16 (nl st.2 k)
   obtain ⟨pr,hpr⟩: ∃pr,pr=[nl b (nl st.2 k),nl w (nl st.2 k)]:=⟨_,rfl⟩
   have hpl:pr.length=2:=by rw [hpr];rfl
   have wV: ∀j,j<2→nl pr j=nl ([b,w].getD j []) (nl st.2 k):=fun j hj=>by rw [hpr];exact ZM hj
   (first|refine cZ rfl ?_|refine dh rfl ?_);(try simp only [RN,reduceIte]);try refine aj rfl ?_
   refine au fun Kr hKr=>?_;simp (disch:=omega) only [RA,↓reduceIte,Nat.reduceEqDiff,Nat.reduceBEq,Nat.reduceSub,Nat.reduceAdd,Nat.reduceMul,Nat.reduceLT,Nat.reduceLeDiff,Int.reduceLE,Int.reduceLT,Int.reduceEq,Int.reduceNeg,Int.reduceToNat,Int.reduceMul,Int.reduceAdd,Int.reduceSub,Int.reduceBEq,Int.reduceBNe,reduceCtorEq,RD,g2,g6,g7,aT,bF,ZL];refine hKr _ _ ?_;clear hKr Kr;(try simp only [RN,reduceIte]);try refine aj rfl ?_
   refine aS (fun m f H'=> ∃j st',j≤2∧m=2-j∧st'=jo ([b,w].take j) (nl st.2 k) st∧f 2=P 0 0∧f 5=P 1 0∧f 6=S 2 0 st'.2.length 1∧f 7=I k∧f 36=S 3 0 2 1∧f 37=I 2∧f 38=I j∧H'=[some (DC n b w),some (st'.1.map B),some (st'.2.map N8),some (pr.map N8)]) (2) ?_ ?_
   ·exact ⟨_,_,Gh.refl,0,st,by omega,by omega,rfl,ah,ah,ah,ah,ah,ah,ah,by rw [hpr];rfl⟩
   ·clear g2 g5 g6 g7 hpr
    rintro m f H' R2 ⟨j,st',hj,rfl,hst',g2,g5,g6,g7,Jj,Jk,Ah,rfl⟩ iy hX2 hR2 hE2
    simp only [dF.l0,aA]
    refine au fun Kr hKr=>?_;simp (disch:=omega) only [RA,↓reduceIte,Nat.reduceEqDiff,RD,Jk,Ah];refine hKr _ _ ?_;clear hKr Kr;(try simp only [RN,reduceIte]);try refine aj rfl ?_
    have hB':Bi 16 st':=by rw [hst'];exact hB.round fun p hp=>jO p (List.mem_of_mem_take hp) _
    have hle':=hB'.le
    have ng:=hB'.len
    refine bD (p:=j<2) (by simp only [RA,↓reduceIte,Nat.reduceEqDiff]<;>rfl) (by (try simp only [RB])<;>first|done|exact Iff.rfl|omega|simp) (fun hc=>?_) (fun hc=>?_)<;>(try simp only [RN,reduceIte])<;>(try refine aj rfl ?_)
    ·have hnx:=Ai (ls:=[b,w]) (x:=nl st.2 k) (st:=st) hc
     rw [←hst',←wV j hc] at hnx
     have hyl:nl pr j<16:=by
      rw [wV j hc]
      exact jO _ (getD_mem hc) _
     obtain ⟨y,ni⟩: ∃y,nl pr j=y:=⟨_,rfl⟩
     rw [ni] at hyl hnx
     have hxi:y<16:=hyl
     have hnext: ∀f' st2,f' 2=P 0 0→f' 5=P 1 0→f' 6=S 2 0 st2.2.length 1→f' 7=I k→f' 36=S 3 0 2 1→f' 37=I 2→f' 38=I j→st2=visit st' y→T 0 dF.r13 R2 f' [some (DC n b w),some (st2.1.map B),some (st2.2.map N8),some (pr.map N8)]:=by
      intro f' st2 g2 g5 g6 g7 Jj Jk Ah hs2
      refine bK fun Kr hKr=>?_;simp (disch:=omega) only [RA,↓reduceIte,Nat.reduceEqDiff,RD,Ah];refine hKr _ _ ?_;clear hKr Kr
      exact iy (2-(j+1)) _ _ _ _ (by omega) Gh.refl ⟨j+1,st2,by omega,rfl,by rw [hnx,hs2],ah,ah,ah,ah,ah,ah,ah,rfl⟩
     (first|refine cZ rfl ?_|refine dh rfl ?_);(try simp only [RN,reduceIte]);try refine aj rfl ?_
     refine au fun Kr hKr=>?_;simp (disch:=omega) only [RA,↓reduceIte,Nat.reduceEqDiff,RD,Jj,Ah,hpl,ni];refine hKr _ _ ?_;clear hKr Kr;(try simp only [RN,reduceIte]);try refine aj rfl ?_
     refine au fun Kr hKr=>?_;simp (disch:=omega) only [RA,↓reduceIte,Nat.reduceEqDiff,Nat.reduceBEq,Nat.reduceSub,Nat.reduceAdd,Nat.reduceMul,Nat.reduceLT,Nat.reduceLeDiff,Int.reduceLE,Int.reduceLT,Int.reduceEq,Int.reduceNeg,Int.reduceToNat,Int.reduceMul,Int.reduceAdd,Int.reduceSub,Int.reduceBEq,Int.reduceBNe,reduceCtorEq,RD,g5,ng];refine hKr _ _ ?_;clear hKr Kr;(try simp only [RN,reduceIte]);try refine aj rfl ?_
     refine bD (p:= ¬bl st'.1 y=true) (by simp only [RA,↓reduceIte,Nat.reduceEqDiff,Nat.reduceBEq,Nat.reduceSub,Nat.reduceAdd,Nat.reduceMul,Nat.reduceLT,Nat.reduceLeDiff,Int.reduceLE,Int.reduceLT,Int.reduceEq,Int.reduceNeg,Int.reduceToNat,Int.reduceMul,Int.reduceAdd,Int.reduceSub,Int.reduceBEq,Int.reduceBNe,reduceCtorEq]<;>rfl) (by (try simp only [RB])<;>first|done|exact Iff.rfl|omega|simp) (fun hc=>?_) (fun hc=>?_)<;>(try simp only [RN,reduceIte])<;>(try refine aj rfl ?_)
     ·refine au fun Kr hKr=>?_;simp (disch:=omega) only [RA,↓reduceIte,Nat.reduceEqDiff,Nat.reduceBEq,Nat.reduceSub,Nat.reduceAdd,Nat.reduceMul,Nat.reduceLT,Nat.reduceLeDiff,Int.reduceLE,Int.reduceLT,Int.reduceEq,Int.reduceNeg,Int.reduceToNat,Int.reduceMul,Int.reduceAdd,Int.reduceSub,Int.reduceBEq,Int.reduceBNe,reduceCtorEq,RD,g5,ng];refine hKr _ _ ?_;clear hKr Kr;(try simp only [RN,reduceIte]);try refine aj rfl ?_
      refine au fun Kr hKr=>?_;simp (disch:=omega) only [RA,↓reduceIte,Nat.reduceEqDiff,Nat.reduceBEq,Nat.reduceSub,Nat.reduceAdd,Nat.reduceMul,Nat.reduceLT,Nat.reduceLeDiff,Int.reduceLE,Int.reduceLT,Int.reduceEq,Int.reduceNeg,Int.reduceToNat,Int.reduceMul,Int.reduceAdd,Int.reduceSub,Int.reduceBEq,Int.reduceBNe,reduceCtorEq,RD,g6];refine hKr _ _ ?_;clear hKr Kr;(try simp only [RN,reduceIte]);try refine aj rfl ?_
      refine ny (Gh.nrm [0,1,5,3] rfl rfl (by simp only [RH,qE])) ?_
      refine hnext _ (st'.1.set y true,st'.2++[y]) ah ah ah ah ah ah ah ?_
      rw [visit,if_neg hc]
     ·(try simp only [RN,reduceIte]);try refine aj rfl ?_
      refine hnext _ st' ah ah ah ah ah ah ah ?_
      rw [visit,if_pos (by simpa using hc)]
    ·refine hX2 _ _ ?_
     obtain rfl:j=2:=by omega
     have hst2:st'=aX [b,w] (stA x) (k+1):=by
      rw [hst',aX,hst,if_pos wU];rfl
     obtain ⟨q,hq⟩:= @rH (nl st.2 k) ([b,w].take 2) st
     have hlq:k+1≤st'.2.length:=by rw [hst',hq];simp;omega
     refine bK fun Kr hKr=>?_;simp (disch:=omega) only [RA,↓reduceIte,Nat.reduceEqDiff,RD,g7];refine hKr _ _ ?_;clear hKr Kr
     refine hN (16-(k+1)) _ _ _ _ (by omega) (Gh.nrm [0,1,2] rfl rfl (by simp only [RH,qE])) ⟨k+1,st',by omega,rfl,hst2,hlq,ah,ah,ah,ah,rfl⟩
  ·refine hX _ _ ?_
   have hfin:aX [b,w] (stA x) 16=st:=by rw [wW (i:=k) (by rw [hst];omega) 16 hk,hst]
   refine au fun Kr hKr=>?_;simp (disch:=omega) only [RA,↓reduceIte,Nat.reduceEqDiff,Nat.reduceBEq,Nat.reduceSub,Nat.reduceAdd,Nat.reduceMul,Nat.reduceLT,Nat.reduceLeDiff,Int.reduceLE,Int.reduceLT,Int.reduceEq,Int.reduceNeg,Int.reduceToNat,Int.reduceMul,Int.reduceAdd,Int.reduceSub,Int.reduceBEq,Int.reduceBNe,reduceCtorEq,RD,g6];refine hKr _ _ ?_;clear hKr Kr;(try simp only [RN,reduceIte]);try refine aj rfl ?_
   refine aN (by simp (disch:=omega) only [RA,↓reduceIte,Nat.reduceEqDiff,RD,resAll,resOf,g6];rfl) aF.refl ?_;simp only [tup]
   rw [ord,hfin]
   exact ⟨2,rfl,rfl⟩
theorem ZP {x0:Bool} {n x:Nat} {b w:List Nat} {H:BH} {K:Value→BH→Prop} (hb:By 16 b) (hw:By 16 w) (hd:bY n b w) (hx:x<n)
  (hK:K (Fz (ord b w x).length 1 ((ord b w x).map N8)) H):aB x0 Ie [DV n b w,I x] H K:=
 rJ (.cons jP (.cons .int .nil)) kP (by simp) (ZN hb hw hd hx) hK
theorem ZQ {l:List Nat} {k:Nat} (hk:k≤16):By 16 (iF l k):=⟨wX,fun i=>by have:= @ZR l k i;omega⟩
theorem Jl {x0:Bool} {n x:Nat} {b w:List Nat} {H:BH} {K:Value→BH→Prop} (hb:By 16 b) (hw:By 16 w) (hd:bY n b w) (hx:x<n)
  (hK:K (PL (fE b w x)) H):aB x0 Ve [DV n b w,I x] H K:=by
 have hlb:=hb.len
 have fK:=hw.len
 have hn:=hd.1.1
 have hol:=qF hd hx
 have hlt: ∀j,j<(ord b w x).length→nl (ord b w x) j<16:=fun j hj=>by
  have:=Dw hd hx (j:=j) (by omega)
  omega
 rw [fE] at hK
 refine bf (by exact .cons jP (.cons .int .nil)) ?_
 refine aK WY ?_;simp only [iL,aA]
 refine au fun Kr hKr=>?_;simp (disch:=omega) only [RA,↓reduceIte,Nat.reduceEqDiff,RD,aT];refine hKr _ _ ?_;clear hKr Kr;(try simp only [RN,reduceIte]);try refine aj rfl ?_
 refine au fun Kr hKr=>?_;simp (disch:=omega) only [RA,↓reduceIte,Nat.reduceEqDiff,RD];refine hKr _ _ ?_;clear hKr Kr;(try simp only [RN,reduceIte]);try refine aj rfl ?_
 refine au fun Kr hKr=>?_;simp (disch:=omega) only [RA,↓reduceIte,Nat.reduceEqDiff,RD,aT,bF]
 refine ZP hb hw hd hx ?_
 generalize ord b w x=l at hol hlt hK
 have jO:l.length≤16:=by omega
 simp (disch:=omega) only [RA,↓reduceIte,Nat.reduceEqDiff,RD]
 refine hKr _ _ ?_;clear hKr Kr;(try simp only [aH,aJ,aI]);(try simp only [RN,reduceIte]);try refine aj rfl ?_
 refine aS (fun m f H'=> ∃k,k≤l.length∧m=l.length-k∧f 4=P 1 0∧f 5=P 2 0∧f 11=Fz l.length 1 (l.map N8)∧f 12=I l.length∧f 13=I k∧H'=[some (DC n b w),some (List.replicate 16 (.int .u8 0)),some ((iF l k).map N8)]) (l.length) ?_ ?_
 ·exact ⟨_,_,Gh.refl,0,by omega,by omega,ah,ah,ah,ah,ah,by simp [iF]⟩
 ·clear hol
  rintro m f H' R ⟨k,hk,rfl,g4,g5,g11,g12,g13,rfl⟩ hN hX hR hE
  simp only [iL.l0,aA]
  have hnl:= @wX l k
  refine au fun Kr hKr=>?_;simp (disch:=omega) only [RA,↓reduceIte,Nat.reduceEqDiff,RD,g12,g13];refine hKr _ _ ?_;clear hKr Kr;(try simp only [RN,reduceIte]);try refine aj rfl ?_
  refine bD (p:=k<l.length) (by simp only [RA,↓reduceIte,Nat.reduceEqDiff]<;>rfl) (by (try simp only [RB])<;>first|done|exact Iff.rfl|omega|simp) (fun hc=>?_) (fun hc=>?_)<;>(try simp only [RN,reduceIte])<;>(try refine aj rfl ?_)
  ·have h16:=hlt k hc
   (first|refine cZ rfl ?_|refine dh rfl ?_);(try simp only [RN,reduceIte]);try refine aj rfl ?_
   refine au fun Kr hKr=>?_;simp (disch:=omega) only [RA,↓reduceIte,Nat.reduceEqDiff,RD,g11,g13];refine hKr _ _ ?_;clear hKr Kr;(try simp only [RN,reduceIte]);try refine aj rfl ?_
   refine au fun Kr hKr=>?_;simp (disch:=omega) only [RA,↓reduceIte,Nat.reduceEqDiff,RD,g5,hnl];refine hKr _ _ ?_;clear hKr Kr;(try simp only [RN,reduceIte]);try refine aj rfl ?_
   refine bK fun Kr hKr=>?_;simp (disch:=omega) only [RA,↓reduceIte,Nat.reduceEqDiff,RD,g13];refine hKr _ _ ?_;clear hKr Kr
   exact hN (l.length-(k+1)) _ _ _ _ (by omega) Gh.refl ⟨k+1,by omega,rfl,ah,ah,ah,ah,ah,rfl⟩
  ·refine hX _ _ ?_
   obtain rfl:k=l.length:=by omega
   refine au fun Kr hKr=>?_;simp (disch:=omega) only [RA,↓reduceIte,Nat.reduceEqDiff,RD,g4,g5,hnl];refine hKr _ _ ?_;clear hKr Kr;(try simp only [RN,reduceIte]);try refine aj rfl ?_
   refine aN (by simp (disch:=omega) only [RA,↓reduceIte,Nat.reduceEqDiff,RD,resAll,resOf,g4,hnl];rfl) aF.refl ?_;simp only [tup]
   exact ⟨dV kP,hK⟩
theorem Dx {p nm:List Nat} (hl: ∀i,nl nm i<256): ∀{k:Nat},By 16 (fP p nm k)
 |0=>By.rep
 |k+1=>(Dx hl).set (hl _)
theorem Jm {x0:Bool} {n:Nat} {b w nm:List Nat} {H:BH} {K:Value→BH→Prop} (hb:By 16 b) (hw:By 16 w) (hd:bY n b w) (hm:By 16 nm) (Dy: ∀i,nl nm i<16)
  (hK:K (DV n (fP b nm n) (fP w nm n)) H):aB x0 Vd [DV n b w,PL nm] H K:=by
 have hlb:=hb.len
 have fK:=hw.len
 have hlm:=hm.len
 have hz:=jU
 have hn:=hd.1.1
 have hb16:=fun i=>hd.1.jM hlb i
 have hw16:=fun i=>hd.2.1.jM fK i
 refine bf (by exact .cons jP (.cons (dV kP) .nil)) ?_
 refine aK WX ?_;simp only [gZ,aA]
 refine au fun Kr hKr=>?_;simp (disch:=omega) only [RA,↓reduceIte,Nat.reduceEqDiff,RD,aT];refine hKr _ _ ?_;clear hKr Kr;(try simp only [RN,reduceIte]);try refine aj rfl ?_
 refine au fun Kr hKr=>?_;simp (disch:=omega) only [RA,↓reduceIte,Nat.reduceEqDiff,RD,aT,bF];refine hKr _ _ ?_;clear hKr Kr;(try simp only [RN,reduceIte]);try refine aj rfl ?_
 refine au fun Kr hKr=>?_;simp (disch:=omega) only [RA,↓reduceIte,Nat.reduceEqDiff,RD,aT];refine hKr _ _ ?_;clear hKr Kr;(try simp only [RN,reduceIte]);try refine aj rfl ?_
 refine aS (fun m f H'=> ∃k,k≤n∧m=n-k∧f 2=P 0 0∧f 3=P 1 0∧f 4=P 2 0∧f 5=P 3 0∧f 11=I n∧f 12=I k∧H'=[some (DC n b w),some (nm.map N8),some (DC 0 fH fH),some (DC n (fP b nm k) (fP w nm k))]) (n) ?_ ?_
 ·exact ⟨_,_,Gh.refl,0,by omega,by omega,ah,ah,ah,ah,ah,ah,rfl⟩
 ·rintro m f H' R ⟨k,hk,rfl,g2,g3,g4,g5,g11,g12,rfl⟩ hN hX hR hE
  simp only [gZ.l0,aA]
  have hl1:= @pz b nm k
  have hl2:= @pz w nm k
  refine au fun Kr hKr=>?_;simp (disch:=omega) only [RA,↓reduceIte,Nat.reduceEqDiff,RD,g11,g12];refine hKr _ _ ?_;clear hKr Kr;(try simp only [RN,reduceIte]);try refine aj rfl ?_
  refine bD (p:=k<n) (by simp only [RA,↓reduceIte,Nat.reduceEqDiff]<;>rfl) (by (try simp only [RB])<;>first|done|exact Iff.rfl|omega|simp) (fun hc=>?_) (fun hc=>?_)<;>(try simp only [RN,reduceIte])<;>(try refine aj rfl ?_)
  ·have h1:=hb16 k
   have h2:=hw16 k
   have h3:=Dy k
   have hl3:((fP b nm k).set (nl nm k) (nl nm (nl b k))).length=16:=by rw [List.length_set];exact hl1
   (first|refine cZ rfl ?_|refine dh rfl ?_);(try simp only [RN,reduceIte]);try refine aj rfl ?_
   refine au fun Kr hKr=>?_;simp (disch:=omega) only [RA,↓reduceIte,Nat.reduceEqDiff,RD,g12];refine hKr _ _ ?_;clear hKr Kr;(try simp only [RN,reduceIte]);try refine aj rfl ?_
   refine au fun Kr hKr=>?_;simp (disch:=omega) only [RA,↓reduceIte,Nat.reduceEqDiff,RD,g2,g3,g5,aT,bF];refine hKr _ _ ?_;clear hKr Kr;(try simp only [RN,reduceIte]);try refine aj rfl ?_
   refine au fun Kr hKr=>?_;simp (disch:=omega) only [RA,↓reduceIte,Nat.reduceEqDiff,RD,g2,g3,g5,aT,bF];refine hKr _ _ ?_;clear hKr Kr;(try simp only [RN,reduceIte]);try refine aj rfl ?_
   refine bK fun Kr hKr=>?_;simp (disch:=omega) only [RA,↓reduceIte,Nat.reduceEqDiff,RD,g12];refine hKr _ _ ?_;clear hKr Kr
   exact hN (n-(k+1)) _ _ _ _ (by omega) Gh.refl ⟨k+1,by omega,rfl,ah,ah,ah,ah,ah,ah,rfl⟩
  ·refine hX _ _ ?_
   obtain rfl:k=n:=by omega
   refine au fun Kr hKr=>?_;simp (disch:=omega) only [RA,↓reduceIte,Nat.reduceEqDiff,RD,g4,g5,aT,bF];refine hKr _ _ ?_;clear hKr Kr;(try simp only [RN,reduceIte]);try refine aj rfl ?_
   refine aN (by simp (disch:=omega) only [RA,↓reduceIte,Nat.reduceEqDiff,RD,resAll,resOf,g4,aT,bF];rfl) aF.refl ?_;simp only [tup]
   exact ⟨jP,hK⟩
def Dz (c:Option (List Value)) (len e b o:Nat) (lo hi:Option Value):Option Value:=
 match c with
 |some cs=>if o+len*e≤cs.length then (jV len lo hi).map fun (l,h)=>S b (o+l*e) (h-l) e else none
 |none=>none
theorem ZT {len e b o:Nat} {H:BH} {lo hi:Option Value}:DF len e H (P b o) lo hi=Dz (blk H b) len e b o lo hi:=rfl
theorem ZU {cs:List Value} {len e b o:Nat} (h:o+len*e≤cs.length):Dz (some cs) len e b o none none=some (S b o len e):=by
 simp [Dz,h,ZV]
theorem Jo {x0:Bool} {p q:List Nat} {H:BH} {K:Value→BH→Prop} (hp:By 16 p) (hq:By 16 q) (hK:K (I (lW p q)) H):aB x0 CJ [PL p,PL q] H K:=by
 have hlp:=hp.len
 have hlq:=hq.len
 have h1:(p.map N8).length=16:=by simpa using hlp
 have h2:(q.map N8).length=16:=by simpa using hlq
 refine bf (by exact .cons (dV kP) (.cons (dV kP) .nil)) ?_
 refine aK Xj ?_;simp only [oO,aA]
 refine au fun Kr hKr=>?_;simp (disch:=omega) only [RA,↓reduceIte,Nat.reduceEqDiff,RD];refine hKr _ _ ?_;clear hKr Kr;(try simp only [RN,reduceIte]);try refine aj rfl ?_
 refine au fun Kr hKr=>?_;simp (disch:=omega) only [RA,↓reduceIte,Nat.reduceEqDiff,RD,ZT,ZU]
 refine cast (congrArg (fun n:Nat×Nat=>aB true tu [S 0 0 n.1 1,S 1 0 n.2 1] [some (p.map N8),some (q.map N8)] _) (Prod.ext hlp hlq:(p.length,q.length)=(16,16))) ?_
 refine ZK rfl rfl (by omega) (by omega) ?_
 simp (disch:=omega) only [RA,↓reduceIte,Nat.reduceEqDiff,RD]
 refine hKr _ _ ?_;clear hKr Kr;(try simp only [aH,aJ,aI]);(try simp only [RN,reduceIte]);try refine aj rfl ?_
 refine aN (by simp (disch:=omega) only [RA,↓reduceIte,Nat.reduceEqDiff,RD,resAll,resOf];rfl) aF.refl ?_;simp only [tup]
 exact ⟨.int,hK⟩
def oV (x y:L2):Int:=if lW x.1 y.1=0 then lW x.2 y.2 else lW x.1 y.1
theorem Iq {x y:L2} (h1:By 16 x.1) (h2:By 16 x.2) (h3:By 16 y.1) (h4:By 16 y.2):oV x y<0↔bU x y:=by
 have a:=Du (by rw [h1.len,h3.len]) h1.mem h3.mem
 have b:=Du (by rw [h2.len,h4.len]) h2.mem h4.mem
 unfold oV bU
 by_cases e:x.1=y.1
 ·rw [if_pos (a.2.2 e),b.1]
  constructor
  ·intro h;exact .inr ⟨e,h⟩
  ·rintro (h|h)
   ·rw [e] at h;exact absurd h (List.lt_irrefl _)
   ·exact h.2
 ·rw [if_neg (fun h=>e (a.2.1 h)),a.1]
  constructor
  ·intro h;exact .inl h
  ·rintro (h|h)
   ·exact h
   ·exact absurd h.1 e
theorem IB {x0:Bool} {n m:Int} {b w b' w':List Nat} {H:BH} {K:Value→BH→Prop} (hb:By 16 b) (hw:By 16 w) (hb':By 16 b') (hw':By 16 w')
  (hK:K (I (oV (b,w) (b',w'))) H):aB x0 wI [DV n b w,DV m b' w'] H K:=by
 have hlb:=hb.len
 have fK:=hw.len
 have ZW:=hb'.len
 have ZX:=hw'.len
 refine bf (by exact .cons jP (.cons jP .nil)) ?_
 refine aK WU ?_;simp only [kK,aA]
 refine au fun Kr hKr=>?_;simp (disch:=omega) only [RA,↓reduceIte,Nat.reduceEqDiff,RD,aT];refine hKr _ _ ?_;clear hKr Kr;(try simp only [RN,reduceIte]);try refine aj rfl ?_
 refine au fun Kr hKr=>?_;simp (disch:=omega) only [RA,↓reduceIte,Nat.reduceEqDiff,RD,aT,bF]
 refine Jo hb hb' ?_
 simp (disch:=omega) only [RA,↓reduceIte,Nat.reduceEqDiff,RD]
 refine hKr _ _ ?_;clear hKr Kr;(try simp only [aH,aJ,aI]);(try simp only [RN,reduceIte]);try refine aj rfl ?_
 refine au fun Kr hKr=>?_;simp (disch:=omega) only [RA,↓reduceIte,Nat.reduceEqDiff,RD];refine hKr _ _ ?_;clear hKr Kr;(try simp only [RN,reduceIte]);try refine aj rfl ?_
 refine bD (p:= ¬lW b b'=0) (by simp only [RA,↓reduceIte,Nat.reduceEqDiff]<;>rfl) (by (try simp only [RB])<;>first|done|exact Iff.rfl|omega|simp) (fun hc=>?_) (fun hc=>?_)<;>(try simp only [RN,reduceIte])<;>(try refine aj rfl ?_)
 ·refine au fun Kr hKr=>?_;simp (disch:=omega) only [RA,↓reduceIte,Nat.reduceEqDiff,RD];refine hKr _ _ ?_;clear hKr Kr;(try simp only [RN,reduceIte]);try refine aj rfl ?_
  refine aN (by simp (disch:=omega) only [RA,↓reduceIte,Nat.reduceEqDiff,RD,resAll,resOf];rfl) aF.refl ?_;simp only [tup]
  rw [oV,if_neg hc] at hK
  exact ⟨.int,hK⟩
 ·rw [oV,if_pos (Decidable.not_not.1 hc)] at hK
  refine au fun Kr hKr=>?_;simp (disch:=omega) only [RA,↓reduceIte,Nat.reduceEqDiff,RD,aT,bF]
  refine Jo hw hw' ?_
  simp (disch:=omega) only [RA,↓reduceIte,Nat.reduceEqDiff,RD]
  refine hKr _ _ ?_;clear hKr Kr;(try simp only [aH,aJ,aI]);(try simp only [RN,reduceIte]);try refine aj rfl ?_
  refine aN (by simp (disch:=omega) only [RA,↓reduceIte,Nat.reduceEqDiff,RD,resAll,resOf];rfl) aF.refl ?_;simp only [tup]
  exact ⟨.int,hK⟩
theorem Aj {b w:List Nat} {n x:Nat} (hd:bY n b w) (hx:x<n):By 16 (fE b w x):=ZQ (by rw [qF hd hx];have:=hd.1.1;omega)
theorem wY {b w:List Nat} {n x:Nat} (hd:bY n b w) (hx:x<n) (i:Nat):nl (fE b w x) i<16:=by
 rcases Nat.lt_or_ge i n with h|h
 ·have:=(qG hd hx h).2
  have:=hd.1.1
  omega
 ·have hl:=qF hd hx
  have: ∀k,k≤(ord b w x).length→nl (iF (ord b w x) k) i=0:=by
   intro k
   induction k with
   |zero=>intro _;simp only [iF,jZ];split<;>rfl
   |succ k ih=>
    intro hk
    rw [iF,iR,if_neg (fun e=>by have:=Dw hd hx (j:=k) (by omega);omega),ih (by omega)]
  rw [fE,this _ (Nat.le_refl _)]
  omega
theorem wZ {b w:List Nat} {n x:Nat} (hd:bY n b w) (hx:x<n):By 16 (eG b w n x).1∧By 16 (eG b w n x).2:=by
 have h:=fun i=>Nat.lt_trans (wY hd hx i) (show 16<256 by omega)
 exact ⟨Dx h,Dx h⟩
theorem tX {b w:List Nat} {n k:Nat} (hd:bY n b w) (hk:k<n):By 16 (lG b w n k).1∧By 16 (lG b w n k).2:=by
 obtain ⟨x,hx,e⟩:= @Jp b w n k
 rw [e]
 exact wZ hd (by omega)
theorem ZY {x0:Bool} {n:Nat} {b w:List Nat} {H:BH} {K:Value→BH→Prop} (hb:By 16 b) (hw:By 16 w) (hd:bY n b w)
  (hK:K (DV n (jE b w n).1 (jE b w n).2) H):aB x0 UQ [DV n b w] H K:=by
 have hlb:=hb.len
 have fK:=hw.len
 have hz:=jU
 have hn:=hd.1.1
 refine bf (by exact .cons jP .nil) ?_
 refine aK Wu ?_;simp only [gY,aA]
 refine au fun Kr hKr=>?_;simp (disch:=omega) only [RA,↓reduceIte,Nat.reduceEqDiff,RD,aT];refine hKr _ _ ?_;clear hKr Kr;(try simp only [RN,reduceIte]);try refine aj rfl ?_
 refine au fun Kr hKr=>?_;simp (disch:=omega) only [RA,↓reduceIte,Nat.reduceEqDiff,Nat.reduceAdd,Nat.reduceMul,Int.reduceToNat,Nat.reduceLT,reduceCtorEq,RD,aT,bF]
 have hq0:=wZ (x:=0) hd (by omega)
 have l1:=hq0.1.len
 have l2:=hq0.2.len
 simp only [eG] at l1 l2
 refine Jl (x:=0) hb hw hd (by omega) ?_
 simp (disch:=omega) only [RA,↓reduceIte,Nat.reduceEqDiff,Nat.reduceAdd,Nat.reduceMul,Int.reduceToNat,Nat.reduceLT,reduceCtorEq,RD,aT,bF]
 refine Jm hb hw hd (Aj hd (by omega)) (wY hd (by omega)) ?_
 simp (disch:=omega) only [RA,↓reduceIte,Nat.reduceEqDiff,Nat.reduceAdd,Nat.reduceMul,Int.reduceToNat,Nat.reduceLT,reduceCtorEq,RD,aT,bF]
 refine hKr _ _ ?_;clear hKr Kr;(try simp only [aH,aJ,aI]);(try simp only [RN,reduceIte]);try refine aj rfl ?_
 refine au fun Kr hKr=>?_;simp (disch:=omega) only [RA,↓reduceIte,Nat.reduceEqDiff,RD];refine hKr _ _ ?_;clear hKr Kr;(try simp only [RN,reduceIte]);try refine aj rfl ?_
 clear l1 l2
 refine aS (fun m f H'=> ∃k r,k+1≤n∧m=n-(k+1)∧r=lG b w n k∧f 1=P 0 0∧f 2=P 1 0∧f 3=P 2 0∧f 4=I ((k+1:Nat):Int)∧H'=[some (DC n b w),some (DC 0 fH fH),some (DC n r.1 r.2)]) (n-1) ?_ ?_
 ·exact ⟨_,_,Gh.refl,0,eG b w n 0,by omega,by omega,rfl,ah,ah,ah,ah,rfl⟩
 ·rintro m f H' R ⟨k,r,hk,rfl,hr,g1,g2,g3,g4,rfl⟩ hN hX hR hE
  simp only [gY.l0,aA]
  have hrb:=tX (k:=k) hd (by omega)
  rw [←hr] at hrb
  have l1:=hrb.1.len
  have l2:=hrb.2.len
  refine au fun Kr hKr=>?_;simp (disch:=omega) only [RA,↓reduceIte,Nat.reduceEqDiff,RD,g1,g4,aT];refine hKr _ _ ?_;clear hKr Kr;(try simp only [RN,reduceIte]);try refine aj rfl ?_
  refine bD (p:=k+1<n) (by simp only [RA,↓reduceIte,Nat.reduceEqDiff]<;>rfl) (by (try simp only [RB])<;>first|done|exact Iff.rfl|omega|simp) (fun hc=>?_) (fun hc=>?_)<;>(try simp only [RN,reduceIte])<;>(try refine aj rfl ?_)
  ·have hq:=wZ hd hc
   have l3:=hq.1.len
   have l4:=hq.2.len
   simp only [eG] at l3 l4
   have e1:((k+1:Nat):Int)+1=((k+1+1:Nat):Int):=by omega
   (first|refine cZ rfl ?_|refine dh rfl ?_);(try simp only [RN,reduceIte]);try refine aj rfl ?_
   refine au fun Kr hKr=>?_;simp (disch:=omega) only [RA,↓reduceIte,Nat.reduceEqDiff,Nat.reduceAdd,Nat.reduceMul,Int.reduceToNat,Nat.reduceLT,reduceCtorEq,RD,g1,g4,aT,bF]
   refine Jl hb hw hd hc ?_
   simp (disch:=omega) only [RA,↓reduceIte,Nat.reduceEqDiff,Nat.reduceAdd,Nat.reduceMul,Int.reduceToNat,Nat.reduceLT,reduceCtorEq,RD,g1,g4,aT,bF]
   refine Jm hb hw hd (Aj hd hc) (wY hd hc) ?_
   simp (disch:=omega) only [RA,↓reduceIte,Nat.reduceEqDiff,Nat.reduceAdd,Nat.reduceMul,Int.reduceToNat,Nat.reduceLT,reduceCtorEq,RD,g1,g4,aT,bF]
   refine hKr _ _ ?_;clear hKr Kr;(try simp only [aH,aJ,aI]);(try simp only [RN,reduceIte]);try refine aj rfl ?_
   refine au fun Kr hKr=>?_;simp (disch:=omega) only [RA,↓reduceIte,Nat.reduceEqDiff,RD,g3,aT,bF]
   refine IB hq.1 hq.2 hrb.1 hrb.2 ?_
   simp (disch:=omega) only [RA,↓reduceIte,Nat.reduceEqDiff,RD]
   refine hKr _ _ ?_;clear hKr Kr;(try simp only [aH,aJ,aI]);(try simp only [RN,reduceIte]);try refine aj rfl ?_
   have hlt:=Iq (x:=eG b w n (k+1)) (y:=r) hq.1 hq.2 hrb.1 hrb.2
   have hlt':oV (fP b (fE b w (k+1)) n,fP w (fE b w (k+1)) n) (r.1,r.2)<0↔bU (eG b w n (k+1)) r:=hlt
   refine bD (p:=oV (fP b (fE b w (k+1)) n,fP w (fE b w (k+1)) n) (r.1,r.2)<0) (by simp only [RA,↓reduceIte,Nat.reduceEqDiff]<;>rfl) (by (try simp only [RB])<;>first|done|exact Iff.rfl|omega|simp) (fun hc=>?_) (fun hc=>?_)<;>(try simp only [RN,reduceIte])<;>(try refine aj rfl ?_)
   ·refine au fun Kr hKr=>?_;simp (disch:=omega) only [RA,↓reduceIte,Nat.reduceEqDiff,RD,g3,aT,bF];refine hKr _ _ ?_;clear hKr Kr;(try simp only [RN,reduceIte]);try refine aj rfl ?_
    refine bK fun Kr hKr=>?_;simp (disch:=omega) only [RA,↓reduceIte,Nat.reduceEqDiff,RD,g4,e1];refine hKr _ _ ?_;clear hKr Kr
    refine hN (n-(k+1+1)) _ _ _ _ (by omega) (Gh.nrm [0,1,2] rfl rfl (by simp only [RH,qE])) ⟨k+1,eG b w n (k+1),by omega,rfl,?_,ah,ah,ah,ah,rfl⟩
    rw [lG,←hr,if_pos (hlt'.1 hc)]
   ·(try simp only [RN,reduceIte]);try refine aj rfl ?_
    refine bK fun Kr hKr=>?_;simp (disch:=omega) only [RA,↓reduceIte,Nat.reduceEqDiff,RD,g4,e1];refine hKr _ _ ?_;clear hKr Kr
    refine hN (n-(k+1+1)) _ _ _ _ (by omega) (Gh.nrm [0,1,2] rfl rfl (by simp only [RH,qE])) ⟨k+1,r,by omega,rfl,?_,ah,ah,ah,ah,rfl⟩
    rw [lG,←hr,if_neg (fun h=>hc (hlt'.2 h))]
  ·refine hX _ _ ?_
   obtain rfl:k=n-1:=by omega
   rw [jE,←hr] at hK
   refine au fun Kr hKr=>?_;simp (disch:=omega) only [RA,↓reduceIte,Nat.reduceEqDiff,RD,g2,g3,aT,bF];refine hKr _ _ ?_;clear hKr Kr;(try simp only [RN,reduceIte]);try refine aj rfl ?_
   refine aN (by simp (disch:=omega) only [RA,↓reduceIte,Nat.reduceEqDiff,RD,resAll,resOf,g2,aT,bF];rfl) aF.refl ?_;simp only [tup]
   exact ⟨jP,hK⟩
end Go.Bm
namespace Go.Bm.Q5
open Go Go.Am Go.Bm
open Classical in
noncomputable def okD (d:L2):L2:=if By 16 d.1∧By 16 d.2 then d else (fH,fH)
noncomputable def dR (n:Nat) (d:L2):Value:=DV n (okD d).1 (okD d).2
theorem wL:By 16 fH:=⟨jU,fun i=>by rw [fH,jZ];split<;>omega⟩
theorem Jq (d:L2):By 16 (okD d).1∧By 16 (okD d).2:=by
 unfold okD
 split
 ·assumption
 ·exact ⟨wL,wL⟩
theorem zV {n:Nat} {d:L2} (h1:By 16 d.1) (h2:By 16 d.2):dR n d=DV n d.1 d.2:=by
 rw [dR,okD,if_pos ⟨h1,h2⟩]
abbrev tY:List IntKind:= .i64::List.replicate 32 .u8
theorem Jr: ∀l:List Nat,(∀x∈l,x<256)→keyG (List.replicate l.length .u8) (l.map N8)=true
 |[],_=>rfl
 |x::l,h=>by
  have h1:=h x (by simp)
  have h2:=Jr l fun y hy=>h y (by simp [hy])
  have e1:IntKind.u8.min=0:=by decide
  have e2:IntKind.u8.max=255:=by decide
  rw [List.length_cons,List.replicate_succ,List.map_cons]
  show (decide (IntKind.u8= .u8)&&(decide (IntKind.u8.min≤(x:Int))&&decide ((x:Int)≤IntKind.u8.max))&&keyG _ _)=true
  rw [h2,e1,e2]
  simp
  omega
theorem Js {n:Nat} (hn:n≤16) {b w:List Nat} (hb:By 16 b) (hw:By 16 w):keyV tY (DV n b w)=true:=by
 have h:=Jr (b++w) fun x hx=>(List.mem_append.1 hx).elim (hb.mem x) (hw.mem x)
 rw [List.length_append,hb.len,hw.len,List.map_append] at h
 have e1:IntKind.i64.min= -9223372036854775808:=by decide
 have e2:IntKind.i64.max=9223372036854775807:=by decide
 show (decide (IntKind.i64= .i64)&&(decide (IntKind.i64.min≤(n:Int))&&decide ((n:Int)≤IntKind.i64.max))&&keyG (List.replicate (16+16) IntKind.u8) (b.map N8++w.map N8))=true
 rw [h,e1,e2]
 simp
 omega
theorem Df {n:Nat} (hn:n≤16) (d:L2):keyV tY (dR n d)=true:=Js hn (Jq d).1 (Jq d).2
theorem zU {n:Nat} (hn:n≤16) (s:List L2):(s.map (dR n)).all (keyV tY)=true:=List.all_eq_true.2 fun v hv=>by
 obtain ⟨d,_,rfl⟩:=List.mem_map.1 hv
 exact Df hn d
theorem Z4 {n:Nat} {ns:List Nat} (d:L2):ren ns (dR n d)=dR n d:=by
 have hp:(DC n (okD d).1 (okD d).2).all pl1=true:=List.all_eq_true.2 fun v hv=>by
  rcases List.mem_cons.1 hv with rfl|hv
  ·rfl
  ·rcases List.mem_append.1 hv with hv|hv<;>(obtain ⟨x,_,rfl⟩:=List.mem_map.1 hv;rfl)
 show (if (DC n (okD d).1 (okD d).2).all pl1=true then _ else _)=_
 rw [if_pos hp]
 rfl
theorem DI {n:Nat} {ns:List Nat} (s:List L2):(s.map (dR n)).map (ren ns)=s.map (dR n):=by
 rw [List.map_map]
 exact List.map_congr_left fun d _=>Z4 d
section
variable (n:Nat) (black:List Nat)
def b0 (_:List L2):Option (List Value):=some [I n]
def b1 (_:List L2):Option (List Value):=some []
noncomputable def b2 (s:List L2):Option (List Value):=some (s.map (dR n))
def b3 (_:List L2):Option (List Value):=some [.map (some 1)]
end
end Go.Bm.Q5
