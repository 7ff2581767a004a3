/- DpTi, DpTc, DpTd, BmP, DpTm, DpTj -/
import Derived.Test.YtkapkmjofpoebaaGreatBmT
import Derived.Test.YtkapkmjofpoebaaGreatDpG2
set_option linter.unusedVariables false
set_option linter.unusedSimpArgs false
namespace Go.Bm
open Go Go.Am
section
variable {n:Nat} {b w:List Nat}
abbrev VS (b w:List Nat) (n:Nat):Value:=Fz (aW b w n).length 1 ((aW b w n).map FN)
abbrev ES (b w:List Nat) (n:Nat):Value:=Fz n 2 ((wB b w n).map bT)
def BP (b w:List Nat) (n:Nat) (c:Bool) (cm:Int) (v:Nat) (L e s:List Nat):Prop:=
 (e=[]∧s=[v]∧ ∀y∈L,(y:Int)=cm)∨
 (∃y l,e=y::l∧s=v::sn b w n (!c) y l∧y∈L∧(y:Int)≠cm∧Lg b w n (!c) y l∧ ∀z∈L,(z:Int)≠cm→hgt b w n (!c) z≤hgt b w n (!c) y)
theorem BP.skip {c:Bool} {cm:Int} {v y:Nat} {L e s:List Nat} (h:BP b w n c cm v L e s) (hy:(y:Int)=cm):BP b w n c cm v (L++[y]) e s:=by
 rcases h with ⟨h1,h2,h3⟩|⟨y',l,h1,h2,h3,h4,h5,h6⟩
 ·refine .inl ⟨h1,h2,fun z hz=>?_⟩
  rcases List.mem_append.1 hz with h|h
  ·exact h3 z h
  ·rw [List.mem_singleton.1 h];exact hy
 ·refine .inr ⟨y',l,h1,h2,by simp [h3],h4,h5,fun z hz hne=>?_⟩
  rcases List.mem_append.1 hz with h|h
  ·exact h6 z h hne
  ·rw [List.mem_singleton.1 h] at hne;exact absurd hy hne
theorem BP.len {c:Bool} {cm:Int} {v:Nat} {L e s:List Nat} (h:BP b w n c cm v L e s):s.length=e.length+1∧(e=[]∨ ∃y∈L,e.length=hgt b w n (!c) y+1):=by
 rcases h with ⟨h1,h2,h3⟩|⟨y',l,h1,h2,h3,h4,h5,h6⟩
 ·subst h1;subst h2;exact ⟨rfl, .inl rfl⟩
 ·subst h1;subst h2
  exact ⟨by rw [List.length_cons,AX,List.length_cons], .inr ⟨y',h3,by rw [List.length_cons,h5.len]⟩⟩
theorem BP.worse {c:Bool} {cm:Int} {v y:Nat} {L e s l:List Nat} (h:BP b w n c cm v L e s) (hl:Lg b w n (!c) y l) (hle: ¬l.length+1>e.length):BP b w n c cm v (L++[y]) e s:=by
 rcases h with ⟨h1,h2,h3⟩|⟨y',l',h1,h2,h3,h4,h5,h6⟩
 ·subst h1;simp at hle
 ·refine .inr ⟨y',l',h1,h2,by simp [h3],h4,h5,fun z hz hne=>?_⟩
  rcases List.mem_append.1 hz with h|h
  ·exact h6 z h hne
  ·rw [List.mem_singleton.1 h]
   rw [h1,List.length_cons,hl.len,h5.len] at hle
   omega
theorem BP.better {c:Bool} {cm:Int} {v y:Nat} {L e s l:List Nat} (h:BP b w n c cm v L e s) (hne:(y:Int)≠cm) (hl:Lg b w n (!c) y l) (hle:l.length+1>e.length):
  BP b w n c cm v (L++[y]) (y::l) (v::sn b w n (!c) y l):=by
 refine .inr ⟨y,l,rfl,rfl,by simp,hne,hl,fun z hz hz2=>?_⟩
 rcases List.mem_append.1 hz with hz|hz
 ·rcases h with ⟨h1,h2,h3⟩|⟨y',l',h1,h2,h3,h4,h5,h6⟩
  ·exact absurd (h3 z hz) hz2
  ·have:=h6 z hz hz2
   rw [h1,List.length_cons,hl.len,h5.len] at hle
   omega
 ·rw [List.mem_singleton.1 hz];exact Nat.le_refl _
theorem abd (hd:bC n b w) {c:Bool} {x:Nat} (hx:x<n):ends b w n c x<32:=by
 have:=o7 hd (c:=c) hx
 have:=(AL hd).1
 omega
theorem Qu {x:Bool} {H:BH} {K:Value→BH→Prop} (hd:bC n b w) (ht:Tree n b w) {c:Bool} {v:Nat} {cm:Int} (hv:v<(aW b w n).length)
  (hcv: ∀y∈vl b w n v,ends b w n c y=v)
  (hrec: ∀y∈vl b w n v,(y:Int)≠cm→ ∀(x:Bool) (H:BH) (K:Value→BH→Prop),(∀l,Lg b w n (!c) y l→K (.tuple ⟨[Fz l.length 1 (l.map bT),Fz (l.length+1) 1 ((sn b w n (!c) y l).map bT)]⟩) H)→
   aJ x Jj [VS b w n,ES b w n,I (ends b w n (!c) y:Nat),I y] H K)
  (hK: ∀e s,BP b w n c cm v (vl b w n v) e s→K (.tuple ⟨[Fz e.length 1 (e.map bT),Fz s.length 1 (s.map bT)]⟩) H):
  aJ x Jj [VS b w n,ES b w n,I v,I cm] H K:=by
 have hn:=hd.1.1
 obtain ⟨hv1,_,_,_⟩:=AL hd
 obtain ⟨hl1,hl2,hl3⟩:=wo hd hv
 have rJ:(aW b w n).getD v []=vl b w n v:=rfl
 refine abe (.cons .fz (.cons .fz (.cons .int (.cons .int .nil)))) ?_
 refine bf agV ?_;simp only [jA,aG]
 refine bD fun Kr hKr=>?_;simp (disch:=omega) only [RA,↓reduceIte,Nat.reduceEqDiff,Nat.reduceBEq,Nat.reduceSub,Nat.reduceAdd,Nat.reduceMul,Nat.reduceLT,Nat.reduceLeDiff,Int.reduceLE,Int.reduceLT,Int.reduceEq,Int.reduceNeg,Int.reduceToNat,Int.reduceMul,Int.reduceAdd,Int.reduceSub,Int.reduceBEq,Int.reduceBNe,reduceCtorEq,RD];refine hKr _ _ ?_;clear hKr Kr;(try simp only [RN,reduceIte]);try refine eG rfl ?_
 refine bD fun Kr hKr=>?_;simp (disch:=omega) only [RA,↓reduceIte,Nat.reduceEqDiff,Nat.reduceBEq,Nat.reduceSub,Nat.reduceAdd,Nat.reduceMul,Nat.reduceLT,Nat.reduceLeDiff,Int.reduceLE,Int.reduceLT,Int.reduceEq,Int.reduceNeg,Int.reduceToNat,Int.reduceMul,Int.reduceAdd,Int.reduceSub,Int.reduceBEq,Int.reduceBNe,reduceCtorEq,RD];refine hKr _ _ ?_;clear hKr Kr;(try simp only [RN,reduceIte]);try refine eG rfl ?_
 refine bD fun Kr hKr=>?_;simp (disch:=omega) only [RA,↓reduceIte,Nat.reduceEqDiff,Nat.reduceBEq,Nat.reduceSub,Nat.reduceAdd,Nat.reduceMul,Nat.reduceLT,Nat.reduceLeDiff,Int.reduceLE,Int.reduceLT,Int.reduceEq,Int.reduceNeg,Int.reduceToNat,Int.reduceMul,Int.reduceAdd,Int.reduceSub,Int.reduceBEq,Int.reduceBNe,reduceCtorEq,RD,qO,rJ];refine hKr _ _ ?_;clear hKr Kr;(try simp only [RN,reduceIte]);try refine eG rfl ?_
 refine bM (fun m f H'=> ∃k e s,k≤(vl b w n v).length∧m=(vl b w n v).length-k∧BP b w n c cm v ((vl b w n v).take k) e s∧f 0=VS b w n∧f 1=ES b w n∧f 2=I v∧f 3=I cm∧f 10=S 0 0 e.length 1∧f 11=S 1 0 s.length 1∧f 22=FN (vl b w n v)∧f 23=I ((vl b w n v).length:Nat)∧f 24=I k∧H'=[some (e.map bT),some (s.map bT)]) ((vl b w n v).length) ?_ ?_
 ·refine ⟨_,_,Gh.refl,0,[],[v],by omega,by omega, .inl ⟨rfl,rfl,by simp⟩,?_,?_,?_,?_,?_,?_,?_,?_,?_,rfl⟩
  any_goals (simp (disch:=omega) only [RA,↓reduceIte,Nat.reduceEqDiff,Nat.reduceBEq,Nat.reduceSub,Nat.reduceAdd,Nat.reduceMul,Nat.reduceLT,Nat.reduceLeDiff,Int.reduceLE,Int.reduceLT,Int.reduceEq,Int.reduceNeg,Int.reduceToNat,Int.reduceMul,Int.reduceAdd,Int.reduceSub,Int.reduceBEq,Int.reduceBNe,reduceCtorEq,RD,RE, *]<;>rfl)
 ·rintro m f H' R ⟨k,e,s,hk,rfl,hbp,g0,g1,g2,g3,g10,g11,g22,g23,g24,rfl⟩ hN hX hR hE
  simp only [jA.l0,aG]
  obtain ⟨hs1,hs2⟩:=hbp.len
  have hel:e.length≤17:=by
   rcases hs2 with h|⟨y,hy,h⟩
   ·rw [h];simp
   ·have:=zH hd ht (c:= !c) (hl3 y (List.mem_of_mem_take hy))
    omega
  refine bD fun Kr hKr=>?_;simp (disch:=omega) only [RA,↓reduceIte,Nat.reduceEqDiff,Nat.reduceBEq,Nat.reduceSub,Nat.reduceAdd,Nat.reduceMul,Nat.reduceLT,Nat.reduceLeDiff,Int.reduceLE,Int.reduceLT,Int.reduceEq,Int.reduceNeg,Int.reduceToNat,Int.reduceMul,Int.reduceAdd,Int.reduceSub,Int.reduceBEq,Int.reduceBNe,reduceCtorEq,RD,g23,g24];refine hKr _ _ ?_;clear hKr Kr;(try simp only [RN,reduceIte]);try refine eG rfl ?_
  refine JU (p:=k<(vl b w n v).length) (by simp only [RA,↓reduceIte,Nat.reduceEqDiff,Nat.reduceBEq,Nat.reduceSub,Nat.reduceAdd,Nat.reduceMul,Nat.reduceLT,Nat.reduceLeDiff,Int.reduceLE,Int.reduceLT,Int.reduceEq,Int.reduceNeg,Int.reduceToNat,Int.reduceMul,Int.reduceAdd,Int.reduceSub,Int.reduceBEq,Int.reduceBNe,reduceCtorEq]<;>rfl) (by (try simp only [RB])<;>first|done|exact Iff.rfl|omega|simp) (fun hc=>?_) (fun hc=>?_)<;>(try simp only [RN,reduceIte])<;>(try refine eG rfl ?_)
  ·have hkk:k<(vl b w n v).length:=by assumption
   have hym:=iM hkk
   have htk:(vl b w n v).take (k+1)=(vl b w n v).take k++[nl (vl b w n v) k]:=AU hkk
   have hnext: ∀f' e' s',BP b w n c cm v ((vl b w n v).take (k+1)) e' s'→f' 0=VS b w n→f' 1=ES b w n→f' 2=I v→f' 3=I cm→f' 10=S 0 0 e'.length 1→f' 11=S 1 0 s'.length 1→f' 22=FN (vl b w n v)→f' 23=I ((vl b w n v).length:Nat)→f' 24=I k→
     T 0 jA.r10 R f' [some (e'.map bT),some (s'.map bT)]:=by
    intro f' e' s' hb' g0 g1 g2 g3 g10 g11 g22 g23 g24
    refine oQ fun Kr hKr=>?_;simp (disch:=omega) only [RA,↓reduceIte,Nat.reduceEqDiff,Nat.reduceBEq,Nat.reduceSub,Nat.reduceAdd,Nat.reduceMul,Nat.reduceLT,Nat.reduceLeDiff,Int.reduceLE,Int.reduceLT,Int.reduceEq,Int.reduceNeg,Int.reduceToNat,Int.reduceMul,Int.reduceAdd,Int.reduceSub,Int.reduceBEq,Int.reduceBNe,reduceCtorEq,RD,g24];refine hKr _ _ ?_;clear hKr Kr
    refine hN ((vl b w n v).length-(k+1)) _ _ _ _ (by omega) Gh.refl ⟨k+1,e',s',by omega,rfl,hb',?_,?_,?_,?_,?_,?_,?_,?_,?_,rfl⟩
    any_goals (simp (disch:=omega) only [RA,↓reduceIte,Nat.reduceEqDiff,Nat.reduceBEq,Nat.reduceSub,Nat.reduceAdd,Nat.reduceMul,Nat.reduceLT,Nat.reduceLeDiff,Int.reduceLE,Int.reduceLT,Int.reduceEq,Int.reduceNeg,Int.reduceToNat,Int.reduceMul,Int.reduceAdd,Int.reduceSub,Int.reduceBEq,Int.reduceBNe,reduceCtorEq,RD,RE, *]<;>rfl)
   generalize hy:nl (vl b w n v) k=y at hym htk
   have hyn:=hl3 y hym
   have hcy:=hcv y hym
   have h32:=abd hd (c:=false) hyn
   have aqd:=abd hd (c:=true) hyn
   refine uZ (zU ?_);(try simp only [RN,reduceIte]);try refine eG rfl ?_
   refine bD fun Kr hKr=>?_;simp (disch:=omega) only [RA,↓reduceIte,Nat.reduceEqDiff,Nat.reduceBEq,Nat.reduceSub,Nat.reduceAdd,Nat.reduceMul,Nat.reduceLT,Nat.reduceLeDiff,Int.reduceLE,Int.reduceLT,Int.reduceEq,Int.reduceNeg,Int.reduceToNat,Int.reduceMul,Int.reduceAdd,Int.reduceSub,Int.reduceBEq,Int.reduceBNe,reduceCtorEq,RD,g22,g24,mD,hy];refine hKr _ _ ?_;clear hKr Kr;(try simp only [RN,reduceIte]);try refine eG rfl ?_
   refine bD fun Kr hKr=>?_;simp (disch:=omega) only [RA,↓reduceIte,Nat.reduceEqDiff,Nat.reduceBEq,Nat.reduceSub,Nat.reduceAdd,Nat.reduceMul,Nat.reduceLT,Nat.reduceLeDiff,Int.reduceLE,Int.reduceLT,Int.reduceEq,Int.reduceNeg,Int.reduceToNat,Int.reduceMul,Int.reduceAdd,Int.reduceSub,Int.reduceBEq,Int.reduceBNe,reduceCtorEq,RD,g3];refine hKr _ _ ?_;clear hKr Kr;(try simp only [RN,reduceIte]);try refine eG rfl ?_
   refine JU (p:=(y:Int)=cm) (by simp only [RA,↓reduceIte,Nat.reduceEqDiff,Nat.reduceBEq,Nat.reduceSub,Nat.reduceAdd,Nat.reduceMul,Nat.reduceLT,Nat.reduceLeDiff,Int.reduceLE,Int.reduceLT,Int.reduceEq,Int.reduceNeg,Int.reduceToNat,Int.reduceMul,Int.reduceAdd,Int.reduceSub,Int.reduceBEq,Int.reduceBNe,reduceCtorEq]<;>rfl) (by (try simp only [RB])<;>first|done|exact Iff.rfl|omega|simp) (fun hc=>?_) (fun hc=>?_)<;>(try simp only [RN,reduceIte])<;>(try refine eG rfl ?_)
   ·simp only [gu,iH,iP,if_true]
    refine hnext _ e s (by rw [htk];exact hbp.skip hc) ?_ ?_ ?_ ?_ ?_ ?_ ?_ ?_ ?_
    any_goals (simp (disch:=omega) only [RA,↓reduceIte,Nat.reduceEqDiff,Nat.reduceBEq,Nat.reduceSub,Nat.reduceAdd,Nat.reduceMul,Nat.reduceLT,Nat.reduceLeDiff,Int.reduceLE,Int.reduceLT,Int.reduceEq,Int.reduceNeg,Int.reduceToNat,Int.reduceMul,Int.reduceAdd,Int.reduceSub,Int.reduceBEq,Int.reduceBNe,reduceCtorEq,RD,RE, *]<;>rfl)
   ·have e1:((ends b w n false y:Nat):Int)+(ends b w n true y:Nat)-(v:Nat)=(ends b w n (!c) y:Nat):=by
     rw [←hcy]
     cases c<;>simp<;>omega
    have KI:=KJ (b:=b) (w:=w) (n:=n)
    have he0:=aaL (b:=b) (w:=w) hyn
    have he1:=aaM (b:=b) (w:=w) hyn
    refine bD fun Kr hKr=>?_;simp (disch:=omega) only [RA,↓reduceIte,Nat.reduceEqDiff,Nat.reduceBEq,Nat.reduceSub,Nat.reduceAdd,Nat.reduceMul,Nat.reduceLT,Nat.reduceLeDiff,Int.reduceLE,Int.reduceLT,Int.reduceEq,Int.reduceNeg,Int.reduceToNat,Int.reduceMul,Int.reduceAdd,Int.reduceSub,Int.reduceBEq,Int.reduceBNe,reduceCtorEq,RD,g0,g1,g2,mD,he0,he1,e1,KI]
    have amU:=hc
    refine hrec y hym hc _ _ _ fun l hl=>?_
    have hll:l.length≤16:=by
     have:=zH hd ht (c:= !c) hyn
     have:=hl.len
     omega
    simp (disch:=omega) only [RA,↓reduceIte,Nat.reduceEqDiff,Nat.reduceBEq,Nat.reduceSub,Nat.reduceAdd,Nat.reduceMul,Nat.reduceLT,Nat.reduceLeDiff,Int.reduceLE,Int.reduceLT,Int.reduceEq,Int.reduceNeg,Int.reduceToNat,Int.reduceMul,Int.reduceAdd,Int.reduceSub,Int.reduceBEq,Int.reduceBNe,reduceCtorEq,RD]
    refine hKr _ _ ?_;clear hKr Kr;(try simp only [gu,iH,iP]);(try simp only [RN,reduceIte]);try refine eG rfl ?_
    refine bD fun Kr hKr=>?_;simp (disch:=omega) only [RA,↓reduceIte,Nat.reduceEqDiff,Nat.reduceBEq,Nat.reduceSub,Nat.reduceAdd,Nat.reduceMul,Nat.reduceLT,Nat.reduceLeDiff,Int.reduceLE,Int.reduceLT,Int.reduceEq,Int.reduceNeg,Int.reduceToNat,Int.reduceMul,Int.reduceAdd,Int.reduceSub,Int.reduceBEq,Int.reduceBNe,reduceCtorEq,RD,g10];refine hKr _ _ ?_;clear hKr Kr;(try simp only [RN,reduceIte]);try refine eG rfl ?_
    refine OQ (p:=e.length<l.length+1) (by simp only [RA,↓reduceIte,Nat.reduceEqDiff,Nat.reduceBEq,Nat.reduceSub,Nat.reduceAdd,Nat.reduceMul,Nat.reduceLT,Nat.reduceLeDiff,Int.reduceLE,Int.reduceLT,Int.reduceEq,Int.reduceNeg,Int.reduceToNat,Int.reduceMul,Int.reduceAdd,Int.reduceSub,Int.reduceBEq,Int.reduceBNe,reduceCtorEq]<;>rfl) (by (try simp only [RB])<;>first|done|exact Iff.rfl|omega|simp) (fun hc=>?_) (fun hc=>?_)<;>(try simp only [RN,reduceIte])<;>(try refine eG rfl ?_)
    ·refine bD fun Kr hKr=>?_;simp (disch:=omega) only [RA,↓reduceIte,Nat.reduceEqDiff,Nat.reduceBEq,Nat.reduceSub,Nat.reduceAdd,Nat.reduceMul,Nat.reduceLT,Nat.reduceLeDiff,Int.reduceLE,Int.reduceLT,Int.reduceEq,Int.reduceNeg,Int.reduceToNat,Int.reduceMul,Int.reduceAdd,Int.reduceSub,Int.reduceBEq,Int.reduceBNe,reduceCtorEq,RD,vZ,Qv];refine hKr _ _ ?_;clear hKr Kr;(try simp only [RN,reduceIte]);try refine eG rfl ?_
     have hsl:=AX (b:=b) (w:=w) (n:=n) (c:= !c) (x:=y) (l:=l)
     rw [←hsl]
     refine oQ fun Kr hKr=>?_;simp (disch:=omega) only [RA,↓reduceIte,Nat.reduceEqDiff,Nat.reduceBEq,Nat.reduceSub,Nat.reduceAdd,Nat.reduceMul,Nat.reduceLT,Nat.reduceLeDiff,Int.reduceLE,Int.reduceLT,Int.reduceEq,Int.reduceNeg,Int.reduceToNat,Int.reduceMul,Int.reduceAdd,Int.reduceSub,Int.reduceBEq,Int.reduceBNe,reduceCtorEq,RD,g2,vZ,Qv];refine hKr _ _ ?_;clear hKr Kr
     simp only [gu,iH,iP,if_true]
     refine jO (Gh.nrm [3,5] rfl rfl (by simp only [RH,RV])) ?_
     refine hnext _ (y::l) (v::sn b w n (!c) y l) (by rw [htk];exact hbp.better amU hl (by omega)) ?_ ?_ ?_ ?_ ?_ ?_ ?_ ?_ ?_
     any_goals (simp (disch:=omega) only [RA,↓reduceIte,Nat.reduceEqDiff,Nat.reduceBEq,Nat.reduceSub,Nat.reduceAdd,Nat.reduceMul,Nat.reduceLT,Nat.reduceLeDiff,Int.reduceLE,Int.reduceLT,Int.reduceEq,Int.reduceNeg,Int.reduceToNat,Int.reduceMul,Int.reduceAdd,Int.reduceSub,Int.reduceBEq,Int.reduceBNe,reduceCtorEq,RD,RE, *]<;>rfl)
    ·simp only [gu,iH,iP,if_true]
     refine hnext _ e s (by rw [htk];exact hbp.worse hl (by omega)) ?_ ?_ ?_ ?_ ?_ ?_ ?_ ?_ ?_
     any_goals (simp (disch:=omega) only [RA,↓reduceIte,Nat.reduceEqDiff,Nat.reduceBEq,Nat.reduceSub,Nat.reduceAdd,Nat.reduceMul,Nat.reduceLT,Nat.reduceLeDiff,Int.reduceLE,Int.reduceLT,Int.reduceEq,Int.reduceNeg,Int.reduceToNat,Int.reduceMul,Int.reduceAdd,Int.reduceSub,Int.reduceBEq,Int.reduceBNe,reduceCtorEq,RD,RE, *]<;>rfl)
  ·refine hX _ _ ?_
   obtain rfl:k=(vl b w n v).length:=by omega
   refine bD fun Kr hKr=>?_;simp (disch:=omega) only [RA,↓reduceIte,Nat.reduceEqDiff,Nat.reduceBEq,Nat.reduceSub,Nat.reduceAdd,Nat.reduceMul,Nat.reduceLT,Nat.reduceLeDiff,Int.reduceLE,Int.reduceLT,Int.reduceEq,Int.reduceNeg,Int.reduceToNat,Int.reduceMul,Int.reduceAdd,Int.reduceSub,Int.reduceBEq,Int.reduceBNe,reduceCtorEq,RD,g10,g11];refine hKr _ _ ?_;clear hKr Kr;(try simp only [RN,reduceIte]);try refine eG rfl ?_
   refine ji (by simp (disch:=omega) only [RA,↓reduceIte,Nat.reduceEqDiff,Nat.reduceBEq,Nat.reduceSub,Nat.reduceAdd,Nat.reduceMul,Nat.reduceLT,Nat.reduceLeDiff,Int.reduceLE,Int.reduceLT,Int.reduceEq,Int.reduceNeg,Int.reduceToNat,Int.reduceMul,Int.reduceAdd,Int.reduceSub,Int.reduceBEq,Int.reduceBNe,reduceCtorEq,RD,dS,gJ];rfl) dK.refl ?_;simp only [aF]
   rw [List.take_length] at hbp
   exact ⟨0,1,_,_,_,_,_,_,by omega,rfl,rfl,rfl,oh,oh,by simp,by simp,hK _ _ hbp⟩
theorem kF (hd:bC n b w) {c:Bool} {x:Nat} (hx:x<n) {y:Nat}:y∈vl b w n (ends b w n c x)↔y<n∧ends b w n c y=ends b w n c x:=by
 have hv:=o7 hd (c:=c) hx
 rw [og hv]
 exact ⟨fun h=>⟨xP hd hv h,(AY hd hx (xP hd hv h)).1 h⟩,fun h=>(AY hd hx h.1).2 h.2⟩
theorem BP.lg (hd:bC n b w) (ht:Tree n b w) {c:Bool} {x:Nat} (hx:x<n) {e s:List Nat} (h:BP b w n c x (ends b w n c x) (vl b w n (ends b w n c x)) e s):Lg b w n c x e∧s=sn b w n c x e:=by
 have hr:=Ll hd ht (c:=c) hx
 rcases h with ⟨h1,h2,h3⟩|⟨y,l,h1,h2,h3,h4,h5,h6⟩
 ·subst h1;subst h2
  refine ⟨?_,rfl⟩
  rw [Lg,hr]
  rcases GH (f:=hgt b w n (!c)) (l:=xQ b w n c x) with ⟨_,h⟩|⟨y,hy,h⟩
  ·exact h
  ·obtain ⟨k1,k2,k3⟩:=zI.1 hy
   have:=h3 y ((kF hd hx).2 ⟨k1,k3⟩)
   omega
 ·subst h1;subst h2
  obtain ⟨k1,k2⟩:=(kF hd hx).1 h3
  have hnb:Nb b w n c x y:=⟨k1,fun e=>h4 (by rw [e]),k2⟩
  refine ⟨?_,rfl⟩
  rw [Lg]
  refine ⟨hnb,?_,h5⟩
  rw [hr]
  have hge:=Qw (f:=hgt b w n (!c)) (zI.2 hnb)
  rcases GH (f:=hgt b w n (!c)) (l:=xQ b w n c x) with ⟨_,h⟩|⟨z,hz,h⟩
  ·omega
  ·obtain ⟨j1,j2,j3⟩:=zI.1 hz
   have:=h6 z ((kF hd hx).2 ⟨j1,j3⟩) (fun e=>j2 (by omega))
   omega
theorem amV (hd:bC n b w) (ht:Tree n b w): ∀(r:Nat) (c:Bool) (y:Nat),y<n→(behind b w n c y).length≤r→ ∀(x:Bool) (H:BH) (K:Value→BH→Prop),
  (∀l,Lg b w n c y l→K (.tuple ⟨[Fz l.length 1 (l.map bT),Fz (l.length+1) 1 ((sn b w n c y l).map bT)]⟩) H)→aJ x Jj [VS b w n,ES b w n,I (ends b w n c y:Nat),I y] H K:=by
 intro r
 induction r with
 |zero=>
  intro c y hy hr x H K hK
  refine Qu hd ht (c:=c) (o7 hd hy) (fun z hz=>((kF hd hy).1 hz).2) (fun z hz hne=>?_) (fun e s h=>?_)
  ·obtain ⟨h1,h2⟩:=(kF hd hy).1 hz
   have:=qQ hd ht hy h1 (fun e=>hne (by rw [e])) h2
   omega
  ·obtain ⟨h1,h2⟩:=h.lg hd ht hy
   rw [h2,AX]
   exact hK e h1
 |succ r ih=>
  intro c y hy hr x H K hK
  refine Qu hd ht (c:=c) (o7 hd hy) (fun z hz=>((kF hd hy).1 hz).2) (fun z hz hne=>?_) (fun e s h=>?_)
  ·obtain ⟨h1,h2⟩:=(kF hd hy).1 hz
   have:=qQ hd ht hy h1 (fun e=>hne (by rw [e])) h2
   exact ih (!c) z h1 (by omega)
  ·obtain ⟨h1,h2⟩:=h.lg hd ht hy
   rw [h2,AX]
   exact hK e h1
theorem abf (hd:bC n b w) (ht:Tree n b w) {c:Bool} {v:Nat} (hv: ∃y,y<n∧ends b w n c y=v) {x:Bool} {H:BH} {K:Value→BH→Prop}
  (hK: ∀y l,Lm b w n c v (y::l)→K (.tuple ⟨[Fz (y::l).length 1 ((y::l).map bT),Fz (v::sn b w n (!c) y l).length 1 ((v::sn b w n (!c) y l).map bT)]⟩) H):
  aJ x Jj [VS b w n,ES b w n,I v,I (-1)] H K:=by
 obtain ⟨y0,hy0,rfl⟩:=hv
 refine Qu hd ht (c:=c) (o7 hd hy0) (fun z hz=>((kF hd hy0).1 hz).2) (fun z hz hne=>?_) (fun e s h=>?_)
 ·exact amV hd ht _ (!c) z ((kF hd hy0).1 hz).1 (Nat.le_refl _)
 ·rcases h with ⟨h1,h2,h3⟩|⟨y,l,h1,h2,h3,h4,h5,h6⟩
  ·have:=h3 y0 ((kF hd hy0).2 ⟨hy0,rfl⟩)
   omega
  ·subst h1;subst h2
   obtain ⟨k1,k2⟩:=(kF hd hy0).1 h3
   exact hK y l ⟨k1,k2,h5,fun z hz hz2=>h6 z ((kF hd hy0).2 ⟨hz,hz2⟩) (by omega)⟩
def LP (b w:List Nat) (n:Nat) (e s:List Nat):Prop:=
 ∃cu pre x l,e=pre++x::l∧s.length=e.length+1∧Mid b w n (!(cu^^decide (pre.length%2=1))) x e.length∧(l.length=pre.length∨l.length=pre.length+1)∧
  nl s (pre.length+1)=ends b w n (!(cu^^decide (pre.length%2=1))) x
theorem Lp: ∀{l:List Nat} {c:Bool} {x i:Nat},i≤l.length→nl (sn b w n c x l) i=ends b w n (c^^decide (i%2=1)) (nl (x::l) i)
 |[],c,x,i,h=>by
  obtain rfl:i=0:=by simpa using h
  simp [sn,nl]
 |y::l,c,x,0,h=>by simp [sn,nl]
 |y::l,c,x,i+1,h=>by
  have ih:=Lp (l:=l) (c:= !c) (x:=y) (i:=i) (by simpa using h)
  have e1:nl (sn b w n c x (y::l)) (i+1)=nl (sn b w n (!c) y l) i:=by simp [sn,nl]
  have e2:nl (x::y::l) (i+1)=nl (y::l) i:=by simp [nl]
  rw [e1,e2,ih]
  congr 1
  rcases Nat.mod_two_eq_zero_or_one i with e|e<;>cases c<;>simp [e]<;>omega
theorem Lg.lt: ∀{c:Bool} {x:Nat} {l:List Nat},x<n→Lg b w n c x l→ ∀y∈x::l,y<n
 |c,x,[],hx,h,y,hy=>by rw [List.mem_singleton.1 hy];exact hx
 |c,x,z::l,hx,h,y,hy=>by
  rcases List.mem_cons.1 hy with rfl|hy
  ·exact hx
  ·rw [Lg] at h
   exact Lg.lt h.1.1 h.2.2 y hy
theorem Qa {a:List Nat} {x:Nat} {l:List Nat}:nl (a++x::l) a.length=x:=by simp [nl,List.getD]
theorem aaW {x:Bool} {H:BH} {K:Value→BH→Prop} (hb:By 16 b) (hw:By 16 w) (hd:bC n b w) (ht:Tree n b w)
  (hK: ∀e s,LP b w n e s→e.length≤17→K (.tuple ⟨[Fz e.length 1 (e.map bT),Fz s.length 1 (s.map bT)]⟩) H):aJ x aeS [DV n b w] H K:=by
 have hlb:=hb.len
 have cZ:=hw.len
 have hn:=hd.1.1
 have hv2:=(AL hd).2.1
 have hv0: ∃y,y<n∧ends b w n false y=0:=by
  obtain ⟨y,hy,h⟩:=GI hd.1 hv2
  exact ⟨y,hy,by simpa [ends] using h⟩
 refine dw (.cons fC .nil) ?_
 refine bf agy ?_;simp only [sW,aG]
 refine bD fun Kr hKr=>?_;simp (disch:=omega) only [RA,↓reduceIte,Nat.reduceEqDiff,Nat.reduceBEq,Nat.reduceSub,Nat.reduceAdd,Nat.reduceMul,Nat.reduceLT,Nat.reduceLeDiff,Int.reduceLE,Int.reduceLT,Int.reduceEq,Int.reduceNeg,Int.reduceToNat,Int.reduceMul,Int.reduceAdd,Int.reduceSub,Int.reduceBEq,Int.reduceBNe,reduceCtorEq,RD,aH];refine hKr _ _ ?_;clear hKr Kr;(try simp only [RN,reduceIte]);try refine eG rfl ?_
 refine bD fun Kr hKr=>?_;simp (disch:=omega) only [RA,↓reduceIte,Nat.reduceEqDiff,Nat.reduceBEq,Nat.reduceSub,Nat.reduceAdd,Nat.reduceMul,Nat.reduceLT,Nat.reduceLeDiff,Int.reduceLE,Int.reduceLT,Int.reduceEq,Int.reduceNeg,Int.reduceToNat,Int.reduceMul,Int.reduceAdd,Int.reduceSub,Int.reduceBEq,Int.reduceBNe,reduceCtorEq,RD,aH,aK]
 refine PX hb hw hd ?_
 simp (disch:=omega) only [RA,↓reduceIte,Nat.reduceEqDiff,Nat.reduceBEq,Nat.reduceSub,Nat.reduceAdd,Nat.reduceMul,Nat.reduceLT,Nat.reduceLeDiff,Int.reduceLE,Int.reduceLT,Int.reduceEq,Int.reduceNeg,Int.reduceToNat,Int.reduceMul,Int.reduceAdd,Int.reduceSub,Int.reduceBEq,Int.reduceBNe,reduceCtorEq,RD]
 refine hKr _ _ ?_;clear hKr Kr;(try simp only [gu,iH,iP]);(try simp only [RN,reduceIte]);try refine eG rfl ?_
 refine bD fun Kr hKr=>?_;simp (disch:=omega) only [RA,↓reduceIte,Nat.reduceEqDiff,Nat.reduceBEq,Nat.reduceSub,Nat.reduceAdd,Nat.reduceMul,Nat.reduceLT,Nat.reduceLeDiff,Int.reduceLE,Int.reduceLT,Int.reduceEq,Int.reduceNeg,Int.reduceToNat,Int.reduceMul,Int.reduceAdd,Int.reduceSub,Int.reduceBEq,Int.reduceBNe,reduceCtorEq,RD]
 refine abf hd ht (c:=false) (v:=0) hv0 fun f0 f hf=>?_
 have hfl:f.length≤16:=by
  have:=hf.2.2.1.len
  have:=zH hd ht (c:= !false) hf.1
  omega
 have hsl:(0::sn b w n (!false) f0 f).length=f.length+2:=by rw [List.length_cons,AX]
 have hu:nl (0::sn b w n (!false) f0 f) (f.length+1)=nl (sn b w n (!false) f0 f) f.length:=by simp [nl]
 obtain ⟨y1,hy1,hy2⟩: ∃y,y<n∧ends b w n ((!false)^^decide (f.length%2=1)) y=nl (sn b w n (!false) f0 f) f.length:=
  ⟨nl (f0::f) f.length,Lg.lt hf.1 hf.2.2.1 _ (iM (by simp)),(Lp (Nat.le_refl _)).symm⟩
 generalize hue:nl (sn b w n (!false) f0 f) f.length=u at hu hy2
 generalize h0s:0::sn b w n (!false) f0 f=s0 at hsl hu⊢
 generalize h0e:f0::f=e0
 simp (disch:=omega) only [RA,↓reduceIte,Nat.reduceEqDiff,Nat.reduceBEq,Nat.reduceSub,Nat.reduceAdd,Nat.reduceMul,Nat.reduceLT,Nat.reduceLeDiff,Int.reduceLE,Int.reduceLT,Int.reduceEq,Int.reduceNeg,Int.reduceToNat,Int.reduceMul,Int.reduceAdd,Int.reduceSub,Int.reduceBEq,Int.reduceBNe,reduceCtorEq,RD]
 refine hKr _ _ ?_;clear hKr Kr;(try simp only [gu,iH,iP]);(try simp only [RN,reduceIte]);try refine eG rfl ?_
 have e1:((s0.length:Nat):Int)-1=((f.length+1:Nat):Int):=by omega
 refine bD fun Kr hKr=>?_;simp (disch:=omega) only [RA,↓reduceIte,Nat.reduceEqDiff,Nat.reduceBEq,Nat.reduceSub,Nat.reduceAdd,Nat.reduceMul,Nat.reduceLT,Nat.reduceLeDiff,Int.reduceLE,Int.reduceLT,Int.reduceEq,Int.reduceNeg,Int.reduceToNat,Int.reduceMul,Int.reduceAdd,Int.reduceSub,Int.reduceBEq,Int.reduceBNe,reduceCtorEq,RD,e1,mD,hu]
 refine abf hd ht (c:=(!false)^^decide (f.length%2=1)) (v:=u) ⟨y1,hy1,hy2⟩ fun y l he=>?_
 obtain ⟨pre,x,l',c,k1,k2,k3,k4⟩:=sweep hd ht hf rfl hue.symm he
 have hel:(y::l).length≤17:=by
  have:=he.2.2.1.len
  have:=zH hd ht (c:= !((!false)^^decide (f.length%2=1))) he.1
  rw [List.length_cons]
  omega
 generalize Dp:((!false)^^decide (f.length%2=1))=cu at he k2 hy2⊢
 have hLP:LP b w n (y::l) (u::sn b w n (!cu) y l):=by
  refine ⟨cu,pre,x,l',k1,by rw [List.length_cons,AX,List.length_cons],by rw [←k2];exact k3,k4,?_⟩
  have e2:nl (u::sn b w n (!cu) y l) (pre.length+1)=nl (sn b w n (!cu) y l) pre.length:=by simp [nl]
  have hpl:pre.length≤l.length:=by
   have:=congrArg List.length k1
   simp at this
   omega
  rw [e2,Lp hpl,k1,Qa]
  cases cu<;>simp
 have Dq:=hK _ _ hLP hel
 generalize y::l=e at Dq⊢
 generalize u::sn b w n (!cu) y l=s at Dq⊢
 simp (disch:=omega) only [RA,↓reduceIte,Nat.reduceEqDiff,Nat.reduceBEq,Nat.reduceSub,Nat.reduceAdd,Nat.reduceMul,Nat.reduceLT,Nat.reduceLeDiff,Int.reduceLE,Int.reduceLT,Int.reduceEq,Int.reduceNeg,Int.reduceToNat,Int.reduceMul,Int.reduceAdd,Int.reduceSub,Int.reduceBEq,Int.reduceBNe,reduceCtorEq,RD]
 refine hKr _ _ ?_;clear hKr Kr;(try simp only [gu,iH,iP]);(try simp only [RN,reduceIte]);try refine eG rfl ?_
 refine ji (by simp (disch:=omega) only [RA,↓reduceIte,Nat.reduceEqDiff,Nat.reduceBEq,Nat.reduceSub,Nat.reduceAdd,Nat.reduceMul,Nat.reduceLT,Nat.reduceLeDiff,Int.reduceLE,Int.reduceLT,Int.reduceEq,Int.reduceNeg,Int.reduceToNat,Int.reduceMul,Int.reduceAdd,Int.reduceSub,Int.reduceBEq,Int.reduceBNe,reduceCtorEq,RD,dS,gJ];rfl) dK.refl ?_;simp only [aF]
 refine ⟨NN.tuple fun c hc=>?_,Dq⟩
 rcases List.mem_cons.1 hc with rfl|hc
 ·exact .fz
 ·rw [List.mem_singleton.1 hc]
  exact .fz
end
end Go.Bm
namespace Go.Bm
open Go Go.Am
theorem zA {l:List UInt8}:NN (.string (bs l)):=NN.string
theorem abg {d t:List UInt8} (h:d.length+t.length+2≤9223372036854775807):
  jB .add (.string (bs d)) (.string ⟨#[40]⟩)=some (.string (bs (d++[40])))∧jB .add (.string (bs (d++[40]))) (.string (bs t))=some (.string (bs (d++[40]++t)))∧
  jB .add (.string (bs (d++[40]++t))) (.string ⟨#[41]⟩)=some (.string (bs (d++(40::(t++[41]))))):=by
 refine ⟨by rw [abh];exact Dt (by simp;omega),Dt (by simp;omega),?_⟩
 rw [abj,Dt (by simp;omega)]
 simp
theorem Qx {d t:List UInt8} (h:d.length+t.length+2≤9223372036854775807):
  jB .add (.string ⟨#[40]⟩) (.string (bs t))=some (.string (bs (40::t)))∧jB .add (.string (bs (40::t))) (.string ⟨#[41]⟩)=some (.string (bs (40::(t++[41]))))∧
  jB .add (.string (bs d)) (.string (bs (40::(t++[41]))))=some (.string (bs (d++(40::(t++[41]))))):=by
 refine ⟨by rw [abh];exact Dt (by simp;omega),?_,Dt (by simp;omega)⟩
 rw [abj,Dt (by simp;omega)]
 simp
theorem Du {α β:Type} {f:α→Option β} {a:α} {l:List α} {ts:List β} (h:(a::l).mapM f=some ts): ∃t r,f a=some t∧l.mapM f=some r∧ts=t::r:=by
 rw [List.mapM_cons] at h
 simp only [Option.pure_def,Option.bind_eq_bind,Option.bind_eq_some_iff,Option.some.injEq] at h
 obtain ⟨s,hs,ts',hts,rfl⟩:=h
 exact ⟨s,ts',hs,hts,rfl⟩
theorem Lr {p:List Nat} {x y k:Nat} (h:y≠x) (hk:0<k):rng p x k y=y::rng p x (k-1) (nl p y):=by
 obtain ⟨k,rfl⟩: ∃j,k=j+1:=⟨k-1,by omega⟩
 rw [rng,if_neg h,Nat.add_sub_cancel]
theorem Ls {p:List Nat} {x k:Nat}:rng p x k x=[]:=by
 cases k with
 |zero=>rfl
 |succ k=>rw [rng,if_pos rfl]
theorem Df {H:BH} {i:Nat} {b w:List Nat} (hb:b.length=16) (hw:w.length=16):fQ (some (b.map N8)) H i 0 16 (PL w)=some (undef,H.set i (some (w.map N8))):=by
 rw [OL (by simpa using hw) (by simp [hb]),FK (by simp [hb,hw])]
section
variable {b w:List Nat} {n:Nat}
theorem Qy (hb:By 16 b) (hw:By 16 w) (c:Bool):By 16 (pc b w c):=by cases c;exact hb;exact hw
theorem abk (hd:bC n b w) (c:Bool):Perm (pc b w c) n:=by cases c;exact hd.1;exact hd.2.1
theorem abl (hb:By 16 b) (hw:By 16 w) (hd:bC n b w): ∀(k:Nat) {x0:Bool} {c:Bool} {x:Nat} {s:List UInt8} {H:BH} {K:Value→BH→Prop},x<n→lG b w k c x=some s→s.length≤9000000000000000000→
  K (.string (bs s)) H→aJ x0 afg [DV n b w,I x, .bool c] H K:=by
 have hlb:=hb.len
 have cZ:=hw.len
 have hn:=hd.1.1
 intro k
 induction k with
 |zero=>intro x0 c x s H K hx hs;simp [lG] at hs
 |succ k ih=>
  intro x0 c x s H K hx hs hsl hK
  rw [lG,Option.map_eq_some_iff] at hs
  obtain ⟨ts,hts,rfl⟩:=hs
  have hp:=abk hd c
  have hpl:=(Qy hb hw c).len
  obtain ⟨P0,hP,hPx⟩:=Lu hp hx
  refine dw (.cons fC (.cons .int (.cons .bool .nil))) ?_
  refine bf ag6 ?_;simp only [jL,aG]
  refine au @aH ?_
  refine aB ?_
  refine au (aC @aH @aK) ?_
  have hmain: ∀f',f' 1=I x→f' 2= .bool c→f' 3=P 0 0→f' 7= .string (bs [])→f' 8=P 1 0→
    T 0 (.seq jL.r5 (.seq (.block 0 (.loop jL.l0)) (.seq jL.r9 .ret))) (jq 0 [.tmp 6] fun v _=>NN v∧K v H) f' [some (DC n b w),some ((pc b w c).map N8)]:=by
   intro f' g1 g2 g3 g7 g8
   have hpx:=hp.lt hx
   refine au (aX @g1 @g8 @hpl) ?_
   refine bM (fun m f H'=> ∃i y d rm,i≤P0∧m=P0-i∧y=it (pc b w c) x i∧(rng (pc b w c) x (16-i) y).mapM (lG b w k (!c))=some rm∧ts=d++rm∧f 1=I x∧f 2= .bool c∧f 3=P 0 0∧f 7= .string (bs (jo d))∧f 8=P 1 0∧f 9=I y∧H'=[some (DC n b w),some ((pc b w c).map N8)]) (P0) ?_ ?_
   ·exact ⟨_,_,Gh.refl,0,nl (pc b w c) x,[],ts,by omega,by omega,rfl,hts,rfl,ah,ah,ah,ah,ah,ah,rfl⟩
   ·clear g1 g2 g3 g7 g8
    rintro m f H' R ⟨i,y,d,rm,hi,rfl,hy,hrm,hd',g1,g2,g3,g7,g8,g9,rfl⟩ hN hX hR hE
    simp only [jL.l0,aG]
    have hyn:y<n:=by rw [hy];exact xK hp hx i
    have hpy:=hp.lt hyn
    refine au (aC @g1 @g9) ?_
    refine aV (¬y=x) (fun hc=>?_) fun hc=>?_
    ·have hiP:i<P0:=by
      rcases Nat.lt_or_ge i P0 with h|h
      ·exact h
      ·exact absurd (by rw [hy,show i=P0 by omega,hPx]) hc
     rw [Lr hc (by omega)] at hrm
     obtain ⟨t,r,ht,hr,rfl⟩:=Du hrm
     have hle:= @GK d r t
     rw [←hd'] at hle
     obtain ⟨e1,e2,e3⟩:=abg (d:=jo d) (t:=t) (by omega)
     refine bK ?_
     refine aY (bG (bG @g2 @g3 @g7 @g9) @e1 @aH @aK) fun Kr hKr=>?_
     refine ih hyn ht (by omega) ?_
     refine bP (aC @e2 @e3) ?_
     refine aI hKr ?_
     refine bI (aX @g8 @g9 @hpl) ?_
     refine hN (P0-(i+1)) _ _ _ _ (by omega) Gh.refl ⟨i+1,nl (pc b w c) y,d++[t],r,by omega,rfl,by rw [it,hy],by rw [show 16-(i+1)=16-i-1 by omega];exact hr,by rw [hd'];simp,ah,ah,ah,?_,ah,ah,rfl⟩
     rw [LC]
     simp [RA,↓reduceIte,Nat.reduceEqDiff]
    ·refine hX _ _ ?_
     have hyx:y=x:=Decidable.not_not.1 hc
     rw [hyx,Ls] at hrm
     have:rm=[]:=by simpa using hrm.symm
     subst this
     rw [List.append_nil] at hd'
     rw [hd'] at hK
     refine au @g7 ?_
     refine aU ?_
     exact ⟨zA,hK⟩
  cases c with
  |false=>
   refine aB ?_
   refine bY ?_
   exact hmain _ ah ah ah ah ah
  |true=>
   refine aB ?_
   refine dI ?_
   refine au (aX @aH @aK @Df) ?_
   exact hmain _ ah ah ah ah ah
theorem abm (hb:By 16 b) (hw:By 16 w) (hd:bC n b w) {x0:Bool} {x:Nat} {s:List UInt8} {H:BH} {K:Value→BH→Prop} (hx:x<n) (hs:wordAt b w x=some s) (hsl:s.length≤9000000000000000000)
  (hK:K (.string (bs s)) H):aJ x0 ae0 [DV n b w,I x] H K:=by
 have hlb:=hb.len
 have cZ:=hw.len
 have hn:=hd.1.1
 rw [wordAt,Option.map_eq_some_iff] at hs
 obtain ⟨ts,hts,rfl⟩:=hs
 obtain ⟨t0,r0,ht0,hr0,abn⟩:=Du hts
 obtain ⟨P0,hP,hPx⟩:=Lu hd.1 hx
 have hpx:=hd.1.lt hx
 have hle0:= @GK [] r0 t0
 rw [List.nil_append,←abn] at hle0
 have hnil:(jo []).length=0:=rfl
 have aqe:jo [t0]=40::(t0++[41]):=by simp [jo]
 obtain ⟨e1,e2,e3⟩:=Qx (d:=[]) (t:=t0) (by simp;omega)
 refine dw (.cons fC (.cons .int .nil)) ?_
 refine bf agK ?_;simp only [mQ,aG]
 refine au @aH ?_
 refine aY (aC @aH @aK) fun Kr hKr=>?_
 refine abl hb hw hd 17 hx ht0 (by omega) ?_
 refine bP (aC @e1 @e2) ?_
 refine aI hKr ?_
 refine au (aC @aH @aK) ?_
 refine bM (fun m f H'=> ∃i y d rm,i≤P0∧m=P0-i∧y=it b x i∧(rng b x (16-i) y).mapM (lG b w 17 true)=some rm∧ts=d++rm∧f 1=I x∧f 2=P 0 0∧f 5= .string (bs (jo d))∧f 6=I y∧H'=[some (DC n b w)]) (P0) ?_ ?_
 ·exact ⟨_,_,Gh.refl,0,nl b x,[t0],r0,by omega,by omega,rfl,hr0,abn,ah,ah,ah,ah,rfl⟩
 ·rintro m f H' R ⟨i,y,d,rm,hi,rfl,hy,hrm,hd',g1,g2,g5,g6,rfl⟩ hN hX hR hE
  simp only [mQ.l0,aG]
  have hyn:y<n:=by rw [hy];exact xK hd.1 hx i
  have hpy:=hd.1.lt hyn
  refine au (aC @g1 @g6) ?_
  refine aV (¬y=x) (fun hc=>?_) fun hc=>?_
  ·have hiP:i<P0:=by
    rcases Nat.lt_or_ge i P0 with h|h
    ·exact h
    ·exact absurd (by rw [hy,show i=P0 by omega,hPx]) hc
   rw [Lr hc (by omega)] at hrm
   obtain ⟨t,r,ht,hr,rfl⟩:=Du hrm
   have hle:= @GK d r t
   rw [←hd'] at hle
   obtain ⟨e1,e2,e3⟩:=abg (d:=jo d) (t:=t) (by omega)
   refine bK ?_
   refine aY (jM @g2 @g5 @g6 @e1 @aH @aK) fun Kr hKr=>?_
   refine abl hb hw hd 17 hyn ht (by omega) ?_
   refine bP (aC @e2 @e3) ?_
   refine aI hKr ?_
   refine bI (bG @g2 @g6 @aH @aK) ?_
   refine hN (P0-(i+1)) _ _ _ _ (by omega) Gh.refl ⟨i+1,nl b y,d++[t],r,by omega,rfl,by rw [it,hy],by rw [show 16-(i+1)=16-i-1 by omega];exact hr,by rw [hd'];simp,ah,ah,?_,ah,rfl⟩
   rw [LC]
   simp [RA,↓reduceIte,Nat.reduceEqDiff]
  ·refine hX _ _ ?_
   have hyx:y=x:=Decidable.not_not.1 hc
   rw [hyx,Ls] at hrm
   have:rm=[]:=by simpa using hrm.symm
   subst this
   rw [List.append_nil] at hd'
   rw [hd'] at hK
   refine au @g5 ?_
   refine aU ?_
   exact ⟨zA,hK⟩
theorem amW (hb:By 16 b) (hw:By 16 w) (hd:bC n b w): ∀(k:Nat) {x0:Bool} {c:Bool} {x:Nat} {s:List UInt8} {H:BH} {K:Value→BH→Prop},x<n→lG b w k c x=some s→s.length≤9000000000000000000→
  K (.string (bs s)) H→aJ x0 Un [PL (pc b w c),PL (pc b w (!c)),I x, .bool false] H K:=by
 have hn:=hd.1.1
 intro k
 induction k with
 |zero=>intro x0 c x s H K hx hs;simp [lG] at hs
 |succ k ih=>
  intro x0 c x s H K hx hs hsl hK
  rw [lG,Option.map_eq_some_iff] at hs
  obtain ⟨ts,hts,rfl⟩:=hs
  have hp:=abk hd c
  have hpl:=(Qy hb hw c).len
  have hpl':=(Qy hb hw (!c)).len
  obtain ⟨P0,hP,hPx⟩:=Lu hp hx
  have hpx:=hp.lt hx
  have ih':=fun {x0:Bool}=> @ih x0 (!c)
  rw [Bool.not_not] at ih'
  rw [ring] at hts
  generalize pc b w c=p at hts hp hpl hPx hpx ih'
  generalize pc b w (!c)=q at hpl' ih'
  refine dw (.cons (oG Dv) (.cons (oG Dv) (.cons .int (.cons .bool .nil)))) ?_
  refine bf UD ?_;simp only [iJ,aG]
  refine aB ?_
  refine aB ?_
  refine aB ?_
  refine aB ?_
  refine dI ?_
  refine au @hpl ?_
  refine aB ?_
  refine bM (fun m f H'=> ∃i y d rm fb,i≤P0∧m=P0-i∧y=it p x i∧(rng p x (16-i) y).mapM (lG b w k (!c))=some rm∧ts=d++rm∧f 2=I x∧f 3= .bool false∧f 4=P 0 0∧f 5=P 1 0∧f 9= .string (bs (jo d))∧f 10=I y∧f 11= .bool fb∧H'=[some (p.map N8),some (q.map N8)]) (P0) ?_ ?_
  ·exact ⟨_,_,Gh.refl,0,nl p x,[],ts,true,by omega,by omega,rfl,hts,rfl,ah,ah,ah,ah,ah,ah,ah,rfl⟩
  ·rintro m f H' R ⟨i,y,d,rm,fb,hi,rfl,hy,hrm,hd',g2,g3,g4,g5,g9,g10,g11,rfl⟩ hN hX hR hE
   simp only [iJ.l0,aG]
   have hyn:y<n:=by rw [hy];exact xK hp hx i
   have hpy:=hp.lt hyn
   by_cases hc:y=x
   ·have hend: ∀f',f' 9= .string (bs (jo d))→R (.exit 0) f' [some (p.map N8),some (q.map N8)]:=by
     intro f' g9
     refine hX _ _ ?_
     rw [hc,Ls] at hrm
     have:rm=[]:=by simpa using hrm.symm
     subst this
     rw [List.append_nil] at hd'
     rw [hd'] at hK
     refine au @g9 ?_
     refine aU ?_
     exact ⟨zA,hK⟩
    cases fb with
    |false=>
     refine au (bG @g2 @g3 @g10 @g11) ?_
     refine bY ?_
     exact hend _ ah
    |true=>
     refine au (bG @g2 @g3 @g10 @g11) ?_
     refine bY ?_
     exact hend _ ah
   ·have hiP:i<P0:=by
     rcases Nat.lt_or_ge i P0 with h|h
     ·exact h
     ·exact absurd (by rw [hy,show i=P0 by omega,hPx]) hc
    rw [Lr hc (by omega)] at hrm
    obtain ⟨t,r,ht,hr,rfl⟩:=Du hrm
    have hle:= @GK d r t
    rw [←hd'] at hle
    obtain ⟨e1,e2,e3⟩:=Qx (d:=jo d) (t:=t) (by omega)
    have hgo: ∀f',f' 2=I x→f' 3= .bool false→f' 4=P 0 0→f' 5=P 1 0→f' 9= .string (bs (jo d))→f' 10=I y→
      T 0 (.seq iJ.r8 (.seq iJ.r9 iJ.r7)) R f' [some (p.map N8),some (q.map N8)]:=by
     clear g2 g3 g4 g5 g9 g10 g11
     intro f' g2 g3 g4 g5 g9 g10
     refine aY (jM @g4 @g5 @g9 @g10 @hpl @hpl') fun Kr hKr=>?_
     refine ih' hyn ht (by omega) ?_
     refine bP (aX @e1 @e2 @e3) ?_
     refine aI hKr ?_
     refine au (aX @g4 @g10 @hpl) ?_
     refine FP ?_
     refine hN (P0-(i+1)) _ _ _ _ (by omega) Gh.refl ⟨i+1,nl p y,d++[t],r,false,by omega,rfl,by rw [it,hy],by rw [show 16-(i+1)=16-i-1 by omega];exact hr,by rw [hd'];simp,ah,ah,ah,ah,?_,ah,ah,rfl⟩
     rw [LC]
     simp [RA,↓reduceIte,Nat.reduceEqDiff]
    cases fb with
    |false=>
     refine au (bG @g2 @g3 @g10 @g11) ?_
     refine dI ?_
     refine bK ?_
     exact hgo _ ah ah ah ah ah ah
    |true=>
     refine au (bG @g2 @g3 @g10 @g11) ?_
     refine dI ?_
     refine bK ?_
     exact hgo _ ah ah ah ah ah ah
theorem amX (hb:By 16 b) (hw:By 16 w) (hd:bC n b w) {x0:Bool} {x:Nat} {s:List UInt8} {H:BH} {K:Value→BH→Prop} (hx:x<n) (hs:wordAt b w x=some s) (hsl:s.length≤9000000000000000000)
  (hK:K (.string (bs s)) H):aJ x0 Un [PL b,PL w,I x, .bool true] H K:=by
 have hpl:=hb.len
 have hpl':=hw.len
 have hn:=hd.1.1
 have hp:=hd.1
 rw [wordAt,Option.map_eq_some_iff] at hs
 obtain ⟨ts,hts,rfl⟩:=hs
 obtain ⟨P0,hP,hPx⟩:=Lu hd.1 hx
 have ih':=fun {x0:Bool} {y:Nat} {s:List UInt8} {H:BH} {K:Value→BH→Prop}=> @amW b w n hb hw hd 17 x0 true y s H K
 have e0:pc b w true=w:=rfl
 have e1:pc b w (!true)=b:=rfl
 rw [e0,e1] at ih'
 refine dw (.cons (oG Dv) (.cons (oG Dv) (.cons .int (.cons .bool .nil)))) ?_
 refine bf UD ?_;simp only [iJ,aG]
 refine aB ?_
 refine aB ?_
 refine aB ?_
 refine aB ?_
 refine bY ?_
 refine aB ?_
 refine bM (fun m f H'=> ∃i y d rm fb,(fb=true∧y=x∧m=17∧d=[]∧rm=ts∧i=0∨fb=false∧i≤P0∧m=P0-i∧y=it b x i∧(rng b x (16-i) y).mapM (lG b w 17 true)=some rm∧ts=d++rm)∧f 2=I x∧f 3= .bool true∧f 4=P 0 0∧f 5=P 1 0∧f 9= .string (bs (jo d))∧f 10=I y∧f 11= .bool fb∧H'=[some (b.map N8),some (w.map N8)]) (17) ?_ ?_
 ·exact ⟨_,_,Gh.refl,0,x,[],ts,true, .inl ⟨rfl,rfl,rfl,rfl,rfl,rfl⟩,ah,ah,ah,ah,ah,ah,ah,rfl⟩
 ·rintro m f H' R ⟨i,y,d,rm,fb,hcase,g2,g3,g4,g5,g9,g10,g11,rfl⟩ hN hX hR hE
  simp only [iJ.l0,aG]
  have hgo: ∀t r i',i'≤P0→P0-i'<m→y<n→lG b w 17 true y=some t→(rng b x (16-i') (nl b y)).mapM (lG b w 17 true)=some r→nl b y=it b x i'→ts=d++t::r→
    ∀f',f' 2=I x→f' 3= .bool true→f' 4=P 0 0→f' 5=P 1 0→f' 9= .string (bs (jo d))→f' 10=I y→
    T 0 (.seq iJ.r8 (.seq iJ.r9 iJ.r7)) R f' [some (b.map N8),some (w.map N8)]:=by
   clear g2 g3 g4 g5 g9 g10 g11
   intro t r i' hi' hm hyn ht hr hit hd' f' g2 g3 g4 g5 g9 g10
   have hle:= @GK d r t
   rw [←hd'] at hle
   have hpy:=hp.lt hyn
   obtain ⟨e1,e2,e3⟩:=Qx (d:=jo d) (t:=t) (by omega)
   refine aY (jM @g4 @g5 @g9 @g10 @hpl @hpl') fun Kr hKr=>?_
   refine ih' hyn ht (by omega) ?_
   refine bP (aX @e1 @e2 @e3) ?_
   refine aI hKr ?_
   refine au (aX @g4 @g10 @hpl) ?_
   refine FP ?_
   refine hN (P0-i') _ _ _ _ hm Gh.refl ⟨i',nl b y,d++[t],r,false, .inr ⟨rfl,hi',rfl,hit,hr,by rw [hd'];simp⟩,ah,ah,ah,ah,?_,ah,ah,rfl⟩
   rw [LC]
   simp [RA,↓reduceIte,Nat.reduceEqDiff]
  rcases hcase with ⟨rfl,rfl,rfl,rfl,rfl,rfl⟩|⟨rfl,hi,rfl,hy,hrm,hd'⟩
  ·obtain ⟨t,r,ht,hr,hd'⟩:=Du hts
   refine au (bG @g2 @g3 @g10 @g11) ?_
   refine dI ?_
   refine bK ?_
   exact hgo t r 0 (by omega) (by omega) hx ht hr rfl (by rw [hd'];rfl) _ ah ah ah ah ah ah
  ·have hyn:y<n:=by rw [hy];exact xK hp hx i
   by_cases hc:y=x
   ·refine au (bG @g2 @g3 @g10 @g11) ?_
    refine bY ?_
    refine hX _ _ ?_
    rw [hc,Ls] at hrm
    have:rm=[]:=by simpa using hrm.symm
    subst this
    rw [List.append_nil] at hd'
    rw [hd'] at hK
    refine au @g9 ?_
    refine aU ?_
    exact ⟨zA,hK⟩
   ·have hiP:i<P0:=by
     rcases Nat.lt_or_ge i P0 with h|h
     ·exact h
     ·exact absurd (by rw [hy,show i=P0 by omega,hPx]) hc
    rw [Lr hc (by omega)] at hrm
    obtain ⟨t,r,ht,hr,rfl⟩:=Du hrm
    refine au (bG @g2 @g3 @g10 @g11) ?_
    refine dI ?_
    refine bK ?_
    exact hgo t r (i+1) (by omega) (by omega) hyn ht (by rw [show 16-(i+1)=16-i-1 by omega];exact hr) (by rw [it,hy]) hd' _ ah ah ah ah ah ah
theorem abo (hb:By 16 b) (hw:By 16 w) (hd:bC n b w) {x0:Bool} {x:Nat} {s:List UInt8} {H:BH} {K:Value→BH→Prop} (hx:x<n) (hs:wordAt b w x=some s) (hsl:s.length≤9000000000000000000)
  (hK:K (.string (bs s)) H):aJ x0 aeW [DV n b w,I x] H K:=by
 have hlb:=hb.len
 have cZ:=hw.len
 refine dw (.cons fC (.cons .int .nil)) ?_
 refine bf agG ?_;simp only [yC,aG]
 refine au @aH ?_
 refine aY (aC @aH @aK) fun Kr hKr=>?_
 refine amX hb hw hd hx hs hsl ?_
 refine aO ?_
 refine aI hKr ?_
 refine aU ?_
 exact ⟨zA,hK⟩
end
def wd (b w:List Nat) (x:Nat):List UInt8:=(wordAt b w x).getD []
theorem GL {n:Nat} {b w:List Nat} (hd:bC n b w) (ht:Tree n b w) {x:Nat} (hx:x<n):wordAt b w x=some (wd b w x):=by
 obtain ⟨s,hs⟩:=amY hd ht hx
 rw [wd,hs];rfl
theorem LD {n:Nat} {b w:List Nat} (hd:bC n b w) (ht:Tree n b w) {x:Nat} (hx:x<n):(wd b w x).length≤9000000000000000000:=amZ hd ht hx (GL hd ht hx)
theorem abp {l:List UInt8} {a:Int}:NN (.tuple ⟨[.string (bs l),I a]⟩):=NN.tuple (aT.cons NN.string (aT.cons NN.int aT.nil))
end Go.Bm
namespace Go.Bm
open Go Go.Am
def kN (a b:List UInt8):Bool:=Op.bytesLess (bs a).toList (bs b).toList
def eqS (a b:List UInt8):Bool:=(bs a).toList==(bs b).toList
theorem Qz: ∀l:List UInt8,Op.bytesLess l l=false
 |[]=>rfl
 |a::l=>by simp [Op.bytesLess,Qz l]
theorem am0 {a b:List UInt8} (h:kN a b=true):eqS a b=false:=by
 cases he:eqS a b with
 |false=>rfl
 |true=>
  have e:(bs a).toList=(bs b).toList:=by simpa [eqS] using he
  rw [kN,e,Qz] at h
  cases h
theorem Dw (a:List UInt8):kN a a=false:=Qz _
theorem am1 (a:List UInt8):eqS a a=true:=by simp [eqS]
theorem abq {a b:List UInt8}:jB .lss (.string (bs a)) (.string (bs b))=some (.bool (kN a b)):=rfl
theorem abr {a b:List UInt8}:jB .eql (.string (bs a)) (.string (bs b))=some (.bool (eqS a b)):=rfl
def iZ (b w:List Nat):Nat→List UInt8×Nat
 |0=>(wd b w 0,1)
 |k+1=>if eqS (wd b w (k+1)) (iZ b w k).1 then ((iZ b w k).1,(iZ b w k).2+1) else if kN (wd b w (k+1)) (iZ b w k).1 then (wd b w (k+1),1) else iZ b w k
theorem KD {b w:List Nat}: ∀{k:Nat},(iZ b w k).2≤k+1
 |0=>Nat.le_refl _
 |k+1=>by
  have:= @KD b w k
  simp only [iZ]
  split
  ·simp;omega
  ·split
   ·simp
   ·omega
theorem am2 {x:Bool} {n:Nat} {b w:List Nat} {H:BH} {K:Value→BH→Prop} (hb:By 16 b) (hw:By 16 w) (hd:bC n b w) (ht:Tree n b w)
  (hK:K (.tuple ⟨[.string (bs (iZ b w (n-1)).1),I (iZ b w (n-1)).2]⟩) H):aJ x aeC [DV n b w] H K:=by
 have hlb:=hb.len
 have cZ:=hw.len
 have hn:=hd.1.1
 refine dw (.cons fC .nil) ?_
 refine bf agb ?_;simp only [jv,aG]
 refine au @aH ?_
 refine aY (aC @aH @aK) fun Kr hKr=>?_
 refine abm (x:=0) hb hw hd (by omega) (GL hd ht (by omega)) (LD hd ht (by omega)) ?_
 refine aO ?_
 refine aI hKr ?_
 refine aB ?_
 refine bM (fun m f H'=> ∃k r,k+1≤n∧m=n-(k+1)∧r=iZ b w k∧f 1=P 0 0∧f 4= .string (bs r.1)∧f 5=I r.2∧f 6=I ((k+1:Nat):Int)∧H'=[some (DC n b w)]) (n-1) ?_ ?_
 ·exact ⟨_,_,Gh.refl,0,(wd b w 0,1),by omega,by omega,rfl,ah,ah,ah,ah,rfl⟩
 ·rintro m f H' R ⟨k,r,hk,rfl,hr,g1,g4,g5,g6,rfl⟩ hN hX hR hE
  simp only [jv.l0,aG]
  have hr2:= @KD b w k
  rw [←hr] at hr2
  refine au (aX @g1 @g6 @aH) ?_
  refine aV (k+1<n) (fun hc=>?_) fun hc=>?_
  ·have e1:((k+1:Nat):Int)+1=((k+1+1:Nat):Int):=by omega
   have e2:(r.2:Int)+1=((r.2+1:Nat):Int):=by omega
   have hnext: ∀f' r',f' 1=P 0 0→f' 4= .string (bs r'.1)→f' 5=I r'.2→f' 6=I ((k+1:Nat):Int)→r'=iZ b w (k+1)→T 0 jv.r4 R f' [some (DC n b w)]:=by
    intro f' r' g1 g4 g5 g6 hr'
    refine bI (aC @g6 @e1) ?_
    exact hN (n-(k+1+1)) _ _ _ _ (by omega) Gh.refl ⟨k+1,r',by omega,rfl,hr',ah,ah,ah,ah,rfl⟩
   refine bK ?_
   refine aY (bG @g1 @g6 @aH @aK) fun Kr hKr=>?_
   refine abm hb hw hd hc (GL hd ht hc) (LD hd ht hc) ?_
   refine aO ?_
   refine aI hKr ?_
   refine bK ?_
   refine au (aC @g4 @abr) ?_
   cases he:eqS (wd b w (k+1)) r.1 with
   |true=>
    refine qL @he ?_
    refine au (aC @g5 @e2) ?_
    refine hnext _ (r.1,r.2+1) ah ah ah ah ?_
    rw [iZ,←hr,if_pos he]
   |false=>
    refine oZ @he ?_
    refine au (aC @g4 @abq) ?_
    cases hl:kN (wd b w (k+1)) r.1 with
    |true=>
     refine qL @hl ?_
     refine aB ?_
     refine aB ?_
     refine hnext _ (wd b w (k+1),1) ah ah ah ah ?_
     rw [iZ,←hr,if_neg (by simp [he]),if_pos hl]
    |false=>
     refine oZ @hl ?_
     refine hnext _ r ah ah ah ah ?_
     rw [iZ,←hr,if_neg (by simp [he]),if_neg (by simp [hl])]
  ·refine hX _ _ ?_
   obtain rfl:k=n-1:=by omega
   rw [←hr] at hK
   refine au (aC @g4 @g5) ?_
   refine aU ?_
   exact ⟨abp,hK⟩
theorem abt {x:Bool} {n:Nat} {b w:List Nat} {H:BH} {K:Value→BH→Prop} (hb:By 16 b) (hw:By 16 w) (hd:bC n b w) (ht:Tree n b w)
  (hK:K (.tuple ⟨[.string (bs (iZ b w (n-1)).1),I (iZ b w (n-1)).2]⟩) H):aJ x aex [DV n b w] H K:=by
 have hlb:=hb.len
 have cZ:=hw.len
 have hn:=hd.1.1
 refine dw (.cons fC .nil) ?_
 refine bf af2 ?_;simp only [jr,aG]
 refine au @aH ?_
 refine aY (aC @aH @aK) fun Kr hKr=>?_
 refine abo (x:=0) hb hw hd (by omega) (GL hd ht (by omega)) (LD hd ht (by omega)) ?_
 refine aO ?_
 refine aI hKr ?_
 refine au @aH ?_
 refine bM (fun m f H'=> ∃k r,k≤n∧m=n-k∧(k=0∧r=(wd b w 0,0)∨0<k∧r=iZ b w (k-1))∧f 1=P 0 0∧f 4= .string (bs r.1)∧f 5=I r.2∧f 11=I n∧f 12=I k∧H'=[some (DC n b w)]) (n) ?_ ?_
 ·exact ⟨_,_,Gh.refl,0,(wd b w 0,0),by omega,by omega, .inl ⟨rfl,rfl⟩,ah,ah,ah,ah,ah,rfl⟩
 ·rintro m f H' R ⟨k,r,hk,rfl,hr,g1,g4,g5,g11,g12,rfl⟩ hN hX hR hE
  simp only [jr.l0,aG]
  have hr2:r.2≤k:=by
   rcases hr with ⟨rfl,rfl⟩|⟨h,rfl⟩
   ·exact Nat.le_refl _
   ·have:= @KD b w (k-1)
    omega
  refine au (aC @g11 @g12) ?_
  refine aV (k<n) (fun hc=>?_) fun hc=>?_
  ·have e2:(r.2:Int)+1=((r.2+1:Nat):Int):=by omega
   have hnext: ∀f' r',f' 1=P 0 0→f' 4= .string (bs r'.1)→f' 5=I r'.2→f' 11=I n→f' 12=I k→r'=iZ b w k→T 0 jr.r10 R f' [some (DC n b w)]:=by
    intro f' r' g1 g4 g5 g11 g12 hr'
    refine bI @g12 ?_
    exact hN (n-(k+1)) _ _ _ _ (by omega) Gh.refl ⟨k+1,r',by omega,rfl, .inr ⟨by omega,by rw [Nat.add_sub_cancel];exact hr'⟩,ah,ah,ah,ah,ah,rfl⟩
   have hstep:iZ b w k=if eqS (wd b w k) r.1 then (r.1,r.2+1) else if kN (wd b w k) r.1 then (wd b w k,1) else r:=by
    rcases hr with ⟨rfl,rfl⟩|⟨h,rfl⟩
    ·rw [if_pos (am1 _)];rfl
    ·obtain ⟨j,rfl⟩: ∃j,k=j+1:=⟨k-1,by omega⟩
     rfl
   refine bK ?_
   refine au @g12 ?_
   refine aY (aX @g1 @aH @aK) fun Kr hKr=>?_
   refine abo hb hw hd hc (GL hd ht hc) (LD hd ht hc) ?_
   refine aO ?_
   refine aI hKr ?_
   refine bK ?_
   refine au (aC @g4 @abq) ?_
   cases hl:kN (wd b w k) r.1 with
   |true=>
    refine qL @hl ?_
    refine aB ?_
    refine hnext _ (wd b w k,1) ah ah ah ah ah ?_
    rw [hstep,if_neg (by simp [am0 hl]),if_pos hl]
   |false=>
    refine oZ @hl ?_
    refine au (aC @g4 @abr) ?_
    cases he:eqS (wd b w k) r.1 with
    |true=>
     refine qL @he ?_
     refine au (aC @g5 @e2) ?_
     refine hnext _ (r.1,r.2+1) ah ah ah ah ah ?_
     all_goals rw [hstep,if_pos he]
    |false=>
     refine oZ @he ?_
     refine hnext _ r ah ah ah ah ah ?_
     all_goals rw [hstep,if_neg (by simp [he]),if_neg (by simp [hl])]
  ·refine hX _ _ ?_
   obtain rfl:k=n:=by omega
   have hr':r=iZ b w (k-1):=by
    rcases hr with ⟨h,_⟩|⟨_,h⟩
    ·omega
    ·exact h
   rw [←hr'] at hK
   refine au (aC @g4 @g5) ?_
   refine aU ?_
   exact ⟨abp,hK⟩
def CZ (n:Int) (b w:List Nat):Int×Int:=if fV n b w []=0 then ((iZ b w (n.toNat-1)).2,0) else (0,fV n b w [])
theorem zu {n:Int} {b w:List Nat} (h:fV n b w []=0):bC n b w∧Tree n.toNat b w:=by
 unfold fV at h
 split at h
 ·cases h
 ·rename_i g1
  split at h
  ·cases h
  ·split at h
   ·cases h
   ·rename_i g3
    exact ⟨Decidable.not_not.1 g1,Decidable.not_not.1 g3⟩
theorem Di {a c:Int}:NN (.tuple ⟨[I a,I c]⟩):=NN.tuple (aT.cons NN.int (aT.cons NN.int aT.nil))
theorem amn {x:Bool} {n:Int} {b w:List Nat} {H:BH} {K:Value→BH→Prop} (hb:By 16 b) (hw:By 16 w)
  (hK:K (.tuple ⟨[I (CZ n b w).1,I (CZ n b w).2]⟩) H):aJ x aef [DV n b w] H K:=by
 have hlb:=hb.len
 have cZ:=hw.len
 refine dw (.cons fC .nil) ?_
 refine bf afJ ?_;simp only [pK,aG]
 refine au @aH ?_
 refine aY (aC @aH @aK) fun Kr hKr=>?_
 refine CQ 1 ?_
 simp only [List.map_cons,List.map_nil,nT]
 refine Dc (xs:=[]) hb hw (by simp) ?_
 refine aO ?_
 refine aI hKr ?_
 by_cases h0:fV n b w []=0
 ·obtain ⟨hd,ht⟩:=zu h0
  rw [CZ,if_pos h0] at hK
  obtain ⟨m,rfl,hm1,hm2⟩:=hd.n0
  rw [Int.toNat_natCast] at ht hK
  refine au @h0 ?_
  refine bY ?_
  refine aY (aC @aH @aK) fun Kr hKr=>?_
  refine abt hb hw hd ht ?_
  refine aO ?_
  refine aI hKr ?_
  refine aB ?_
  refine aU ?_
  exact ⟨Di,hK⟩
 ·rw [CZ,if_neg h0] at hK
  refine aB ?_
  refine dI ?_
  refine aB ?_
  refine aU ?_
  exact ⟨Di,hK⟩
end Go.Bm
namespace Go.Bm
open Go Go.Am
theorem VZ.LG {Z:Nat→Option dh} {v u:Value} (hp:Am.plain v=true) (h:VZ Z v u):u=v:=by
 cases h with
 |junk=>simp [Am.plain] at hp
 |plain _=>rfl
 |fz _ _ _ _ _ _=>simp [Am.plain] at hp
 |fz0=>simp [Am.plain] at hp
 |fp _ _ _ _ _=>simp [Am.plain] at hp
 |agg _ _=>simp [Am.plain] at hp
 | @tuple cs ds hl _=>
  have:cs=[]:=by simpa [Am.plain] using hp
  subst this
  have:ds=[]:=List.eq_nil_of_length_eq_zero hl.symm
  rw [this]
 |func _ _=>simp [Am.plain] at hp
theorem VR.LG {ρ:Nat→Option Nat} {Z:Nat→Option dh} {v u:Value} (hp:Am.plain v=true) (h:VR ρ Z v u):u=v:=(NN.plain hp _ _ _ h).LG hp
theorem VL.QA {ρ ρ':Nat→Option Nat} {Z Z':Nat→Option dh} {cs ds:List Value} (hp:cs.all Am.plain=true) (h:VL ρ Z cs ds):VL ρ' Z' cs ds:=by
 refine ⟨h.1,fun i c d h1 h2=>?_⟩
 have hc:=List.all_eq_true.1 hp c (List.mem_of_getElem? h1)
 rw [(h.2 i c d h1 h2).LG hc]
 exact .z (.plain hc)
inductive zJ (H:BH):List Value→List Value→Prop where
 |nil:zJ H [] []
 |nn {a:Value} {as as':List Value}:NN a→zJ H as as'→zJ H (a::as) (a::as')
 |own {i l e:Nat} {cs as as':List Value}:blk H i=some cs→l*e=cs.length→cs.all Am.plain=true→zJ H as as'→zJ H (.slice (some ⟨i,0,none⟩) l e::as) (Fz l e cs::as')
open Classical in
noncomputable def Zo (ρ:Nat→Option Nat) (Z:Nat→Option dh) (H:BH) (HA:aA) (b:Nat):Option dh:=
 match Z b with
 |some bk=>some bk
 |none=>if∃i cs,blk H i=some cs∧ρ i=some b then HA.get b else none
theorem zJ.vl {ρ:Nat→Option Nat} {Z:Nat→Option dh} {H:BH} {HA:aA} (hR:Rel ρ Z H HA) {as as':List Value} (h:zJ H as as'): ∀{us:List Value},VL ρ Z as us→VL (fun _=>none) (Zo ρ Z H HA) as' us:=by
 have hzx: ∀b bk,Z b=some bk→Zo ρ Z H HA b=some bk:=fun b bk hb=>by simp only [Zo,hb]
 induction h with
 |nil=>intro us h1;rw [h1.nT];exact VL.nil
 |nn hn _ ih=>
  intro us h1
  obtain ⟨u,us,rfl,h2,h3⟩:=h1.tZ
  exact VL.cons (.z ((hn _ _ _ h2).mono hzx)) (ih h3)
 | @own i l e cs as as' hb hl hp _ ih=>
  intro us h1
  obtain ⟨u,us,rfl,h2,h3⟩:=h1.tZ
  refine VL.cons ?_ (ih h3)
  obtain ⟨b,hρ,rfl⟩:=h2.ng
  obtain ⟨b',bk,k1,k2,k3,k4,k5⟩:=hR.gK i cs hb
  rw [hρ] at k1;cases k1
  have hz:Zo ρ Z H HA b=some bk:=by
   simp only [Zo,hR.iW i cs b hb hρ]
   rw [if_pos ⟨i,cs,hb,hρ⟩,k3]
  have k6:VL (fun _=>none) (Zo ρ Z H HA) cs bk.cells:=k5.QA hp
  refine .z (.fz (bk:=bk) (ds:=bk.cells) hz hl.symm k5.1 (by rw [hl,k5.1];omega) (by rw [hl,k5.1,List.drop_zero,List.take_length]) fun q c d h1 h2=>?_)
  have hc:=List.all_eq_true.1 hp c (List.mem_of_getElem? h1)
  rw [(k5.2 q c d h1 h2).LG hc]
  exact .plain hc
theorem aqf {x:Bool} {g:Nat} {args args':List Value} {H:BH} {K:Value→BH→Prop} (ha:zJ H args args')
  (h:aJ false g args' [] fun v H1=>(∃j l e cs k n,v= .tuple ⟨[.slice (some ⟨j,0,none⟩) l e, .int k n]⟩∧blk H1 j=some cs∧cs.all Am.plain=true∧K (.tuple ⟨[.slice (some ⟨H.length,0,none⟩) l e, .int k n]⟩) (H++[some cs]))∨
   (∃vs,v= .tuple ⟨vs⟩∧vs.all Am.plain=true∧K v H)):aJ x g args H K:=by
 intro ρ Z as HA h1 h2
 have hzx: ∀b bk,Z b=some bk→Zo ρ Z H HA b=some bk:=fun b bk hb=>by simp only [Zo,hb]
 have hR0:Rel (fun _=>none) (Zo ρ Z H HA) [] HA:=by
  refine ⟨fun i cs h=>by simp [blk] at h,fun i j cs cs' b h=>by simp [blk] at h,fun i cs b h=>by simp [blk] at h,fun b bk hb=>?_,fun _ _=>rfl⟩
  cases hz:Z b with
  |some bk'=>
   rw [hzx b bk' hz] at hb;cases hb
   exact h2.jl b bk hz
  |none=>
   simp only [Zo,hz] at hb
   split at hb
   ·rename_i hex
    obtain ⟨i,cs,e1,e2⟩:=hex
    exact ⟨h2.lt e1 e2,hb⟩
   ·cases hb
 obtain ⟨v',HA',h3,_,eU,Z1,v,H1,h4,h5,_,_,h6,h8⟩:=h _ _ as HA (ha.vl h2 h1) hR0
 have hkeep: ∀b,b<HA.n→HA'.get b=HA.get b:=fun b hb=>h6.keep b hb fun i cs h=>by simp [blk] at h
 obtain ⟨Zf,Dx⟩: ∃Zf:Nat→Option dh,Zf=fun b=>if b<HA.n then Z b else Z1 b:=⟨_,rfl⟩
 have LH: ∀b bk,Z b=some bk→Zf b=some bk:=fun b bk hb=>by
  have:=(h2.jl b bk hb).1
  rw [Dx]
  simp only
  rw [if_pos this]
  exact hb
 have hfro: ∀b bk,Zf b=some bk→b<HA'.n∧HA'.get b=some bk:=fun b bk hb=>by
  rw [Dx] at hb
  simp only at hb
  split at hb
  ·rename_i hlt
   have:=(h2.jl b bk hb).2
   exact ⟨Nat.lt_of_lt_of_le hlt h6.n,by rw [hkeep b hlt];exact this⟩
  ·exact h5.jl b bk hb
 have hzn: ∀b bk,Zf b=some bk→Z b=some bk∨HA.n≤b:=fun b bk hb=>by
  rw [Dx] at hb
  simp only at hb
  split at hb
  ·exact .inl hb
  ·exact .inr (by omega)
 rcases h8 with ⟨j,l,e,cs,k,n,rfl,hj,hp,hK⟩|⟨vs,rfl,hp,hK⟩
 ·obtain ⟨b0,bk1,hb0,e2,e3,e4,e5⟩:=h5.gK j cs hj
  have hge:HA.n≤b0:=by
   rcases h6.own j cs b0 hj hb0 with h9|⟨i,cs',h9,_⟩
   ·exact h9
   ·simp [blk] at h9
  have hold: ∀i cs',blk (H++[some cs]) i=some cs'→(i=H.length∧cs'=cs)∨(i<H.length∧blk H i=some cs'):=fun i cs' hc=>by
   rcases Nat.lt_trichotomy i H.length with hi|hi|hi
   ·right
    refine ⟨hi,?_⟩
    unfold blk at hc⊢
    rwa [List.getElem?_append_left hi] at hc
   ·left
    subst hi
    unfold blk at hc
    rw [List.getElem?_append_right (Nat.le_refl _)] at hc
    simp at hc
    exact ⟨rfl,hc.symm⟩
   ·unfold blk at hc
    rw [List.getElem?_eq_none (by simp;omega)] at hc
    cases hc
  have hρ: ∀i,i<H.length→put ρ H.length b0 i=ρ i:=fun i hi=>by simp only [put];rw [if_neg (by omega)]
  have lF:put ρ H.length b0 H.length=some b0:=by simp [put]
  have hv:VR (put ρ H.length b0) Zf (.tuple ⟨[.slice (some ⟨H.length,0,none⟩) l e, .int k n]⟩) v':=by
   obtain ⟨ds,rfl,hl⟩:=h4.uO
   obtain ⟨ds⟩:=ds
   obtain ⟨d1,r1,rfl,w1,hl⟩:=hl.tZ
   obtain ⟨d2,r2,rfl,w2,hl⟩:=hl.tZ
   obtain rfl:=hl.nT
   obtain ⟨b,hb,rfl⟩:=w1.ng
   obtain rfl:=w2.int
   rw [hb0] at hb;cases hb
   exact .tuple rfl (VL.cons (.slice lF) (VL.cons (.z (.plain rfl)) VL.nil)).2
  refine ⟨_,HA',h3,fun _=>⟨h6.n,hkeep⟩,put ρ H.length b0,Zf,_,H++[some cs],hv,⟨fun i cs' hc=>?_,fun i i' cs1 cs2 b hc hc' hb hb'=>?_,fun i cs' b hc hb=>?_,hfro,fun i hi=>?_⟩,by simp,hρ,⟨h6.n,fun b hb _=>hkeep b hb,fun i cs' b hc hb=>?_,LH,fun b bk hb=>(hzn b bk hb).imp_right .inl⟩,hK⟩
  ·rcases hold i cs' hc with ⟨rfl,rfl⟩|⟨hi,hc⟩
   ·exact ⟨b0,bk1,lF,e2,e3,e4,e5.QA hp⟩
   ·obtain ⟨b,bk,k1,k2,k3,k4,k5⟩:=h2.gK i cs' hc
    refine ⟨b,bk,by rw [hρ i hi];exact k1,Nat.lt_of_lt_of_le k2 h6.n,by rw [hkeep b k2];exact k3,k4,k5.mono (fun q d hq=>?_) LH⟩
    rcases Nat.lt_or_ge q H.length with dM|dM
    ·rw [hρ q dM];exact hq
    ·rw [h2.top q dM] at hq;cases hq
  ·rcases hold i cs1 hc with ⟨rfl,rfl⟩|⟨hi,hc⟩<;>rcases hold i' cs2 hc' with ⟨rfl,_⟩|⟨hi',hc'⟩
   ·rfl
   ·rw [lF] at hb;cases hb
    rw [hρ i' hi'] at hb'
    have:=h2.lt hc' hb'
    omega
   ·rw [lF] at hb';cases hb'
    rw [hρ i hi] at hb
    have:=h2.lt hc hb
    omega
   ·rw [hρ i hi] at hb;rw [hρ i' hi'] at hb'
    exact h2.inj i i' cs1 cs2 b hc hc' hb hb'
  ·rcases hold i cs' hc with ⟨rfl,rfl⟩|⟨hi,hc⟩
   ·rw [lF] at hb;cases hb
    rw [Dx]
    simp only
    rw [if_neg (by omega)]
    exact h5.iW j _ b0 hj hb0
   ·rw [hρ i hi] at hb
    rw [Dx]
    simp only
    rw [if_pos (h2.lt hc hb)]
    exact h2.iW i cs' b hc hb
  ·simp only [List.length_append,List.length_singleton] at hi
   simp only [put]
   rw [if_neg (by omega)]
   exact h2.top i (by omega)
  ·rcases hold i cs' hc with ⟨rfl,rfl⟩|⟨hi,hc⟩
   ·rw [lF] at hb;cases hb
    exact .inl hge
   ·rw [hρ i hi] at hb
    exact .inr ⟨i,cs',hc,hb⟩
 ·have hv:VR ρ Zf (.tuple ⟨vs⟩) v':=by
   obtain ⟨ds,rfl,hl⟩:=h4.uO
   obtain ⟨ds⟩:=ds
   have:=hl.QA (ρ':=ρ) (Z':=Zf) hp
   exact .tuple this.1 this.2
  refine ⟨_,HA',h3,fun _=>⟨h6.n,hkeep⟩,ρ,Zf,_,H,hv,⟨fun i cs hc=>?_,h2.inj,fun i cs b hc hb=>?_,hfro,h2.top⟩,Nat.le_refl _,fun _ _=>rfl,⟨h6.n,fun b hb _=>hkeep b hb,fun i cs b hc hb=> .inr ⟨i,cs,hc,hb⟩,LH,fun b bk hb=>(hzn b bk hb).imp_right .inl⟩,hK⟩
  ·obtain ⟨b,bk,k1,k2,k3,k4,k5⟩:=h2.gK i cs hc
   exact ⟨b,bk,k1,Nat.lt_of_lt_of_le k2 h6.n,by rw [hkeep b k2];exact k3,k4,k5.mono (fun _ _ h=>h) LH⟩
  ·rw [Dx]
   simp only
   rw [if_pos (h2.lt hc hb)]
   exact h2.iW i cs b hc hb
end Go.Bm
namespace Go.Bm
open Go Go.Am
theorem amw {k:Nat} {c:aj} {Q:Ex→Fr→BH→Prop} {f:Fr} {H:BH} (h:T k (.seq c .skip) Q f H):T k c Q f H:=
 uP (fun f H ex f' H' hb=>by
  cases hb with
  |gq h1 h2=>cases h2;exact h1
  |fG h1 _=>exact h1) h
section
variable {n:Nat} {b w:List Nat}
def ug (n:Nat) (b w:List Nat) (bl wh:List Int):Prop:=
 (bl.length=(aP b n).length∧wh.length=(aP w n).length)∧(∀i,i<bl.length→1≤el bl i∧el bl i≤1000000000)∧(∀i,i<wh.length→1≤el wh i∧el wh i≤1000000000)
open Classical in
noncomputable def nY (n:Int) (b w:List Nat) (bl wh:List Int):Option (List Int)×Int:=
 if¬bC n b w then (none,1) else if¬ug n.toNat b w bl wh then (none,2) else if¬Tree n.toNat b w then (none,5)
 else if h: ∃W,Good b w n.toNat (bl++wh) W then (some h.choose,0) else (none,4)
def PW (r:Option (List Int)×Int) (v:Value) (H:BH):Prop:=
 match r with
 |(some W,c)=> ∃j,v= .tuple ⟨[S j 0 W.length 1,I c]⟩∧blk H j=some (W.map I)
 |(none,c)=>v= .tuple ⟨[.slice none 0 0,I c]⟩
theorem aaE {n:Int} {bl wh:List Int} (h: ¬bC n b w):nY n b w bl wh=(none,1):=by rw [nY,if_pos h]
theorem C9 {n:Int} {bl wh:List Int} (h:bC n b w) (h2: ¬ug n.toNat b w bl wh):nY n b w bl wh=(none,2):=by rw [nY,if_neg (by simpa using h),if_pos h2]
theorem aaH {n:Int} {bl wh:List Int} (h:bC n b w) (h2:ug n.toNat b w bl wh) (h3: ¬Tree n.toNat b w):nY n b w bl wh=(none,5):=by
 rw [nY,if_neg (by simpa using h),if_neg (by simpa using h2),if_pos h3]
theorem aaJ {bl wh W:List Int} (h:bC n b w) (h2:ug n b w bl wh) (h3:Tree n b w) (h4:Good b w n (bl++wh) W):nY n b w bl wh=(some W,0):=by
 have hex: ∃W,Good b w (n:Int).toNat (bl++wh) W:=⟨W,h4⟩
 have h5:Good b w n (bl++wh) hex.choose:=hex.choose_spec
 rw [nY,if_neg (by simpa using h),if_neg (by simpa using h2),if_neg (by simpa using h3),dif_pos hex,h5.uniq h h3 h4]
theorem Gn {bl wh:List Int} (h:bC n b w) (h2:ug n b w bl wh) (h3:Tree n b w) (h4: ∀W,¬Good b w n (bl++wh) W):nY n b w bl wh=(none,4):=by
 have hex: ¬ ∃W,Good b w (n:Int).toNat (bl++wh) W:=fun ⟨W,h⟩=>h4 W h
 rw [nY,if_neg (by simpa using h),if_neg (by simpa using h2),if_neg (by simpa using h3),dif_neg hex]
theorem Gm {a c:List Int} {i:Nat}:el (a++c) i=if i<a.length then el a i else el c (i-a.length):=by
 simp only [el,List.getD]
 split
 ·rename_i h;rw [List.getElem?_append_left h]
 ·rename_i h;rw [List.getElem?_append_right (by omega)]
theorem ug.all {bl wh:List Int} (h:ug n b w bl wh):(bl++wh).length=(aW b w n).length∧ ∀v,v<(aW b w n).length→1≤el (bl++wh) v∧el (bl++wh) v≤1000000000:=by
 obtain ⟨⟨h1,h2⟩,h3,h4⟩:=h
 have hl:(bl++wh).length=(aW b w n).length:=by rw [aW,List.length_append,List.length_append,h1,h2]
 refine ⟨hl,fun v hv=>?_⟩
 rw [Gm]
 rw [List.length_append] at hl
 split
 ·exact h3 v (by assumption)
 ·exact h4 _ (by omega)
def lf (b w:List Nat) (n:Nat) (s o:List Int):List Int:=(List.range (aW b w n).length).map fun v=>el s v-dL o (vl b w n v)
theorem xH {s o:List Int}:(lf b w n s o).length=(aW b w n).length:=by simp [lf]
theorem uV {s o:List Int} {v:Nat} (hv:v<(aW b w n).length):el (lf b w n s o) v=el s v-dL o (vl b w n v):=by
 simp [lf,el,List.getD,hv]
theorem am3 (hd:bC n b w) {o:List Int} (hl:o.length=n) {x:Nat} (hx:x<n) (h0:el o x=0) {r:Int} {v:Nat} (hv:v<(aW b w n).length):
  dL (o.set x r) (vl b w n v)=dL o (vl b w n v)+if v=ends b w n false x∨v=ends b w n true x then r else 0:=by
 obtain ⟨h1,h2,h3⟩:=wo hd hv
 by_cases hm:x∈vl b w n v
 ·have:=LJ (o:=o.set x r) (o':=o) h2 hm fun y hy hne=>by rw [at_set (by omega),if_neg hne]
  rw [at_set (by omega),if_pos rfl,h0] at this
  obtain ⟨c,_,hall⟩:=abu hd hv
  rw [og hv] at hm
  have hc:=(hall x hx).1 hm
  rw [if_pos (by cases c<;>simp [hc])]
  omega
 ·have e:dL (o.set x r) (vl b w n v)=dL o (vl b w n v):=abv fun y hy=>by
   have hne:y≠x:=fun e=>hm (by rw [←e];exact hy)
   rw [at_set (by omega),if_neg hne]
  rw [e,if_neg]
  ·omega
  ·rintro (rfl|rfl)
   ·exact hm ((kF hd hx).2 ⟨hx,rfl⟩)
   ·exact hm ((kF hd hx).2 ⟨hx,rfl⟩)
theorem aaN (hd:bC n b w) {x:Nat} (hx:x<n):ends b w n false x≠ends b w n true x:=by
 have:=qp hd.1 hx
 simp only [ends,Bool.false_eq_true,if_false,if_true]
 omega
theorem amx (hd:bC n b w) {s o:List Int} (hl:o.length=n) {x:Nat} (hx:x<n) (h0:el o x=0) {r:Int}:
  ((lf b w n s o).set (ends b w n false x) (el (lf b w n s o) (ends b w n false x)-r)).set (ends b w n true x) (el (lf b w n s o) (ends b w n true x)-r)=lf b w n s (o.set x r):=by
 have h1:=o7 hd (c:=false) hx
 have h2:=o7 hd (c:=true) hx
 have h3:=aaN hd hx
 refine LK (by rw [List.length_set,List.length_set,xH,xH]) fun v hv=>?_
 rw [List.length_set,List.length_set,xH] at hv
 rw [at_set (by rw [List.length_set,xH];exact h2),at_set (by rw [xH];exact h1),uV (o:=o.set x r) hv,am3 hd hl hx h0 hv]
 by_cases e1:v=ends b w n true x
 ·rw [if_pos e1,if_pos (.inr e1),uV h2,e1]
  omega
 ·rw [if_neg e1]
  by_cases e2:v=ends b w n false x
  ·rw [if_pos e2,if_pos (.inl e2),uV h1,e2]
   omega
  ·rw [if_neg e2,if_neg (by rintro (h|h);exact e2 h;exact e1 h),uV hv]
   omega
theorem abw {k i:Nat}:el (List.replicate k (0:Int)) i=0:=by
 simp only [el,List.getD,List.getElem?_replicate]
 split<;>rfl
theorem abx {k:Nat}: ∀{l:List Nat},dL (List.replicate k (0:Int)) l=0
 |[]=>rfl
 |a::l=>by
  have:= @abx k l
  simp only [dL,List.map_cons,List.sum_cons] at this⊢
  rw [abw]
  omega
theorem ams {s:List Int} {k:Nat} (hs:s.length=(aW b w n).length):lf b w n s (List.replicate k 0)=s:=by
 refine LK (by rw [xH,hs]) fun v hv=>?_
 rw [xH] at hv
 rw [uV hv,abx]
 omega
theorem aaK {o:List Int} {l:List Nat} {x:Nat}:opens o (l++[x])=if el o x=0 then opens o l++[x] else opens o l:=by
 simp only [opens,List.filter_append,List.filter_cons,List.filter_nil]
 split<;>split<;>simp_all
theorem P7 (hd:bC n b w) {s o:List Int} (hp:Part b w n s o) (M:Int) (hM: ∀x,x<n→el o x≤M) {l:List Nat} (hl: ∀x∈l,x<n):dL o l≤M*l.length:=by
 induction l with
 |nil=>simp [dL]
 |cons a l ih=>
  have h1:=hM a (hl a (by simp))
  have h2:=ih fun x hx=>hl x (by simp [hx])
  simp only [dL,List.map_cons,List.sum_cons,List.length_cons] at h2⊢
  have e:M*((l.length+1:Nat):Int)=M*(l.length:Int)+M:=by
   rw [Int.natCast_add,Int.mul_add];simp
  rw [e]
  omega
def Pass (b w:List Nat) (n:Nat) (o0 o:List Int) (again:Bool) (v:Nat):Prop:=
 (again=false→o=o0∧ ∀u,u<v→(opens o0 (vl b w n u)).length≠1)∧(again=true→left o n<left o0 n)
theorem P6 (hd:bC n b w) {s o:List Int} (hp:Part b w n s o) {l:List Nat} (hl: ∀x∈l,x<n):0≤dL o l:=by
 induction l with
 |nil=>simp [dL]
 |cons a l ih=>
  have h1:=hp.nn a (hl a (by simp))
  have h2:=ih fun x hx=>hl x (by simp [hx])
  simp only [dL,List.map_cons,List.sum_cons] at h2⊢
  omega
def PM (b w:List Nat) (n:Nat) (s o:List Int):Prop:=Part b w n s o∧ ∀x,x<n→el o x≤1000000000
theorem PM.zero {s:List Int}:PM b w n s (List.replicate n 0):=⟨Part.zero,fun x _=>by rw [abw];decide⟩
theorem PM.bd (hd:bC n b w) {s o:List Int} (h:PM b w n s o) (hs: ∀v,v<(aW b w n).length→1≤el s v∧el s v≤1000000000) {v:Nat} (hv:v<(aW b w n).length):
  -16000000000≤el (lf b w n s o) v∧el (lf b w n s o) v≤1000000000:=by
 obtain ⟨h1,h2,h3⟩:=wo hd hv
 have hn:=hd.1.1
 have h4:=P6 hd h.1 h3
 have h5:=P7 hd h.1 1000000000 h.2 h3
 have h6:=hs v hv
 rw [uV hv]
 have:(1000000000:Int)*((vl b w n v).length:Int)≤1000000000*16:=Int.mul_le_mul_of_nonneg_left (by omega) (by decide)
 omega
theorem PM.set (hd:bC n b w) {s o:List Int} (h:PM b w n s o) (hs: ∀v,v<(aW b w n).length→1≤el s v∧el s v≤1000000000) {v x:Nat} (hv:v<(aW b w n).length) (hx:opens o (vl b w n v)=[x])
  (hr:1≤el (lf b w n s o) v):PM b w n s (o.set x (el (lf b w n s o) v))∧left (o.set x (el (lf b w n s o) v)) n<left o n:=by
 have hb:=(h.bd hd hs hv).2
 have hxo:=rM.1 (show x∈opens o (vl b w n v) by rw [hx];simp)
 have hxn:=(wo hd hv).2.2 x hxo.1
 rw [uV hv] at hr hb⊢
 rw [og hv] at hx hr hb⊢
 refine ⟨⟨h.1.set hd hv hx hr,fun y hy=>?_⟩,?_⟩
 ·rw [at_set (by rw [h.1.len];exact hxn)]
  split
  ·exact hb
  ·exact h.2 y hy
 ·have:=NU (r:=el s v-dL o (aW b w n)[v]) h.1.len hxn hxo.2 (by omega)
  omega
end
end Go.Bm
namespace Go.Bm
open Go Go.Am
section
variable {n:Nat} {b w:List Nat}
theorem aaY {p:List Nat} (hp:Perm p n) {x:Nat} (hx:x<n): ∃P,P<n∧it p x P=x:=by
 obtain ⟨c,hc,hxc⟩:=zh hp hx
 have hi:=oJ hp hc
 have hl:=xB hi.jX hi.lt
 obtain ⟨j,hj,rfl⟩:=uU hxc
 refine ⟨c.length-1,by omega,?_⟩
 rw [LM hi hj,show j+1+(c.length-1)=j+c.length by omega,Nat.add_mod_right,Nat.mod_eq_of_lt hj]
theorem am4 {p:List Nat} (hp:Perm p n) {x z:Nat} (hx:x<n) (hz:z<n) (h:jI p n z=jI p n x): ∃i,it p x i=z:=by
 have hi:=oJ hp (List.getElem_mem (qp hp hx))
 have h1:=zK hp hx
 have h2:=zK hp hz
 simp only [h] at h2
 obtain ⟨j,hj,e1⟩:=uU h1
 obtain ⟨m,hm,e2⟩:=uU h2
 generalize (aP p n)[jI p n x]'(qp hp hx)=c at*
 refine ⟨m+c.length-(j+1),?_⟩
 rw [←e1,LM hi hj,show j+1+(m+c.length-(j+1))=m+c.length by omega,Nat.add_mod_right,Nat.mod_eq_of_lt hm,e2]
theorem aby {p:List Nat} {x P:Nat} (h:it p x P=x): ∀i,∃j,j≤P∧it p x i=it p x j
 |0=>⟨0,by omega,rfl⟩
 |i+1=>by
  obtain ⟨j,hj,e⟩:=aby h i
  by_cases hjP:j=P
  ·refine ⟨0,by omega,?_⟩
   show nl p (it p x i)=nl p x
   rw [e,hjP,h]
  ·exact ⟨j+1,by omega,by rw [it,e];rfl⟩
theorem KR {p:List Nat} (hp:Perm p n) {x:Nat} (hx:x<n): ∀i,jI p n (it p x i)=jI p n x
 |0=>wC hp hx
 |i+1=>by rw [it,wC hp (xK hp hx i),KR hp hx i]
def its (p:List Nat) (x k:Nat):List Nat:=(List.range k).map (it p x)
theorem Gu {p:List Nat} {x k:Nat}:its p x (k+1)=its p x k++[it p x k]:=by simp [its,List.range_succ]
theorem abz {p:List Nat} {x k z:Nat}:z∈its p x k↔ ∃i,i<k∧it p x i=z:=by simp [its]
theorem KQ (hd:bC n b w) {c:Bool} {x y:Nat}:ends b w n c x=ends b w n c y↔jI (pc b w c) n x=jI (pc b w c) n y:=by
 cases c<;>simp [ends,pc]
theorem P8 (hd:bC n b w) {c:Bool} {x k:Nat} (hx:x<n) (h:it (pc b w c) x k=x) {y:Nat} (hy:y∈vl b w n (ends b w n c x)):y∈its (pc b w c) x (k+1):=by
 have hp:Perm (pc b w c) n:=by cases c;exact hd.1;exact hd.2.1
 obtain ⟨h1,h2⟩:=(kF hd hx).1 hy
 obtain ⟨i,hi⟩:=am4 hp hx h1 ((KQ hd).1 h2)
 obtain ⟨j,hj,e⟩:=aby h i
 exact abz.2 ⟨j,by omega,by rw [←e,hi]⟩
theorem BP.sub {c:Bool} {cm:Int} {v:Nat} {L L' e s:List Nat} (h:BP b w n c cm v L e s) (h1: ∀y∈L,y∈L') (h2: ∀y∈L',y∈L∨(y:Int)=cm):BP b w n c cm v L' e s:=by
 rcases h with ⟨k1,k2,k3⟩|⟨y',l',k1,k2,k3,k4,k5,k6⟩
 ·refine .inl ⟨k1,k2,fun y hy=>?_⟩
  rcases h2 y hy with h|h
  ·exact k3 y h
  ·exact h
 ·refine .inr ⟨y',l',k1,k2,h1 _ k3,k4,k5,fun z hz hne=>?_⟩
  rcases h2 z hz with h|h
  ·exact k6 z h hne
  ·exact absurd h hne
theorem QB {x0:Bool} {H:BH} {K:Value→BH→Prop} (hb:By 16 b) (hw:By 16 w) (hd:bC n b w) (ht:Tree n b w) {c all:Bool} {x:Nat} (hx:x<n)
  (hrec: ∀y∈vl b w n (ends b w n c x),((y:Int)≠if all then-1 else (x:Int))→ ∀(x0:Bool) (H:BH) (K:Value→BH→Prop),(∀l,Lg b w n (!c) y l→K (Fz l.length 1 (l.map bT)) H)→
   aJ x0 Jk [DV n b w,I y, .bool (!c), .bool false] H K)
  (hK: ∀e s,BP b w n c (if all then-1 else (x:Int)) (ends b w n c x) (vl b w n (ends b w n c x)) e s→K (Fz e.length 1 (e.map bT)) H):
  aJ x0 Jk [DV n b w,I x, .bool c, .bool all] H K:=by
 have hlb:=hb.len
 have cZ:=hw.len
 have hn:=hd.1.1
 have hp:Perm (pc b w c) n:=by cases c;exact hd.1;exact hd.2.1
 have hpl:(pc b w c).length=16:=by cases c;exact hlb;exact cZ
 obtain ⟨P0,hP,hPx⟩:=aaY hp hx
 generalize hcm:(if all then (-1:Int) else (x:Int))=cm at hrec hK
 have hpx:=hp.lt hx
 refine dw (.cons fC (.cons .int (.cons .bool (.cons .bool .nil)))) ?_
 refine bf agW ?_;simp only [dU,aG]
 refine au @aH ?_
 refine au (aX @aH @aK @Df) ?_
 have hmain: ∀f',f' 1=I x→f' 2= .bool c→f' 3= .bool all→f' 4=P 0 0→f' 9=P 2 0→f' 10=S 1 0 0 1→
   T 0 (.seq dU.r4 (.seq (.seq dU.r5 (.block 0 (.loop dU.l0))) (.seq dU.r16 .ret))) (jq 0 [.tmp 8] fun v _=>NN v∧K v H) f' [some (DC n b w),some [],some ((pc b w c).map N8)]:=by
  intro f' g1 g2 g3 g4 g9 g10
  refine au (aX @g1 @g9 @hpl) ?_
  refine aB ?_
  refine bM (fun m f H'=> ∃i y e s,i≤P0∧m=P0-i∧y=it (pc b w c) x i∧BP b w n c cm (ends b w n c x) (its (pc b w c) x i) e s∧f 1=I x∧f 2= .bool c∧f 3= .bool all∧f 4=P 0 0∧f 9=P 2 0∧f 10=S 1 0 e.length 1∧f 11=I y∧f 12=I i∧H'=[some (DC n b w),some (e.map bT),some ((pc b w c).map N8)]) (P0) ?_ ?_
  ·exact ⟨_,_,Gh.refl,0,nl (pc b w c) x,[],[ends b w n c x],by omega,by omega,rfl, .inl ⟨rfl,rfl,by simp [its]⟩,ah,ah,ah,ah,ah,ah,ah,ah,rfl⟩
  ·clear g1 g2 g3 g4 g9 g10
   rintro m f H' R ⟨i,y,e,s,hi,rfl,hy,hbp,g1,g2,g3,g4,g9,g10,g11,g12,rfl⟩ hN hX hR hE
   simp only [dU.l0,aG]
   have hyn:y<n:=by rw [hy];exact xK hp hx i
   have hpy:=hp.lt hyn
   have hyv:y∈vl b w n (ends b w n c x):=(kF hd hx).2 ⟨hyn,(KQ hd).2 (by rw [hy,KR hp hx])⟩
   have hsub: ∀k,∀z∈its (pc b w c) x k,z∈vl b w n (ends b w n c x):=fun k z hz=>by
    obtain ⟨j,hj,e⟩:=abz.1 hz
    exact (kF hd hx).2 ⟨by rw [←e];exact xK hp hx j,(KQ hd).2 (by rw [←e,KR hp hx])⟩
   have hel:e.length≤17:=by
    rcases hbp.len.2 with h|⟨z,hz,h⟩
    ·rw [h];simp
    ·have:=zH hd ht (c:= !c) (((kF hd hx).1 (hsub _ z hz)).1)
     omega
   refine au (bG @g4 @g12 @aH @aK) ?_
   refine dI ?_
   have hgo: ∀f',(y:Int)≠cm→f' 1=I x→f' 2= .bool c→f' 3= .bool all→f' 4=P 0 0→f' 9=P 2 0→f' 10=S 1 0 e.length 1→f' 11=I y→f' 12=I i→
     T 0 (.seq dU.r10 (.seq (.seq (.seq dU.r11 (.cond (.t 50) dU.r12 .skip)) (.seq (.seq dU.r13 (.cond (.t 54) (.seq dU.eP .ret) .skip)) dU.gG)) dU.r7)) R f' [some (DC n b w),some (e.map bT),some ((pc b w c).map N8)]:=by
    clear g1 g2 g3 g4 g9 g10 g11 g12
    intro f' hne g1 g2 g3 g4 g9 g10 g11 g12
    have hlast: ∀f' e' s',BP b w n c cm (ends b w n c x) (its (pc b w c) x (i+1)) e' s'→f' 1=I x→f' 2= .bool c→f' 3= .bool all→f' 4=P 0 0→f' 9=P 2 0→f' 10=S 1 0 e'.length 1→f' 11=I y→f' 12=I i→
      T 0 (.seq dU.r13 (.seq (.cond (.t 54) (.seq dU.eP .ret) .skip) (.seq dU.gG dU.r7))) R f' [some (DC n b w),some (e'.map bT),some ((pc b w c).map N8)]:=by
     clear g1 g2 g3 g4 g9 g10 g11 g12
     intro f' e' s' hb' g1 g2 g3 g4 g9 g10 g11 g12
     refine au (aC @g1 @g11) ?_
     refine aV (y=x) (fun hc=>?_) fun hc=>?_
     ·have hb2:=hb'.sub (L':=vl b w n (ends b w n c x)) (hsub _) (fun z hz=> .inl (P8 hd hx (by rw [←hy];exact hc) hz))
      refine au @g10 ?_
      refine hR _ _ ?_
      refine ji (by simp (disch:=omega) only [RA,↓reduceIte,Nat.reduceEqDiff,Nat.reduceBEq,Nat.reduceSub,Nat.reduceAdd,Nat.reduceMul,Nat.reduceLT,Nat.reduceLeDiff,Int.reduceLE,Int.reduceLT,Int.reduceEq,Int.reduceNeg,Int.reduceToNat,Int.reduceMul,Int.reduceAdd,Int.reduceSub,Int.reduceBEq,Int.reduceBNe,reduceCtorEq,RD,dS,gJ];rfl) (dK.fz (i:=1) (by simp (disch:=omega) only [RA,↓reduceIte,Nat.reduceEqDiff,Nat.reduceBEq,Nat.reduceSub,Nat.reduceAdd,Nat.reduceMul,Nat.reduceLT,Nat.reduceLeDiff,Int.reduceLE,Int.reduceLT,Int.reduceEq,Int.reduceNeg,Int.reduceToNat,Int.reduceMul,Int.reduceAdd,Int.reduceSub,Int.reduceBEq,Int.reduceBNe,reduceCtorEq,RD];rfl) (by simp only [RH])) ?_;simp only [aF,kL]
      rw [kS (by simp)]
      exact ⟨.fz,hK _ _ hb2⟩
     ·have hiP:i<P0:=by
       rcases Nat.lt_or_ge i P0 with h|h
       ·exact h
       ·exact absurd (by rw [hy,show i=P0 by omega,hPx]) hc
      refine au (aX @g9 @g11 @hpl) ?_
      refine bI @g12 ?_
      exact hN (P0-(i+1)) _ _ _ _ (by omega) Gh.refl ⟨i+1,nl (pc b w c) y,e',s',by omega,rfl,by rw [it,hy],hb',ah,ah,ah,ah,ah,ah,ah,ah,rfl⟩
    refine aY (jk @g2 @g4 @g11 @aH @aK) fun Kr hKr=>?_
    refine hrec y hyv hne _ _ _ fun l hl=>?_
    have hll:l.length≤16:=by
     have:=zH hd ht (c:= !c) hyn
     have:=hl.len
     omega
    refine bP (aC @vZ @Qv) ?_
    refine aI hKr ?_
    refine au @g10 ?_
    refine aV (e.length<l.length+1) (fun hc=>?_) fun hc=>?_
    ·have abA:=hbp.better hne hl (by omega)
     rw [hy,←Gu] at abA
     refine aB ?_
     refine jO (Gh.nrm [0,4,2] rfl rfl (by simp only [RH,RV])) ?_
     exact hlast _ (y::l) _ (by rw [hy];exact abA) ah ah ah ah ah ah ah ah
    ·have hwo:=hbp.worse hl (by omega)
     rw [hy,←Gu] at hwo
     refine jO (Gh.nrm [0,1,2] rfl rfl (by simp only [RH,RV])) ?_
     exact hlast _ e s hwo ah ah ah ah ah ah ah ah
   by_cases hyx:y=x
   ·cases all with
    |false=>
     have hb2:=hbp.sub (L':=vl b w n (ends b w n c x)) (hsub _) (fun z hz=>by
      have h1:=P8 hd hx (by rw [←hy];exact hyx) hz
      rw [Gu] at h1
      rcases List.mem_append.1 h1 with h|h
      ·exact .inl h
      ·rw [List.mem_singleton.1 h,←hy,hyx,←hcm];exact .inr rfl)
     refine bK ?_
     refine au (aX @g1 @g3 @g11) ?_
     refine dI ?_
     refine au @g10 ?_
     refine hR _ _ ?_
     refine ji (by simp (disch:=omega) only [RA,↓reduceIte,Nat.reduceEqDiff,Nat.reduceBEq,Nat.reduceSub,Nat.reduceAdd,Nat.reduceMul,Nat.reduceLT,Nat.reduceLeDiff,Int.reduceLE,Int.reduceLT,Int.reduceEq,Int.reduceNeg,Int.reduceToNat,Int.reduceMul,Int.reduceAdd,Int.reduceSub,Int.reduceBEq,Int.reduceBNe,reduceCtorEq,RD,dS,gJ];rfl) (dK.fz (i:=1) (by simp (disch:=omega) only [RA,↓reduceIte,Nat.reduceEqDiff,Nat.reduceBEq,Nat.reduceSub,Nat.reduceAdd,Nat.reduceMul,Nat.reduceLT,Nat.reduceLeDiff,Int.reduceLE,Int.reduceLT,Int.reduceEq,Int.reduceNeg,Int.reduceToNat,Int.reduceMul,Int.reduceAdd,Int.reduceSub,Int.reduceBEq,Int.reduceBNe,reduceCtorEq,RD];rfl) (by simp only [RH])) ?_;simp only [aF,kL]
     rw [kS (by simp)]
     exact ⟨.fz,hK _ _ hb2⟩
    |true=>
     refine bK ?_
     refine au (aX @g1 @g3 @g11) ?_
     refine bY ?_
     exact hgo _ (by rw [←hcm];simp) ah ah ah ah ah ah ah ah
   ·refine bK ?_
    refine au (aX @g1 @g3 @g11) ?_
    refine bY ?_
    exact hgo _ (by rw [←hcm];cases all<;>simp<;>omega) ah ah ah ah ah ah ah ah
 cases c with
 |false=>
  refine aB ?_
  refine bY ?_
  exact hmain _ ah ah ah ah ah ah
 |true=>
  refine aB ?_
  refine dI ?_
  refine au (aX @aH @aK @Df) ?_
  exact hmain _ ah ah ah ah ah ah
theorem am5 (hb:By 16 b) (hw:By 16 w) (hd:bC n b w) (ht:Tree n b w): ∀(r:Nat) (c:Bool) (y:Nat),y<n→(behind b w n c y).length≤r→ ∀(x:Bool) (H:BH) (K:Value→BH→Prop),
  (∀l,Lg b w n c y l→K (Fz l.length 1 (l.map bT)) H)→aJ x Jk [DV n b w,I y, .bool c, .bool false] H K:=by
 intro r
 induction r with
 |zero=>
  intro c y hy hr x H K hK
  refine QB hb hw hd ht (c:=c) (all:=false) hy (fun z hz hne=>?_) (fun e s h=>hK e (h.lg hd ht hy).1)
  obtain ⟨h1,h2⟩:=(kF hd hy).1 hz
  have:=qQ hd ht hy h1 (fun e=>hne (by rw [e];rfl)) h2
  omega
 |succ r ih=>
  intro c y hy hr x H K hK
  refine QB hb hw hd ht (c:=c) (all:=false) hy (fun z hz hne=>?_) (fun e s h=>hK e (h.lg hd ht hy).1)
  obtain ⟨h1,h2⟩:=(kF hd hy).1 hz
  have:=qQ hd ht hy h1 (fun e=>hne (by rw [e];rfl)) h2
  exact ih (!c) z h1 (by omega)
theorem abB (hb:By 16 b) (hw:By 16 w) (hd:bC n b w) (ht:Tree n b w) {c:Bool} {y0:Nat} (hy0:y0<n) {x:Bool} {H:BH} {K:Value→BH→Prop}
  (hK: ∀y l,Lm b w n c (ends b w n c y0) (y::l)→K (Fz (y::l).length 1 ((y::l).map bT)) H):aJ x Jk [DV n b w,I y0, .bool c, .bool true] H K:=by
 refine QB hb hw hd ht (c:=c) (all:=true) hy0 (fun z hz hne=>am5 hb hw hd ht _ (!c) z ((kF hd hy0).1 hz).1 (Nat.le_refl _)) (fun e s h=>?_)
 rcases h with ⟨h1,h2,h3⟩|⟨y,l,h1,h2,h3,h4,h5,h6⟩
 ·have:(y0:Int)= -1:=h3 y0 ((kF hd hy0).2 ⟨hy0,rfl⟩)
  omega
 ·subst h1
  obtain ⟨k1,k2⟩:=(kF hd hy0).1 h3
  exact hK y l ⟨k1,k2,h5,fun z hz hz2=>h6 z ((kF hd hy0).2 ⟨hz,hz2⟩) (by simp)⟩
def LQ (b w:List Nat) (n:Nat) (e:List Nat) (cu:Bool):Prop:=
 ∃pre x l,e=pre++x::l∧Mid b w n (!(cu^^decide (pre.length%2=1))) x e.length∧(l.length=pre.length∨l.length=pre.length+1)∧
  (∀y l',l=y::l'→y<n∧ends b w n (!(cu^^decide (pre.length%2=1))) y=ends b w n (!(cu^^decide (pre.length%2=1))) x)
theorem Lg.adj {x y:Nat} {l':List Nat}: ∀{pre l:List Nat} {c:Bool} {z:Nat},Lg b w n c z l→z::l=pre++x::y::l'→Nb b w n (c^^decide (pre.length%2=1)) x y
 |[],l,c,z,h,e=>by
  rw [List.nil_append,List.cons.injEq] at e
  obtain ⟨rfl,rfl⟩:=e
  rw [Lg] at h
  simpa using h.1
 |a::pre,[],c,z,h,e=>by simp at e
 |a::pre,z'::l,c,z,h,e=>by
  rw [List.cons_append,List.cons.injEq] at e
  rw [Lg] at h
  have ih:=Lg.adj h.2.2 e.2
  have e2:((!c)^^decide (pre.length%2=1))=(c^^decide ((a::pre).length%2=1)):=by
   rw [List.length_cons]
   rcases Nat.mod_two_eq_zero_or_one pre.length with e|e<;>cases c<;>simp [e]<;>omega
  rw [←e2]
  exact ih
theorem aaX {x:Bool} {H:BH} {K:Value→BH→Prop} (hb:By 16 b) (hw:By 16 w) (hd:bC n b w) (ht:Tree n b w)
  (hK: ∀e cu,LQ b w n e cu→e.length≤17→K (.tuple ⟨[Fz e.length 1 (e.map bT), .bool cu]⟩) H):aJ x aeU [DV n b w] H K:=by
 have hlb:=hb.len
 have cZ:=hw.len
 have hn:=hd.1.1
 have hn0:0<n:=by omega
 refine dw (.cons fC .nil) ?_
 refine bf agA ?_;simp only [qX,aG]
 refine au @aH ?_
 refine aY (aC @aH @aK) fun Kr hKr=>?_
 refine abB (y0:=0) hb hw hd ht hn0 fun f0 f hf=>?_
 have hfl:f.length≤16:=by
  have:=hf.2.2.1.len
  have:=zH hd ht (c:= !false) hf.1
  omega
 have Dp:((!false)^^decide (f.length%2=1))=decide ((f.length+1)%2=1):=by
  rcases Nat.mod_two_eq_zero_or_one f.length with e|e<;>simp [e]<;>omega
 have hsn:=Lp (b:=b) (w:=w) (n:=n) (c:= !false) (x:=f0) (l:=f) (Nat.le_refl _)
 have AZ:nl (f0::f) f.length<n:=Lg.lt hf.1 hf.2.2.1 _ (iM (by simp))
 have hsl:(f0::f).length=f.length+1:=rfl
 generalize hlast:nl (f0::f) f.length=last at hsn AZ
 rw [Dp] at hsn
 generalize hf0:f0::f=e0 at hsl hlast⊢
 refine aO ?_
 refine aI hKr ?_
 have e1:((e0.length:Nat):Int)-1=(f.length:Nat):=by omega
 have e2:decide ((e0.length:Int).tmod 2=1)=decide ((f.length+1)%2=1):=by
  rw [show (2:Int)=((2:Nat):Int) from rfl,←Int.ofNat_tmod]
  exact decide_eq_decide.2 (by omega)
 refine au @e2 ?_
 refine au (aX @e1 @mD @hlast) ?_
 generalize hw1:decide ((f.length+1)%2=1)=cu at Dp hsn e2
 refine aY (aC @aH @aK) fun Kr hKr=>?_
 refine abB (c:=cu) (y0:=last) hb hw hd ht AZ fun y l he=>?_
 obtain ⟨pre,x,l',c,k1,k2,k3,k4⟩:=sweep hd ht hf Dp.symm hsn.symm he
 have hel:(y::l).length≤17:=by
  have:=he.2.2.1.len
  have:=zH hd ht (c:= !cu) he.1
  rw [List.length_cons]
  omega
 have hLQ:LQ b w n (y::l) cu:=by
  refine ⟨pre,x,l',k1,by rw [←k2];exact k3,k4,fun z l2 hz=>?_⟩
  rw [hz] at k1
  have h1:=he.2.2.1.adj k1
  have e3:((!cu)^^decide (pre.length%2=1))= !(cu^^decide (pre.length%2=1)):=by cases cu<;>simp
  rw [e3] at h1
  exact ⟨h1.1,h1.2.2⟩
 have Dq:=hK _ _ hLQ hel
 generalize y::l=e at Dq⊢
 refine aO ?_
 refine aI hKr ?_
 refine aU ?_
 refine ⟨NN.tuple fun c hc=>?_,Dq⟩
 rcases List.mem_cons.1 hc with rfl|hc
 ·exact .fz
 ·rw [List.mem_singleton.1 hc]
  exact .bool
end
end Go.Bm
