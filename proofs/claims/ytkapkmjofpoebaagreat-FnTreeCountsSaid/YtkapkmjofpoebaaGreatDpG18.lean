/- SpU, DpMj, DpNi, DpNd, DpNg, DpKa, DpDe, DpDk, DpDl, DpKb, DpKc, DpKd, DpKe, DpLd, DpLe, DpLf, DpLg -/
import Derived.Test.YtkapkmjofpoebaaGreatDpG16
import Derived.Test.YtkapkmjofpoebaaGreatDpG17
import Derived.Test.YtkapkmjofpoebaaGreatDpG4
set_option linter.unusedVariables false
set_option linter.unusedSimpArgs false
namespace Go.Am
open Go
theorem aoq {z:Value} {H:aA} {a b:Option Addr} {n e n' e':Nat}:Ej 1 2 [z] [(0,1, .slice a n e),(1,1, .slice b n' e')] H=some (S H.n 0 2 1,H.alloc [.slice a n e, .slice b n' e']):=rfl
theorem aor {z:List Value}:dG z []=some z:=rfl
theorem aos {H:aA} {q:Nat} {a b c d:Int}:stB (some ⟨[I a,I b],true⟩) H q 0 2 (eY [I c,I d])=some (undef,H.set q [I c,I d]):=rfl
def zQ (zs:List Int):Prop:=Ty zs∧zs.length≤16
theorem aot {xs ys:List Int} (hx:zQ xs) (hy:zQ ys):lH xs ys↔(sm xs xs.length=sm ys ys.length∧1≤sm xs xs.length∧sm xs xs.length≤16):=⟨fun h=>h.2.2,fun h=>⟨hx.1,hy.1,h⟩⟩
theorem acQ {xs ys:List Int} (h:lH xs ys):zQ xs∧zQ ys:=by
 have hl:=Hr h
 exact ⟨⟨h.1,hl.2.1⟩,h.2.1,hl.2.2.2⟩
theorem sm_hi {xs:List Int} {n:Nat} (h: ∀i,i<n→uq xs i):sm xs n≤16*n:=by
 induction n with
 |zero=>exact Int.le_refl _
 |succ n ih=>
  have h1:=ih fun i hi=>h i (by omega)
  have h2:=(h n (by omega)).2.1
  show sm xs n+el xs n≤_
  omega
def sums (xs ys:List Int) (q i:Nat):List Value:=if q=0 then [I (sm xs i),I 0] else if q=1 then [I (sm xs xs.length),I (sm ys i)] else [I (sm xs xs.length),I (sm ys ys.length)]
theorem aou {H:aA} {q:Nat} {a b c:Int}:stB (some ⟨[I a,I b],true⟩) H q 0 1 (I c)=some (undef,H.set q [I c,I b]):=rfl
theorem aov {H:aA} {q:Nat} {a b c:Int}:stB (some ⟨[I a,I b],true⟩) H q 1 1 (I c)=some (undef,H.set q [I a,I c]):=rfl
theorem acR {H:aA} {v u:Value} {xs ys:List Int} {K:Value→aA→Prop} (hx:jQ H v xs) (hl:xs.length≤2000000) (hy:jQ H u ys) (AZ:ys.length≤2000000)
  (hK: ∀H' s,Ext H H'→(lH xs ys→s=sm xs xs.length)→K (.tuple ⟨[I s, .bool (decide (lH xs ys))]⟩) H'):kP Ub [v,u] H K:=by
 obtain ⟨a,e,rfl⟩:=hx.len
 obtain ⟨a',e',rfl⟩:=hy.len
 refine vw af7 ?_;simp only [gQ,aG]
 refine bD fun Kr hKr=>?_;simp (disch:=omega) only [RF,RO,RC,aF,↓reduceIte,Nat.reduceEqDiff,RD];refine hKr _ _ ?_;clear hKr Kr;try simp only [RN,Bool.false_eq_true,reduceIte]
 refine bD fun Kr hKr=>?_;simp (disch:=omega) only [RF,RO,RC,aF,↓reduceIte,Nat.reduceEqDiff,RD,aoq,JJ,aor,JI,Nc,aos];refine hKr _ _ ?_;clear hKr Kr;try simp only [RN,Bool.false_eq_true,reduceIte]
 refine bD fun Kr hKr=>?_;simp (disch:=omega) only [RF,RO,RC,aF,↓reduceIte,Nat.reduceEqDiff,RD];refine hKr _ _ ?_;clear hKr Kr;try simp only [RN,Bool.false_eq_true,reduceIte]
 refine bM (fun n f H'=> ∃k,k≤2∧n=2-k∧Ext H H'∧H'.n=H.n+2∧H'.get H.n=some ⟨[.slice a xs.length e, .slice a' ys.length e'],true⟩∧H'.get (H.n+1)=some ⟨sums xs ys k 0,true⟩∧f 6=S H.n 0 2 1∧f 7=P (H.n+1) 0∧f 8=I k∧(0<k→zQ xs)∧(1<k→zQ ys)) (2) ?_ ?_
 ·refine ⟨0,by omega,by omega,((Ext.alloc _ _).alloc' _).set (by simp [Ji]) _,rfl,?_,get_set_same _ _ _,by simp [RF],by simp [RF,Ji],by simp [RF],by omega,by omega⟩
  rw [Ec _ _ _ _ (by simp [Ji]),TQ _ _ _ (by simp [Ji]),Nc]
 ·rintro n f H' R ⟨k,hk,rfl,he,hn,hg1,hg2,h6,h7,h8,ht1,ht2⟩ hN hX hR
  simp only [gQ.l1,aG]
  have hk3:k=0∨k=1∨k=2:=by omega
  rcases hk3 with rfl|rfl|rfl
  ·refine bD fun Kr hKr=>?_;simp (disch:=omega) only [RF,RO,RC,aF,↓reduceIte,Nat.reduceEqDiff,Int.reduceLT,RD,h8];refine hKr _ _ ?_;clear hKr Kr;try simp only [RN,Bool.false_eq_true,reduceIte]
   refine dW (t:=true) (by simp (disch:=omega) only [RF,RO,RC,aF,↓reduceIte,Nat.reduceEqDiff,dZ,eF]) ?_;try simp only [RN,Bool.false_eq_true,reduceIte]
   (first|refine uw rfl ?_|refine uy rfl ?_);try simp only [RN,Bool.false_eq_true,reduceIte]
   refine bD fun Kr hKr=>?_;simp (disch:=omega) only [RF,RO,RC,aF,↓reduceIte,Nat.reduceEqDiff,RD];refine hKr _ _ ?_;clear hKr Kr;try simp only [RN,Bool.false_eq_true,reduceIte]
   refine bM (fun n f H'=> ∃i,i≤xs.length∧n=xs.length-i∧Ext H H'∧H'.n=H.n+2∧H'.get H.n=some ⟨[.slice a xs.length e, .slice a' ys.length e'],true⟩∧H'.get (H.n+1)=some ⟨[I (sm xs i),I 0],true⟩∧f 6=S H.n 0 2 1∧f 7=P (H.n+1) 0∧f 8=I 0∧f 9=I i∧(∀j,j<i→uq xs j)∧i≤16) (xs.length) ?_ ?_
   ·exact ⟨0,by omega,by omega,he,hn,hg1,by simpa [sums,sm] using hg2,by simp [RF,h6],by simp [RF,h7],by simp [RF,h8],by simp [RF],by simp,by omega⟩
   ·clear h6 h7 h8 he hg1 hg2 hn
    rintro n f H' R2 ⟨i,hi,rfl,he,hn,hg1,hg2,h6,h7,h8,h9,hok,Ht⟩ iG hX2 hR2
    simp only [gQ.l0,aG]
    refine bD fun Kr hKr=>?_;simp (disch:=omega) only [RF,RO,RC,aF,↓reduceIte,Nat.reduceEqDiff,RD,h6,h8,h9,hg1,List.getElem?_cons_zero,List.getElem?_cons_succ];refine hKr _ _ ?_;clear hKr Kr;try simp only [RN,Bool.false_eq_true,reduceIte]
    by_cases hlt:i<xs.length
    ·refine dW (t:=true) (by simp (disch:=omega) only [RF,RO,RC,aF,↓reduceIte,Nat.reduceEqDiff,dZ,eF]) ?_;try simp only [RN,Bool.false_eq_true,reduceIte]
     (first|refine uw rfl ?_|refine uy rfl ?_);try simp only [RN,Bool.false_eq_true,reduceIte]
     obtain ⟨b,o,blk,heq,hb,hg,hlen,hel⟩:=(hx.ext he).pos (by omega)
     cases heq
     have aow:=sm_lo hok
     have aox:=sm_hi hok
     have hbad: ∀(c:aj) (f':Fr),¬zQ xs→T (aj.seq gQ.r9 (.seq .ret c)) R2 f' H':=by
      intro c f' hno
      refine bD fun Kr hKr=>?_;simp (disch:=omega) only [RF,RO,RC,aF,↓reduceIte,Nat.reduceEqDiff,RD];refine hKr _ _ ?_;clear hKr Kr;try simp only [RN,Bool.false_eq_true,reduceIte]
      refine hR2 _ _ (hR _ _ ?_)
      refine ⟨_,rfl,?_⟩;simp only [RF,jZ,kU,aF,↓reduceIte,Nat.reduceEqDiff]
      have hno': ¬lH xs ys:=fun h=>hno (acQ h).1
      have:=hK H' 0 he (fun h=>absurd h hno')
      simpa [hno'] using this
     have hgood: ∀(f':Fr),f' 6=S H.n 0 2 1→f' 7=P (H.n+1) 0→f' 8=I 0→f' 9=I i→uq xs i→i<16→T (aj.seq gQ.r10 gQ.r7) R2 f' H':=by
      intro f' h6 h7 h8 h9 hoi Ht
      have h1:=hoi.1
      have h2:=hoi.2.1
      have hss:sm xs i+el xs i=sm xs (i+1):=rfl
      refine bD fun Kr hKr=>?_;simp (disch:=omega) only [RF,RO,RC,aF,↓reduceIte,Nat.reduceEqDiff,RD,h6,h7,h8,h9,hg1,hg2,hg,hel,Ad,JW,List.getElem?_cons_zero,List.getElem?_cons_succ,hss,aou];refine hKr _ _ ?_;clear hKr Kr;try simp only [RN,Bool.false_eq_true,reduceIte]
      refine oQ fun Kr hKr=>?_;simp (disch:=omega) only [RF,RO,RC,aF,↓reduceIte,Nat.reduceEqDiff,RD,h9];refine hKr _ _ ?_;clear hKr Kr
      refine iG (xs.length-(i+1)) _ _ (by omega) ⟨i+1,by omega,rfl,he.set (by omega) _,hn,?_,get_set_same _ _ _,by simp [RF,h6],by simp [RF,h7],by simp [RF,h8],by simp [RF],fun j hj=>?_,by omega⟩
      ·rw [Ec _ _ _ _ (by omega)];exact hg1
      ·by_cases ej:j=i
       ·subst ej;exact hoi
       ·exact hok j (by omega)
     by_cases c1:1≤el xs i∧el xs i≤16
     ·by_cases hi0:i=0
      ·subst hi0
       have Hu:=hel 0 (by omega)
       rw [Nat.add_zero] at Hu
       refine bD fun Kr hKr=>?_;simp (disch:=omega) only [RF,RO,RC,aF,↓reduceIte,Nat.reduceEqDiff,Int.reduceToNat,RD,h6,h8,h9,hg1,hg,Hu,List.getElem?_cons_zero,List.getElem?_cons_succ]
       refine vU ?_
       rw [decide_eq_true c1]
       simp (disch:=omega) only [RF,RO,RC,aF,↓reduceIte,Nat.reduceEqDiff,RD,h9,Ext.refl']
       refine hKr _ _ ?_;clear hKr Kr;(try simp only [gu,iH,iP]);try simp only [RN,Bool.false_eq_true,reduceIte]
       refine dW (t:=false) (by simp (disch:=omega) only [RF,RO,RC,aF,↓reduceIte,Nat.reduceEqDiff,dZ,eF]) ?_;try simp only [RN,Bool.false_eq_true,reduceIte]
       exact hgood _ (by simp [RF,h6]) (by simp [RF,h7]) (by simp [RF,h8]) (by simp [RF,h9]) ⟨c1.1,c1.2,fun h=>by omega⟩ (by omega)
      ·obtain ⟨j,rfl⟩: ∃j,i=j+1:=⟨i-1,by omega⟩
       have hj:((j+1:Nat):Int)-1=(j:Int):=by omega
       have hjl:j<xs.length:=by omega
       refine bD fun Kr hKr=>?_;simp (disch:=omega) only [RF,RO,RC,aF,↓reduceIte,Nat.reduceEqDiff,Nat.reduceSub,Int.reduceLE,Int.reduceToNat,RD,h6,h8,h9,hg1,hg,hel,List.getElem?_cons_zero,List.getElem?_cons_succ]
       refine vU ?_
       rw [decide_eq_true c1]
       by_cases c3:el xs j<el xs (j+1)
       ·simp (disch:=omega) only [RF,RO,RC,aF,↓reduceIte,Nat.reduceEqDiff,Nat.reduceLT,Int.reduceToNat,RD,h6,h8,h9,hg1,hg,hel,hj,hjl,Ext.refl',List.getElem?_cons_zero,List.getElem?_cons_succ]
        refine hKr _ _ ?_;clear hKr Kr;(try simp only [gu,iH,iP]);try simp only [RN,Bool.false_eq_true,reduceIte]
        refine dW (t:=true) (by simp (disch:=omega) only [RF,RO,RC,aF,↓reduceIte,Nat.reduceEqDiff,dZ,eF]) ?_;try simp only [RN,Bool.false_eq_true,reduceIte]
        exact hbad _ _ fun h=>by have:=(h.1 (j+1) hlt).2.2 (by omega);simp only [Nat.add_sub_cancel] at this;omega
       ·by_cases c4:16≤j+1
        ·simp (disch:=omega) only [RF,RO,RC,aF,↓reduceIte,Nat.reduceEqDiff,Nat.reduceLT,Int.reduceToNat,RD,h6,h8,h9,hg1,hg,hel,hj,hjl,Ext.refl',List.getElem?_cons_zero,List.getElem?_cons_succ]
         refine hKr _ _ ?_;clear hKr Kr;(try simp only [gu,iH,iP]);try simp only [RN,Bool.false_eq_true,reduceIte]
         refine dW (t:=true) (by simp (disch:=omega) only [RF,RO,RC,aF,↓reduceIte,Nat.reduceEqDiff,dZ,eF]) ?_;try simp only [RN,Bool.false_eq_true,reduceIte]
         exact hbad _ _ fun h=>by have:=h.2;omega
        ·simp (disch:=omega) only [RF,RO,RC,aF,↓reduceIte,Nat.reduceEqDiff,Nat.reduceLT,Int.reduceToNat,RD,h6,h8,h9,hg1,hg,hel,hj,hjl,Ext.refl',List.getElem?_cons_zero,List.getElem?_cons_succ]
         refine hKr _ _ ?_;clear hKr Kr;(try simp only [gu,iH,iP]);try simp only [RN,Bool.false_eq_true,reduceIte]
         refine dW (t:=false) (by simp (disch:=omega) only [RF,RO,RC,aF,↓reduceIte,Nat.reduceEqDiff,dZ,eF]) ?_;try simp only [RN,Bool.false_eq_true,reduceIte]
         exact hgood _ (by simp [RF,h6]) (by simp [RF,h7]) (by simp [RF,h8]) (by simp [RF,h9]) ⟨c1.1,c1.2,fun h=>by simp only [Nat.add_sub_cancel];omega⟩ (by omega)
     ·refine bD fun Kr hKr=>?_;simp (disch:=omega) only [RF,RO,RC,aF,↓reduceIte,Nat.reduceEqDiff,Int.reduceToNat,RD,h6,h8,h9,hg1,hg,hel,List.getElem?_cons_zero,List.getElem?_cons_succ]
      refine vU ?_
      rw [decide_eq_false c1]
      simp (disch:=omega) only [RF,RO,RC,aF,↓reduceIte,Nat.reduceEqDiff,RD,Ext.refl']
      refine hKr _ _ ?_;clear hKr Kr;(try simp only [gu,iH,iP]);try simp only [RN,Bool.false_eq_true,reduceIte]
      refine dW (t:=true) (by simp (disch:=omega) only [RF,RO,RC,aF,↓reduceIte,Nat.reduceEqDiff,dZ,eF]) ?_;try simp only [RN,Bool.false_eq_true,reduceIte]
      exact hbad _ _ fun h=>c1 ⟨(h.1 i hlt).1,(h.1 i hlt).2.1⟩
    ·refine dW (t:=false) (by simp (disch:=omega) only [RF,RO,RC,aF,↓reduceIte,Nat.reduceEqDiff,Int.reduceToNat,dZ,eF]) ?_;try simp only [RN,Bool.false_eq_true,reduceIte]
     refine hX2 _ _ ?_
     have hii:i=xs.length:=by omega
     subst hii
     refine oQ fun Kr hKr=>?_;simp (disch:=omega) only [RF,RO,RC,aF,↓reduceIte,Nat.reduceEqDiff,RD,h8];refine hKr _ _ ?_;clear hKr Kr
     refine hN (2-(0+1)) _ _ (by omega) ⟨0+1,by omega,rfl,he,hn,hg1,by simpa [sums,sm] using hg2,by simp [RF,h6],by simp [RF,h7],by simp [RF],fun _=>⟨hok,Ht⟩,by omega⟩
  ·refine bD fun Kr hKr=>?_;simp (disch:=omega) only [RF,RO,RC,aF,↓reduceIte,Nat.reduceEqDiff,Int.reduceLT,RD,h8];refine hKr _ _ ?_;clear hKr Kr;try simp only [RN,Bool.false_eq_true,reduceIte]
   refine dW (t:=true) (by simp (disch:=omega) only [RF,RO,RC,aF,↓reduceIte,Nat.reduceEqDiff,dZ,eF]) ?_;try simp only [RN,Bool.false_eq_true,reduceIte]
   (first|refine uw rfl ?_|refine uy rfl ?_);try simp only [RN,Bool.false_eq_true,reduceIte]
   refine bD fun Kr hKr=>?_;simp (disch:=omega) only [RF,RO,RC,aF,↓reduceIte,Nat.reduceEqDiff,RD];refine hKr _ _ ?_;clear hKr Kr;try simp only [RN,Bool.false_eq_true,reduceIte]
   refine bM (fun n f H'=> ∃i,i≤ys.length∧n=ys.length-i∧Ext H H'∧H'.n=H.n+2∧H'.get H.n=some ⟨[.slice a xs.length e, .slice a' ys.length e'],true⟩∧H'.get (H.n+1)=some ⟨[I (sm xs xs.length),I (sm ys i)],true⟩∧f 6=S H.n 0 2 1∧f 7=P (H.n+1) 0∧f 8=I 1∧f 9=I i∧(∀j,j<i→uq ys j)∧i≤16) (ys.length) ?_ ?_
   ·exact ⟨0,by omega,by omega,he,hn,hg1,by simpa [sums,sm] using hg2,by simp [RF,h6],by simp [RF,h7],by simp [RF,h8],by simp [RF],by simp,by omega⟩
   ·clear h6 h7 h8 he hg1 hg2 hn
    rintro n f H' R2 ⟨i,hi,rfl,he,hn,hg1,hg2,h6,h7,h8,h9,hok,Ht⟩ iG hX2 hR2
    simp only [gQ.l0,aG]
    refine bD fun Kr hKr=>?_;simp (disch:=omega) only [RF,RO,RC,aF,↓reduceIte,Nat.reduceEqDiff,RD,h6,h8,h9,hg1,List.getElem?_cons_zero,List.getElem?_cons_succ];refine hKr _ _ ?_;clear hKr Kr;try simp only [RN,Bool.false_eq_true,reduceIte]
    by_cases hlt:i<ys.length
    ·refine dW (t:=true) (by simp (disch:=omega) only [RF,RO,RC,aF,↓reduceIte,Nat.reduceEqDiff,dZ,eF]) ?_;try simp only [RN,Bool.false_eq_true,reduceIte]
     (first|refine uw rfl ?_|refine uy rfl ?_);try simp only [RN,Bool.false_eq_true,reduceIte]
     obtain ⟨b,o,blk,heq,hb,hg,hlen,hel⟩:=(hy.ext he).pos (by omega)
     cases heq
     have aow:=sm_lo hok
     have aox:=sm_hi hok
     have hbad: ∀(c:aj) (f':Fr),¬zQ ys→T (aj.seq gQ.r9 (.seq .ret c)) R2 f' H':=by
      intro c f' hno
      refine bD fun Kr hKr=>?_;simp (disch:=omega) only [RF,RO,RC,aF,↓reduceIte,Nat.reduceEqDiff,RD];refine hKr _ _ ?_;clear hKr Kr;try simp only [RN,Bool.false_eq_true,reduceIte]
      refine hR2 _ _ (hR _ _ ?_)
      refine ⟨_,rfl,?_⟩;simp only [RF,jZ,kU,aF,↓reduceIte,Nat.reduceEqDiff]
      have hno': ¬lH xs ys:=fun h=>hno (acQ h).2
      have:=hK H' 0 he (fun h=>absurd h hno')
      simpa [hno'] using this
     have hgood: ∀(f':Fr),f' 6=S H.n 0 2 1→f' 7=P (H.n+1) 0→f' 8=I 1→f' 9=I i→uq ys i→i<16→T (aj.seq gQ.r10 gQ.r7) R2 f' H':=by
      intro f' h6 h7 h8 h9 hoi Ht
      have h1:=hoi.1
      have h2:=hoi.2.1
      have hss:sm ys i+el ys i=sm ys (i+1):=rfl
      refine bD fun Kr hKr=>?_;simp (disch:=omega) only [RF,RO,RC,aF,↓reduceIte,Nat.reduceEqDiff,Int.reduceToNat,RD,h6,h7,h8,h9,hg1,hg2,hg,hel,Ad,JW,List.getElem?_cons_zero,List.getElem?_cons_succ,hss,aov];refine hKr _ _ ?_;clear hKr Kr;try simp only [RN,Bool.false_eq_true,reduceIte]
      refine oQ fun Kr hKr=>?_;simp (disch:=omega) only [RF,RO,RC,aF,↓reduceIte,Nat.reduceEqDiff,RD,h9];refine hKr _ _ ?_;clear hKr Kr
      refine iG (ys.length-(i+1)) _ _ (by omega) ⟨i+1,by omega,rfl,he.set (by omega) _,hn,?_,get_set_same _ _ _,by simp [RF,h6],by simp [RF,h7],by simp [RF,h8],by simp [RF],fun j hj=>?_,by omega⟩
      ·rw [Ec _ _ _ _ (by omega)];exact hg1
      ·by_cases ej:j=i
       ·subst ej;exact hoi
       ·exact hok j (by omega)
     by_cases c1:1≤el ys i∧el ys i≤16
     ·by_cases hi0:i=0
      ·subst hi0
       have Hu:=hel 0 (by omega)
       rw [Nat.add_zero] at Hu
       refine bD fun Kr hKr=>?_;simp (disch:=omega) only [RF,RO,RC,aF,↓reduceIte,Nat.reduceEqDiff,Int.reduceToNat,RD,h6,h8,h9,hg1,hg,Hu,List.getElem?_cons_zero,List.getElem?_cons_succ]
       refine vU ?_
       rw [decide_eq_true c1]
       simp (disch:=omega) only [RF,RO,RC,aF,↓reduceIte,Nat.reduceEqDiff,RD,h9,Ext.refl']
       refine hKr _ _ ?_;clear hKr Kr;(try simp only [gu,iH,iP]);try simp only [RN,Bool.false_eq_true,reduceIte]
       refine dW (t:=false) (by simp (disch:=omega) only [RF,RO,RC,aF,↓reduceIte,Nat.reduceEqDiff,dZ,eF]) ?_;try simp only [RN,Bool.false_eq_true,reduceIte]
       exact hgood _ (by simp [RF,h6]) (by simp [RF,h7]) (by simp [RF,h8]) (by simp [RF,h9]) ⟨c1.1,c1.2,fun h=>by omega⟩ (by omega)
      ·obtain ⟨j,rfl⟩: ∃j,i=j+1:=⟨i-1,by omega⟩
       have hj:((j+1:Nat):Int)-1=(j:Int):=by omega
       have hjl:j<ys.length:=by omega
       refine bD fun Kr hKr=>?_;simp (disch:=omega) only [RF,RO,RC,aF,↓reduceIte,Nat.reduceEqDiff,Nat.reduceSub,Int.reduceLE,Int.reduceToNat,RD,h6,h8,h9,hg1,hg,hel,List.getElem?_cons_zero,List.getElem?_cons_succ]
       refine vU ?_
       rw [decide_eq_true c1]
       by_cases c3:el ys j<el ys (j+1)
       ·simp (disch:=omega) only [RF,RO,RC,aF,↓reduceIte,Nat.reduceEqDiff,Nat.reduceLT,Int.reduceToNat,RD,h6,h8,h9,hg1,hg,hel,hj,hjl,Ext.refl',List.getElem?_cons_zero,List.getElem?_cons_succ]
        refine hKr _ _ ?_;clear hKr Kr;(try simp only [gu,iH,iP]);try simp only [RN,Bool.false_eq_true,reduceIte]
        refine dW (t:=true) (by simp (disch:=omega) only [RF,RO,RC,aF,↓reduceIte,Nat.reduceEqDiff,dZ,eF]) ?_;try simp only [RN,Bool.false_eq_true,reduceIte]
        exact hbad _ _ fun h=>by have:=(h.1 (j+1) hlt).2.2 (by omega);simp only [Nat.add_sub_cancel] at this;omega
       ·by_cases c4:16≤j+1
        ·simp (disch:=omega) only [RF,RO,RC,aF,↓reduceIte,Nat.reduceEqDiff,Nat.reduceLT,Int.reduceToNat,RD,h6,h8,h9,hg1,hg,hel,hj,hjl,Ext.refl',List.getElem?_cons_zero,List.getElem?_cons_succ]
         refine hKr _ _ ?_;clear hKr Kr;(try simp only [gu,iH,iP]);try simp only [RN,Bool.false_eq_true,reduceIte]
         refine dW (t:=true) (by simp (disch:=omega) only [RF,RO,RC,aF,↓reduceIte,Nat.reduceEqDiff,dZ,eF]) ?_;try simp only [RN,Bool.false_eq_true,reduceIte]
         exact hbad _ _ fun h=>by have:=h.2;omega
        ·simp (disch:=omega) only [RF,RO,RC,aF,↓reduceIte,Nat.reduceEqDiff,Nat.reduceLT,Int.reduceToNat,RD,h6,h8,h9,hg1,hg,hel,hj,hjl,Ext.refl',List.getElem?_cons_zero,List.getElem?_cons_succ]
         refine hKr _ _ ?_;clear hKr Kr;(try simp only [gu,iH,iP]);try simp only [RN,Bool.false_eq_true,reduceIte]
         refine dW (t:=false) (by simp (disch:=omega) only [RF,RO,RC,aF,↓reduceIte,Nat.reduceEqDiff,dZ,eF]) ?_;try simp only [RN,Bool.false_eq_true,reduceIte]
         exact hgood _ (by simp [RF,h6]) (by simp [RF,h7]) (by simp [RF,h8]) (by simp [RF,h9]) ⟨c1.1,c1.2,fun h=>by simp only [Nat.add_sub_cancel];omega⟩ (by omega)
     ·refine bD fun Kr hKr=>?_;simp (disch:=omega) only [RF,RO,RC,aF,↓reduceIte,Nat.reduceEqDiff,Int.reduceToNat,RD,h6,h8,h9,hg1,hg,hel,List.getElem?_cons_zero,List.getElem?_cons_succ]
      refine vU ?_
      rw [decide_eq_false c1]
      simp (disch:=omega) only [RF,RO,RC,aF,↓reduceIte,Nat.reduceEqDiff,RD,Ext.refl']
      refine hKr _ _ ?_;clear hKr Kr;(try simp only [gu,iH,iP]);try simp only [RN,Bool.false_eq_true,reduceIte]
      refine dW (t:=true) (by simp (disch:=omega) only [RF,RO,RC,aF,↓reduceIte,Nat.reduceEqDiff,dZ,eF]) ?_;try simp only [RN,Bool.false_eq_true,reduceIte]
      exact hbad _ _ fun h=>c1 ⟨(h.1 i hlt).1,(h.1 i hlt).2.1⟩
    ·refine dW (t:=false) (by simp (disch:=omega) only [RF,RO,RC,aF,↓reduceIte,Nat.reduceEqDiff,Int.reduceToNat,dZ,eF]) ?_;try simp only [RN,Bool.false_eq_true,reduceIte]
     refine hX2 _ _ ?_
     have hii:i=ys.length:=by omega
     subst hii
     refine oQ fun Kr hKr=>?_;simp (disch:=omega) only [RF,RO,RC,aF,↓reduceIte,Nat.reduceEqDiff,RD,h8];refine hKr _ _ ?_;clear hKr Kr
     refine hN (2-(1+1)) _ _ (by omega) ⟨1+1,by omega,rfl,he,hn,hg1,by simpa [sums,sm] using hg2,by simp [RF,h6],by simp [RF,h7],by simp [RF],fun _=>ht1 (by omega),fun _=>⟨hok,Ht⟩⟩
  ·refine bD fun Kr hKr=>?_;simp (disch:=omega) only [RF,RO,RC,aF,↓reduceIte,Nat.reduceEqDiff,Int.reduceLT,RD,h8];refine hKr _ _ ?_;clear hKr Kr;try simp only [RN,Bool.false_eq_true,reduceIte]
   refine dW (t:=false) (by simp (disch:=omega) only [RF,RO,RC,aF,↓reduceIte,Nat.reduceEqDiff,dZ,eF]) ?_;try simp only [RN,Bool.false_eq_true,reduceIte]
   refine hX _ _ ?_
   have htx:=ht1 (by omega)
   have hty:=ht2 (by omega)
   have hiff:=aot htx hty
   have hg3:H'.get (H.n+1)=some ⟨[I (sm xs xs.length),I (sm ys ys.length)],true⟩:=hg2
   by_cases hq:sm xs xs.length=sm ys ys.length
   ·refine bD fun Kr hKr=>?_;simp (disch:=omega) only [RF,RO,RC,aF,↓reduceIte,Nat.reduceEqDiff,Int.reduceToNat,RD,h7,hg3,Ad,JW,List.getElem?_cons_zero,List.getElem?_cons_succ,hq]
    refine vU ?_
    simp (disch:=omega) only [RF,RO,RC,aF,↓reduceIte,Nat.reduceEqDiff,RD,Ext.refl']
    refine hKr _ _ ?_;clear hKr Kr;(try simp only [gu,iH,iP]);try simp only [RN,Bool.false_eq_true,reduceIte]
    refine ⟨_,rfl,?_⟩;simp only [RF,jZ,kU,aF,↓reduceIte,Nat.reduceEqDiff]
    have:=hK H' (sm xs xs.length) he (fun _=>rfl)
    have e:lH xs ys↔(1≤sm ys ys.length∧sm ys ys.length≤16):=by rw [hiff,hq];simp
    simpa only [e,hq] using this
   ·refine bD fun Kr hKr=>?_;simp (disch:=omega) only [RF,RO,RC,aF,↓reduceIte,Nat.reduceEqDiff,Int.reduceToNat,RD,h7,hg3,Ad,JW,List.getElem?_cons_zero,List.getElem?_cons_succ,hq];refine hKr _ _ ?_;clear hKr Kr;try simp only [RN,Bool.false_eq_true,reduceIte]
    refine ⟨_,rfl,?_⟩;simp only [RF,jZ,kU,aF,↓reduceIte,Nat.reduceEqDiff]
    have:=hK H' (sm xs xs.length) he (fun _=>rfl)
    have e: ¬lH xs ys:=fun h=>hq (hiff.1 h).1
    simpa [e] using this
theorem aoy {H:aA} {v u:Value} {xs ys:List Int} {K:Value→aA→Prop} (hx:jQ H v xs) (hl:xs.length≤1048576) (hy:jQ H u ys) (AZ:ys.length≤1048576)
  (hK: ∀H',Ext H H'→K (.tuple ⟨[I (qo xs ys).1,I (qo xs ys).2]⟩) H'):kP TT [v,u] H K:=by
 obtain ⟨a,e,rfl⟩:=hx.len
 obtain ⟨a',e',rfl⟩:=hy.len
 refine vw afL ?_;simp only [ny,aG]
 refine bD fun Kr hKr=>?_;simp (disch:=omega) only [RF,RO,RC,aF,↓reduceIte,Nat.reduceEqDiff,RD];refine hKr _ _ ?_;clear hKr Kr;try simp only [RN,Bool.false_eq_true,reduceIte]
 refine bD fun Kr hKr=>?_;simp (disch:=omega) only [RF,RO,RC,aF,↓reduceIte,Nat.reduceEqDiff,RD]
 refine acR hx (by omega) hy (by omega) fun H1 s he1 hs=>?_
 have hx1:=hx.ext he1
 have hy1:=hy.ext he1
 have hK':=hK H1 he1
 by_cases hok:lH xs ys
 ·rw [decide_eq_true hok,hs hok]
  simp only [qo,hok,if_true] at hK'
  have hlen:=Hr hok
  have hb:=hok.2.2.2
  simp (disch:=omega) only [RF,RO,RC,aF,↓reduceIte,Nat.reduceEqDiff,RD]
  refine hKr _ _ ?_;clear hKr Kr;(try simp only [gu,iH,iP]);try simp only [RN,Bool.false_eq_true,reduceIte]
  refine bD fun Kr hKr=>?_;simp (disch:=omega) only [RF,RO,RC,aF,↓reduceIte,Nat.reduceEqDiff,RD];refine hKr _ _ ?_;clear hKr Kr;try simp only [RN,Bool.false_eq_true,reduceIte]
  refine dW (t:=false) (by simp (disch:=omega) only [RF,RO,RC,aF,↓reduceIte,Nat.reduceEqDiff,dZ,eF]) ?_;try simp only [RN,Bool.false_eq_true,reduceIte]
  refine bD fun Kr hKr=>?_;simp (disch:=omega) only [RF,RO,RC,aF,↓reduceIte,Nat.reduceEqDiff,RD];refine hKr _ _ ?_;clear hKr Kr;try simp only [RN,Bool.false_eq_true,reduceIte]
  by_cases hpq:(xs.length:Int)+(ys.length:Int)=sm xs xs.length+1
  ·rw [if_pos hpq] at hK'
   have hc:=acS hok hpq
   have hp1:(xs.length:Int)-1=((xs.length-1:Nat):Int):=by omega
   have hq1:(ys.length:Int)-1=((ys.length-1:Nat):Int):=by omega
   refine bD fun Kr hKr=>?_;simp (disch:=omega) only [RF,RO,RC,aF,↓reduceIte,Nat.reduceEqDiff,RD];refine hKr _ _ ?_;clear hKr Kr;try simp only [RN,Bool.false_eq_true,reduceIte]
   refine dW (t:=false) (by simp (disch:=omega) only [RF,RO,RC,aF,↓reduceIte,Nat.reduceEqDiff,dZ,eF]) ?_;try simp only [RN,Bool.false_eq_true,reduceIte]
   refine bD fun Kr hKr=>?_;simp (disch:=omega) only [RF,RO,RC,aF,↓reduceIte,Nat.reduceEqDiff,RD,hp1,hq1]
   refine acT (by omega) ?_
   simp (disch:=omega) only [RF,RO,RC,aF,↓reduceIte,Nat.reduceEqDiff,RD,hp1,hq1]
   refine acT (by omega) ?_
   have hN:sm xs xs.length*fact (xs.length-1)*fact (ys.length-1)=qB xs ys:=rfl
   have hD:eqs xs xs.length*eqs ys ys.length=sO xs ys:=rfl
   simp (disch:=omega) only [RF,RO,RC,aF,↓reduceIte,Nat.reduceEqDiff,RD,hp1,hq1,hN]
   refine acU hx1 (by omega) ?_
   simp (disch:=omega) only [RF,RO,RC,aF,↓reduceIte,Nat.reduceEqDiff,RD,hN]
   refine acU hy1 (by omega) ?_
   simp (disch:=omega) only [RF,RO,RC,aF,↓reduceIte,Nat.reduceEqDiff,RD,hN,hD,acV]
   refine hKr _ _ ?_;clear hKr Kr;(try simp only [gu,iH,iP]);try simp only [RN,Bool.false_eq_true,reduceIte]
   refine ⟨_,rfl,?_⟩;simp only [RF,jZ,kU,aF,↓reduceIte,Nat.reduceEqDiff]
   exact hK'
  ·rw [if_neg hpq] at hK'
   refine bD fun Kr hKr=>?_;simp (disch:=omega) only [RF,RO,RC,aF,↓reduceIte,Nat.reduceEqDiff,RD,hpq];refine hKr _ _ ?_;clear hKr Kr;try simp only [RN,Bool.false_eq_true,reduceIte]
   refine dW (t:=true) (by simp (disch:=omega) only [RF,RO,RC,aF,↓reduceIte,Nat.reduceEqDiff,dZ,eF]) ?_;try simp only [RN,Bool.false_eq_true,reduceIte]
   refine bD fun Kr hKr=>?_;simp (disch:=omega) only [RF,RO,RC,aF,↓reduceIte,Nat.reduceEqDiff,RD];refine hKr _ _ ?_;clear hKr Kr;try simp only [RN,Bool.false_eq_true,reduceIte]
   refine ⟨_,rfl,?_⟩;simp only [RF,jZ,kU,aF,↓reduceIte,Nat.reduceEqDiff]
   exact hK'
 ·rw [decide_eq_false hok]
  simp only [qo,hok,if_false] at hK'
  simp (disch:=omega) only [RF,RO,RC,aF,↓reduceIte,Nat.reduceEqDiff,RD]
  refine hKr _ _ ?_;clear hKr Kr;(try simp only [gu,iH,iP]);try simp only [RN,Bool.false_eq_true,reduceIte]
  refine bD fun Kr hKr=>?_;simp (disch:=omega) only [RF,RO,RC,aF,↓reduceIte,Nat.reduceEqDiff,RD];refine hKr _ _ ?_;clear hKr Kr;try simp only [RN,Bool.false_eq_true,reduceIte]
  refine dW (t:=true) (by simp (disch:=omega) only [RF,RO,RC,aF,↓reduceIte,Nat.reduceEqDiff,dZ,eF]) ?_;try simp only [RN,Bool.false_eq_true,reduceIte]
  refine bD fun Kr hKr=>?_;simp (disch:=omega) only [RF,RO,RC,aF,↓reduceIte,Nat.reduceEqDiff,RD];refine hKr _ _ ?_;clear hKr Kr;try simp only [RN,Bool.false_eq_true,reduceIte]
  refine ⟨_,rfl,?_⟩;simp only [RF,jZ,kU,aF,↓reduceIte,Nat.reduceEqDiff]
  exact hK'
end Go.Am
set_option linter.unusedSectionVars false
namespace Go.Bm
open Go Go.Am
section
variable {x:Bool} {H:BH} {K:Value→BH→Prop} {xs ys:List Int} {a b:Int}
theorem aas (DY:xs.length≤1048576) (DZ:ys.length≤1048576) (hK:K (.tuple ⟨[I (qo xs ys).1,I (qo xs ys).2]⟩) H):aJ x TS [FI xs,FI ys] H K:=by
 refine acW (Rk rfl rfl) (fun ρ Z as HA hv hr=>?_) hK
 obtain ⟨u,v,rfl,e0,e1⟩:=Rl hv
 exact Am.aoz (D5 hr e0) DY (D5 hr e1) DZ (fun HA' he=>⟨he,rfl⟩)
theorem amf (DY:xs.length≤1048576) (DZ:ys.length≤1048576) (hK:K (.tuple ⟨[I (qo xs ys).1,I (qo xs ys).2]⟩) H):aJ x TT [FI xs,FI ys] H K:=by
 refine acW (Rk rfl rfl) (fun ρ Z as HA hv hr=>?_) hK
 obtain ⟨u,v,rfl,e0,e1⟩:=Rl hv
 exact Am.aoy (D5 hr e0) DY (D5 hr e1) DZ (fun HA' he=>⟨he,rfl⟩)
end
end Go.Bm
namespace Go.Bm
open Go Go.Am
theorem aoA {α:Type} {x:Bool} {g:Nat} {vals:List Value} {H:BH} {K:Value→BH→Prop} {w:α→Value} {P:α→Prop} (hp: ∀a Z,VZ Z (w a) (w a))
  (h: ∀ρ Z as HA,VL ρ Z vals as→Rel ρ Z H HA→Am.kP g as HA fun v' HA'=>Ext HA HA'∧ ∃a,P a∧v'=w a) (hK: ∀a,P a→K (w a) H):aJ x g vals H K:=by
 intro ρ Z as HA h1 h2
 obtain ⟨v',HA',hc,he,a,ha,rfl⟩:=h ρ Z as HA h1 h2
 obtain ⟨Z',_,hr,hf⟩:=Me (xs:=[]) h2 he (.inl ⟨rfl,rfl⟩)
 exact ⟨_,_,hc,fun _=>he,ρ,Z',_,H, .z (hp a _),hr,Nat.le_refl _,fun _ _=>rfl,hf,hK a ha⟩
section
variable {x:Bool} {xs ys:List Int} {H:BH} {K:Value→BH→Prop}
theorem MB: ∀n,kE xs n=sm xs n
 |0=>rfl
 |n+1=>by rw [kE,sm,MB n]
def xR (xs ys:List Int):Prop:=oL xs∧oL ys∧dQ xs=dQ ys
instance:Decidable (xR xs ys):=by unfold xR;infer_instance
theorem PV:lH xs ys↔xR xs ys:=by
 have e1:dQ xs=sm xs xs.length:=MB _
 have e2:dQ ys=sm ys ys.length:=MB _
 constructor
 ·intro h
  obtain ⟨a1,a2,a3,a4⟩:=Hr h
  obtain ⟨hx,hy,hs,h1,h2⟩:=h
  exact ⟨⟨⟨a1,a2⟩,fun i hi=>⟨⟨(hx i hi).1,(hx i hi).2.1⟩,(hx i hi).2.2⟩,by omega⟩,⟨⟨a3,a4⟩,fun i hi=>⟨⟨(hy i hi).1,(hy i hi).2.1⟩,(hy i hi).2.2⟩,by omega⟩,by omega⟩
 ·rintro ⟨hx,hy,hs⟩
  have:=hx.pos
  exact ⟨fun i hi=>⟨(hx.2.1 i hi).1.1,(hx.2.1 i hi).1.2,(hx.2.1 i hi).2⟩,fun i hi=>⟨(hy.2.1 i hi).1.1,(hy.2.1 i hi).1.2,(hy.2.1 i hi).2⟩,by omega,by omega,by have:=hx.2.2;omega⟩
theorem acw (DY:xs.length≤1048576) (DZ:ys.length≤1048576) (hK: ∀s:Int,(xR xs ys→s=dQ xs)→K (.tuple ⟨[I s, .bool (decide (xR xs ys))]⟩) H):aJ x Ub [FI xs,FI ys] H K:=by
 refine aoA (w:=fun s:Int=> .tuple ⟨[I s, .bool (decide (xR xs ys))]⟩) (P:=fun s=>xR xs ys→s=dQ xs) (fun s=>Rk rfl rfl) (fun ρ Z as HA hv hr=>?_) hK
 obtain ⟨u,v,rfl,e0,e1⟩:=Rl hv
 refine Am.acR (D5 hr e0) (by omega) (D5 hr e1) (by omega) fun HA' s he hs=>⟨he,s,fun h=>?_,?_⟩
 ·rw [hs (PV.2 h)]
  exact (MB _).symm
 ·rw [decide_eq_decide.2 PV]
def rZ (xs ys:List Int):Prop:=xR xs ys∧dQ xs≤8
instance:Decidable (rZ xs ys):=by unfold rZ;infer_instance
theorem acs (DY:xs.length≤1048576) (DZ:ys.length≤1048576) (hK:K (.bool (decide (rZ xs ys))) H):aJ x TW [FI xs,FI ys,I 8] H K:=by
 refine dw (.cons .fz (.cons .fz (.cons .int .nil))) ?_
 refine bf Uy ?_;simp only [uF,aG]
 refine aB ?_
 refine dB fun Kr hKr=>?_
 refine Bg DY ?_
 by_cases hx:oL xs
 ·have hp:=hx.pos
  rw [if_pos hx]
  refine aO ?_
  refine aI hKr ?_
  by_cases h8:dQ xs≤8
  ·refine dB fun Kr hKr=>?_
   refine Bg DZ ?_
   by_cases hy:oL ys
   ·have hq:=hy.pos
    rw [if_pos hy]
    refine aO ?_
    refine aI hKr ?_
    refine aU ?_
    by_cases e:dQ ys=dQ xs
    ·rw [show decide (rZ xs ys)=true from decide_eq_true ⟨⟨hx,hy,e.symm⟩,h8⟩] at hK
     exact ⟨.bool,by rw [show decide (dQ ys=dQ xs)=true from decide_eq_true e];exact hK⟩
    ·rw [show decide (rZ xs ys)=false from decide_eq_false fun h=>e h.1.2.2.symm] at hK
     exact ⟨.bool,by rw [show decide (dQ ys=dQ xs)=false from decide_eq_false e];exact hK⟩
   ·rw [if_neg hy]
    rw [show decide (rZ xs ys)=false from decide_eq_false fun h=>hy h.1.2.1] at hK
    refine aO ?_
    refine aI hKr ?_
    refine aU ?_
    exact ⟨.bool,hK⟩
  ·rw [show decide (rZ xs ys)=false from decide_eq_false fun h=>h8 h.2] at hK
   refine aB ?_
   refine aU ?_
   exact ⟨.bool,hK⟩
 ·rw [if_neg hx]
  rw [show decide (rZ xs ys)=false from decide_eq_false fun h=>hx h.1.1] at hK
  refine aO ?_
  refine aI hKr ?_
  refine aB ?_
  refine aU ?_
  exact ⟨.bool,hK⟩
theorem aoB (hl:xs.length<4611686018427387904) (hl':ys.length<4611686018427387904) (hK: ∀c:Int,(c=0↔xs=ys)→K (I c) H):aJ x aeZ [FI xs,FI ys] H K:=by
 refine dw (.cons .fz (.cons .fz .nil)) ?_
 refine bf agJ ?_;simp only [jf,aG]
 refine aB ?_
 refine aB ?_
 refine bM (fun m f H'=> ∃i,i≤xs.length∧i≤ys.length∧m=xs.length-i∧(∀j,j<i→el xs j=el ys j)∧f 0=FI xs∧f 1=FI ys∧f 5=I i∧H'=[]) (xs.length) ?_ ?_
 ·exact ⟨_,_,Gh.refl,0,by omega,by omega,by omega,fun j hj=>by omega,ah,ah,ah,rfl⟩
 ·rintro m f H' R ⟨i,hi,hi2,rfl,he,g0,g1,g5,rfl⟩ hN hX hR hE
  simp only [jf.l0,aG]
  have hend: ∀f',f' 0=FI xs→f' 1=FI ys→(i=xs.length∨i=ys.length)→R (.exit 0) f' []:=by
   intro f' g0 g1 hii
   refine hX _ _ ?_
   refine bK ?_
   refine au (aC @g0 @g1) ?_
   refine aV (xs.length<ys.length) (fun hc=>?_) fun hc=>?_
   ·refine aB ?_
    refine aU ?_
    exact ⟨.int,hK _ ⟨fun h=>by omega,fun h=>by rw [h] at hc;omega⟩⟩
   ·refine au (aC @g0 @g1) ?_
    refine aV (ys.length<xs.length) (fun hc=>?_) fun hc=>?_
    ·refine aB ?_
     refine aU ?_
     exact ⟨.int,hK _ ⟨fun h=>by omega,fun h=>by rw [h] at hc;omega⟩⟩
    ·have hll:xs.length=ys.length:=by omega
     have e:xs=ys:=by
      apply List.ext_getElem hll
      intro j h1 h2
      have:=he j (by omega)
      simpa [el,List.getD,h1,h2] using this
     refine aB ?_
     refine aU ?_
     exact ⟨.int,hK _ ⟨fun _=>e,fun _=>rfl⟩⟩
  by_cases h1:i<xs.length
  ·by_cases h2:i<ys.length
   ·refine au (aX @g0 @g1 @g5) ?_
    refine dI ?_
    refine bK ?_
    refine au (aX @g0 @g1 @g5) ?_
    refine aV (el xs i<el ys i) (fun hc=>?_) fun hc=>?_
    ·refine aB ?_
     refine hR _ _ ?_
     refine aU ?_
     exact ⟨.int,hK _ ⟨fun h=>by omega,fun h=>by rw [h] at hc;omega⟩⟩
    refine au (aX @g0 @g1 @g5) ?_
    refine aV (el ys i<el xs i) (fun hc=>?_) fun hc=>?_
    ·refine aB ?_
     refine hR _ _ ?_
     refine aU ?_
     exact ⟨.int,hK _ ⟨fun h=>by omega,fun h=>by rw [h] at hc;omega⟩⟩
    have he': ∀j,j<i+1→el xs j=el ys j:=fun j hj=>by
     by_cases e:j=i
     ·rw [e];omega
     ·exact he j (by omega)
    refine bI @g5 ?_
    exact hN (xs.length-(i+1)) _ _ _ _ (by omega) Gh.refl ⟨i+1,by omega,by omega,rfl,he',ah,ah,ah,rfl⟩
   ·refine au (aX @g0 @g1 @g5) ?_
    refine bY ?_
    exact hend _ ah ah (.inr (by omega))
  ·refine au (aX @g0 @g1 @g5) ?_
   refine bY ?_
   exact hend _ ah ah (.inl (by omega))
theorem acy (hl:xs.length<4611686018427387904) (hl':ys.length<4611686018427387904) (hK:K (.bool (decide (xs=ys))) H):aJ x aeB [FI xs,FI ys] H K:=by
 refine dw (.cons .fz (.cons .fz .nil)) ?_
 refine bf af9 ?_;simp only [yw,aG]
 refine aB ?_
 refine dB fun Kr hKr=>?_
 refine aoB hl hl' fun c hc=>?_
 refine aO ?_
 refine aI hKr ?_
 refine aU ?_
 rw [decide_eq_decide.2 hc]
 exact ⟨.bool,hK⟩
end
end Go.Bm
namespace Go.Bm
open Go Go.Am
theorem DR {s:List UInt8}:nj (bQ s)=true:=rfl
theorem KC {ws:List (List UInt8)} {i:Nat} (h:i<ws.length):ws.take (i+1)=ws.take i++[sg ws i]:=by
 rw [List.take_succ_eq_append_getElem h]
 simp [sg,List.getD,h]
theorem Gi {ws:List (List UInt8)} {i:Nat} (h:i<ws.length):sg ws i∈ws:=by simp [sg,List.getD,h]
def lI (k o l:Nat):List (List UInt8):=if 0<l then (jP k (o+1) (l-1)).map (40:: ·) else []
def xX (k o l:Nat):List (List UInt8):=if 0<o then (jP k (o-1) l).map (41:: ·) else []
theorem acX {k o l:Nat}:jP (k+1) o l=lI k o l++xX k o l:=rfl
theorem aoC {k o l:Nat} (hk:k≤16):(lI k o l).length≤65536:=by
 unfold lI
 have h1:=xO k (o+1) (l-1)
 have h2:=Nat.pow_le_pow_right (n:=2) (by omega) hk
 split
 ·rw [List.length_map];omega
 ·simp
theorem QO: ∀(k:Nat) {x:Bool} {o l:Nat} {H:BH} {K:Value→BH→Prop},k=o+2*l→k≤16→K (rH (jP k o l)) H→aJ x aeu [I o,I l] H K
 |0,x,o,l,H,K,h,hk,hK=>by
  obtain rfl:o=0:=by omega
  obtain rfl:l=0:=by omega
  refine dw (.cons .int (.cons .int .nil)) ?_
  refine bf Uz ?_;simp only [dP,aG]
  refine aB ?_
  refine aB ?_
  refine dI ?_
  refine aB ?_
  refine ji (by simp (disch:=omega) only [RA,↓reduceIte,Nat.reduceEqDiff,RD,dS,gJ];rfl) (dK.fz (i:=0) (by simp (disch:=omega) only [RA,↓reduceIte,Nat.reduceEqDiff,RD];rfl) (by simp only [RH])) ?_;simp only [aF,kL]
  exact ⟨.fz,hK⟩
 |k+1,x,o,l,H,K,h,hk,hK=>by
  rw [acX] at hK
  have hAl:= @aoC k o l (by omega)
  refine dw (.cons .int (.cons .int .nil)) ?_
  refine bf Uz ?_;simp only [dP,aG]
  refine aB ?_
  have hlast: ∀(f':Fr) (ws:List (List UInt8)),f' 5=S 0 0 ws.length 1→ws=lI k o l++xX k o l→T 0 (.seq dP.r16 .ret) (jq 0 [.tmp 4] fun v _=>NN v∧K v H) f' [some (ws.map bQ)]:=by
   intro f' ws g5 e
   refine au @g5 ?_
   have hlm:ws.length*1=(ws.map bQ).length:=by simp
   refine ji (vs:=[S 0 0 ws.length 1]) (by simp (disch:=omega) only [RA,↓reduceIte,Nat.reduceEqDiff,dS,gJ,g5]<;>rfl) (dK.fz (i:=0) rfl sF) ?_
   simp only [aF,kL,kS hlm]
   rw [e]
   exact ⟨.fz,hK⟩
  have hmid: ∀f':Fr,f' 0=I o→f' 1=I l→f' 5=S 0 0 (lI k o l).length 1→T 0 (.seq dP.r10 (.seq (.cond (.t 37) (.seq dP.r11 (.block 2 (.loop dP.l1))) .skip) (.seq dP.r16 .ret))) (jq 0 [.tmp 4] fun v _=>NN v∧K v H) f' [some ((lI k o l).map bQ)]:=by
   intro f' g0 g1 g5
   refine au @g0 ?_
   refine aV (0<o) (fun hc=>?_) fun hc=>?_
   ·have e1:(o:Int)-1=((o-1:Nat):Int):=by omega
    have hB:xX k o l=(jP k (o-1) l).map (41:: ·):=if_pos hc
    refine aY (aX @g0 @g1 @e1) fun Kr hKr=>?_
    refine QO k (by omega) (by omega) ?_
    have hwl:=xO k (o-1) l
    have hp:=Nat.pow_le_pow_right (n:=2) (by omega) (show k≤16 by omega)
    have hws:=Gw k (o-1) l (by omega)
    generalize jP k (o-1) l=ws at hB hwl hws
    refine aO ?_
    refine aI hKr ?_
    refine bM (fun m f H'=> ∃(i:Nat) (us:List (List UInt8)),i≤ws.length∧m=ws.length-i∧us=lI k o l++(ws.take i).map (41:: ·)∧us.length=(lI k o l).length+i∧f 5=S 0 0 us.length 1∧f 41=rH ws∧f 42=I ws.length∧f 43=I i∧H'=[some (us.map bQ)]) (ws.length) ?_ ?_
    ·exact ⟨_,_,Gh.refl,0,lI k o l,by omega,by omega,by simp,by omega,ah,ah,ah,ah,rfl⟩
    ·clear g0 g1 g5
     rintro m f H' R ⟨i,us,hi,rfl,he,QS,g5,g41,g42,Rn,rfl⟩ hN hX hR hE
     simp only [dP.l1,aG]
     refine au (aC @g42 @Rn) ?_
     refine aV (i<ws.length) (fun hc=>?_) fun hc=>?_
     ·have hsl:=(hws _ (Gi hc)).1
      have ha:=aoD (a:=sg ws i) (by omega)
      refine bK ?_
      refine au (aX @g41 @Rn @vX) ?_
      refine au (jk @g5 @ha @DN @DR @He) ?_
      refine bI @Rn ?_
      refine hN (ws.length-(i+1)) _ _ _ _ (by omega) (Gh.nrm [2] rfl rfl (by simp only [RH,sF,uX])) ⟨i+1,us++[41::sg ws i],by omega,rfl,?_,?_,?_,?_,?_,?_,?_⟩
      ·rw [he,KC hc];simp
      ·rw [List.length_append,List.length_singleton];omega
      ·rw [List.length_append,List.length_singleton];exact ah
      ·exact ah
      ·exact ah
      ·exact ah
      ·rfl
     ·refine hX _ _ ?_
      refine iE ?_
      obtain rfl:i=ws.length:=by omega
      rw [List.take_length,←hB] at he
      exact hlast _ us ah he
   ·have hB:xX k o l=[]:=if_neg hc
    exact hlast _ (lI k o l) ah (by rw [hB,List.append_nil])
  have acY: ∀f':Fr,f' 0=I o→f' 1=I l→T 0 (.seq dP.r3 (.seq (.seq dP.r4 (.cond (.t 19) (.seq dP.r5 (.block 0 (.loop dP.l0))) .skip)) (.seq (.seq dP.r10 (.cond (.t 37) (.seq dP.r11 (.block 2 (.loop dP.l1))) .skip)) (.seq dP.r16 .ret)))) (jq 0 [.tmp 4] fun v _=>NN v∧K v H) f' []:=by
   intro f' g0 g1
   refine aB ?_
   refine au @g1 ?_
   refine aV (0<l) (fun hc=>?_) fun hc=>?_
   ·have e1:(l:Int)-1=((l-1:Nat):Int):=by omega
    have e2:(o:Int)+1=((o+1:Nat):Int):=by omega
    have hA:lI k o l=(jP k (o+1) (l-1)).map (40:: ·):=if_pos hc
    refine aY (bG @g0 @g1 @e1 @e2) fun Kr hKr=>?_
    refine QO k (by omega) (by omega) ?_
    have hwl:=xO k (o+1) (l-1)
    have hp:=Nat.pow_le_pow_right (n:=2) (by omega) (show k≤16 by omega)
    have hws:=Gw k (o+1) (l-1) (by omega)
    generalize jP k (o+1) (l-1)=ws at hA hwl hws
    refine aO ?_
    refine aI hKr ?_
    refine bM (fun m f H'=> ∃(i:Nat) (us:List (List UInt8)),i≤ws.length∧m=ws.length-i∧us=(ws.take i).map (40:: ·)∧us.length=i∧f 0=I o∧f 1=I l∧f 5=S 0 0 us.length 1∧f 24=rH ws∧f 25=I ws.length∧f 26=I i∧H'=[some (us.map bQ)]) (ws.length) ?_ ?_
    ·exact ⟨_,_,Gh.refl,0,[],by omega,by omega,by simp,rfl,ah,ah,ah,ah,ah,ah,rfl⟩
    ·clear g0 g1
     rintro m f H' R ⟨i,us,hi,rfl,he,QS,g0,g1,g5,g24,F9,AB,rfl⟩ hN hX hR hE
     simp only [dP.l0,aG]
     refine au (aC @F9 @AB) ?_
     refine aV (i<ws.length) (fun hc=>?_) fun hc=>?_
     ·have hsl:=(hws _ (Gi hc)).1
      have ha:=acE (a:=sg ws i) (by omega)
      refine bK ?_
      refine au (aX @g24 @AB @vX) ?_
      refine au (jk @g5 @ha @DN @DR @He) ?_
      refine bI @AB ?_
      refine hN (ws.length-(i+1)) _ _ _ _ (by omega) (Gh.nrm [2] rfl rfl (by simp only [RH,sF,uX])) ⟨i+1,us++[40::sg ws i],by omega,rfl,?_,?_,?_,?_,?_,?_,?_,?_,?_⟩
      ·rw [he,KC hc];simp
      ·rw [List.length_append,List.length_singleton];omega
      ·exact ah
      ·exact ah
      ·rw [List.length_append,List.length_singleton];exact ah
      ·exact ah
      ·exact ah
      ·exact ah
      ·rfl
     ·refine hX _ _ ?_
      refine iE ?_
      obtain rfl:i=ws.length:=by omega
      rw [List.take_length,←hA] at he
      subst he
      exact hmid _ ah ah ah
   ·have hA:lI k o l=[]:=if_neg hc
    have hm:=hmid
    rw [hA] at hm
    exact hm _ ah ah ah
  by_cases ho:o=0
  ·refine aB ?_
   refine bY ?_
   exact acY _ ah ah
  ·refine aB ?_
   refine bY ?_
   exact acY _ ah ah
end Go.Bm
namespace Go.Bm
open Go Go.Am
theorem acZ {s:List UInt8} {ws:List (List UInt8)}:ws.map (fun t=>(s++[40])++t)=(ws.map (40:: ·)).map (fun t=>s++t):=by
 rw [List.map_map]
 exact List.map_congr_left fun t _=>by simp
theorem ac0 {s:List UInt8} {ws:List (List UInt8)}:ws.map (fun t=>(s++[41])++t)=(ws.map (41:: ·)).map (fun t=>s++t):=by
 rw [List.map_map]
 exact List.map_congr_left fun t _=>by simp
theorem aoE {H:BH} {c:Option (List Value)}:blk (H++[c]) H.length=c:=by rw [l7,if_pos rfl]
def D6 (q:Nat) (R:List (List UInt8)) (v:Value) (H1:BH):Prop:= ∃j,(q=0∨j≠0)∧v=S j 0 R.length 1∧blk H1 j=some (R.map bQ)
theorem Ro {f':Fr} {M:BH} {k j:Nat} {R:List (List UInt8)} (g3:f' 3=S j 0 R.length 1) (hj:k=0∨j≠0) (hb:blk M j=some (R.map bQ)):
  T k (.seq iI.r7 .ret) (jq k [.tmp 8] (D6 k R)) f' M:=by
 refine au @g3 ?_
 refine aU ?_
 exact ⟨j,hj,rfl,hb⟩
def lX (s:List UInt8) (ws:List (List UInt8)) (k o l:Nat):List (List UInt8):=ws++(jP k o l).map (fun t=>s++t)
def ac1 (k:Nat):Prop:= ∀(o l:Nat) (s:List UInt8) (ws:List (List UInt8)),k=o+2*l→s.length+k≤100→ws.length+2^k≤1000000→
 aJ false Nw [bQ s,I l,I o,S 0 0 ws.length 1] [some (ws.map bQ)] (D6 1 (lX s ws k o l))
theorem Rq {k:Nat} (ih:ac1 k) {q o l i:Nat} {s:List UInt8} {R1 R:List (List UInt8)} {f':Fr} {M:BH} (hk:k+1=o+2*l) (hs:s.length+(k+1)≤100) (hw:R1.length+2^k≤1000000)
  (g0:f' 0=bQ s) (g1:f' 1=I l) (g2:f' 2=I o) (g3:f' 3=S i 0 R1.length 1) (hb:blk M i=some (R1.map bQ)) (hM:i<M.length) (hq:q=0∨(o=0→i≠0)) (hR:R=R1++(xX k o l).map (fun t=>s++t)):
  T q (.seq iI.r5 (.seq (.cond (.t 30) iI.r6 .skip) (.seq iI.r7 .ret))) (jq q [.tmp 8] (D6 q R)) f' M:=by
 refine au @g2 ?_
 refine aV (0<o) (fun hc=>?_) fun hc=>?_
 ·have e1:(o:Int)-1=((o-1:Nat):Int):=by omega
  have ha:=LZ (a:=s) (by omega)
  have hB:xX k o l=(jP k (o-1) l).map (41:: ·):=if_pos hc
  have hR2:lX (s++[41]) R1 k (o-1) l=R:=by rw [hR,hB,lX,ac0]
  refine aY (jM @g0 @g1 @g2 @g3 @ha @e1) fun Kr hKr=>?_
  refine ac2 (i:=i) hb sF ?_
  have eb:([bQ (s++[41]),I l,I ((o-1:Nat):Int),S i 0 R1.length 1]:List Value).map (ren [i])=[bQ (s++[41]),I l,I ((o-1:Nat):Int),S 0 0 R1.length 1]:=by simp [ren,nU,nm,bQ]
  rw [eb]
  refine (ih (o-1) l (s++[41]) R1 (by omega) (by rw [List.length_append,List.length_singleton];omega) hw).mono fun v H1 ⟨j,h1,h2,h3⟩=>⟨j,_,_,_,h2,h1.resolve_left (by omega),h3,sF,?_⟩
  rw [hR2]
  refine aO ?_
  refine aI hKr ?_
  exact Ro (j:=M.length) ah (.inr (by omega)) (by rw [show M.length=(M.set i none).length by simp,aoE])
 ·have hB:xX k o l=[]:=if_neg hc
  have hR2:R=R1:=by rw [hR,hB];simp
  rw [hR2]
  exact Ro (j:=i) ah (hq.imp id fun h=>h (by omega)) hb
theorem MC {s:List UInt8} {ws:List (List UInt8)} {k o l:Nat}:lX s ws (k+1) o l=(ws++(lI k o l).map fun t=>s++t)++(xX k o l).map fun t=>s++t:=by
 rw [lX,acX,List.map_append,List.append_assoc]
theorem ac3: ∀k,k≤16→ac1 k
 |0,_,o,l,s,ws,h,hs,hw=>by
  obtain rfl:o=0:=by omega
  obtain rfl:l=0:=by omega
  have hR:lX s ws 0 0 0=ws++[s]:=by simp [lX,jP]
  rw [hR]
  refine bf Jl ?_;simp only [iI,aG]
  refine aB ?_
  refine aB ?_
  refine dI ?_
  refine au (aX @DN @DR @He) ?_
  refine aU ?_
  exact ⟨2, .inr (by omega),by simp,rfl⟩
 |k+1,Rt,o,l,s,ws,h,hs,hw=>by
  have ih:=ac3 k (by omega)
  have hp:=Nat.pow_succ 2 k
  have hmain: ∀f':Fr,f' 0=bQ s→f' 1=I l→f' 2=I o→f' 3=S 0 0 ws.length 1→T 1 (.seq iI.r3 (.seq (.cond (.t 20) iI.r4 .skip) (.seq (.seq iI.r5 (.cond (.t 30) iI.r6 .skip)) (.seq iI.r7 .ret)))) (jq 1 [.tmp 8] (D6 1 (lX s ws (k+1) o l))) f' [some (ws.map bQ)]:=by
   intro f' g0 g1 g2 g3
   refine au @g1 ?_
   refine aV (0<l) (fun hc=>?_) fun hc=>?_
   ·have e1:(l:Int)-1=((l-1:Nat):Int):=by omega
    have e2:(o:Int)+1=((o+1:Nat):Int):=by omega
    have ha:=QX (a:=s) (by omega)
    have hA:lI k o l=(jP k (o+1) (l-1)).map (40:: ·):=if_pos hc
    have hR2:lX (s++[40]) ws k (o+1) (l-1)=ws++(lI k o l).map fun t=>s++t:=by rw [hA,lX,acZ]
    have hl2:=xO k (o+1) (l-1)
    have hl3:(ws++(lI k o l).map fun t=>s++t).length=ws.length+(jP k (o+1) (l-1)).length:=by rw [hA];simp
    refine aY (bG (bG @g0 @g1 @g2 @g3) @ha @e1 @e2) fun Kr hKr=>?_
    refine ac2 (i:=0) rfl sF ?_
    have eb:([bQ (s++[40]),I ((l-1:Nat):Int),I ((o+1:Nat):Int),S 0 0 ws.length 1]:List Value).map (ren [0])=[bQ (s++[40]),I ((l-1:Nat):Int),I ((o+1:Nat):Int),S 0 0 ws.length 1]:=by simp [ren,nU,nm,bQ]
    rw [eb]
    refine (ih (o+1) (l-1) (s++[40]) ws (by omega) (by rw [List.length_append,List.length_singleton];omega) (by omega)).mono fun v H1 ⟨j,h1,h2,h3⟩=>⟨j,_,_,_,h2,h1.resolve_left (by omega),h3,sF,?_⟩
    rw [hR2]
    refine aO ?_
    refine aI hKr ?_
    exact Rq ih (R1:=ws++(lI k o l).map fun t=>s++t) (i:=1) h (by omega) (by rw [hl3];omega) ah ah ah ah rfl (by simp) (.inr fun _=>by omega) MC
   ·have hA:lI k o l=[]:=if_neg hc
    exact Rq ih (R1:=ws) (i:=0) h (by omega) (by omega) ah ah ah ah rfl (by simp) (.inr fun _=>by omega) (by rw [MC,hA];simp)
  refine bf Jl ?_;simp only [iI,aG]
  refine aB ?_
  by_cases hl:l=0
  ·refine aB ?_
   refine bY ?_
   exact hmain _ ah ah ah ah
  ·refine aB ?_
   refine bY ?_
   exact hmain _ ah ah ah ah
theorem Ru: ∀(k:Nat) {o l:Nat} {s:List UInt8},k≤16→k=o+2*l→s.length+k≤100→
  aJ false Nw [bQ s,I l,I o, .slice none 0 0] [] (D6 0 (lX s [] k o l))
 |0,o,l,s,hk,h,hs=>by
  obtain rfl:o=0:=by omega
  obtain rfl:l=0:=by omega
  have hR:lX s [] 0 0 0=[s]:=by simp [lX,jP]
  rw [hR]
  refine bf Jl ?_;simp only [iI,aG]
  refine aB ?_
  refine aB ?_
  refine dI ?_
  refine au (bG @DN @DR @aoF @aoG) ?_
  refine aU ?_
  exact ⟨1, .inl rfl,rfl,rfl⟩
 |k+1,o,l,s,Rt,h,hs=>by
  have ih:=ac3 k (by omega)
  have hp:=Nat.pow_le_pow_right (n:=2) (by omega) (show k≤16 by omega)
  have hmain: ∀f':Fr,f' 0=bQ s→f' 1=I l→f' 2=I o→f' 3= .slice none 0 0→T 0 (.seq iI.r3 (.seq (.cond (.t 20) iI.r4 .skip) (.seq (.seq iI.r5 (.cond (.t 30) iI.r6 .skip)) (.seq iI.r7 .ret)))) (jq 0 [.tmp 8] (D6 0 (lX s [] (k+1) o l))) f' []:=by
   intro f' g0 g1 g2 g3
   refine au @g1 ?_
   refine aV (0<l) (fun hc=>?_) fun hc=>?_
   ·have e1:(l:Int)-1=((l-1:Nat):Int):=by omega
    have e2:(o:Int)+1=((o+1:Nat):Int):=by omega
    have ha:=QX (a:=s) (by omega)
    have hA:lI k o l=(jP k (o+1) (l-1)).map (40:: ·):=if_pos hc
    have hR2:lX (s++[40]) [] k (o+1) (l-1)=(lI k o l).map fun t=>s++t:=by rw [hA,lX,acZ];simp
    have hl2:=xO k (o+1) (l-1)
    have hl3:((lI k o l).map fun t=>s++t).length=(jP k (o+1) (l-1)).length:=by rw [hA];simp
    refine aY (bG (bG @g0 @g1 @g2 @g3) @ha @e1 @e2) fun Kr hKr=>?_
    refine O8 (.cons uX (.cons .int (.cons .int (.cons .nil .nil)))) ((Ru k (o:=o+1) (l:=l-1) (s:=s++[40]) (by omega) (by omega) (by rw [List.length_append,List.length_singleton];omega)).mono fun v H1 ⟨j,_,h2,h3⟩=>⟨j,_,_,_,h2,h3,sF,?_⟩)
    rw [hR2]
    refine aO ?_
    refine aI hKr ?_
    exact Rq ih (q:=0) (R:=lX s [] (k+1) o l) (R1:=(lI k o l).map fun t=>s++t) (M:=[some (((lI k o l).map fun t=>s++t).map bQ)]) (i:=0) h (by omega) (by rw [hl3];omega) ah ah ah ah rfl (by simp) (.inl rfl) (by rw [MC];simp)
   ·obtain rfl:l=0:=by omega
    have hA:lI k o 0=[]:=if_neg (by omega)
    have e1:(o:Int)-1=((o-1:Nat):Int):=by omega
    have ha:=LZ (a:=s) (by omega)
    have hB:xX k o 0=(jP k (o-1) 0).map (41:: ·):=if_pos (by omega)
    have hR2:lX (s++[41]) [] k (o-1) 0=lX s [] (k+1) o 0:=by rw [MC,hA,hB,lX,ac0];simp
    have ho:0<o:=by omega
    refine au @g2 ?_
    refine dI ?_
    refine aY (jM @g0 @g1 @g2 @g3 @ha @e1) fun Kr hKr=>?_
    refine O8 (.cons uX (.cons .int (.cons .int (.cons .nil .nil)))) ((Ru k (o:=o-1) (l:=0) (s:=s++[41]) (by omega) (by omega) (by rw [List.length_append,List.length_singleton];omega)).mono fun v H1 ⟨j,_,h2,h3⟩=>⟨j,_,_,_,h2,h3,sF,?_⟩)
    rw [hR2]
    refine aO ?_
    refine aI hKr ?_
    exact Ro (k:=0) (j:=0) (M:=[some ((lX s [] (k+1) o 0).map bQ)]) ah (.inl rfl) rfl
  refine bf Jl ?_;simp only [iI,aG]
  refine aB ?_
  by_cases hl:l=0
  ·refine aB ?_
   refine bY ?_
   exact hmain _ ah ah ah ah
  ·refine aB ?_
   refine bY ?_
   exact hmain _ ah ah ah ah
theorem an0 {x:Bool} {n:Nat} {H:BH} {K:Value→BH→Prop} (hn:n≤8) (hK:K (rH (wl n)) H):aJ x Nw [bQ [],I n,I (0:Nat), .slice none 0 0] H K:=
 Ar (.cons uX (.cons .int (.cons .int (.cons .nil .nil)))) sF (by simp) ((Ru (2*n) (o:=0) (l:=n) (s:=[]) (by omega) (by omega) (by simp;omega)).mono fun v H1 ⟨j,_,h2,h3⟩=>by
  have e:lX [] [] (2*n) 0 n=wl n:=by simp [lX,wl]
  rw [e] at h2 h3
  exact ⟨j,h2,h3⟩) hK
end Go.Bm
namespace Go.Bm
open Go Go.Am
def PQ (n:Nat) (q:List Nat):Prop:=Perm q n∧q.length=16
section
variable {n:Nat}
end
end Go.Bm
namespace Go.Bm
open Go Go.Am
section
variable {xs:List Int} {n:Nat}
end
section
variable {xs:List Int} (ht:oL xs)
include ht
end
end Go.Bm
namespace Go.Bm
open Go Go.Am
section
variable {xs:List Int}
end
end Go.Bm
namespace Go.Bm
open Go Go.Am
section
variable {code:List Nat} {H:BH} {K:Value→BH→Prop} {x:Bool}
theorem amg (hK:K (.bool (decide (4096<code.length))) H):aJ x ad9 [FB code] H K:=by
 refine dw (.cons .fz .nil) ?_
 refine bf afE ?_;simp only [xZ,aG]
 refine aB ?_
 refine aB ?_
 refine aU ?_
 rw [show decide ((4096:Int)<(code.length:Int))=decide (4096<code.length) by rw [decide_eq_decide];omega]
 exact ⟨.bool,hK⟩
theorem PN {xs ys:List Int} (hl:xs.length<4611686018427387904) (hl':ys.length<4611686018427387904) (hK:K (.bool (decide (xs=ys))) H):aJ x aek [FI xs,FI ys] H K:=by
 refine dw (.cons .fz (.cons .fz .nil)) ?_
 refine bf afP ?_;simp only [kX,aG]
 refine aB ?_
 refine aB ?_
 refine aV (¬xs.length=ys.length) (fun hc=>?_) fun hc=>?_
 ·refine aB ?_
  refine aU ?_
  rw [show decide (xs=ys)=false by simp;intro e;exact hc (by rw [e])] at hK
  exact ⟨.bool,hK⟩
 have hll:=Decidable.not_not.1 hc
 clear hc
 refine aB ?_
 refine bM (fun m f H'=> ∃i,i≤xs.length∧m=xs.length-i∧(∀j,j<i→el xs j=el ys j)∧f 0=FI xs∧f 1=FI ys∧f 5=I i∧H'=[]) (xs.length) ?_ ?_
 ·exact ⟨_,_,Gh.refl,0,by omega,by omega,fun j hj=>by omega,ah,ah,ah,rfl⟩
 ·rintro m f H' R ⟨i,hi,rfl,he,g0,g1,g5,rfl⟩ hN hX hR hE
  simp only [kX.l0,aG]
  refine au (aC @g0 @g5) ?_
  refine aV (i<xs.length) (fun hc=>?_) fun hc=>?_
  ·have hil:i<xs.length:=by assumption
   have ZW:i<ys.length:=by omega
   refine bK ?_
   refine au (aX @g0 @g1 @g5) ?_
   refine aV (¬el xs i=el ys i) (fun hc=>?_) fun hc=>?_
   ·refine aB ?_
    refine hR _ _ ?_
    refine aU ?_
    rw [show decide (xs=ys)=false by simp;intro e;exact hc (by rw [e])] at hK
    exact ⟨.bool,hK⟩
   have hee:=Decidable.not_not.1 hc
   refine bI @g5 ?_
   have he': ∀j,j<i+1→el xs j=el ys j:=fun j hj=>by
    by_cases e:j=i
    ·rw [e];exact hee
    ·exact he j (by omega)
   exact hN (xs.length-(i+1)) _ _ _ _ (by omega) Gh.refl ⟨i+1,by omega,rfl,he',ah,ah,ah,rfl⟩
  ·refine hX _ _ ?_
   have e:xs=ys:=by
    apply List.ext_getElem hll
    intro j h1 h2
    have:=he j (by omega)
    simpa [el,List.getD,h1,h2] using this
   rw [show decide (xs=ys)=true by simp [e]] at hK
   refine aB ?_
   refine aU ?_
   exact ⟨.bool,hK⟩
variable (hl:code.length≤1048576) (hcd: ∀i,nl code i<256)
include hl hcd
end
end Go.Bm
namespace Go.Bm
open Go Go.Am
def Bl (p:List Nat) (t m:Nat):Nat→List Nat
 |0=>p
 |k+1=>(Bl p t m k).set (t+k) (t+(k+1)%m)
theorem ac4 {p:List Nat} {t m k:Nat}:(Bl p t m k).length=p.length:=by
 induction k with
 |zero=>rfl
 |succ k ih=>rw [Bl,List.length_set,ih]
theorem MF {p:List Nat} {t m k x:Nat} (hl:p.length=16) (h:t+k≤16):nl (Bl p t m k) x=if t≤x∧x<t+k then t+(x-t+1)%m else nl p x:=by
 induction k with
 |zero=>rw [Bl,if_neg (by omega)]
 |succ k ih=>
  rw [Bl,rW,ac4,hl,ih (by omega)]
  by_cases e:x=t+k
  ·subst e
   rw [if_pos ⟨rfl,by omega⟩,if_pos (by omega),show t+k-t+1=k+1 by omega]
  ·rw [if_neg (by omega)]
   by_cases h2:t≤x∧x<t+k
   ·rw [if_pos h2,if_pos (by omega)]
   ·rw [if_neg h2,if_neg (by omega)]
structure Rw (p:List Nat) (t:Nat):Prop where
 len:p.length=16
 lt: ∀x,x<t→nl p x<t
 inj: ∀x y,x<t→y<t→nl p x=nl p y→x=y
 zero: ∀x,t≤x→nl p x=0
theorem Rw.seg {p:List Nat} {t m:Nat} (h:Rw p t) (hm:1≤m) (wu:t+m≤16):Rw (Bl p t m m) (t+m):=by
 have hmod: ∀x,t≤x→x<t+m→(x-t+1)%m=if x-t+1=m then 0 else x-t+1:=fun x h1 h2=>mod_one (by omega)
 refine ⟨by rw [ac4,h.len],fun x hx=>?_,fun x y hx hy=>?_,fun x hx=>?_⟩
 ·rw [MF h.len wu]
  have:=Nat.mod_lt (x-t+1) (show 0<m by omega)
  by_cases h1:t≤x∧x<t+m
  ·rw [if_pos h1];omega
  ·rw [if_neg h1]
   have:=h.lt x (by omega)
   omega
 ·rw [MF h.len wu,MF h.len wu]
  have hx':=h.lt x
  have hy':=h.lt y
  by_cases h1:t≤x∧x<t+m<;>by_cases h2:t≤y∧y<t+m
  ·rw [if_pos h1,if_pos h2,hmod x h1.1 h1.2,hmod y h2.1 h2.2]
   intro e
   split at e<;>split at e<;>omega
  ·rw [if_pos h1,if_neg h2]
   intro e
   have:=hy' (by omega)
   omega
  ·rw [if_neg h1,if_pos h2]
   intro e
   have:=hx' (by omega)
   omega
  ·rw [if_neg h1,if_neg h2]
   exact h.inj x y (by omega) (by omega)
 ·rw [MF h.len wu,if_neg (by omega)]
  exact h.zero x (by omega)
section
variable {xs:List Int} (ht:oL xs)
include ht
end
section
variable {x:Bool} {H:BH} {K:Value→BH→Prop}
end
end Go.Bm
namespace Go.Bm
open Go Go.Am
section
variable {H:BH} {K:Value→BH→Prop} {x:Bool}
theorem acu {xs ys:List Int} (hl:xs.length<4611686018427387904) (hl':ys.length<4611686018427387904) (hK:K (.bool (decide (xs=ys))) H):aJ x aey [FI xs,FI ys] H K:=by
 refine dw (.cons .fz (.cons .fz .nil)) ?_
 refine bf af4 ?_;simp only [kK,aG]
 refine aB ?_
 refine aB ?_
 refine aV (¬xs.length=ys.length) (fun hc=>?_) fun hc=>?_
 ·refine aB ?_
  refine aU ?_
  rw [show decide (xs=ys)=false by simp;intro e;exact hc (by rw [e])] at hK
  exact ⟨.bool,hK⟩
 have hll:=Decidable.not_not.1 hc
 clear hc
 refine aB ?_
 refine bM (fun m f H'=> ∃i,i≤xs.length∧m=xs.length-i∧(∀j,j<i→el xs j=el ys j)∧f 0=FI xs∧f 1=FI ys∧f 12=I xs.length∧f 13=I i∧H'=[]) (xs.length) ?_ ?_
 ·exact ⟨_,_,Gh.refl,0,by omega,by omega,fun j hj=>by omega,ah,ah,ah,ah,rfl⟩
 ·rintro m f H' R ⟨i,hi,rfl,he,g0,g1,g12,g13,rfl⟩ hN hX hR hE
  simp only [kK.l0,aG]
  refine au (aC @g12 @g13) ?_
  refine aV (i<xs.length) (fun hc=>?_) fun hc=>?_
  ·have hil:i<xs.length:=by assumption
   have ZW:i<ys.length:=by omega
   refine bK ?_
   refine au @g13 ?_
   refine au (aC @g0 @g1) ?_
   refine aV (¬el xs i=el ys i) (fun hc=>?_) fun hc=>?_
   ·refine aB ?_
    refine hR _ _ ?_
    refine aU ?_
    rw [show decide (xs=ys)=false by simp;intro e;exact hc (by rw [e])] at hK
    exact ⟨.bool,hK⟩
   have hee:=Decidable.not_not.1 hc
   refine bI @g13 ?_
   have he': ∀j,j<i+1→el xs j=el ys j:=fun j hj=>by
    by_cases e:j=i
    ·rw [e];exact hee
    ·exact he j (by omega)
   exact hN (xs.length-(i+1)) _ _ _ _ (by omega) Gh.refl ⟨i+1,by omega,rfl,he',ah,ah,ah,ah,rfl⟩
  ·refine hX _ _ ?_
   have e:xs=ys:=by
    apply List.ext_getElem hll
    intro j h1 h2
    have:=he j (by omega)
    simpa [el,List.getD,h1,h2] using this
   rw [show decide (xs=ys)=true by simp [e]] at hK
   refine aB ?_
   refine aU ?_
   exact ⟨.bool,hK⟩
end
section
variable {p c p' c':Int} {H:BH} {b:Nat}
end
section
variable {black:List Nat} {n:Nat} {xss:List (List Int)} {H:BH} {K:Value→BH→Prop} {x:Bool}
end
end Go.Bm
namespace Go.Bm
open Go Go.Am
section
variable {xss:List (List Int)} (hp:Rx xss)
include hp
end
section
variable {xss:List (List Int)} {H:BH} {K:Value→BH→Prop} {x:Bool}
end
end Go.Bm
namespace Go.Bm
open Go Go.Am
def MG (v:Value) (k:Nat→Array Value→Prop):Prop:=
 match v with
 | .func (.func cap) ⟨[]⟩ caps=>k cap caps
 | _=>False
theorem ac5 {m:Nat} {caps:Array Value} {k:Nat→Array Value→Prop}:MG (.func (.func m) #[] caps) k=k m caps:=rfl
theorem ac6 {d t:Option Nat} {r:List cO} {K:Fr→BH→Prop} {f:Fr} {H:BH} {g:aN} {as:List aN}:
  opsT d (⟨t, .kV g as,none⟩::r) K f H=MG (ev f g) fun cap caps=>aJ (kQ d) cap (as.map (ev f)++caps.toList) H (lJ d t r K f):=by
 rw [opsT]
 simp only [yT]
 generalize ev f g=v
 cases v<;>try rfl
 rename_i fid first caps
 cases fid<;>try rfl
 obtain ⟨first⟩:=first
 cases first with
 |nil=>simp [MG];rfl
 |cons a l=>simp [MG]
abbrev clo (g:Nat) (caps:List Value):Value:= .func (.func g) #[] ⟨caps⟩
section
variable {g1 n many:Nat} {xss:List (List Int)} {black p:List Nat} {used:List Bool}
end
section
variable {g1 n:Nat} {xss:List (List Int)} {black:List Nat} {d1:List Nat→Bool}
def aoH (g1 n:Nat) (black:List Nat) (d1:List Nat→Bool):Prop:=
 ∀(many:Nat) (w:List Nat) (H:BH) (K:Value→BH→Prop),PQ n w→many<1000000000→blk H 0=some [I many]→(∀ex,K (.tuple ⟨[]⟩) (H.set 0 (some [I ((many+if d1 w then 1 else 0:Nat):Int)])++ex))→aJ false g1 [DV n black w,P 0 0] H K
theorem ac7 {l:List Value}:(⟨l⟩:Array Value).toList=l:=rfl
variable (hdo:aoH g1 n black d1) (hb:By 16 black) (hbp:Perm black n) (h3:xss.length=3) (hll: ∀xs∈xss,xs.length≤1048576)
include hdo hb hbp h3 hll
end
end Go.Bm
namespace Go.Bm
open Go Go.Am
section
variable {H:BH} {o i:Nat} {cells:List Value} {e b w:List Nat} {L:Nat} {n:Int} {K:Value→BH→Prop}
theorem aoI (h4:blk H 4=some [S o 0 (L+1) 1]) (h1:blk H 1=some (DC n b w)) (ho:blk H o=some cells) (hc:cells[L]? =some (S i 0 e.length 1)) (hi:blk H i=some (e.map N8)) (hi1:i≠1) (ho1:o≠1) (hb:By 16 b) (hw:By 16 w) (he: ∀x∈e,x<16) (hL:L≤32) (hel:e.length≤32)
  (hK:K (.tuple ⟨[]⟩) ((H.set 1 (some (DC n (if L%2=1 then b else fZ b e) (if L%2=1 then fZ w e else w)))).set 4 (some [S o 0 L 1]))):aJ false BG [P 4 0,P 1 0] H K:=by
 have gone: ∀{v:Value},bV none [v] 0=some v:=rfl
 have gc:bV none cells L=some (S i 0 e.length 1):=hc
 have ht1:((L+1:Nat):Int)-1=(L:Nat):=by omega
 have hmod:(L:Int).tmod 2=((L%2:Nat):Int):=rfl
 have hlen1:=lZ h1
 refine bf agD ?_;simp only [je,aG]
 refine au (aX @h4 @gone @ht1) ?_
 refine au (bG @h4 @gone @ho @gc) ?_
 refine aB ?_
 refine au @hmod ?_
 have hmain: ∀f' (q:Nat),(q=1∧L%2=0∨q=17∧L%2=1)→f' 0=P 4 0→f' 1=P 1 0→f' 2=I L→f' 3=S i 0 e.length 1→f' 4=P 1 q→T H.length (.seq je.r5 (.seq (.block 0 (.loop je.l0)) je.r10)) (jq H.length [] K) f' H:=by
  intro f' q hq g0 g1 g2 g3 g4
  refine au @g3 ?_
  refine bM (fun mm f H'=> ∃k,k≤e.length∧mm=e.length-k∧f 0=P 4 0∧f 2=I L∧f 3=S i 0 e.length 1∧f 4=P 1 q∧f 19=S i 0 e.length 1∧f 20=I e.length∧f 21=I k∧H'=H.set 1 (some (DC n (if L%2=1 then b else mG b e k) (if L%2=1 then mG w e k else w)))) (e.length) ?_ ?_
  ·refine ⟨_,_,Gh.refl,0,by omega,by omega,ah,ah,ah,ah,ah,ah,ah,?_⟩
   have hs: ∀c,blk H 1=some c→H.set 1 (some c)=H:=fun c hc=>by
    apply List.ext_getElem?
    intro j
    rw [List.getElem?_set]
    by_cases hj:1=j
    ·subst hj
     rw [if_pos rfl,if_pos hlen1]
     unfold blk at hc
     cases h0:H[1]? with
     |none=>rw [h0] at hc;cases hc
     |some c=>rw [h0] at hc;exact congrArg some hc.symm
    ·rw [if_neg hj]
   rw [MH,MH,ite_self,ite_self,hs _ h1]
  ·rintro mm f H' R ⟨k,hk,rfl,g0,g2,g3,g4,g19,g20,g21,hH'⟩ hN hX hR hE
   simp only [je.l0,aG]
   refine au (aC @g20 @g21) ?_
   refine aV (k<e.length) (fun hc=>?_) fun hc=>?_
   ·have hkn:k<e.length:=by assumption
    obtain ⟨B1,hB1⟩: ∃B1,(if L%2=1 then b else mG b e k)=B1:=⟨_,rfl⟩
    obtain ⟨W1,hW1⟩: ∃W1,(if L%2=1 then mG w e k else w)=W1:=⟨_,rfl⟩
    rw [hB1,hW1] at hH'
    have hlB:B1.length=16:=by rw [←hB1];split;exact hb.len;rw [Ry];exact hb.len
    have Rz:W1.length=16:=by rw [←hW1];split;rw [Ry];exact hw.len;exact hw.len
    have hb1:blk H' 1=some (DC n B1 W1):=by rw [hH',jW hlen1,if_pos rfl]
    have hbi:blk H' i=some (e.map N8):=by rw [hH',jW hlen1,if_neg hi1,hi]
    have hek:nl e k<16:=he _ (by rw [nl,List.getD_eq_getElem?_getD,List.getElem?_eq_getElem hkn];exact List.getElem_mem _)
    have hmk:((k:Int)+1).tmod (e.length:Int)=(((k+1)%e.length:Nat):Int):=by
     show Int.tmod ((k+1:Nat):Int) _=_
     rfl
    have hml:(k+1)%e.length<e.length:=Nat.mod_lt _ (by omega)
    have hne: ¬(e.length:Int)=0:=by omega
    have hnext: ∀f' B2 W2,B2=(if L%2=1 then b else mG b e (k+1))→W2=(if L%2=1 then mG w e (k+1) else w)→f' 0=P 4 0→f' 2=I L→f' 3=S i 0 e.length 1→f' 4=P 1 q→f' 19=S i 0 e.length 1→f' 20=I e.length→f' 21=I k→T H.length je.r9 R f' (H'.set 1 (some (DC n B2 W2))):=by
     clear g0 g2 g3 g4 g19 g20 g21
     intro f' B2 W2 hB2 hW2 g0 g2 g3 g4 g19 g20 g21
     have hHs:H'.set 1 (some (DC n B2 W2))=H.set 1 (some (DC n (if L%2=1 then b else mG b e (k+1)) (if L%2=1 then mG w e (k+1) else w))):=by rw [hH',List.set_set,hB2,hW2]
     rw [hHs]
     refine bI @g21 ?_
     exact hN (e.length-(k+1)) _ _ _ _ (by omega) Gh.refl ⟨k+1,by omega,rfl,ah,ah,ah,ah,ah,ah,ah,rfl⟩
    refine bK ?_
    refine au (aX @g19 @g21 @hbi) ?_
    rcases hq with ⟨rfl,hp⟩|⟨rfl,hp⟩
    ·rw [if_neg (by omega)] at hB1 hW1
     refine au (jM (bG @aH @aK @g3 @g4) @g21 @hbi @hb1 @hmk @hne) ?_
     refine hnext _ _ _ ?_ ?_ ah ah ah ah ah ah ah
     all_goals first|(rw [if_neg (by omega),←hB1,MI hkn])|(rw [if_neg (by omega),hW1])
    ·rw [if_pos hp] at hB1 hW1
     refine au (jM (bG @aH @aK @g3 @g4) @g21 @hbi @hb1 @hmk @hne) ?_
     refine hnext _ _ _ ?_ ?_ ah ah ah ah ah ah ah
     all_goals first|(rw [if_pos hp,←hW1,MI hkn])|(rw [if_pos hp,hB1])
   ·refine hX _ _ ?_
    obtain rfl:k=e.length:=by omega
    rw [Hw,Hw] at hH'
    have hb4:blk H' 4=some [S o 0 (L+1) 1]:=by rw [hH',jW hlen1,if_neg (by omega),h4]
    refine bI (jk @g0 @g2 @hb4 @gone @Gy) ?_
    refine ak6 (vs:=[]) rfl dK.refl ?_
    rw [hH']
    exact hK
 by_cases h2:L%2=1
 ·have e2:decide (((L%2:Nat):Int)=1)=true:=decide_eq_true (by omega)
  refine qL @e2 ?_
  refine aB ?_
  exact hmain _ 17 (.inr ⟨rfl,h2⟩) ah ah ah ah ah
 ·have e2:decide (((L%2:Nat):Int)=1)=false:=decide_eq_false (by omega)
  refine oZ @e2 ?_
  exact hmain _ 1 (.inl ⟨rfl,by omega⟩) ah ah ah ah ah
end
end Go.Bm
namespace Go.Bm
open Go Go.Am
structure wH (H:BH) (W:List (List Nat)) (n:Int) (b w:List Nat) (o:Nat) (cells:List Value) (id:Nat→Nat):Prop where
 h0:blk H 0=some (DC 0 dF dF)
 h1:blk H 1=some (DC n b w)
 h4:blk H 4=some [S o 0 W.length 1]
 hc:blk H o=some cells
 o0:o≠0∧o≠1∧o≠4
 len:W.length≤cells.length
 at': ∀k e,W.reverse[k]? =some e→cells[k]? =some (S (id k) 0 e.length 1)∧blk H (id k)=some (e.map N8)∧id k≠0∧id k≠1∧id k≠4∧id k≠o
 inj: ∀k k',k<W.length→k'<W.length→id k=id k'→k=k'
def Wy (H:BH) (W:List (List Nat)) (n:Int) (b w:List Nat):Prop:= ∃o cells id,wH H W n b w o cells id
theorem rev_at {e:List Nat} {r:List (List Nat)} {k:Nat}:(e::r).reverse[k]? =if k<r.length then r.reverse[k]? else if k=r.length then some e else none:=by
 rw [List.reverse_cons]
 by_cases h:k<r.length
 ·rw [if_pos h,List.getElem?_append_left (by rw [List.length_reverse];exact h)]
 ·rw [if_neg h,List.getElem?_append_right (by rw [List.length_reverse];omega),List.length_reverse]
  by_cases h2:k=r.length
  ·rw [if_pos h2,h2,Nat.sub_self];rfl
  ·rw [if_neg h2,List.getElem?_eq_none (by simp;omega)]
section
variable {H:BH} {e:List Nat} {r:List (List Nat)} {n:Int} {b w b' w':List Nat} {o:Nat} {cells:List Value} {id:Nat→Nat}
theorem wH.close (h:wH H (e::r) n b w o cells id):Wy ((H.set 1 (some (DC n b' w'))).set 4 (some [S o 0 r.length 1])) r n b' w':=by
 have l1:=lZ h.h1
 have l4:=lZ h.h4
 obtain ⟨o0,o1,o4⟩:=h.o0
 have hl:=h.len
 rw [List.length_cons] at hl
 have key: ∀j,j≠1→j≠4→blk ((H.set 1 (some (DC n b' w'))).set 4 (some [S o 0 r.length 1])) j=blk H j:=fun j j1 j4=>by
  rw [jW (by rw [List.length_set];exact l4),if_neg j4,jW l1,if_neg j1]
 refine ⟨o,cells,id,⟨by rw [key 0 (by omega) (by omega),h.h0],?_,?_,by rw [key o o1 o4,h.hc],h.o0,by omega,fun k a ha=>?_,fun k k' q1 q2=>h.inj k k' (by simp;omega) (by simp;omega)⟩⟩
 ·rw [jW (by rw [List.length_set];exact l4),if_neg (by omega),jW l1,if_pos rfl]
 ·rw [jW (by rw [List.length_set];exact l4),if_pos rfl]
 ·have hk:k<r.length:=by
   have:=(List.getElem?_eq_some_iff.1 ha).1
   rwa [List.length_reverse] at this
  obtain ⟨q1,q2,q3⟩:=h.at' k a (by rw [rev_at,if_pos hk];exact ha)
  exact ⟨q1,by rw [key _ q3.2.1 q3.2.2.1,q2],q3⟩
def Hy (H:BH) (e:List Nat) (m i o L:Nat) (cells:List Value):BH:=
 (((H++[some [N8 m]]).set i none)++[some ((e++[m]).map N8)]).set o (some (cells.set L (S (H.length+1) 0 (e.length+1) 1)))
def MJ (H:BH) (m o l:Nat) (cells:List Value):BH:=
 (((H++[some [N8 m]])++[some [S H.length 0 1 1]]).set o none++[some (cells.take l++[S H.length 0 1 1])]).set 4 (some [S (H.length+2) 0 (l+1) 1])
theorem wH.RG {W:List (List Nat)} (h:wH H W n b w o cells id) {k:Nat} (hk:k<W.length):id k<H.length:=by
 obtain ⟨a,ha⟩: ∃a,W.reverse[k]? =some a:=⟨_,List.getElem?_eq_getElem (by rw [List.length_reverse];exact hk)⟩
 exact lZ (h.at' k a ha).2.1
theorem RI {m i L j:Nat} (hi:i<H.length) (ho:o<H.length):blk (Hy H e m i o L cells) j=if j=o then some (cells.set L (S (H.length+1) 0 (e.length+1) 1)) else if j=H.length+1 then some ((e++[m]).map N8) else if j=i then none else if j=H.length then some [N8 m] else blk H j:=by
 unfold Hy
 rw [jW (by simp;omega),l7,jW (by simp;omega),l7,List.length_set,List.length_append,List.length_singleton]
theorem MK {m l j:Nat} (h4:4<H.length) (ho:o<H.length):blk (MJ H m o l cells) j=if j=4 then some [S (H.length+2) 0 (l+1) 1] else if j=H.length+2 then some (cells.take l++[S H.length 0 1 1]) else if j=o then none else if j=H.length+1 then some [S H.length 0 1 1] else if j=H.length then some [N8 m] else blk H j:=by
 unfold MJ
 rw [jW (by simp;omega),l7,jW (by simp;omega),l7,l7,List.length_set,List.length_append,List.length_append,List.length_singleton,List.length_singleton]
theorem wH.put {m:Nat} (h:wH H (e::r) n b w o cells id):wH (Hy H e m (id r.length) o r.length cells) ((e++[m])::r) n b w o (cells.set r.length (S (H.length+1) 0 (e.length+1) 1)) (fun k=>if k=r.length then H.length+1 else id k):=by
 have l0:=lZ h.h0
 have l1:=lZ h.h1
 have l4:=lZ h.h4
 have lo:=lZ h.hc
 have li:=h.RG (k:=r.length) (by simp)
 obtain ⟨o0,o1,o4⟩:=h.o0
 have hl:=h.len
 rw [List.length_cons] at hl
 obtain ⟨q1,q2,q3,q4,q5,q6⟩:=h.at' r.length e (by rw [rev_at,if_neg (by omega),if_pos rfl])
 have key: ∀j,j<H.length→j≠o→j≠id r.length→blk (Hy H e m (id r.length) o r.length cells) j=blk H j:=fun j j1 j2 j3=>by
  rw [RI li lo,if_neg j2,if_neg (by omega),if_neg j3,if_neg (by omega)]
 refine ⟨by rw [key 0 l0 (by omega) (by omega),h.h0],by rw [key 1 l1 (by omega) (by omega),h.h1],?_,?_,h.o0,by rw [List.length_set,List.length_cons];exact hl,fun k a ha=>?_,fun k k' k1 k2 hk=>?_⟩
 ·rw [key 4 l4 (by omega) (by omega),h.h4,List.length_cons,List.length_cons]
 ·rw [RI li lo,if_pos rfl]
 ·rw [rev_at] at ha
  by_cases hk:k<r.length
  ·rw [if_pos hk] at ha
   obtain ⟨p1,p2,p3,p4,p5,p6⟩:=h.at' k a (by rw [rev_at,if_pos hk];exact ha)
   have hne:id k≠id r.length:=fun q=>absurd (h.inj k r.length (by simp;omega) (by simp) q) (by omega)
   simp only [if_neg (show¬k=r.length by omega)]
   rw [List.getElem?_set,if_neg (by omega),key _ (lZ p2) p6 hne]
   exact ⟨p1,p2,p3,p4,p5,p6⟩
  ·rw [if_neg hk] at ha
   split at ha
   ·rename_i hk2
    cases ha
    subst hk2
    simp only [if_pos]
    rw [List.getElem?_set,if_pos rfl,if_pos (by omega),RI li lo,if_neg (by omega),if_pos rfl,List.length_append,List.length_singleton]
    exact ⟨rfl,rfl,by omega,by omega,by omega,by omega⟩
   ·cases ha
 ·have hlt: ∀k,k<r.length→id k<H.length:=fun k hk=>h.RG (by simp;omega)
  rw [List.length_cons] at k1 k2
  split at hk
  ·rename_i e1
   split at hk
   ·omega
   ·have:=hlt k' (by omega)
    omega
  ·split at hk
   ·have:=hlt k (by omega)
    omega
   ·exact h.inj k k' (by simp;omega) (by simp;omega) hk
theorem wH.new {m:Nat} (h:wH H (e::r) n b w o cells id):Wy (MJ H m o (r.length+1) cells) ([m]::e::r) n b w:=by
 have l0:=lZ h.h0
 have l1:=lZ h.h1
 have l4:=lZ h.h4
 have lo:=lZ h.hc
 obtain ⟨o0,o1,o4⟩:=h.o0
 have hl:=h.len
 rw [List.length_cons] at hl
 have hlt: ∀k,k<r.length+1→id k<H.length:=fun k hk=>h.RG (by simp;omega)
 have key: ∀j,j<H.length→j≠o→j≠4→blk (MJ H m o (r.length+1) cells) j=blk H j:=fun j j1 j2 j3=>by
  rw [MK l4 lo,if_neg j3,if_neg (by omega),if_neg j2,if_neg (by omega),if_neg (by omega)]
 have htl:(cells.take (r.length+1)).length=r.length+1:=by rw [List.length_take];omega
 refine ⟨H.length+2,cells.take (r.length+1)++[S H.length 0 1 1],fun k=>if k=r.length+1 then H.length else id k,⟨by rw [key 0 l0 (by omega) (by omega),h.h0],by rw [key 1 l1 (by omega) (by omega),h.h1],?_,?_,by omega,by simp only [List.length_cons,List.length_append,htl,List.length_nil];omega,fun k a ha=>?_,fun k k' k1 k2 hk=>?_⟩⟩
 ·rw [MK l4 lo,if_pos rfl]
  rfl
 ·rw [MK l4 lo,if_neg (by omega),if_pos rfl]
 ·rw [rev_at,List.length_cons] at ha
  by_cases hk:k<r.length+1
  ·rw [if_pos hk] at ha
   obtain ⟨p1,p2,p3,p4,p5,p6⟩:=h.at' k a ha
   have:=hlt k hk
   simp only [if_neg (show¬k=r.length+1 by omega)]
   rw [List.getElem?_append_left (by omega),List.getElem?_take,if_pos hk,key _ (lZ p2) p6 p5]
   exact ⟨p1,p2,p3,p4,p5,by omega⟩
  ·rw [if_neg hk] at ha
   split at ha
   ·rename_i hk2
    cases ha
    subst hk2
    simp only [if_pos]
    rw [List.getElem?_append_right (by omega),htl,Nat.sub_self,MK l4 lo,if_neg (by omega),if_neg (by omega),if_neg (by omega),if_neg (by omega),if_pos rfl]
    exact ⟨rfl,rfl,by omega,by omega,by omega,by omega⟩
   ·cases ha
 ·simp only [List.length_cons] at k1 k2
  split at hk
  ·split at hk
   ·omega
   ·have:=hlt k' (by omega)
    omega
  ·split at hk
   ·have:=hlt k (by omega)
    omega
   ·exact h.inj k k' (by simp;omega) (by simp;omega) hk
end
end Go.Bm
namespace Go.Bm
open Go Go.Am
theorem aoJ {H:BH} {c:Option (List Value)}:blk (H++[c]) H.length=c:=by rw [l7,if_pos rfl]
theorem Eb {cs:List Value} {k:Nat} {v:Value} (h:k<cs.length):splice cs k [v]=cs.set k v:=by
 have:=Cm (g:=fun v:Value=>v) (xs:=cs) (k:=k) (y:=v) h
 simpa using this
theorem ac8 {H:BH} {cs:List Value} {b o j l e:Nat} (h:o<cs.length):fQ (some cs) H b o 1 (S j 0 l e)=some (undef,H.set b (some (cs.set o (S j 0 l e)))):=by
 rw [CB (vs:=[S j 0 l e]) rfl rfl rfl h,Eb h]
theorem Rj {H:BH} {b bytes cn l j q e:Nat} {cs:List Value} (hl:l≤cs.length) (h:(l+1)*bytes≤140737488355328):app1 (some [S j 0 q e]) (some cs) H b l bytes cn=some (S H.length 0 (l+1) 1,(H.set b none)++[some (cs.take l++[S j 0 q e])]):=by
 simp only [app1]
 rw [if_pos ⟨hl,h,rfl⟩]
section
variable {s:List UInt8} {H:BH} {K:Value→BH→Prop} {x:Bool}
set_option maxHeartbeats 2000000 in
theorem aaZ (hw:kG s) (hK:K (DV (s.length/2:Nat) (dY s) (eX s)) H):aJ x aev [.string (bs s)] H K:=by
 refine dw (.cons zA .nil) ?_
 have hsz:=Dn (l:=s)
 have hq:(s.length:Int).tdiv 2=((s.length/2:Nat):Int):=rfl
 obtain ⟨n,hn⟩: ∃n,s.length/2=n:=⟨_,rfl⟩
 rw [hn] at hK hq
 have hlen:=hw.1
 have hzl:=kM
 have gone: ∀{v:Value},bV none [v] 0=some v:=rfl
 refine bf afZ ?_;simp only [fH,aG]
 refine au @aH ?_
 refine au (aX @aH @hsz @hq) ?_
 refine aB ?_
 refine aB ?_
 refine aB ?_
 refine au @hsz ?_
 refine bM (fun mm f H'=> ∃i,i≤s.length∧mm=s.length-i∧f 0= .string (bs s)∧f 2=P 0 0∧f 3=P 1 0∧f 4=P 4 0∧f 5= .int .u8 ((dO (s.take i)).next:Int)∧f 6=clo BG [P 4 0,P 1 0]∧f 17=I s.length∧f 18=I i∧Wy H' (dO (s.take i)).ways n (dO (s.take i)).b (dO (s.take i)).w) (s.length) ?_ ?_
 ·refine ⟨_,_,Gh.refl,0,by omega,by omega,ah,ah,ah,ah,ah,ah,ah,ah,?_⟩
  refine ⟨3,[S 2 0 0 1],fun _=>2,⟨rfl,rfl,rfl,rfl,by omega,Nat.le_refl _,fun k a ha=>?_,fun k k' h1 h2 _=>?_⟩⟩
  ·have:k=0:=by
    have:=(List.getElem?_eq_some_iff.1 ha).1
    simp [dO,ms0] at this
    exact this
   subst this
   cases ha
   exact ⟨rfl,rfl,by omega,by omega,by omega,by omega⟩
  ·simp [dO,ms0] at h1 h2
   omega
 ·rintro mm f H' R ⟨i,hi,rfl,g0,g2,g3,g4,g5,g6,g17,g18,Hz⟩ hN hX hR hE
  simp only [fH.l0,aG]
  refine au (aC @g17 @g18) ?_
  obtain ⟨hok,cZ,hnx⟩:=AV hw i hi
  have hnl:=Dk hw i hi
  have hdp:=hw.2.2.1 i hi
  have hdg:=Ql (s:=s) (i:=i) hi
  obtain ⟨st,hst⟩: ∃st,dO (s.take i)=st:=⟨_,rfl⟩
  rw [hst] at g5 hok cZ hnx hnl Hz
  obtain ⟨W,m,b,w⟩:=st
  simp only at g5 hok cZ hnx hnl Hz
  cases W with
  |nil=>simp at cZ;omega
  |cons e r=>
  obtain ⟨L,hL⟩: ∃L,r.length=L:=⟨_,rfl⟩
  rw [List.length_cons,hL] at cZ
  have hLb:L≤32:=by omega
  have ht1:((L+1:Nat):Int)-1=(L:Nat):=by omega
  obtain ⟨o,cells,id,zS⟩:=Hz
  have zC: ∀y∈e,y<m:=fun y hy=>hok.lt e (by simp) y hy
  have hel:e.length≤32:=by
   have hnd:=hok.jX (L%2)
   simp only [lvl] at hnd
   rw [if_pos (by rw [hL]),List.flatten_cons,List.nodup_append] at hnd
   have:=xB hnd.1 zC
   omega
  have h4:=zS.h4
  rw [List.length_cons,hL] at h4
  have h1:=zS.h1
  have hc0:=zS.hc
  obtain ⟨o0,o1,o4⟩:=zS.o0
  have hcl:=zS.len
  rw [List.length_cons,hL] at hcl
  obtain ⟨p1,p2,p3,p4,p5,p6⟩:=zS.at' L e (by rw [rev_at,if_neg (by omega),if_pos hL.symm])
  obtain ⟨iT,hiT⟩: ∃iT,id L=iT:=⟨_,rfl⟩
  rw [hiT] at p1 p2 p3 p4 p5 p6
  have hlv: ∀{K':Value→BH→Prop},K' (.tuple ⟨[]⟩) ((H'.set 1 (some (DC n (if L%2=1 then b else fZ b e) (if L%2=1 then fZ w e else w)))).set 4 (some [S o 0 L 1]))→aJ false BG [P 4 0,P 1 0] H' K':=fun hk=>
   aoI h4 h1 hc0 p1 p2 p4 o1 hok.bb hok.bw (fun y hy=>by have:=zC y hy;omega) hLb hel hk
  have Bo:=zS.close (b':=if L%2=1 then b else fZ b e) (w':=if L%2=1 then fZ w e else w)
  rw [hL] at Bo
  obtain ⟨M,hM⟩: ∃M,(H'.set 1 (some (DC n (if L%2=1 then b else fZ b e) (if L%2=1 then fZ w e else w)))).set 4 (some [S o 0 L 1])=M:=⟨_,rfl⟩
  rw [hM] at Bo
  have hlv2: ∀{K':Value→BH→Prop},K' (.tuple ⟨[]⟩) M→aJ false BG [P 4 0,P 1 0] H' K':=fun hk=>hlv (by rw [hM];exact hk)
  refine aV (i<s.length) (fun hc=>?_) fun hc=>?_
  ·have hin:i<s.length:=by assumption
   obtain ⟨c,hc⟩: ∃c,s[i]=c:=⟨_,rfl⟩
   have hix:=Qk hin
   rw [hc] at hix
   have hrt:=KX hin
   rw [hst,hc,Dj] at hrt
   simp only at hrt
   have hnext: ∀f'' sJ st',dO (s.take (i+1))=st'→f'' 0= .string (bs s)→f'' 2=P 0 0→f'' 3=P 1 0→f'' 4=P 4 0→f'' 5= .int .u8 (st'.next:Int)→f'' 6=clo BG [P 4 0,P 1 0]→f'' 17=I s.length→f'' 18=I i→Wy sJ st'.ways n st'.b st'.w→T 0 fH.eP R f'' sJ:=by
    clear g0 g2 g3 g4 g5 g6 g17 g18
    intro f'' sJ st' hst' g0 g2 g3 g4 g5 g6 g17 g18 Hz
    subst hst'
    refine bI @g18 ?_
    exact hN (s.length-(i+1)) _ _ _ _ (by omega) Gh.refl ⟨i+1,by omega,rfl,ah,ah,ah,ah,ah,ah,ah,ah,Hz⟩
   refine yY ?_
   refine au @g18 ?_
   refine au (aC @g0 @hix) ?_
   by_cases qP:c.toNat=40
   ·have e41:decide ((c.toNat:Int)=41)=false:=decide_eq_false (by omega)
    rw [if_pos qP] at hrt
    have Qr:m<16:=by
     have:=Dk hw (i+1) (by omega)
     rw [hrt] at this
     simp only at this
     omega
    refine oZ @e41 ?_
    refine au (bG @g4 @h4 @gone @ht1) ?_
    have gc:bV none cells L=some (S iT 0 e.length 1):=p1
    have l4:=lZ h4
    have li:=lZ p2
    have lo:=lZ hc0
    have RJ:(H'++[some [N8 m]]).length=H'.length+1:=by simp
    have k4:blk (H'++[some [N8 m]]) 4=some [S o 0 (L+1) 1]:=by rw [l7,if_neg (by omega),h4]
    have ki:blk (H'++[some [N8 m]]) iT=some (e.map N8):=by rw [l7,if_neg (by omega),p2]
    have kn:blk (H'++[some [N8 m]]) H'.length=some [N8 m]:=aoJ
    have e4:(4==iT)=false:=by simpa using Ne.symm p5
    have ko:blk (((H'++[some [N8 m]]).set iT none)++[some ((e++[m]).map N8)]) o=some cells:=by
     rw [l7,List.length_set,RJ,if_neg (by omega),jW (by rw [RJ];omega),if_neg (Ne.symm p6),l7,if_neg (by omega),hc0]
    have hLc:L<cells.length:=by omega
    have hput:=zS.put (m:=m)
    rw [hL,hiT] at hput
    have hmid: ∀f' M2,M2=Hy H' e m iT o L cells→f' 0= .string (bs s)→f' 2=P 0 0→f' 3=P 1 0→f' 4=P 4 0→f' 5= .int .u8 (m:Int)→f' 6=clo BG [P 4 0,P 1 0]→f' 17=I s.length→f' 18=I i→T 0 (.seq fH.r12 fH.r13) (gu 1 (iH 0 fH.eP R)) f' M2:=by
     clear g0 g2 g3 g4 g5 g6 g17 g18
     intro f' M2 hM2 g0 g2 g3 g4 g5 g6 g17 g18
     rw [←hM2] at hput
     have hnew:=hput.new (m:=m)
     rw [hL] at hnew
     obtain ⟨c2,hc2⟩: ∃c2,cells.set L (S (H'.length+1) 0 (e.length+1) 1)=c2:=⟨_,rfl⟩
     rw [hc2] at hput hnew
     have ML:=hput.h4
     rw [List.length_cons,hL] at ML
     have hcc:=hput.hc
     have KP:=hput.len
     rw [List.length_cons,hL] at KP
     have l4':=lZ ML
     have lo':=lZ hcc
     have MN:(M2++[some [N8 m]]).length=M2.length+1:=by simp
     have RP:((M2++[some [N8 m]])++[some [S M2.length 0 1 1]]).length=M2.length+2:=by simp
     have kn2:blk ((M2++[some [N8 m]])++[some [S M2.length 0 1 1]]) (M2.length+1)=some [S M2.length 0 1 1]:=by rw [l7,if_pos (by rw [MN])]
     have ko2:blk ((M2++[some [N8 m]])++[some [S M2.length 0 1 1]]) o=some c2:=by rw [l7,if_neg (by rw [MN];omega),l7,if_neg (by omega),hcc]
     have k4b:blk ((((M2++[some [N8 m]])++[some [S M2.length 0 1 1]]).set o none)++[some (c2.take (L+1)++[S M2.length 0 1 1])]) 4=some [S o 0 (L+1) 1]:=by
      rw [l7,List.length_set,RP,if_neg (by omega),jW (by rw [RP];omega),if_neg (Ne.symm o4),l7,if_neg (by rw [MN];omega),l7,if_neg (by omega),ML]
     refine au (jM (bG (bG @g4 @ML @gone @g5) @MN @RP @kn2) @ko2 @Rj @KP @k4b @ac8) ?_
     refine bI @g5 ?_
     refine lq ?_
     exact hnext _ _ _ hrt ah ah ah ah ah ah ah ah hnew
    refine au (jM (bG (bG (bG @RK @g4 @h4 @gone) @hc0 @gc @g5) @RJ @k4 @ki) @kn @e4 @ko @ac8 @hLc) ?_
    exact hmid _ _ rfl ah ah ah ah ah ah ah ah
   ·have Gx:c.toNat=41:=(hc▸hw.2.1 _ (List.getElem_mem hin)).resolve_left qP
    have e41:decide ((c.toNat:Int)=41)=true:=decide_eq_true (by omega)
    rw [if_neg qP,hL] at hrt
    refine qL @e41 ?_
    refine aY (bG @g6 @ac6 @ac5 @ac7) fun Kr hKr=>?_
    refine hlv2 ?_
    refine aO ?_
    refine aI hKr ?_
    refine lq ?_
    have hfin:Wy M (if L%2=1 then (⟨r,m,b,fZ w e⟩:MS) else ⟨r,m,fZ b e,w⟩).ways n (if L%2=1 then (⟨r,m,b,fZ w e⟩:MS) else ⟨r,m,fZ b e,w⟩).b (if L%2=1 then (⟨r,m,b,fZ w e⟩:MS) else ⟨r,m,fZ b e,w⟩).w:=by
     by_cases hp:L%2=1
     ·simp only [if_pos hp] at Bo⊢;exact Bo
     ·simp only [if_neg hp] at Bo⊢;exact Bo
    refine hnext _ _ _ hrt ah ah ah ah ?_ ah ah ah hfin
    split<;>exact ah
  ·refine hX _ _ ?_
   obtain rfl:i=s.length:=by omega
   have hd0:=hw.2.2.2
   rw [List.take_length] at cZ hst hnx
   have hL0:L=0:=by omega
   subst hL0
   have hr0:r=[]:=List.eq_nil_of_length_eq_zero hL
   subst hr0
   have hmb:fZ b e=dY s:=by
    rw [dY,hst]
    rfl
   have hmw:w=eX s:=by
    rw [eX,hst]
   refine aY (bG @g6 @ac6 @ac5 @ac7) fun Kr hKr=>?_
   refine hlv2 ?_
   refine aO ?_
   refine aI hKr ?_
   obtain ⟨o',cells',id',hz⟩:=Bo
   have hM0:=hz.h0
   have hM1:=hz.h1
   rw [if_neg (by omega),if_neg (by omega),hmb,hmw] at hM1
   have hMs: ∀c,blk (M.set 0 c) 0=c:=fun c=>by rw [jW (lZ hM0),if_pos rfl]
   have hlB:(dY s).length=16:=by rw [←hmb];exact (hok.bb.fZ fun y hy=>by have:=zC y hy;omega).len
   have Rz:(eX s).length=16:=by rw [←hmw];exact hok.bw.len
   refine au (jk (bG @aH @aK @g2 @g3) @hM0 @hM1 @hlB @Rz) ?_
   refine lD (jM @aH @aK @g2 @hMs @hlB @Rz) ?_
   exact ⟨fC,hK⟩
end
end Go.Bm
namespace Go.Bm
open Go Go.Am
theorem zl {s:List UInt8} (h:kG s):By 16 (dY s)∧By 16 (eX s):=by
 obtain ⟨hok,hl,hn⟩:=AV h s.length (Nat.le_refl _)
 have hnl:=Dk h s.length (Nat.le_refl _)
 rw [List.take_length] at hok hl hn hnl
 have:=h.1
 refine ⟨?_,hok.bw⟩
 unfold dY
 refine hok.bb.fZ fun y hy=>?_
 cases hw:(dO s).ways with
 |nil=>rw [hw] at hy;simp at hy
 |cons e r=>
  rw [hw] at hy
  have:=hok.lt e (by rw [hw];simp) y hy
  omega
end Go.Bm
