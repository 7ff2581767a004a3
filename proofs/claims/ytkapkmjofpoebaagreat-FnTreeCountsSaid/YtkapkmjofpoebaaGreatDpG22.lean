/- DpWc, DpTn, DpTo, DpTp, DpTe, DpTl, DpWi -/
import Derived.Test.YtkapkmjofpoebaaGreatDpG16
import Derived.Test.YtkapkmjofpoebaaGreatDpG18
import Derived.Test.YtkapkmjofpoebaaGreatDpG19
import Derived.Test.YtkapkmjofpoebaaGreatDpG2
import Derived.Test.YtkapkmjofpoebaaGreatDpG20
import Derived.Test.YtkapkmjofpoebaaGreatDpG21
import Derived.Test.YtkapkmjofpoebaaGreatDpG3
import Derived.Test.YtkapkmjofpoebaaGreatDpG4
set_option linter.unusedVariables false
set_option linter.unusedSimpArgs false
set_option linter.unusedSectionVars false
namespace Go.Bm
open Go Go.Am
theorem KE {xs:List Int} {i:Nat} (h:i<xs.length):el xs i=xs[i]:=by simp [el,List.getD,h]
theorem su.desc {xs:List Int} (h: ∀i,i<xs.length→su xs i): ∀j i,i<j→j<xs.length→el xs j≤el xs i
 |0,i,hi,_=>absurd hi (Nat.not_lt_zero _)
 |j+1,i,hi,hj=>by
  have h1:=(h (j+1) hj).2 (by omega)
  rw [Nat.add_sub_cancel] at h1
  by_cases e:i=j
  ·rw [e];exact h1
  ·have:=su.desc h j i (by omega) (by omega)
   omega
theorem aay {xs:List Int} (h:oL xs): ∃t,xs=gY t∧t∈zo (dQ xs).toNat (dQ xs).toNat (dQ xs).toNat:=by
 obtain ⟨⟨hl1,hl2⟩,hok,hs⟩:=h
 have hpos: ∀x∈xs,1≤x:=fun x hx=>by
  obtain ⟨i,hi,rfl⟩:=List.mem_iff_getElem.1 hx
  have:=(hok i hi).1.1
  rw [KE hi] at this
  exact this
 have hsum: ∀i,i≤xs.length→(((xs.take i).map Int.toNat).sum:Nat)=kE xs i:=by
  intro i hi
  induction i with
  |zero=>rfl
  |succ i ih=>
   rw [List.take_add_one,List.getElem?_eq_getElem (by omega),Option.toList_some,List.map_append,List.sum_append,kE,Int.natCast_add,ih (by omega),KE (by omega)]
   have:=hpos xs[i] (List.getElem_mem _)
   simp
   omega
 have hS:=hsum xs.length (Nat.le_refl _)
 rw [List.take_length] at hS
 have hS':(xs.map Int.toNat).sum=(dQ xs).toNat:=by rw [dQ,←hS,Int.toNat_natCast]
 refine ⟨xs.map Int.toNat,?_,aaz (Nat.le_refl _) hS' (fun y hy=>?_) (fun y hy=>?_) ?_⟩
 ·rw [gY,List.map_map]
  conv=>lhs;rw [←List.map_id xs]
  refine List.map_congr_left fun x hx=>?_
  have:=hpos x hx
  show x=((x.toNat:Nat):Int)
  omega
 ·obtain ⟨x,hx,rfl⟩:=List.mem_map.1 hy
  have:=hpos x hx
  omega
 ·cases xs with
  |nil=>simp at hy
  |cons x l=>
   simp at hy
   subst hy
   rw [←hS',List.map_cons,List.sum_cons]
   omega
 ·rw [List.pairwise_iff_getElem]
  intro i j hi hj hij
  rw [List.length_map] at hi hj
  have:=su.desc hok j i hij hj
  rw [KE hi,KE hj] at this
  rw [List.getElem_map,List.getElem_map]
  omega
theorem PU {n:Nat} (h1:1≤n) (h7:n≤8):n∈[1,2,3,4,5,6,7,8]:=by simp;omega
theorem amk {xs ys:List Int} (h:rZ xs ys):(((ni xs ys (dQ xs).toNat).map oK).sum:Nat)=(qo xs ys).1∧(qo xs ys).2=0:=by
 obtain ⟨⟨hx,hy,hs⟩,h8⟩:=h
 have h1:=hx.pos
 obtain ⟨t,et,ht⟩:=aay hx
 obtain ⟨u,eu,hu⟩:=aay hy
 rw [←hs] at hu
 have hok:=PV.2 ⟨hx,hy,hs⟩
 refine ⟨?_,by rw [qo,if_pos hok];split<;>rfl⟩
 have hn1:1≤(dQ xs).toNat:=by omega
 have nZ:(dQ xs).toNat≤8:=by omega
 generalize (dQ xs).toNat=n at*
 have k1:=List.all_eq_true.1 amo n (PU hn1 nZ)
 have k2:=of_decide_eq_true (List.all_eq_true.1 (List.all_eq_true.1 k1 t ht) u hu)
 have k3:=of_decide_eq_true (List.all_eq_true.1 amq n (PU hn1 nZ))
 have k4:=of_decide_eq_true (List.all_eq_true.1 aaA n (PU hn1 nZ))
 rw [aaB hn1 nZ,et,eu,←k2,←k4,←k3,aaC]
 have e1:(fun s:List UInt8=>s.length/2/(Gj (dY s) (eX s) (s.length/2-1)).2)=oK:=by
  funext s
  rw [oK,vW,aaD]
 rw [e1]
 congr 3
 refine List.filter_congr fun s _=>?_
 rw [Bool.eq_iff_iff]
 simp only [Bool.and_eq_true,decide_eq_true_eq]
 exact ⟨fun ⟨a,b⟩=>⟨KF a,KF b⟩,fun ⟨a,b⟩=>⟨by rw [a],by rw [b]⟩⟩
theorem aml {s:List UInt8}:1≤vW s:=by
 unfold vW
 generalize s.length/2-1=k
 cases k with
 |zero=>exact Nat.le_refl _
 |succ k=>
  rw [iZ]
  have: ∀k,1≤(iZ (dY s) (eX s) k).2:=fun k=>by
   induction k with
   |zero=>exact Nat.le_refl _
   |succ k ih=>rw [iZ];split<;>(try split)<;>first|exact Nat.le_refl _|(show 1≤_+1;omega)|assumption|omega
  have:=this k
  split<;>(try split)<;>first|exact Nat.le_refl _|(show 1≤_+1;omega)|assumption|omega
end Go.Bm
namespace Go.Bm
open Go Go.Am
section
variable {n:Nat} {b w:List Nat}
theorem al8 {n:Int} {bl wh:List Int} (hb:By 16 b) (hw:By 16 w) (hbl:bl.length≤1048576) (hwl:wh.length≤1048576):
  aJ false aei [DV n b w,Fz bl.length 1 (bl.map I),Fz wh.length 1 (wh.map I)] [] fun v H1=>PW (nY n b w bl wh) v H1:=by
 have hlb:=hb.len
 have cZ:=hw.len
 refine bf afN ?_;simp only [bH,aG]
 refine au @aH ?_
 refine aY (aC @aH @aK) fun Kr hKr=>?_
 refine ZY hb hw ?_
 refine aO ?_
 refine aI hKr ?_
 refine aV (¬bC n b w) (fun hc=>?_) fun hc=>?_
 ·refine aB ?_
  refine aU ?_
  rw [aaE hc]
  rfl
 ·have hd:bC n b w:=Decidable.not_not.1 hc
  obtain ⟨m,rfl,hm1,hm2⟩:=hd.n0
  have hcb:=(AL hd)
  by_cases e1:bl.length=(aP b m).length
  ·by_cases e2:wh.length=(aP w m).length
   ·refine aY (aC @aH @aK) fun Kr hKr=>?_
    refine vY hb hd.1 ?_
    refine bP (aC @aH @aK) ?_
    refine vY hw hd.2.1 ?_
    refine aO ?_
    refine aI hKr ?_
    refine bY ?_
    have hsm:(bl++wh).length=bl.length+wh.length:=List.length_append
    have hsv:bl.length+wh.length=(aW b w m).length:=by rw [e1,e2,aW,List.length_append]
    refine dB fun Kr hKr=>?_
    refine amr (by omega) (by omega) ?_
    refine bP (aC @vZ @aaF) ?_
    refine aI hKr ?_
    rw [←hsm]
    have Gl:(bl++wh).length=(aW b w m).length:=by omega
    have hok:ug m b w bl wh↔ ∀i,i<(bl++wh).length→1≤el (bl++wh) i∧el (bl++wh) i≤1000000000:=by
     refine ⟨fun h i hi=>h.all.2 i (by omega),fun h=>⟨⟨e1,e2⟩,fun i hi=>?_,fun i hi=>?_⟩⟩
     ·have:=h i (by omega)
      rw [Gm,if_pos hi] at this
      exact this
     ·have:=h (bl.length+i) (by omega)
      rw [Gm,if_neg (by omega),Nat.add_sub_cancel_left] at this
      exact this
    generalize hsd:bl++wh=s at hsm Gl hok⊢
    refine aB ?_
    refine bM (fun d f H'=> ∃i,i≤s.length∧d=s.length-i∧(∀j,j<i→1≤el s j∧el s j≤1000000000)∧f 3=P 0 0∧f 8=S 1 0 s.length 1∧f 51=S 1 0 s.length 1∧f 52=I (s.length:Nat)∧f 53=I i∧H'=[some (DC m b w),some (s.map I)]) (s.length) ?_ ?_
    ·refine ⟨_,_,(Gh.nrm [0,2] rfl rfl (by simp only [RH,l9,RV])),0,by omega,by omega,fun j hj=>by omega,ah,ah,ah,ah,ah,?_⟩
     all_goals simp [blk]
    ·rintro d f H' R ⟨i,hi,rfl,hall,g3,g8,g51,g52,KG,rfl⟩ hN hX hR hE
     simp only [bH.l0,aG]
     refine au (aC @g52 @KG) ?_
     refine aV (i<s.length) (fun hc=>?_) fun hc=>?_
     ·have his:i<s.length:=by assumption
      refine bK ?_
      refine au (aC @g51 @KG) ?_
      by_cases h1:el s i<1
      ·refine aB ?_
       refine dI ?_
       refine aB ?_
       refine hR _ _ ?_
       refine aU ?_
       rw [C9 hd (fun h=>by have:=(hok.1 h) i his;omega)]
       rfl
      ·by_cases h2:el s i>1000000000
       ·refine aB ?_
        refine dI ?_
        refine aB ?_
        refine hR _ _ ?_
        refine aU ?_
        rw [C9 hd (fun h=>by have:=(hok.1 h) i his;omega)]
        rfl
       ·refine aB ?_
        refine bY ?_
        refine bI @KG ?_
        refine hN (s.length-(i+1)) _ _ _ _ (by omega) Gh.refl ⟨i+1,by omega,rfl,fun j hj=>?_,ah,ah,ah,ah,ah,rfl⟩
        rcases Nat.lt_or_ge j i with h|h
        ·exact hall j h
        ·obtain rfl:j=i:=by omega
         omega
     ·refine hX _ _ ?_
      obtain rfl:i=s.length:=by omega
      have uh:ug m b w bl wh:=hok.2 hall
      have AO: ∀v,v<(aW b w m).length→1≤el s v∧el s v≤1000000000:=fun v hv=>hall v (by omega)
      have hmn:=hd.1.1
      refine iE ?_
      refine aY (aX @g3 @aH @aK) fun Kr hKr=>?_
      refine aaG hb hw hd ?_
      refine aO ?_
      refine aI hKr ?_
      refine aV (¬Tree m b w) (fun hc=>?_) fun hc=>?_
      ·refine aB ?_
       refine aU ?_
       rw [aaH hd uh hc]
       rfl
      ·have ht:Tree m b w:=Decidable.not_not.1 hc
       refine aY (aX @g3 @aH @aK) fun Kr hKr=>?_
       refine PX hb hw hd ?_
       refine aO ?_
       refine aI hKr ?_
       refine au (aX @g3 @aH @aK) ?_
       refine aB ?_
       have hz:List.replicate m (Value.int .i64 0)=(List.replicate m (0:Int)).map I:=by simp
       refine bM (fun d f H'=> ∃o ag,d=(if ag=true then left o m+1 else 0)∧PM b w m s o∧(ag=false→ ∀u,u<(aW b w m).length→(opens o (vl b w m u)).length≠1)∧f 8=S 0 0 s.length 1∧f 11=VS b w m∧f 12=ES b w m∧f 13=S 1 0 m 1∧f 14= .bool ag∧H'=[some ((lf b w m s o).map I),some (o.map I)]) (left (List.replicate m (0:Int)) m+1) ?_ ?_
       ·refine ⟨_,_,(Gh.nrm [1,2] rfl rfl (by simp only [RH,RV])),List.replicate m 0,true,?_,PM.zero,(fun h=>by cases h),?_,?_,?_,?_,?_,?_⟩
        any_goals (simp (disch:=omega) only [RA,↓reduceIte,Nat.reduceEqDiff,Nat.reduceBEq,Nat.reduceSub,Nat.reduceAdd,Nat.reduceMul,Nat.reduceLT,Nat.reduceLeDiff,Int.reduceLE,Int.reduceLT,Int.reduceEq,Int.reduceNeg,Int.reduceToNat,Int.reduceMul,Int.reduceAdd,Int.reduceSub,Int.reduceBEq,Int.reduceBNe,reduceCtorEq,RD,RE, *]<;>rfl)
        rw [ams Gl,←hz]
        rfl
       ·clear g3 g8 g51 g52 KG hN hX hR hE
        rintro d f H' R ⟨o,ag,rfl,hpm,hag,g8,g11,g12,g13,g14,rfl⟩ hN hX hR hE
        simp only [bH.l3,aG]
        have hp:=hpm.1
        have hol:o.length=m:=hp.len
        have hvl:=Gl
        refine au @g14 ?_
        cases ag with
        |false=>
         have hag:=hag rfl
         have hl0:left o m=0:=Classical.byContradiction fun h=>by
          obtain ⟨v,hv,x,hx⟩:=aaI hd ht h
          rw [←og hv] at hx
          exact hag v hv (by rw [hx];rfl)
         refine bY ?_
         refine hX _ _ ?_
         refine iE ?_
         refine au @g8 ?_
         refine bM (fun d f H'=> ∃i,i≤s.length∧d=s.length-i∧(∀j,j<i→el (lf b w m s o) j=0)∧f 13=S 1 0 m 1∧f 139=S 0 0 s.length 1∧f 140=I (s.length:Nat)∧f 141=I i∧H'=[some ((lf b w m s o).map I),some (o.map I)]) (s.length) ?_ ?_
         ·exact ⟨_,_,Gh.refl,0,by omega,by omega,fun j hj=>by omega,ah,ah,ah,ah,rfl⟩
         ·clear g8 g11 g12 g13 g14
          rintro d f H' R1 ⟨i,hi,rfl,hz0,g13,amu,amv,PY,rfl⟩ hN1 hX1 hR1 hE1
          simp only [bH.l4,aG]
          refine au (aC @amv @PY) ?_
          refine aV (i<s.length) (fun hc=>?_) fun hc=>?_
          ·have his:i<s.length:=by assumption
           have hll:=xH (b:=b) (w:=w) (n:=m) (s:=s) (o:=o)
           refine bK ?_
           refine au (aX @amu @PY @hll) ?_
           refine aB ?_
           refine aV (¬el (lf b w m s o) i=0) (fun hc=>?_) fun hc=>?_
           ·refine aB ?_
            refine hR1 _ _ ?_
            refine aU ?_
            have hno: ∀W,¬Good b w m (bl++wh) W:=fun W hW=>by
             rw [hsd] at hW
             have e:=hp.bad hd hl0 hW
             have h1:=uV (b:=b) (w:=w) (n:=m) (s:=s) (o:=o) (v:=i) (by omega)
             have h2:=hW.sum i (by omega)
             rw [←og (by omega),←e] at h2
             omega
            rw [Gn hd uh ht hno]
            rfl
           ·have hzi:el (lf b w m s o) i=0:=Decidable.not_not.1 hc
            refine bI @PY ?_
            refine hN1 (s.length-(i+1)) _ _ _ _ (by omega) Gh.refl ⟨i+1,by omega,rfl,fun j hj=>?_,ah,ah,ah,ah,rfl⟩
            rcases Nat.lt_or_ge j i with h|h
            ·exact hz0 j h
            ·obtain rfl:j=i:=by omega
             exact hzi
          ·refine hX1 _ _ ?_
           obtain rfl:i=s.length:=by omega
           have hgood:Good b w m (bl++wh) o:=by
            rw [hsd]
            refine hp.full hl0 fun v hv=>?_
            have h1:=uV (b:=b) (w:=w) (n:=m) (s:=s) (o:=o) hv
            have h2:=hz0 v (by omega)
            rw [←og hv]
            omega
           refine au @g13 ?_
           refine aU ?_
           rw [aaJ hd uh ht hgood]
           exact ⟨1,by rw [hol],rfl⟩
        |true=>
         refine dI ?_
         refine bK ?_
         refine aB ?_
         refine au @g11 ?_
         refine amw ?_
         refine bM (fun d f H'=> ∃v o1 ag,v≤(aW b w m).length∧d=(aW b w m).length-v∧PM b w m s o1∧Pass b w m o o1 ag v∧f 8=S 0 0 s.length 1∧f 11=VS b w m∧f 12=ES b w m∧f 13=S 1 0 m 1∧f 14= .bool ag∧f 76=VS b w m∧f 77=I ((aW b w m).length:Nat)∧f 78=I v∧H'=[some ((lf b w m s o1).map I),some (o1.map I)]) ((aW b w m).length) ?_ ?_
         ·exact ⟨_,_,Gh.refl,0,o,false,by omega,by omega,hpm,⟨fun _=>⟨rfl,fun u hu=>by omega⟩,fun h=>by cases h⟩,ah,ah,ah,ah,ah,ah,ah,ah,rfl⟩
         ·clear g8 g11 g12 g13 g14
          rintro d f H' R1 ⟨v,o1,ag,hv,rfl,sD,hps,g8,g11,g12,g13,g14,Gp,Gq,AP,rfl⟩ hN1 hX1 hR1 hE1
          simp only [bH.l2,aG]
          have hp1:=sD.1
          refine au (aC @Gq @AP) ?_
          refine aV (v<(aW b w m).length) (fun hc=>?_) fun hc=>?_
          ·have kZ:v<(aW b w m).length:=by assumption
           obtain ⟨hv1,hv2,hv3⟩:=wo hd kZ
           have rJ:(aW b w m).getD v []=vl b w m v:=rfl
           have AQ:o1.length=m:=hp1.len
           have hll:=xH (b:=b) (w:=w) (n:=m) (s:=s) (o:=o1)
           have hnext: ∀f' o2 zq,PM b w m s o2→Pass b w m o o2 zq (v+1)→f' 8=S 0 0 s.length 1→f' 11=VS b w m→f' 12=ES b w m→f' 13=S 1 0 m 1→f' 14= .bool zq→f' 76=VS b w m→f' 77=I ((aW b w m).length:Nat)→f' 78=I v→
             T 0 bH.BI R1 f' [some ((lf b w m s o2).map I),some (o2.map I)]:=by
            clear g8 g11 g12 g13 g14 Gp Gq AP
            intro f' o2 zq hp2 PZ g8 g11 g12 g13 g14 Gp Gq AP
            refine bI @AP ?_
            exact hN1 ((aW b w m).length-(v+1)) _ _ _ _ (by omega) Gh.refl ⟨v+1,o2,zq,by omega,rfl,hp2,PZ,ah,ah,ah,ah,ah,ah,ah,ah,rfl⟩
           refine yY ?_
           refine au (bG @Gp @AP @qO @rJ) ?_
           refine aB ?_
           refine aB ?_
           refine bM (fun d f H'=> ∃j,j≤(vl b w m v).length∧d=(vl b w m v).length-j∧f 8=S 0 0 s.length 1∧f 11=VS b w m∧f 12=ES b w m∧f 13=S 1 0 m 1∧f 14= .bool ag∧f 15=I v∧f 17=S 2 0 (opens o1 ((vl b w m v).take j)).length 1∧f 76=VS b w m∧f 77=I ((aW b w m).length:Nat)∧f 78=I v∧f 84=FN (vl b w m v)∧f 85=I ((vl b w m v).length:Nat)∧f 86=I j∧H'=[some ((lf b w m s o1).map I),some (o1.map I),some ((opens o1 ((vl b w m v).take j)).map bT)]) ((vl b w m v).length) ?_ ?_
           ·exact ⟨_,_,Gh.refl,0,by omega,by omega,ah,ah,ah,ah,ah,ah,ah,ah,ah,ah,ah,ah,ah,rfl⟩
           ·clear g8 g11 g12 g13 g14 Gp Gq AP
            rintro d f H' R2 ⟨j,hj,rfl,g8,g11,g12,g13,g14,g15,g17,Gp,Gq,AP,g84,g85,KH,rfl⟩ iG hX2 hR2 hE2
            simp only [bH.l1,aG]
            have hop:(opens o1 ((vl b w m v).take j)).length≤16:=by
             have h1:=List.length_filter_le (fun x=>el o1 x==0) ((vl b w m v).take j)
             have h2:=List.length_take_le j (vl b w m v)
             simp only [opens]
             omega
            refine au (aC @g85 @KH) ?_
            refine aV (j<(vl b w m v).length) (fun hc=>?_) fun hc=>?_
            ·have hjl:j<(vl b w m v).length:=by assumption
             have hxm:=hv3 _ (iM hjl)
             have htk:(vl b w m v).take (j+1)=(vl b w m v).take j++[nl (vl b w m v) j]:=AU hjl
             have hos:=aaK (o:=o1) (l:=(vl b w m v).take j) (x:=nl (vl b w m v) j)
             rw [←htk] at hos
             refine bK ?_
             refine au (aX @g84 @KH @mD) ?_
             refine au (aC @g13 @AQ) ?_
             refine aV (el o1 (nl (vl b w m v) j)=0) (fun hc=>?_) fun hc=>?_
             ·rw [if_pos hc] at hos
              refine au (aC @g17 @xI) ?_
              refine bI @KH ?_
              refine iG ((vl b w m v).length-(j+1)) _ _ _ _ (by omega) (Gh.nrm [0,1,4] rfl rfl (by simp only [RH,RV])) ⟨j+1,by omega,rfl,ah,ah,ah,ah,ah,ah,?_,ah,ah,ah,ah,ah,ah,?_⟩
              ·rw [hos,List.length_append,List.length_singleton]
               clear hos
               simp (disch:=omega) only [RA,↓reduceIte,Nat.reduceEqDiff,Nat.reduceBEq,Nat.reduceSub,Nat.reduceAdd,Nat.reduceMul,Nat.reduceLT,Nat.reduceLeDiff,Int.reduceLE,Int.reduceLT,Int.reduceEq,Int.reduceNeg,Int.reduceToNat,Int.reduceMul,Int.reduceAdd,Int.reduceSub,Int.reduceBEq,Int.reduceBNe,reduceCtorEq,RD,RE, *]<;>rfl
              ·rw [hos]
               rfl
             ·rw [if_neg hc] at hos
              refine bI @KH ?_
              refine iG ((vl b w m v).length-(j+1)) _ _ _ _ (by omega) Gh.refl ⟨j+1,by omega,rfl,ah,ah,ah,ah,ah,ah,?_,ah,ah,ah,ah,ah,ah,?_⟩
              ·rw [hos]
               clear hos
               simp (disch:=omega) only [RA,↓reduceIte,Nat.reduceEqDiff,Nat.reduceBEq,Nat.reduceSub,Nat.reduceAdd,Nat.reduceMul,Nat.reduceLT,Nat.reduceLeDiff,Int.reduceLE,Int.reduceLT,Int.reduceEq,Int.reduceNeg,Int.reduceToNat,Int.reduceMul,Int.reduceAdd,Int.reduceSub,Int.reduceBEq,Int.reduceBNe,reduceCtorEq,RD,RE, *]<;>rfl
              ·rw [hos]
            ·refine hX2 _ _ ?_
             obtain rfl:j=(vl b w m v).length:=by omega
             rw [List.take_length] at g17 hop⊢
             refine iE ?_
             refine au @g17 ?_
             by_cases h1:(opens o1 (vl b w m v)).length=1
             ·obtain ⟨x,hx⟩: ∃x,opens o1 (vl b w m v)=[x]:=List.length_eq_one_iff.1 h1
              have hxo:=rM.1 (show x∈opens o1 (vl b w m v) by rw [hx];simp)
              have hxm:=hv3 x hxo.1
              have hx2:=hx
              rw [og kZ] at hx2
              have hlv:=uV (b:=b) (w:=w) (n:=m) (s:=s) (o:=o1) kZ
              have hnl:nl [x] 0=x:=rfl
              rw [hx] at g17⊢
              rw [List.length_singleton] at g17
              have hg1:bV none [bT x] 0=some (bT x):=rfl
              have hbd:=fun u hu=>sD.bd hd AO (v:=u) hu
              refine bY ?_
              refine au (jk @g8 @g15 @g17 @hll @hg1) ?_
              refine aB ?_
              refine aV (el (lf b w m s o1) v<1) (fun hc=>?_) fun hc=>?_
              ·refine aB ?_
               refine hR1 _ _ ?_
               refine hR _ _ ?_
               refine aU ?_
               have hno: ∀W,¬Good b w m (bl++wh) W:=fun W hW=>by
                rw [hsd] at hW
                have h2:=hp1.one hd hW kZ hx2
                have h3:=hW.pos x hxm
                rw [←og kZ] at h2
                omega
               rw [Gn hd uh ht hno]
               rfl
              ·obtain ⟨q1,q2⟩:=sD.set hd AO kZ hx (by omega)
               have hset:=amx hd (s:=s) AQ hxm hxo.2 (r:=el (lf b w m s o1) v)
               have he0:=aaL (b:=b) (w:=w) hxm
               have he1:=aaM (b:=b) (w:=w) hxm
               have hE0:=o7 hd (c:=false) hxm
               have hE1:=o7 hd (c:=true) hxm
               have hEn:=aaN hd hxm
               have KI:=KJ (b:=b) (w:=w) (n:=m)
               have hb0:=hbd _ hE0
               have hb1:=hbd _ hE1
               have hbv:=hbd _ kZ
               generalize hr:el (lf b w m s o1) v=r at*
               refine au (aC @g13 @AQ) ?_
               refine au (jM @g8 @g12 @hll @mD @he0 @KI) ?_
               have aaO:((lf b w m s o1).set (ends b w m false x) (el (lf b w m s o1) (ends b w m false x)-r)).length=(aW b w m).length:=by rw [List.length_set,hll]
               have aaP:el ((lf b w m s o1).set (ends b w m false x) (el (lf b w m s o1) (ends b w m false x)-r)) (ends b w m true x)=el (lf b w m s o1) (ends b w m true x):=by
                rw [at_set (by omega),if_neg (fun h=>hEn h.symm)]
               generalize (lf b w m s o1).set (ends b w m false x) (el (lf b w m s o1) (ends b w m false x)-r)=L1 at hset aaO aaP⊢
               refine au (bG (bG @g8 @g12 @aaO @aaP) @mD @he1 @KI) ?_
               refine FP ?_
               refine lq ?_
               refine jO (Gh.nrm [0,1] rfl rfl (by simp only [RH,RV])) ?_
               rw [hset]
               refine hnext _ (o1.set x r) true q1 ⟨(fun h=>by cases h),fun _=>?_⟩ ah ah ah ah ah ah ah ah
               cases ag with
               |false=>rw [←(hps.1 rfl).1];exact q2
               |true=>have:=hps.2 rfl;omega
             ·refine dI ?_
              refine lq ?_
              refine jO (Gh.nrm [0,1] rfl rfl (by simp only [RH,RV])) ?_
              refine hnext _ o1 ag sD ⟨fun h=>?_,fun h=>hps.2 h⟩ ah ah ah ah ah ah ah ah
              obtain ⟨k1,k2⟩:=hps.1 h
              refine ⟨k1,fun u hu=>?_⟩
              rcases Nat.lt_or_ge u v with h2|h2
              ·exact k2 u h2
              ·obtain rfl:u=v:=by omega
               rw [←k1]
               exact h1
          ·refine hX1 _ _ ?_
           obtain rfl:v=(aW b w m).length:=by omega
           refine wL ?_
           refine hN (if ag=true then left o1 m+1 else 0) _ _ _ _ ?_ Gh.refl ⟨o1,ag,rfl,sD,fun h=>?_,ah,ah,ah,ah,ah,rfl⟩
           ·cases ag with
            |false=>simp
            |true=>have:=hps.2 rfl;simp;omega
           ·obtain ⟨k1,k2⟩:=hps.1 h
            rw [k1]
            exact k2
   ·refine aY (aC @aH @aK) fun Kr hKr=>?_
    refine vY hb hd.1 ?_
    refine bP (aC @aH @aK) ?_
    refine vY hw hd.2.1 ?_
    refine aO ?_
    refine aI hKr ?_
    refine dI ?_
    refine aB ?_
    refine aU ?_
    rw [C9 hd (fun h=>e2 h.1.2)]
    rfl
  ·refine aY (aC @aH @aK) fun Kr hKr=>?_
   refine vY hb hd.1 ?_
   refine aO ?_
   refine aI hKr ?_
   refine dI ?_
   refine aB ?_
   refine aU ?_
   rw [C9 hd (fun h=>e1 h.1.1)]
   rfl
end
end Go.Bm
namespace Go.Bm
open Go Go.Am
def xJ (xs:List Int) (k:Nat):Prop:=(∀i,i<xs.length→1≤el xs i∧el xs i≤1000000000)∧xs.length=k
instance (xs:List Int) (k:Nat):Decidable (xJ xs k):=by unfold xJ;infer_instance
theorem aaQ {x:Bool} {xs:List Int} {k:Nat} {H:BH} {K:Value→BH→Prop} (hl:xs.length≤1048576) (hk:k≤1048576) (hK:K (.bool (decide (xJ xs k))) H):
  aJ x aeO [Fz xs.length 1 (xs.map I),I k] H K:=by
 refine dw (.cons .fz (.cons .int .nil)) ?_
 refine bf agu ?_;simp only [mP,aG]
 refine aB ?_
 refine aB ?_
 refine bM (fun d f H'=> ∃i,i≤xs.length∧d=xs.length-i∧(∀j,j<i→1≤el xs j∧el xs j≤1000000000)∧f 0=Fz xs.length 1 (xs.map I)∧f 1=I k∧f 5=I i∧H'=[]) (xs.length) ?_ ?_
 ·exact ⟨_,_,Gh.refl,0,by omega,by omega,fun j hj=>by omega,ah,ah,ah,rfl⟩
 ·rintro d f H' R ⟨i,hi,rfl,hall,g0,g1,g5,rfl⟩ hN hX hR hE
  simp only [mP.l0,aG]
  refine au (aC @g0 @g5) ?_
  refine aV (i<xs.length) (fun hc=>?_) fun hc=>?_
  ·have his:i<xs.length:=by assumption
   refine bK ?_
   refine aY (aC @g0 @g5) fun Kr hKr=>?_
   refine vU ?_
   refine aO ?_
   refine aI hKr ?_
   refine aV (¬(1≤el xs i∧el xs i≤1000000000)) (fun hc=>?_) fun hc=>?_
   ·refine aB ?_
    refine hR _ _ ?_
    refine aU ?_
    rw [decide_eq_false (fun h=>hc (h.1 i his))] at hK
    exact ⟨.bool,hK⟩
   ·have hok:=Decidable.not_not.1 hc
    refine bI @g5 ?_
    refine hN (xs.length-(i+1)) _ _ _ _ (by omega) Gh.refl ⟨i+1,by omega,rfl,fun j hj=>?_,ah,ah,ah,rfl⟩
    rcases Nat.lt_or_ge j i with h|h
    ·exact hall j h
    ·obtain rfl:j=i:=by omega
     exact hok
  ·refine hX _ _ ?_
   obtain rfl:i=xs.length:=by omega
   have hdd:decide ((xs.length:Int)=(k:Int))=decide (xJ xs k):=decide_eq_decide.2 ⟨fun h=>⟨hall,by omega⟩,fun h=>by have:=h.2;omega⟩
   refine au (aC @g0 @g1) ?_
   refine aU ?_
   first|exact ⟨.bool,by rw [←hdd] at hK;exact hK⟩|(have hd2:decide (xs.length=k)=decide (xJ xs k):=decide_eq_decide.2 ⟨fun h=>⟨hall,h⟩,fun h=>h.2⟩;exact ⟨.bool,by rw [←hd2] at hK;exact hK⟩)
section
variable {n:Nat} {b w:List Nat}
theorem aaR {o:List Int} {l:List Nat} {x:Nat}:dL o (l++[x])=dL o l+el o x:=by simp [dL]
def KL (l:List Nat):Int:=(l.getLast?.map fun x=>(x:Int)).getD (-1)
theorem amy {l:List Nat} {x:Nat}:KL (l++[x])=x:=by simp [KL]
theorem P5 {bl wh:List Int}:ug n b w bl wh↔xJ bl (aP b n).length∧xJ wh (aP w n).length:=
 ⟨fun h=>⟨⟨h.2.1,h.1.1⟩,⟨h.2.2,h.1.2⟩⟩,fun h=>⟨⟨h.1.2,h.2.2⟩,h.1.1,h.2.1⟩⟩
theorem al9 {n:Int} {bl wh:List Int} (hb:By 16 b) (hw:By 16 w) (hbl:bl.length≤1048576) (hwl:wh.length≤1048576):
  aJ false aej [DV n b w,Fz bl.length 1 (bl.map I),Fz wh.length 1 (wh.map I)] [] fun v H1=>PW (nY n b w bl wh) v H1:=by
 have hlb:=hb.len
 have cZ:=hw.len
 refine bf afO ?_;simp only [bJ,aG]
 refine au @aH ?_
 refine aY (aC @aH @aK) fun Kr hKr=>?_
 refine F6 hb hw ?_
 refine aO ?_
 refine aI hKr ?_
 refine aV (¬bC n b w) (fun hc=>?_) fun hc=>?_
 ·refine aB ?_
  refine aU ?_
  rw [aaE hc]
  rfl
 ·have hd:bC n b w:=Decidable.not_not.1 hc
  obtain ⟨m,rfl,hm1,hm2⟩:=hd.n0
  obtain ⟨hc1,hc2,hc3,hc4⟩:=AL hd
  refine aY (aC @aH @aK) fun Kr hKr=>?_
  refine KN hb hd.1 ?_
  refine bP (aC @aH @aK) ?_
  refine KN hw hd.2.1 ?_
  refine aO ?_
  refine aI hKr ?_
  refine bK ?_
  refine dB fun Kr hKr=>?_
  refine aaQ hbl (by omega) ?_
  by_cases h1:xJ bl (aP b m).length
  ·rw [decide_eq_true h1]
   refine aO ?_
   refine aaQ hwl (by omega) ?_
   by_cases h2:xJ wh (aP w m).length
   ·rw [decide_eq_true h2]
    refine aO ?_
    refine aI hKr ?_
    refine bY ?_
    have uh:ug m b w bl wh:=P5.2 ⟨h1,h2⟩
    refine aY (aC @aH @aK) fun Kr hKr=>?_
    refine aaS hb hw hd ?_
    refine aO ?_
    refine aI hKr ?_
    refine aV (¬Tree m b w) (fun hc=>?_) fun hc=>?_
    ·refine aB ?_
     refine aU ?_
     rw [aaH hd uh hc]
     rfl
    ·have ht:Tree m b w:=Decidable.not_not.1 hc
     have hsm:(bl++wh).length=bl.length+wh.length:=List.length_append
     have Gl:(bl++wh).length=(aW b w m).length:=uh.all.1
     have hvl:(aP b m).length+(aP w m).length=(aW b w m).length:=by rw [aW,List.length_append]
     have hvv:aP b m++aP w m=aW b w m:=rfl
     have AO:=uh.all.2
     have hmn:=hd.1.1
     refine aY (aX @vZ @aaT @aaU) fun Kr hKr=>?_
     refine amA (by omega) ?_
     refine bP (aC @vZ @aaF) ?_
     refine aI hKr ?_
     rw [←hsm,hvl,hvv]
     generalize hsd:bl++wh=s at hsm Gl AO⊢
     refine au (aC @aH @aK) ?_
     refine aB ?_
     have hz:List.replicate m (Value.int .i64 0)=(List.replicate m (0:Int)).map I:=by simp
     refine bM (fun d f H'=> ∃i o,i≤m∧d=m-i∧PM b w m s o∧left o m≤m-i∧f 3=P 0 0∧f 10=S 1 0 (aW b w m).length 1∧f 11=S 2 0 s.length 1∧f 12=S 3 0 m 1∧f 13=I i∧H'=[some (DC m b w),some ((aW b w m).map FN),some (s.map I),some (o.map I)]) (m) ?_ ?_
     ·refine ⟨_,_,(Gh.nrm [0,3,5,6] rfl rfl (by simp only [RH,l9,RV])),0,List.replicate m 0,by omega,by omega,PM.zero,left_le,ah,ah,ah,ah,ah,?_⟩
      all_goals (rw [←hz];rfl)
     ·rintro d f H' R ⟨i,o,hi,rfl,hpm,hleft,g3,g10,g11,g12,g13,rfl⟩ hN hX hR hE
      simp only [bJ.l2,aG]
      have hol:o.length=m:=hpm.1.len
      refine au (bG @g3 @g13 @aH @aK) ?_
      refine aV (i<m) (fun hc=>?_) fun hc=>?_
      ·refine bK ?_
       refine aB ?_
       refine bM (fun d f H'=> ∃v o1 ag,v≤(aW b w m).length∧d=(aW b w m).length-v∧PM b w m s o1∧Pass b w m o o1 ag v∧f 3=P 0 0∧f 10=S 1 0 (aW b w m).length 1∧f 11=S 2 0 s.length 1∧f 12=S 3 0 m 1∧f 13=I i∧f 14=I v∧H'=[some (DC m b w),some ((aW b w m).map FN),some (s.map I),some (o1.map I)]) ((aW b w m).length) ?_ ?_
       ·exact ⟨_,_,Gh.refl,0,o,false,by omega,by omega,hpm,⟨fun _=>⟨rfl,fun u hu=>by omega⟩,fun h=>by cases h⟩,ah,ah,ah,ah,ah,ah,rfl⟩
       ·clear g3 g10 g11 g12 g13
        rintro d f H' R1 ⟨v,o1,ag,hv,rfl,sD,hps,g3,g10,g11,g12,g13,g14,rfl⟩ hN1 hX1 hR1 hE1
        simp only [bJ.l1,aG]
        have hp1:=sD.1
        refine au (aC @g10 @g14) ?_
        refine aV (v<(aW b w m).length) (fun hc=>?_) fun hc=>?_
        ·have kZ:v<(aW b w m).length:=by assumption
         obtain ⟨hv1,hv2,hv3⟩:=wo hd kZ
         have rJ:(aW b w m).getD v []=vl b w m v:=rfl
         have AQ:o1.length=m:=hp1.len
         have hnext: ∀f' o2 zq,PM b w m s o2→Pass b w m o o2 zq (v+1)→f' 3=P 0 0→f' 10=S 1 0 (aW b w m).length 1→f' 11=S 2 0 s.length 1→f' 12=S 3 0 m 1→f' 13=I i→f' 14=I v→
           T 0 bJ.gG R1 f' [some (DC m b w),some ((aW b w m).map FN),some (s.map I),some (o2.map I)]:=by
          clear g3 g10 g11 g12 g13 g14
          intro f' o2 zq hp2 PZ g3 g10 g11 g12 g13 g14
          refine bI @g14 ?_
          exact hN1 ((aW b w m).length-(v+1)) _ _ _ _ (by omega) Gh.refl ⟨v+1,o2,zq,by omega,rfl,hp2,PZ,ah,ah,ah,ah,ah,ah,rfl⟩
         refine bK ?_
         refine au (aC @g11 @g14) ?_
         refine aB ?_
         refine bM (fun d f H'=> ∃j,j≤(vl b w m v).length∧d=(vl b w m v).length-j∧f 3=P 0 0∧f 10=S 1 0 (aW b w m).length 1∧f 11=S 2 0 s.length 1∧f 12=S 3 0 m 1∧f 13=I i∧f 14=I v∧f 15=I (el s v-dL o1 ((vl b w m v).take j))∧f 16=I ((opens o1 ((vl b w m v).take j)).length:Nat)∧f 17=I (KL (opens o1 ((vl b w m v).take j)))∧f 18=I j∧H'=[some (DC m b w),some ((aW b w m).map FN),some (s.map I),some (o1.map I)]) ((vl b w m v).length) ?_ ?_
         ·refine ⟨_,_,Gh.refl,0,by omega,by omega,ah,ah,ah,ah,ah,ah,?_,ah,ah,ah,rfl⟩
          all_goals (simp only [List.take_zero,dL,List.map_nil,List.sum_nil,Int.sub_zero])
          all_goals (simp (disch:=omega) only [RA,↓reduceIte,Nat.reduceEqDiff,Nat.reduceBEq,Nat.reduceSub,Nat.reduceAdd,Nat.reduceMul,Nat.reduceLT,Nat.reduceLeDiff,Int.reduceLE,Int.reduceLT,Int.reduceEq,Int.reduceNeg,Int.reduceToNat,Int.reduceMul,Int.reduceAdd,Int.reduceSub,Int.reduceBEq,Int.reduceBNe,reduceCtorEq,RD,RE, *]<;>rfl)
         ·clear g3 g10 g11 g12 g13 g14
          rintro d f H' R2 ⟨j,hj,rfl,g3,g10,g11,g12,g13,g14,g15,g16,g17,g18,rfl⟩ iG hX2 hR2 hE2
          simp only [bJ.l0,aG]
          have wu: ∀y∈(vl b w m v).take j,y<m:=fun y hy=>hv3 y (List.mem_of_mem_take hy)
          have hb1:=P6 hd hp1 wu
          have hb2:=P7 hd hp1 1000000000 sD.2 wu
          have hb3:(1000000000:Int)*(((vl b w m v).take j).length:Int)≤1000000000*16:=Int.mul_le_mul_of_nonneg_left (by have:=List.length_take_le j (vl b w m v);omega) (by decide)
          have hb4:=AO v kZ
          have hop:(opens o1 ((vl b w m v).take j)).length≤16:=by
           have h1:=List.length_filter_le (fun x=>el o1 x==0) ((vl b w m v).take j)
           have h2:=List.length_take_le j (vl b w m v)
           simp only [opens]
           omega
          refine au (jk @g10 @g14 @g18 @qO @rJ) ?_
          refine aV (j<(vl b w m v).length) (fun hc=>?_) fun hc=>?_
          ·have hjl:j<(vl b w m v).length:=by assumption
           have hxm:=hv3 _ (iM hjl)
           have hx1:=hp1.nn _ hxm
           have hx2:=sD.2 _ hxm
           have htk:(vl b w m v).take (j+1)=(vl b w m v).take j++[nl (vl b w m v) j]:=AU hjl
           have hos:=aaK (o:=o1) (l:=(vl b w m v).take j) (x:=nl (vl b w m v) j)
           have hvs:=aaR (o:=o1) (l:=(vl b w m v).take j) (x:=nl (vl b w m v) j)
           have hls:=amy (l:=opens o1 ((vl b w m v).take j)) (x:=nl (vl b w m v) j)
           rw [←htk] at hos hvs
           refine bK ?_
           refine au (jM @g10 @g14 @g18 @qO @rJ @mD) ?_
           refine au (aX @g12 @g15 @AQ) ?_
           refine au (aC @g12 @AQ) ?_
           refine aV (el o1 (nl (vl b w m v) j)=0) (fun hc=>?_) fun hc=>?_
           ·rw [if_pos hc] at hos
            refine au @g16 ?_
            refine aB ?_
            refine bI @g18 ?_
            refine iG ((vl b w m v).length-(j+1)) _ _ _ _ (by omega) Gh.refl ⟨j+1,by omega,rfl,ah,ah,ah,ah,ah,ah,?_,?_,?_,ah,rfl⟩
            ·rw [hvs]
             clear hos hvs hls
             simp (disch:=omega) only [RA,↓reduceIte,Nat.reduceEqDiff,Nat.reduceBEq,Nat.reduceSub,Nat.reduceAdd,Nat.reduceMul,Nat.reduceLT,Nat.reduceLeDiff,Int.reduceLE,Int.reduceLT,Int.reduceEq,Int.reduceNeg,Int.reduceToNat,Int.reduceMul,Int.reduceAdd,Int.reduceSub,Int.reduceBEq,Int.reduceBNe,reduceCtorEq,RD,RE]
             congr 1;omega
            ·rw [hos,List.length_append,List.length_singleton]
             clear hos hvs hls
             simp (disch:=omega) only [RA,↓reduceIte,Nat.reduceEqDiff,Nat.reduceBEq,Nat.reduceSub,Nat.reduceAdd,Nat.reduceMul,Nat.reduceLT,Nat.reduceLeDiff,Int.reduceLE,Int.reduceLT,Int.reduceEq,Int.reduceNeg,Int.reduceToNat,Int.reduceMul,Int.reduceAdd,Int.reduceSub,Int.reduceBEq,Int.reduceBNe,reduceCtorEq,RD,RE, *]<;>rfl
            ·rw [hos,hls]
             clear hos hvs hls
             simp (disch:=omega) only [RA,↓reduceIte,Nat.reduceEqDiff,Nat.reduceBEq,Nat.reduceSub,Nat.reduceAdd,Nat.reduceMul,Nat.reduceLT,Nat.reduceLeDiff,Int.reduceLE,Int.reduceLT,Int.reduceEq,Int.reduceNeg,Int.reduceToNat,Int.reduceMul,Int.reduceAdd,Int.reduceSub,Int.reduceBEq,Int.reduceBNe,reduceCtorEq,RD,RE]<;>rfl
           ·rw [if_neg hc] at hos
            refine bI @g18 ?_
            refine iG ((vl b w m v).length-(j+1)) _ _ _ _ (by omega) Gh.refl ⟨j+1,by omega,rfl,ah,ah,ah,ah,ah,ah,?_,?_,?_,ah,rfl⟩
            ·rw [hvs]
             clear hos hvs hls
             simp (disch:=omega) only [RA,↓reduceIte,Nat.reduceEqDiff,Nat.reduceBEq,Nat.reduceSub,Nat.reduceAdd,Nat.reduceMul,Nat.reduceLT,Nat.reduceLeDiff,Int.reduceLE,Int.reduceLT,Int.reduceEq,Int.reduceNeg,Int.reduceToNat,Int.reduceMul,Int.reduceAdd,Int.reduceSub,Int.reduceBEq,Int.reduceBNe,reduceCtorEq,RD,RE]
             congr 1;omega
            ·rw [hos]
             clear hos hvs hls
             simp (disch:=omega) only [RA,↓reduceIte,Nat.reduceEqDiff,Nat.reduceBEq,Nat.reduceSub,Nat.reduceAdd,Nat.reduceMul,Nat.reduceLT,Nat.reduceLeDiff,Int.reduceLE,Int.reduceLT,Int.reduceEq,Int.reduceNeg,Int.reduceToNat,Int.reduceMul,Int.reduceAdd,Int.reduceSub,Int.reduceBEq,Int.reduceBNe,reduceCtorEq,RD,RE, *]<;>rfl
            ·rw [hos]
             clear hos hvs hls
             simp (disch:=omega) only [RA,↓reduceIte,Nat.reduceEqDiff,Nat.reduceBEq,Nat.reduceSub,Nat.reduceAdd,Nat.reduceMul,Nat.reduceLT,Nat.reduceLeDiff,Int.reduceLE,Int.reduceLT,Int.reduceEq,Int.reduceNeg,Int.reduceToNat,Int.reduceMul,Int.reduceAdd,Int.reduceSub,Int.reduceBEq,Int.reduceBNe,reduceCtorEq,RD,RE, *]<;>rfl
          ·refine hX2 _ _ ?_
           obtain rfl:j=(vl b w m v).length:=by omega
           rw [List.take_length] at g15 g16 g17 hb1 hb2 hb3 hop
           refine iE ?_
           have hlv:=uV (b:=b) (w:=w) (n:=m) (s:=s) (o:=o1) kZ
           by_cases k0:opens o1 (vl b w m v)=[]
           ·rw [k0] at g16 g17
            have hk0:=k0
            rw [og kZ] at hk0
            by_cases hr:el s v-dL o1 (vl b w m v)=0
            ·refine au (aX @g15 @g16 @hr) ?_
             refine bY ?_
             refine au @g16 ?_
             refine bY ?_
             refine hnext _ o1 ag sD ⟨fun h=>?_,fun h=>hps.2 h⟩ ah ah ah ah ah ah
             obtain ⟨q1,q2⟩:=hps.1 h
             refine ⟨q1,fun u hu=>?_⟩
             rcases Nat.lt_or_ge u v with h2|h2
             ·exact q2 u h2
             ·obtain rfl:u=v:=by omega
              rw [←q1,k0]
              simp
            ·refine au (aC @g15 @g16) ?_
             refine dI ?_
             refine aB ?_
             refine hR1 _ _ ?_
             refine hR _ _ ?_
             refine aU ?_
             have hno: ∀W,¬Good b w m (bl++wh) W:=fun W hW=>by
              rw [hsd] at hW
              have h2:=hp1.none hd hW kZ hk0
              rw [←og kZ] at h2
              omega
             rw [Gn hd uh ht hno]
             rfl
           ·by_cases k1:(opens o1 (vl b w m v)).length=1
            ·obtain ⟨x,hx⟩: ∃x,opens o1 (vl b w m v)=[x]:=List.length_eq_one_iff.1 k1
             have hxo:=rM.1 (show x∈opens o1 (vl b w m v) by rw [hx];simp)
             have hxm:=hv3 x hxo.1
             have hx2:=hx
             rw [og kZ] at hx2
             have hla:KL [x]=x:=rfl
             rw [hx] at g16 g17
             rw [hla] at g17
             rw [List.length_singleton] at g16
             by_cases hr:el s v-dL o1 (vl b w m v)<1
             ·refine au (aC @g15 @g16) ?_
              refine dI ?_
              refine aB ?_
              refine hR1 _ _ ?_
              refine hR _ _ ?_
              refine aU ?_
              have hno: ∀W,¬Good b w m (bl++wh) W:=fun W hW=>by
               rw [hsd] at hW
               have h2:=hp1.one hd hW kZ hx2
               have h3:=hW.pos x hxm
               rw [←og kZ] at h2
               omega
              rw [Gn hd uh ht hno]
              rfl
             ·obtain ⟨q1,q2⟩:=sD.set hd AO kZ hx (by rw [hlv];omega)
              rw [hlv] at q1 q2
              refine au (aC @g15 @g16) ?_
              refine bY ?_
              refine au @g16 ?_
              refine dI ?_
              refine au (bG @g12 @g15 @g17 @AQ) ?_
              refine hnext _ _ true q1 ⟨(fun h=>by cases h),fun _=>?_⟩ ah ah ah ah ah ah
              cases ag with
              |false=>rw [←(hps.1 rfl).1];exact q2
              |true=>have:=hps.2 rfl;omega
            ·have k2:2≤(opens o1 (vl b w m v)).length:=by
              have:=List.length_pos_iff.2 k0
              omega
             refine au (aC @g15 @g16) ?_
             refine bY ?_
             refine au @g16 ?_
             refine bY ?_
             refine hnext _ o1 ag sD ⟨fun h=>?_,fun h=>hps.2 h⟩ ah ah ah ah ah ah
             obtain ⟨q1,q2⟩:=hps.1 h
             refine ⟨q1,fun u hu=>?_⟩
             rcases Nat.lt_or_ge u v with h2|h2
             ·exact q2 u h2
             ·obtain rfl:u=v:=by omega
              rw [←q1]
              exact k1
        ·refine hX1 _ _ ?_
         obtain rfl:v=(aW b w m).length:=by omega
         have hless:left o1 m≤m-(i+1):=by
          cases ag with
          |true=>have:=hps.2 rfl;omega
          |false=>
           obtain ⟨k1,k2⟩:=hps.1 rfl
           have hl0:left o m=0:=Classical.byContradiction fun h=>by
            obtain ⟨v,hv,x,hx⟩:=aaI hd ht h
            rw [←og hv] at hx
            exact k2 v hv (by rw [hx];rfl)
           rw [k1,hl0]
           omega
         refine bI @g13 ?_
         exact hN (m-(i+1)) _ _ _ _ (by omega) Gh.refl ⟨i+1,o1,by omega,rfl,sD,hless,ah,ah,ah,ah,ah,rfl⟩
      ·refine hX _ _ ?_
       obtain rfl:i=m:=by omega
       have hp:=hpm.1
       have hl0:left o i=0:=by omega
       refine iE ?_
       refine aB ?_
       refine bM (fun d f H'=> ∃v,v≤(aW b w i).length∧d=(aW b w i).length-v∧(∀u,u<v→el s u-dL o (vl b w i u)=0)∧f 10=S 1 0 (aW b w i).length 1∧f 11=S 2 0 s.length 1∧f 12=S 3 0 i 1∧f 20=I v∧H'=[some (DC i b w),some ((aW b w i).map FN),some (s.map I),some (o.map I)]) ((aW b w i).length) ?_ ?_
       ·exact ⟨_,_,Gh.refl,0,by omega,by omega,fun u hu=>by omega,ah,ah,ah,ah,rfl⟩
       ·clear g3 g10 g11 g12 g13
        rintro d f H' R1 ⟨v,hv,rfl,hz0,g10,g11,g12,g20,rfl⟩ hN1 hX1 hR1 hE1
        simp only [bJ.l4,aG]
        refine au (aC @g10 @g20) ?_
        refine aV (v<(aW b w i).length) (fun hc=>?_) fun hc=>?_
        ·have kZ:v<(aW b w i).length:=by assumption
         obtain ⟨hv1,hv2,hv3⟩:=wo hd kZ
         have rJ:(aW b w i).getD v []=vl b w i v:=rfl
         refine bK ?_
         refine au (aC @g11 @g20) ?_
         refine aB ?_
         refine bM (fun d f H'=> ∃j,j≤(vl b w i v).length∧d=(vl b w i v).length-j∧f 10=S 1 0 (aW b w i).length 1∧f 11=S 2 0 s.length 1∧f 12=S 3 0 i 1∧f 20=I v∧f 21=I (el s v-dL o ((vl b w i v).take j))∧f 22=I j∧H'=[some (DC i b w),some ((aW b w i).map FN),some (s.map I),some (o.map I)]) ((vl b w i v).length) ?_ ?_
         ·refine ⟨_,_,Gh.refl,0,by omega,by omega,ah,ah,ah,ah,?_,ah,rfl⟩
          all_goals (simp only [List.take_zero,dL,List.map_nil,List.sum_nil,Int.sub_zero])
          all_goals (simp (disch:=omega) only [RA,↓reduceIte,Nat.reduceEqDiff,Nat.reduceBEq,Nat.reduceSub,Nat.reduceAdd,Nat.reduceMul,Nat.reduceLT,Nat.reduceLeDiff,Int.reduceLE,Int.reduceLT,Int.reduceEq,Int.reduceNeg,Int.reduceToNat,Int.reduceMul,Int.reduceAdd,Int.reduceSub,Int.reduceBEq,Int.reduceBNe,reduceCtorEq,RD,RE, *]<;>rfl)
         ·clear g10 g11 g12 g20
          rintro d f H' R2 ⟨j,hj,rfl,g10,g11,g12,g20,g21,g22,rfl⟩ iG hX2 hR2 hE2
          simp only [bJ.l3,aG]
          have wu: ∀y∈(vl b w i v).take j,y<i:=fun y hy=>hv3 y (List.mem_of_mem_take hy)
          have hb1:=P6 hd hp wu
          have hb2:=P7 hd hp 1000000000 hpm.2 wu
          have hb3:(1000000000:Int)*(((vl b w i v).take j).length:Int)≤1000000000*16:=Int.mul_le_mul_of_nonneg_left (by have:=List.length_take_le j (vl b w i v);omega) (by decide)
          have hb4:=AO v kZ
          refine au (jk @g10 @g20 @g22 @qO @rJ) ?_
          refine aV (j<(vl b w i v).length) (fun hc=>?_) fun hc=>?_
          ·have hjl:j<(vl b w i v).length:=by assumption
           have hxm:=hv3 _ (iM hjl)
           have hx1:=hp.nn _ hxm
           have hx2:=hpm.2 _ hxm
           have htk:(vl b w i v).take (j+1)=(vl b w i v).take j++[nl (vl b w i v) j]:=AU hjl
           have hvs:=aaR (o:=o) (l:=(vl b w i v).take j) (x:=nl (vl b w i v) j)
           rw [←htk] at hvs
           refine bK ?_
           refine au (jM (bG @g10 @g12 @g20 @g21) @g22 @qO @rJ @mD @hol) ?_
           refine bI @g22 ?_
           refine iG ((vl b w i v).length-(j+1)) _ _ _ _ (by omega) Gh.refl ⟨j+1,by omega,rfl,ah,ah,ah,ah,?_,ah,rfl⟩
           rw [hvs]
           clear hvs
           simp (disch:=omega) only [RA,↓reduceIte,Nat.reduceEqDiff,Nat.reduceBEq,Nat.reduceSub,Nat.reduceAdd,Nat.reduceMul,Nat.reduceLT,Nat.reduceLeDiff,Int.reduceLE,Int.reduceLT,Int.reduceEq,Int.reduceNeg,Int.reduceToNat,Int.reduceMul,Int.reduceAdd,Int.reduceSub,Int.reduceBEq,Int.reduceBNe,reduceCtorEq,RD,RE]
           congr 1;omega
          ·refine hX2 _ _ ?_
           obtain rfl:j=(vl b w i v).length:=by omega
           rw [List.take_length] at g21
           refine iE ?_
           refine au @g21 ?_
           refine aV (¬el s v-dL o (vl b w i v)=0) (fun hc=>?_) fun hc=>?_
           ·refine aB ?_
            refine hR1 _ _ ?_
            refine aU ?_
            have hno: ∀W,¬Good b w i (bl++wh) W:=fun W hW=>by
             rw [hsd] at hW
             have e:=hp.bad hd hl0 hW
             have h2:=hW.sum v kZ
             rw [←og kZ,←e] at h2
             omega
            rw [Gn hd uh ht hno]
            rfl
           ·have hzv:=Decidable.not_not.1 hc
            refine bI @g20 ?_
            refine hN1 ((aW b w i).length-(v+1)) _ _ _ _ (by omega) Gh.refl ⟨v+1,by omega,rfl,fun u hu=>?_,ah,ah,ah,ah,rfl⟩
            rcases Nat.lt_or_ge u v with h|h
            ·exact hz0 u h
            ·obtain rfl:u=v:=by omega
             exact hzv
        ·refine hX1 _ _ ?_
         obtain rfl:v=(aW b w i).length:=by omega
         have hgood:Good b w i (bl++wh) o:=by
          rw [hsd]
          refine hp.full hl0 fun v hv=>?_
          have h2:=hz0 v (by omega)
          rw [←og hv]
          omega
         refine au @g12 ?_
         refine aU ?_
         rw [aaJ hd uh ht hgood]
         exact ⟨3,by rw [hol],rfl⟩
   ·rw [decide_eq_false h2]
    refine aO ?_
    refine aI hKr ?_
    refine dI ?_
    refine aB ?_
    refine aU ?_
    rw [C9 hd (fun h=>h2 (P5.1 h).2)]
    rfl
  ·rw [decide_eq_false h1]
   refine aO ?_
   refine aI hKr ?_
   refine dI ?_
   refine aB ?_
   refine aU ?_
   rw [C9 hd (fun h=>h1 (P5.1 h).1)]
   rfl
end
end Go.Bm
namespace Go.Bm
open Go Go.Am
theorem ama {n:Int} {b w:List Nat} {bl wh:List Int} {W:List Int} {c:Int} (h:nY n b w bl wh=(some W,c)):W.length≤16:=by
 unfold nY at h
 split at h
 ·cases h
 ·rename_i h1
  split at h
  ·cases h
  ·split at h
   ·cases h
   ·split at h
    ·rename_i hex
     obtain ⟨m,rfl,hm1,hm2⟩:=(Decidable.not_not.1 h1).n0
     have h5:=hex.choose_spec.len
     have:hex.choose=W:=by cases h;rfl
     rw [this] at h5
     rw [h5,Int.toNat_natCast]
     exact hm2
    ·cases h
end Go.Bm
namespace Go.Bm
open Go Go.Am
def o8 (b w:List Nat):Nat→List Nat
 |0=>[]
 |k+1=>if nl b k=k∨nl w k=k then o8 b w k++[k] else o8 b w k
theorem KO {b w:List Nat}: ∀{k:Nat},(o8 b w k).length≤k
 |0=>Nat.le_refl _
 |k+1=>by
  have:= @KO b w k
  simp only [o8]
  split
  ·simp;omega
  ·omega
abbrev o9 (n:Int) (b w:List Nat):List Nat:=o8 b w n.toNat
theorem alX {n:Int} {b w:List Nat} (hb:By 16 b) (hw:By 16 w) (hd:fV n b w []=0):(o9 n b w).length≤1000:=by
 have:= @KO b w n.toNat
 have:=(zu hd).1.1.1
 simp only [o9]
 omega
theorem amB {x:Bool} {n:Int} {b w:List Nat} {H:BH} {K:Value→BH→Prop} (hb:By 16 b) (hw:By 16 w) (hd:fV n b w []=0)
  (hK:K (.tuple ⟨[S H.length 0 (o9 n b w).length 1,I 0]⟩) (H++[some ((o9 n b w).map bT)])):aJ x Nv [DV n b w] H K:=by
 have hlb:=hb.len
 have cZ:=hw.len
 obtain ⟨h1,ht⟩:=zu hd
 obtain ⟨m,rfl,hm1,hm2⟩:=h1.n0
 refine JZ (.cons fC .nil) (aJ.mono (K:=fun v H1=> ∃j,v= .tuple ⟨[S j 0 (o9 m b w).length 1,I 0]⟩∧blk H1 j=some ((o9 m b w).map bT)) ?_ fun v H1 ⟨j,h1,h2⟩=>⟨j,_,_,_,_,_,h1,h2,oh,hK⟩)
 have er:o9 m b w=o8 b w m:=by rw [o9,Int.toNat_natCast]
 rw [er]
 have hb16:=fun i=>h1.1.qM hlb i
 have hw16:=fun i=>h1.2.1.qM cZ i
 refine bf Ux ?_;simp only [jD,aG]
 refine au @aH ?_
 refine aY (aC @aH @aK) fun Kr hKr=>?_
 refine Gs hb hw ?_
 rw [hd]
 refine aO ?_
 refine aI hKr ?_
 refine aB ?_
 refine bY ?_
 refine aB ?_
 refine aB ?_
 refine bM (fun d f H'=> ∃k l,k≤m∧d=m-k∧l=o8 b w k∧f 1=P 0 0∧f 5=S 1 0 l.length 1∧f 6=I k∧H'=[some (DC m b w),some (l.map bT)]) (m) ?_ ?_
 ·exact ⟨_,_,Gh.refl,0,[],by omega,by omega,rfl,ah,ah,ah,rfl⟩
 ·rintro d f H' R ⟨k,l,hk,rfl,hl,g1,g5,g6,rfl⟩ hN hX hR hE
  simp only [jD.l0,aG]
  have hll:= @KO b w k
  rw [←hl] at hll
  refine au (aX @g1 @g6 @aH) ?_
  refine aV (k<m) (fun hc=>?_) fun hc=>?_
  ·have hbk:=hb16 k
   have hwk:=hw16 k
   have hnext: ∀f' l',f' 1=P 0 0→f' 5=S 1 0 l'.length 1→f' 6=I k→l'=o8 b w (k+1)→T 0 jD.r7 R f' [some (DC m b w),some (l'.map bT)]:=by
    intro f' l' g1 g5 g6 hl'
    refine bI @g6 ?_
    exact hN (m-(k+1)) _ _ _ _ (by omega) Gh.refl ⟨k+1,l',by omega,rfl,hl',ah,ah,ah,rfl⟩
   refine bK ?_
   by_cases e1:nl b k=k
   ·refine au (bG @g1 @g6 @aH @aK) ?_
    refine dI ?_
    refine au (aX @g5 @g6 @xI) ?_
    refine jO (Gh.nrm [0,3] rfl rfl (by simp only [RH,l9,RV])) ?_
    refine hnext _ (l++[k]) ah ah ah ?_
    all_goals rw [o8,if_pos (.inl e1),hl]
   ·by_cases e2:nl w k=k
    ·refine au (bG @g1 @g6 @aH @aK) ?_
     refine dI ?_
     refine au (aX @g5 @g6 @xI) ?_
     refine jO (Gh.nrm [0,3] rfl rfl (by simp only [RH,l9,RV])) ?_
     refine hnext _ (l++[k]) ah ah ah ?_
     all_goals rw [o8,if_pos (.inr e2),hl]
    ·refine au (bG @g1 @g6 @aH @aK) ?_
     refine bY ?_
     refine hnext _ l ah ah ah ?_
     all_goals rw [o8,if_neg (by omega),hl]
  ·refine hX _ _ ?_
   obtain rfl:k=m:=by omega
   refine au @g5 ?_
   refine lD @g5 ?_
   rw [hl]
   exact ⟨1,rfl,rfl⟩
theorem amC {x:Bool} {n:Int} {b w:List Nat} {H:BH} {K:Value→BH→Prop} (hb:By 16 b) (hw:By 16 w) (hd: ¬fV n b w []=0)
  (hK:K (.tuple ⟨[.slice none 0 0,I (fV n b w [])]⟩) H):aJ x Nv [DV n b w] H K:=by
 have hlb:=hb.len
 have cZ:=hw.len
 refine dw (.cons fC .nil) ?_
 refine bf Ux ?_;simp only [jD,aG]
 refine au @aH ?_
 refine aY (aC @aH @aK) fun Kr hKr=>?_
 refine Gs hb hw ?_
 refine aO ?_
 refine aI hKr ?_
 refine aB ?_
 refine dI ?_
 refine aB ?_
 refine aU ?_
 exact ⟨NN.tuple (aT.cons NN.nil (aT.cons NN.int aT.nil)),hK⟩
theorem amD {x:Bool} {n:Int} {b w:List Nat} {H:BH} {K:Value→BH→Prop} (hb:By 16 b) (hw:By 16 w) (hd:fV n b w []=0)
  (hK:K (.tuple ⟨[S H.length 0 (o9 n b w).length 1,I 0]⟩) (H++[some ((o9 n b w).map bT)])):aJ x Nu [DV n b w] H K:=by
 have hlb:=hb.len
 have cZ:=hw.len
 obtain ⟨h1,ht⟩:=zu hd
 obtain ⟨m,rfl,hm1,hm2⟩:=h1.n0
 refine JZ (.cons fC .nil) (aJ.mono (K:=fun v H1=> ∃j,v= .tuple ⟨[S j 0 (o9 m b w).length 1,I 0]⟩∧blk H1 j=some ((o9 m b w).map bT)) ?_ fun v H1 ⟨j,h1,h2⟩=>⟨j,_,_,_,_,_,h1,h2,oh,hK⟩)
 have er:o9 m b w=o8 b w m:=by rw [o9,Int.toNat_natCast]
 rw [er]
 have hb16:=fun i=>h1.1.qM hlb i
 have hw16:=fun i=>h1.2.1.qM cZ i
 refine bf Uw ?_;simp only [jd,aG]
 refine au @aH ?_
 refine aY (aC @aH @aK) fun Kr hKr=>?_
 refine CQ 1 ?_
 simp only [List.map_cons,List.map_nil,nT]
 refine Dc (xs:=[]) hb hw (by simp) ?_
 rw [hd]
 refine aO ?_
 refine aI hKr ?_
 refine aB ?_
 refine bY ?_
 refine aB ?_
 refine au @aH ?_
 refine bM (fun d f H'=> ∃k l,k≤m∧d=m-k∧l=o8 b w k∧f 1=P 0 0∧f 5=S 1 0 l.length 1∧f 14=I m∧f 15=I k∧H'=[some (DC m b w),some (l.map bT)]) (m) ?_ ?_
 ·exact ⟨_,_,Gh.refl,0,[],by omega,by omega,rfl,ah,ah,ah,ah,rfl⟩
 ·rintro d f H' R ⟨k,l,hk,rfl,hl,g1,g5,g14,g15,rfl⟩ hN hX hR hE
  simp only [jd.l0,aG]
  have hll:= @KO b w k
  rw [←hl] at hll
  refine au (aC @g14 @g15) ?_
  refine aV (k<m) (fun hc=>?_) fun hc=>?_
  ·have hbk:=hb16 k
   have hwk:=hw16 k
   have hnext: ∀f' l',f' 1=P 0 0→f' 5=S 1 0 l'.length 1→f' 14=I m→f' 15=I k→l'=o8 b w (k+1)→T 0 jd.r10 R f' [some (DC m b w),some (l'.map bT)]:=by
    intro f' l' g1 g5 g14 g15 hl'
    refine bI @g15 ?_
    exact hN (m-(k+1)) _ _ _ _ (by omega) Gh.refl ⟨k+1,l',by omega,rfl,hl',ah,ah,ah,ah,rfl⟩
   refine bK ?_
   refine au @g15 ?_
   by_cases e1:nl b k=k
   ·refine au (aX @g1 @aH @aK) ?_
    refine dI ?_
    refine au (aC @g5 @xI) ?_
    refine jO (Gh.nrm [0,3] rfl rfl (by simp only [RH,l9,RV])) ?_
    refine hnext _ (l++[k]) ah ah ah ah ?_
    all_goals rw [o8,if_pos (.inl e1),hl]
   ·by_cases e2:nl w k=k
    ·refine au (aX @g1 @aH @aK) ?_
     refine dI ?_
     refine au (aC @g5 @xI) ?_
     refine jO (Gh.nrm [0,3] rfl rfl (by simp only [RH,l9,RV])) ?_
     refine hnext _ (l++[k]) ah ah ah ah ?_
     all_goals rw [o8,if_pos (.inr e2),hl]
    ·refine au (aX @g1 @aH @aK) ?_
     refine bY ?_
     refine hnext _ l ah ah ah ah ?_
     all_goals rw [o8,if_neg (by omega),hl]
  ·refine hX _ _ ?_
   obtain rfl:k=m:=by omega
   refine au @g5 ?_
   refine lD @g5 ?_
   rw [hl]
   exact ⟨1,rfl,rfl⟩
theorem amE {x:Bool} {n:Int} {b w:List Nat} {H:BH} {K:Value→BH→Prop} (hb:By 16 b) (hw:By 16 w) (hd: ¬fV n b w []=0)
  (hK:K (.tuple ⟨[.slice none 0 0,I (fV n b w [])]⟩) H):aJ x Nu [DV n b w] H K:=by
 have hlb:=hb.len
 have cZ:=hw.len
 refine dw (.cons fC .nil) ?_
 refine bf Uw ?_;simp only [jd,aG]
 refine au @aH ?_
 refine aY (aC @aH @aK) fun Kr hKr=>?_
 refine CQ 1 ?_
 simp only [List.map_cons,List.map_nil,nT]
 refine Dc (xs:=[]) hb hw (by simp) ?_
 refine aO ?_
 refine aI hKr ?_
 refine aB ?_
 refine dI ?_
 refine aB ?_
 refine aU ?_
 exact ⟨NN.tuple (aT.cons NN.nil (aT.cons NN.int aT.nil)),hK⟩
end Go.Bm
namespace Go.Bm
open Go Go.Am
theorem aaV {k:Nat}:(k:Int).tdiv 2=((k/2:Nat):Int):=by
 rw [show (2:Int)=((2:Nat):Int) from rfl,←Int.ofNat_tdiv]
theorem CX {k:Nat}:decide ((k:Int).tmod 2=1)=decide (k%2=1):=by
 rw [show (2:Int)=((2:Nat):Int) from rfl,←Int.ofNat_tmod]
 exact decide_eq_decide.2 (by omega)
theorem amF {x:Bool} {n:Int} {b w:List Nat} {H:BH} {K:Value→BH→Prop} (hb:By 16 b) (hw:By 16 w) (hd: ¬fV n b w []=0)
  (hK:K (.tuple ⟨[.slice none 0 0,I (fV n b w [])]⟩) H):aJ x Nr [DV n b w] H K:=by
 have hlb:=hb.len
 have cZ:=hw.len
 refine dw (.cons fC .nil) ?_
 refine bf Ut ?_;simp only [jC,aG]
 refine au @aH ?_
 refine aY (aC @aH @aK) fun Kr hKr=>?_
 refine CQ 1 ?_
 simp only [List.map_cons,List.map_nil,nT]
 refine Dc (xs:=[]) hb hw (by simp) ?_
 refine aO ?_
 refine aI hKr ?_
 refine aB ?_
 refine dI ?_
 refine aB ?_
 refine aU ?_
 exact ⟨NN.tuple (aT.cons NN.nil (aT.cons NN.int aT.nil)),hK⟩
theorem amG {x:Bool} {n:Int} {b w:List Nat} {H:BH} {K:Value→BH→Prop} (hb:By 16 b) (hw:By 16 w) (hd: ¬fV n b w []=0)
  (hK:K (.tuple ⟨[.slice none 0 0,I (fV n b w [])]⟩) H):aJ x Ns [DV n b w] H K:=by
 have hlb:=hb.len
 have cZ:=hw.len
 refine dw (.cons fC .nil) ?_
 refine bf Uu ?_;simp only [fD,aG]
 refine au @aH ?_
 refine aY (aC @aH @aK) fun Kr hKr=>?_
 refine Gs hb hw ?_
 refine aO ?_
 refine aI hKr ?_
 refine aB ?_
 refine dI ?_
 refine aB ?_
 refine aU ?_
 exact ⟨NN.tuple (aT.cons NN.nil (aT.cons NN.int aT.nil)),hK⟩
theorem amH {x:Bool} {n:Int} {b w:List Nat} {H:BH} {K:Value→BH→Prop} (hb:By 16 b) (hw:By 16 w) (hd:fV n b w []=0)
  (hK:(∃k r,oq b w n.toNat k r)→K (.tuple ⟨[S H.length 0 (kT n b w).length 1,I 0]⟩) (H++[some ((kT n b w).map bT)])):aJ x Nr [DV n b w] H K:=by
 have hlb:=hb.len
 have cZ:=hw.len
 obtain ⟨h1,ht⟩:=zu hd
 obtain ⟨m,rfl,hm1,hm2⟩:=h1.n0
 rw [Int.toNat_natCast] at ht
 refine JZ (.cons fC .nil) (aJ.mono (K:=fun v H1=>(∃k r,oq b w m k r)∧ ∃j,v= .tuple ⟨[S j 0 (kT m b w).length 1,I 0]⟩∧blk H1 j=some ((kT m b w).map bT)) ?_ fun v H1 ⟨hC,j,h1,h2⟩=>⟨j,_,_,_,_,_,h1,h2,oh,hK hC⟩)
 refine bf Ut ?_;simp only [jC,aG]
 refine au @aH ?_
 refine aY (aC @aH @aK) fun Kr hKr=>?_
 refine CQ 1 ?_
 simp only [List.map_cons,List.map_nil,nT]
 refine Dc (xs:=[]) hb hw (by simp) ?_
 rw [hd]
 refine aO ?_
 refine aI hKr ?_
 refine aB ?_
 refine bY ?_
 refine aY (aC @aH @aK) fun Kr hKr=>?_
 refine aaW hb hw h1 ht fun e s he hel=>?_
 have hq:= @aaV e.length
 refine aO ?_
 refine aI hKr ?_
 refine au @hq ?_
 rcases he.Gt with ⟨k1,k2,k3⟩|⟨k1,k3,c,x,hx,k4,k2⟩
 ·have hr:=(k2.res h1 ht).2
  have ho:decide ((e.length:Int).tmod 2=1)=true:=by rw [CX];simp [k1]
  refine au @ho ?_
  refine dI ?_
  refine au @mD ?_
  refine aU ?_
  rw [hr]
  exact ⟨⟨_,_,k2⟩,_,rfl,rfl⟩
 ·have hr:=(k2.res h1 ht).2
  have ho:decide ((e.length:Int).tmod 2=1)=false:=by rw [CX];simp [k1]
  have hv:=o7 h1 (c:=c) hx
  have hvl:=wo h1 hv
  have rJ:(aW b w m).getD (ends b w m c x) []=vl b w m (ends b w m c x):=rfl
  have hv0:0<(vl b w m (ends b w m c x)).length:=List.length_pos_of_mem ((kF h1 hx).2 ⟨hx,rfl⟩)
  have hvc:=AL h1
  refine au @ho ?_
  refine bY ?_
  refine aY (aC @aH @aK) fun Kr hKr=>?_
  refine PX hb hw h1 ?_
  refine aO ?_
  refine aI hKr ?_
  refine aB ?_
  refine aY (bG @aH @aK @mD @k4) fun Kr hKr=>?_
  refine vY hb h1.1 ?_
  refine aO ?_
  refine aI hKr ?_
  have hcl:c=decide ((aP b m).length≤ends b w m c x):=by
   cases c
   ·have:=qp h1.1 hx
    simp only [ends,Bool.false_eq_true,if_false]
    simp;omega
   ·simp [ends]
  cases c with
  |false=>
   have KP: ¬(aP b m).length≤ends b w m false x:=by simpa using hcl.symm
   refine bY ?_
   refine au (bG @mD @k4 @qO @rJ) ?_
   refine aU ?_
   rw [hr]
   exact ⟨⟨_,_,k2⟩,_,rfl,rfl⟩
  |true=>
   have KP:(aP b m).length≤ends b w m true x:=by simpa using hcl.symm
   refine dI ?_
   refine aB ?_
   refine au (bG @mD @k4 @qO @rJ) ?_
   refine aU ?_
   rw [hr]
   exact ⟨⟨_,_,k2⟩,_,rfl,rfl⟩
theorem amI {k:IntKind} {x y:Int}:ku min2 [.int k x, .int k y]=some (.int k (if y<x then y else x)):=by
 simp [ku,min2]
theorem amJ {n:Nat} {b w:List Nat} (hd:bC n b w) {v:Nat} (hv:v<(aW b w n).length): ∀x∈vl b w n v,nl (vl b w n v) 0≤x:=by
 rw [og hv]
 have:(aW b w n)[v]∈aP b n++aP w n:=List.getElem_mem hv
 rcases List.mem_append.1 this with h1|h1
 ·exact (oJ hd.1 h1).least
 ·exact (oJ hd.2.1 h1).least
theorem amK {x:Bool} {n:Int} {b w:List Nat} {H:BH} {K:Value→BH→Prop} (hb:By 16 b) (hw:By 16 w) (hd:fV n b w []=0)
  (hK:K (.tuple ⟨[S H.length 0 (kT n b w).length 1,I 0]⟩) (H++[some ((kT n b w).map bT)])):aJ x Ns [DV n b w] H K:=by
 have hlb:=hb.len
 have cZ:=hw.len
 obtain ⟨h1,ht⟩:=zu hd
 obtain ⟨m,rfl,hm1,hm2⟩:=h1.n0
 rw [Int.toNat_natCast] at ht
 refine JZ (.cons fC .nil) (aJ.mono (K:=fun v H1=> ∃j,v= .tuple ⟨[S j 0 (kT m b w).length 1,I 0]⟩∧blk H1 j=some ((kT m b w).map bT)) ?_ fun v H1 ⟨j,h1,h2⟩=>⟨j,_,_,_,_,_,h1,h2,oh,hK⟩)
 refine bf Uu ?_;simp only [fD,aG]
 refine au @aH ?_
 refine aY (aC @aH @aK) fun Kr hKr=>?_
 refine Gs hb hw ?_
 rw [hd]
 refine aO ?_
 refine aI hKr ?_
 refine aB ?_
 refine bY ?_
 refine aY (aC @aH @aK) fun Kr hKr=>?_
 refine aaX hb hw h1 ht fun e cu he hel=>?_
 have hq:= @aaV e.length
 refine aO ?_
 refine aI hKr ?_
 refine au @hq ?_
 rcases he.Gt with ⟨k1,k2,k3⟩|⟨k1,k3,c,y,hc,hy,k4,k2⟩
 ·have hr:=(k2.res h1 ht).2
  have ho:decide ((e.length:Int).tmod 2=1)=true:=by rw [CX];simp [k1]
  refine au @ho ?_
  refine dI ?_
  refine au @mD ?_
  refine aU ?_
  rw [hr]
  exact ⟨_,rfl,rfl⟩
 ·have hr:=(k2.res h1 ht).2
  have ho:decide ((e.length:Int).tmod 2=1)=false:=by rw [CX];simp [k1]
  have hp:Perm (pc b w c) m:=by cases c;exact h1.1;exact h1.2.1
  have hpl:(pc b w c).length=16:=by cases c;exact hlb;exact cZ
  have hv:=o7 h1 (c:=c) hy
  have hyv:=(kF h1 (c:=c) hy).2 ⟨hy,rfl⟩
  have hpy:=hp.lt hy
  obtain ⟨P0,hP,hPx⟩:=aaY hp hy
  refine au @ho ?_
  refine bY ?_
  refine au (aX @aH @aK @Df) ?_
  have h2:= @CX (e.length/2)
  refine au @h2 ?_
  have hmain: ∀f',f' 5=Fz e.length 1 (e.map bT)→f' 7=I ((e.length/2:Nat):Int)→f' 8=I (ct c:Nat)→f' 9=P 1 0→
    T 0 (.seq fD.r12 (.seq (.seq fD.r13 (.block 0 (.loop fD.l0))) (.seq fD.lC .ret))) (jq 0 [.tmp 2, .tmp 3] fun v H1=> ∃j,v= .tuple ⟨[S j 0 (kT m b w).length 1,I 0]⟩∧blk H1 j=some ((kT m b w).map bT)) f' [some (DC m b w),some ((pc b w c).map N8)]:=by
   intro f' g5 g7 g8 g9
   refine au (bG @g5 @g7 @mD @k4) ?_
   refine au (jM @g5 @g7 @g9 @mD @k4 @hpl) ?_
   refine bM (fun d f H'=> ∃i z lm,i≤P0∧d=P0-i∧z=it (pc b w c) y i∧lm∈vl b w m (ends b w m c y)∧lm≤y∧(∀q∈its (pc b w c) y i,lm≤q)∧f 5=Fz e.length 1 (e.map bT)∧f 7=I ((e.length/2:Nat):Int)∧f 8=I (ct c:Nat)∧f 9=P 1 0∧f 10=I lm∧f 11=I z∧H'=[some (DC m b w),some ((pc b w c).map N8)]) (P0) ?_ ?_
   ·exact ⟨_,_,Gh.refl,0,nl (pc b w c) y,y,by omega,by omega,rfl,hyv,Nat.le_refl _,by simp [its],ah,ah,ah,ah,ah,ah,rfl⟩
   ·clear g5 g7 g8 g9
    rintro d f H' R ⟨i,z,lm,hi,rfl,hz,hl1,hl2,hl3,g5,g7,g8,g9,g10,g11,rfl⟩ hN hX hR hE
    simp only [fD.l0,aG]
    have hzn:z<m:=by rw [hz];exact xK hp hy i
    have hpz:=hp.lt hzn
    have hlm:=((kF h1 hy).1 hl1).1
    refine au (jk @g5 @g7 @g11 @mD @k4) ?_
    refine aV (¬z=y) (fun hc=>?_) fun hc=>?_
    ·have hiP:i<P0:=by
      rcases Nat.lt_or_ge i P0 with h|h
      ·exact h
      ·exact absurd (by rw [hz,show i=P0 by omega,hPx]) hc
     obtain ⟨l2,hmin,m1,m2,m3⟩: ∃l2:Nat,(if z<lm then (z:Int) else (lm:Int))=(l2:Int)∧l2≤lm∧l2≤z∧(l2=lm∨l2=z):=by
      by_cases h:z<lm
      ·exact ⟨z,by rw [if_pos h],by omega,by omega, .inr rfl⟩
      ·exact ⟨lm,by rw [if_neg h],by omega,by omega, .inl rfl⟩
     refine bK ?_
     refine au (bG @g10 @g11 @amI @hmin) ?_
     refine bI (aX @g9 @g11 @hpl) ?_
     refine hN (P0-(i+1)) _ _ _ _ (by omega) Gh.refl ⟨i+1,nl (pc b w c) z,l2,by omega,rfl,by rw [it,hz],?_,by omega,fun q hq=>?_,ah,ah,ah,ah,ah,ah,rfl⟩
     ·rcases m3 with h|h
      ·rw [h];exact hl1
      ·rw [h]
       exact (kF h1 hy).2 ⟨hzn,(KQ h1).2 (by rw [hz,KR hp hy])⟩
     ·rw [Gu] at hq
      rcases List.mem_append.1 hq with h|h
      ·have:=hl3 q h
       omega
      ·rw [List.mem_singleton.1 h,←hz]
       omega
    ·refine hX _ _ ?_
     have hzy:z=y:=Decidable.not_not.1 hc
     have hle:lm=nl (vl b w m (ends b w m c y)) 0:=by
      have h3:=amJ h1 hv lm hl1
      have h4:=P8 h1 hy (by rw [←hz];exact hzy) (iM (c:=vl b w m (ends b w m c y)) (j:=0) (List.length_pos_of_mem hyv))
      rw [Gu] at h4
      rcases List.mem_append.1 h4 with h|h
      ·have:=hl3 _ h
       omega
      ·rw [List.mem_singleton] at h
       rw [h,←hz,hzy] at h3⊢
       omega
     refine au (aC @g8 @g10) ?_
     refine aU ?_
     rw [hr,←hle]
     exact ⟨_,rfl,rfl⟩
  cases c with
  |false=>
   have hcc:(!(cu==decide (e.length/2%2=1)))=false:=hc.symm
   refine oZ @hcc ?_
   clear hc hcc
   exact hmain _ ah ah ah ah
  |true=>
   have hcc:(!(cu==decide (e.length/2%2=1)))=true:=hc.symm
   refine qL @hcc ?_
   clear hc hcc
   refine aB ?_
   refine au (aX @aH @aK @Df) ?_
   exact hmain _ ah ah ah ah
theorem alV {n:Int} {b w:List Nat} (hb:By 16 b) (hw:By 16 w) (hd:fV n b w []=0):(kT n b w).length<1000:=by
 rw [kT]
 split
 ·rename_i h
  obtain ⟨c,x,h1,h2⟩:=h.choose_spec.choose_spec
  rcases h2 with ⟨_,h2⟩|⟨_,h2⟩<;>rw [h2]<;>simp
 ·simp
end Go.Bm
namespace Go.Bm
open Go Go.Am
theorem Gv {x:Bool} {g:Nat} {args:List Value} {H:BH} {K:Value→BH→Prop} {cs:List Value} {c:Int} (ha:aT args) (hn:aT cs)
  (h:aJ false g args [] fun v H1=> ∃i,v= .tuple ⟨[S i 0 cs.length 1,I c]⟩∧blk H1 i=some cs) (hK:K (.tuple ⟨[Fz cs.length 1 cs,I c]⟩) H):aJ x g args H K:=
 dw ha (h.gh fun v H1 ⟨i,h1,h2⟩=>by
  refine ⟨kL i cs v,H1.set i none,dK.fz h2 hn,?_⟩
  have a1:fU i cs (S i 0 cs.length 1)=Fz cs.length 1 cs:=kS (by simp)
  have a2:fU i cs (I c)=I c:=rfl
  have e:kL i cs v= .tuple ⟨[Fz cs.length 1 cs,I c]⟩:=by
   rw [h1]
   simp only [kL,List.map_cons,List.map_nil,a1,a2]
  rw [e]
  exact ⟨NN.tuple (aT.cons .fz (aT.cons .int aT.nil)),hK⟩)
theorem Dh {x:Bool} {g:Nat} {args:List Value} {H:BH} {K:Value→BH→Prop} {c:Int} (ha:aT args)
  (h:aJ false g args [] fun v H1=>v= .tuple ⟨[.slice none 0 0,I c]⟩) (hK:K (.tuple ⟨[Fz 0 1 [],I c]⟩) H):aJ x g args H K:=
 dw ha (h.gh fun v H1 h1=>by
  subst h1
  refine ⟨_,H1,dK.nil 1,?_⟩
  have e:JX 1 (.tuple ⟨[.slice none 0 0,I c]⟩)= .tuple ⟨[Fz 0 1 [],I c]⟩:=rfl
  rw [e]
  exact ⟨NN.tuple (aT.cons .fz (aT.cons .int aT.nil)),hK⟩)
theorem aap {n:Int} {b w:List Nat} {xs ys:List Int}:aT [DV n b w,FI xs,FI ys]:=aT.cons fC (aT.cons .fz (aT.cons .fz aT.nil))
theorem aao {x:Bool} {g:Nat} {args:List Value} {H:BH} {K:Value→BH→Prop} {r:Option (List Int)×Int} (ha:aT args) (h:aJ false g args [] fun v H1=>PW r v H1) (hK:K (.tuple ⟨[FI (r.1.getD []),I r.2]⟩) H):aJ x g args H K:=by
 obtain ⟨o,c⟩:=r
 cases o with
 |none=>exact Dh ha (h.mono fun v H1 hv=>hv) hK
 |some W=>
  refine Gv (cs:=W.map I) ha KT (h.mono fun v H1 hv=>?_) (by rw [List.length_map];exact hK)
  obtain ⟨j,e,hj⟩:=hv
  exact ⟨j,by rw [e,List.length_map],hj⟩
theorem aau {x:Bool} {g:Nat} {args:List Value} {H:BH} {K:Value→BH→Prop} {r:Option (List (List UInt8))×Int} (ha:aT args) (h:aJ false g args [] fun v H1=>P9 r v H1) (hK:K (.tuple ⟨[rH (r.1.getD []),I r.2]⟩) H):aJ x g args H K:=by
 obtain ⟨o,c⟩:=r
 cases o with
 |none=>exact Dh ha (h.mono fun v H1 hv=>hv) hK
 |some W=>
  refine Gv (cs:=W.map bQ) ha sF (h.mono fun v H1 hv=>?_) (by rw [List.length_map];exact hK)
  obtain ⟨j,e,hj⟩:=hv
  exact ⟨j,by rw [e,List.length_map],hj⟩
noncomputable def zi (n:Int) (b w:List Nat):List Int:=if fV n b w []=0 then gY (kT n b w) else []
def CW (n:Int) (b w:List Nat):List Int:=if fV n b w []=0 then gY (o9 n b w) else []
section
variable {x:Bool} {n:Int} {b w:List Nat} {H:BH} {K:Value→BH→Prop} (hb:By 16 b) (hw:By 16 w)
include hb hw
theorem al2 (hK:(fV n b w []=0→ ∃k r,oq b w n.toNat k r)→K (.tuple ⟨[FI (zi n b w),I (fV n b w [])]⟩) H):aJ x Nr [DV n b w] H K:=by
 unfold zi at hK
 by_cases hd:fV n b w []=0
 ·rw [if_pos hd] at hK
  refine dw (.cons fC .nil) (aJ.gh (K0:=fun v H1=>(∃k r,oq b w n.toNat k r)∧ ∃i,v= .tuple ⟨[S i 0 (kT n b w).length 1,I 0]⟩∧blk H1 i=some ((kT n b w).map bT)) (amH hb hw hd fun hC=>⟨hC,_,rfl,rfl⟩) fun v H1 ⟨hC,i,h1,h2⟩=>?_)
  refine ⟨_,H1.set i none,dK.fz h2 oh,?_⟩
  have e:kL i ((kT n b w).map bT) v= .tuple ⟨[FN (kT n b w),I 0]⟩:=by
   have a1:fU i ((kT n b w).map bT) (S i 0 (kT n b w).length 1)=FN (kT n b w):=kS (by simp)
   have a2:fU i ((kT n b w).map bT) (I 0)=I 0:=rfl
   rw [h1]
   simp only [kL,List.map_cons,List.map_nil,a1,a2]
  rw [e,xM]
  rw [hd] at hK
  exact ⟨NN.tuple (aT.cons .fz (aT.cons .int aT.nil)),hK fun _=>hC⟩
 ·rw [if_neg hd] at hK
  exact Dh (.cons fC .nil) (amF hb hw hd rfl) (hK fun h=>absurd h hd)
theorem al3 (hK:K (.tuple ⟨[FI (zi n b w),I (fV n b w [])]⟩) H):aJ x Ns [DV n b w] H K:=by
 unfold zi at hK
 by_cases hd:fV n b w []=0
 ·rw [if_pos hd,hd,←xM] at hK
  exact Gv (cs:=(kT n b w).map bT) (.cons fC .nil) oh (amK hb hw hd ⟨_,by rw [List.length_map],rfl⟩) (by rw [List.length_map];exact hK)
 ·rw [if_neg hd] at hK
  exact Dh (.cons fC .nil) (amG hb hw hd rfl) hK
theorem alZ (hK:K (.tuple ⟨[FI (CW n b w),I (fV n b w [])]⟩) H):aJ x Nu [DV n b w] H K:=by
 unfold CW at hK
 by_cases hd:fV n b w []=0
 ·rw [if_pos hd,hd,←xM] at hK
  exact Gv (cs:=(o9 n b w).map bT) (.cons fC .nil) oh (amD hb hw hd ⟨_,by rw [List.length_map],rfl⟩) (by rw [List.length_map];exact hK)
 ·rw [if_neg hd] at hK
  exact Dh (.cons fC .nil) (amE hb hw hd rfl) hK
theorem al0 (hK:K (.tuple ⟨[FI (CW n b w),I (fV n b w [])]⟩) H):aJ x Nv [DV n b w] H K:=by
 unfold CW at hK
 by_cases hd:fV n b w []=0
 ·rw [if_pos hd,hd,←xM] at hK
  exact Gv (cs:=(o9 n b w).map bT) (.cons fC .nil) oh (amB hb hw hd ⟨_,by rw [List.length_map],rfl⟩) (by rw [List.length_map];exact hK)
 ·rw [if_neg hd] at hK
  exact Dh (.cons fC .nil) (amC hb hw hd rfl) hK
end
theorem KA {x:Bool} {xs:List Int} {H:BH} {K:Value→BH→Prop} (hl:xs.length≤1000) (hb: ∀i,i<xs.length→1≤el xs i∧el xs i≤1000000000) (hK:K (I (dQ xs)) H):aJ x aem [FI xs] H K:=by
 refine dw (.cons .fz .nil) ?_
 refine bf afR ?_;simp only [mJ,aG]
 refine aB ?_
 refine aB ?_
 refine aB ?_
 refine bM (fun m f H'=> ∃i,i≤xs.length∧m=xs.length-i∧f 0=FI xs∧f 3=I (kE xs i)∧f 4=I i∧0≤kE xs i∧kE xs i≤1000000000*i∧H'=[]) (xs.length) ?_ ?_
 ·exact ⟨_,_,Gh.refl,0,by omega,by omega,ah,ah,ah,Int.le_refl _,Int.le_refl _,rfl⟩
 ·rintro m f H' R ⟨i,hi,rfl,g0,g3,g4,h0,h1,rfl⟩ hN hX hR hE
  simp only [mJ.l0,aG]
  refine au (aC @g0 @g4) ?_
  refine aV (i<xs.length) (fun hc=>?_) fun hc=>?_
  ·have hil:i<xs.length:=by omega
   clear hc
   have hs:kE xs (i+1)=kE xs i+el xs i:=rfl
   have hbi:=hb i hil
   refine bK ?_
   refine au (aX @g0 @g3 @g4) ?_
   refine bI @g4 ?_
   exact hN (xs.length-(i+1)) _ _ _ _ (by omega) Gh.refl ⟨i+1,by omega,rfl,ah,ah,ah,by omega,by omega,rfl⟩
  ·refine hX _ _ ?_
   obtain rfl:i=xs.length:=by omega
   refine au @g3 ?_
   refine aU ?_
   exact ⟨.int,hK⟩
theorem amm {x:Bool} {s:List UInt8} {H:BH} {K:Value→BH→Prop} (hw:kG s) (hK:K (.tuple ⟨[DV (s.length/2:Nat) (dY s) (eX s),I 0]⟩) H):aJ x aee [bQ s] H K:=by
 obtain ⟨h1,h2⟩:=zl hw
 have hl1:=h1.len
 have hl2:=h2.len
 have hz:=kM
 have hy:decide (kG s)=true:=decide_eq_true hw
 refine dw (.cons uX .nil) ?_
 refine bf afI ?_;simp only [sS,aG]
 refine au @aH ?_
 refine dB fun Kr hKr=>?_
 refine amL ?_
 rw [hy]
 refine aO ?_
 refine aI hKr ?_
 refine bY ?_
 refine dB fun Kr hKr=>?_
 refine aaZ hw ?_
 refine bP (aC @aH @aK) ?_
 refine aI hKr ?_
 refine lD (aC @aH @aK) ?_
 exact ⟨NN.tuple (aT.cons fC (aT.cons .int aT.nil)),hK⟩
end Go.Bm
