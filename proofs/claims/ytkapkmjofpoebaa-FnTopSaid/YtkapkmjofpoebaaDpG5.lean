/- DpW, DpDi, DpDj, DpDe, DpDk, DpDl, BmX, DpY, Dp0b, Dp6, Dp6b, DpX, DpZ, DpDm, DpDn -/
import Derived.Test.YtkapkmjofpoebaaBmS
import Derived.Test.YtkapkmjofpoebaaBmU
import Derived.Test.YtkapkmjofpoebaaBmV
import Derived.Test.YtkapkmjofpoebaaDpG0
import Derived.Test.YtkapkmjofpoebaaDpG2
import Derived.Test.YtkapkmjofpoebaaDpG3
import Derived.Test.YtkapkmjofpoebaaDpG4
set_option linter.unusedVariables false
set_option linter.unusedSimpArgs false
namespace Go.Bm
open Go Go.Am
theorem Xj {p:List Nat} {n i:Nat} (h:i<(aV p n).length):nl (lens p n) i=((aV p n).getD i []).length:=by
 simp [nl,lens,List.getD,h]
theorem ahn {p:List Nat} {n:Nat} (hb:By 16 p) (hp:Perm p n):
  aQ false MF [PL p,I n] [] fun v H1=> ∃j,v=S j 0 (typ p n).length 1∧blk H1 j=some ((typ p n).map fJ):=by
 have hlen:=hb.len
 have hnum:=vG hp
 have hn:=hp.1
 have hll:(lens p n).length=(aV p n).length:=by rw [lens,List.length_map]
 refine bF aau ?_;simp only [jr,aI]
 refine au fun Kr hKr=>?_;simp (disch:=omega) only [RA,↓reduceIte,Nat.reduceEqDiff,Nat.reduceLeDiff,RD];refine hKr _ _ ?_;clear hKr Kr;(try simp only [RN,reduceIte]);try refine ah rfl ?_
 refine au fun Kr hKr=>?_;simp (disch:=omega) only [RA,↓reduceIte,Nat.reduceEqDiff,Nat.reduceLeDiff,RD];refine hKr _ _ ?_;clear hKr Kr;(try simp only [RN,reduceIte]);try refine ah rfl ?_
 refine au fun Kr hKr=>?_;simp (disch:=omega) only [RA,↓reduceIte,Nat.reduceEqDiff,RD]
 refine agd hb hp ?_
 simp (disch:=omega) only [RA,↓reduceIte,Nat.reduceEqDiff,RD]
 refine hKr _ _ ?_;clear hKr Kr;(try simp only [aK,aP,aN]);(try simp only [RN,reduceIte]);try refine ah rfl ?_
 refine bU (fun m f H'=> ∃i out,i≤(aV p n).length∧m=(aV p n).length-i∧out=(lens p n).take i∧f 5=S 1 0 out.length 1∧f 11=Fz (aV p n).length 1 ((aV p n).map FN)∧f 12=I (aV p n).length∧f 13=I i∧H'=[some (p.map N8),some (out.map fJ)]) ((aV p n).length) ?_ ?_
 ·refine ⟨_,_,Gh.refl,0,[],by omega,by omega,by simp,?_,?_,?_,?_,by simp⟩
  any_goals (simp (disch:=omega) only [RA,↓reduceIte,Nat.reduceEqDiff,RD,RE, *]<;>rfl)
 ·rintro m f H' R ⟨i,out,hi,rfl,hout,g5,g11,g12,g13,rfl⟩ hN hX hR hE
  simp only [jr.l0,aI]
  refine au fun Kr hKr=>?_;simp (disch:=omega) only [RA,↓reduceIte,Nat.reduceEqDiff,RD,g12,g13];refine hKr _ _ ?_;clear hKr Kr;(try simp only [RN,reduceIte]);try refine ah rfl ?_
  refine aX (p:=i<(aV p n).length) (by simp only [RA,↓reduceIte,Nat.reduceEqDiff]<;>rfl) (by (try simp only [RB])<;>first|done|exact Iff.rfl|omega|simp) (fun hc=>?_) (fun hc=>?_)<;>(try simp only [RN,reduceIte])<;>(try refine ah rfl ?_)
  ·have hol:out.length≤16:=by rw [hout,List.length_take];omega
   have hci:=Xj hc
   (first|refine bP rfl ?_|refine bQ rfl ?_);(try simp only [RN,reduceIte]);try refine ah rfl ?_
   refine au fun Kr hKr=>?_;simp (disch:=omega) only [RA,↓reduceIte,Nat.reduceEqDiff,RD,g11,g13,V7];refine hKr _ _ ?_;clear hKr Kr;(try simp only [RN,reduceIte]);try refine ah rfl ?_
   refine au fun Kr hKr=>?_;simp (disch:=omega) only [RA,↓reduceIte,Nat.reduceEqDiff,Nat.reduceAdd,Nat.reduceLeDiff,RD,g5,←hci,Bg];refine hKr _ _ ?_;clear hKr Kr;(try simp only [RN,reduceIte]);try refine ah rfl ?_
   refine bH fun Kr hKr=>?_;simp (disch:=omega) only [RA,↓reduceIte,Nat.reduceEqDiff,RD,g13];refine hKr _ _ ?_;clear hKr Kr
   refine hN ((aV p n).length-(i+1)) _ _ _ _ (by omega) (Gh.nrm [0,3] rfl rfl (by simp only [RH,RV])) ⟨i+1,out++[nl (lens p n) i],by omega,rfl,by rw [VW (by omega),hout],?_,?_,?_,?_,rfl⟩
   any_goals (simp (disch:=omega) only [RA,↓reduceIte,Nat.reduceEqDiff,RD,RE, *]<;>rfl)
  ·refine hX _ _ ?_
   obtain rfl:i=(aV p n).length:=by omega
   have aho:out=lens p n:=by rw [hout,←hll,List.take_length]
   subst aho
   have hpl:(pF (lens p n)).length=(lens p n).length:=VQ
   have hpm:(pF (typ p n)).Perm (pF (lens p n)):=(Bo hp).map _
   have htl:(typ p n).length=(lens p n).length:=(Bo hp).length_eq
   have qV:=V5 hp
   refine au fun Kr hKr=>?_;simp (disch:=omega) only [RA,↓reduceIte,Nat.reduceEqDiff,RD,g5]
   refine aew (i:=1) rfl wJ ?_
   have e:([S 1 0 (lens p n).length 1]:List Value).map (ren [1])=[S 0 0 (pF (lens p n)).length 1]:=by rw [hpl];simp [ren,nI,nm]
   rw [e,VP]
   refine af5 (r:=pF (typ p n)) (by omega) af7 hpm ?_
   refine ⟨0,_,_,rfl,HN.cons (aW.map fun _=> .int) HN.nil,?_⟩
   rw [hpl]
   simp (disch:=omega) only [RA,↓reduceIte,Nat.reduceEqDiff,RD]
   refine hKr _ _ ?_;clear hKr Kr;(try simp only [aK,aP,aN]);(try simp only [RN,reduceIte]);try refine ah rfl ?_
   refine aS (by simp (disch:=omega) only [RA,↓reduceIte,Nat.reduceEqDiff,RD,aG,aO];rfl) aC.refl ?_;simp only [aH]
   exact ⟨1,by rw [htl],by rw [VP];rfl⟩
theorem FP {x:Bool} {p:List Nat} {n:Nat} {H:BH} {K:Value→BH→Prop} (hb:By 16 p) (hp:Perm p n) (hK:K (FN (typ p n)) H):aQ x MF [PL p,I n] H K:=
 uQ (by (simp only [RH])) wJ (by simp) (ahn hb hp) hK
theorem ahp {H:BH} {b:Nat}:dP (some (List.replicate 17 (.int .i64 0))) H b 0 17 (bJ (List.replicate 17 (.int .i64 0)))=some (undef,H.set b (some ((List.replicate 17 0).map fJ))):=by
 rw [Iq];rfl
theorem ahq {H:BH} {b o:Nat} {s:List Nat} {c:Nat} (h:o<s.length):dP (some (s.map fJ)) H b o 1 (.int .i64 (c:Int))=some (undef,H.set b (some ((s.set o c).map fJ))):=by
 rw [qM (by simpa using h)]
 rw [Ep (g:=fJ) h]
theorem ahr {p:List Nat} {n:Nat} (hb:By 16 p) (hp:Perm p n):
  aQ false MG [PL p,I n] [] fun v H1=> ∃j,v=S j 0 (typ p n).length 1∧blk H1 j=some ((typ p n).map fJ):=by
 have hlen:=hb.len
 have hnum:=vG hp
 have hn:=hp.1
 have hll:(lens p n).length=(aV p n).length:=by rw [lens,List.length_map]
 have hlo:=Fe hp
 have qV:=V5 hp
 refine bF aax ?_;simp only [eX,aI]
 refine au fun Kr hKr=>?_;simp (disch:=omega) only [RA,↓reduceIte,Nat.reduceEqDiff,RD];refine hKr _ _ ?_;clear hKr Kr;(try simp only [RN,reduceIte]);try refine ah rfl ?_
 refine au fun Kr hKr=>?_;simp (disch:=omega) only [RA,↓reduceIte,Nat.reduceEqDiff,RD]
 refine agh hb hp ?_
 simp (disch:=omega) only [RA,↓reduceIte,Nat.reduceEqDiff,Nat.reduceAdd,Nat.reduceLeDiff,RD,ahp]
 refine hKr _ _ ?_;clear hKr Kr;(try simp only [aK,aP,aN]);(try simp only [RN,reduceIte]);try refine ah rfl ?_
 refine au fun Kr hKr=>?_;simp (disch:=omega) only [RA,↓reduceIte,Nat.reduceEqDiff,RD];refine hKr _ _ ?_;clear hKr Kr;(try simp only [RN,reduceIte]);try refine ah rfl ?_
 refine bU (fun m f H'=> ∃i cn,i≤(aV p n).length∧m=(aV p n).length-i∧cn=kP (lens p n) i∧f 1=I n∧f 5=P 2 0∧f 6=Fz (aV p n).length 1 ((aV p n).map FN)∧f 7=S 1 0 0 1∧f 8=I i∧H'=[some (p.map N8),some (([]:List Nat).map fJ),some (cn.map fJ)]) ((aV p n).length) ?_ ?_
 ·refine ⟨_,_,Gh.refl,0,List.replicate 17 0,by omega,by omega,rfl,?_,?_,?_,?_,?_,rfl⟩
  any_goals (simp (disch:=omega) only [RA,↓reduceIte,Nat.reduceEqDiff,RD,RE, *]<;>rfl)
 ·rintro m f H' R ⟨i,cn,hi,rfl,hcn,g1,g5,g6,g7,g8,rfl⟩ hN hX hR hE
  simp only [eX.l0,aI]
  have hcl:cn.length=17:=by rw [hcn];exact Bj
  refine au fun Kr hKr=>?_;simp (disch:=omega) only [RA,↓reduceIte,Nat.reduceEqDiff,RD,g6,g8];refine hKr _ _ ?_;clear hKr Kr;(try simp only [RN,reduceIte]);try refine ah rfl ?_
  refine aX (p:=i<(aV p n).length) (by simp only [RA,↓reduceIte,Nat.reduceEqDiff]<;>rfl) (by (try simp only [RB])<;>first|done|exact Iff.rfl|omega|simp) (fun hc=>?_) (fun hc=>?_)<;>(try simp only [RN,reduceIte])<;>(try refine ah rfl ?_)
  ·have hci:=Xj hc
   have hz:=hlo _ (eu (show i<(lens p n).length by omega))
   have hle:nl cn (nl (lens p n) i)≤16:=by
    rw [hcn,Bl (by omega) (by omega)]
    have:=List.count_le_length (a:=nl (lens p n) i) (l:=(lens p n).take i)
    rw [List.length_take] at this
    omega
   have e1:(nl cn (nl (lens p n) i):Int)+1=((nl cn (nl (lens p n) i)+1:Nat):Int):=by omega
   (first|refine bP rfl ?_|refine bQ rfl ?_);(try simp only [RN,reduceIte]);try refine ah rfl ?_
   refine au fun Kr hKr=>?_;simp (disch:=omega) only [RA,↓reduceIte,Nat.reduceEqDiff,RD,g5,g6,g8,V7,←hci,Jt,hcl,e1,ahq];refine hKr _ _ ?_;clear hKr Kr;(try simp only [RN,reduceIte]);try refine ah rfl ?_
   refine bH fun Kr hKr=>?_;simp (disch:=omega) only [RA,↓reduceIte,Nat.reduceEqDiff,RD,g8];refine hKr _ _ ?_;clear hKr Kr
   refine hN ((aV p n).length-(i+1)) _ _ _ _ (by omega) Gh.refl ⟨i+1,cn.set (nl (lens p n) i) (nl cn (nl (lens p n) i)+1),by omega,rfl,by rw [kP,hcn],?_,?_,?_,?_,?_,rfl⟩
   any_goals (simp (disch:=omega) only [RA,↓reduceIte,Nat.reduceEqDiff,RD,RE, *]<;>rfl)
  ·refine hX _ _ ?_
   obtain rfl:i=(aV p n).length:=by omega
   rw [←hll] at hcn
   have ahs: ∀k,k≤n→(iH cn n k).length≤16:=fun k hk=>by
    rw [hcn]
    have:=af8 (show n≤16 by omega) hk hlo
    omega
   have hcv: ∀v,v<17→nl cn v≤16:=fun v hv=>by
    rw [hcn,Bl (Nat.le_refl _) hv]
    have:=List.count_le_length (a:=v) (l:=(lens p n).take (lens p n).length)
    rw [List.length_take] at this
    omega
   have hdl:typ p n=iH cn n n:=by rw [hcn];rfl
   rw [hdl] at hX
   clear g6 g8 hc hN hX hR hE
   (try simp only [RN,reduceIte]);try refine ah rfl ?_
   refine au fun Kr hKr=>?_;simp (disch:=omega) only [RA,↓reduceIte,Nat.reduceEqDiff,RD,g1];refine hKr _ _ ?_;clear hKr Kr;(try simp only [RN,reduceIte]);try refine ah rfl ?_
   rw [hdl]
   refine bU (fun m f H'=> ∃v out,v≤n∧v=m∧out=iH cn n (n-v)∧f 5=P 1 0∧f 7=S 0 0 out.length 1∧f 9=I v∧H'=[some (out.map fJ),some (cn.map fJ)]) (n) ?_ ?_
   ·refine ⟨_,_,(Gh.nrm [1,2] rfl rfl (by simp only [RH,RV])),n,[],by omega,by omega,by simp [iH],?_,?_,?_,rfl⟩
    any_goals (simp (disch:=omega) only [RA,↓reduceIte,Nat.reduceEqDiff,RD,RE, *]<;>rfl)
   ·clear g1 g5 g7
    rintro m f H' R2 ⟨v,out,hv,rfl,hout,g5,g7,g9,rfl⟩ gB hX2 hR2 hE2
    simp only [eX.l2,aI]
    refine au fun Kr hKr=>?_;simp (disch:=omega) only [RA,↓reduceIte,Nat.reduceEqDiff,RD,g9];refine hKr _ _ ?_;clear hKr Kr;(try simp only [RN,reduceIte]);try refine ah rfl ?_
    refine aX (p:=0<v) (by simp only [RA,↓reduceIte,Nat.reduceEqDiff]<;>rfl) (by (try simp only [RB])<;>first|done|exact Iff.rfl|omega|simp) (fun hc=>?_) (fun hc=>?_)<;>(try simp only [RN,reduceIte])<;>(try refine ah rfl ?_)
    ·have hq:=hcv v (by omega)
     have hstep:iH cn n (n-(v-1))=iH cn n (n-v)++List.replicate (nl cn v) v:=by
      rw [show n-(v-1)=(n-v)+1 by omega,iH,show n-(n-v)=v by omega]
     have hdn:=ahs (n-(v-1)) (by omega)
     rw [hstep,←hout,List.length_append,List.length_replicate] at hdn
     rw [←hout] at hstep
     (first|refine bP rfl ?_|refine bQ rfl ?_);(try simp only [RN,reduceIte]);try refine ah rfl ?_
     refine au fun Kr hKr=>?_;simp (disch:=omega) only [RA,↓reduceIte,Nat.reduceEqDiff,RD,g5,g9,Jt,hcl];refine hKr _ _ ?_;clear hKr Kr;(try simp only [RN,reduceIte]);try refine ah rfl ?_
     obtain ⟨q,hqe⟩: ∃q,nl cn v=q:=⟨_,rfl⟩
     rw [hqe] at hq hstep hdn
     simp only [hqe]
     refine bU (fun m f H'=> ∃j o,j≤q∧j=m∧o=out++List.replicate (q-j) v∧f 5=P 1 0∧f 7=S 0 0 o.length 1∧f 9=I v∧f 10=I j∧H'=[some (o.map fJ),some (cn.map fJ)]) (q) ?_ ?_
     ·refine ⟨_,_,Gh.refl,q,out,by omega,by omega,by simp,?_,?_,?_,?_,rfl⟩
      any_goals (simp (disch:=omega) only [RA,↓reduceIte,Nat.reduceEqDiff,RD,RE, *]<;>rfl)
     ·clear g5 g7 g9
      rintro m f H' R3 ⟨j,o,hj,rfl,ho,g5,g7,g9,g10,rfl⟩ hN3 Jf xU hE3
      simp only [eX.l1,aI]
      have hol:o.length≤16:=by rw [ho,List.length_append,List.length_replicate];omega
      refine au fun Kr hKr=>?_;simp (disch:=omega) only [RA,↓reduceIte,Nat.reduceEqDiff,RD,g10];refine hKr _ _ ?_;clear hKr Kr;(try simp only [RN,reduceIte]);try refine ah rfl ?_
      refine aX (p:=0<j) (by simp only [RA,↓reduceIte,Nat.reduceEqDiff]<;>rfl) (by (try simp only [RB])<;>first|done|exact Iff.rfl|omega|simp) (fun hc=>?_) (fun hc=>?_)<;>(try simp only [RN,reduceIte])<;>(try refine ah rfl ?_)
      ·have hj1:(j:Int)-1=((j-1:Nat):Int):=by omega
       (first|refine bP rfl ?_|refine bQ rfl ?_);(try simp only [RN,reduceIte]);try refine ah rfl ?_
       refine au fun Kr hKr=>?_;simp (disch:=omega) only [RA,↓reduceIte,Nat.reduceEqDiff,Nat.reduceAdd,Nat.reduceLeDiff,RD,g7,g9,Bg];refine hKr _ _ ?_;clear hKr Kr;(try simp only [RN,reduceIte]);try refine ah rfl ?_
       refine bH fun Kr hKr=>?_;simp (disch:=omega) only [RA,↓reduceIte,Nat.reduceEqDiff,RD,g10,hj1];refine hKr _ _ ?_;clear hKr Kr
       refine hN3 (j-1) _ _ _ _ (by omega) (Gh.nrm [3,1] rfl rfl (by simp only [RH,RV])) ⟨j-1,o++[v],by omega,rfl,?_,?_,?_,?_,?_,rfl⟩
       any_goals (simp (disch:=omega) only [RA,↓reduceIte,Nat.reduceEqDiff,RD,RE, *]<;>rfl)
       rw [ho,List.append_assoc,show q-(j-1)=(q-j)+1 by omega,List.replicate_succ']
      ·refine Jf _ _ ?_
       obtain rfl:j=0:=by omega
       have hv1:(v:Int)-1=((v-1:Nat):Int):=by omega
       refine bH fun Kr hKr=>?_;simp (disch:=omega) only [RA,↓reduceIte,Nat.reduceEqDiff,RD,g9,hv1];refine hKr _ _ ?_;clear hKr Kr
       refine gB (v-1) _ _ _ _ (by omega) Gh.refl ⟨v-1,o,by omega,rfl,by rw [hstep,ho];rfl,?_,?_,?_,rfl⟩
       any_goals (simp (disch:=omega) only [RA,↓reduceIte,Nat.reduceEqDiff,RD,RE, *]<;>rfl)
    ·refine hX2 _ _ ?_
     obtain rfl:v=0:=by omega
     refine au fun Kr hKr=>?_;simp (disch:=omega) only [RA,↓reduceIte,Nat.reduceEqDiff,RD,g7];refine hKr _ _ ?_;clear hKr Kr;(try simp only [RN,reduceIte]);try refine ah rfl ?_
     refine aS (by simp (disch:=omega) only [RA,↓reduceIte,Nat.reduceEqDiff,RD,aG,aO,g7];rfl) aC.refl ?_;simp only [aH]
     rw [hout]
     exact ⟨0,rfl,rfl⟩
theorem JQ {x:Bool} {p:List Nat} {n:Nat} {H:BH} {K:Value→BH→Prop} (hb:By 16 p) (hp:Perm p n) (hK:K (FN (typ p n)) H):aQ x MG [PL p,I n] H K:=
 uQ (by (simp only [RH])) wJ (by simp) (ahr hb hp) hK
theorem FT {b:Bool} {k:IntKind} {a:Int}:NN (.tuple ⟨[.bool b, .int k a]⟩):=NN.tuple (aW.cons NN.bool (aW.cons NN.int aW.nil))
def Clean (w:List Nat) (n:Nat):Prop:= ∀x,x<n→nl w x≠x∧nl w (nl w x)=x
instance (w:List Nat) (n:Nat):Decidable (Clean w n):=by unfold Clean;infer_instance
theorem aht {x:Bool} {n:Nat} {b w:List Nat} {H:BH} {K:Value→BH→Prop} (hb:By 16 b) (hw:By 16 w) (hp:Perm w n) (hK:K (.bool (decide (Clean w n))) H):aQ x YW [DV n b w] H K:=by
 have hlb:=hb.len
 have dI:=hw.len
 have hn:=hp.1
 have hcl:=aga hp
 have ahu:(typ w n).length≤16:=by rw [Bq hp];have:=vG hp;omega
 refine dR (by exact .cons iK .nil) ?_
 refine bF aak ?_;simp only [jo,aI]
 refine au fun Kr hKr=>?_;simp (disch:=omega) only [RA,↓reduceIte,Nat.reduceEqDiff,RD,aF];refine hKr _ _ ?_;clear hKr Kr;(try simp only [RN,reduceIte]);try refine ah rfl ?_
 refine au fun Kr hKr=>?_;simp (disch:=omega) only [RA,↓reduceIte,Nat.reduceEqDiff,RD,aF,aU]
 refine FP hw hp ?_
 generalize typ w n=zs at hcl ahu
 simp (disch:=omega) only [RA,↓reduceIte,Nat.reduceEqDiff,RD]
 refine hKr _ _ ?_;clear hKr Kr;(try simp only [aK,aP,aN]);(try simp only [RN,reduceIte]);try refine ah rfl ?_
 refine bU (fun m f H'=> ∃i,i≤zs.length∧m=zs.length-i∧(∀j,j<i→nl zs j=2)∧f 9=Fz zs.length 1 (zs.map fJ)∧f 10=I zs.length∧f 11=I i∧H'=[some (DC n b w)]) (zs.length) ?_ ?_
 ·refine ⟨_,_,Gh.refl,0,by omega,by omega,fun j hj=>by omega,?_,?_,?_,rfl⟩
  any_goals (simp (disch:=omega) only [RA,↓reduceIte,Nat.reduceEqDiff,RD,RE, *]<;>rfl)
 ·rintro m f H' R ⟨i,hi,rfl,hall,g9,g10,g11,rfl⟩ hN hX hR hE
  simp only [jo.l0,aI]
  refine au fun Kr hKr=>?_;simp (disch:=omega) only [RA,↓reduceIte,Nat.reduceEqDiff,RD,g10,g11];refine hKr _ _ ?_;clear hKr Kr;(try simp only [RN,reduceIte]);try refine ah rfl ?_
  refine aX (p:=i<zs.length) (by simp only [RA,↓reduceIte,Nat.reduceEqDiff]<;>rfl) (by (try simp only [RB])<;>first|done|exact Iff.rfl|omega|simp) (fun hc=>?_) (fun hc=>?_)<;>(try simp only [RN,reduceIte])<;>(try refine ah rfl ?_)
  ·(first|refine bP rfl ?_|refine bQ rfl ?_);(try simp only [RN,reduceIte]);try refine ah rfl ?_
   refine au fun Kr hKr=>?_;simp (disch:=omega) only [RA,↓reduceIte,Nat.reduceEqDiff,RD,g9,g11,Jt];refine hKr _ _ ?_;clear hKr Kr;(try simp only [RN,reduceIte]);try refine ah rfl ?_
   refine au fun Kr hKr=>?_;simp (disch:=omega) only [RA,↓reduceIte,Nat.reduceEqDiff,RD];refine hKr _ _ ?_;clear hKr Kr;(try simp only [RN,reduceIte]);try refine ah rfl ?_
   refine aX (p:= ¬nl zs i=2) (by simp only [RA,↓reduceIte,Nat.reduceEqDiff]<;>rfl) (by (try simp only [RB])<;>first|done|exact Iff.rfl|omega|simp) (fun hc=>?_) (fun hc=>?_)<;>(try simp only [RN,reduceIte])<;>(try refine ah rfl ?_)
   ·refine au fun Kr hKr=>?_;simp (disch:=omega) only [RA,↓reduceIte,Nat.reduceEqDiff,RD];refine hKr _ _ ?_;clear hKr Kr;(try simp only [RN,reduceIte]);try refine ah rfl ?_
    refine hR _ _ ?_
    refine aS (by simp (disch:=omega) only [RA,↓reduceIte,Nat.reduceEqDiff,RD,aG,aO];rfl) aC.refl ?_;simp only [aH]
    rw [show decide (Clean w n)=false by rw [decide_eq_false_iff_not];exact fun h=>hc (hcl.2 h _ (eu (by assumption)))] at hK
    exact ⟨.bool,hK⟩
   ·have hz2:=Decidable.not_not.1 hc
    have Ea: ∀j,j<i+1→nl zs j=2:=fun j hj=>by
     by_cases e:j=i
     ·rw [e];exact hz2
     ·exact hall j (by omega)
    refine bH fun Kr hKr=>?_;simp (disch:=omega) only [RA,↓reduceIte,Nat.reduceEqDiff,RD,g11];refine hKr _ _ ?_;clear hKr Kr
    refine hN (zs.length-(i+1)) _ _ _ _ (by omega) Gh.refl ⟨i+1,by omega,rfl,Ea,?_,?_,?_,rfl⟩
    any_goals (simp (disch:=omega) only [RA,↓reduceIte,Nat.reduceEqDiff,RD,RE, *]<;>rfl)
  ·refine hX _ _ ?_
   refine au fun Kr hKr=>?_;simp (disch:=omega) only [RA,↓reduceIte,Nat.reduceEqDiff,RD];refine hKr _ _ ?_;clear hKr Kr;(try simp only [RN,reduceIte]);try refine ah rfl ?_
   refine aS (by simp (disch:=omega) only [RA,↓reduceIte,Nat.reduceEqDiff,RD,aG,aO];rfl) aC.refl ?_;simp only [aH]
   rw [show decide (Clean w n)=true by
    rw [decide_eq_true_eq]
    exact hcl.1 fun z hz=>by
     obtain ⟨j,hj,rfl⟩:=kZ hz
     exact hall j (by omega)] at hK
   exact ⟨.bool,hK⟩
end Go.Bm
namespace Go.Bm
open Go Go.Am
section
variable {code:List Nat} {a:Nat} {h:Int}
def sF (r:List Nat):List Int:=r.map fun x:Nat=>(x:Int)
theorem EL {r:List Nat}:(sF r).length=r.length:=by simp [sF]
theorem ahv {r:List Nat}:r.map fJ=(sF r).map I:=by
 rw [sF,List.map_map]
 rfl
theorem U0 {r:List Nat}:FN r=FI (sF r):=by
 rw [FI,EL,←ahv]
section
variable {x y z:Value} {H:BH} {b j o l e:Nat}
end
end
end Go.Bm
namespace Go.Bm
open Go Go.Am
theorem aeY {xss:List (List Nat)}:LN xss=vU (xss.map sF):=by
 have e:(xss.map sF).map FI=xss.map FN:=by
  rw [List.map_map]
  exact List.map_congr_left fun r _=>U0.symm
 rw [vU,e,List.length_map]
section
variable {code:List Nat} {a:Nat} {h:Int}
theorem sD {p:List Nat} {n:Nat} (hp:Perm p n):(typ p n).length≤100:=by
 have hn:=hp.1
 have:=vG hp
 rw [Bq hp]
 omega
end
end Go.Bm
namespace Go.Bm
open Go Go.Am
section
variable {xs:List Int} {n:Nat}
end
section
variable {xs:List Int} (ht:yK xs)
include ht
end
end Go.Bm
namespace Go.Bm
open Go Go.Am
section
variable {xs:List Int}
end
end Go.Bm
namespace Go.Bm
open Go Go.Am
section
variable {code:List Nat} {H:BH} {K:Value→BH→Prop} {x:Bool}
theorem afh (hK:K (.bool (decide (4096<code.length))) H):aQ x YD [FB code] H K:=by
 refine dR (.cons .fz .nil) ?_
 refine bF ZJ ?_;simp only [tC,aI]
 refine au fun Kr hKr=>?_;simp (disch:=omega) only [RA,↓reduceIte,Nat.reduceEqDiff,RD];refine hKr _ _ ?_;clear hKr Kr;(try simp only [RN,reduceIte]);try refine ah rfl ?_
 refine au fun Kr hKr=>?_;simp (disch:=omega) only [RA,↓reduceIte,Nat.reduceEqDiff,RD];refine hKr _ _ ?_;clear hKr Kr;(try simp only [RN,reduceIte]);try refine ah rfl ?_
 refine aS (by simp (disch:=omega) only [RA,↓reduceIte,Nat.reduceEqDiff,RD,aG,aO];rfl) aC.refl ?_;simp only [aH]
 rw [show decide ((4096:Int)<(code.length:Int))=decide (4096<code.length) by rw [decide_eq_decide];omega]
 exact ⟨.bool,hK⟩
theorem U1 {xs ys:List Int} (hl:xs.length<4611686018427387904) (hl':ys.length<4611686018427387904) (hK:K (.bool (decide (xs=ys))) H):aQ x L6 [FI xs,FI ys] H K:=by
 refine dR (.cons .fz (.cons .fz .nil)) ?_
 refine bF ZV ?_;simp only [iZ,aI]
 refine au fun Kr hKr=>?_;simp (disch:=omega) only [RA,↓reduceIte,Nat.reduceEqDiff,RD];refine hKr _ _ ?_;clear hKr Kr;(try simp only [RN,reduceIte]);try refine ah rfl ?_
 refine au fun Kr hKr=>?_;simp (disch:=omega) only [RA,↓reduceIte,Nat.reduceEqDiff,RD];refine hKr _ _ ?_;clear hKr Kr;(try simp only [RN,reduceIte]);try refine ah rfl ?_
 refine aX (p:= ¬xs.length=ys.length) (by simp only [RA,↓reduceIte,Nat.reduceEqDiff]<;>rfl) (by (try simp only [RB])<;>first|done|exact Iff.rfl|omega|simp) (fun hc=>?_) (fun hc=>?_)<;>(try simp only [RN,reduceIte])<;>(try refine ah rfl ?_)
 ·refine au fun Kr hKr=>?_;simp (disch:=omega) only [RA,↓reduceIte,Nat.reduceEqDiff,RD];refine hKr _ _ ?_;clear hKr Kr;(try simp only [RN,reduceIte]);try refine ah rfl ?_
  refine aS (by simp (disch:=omega) only [RA,↓reduceIte,Nat.reduceEqDiff,RD,aG,aO];rfl) aC.refl ?_;simp only [aH]
  rw [show decide (xs=ys)=false by simp;intro e;exact hc (by rw [e])] at hK
  exact ⟨.bool,hK⟩
 have hll:=Decidable.not_not.1 hc
 clear hc
 refine au fun Kr hKr=>?_;simp (disch:=omega) only [RA,↓reduceIte,Nat.reduceEqDiff,RD];refine hKr _ _ ?_;clear hKr Kr;(try simp only [RN,reduceIte]);try refine ah rfl ?_
 refine bU (fun m f H'=> ∃i,i≤xs.length∧m=xs.length-i∧(∀j,j<i→el xs j=el ys j)∧f 0=FI xs∧f 1=FI ys∧f 5=I i∧H'=[]) (xs.length) ?_ ?_
 ·refine ⟨_,_,Gh.refl,0,by omega,by omega,fun j hj=>by omega,?_,?_,?_,rfl⟩
  any_goals (simp (disch:=omega) only [RA,↓reduceIte,Nat.reduceEqDiff,RD,RE, *]<;>rfl)
 ·rintro m f H' R ⟨i,hi,rfl,he,g0,g1,g5,rfl⟩ hN hX hR hE
  simp only [iZ.l0,aI]
  refine au fun Kr hKr=>?_;simp (disch:=omega) only [RA,↓reduceIte,Nat.reduceEqDiff,RD,g0,g5];refine hKr _ _ ?_;clear hKr Kr;(try simp only [RN,reduceIte]);try refine ah rfl ?_
  refine aX (p:=i<xs.length) (by simp only [RA,↓reduceIte,Nat.reduceEqDiff]<;>rfl) (by (try simp only [RB])<;>first|done|exact Iff.rfl|omega|simp) (fun hc=>?_) (fun hc=>?_)<;>(try simp only [RN,reduceIte])<;>(try refine ah rfl ?_)
  ·have hil:i<xs.length:=by assumption
   have EJ:i<ys.length:=by omega
   (first|refine bP rfl ?_|refine bQ rfl ?_);(try simp only [RN,reduceIte]);try refine ah rfl ?_
   refine au fun Kr hKr=>?_;simp (disch:=omega) only [RA,↓reduceIte,Nat.reduceEqDiff,RD,g0,g1,g5];refine hKr _ _ ?_;clear hKr Kr;(try simp only [RN,reduceIte]);try refine ah rfl ?_
   refine aX (p:= ¬el xs i=el ys i) (by simp only [RA,↓reduceIte,Nat.reduceEqDiff]<;>rfl) (by (try simp only [RB])<;>first|done|exact Iff.rfl|omega|simp) (fun hc=>?_) (fun hc=>?_)<;>(try simp only [RN,reduceIte])<;>(try refine ah rfl ?_)
   ·refine au fun Kr hKr=>?_;simp (disch:=omega) only [RA,↓reduceIte,Nat.reduceEqDiff,RD];refine hKr _ _ ?_;clear hKr Kr;(try simp only [RN,reduceIte]);try refine ah rfl ?_
    refine hR _ _ ?_
    refine aS (by simp (disch:=omega) only [RA,↓reduceIte,Nat.reduceEqDiff,RD,aG,aO];rfl) aC.refl ?_;simp only [aH]
    rw [show decide (xs=ys)=false by simp;intro e;exact hc (by rw [e])] at hK
    exact ⟨.bool,hK⟩
   have hee:=Decidable.not_not.1 hc
   refine bH fun Kr hKr=>?_;simp (disch:=omega) only [RA,↓reduceIte,Nat.reduceEqDiff,RD,g5];refine hKr _ _ ?_;clear hKr Kr
   have he': ∀j,j<i+1→el xs j=el ys j:=fun j hj=>by
    by_cases e:j=i
    ·rw [e];exact hee
    ·exact he j (by omega)
   refine hN (xs.length-(i+1)) _ _ _ _ (by omega) Gh.refl ⟨i+1,by omega,rfl,he',?_,?_,?_,rfl⟩
   any_goals (simp (disch:=omega) only [RA,↓reduceIte,Nat.reduceEqDiff,RD,RE, *]<;>rfl)
  ·refine hX _ _ ?_
   have e:xs=ys:=by
    apply List.ext_getElem hll
    intro j h1 h2
    have:=he j (by omega)
    simpa [el,List.getD,h1,h2] using this
   rw [show decide (xs=ys)=true by simp [e]] at hK
   refine au fun Kr hKr=>?_;simp (disch:=omega) only [RA,↓reduceIte,Nat.reduceEqDiff,RD];refine hKr _ _ ?_;clear hKr Kr;(try simp only [RN,reduceIte]);try refine ah rfl ?_
   refine aS (by simp (disch:=omega) only [RA,↓reduceIte,Nat.reduceEqDiff,RD,aG,aO];rfl) aC.refl ?_;simp only [aH]
   exact ⟨.bool,hK⟩
variable (hl:code.length≤1048576) (hcd: ∀i,nl code i<256)
include hl hcd
end
end Go.Bm
namespace Go.Bm
open Go Go.Am
def pO (p q:List Nat):Int:=Lib.compareBytes (Lib.bytesOf (p.map fun n:Nat=>(n:Int))) (Lib.bytesOf (q.map fun n:Nat=>(n:Int)))
theorem Xk {a b:Nat} (ha:a<256) (hb:b<256):((a:Int).toNat.toUInt8<(b:Int).toNat.toUInt8)↔a<b:=by
 rw [UInt8.lt_iff_toNat_lt]
 simp [Nat.mod_eq_of_lt ha,Nat.mod_eq_of_lt hb]
theorem ahw {a b:Nat} {p q:List Nat} (ha:a<256) (hb:b<256):pO (a::p) (b::q)=if a<b then-1 else if b<a then 1 else pO p q:=by
 show Lib.compareBytes (_::_) (_::_)=_
 rw [Lib.compareBytes]
 simp only [Xk ha hb,Xk hb ha]
 rfl
theorem JZ: ∀{p q:List Nat},p.length=q.length→(∀x∈p,x<256)→(∀x∈q,x<256)→((pO p q<0↔p<q)∧(pO p q=0↔p=q))
 |[],[],_,_,_=>⟨by simp [pO,Lib.bytesOf,Lib.compareBytes],by simp [pO,Lib.bytesOf,Lib.compareBytes]⟩
 |[],_::_,h,_,_=>by simp at h
 | _::_,[],h,_,_=>by simp at h
 |a::p,b::q,h,hp,hq=>by
  have ih:=JZ (p:=p) (q:=q) (by simpa using h) (fun x hx=>hp x (by simp [hx])) (fun x hx=>hq x (by simp [hx]))
  rw [ahw (hp a (by simp)) (hq b (by simp)),List.cons_lt_cons_iff]
  rcases Nat.lt_trichotomy a b with h1|h1|h1
  ·rw [if_pos h1]
   refine ⟨⟨fun _=> .inl h1,fun _=>by omega⟩,⟨fun h=>by omega,fun h=>?_⟩⟩
   injection h with h2
   omega
  ·subst h1
   rw [if_neg (by omega),if_neg (by omega),ih.1,ih.2]
   refine ⟨⟨fun h=> .inr ⟨rfl,h⟩,fun h=>?_⟩,by simp⟩
   rcases h with h|h
   ·omega
   ·exact h.2
  ·rw [if_neg (by omega),if_pos h1]
   refine ⟨⟨fun h=>by omega,fun h=>?_⟩,⟨fun h=>by omega,fun h=>?_⟩⟩
   ·rcases h with h|h<;>omega
   ·injection h with h2
    omega
theorem ahx {x:Bool} {i j:Nat} {p q:List Nat} {H:BH} {K:Value→BH→Prop} (hi:blk H i=some (p.map N8)) (hj:blk H j=some (q.map N8)) (hp:0<p.length) (hq:0<q.length)
  (hK:K (I (pO p q)) H):aQ x DU [S i 0 p.length 1,S j 0 q.length 1] H K:=by
 intro ρ Z as HA h1 h2
 obtain ⟨u1,us,rfl,v1,h3⟩:=h1.nJ
 obtain ⟨u2,us2,rfl,v2,h4⟩:=h3.nJ
 obtain rfl:=h4.nH
 obtain ⟨b1,r1,rfl⟩:=v1.jC
 obtain ⟨b2,r2,rfl⟩:=v2.jC
 have hat: ∀(i b:Nat) (p:List Nat),blk H i=some (p.map N8)→0<p.length→ρ i=some b→BytesAt HA (.slice (some ⟨b,0,none⟩) p.length 1) (p.map fun n:Nat=>(n:Int)):=by
  intro i b p hb hp hr
  obtain ⟨b',bk,e1,e2,e3,e4,e5⟩:=h2.fO i _ hb
  rw [hr] at e1
  cases e1
  refine ⟨b,0,bk,by rw [List.length_map],by simpa using hp,e3,fun t x hx=>?_⟩
  simp only [List.getElem?_map,Option.map_eq_some_iff] at hx
  obtain ⟨n,hn,rfl⟩:=hx
  obtain ⟨d,hd,hv⟩:=e5.at_ (i:=t) (c:=N8 n) (by simp [hn])
  rw [Nat.zero_add,hd,hv.int]
 exact ⟨_,HA, .outer ⟨rfl,rfl,_,_,_,_,rfl,hat i b1 p hi hp r1,hat j b2 q hj hq r2,rfl⟩,fun _=>Ext.refl' _,ρ,Z,_,H, .z (.plain rfl),h2,Nat.le_refl _,fun _ _=>rfl, .refl _ _ _ _,hK⟩
end Go.Bm
namespace Go.Bm
open Go Go.Am
theorem ahy {a b:Nat}:bK (List.replicate 2 (.int .u8 0)) [(0,1, .int .u8 (a:Int)),(1,1, .int .u8 (b:Int))]=some ([a,b].map N8):=rfl
theorem ahz {b w:List Nat} {z j:Nat} (h:j<2):nl [nl b z,nl w z] j=nl ([b,w].getD j []) z:=by
 have:j=0∨j=1:=by omega
 rcases this with rfl|rfl<;>rfl
theorem ahA {x:Nat} (hx:x<16):Bi 16 (stA x):=⟨by simp [stA,yc],fun i hi=>by
 rw [show (stA x).2=[x] from rfl,AO (by simpa [stA] using hi)];exact hx,by
 show 1≤(sH.set x true).count true
 rw [rY (by rw [yc];exact hx) ET]
 omega⟩
theorem ahB {n x:Nat} {b w:List Nat} (hb:By 16 b) (hw:By 16 w) (hd:aZ n b w) (hx:x<n):
  aQ false MN [DV n b w,I x] [] fun v H1=> ∃j,v=S j 0 (ord b w x).length 1∧blk H1 j=some ((ord b w x).map N8):=by
 have hlb:=hb.len
 have dI:=hw.len
 have hn:=hd.1.1
 have hb16:=fun i=>hd.1.kN hlb i
 have hw16:=fun i=>hd.2.1.kN dI i
 have qV: ∀p∈[b,w],∀i,nl p i<16:=by simp;exact ⟨hb16,hw16⟩
 have hx16:x<16:=by omega
 have wP:(List.replicate 16 false).length=16:=List.length_replicate
 refine bF aaP ?_;simp only [eY,aI]
 refine au fun Kr hKr=>?_;simp (disch:=omega) only [RA,↓reduceIte,Nat.reduceEqDiff,RD,aF];refine hKr _ _ ?_;clear hKr Kr;(try simp only [RN,reduceIte]);try refine ah rfl ?_
 refine au fun Kr hKr=>?_;simp (disch:=omega) only [RA,↓reduceIte,Nat.reduceEqDiff,Nat.reduceBEq,Nat.reduceSub,Nat.reduceAdd,Nat.reduceMul,Nat.reduceLT,Nat.reduceLeDiff,Int.reduceLE,Int.reduceLT,Int.reduceEq,Int.reduceNeg,Int.reduceToNat,Int.reduceMul,Int.reduceAdd,Int.reduceSub,Int.reduceBEq,Int.reduceBNe,reduceCtorEq,RD];refine hKr _ _ ?_;clear hKr Kr;(try simp only [RN,reduceIte]);try refine ah rfl ?_
 refine au fun Kr hKr=>?_;simp (disch:=omega) only [RA,↓reduceIte,Nat.reduceEqDiff,Nat.reduceBEq,Nat.reduceSub,Nat.reduceAdd,Nat.reduceMul,Nat.reduceLT,Nat.reduceLeDiff,Int.reduceLE,Int.reduceLT,Int.reduceEq,Int.reduceNeg,Int.reduceToNat,Int.reduceMul,Int.reduceAdd,Int.reduceSub,Int.reduceBEq,Int.reduceBNe,reduceCtorEq,RD,SX];refine hKr _ _ ?_;clear hKr Kr;(try simp only [RN,reduceIte]);try refine ah rfl ?_
 refine au fun Kr hKr=>?_;simp (disch:=omega) only [RA,↓reduceIte,Nat.reduceEqDiff,Nat.reduceBEq,Nat.reduceSub,Nat.reduceAdd,Nat.reduceMul,Nat.reduceLT,Nat.reduceLeDiff,Int.reduceLE,Int.reduceLT,Int.reduceEq,Int.reduceNeg,Int.reduceToNat,Int.reduceMul,Int.reduceAdd,Int.reduceSub,Int.reduceBEq,Int.reduceBNe,reduceCtorEq,RD];refine hKr _ _ ?_;clear hKr Kr;(try simp only [RN,reduceIte]);try refine ah rfl ?_
 refine au fun Kr hKr=>?_;simp (disch:=omega) only [RA,↓reduceIte,Nat.reduceEqDiff,Nat.reduceBEq,Nat.reduceSub,Nat.reduceAdd,Nat.reduceMul,Nat.reduceLT,Nat.reduceLeDiff,Int.reduceLE,Int.reduceLT,Int.reduceEq,Int.reduceNeg,Int.reduceToNat,Int.reduceMul,Int.reduceAdd,Int.reduceSub,Int.reduceBEq,Int.reduceBNe,reduceCtorEq,RD];refine hKr _ _ ?_;clear hKr Kr;(try simp only [RN,reduceIte]);try refine ah rfl ?_
 refine bU (fun m f H'=> ∃k st,k≤16∧m=16-k∧st=bf [b,w] (stA x) k∧k≤st.2.length∧f 2=P 0 0∧f 5=P 1 0∧f 6=S 2 0 st.2.length 1∧f 7=I k∧H'=[some (DC n b w),some (st.1.map B),some (st.2.map N8)]) (16) ?_ ?_
 ·refine ⟨_,_,Gh.refl,0,stA x,by omega,by omega,rfl,Nat.zero_le _,?_,?_,?_,?_,by simp [stA,sH]⟩
  any_goals (simp (disch:=omega) only [RA,↓reduceIte,Nat.reduceEqDiff,Nat.reduceAdd,Nat.reduceMul,Int.reduceToNat,Nat.reduceLT,reduceCtorEq,RD,RE, *]<;>rfl)
 ·rintro m f H' R ⟨k,st,hk,rfl,hst,hkl,g2,g5,g6,g7,rfl⟩ hN hX hR hE
  simp only [eY.l1,aI]
  have hB:=(ahA hx16).bf qV k
  rw [←hst] at hB
  replace hst:=hst.symm
  have hle:=hB.le
  have hsl:=hB.len
  refine au fun Kr hKr=>?_;simp (disch:=omega) only [RA,↓reduceIte,Nat.reduceEqDiff,Nat.reduceBEq,Nat.reduceSub,Nat.reduceAdd,Nat.reduceMul,Nat.reduceLT,Nat.reduceLeDiff,Int.reduceLE,Int.reduceLT,Int.reduceEq,Int.reduceNeg,Int.reduceToNat,Int.reduceMul,Int.reduceAdd,Int.reduceSub,Int.reduceBEq,Int.reduceBNe,reduceCtorEq,RD,g6,g7];refine hKr _ _ ?_;clear hKr Kr;(try simp only [RN,reduceIte]);try refine ah rfl ?_
  refine aX (p:=k<st.2.length) (by simp only [RA,↓reduceIte,Nat.reduceEqDiff,Nat.reduceBEq,Nat.reduceSub,Nat.reduceAdd,Nat.reduceMul,Nat.reduceLT,Nat.reduceLeDiff,Int.reduceLE,Int.reduceLT,Int.reduceEq,Int.reduceNeg,Int.reduceToNat,Int.reduceMul,Int.reduceAdd,Int.reduceSub,Int.reduceBEq,Int.reduceBNe,reduceCtorEq]<;>rfl) (by (try simp only [RB])<;>first|done|exact Iff.rfl|omega|simp) (fun hc=>?_) (fun hc=>?_)<;>(try simp only [RN,reduceIte])<;>(try refine ah rfl ?_)
  ·have hxk:=hB.lt k hc
   have ahC:k<st.2.length:=by assumption
   have h1:=hb16 (nl st.2 k)
   have h2:=hw16 (nl st.2 k)
   obtain ⟨pr,hpr⟩: ∃pr,pr=[nl b (nl st.2 k),nl w (nl st.2 k)]:=⟨_,rfl⟩
   have hpl:pr.length=2:=by rw [hpr];rfl
   have rZ: ∀j,j<2→nl pr j=nl ([b,w].getD j []) (nl st.2 k):=fun j hj=>by rw [hpr];exact ahz hj
   (first|refine bP rfl ?_|refine bQ rfl ?_);(try simp only [RN,reduceIte]);try refine ah rfl ?_
   refine au fun Kr hKr=>?_;simp (disch:=omega) only [RA,↓reduceIte,Nat.reduceEqDiff,Nat.reduceBEq,Nat.reduceSub,Nat.reduceAdd,Nat.reduceMul,Nat.reduceLT,Nat.reduceLeDiff,Int.reduceLE,Int.reduceLT,Int.reduceEq,Int.reduceNeg,Int.reduceToNat,Int.reduceMul,Int.reduceAdd,Int.reduceSub,Int.reduceBEq,Int.reduceBNe,reduceCtorEq,RD,g2,g6,g7,aF,aU,ahy];refine hKr _ _ ?_;clear hKr Kr;(try simp only [RN,reduceIte]);try refine ah rfl ?_
   refine bU (fun m f H'=> ∃j st',j≤2∧m=2-j∧st'=iJ ([b,w].take j) (nl st.2 k) st∧f 2=P 0 0∧f 5=P 1 0∧f 6=S 2 0 st'.2.length 1∧f 7=I k∧f 36=S 3 0 2 1∧f 37=I 2∧f 38=I j∧H'=[some (DC n b w),some (st'.1.map B),some (st'.2.map N8),some (pr.map N8)]) (2) ?_ ?_
   ·refine ⟨_,_,Gh.refl,0,st,by omega,by omega,rfl,?_,?_,?_,?_,?_,?_,?_,by rw [hpr];rfl⟩
    any_goals (simp (disch:=omega) only [RA,↓reduceIte,Nat.reduceEqDiff,RD,RE, *]<;>rfl)
   ·clear g2 g5 g6 g7 hpr
    rintro m f H' R2 ⟨j,st',hj,rfl,hst',g2,g5,g6,g7,BK,sW,F5,rfl⟩ gB hX2 hR2 hE2
    simp only [eY.l0,aI]
    refine au fun Kr hKr=>?_;simp (disch:=omega) only [RA,↓reduceIte,Nat.reduceEqDiff,RD,sW,F5];refine hKr _ _ ?_;clear hKr Kr;(try simp only [RN,reduceIte]);try refine ah rfl ?_
    have hB':Bi 16 st':=by rw [hst'];exact hB.round fun p hp=>qV p (List.mem_of_mem_take hp) _
    have hle':=hB'.le
    have qy:=hB'.len
    refine aX (p:=j<2) (by simp only [RA,↓reduceIte,Nat.reduceEqDiff]<;>rfl) (by (try simp only [RB])<;>first|done|exact Iff.rfl|omega|simp) (fun hc=>?_) (fun hc=>?_)<;>(try simp only [RN,reduceIte])<;>(try refine ah rfl ?_)
    ·have hnx:=EH (ls:=[b,w]) (x:=nl st.2 k) (st:=st) hc
     rw [←hst',←rZ j hc] at hnx
     have hyl:nl pr j<16:=by
      rw [rZ j hc]
      exact qV _ (getD_mem hc) _
     obtain ⟨y,mD⟩: ∃y,nl pr j=y:=⟨_,rfl⟩
     rw [mD] at hyl hnx
     have hxi:y<16:=hyl
     have hnext: ∀f' st2,f' 2=P 0 0→f' 5=P 1 0→f' 6=S 2 0 st2.2.length 1→f' 7=I k→f' 36=S 3 0 2 1→f' 37=I 2→f' 38=I j→st2=visit st' y→T 0 eY.r13 R2 f' [some (DC n b w),some (st2.1.map B),some (st2.2.map N8),some (pr.map N8)]:=by
      intro f' st2 g2 g5 g6 g7 BK sW F5 hs2
      refine bH fun Kr hKr=>?_;simp (disch:=omega) only [RA,↓reduceIte,Nat.reduceEqDiff,RD,F5];refine hKr _ _ ?_;clear hKr Kr
      refine gB (2-(j+1)) _ _ _ _ (by omega) Gh.refl ⟨j+1,st2,by omega,rfl,by rw [hnx,hs2],?_,?_,?_,?_,?_,?_,?_,rfl⟩
      any_goals (simp (disch:=omega) only [RA,↓reduceIte,Nat.reduceEqDiff,RD,RE, *]<;>rfl)
     (first|refine bP rfl ?_|refine bQ rfl ?_);(try simp only [RN,reduceIte]);try refine ah rfl ?_
     refine au fun Kr hKr=>?_;simp (disch:=omega) only [RA,↓reduceIte,Nat.reduceEqDiff,RD,BK,F5,hpl,mD];refine hKr _ _ ?_;clear hKr Kr;(try simp only [RN,reduceIte]);try refine ah rfl ?_
     refine au fun Kr hKr=>?_;simp (disch:=omega) only [RA,↓reduceIte,Nat.reduceEqDiff,Nat.reduceBEq,Nat.reduceSub,Nat.reduceAdd,Nat.reduceMul,Nat.reduceLT,Nat.reduceLeDiff,Int.reduceLE,Int.reduceLT,Int.reduceEq,Int.reduceNeg,Int.reduceToNat,Int.reduceMul,Int.reduceAdd,Int.reduceSub,Int.reduceBEq,Int.reduceBNe,reduceCtorEq,RD,g5,qy];refine hKr _ _ ?_;clear hKr Kr;(try simp only [RN,reduceIte]);try refine ah rfl ?_
     refine aX (p:= ¬bl st'.1 y=true) (by simp only [RA,↓reduceIte,Nat.reduceEqDiff,Nat.reduceBEq,Nat.reduceSub,Nat.reduceAdd,Nat.reduceMul,Nat.reduceLT,Nat.reduceLeDiff,Int.reduceLE,Int.reduceLT,Int.reduceEq,Int.reduceNeg,Int.reduceToNat,Int.reduceMul,Int.reduceAdd,Int.reduceSub,Int.reduceBEq,Int.reduceBNe,reduceCtorEq]<;>rfl) (by (try simp only [RB])<;>first|done|exact Iff.rfl|omega|simp) (fun hc=>?_) (fun hc=>?_)<;>(try simp only [RN,reduceIte])<;>(try refine ah rfl ?_)
     ·refine au fun Kr hKr=>?_;simp (disch:=omega) only [RA,↓reduceIte,Nat.reduceEqDiff,Nat.reduceBEq,Nat.reduceSub,Nat.reduceAdd,Nat.reduceMul,Nat.reduceLT,Nat.reduceLeDiff,Int.reduceLE,Int.reduceLT,Int.reduceEq,Int.reduceNeg,Int.reduceToNat,Int.reduceMul,Int.reduceAdd,Int.reduceSub,Int.reduceBEq,Int.reduceBNe,reduceCtorEq,RD,g5,qy];refine hKr _ _ ?_;clear hKr Kr;(try simp only [RN,reduceIte]);try refine ah rfl ?_
      refine au fun Kr hKr=>?_;simp (disch:=omega) only [RA,↓reduceIte,Nat.reduceEqDiff,Nat.reduceBEq,Nat.reduceSub,Nat.reduceAdd,Nat.reduceMul,Nat.reduceLT,Nat.reduceLeDiff,Int.reduceLE,Int.reduceLT,Int.reduceEq,Int.reduceNeg,Int.reduceToNat,Int.reduceMul,Int.reduceAdd,Int.reduceSub,Int.reduceBEq,Int.reduceBNe,reduceCtorEq,RD,g6];refine hKr _ _ ?_;clear hKr Kr;(try simp only [RN,reduceIte]);try refine ah rfl ?_
      refine lI (Gh.nrm [0,1,5,3] rfl rfl (by simp only [RH,o7])) ?_
      refine hnext _ (st'.1.set y true,st'.2++[y]) ?_ ?_ ?_ ?_ ?_ ?_ ?_ ?_
      any_goals (simp (disch:=omega) only [RA,↓reduceIte,Nat.reduceEqDiff,RD,RE, *]<;>rfl)
      rw [visit,if_neg hc]
     ·(try simp only [RN,reduceIte]);try refine ah rfl ?_
      refine hnext _ st' ?_ ?_ ?_ ?_ ?_ ?_ ?_ ?_
      any_goals (simp (disch:=omega) only [RA,↓reduceIte,Nat.reduceEqDiff,RD,RE, *]<;>rfl)
      rw [visit,if_pos (by simpa using hc)]
    ·refine hX2 _ _ ?_
     obtain rfl:j=2:=by omega
     have hst2:st'=bf [b,w] (stA x) (k+1):=by
      rw [hst',bf,hst,if_pos ahC];rfl
     obtain ⟨q,hq⟩:= @uY (nl st.2 k) ([b,w].take 2) st
     have hlq:k+1≤st'.2.length:=by rw [hst',hq];simp;omega
     refine bH fun Kr hKr=>?_;simp (disch:=omega) only [RA,↓reduceIte,Nat.reduceEqDiff,RD,g7];refine hKr _ _ ?_;clear hKr Kr
     refine hN (16-(k+1)) _ _ _ _ (by omega) (Gh.nrm [0,1,2] rfl rfl (by simp only [RH,o7])) ⟨k+1,st',by omega,rfl,hst2,hlq,?_,?_,?_,?_,rfl⟩
     any_goals (simp (disch:=omega) only [RA,↓reduceIte,Nat.reduceEqDiff,RD,RE, *]<;>rfl)
  ·refine hX _ _ ?_
   have hfin:bf [b,w] (stA x) 16=st:=by rw [xR (i:=k) (by rw [hst];omega) 16 hk,hst]
   refine au fun Kr hKr=>?_;simp (disch:=omega) only [RA,↓reduceIte,Nat.reduceEqDiff,Nat.reduceBEq,Nat.reduceSub,Nat.reduceAdd,Nat.reduceMul,Nat.reduceLT,Nat.reduceLeDiff,Int.reduceLE,Int.reduceLT,Int.reduceEq,Int.reduceNeg,Int.reduceToNat,Int.reduceMul,Int.reduceAdd,Int.reduceSub,Int.reduceBEq,Int.reduceBNe,reduceCtorEq,RD,g6];refine hKr _ _ ?_;clear hKr Kr;(try simp only [RN,reduceIte]);try refine ah rfl ?_
   refine aS (by simp (disch:=omega) only [RA,↓reduceIte,Nat.reduceEqDiff,RD,aG,aO,g6];rfl) aC.refl ?_;simp only [aH]
   rw [ord,hfin]
   exact ⟨2,rfl,rfl⟩
theorem ahD {x0:Bool} {n x:Nat} {b w:List Nat} {H:BH} {K:Value→BH→Prop} (hb:By 16 b) (hw:By 16 w) (hd:aZ n b w) (hx:x<n)
  (hK:K (Fz (ord b w x).length 1 ((ord b w x).map N8)) H):aQ x0 MN [DV n b w,I x] H K:=
 uQ (.cons iK (.cons .int .nil)) Bh (by simp) (ahB hb hw hd hx) hK
theorem ahE {l:List Nat} {k:Nat} (hk:k≤16):By 16 (lM l k):=⟨Jj,fun i=>by have:= @afx l k i;omega⟩
theorem Xl {x0:Bool} {n x:Nat} {b w:List Nat} {H:BH} {K:Value→BH→Prop} (hb:By 16 b) (hw:By 16 w) (hd:aZ n b w) (hx:x<n)
  (hK:K (PL (gX b w x)) H):aQ x0 Y8 [DV n b w,I x] H K:=by
 have hlb:=hb.len
 have dI:=hw.len
 have hn:=hd.1.1
 have hol:=rE hd hx
 have hlt: ∀j,j<(ord b w x).length→nl (ord b w x) j<16:=fun j hj=>by
  have:=yg hd hx (j:=j) (by omega)
  omega
 rw [gX] at hK
 refine dR (by exact .cons iK (.cons .int .nil)) ?_
 refine bF aaA ?_;simp only [jv,aI]
 refine au fun Kr hKr=>?_;simp (disch:=omega) only [RA,↓reduceIte,Nat.reduceEqDiff,RD,aF];refine hKr _ _ ?_;clear hKr Kr;(try simp only [RN,reduceIte]);try refine ah rfl ?_
 refine au fun Kr hKr=>?_;simp (disch:=omega) only [RA,↓reduceIte,Nat.reduceEqDiff,RD];refine hKr _ _ ?_;clear hKr Kr;(try simp only [RN,reduceIte]);try refine ah rfl ?_
 refine au fun Kr hKr=>?_;simp (disch:=omega) only [RA,↓reduceIte,Nat.reduceEqDiff,RD,aF,aU]
 refine ahD hb hw hd hx ?_
 generalize ord b w x=l at hol hlt hK
 have qV:l.length≤16:=by omega
 simp (disch:=omega) only [RA,↓reduceIte,Nat.reduceEqDiff,RD]
 refine hKr _ _ ?_;clear hKr Kr;(try simp only [aK,aP,aN]);(try simp only [RN,reduceIte]);try refine ah rfl ?_
 refine bU (fun m f H'=> ∃k,k≤l.length∧m=l.length-k∧f 4=P 1 0∧f 5=P 2 0∧f 11=Fz l.length 1 (l.map N8)∧f 12=I l.length∧f 13=I k∧H'=[some (DC n b w),some (List.replicate 16 (.int .u8 0)),some ((lM l k).map N8)]) (l.length) ?_ ?_
 ·refine ⟨_,_,Gh.refl,0,by omega,by omega,?_,?_,?_,?_,?_,by simp [lM]⟩
  any_goals (simp (disch:=omega) only [RA,↓reduceIte,Nat.reduceEqDiff,RD,RE, *]<;>rfl)
 ·clear hol
  rintro m f H' R ⟨k,hk,rfl,g4,g5,g11,g12,g13,rfl⟩ hN hX hR hE
  simp only [jv.l0,aI]
  have hnl:= @Jj l k
  refine au fun Kr hKr=>?_;simp (disch:=omega) only [RA,↓reduceIte,Nat.reduceEqDiff,RD,g12,g13];refine hKr _ _ ?_;clear hKr Kr;(try simp only [RN,reduceIte]);try refine ah rfl ?_
  refine aX (p:=k<l.length) (by simp only [RA,↓reduceIte,Nat.reduceEqDiff]<;>rfl) (by (try simp only [RB])<;>first|done|exact Iff.rfl|omega|simp) (fun hc=>?_) (fun hc=>?_)<;>(try simp only [RN,reduceIte])<;>(try refine ah rfl ?_)
  ·have h16:=hlt k hc
   (first|refine bP rfl ?_|refine bQ rfl ?_);(try simp only [RN,reduceIte]);try refine ah rfl ?_
   refine au fun Kr hKr=>?_;simp (disch:=omega) only [RA,↓reduceIte,Nat.reduceEqDiff,RD,g11,g13];refine hKr _ _ ?_;clear hKr Kr;(try simp only [RN,reduceIte]);try refine ah rfl ?_
   refine au fun Kr hKr=>?_;simp (disch:=omega) only [RA,↓reduceIte,Nat.reduceEqDiff,RD,g5,hnl];refine hKr _ _ ?_;clear hKr Kr;(try simp only [RN,reduceIte]);try refine ah rfl ?_
   refine bH fun Kr hKr=>?_;simp (disch:=omega) only [RA,↓reduceIte,Nat.reduceEqDiff,RD,g13];refine hKr _ _ ?_;clear hKr Kr
   refine hN (l.length-(k+1)) _ _ _ _ (by omega) Gh.refl ⟨k+1,by omega,rfl,?_,?_,?_,?_,?_,rfl⟩
   any_goals (simp (disch:=omega) only [RA,↓reduceIte,Nat.reduceEqDiff,RD,RE, *]<;>rfl)
  ·refine hX _ _ ?_
   obtain rfl:k=l.length:=by omega
   refine au fun Kr hKr=>?_;simp (disch:=omega) only [RA,↓reduceIte,Nat.reduceEqDiff,RD,g4,g5,hnl];refine hKr _ _ ?_;clear hKr Kr;(try simp only [RN,reduceIte]);try refine ah rfl ?_
   refine aS (by simp (disch:=omega) only [RA,↓reduceIte,Nat.reduceEqDiff,RD,aG,aO,g4,hnl];rfl) aC.refl ?_;simp only [aH]
   exact ⟨kM Bh,hK⟩
theorem J3 {p nm:List Nat} (hl: ∀i,nl nm i<256): ∀{k:Nat},By 16 (dJ p nm k)
 |0=>By.rep
 |k+1=>(J3 hl).set (hl _)
theorem Xm {x0:Bool} {n:Nat} {b w nm:List Nat} {H:BH} {K:Value→BH→Prop} (hb:By 16 b) (hw:By 16 w) (hd:aZ n b w) (hm:By 16 nm) (ahF: ∀i,nl nm i<16)
  (hK:K (DV n (dJ b nm n) (dJ w nm n)) H):aQ x0 Y7 [DV n b w,PL nm] H K:=by
 have hlb:=hb.len
 have dI:=hw.len
 have hlm:=hm.len
 have hz:=ji
 have hn:=hd.1.1
 have hb16:=fun i=>hd.1.kN hlb i
 have hw16:=fun i=>hd.2.1.kN dI i
 refine dR (by exact .cons iK (.cons (kM Bh) .nil)) ?_
 refine bF aaz ?_;simp only [jd,aI]
 refine au fun Kr hKr=>?_;simp (disch:=omega) only [RA,↓reduceIte,Nat.reduceEqDiff,RD,aF];refine hKr _ _ ?_;clear hKr Kr;(try simp only [RN,reduceIte]);try refine ah rfl ?_
 refine au fun Kr hKr=>?_;simp (disch:=omega) only [RA,↓reduceIte,Nat.reduceEqDiff,RD,aF,aU];refine hKr _ _ ?_;clear hKr Kr;(try simp only [RN,reduceIte]);try refine ah rfl ?_
 refine au fun Kr hKr=>?_;simp (disch:=omega) only [RA,↓reduceIte,Nat.reduceEqDiff,RD,aF];refine hKr _ _ ?_;clear hKr Kr;(try simp only [RN,reduceIte]);try refine ah rfl ?_
 refine bU (fun m f H'=> ∃k,k≤n∧m=n-k∧f 2=P 0 0∧f 3=P 1 0∧f 4=P 2 0∧f 5=P 3 0∧f 11=I n∧f 12=I k∧H'=[some (DC n b w),some (nm.map N8),some (DC 0 gu gu),some (DC n (dJ b nm k) (dJ w nm k))]) (n) ?_ ?_
 ·refine ⟨_,_,Gh.refl,0,by omega,by omega,?_,?_,?_,?_,?_,?_,rfl⟩
  any_goals (simp (disch:=omega) only [RA,↓reduceIte,Nat.reduceEqDiff,RD,RE, *]<;>rfl)
 ·rintro m f H' R ⟨k,hk,rfl,g2,g3,g4,g5,g11,g12,rfl⟩ hN hX hR hE
  simp only [jd.l0,aI]
  have hl1:= @o8 b nm k
  have hl2:= @o8 w nm k
  refine au fun Kr hKr=>?_;simp (disch:=omega) only [RA,↓reduceIte,Nat.reduceEqDiff,RD,g11,g12];refine hKr _ _ ?_;clear hKr Kr;(try simp only [RN,reduceIte]);try refine ah rfl ?_
  refine aX (p:=k<n) (by simp only [RA,↓reduceIte,Nat.reduceEqDiff]<;>rfl) (by (try simp only [RB])<;>first|done|exact Iff.rfl|omega|simp) (fun hc=>?_) (fun hc=>?_)<;>(try simp only [RN,reduceIte])<;>(try refine ah rfl ?_)
  ·have h1:=hb16 k
   have h2:=hw16 k
   have h3:=ahF k
   have hl3:((dJ b nm k).set (nl nm k) (nl nm (nl b k))).length=16:=by rw [List.length_set];exact hl1
   (first|refine bP rfl ?_|refine bQ rfl ?_);(try simp only [RN,reduceIte]);try refine ah rfl ?_
   refine au fun Kr hKr=>?_;simp (disch:=omega) only [RA,↓reduceIte,Nat.reduceEqDiff,RD,g12];refine hKr _ _ ?_;clear hKr Kr;(try simp only [RN,reduceIte]);try refine ah rfl ?_
   refine au fun Kr hKr=>?_;simp (disch:=omega) only [RA,↓reduceIte,Nat.reduceEqDiff,RD,g2,g3,g5,aF,aU];refine hKr _ _ ?_;clear hKr Kr;(try simp only [RN,reduceIte]);try refine ah rfl ?_
   refine au fun Kr hKr=>?_;simp (disch:=omega) only [RA,↓reduceIte,Nat.reduceEqDiff,RD,g2,g3,g5,aF,aU];refine hKr _ _ ?_;clear hKr Kr;(try simp only [RN,reduceIte]);try refine ah rfl ?_
   refine bH fun Kr hKr=>?_;simp (disch:=omega) only [RA,↓reduceIte,Nat.reduceEqDiff,RD,g12];refine hKr _ _ ?_;clear hKr Kr
   refine hN (n-(k+1)) _ _ _ _ (by omega) Gh.refl ⟨k+1,by omega,rfl,?_,?_,?_,?_,?_,?_,rfl⟩
   any_goals (simp (disch:=omega) only [RA,↓reduceIte,Nat.reduceEqDiff,RD,RE, *]<;>rfl)
  ·refine hX _ _ ?_
   obtain rfl:k=n:=by omega
   refine au fun Kr hKr=>?_;simp (disch:=omega) only [RA,↓reduceIte,Nat.reduceEqDiff,RD,g4,g5,aF,aU];refine hKr _ _ ?_;clear hKr Kr;(try simp only [RN,reduceIte]);try refine ah rfl ?_
   refine aS (by simp (disch:=omega) only [RA,↓reduceIte,Nat.reduceEqDiff,RD,aG,aO,g4,aF,aU];rfl) aC.refl ?_;simp only [aH]
   exact ⟨iK,hK⟩
def J4 (c:Option (List Value)) (len e b o:Nat) (lo hi:Option Value):Option Value:=
 match c with
 |some cs=>if o+len*e≤cs.length then (kV len lo hi).map fun (l,h)=>S b (o+l*e) (h-l) e else none
 |none=>none
theorem ahG {len e b o:Nat} {H:BH} {lo hi:Option Value}:Ij len e H (P b o) lo hi=J4 (blk H b) len e b o lo hi:=rfl
theorem ahH {cs:List Value} {len e b o:Nat} (h:o+len*e≤cs.length):J4 (some cs) len e b o none none=some (S b o len e):=by
 simp [J4,h,aeg]
theorem Xn {x0:Bool} {p q:List Nat} {H:BH} {K:Value→BH→Prop} (hp:By 16 p) (hq:By 16 q) (hK:K (I (pO p q)) H):aQ x0 Zj [PL p,PL q] H K:=by
 have hlp:=hp.len
 have hlq:=hq.len
 have h1:(p.map N8).length=16:=by simpa using hlp
 have h2:(q.map N8).length=16:=by simpa using hlq
 refine dR (by exact .cons (kM Bh) (.cons (kM Bh) .nil)) ?_
 refine bF aaQ ?_;simp only [uo,aI]
 refine au fun Kr hKr=>?_;simp (disch:=omega) only [RA,↓reduceIte,Nat.reduceEqDiff,RD];refine hKr _ _ ?_;clear hKr Kr;(try simp only [RN,reduceIte]);try refine ah rfl ?_
 refine au fun Kr hKr=>?_;simp (disch:=omega) only [RA,↓reduceIte,Nat.reduceEqDiff,RD,ahG,ahH]
 refine cast (congrArg (fun n:Nat×Nat=>aQ true DU [S 0 0 n.1 1,S 1 0 n.2 1] [some (p.map N8),some (q.map N8)] _) (Prod.ext hlp hlq:(p.length,q.length)=(16,16))) ?_
 refine ahx rfl rfl (by omega) (by omega) ?_
 simp (disch:=omega) only [RA,↓reduceIte,Nat.reduceEqDiff,RD]
 refine hKr _ _ ?_;clear hKr Kr;(try simp only [aK,aP,aN]);(try simp only [RN,reduceIte]);try refine ah rfl ?_
 refine aS (by simp (disch:=omega) only [RA,↓reduceIte,Nat.reduceEqDiff,RD,aG,aO];rfl) aC.refl ?_;simp only [aH]
 exact ⟨.int,hK⟩
def wR (x y:L2):Int:=if pO x.1 y.1=0 then pO x.2 y.2 else pO x.1 y.1
theorem ahI {x y:L2} (h1:By 16 x.1) (h2:By 16 x.2) (h3:By 16 y.1) (h4:By 16 y.2):wR x y<0↔nY x y:=by
 have a:=JZ (by rw [h1.len,h3.len]) h1.mem h3.mem
 have b:=JZ (by rw [h2.len,h4.len]) h2.mem h4.mem
 unfold wR nY
 by_cases e:x.1=y.1
 ·rw [if_pos (a.2.2 e),b.1]
  constructor
  ·intro h;exact .inr ⟨e,h⟩
  ·rintro (h|h)
   ·rw [e] at h;exact absurd h (List.lt_irrefl _)
   ·exact h.2
 ·rw [if_neg (fun h=>e (a.2.1 h)),a.1]
  constructor
  ·intro h;exact .inl h
  ·rintro (h|h)
   ·exact h
   ·exact absurd h.1 e
theorem ahJ {x0:Bool} {n m:Int} {b w b' w':List Nat} {H:BH} {K:Value→BH→Prop} (hb:By 16 b) (hw:By 16 w) (hb':By 16 b') (hw':By 16 w')
  (hK:K (I (wR (b,w) (b',w'))) H):aQ x0 Y9 [DV n b w,DV m b' w'] H K:=by
 have hlb:=hb.len
 have dI:=hw.len
 have I8:=hb'.len
 have I9:=hw'.len
 refine dR (by exact .cons iK (.cons iK .nil)) ?_
 refine bF aaB ?_;simp only [mW,aI]
 refine au fun Kr hKr=>?_;simp (disch:=omega) only [RA,↓reduceIte,Nat.reduceEqDiff,RD,aF];refine hKr _ _ ?_;clear hKr Kr;(try simp only [RN,reduceIte]);try refine ah rfl ?_
 refine au fun Kr hKr=>?_;simp (disch:=omega) only [RA,↓reduceIte,Nat.reduceEqDiff,RD,aF,aU]
 refine Xn hb hb' ?_
 simp (disch:=omega) only [RA,↓reduceIte,Nat.reduceEqDiff,RD]
 refine hKr _ _ ?_;clear hKr Kr;(try simp only [aK,aP,aN]);(try simp only [RN,reduceIte]);try refine ah rfl ?_
 refine au fun Kr hKr=>?_;simp (disch:=omega) only [RA,↓reduceIte,Nat.reduceEqDiff,RD];refine hKr _ _ ?_;clear hKr Kr;(try simp only [RN,reduceIte]);try refine ah rfl ?_
 refine aX (p:= ¬pO b b'=0) (by simp only [RA,↓reduceIte,Nat.reduceEqDiff]<;>rfl) (by (try simp only [RB])<;>first|done|exact Iff.rfl|omega|simp) (fun hc=>?_) (fun hc=>?_)<;>(try simp only [RN,reduceIte])<;>(try refine ah rfl ?_)
 ·refine au fun Kr hKr=>?_;simp (disch:=omega) only [RA,↓reduceIte,Nat.reduceEqDiff,RD];refine hKr _ _ ?_;clear hKr Kr;(try simp only [RN,reduceIte]);try refine ah rfl ?_
  refine aS (by simp (disch:=omega) only [RA,↓reduceIte,Nat.reduceEqDiff,RD,aG,aO];rfl) aC.refl ?_;simp only [aH]
  rw [wR,if_neg hc] at hK
  exact ⟨.int,hK⟩
 ·rw [wR,if_pos (Decidable.not_not.1 hc)] at hK
  refine au fun Kr hKr=>?_;simp (disch:=omega) only [RA,↓reduceIte,Nat.reduceEqDiff,RD,aF,aU]
  refine Xn hw hw' ?_
  simp (disch:=omega) only [RA,↓reduceIte,Nat.reduceEqDiff,RD]
  refine hKr _ _ ?_;clear hKr Kr;(try simp only [aK,aP,aN]);(try simp only [RN,reduceIte]);try refine ah rfl ?_
  refine aS (by simp (disch:=omega) only [RA,↓reduceIte,Nat.reduceEqDiff,RD,aG,aO];rfl) aC.refl ?_;simp only [aH]
  exact ⟨.int,hK⟩
theorem Xo {b w:List Nat} {n x:Nat} (hd:aZ n b w) (hx:x<n):By 16 (gX b w x):=ahE (by rw [rE hd hx];have:=hd.1.1;omega)
theorem J5 {b w:List Nat} {n x:Nat} (hd:aZ n b w) (hx:x<n) (i:Nat):nl (gX b w x) i<16:=by
 rcases Nat.lt_or_ge i n with h|h
 ·have:=(mM hd hx h).2
  have:=hd.1.1
  omega
 ·have hl:=rE hd hx
  have: ∀k,k≤(ord b w x).length→nl (lM (ord b w x) k) i=0:=by
   intro k
   induction k with
   |zero=>intro _;simp only [lM,qw];split<;>rfl
   |succ k ih=>
    intro hk
    rw [lM,jI,if_neg (fun e=>by have:=yg hd hx (j:=k) (by omega);omega),ih (by omega)]
  rw [gX,this _ (Nat.le_refl _)]
  omega
theorem J6 {b w:List Nat} {n x:Nat} (hd:aZ n b w) (hx:x<n):By 16 (fC b w n x).1∧By 16 (fC b w n x).2:=by
 have h:=fun i=>Nat.lt_trans (J5 hd hx i) (show 16<256 by omega)
 exact ⟨J3 h,J3 h⟩
theorem BJ {b w:List Nat} {n k:Nat} (hd:aZ n b w) (hk:k<n):By 16 (lN b w n k).1∧By 16 (lN b w n k).2:=by
 obtain ⟨x,hx,e⟩:= @yj b w n k
 rw [e]
 exact J6 hd (by omega)
theorem JR {x0:Bool} {n:Nat} {b w:List Nat} {H:BH} {K:Value→BH→Prop} (hb:By 16 b) (hw:By 16 w) (hd:aZ n b w)
  (hK:K (DV n (jX b w n).1 (jX b w n).2) H):aQ x0 YT [DV n b w] H K:=by
 have hlb:=hb.len
 have dI:=hw.len
 have hz:=ji
 have hn:=hd.1.1
 refine dR (by exact .cons iK .nil) ?_
 refine bF aaf ?_;simp only [jc,aI]
 refine au fun Kr hKr=>?_;simp (disch:=omega) only [RA,↓reduceIte,Nat.reduceEqDiff,RD,aF];refine hKr _ _ ?_;clear hKr Kr;(try simp only [RN,reduceIte]);try refine ah rfl ?_
 refine au fun Kr hKr=>?_;simp (disch:=omega) only [RA,↓reduceIte,Nat.reduceEqDiff,Nat.reduceAdd,Nat.reduceMul,Int.reduceToNat,Nat.reduceLT,reduceCtorEq,RD,aF,aU]
 have hq0:=J6 (x:=0) hd (by omega)
 have l1:=hq0.1.len
 have l2:=hq0.2.len
 simp only [fC] at l1 l2
 refine Xl (x:=0) hb hw hd (by omega) ?_
 simp (disch:=omega) only [RA,↓reduceIte,Nat.reduceEqDiff,Nat.reduceAdd,Nat.reduceMul,Int.reduceToNat,Nat.reduceLT,reduceCtorEq,RD,aF,aU]
 refine Xm hb hw hd (Xo hd (by omega)) (J5 hd (by omega)) ?_
 simp (disch:=omega) only [RA,↓reduceIte,Nat.reduceEqDiff,Nat.reduceAdd,Nat.reduceMul,Int.reduceToNat,Nat.reduceLT,reduceCtorEq,RD,aF,aU]
 refine hKr _ _ ?_;clear hKr Kr;(try simp only [aK,aP,aN]);(try simp only [RN,reduceIte]);try refine ah rfl ?_
 refine au fun Kr hKr=>?_;simp (disch:=omega) only [RA,↓reduceIte,Nat.reduceEqDiff,RD];refine hKr _ _ ?_;clear hKr Kr;(try simp only [RN,reduceIte]);try refine ah rfl ?_
 clear l1 l2
 refine bU (fun m f H'=> ∃k r,k+1≤n∧m=n-(k+1)∧r=lN b w n k∧f 1=P 0 0∧f 2=P 1 0∧f 3=P 2 0∧f 4=I ((k+1:Nat):Int)∧H'=[some (DC n b w),some (DC 0 gu gu),some (DC n r.1 r.2)]) (n-1) ?_ ?_
 ·refine ⟨_,_,Gh.refl,0,fC b w n 0,by omega,by omega,rfl,?_,?_,?_,?_,rfl⟩
  any_goals (simp (disch:=omega) only [RA,↓reduceIte,Nat.reduceEqDiff,RD,RE, *]<;>rfl)
 ·rintro m f H' R ⟨k,r,hk,rfl,hr,g1,g2,g3,g4,rfl⟩ hN hX hR hE
  simp only [jc.l0,aI]
  have hrb:=BJ (k:=k) hd (by omega)
  rw [←hr] at hrb
  have l1:=hrb.1.len
  have l2:=hrb.2.len
  refine au fun Kr hKr=>?_;simp (disch:=omega) only [RA,↓reduceIte,Nat.reduceEqDiff,RD,g1,g4,aF];refine hKr _ _ ?_;clear hKr Kr;(try simp only [RN,reduceIte]);try refine ah rfl ?_
  refine aX (p:=k+1<n) (by simp only [RA,↓reduceIte,Nat.reduceEqDiff]<;>rfl) (by (try simp only [RB])<;>first|done|exact Iff.rfl|omega|simp) (fun hc=>?_) (fun hc=>?_)<;>(try simp only [RN,reduceIte])<;>(try refine ah rfl ?_)
  ·have hq:=J6 hd hc
   have l3:=hq.1.len
   have l4:=hq.2.len
   simp only [fC] at l3 l4
   have e1:((k+1:Nat):Int)+1=((k+1+1:Nat):Int):=by omega
   (first|refine bP rfl ?_|refine bQ rfl ?_);(try simp only [RN,reduceIte]);try refine ah rfl ?_
   refine au fun Kr hKr=>?_;simp (disch:=omega) only [RA,↓reduceIte,Nat.reduceEqDiff,Nat.reduceAdd,Nat.reduceMul,Int.reduceToNat,Nat.reduceLT,reduceCtorEq,RD,g1,g4,aF,aU]
   refine Xl hb hw hd hc ?_
   simp (disch:=omega) only [RA,↓reduceIte,Nat.reduceEqDiff,Nat.reduceAdd,Nat.reduceMul,Int.reduceToNat,Nat.reduceLT,reduceCtorEq,RD,g1,g4,aF,aU]
   refine Xm hb hw hd (Xo hd hc) (J5 hd hc) ?_
   simp (disch:=omega) only [RA,↓reduceIte,Nat.reduceEqDiff,Nat.reduceAdd,Nat.reduceMul,Int.reduceToNat,Nat.reduceLT,reduceCtorEq,RD,g1,g4,aF,aU]
   refine hKr _ _ ?_;clear hKr Kr;(try simp only [aK,aP,aN]);(try simp only [RN,reduceIte]);try refine ah rfl ?_
   refine au fun Kr hKr=>?_;simp (disch:=omega) only [RA,↓reduceIte,Nat.reduceEqDiff,RD,g3,aF,aU]
   refine ahJ hq.1 hq.2 hrb.1 hrb.2 ?_
   simp (disch:=omega) only [RA,↓reduceIte,Nat.reduceEqDiff,RD]
   refine hKr _ _ ?_;clear hKr Kr;(try simp only [aK,aP,aN]);(try simp only [RN,reduceIte]);try refine ah rfl ?_
   have hlt:=ahI (x:=fC b w n (k+1)) (y:=r) hq.1 hq.2 hrb.1 hrb.2
   have hlt':wR (dJ b (gX b w (k+1)) n,dJ w (gX b w (k+1)) n) (r.1,r.2)<0↔nY (fC b w n (k+1)) r:=hlt
   refine aX (p:=wR (dJ b (gX b w (k+1)) n,dJ w (gX b w (k+1)) n) (r.1,r.2)<0) (by simp only [RA,↓reduceIte,Nat.reduceEqDiff]<;>rfl) (by (try simp only [RB])<;>first|done|exact Iff.rfl|omega|simp) (fun hc=>?_) (fun hc=>?_)<;>(try simp only [RN,reduceIte])<;>(try refine ah rfl ?_)
   ·refine au fun Kr hKr=>?_;simp (disch:=omega) only [RA,↓reduceIte,Nat.reduceEqDiff,RD,g3,aF,aU];refine hKr _ _ ?_;clear hKr Kr;(try simp only [RN,reduceIte]);try refine ah rfl ?_
    refine bH fun Kr hKr=>?_;simp (disch:=omega) only [RA,↓reduceIte,Nat.reduceEqDiff,RD,g4,e1];refine hKr _ _ ?_;clear hKr Kr
    refine hN (n-(k+1+1)) _ _ _ _ (by omega) (Gh.nrm [0,1,2] rfl rfl (by simp only [RH,o7])) ⟨k+1,fC b w n (k+1),by omega,rfl,?_,?_,?_,?_,?_,rfl⟩
    any_goals (simp (disch:=omega) only [RA,↓reduceIte,Nat.reduceEqDiff,RD,RE, *]<;>rfl)
    rw [lN,←hr,if_pos (hlt'.1 hc)]
   ·(try simp only [RN,reduceIte]);try refine ah rfl ?_
    refine bH fun Kr hKr=>?_;simp (disch:=omega) only [RA,↓reduceIte,Nat.reduceEqDiff,RD,g4,e1];refine hKr _ _ ?_;clear hKr Kr
    refine hN (n-(k+1+1)) _ _ _ _ (by omega) (Gh.nrm [0,1,2] rfl rfl (by simp only [RH,o7])) ⟨k+1,r,by omega,rfl,?_,?_,?_,?_,?_,rfl⟩
    any_goals (simp (disch:=omega) only [RA,↓reduceIte,Nat.reduceEqDiff,RD,RE, *]<;>rfl)
    rw [lN,←hr,if_neg (fun h=>hc (hlt'.2 h))]
  ·refine hX _ _ ?_
   obtain rfl:k=n-1:=by omega
   rw [jX,←hr] at hK
   refine au fun Kr hKr=>?_;simp (disch:=omega) only [RA,↓reduceIte,Nat.reduceEqDiff,RD,g2,g3,aF,aU];refine hKr _ _ ?_;clear hKr Kr;(try simp only [RN,reduceIte]);try refine ah rfl ?_
   refine aS (by simp (disch:=omega) only [RA,↓reduceIte,Nat.reduceEqDiff,RD,aG,aO,g2,aF,aU];rfl) aC.refl ?_;simp only [aH]
   exact ⟨iK,hK⟩
end Go.Bm
namespace Go.Bm
open Go Go.Am
theorem Xp: ∀{p q:List Nat},p.length=q.length→fH (p.map N8) (q.map N8)=some (decide (p=q))
 |[],[],_=>rfl
 |[],_::_,h=>by simp at h
 | _::_,[],h=>by simp at h
 |a::p,b::q,h=>by
  have ih:=Xp (p:=p) (q:=q) (by simpa using h)
  simp only [List.map_cons,fH,pV,if_true,ih,Option.map_some,Option.some.injEq]
  by_cases e:a=b
  ·subst e;simp
  ·have: ¬((a:Int)=(b:Int)):=by omega
   simp [e,this]
end Go.Bm
namespace Go.Bm
open Go Go.Am
abbrev FC (n:Int) (c t s:List Nat):List Value:=I n::(c.map N8++(t.map N8++s.map N8))
abbrev FV (n:Int) (c t s:List Nat):Value:=bJ (FC n c t s)
def z32:List Nat:=List.replicate 32 0
theorem sZ:By 32 z32:=By.rep
theorem EN:z32.length=32:=by simp [z32]
theorem Xq:(Value.int .i64 0::List.replicate 96 (Value.int .u8 0))=FC 0 z32 z32 z32:=by rfl
theorem Xr {b w p:List Nat}:(b.map N8++(w.map N8++p.map N8)).all Am.plain=true:=by rw [List.all_append,List.all_append,su,su,su];rfl
theorem ahK {n:Int} {c t s:List Nat}:(FC n c t s).all iE=true:=by
 simp only [FC,List.all_cons,List.all_append,Bool.and_eq_true]
 exact ⟨rfl,mg,mg,mg⟩
theorem ahL {n:Int} {c t s:List Nat}:aW (FC n c t s):= .cons .int (.append (.map fun _=> .int) (.append (.map fun _=> .int) (.map fun _=> .int)))
theorem J7 {n:Int} {c t s:List Nat}:NN (bJ (FC n c t s)):=NN.agg ahL
section
variable {H:BH} {i:Nat} {n m:Int} {c t s p c' t' s':List Nat}
theorem BL (hc:c.length=32) (ht:t.length=32) (hs:s.length=32):(FC n c t s).length=97:=by simp [hc,ht,hs]
theorem Xt:aY none (FC n c t s) 0=some (I n):=rfl
theorem Xu (hc:c.length=32):aY (some 32) (FC n c t s) 1=some (PL c):=by
 have:=AQ (g:=N8) (x:=c) (pre:=[I n]) (post:=t.map N8++s.map N8)
 rw [hc] at this
 exact this
theorem Xv (hc:c.length=32) (ht:t.length=32):aY (some 32) (FC n c t s) 33=some (PL t):=by
 have:=AQ (g:=N8) (x:=t) (pre:=I n::c.map N8) (post:=s.map N8)
 rw [ht] at this
 simpa [hc] using this
theorem Xw (hc:c.length=32) (ht:t.length=32) (hs:s.length=32):aY (some 32) (FC n c t s) 65=some (PL s):=by
 have:=AQ (g:=N8) (x:=s) (pre:=I n::(c.map N8++t.map N8)) (post:=[])
 rw [hs] at this
 simpa [hc,ht] using this
theorem Xx {k:Nat} (h:k<c.length):aY none (FC n c t s) (1+k)=some (N8 (nl c k)):=AU (g:=N8) (x:=c) (k:=k) (d:=0) (pre:=[I n]) (post:=t.map N8++s.map N8) h
theorem Xy {k:Nat} (hc:c.length=32) (h:k<t.length):aY none (FC n c t s) (33+k)=some (N8 (nl t k)):=by
 have:=AU (g:=N8) (x:=t) (k:=k) (d:=0) (pre:=I n::c.map N8) (post:=s.map N8) h
 simp only [List.length_cons,List.length_map,hc,List.cons_append] at this
 exact this
theorem Xz {k:Nat} (hc:c.length=32) (ht:t.length=32) (h:k<s.length):aY none (FC n c t s) (65+k)=some (N8 (nl s k)):=by
 have:=AU (g:=N8) (x:=s) (k:=k) (d:=0) (pre:=I n::(c.map N8++t.map N8)) (post:=[]) h
 simp only [List.length_cons,List.length_append,List.length_map,hc,ht,List.cons_append,List.append_nil,List.append_assoc] at this
 exact this
theorem XA (hc:c.length=32) (ht:t.length=32) (hs:s.length=32):aY (some 97) (FC n c t s) 0=some (bJ (FC n c t s)):=Uz (BL hc ht hs)
theorem XB (hc:c.length=32) (ht:t.length=32) (hs:s.length=32) (hc':c'.length=32) (ht':t'.length=32) (hs':s'.length=32):dP (some (FC n c t s)) H i 0 97 (bJ (FC m c' t' s'))=some (undef,H.set i (some (FC m c' t' s'))):=by
 rw [nG (BL hc' ht' hs') ahK (by rw [BL hc ht hs];omega),uO (by rw [BL hc ht hs,BL hc' ht' hs'])]
theorem XC:dP (some (FC n c t s)) H i 0 1 (.int .i64 m)=some (undef,H.set i (some (FC m c t s))):=by
 rw [qM (by simp),xJ]
theorem XD (hc:c.length=32) (hp:p.length=32):dP (some (FC n c t s)) H i 1 32 (bJ (p.map N8))=some (undef,H.set i (some (FC n p t s))):=by
 rw [nG (by simpa using hp) mg (by simp [hc])]
 have:splice (FC n c t s) 1 (p.map N8)=FC n p t s:=uZ (g:=N8) (x:=c) (y:=p) (pre:=[I n]) (post:=t.map N8++s.map N8) (by omega)
 rw [this]
theorem XE (hc:c.length=32) (ht:t.length=32) (hp:p.length=32):dP (some (FC n c t s)) H i 33 32 (bJ (p.map N8))=some (undef,H.set i (some (FC n c p s))):=by
 rw [nG (by simpa using hp) mg (by simp [hc,ht];omega)]
 have:=uZ (g:=N8) (x:=t) (y:=p) (pre:=I n::c.map N8) (post:=s.map N8) (by omega)
 simp only [List.length_cons,List.length_map,hc,List.cons_append] at this
 rw [show splice (FC n c t s) 33 (p.map N8)=FC n c p s from this]
theorem XF (hc:c.length=32) (ht:t.length=32) (hs:s.length=32) (hp:p.length=32):dP (some (FC n c t s)) H i 65 32 (bJ (p.map N8))=some (undef,H.set i (some (FC n c t p))):=by
 rw [nG (by simpa using hp) mg (by simp [hc,ht,hs])]
 have:=uZ (g:=N8) (x:=s) (y:=p) (pre:=I n::(c.map N8++t.map N8)) (post:=[]) (by omega)
 simp only [List.length_cons,List.length_append,List.length_map,hc,ht,List.cons_append,List.append_nil,List.append_assoc] at this
 rw [show splice (FC n c t s) 65 (p.map N8)=FC n c t p from this]
theorem XG {k x:Nat} (h:k<c.length):dP (some (FC n c t s)) H i (1+k) 1 (.int .u8 (x:Int))=some (undef,H.set i (some (FC n (c.set k x) t s))):=by
 rw [qM (by simp;omega)]
 have:splice (FC n c t s) (1+k) [N8 x]=FC n (c.set k x) t s:=AP (g:=N8) (x:=c) (y:=x) (k:=k) (pre:=[I n]) (post:=t.map N8++s.map N8) h
 rw [this]
theorem XH {k x:Nat} (hc:c.length=32) (h:k<t.length):dP (some (FC n c t s)) H i (33+k) 1 (.int .u8 (x:Int))=some (undef,H.set i (some (FC n c (t.set k x) s))):=by
 rw [qM (by simp;omega)]
 have:=AP (g:=N8) (x:=t) (y:=x) (k:=k) (pre:=I n::c.map N8) (post:=s.map N8) h
 simp only [List.length_cons,List.length_map,hc,List.cons_append] at this
 rw [show splice (FC n c t s) (33+k) [N8 x]=FC n c (t.set k x) s from this]
theorem XI {k x:Nat} (hc:c.length=32) (ht:t.length=32) (h:k<s.length):dP (some (FC n c t s)) H i (65+k) 1 (.int .u8 (x:Int))=some (undef,H.set i (some (FC n c t (s.set k x)))):=by
 rw [qM (by simp;omega)]
 have:=AP (g:=N8) (x:=s) (y:=x) (k:=k) (pre:=I n::(c.map N8++t.map N8)) (post:=[]) h
 simp only [List.length_cons,List.length_append,List.length_map,hc,ht,List.cons_append,List.append_nil,List.append_assoc] at this
 rw [show splice (FC n c t s) (65+k) [N8 x]=FC n c t (s.set k x) from this]
theorem XJ:bK (FC n c t s) [(0,1, .int .i64 m)]=some (FC m c t s):=by
 simp [bK,dL,splice]
end
theorem gJ:(type_of% @Xq)∧(type_of% @Xr)∧(type_of% @su)∧(type_of% @EN)∧(type_of% @XC)∧(type_of% @Xt)∧(type_of% @XJ):=⟨@Xq, @Xr, @su, @EN, @XC, @Xt, @XJ⟩
theorem jT:(type_of% @XB)∧(type_of% @XD)∧(type_of% @XE)∧(type_of% @XF)∧(type_of% @XG)∧(type_of% @XH)∧(type_of% @XI)∧(type_of% @Xu)∧(type_of% @Xv)∧(type_of% @Xw)∧(type_of% @Xx)∧(type_of% @Xy)∧(type_of% @Xz)∧(type_of% @XA):=⟨@XB, @XD, @XE, @XF, @XG, @XH, @XI, @Xu, @Xv, @Xw, @Xx, @Xy, @Xz, @XA⟩
def yO (l:List Nat) (n:Int) (x:Nat):Prop:=(n≤(x:Int)→nl l x=0)∧((x:Int)<n→(nl l x:Int)<n∧nl l x≠x∧nl l (nl l x)=x)
instance (l:List Nat) (n:Int) (x:Nat):Decidable (yO l n x):=by unfold yO;infer_instance
def Pairs (l:List Nat) (n:Int):Prop:= ∀x,x<32→yO l n x
instance (l:List Nat) (n:Int):Decidable (Pairs l n):=by unfold Pairs;infer_instance
end Go.Bm
namespace Go.Bm
open Go Go.Am
theorem J8 {n:Int} {c t s:List Nat} {k:IntKind} {a:Int}:NN (.tuple ⟨[bJ (FC n c t s), .int k a]⟩):=NN.tuple (aW.cons J7 (aW.cons NN.int aW.nil))
end Go.Bm
namespace Go.Bm
open Go Go.Am
abbrev L3:=List Nat×List Nat×List Nat
def qB (w:List Nat) (x:Nat) (cs:List Nat×List Nat):Nat→List Nat×List Nat
 |0=>cs
 |j+1=>((qB w x cs j).1.set (2*x+j) (2*nl w x+(1-j)),(qB w x cs j).2.set (2*x+j) (2*x+1-j))
def dV (b w:List Nat):Nat→L3
 |0=>(z32,z32,z32)
 |x+1=>((qB w x ((dV b w x).1,(dV b w x).2.2) 2).1,((dV b w x).2.1.set (2*x+1) (2*nl b x)).set (2*nl b x) (2*x+1),(qB w x ((dV b w x).1,(dV b w x).2.2) 2).2)
theorem XK {w:List Nat} {x j:Nat} {cs:List Nat×List Nat} (hw: ∀i,nl w i<16) (hx:x<16) (hc:By 32 cs.1∧By 32 cs.2):By 32 (qB w x cs j).1∧By 32 (qB w x cs j).2:=by
 induction j with
 |zero=>exact hc
 |succ j ih=>
  have:=hw x
  exact ⟨ih.1.set (by omega),ih.2.set (by omega)⟩
theorem J9 {b w:List Nat} (hb: ∀i,nl b i<16) (hw: ∀i,nl w i<16): ∀{x:Nat},x≤16→By 32 (dV b w x).1∧By 32 (dV b w x).2.1∧By 32 (dV b w x).2.2
 |0,_=>⟨sZ,sZ,sZ⟩
 |x+1,hx=>by
  obtain ⟨h1,h2,h3⟩:=J9 hb hw (x:=x) (by omega)
  have:=hb x
  have hi:=XK (j:=2) (cs:=((dV b w x).1,(dV b w x).2.2)) hw (show x<16 by omega) ⟨h1,h3⟩
  exact ⟨hi.1,(h2.set (by omega)).set (by omega),hi.2⟩
def nX (n:Int) (b w:List Nat):(Int×L3)×Int:=
 if¬aZ n b w then ((0,z32,z32,z32),1) else if¬Clean w n.toNat then ((0,z32,z32,z32),5) else ((2*n,dV b w n.toNat),0)
theorem afd {n:Int} {b w:List Nat} (hb:By 16 b) (hw:By 16 w):By 32 (nX n b w).1.2.1∧By 32 (nX n b w).1.2.2.1∧By 32 (nX n b w).1.2.2.2:=by
 unfold nX
 split
 ·exact ⟨sZ,sZ,sZ⟩
 ·split
  ·exact ⟨sZ,sZ,sZ⟩
  ·rename_i hd _
   have hd:=Decidable.not_not.1 hd
   have hn:=hd.1.1
   exact J9 (fun i=>hd.1.qW hb.len i) (fun i=>hd.2.1.qW hw.len i) (by omega)
theorem aff {x:Bool} {n:Int} {b w:List Nat} {H:BH} {K:Value→BH→Prop} (hb:By 16 b) (hw:By 16 w)
  (hK:K (.tuple ⟨[FV (nX n b w).1.1 (nX n b w).1.2.1 (nX n b w).1.2.2.1 (nX n b w).1.2.2.2,I (nX n b w).2]⟩) H):aQ x YN [DV n b w] H K:=by
 have hlb:=hb.len
 have dI:=hw.len
 have hz:=EN
 refine dR (by exact .cons iK .nil) ?_
 refine bF ZY ?_;simp only [dO,aI]
 refine au fun Kr hKr=>?_;simp (disch:=omega) only [RA,↓reduceIte,Nat.reduceEqDiff,RD,aF,gJ];refine hKr _ _ ?_;clear hKr Kr;(try simp only [RN,reduceIte]);try refine ah rfl ?_
 refine lV (ou ?_);(try simp only [RN,reduceIte]);try refine ah rfl ?_
 refine au fun Kr hKr=>?_;simp (disch:=omega) only [RA,↓reduceIte,Nat.reduceEqDiff,RD,aF,aU]
 refine oZ hb hw ?_
 simp (disch:=omega) only [RA,↓reduceIte,Nat.reduceEqDiff,RD]
 refine hKr _ _ ?_;clear hKr Kr;(try simp only [aK,aP,aN]);(try simp only [RN,reduceIte]);try refine ah rfl ?_
 refine qN (p:= ¬aZ n b w) (by simp only [RA,↓reduceIte,Nat.reduceEqDiff]<;>rfl) (by (try simp only [RB])<;>first|done|exact Iff.rfl|omega|simp) (fun hc=>?_) (fun hc=>?_)<;>(try simp only [RN,reduceIte])<;>(try refine ah rfl ?_)
 ·refine au fun Kr hKr=>?_;simp (disch:=omega) only [RA,↓reduceIte,Nat.reduceEqDiff,RD,gJ,jT];refine hKr _ _ ?_;clear hKr Kr;(try simp only [RN,reduceIte]);try refine ah rfl ?_
  simp only [aK,aP,aN,if_true]
  refine aS (by simp (disch:=omega) only [RA,↓reduceIte,Nat.reduceEqDiff,RD,aG,aO,gJ,jT];rfl) aC.refl ?_;simp only [aH]
  rw [nX,if_pos hc] at hK
  exact ⟨J8,hK⟩
 have hd:=Decidable.not_not.1 hc
 rw [nX,if_neg hc] at hK
 obtain ⟨n,rfl,hm1,hm2⟩:=hd.n0
 rw [Int.toNat_natCast] at hK
 clear hc
 refine au fun Kr hKr=>?_;simp (disch:=omega) only [RA,↓reduceIte,Nat.reduceEqDiff,RD,aF,aU]
 refine aht hb hw hd.2.1 ?_
 simp (disch:=omega) only [RA,↓reduceIte,Nat.reduceEqDiff,RD]
 refine hKr _ _ ?_;clear hKr Kr;(try simp only [aK,aP,aN]);(try simp only [RN,reduceIte]);try refine ah rfl ?_
 refine qN (p:= ¬Clean w n) (by simp only [RA,↓reduceIte,Nat.reduceEqDiff]<;>rfl) (by (try simp only [RB])<;>first|done|exact Iff.rfl|omega|simp) (fun hc=>?_) (fun hc=>?_)<;>(try simp only [RN,reduceIte])<;>(try refine ah rfl ?_)
 ·refine au fun Kr hKr=>?_;simp (disch:=omega) only [RA,↓reduceIte,Nat.reduceEqDiff,RD,gJ,jT];refine hKr _ _ ?_;clear hKr Kr;(try simp only [RN,reduceIte]);try refine ah rfl ?_
  simp only [aK,aP,aN,if_true]
  refine aS (by simp (disch:=omega) only [RA,↓reduceIte,Nat.reduceEqDiff,RD,aG,aO,gJ,jT];rfl) aC.refl ?_;simp only [aH]
  rw [if_pos hc] at hK
  exact ⟨J8,hK⟩
 rw [if_neg hc] at hK
 clear hc
 simp only [aK,aP,aN,if_true]
 have hb16:=fun i=>hd.1.kN hlb i
 have hw16:=fun i=>hd.2.1.kN dI i
 have e2:2*(n:Int)=((2*n:Nat):Int):=by omega
 rw [e2] at hK
 refine au fun Kr hKr=>?_;simp (disch:=omega) only [RA,↓reduceIte,Nat.reduceEqDiff,Nat.reduceAdd,RD,aF,gJ,jT,e2];refine hKr _ _ ?_;clear hKr Kr;(try simp only [RN,reduceIte]);try refine ah rfl ?_
 refine au fun Kr hKr=>?_;simp (disch:=omega) only [RA,↓reduceIte,Nat.reduceEqDiff,RD,aF];refine hKr _ _ ?_;clear hKr Kr;(try simp only [RN,reduceIte]);try refine ah rfl ?_
 refine bU (fun m f H'=> ∃i r,i≤n∧m=n-i∧r=dV b w i∧f 1=P 0 0∧f 2=P 1 0∧f 4=P 2 0∧f 23=I n∧f 24=I i∧H'=[some (DC n b w),some (FC 0 z32 z32 z32),some (FC ((2*n:Nat):Int) r.1 r.2.1 r.2.2)]) (n) ?_ ?_
 ·refine ⟨_,_,Gh.refl,0,(z32,z32,z32),by omega,by omega,rfl,?_,?_,?_,?_,?_,rfl⟩
  any_goals (simp (disch:=omega) only [RA,↓reduceIte,Nat.reduceEqDiff,RD,RE, *]<;>rfl)
 ·rintro m f H' R ⟨i,r,hi,rfl,hr,g1,g2,g3,g23,g24,rfl⟩ hN hX hR hE
  simp only [dO.l1,aI]
  obtain ⟨q1,q2,q3⟩:=J9 hb16 hw16 (x:=i) (by omega)
  rw [←hr] at q1 q2 q3
  have l1:=q1.len
  have l2:=q2.len
  have l3:=q3.len
  refine au fun Kr hKr=>?_;simp (disch:=omega) only [RA,↓reduceIte,Nat.reduceEqDiff,RD,g23,g24];refine hKr _ _ ?_;clear hKr Kr;(try simp only [RN,reduceIte]);try refine ah rfl ?_
  refine aX (p:=i<n) (by simp only [RA,↓reduceIte,Nat.reduceEqDiff]<;>rfl) (by (try simp only [RB])<;>first|done|exact Iff.rfl|omega|simp) (fun hc=>?_) (fun hc=>?_)<;>(try simp only [RN,reduceIte])<;>(try refine ah rfl ?_)
  ·have hin:i<n:=by assumption
   have hwi:=hw16 i
   have hbi:=hb16 i
   (first|refine bP rfl ?_|refine bQ rfl ?_);(try simp only [RN,reduceIte]);try refine ah rfl ?_
   refine au fun Kr hKr=>?_;simp (disch:=omega) only [RA,↓reduceIte,Nat.reduceEqDiff,RD,g24];refine hKr _ _ ?_;clear hKr Kr;(try simp only [RN,reduceIte]);try refine ah rfl ?_
   refine au fun Kr hKr=>?_;simp (disch:=omega) only [RA,↓reduceIte,Nat.reduceEqDiff,RD];refine hKr _ _ ?_;clear hKr Kr;(try simp only [RN,reduceIte]);try refine ah rfl ?_
   refine bU (fun m f H'=> ∃j q,j≤2∧m=2-j∧q=qB w i (r.1,r.2.2) j∧f 1=P 0 0∧f 2=P 1 0∧f 4=P 2 0∧f 5=I i∧f 23=I n∧f 24=I i∧f 27=I j∧H'=[some (DC n b w),some (FC 0 z32 z32 z32),some (FC ((2*n:Nat):Int) q.1 r.2.1 q.2)]) (2) ?_ ?_
   ·refine ⟨_,_,Gh.refl,0,(r.1,r.2.2),by omega,by omega,rfl,?_,?_,?_,?_,?_,?_,?_,rfl⟩
    any_goals (simp (disch:=omega) only [RA,↓reduceIte,Nat.reduceEqDiff,RD,RE, *]<;>rfl)
   ·clear g1 g2 g3 g23 g24
    rintro m f H' R1 ⟨j,q,hj,rfl,hq,g1,g2,g3,g4,g23,g24,g5,rfl⟩ hN1 hX1 hR1 hE1
    simp only [dO.l0,aI]
    have Ko:=XK (w:=w) (x:=i) (j:=j) (cs:=(r.1,r.2.2)) hw16 (by omega) ⟨q1,q3⟩
    rw [←hq] at Ko
    have m1:=Ko.1.len
    have m3:=Ko.2.len
    refine au fun Kr hKr=>?_;simp (disch:=omega) only [RA,↓reduceIte,Nat.reduceEqDiff,RD,g5];refine hKr _ _ ?_;clear hKr Kr;(try simp only [RN,reduceIte]);try refine ah rfl ?_
    refine aX (p:=j<2) (by simp only [RA,↓reduceIte,Nat.reduceEqDiff]<;>rfl) (by (try simp only [RB])<;>first|done|exact Iff.rfl|omega|simp) (fun hc=>?_) (fun hc=>?_)<;>(try simp only [RN,reduceIte])<;>(try refine ah rfl ?_)
    ·have e3:2*(i:Int)+(j:Int)=((2*i+j:Nat):Int):=by omega
     have e4:2*(nl w i:Int)+(1-(j:Int))=((2*nl w i+(1-j):Nat):Int):=by omega
     have e5:2*(i:Int)+1-(j:Int)=((2*i+1-j:Nat):Int):=by omega
     have e6:(q.1.set (2*i+j) (2*nl w i+(1-j))).length=32:=by rw [List.length_set];exact m1
     (first|refine bP rfl ?_|refine bQ rfl ?_);(try simp only [RN,reduceIte]);try refine ah rfl ?_
     refine au fun Kr hKr=>?_;simp (disch:=omega) only [RA,↓reduceIte,Nat.reduceEqDiff,RD,g5];refine hKr _ _ ?_;clear hKr Kr;(try simp only [RN,reduceIte]);try refine ah rfl ?_
     refine au fun Kr hKr=>?_;simp (disch:=omega) only [RA,↓reduceIte,Nat.reduceEqDiff,RD,g1,g3,g4,aF,aU,gJ,jT,e3,e4];refine hKr _ _ ?_;clear hKr Kr;(try simp only [RN,reduceIte]);try refine ah rfl ?_
     refine au fun Kr hKr=>?_;simp (disch:=omega) only [RA,↓reduceIte,Nat.reduceEqDiff,RD,g1,g3,g4,aF,aU,gJ,jT,e3,e5];refine hKr _ _ ?_;clear hKr Kr;(try simp only [RN,reduceIte]);try refine ah rfl ?_
     refine bH fun Kr hKr=>?_;simp (disch:=omega) only [RA,↓reduceIte,Nat.reduceEqDiff,RD,g5];refine hKr _ _ ?_;clear hKr Kr
     refine hN1 (2-(j+1)) _ _ _ _ (by omega) Gh.refl ⟨j+1,qB w i (r.1,r.2.2) (j+1),by omega,rfl,rfl,?_,?_,?_,?_,?_,?_,?_,?_⟩
     any_goals (simp (disch:=omega) only [RA,↓reduceIte,Nat.reduceEqDiff,RD,RE, *]<;>rfl)
     all_goals rw [qB,←hq]
    ·refine hX1 _ _ ?_
     obtain rfl:j=2:=by omega
     have e3:2*(i:Int)+1=((2*i+1:Nat):Int):=by omega
     have e4:2*(nl b i:Int)=((2*nl b i:Nat):Int):=by omega
     have e7:(r.2.1.set (2*i+1) (2*nl b i)).length=32:=by rw [List.length_set];exact l2
     (try simp only [RN,reduceIte]);try refine ah rfl ?_
     refine au fun Kr hKr=>?_;simp (disch:=omega) only [RA,↓reduceIte,Nat.reduceEqDiff,RD,g1,g3,g4,aF,aU,gJ,jT,e3,e4];refine hKr _ _ ?_;clear hKr Kr;(try simp only [RN,reduceIte]);try refine ah rfl ?_
     refine au fun Kr hKr=>?_;simp (disch:=omega) only [RA,↓reduceIte,Nat.reduceEqDiff,RD,g1,g3,g4,aF,aU,gJ,jT,e3,e4];refine hKr _ _ ?_;clear hKr Kr;(try simp only [RN,reduceIte]);try refine ah rfl ?_
     refine au fun Kr hKr=>?_;simp (disch:=omega) only [RA,↓reduceIte,Nat.reduceEqDiff,RD,g1,g3,g4,aF,aU,gJ,jT,e3,e4];refine hKr _ _ ?_;clear hKr Kr;(try simp only [RN,reduceIte]);try refine ah rfl ?_
     refine bH fun Kr hKr=>?_;simp (disch:=omega) only [RA,↓reduceIte,Nat.reduceEqDiff,RD,g24];refine hKr _ _ ?_;clear hKr Kr
     refine hN (n-(i+1)) _ _ _ _ (by omega) Gh.refl ⟨i+1,dV b w (i+1),by omega,rfl,rfl,?_,?_,?_,?_,?_,?_⟩
     any_goals (simp (disch:=omega) only [RA,↓reduceIte,Nat.reduceEqDiff,RD,RE, *]<;>rfl)
     all_goals rw [dV,←hr,←hq]
  ·refine hX _ _ ?_
   obtain rfl:i=n:=by omega
   rw [←hr] at hK
   refine au fun Kr hKr=>?_;simp (disch:=omega) only [RA,↓reduceIte,Nat.reduceEqDiff,RD,g2,g3,gJ,jT];refine hKr _ _ ?_;clear hKr Kr;(try simp only [RN,reduceIte]);try refine ah rfl ?_
   refine aS (by simp (disch:=omega) only [RA,↓reduceIte,Nat.reduceEqDiff,RD,aG,aO,g2,gJ,jT];rfl) aC.refl ?_;simp only [aH]
   exact ⟨J8,hK⟩
end Go.Bm
namespace Go.Bm
open Go Go.Am
theorem Jb {neg:Bool} {n m:Int} {b w b' w':List Nat} (hb:b.length=16) (hw:w.length=16) (hb':b'.length=16) (hw':w'.length=16):
  Eh neg 33 (bJ (DC n b w)) (bJ (DC m b' w'))=some (.bool (if neg then !decide (n=m∧(b,w)=(b',w')) else decide (n=m∧(b,w)=(b',w')))):=by
 have e1:fH ((b++w).map N8) ((b'++w').map N8)=some (decide (b++w=b'++w')):=Xp (by simp [hb,hw,hb',hw'])
 have e2:(b++w=b'++w')↔(b,w)=(b',w'):=by
  rw [Prod.mk.injEq]
  exact ⟨fun h=>List.append_inj h (by omega),fun h=>by rw [h.1,h.2]⟩
 have:pW 33 (bJ (DC n b w)) (bJ (DC m b' w'))=some (decide (n=m∧(b,w)=(b',w'))):=by
  simp only [pW]
  rw [if_pos (by simp [hb,hw])]
  rw [List.map_append,List.map_append] at e1
  simp only [DC,fH,pV,if_true,e1,Option.map_some,Option.some.injEq]
  by_cases h1:n=m
  ·by_cases h2:b++w=b'++w'
   ·rw [decide_eq_true h2,decide_eq_true ⟨h1,e2.1 h2⟩]
    simp [h1]
   ·have h3:=fun h=>h2 (e2.2 h)
    rw [decide_eq_false h2,decide_eq_false (fun h=>h3 h.2)]
    simp
  ·simp [h1]
 simp only [Eh,this,Option.map_some]
end Go.Bm
namespace Go.Bm
open Go Go.Am
end Go.Bm
namespace Go.Bm
open Go Go.Am
section
variable {n:Int} {b w:List Nat} {H:BH} {i:Nat}
theorem ahM (h:0<b.length):aY none (DC n b w) 1=some (N8 (nl b 0)):=I5 (k:=0) h
theorem ahN {x:Nat} (h:0<b.length):dP (some (DC n b w)) H i 1 1 (.int .u8 (x:Int))=some (undef,H.set i (some (DC n (b.set 0 x) w))):=IZ (k:=0) h
theorem ahO {x:Nat} (hb:b.length=16) (hw:w.length=16):dP (some (DC n b w)) H i 32 1 (.int .u8 (x:Int))=some (undef,H.set i (some (DC n b (w.set 15 x)))):=I4 (k:=15) hb (by omega)
end
section
variable {code:List Nat} {a:Nat} {h:Int}
theorem ahP {most:Int} {K:Value→BH→Prop} (ha:a≤code.length) (hl:code.length≤1048576) (hcd: ∀i,nl code i<256) (hm:1≤most∧most≤16)
  (hK: ∀(n:Int) b w a' h',By 16 b→By 16 w→ -1≤n∧n≤17→a'≤code.length→K (DV n b w) [some (SC code a' h')]):aQ false L8 [P 0 0,I most] [some (SC code a h)] K:=by
 have hz:=ji
 refine bF Z7 ?_;simp only [iC,aI]
 refine au fun Kr hKr=>?_;simp (disch:=omega) only [RA,↓reduceIte,Nat.reduceEqDiff,RD,aF];refine hKr _ _ ?_;clear hKr Kr;(try simp only [RN,reduceIte]);try refine ah rfl ?_
 refine au fun Kr hKr=>?_;simp (disch:=omega) only [RA,↓reduceIte,Nat.reduceEqDiff,reduceCtorEq,RD]
 refine ag6 (i:=0) rfl ha hl hcd hm fun n b w a h hb hw hd hnm hA=>?_
 have hlb:=hb.len
 have dI:=hw.len
 have hn:=hd.1.1
 simp (disch:=omega) only [RA,↓reduceIte,Nat.reduceEqDiff,Nat.reduceAdd,RD,aF,aU]
 refine hKr _ _ ?_;clear hKr Kr;(try simp only [aK,aP,aN]);(try simp only [RN,reduceIte]);try refine ah rfl ?_
 refine au fun Kr hKr=>?_;simp (disch:=omega) only [RA,↓reduceIte,Nat.reduceEqDiff,reduceCtorEq,RD]
 refine yA (i:=0) rfl hA hl hcd (by omega) fun v a h hA k2 k3 k4 k5=>?_
 simp (disch:=omega) only [RA,↓reduceIte,Nat.reduceEqDiff,RD]
 refine hKr _ _ ?_;clear hKr Kr;(try simp only [aK,aP,aN]);(try simp only [RN,reduceIte]);try refine ah rfl ?_
 clear k2 k3 k4 k5
 have hend: ∀(f':Fr) (m:Int) b w a' h',By 16 b→By 16 w→ -1≤m∧m≤17→a'≤code.length→f' 4=P 1 0→f' 5=P 2 0→T 1 (.seq iC.r11 .ret) (pU 1 [.cell 4 (some 33)] K) f' [some (SC code a' h'),some (DC 0 gu gu),some (DC m b w)]:=by
  intro f' m b w a' h' hb hw hm ha g4 g5
  have hlb:=hb.len
  have dI:=hw.len
  refine au fun Kr hKr=>?_;simp (disch:=omega) only [RA,↓reduceIte,Nat.reduceEqDiff,RD,g4,g5,aF,aU];refine hKr _ _ ?_;clear hKr Kr;(try simp only [RN,reduceIte]);try refine ah rfl ?_
  refine aS (by simp (disch:=omega) only [RA,↓reduceIte,Nat.reduceEqDiff,RD,aG,aO,g4,aU];rfl) (aC.nrm [0] rfl rfl (by simp only [RH,ru,o7]) (by simp only [aH,RH])) ?_;simp only [aH]
  exact hK m b w _ _ hb hw hm ha
 (first|refine bP rfl ?_|refine bQ rfl ?_);(try simp only [RN,reduceIte]);try refine ah rfl ?_
 refine au fun Kr hKr=>?_;simp (disch:=omega) only [RA,↓reduceIte,Nat.reduceEqDiff,RD];refine hKr _ _ ?_;clear hKr Kr;(try simp only [RN,reduceIte]);try refine ah rfl ?_
 refine aX (p:=v=0) (by simp only [RA,↓reduceIte,Nat.reduceEqDiff]<;>rfl) (by (try simp only [RB])<;>first|done|exact Iff.rfl|omega|simp) (fun hc=>?_) (fun hc=>?_)<;>(try simp only [RN,reduceIte])<;>(try refine ah rfl ?_)
 ·have h0:=hd.1.lt (i:=0) (by omega)
  have e1:((nl b 0:Nat):Int)+1=((nl b 0+1:Nat):Int):=by omega
  refine au fun Kr hKr=>?_;simp (disch:=omega) only [RA,↓reduceIte,Nat.reduceEqDiff,RD,aF,aU,ahM,ahN,e1];refine hKr _ _ ?_;clear hKr Kr;(try simp only [RN,reduceIte]);try refine ah rfl ?_
  refine hend _ n (b.set 0 (nl b 0+1)) w a h (hb.set (by omega)) hw (by omega) hA ?_ ?_
  any_goals (simp (disch:=omega) only [RA,↓reduceIte,Nat.reduceEqDiff,RD,RE, *]<;>rfl)
 refine au fun Kr hKr=>?_;simp (disch:=omega) only [RA,↓reduceIte,Nat.reduceEqDiff,RD];refine hKr _ _ ?_;clear hKr Kr;(try simp only [RN,reduceIte]);try refine ah rfl ?_
 refine aX (p:=v=1) (by simp only [RA,↓reduceIte,Nat.reduceEqDiff]<;>rfl) (by (try simp only [RB])<;>first|done|exact Iff.rfl|omega|simp) (fun hc=>?_) (fun hc=>?_)<;>(try simp only [RN,reduceIte])<;>(try refine ah rfl ?_)
 ·refine au fun Kr hKr=>?_;simp (disch:=omega) only [RA,↓reduceIte,Nat.reduceEqDiff,Nat.reduceAdd,Nat.reduceLeDiff,Int.reduceNeg,reduceCtorEq,RD,aF,aU]
  refine qP 3 rfl (by simp only [RH]) ?_;simp only [RZ,jD]
  refine Fg (xs:=[0,17,-1,(n:Int)+1,(n:Int)-1]) (i:=0) rfl hA hl hcd (by simp) (by simp) fun j a h hj hA=>?_
  have hj1:=FD hj
  generalize el [0,17,-1,(n:Int)+1,(n:Int)-1] j=m at hj1⊢
  have XL: -1≤m∧m≤17:=by simp at hj1;omega
  simp (disch:=omega) only [RA,↓reduceIte,Nat.reduceEqDiff,Nat.reduceAdd,RD,aF,aU]
  refine hKr _ _ ?_;clear hKr Kr;(try simp only [aK,aP,aN]);(try simp only [RN,reduceIte]);try refine ah rfl ?_
  refine lI (Gh.nrm [0,1,2] rfl rfl (by simp only [RH,ru,o7])) ?_
  refine hend _ m b w a h hb hw XL hA ?_ ?_
  any_goals (simp (disch:=omega) only [RA,↓reduceIte,Nat.reduceEqDiff,RD,RE, *]<;>rfl)
 refine au fun Kr hKr=>?_;simp (disch:=omega) only [RA,↓reduceIte,Nat.reduceEqDiff,RD];refine hKr _ _ ?_;clear hKr Kr;(try simp only [RN,reduceIte]);try refine ah rfl ?_
 refine aX (p:=v=2) (by simp only [RA,↓reduceIte,Nat.reduceEqDiff]<;>rfl) (by (try simp only [RB])<;>first|done|exact Iff.rfl|omega|simp) (fun hc=>?_) (fun hc=>?_)<;>(try simp only [RN,reduceIte])<;>(try refine ah rfl ?_)
 ·have hil:= @mG n
  refine au fun Kr hKr=>?_;simp (disch:=omega) only [RA,↓reduceIte,Nat.reduceEqDiff,RD,aF,aU,WW]
  refine E9 (by omega) ?_
  rw [Int.toNat_natCast]
  simp (disch:=omega) only [RA,↓reduceIte,Nat.reduceEqDiff,Nat.reduceAdd,RD,aF,aU]
  refine hKr _ _ ?_;clear hKr Kr;(try simp only [aK,aP,aN]);(try simp only [RN,reduceIte]);try refine ah rfl ?_
  refine hend _ n b (dQ n) a h hb (E8 (by omega)) (by omega) hA ?_ ?_
  any_goals (simp (disch:=omega) only [RA,↓reduceIte,Nat.reduceEqDiff,RD,RE, *]<;>rfl)
 refine au fun Kr hKr=>?_;simp (disch:=omega) only [RA,↓reduceIte,Nat.reduceEqDiff,RD];refine hKr _ _ ?_;clear hKr Kr;(try simp only [RN,reduceIte]);try refine ah rfl ?_
 refine aX (p:=v=3) (by simp only [RA,↓reduceIte,Nat.reduceEqDiff]<;>rfl) (by (try simp only [RB])<;>first|done|exact Iff.rfl|omega|simp) (fun hc=>?_) (fun hc=>?_)<;>(try simp only [RN,reduceIte])<;>(try refine ah rfl ?_)
 ·refine au fun Kr hKr=>?_;simp (disch:=omega) only [RA,↓reduceIte,Nat.reduceEqDiff,Nat.reduceAdd,Nat.reduceLeDiff,Int.reduceNeg,reduceCtorEq,RD,aF,aU]
  refine qP 3 rfl (by simp only [RH]) ?_;simp only [RZ,jD]
  refine Fg (xs:=[1,255]) (i:=0) rfl hA hl hcd (by simp) (by simp) fun j a h hj hA=>?_
  have hj1:=FD hj
  generalize el [1,255] j=m at hj1⊢
  have XL:0≤m∧m<256:=by simp at hj1;omega
  obtain ⟨q,rfl⟩: ∃q:Nat,m=q:=⟨m.toNat,by omega⟩
  simp (disch:=omega) only [RA,↓reduceIte,Nat.reduceEqDiff,RD,aF,aU,ahO]
  refine hKr _ _ ?_;clear hKr Kr;(try simp only [aK,aP,aN]);(try simp only [RN,reduceIte]);try refine ah rfl ?_
  refine lI (Gh.nrm [0,1,2] rfl rfl (by simp only [RH,ru,o7])) ?_
  refine hend _ n b (w.set 15 q) a h hb (hw.set (by omega)) (by omega) hA ?_ ?_
  any_goals (simp (disch:=omega) only [RA,↓reduceIte,Nat.reduceEqDiff,RD,RE, *]<;>rfl)
 ·refine hend _ n b w a h hb hw (by omega) hA ?_ ?_
  any_goals (simp (disch:=omega) only [RA,↓reduceIte,Nat.reduceEqDiff,RD,RE, *]<;>rfl)
theorem ahc {most:Int} {i:Nat} {H:BH} {K:Value→BH→Prop} (hb:blk H i=some (SC code a h)) (ha:a≤code.length) (hl:code.length≤1048576) (hcd: ∀i,nl code i<256) (hm:1≤most∧most≤16)
  (hK: ∀(n:Int) b w a' h',By 16 b→By 16 w→ -1≤n∧n≤17→a'≤code.length→K (DV n b w) (H.set i (some (SC code a' h')))):aQ false L8 [P i 0,I most] H K:=by
 refine qR hb kY ?_
 have e:([P i 0,I most]:List Value).map (ren [i])=[P 0 0,I most]:=by simp [ren,nI,nm]
 rw [e]
 exact ahP ha hl hcd hm fun n b w a' h' k1 k2 k3 k4=>⟨iK,HN.cons kY HN.nil,hK n b w a' h' k1 k2 k3 k4⟩
end
section
variable {code:List Nat} {H:BH} {K:Value→BH→Prop} {x:Bool} (hl:code.length≤1048576) (hcd: ∀i,nl code i<256)
include hl hcd
end
end Go.Bm
