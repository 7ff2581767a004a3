/- DpQa, BmX, DpY, DpQc, DpQd, DpQe -/
import Derived.Test.YtbpfbfbabpkceaaBmM
import Derived.Test.YtbpfbfbabpkceaaBmS
import Derived.Test.YtbpfbfbabpkceaaDpG0
import Derived.Test.YtbpfbfbabpkceaaDpG2
set_option linter.unusedVariables false
set_option linter.unusedSimpArgs false
set_option linter.unusedSectionVars false
namespace Go.Bm.Q5
open Go Go.Am Go.Bm
def mV:Value:=clo C9 [P 5 0,P 6 0,P 7 0,P 8 0,P 9 0]
def PM {σ:Type} (B0 B1 B2 B3 B4:σ→Option (List Value)) (s:σ):BH:=[B0 s,B1 s,B2 s,B3 s,B4 s]
def EM {σ:Type} (B0 B1 B2 B3 B4:σ→Option (List Value)) (g1:Nat) (caps:List Value) (n:Nat) (s:σ) (p:List Nat) (used:List Bool):BH:=
 [B0 s,B1 s,B2 s,B3 s,B4 s,some [I n],some [clo g1 caps],some (p.map N8),some (used.map B),some [mV]]
section
variable {σ:Type} {B0 B1 B2 B3 B4:σ→Option (List Value)} {g1 n:Nat} {caps:List Value} {step:σ→List Nat→σ}
theorem QM (hr: ∀s,iM (List.range 5) (PM B0 B1 B2 B3 B4 s)=PM B0 B1 B2 B3 B4 s) {s:σ} {p:List Nat} {used:List Bool}:iM (List.range 5) (EM B0 B1 B2 B3 B4 g1 caps n s p used)=PM B0 B1 B2 B3 B4 s:=by
 rw [←hr s]
 rfl
def DF (B0 B1 B2 B3 B4:σ→Option (List Value)) (g1:Nat) (caps:List Value) (n:Nat) (step:σ→List Nat→σ):Prop:=
 ∀(s:σ) (w p:List Nat) (used:List Bool) (K:Value→BH→Prop),PQ n w→K (.tuple ⟨[]⟩) (EM B0 B1 B2 B3 B4 g1 caps n (step s w) p used)→aA false g1 (PL w::caps) (EM B0 B1 B2 B3 B4 g1 caps n s p used) K
variable (hdo:DF B0 B1 B2 B3 B4 g1 caps n step)
include hdo
theorem QN (hn0:1≤n) (DI:n≤8): ∀(m:Nat) {i:Nat} {pre p:List Nat} {used:List Bool} {s:σ} {K:Value→BH→Prop},i=pre.length→i+m=n→kH n pre→p.length=16→p.take i=pre→(∀j,n≤j→nl p j=0)→(∀j,nl p j<256)→
  used.length=16→(∀y,y<n→bl used y=decide (y∈pre))→
  (∀p',p'.length=16→p'.take i=pre→(∀j,n≤j→nl p' j=0)→(∀j,nl p' j<256)→K (.tuple ⟨[]⟩) (EM B0 B1 B2 B3 B4 g1 caps n ((lv n m pre).foldl step s) p' used))→
  aA false C9 [I i,P 5 0,P 6 0,P 7 0,P 8 0,P 9 0] (EM B0 B1 B2 B3 B4 g1 caps n s p used) K:=by
 have gone: ∀{v:Value},getN none [v] 0=some v:=rfl
 intro m
 induction m with
 |zero=>
  intro i pre p used s K hi him hpre hlp htk hz hlt qg hus hK
  obtain rfl:i=n:=by omega
  have hpq:PQ i p:=by
   have:p∈lv i 0 pre:=by
    rw [lv,List.mem_singleton]
    refine kZ (by rw [hlp,xP (by omega)]) fun j hj=>?_
    rw [mW]
    by_cases hjn:j<pre.length
    ·rw [if_pos hjn,←htk]
     simp [nl,List.getD,List.getElem?_take,show j<i by omega]
    ·rw [if_neg hjn]
     exact hz j (by omega)
   exact ((lg (by omega) 0 hpre (by omega) p).1 this).1
  have QO:lv i 0 pre=[p]:=by
   have:p∈lv i 0 pre:=(lg (by omega) 0 hpre (by omega) p).2 ⟨hpq,by rw [←hi];exact htk⟩
   rw [lv,List.mem_singleton] at this
   rw [lv,this]
  have DJ:=hK p hlp htk hz hlt
  rw [QO,List.foldl_cons,List.foldl_nil] at DJ
  refine aZ Dp ?_;simp only [dF,aB]
  unfold EM
  refine au fun Kr hKr=>?_;simp (disch:=omega) only [RA,↓reduceIte,Nat.reduceEqDiff,Nat.reduceBEq,Nat.reduceSub,Nat.reduceAdd,Nat.reduceMul,Nat.reduceLT,Nat.reduceLeDiff,Int.reduceLE,Int.reduceLT,Int.reduceEq,Int.reduceNeg,Int.reduceToNat,Int.reduceMul,Int.reduceAdd,Int.reduceSub,Int.reduceBEq,Int.reduceBNe,reduceCtorEq,RD,R4,gone];refine hKr _ _ ?_;clear hKr Kr;(try simp only [RN,reduceIte]);try refine ah rfl ?_
  refine aP (t:=true) (by simp (disch:=omega) only [RA,↓reduceIte,Nat.reduceEqDiff,Nat.reduceBEq,Nat.reduceSub,Nat.reduceAdd,Nat.reduceMul,Nat.reduceLT,Nat.reduceLeDiff,Int.reduceLE,Int.reduceLT,Int.reduceEq,Int.reduceNeg,Int.reduceToNat,Int.reduceMul,Int.reduceAdd,Int.reduceSub,Int.reduceBEq,Int.reduceBNe,reduceCtorEq,RD]) ?_;(try simp only [RN,reduceIte]);try refine ah rfl ?_
  refine au fun Kr hKr=>?_;simp (disch:=omega) only [RA,↓reduceIte,Nat.reduceEqDiff,Nat.reduceBEq,Nat.reduceSub,Nat.reduceAdd,Nat.reduceMul,Nat.reduceLT,Nat.reduceLeDiff,Int.reduceLE,Int.reduceLT,Int.reduceEq,Int.reduceNeg,Int.reduceToNat,Int.reduceMul,Int.reduceAdd,Int.reduceSub,Int.reduceBEq,Int.reduceBNe,reduceCtorEq,RD,R4,gone,hlp,xQ,xR,xU]
  refine hdo s p p used _ hpq ?_
  unfold EM
  simp (disch:=omega) only [RA,↓reduceIte,Nat.reduceEqDiff,Nat.reduceBEq,Nat.reduceSub,Nat.reduceAdd,Nat.reduceMul,Nat.reduceLT,Nat.reduceLeDiff,Int.reduceLE,Int.reduceLT,Int.reduceEq,Int.reduceNeg,Int.reduceToNat,Int.reduceMul,Int.reduceAdd,Int.reduceSub,Int.reduceBEq,Int.reduceBNe,reduceCtorEq,RD]
  refine hKr _ _ ?_;clear hKr Kr;(try simp only [aK,aO,aN]);(try simp only [RN,reduceIte]);try refine ah rfl ?_
  refine aS (by simp (disch:=omega) only [RA,↓reduceIte,Nat.reduceEqDiff,Nat.reduceBEq,Nat.reduceSub,Nat.reduceAdd,Nat.reduceMul,Nat.reduceLT,Nat.reduceLeDiff,Int.reduceLE,Int.reduceLT,Int.reduceEq,Int.reduceNeg,Int.reduceToNat,Int.reduceMul,Int.reduceAdd,Int.reduceSub,Int.reduceBEq,Int.reduceBNe,reduceCtorEq,RD,resAll,resOf];rfl) aG.refl ?_;simp only [tup]
  exact DJ
 |succ m ih=>
  intro i pre p used s K hi him hpre hlp htk hz hlt qg hus hK
  have hin:i<n:=by omega
  have V6:n≤16:=by omega
  obtain ⟨g,hg⟩: ∃g:Nat→List (List Nat),g=fun y=>if y∈pre then [] else lv n m (pre++[y]):=⟨_,rfl⟩
  obtain ⟨A,hA⟩: ∃A:Nat→σ,A=fun y=>((List.range y).flatMap g).foldl step s:=⟨_,rfl⟩
  have hAs: ∀y,A (y+1)=(g y).foldl step (A y):=fun y=>by
   rw [hA]
   simp only [List.range_succ,List.flatMap_append,List.foldl_append,List.flatMap_cons,List.flatMap_nil,List.append_nil]
  have hpre': ∀y,y<n→y∉pre→kH n (pre++[y]):=fun y hy hyp=>⟨by
   rw [List.nodup_append]
   exact ⟨hpre.eu,by simp,fun a ha b hb e=>by rw [List.mem_singleton] at hb;subst hb;subst e;exact hyp ha⟩,fun z hz=>by
   rcases List.mem_append.1 hz with hz|hz
   ·exact hpre.lt z hz
   ·rw [List.mem_singleton] at hz;subst hz;exact hy,by simp;omega⟩
  have hA0:A 0=s:=by rw [hA];rfl
  have QS:A n=(lv n (m+1) pre).foldl step s:=by rw [hA,hg];rfl
  refine aZ Dp ?_;simp only [dF,aB]
  unfold EM
  have hne: ¬(i:Int)=n:=by omega
  refine au fun Kr hKr=>?_;simp (disch:=omega) only [RA,↓reduceIte,Nat.reduceEqDiff,Nat.reduceBEq,Nat.reduceSub,Nat.reduceAdd,Nat.reduceMul,Nat.reduceLT,Nat.reduceLeDiff,Int.reduceLE,Int.reduceLT,Int.reduceEq,Int.reduceNeg,Int.reduceToNat,Int.reduceMul,Int.reduceAdd,Int.reduceSub,Int.reduceBEq,Int.reduceBNe,reduceCtorEq,RD,R4,gone,hne];refine hKr _ _ ?_;clear hKr Kr;(try simp only [RN,reduceIte]);try refine ah rfl ?_
  refine aP (t:=false) (by simp (disch:=omega) only [RA,↓reduceIte,Nat.reduceEqDiff,Nat.reduceBEq,Nat.reduceSub,Nat.reduceAdd,Nat.reduceMul,Nat.reduceLT,Nat.reduceLeDiff,Int.reduceLE,Int.reduceLT,Int.reduceEq,Int.reduceNeg,Int.reduceToNat,Int.reduceMul,Int.reduceAdd,Int.reduceSub,Int.reduceBEq,Int.reduceBNe,reduceCtorEq,RD]) ?_;(try simp only [RN,reduceIte]);try refine ah rfl ?_
  refine au fun Kr hKr=>?_;simp (disch:=omega) only [RA,↓reduceIte,Nat.reduceEqDiff,Nat.reduceBEq,Nat.reduceSub,Nat.reduceAdd,Nat.reduceMul,Nat.reduceLT,Nat.reduceLeDiff,Int.reduceLE,Int.reduceLT,Int.reduceEq,Int.reduceNeg,Int.reduceToNat,Int.reduceMul,Int.reduceAdd,Int.reduceSub,Int.reduceBEq,Int.reduceBNe,reduceCtorEq,RD,gone];refine hKr _ _ ?_;clear hKr Kr;(try simp only [RN,reduceIte]);try refine ah rfl ?_
  refine QT ?_
  refine bH (fun mm f H'=> ∃y p',y≤n∧mm=n-y∧p'.length=16∧p'.take i=pre∧(∀j,n≤j→nl p' j=0)∧(∀j,nl p' j<256)∧f 0=I i∧f 1=P 5 0∧f 2=P 6 0∧f 3=P 7 0∧f 4=P 8 0∧f 5=P 9 0∧f 14=I n∧f 15=I y∧H'=EM B0 B1 B2 B3 B4 g1 caps n (A y) p' used) (n) ?_ ?_
  ·refine ⟨_,_,Gh.refl,0,p,by omega,by omega,hlp,htk,hz,hlt,?_,?_,?_,?_,?_,?_,?_,?_,by rw [hA0];rfl⟩
   all_goals (simp (disch:=omega) only [RA,↓reduceIte,Nat.reduceEqDiff,Nat.reduceBEq,Nat.reduceSub,Nat.reduceAdd,Nat.reduceMul,Nat.reduceLT,Nat.reduceLeDiff,Int.reduceLE,Int.reduceLT,Int.reduceEq,Int.reduceNeg,Int.reduceToNat,Int.reduceMul,Int.reduceAdd,Int.reduceSub,Int.reduceBEq,Int.reduceBNe,reduceCtorEq,R4,RD,RE]<;>rfl)
  ·rintro mm f H' R ⟨y,p',hy,rfl,uM,xW,hz',hlt',g0,g1',g2,g3,g4,g5,g14,g15,rfl⟩ hN hX hR hE
   simp only [dF.l0,aB]
   refine au fun Kr hKr=>?_;simp (disch:=omega) only [RA,↓reduceIte,Nat.reduceEqDiff,Nat.reduceBEq,Nat.reduceSub,Nat.reduceAdd,Nat.reduceMul,Nat.reduceLT,Nat.reduceLeDiff,Int.reduceLE,Int.reduceLT,Int.reduceEq,Int.reduceNeg,Int.reduceToNat,Int.reduceMul,Int.reduceAdd,Int.reduceSub,Int.reduceBEq,Int.reduceBNe,reduceCtorEq,RD,g14,g15];refine hKr _ _ ?_;clear hKr Kr;(try simp only [RN,reduceIte]);try refine ah rfl ?_
   refine bG (p:=y<n) (by simp only [RA,↓reduceIte,Nat.reduceEqDiff,Nat.reduceBEq,Nat.reduceSub,Nat.reduceAdd,Nat.reduceMul,Nat.reduceLT,Nat.reduceLeDiff,Int.reduceLE,Int.reduceLT,Int.reduceEq,Int.reduceNeg,Int.reduceToNat,Int.reduceMul,Int.reduceAdd,Int.reduceSub,Int.reduceBEq,Int.reduceBNe,reduceCtorEq]<;>rfl) (by (try simp only [RB])<;>first|done|exact Iff.rfl|omega|simp) (fun hc=>?_) (fun hc=>?_)<;>(try simp only [RN,reduceIte])<;>(try refine ah rfl ?_)
   ·have hyn:y<n:=by assumption
    have V7:y<16:=by omega
    have hnext: ∀f' p2,p2.length=16→p2.take i=pre→(∀j,n≤j→nl p2 j=0)→(∀j,nl p2 j<256)→f' 0=I i→f' 1=P 5 0→f' 2=P 6 0→f' 3=P 7 0→f' 4=P 8 0→f' 5=P 9 0→f' 14=I n→f' 15=I y→T 10 dF.r10 R f' (EM B0 B1 B2 B3 B4 g1 caps n (A (y+1)) p2 used):=by
     clear g0 g1' g2 g3 g4 g5 g14 g15
     intro f' p2 q1 q2 q3 q4 g0 g1' g2 g3 g4 g5 g14 g15
     refine bI fun Kr hKr=>?_;simp (disch:=omega) only [RA,↓reduceIte,Nat.reduceEqDiff,Nat.reduceBEq,Nat.reduceSub,Nat.reduceAdd,Nat.reduceMul,Nat.reduceLT,Nat.reduceLeDiff,Int.reduceLE,Int.reduceLT,Int.reduceEq,Int.reduceNeg,Int.reduceToNat,Int.reduceMul,Int.reduceAdd,Int.reduceSub,Int.reduceBEq,Int.reduceBNe,reduceCtorEq,RD,g15];refine hKr _ _ ?_;clear hKr Kr
     refine hN (n-(y+1)) _ _ _ _ (by omega) Gh.refl ⟨y+1,p2,by omega,rfl,q1,q2,q3,q4,?_,?_,?_,?_,?_,?_,?_,?_,rfl⟩
     all_goals (simp (disch:=omega) only [RA,↓reduceIte,Nat.reduceEqDiff,Nat.reduceBEq,Nat.reduceSub,Nat.reduceAdd,Nat.reduceMul,Nat.reduceLT,Nat.reduceLeDiff,Int.reduceLE,Int.reduceLT,Int.reduceEq,Int.reduceNeg,Int.reduceToNat,Int.reduceMul,Int.reduceAdd,Int.reduceSub,Int.reduceBEq,Int.reduceBNe,reduceCtorEq,RD,RE, *]<;>rfl)
    (first|refine bY rfl ?_|refine bZ rfl ?_);(try simp only [RN,reduceIte]);try refine ah rfl ?_
    refine au fun Kr hKr=>?_;simp (disch:=omega) only [RA,↓reduceIte,Nat.reduceEqDiff,Nat.reduceBEq,Nat.reduceSub,Nat.reduceAdd,Nat.reduceMul,Nat.reduceLT,Nat.reduceLeDiff,Int.reduceLE,Int.reduceLT,Int.reduceEq,Int.reduceNeg,Int.reduceToNat,Int.reduceMul,Int.reduceAdd,Int.reduceSub,Int.reduceBEq,Int.reduceBNe,reduceCtorEq,RD,g15];refine hKr _ _ ?_;clear hKr Kr;(try simp only [RN,reduceIte]);try refine ah rfl ?_
    unfold EM
    refine au fun Kr hKr=>?_;simp (disch:=omega) only [RA,↓reduceIte,Nat.reduceEqDiff,Nat.reduceBEq,Nat.reduceSub,Nat.reduceAdd,Nat.reduceMul,Nat.reduceLT,Nat.reduceLeDiff,Int.reduceLE,Int.reduceLT,Int.reduceEq,Int.reduceNeg,Int.reduceToNat,Int.reduceMul,Int.reduceAdd,Int.reduceSub,Int.reduceBEq,Int.reduceBNe,reduceCtorEq,RD,g4,qg];refine hKr _ _ ?_;clear hKr Kr;(try simp only [RN,reduceIte]);try refine ah rfl ?_
    by_cases hyp:y∈pre
    ·have hb1:bl used y=true:=by rw [hus y hyn,decide_eq_true hyp]
     have xX:g y=[]:=by rw [hg];simp [hyp]
     have QU:A (y+1)=A y:=by rw [hAs,xX];rfl
     refine aP (t:=false) (by simp (disch:=omega) only [RA,↓reduceIte,Nat.reduceEqDiff,Nat.reduceBEq,Nat.reduceSub,Nat.reduceAdd,Nat.reduceMul,Nat.reduceLT,Nat.reduceLeDiff,Int.reduceLE,Int.reduceLT,Int.reduceEq,Int.reduceNeg,Int.reduceToNat,Int.reduceMul,Int.reduceAdd,Int.reduceSub,Int.reduceBEq,Int.reduceBNe,reduceCtorEq,RD,hb1]) ?_;(try simp only [RN,reduceIte]);try refine ah rfl ?_
     rw [←QU]
     refine hnext _ p' uM xW hz' hlt' ?_ ?_ ?_ ?_ ?_ ?_ ?_ ?_
     any_goals (simp (disch:=omega) only [RA,↓reduceIte,Nat.reduceEqDiff,Nat.reduceBEq,Nat.reduceSub,Nat.reduceAdd,Nat.reduceMul,Nat.reduceLT,Nat.reduceLeDiff,Int.reduceLE,Int.reduceLT,Int.reduceEq,Int.reduceNeg,Int.reduceToNat,Int.reduceMul,Int.reduceAdd,Int.reduceSub,Int.reduceBEq,Int.reduceBNe,reduceCtorEq,RD,RE, *]<;>rfl)
    ·have hb1:bl used y=false:=by rw [hus y hyn,decide_eq_false hyp]
     have xX:g y=lv n m (pre++[y]):=by rw [hg];simp [hyp]
     have DK:(used.set y true).length=16:=by rw [List.length_set,qg]
     have a1:((i:Nat):Int)+1=((i+1:Nat):Int):=by omega
     refine aP (t:=true) (by simp (disch:=omega) only [RA,↓reduceIte,Nat.reduceEqDiff,Nat.reduceBEq,Nat.reduceSub,Nat.reduceAdd,Nat.reduceMul,Nat.reduceLT,Nat.reduceLeDiff,Int.reduceLE,Int.reduceLT,Int.reduceEq,Int.reduceNeg,Int.reduceToNat,Int.reduceMul,Int.reduceAdd,Int.reduceSub,Int.reduceBEq,Int.reduceBNe,reduceCtorEq,RD,hb1]) ?_;(try simp only [RN,reduceIte]);try refine ah rfl ?_
     refine au fun Kr hKr=>?_;simp (disch:=omega) only [RA,↓reduceIte,Nat.reduceEqDiff,Nat.reduceBEq,Nat.reduceSub,Nat.reduceAdd,Nat.reduceMul,Nat.reduceLT,Nat.reduceLeDiff,Int.reduceLE,Int.reduceLT,Int.reduceEq,Int.reduceNeg,Int.reduceToNat,Int.reduceMul,Int.reduceAdd,Int.reduceSub,Int.reduceBEq,Int.reduceBNe,reduceCtorEq,RD,g4,qg];refine hKr _ _ ?_;clear hKr Kr;(try simp only [RN,reduceIte]);try refine ah rfl ?_
     refine au fun Kr hKr=>?_;simp (disch:=omega) only [RA,↓reduceIte,Nat.reduceEqDiff,Nat.reduceBEq,Nat.reduceSub,Nat.reduceAdd,Nat.reduceMul,Nat.reduceLT,Nat.reduceLeDiff,Int.reduceLE,Int.reduceLT,Int.reduceEq,Int.reduceNeg,Int.reduceToNat,Int.reduceMul,Int.reduceAdd,Int.reduceSub,Int.reduceBEq,Int.reduceBNe,reduceCtorEq,RD,g0,g3,uM];refine hKr _ _ ?_;clear hKr Kr;(try simp only [RN,reduceIte]);try refine ah rfl ?_
     refine au fun Kr hKr=>?_;simp (disch:=omega) only [RA,↓reduceIte,Nat.reduceEqDiff,Nat.reduceBEq,Nat.reduceSub,Nat.reduceAdd,Nat.reduceMul,Nat.reduceLT,Nat.reduceLeDiff,Int.reduceLE,Int.reduceLT,Int.reduceEq,Int.reduceNeg,Int.reduceToNat,Int.reduceMul,Int.reduceAdd,Int.reduceSub,Int.reduceBEq,Int.reduceBNe,reduceCtorEq,RD,g0,g5,gone,a1,xQ,mV,xR,xU]
     refine ih (i:=i+1) (pre:=pre++[y]) (p:=p'.set i y) (used:=used.set y true) (s:=A y) (by simp;omega) (by omega) (hpre' y hyn hyp) (by rw [List.length_set,uM]) ?_ (fun j hj=>by rw [fU,if_neg (by omega)];exact hz' j hj) (fun j=>by rw [fU];split;omega;exact hlt' j) DK (fun z hzn=>?_) fun p2 q1 q2 q3 q4=>?_
     ·rw [List.take_set,List.take_add_one,xW,List.getElem?_eq_getElem (show i<p'.length by omega),Option.toList_some,List.set_append,if_neg (by omega)]
      simp [hi]
     ·rw [jP,qg]
      by_cases e:z=y
      ·rw [if_pos ⟨e,by omega⟩,e];simp
      ·rw [if_neg (by omega),hus z hzn]
       simp [e]
     ·rw [←xX,←hAs]
      unfold EM
      simp (disch:=omega) only [RA,↓reduceIte,Nat.reduceEqDiff,Nat.reduceBEq,Nat.reduceSub,Nat.reduceAdd,Nat.reduceMul,Nat.reduceLT,Nat.reduceLeDiff,Int.reduceLE,Int.reduceLT,Int.reduceEq,Int.reduceNeg,Int.reduceToNat,Int.reduceMul,Int.reduceAdd,Int.reduceSub,Int.reduceBEq,Int.reduceBNe,reduceCtorEq,RD]
      refine hKr _ _ ?_;clear hKr Kr;(try simp only [aK,aO,aN]);(try simp only [RN,reduceIte]);try refine ah rfl ?_
      refine au fun Kr hKr=>?_;simp (disch:=omega) only [RA,↓reduceIte,Nat.reduceEqDiff,Nat.reduceBEq,Nat.reduceSub,Nat.reduceAdd,Nat.reduceMul,Nat.reduceLT,Nat.reduceLeDiff,Int.reduceLE,Int.reduceLT,Int.reduceEq,Int.reduceNeg,Int.reduceToNat,Int.reduceMul,Int.reduceAdd,Int.reduceSub,Int.reduceBEq,Int.reduceBNe,reduceCtorEq,RD,g4,DK];refine hKr _ _ ?_;clear hKr Kr;(try simp only [RN,reduceIte]);try refine ah rfl ?_
      rw [QV hb1]
      refine hnext _ p2 q1 ?_ q3 q4 ?_ ?_ ?_ ?_ ?_ ?_ ?_ ?_
      any_goals (simp (disch:=omega) only [RA,↓reduceIte,Nat.reduceEqDiff,Nat.reduceBEq,Nat.reduceSub,Nat.reduceAdd,Nat.reduceMul,Nat.reduceLT,Nat.reduceLeDiff,Int.reduceLE,Int.reduceLT,Int.reduceEq,Int.reduceNeg,Int.reduceToNat,Int.reduceMul,Int.reduceAdd,Int.reduceSub,Int.reduceBEq,Int.reduceBNe,reduceCtorEq,RD,RE, *]<;>rfl)
      have q5:=congrArg (List.take i) q2
      rw [List.take_take,Nat.min_eq_left (by omega),List.take_append_of_le_length (by omega),List.take_of_length_le (l:=pre) (by omega)] at q5
      exact q5
   ·refine hX _ _ ?_
    obtain rfl:y=n:=by omega
    rw [QS]
    exact uD (xY (vs:=[]) rfl aG.refl (hK p' uM xW hz' hlt'))
theorem QW (hr: ∀s,iM (List.range 5) (PM B0 B1 B2 B3 B4 s)=PM B0 B1 B2 B3 B4 s) (hn0:1≤n) (DI:n≤8) {s:σ} {K:Value→BH→Prop} (hK:K (.tuple ⟨[]⟩) (PM B0 B1 B2 B3 B4 ((lv n n []).foldl step s))):
  aA false OB [I n,clo g1 caps] (PM B0 B1 B2 B3 B4 s) K:=by
 have gone: ∀{v:Value},getN none [v] 0=some v:=rfl
 refine aZ O7 ?_;simp only [gJ,aB]
 unfold PM
 refine au fun Kr hKr=>?_;simp (disch:=omega) only [RA,↓reduceIte,Nat.reduceEqDiff,Nat.reduceBEq,Nat.reduceSub,Nat.reduceAdd,Nat.reduceMul,Nat.reduceLT,Nat.reduceLeDiff,Int.reduceLE,Int.reduceLT,Int.reduceEq,Int.reduceNeg,Int.reduceToNat,Int.reduceMul,Int.reduceAdd,Int.reduceSub,Int.reduceBEq,Int.reduceBNe,reduceCtorEq,RD];refine hKr _ _ ?_;clear hKr Kr;(try simp only [RN,reduceIte]);try refine ah rfl ?_
 refine au fun Kr hKr=>?_;simp (disch:=omega) only [RA,↓reduceIte,Nat.reduceEqDiff,Nat.reduceBEq,Nat.reduceSub,Nat.reduceAdd,Nat.reduceMul,Nat.reduceLT,Nat.reduceLeDiff,Int.reduceLE,Int.reduceLT,Int.reduceEq,Int.reduceNeg,Int.reduceToNat,Int.reduceMul,Int.reduceAdd,Int.reduceSub,Int.reduceBEq,Int.reduceBNe,reduceCtorEq,RD];refine hKr _ _ ?_;clear hKr Kr;(try simp only [RN,reduceIte]);try refine ah rfl ?_
 refine au fun Kr hKr=>?_;simp (disch:=omega) only [RA,↓reduceIte,Nat.reduceEqDiff,Nat.reduceBEq,Nat.reduceSub,Nat.reduceAdd,Nat.reduceMul,Nat.reduceLT,Nat.reduceLeDiff,Int.reduceLE,Int.reduceLT,Int.reduceEq,Int.reduceNeg,Int.reduceToNat,Int.reduceMul,Int.reduceAdd,Int.reduceSub,Int.reduceBEq,Int.reduceBNe,reduceCtorEq,RD];refine hKr _ _ ?_;clear hKr Kr;(try simp only [RN,reduceIte]);try refine ah rfl ?_
 refine au fun Kr hKr=>?_;simp (disch:=omega) only [RA,↓reduceIte,Nat.reduceEqDiff,Nat.reduceBEq,Nat.reduceSub,Nat.reduceAdd,Nat.reduceMul,Nat.reduceLT,Nat.reduceLeDiff,Int.reduceLE,Int.reduceLT,Int.reduceEq,Int.reduceNeg,Int.reduceToNat,Int.reduceMul,Int.reduceAdd,Int.reduceSub,Int.reduceBEq,Int.reduceBNe,reduceCtorEq,RD];refine hKr _ _ ?_;clear hKr Kr;(try simp only [RN,reduceIte]);try refine ah rfl ?_
 refine au fun Kr hKr=>?_;simp (disch:=omega) only [RA,↓reduceIte,Nat.reduceEqDiff,Nat.reduceBEq,Nat.reduceSub,Nat.reduceAdd,Nat.reduceMul,Nat.reduceLT,Nat.reduceLeDiff,Int.reduceLE,Int.reduceLT,Int.reduceEq,Int.reduceNeg,Int.reduceToNat,Int.reduceMul,Int.reduceAdd,Int.reduceSub,Int.reduceBEq,Int.reduceBNe,reduceCtorEq,RD];refine hKr _ _ ?_;clear hKr Kr;(try simp only [RN,reduceIte]);try refine ah rfl ?_
 refine bI fun Kr hKr=>?_;simp (disch:=omega) only [RA,↓reduceIte,Nat.reduceEqDiff,Nat.reduceBEq,Nat.reduceSub,Nat.reduceAdd,Nat.reduceMul,Nat.reduceLT,Nat.reduceLeDiff,Int.reduceLE,Int.reduceLT,Int.reduceEq,Int.reduceNeg,Int.reduceToNat,Int.reduceMul,Int.reduceAdd,Int.reduceSub,Int.reduceBEq,Int.reduceBNe,reduceCtorEq,RD,gone,xQ,mV,xR,xU]
 refine QN hdo hn0 DI n (i:=0) (pre:=[]) (p:=List.replicate 16 0) (used:=List.replicate 16 false) (s:=s) rfl (by omega) ⟨by simp,by simp,by simp⟩ rfl rfl (fun j _=>by rw [jA];split<;>rfl) (fun j=>by rw [jA];split<;>omega) rfl (fun y _=>?_) fun p' q1 q2 q3 q4=>?_
 ·have:bl (List.replicate 16 false) y=false:=by
   rw [bl,List.getD_eq_getElem?_getD,List.getElem?_replicate]
   split<;>rfl
  rw [this];simp
 ·simp (disch:=omega) only [RA,↓reduceIte,Nat.reduceEqDiff,Nat.reduceBEq,Nat.reduceSub,Nat.reduceAdd,Nat.reduceMul,Nat.reduceLT,Nat.reduceLeDiff,Int.reduceLE,Int.reduceLT,Int.reduceEq,Int.reduceNeg,Int.reduceToNat,Int.reduceMul,Int.reduceAdd,Int.reduceSub,Int.reduceBEq,Int.reduceBNe,reduceCtorEq,RD]
  refine hKr _ _ ?_;clear hKr Kr;(try simp only [aK,aO,aN]);(try simp only [RN,reduceIte]);try refine ah rfl ?_
  refine xY (vs:=[]) rfl (aG.mX (List.range 5) List.nodup_range (fun j hj=>DN hj) .undef) ?_
  rw [QM hr]
  exact hK
end
end Go.Bm.Q5
namespace Go.Bm
open Go Go.Am
def iO (p q:List Nat):Int:=Lib.compareBytes (Lib.bytesOf (p.map fun n:Nat=>(n:Int))) (Lib.bytesOf (q.map fun n:Nat=>(n:Int)))
theorem DR {a b:Nat} (ha:a<256) (hb:b<256):((a:Int).toNat.toUInt8<(b:Int).toNat.toUInt8)↔a<b:=by
 rw [UInt8.lt_iff_toNat_lt]
 simp [Nat.mod_eq_of_lt ha,Nat.mod_eq_of_lt hb]
theorem QX {a b:Nat} {p q:List Nat} (ha:a<256) (hb:b<256):iO (a::p) (b::q)=if a<b then-1 else if b<a then 1 else iO p q:=by
 show Lib.compareBytes (_::_) (_::_)=_
 rw [Lib.compareBytes]
 simp only [DR ha hb,DR hb ha]
 rfl
theorem xZ: ∀{p q:List Nat},p.length=q.length→(∀x∈p,x<256)→(∀x∈q,x<256)→((iO p q<0↔p<q)∧(iO p q=0↔p=q))
 |[],[],_,_,_=>⟨by simp [iO,Lib.bytesOf,Lib.compareBytes],by simp [iO,Lib.bytesOf,Lib.compareBytes]⟩
 |[],_::_,h,_,_=>by simp at h
 | _::_,[],h,_,_=>by simp at h
 |a::p,b::q,h,hp,hq=>by
  have ih:=xZ (p:=p) (q:=q) (by simpa using h) (fun x hx=>hp x (by simp [hx])) (fun x hx=>hq x (by simp [hx]))
  rw [QX (hp a (by simp)) (hq b (by simp)),List.cons_lt_cons_iff]
  rcases Nat.lt_trichotomy a b with h1|h1|h1
  ·rw [if_pos h1]
   refine ⟨⟨fun _=> .inl h1,fun _=>by omega⟩,⟨fun h=>by omega,fun h=>?_⟩⟩
   injection h with h2
   omega
  ·subst h1
   rw [if_neg (by omega),if_neg (by omega),ih.1,ih.2]
   refine ⟨⟨fun h=> .inr ⟨rfl,h⟩,fun h=>?_⟩,by simp⟩
   rcases h with h|h
   ·omega
   ·exact h.2
  ·rw [if_neg (by omega),if_pos h1]
   refine ⟨⟨fun h=>by omega,fun h=>?_⟩,⟨fun h=>by omega,fun h=>?_⟩⟩
   ·rcases h with h|h<;>omega
   ·injection h with h2
    omega
theorem QY {x:Bool} {i j:Nat} {p q:List Nat} {H:BH} {K:Value→BH→Prop} (hi:blk H i=some (p.map N8)) (hj:blk H j=some (q.map N8)) (hp:0<p.length) (hq:0<q.length)
  (hK:K (I (iO p q)) H):aA x mP [S i 0 p.length 1,S j 0 q.length 1] H K:=by
 intro ρ Z as HA h1 h2
 obtain ⟨u1,us,rfl,v1,h3⟩:=h1.gK
 obtain ⟨u2,V8,rfl,v2,h4⟩:=h3.gK
 obtain rfl:=h4.fP
 obtain ⟨b1,r1,rfl⟩:=v1.slice_inv
 obtain ⟨b2,r2,rfl⟩:=v2.slice_inv
 have hat: ∀(i b:Nat) (p:List Nat),blk H i=some (p.map N8)→0<p.length→ρ i=some b→BytesAt HA (.slice (some ⟨b,0,none⟩) p.length 1) (p.map fun n:Nat=>(n:Int)):=by
  intro i b p hb hp hr
  obtain ⟨b',bk,e1,e2,e3,e4,e5⟩:=h2.bF i _ hb
  rw [hr] at e1
  cases e1
  refine ⟨b,0,bk,by rw [List.length_map],by simpa using hp,e3,fun t x hx=>?_⟩
  simp only [List.getElem?_map,Option.map_eq_some_iff] at hx
  obtain ⟨n,hn,rfl⟩:=hx
  obtain ⟨d,hd,hv⟩:=e5.at_ (i:=t) (c:=N8 n) (by simp [hn])
  rw [Nat.zero_add,hd,hv.int]
 exact ⟨_,HA, .outer (.inl ⟨rfl,rfl,_,_,_,_,rfl,hat i b1 p hi hp r1,hat j b2 q hj hq r2,rfl⟩),fun _=>Ext.refl' _,ρ,Z,_,H, .z (.plain rfl),h2,Nat.le_refl _,fun _ _=>rfl, .refl _ _ _ _,hK⟩
end Go.Bm
namespace Go.Bm
open Go Go.Am
theorem QZ {a b:Nat}:fillL (List.replicate 2 (.int .u8 0)) [(0,1, .int .u8 (a:Int)),(1,1, .int .u8 (b:Int))]=some ([a,b].map N8):=rfl
theorem Q7 {b w:List Nat} {z j:Nat} (h:j<2):nl [nl b z,nl w z] j=nl ([b,w].getD j []) z:=by
 have:j=0∨j=1:=by omega
 rcases this with rfl|rfl<;>rfl
theorem DT {x:Nat} (hx:x<16):Bi 16 (stA x):=⟨by simp [stA,mY],fun i hi=>by
 rw [show (stA x).2=[x] from rfl,uN (by simpa [stA] using hi)];exact hx,by
 show 1≤(jB.set x true).count true
 rw [uO (by rw [mY];exact hx) uP]
 omega⟩
theorem Q8 {n x:Nat} {b w:List Nat} (hb:By 16 b) (hw:By 16 w) (hd:bg n b w) (hx:x<n):
  aA false Dc [DV n b w,I x] [] fun v H1=> ∃j,v=S j 0 (ord b w x).length 1∧blk H1 j=some ((ord b w x).map N8):=by
 have hlb:=hb.len
 have fH:=hw.len
 have hn:=hd.1.1
 have hb16:=fun i=>hd.1.iD hlb i
 have hw16:=fun i=>hd.2.1.iD fH i
 have gQ: ∀p∈[b,w],∀i,nl p i<16:=by simp;exact ⟨hb16,hw16⟩
 have hx16:x<16:=by omega
 have Q9:(List.replicate 16 false).length=16:=List.length_replicate
 refine aZ PS ?_;simp only [bK,aB]
 refine au fun Kr hKr=>?_;simp (disch:=omega) only [RA,↓reduceIte,Nat.reduceEqDiff,RD,aI];refine hKr _ _ ?_;clear hKr Kr;(try simp only [RN,reduceIte]);try refine ah rfl ?_
 refine au fun Kr hKr=>?_;simp (disch:=omega) only [RA,↓reduceIte,Nat.reduceEqDiff,Nat.reduceBEq,Nat.reduceSub,Nat.reduceAdd,Nat.reduceMul,Nat.reduceLT,Nat.reduceLeDiff,Int.reduceLE,Int.reduceLT,Int.reduceEq,Int.reduceNeg,Int.reduceToNat,Int.reduceMul,Int.reduceAdd,Int.reduceSub,Int.reduceBEq,Int.reduceBNe,reduceCtorEq,RD];refine hKr _ _ ?_;clear hKr Kr;(try simp only [RN,reduceIte]);try refine ah rfl ?_
 refine au fun Kr hKr=>?_;simp (disch:=omega) only [RA,↓reduceIte,Nat.reduceEqDiff,Nat.reduceBEq,Nat.reduceSub,Nat.reduceAdd,Nat.reduceMul,Nat.reduceLT,Nat.reduceLeDiff,Int.reduceLE,Int.reduceLT,Int.reduceEq,Int.reduceNeg,Int.reduceToNat,Int.reduceMul,Int.reduceAdd,Int.reduceSub,Int.reduceBEq,Int.reduceBNe,reduceCtorEq,RD,yc];refine hKr _ _ ?_;clear hKr Kr;(try simp only [RN,reduceIte]);try refine ah rfl ?_
 refine au fun Kr hKr=>?_;simp (disch:=omega) only [RA,↓reduceIte,Nat.reduceEqDiff,Nat.reduceBEq,Nat.reduceSub,Nat.reduceAdd,Nat.reduceMul,Nat.reduceLT,Nat.reduceLeDiff,Int.reduceLE,Int.reduceLT,Int.reduceEq,Int.reduceNeg,Int.reduceToNat,Int.reduceMul,Int.reduceAdd,Int.reduceSub,Int.reduceBEq,Int.reduceBNe,reduceCtorEq,RD];refine hKr _ _ ?_;clear hKr Kr;(try simp only [RN,reduceIte]);try refine ah rfl ?_
 refine au fun Kr hKr=>?_;simp (disch:=omega) only [RA,↓reduceIte,Nat.reduceEqDiff,Nat.reduceBEq,Nat.reduceSub,Nat.reduceAdd,Nat.reduceMul,Nat.reduceLT,Nat.reduceLeDiff,Int.reduceLE,Int.reduceLT,Int.reduceEq,Int.reduceNeg,Int.reduceToNat,Int.reduceMul,Int.reduceAdd,Int.reduceSub,Int.reduceBEq,Int.reduceBNe,reduceCtorEq,RD];refine hKr _ _ ?_;clear hKr Kr;(try simp only [RN,reduceIte]);try refine ah rfl ?_
 refine bH (fun m f H'=> ∃k st,k≤16∧m=16-k∧st=aJ [b,w] (stA x) k∧k≤st.2.length∧f 2=P 0 0∧f 5=P 1 0∧f 6=S 2 0 st.2.length 1∧f 7=I k∧H'=[some (DC n b w),some (st.1.map B),some (st.2.map N8)]) (16) ?_ ?_
 ·exact ⟨_,_,Gh.refl,0,stA x,by omega,by omega,rfl,Nat.zero_le _,aj,aj,aj,aj,by simp [stA,jB]⟩
 ·rintro m f H' R ⟨k,st,hk,rfl,hst,hkl,g2,g5,g6,g7,rfl⟩ hN hX hR hE
  simp only [bK.l1,aB]
  have hB:=(DT hx16).aJ gQ k
  rw [←hst] at hB
  replace hst:=hst.symm
  have hle:=hB.le
  have hsl:=hB.len
  refine au fun Kr hKr=>?_;simp (disch:=omega) only [RA,↓reduceIte,Nat.reduceEqDiff,Nat.reduceBEq,Nat.reduceSub,Nat.reduceAdd,Nat.reduceMul,Nat.reduceLT,Nat.reduceLeDiff,Int.reduceLE,Int.reduceLT,Int.reduceEq,Int.reduceNeg,Int.reduceToNat,Int.reduceMul,Int.reduceAdd,Int.reduceSub,Int.reduceBEq,Int.reduceBNe,reduceCtorEq,RD,g6,g7];refine hKr _ _ ?_;clear hKr Kr;(try simp only [RN,reduceIte]);try refine ah rfl ?_
  refine bG (p:=k<st.2.length) (by simp only [RA,↓reduceIte,Nat.reduceEqDiff,Nat.reduceBEq,Nat.reduceSub,Nat.reduceAdd,Nat.reduceMul,Nat.reduceLT,Nat.reduceLeDiff,Int.reduceLE,Int.reduceLT,Int.reduceEq,Int.reduceNeg,Int.reduceToNat,Int.reduceMul,Int.reduceAdd,Int.reduceSub,Int.reduceBEq,Int.reduceBNe,reduceCtorEq]<;>rfl) (by (try simp only [RB])<;>first|done|exact Iff.rfl|omega|simp) (fun hc=>?_) (fun hc=>?_)<;>(try simp only [RN,reduceIte])<;>(try refine ah rfl ?_)
  ·have hxk:=hB.lt k hc
   have qj:k<st.2.length:=by assumption
   have h1:=hb16 (nl st.2 k)
   have h2:=hw16 (nl st.2 k)
   obtain ⟨pr,hpr⟩: ∃pr,pr=[nl b (nl st.2 k),nl w (nl st.2 k)]:=⟨_,rfl⟩
   have hpl:pr.length=2:=by rw [hpr];rfl
   have qm: ∀j,j<2→nl pr j=nl ([b,w].getD j []) (nl st.2 k):=fun j hj=>by rw [hpr];exact Q7 hj
   (first|refine bY rfl ?_|refine bZ rfl ?_);(try simp only [RN,reduceIte]);try refine ah rfl ?_
   refine au fun Kr hKr=>?_;simp (disch:=omega) only [RA,↓reduceIte,Nat.reduceEqDiff,Nat.reduceBEq,Nat.reduceSub,Nat.reduceAdd,Nat.reduceMul,Nat.reduceLT,Nat.reduceLeDiff,Int.reduceLE,Int.reduceLT,Int.reduceEq,Int.reduceNeg,Int.reduceToNat,Int.reduceMul,Int.reduceAdd,Int.reduceSub,Int.reduceBEq,Int.reduceBNe,reduceCtorEq,RD,g2,g6,g7,aI,aQ,QZ];refine hKr _ _ ?_;clear hKr Kr;(try simp only [RN,reduceIte]);try refine ah rfl ?_
   refine bH (fun m f H'=> ∃j st',j≤2∧m=2-j∧st'=fM ([b,w].take j) (nl st.2 k) st∧f 2=P 0 0∧f 5=P 1 0∧f 6=S 2 0 st'.2.length 1∧f 7=I k∧f 36=S 3 0 2 1∧f 37=I 2∧f 38=I j∧H'=[some (DC n b w),some (st'.1.map B),some (st'.2.map N8),some (pr.map N8)]) (2) ?_ ?_
   ·exact ⟨_,_,Gh.refl,0,st,by omega,by omega,rfl,aj,aj,aj,aj,aj,aj,aj,by rw [hpr];rfl⟩
   ·clear g2 g5 g6 g7 hpr
    rintro m f H' R2 ⟨j,st',hj,rfl,hst',g2,g5,g6,g7,DU,DW,uQ,rfl⟩ lu hX2 hR2 hE2
    simp only [bK.l0,aB]
    refine au fun Kr hKr=>?_;simp (disch:=omega) only [RA,↓reduceIte,Nat.reduceEqDiff,RD,DW,uQ];refine hKr _ _ ?_;clear hKr Kr;(try simp only [RN,reduceIte]);try refine ah rfl ?_
    have hB':Bi 16 st':=by rw [hst'];exact hB.round fun p hp=>gQ p (List.mem_of_mem_take hp) _
    have hle':=hB'.le
    have je:=hB'.len
    refine bG (p:=j<2) (by simp only [RA,↓reduceIte,Nat.reduceEqDiff]<;>rfl) (by (try simp only [RB])<;>first|done|exact Iff.rfl|omega|simp) (fun hc=>?_) (fun hc=>?_)<;>(try simp only [RN,reduceIte])<;>(try refine ah rfl ?_)
    ·have hnx:=uS (ls:=[b,w]) (x:=nl st.2 k) (st:=st) hc
     rw [←hst',←qm j hc] at hnx
     have hyl:nl pr j<16:=by
      rw [qm j hc]
      exact gQ _ (getD_mem hc) _
     obtain ⟨y,jf⟩: ∃y,nl pr j=y:=⟨_,rfl⟩
     rw [jf] at hyl hnx
     have hxi:y<16:=hyl
     have hnext: ∀f' st2,f' 2=P 0 0→f' 5=P 1 0→f' 6=S 2 0 st2.2.length 1→f' 7=I k→f' 36=S 3 0 2 1→f' 37=I 2→f' 38=I j→st2=visit st' y→T 0 bK.r13 R2 f' [some (DC n b w),some (st2.1.map B),some (st2.2.map N8),some (pr.map N8)]:=by
      intro f' st2 g2 g5 g6 g7 DU DW uQ hs2
      refine bI fun Kr hKr=>?_;simp (disch:=omega) only [RA,↓reduceIte,Nat.reduceEqDiff,RD,uQ];refine hKr _ _ ?_;clear hKr Kr
      exact lu (2-(j+1)) _ _ _ _ (by omega) Gh.refl ⟨j+1,st2,by omega,rfl,by rw [hnx,hs2],aj,aj,aj,aj,aj,aj,aj,rfl⟩
     (first|refine bY rfl ?_|refine bZ rfl ?_);(try simp only [RN,reduceIte]);try refine ah rfl ?_
     refine au fun Kr hKr=>?_;simp (disch:=omega) only [RA,↓reduceIte,Nat.reduceEqDiff,RD,DU,uQ,hpl,jf];refine hKr _ _ ?_;clear hKr Kr;(try simp only [RN,reduceIte]);try refine ah rfl ?_
     refine au fun Kr hKr=>?_;simp (disch:=omega) only [RA,↓reduceIte,Nat.reduceEqDiff,Nat.reduceBEq,Nat.reduceSub,Nat.reduceAdd,Nat.reduceMul,Nat.reduceLT,Nat.reduceLeDiff,Int.reduceLE,Int.reduceLT,Int.reduceEq,Int.reduceNeg,Int.reduceToNat,Int.reduceMul,Int.reduceAdd,Int.reduceSub,Int.reduceBEq,Int.reduceBNe,reduceCtorEq,RD,g5,je];refine hKr _ _ ?_;clear hKr Kr;(try simp only [RN,reduceIte]);try refine ah rfl ?_
     refine bG (p:= ¬bl st'.1 y=true) (by simp only [RA,↓reduceIte,Nat.reduceEqDiff,Nat.reduceBEq,Nat.reduceSub,Nat.reduceAdd,Nat.reduceMul,Nat.reduceLT,Nat.reduceLeDiff,Int.reduceLE,Int.reduceLT,Int.reduceEq,Int.reduceNeg,Int.reduceToNat,Int.reduceMul,Int.reduceAdd,Int.reduceSub,Int.reduceBEq,Int.reduceBNe,reduceCtorEq]<;>rfl) (by (try simp only [RB])<;>first|done|exact Iff.rfl|omega|simp) (fun hc=>?_) (fun hc=>?_)<;>(try simp only [RN,reduceIte])<;>(try refine ah rfl ?_)
     ·refine au fun Kr hKr=>?_;simp (disch:=omega) only [RA,↓reduceIte,Nat.reduceEqDiff,Nat.reduceBEq,Nat.reduceSub,Nat.reduceAdd,Nat.reduceMul,Nat.reduceLT,Nat.reduceLeDiff,Int.reduceLE,Int.reduceLT,Int.reduceEq,Int.reduceNeg,Int.reduceToNat,Int.reduceMul,Int.reduceAdd,Int.reduceSub,Int.reduceBEq,Int.reduceBNe,reduceCtorEq,RD,g5,je];refine hKr _ _ ?_;clear hKr Kr;(try simp only [RN,reduceIte]);try refine ah rfl ?_
      refine au fun Kr hKr=>?_;simp (disch:=omega) only [RA,↓reduceIte,Nat.reduceEqDiff,Nat.reduceBEq,Nat.reduceSub,Nat.reduceAdd,Nat.reduceMul,Nat.reduceLT,Nat.reduceLeDiff,Int.reduceLE,Int.reduceLT,Int.reduceEq,Int.reduceNeg,Int.reduceToNat,Int.reduceMul,Int.reduceAdd,Int.reduceSub,Int.reduceBEq,Int.reduceBNe,reduceCtorEq,RD,g6];refine hKr _ _ ?_;clear hKr Kr;(try simp only [RN,reduceIte]);try refine ah rfl ?_
      refine jg (Gh.nrm [0,1,5,3] rfl rfl (by simp only [RH,kJ])) ?_
      refine hnext _ (st'.1.set y true,st'.2++[y]) aj aj aj aj aj aj aj ?_
      rw [visit,if_neg hc]
     ·(try simp only [RN,reduceIte]);try refine ah rfl ?_
      refine hnext _ st' aj aj aj aj aj aj aj ?_
      rw [visit,if_pos (by simpa using hc)]
    ·refine hX2 _ _ ?_
     obtain rfl:j=2:=by omega
     have hst2:st'=aJ [b,w] (stA x) (k+1):=by
      rw [hst',aJ,hst,if_pos qj];rfl
     obtain ⟨q,hq⟩:= @lC (nl st.2 k) ([b,w].take 2) st
     have hlq:k+1≤st'.2.length:=by rw [hst',hq];simp;omega
     refine bI fun Kr hKr=>?_;simp (disch:=omega) only [RA,↓reduceIte,Nat.reduceEqDiff,RD,g7];refine hKr _ _ ?_;clear hKr Kr
     refine hN (16-(k+1)) _ _ _ _ (by omega) (Gh.nrm [0,1,2] rfl rfl (by simp only [RH,kJ])) ⟨k+1,st',by omega,rfl,hst2,hlq,aj,aj,aj,aj,rfl⟩
  ·refine hX _ _ ?_
   have hfin:aJ [b,w] (stA x) 16=st:=by rw [qo (i:=k) (by rw [hst];omega) 16 hk,hst]
   refine au fun Kr hKr=>?_;simp (disch:=omega) only [RA,↓reduceIte,Nat.reduceEqDiff,Nat.reduceBEq,Nat.reduceSub,Nat.reduceAdd,Nat.reduceMul,Nat.reduceLT,Nat.reduceLeDiff,Int.reduceLE,Int.reduceLT,Int.reduceEq,Int.reduceNeg,Int.reduceToNat,Int.reduceMul,Int.reduceAdd,Int.reduceSub,Int.reduceBEq,Int.reduceBNe,reduceCtorEq,RD,g6];refine hKr _ _ ?_;clear hKr Kr;(try simp only [RN,reduceIte]);try refine ah rfl ?_
   refine aS (by simp (disch:=omega) only [RA,↓reduceIte,Nat.reduceEqDiff,RD,resAll,resOf,g6];rfl) aG.refl ?_;simp only [tup]
   rw [ord,hfin]
   exact ⟨2,rfl,rfl⟩
theorem Rf {x0:Bool} {n x:Nat} {b w:List Nat} {H:BH} {K:Value→BH→Prop} (hb:By 16 b) (hw:By 16 w) (hd:bg n b w) (hx:x<n)
  (hK:K (Fz (ord b w x).length 1 ((ord b w x).map N8)) H):aA x0 Dc [DV n b w,I x] H K:=
 uT (.cons fV (.cons .int .nil)) iE (by simp) (Q8 hb hw hd hx) hK
theorem Rh {l:List Nat} {k:Nat} (hk:k≤16):By 16 (eF l k):=⟨qp,fun i=>by have:= @Ri l k i;omega⟩
theorem DX {x0:Bool} {n x:Nat} {b w:List Nat} {H:BH} {K:Value→BH→Prop} (hb:By 16 b) (hw:By 16 w) (hd:bg n b w) (hx:x<n)
  (hK:K (PL (dJ b w x)) H):aA x0 OV [DV n b w,I x] H K:=by
 have hlb:=hb.len
 have fH:=hw.len
 have hn:=hd.1.1
 have hol:=kK hd hx
 have hlt: ∀j,j<(ord b w x).length→nl (ord b w x) j<16:=fun j hj=>by
  have:=yg hd hx (j:=j) (by omega)
  omega
 rw [dJ] at hK
 refine cO (by exact .cons fV (.cons .int .nil)) ?_
 refine aZ PK ?_;simp only [eU,aB]
 refine au fun Kr hKr=>?_;simp (disch:=omega) only [RA,↓reduceIte,Nat.reduceEqDiff,RD,aI];refine hKr _ _ ?_;clear hKr Kr;(try simp only [RN,reduceIte]);try refine ah rfl ?_
 refine au fun Kr hKr=>?_;simp (disch:=omega) only [RA,↓reduceIte,Nat.reduceEqDiff,RD];refine hKr _ _ ?_;clear hKr Kr;(try simp only [RN,reduceIte]);try refine ah rfl ?_
 refine au fun Kr hKr=>?_;simp (disch:=omega) only [RA,↓reduceIte,Nat.reduceEqDiff,RD,aI,aQ]
 refine Rf hb hw hd hx ?_
 generalize ord b w x=l at hol hlt hK
 have gQ:l.length≤16:=by omega
 simp (disch:=omega) only [RA,↓reduceIte,Nat.reduceEqDiff,RD]
 refine hKr _ _ ?_;clear hKr Kr;(try simp only [aK,aO,aN]);(try simp only [RN,reduceIte]);try refine ah rfl ?_
 refine bH (fun m f H'=> ∃k,k≤l.length∧m=l.length-k∧f 4=P 1 0∧f 5=P 2 0∧f 11=Fz l.length 1 (l.map N8)∧f 12=I l.length∧f 13=I k∧H'=[some (DC n b w),some (List.replicate 16 (.int .u8 0)),some ((eF l k).map N8)]) (l.length) ?_ ?_
 ·exact ⟨_,_,Gh.refl,0,by omega,by omega,aj,aj,aj,aj,aj,by simp [eF]⟩
 ·clear hol
  rintro m f H' R ⟨k,hk,rfl,g4,g5,g11,g12,g13,rfl⟩ hN hX hR hE
  simp only [eU.l0,aB]
  have hnl:= @qp l k
  refine au fun Kr hKr=>?_;simp (disch:=omega) only [RA,↓reduceIte,Nat.reduceEqDiff,RD,g12,g13];refine hKr _ _ ?_;clear hKr Kr;(try simp only [RN,reduceIte]);try refine ah rfl ?_
  refine bG (p:=k<l.length) (by simp only [RA,↓reduceIte,Nat.reduceEqDiff]<;>rfl) (by (try simp only [RB])<;>first|done|exact Iff.rfl|omega|simp) (fun hc=>?_) (fun hc=>?_)<;>(try simp only [RN,reduceIte])<;>(try refine ah rfl ?_)
  ·have h16:=hlt k hc
   (first|refine bY rfl ?_|refine bZ rfl ?_);(try simp only [RN,reduceIte]);try refine ah rfl ?_
   refine au fun Kr hKr=>?_;simp (disch:=omega) only [RA,↓reduceIte,Nat.reduceEqDiff,RD,g11,g13];refine hKr _ _ ?_;clear hKr Kr;(try simp only [RN,reduceIte]);try refine ah rfl ?_
   refine au fun Kr hKr=>?_;simp (disch:=omega) only [RA,↓reduceIte,Nat.reduceEqDiff,RD,g5,hnl];refine hKr _ _ ?_;clear hKr Kr;(try simp only [RN,reduceIte]);try refine ah rfl ?_
   refine bI fun Kr hKr=>?_;simp (disch:=omega) only [RA,↓reduceIte,Nat.reduceEqDiff,RD,g13];refine hKr _ _ ?_;clear hKr Kr
   exact hN (l.length-(k+1)) _ _ _ _ (by omega) Gh.refl ⟨k+1,by omega,rfl,aj,aj,aj,aj,aj,rfl⟩
  ·refine hX _ _ ?_
   obtain rfl:k=l.length:=by omega
   refine au fun Kr hKr=>?_;simp (disch:=omega) only [RA,↓reduceIte,Nat.reduceEqDiff,RD,g4,g5,hnl];refine hKr _ _ ?_;clear hKr Kr;(try simp only [RN,reduceIte]);try refine ah rfl ?_
   refine aS (by simp (disch:=omega) only [RA,↓reduceIte,Nat.reduceEqDiff,RD,resAll,resOf,g4,hnl];rfl) aG.refl ?_;simp only [tup]
   exact ⟨gu iE,hK⟩
theorem yh {p nm:List Nat} (hl: ∀i,nl nm i<256): ∀{k:Nat},By 16 (dN p nm k)
 |0=>By.rep
 |k+1=>(yh hl).set (hl _)
theorem DY {x0:Bool} {n:Nat} {b w nm:List Nat} {H:BH} {K:Value→BH→Prop} (hb:By 16 b) (hw:By 16 w) (hd:bg n b w) (hm:By 16 nm) (yj: ∀i,nl nm i<16)
  (hK:K (DV n (dN b nm n) (dN w nm n)) H):aA x0 OU [DV n b w,PL nm] H K:=by
 have hlb:=hb.len
 have fH:=hw.len
 have hlm:=hm.len
 have hz:=fZ
 have hn:=hd.1.1
 have hb16:=fun i=>hd.1.iD hlb i
 have hw16:=fun i=>hd.2.1.iD fH i
 refine cO (by exact .cons fV (.cons (gu iE) .nil)) ?_
 refine aZ PG ?_;simp only [dZ,aB]
 refine au fun Kr hKr=>?_;simp (disch:=omega) only [RA,↓reduceIte,Nat.reduceEqDiff,RD,aI];refine hKr _ _ ?_;clear hKr Kr;(try simp only [RN,reduceIte]);try refine ah rfl ?_
 refine au fun Kr hKr=>?_;simp (disch:=omega) only [RA,↓reduceIte,Nat.reduceEqDiff,RD,aI,aQ];refine hKr _ _ ?_;clear hKr Kr;(try simp only [RN,reduceIte]);try refine ah rfl ?_
 refine au fun Kr hKr=>?_;simp (disch:=omega) only [RA,↓reduceIte,Nat.reduceEqDiff,RD,aI];refine hKr _ _ ?_;clear hKr Kr;(try simp only [RN,reduceIte]);try refine ah rfl ?_
 refine bH (fun m f H'=> ∃k,k≤n∧m=n-k∧f 2=P 0 0∧f 3=P 1 0∧f 4=P 2 0∧f 5=P 3 0∧f 11=I n∧f 12=I k∧H'=[some (DC n b w),some (nm.map N8),some (DC 0 dG dG),some (DC n (dN b nm k) (dN w nm k))]) (n) ?_ ?_
 ·exact ⟨_,_,Gh.refl,0,by omega,by omega,aj,aj,aj,aj,aj,aj,rfl⟩
 ·rintro m f H' R ⟨k,hk,rfl,g2,g3,g4,g5,g11,g12,rfl⟩ hN hX hR hE
  simp only [dZ.l0,aB]
  have hl1:= @jQ b nm k
  have hl2:= @jQ w nm k
  refine au fun Kr hKr=>?_;simp (disch:=omega) only [RA,↓reduceIte,Nat.reduceEqDiff,RD,g11,g12];refine hKr _ _ ?_;clear hKr Kr;(try simp only [RN,reduceIte]);try refine ah rfl ?_
  refine bG (p:=k<n) (by simp only [RA,↓reduceIte,Nat.reduceEqDiff]<;>rfl) (by (try simp only [RB])<;>first|done|exact Iff.rfl|omega|simp) (fun hc=>?_) (fun hc=>?_)<;>(try simp only [RN,reduceIte])<;>(try refine ah rfl ?_)
  ·have h1:=hb16 k
   have h2:=hw16 k
   have h3:=yj k
   have hl3:((dN b nm k).set (nl nm k) (nl nm (nl b k))).length=16:=by rw [List.length_set];exact hl1
   (first|refine bY rfl ?_|refine bZ rfl ?_);(try simp only [RN,reduceIte]);try refine ah rfl ?_
   refine au fun Kr hKr=>?_;simp (disch:=omega) only [RA,↓reduceIte,Nat.reduceEqDiff,RD,g12];refine hKr _ _ ?_;clear hKr Kr;(try simp only [RN,reduceIte]);try refine ah rfl ?_
   refine au fun Kr hKr=>?_;simp (disch:=omega) only [RA,↓reduceIte,Nat.reduceEqDiff,RD,g2,g3,g5,aI,aQ];refine hKr _ _ ?_;clear hKr Kr;(try simp only [RN,reduceIte]);try refine ah rfl ?_
   refine au fun Kr hKr=>?_;simp (disch:=omega) only [RA,↓reduceIte,Nat.reduceEqDiff,RD,g2,g3,g5,aI,aQ];refine hKr _ _ ?_;clear hKr Kr;(try simp only [RN,reduceIte]);try refine ah rfl ?_
   refine bI fun Kr hKr=>?_;simp (disch:=omega) only [RA,↓reduceIte,Nat.reduceEqDiff,RD,g12];refine hKr _ _ ?_;clear hKr Kr
   exact hN (n-(k+1)) _ _ _ _ (by omega) Gh.refl ⟨k+1,by omega,rfl,aj,aj,aj,aj,aj,aj,rfl⟩
  ·refine hX _ _ ?_
   obtain rfl:k=n:=by omega
   refine au fun Kr hKr=>?_;simp (disch:=omega) only [RA,↓reduceIte,Nat.reduceEqDiff,RD,g4,g5,aI,aQ];refine hKr _ _ ?_;clear hKr Kr;(try simp only [RN,reduceIte]);try refine ah rfl ?_
   refine aS (by simp (disch:=omega) only [RA,↓reduceIte,Nat.reduceEqDiff,RD,resAll,resOf,g4,aI,aQ];rfl) aG.refl ?_;simp only [tup]
   exact ⟨fV,hK⟩
def yu (c:Option (List Value)) (len e b o:Nat) (lo hi:Option Value):Option Value:=
 match c with
 |some cs=>if o+len*e≤cs.length then (gy len lo hi).map fun (l,h)=>S b (o+l*e) (h-l) e else none
 |none=>none
theorem Rj {len e b o:Nat} {H:BH} {lo hi:Option Value}:yw len e H (P b o) lo hi=yu (blk H b) len e b o lo hi:=rfl
theorem Rk {cs:List Value} {len e b o:Nat} (h:o+len*e≤cs.length):yu (some cs) len e b o none none=some (S b o len e):=by
 simp [yu,h,Rl]
theorem DZ {x0:Bool} {p q:List Nat} {H:BH} {K:Value→BH→Prop} (hp:By 16 p) (hq:By 16 q) (hK:K (I (iO p q)) H):aA x0 xG [PL p,PL q] H K:=by
 have hlp:=hp.len
 have hlq:=hq.len
 have h1:(p.map N8).length=16:=by simpa using hlp
 have h2:(q.map N8).length=16:=by simpa using hlq
 refine cO (by exact .cons (gu iE) (.cons (gu iE) .nil)) ?_
 refine aZ PN ?_;simp only [jM,aB]
 refine au fun Kr hKr=>?_;simp (disch:=omega) only [RA,↓reduceIte,Nat.reduceEqDiff,RD];refine hKr _ _ ?_;clear hKr Kr;(try simp only [RN,reduceIte]);try refine ah rfl ?_
 refine au fun Kr hKr=>?_;simp (disch:=omega) only [RA,↓reduceIte,Nat.reduceEqDiff,RD,Rj,Rk]
 refine cast (congrArg (fun n:Nat×Nat=>aA true mP [S 0 0 n.1 1,S 1 0 n.2 1] [some (p.map N8),some (q.map N8)] _) (Prod.ext hlp hlq:(p.length,q.length)=(16,16))) ?_
 refine QY rfl rfl (by omega) (by omega) ?_
 simp (disch:=omega) only [RA,↓reduceIte,Nat.reduceEqDiff,RD]
 refine hKr _ _ ?_;clear hKr Kr;(try simp only [aK,aO,aN]);(try simp only [RN,reduceIte]);try refine ah rfl ?_
 refine aS (by simp (disch:=omega) only [RA,↓reduceIte,Nat.reduceEqDiff,RD,resAll,resOf];rfl) aG.refl ?_;simp only [tup]
 exact ⟨.int,hK⟩
def jO (x y:L2):Int:=if iO x.1 y.1=0 then iO x.2 y.2 else iO x.1 y.1
theorem Dt {x y:L2} (h1:By 16 x.1) (h2:By 16 x.2) (h3:By 16 y.1) (h4:By 16 y.2):jO x y<0↔bC x y:=by
 have a:=xZ (by rw [h1.len,h3.len]) h1.mem h3.mem
 have b:=xZ (by rw [h2.len,h4.len]) h2.mem h4.mem
 unfold jO bC
 by_cases e:x.1=y.1
 ·rw [if_pos (a.2.2 e),b.1]
  constructor
  ·intro h;exact .inr ⟨e,h⟩
  ·rintro (h|h)
   ·rw [e] at h;exact absurd h (List.lt_irrefl _)
   ·exact h.2
 ·rw [if_neg (fun h=>e (a.2.1 h)),a.1]
  constructor
  ·intro h;exact .inl h
  ·rintro (h|h)
   ·exact h
   ·exact absurd h.1 e
theorem Dz {x0:Bool} {n m:Int} {b w b' w':List Nat} {H:BH} {K:Value→BH→Prop} (hb:By 16 b) (hw:By 16 w) (hb':By 16 b') (hw':By 16 w')
  (hK:K (I (jO (b,w) (b',w'))) H):aA x0 pV [DV n b w,DV m b' w'] H K:=by
 have hlb:=hb.len
 have fH:=hw.len
 have Rn:=hb'.len
 have Ro:=hw'.len
 refine cO (by exact .cons fV (.cons fV .nil)) ?_
 refine aZ Pq ?_;simp only [gW,aB]
 refine au fun Kr hKr=>?_;simp (disch:=omega) only [RA,↓reduceIte,Nat.reduceEqDiff,RD,aI];refine hKr _ _ ?_;clear hKr Kr;(try simp only [RN,reduceIte]);try refine ah rfl ?_
 refine au fun Kr hKr=>?_;simp (disch:=omega) only [RA,↓reduceIte,Nat.reduceEqDiff,RD,aI,aQ]
 refine DZ hb hb' ?_
 simp (disch:=omega) only [RA,↓reduceIte,Nat.reduceEqDiff,RD]
 refine hKr _ _ ?_;clear hKr Kr;(try simp only [aK,aO,aN]);(try simp only [RN,reduceIte]);try refine ah rfl ?_
 refine au fun Kr hKr=>?_;simp (disch:=omega) only [RA,↓reduceIte,Nat.reduceEqDiff,RD];refine hKr _ _ ?_;clear hKr Kr;(try simp only [RN,reduceIte]);try refine ah rfl ?_
 refine bG (p:= ¬iO b b'=0) (by simp only [RA,↓reduceIte,Nat.reduceEqDiff]<;>rfl) (by (try simp only [RB])<;>first|done|exact Iff.rfl|omega|simp) (fun hc=>?_) (fun hc=>?_)<;>(try simp only [RN,reduceIte])<;>(try refine ah rfl ?_)
 ·refine au fun Kr hKr=>?_;simp (disch:=omega) only [RA,↓reduceIte,Nat.reduceEqDiff,RD];refine hKr _ _ ?_;clear hKr Kr;(try simp only [RN,reduceIte]);try refine ah rfl ?_
  refine aS (by simp (disch:=omega) only [RA,↓reduceIte,Nat.reduceEqDiff,RD,resAll,resOf];rfl) aG.refl ?_;simp only [tup]
  rw [jO,if_neg hc] at hK
  exact ⟨.int,hK⟩
 ·rw [jO,if_pos (Decidable.not_not.1 hc)] at hK
  refine au fun Kr hKr=>?_;simp (disch:=omega) only [RA,↓reduceIte,Nat.reduceEqDiff,RD,aI,aQ]
  refine DZ hw hw' ?_
  simp (disch:=omega) only [RA,↓reduceIte,Nat.reduceEqDiff,RD]
  refine hKr _ _ ?_;clear hKr Kr;(try simp only [aK,aO,aN]);(try simp only [RN,reduceIte]);try refine ah rfl ?_
  refine aS (by simp (disch:=omega) only [RA,↓reduceIte,Nat.reduceEqDiff,RD,resAll,resOf];rfl) aG.refl ?_;simp only [tup]
  exact ⟨.int,hK⟩
theorem uU {b w:List Nat} {n x:Nat} (hd:bg n b w) (hx:x<n):By 16 (dJ b w x):=Rh (by rw [kK hd hx];have:=hd.1.1;omega)
theorem qw {b w:List Nat} {n x:Nat} (hd:bg n b w) (hx:x<n) (i:Nat):nl (dJ b w x) i<16:=by
 rcases Nat.lt_or_ge i n with h|h
 ·have:=(kL hd hx h).2
  have:=hd.1.1
  omega
 ·have hl:=kK hd hx
  have: ∀k,k≤(ord b w x).length→nl (eF (ord b w x) k) i=0:=by
   intro k
   induction k with
   |zero=>intro _;simp only [eF,jA];split<;>rfl
   |succ k ih=>
    intro hk
    rw [eF,fU,if_neg (fun e=>by have:=yg hd hx (j:=k) (by omega);omega),ih (by omega)]
  rw [dJ,this _ (Nat.le_refl _)]
  omega
theorem qx {b w:List Nat} {n x:Nat} (hd:bg n b w) (hx:x<n):By 16 (dA b w n x).1∧By 16 (dA b w n x).2:=by
 have h:=fun i=>Nat.lt_trans (qw hd hx i) (show 16<256 by omega)
 exact ⟨yh h,yh h⟩
theorem mZ {b w:List Nat} {n k:Nat} (hd:bg n b w) (hk:k<n):By 16 (iF b w n k).1∧By 16 (iF b w n k).2:=by
 obtain ⟨x,hx,e⟩:= @D5 b w n k
 rw [e]
 exact qx hd (by omega)
theorem Rq {x0:Bool} {n:Nat} {b w:List Nat} {H:BH} {K:Value→BH→Prop} (hb:By 16 b) (hw:By 16 w) (hd:bg n b w)
  (hK:K (DV n (eY b w n).1 (eY b w n).2) H):aA x0 OI [DV n b w] H K:=by
 have hlb:=hb.len
 have fH:=hw.len
 have hz:=fZ
 have hn:=hd.1.1
 refine cO (by exact .cons fV .nil) ?_
 refine aZ Po ?_;simp only [dY,aB]
 refine au fun Kr hKr=>?_;simp (disch:=omega) only [RA,↓reduceIte,Nat.reduceEqDiff,RD,aI];refine hKr _ _ ?_;clear hKr Kr;(try simp only [RN,reduceIte]);try refine ah rfl ?_
 refine au fun Kr hKr=>?_;simp (disch:=omega) only [RA,↓reduceIte,Nat.reduceEqDiff,Nat.reduceAdd,Nat.reduceMul,Int.reduceToNat,Nat.reduceLT,reduceCtorEq,RD,aI,aQ]
 have hq0:=qx (x:=0) hd (by omega)
 have l1:=hq0.1.len
 have l2:=hq0.2.len
 simp only [dA] at l1 l2
 refine DX (x:=0) hb hw hd (by omega) ?_
 simp (disch:=omega) only [RA,↓reduceIte,Nat.reduceEqDiff,Nat.reduceAdd,Nat.reduceMul,Int.reduceToNat,Nat.reduceLT,reduceCtorEq,RD,aI,aQ]
 refine DY hb hw hd (uU hd (by omega)) (qw hd (by omega)) ?_
 simp (disch:=omega) only [RA,↓reduceIte,Nat.reduceEqDiff,Nat.reduceAdd,Nat.reduceMul,Int.reduceToNat,Nat.reduceLT,reduceCtorEq,RD,aI,aQ]
 refine hKr _ _ ?_;clear hKr Kr;(try simp only [aK,aO,aN]);(try simp only [RN,reduceIte]);try refine ah rfl ?_
 refine au fun Kr hKr=>?_;simp (disch:=omega) only [RA,↓reduceIte,Nat.reduceEqDiff,RD];refine hKr _ _ ?_;clear hKr Kr;(try simp only [RN,reduceIte]);try refine ah rfl ?_
 clear l1 l2
 refine bH (fun m f H'=> ∃k r,k+1≤n∧m=n-(k+1)∧r=iF b w n k∧f 1=P 0 0∧f 2=P 1 0∧f 3=P 2 0∧f 4=I ((k+1:Nat):Int)∧H'=[some (DC n b w),some (DC 0 dG dG),some (DC n r.1 r.2)]) (n-1) ?_ ?_
 ·exact ⟨_,_,Gh.refl,0,dA b w n 0,by omega,by omega,rfl,aj,aj,aj,aj,rfl⟩
 ·rintro m f H' R ⟨k,r,hk,rfl,hr,g1,g2,g3,g4,rfl⟩ hN hX hR hE
  simp only [dY.l0,aB]
  have hrb:=mZ (k:=k) hd (by omega)
  rw [←hr] at hrb
  have l1:=hrb.1.len
  have l2:=hrb.2.len
  refine au fun Kr hKr=>?_;simp (disch:=omega) only [RA,↓reduceIte,Nat.reduceEqDiff,RD,g1,g4,aI];refine hKr _ _ ?_;clear hKr Kr;(try simp only [RN,reduceIte]);try refine ah rfl ?_
  refine bG (p:=k+1<n) (by simp only [RA,↓reduceIte,Nat.reduceEqDiff]<;>rfl) (by (try simp only [RB])<;>first|done|exact Iff.rfl|omega|simp) (fun hc=>?_) (fun hc=>?_)<;>(try simp only [RN,reduceIte])<;>(try refine ah rfl ?_)
  ·have hq:=qx hd hc
   have l3:=hq.1.len
   have l4:=hq.2.len
   simp only [dA] at l3 l4
   have e1:((k+1:Nat):Int)+1=((k+1+1:Nat):Int):=by omega
   (first|refine bY rfl ?_|refine bZ rfl ?_);(try simp only [RN,reduceIte]);try refine ah rfl ?_
   refine au fun Kr hKr=>?_;simp (disch:=omega) only [RA,↓reduceIte,Nat.reduceEqDiff,Nat.reduceAdd,Nat.reduceMul,Int.reduceToNat,Nat.reduceLT,reduceCtorEq,RD,g1,g4,aI,aQ]
   refine DX hb hw hd hc ?_
   simp (disch:=omega) only [RA,↓reduceIte,Nat.reduceEqDiff,Nat.reduceAdd,Nat.reduceMul,Int.reduceToNat,Nat.reduceLT,reduceCtorEq,RD,g1,g4,aI,aQ]
   refine DY hb hw hd (uU hd hc) (qw hd hc) ?_
   simp (disch:=omega) only [RA,↓reduceIte,Nat.reduceEqDiff,Nat.reduceAdd,Nat.reduceMul,Int.reduceToNat,Nat.reduceLT,reduceCtorEq,RD,g1,g4,aI,aQ]
   refine hKr _ _ ?_;clear hKr Kr;(try simp only [aK,aO,aN]);(try simp only [RN,reduceIte]);try refine ah rfl ?_
   refine au fun Kr hKr=>?_;simp (disch:=omega) only [RA,↓reduceIte,Nat.reduceEqDiff,RD,g3,aI,aQ]
   refine Dz hq.1 hq.2 hrb.1 hrb.2 ?_
   simp (disch:=omega) only [RA,↓reduceIte,Nat.reduceEqDiff,RD]
   refine hKr _ _ ?_;clear hKr Kr;(try simp only [aK,aO,aN]);(try simp only [RN,reduceIte]);try refine ah rfl ?_
   have hlt:=Dt (x:=dA b w n (k+1)) (y:=r) hq.1 hq.2 hrb.1 hrb.2
   have hlt':jO (dN b (dJ b w (k+1)) n,dN w (dJ b w (k+1)) n) (r.1,r.2)<0↔bC (dA b w n (k+1)) r:=hlt
   refine bG (p:=jO (dN b (dJ b w (k+1)) n,dN w (dJ b w (k+1)) n) (r.1,r.2)<0) (by simp only [RA,↓reduceIte,Nat.reduceEqDiff]<;>rfl) (by (try simp only [RB])<;>first|done|exact Iff.rfl|omega|simp) (fun hc=>?_) (fun hc=>?_)<;>(try simp only [RN,reduceIte])<;>(try refine ah rfl ?_)
   ·refine au fun Kr hKr=>?_;simp (disch:=omega) only [RA,↓reduceIte,Nat.reduceEqDiff,RD,g3,aI,aQ];refine hKr _ _ ?_;clear hKr Kr;(try simp only [RN,reduceIte]);try refine ah rfl ?_
    refine bI fun Kr hKr=>?_;simp (disch:=omega) only [RA,↓reduceIte,Nat.reduceEqDiff,RD,g4,e1];refine hKr _ _ ?_;clear hKr Kr
    refine hN (n-(k+1+1)) _ _ _ _ (by omega) (Gh.nrm [0,1,2] rfl rfl (by simp only [RH,kJ])) ⟨k+1,dA b w n (k+1),by omega,rfl,?_,aj,aj,aj,aj,rfl⟩
    rw [iF,←hr,if_pos (hlt'.1 hc)]
   ·(try simp only [RN,reduceIte]);try refine ah rfl ?_
    refine bI fun Kr hKr=>?_;simp (disch:=omega) only [RA,↓reduceIte,Nat.reduceEqDiff,RD,g4,e1];refine hKr _ _ ?_;clear hKr Kr
    refine hN (n-(k+1+1)) _ _ _ _ (by omega) (Gh.nrm [0,1,2] rfl rfl (by simp only [RH,kJ])) ⟨k+1,r,by omega,rfl,?_,aj,aj,aj,aj,rfl⟩
    rw [iF,←hr,if_neg (fun h=>hc (hlt'.2 h))]
  ·refine hX _ _ ?_
   obtain rfl:k=n-1:=by omega
   rw [eY,←hr] at hK
   refine au fun Kr hKr=>?_;simp (disch:=omega) only [RA,↓reduceIte,Nat.reduceEqDiff,RD,g2,g3,aI,aQ];refine hKr _ _ ?_;clear hKr Kr;(try simp only [RN,reduceIte]);try refine ah rfl ?_
   refine aS (by simp (disch:=omega) only [RA,↓reduceIte,Nat.reduceEqDiff,RD,resAll,resOf,g2,aI,aQ];rfl) aG.refl ?_;simp only [tup]
   exact ⟨fV,hK⟩
end Go.Bm
namespace Go.Bm.Q5
open Go Go.Am Go.Bm
open Classical in
noncomputable def okD (d:L2):L2:=if By 16 d.1∧By 16 d.2 then d else (dG,dG)
noncomputable def dH (n:Nat) (d:L2):Value:=DV n (okD d).1 (okD d).2
theorem pX:By 16 dG:=⟨fZ,fun i=>by rw [dG,jA];split<;>omega⟩
theorem D6 (d:L2):By 16 (okD d).1∧By 16 (okD d).2:=by
 unfold okD
 split
 ·assumption
 ·exact ⟨pX,pX⟩
theorem D7 {n:Nat} {d:L2} (h1:By 16 d.1) (h2:By 16 d.2):dH n d=DV n d.1 d.2:=by
 rw [dH,okD,if_pos ⟨h1,h2⟩]
abbrev uV:List IntKind:= .i64::List.replicate 32 .u8
theorem D8: ∀l:List Nat,(∀x∈l,x<256)→keyG (List.replicate l.length .u8) (l.map N8)=true
 |[],_=>rfl
 |x::l,h=>by
  have h1:=h x (by simp)
  have h2:=D8 l fun y hy=>h y (by simp [hy])
  have e1:IntKind.u8.min=0:=by decide
  have e2:IntKind.u8.max=255:=by decide
  rw [List.length_cons,List.replicate_succ,List.map_cons]
  show (decide (IntKind.u8= .u8)&&(decide (IntKind.u8.min≤(x:Int))&&decide ((x:Int)≤IntKind.u8.max))&&keyG _ _)=true
  rw [h2,e1,e2]
  simp
  omega
theorem D9 {n:Nat} (hn:n≤16) {b w:List Nat} (hb:By 16 b) (hw:By 16 w):keyV uV (DV n b w)=true:=by
 have h:=D8 (b++w) fun x hx=>(List.mem_append.1 hx).elim (hb.mem x) (hw.mem x)
 rw [List.length_append,hb.len,hw.len,List.map_append] at h
 have e1:IntKind.i64.min= -9223372036854775808:=by decide
 have e2:IntKind.i64.max=9223372036854775807:=by decide
 show (decide (IntKind.i64= .i64)&&(decide (IntKind.i64.min≤(n:Int))&&decide ((n:Int)≤IntKind.i64.max))&&keyG (List.replicate (16+16) IntKind.u8) (b.map N8++w.map N8))=true
 rw [h,e1,e2]
 simp
 omega
theorem Ea {n:Nat} (hn:n≤16) (d:L2):keyV uV (dH n d)=true:=D9 hn (D6 d).1 (D6 d).2
theorem Eb {n:Nat} (hn:n≤16) (s:List L2):(s.map (dH n)).all (keyV uV)=true:=List.all_eq_true.2 fun v hv=>by
 obtain ⟨d,_,rfl⟩:=List.mem_map.1 hv
 exact Ea hn d
theorem Rt {n:Nat} {ns:List Nat} (d:L2):ren ns (dH n d)=dH n d:=by
 have hp:(DC n (okD d).1 (okD d).2).all pl1=true:=List.all_eq_true.2 fun v hv=>by
  rcases List.mem_cons.1 hv with rfl|hv
  ·rfl
  ·rcases List.mem_append.1 hv with hv|hv<;>(obtain ⟨x,_,rfl⟩:=List.mem_map.1 hv;rfl)
 show (if (DC n (okD d).1 (okD d).2).all pl1=true then _ else _)=_
 rw [if_pos hp]
 rfl
theorem yx {n:Nat} {ns:List Nat} (s:List L2):(s.map (dH n)).map (ren ns)=s.map (dH n):=by
 rw [List.map_map]
 exact List.map_congr_left fun d _=>Rt d
section
variable (n:Nat) (black:List Nat)
def b0 (_:List L2):Option (List Value):=some [I n]
def b1 (_:List L2):Option (List Value):=some []
noncomputable def b2 (s:List L2):Option (List Value):=some (s.map (dH n))
def b3 (_:List L2):Option (List Value):=some [.map (some 1)]
def b4 (_:List L2):Option (List Value):=some (black.map N8)
def stepD (s:List L2) (w:List Nat):List L2:=if bg n black w then s++[eY black w n] else s
end
theorem Ru {n:Nat} {black:List Nat} (s:List L2):iM (List.range 5) (PM (b0 n) b1 (b2 n) b3 (b4 black) s)=PM (b0 n) b1 (b2 n) b3 (b4 black) s:=by
 show [_,_,_,_,_]=_
 unfold PM
 have e1:Option.map (List.map (ren (List.range 5))) (some (s.map (dH n)))=some (s.map (dH n)):=by rw [Option.map_some,yx]
 have e2:Option.map (List.map (ren (List.range 5))) (some (black.map N8))=some (black.map N8):=by rw [Option.map_some,yA]
 exact congr (congrArg List.cons rfl) (congr (congrArg List.cons rfl) (congr (congrArg List.cons e1) (congr (congrArg List.cons rfl) (congr (congrArg List.cons e2) rfl))))
noncomputable abbrev EA (n:Nat) (black:List Nat):List L2→List Nat→List Bool→BH:=EM (b0 n) b1 (b2 n) b3 (b4 black) uG [P 0 0,P 4 0,P 3 0] n
theorem Rw {n:Nat} {black p:List Nat} {used:List Bool} {s:List L2} {ex:BH}:iM (List.range 10) (EA n black s p used++ex)=EA n black s p used:=by
 show [_,_,_,_,_,_,_,_,_,_]=_
 unfold EA EM
 have e0:Option.map (List.map (ren (List.range 10))) (some (s.map (dH n)))=some (s.map (dH n)):=by rw [Option.map_some,yx]
 have e1:Option.map (List.map (ren (List.range 10))) (some (black.map N8))=some (black.map N8):=by rw [Option.map_some,yA]
 have e2:Option.map (List.map (ren (List.range 10))) (some (p.map N8))=some (p.map N8):=by rw [Option.map_some,yA]
 have e3:Option.map (List.map (ren (List.range 10))) (some (used.map B))=some (used.map B):=by rw [Option.map_some,Rx]
 have c2:Option.map (List.map (ren (List.range 10))) (some [clo uG [P 0 0,P 4 0,P 3 0]])=some [clo uG [P 0 0,P 4 0,P 3 0]]:=by
  rw [Option.map_some,List.map_cons,List.map_nil,Ec]
  rfl
 have c3:Option.map (List.map (ren (List.range 10))) (some [mV])=some [mV]:=by
  rw [Option.map_some,List.map_cons,List.map_nil,mV,Ec]
  rfl
 exact congr (congrArg List.cons rfl) (congr (congrArg List.cons rfl) (congr (congrArg List.cons e0) (congr (congrArg List.cons rfl) (congr (congrArg List.cons e1) (congr (congrArg List.cons rfl) (congr (congrArg List.cons c2) (congr (congrArg List.cons e2) (congr (congrArg List.cons e3) (congr (congrArg List.cons c3) rfl)))))))))
theorem Ry {n:Nat} {black:List Nat} (hn:n≤16) (hb:By 16 black) (hbp:Perm black n):DF (b0 n) b1 (b2 n) b3 (b4 black) uG [P 0 0,P 4 0,P 3 0] n (stepD n black):=by
 intro s w p used K hw hk
 have hwb:By 16 w:=⟨hw.2,fun i=>by have:=hw.1.iD hw.2 i;omega⟩
 have hlb:=hb.len
 have fH:=hw.2
 have hz:=fZ
 have gone: ∀{v:Value},getN none [v] 0=some v:=rfl
 have hfin: ∀(f':Fr) (s':List L2) (ex:BH),K (.tuple ⟨[]⟩) (EA n black s' p used)→jd 10 [] K .normal f' (EA n black s' p used++ex):=by
  intro f' s' ex hk
  refine xY (vs:=[]) rfl (aG.mX (List.range 10) List.nodup_range (fun j hj=>DN hj) .undef) ?_
  rw [Rw]
  exact hk
 refine aZ O8 ?_;simp only [iJ,aB]
 unfold EM b0 b1 b2 b3 b4
 refine au fun Kr hKr=>?_;simp (disch:=omega) only [RA,↓reduceIte,Nat.reduceEqDiff,Nat.reduceBEq,Nat.reduceSub,Nat.reduceAdd,Nat.reduceMul,Nat.reduceLT,Nat.reduceLeDiff,Int.reduceLE,Int.reduceLT,Int.reduceEq,Int.reduceNeg,Int.reduceToNat,Int.reduceMul,Int.reduceAdd,Int.reduceSub,Int.reduceBEq,Int.reduceBNe,reduceCtorEq,RD,aI,aQ,R4];refine hKr _ _ ?_;clear hKr Kr;(try simp only [RN,reduceIte]);try refine ah rfl ?_
 refine au fun Kr hKr=>?_;simp (disch:=omega) only [RA,↓reduceIte,Nat.reduceEqDiff,Nat.reduceBEq,Nat.reduceSub,Nat.reduceAdd,Nat.reduceMul,Nat.reduceLT,Nat.reduceLeDiff,Int.reduceLE,Int.reduceLT,Int.reduceEq,Int.reduceNeg,Int.reduceToNat,Int.reduceMul,Int.reduceAdd,Int.reduceSub,Int.reduceBEq,Int.reduceBNe,reduceCtorEq,RD,aI,aQ,R4,gone];refine hKr _ _ ?_;clear hKr Kr;(try simp only [RN,reduceIte]);try refine ah rfl ?_
 refine au fun Kr hKr=>?_;simp (disch:=omega) only [RA,↓reduceIte,Nat.reduceEqDiff,Nat.reduceBEq,Nat.reduceSub,Nat.reduceAdd,Nat.reduceMul,Nat.reduceLT,Nat.reduceLeDiff,Int.reduceLE,Int.reduceLT,Int.reduceEq,Int.reduceNeg,Int.reduceToNat,Int.reduceMul,Int.reduceAdd,Int.reduceSub,Int.reduceBEq,Int.reduceBNe,reduceCtorEq,RD,aI,aQ,R4,gone]
 refine Rz hb hwb hbp hw.1 ?_
 simp (disch:=omega) only [RA,↓reduceIte,Nat.reduceEqDiff,Nat.reduceBEq,Nat.reduceSub,Nat.reduceAdd,Nat.reduceMul,Nat.reduceLT,Nat.reduceLeDiff,Int.reduceLE,Int.reduceLT,Int.reduceEq,Int.reduceNeg,Int.reduceToNat,Int.reduceMul,Int.reduceAdd,Int.reduceSub,Int.reduceBEq,Int.reduceBNe,reduceCtorEq,RD,aI,aQ,R4]
 refine hKr _ _ ?_;clear hKr Kr;(try simp only [aK,aO,aN]);(try simp only [RN,reduceIte]);try refine ah rfl ?_
 by_cases hd:bg n black w
 ·have hc:By 16 (eY black w n).1∧By 16 (eY black w n).2:=mZ (k:=n-1) hd (by have:=hbp.1;omega)
  have e:dH n (eY black w n)=DV n (eY black w n).1 (eY black w n).2:=D7 hc.1 hc.2
  rw [stepD,if_pos hd] at hk
  refine ku (t:=true) (by simp (disch:=omega) only [RA,↓reduceIte,Nat.reduceEqDiff,Nat.reduceBEq,Nat.reduceSub,Nat.reduceAdd,Nat.reduceMul,Nat.reduceLT,Nat.reduceLeDiff,Int.reduceLE,Int.reduceLT,Int.reduceEq,Int.reduceNeg,Int.reduceToNat,Int.reduceMul,Int.reduceAdd,Int.reduceSub,Int.reduceBEq,Int.reduceBNe,reduceCtorEq,RD,decide_eq_true hd]) ?_;(try simp only [RN,reduceIte]);try refine ah rfl ?_
  refine bI fun Kr hKr=>?_;simp (disch:=omega) only [RA,↓reduceIte,Nat.reduceEqDiff,Nat.reduceBEq,Nat.reduceSub,Nat.reduceAdd,Nat.reduceMul,Nat.reduceLT,Nat.reduceLeDiff,Int.reduceLE,Int.reduceLT,Int.reduceEq,Int.reduceNeg,Int.reduceToNat,Int.reduceMul,Int.reduceAdd,Int.reduceSub,Int.reduceBEq,Int.reduceBNe,reduceCtorEq,RD,aI,aQ,R4,gone]
  refine Rq hb hwb hd ?_
  simp (disch:=omega) only [RA,↓reduceIte,Nat.reduceEqDiff,Nat.reduceBEq,Nat.reduceSub,Nat.reduceAdd,Nat.reduceMul,Nat.reduceLT,Nat.reduceLeDiff,Int.reduceLE,Int.reduceLT,Int.reduceEq,Int.reduceNeg,Int.reduceToNat,Int.reduceMul,Int.reduceAdd,Int.reduceSub,Int.reduceBEq,Int.reduceBNe,reduceCtorEq,RD,RG]
  rw [RI (qs:=uV) (i:=1) (ks:=s.map (dH n)) rfl rfl (D9 hn hc.1 hc.2) (Eb hn s)]
  refine hKr _ _ ?_;clear hKr Kr;(try simp only [aK,aO,aN]);(try simp only [RN,reduceIte]);try refine ah rfl ?_
  rw [←e]
  have h: ∀f',_:=fun f'=>hfin f' (s++[eY black w n]) [some (w.map N8),some (DC n black w)] hk
  have e2:(s++[eY black w n]).map (dH n)=s.map (dH n)++[dH n (eY black w n)]:=by rw [List.map_append];rfl
  unfold EA EM b2 at h
  rw [e2] at h
  exact h _
 ·rw [stepD,if_neg hd] at hk
  refine ku (t:=false) (by simp (disch:=omega) only [RA,↓reduceIte,Nat.reduceEqDiff,Nat.reduceBEq,Nat.reduceSub,Nat.reduceAdd,Nat.reduceMul,Nat.reduceLT,Nat.reduceLeDiff,Int.reduceLE,Int.reduceLT,Int.reduceEq,Int.reduceNeg,Int.reduceToNat,Int.reduceMul,Int.reduceAdd,Int.reduceSub,Int.reduceBEq,Int.reduceBNe,reduceCtorEq,RD,decide_eq_false hd]) ?_;(try simp only [RN,reduceIte]);try refine ah rfl ?_
  exact hfin _ s [some (w.map N8),some (DC n black w)] hk
end Go.Bm.Q5
namespace Go.Bm
open Go Go.Am
theorem RJ {x y:L2} (h:bC x y): ¬bC y x:=fun k=>qc x (lt2_trans h k)
def dO (d:L2):List L2→List L2
 |[]=>[d]
 |e::l=>if bC e d then e::dO d l else if bC d e then d::e::l else e::l
def dL (s:List L2):List L2:=s.foldl (fun l d=>dO d l) []
theorem ng {d x:L2}: ∀{l:List L2},x∈dO d l↔x=d∨x∈l
 |[]=>by simp [dO]
 |e::l=>by
  simp only [dO]
  split
  ·rw [List.mem_cons,ng (l:=l),List.mem_cons]
   constructor
   ·rintro (h|h|h)
    ·exact .inr (.inl h)
    ·exact .inl h
    ·exact .inr (.inr h)
   ·rintro (h|h|h)
    ·exact .inr (.inl h)
    ·exact .inl h
    ·exact .inr (.inr h)
  ·rename_i h1
   split
   ·simp
   ·rename_i h2
    have:=uJ h2 h1
    subst this
    simp
theorem yB {d:L2}: ∀{l:List L2},l.Pairwise bC→(dO d l).Pairwise bC
 |[],_=>by simp [dO]
 |e::l,h=>by
  obtain ⟨h1,h2⟩:=List.pairwise_cons.1 h
  simp only [dO]
  split
  ·rename_i hl
   refine List.pairwise_cons.2 ⟨fun x hx=>?_,yB h2⟩
   rcases ng.1 hx with rfl|hx
   ·exact hl
   ·exact h1 x hx
  ·split
   ·rename_i hl
    refine List.pairwise_cons.2 ⟨fun x hx=>?_,h⟩
    rcases List.mem_cons.1 hx with rfl|hx
    ·exact hl
    ·exact lt2_trans hl (h1 x hx)
   ·exact h
theorem Ed {x:L2}: ∀{s l:List L2},x∈s.foldl (fun l d=>dO d l) l↔x∈s∨x∈l
 |[],l=>by simp
 |d::s,l=>by
  rw [List.foldl_cons,Ed,ng,List.mem_cons]
  constructor
  ·rintro (h|h|h)
   ·exact .inl (.inr h)
   ·exact .inl (.inl h)
   ·exact .inr h
  ·rintro ((h|h)|h)
   ·exact .inr (.inl h)
   ·exact .inl h
   ·exact .inr (.inr h)
theorem Ee: ∀{s l:List L2},l.Pairwise bC→(s.foldl (fun l d=>dO d l) l).Pairwise bC
 |[],l,h=>h
 |d::s,l,h=>Ee (s:=s) (yB h)
theorem lF {x:L2} {s:List L2}:x∈dL s↔x∈s:=by rw [dL,Ed];simp
theorem Ef {s:List L2}:(dL s).Pairwise bC:=Ee .nil
theorem Eh: ∀{l k:List L2},l.Pairwise bC→k.Pairwise bC→(∀x,x∈l↔x∈k)→l=k
 |[],[],_,_,_=>rfl
 |[],y::k,_,_,h=>by have:=(h y).2 (by simp);cases this
 |x::l,[],_,_,h=>by have:=(h x).1 (by simp);cases this
 |x::l,y::k,h1,h2,h=>by
  obtain ⟨a1,a2⟩:=List.pairwise_cons.1 h1
  obtain ⟨c1,c2⟩:=List.pairwise_cons.1 h2
  have e:x=y:=by
   rcases List.mem_cons.1 ((h x).1 (by simp)) with e|hx
   ·exact e
   ·rcases List.mem_cons.1 ((h y).2 (by simp)) with e|hy
    ·exact e.symm
    ·exact absurd (c1 x hx) (RJ (a1 y hy))
  subst e
  rw [Eh a2 c2 fun z=>?_]
  have hz:=h z
  rw [List.mem_cons,List.mem_cons] at hz
  constructor
  ·intro hl
   rcases hz.1 (.inr hl) with rfl|hk
   ·exact absurd (a1 _ hl) (qc _)
   ·exact hk
  ·intro hk
   rcases hz.2 (.inr hk) with rfl|hl
   ·exact absurd (c1 _ hk) (qc _)
   ·exact hl
theorem yC {d:L2}: ∀{l:List L2},(dO d l).length≤l.length+1
 |[]=>by simp [dO]
 |e::l=>by
  simp only [dO]
  split
  ·simp only [List.length_cons]
   have:=yC (d:=d) (l:=l)
   omega
  ·split<;>simp
theorem RP {s:List L2}:(dL s).length≤s.length:=by
 have key: ∀(s l:List L2),(s.foldl (fun l d=>dO d l) l).length≤s.length+l.length:=by
  intro s
  induction s with
  |nil=>intro l;simp
  |cons d s ih=>
   intro l
   have h1:=ih (dO d l)
   have h2:=yC (d:=d) (l:=l)
   rw [List.foldl_cons,List.length_cons]
   omega
 simpa [dL] using key s []
end Go.Bm
namespace Go.Bm.Q5
open Go Go.Am Go.Bm
theorem uK: ∀(a a' b b':List Nat),a.length=a'.length→(a<a'∨(a=a'∧b<b'))→((a++b).map N8).map pU<((a'++b').map N8).map pU
 |[],[],b,b',_,h=>by
  have hb:b<b':=by
   rcases h with h|⟨_,h⟩
   ·exact absurd h (List.lt_irrefl _)
   ·exact h
  clear h
  simp only [List.nil_append]
  induction b generalizing b' with
  |nil=>
   cases b' with
   |nil=>exact absurd hb (List.lt_irrefl _)
   |cons y b'=>exact List.nil_lt_cons _ _
  |cons x b ih=>
   cases b' with
   |nil=>exact absurd hb (List.not_lt_nil _)
   |cons y b'=>
    simp only [List.map_cons]
    rw [List.cons_lt_cons_iff] at hb⊢
    rcases hb with hb|⟨rfl,hb⟩
    ·exact .inl (by show (x:Int)<y;omega)
    ·exact .inr ⟨rfl,ih b' hb⟩
 |[],y::a',_,_,hl,_=>by simp at hl
 |x::a,[],_,_,hl,_=>by simp at hl
 |x::a,y::a',b,b',hl,h=>by
  simp only [List.cons_append,List.map_cons]
  rw [List.cons_lt_cons_iff]
  have hl':a.length=a'.length:=by simpa using hl
  rcases h with h|⟨h1,h2⟩
  ·rw [List.cons_lt_cons_iff] at h
   rcases h with h|⟨rfl,h⟩
   ·exact .inl (by show (x:Int)<y;omega)
   ·exact .inr ⟨rfl,uK a a' b b' hl' (.inl h)⟩
  ·cases h1
   exact .inr ⟨rfl,uK a a b b' rfl (.inr ⟨rfl,h2⟩)⟩
theorem RQ {n:Nat} {d e:L2} (hd:d.1.length=16) (he:e.1.length=16) (h:bC d e):jL (DV n d.1 d.2) (DV n e.1 e.2):=by
 have:=uK d.1 e.1 d.2 e.2 (by omega) h
 have e1:(d.1++d.2).map N8=d.1.map N8++d.2.map N8:=List.map_append
 have e2:(e.1++e.2).map N8=e.1.map N8++e.2.map N8:=List.map_append
 rw [e1,e2] at this
 exact this
theorem yD {n:Nat} {d:L2}:(DC n d.1 d.2).all Am.plain=true:=List.all_eq_true.2 fun v hv=>by
 rcases List.mem_cons.1 hv with rfl|hv
 ·rfl
 ·rcases List.mem_append.1 hv with hv|hv<;>(obtain ⟨x,_,rfl⟩:=List.mem_map.1 hv;rfl)
def DL (n:Nat) (l:List L2):List Value:=l.flatMap fun d=>DC n d.1 d.2
theorem yE {n:Nat} {l:List L2}:aF (DL n l):=fun v hv=>by
 obtain ⟨d,_,hd⟩:=List.mem_flatMap.1 hv
 exact .plain (List.all_eq_true.1 (yD (n:=n) (d:=d)) v hd)
theorem RS {n i:Nat} {s:List L2} {H:BH} {K:Value→BH→Prop} {x:Bool} (hn:n≤16) (hs: ∀d∈s,By 16 d.1∧By 16 d.2) (hl:s.length≤1000000) (hi:blk H i=some []) (hk:blk H (i+1)=some (s.map (dH n)))
  (hK:K (S H.length 0 (dL s).length 33) (H++[some (DL n (dL s))])):aA x xF [.map (some i)] H K:=by
 intro ρ Z as HA h1 h2
 obtain ⟨u,us,rfl,hv,hl0⟩:=h1.gK
 obtain rfl:=hl0.fP
 obtain ⟨b,hb,hb1,rfl⟩:=hv.uX
 obtain ⟨b',⟨c1,w1⟩,q1,q2,q3,q4,q5⟩:=h2.bF i _ hi
 rw [hb] at q1
 cases q1
 obtain ⟨b'',gk,p1,p2,p3,p4,p5⟩:=h2.bF (i+1) _ hk
 rw [hb1] at p1
 cases p1
 have hks:gk.cells=s.map (dH n):=yF (Eb hn s) p5
 have hc1:c1=[]:=VL.fP q5
 have hw1:w1=true:=q4
 subst hc1;subst hw1
 have hky: ∀d∈dL s,dH n d=DV n d.1 d.2:=fun d hd=>by
  obtain ⟨a1,a2⟩:=hs d (lF.1 hd)
  exact D7 a1 a2
 have hmap:(dL s).map (dH n)=(dL s).map fun d=>DV n d.1 d.2:=List.map_congr_left hky
 have hfl:((dL s).map (dH n)).flatMap cellsL=DL n (dL s):=by
  rw [hmap,List.flatMap_map]
  rfl
 have hpl:(DL n (dL s)).all Am.plain=true:=List.all_eq_true.2 fun v hv=>by
  obtain ⟨d,_,hd⟩:=List.mem_flatMap.1 hv
  exact List.all_eq_true.1 (yD (n:=n) (d:=d)) v hd
 obtain ⟨r1,r2⟩:=h2.alloc (VL.plain (ρ:=ρ) (Z:=Z) hpl)
 refine ⟨Am.S HA.n 0 ((dL s).map (dH n)).length 33,HA.alloc (((dL s).map (dH n)).flatMap cellsL), .outer (.inr ⟨rfl,b,gk,n,(dL s).map (dH n),rfl,q3,p3,by rw [hks];simpa using hl,fun k hk=>?_,?_,fun k=>?_,rfl,rfl⟩),fun _=>Ext.alloc _ _,
  put ρ H.length HA.n,Z,S H.length 0 (dL s).length 33,_,?_,by rw [hfl];exact r1,by simp,fun j hj=>by simp only [put];rw [if_neg (by omega)],by rw [hfl];exact r2,hK⟩
 ·rw [hks] at hk
  obtain ⟨d,hd,rfl⟩:=List.mem_map.1 hk
  exact ⟨_,rfl,Ea hn d⟩
 ·rw [hmap,List.pairwise_map]
  refine Ef.imp_of_mem fun hd he hlt=>?_
  exact RQ (hs _ (lF.1 hd)).1.len (hs _ (lF.1 he)).1.len hlt
 ·rw [hks,List.mem_map,List.mem_map]
  constructor
  ·rintro ⟨d,hd,rfl⟩;exact ⟨d,lF.1 hd,rfl⟩
  ·rintro ⟨d,hd,rfl⟩;exact ⟨d,lF.2 hd,rfl⟩
 ·rw [List.length_map]
  exact .slice (by simp [put])
end Go.Bm.Q5
