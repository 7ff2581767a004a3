/- DpQm, DpQh, DpQf, DpQi, DpQj, DpSe, DpSd, DpQb -/
import Derived.Test.YtbpfbfbabpkceaaGreatBmM
import Derived.Test.YtbpfbfbabpkceaaGreatDpG2
import Derived.Test.YtbpfbfbabpkceaaGreatDpG4
import Derived.Test.YtbpfbfbabpkceaaGreatDpG5
import Derived.Test.YtbpfbfbabpkceaaGreatDpG7
set_option linter.unusedVariables false
set_option linter.unusedSimpArgs false
set_option linter.unusedSectionVars false
namespace Go.Bm.Q5
open Go Go.Am Go.Bm
theorem F6 {q m p o:Nat} {v:Value} (ho:o=p) (h:p<m) (hv:v=mkV q p):getN none (gQ q m) o=some v:=by
 subst ho;subst hv
 simp [getN,gQ,h]
section
variable {N q:Nat} {x:Bool} {H:BH} {K:Value→BH→Prop}
theorem SH (hN8:N≤100000) (hq:q≤100) (hK:K (I ((q+N*33:Nat):Int)) H):aB x HY [Fz N 33 (gQ q (N*33)),I q] H K:=by
 refine bf (.cons .fz (.cons .int .nil)) ?_
 refine aK Ik ?_;simp only [bG,aA]
 refine au fun Kr hKr=>?_;simp (disch:=omega) only [RA,↓reduceIte,Nat.reduceEqDiff,Nat.reduceBEq,Nat.reduceSub,Nat.reduceAdd,Nat.reduceMul,Nat.reduceLT,Nat.reduceLeDiff,Int.reduceLE,Int.reduceLT,Int.reduceEq,Int.reduceNeg,Int.reduceToNat,Int.reduceMul,Int.reduceAdd,Int.reduceSub,Int.reduceBEq,Int.reduceBNe,reduceCtorEq,RD];refine hKr _ _ ?_;clear hKr Kr;(try simp only [RN,reduceIte]);try refine aj rfl ?_
 refine au fun Kr hKr=>?_;simp (disch:=omega) only [RA,↓reduceIte,Nat.reduceEqDiff,Nat.reduceBEq,Nat.reduceSub,Nat.reduceAdd,Nat.reduceMul,Nat.reduceLT,Nat.reduceLeDiff,Int.reduceLE,Int.reduceLT,Int.reduceEq,Int.reduceNeg,Int.reduceToNat,Int.reduceMul,Int.reduceAdd,Int.reduceSub,Int.reduceBEq,Int.reduceBNe,reduceCtorEq,RD];refine hKr _ _ ?_;clear hKr Kr;(try simp only [RN,reduceIte]);try refine aj rfl ?_
 refine aS (fun m f H'=> ∃i,i≤N∧m=N-i∧f 0=Fz N 33 (gQ q (N*33))∧f 1=I ((q+i*33:Nat):Int)∧f 5=I i∧H'=[]) (N) ?_ ?_
 ·refine ⟨_,_,Gh.refl,0,by omega,by omega,?_,?_,?_,rfl⟩
  any_goals (simp (disch:=omega) only [RA,↓reduceIte,Nat.reduceEqDiff,Nat.reduceBEq,Nat.reduceSub,Nat.reduceAdd,Nat.reduceMul,Nat.reduceLT,Nat.reduceLeDiff,Int.reduceLE,Int.reduceLT,Int.reduceEq,Int.reduceNeg,Int.reduceToNat,Int.reduceMul,Int.reduceAdd,Int.reduceSub,Int.reduceBEq,Int.reduceBNe,reduceCtorEq,RD,RE, *]<;>rfl)
 ·rintro m f H' R ⟨i,hi,rfl,g0,g1,g5,rfl⟩ F7 hX hR hE
  simp only [bG.l2,aA]
  refine au fun Kr hKr=>?_;simp (disch:=omega) only [RA,↓reduceIte,Nat.reduceEqDiff,Nat.reduceBEq,Nat.reduceSub,Nat.reduceAdd,Nat.reduceMul,Nat.reduceLT,Nat.reduceLeDiff,Int.reduceLE,Int.reduceLT,Int.reduceEq,Int.reduceNeg,Int.reduceToNat,Int.reduceMul,Int.reduceAdd,Int.reduceSub,Int.reduceBEq,Int.reduceBNe,reduceCtorEq,RD,g0,g5];refine hKr _ _ ?_;clear hKr Kr;(try simp only [RN,reduceIte]);try refine aj rfl ?_
  refine bD (p:=i<N) (by simp only [RA,↓reduceIte,Nat.reduceEqDiff,Nat.reduceBEq,Nat.reduceSub,Nat.reduceAdd,Nat.reduceMul,Nat.reduceLT,Nat.reduceLeDiff,Int.reduceLE,Int.reduceLT,Int.reduceEq,Int.reduceNeg,Int.reduceToNat,Int.reduceMul,Int.reduceAdd,Int.reduceSub,Int.reduceBEq,Int.reduceBNe,reduceCtorEq]<;>rfl) (by (try simp only [RB])<;>first|done|exact Iff.rfl|omega|simp) (fun hc=>?_) (fun hc=>?_)<;>(try simp only [RN,reduceIte])<;>(try refine aj rfl ?_)
  ·have hin:i<N:=by assumption
   have a1:(((q+i*33:Nat):Int))+1=((q+(i*33+1):Nat):Int):=by omega
   have hg0:getN none (gQ q (N*33)) (i*33)=some (I ((q+i*33:Nat):Int)):=F6 rfl (by omega) (by rw [mkV,if_pos (by omega)])
   (first|refine cZ rfl ?_|refine dh rfl ?_);(try simp only [RN,reduceIte]);try refine aj rfl ?_
   refine au fun Kr hKr=>?_;simp (disch:=omega) only [RA,↓reduceIte,Nat.reduceEqDiff,Nat.reduceBEq,Nat.reduceSub,Nat.reduceAdd,Nat.reduceMul,Nat.reduceLT,Nat.reduceLeDiff,Int.reduceLE,Int.reduceLT,Int.reduceEq,Int.reduceNeg,Int.reduceToNat,Int.reduceMul,Int.reduceAdd,Int.reduceSub,Int.reduceBEq,Int.reduceBNe,reduceCtorEq,RD,g0,g1,g5,hg0];refine hKr _ _ ?_;clear hKr Kr;(try simp only [RN,reduceIte]);try refine aj rfl ?_
   refine aQ (t:=false) (by simp (disch:=omega) only [RA,↓reduceIte,Nat.reduceEqDiff,Nat.reduceBEq,Nat.reduceSub,Nat.reduceAdd,Nat.reduceMul,Nat.reduceLT,Nat.reduceLeDiff,Int.reduceLE,Int.reduceLT,Int.reduceEq,Int.reduceNeg,Int.reduceToNat,Int.reduceMul,Int.reduceAdd,Int.reduceSub,Int.reduceBEq,Int.reduceBNe,reduceCtorEq,RD]) ?_;(try simp only [RN,reduceIte]);try refine aj rfl ?_
   refine au fun Kr hKr=>?_;simp (disch:=omega) only [RA,↓reduceIte,Nat.reduceEqDiff,Nat.reduceBEq,Nat.reduceSub,Nat.reduceAdd,Nat.reduceMul,Nat.reduceLT,Nat.reduceLeDiff,Int.reduceLE,Int.reduceLT,Int.reduceEq,Int.reduceNeg,Int.reduceToNat,Int.reduceMul,Int.reduceAdd,Int.reduceSub,Int.reduceBEq,Int.reduceBNe,reduceCtorEq,RD,g1,a1];refine hKr _ _ ?_;clear hKr Kr;(try simp only [RN,reduceIte]);try refine aj rfl ?_
   refine au fun Kr hKr=>?_;simp (disch:=omega) only [RA,↓reduceIte,Nat.reduceEqDiff,Nat.reduceBEq,Nat.reduceSub,Nat.reduceAdd,Nat.reduceMul,Nat.reduceLT,Nat.reduceLeDiff,Int.reduceLE,Int.reduceLT,Int.reduceEq,Int.reduceNeg,Int.reduceToNat,Int.reduceMul,Int.reduceAdd,Int.reduceSub,Int.reduceBEq,Int.reduceBNe,reduceCtorEq,RD];refine hKr _ _ ?_;clear hKr Kr;(try simp only [RN,reduceIte]);try refine aj rfl ?_
   refine aS (fun m f H'=> ∃j,j≤16∧m=16-j∧f 0=Fz N 33 (gQ q (N*33))∧f 1=I ((q+(i*33+1+j):Nat):Int)∧f 5=I i∧f 6=I j∧H'=[]) (16) ?_ ?_
   ·refine ⟨_,_,Gh.refl,0,by omega,by omega,?_,?_,?_,?_,rfl⟩
    any_goals (simp (disch:=omega) only [RA,↓reduceIte,Nat.reduceEqDiff,Nat.reduceBEq,Nat.reduceSub,Nat.reduceAdd,Nat.reduceMul,Nat.reduceLT,Nat.reduceLeDiff,Int.reduceLE,Int.reduceLT,Int.reduceEq,Int.reduceNeg,Int.reduceToNat,Int.reduceMul,Int.reduceAdd,Int.reduceSub,Int.reduceBEq,Int.reduceBNe,reduceCtorEq,RD,RE, *]<;>rfl)
   ·rintro m f H' R ⟨j,hj,rfl,g0,g1,g5,g6,rfl⟩ hN hX hR hE
    simp only [bG.l0,aA]
    refine au fun Kr hKr=>?_;simp (disch:=omega) only [RA,↓reduceIte,Nat.reduceEqDiff,Nat.reduceBEq,Nat.reduceSub,Nat.reduceAdd,Nat.reduceMul,Nat.reduceLT,Nat.reduceLeDiff,Int.reduceLE,Int.reduceLT,Int.reduceEq,Int.reduceNeg,Int.reduceToNat,Int.reduceMul,Int.reduceAdd,Int.reduceSub,Int.reduceBEq,Int.reduceBNe,reduceCtorEq,RD,g6];refine hKr _ _ ?_;clear hKr Kr;(try simp only [RN,reduceIte]);try refine aj rfl ?_
    refine bD (p:=j<16) (by simp only [RA,↓reduceIte,Nat.reduceEqDiff,Nat.reduceBEq,Nat.reduceSub,Nat.reduceAdd,Nat.reduceMul,Nat.reduceLT,Nat.reduceLeDiff,Int.reduceLE,Int.reduceLT,Int.reduceEq,Int.reduceNeg,Int.reduceToNat,Int.reduceMul,Int.reduceAdd,Int.reduceSub,Int.reduceBEq,Int.reduceBNe,reduceCtorEq]<;>rfl) (by (try simp only [RB])<;>first|done|exact Iff.rfl|omega|simp) (fun hc=>?_) (fun hc=>?_)<;>(try simp only [RN,reduceIte])<;>(try refine aj rfl ?_)
    ·have F8:j<16:=by assumption
     have b1:(((q+(i*33+1+j):Nat):Int))+1=((q+(i*33+1+(j+1)):Nat):Int):=by omega
     have b2:((j:Nat):Int)+1=((j+1:Nat):Int):=by omega
     have hg1:getN none (gQ q (N*33)) (i*33+1+j)=some (.int .u8 (IntKind.u8.wrap ((q+(i*33+1+j):Nat):Int))):=F6 rfl (by omega) (by rw [mkV,if_neg (by omega)])
     (first|refine cZ rfl ?_|refine dh rfl ?_);(try simp only [RN,reduceIte]);try refine aj rfl ?_
     refine au fun Kr hKr=>?_;simp (disch:=omega) only [RA,↓reduceIte,Nat.reduceEqDiff,Nat.reduceBEq,Nat.reduceSub,Nat.reduceAdd,Nat.reduceMul,Nat.reduceLT,Nat.reduceLeDiff,Int.reduceLE,Int.reduceLT,Int.reduceEq,Int.reduceNeg,Int.reduceToNat,Int.reduceMul,Int.reduceAdd,Int.reduceSub,Int.reduceBEq,Int.reduceBNe,reduceCtorEq,RD,g0,g1,g5,g6,hg1];refine hKr _ _ ?_;clear hKr Kr;(try simp only [RN,reduceIte]);try refine aj rfl ?_
     refine aQ (t:=false) (by simp (disch:=omega) only [RA,↓reduceIte,Nat.reduceEqDiff,Nat.reduceBEq,Nat.reduceSub,Nat.reduceAdd,Nat.reduceMul,Nat.reduceLT,Nat.reduceLeDiff,Int.reduceLE,Int.reduceLT,Int.reduceEq,Int.reduceNeg,Int.reduceToNat,Int.reduceMul,Int.reduceAdd,Int.reduceSub,Int.reduceBEq,Int.reduceBNe,reduceCtorEq,RD]) ?_;(try simp only [RN,reduceIte]);try refine aj rfl ?_
     refine au fun Kr hKr=>?_;simp (disch:=omega) only [RA,↓reduceIte,Nat.reduceEqDiff,Nat.reduceBEq,Nat.reduceSub,Nat.reduceAdd,Nat.reduceMul,Nat.reduceLT,Nat.reduceLeDiff,Int.reduceLE,Int.reduceLT,Int.reduceEq,Int.reduceNeg,Int.reduceToNat,Int.reduceMul,Int.reduceAdd,Int.reduceSub,Int.reduceBEq,Int.reduceBNe,reduceCtorEq,RD,g1,b1];refine hKr _ _ ?_;clear hKr Kr;(try simp only [RN,reduceIte]);try refine aj rfl ?_
     refine bK fun Kr hKr=>?_;simp (disch:=omega) only [RA,↓reduceIte,Nat.reduceEqDiff,Nat.reduceBEq,Nat.reduceSub,Nat.reduceAdd,Nat.reduceMul,Nat.reduceLT,Nat.reduceLeDiff,Int.reduceLE,Int.reduceLT,Int.reduceEq,Int.reduceNeg,Int.reduceToNat,Int.reduceMul,Int.reduceAdd,Int.reduceSub,Int.reduceBEq,Int.reduceBNe,reduceCtorEq,RD,g6,b2];refine hKr _ _ ?_;clear hKr Kr
     refine hN (16-(j+1)) _ _ _ _ (by omega) Gh.refl ⟨j+1,by omega,rfl,?_,?_,?_,?_,rfl⟩
     any_goals (simp (disch:=omega) only [RA,↓reduceIte,Nat.reduceEqDiff,Nat.reduceBEq,Nat.reduceSub,Nat.reduceAdd,Nat.reduceMul,Nat.reduceLT,Nat.reduceLeDiff,Int.reduceLE,Int.reduceLT,Int.reduceEq,Int.reduceNeg,Int.reduceToNat,Int.reduceMul,Int.reduceAdd,Int.reduceSub,Int.reduceBEq,Int.reduceBNe,reduceCtorEq,RD,RE, *]<;>rfl)
    ·refine hX _ _ ?_
     obtain rfl:j=16:=by omega
     clear hN hX hR hE
     simp only [aA]
     refine au fun Kr hKr=>?_;simp (disch:=omega) only [RA,↓reduceIte,Nat.reduceEqDiff,Nat.reduceBEq,Nat.reduceSub,Nat.reduceAdd,Nat.reduceMul,Nat.reduceLT,Nat.reduceLeDiff,Int.reduceLE,Int.reduceLT,Int.reduceEq,Int.reduceNeg,Int.reduceToNat,Int.reduceMul,Int.reduceAdd,Int.reduceSub,Int.reduceBEq,Int.reduceBNe,reduceCtorEq,RD];refine hKr _ _ ?_;clear hKr Kr;(try simp only [RN,reduceIte]);try refine aj rfl ?_
     have c0:q+(i*33+1+16)=q+(i*33+17+0):=by omega
     rw [c0] at g1
     clear c0
     refine aS (fun m f H'=> ∃j,j≤16∧m=16-j∧f 0=Fz N 33 (gQ q (N*33))∧f 1=I ((q+(i*33+17+j):Nat):Int)∧f 5=I i∧f 7=I j∧H'=[]) (16) ?_ ?_
     ·refine ⟨_,_,Gh.refl,0,by omega,by omega,?_,?_,?_,?_,rfl⟩
      any_goals (simp (disch:=omega) only [RA,↓reduceIte,Nat.reduceEqDiff,Nat.reduceBEq,Nat.reduceSub,Nat.reduceAdd,Nat.reduceMul,Nat.reduceLT,Nat.reduceLeDiff,Int.reduceLE,Int.reduceLT,Int.reduceEq,Int.reduceNeg,Int.reduceToNat,Int.reduceMul,Int.reduceAdd,Int.reduceSub,Int.reduceBEq,Int.reduceBNe,reduceCtorEq,RD,RE, *]<;>rfl)
     ·clear g0 g1 g5 g6
      rintro m f H' R ⟨j,hj,rfl,g0,g1,g5,g7,rfl⟩ hN hX hR hE
      simp only [bG.l1,aA]
      refine au fun Kr hKr=>?_;simp (disch:=omega) only [RA,↓reduceIte,Nat.reduceEqDiff,Nat.reduceBEq,Nat.reduceSub,Nat.reduceAdd,Nat.reduceMul,Nat.reduceLT,Nat.reduceLeDiff,Int.reduceLE,Int.reduceLT,Int.reduceEq,Int.reduceNeg,Int.reduceToNat,Int.reduceMul,Int.reduceAdd,Int.reduceSub,Int.reduceBEq,Int.reduceBNe,reduceCtorEq,RD,g7];refine hKr _ _ ?_;clear hKr Kr;(try simp only [RN,reduceIte]);try refine aj rfl ?_
      refine bD (p:=j<16) (by simp only [RA,↓reduceIte,Nat.reduceEqDiff,Nat.reduceBEq,Nat.reduceSub,Nat.reduceAdd,Nat.reduceMul,Nat.reduceLT,Nat.reduceLeDiff,Int.reduceLE,Int.reduceLT,Int.reduceEq,Int.reduceNeg,Int.reduceToNat,Int.reduceMul,Int.reduceAdd,Int.reduceSub,Int.reduceBEq,Int.reduceBNe,reduceCtorEq]<;>rfl) (by (try simp only [RB])<;>first|done|exact Iff.rfl|omega|simp) (fun hc=>?_) (fun hc=>?_)<;>(try simp only [RN,reduceIte])<;>(try refine aj rfl ?_)
      ·have F8:j<16:=by assumption
       have b1:(((q+(i*33+17+j):Nat):Int))+1=((q+(i*33+17+(j+1)):Nat):Int):=by omega
       have b2:((j:Nat):Int)+1=((j+1:Nat):Int):=by omega
       have hg1:getN none (gQ q (N*33)) (i*33+17+j)=some (.int .u8 (IntKind.u8.wrap ((q+(i*33+17+j):Nat):Int))):=F6 rfl (by omega) (by rw [mkV,if_neg (by omega)])
       (first|refine cZ rfl ?_|refine dh rfl ?_);(try simp only [RN,reduceIte]);try refine aj rfl ?_
       refine au fun Kr hKr=>?_;simp (disch:=omega) only [RA,↓reduceIte,Nat.reduceEqDiff,Nat.reduceBEq,Nat.reduceSub,Nat.reduceAdd,Nat.reduceMul,Nat.reduceLT,Nat.reduceLeDiff,Int.reduceLE,Int.reduceLT,Int.reduceEq,Int.reduceNeg,Int.reduceToNat,Int.reduceMul,Int.reduceAdd,Int.reduceSub,Int.reduceBEq,Int.reduceBNe,reduceCtorEq,RD,g0,g1,g5,g7,hg1];refine hKr _ _ ?_;clear hKr Kr;(try simp only [RN,reduceIte]);try refine aj rfl ?_
       refine aQ (t:=false) (by simp (disch:=omega) only [RA,↓reduceIte,Nat.reduceEqDiff,Nat.reduceBEq,Nat.reduceSub,Nat.reduceAdd,Nat.reduceMul,Nat.reduceLT,Nat.reduceLeDiff,Int.reduceLE,Int.reduceLT,Int.reduceEq,Int.reduceNeg,Int.reduceToNat,Int.reduceMul,Int.reduceAdd,Int.reduceSub,Int.reduceBEq,Int.reduceBNe,reduceCtorEq,RD]) ?_;(try simp only [RN,reduceIte]);try refine aj rfl ?_
       refine au fun Kr hKr=>?_;simp (disch:=omega) only [RA,↓reduceIte,Nat.reduceEqDiff,Nat.reduceBEq,Nat.reduceSub,Nat.reduceAdd,Nat.reduceMul,Nat.reduceLT,Nat.reduceLeDiff,Int.reduceLE,Int.reduceLT,Int.reduceEq,Int.reduceNeg,Int.reduceToNat,Int.reduceMul,Int.reduceAdd,Int.reduceSub,Int.reduceBEq,Int.reduceBNe,reduceCtorEq,RD,g1,b1];refine hKr _ _ ?_;clear hKr Kr;(try simp only [RN,reduceIte]);try refine aj rfl ?_
       refine bK fun Kr hKr=>?_;simp (disch:=omega) only [RA,↓reduceIte,Nat.reduceEqDiff,Nat.reduceBEq,Nat.reduceSub,Nat.reduceAdd,Nat.reduceMul,Nat.reduceLT,Nat.reduceLeDiff,Int.reduceLE,Int.reduceLT,Int.reduceEq,Int.reduceNeg,Int.reduceToNat,Int.reduceMul,Int.reduceAdd,Int.reduceSub,Int.reduceBEq,Int.reduceBNe,reduceCtorEq,RD,g7,b2];refine hKr _ _ ?_;clear hKr Kr
       refine hN (16-(j+1)) _ _ _ _ (by omega) Gh.refl ⟨j+1,by omega,rfl,?_,?_,?_,?_,rfl⟩
       any_goals (simp (disch:=omega) only [RA,↓reduceIte,Nat.reduceEqDiff,Nat.reduceBEq,Nat.reduceSub,Nat.reduceAdd,Nat.reduceMul,Nat.reduceLT,Nat.reduceLeDiff,Int.reduceLE,Int.reduceLT,Int.reduceEq,Int.reduceNeg,Int.reduceToNat,Int.reduceMul,Int.reduceAdd,Int.reduceSub,Int.reduceBEq,Int.reduceBNe,reduceCtorEq,RD,RE, *]<;>rfl)
      ·refine hX _ _ ?_
       obtain rfl:j=16:=by omega
       have d0:q+(i*33+17+16)=q+(i+1)*33:=by omega
       have d2:((i:Nat):Int)+1=((i+1:Nat):Int):=by omega
       rw [d0] at g1
       clear d0
       refine bK fun Kr hKr=>?_;simp (disch:=omega) only [RA,↓reduceIte,Nat.reduceEqDiff,Nat.reduceBEq,Nat.reduceSub,Nat.reduceAdd,Nat.reduceMul,Nat.reduceLT,Nat.reduceLeDiff,Int.reduceLE,Int.reduceLT,Int.reduceEq,Int.reduceNeg,Int.reduceToNat,Int.reduceMul,Int.reduceAdd,Int.reduceSub,Int.reduceBEq,Int.reduceBNe,reduceCtorEq,RD,g5,d2];refine hKr _ _ ?_;clear hKr Kr
       clear d2
       refine F7 (N-(i+1)) _ _ _ _ (by omega) Gh.refl ⟨i+1,by omega,rfl,?_,?_,?_,rfl⟩
       any_goals (simp (disch:=omega) only [RA,↓reduceIte,Nat.reduceEqDiff,Nat.reduceBEq,Nat.reduceSub,Nat.reduceAdd,Nat.reduceMul,Nat.reduceLT,Nat.reduceLeDiff,Int.reduceLE,Int.reduceLT,Int.reduceEq,Int.reduceNeg,Int.reduceToNat,Int.reduceMul,Int.reduceAdd,Int.reduceSub,Int.reduceBEq,Int.reduceBNe,reduceCtorEq,RD,RE, *]<;>rfl)
  ·refine hX _ _ ?_
   obtain rfl:i=N:=by omega
   refine au fun Kr hKr=>?_;simp (disch:=omega) only [RA,↓reduceIte,Nat.reduceEqDiff,Nat.reduceBEq,Nat.reduceSub,Nat.reduceAdd,Nat.reduceMul,Nat.reduceLT,Nat.reduceLeDiff,Int.reduceLE,Int.reduceLT,Int.reduceEq,Int.reduceNeg,Int.reduceToNat,Int.reduceMul,Int.reduceAdd,Int.reduceSub,Int.reduceBEq,Int.reduceBNe,reduceCtorEq,RD,g1];refine hKr _ _ ?_;clear hKr Kr;(try simp only [RN,reduceIte]);try refine aj rfl ?_
   refine aN (by simp (disch:=omega) only [RA,↓reduceIte,Nat.reduceEqDiff,Nat.reduceBEq,Nat.reduceSub,Nat.reduceAdd,Nat.reduceMul,Nat.reduceLT,Nat.reduceLeDiff,Int.reduceLE,Int.reduceLT,Int.reduceEq,Int.reduceNeg,Int.reduceToNat,Int.reduceMul,Int.reduceAdd,Int.reduceSub,Int.reduceBEq,Int.reduceBNe,reduceCtorEq,RD,resAll,resOf];rfl) aF.refl ?_;simp only [tup]
   exact ⟨.int,hK⟩
theorem SI (hK:K (I q) H):aB x HY [.slice none 0 0,I q] H K:=by
 refine bf (.cons .nil (.cons .int .nil)) ?_
 refine aK Ik ?_;simp only [bG,aA]
 refine au fun Kr hKr=>?_;simp (disch:=omega) only [RA,↓reduceIte,Nat.reduceEqDiff,Nat.reduceBEq,Nat.reduceSub,Nat.reduceAdd,Nat.reduceMul,Nat.reduceLT,Nat.reduceLeDiff,Int.reduceLE,Int.reduceLT,Int.reduceEq,Int.reduceNeg,Int.reduceToNat,Int.reduceMul,Int.reduceAdd,Int.reduceSub,Int.reduceBEq,Int.reduceBNe,reduceCtorEq,RD];refine hKr _ _ ?_;clear hKr Kr;(try simp only [RN,reduceIte]);try refine aj rfl ?_
 refine au fun Kr hKr=>?_;simp (disch:=omega) only [RA,↓reduceIte,Nat.reduceEqDiff,Nat.reduceBEq,Nat.reduceSub,Nat.reduceAdd,Nat.reduceMul,Nat.reduceLT,Nat.reduceLeDiff,Int.reduceLE,Int.reduceLT,Int.reduceEq,Int.reduceNeg,Int.reduceToNat,Int.reduceMul,Int.reduceAdd,Int.reduceSub,Int.reduceBEq,Int.reduceBNe,reduceCtorEq,RD];refine hKr _ _ ?_;clear hKr Kr;(try simp only [RN,reduceIte]);try refine aj rfl ?_
 refine aS (fun m f H'=>f 0= .slice none 0 0∧f 1=I q∧f 5=I (0:Nat)∧H'=[]) (0) ?_ ?_
 ·refine ⟨_,_,Gh.refl,?_,?_,?_,rfl⟩
  any_goals (simp (disch:=omega) only [RA,↓reduceIte,Nat.reduceEqDiff,Nat.reduceBEq,Nat.reduceSub,Nat.reduceAdd,Nat.reduceMul,Nat.reduceLT,Nat.reduceLeDiff,Int.reduceLE,Int.reduceLT,Int.reduceEq,Int.reduceNeg,Int.reduceToNat,Int.reduceMul,Int.reduceAdd,Int.reduceSub,Int.reduceBEq,Int.reduceBNe,reduceCtorEq,RD,RE, *]<;>rfl)
 ·rintro m f H' R ⟨g0,g1,g5,rfl⟩ hN hX hR hE
  simp only [bG.l2,aA]
  refine au fun Kr hKr=>?_;simp (disch:=omega) only [RA,↓reduceIte,Nat.reduceEqDiff,Nat.reduceBEq,Nat.reduceSub,Nat.reduceAdd,Nat.reduceMul,Nat.reduceLT,Nat.reduceLeDiff,Int.reduceLE,Int.reduceLT,Int.reduceEq,Int.reduceNeg,Int.reduceToNat,Int.reduceMul,Int.reduceAdd,Int.reduceSub,Int.reduceBEq,Int.reduceBNe,reduceCtorEq,RD,g0,g5];refine hKr _ _ ?_;clear hKr Kr;(try simp only [RN,reduceIte]);try refine aj rfl ?_
  refine aQ (t:=false) (by simp (disch:=omega) only [RA,↓reduceIte,Nat.reduceEqDiff,Nat.reduceBEq,Nat.reduceSub,Nat.reduceAdd,Nat.reduceMul,Nat.reduceLT,Nat.reduceLeDiff,Int.reduceLE,Int.reduceLT,Int.reduceEq,Int.reduceNeg,Int.reduceToNat,Int.reduceMul,Int.reduceAdd,Int.reduceSub,Int.reduceBEq,Int.reduceBNe,reduceCtorEq,RD]) ?_;(try simp only [RN,reduceIte]);try refine aj rfl ?_
  refine hX _ _ ?_
  refine au fun Kr hKr=>?_;simp (disch:=omega) only [RA,↓reduceIte,Nat.reduceEqDiff,Nat.reduceBEq,Nat.reduceSub,Nat.reduceAdd,Nat.reduceMul,Nat.reduceLT,Nat.reduceLeDiff,Int.reduceLE,Int.reduceLT,Int.reduceEq,Int.reduceNeg,Int.reduceToNat,Int.reduceMul,Int.reduceAdd,Int.reduceSub,Int.reduceBEq,Int.reduceBNe,reduceCtorEq,RD,g1];refine hKr _ _ ?_;clear hKr Kr;(try simp only [RN,reduceIte]);try refine aj rfl ?_
  refine aN (by simp (disch:=omega) only [RA,↓reduceIte,Nat.reduceEqDiff,Nat.reduceBEq,Nat.reduceSub,Nat.reduceAdd,Nat.reduceMul,Nat.reduceLT,Nat.reduceLeDiff,Int.reduceLE,Int.reduceLT,Int.reduceEq,Int.reduceNeg,Int.reduceToNat,Int.reduceMul,Int.reduceAdd,Int.reduceSub,Int.reduceBEq,Int.reduceBNe,reduceCtorEq,RD,resAll,resOf];rfl) aF.refl ?_;simp only [tup]
  exact ⟨.int,hK⟩
theorem acG (hK:K (I q) H):aB x Hz [.slice none 0 0,I q] H K:=by
 refine bf (.cons .nil (.cons .int .nil)) ?_
 refine aK Ij ?_;simp only [bT,aA]
 refine au fun Kr hKr=>?_;simp (disch:=omega) only [RA,↓reduceIte,Nat.reduceEqDiff,Nat.reduceBEq,Nat.reduceSub,Nat.reduceAdd,Nat.reduceMul,Nat.reduceLT,Nat.reduceLeDiff,Int.reduceLE,Int.reduceLT,Int.reduceEq,Int.reduceNeg,Int.reduceToNat,Int.reduceMul,Int.reduceAdd,Int.reduceSub,Int.reduceBEq,Int.reduceBNe,reduceCtorEq,RD];refine hKr _ _ ?_;clear hKr Kr;(try simp only [RN,reduceIte]);try refine aj rfl ?_
 refine au fun Kr hKr=>?_;simp (disch:=omega) only [RA,↓reduceIte,Nat.reduceEqDiff,Nat.reduceBEq,Nat.reduceSub,Nat.reduceAdd,Nat.reduceMul,Nat.reduceLT,Nat.reduceLeDiff,Int.reduceLE,Int.reduceLT,Int.reduceEq,Int.reduceNeg,Int.reduceToNat,Int.reduceMul,Int.reduceAdd,Int.reduceSub,Int.reduceBEq,Int.reduceBNe,reduceCtorEq,RD];refine hKr _ _ ?_;clear hKr Kr;(try simp only [RN,reduceIte]);try refine aj rfl ?_
 refine aS (fun m f H'=>f 0= .slice none 0 0∧f 1=I q∧f 5=I (0:Nat)∧H'=[]) (0) ?_ ?_
 ·refine ⟨_,_,Gh.refl,?_,?_,?_,rfl⟩
  any_goals (simp (disch:=omega) only [RA,↓reduceIte,Nat.reduceEqDiff,Nat.reduceBEq,Nat.reduceSub,Nat.reduceAdd,Nat.reduceMul,Nat.reduceLT,Nat.reduceLeDiff,Int.reduceLE,Int.reduceLT,Int.reduceEq,Int.reduceNeg,Int.reduceToNat,Int.reduceMul,Int.reduceAdd,Int.reduceSub,Int.reduceBEq,Int.reduceBNe,reduceCtorEq,RD,RE, *]<;>rfl)
 ·rintro m f H' R ⟨g0,g1,g5,rfl⟩ hN hX hR hE
  simp only [bT.l2,aA]
  refine au fun Kr hKr=>?_;simp (disch:=omega) only [RA,↓reduceIte,Nat.reduceEqDiff,Nat.reduceBEq,Nat.reduceSub,Nat.reduceAdd,Nat.reduceMul,Nat.reduceLT,Nat.reduceLeDiff,Int.reduceLE,Int.reduceLT,Int.reduceEq,Int.reduceNeg,Int.reduceToNat,Int.reduceMul,Int.reduceAdd,Int.reduceSub,Int.reduceBEq,Int.reduceBNe,reduceCtorEq,RD,g0,g5];refine hKr _ _ ?_;clear hKr Kr;(try simp only [RN,reduceIte]);try refine aj rfl ?_
  refine aQ (t:=false) (by simp (disch:=omega) only [RA,↓reduceIte,Nat.reduceEqDiff,Nat.reduceBEq,Nat.reduceSub,Nat.reduceAdd,Nat.reduceMul,Nat.reduceLT,Nat.reduceLeDiff,Int.reduceLE,Int.reduceLT,Int.reduceEq,Int.reduceNeg,Int.reduceToNat,Int.reduceMul,Int.reduceAdd,Int.reduceSub,Int.reduceBEq,Int.reduceBNe,reduceCtorEq,RD]) ?_;(try simp only [RN,reduceIte]);try refine aj rfl ?_
  refine hX _ _ ?_
  refine au fun Kr hKr=>?_;simp (disch:=omega) only [RA,↓reduceIte,Nat.reduceEqDiff,Nat.reduceBEq,Nat.reduceSub,Nat.reduceAdd,Nat.reduceMul,Nat.reduceLT,Nat.reduceLeDiff,Int.reduceLE,Int.reduceLT,Int.reduceEq,Int.reduceNeg,Int.reduceToNat,Int.reduceMul,Int.reduceAdd,Int.reduceSub,Int.reduceBEq,Int.reduceBNe,reduceCtorEq,RD,g1];refine hKr _ _ ?_;clear hKr Kr;(try simp only [RN,reduceIte]);try refine aj rfl ?_
  refine aN (by simp (disch:=omega) only [RA,↓reduceIte,Nat.reduceEqDiff,Nat.reduceBEq,Nat.reduceSub,Nat.reduceAdd,Nat.reduceMul,Nat.reduceLT,Nat.reduceLeDiff,Int.reduceLE,Int.reduceLT,Int.reduceEq,Int.reduceNeg,Int.reduceToNat,Int.reduceMul,Int.reduceAdd,Int.reduceSub,Int.reduceBEq,Int.reduceBNe,reduceCtorEq,RD,resAll,resOf];rfl) aF.refl ?_;simp only [tup]
  exact ⟨.int,hK⟩
end
end Go.Bm.Q5
namespace Go.Bm.Q5
open Go Go.Am Go.Bm
def qO (l:List L2):Prop:=(∀d∈l,By 16 d.1∧By 16 d.2)∧l.Pairwise bU
section
variable {n:Nat} {black:List Nat}
end
end Go.Bm.Q5
namespace Go.Bm.Q5
open Go Go.Am Go.Bm
theorem acH:Am.plain (.map none)=true:=rfl
end Go.Bm.Q5
namespace Go.Bm.Q5
open Go Go.Am Go.Bm
end Go.Bm.Q5
namespace Go.Bm.Q5
open Go Go.Am Go.Bm
theorem BM {c:Int}:NN (.tuple ⟨[.slice none 0 0,I c]⟩):=NN.tuple (aP.cons .nil (aP.cons .int .nil))
section
variable {x:Bool} {H:BH} {K:Value→BH→Prop}
end
end Go.Bm.Q5
namespace Go.Bm.Q5
open Go Go.Am Go.Bm
theorem sV {x:Bool} {g:Nat} {args args':List Value} {H:BH} {K:Value→BH→Prop} (ha:kC H args args')
  (h:aB false g args' [] fun v _=>Am.plain v=true∧K v H):aB x g args H K:=by
 intro ρ Z as HA h1 h2
 have hzx: ∀b bk,Z b=some bk→Zo ρ Z H HA b=some bk:=fun b bk hb=>by simp only [Zo,hb]
 have hR0:Rel (fun _=>none) (Zo ρ Z H HA) [] HA:=by
  refine ⟨fun i cs h=>by simp [blk] at h,fun i j cs cs' b h=>by simp [blk] at h,fun i cs b h=>by simp [blk] at h,fun b bk hb=>?_,fun _ _=>rfl⟩
  cases hz:Z b with
  |some Ei=>
   rw [hzx b Ei hz] at hb;cases hb
   exact h2.fB b bk hz
  |none=>
   simp only [Zo,hz] at hb
   split at hb
   ·rename_i hex
    obtain ⟨i,cs,e1,e2⟩:=hex
    exact ⟨h2.lt e1 e2,hb⟩
   ·cases hb
 obtain ⟨v',HA',h3,_,bI,Z1,v,H1,h4,h5,_,_,h6,h8⟩:=h _ _ as HA (ha.vl h2 h1) hR0
 have hkeep: ∀b,b<HA.n→HA'.get b=HA.get b:=fun b hb=>h6.keep b hb fun i cs h=>by simp [blk] at h
 obtain ⟨Zf,nJ⟩: ∃Zf:Nat→Option Blk,Zf=fun b=>if b<HA.n then Z b else Z1 b:=⟨_,rfl⟩
 have rO: ∀b bk,Z b=some bk→Zf b=some bk:=fun b bk hb=>by
  have:=(h2.fB b bk hb).1
  rw [nJ]
  simp only
  rw [if_pos this]
  exact hb
 have hfro: ∀b bk,Zf b=some bk→b<HA'.n∧HA'.get b=some bk:=fun b bk hb=>by
  rw [nJ] at hb
  simp only at hb
  split at hb
  ·rename_i hlt
   have:=(h2.fB b bk hb).2
   exact ⟨Nat.lt_of_lt_of_le hlt h6.n,by rw [hkeep b hlt];exact this⟩
  ·exact h5.fB b bk hb
 have hzn: ∀b bk,Zf b=some bk→Z b=some bk∨HA.n≤b:=fun b bk hb=>by
  rw [nJ] at hb
  simp only at hb
  split at hb
  ·exact .inl hb
  ·exact .inr (by omega)
 obtain ⟨hp,hK⟩:=h8
 have hv:VR ρ Zf v v':=by
  have:=h4.um hp
  rw [this]
  exact .z (.plain hp)
 refine ⟨_,HA',h3,fun _=>⟨h6.n,hkeep⟩,ρ,Zf,_,H,hv,⟨fun i cs hc=>?_,h2.inj,fun i cs b hc hb=>?_,hfro,h2.top⟩,Nat.le_refl _,fun _ _=>rfl,⟨h6.n,fun b hb _=>hkeep b hb,fun i cs b hc hb=> .inr ⟨i,cs,hc,hb⟩,rO,fun b bk hb=>(hzn b bk hb).imp_right .inl⟩,hK⟩
 ·obtain ⟨b,bk,k1,k2,k3,k4,k5⟩:=h2.bV i cs hc
  exact ⟨b,bk,k1,Nat.lt_of_lt_of_le k2 h6.n,by rw [hkeep b k2];exact k3,k4,k5.mono (fun _ _ h=>h) rO⟩
 ·rw [nJ]
  simp only
  rw [if_pos (h2.lt hc hb)]
  exact h2.dX i cs b hc hb
theorem BL {n:Nat} {l:List L2}:(DL n l).all Am.plain=true:=List.all_eq_true.2 fun v hv=>by
 obtain ⟨d,_,hd⟩:=List.mem_flatMap.1 hv
 exact List.all_eq_true.1 (CZ (n:=n) (d:=d)) v hd
theorem FX {q m:Nat}:(gQ q m).all Am.plain=true:=List.all_eq_true.2 fun v hv=>by
 obtain ⟨p,_,rfl⟩:=List.mem_map.1 hv
 unfold mkV
 split<;>rfl
end Go.Bm.Q5
namespace Go.Bm
open Go Go.Am
def kS (xss:List (List Int)):BH:=xss.map fun r=>some (r.map I)
abbrev iT (xss:List (List Int)):List (List Value):=xss.map fun r=>r.map I
def mO (xss:List (List Int)):BH:=some (hdr 1 (iT xss))::kS xss
theorem BK {xss:List (List Int)}:(kS xss).length=xss.length:=by simp [kS]
theorem SK: ∀{k:Nat} {a b:List (List Value)},hdr k (a++b)=hdr k a++hdr (k+a.length) b
 | _,[],b=>rfl
 |k,r::a,b=>by
  rw [List.cons_append,hdr,hdr,List.cons_append,SK (k:=k+1),List.length_cons]
  congr 3
  omega
def iU (xss:List (List Int)) (k:Nat):List Value:=hdr 1 (iT (xss.take k))++List.replicate (xss.length-k) (.slice none 0 0)
theorem acI {xss:List (List Int)} {k:Nat} (h:k≤xss.length):(iU xss k).length=xss.length:=by
 simp [iU,AV]
 omega
theorem acJ {xss:List (List Int)} {k b:Nat} {H:BH} (h:k<xss.length):bQ (some (iU xss k)) H b k 1 (S (k+1) 0 (xss.getD k []).length 1)=some (undef,H.set b (some (iU xss (k+1)))):=by
 rw [rU rfl rfl rfl (by rw [acI (by omega)];exact h)]
 congr 4
 have hk:(hdr 1 (iT (xss.take k))).length=k:=by rw [AV];simp;omega
 have e1:(iU xss k).take k=hdr 1 (iT (xss.take k)):=by
  rw [iU,List.take_append_of_le_length (by omega),List.take_of_length_le (by omega)]
 have e2:(iU xss k).drop (k+1)=List.replicate (xss.length-(k+1)) (.slice none 0 0):=by
  rw [iU,List.drop_append,List.drop_eq_nil_of_le (by omega),hk,List.drop_replicate,List.nil_append]
  congr 1
  omega
 have e3:hdr 1 (iT (xss.take (k+1)))=hdr 1 (iT (xss.take k))++[S (k+1) 0 (xss.getD k []).length 1]:=by
  have e4:xss.take (k+1)=xss.take k++[xss.getD k []]:=by
   rw [List.take_add_one]
   simp [List.getD,h]
  have e5:(iT (xss.take k)).length=k:=by simp;omega
  rw [e4,iT,List.map_append,SK,e5]
  simp only [List.map_cons,List.map_nil,hdr,List.length_map]
  rw [Nat.add_comm 1 k]
 show (iU xss k).take k++[S (k+1) 0 (xss.getD k []).length 1]++(iU xss k).drop (k+1)=_
 rw [e1,e2,iU,e3]
theorem SE {xss:List (List Int)} {K:Value→BH→Prop} (hl:xss.length≤1048576) (hll: ∀xs∈xss,xs.length≤1048576) (hK:K (S 0 0 xss.length 1) (mO xss)):aB false Hw [dU xss] [] K:=by
 refine aK Ih ?_;simp only [iI,aA]
 refine au fun Kr hKr=>?_;simp (disch:=omega) only [RA,↓reduceIte,Nat.reduceEqDiff,Nat.reduceBEq,Nat.reduceSub,Nat.reduceAdd,Nat.reduceMul,Nat.reduceLT,Nat.reduceLeDiff,Int.reduceLE,Int.reduceLT,Int.reduceEq,Int.reduceNeg,Int.reduceToNat,Int.reduceMul,Int.reduceAdd,Int.reduceSub,Int.reduceBEq,Int.reduceBNe,reduceCtorEq,RD];refine hKr _ _ ?_;clear hKr Kr;(try simp only [RN,reduceIte]);try refine aj rfl ?_
 refine au fun Kr hKr=>?_;simp (disch:=omega) only [RA,↓reduceIte,Nat.reduceEqDiff,Nat.reduceBEq,Nat.reduceSub,Nat.reduceAdd,Nat.reduceMul,Nat.reduceLT,Nat.reduceLeDiff,Int.reduceLE,Int.reduceLT,Int.reduceEq,Int.reduceNeg,Int.reduceToNat,Int.reduceMul,Int.reduceAdd,Int.reduceSub,Int.reduceBEq,Int.reduceBNe,reduceCtorEq,RD];refine hKr _ _ ?_;clear hKr Kr;(try simp only [RN,reduceIte]);try refine aj rfl ?_
 refine au fun Kr hKr=>?_;simp (disch:=omega) only [RA,↓reduceIte,Nat.reduceEqDiff,Nat.reduceBEq,Nat.reduceSub,Nat.reduceAdd,Nat.reduceMul,Nat.reduceLT,Nat.reduceLeDiff,Int.reduceLE,Int.reduceLT,Int.reduceEq,Int.reduceNeg,Int.reduceToNat,Int.reduceMul,Int.reduceAdd,Int.reduceSub,Int.reduceBEq,Int.reduceBNe,reduceCtorEq,RD];refine hKr _ _ ?_;clear hKr Kr;(try simp only [RN,reduceIte]);try refine aj rfl ?_
 refine aS (fun m f H'=> ∃i,i≤xss.length∧m=xss.length-i∧f 0=dU xss∧f 3=S 0 0 xss.length 1∧f 4=I i∧H'=some (iU xss i)::kS (xss.take i)) (xss.length) ?_ ?_
 ·refine ⟨_,_,Gh.refl,0,by omega,by omega,?_,?_,?_,by simp [iU,hdr,kS]⟩
  any_goals (simp (disch:=omega) only [RA,↓reduceIte,Nat.reduceEqDiff,Nat.reduceBEq,Nat.reduceSub,Nat.reduceAdd,Nat.reduceMul,Nat.reduceLT,Nat.reduceLeDiff,Int.reduceLE,Int.reduceLT,Int.reduceEq,Int.reduceNeg,Int.reduceToNat,Int.reduceMul,Int.reduceAdd,Int.reduceSub,Int.reduceBEq,Int.reduceBNe,reduceCtorEq,RD,RE, *]<;>rfl)
 ·rintro m f H' R ⟨i,hi,rfl,g0,g3,g4,rfl⟩ hN hX hR hE
  simp only [iI.l0,aA]
  refine au fun Kr hKr=>?_;simp (disch:=omega) only [RA,↓reduceIte,Nat.reduceEqDiff,Nat.reduceBEq,Nat.reduceSub,Nat.reduceAdd,Nat.reduceMul,Nat.reduceLT,Nat.reduceLeDiff,Int.reduceLE,Int.reduceLT,Int.reduceEq,Int.reduceNeg,Int.reduceToNat,Int.reduceMul,Int.reduceAdd,Int.reduceSub,Int.reduceBEq,Int.reduceBNe,reduceCtorEq,RD,g0,g4];refine hKr _ _ ?_;clear hKr Kr;(try simp only [RN,reduceIte]);try refine aj rfl ?_
  refine bD (p:=i<xss.length) (by simp only [RA,↓reduceIte,Nat.reduceEqDiff,Nat.reduceBEq,Nat.reduceSub,Nat.reduceAdd,Nat.reduceMul,Nat.reduceLT,Nat.reduceLeDiff,Int.reduceLE,Int.reduceLT,Int.reduceEq,Int.reduceNeg,Int.reduceToNat,Int.reduceMul,Int.reduceAdd,Int.reduceSub,Int.reduceBEq,Int.reduceBNe,reduceCtorEq]<;>rfl) (by (try simp only [RB])<;>first|done|exact Iff.rfl|omega|simp) (fun hc=>?_) (fun hc=>?_)<;>(try simp only [RN,reduceIte])<;>(try refine aj rfl ?_)
  ·have hxi:=hll _ (pG (d:=[]) hc)
   have hb:blk (some (iU xss i)::(kS (xss.take i)++[some ((xss.getD i []).map I)])) 0=some (iU xss i):=rfl
   have hlen:(some (iU xss i)::kS (xss.take i)).length=i+1:=by
    rw [List.length_cons,BK,List.length_take]
    omega
   have hset:(some (iU xss i)::(kS (xss.take i)++[some ((xss.getD i []).map I)])).set 0 (some (iU xss (i+1)))=some (iU xss (i+1))::kS (xss.take (i+1)):=by
    have e4:xss.take (i+1)=xss.take i++[xss.getD i []]:=by
     rw [List.take_add_one]
     simp [List.getD,hc]
    have e5:kS (xss.take i++[xss.getD i []])=kS (xss.take i)++[some ((xss.getD i []).map I)]:=List.map_append
    rw [e4,e5]
    rfl
   have hst:=acJ (b:=0) (H:=some (iU xss i)::(kS (xss.take i)++[some ((xss.getD i []).map I)])) hc
   rw [hset] at hst
   (first|refine cZ rfl ?_|refine dh rfl ?_);(try simp only [RN,reduceIte]);try refine aj rfl ?_
   refine au fun Kr hKr=>?_;simp (disch:=omega) only [RA,↓reduceIte,Nat.reduceEqDiff,Nat.reduceBEq,Nat.reduceSub,Nat.reduceAdd,Nat.reduceMul,Nat.reduceLT,Nat.reduceLeDiff,Int.reduceLE,Int.reduceLT,Int.reduceEq,Int.reduceNeg,Int.reduceToNat,Int.reduceMul,Int.reduceAdd,Int.reduceSub,Int.reduceBEq,Int.reduceBNe,reduceCtorEq,RD,g0,g3,g4,mW]
   refine abY (.cons .fz .nil) AY (KF hxi) ?_
   rw [hlen]
   simp (disch:=omega) only [RA,↓reduceIte,Nat.reduceEqDiff,Nat.reduceBEq,Nat.reduceSub,Nat.reduceAdd,Nat.reduceMul,Nat.reduceLT,Nat.reduceLeDiff,Int.reduceLE,Int.reduceLT,Int.reduceEq,Int.reduceNeg,Int.reduceToNat,Int.reduceMul,Int.reduceAdd,Int.reduceSub,Int.reduceBEq,Int.reduceBNe,reduceCtorEq,RD,g3,g4,hb,hst]
   refine hKr _ _ ?_;clear hKr Kr;(try simp only [aH,aJ,aI]);(try simp only [RN,reduceIte]);try refine aj rfl ?_
   refine bK fun Kr hKr=>?_;simp (disch:=omega) only [RA,↓reduceIte,Nat.reduceEqDiff,Nat.reduceBEq,Nat.reduceSub,Nat.reduceAdd,Nat.reduceMul,Nat.reduceLT,Nat.reduceLeDiff,Int.reduceLE,Int.reduceLT,Int.reduceEq,Int.reduceNeg,Int.reduceToNat,Int.reduceMul,Int.reduceAdd,Int.reduceSub,Int.reduceBEq,Int.reduceBNe,reduceCtorEq,RD,g4];refine hKr _ _ ?_;clear hKr Kr
   refine hN (xss.length-(i+1)) _ _ _ _ (by omega) Gh.refl ⟨i+1,by omega,rfl,?_,?_,?_,rfl⟩
   any_goals (simp (disch:=omega) only [RA,↓reduceIte,Nat.reduceEqDiff,Nat.reduceBEq,Nat.reduceSub,Nat.reduceAdd,Nat.reduceMul,Nat.reduceLT,Nat.reduceLeDiff,Int.reduceLE,Int.reduceLT,Int.reduceEq,Int.reduceNeg,Int.reduceToNat,Int.reduceMul,Int.reduceAdd,Int.reduceSub,Int.reduceBEq,Int.reduceBNe,reduceCtorEq,RD,RE, *]<;>rfl)
  ·refine hX _ _ ?_
   obtain rfl:i=xss.length:=by omega
   have e1:iU xss xss.length=hdr 1 (iT xss):=by simp [iU]
   have e2:xss.take xss.length=xss:=List.take_length
   rw [e1,e2]
   refine au fun Kr hKr=>?_;simp (disch:=omega) only [RA,↓reduceIte,Nat.reduceEqDiff,Nat.reduceBEq,Nat.reduceSub,Nat.reduceAdd,Nat.reduceMul,Nat.reduceLT,Nat.reduceLeDiff,Int.reduceLE,Int.reduceLT,Int.reduceEq,Int.reduceNeg,Int.reduceToNat,Int.reduceMul,Int.reduceAdd,Int.reduceSub,Int.reduceBEq,Int.reduceBNe,reduceCtorEq,RD,g3];refine hKr _ _ ?_;clear hKr Kr;(try simp only [RN,reduceIte]);try refine aj rfl ?_
   refine aN (by simp (disch:=omega) only [RA,↓reduceIte,Nat.reduceEqDiff,Nat.reduceBEq,Nat.reduceSub,Nat.reduceAdd,Nat.reduceMul,Nat.reduceLT,Nat.reduceLeDiff,Int.reduceLE,Int.reduceLT,Int.reduceEq,Int.reduceNeg,Int.reduceToNat,Int.reduceMul,Int.reduceAdd,Int.reduceSub,Int.reduceBEq,Int.reduceBNe,reduceCtorEq,RD,resAll,resOf,g3];rfl) aF.refl ?_;simp only [tup]
   exact hK
theorem acK {xss:List (List Int)} {rest:BH} {j:Nat} {r:List Value} (h:(iT xss)[j]? =some r):blk (mO xss++rest) (1+j)=some r∧r.all Am.plain=true:=by
 rw [List.getElem?_map] at h
 obtain ⟨x,hx,rfl⟩:=map_inj h
 refine ⟨?_,List.all_eq_true.2 fun v hv=>?_⟩
 ·unfold blk mO
  rw [Nat.add_comm 1 j,List.cons_append,List.getElem?_cons_succ,List.getElem?_append_left (by rw [BK];exact (List.getElem?_eq_some_iff.1 hx).1),kS,List.getElem?_map,hx]
  rfl
 ·obtain ⟨y,_,rfl⟩:=List.mem_map.1 hv
  rfl
theorem FY {xss:List (List Int)} {rest:BH} {us us':List Value} (h:kC (mO xss++rest) us us'):kC (mO xss++rest) (S 0 0 xss.length 1::us) (dU xss::us'):=by
 have hb:blk (mO xss++rest) 0=some (hdr 1 (iT xss)):=rfl
 have:=kC.Kz hb (fun j r hr=>acK hr) h
 have e1:(iT xss).length=xss.length:=by simp
 have e2:(iT xss).map Ky=xss.map FI:=by
  rw [List.map_map]
  refine List.map_congr_left fun r _=>?_
  show Fz (r.map I).length 1 (r.map I)=_
  rw [List.length_map]
 rw [e1,e2] at this
 exact this
theorem SG {xss:List (List Int)} {rest:BH} {K:Value→BH→Prop} (hl:xss.length≤1048576) (hll: ∀xs∈xss,xs.length≤1048576) (hK: ∀(m:Nat) (A:BH),A.length=xss.length+1→K (I (m:Int)) (A++rest)):
  aB false UD [S 0 0 xss.length 1,I 1] (mO xss++rest) K:=by
 refine aK VY ?_;simp only [jy,aA]
 refine au fun Kr hKr=>?_;simp (disch:=omega) only [RA,↓reduceIte,Nat.reduceEqDiff,Nat.reduceBEq,Nat.reduceSub,Nat.reduceAdd,Nat.reduceMul,Nat.reduceLT,Nat.reduceLeDiff,Int.reduceLE,Int.reduceLT,Int.reduceEq,Int.reduceNeg,Int.reduceToNat,Int.reduceMul,Int.reduceAdd,Int.reduceSub,Int.reduceBEq,Int.reduceBNe,reduceCtorEq,RD];refine hKr _ _ ?_;clear hKr Kr;(try simp only [RN,reduceIte]);try refine aj rfl ?_
 refine au fun Kr hKr=>?_;simp (disch:=omega) only [RA,↓reduceIte,Nat.reduceEqDiff,Nat.reduceBEq,Nat.reduceSub,Nat.reduceAdd,Nat.reduceMul,Nat.reduceLT,Nat.reduceLeDiff,Int.reduceLE,Int.reduceLT,Int.reduceEq,Int.reduceNeg,Int.reduceToNat,Int.reduceMul,Int.reduceAdd,Int.reduceSub,Int.reduceBEq,Int.reduceBNe,reduceCtorEq,RD];refine hKr _ _ ?_;clear hKr Kr;(try simp only [RN,reduceIte]);try refine aj rfl ?_
 refine aS (fun m f H'=> ∃(i a:Nat) (oI:BH),i≤xss.length∧m=xss.length-i∧a≤1+i*1048576∧oI.length=xss.length∧(∀j,i≤j→j<xss.length→oI[j]? =some (some ((xss.getD j []).map I)))∧f 0=S 0 0 xss.length 1∧f 1=I a∧f 5=I i∧H'=some (hdr 1 (iT xss))::(oI++rest)) (xss.length) ?_ ?_
 ·refine ⟨_,_,Gh.refl,0,1,kS xss,by omega,by omega,by omega,BK,fun j _ hj=>?_,?_,?_,?_,rfl⟩
  any_goals (simp (disch:=omega) only [RA,↓reduceIte,Nat.reduceEqDiff,Nat.reduceBEq,Nat.reduceSub,Nat.reduceAdd,Nat.reduceMul,Nat.reduceLT,Nat.reduceLeDiff,Int.reduceLE,Int.reduceLT,Int.reduceEq,Int.reduceNeg,Int.reduceToNat,Int.reduceMul,Int.reduceAdd,Int.reduceSub,Int.reduceBEq,Int.reduceBNe,reduceCtorEq,RD,RE, *]<;>rfl)
  rw [kS,List.getElem?_map]
  simp [List.getD,hj]
 ·rintro m f H' R ⟨i,a,oI,hi,rfl,ha,hol,hor,g0,g1,g5,rfl⟩ hN hX hR hE
  simp only [jy.l0,aA]
  refine au fun Kr hKr=>?_;simp (disch:=omega) only [RA,↓reduceIte,Nat.reduceEqDiff,Nat.reduceBEq,Nat.reduceSub,Nat.reduceAdd,Nat.reduceMul,Nat.reduceLT,Nat.reduceLeDiff,Int.reduceLE,Int.reduceLT,Int.reduceEq,Int.reduceNeg,Int.reduceToNat,Int.reduceMul,Int.reduceAdd,Int.reduceSub,Int.reduceBEq,Int.reduceBNe,reduceCtorEq,RD,g0,g5];refine hKr _ _ ?_;clear hKr Kr;(try simp only [RN,reduceIte]);try refine aj rfl ?_
  refine bD (p:=i<xss.length) (by simp only [RA,↓reduceIte,Nat.reduceEqDiff,Nat.reduceBEq,Nat.reduceSub,Nat.reduceAdd,Nat.reduceMul,Nat.reduceLT,Nat.reduceLeDiff,Int.reduceLE,Int.reduceLT,Int.reduceEq,Int.reduceNeg,Int.reduceToNat,Int.reduceMul,Int.reduceAdd,Int.reduceSub,Int.reduceBEq,Int.reduceBNe,reduceCtorEq]<;>rfl) (by (try simp only [RB])<;>first|done|exact Iff.rfl|omega|simp) (fun hc=>?_) (fun hc=>?_)<;>(try simp only [RN,reduceIte])<;>(try refine aj rfl ?_)
  ·have hxi:=hll _ (pG (d:=[]) hc)
   have hb:blk (some (hdr 1 (iT xss))::(oI++rest)) 0=some (hdr 1 (iT xss)):=rfl
   have hgr:(iT xss)[i]? =some ((xss.getD i []).map I):=by simp [List.getD,hc]
   have hg:getN none (hdr 1 (iT xss)) i=some (S (1+i) 0 (xss.getD i []).length 1):=by
    have:=Eh (k:=1) hgr
    rw [List.length_map] at this
    exact this
   have hrow:blk (some (hdr 1 (iT xss))::(oI++rest)) (1+i)=some ((xss.getD i []).map I):=by
    unfold blk
    rw [Nat.add_comm 1 i,List.getElem?_cons_succ,List.getElem?_append_left (by omega),hor i (Nat.le_refl _) hc]
    rfl
   (first|refine cZ rfl ?_|refine dh rfl ?_);(try simp only [RN,reduceIte]);try refine aj rfl ?_
   refine au fun Kr hKr=>?_;simp (disch:=omega) only [RA,↓reduceIte,Nat.reduceEqDiff,Nat.reduceBEq,Nat.reduceSub,Nat.reduceAdd,Nat.reduceMul,Nat.reduceLT,Nat.reduceLeDiff,Int.reduceLE,Int.reduceLT,Int.reduceEq,Int.reduceNeg,Int.reduceToNat,Int.reduceMul,Int.reduceAdd,Int.reduceSub,Int.reduceBEq,Int.reduceBNe,reduceCtorEq,RD,g0,g1,g5,hb,hg]
   refine aaL hrow (by omega) ?_
   have hset:(some (hdr 1 (iT xss))::(oI++rest)).set (1+i) (some ((nK a (xss.getD i []).length).map I))=some (hdr 1 (iT xss))::(oI.set i (some ((nK a (xss.getD i []).length).map I))++rest):=by
    rw [Nat.add_comm 1 i,List.set_cons_succ,List.set_append_left _ _ (by omega)]
   rw [hset]
   simp (disch:=omega) only [RA,↓reduceIte,Nat.reduceEqDiff,Nat.reduceBEq,Nat.reduceSub,Nat.reduceAdd,Nat.reduceMul,Nat.reduceLT,Nat.reduceLeDiff,Int.reduceLE,Int.reduceLT,Int.reduceEq,Int.reduceNeg,Int.reduceToNat,Int.reduceMul,Int.reduceAdd,Int.reduceSub,Int.reduceBEq,Int.reduceBNe,reduceCtorEq,RD]
   refine hKr _ _ ?_;clear hKr Kr;(try simp only [aH,aJ,aI]);(try simp only [RN,reduceIte]);try refine aj rfl ?_
   refine bK fun Kr hKr=>?_;simp (disch:=omega) only [RA,↓reduceIte,Nat.reduceEqDiff,Nat.reduceBEq,Nat.reduceSub,Nat.reduceAdd,Nat.reduceMul,Nat.reduceLT,Nat.reduceLeDiff,Int.reduceLE,Int.reduceLT,Int.reduceEq,Int.reduceNeg,Int.reduceToNat,Int.reduceMul,Int.reduceAdd,Int.reduceSub,Int.reduceBEq,Int.reduceBNe,reduceCtorEq,RD,g5];refine hKr _ _ ?_;clear hKr Kr
   refine hN (xss.length-(i+1)) _ _ _ _ (by omega) Gh.refl ⟨i+1,a+(xss.getD i []).length,oI.set i (some ((nK a (xss.getD i []).length).map I)),by omega,rfl,by rw [Nat.add_mul];omega,by rw [List.length_set,hol],fun j hj1 hj2=>?_,?_,?_,?_,rfl⟩
   any_goals (simp (disch:=omega) only [RA,↓reduceIte,Nat.reduceEqDiff,Nat.reduceBEq,Nat.reduceSub,Nat.reduceAdd,Nat.reduceMul,Nat.reduceLT,Nat.reduceLeDiff,Int.reduceLE,Int.reduceLT,Int.reduceEq,Int.reduceNeg,Int.reduceToNat,Int.reduceMul,Int.reduceAdd,Int.reduceSub,Int.reduceBEq,Int.reduceBNe,reduceCtorEq,RD,RE, *]<;>rfl)
   rw [List.getElem?_set_ne (by omega)]
   exact hor j (by omega) hj2
  ·refine hX _ _ ?_
   refine au fun Kr hKr=>?_;simp (disch:=omega) only [RA,↓reduceIte,Nat.reduceEqDiff,Nat.reduceBEq,Nat.reduceSub,Nat.reduceAdd,Nat.reduceMul,Nat.reduceLT,Nat.reduceLeDiff,Int.reduceLE,Int.reduceLT,Int.reduceEq,Int.reduceNeg,Int.reduceToNat,Int.reduceMul,Int.reduceAdd,Int.reduceSub,Int.reduceBEq,Int.reduceBNe,reduceCtorEq,RD,g1];refine hKr _ _ ?_;clear hKr Kr;(try simp only [RN,reduceIte]);try refine aj rfl ?_
   refine aN (by simp (disch:=omega) only [RA,↓reduceIte,Nat.reduceEqDiff,Nat.reduceBEq,Nat.reduceSub,Nat.reduceAdd,Nat.reduceMul,Nat.reduceLT,Nat.reduceLeDiff,Int.reduceLE,Int.reduceLT,Int.reduceEq,Int.reduceNeg,Int.reduceToNat,Int.reduceMul,Int.reduceAdd,Int.reduceSub,Int.reduceBEq,Int.reduceBNe,reduceCtorEq,RD,resAll,resOf];rfl) aF.refl ?_;simp only [tup]
   exact hK a (some (hdr 1 (iT xss))::oI) (by rw [List.length_cons,hol])
end Go.Bm
namespace Go.Bm.Q7
open Go Go.Am Go.Bm
def nZ:Value:=clo zM [P 7 0,P 8 0,P 9 0,P 10 0,P 11 0]
def PM {σ:Type} (B0 B1 B2 B3 B4 B5 B6:σ→Option (List Value)) (s:σ):BH:=[B0 s,B1 s,B2 s,B3 s,B4 s,B5 s,B6 s]
def EM {σ:Type} (B0 B1 B2 B3 B4 B5 B6:σ→Option (List Value)) (g1:Nat) (caps:List Value) (n:Nat) (s:σ) (p:List Nat) (used:List Bool):BH:=
 [B0 s,B1 s,B2 s,B3 s,B4 s,B5 s,B6 s,some [I n],some [clo g1 caps],some (p.map N8),some (used.map B),some [nZ]]
section
variable {σ:Type} {B0 B1 B2 B3 B4 B5 B6:σ→Option (List Value)} {g1 n:Nat} {caps:List Value} {step:σ→List Nat→σ}
theorem Dl (hr: ∀s,kN (List.range 7) (PM B0 B1 B2 B3 B4 B5 B6 s)=PM B0 B1 B2 B3 B4 B5 B6 s) {s:σ} {p:List Nat} {used:List Bool}:kN (List.range 7) (EM B0 B1 B2 B3 B4 B5 B6 g1 caps n s p used)=PM B0 B1 B2 B3 B4 B5 B6 s:=by
 rw [←hr s]
 rfl
def Ac (B0 B1 B2 B3 B4 B5 B6:σ→Option (List Value)) (g1:Nat) (caps:List Value) (n:Nat) (step:σ→List Nat→σ):Prop:=
 ∀(s:σ) (w p:List Nat) (used:List Bool) (K:Value→BH→Prop),PQ n w→K (.tuple ⟨[]⟩) (EM B0 B1 B2 B3 B4 B5 B6 g1 caps n (step s w) p used)→aB false g1 (PL w::caps) (EM B0 B1 B2 B3 B4 B5 B6 g1 caps n s p used) K
variable (hdo:Ac B0 B1 B2 B3 B4 B5 B6 g1 caps n step)
include hdo
theorem Dn (hn0:1≤n) (wQ:n≤8): ∀(m:Nat) {i:Nat} {pre p:List Nat} {used:List Bool} {s:σ} {K:Value→BH→Prop},i=pre.length→i+m=n→o8 n pre→p.length=16→p.take i=pre→(∀j,n≤j→nl p j=0)→(∀j,nl p j<256)→
  used.length=16→(∀y,y<n→bl used y=decide (y∈pre))→
  (∀p',p'.length=16→p'.take i=pre→(∀j,n≤j→nl p' j=0)→(∀j,nl p' j<256)→K (.tuple ⟨[]⟩) (EM B0 B1 B2 B3 B4 B5 B6 g1 caps n ((lv n m pre).foldl step s) p' used))→
  aB false zM [I i,P 7 0,P 8 0,P 9 0,P 10 0,P 11 0] (EM B0 B1 B2 B3 B4 B5 B6 g1 caps n s p used) K:=by
 have gone: ∀{v:Value},getN none [v] 0=some v:=rfl
 intro m
 induction m with
 |zero=>
  intro i pre p used s K hi him hpre hlp htk hz hlt mZ hus hK
  obtain rfl:i=n:=by omega
  have hpq:PQ i p:=by
   have:p∈lv i 0 pre:=by
    rw [lv,List.mem_singleton]
    refine qB (by rw [hlp,Ad (by omega)]) fun j hj=>?_
    rw [rC]
    by_cases hjn:j<pre.length
    ·rw [if_pos hjn,←htk]
     simp [nl,List.getD,List.getElem?_take,show j<i by omega]
    ·rw [if_neg hjn]
     exact hz j (by omega)
   exact ((o9 (by omega) 0 hpre (by omega) p).1 this).1
  have Dp:lv i 0 pre=[p]:=by
   have:p∈lv i 0 pre:=(o9 (by omega) 0 hpre (by omega) p).2 ⟨hpq,by rw [←hi];exact htk⟩
   rw [lv,List.mem_singleton] at this
   rw [lv,this]
  have wR:=hK p hlp htk hz hlt
  rw [Dp,List.foldl_cons,List.foldl_nil] at wR
  refine aK zN ?_;simp only [dS,aA]
  unfold EM
  refine au fun Kr hKr=>?_;simp (disch:=omega) only [RA,↓reduceIte,Nat.reduceEqDiff,Nat.reduceBEq,Nat.reduceSub,Nat.reduceAdd,Nat.reduceMul,Nat.reduceLT,Nat.reduceLeDiff,Int.reduceLE,Int.reduceLT,Int.reduceEq,Int.reduceNeg,Int.reduceToNat,Int.reduceMul,Int.reduceAdd,Int.reduceSub,Int.reduceBEq,Int.reduceBNe,reduceCtorEq,RD,R4,gone];refine hKr _ _ ?_;clear hKr Kr;(try simp only [RN,reduceIte]);try refine aj rfl ?_
  refine aQ (t:=true) (by simp (disch:=omega) only [RA,↓reduceIte,Nat.reduceEqDiff,Nat.reduceBEq,Nat.reduceSub,Nat.reduceAdd,Nat.reduceMul,Nat.reduceLT,Nat.reduceLeDiff,Int.reduceLE,Int.reduceLT,Int.reduceEq,Int.reduceNeg,Int.reduceToNat,Int.reduceMul,Int.reduceAdd,Int.reduceSub,Int.reduceBEq,Int.reduceBNe,reduceCtorEq,RD]) ?_;(try simp only [RN,reduceIte]);try refine aj rfl ?_
  refine au fun Kr hKr=>?_;simp (disch:=omega) only [RA,↓reduceIte,Nat.reduceEqDiff,Nat.reduceBEq,Nat.reduceSub,Nat.reduceAdd,Nat.reduceMul,Nat.reduceLT,Nat.reduceLeDiff,Int.reduceLE,Int.reduceLT,Int.reduceEq,Int.reduceNeg,Int.reduceToNat,Int.reduceMul,Int.reduceAdd,Int.reduceSub,Int.reduceBEq,Int.reduceBNe,reduceCtorEq,RD,R4,gone,hlp,qX,qW,qY]
  refine hdo s p p used _ hpq ?_
  unfold EM
  simp (disch:=omega) only [RA,↓reduceIte,Nat.reduceEqDiff,Nat.reduceBEq,Nat.reduceSub,Nat.reduceAdd,Nat.reduceMul,Nat.reduceLT,Nat.reduceLeDiff,Int.reduceLE,Int.reduceLT,Int.reduceEq,Int.reduceNeg,Int.reduceToNat,Int.reduceMul,Int.reduceAdd,Int.reduceSub,Int.reduceBEq,Int.reduceBNe,reduceCtorEq,RD]
  refine hKr _ _ ?_;clear hKr Kr;(try simp only [aH,aJ,aI]);(try simp only [RN,reduceIte]);try refine aj rfl ?_
  refine aN (by simp (disch:=omega) only [RA,↓reduceIte,Nat.reduceEqDiff,Nat.reduceBEq,Nat.reduceSub,Nat.reduceAdd,Nat.reduceMul,Nat.reduceLT,Nat.reduceLeDiff,Int.reduceLE,Int.reduceLT,Int.reduceEq,Int.reduceNeg,Int.reduceToNat,Int.reduceMul,Int.reduceAdd,Int.reduceSub,Int.reduceBEq,Int.reduceBNe,reduceCtorEq,RD,resAll,resOf];rfl) aF.refl ?_;simp only [tup]
  exact wR
 |succ m ih=>
  intro i pre p used s K hi him hpre hlp htk hz hlt mZ hus hK
  have hin:i<n:=by omega
  have ZH:n≤16:=by omega
  obtain ⟨g,hg⟩: ∃g:Nat→List (List Nat),g=fun y=>if y∈pre then [] else lv n m (pre++[y]):=⟨_,rfl⟩
  obtain ⟨A,hA⟩: ∃A:Nat→σ,A=fun y=>((List.range y).flatMap g).foldl step s:=⟨_,rfl⟩
  have hAs: ∀y,A (y+1)=(g y).foldl step (A y):=fun y=>by
   rw [hA]
   simp only [List.range_succ,List.flatMap_append,List.foldl_append,List.flatMap_cons,List.flatMap_nil,List.append_nil]
  have hpre': ∀y,y<n→y∉pre→o8 n (pre++[y]):=fun y hy hyp=>⟨by
   rw [List.nodup_append]
   exact ⟨hpre.gJ,by simp,fun a ha b hb e=>by rw [List.mem_singleton] at hb;subst hb;subst e;exact hyp ha⟩,fun z hz=>by
   rcases List.mem_append.1 hz with hz|hz
   ·exact hpre.lt z hz
   ·rw [List.mem_singleton] at hz;subst hz;exact hy,by simp;omega⟩
  have hA0:A 0=s:=by rw [hA];rfl
  have Dq:A n=(lv n (m+1) pre).foldl step s:=by rw [hA,hg];rfl
  refine aK zN ?_;simp only [dS,aA]
  unfold EM
  have hne: ¬(i:Int)=n:=by omega
  refine au fun Kr hKr=>?_;simp (disch:=omega) only [RA,↓reduceIte,Nat.reduceEqDiff,Nat.reduceBEq,Nat.reduceSub,Nat.reduceAdd,Nat.reduceMul,Nat.reduceLT,Nat.reduceLeDiff,Int.reduceLE,Int.reduceLT,Int.reduceEq,Int.reduceNeg,Int.reduceToNat,Int.reduceMul,Int.reduceAdd,Int.reduceSub,Int.reduceBEq,Int.reduceBNe,reduceCtorEq,RD,R4,gone,hne];refine hKr _ _ ?_;clear hKr Kr;(try simp only [RN,reduceIte]);try refine aj rfl ?_
  refine aQ (t:=false) (by simp (disch:=omega) only [RA,↓reduceIte,Nat.reduceEqDiff,Nat.reduceBEq,Nat.reduceSub,Nat.reduceAdd,Nat.reduceMul,Nat.reduceLT,Nat.reduceLeDiff,Int.reduceLE,Int.reduceLT,Int.reduceEq,Int.reduceNeg,Int.reduceToNat,Int.reduceMul,Int.reduceAdd,Int.reduceSub,Int.reduceBEq,Int.reduceBNe,reduceCtorEq,RD]) ?_;(try simp only [RN,reduceIte]);try refine aj rfl ?_
  refine au fun Kr hKr=>?_;simp (disch:=omega) only [RA,↓reduceIte,Nat.reduceEqDiff,Nat.reduceBEq,Nat.reduceSub,Nat.reduceAdd,Nat.reduceMul,Nat.reduceLT,Nat.reduceLeDiff,Int.reduceLE,Int.reduceLT,Int.reduceEq,Int.reduceNeg,Int.reduceToNat,Int.reduceMul,Int.reduceAdd,Int.reduceSub,Int.reduceBEq,Int.reduceBNe,reduceCtorEq,RD,gone];refine hKr _ _ ?_;clear hKr Kr;(try simp only [RN,reduceIte]);try refine aj rfl ?_
  refine Jb ?_
  refine aS (fun mm f H'=> ∃y p',y≤n∧mm=n-y∧p'.length=16∧p'.take i=pre∧(∀j,n≤j→nl p' j=0)∧(∀j,nl p' j<256)∧f 0=I i∧f 1=P 7 0∧f 2=P 8 0∧f 3=P 9 0∧f 4=P 10 0∧f 5=P 11 0∧f 14=I n∧f 15=I y∧H'=EM B0 B1 B2 B3 B4 B5 B6 g1 caps n (A y) p' used) (n) ?_ ?_
  ·refine ⟨_,_,Gh.refl,0,p,by omega,by omega,hlp,htk,hz,hlt,?_,?_,?_,?_,?_,?_,?_,?_,by rw [hA0];rfl⟩
   all_goals (simp (disch:=omega) only [RA,↓reduceIte,Nat.reduceEqDiff,Nat.reduceBEq,Nat.reduceSub,Nat.reduceAdd,Nat.reduceMul,Nat.reduceLT,Nat.reduceLeDiff,Int.reduceLE,Int.reduceLT,Int.reduceEq,Int.reduceNeg,Int.reduceToNat,Int.reduceMul,Int.reduceAdd,Int.reduceSub,Int.reduceBEq,Int.reduceBNe,reduceCtorEq,R4,RD,RE]<;>rfl)
  ·rintro mm f H' R ⟨y,p',hy,rfl,pq,rD,hz',hlt',g0,g1',g2,g3,g4,g5,g14,g15,rfl⟩ hN hX hR hE
   simp only [dS.l0,aA]
   refine au fun Kr hKr=>?_;simp (disch:=omega) only [RA,↓reduceIte,Nat.reduceEqDiff,Nat.reduceBEq,Nat.reduceSub,Nat.reduceAdd,Nat.reduceMul,Nat.reduceLT,Nat.reduceLeDiff,Int.reduceLE,Int.reduceLT,Int.reduceEq,Int.reduceNeg,Int.reduceToNat,Int.reduceMul,Int.reduceAdd,Int.reduceSub,Int.reduceBEq,Int.reduceBNe,reduceCtorEq,RD,g14,g15];refine hKr _ _ ?_;clear hKr Kr;(try simp only [RN,reduceIte]);try refine aj rfl ?_
   refine bD (p:=y<n) (by simp only [RA,↓reduceIte,Nat.reduceEqDiff,Nat.reduceBEq,Nat.reduceSub,Nat.reduceAdd,Nat.reduceMul,Nat.reduceLT,Nat.reduceLeDiff,Int.reduceLE,Int.reduceLT,Int.reduceEq,Int.reduceNeg,Int.reduceToNat,Int.reduceMul,Int.reduceAdd,Int.reduceSub,Int.reduceBEq,Int.reduceBNe,reduceCtorEq]<;>rfl) (by (try simp only [RB])<;>first|done|exact Iff.rfl|omega|simp) (fun hc=>?_) (fun hc=>?_)<;>(try simp only [RN,reduceIte])<;>(try refine aj rfl ?_)
   ·have hyn:y<n:=by assumption
    have ZI:y<16:=by omega
    have hnext: ∀f' p2,p2.length=16→p2.take i=pre→(∀j,n≤j→nl p2 j=0)→(∀j,nl p2 j<256)→f' 0=I i→f' 1=P 7 0→f' 2=P 8 0→f' 3=P 9 0→f' 4=P 10 0→f' 5=P 11 0→f' 14=I n→f' 15=I y→T 12 dS.r10 R f' (EM B0 B1 B2 B3 B4 B5 B6 g1 caps n (A (y+1)) p2 used):=by
     clear g0 g1' g2 g3 g4 g5 g14 g15
     intro f' p2 q1 q2 q3 q4 g0 g1' g2 g3 g4 g5 g14 g15
     refine bK fun Kr hKr=>?_;simp (disch:=omega) only [RA,↓reduceIte,Nat.reduceEqDiff,Nat.reduceBEq,Nat.reduceSub,Nat.reduceAdd,Nat.reduceMul,Nat.reduceLT,Nat.reduceLeDiff,Int.reduceLE,Int.reduceLT,Int.reduceEq,Int.reduceNeg,Int.reduceToNat,Int.reduceMul,Int.reduceAdd,Int.reduceSub,Int.reduceBEq,Int.reduceBNe,reduceCtorEq,RD,g15];refine hKr _ _ ?_;clear hKr Kr
     refine hN (n-(y+1)) _ _ _ _ (by omega) Gh.refl ⟨y+1,p2,by omega,rfl,q1,q2,q3,q4,?_,?_,?_,?_,?_,?_,?_,?_,rfl⟩
     all_goals (simp (disch:=omega) only [RA,↓reduceIte,Nat.reduceEqDiff,Nat.reduceBEq,Nat.reduceSub,Nat.reduceAdd,Nat.reduceMul,Nat.reduceLT,Nat.reduceLeDiff,Int.reduceLE,Int.reduceLT,Int.reduceEq,Int.reduceNeg,Int.reduceToNat,Int.reduceMul,Int.reduceAdd,Int.reduceSub,Int.reduceBEq,Int.reduceBNe,reduceCtorEq,RD,RE, *]<;>rfl)
    (first|refine cZ rfl ?_|refine dh rfl ?_);(try simp only [RN,reduceIte]);try refine aj rfl ?_
    refine au fun Kr hKr=>?_;simp (disch:=omega) only [RA,↓reduceIte,Nat.reduceEqDiff,Nat.reduceBEq,Nat.reduceSub,Nat.reduceAdd,Nat.reduceMul,Nat.reduceLT,Nat.reduceLeDiff,Int.reduceLE,Int.reduceLT,Int.reduceEq,Int.reduceNeg,Int.reduceToNat,Int.reduceMul,Int.reduceAdd,Int.reduceSub,Int.reduceBEq,Int.reduceBNe,reduceCtorEq,RD,g15];refine hKr _ _ ?_;clear hKr Kr;(try simp only [RN,reduceIte]);try refine aj rfl ?_
    unfold EM
    refine au fun Kr hKr=>?_;simp (disch:=omega) only [RA,↓reduceIte,Nat.reduceEqDiff,Nat.reduceBEq,Nat.reduceSub,Nat.reduceAdd,Nat.reduceMul,Nat.reduceLT,Nat.reduceLeDiff,Int.reduceLE,Int.reduceLT,Int.reduceEq,Int.reduceNeg,Int.reduceToNat,Int.reduceMul,Int.reduceAdd,Int.reduceSub,Int.reduceBEq,Int.reduceBNe,reduceCtorEq,RD,g4,mZ];refine hKr _ _ ?_;clear hKr Kr;(try simp only [RN,reduceIte]);try refine aj rfl ?_
    by_cases hyp:y∈pre
    ·have hb1:bl used y=true:=by rw [hus y hyn,decide_eq_true hyp]
     have rE:g y=[]:=by rw [hg];simp [hyp]
     have Dt:A (y+1)=A y:=by rw [hAs,rE];rfl
     refine aQ (t:=false) (by simp (disch:=omega) only [RA,↓reduceIte,Nat.reduceEqDiff,Nat.reduceBEq,Nat.reduceSub,Nat.reduceAdd,Nat.reduceMul,Nat.reduceLT,Nat.reduceLeDiff,Int.reduceLE,Int.reduceLT,Int.reduceEq,Int.reduceNeg,Int.reduceToNat,Int.reduceMul,Int.reduceAdd,Int.reduceSub,Int.reduceBEq,Int.reduceBNe,reduceCtorEq,RD,hb1]) ?_;(try simp only [RN,reduceIte]);try refine aj rfl ?_
     rw [←Dt]
     refine hnext _ p' pq rD hz' hlt' ?_ ?_ ?_ ?_ ?_ ?_ ?_ ?_
     any_goals (simp (disch:=omega) only [RA,↓reduceIte,Nat.reduceEqDiff,Nat.reduceBEq,Nat.reduceSub,Nat.reduceAdd,Nat.reduceMul,Nat.reduceLT,Nat.reduceLeDiff,Int.reduceLE,Int.reduceLT,Int.reduceEq,Int.reduceNeg,Int.reduceToNat,Int.reduceMul,Int.reduceAdd,Int.reduceSub,Int.reduceBEq,Int.reduceBNe,reduceCtorEq,RD,RE, *]<;>rfl)
    ·have hb1:bl used y=false:=by rw [hus y hyn,decide_eq_false hyp]
     have rE:g y=lv n m (pre++[y]):=by rw [hg];simp [hyp]
     have wS:(used.set y true).length=16:=by rw [List.length_set,mZ]
     have a1:((i:Nat):Int)+1=((i+1:Nat):Int):=by omega
     refine aQ (t:=true) (by simp (disch:=omega) only [RA,↓reduceIte,Nat.reduceEqDiff,Nat.reduceBEq,Nat.reduceSub,Nat.reduceAdd,Nat.reduceMul,Nat.reduceLT,Nat.reduceLeDiff,Int.reduceLE,Int.reduceLT,Int.reduceEq,Int.reduceNeg,Int.reduceToNat,Int.reduceMul,Int.reduceAdd,Int.reduceSub,Int.reduceBEq,Int.reduceBNe,reduceCtorEq,RD,hb1]) ?_;(try simp only [RN,reduceIte]);try refine aj rfl ?_
     refine au fun Kr hKr=>?_;simp (disch:=omega) only [RA,↓reduceIte,Nat.reduceEqDiff,Nat.reduceBEq,Nat.reduceSub,Nat.reduceAdd,Nat.reduceMul,Nat.reduceLT,Nat.reduceLeDiff,Int.reduceLE,Int.reduceLT,Int.reduceEq,Int.reduceNeg,Int.reduceToNat,Int.reduceMul,Int.reduceAdd,Int.reduceSub,Int.reduceBEq,Int.reduceBNe,reduceCtorEq,RD,g4,mZ];refine hKr _ _ ?_;clear hKr Kr;(try simp only [RN,reduceIte]);try refine aj rfl ?_
     refine au fun Kr hKr=>?_;simp (disch:=omega) only [RA,↓reduceIte,Nat.reduceEqDiff,Nat.reduceBEq,Nat.reduceSub,Nat.reduceAdd,Nat.reduceMul,Nat.reduceLT,Nat.reduceLeDiff,Int.reduceLE,Int.reduceLT,Int.reduceEq,Int.reduceNeg,Int.reduceToNat,Int.reduceMul,Int.reduceAdd,Int.reduceSub,Int.reduceBEq,Int.reduceBNe,reduceCtorEq,RD,g0,g3,pq];refine hKr _ _ ?_;clear hKr Kr;(try simp only [RN,reduceIte]);try refine aj rfl ?_
     refine au fun Kr hKr=>?_;simp (disch:=omega) only [RA,↓reduceIte,Nat.reduceEqDiff,Nat.reduceBEq,Nat.reduceSub,Nat.reduceAdd,Nat.reduceMul,Nat.reduceLT,Nat.reduceLeDiff,Int.reduceLE,Int.reduceLT,Int.reduceEq,Int.reduceNeg,Int.reduceToNat,Int.reduceMul,Int.reduceAdd,Int.reduceSub,Int.reduceBEq,Int.reduceBNe,reduceCtorEq,RD,g0,g5,gone,a1,qX,nZ,qW,qY]
     refine ih (i:=i+1) (pre:=pre++[y]) (p:=p'.set i y) (used:=used.set y true) (s:=A y) (by simp;omega) (by omega) (hpre' y hyn hyp) (by rw [List.length_set,pq]) ?_ (fun j hj=>by rw [iR,if_neg (by omega)];exact hz' j hj) (fun j=>by rw [iR];split;omega;exact hlt' j) wS (fun z hzn=>?_) fun p2 q1 q2 q3 q4=>?_
     ·rw [List.take_set,List.take_add_one,rD,List.getElem?_eq_getElem (show i<p'.length by omega),Option.toList_some,List.set_append,if_neg (by omega)]
      simp [hi]
     ·rw [og,mZ]
      by_cases e:z=y
      ·rw [if_pos ⟨e,by omega⟩,e];simp
      ·rw [if_neg (by omega),hus z hzn]
       simp [e]
     ·rw [←rE,←hAs]
      unfold EM
      simp (disch:=omega) only [RA,↓reduceIte,Nat.reduceEqDiff,Nat.reduceBEq,Nat.reduceSub,Nat.reduceAdd,Nat.reduceMul,Nat.reduceLT,Nat.reduceLeDiff,Int.reduceLE,Int.reduceLT,Int.reduceEq,Int.reduceNeg,Int.reduceToNat,Int.reduceMul,Int.reduceAdd,Int.reduceSub,Int.reduceBEq,Int.reduceBNe,reduceCtorEq,RD]
      refine hKr _ _ ?_;clear hKr Kr;(try simp only [aH,aJ,aI]);(try simp only [RN,reduceIte]);try refine aj rfl ?_
      refine au fun Kr hKr=>?_;simp (disch:=omega) only [RA,↓reduceIte,Nat.reduceEqDiff,Nat.reduceBEq,Nat.reduceSub,Nat.reduceAdd,Nat.reduceMul,Nat.reduceLT,Nat.reduceLeDiff,Int.reduceLE,Int.reduceLT,Int.reduceEq,Int.reduceNeg,Int.reduceToNat,Int.reduceMul,Int.reduceAdd,Int.reduceSub,Int.reduceBEq,Int.reduceBNe,reduceCtorEq,RD,g4,wS];refine hKr _ _ ?_;clear hKr Kr;(try simp only [RN,reduceIte]);try refine aj rfl ?_
      rw [Jd hb1]
      refine hnext _ p2 q1 ?_ q3 q4 ?_ ?_ ?_ ?_ ?_ ?_ ?_ ?_
      any_goals (simp (disch:=omega) only [RA,↓reduceIte,Nat.reduceEqDiff,Nat.reduceBEq,Nat.reduceSub,Nat.reduceAdd,Nat.reduceMul,Nat.reduceLT,Nat.reduceLeDiff,Int.reduceLE,Int.reduceLT,Int.reduceEq,Int.reduceNeg,Int.reduceToNat,Int.reduceMul,Int.reduceAdd,Int.reduceSub,Int.reduceBEq,Int.reduceBNe,reduceCtorEq,RD,RE, *]<;>rfl)
      have q5:=congrArg (List.take i) q2
      rw [List.take_take,Nat.min_eq_left (by omega),List.take_append_of_le_length (by omega),List.take_of_length_le (l:=pre) (by omega)] at q5
      exact q5
   ·refine hX _ _ ?_
    obtain rfl:y=n:=by omega
    rw [Dq]
    exact oL (rF (vs:=[]) rfl aF.refl (hK p' pq rD hz' hlt'))
theorem Jg (hr: ∀s,kN (List.range 7) (PM B0 B1 B2 B3 B4 B5 B6 s)=PM B0 B1 B2 B3 B4 B5 B6 s) (hn0:1≤n) (wQ:n≤8) {s:σ} {K:Value→BH→Prop} (hK:K (.tuple ⟨[]⟩) (PM B0 B1 B2 B3 B4 B5 B6 ((lv n n []).foldl step s))):
  aB false Ia [I n,clo g1 caps] (PM B0 B1 B2 B3 B4 B5 B6 s) K:=by
 have gone: ∀{v:Value},getN none [v] 0=some v:=rfl
 refine aK Il ?_;simp only [jS,aA]
 unfold PM
 refine au fun Kr hKr=>?_;simp (disch:=omega) only [RA,↓reduceIte,Nat.reduceEqDiff,Nat.reduceBEq,Nat.reduceSub,Nat.reduceAdd,Nat.reduceMul,Nat.reduceLT,Nat.reduceLeDiff,Int.reduceLE,Int.reduceLT,Int.reduceEq,Int.reduceNeg,Int.reduceToNat,Int.reduceMul,Int.reduceAdd,Int.reduceSub,Int.reduceBEq,Int.reduceBNe,reduceCtorEq,RD];refine hKr _ _ ?_;clear hKr Kr;(try simp only [RN,reduceIte]);try refine aj rfl ?_
 refine au fun Kr hKr=>?_;simp (disch:=omega) only [RA,↓reduceIte,Nat.reduceEqDiff,Nat.reduceBEq,Nat.reduceSub,Nat.reduceAdd,Nat.reduceMul,Nat.reduceLT,Nat.reduceLeDiff,Int.reduceLE,Int.reduceLT,Int.reduceEq,Int.reduceNeg,Int.reduceToNat,Int.reduceMul,Int.reduceAdd,Int.reduceSub,Int.reduceBEq,Int.reduceBNe,reduceCtorEq,RD];refine hKr _ _ ?_;clear hKr Kr;(try simp only [RN,reduceIte]);try refine aj rfl ?_
 refine au fun Kr hKr=>?_;simp (disch:=omega) only [RA,↓reduceIte,Nat.reduceEqDiff,Nat.reduceBEq,Nat.reduceSub,Nat.reduceAdd,Nat.reduceMul,Nat.reduceLT,Nat.reduceLeDiff,Int.reduceLE,Int.reduceLT,Int.reduceEq,Int.reduceNeg,Int.reduceToNat,Int.reduceMul,Int.reduceAdd,Int.reduceSub,Int.reduceBEq,Int.reduceBNe,reduceCtorEq,RD];refine hKr _ _ ?_;clear hKr Kr;(try simp only [RN,reduceIte]);try refine aj rfl ?_
 refine au fun Kr hKr=>?_;simp (disch:=omega) only [RA,↓reduceIte,Nat.reduceEqDiff,Nat.reduceBEq,Nat.reduceSub,Nat.reduceAdd,Nat.reduceMul,Nat.reduceLT,Nat.reduceLeDiff,Int.reduceLE,Int.reduceLT,Int.reduceEq,Int.reduceNeg,Int.reduceToNat,Int.reduceMul,Int.reduceAdd,Int.reduceSub,Int.reduceBEq,Int.reduceBNe,reduceCtorEq,RD];refine hKr _ _ ?_;clear hKr Kr;(try simp only [RN,reduceIte]);try refine aj rfl ?_
 refine au fun Kr hKr=>?_;simp (disch:=omega) only [RA,↓reduceIte,Nat.reduceEqDiff,Nat.reduceBEq,Nat.reduceSub,Nat.reduceAdd,Nat.reduceMul,Nat.reduceLT,Nat.reduceLeDiff,Int.reduceLE,Int.reduceLT,Int.reduceEq,Int.reduceNeg,Int.reduceToNat,Int.reduceMul,Int.reduceAdd,Int.reduceSub,Int.reduceBEq,Int.reduceBNe,reduceCtorEq,RD];refine hKr _ _ ?_;clear hKr Kr;(try simp only [RN,reduceIte]);try refine aj rfl ?_
 refine bK fun Kr hKr=>?_;simp (disch:=omega) only [RA,↓reduceIte,Nat.reduceEqDiff,Nat.reduceBEq,Nat.reduceSub,Nat.reduceAdd,Nat.reduceMul,Nat.reduceLT,Nat.reduceLeDiff,Int.reduceLE,Int.reduceLT,Int.reduceEq,Int.reduceNeg,Int.reduceToNat,Int.reduceMul,Int.reduceAdd,Int.reduceSub,Int.reduceBEq,Int.reduceBNe,reduceCtorEq,RD,gone,qX,nZ,qW,qY]
 refine Dn hdo hn0 wQ n (i:=0) (pre:=[]) (p:=List.replicate 16 0) (used:=List.replicate 16 false) (s:=s) rfl (by omega) ⟨by simp,by simp,by simp⟩ rfl rfl (fun j _=>by rw [jZ];split<;>rfl) (fun j=>by rw [jZ];split<;>omega) rfl (fun y _=>?_) fun p' q1 q2 q3 q4=>?_
 ·have:bl (List.replicate 16 false) y=false:=by
   rw [bl,List.getD_eq_getElem?_getD,List.getElem?_replicate]
   split<;>rfl
  rw [this];simp
 ·simp (disch:=omega) only [RA,↓reduceIte,Nat.reduceEqDiff,Nat.reduceBEq,Nat.reduceSub,Nat.reduceAdd,Nat.reduceMul,Nat.reduceLT,Nat.reduceLeDiff,Int.reduceLE,Int.reduceLT,Int.reduceEq,Int.reduceNeg,Int.reduceToNat,Int.reduceMul,Int.reduceAdd,Int.reduceSub,Int.reduceBEq,Int.reduceBNe,reduceCtorEq,RD]
  refine hKr _ _ ?_;clear hKr Kr;(try simp only [aH,aJ,aI]);(try simp only [RN,reduceIte]);try refine aj rfl ?_
  refine rF (vs:=[]) rfl (aF.rG (List.range 7) List.nodup_range (fun j hj=>zY hj) .undef) ?_
  rw [Dl hr]
  exact hK
end
end Go.Bm.Q7
