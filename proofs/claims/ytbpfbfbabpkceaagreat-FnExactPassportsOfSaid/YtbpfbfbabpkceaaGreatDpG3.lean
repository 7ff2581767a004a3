/- DpDd, DpS, DpEa, DpEb, DpW, BmU, BmV, DpDi, DpDj, DpDe, DpDk, DpDl -/
import Derived.Test.YtbpfbfbabpkceaaGreatDpG0
import Derived.Test.YtbpfbfbabpkceaaGreatDpG1
import Derived.Test.YtbpfbfbabpkceaaGreatDpG2
set_option linter.unusedVariables false
set_option linter.unusedSimpArgs false
namespace Go.Bm
open Go Go.Am
def CJ (c:Option (List Value)) (H:BH) (bytes cn:Nat):Option (Value×BH):=
 match c with
 |some [v]=>if bytes≤140737488355328 then some (S H.length 0 1 1,H++[some [v]]) else eH 1 bytes (.slice none 0 0) (S cn 0 1 1) H
 | _=>eH 1 bytes (.slice none 0 0) (S cn 0 1 1) H
theorem ab9 {H:BH} {c bytes:Nat}:eH 1 bytes (.slice none 0 0) (S c 0 1 1) H=CJ (blk H c) H bytes c:=by
 unfold CJ
 split
 ·rename_i v hc
  split
  ·rename_i h
   simp [eH,newC,hc,h]
  ·rfl
 ·rfl
theorem acd {H:BH} {v:Value} {bytes cn:Nat} (h:bytes≤140737488355328):CJ (some [v]) H bytes cn=some (S H.length 0 1 1,H++[some [v]]):=by
 simp only [CJ]
 rw [if_pos h]
def LS (lv:Value) (L:List (List Nat)) (H0:BH):Prop:=(lv= .slice none 0 0∧L=[]∧H0=[])∨(lv=S 0 0 L.length 1∧H0=[some (L.map FN)])
theorem CO {m:Nat} {start:List Nat} {L:List (List Nat)} {lv:Value} {H0:BH} (hL:LS lv L H0) (hl:L.length≤1000):
  aF false BG [I (0:Nat),I m,FN start,lv] H0 fun v H1=> ∃j,(j≠0∨H0=[])∧v=S j 0 (L++[start]).length 1∧blk H1 j=some ((L++[start]).map FN):=by
 rcases hL with ⟨rfl,rfl,rfl⟩|⟨rfl,rfl⟩
 ·refine aG BL ?_;simp only [ig,aB]
  refine au fun Kr hKr=>?_;simp (disch:=omega) only [RA,↓reduceIte,Nat.reduceEqDiff,Nat.reduceBEq,Nat.reduceSub,Nat.reduceAdd,Nat.reduceMul,Nat.reduceLT,Nat.reduceLeDiff,Int.reduceLE,Int.reduceLT,Int.reduceEq,Int.reduceNeg,Int.reduceToNat,Int.reduceMul,Int.reduceAdd,Int.reduceSub,Int.reduceBEq,Int.reduceBNe,reduceCtorEq,RD];refine hKr _ _ ?_;clear hKr Kr;(try simp only [RN,reduceIte]);try refine aj rfl ?_
  refine au fun Kr hKr=>?_;simp (disch:=omega) only [RA,↓reduceIte,Nat.reduceEqDiff,Nat.reduceBEq,Nat.reduceSub,Nat.reduceAdd,Nat.reduceMul,Nat.reduceLT,Nat.reduceLeDiff,Int.reduceLE,Int.reduceLT,Int.reduceEq,Int.reduceNeg,Int.reduceToNat,Int.reduceMul,Int.reduceAdd,Int.reduceSub,Int.reduceBEq,Int.reduceBNe,reduceCtorEq,RD];refine hKr _ _ ?_;clear hKr Kr;(try simp only [RN,reduceIte]);try refine aj rfl ?_
  refine dY (t:=true) (by simp (disch:=omega) only [RA,↓reduceIte,Nat.reduceEqDiff,Nat.reduceBEq,Nat.reduceSub,Nat.reduceAdd,Nat.reduceMul,Nat.reduceLT,Nat.reduceLeDiff,Int.reduceLE,Int.reduceLT,Int.reduceEq,Int.reduceNeg,Int.reduceToNat,Int.reduceMul,Int.reduceAdd,Int.reduceSub,Int.reduceBEq,Int.reduceBNe,reduceCtorEq,RD]) ?_;(try simp only [RN,reduceIte]);try refine aj rfl ?_
  refine au fun Kr hKr=>?_;simp (disch:=omega) only [RA,↓reduceIte,Nat.reduceEqDiff,Nat.reduceBEq,Nat.reduceSub,Nat.reduceAdd,Nat.reduceMul,Nat.reduceLT,Nat.reduceLeDiff,Int.reduceLE,Int.reduceLT,Int.reduceEq,Int.reduceNeg,Int.reduceToNat,Int.reduceMul,Int.reduceAdd,Int.reduceSub,Int.reduceBEq,Int.reduceBNe,reduceCtorEq,RD,ab9,acd];refine hKr _ _ ?_;clear hKr Kr;(try simp only [RN,reduceIte]);try refine aj rfl ?_
  refine bZ (by simp (disch:=omega) only [RA,↓reduceIte,Nat.reduceEqDiff,Nat.reduceBEq,Nat.reduceSub,Nat.reduceAdd,Nat.reduceMul,Nat.reduceLT,Nat.reduceLeDiff,Int.reduceLE,Int.reduceLT,Int.reduceEq,Int.reduceNeg,Int.reduceToNat,Int.reduceMul,Int.reduceAdd,Int.reduceSub,Int.reduceBEq,Int.reduceBNe,reduceCtorEq,RD,resAll,resOf];rfl) aY.refl ?_;simp only [tup]
  exact ⟨1, .inr trivial,rfl,rfl⟩
 ·refine aG BL ?_;simp only [ig,aB]
  refine au fun Kr hKr=>?_;simp (disch:=omega) only [RA,↓reduceIte,Nat.reduceEqDiff,Nat.reduceBEq,Nat.reduceSub,Nat.reduceAdd,Nat.reduceMul,Nat.reduceLT,Nat.reduceLeDiff,Int.reduceLE,Int.reduceLT,Int.reduceEq,Int.reduceNeg,Int.reduceToNat,Int.reduceMul,Int.reduceAdd,Int.reduceSub,Int.reduceBEq,Int.reduceBNe,reduceCtorEq,RD];refine hKr _ _ ?_;clear hKr Kr;(try simp only [RN,reduceIte]);try refine aj rfl ?_
  refine au fun Kr hKr=>?_;simp (disch:=omega) only [RA,↓reduceIte,Nat.reduceEqDiff,Nat.reduceBEq,Nat.reduceSub,Nat.reduceAdd,Nat.reduceMul,Nat.reduceLT,Nat.reduceLeDiff,Int.reduceLE,Int.reduceLT,Int.reduceEq,Int.reduceNeg,Int.reduceToNat,Int.reduceMul,Int.reduceAdd,Int.reduceSub,Int.reduceBEq,Int.reduceBNe,reduceCtorEq,RD];refine hKr _ _ ?_;clear hKr Kr;(try simp only [RN,reduceIte]);try refine aj rfl ?_
  refine dY (t:=true) (by simp (disch:=omega) only [RA,↓reduceIte,Nat.reduceEqDiff,Nat.reduceBEq,Nat.reduceSub,Nat.reduceAdd,Nat.reduceMul,Nat.reduceLT,Nat.reduceLeDiff,Int.reduceLE,Int.reduceLT,Int.reduceEq,Int.reduceNeg,Int.reduceToNat,Int.reduceMul,Int.reduceAdd,Int.reduceSub,Int.reduceBEq,Int.reduceBNe,reduceCtorEq,RD]) ?_;(try simp only [RN,reduceIte]);try refine aj rfl ?_
  refine au fun Kr hKr=>?_;simp (disch:=omega) only [RA,↓reduceIte,Nat.reduceEqDiff,Nat.reduceBEq,Nat.reduceSub,Nat.reduceAdd,Nat.reduceMul,Nat.reduceLT,Nat.reduceLeDiff,Int.reduceLE,Int.reduceLT,Int.reduceEq,Int.reduceNeg,Int.reduceToNat,Int.reduceMul,Int.reduceAdd,Int.reduceSub,Int.reduceBEq,Int.reduceBNe,reduceCtorEq,RD,FU];refine hKr _ _ ?_;clear hKr Kr;(try simp only [RN,reduceIte]);try refine aj rfl ?_
  refine bZ (by simp (disch:=omega) only [RA,↓reduceIte,Nat.reduceEqDiff,Nat.reduceBEq,Nat.reduceSub,Nat.reduceAdd,Nat.reduceMul,Nat.reduceLT,Nat.reduceLeDiff,Int.reduceLE,Int.reduceLT,Int.reduceEq,Int.reduceNeg,Int.reduceToNat,Int.reduceMul,Int.reduceAdd,Int.reduceSub,Int.reduceBEq,Int.reduceBNe,reduceCtorEq,RD,resAll,resOf];rfl) aY.refl ?_;simp only [tup]
  exact ⟨2, .inl (by omega),by simp,rfl⟩
theorem ace {H:BH} {b bytes:Nat} {ys:List Nat} (h:ys.length*bytes≤140737488355328):rH (some []) H b 0 ys.length bytes (ys.map bF)=some (S H.length 0 ys.length 1,(H.set b none)++[some (ys.map bF)]):=acf (fun _=>rfl) h
theorem CP {x:Bool} {xs:List Nat} {H:BH} {K:Value→BH→Prop} (hl:xs.length≤1000) (hK:K (S H.length 0 xs.length 1) (H++[some (xs.map bF)])):
  aF x XR [FN xs] H K:=by
 refine CQ (.cons .fz .nil) kU ?_ hK
 refine aG Y6 ?_;simp only [qR,aB]
 refine aC ?_
 refine aA (aH @MV @ace) ?_
 refine aV ?_
 exact ⟨1,rfl,rfl⟩
theorem acg: ∀(k n m:Nat) (start:List Nat) (L:List (List Nat)),n≤k→k≤16→m≤16→(n=0∨1≤m)→start.length+n≤16→L.length+(aU k n m).length≤1000→
  aF false BG [I n,I m,FN start,S 0 0 L.length 1] [some (L.map FN)] fun v H1=> ∃j,j≠0∧v=S j 0 (L++(aU k n m).map (start++ ·)).length 1∧blk H1 j=some ((L++(aU k n m).map (start++ ·)).map FN):=by
 intro k
 induction k with
 |zero=>
  intro n m start L hn hk hm hnm hs hl
  obtain rfl:n=0:=by omega
  have e:(aU 0 0 m).map (start++ ·)=[start]:=by simp [aU]
  rw [e]
  refine (CO (L:=L) (.inr ⟨rfl,rfl⟩) (by omega)).mono fun v H1 ⟨j,h1,h2,h3⟩=>⟨j,?_,h2,h3⟩
  rcases h1 with h1|h1
  ·exact h1
  ·cases h1
 |succ k ih=>
  intro n m start L hn hk hm hnm hs hl
  by_cases h0:n=0
  ·subst h0
   have e:(aU (k+1) 0 m).map (start++ ·)=[start]:=by simp [aU]
   rw [e]
   refine (CO (L:=L) (.inr ⟨rfl,rfl⟩) (by omega)).mono fun v H1 ⟨j,h1,h2,h3⟩=>⟨j,?_,h2,h3⟩
   rcases h1 with h1|h1
   ·exact h1
   ·cases h1
  ·rw [yN h0] at hl⊢
   refine aG BL ?_;simp only [ig,aB]
   refine au fun Kr hKr=>?_;simp (disch:=omega) only [RA,↓reduceIte,Nat.reduceEqDiff,Nat.reduceBEq,Nat.reduceSub,Nat.reduceAdd,Nat.reduceMul,Nat.reduceLT,Nat.reduceLeDiff,Int.reduceLE,Int.reduceLT,Int.reduceEq,Int.reduceNeg,Int.reduceToNat,Int.reduceMul,Int.reduceAdd,Int.reduceSub,Int.reduceBEq,Int.reduceBNe,reduceCtorEq,RD];refine hKr _ _ ?_;clear hKr Kr;(try simp only [RN,reduceIte]);try refine aj rfl ?_
   refine au fun Kr hKr=>?_;simp (disch:=omega) only [RA,↓reduceIte,Nat.reduceEqDiff,Nat.reduceBEq,Nat.reduceSub,Nat.reduceAdd,Nat.reduceMul,Nat.reduceLT,Nat.reduceLeDiff,Int.reduceLE,Int.reduceLT,Int.reduceEq,Int.reduceNeg,Int.reduceToNat,Int.reduceMul,Int.reduceAdd,Int.reduceSub,Int.reduceBEq,Int.reduceBNe,reduceCtorEq,RD];refine hKr _ _ ?_;clear hKr Kr;(try simp only [RN,reduceIte]);try refine aj rfl ?_
   refine dY (t:=false) (by simp (disch:=omega) only [RA,↓reduceIte,Nat.reduceEqDiff,Nat.reduceBEq,Nat.reduceSub,Nat.reduceAdd,Nat.reduceMul,Nat.reduceLT,Nat.reduceLeDiff,Int.reduceLE,Int.reduceLT,Int.reduceEq,Int.reduceNeg,Int.reduceToNat,Int.reduceMul,Int.reduceAdd,Int.reduceSub,Int.reduceBEq,Int.reduceBNe,reduceCtorEq,RD]) ?_;(try simp only [RN,reduceIte]);try refine aj rfl ?_
   refine au fun Kr hKr=>?_;simp (disch:=omega) only [RA,↓reduceIte,Nat.reduceEqDiff,Nat.reduceBEq,Nat.reduceSub,Nat.reduceAdd,Nat.reduceMul,Nat.reduceLT,Nat.reduceLeDiff,Int.reduceLE,Int.reduceLT,Int.reduceEq,Int.reduceNeg,Int.reduceToNat,Int.reduceMul,Int.reduceAdd,Int.reduceSub,Int.reduceBEq,Int.reduceBNe,reduceCtorEq,RD];refine hKr _ _ ?_;clear hKr Kr;(try simp only [RN,reduceIte]);try refine aj rfl ?_
   refine aW (fun d f H'=> ∃i R,i≤min n m∧d=min n m-i∧R=L++(iW k n i).map (start++ ·)∧f 0=I n∧f 1=I m∧f 2=FN start∧f 9=I ((i+1:Nat):Int)∧((i=0∧f 3=S 0 0 R.length 1∧H'=[some (R.map FN)])∨(0<i∧f 3=S 1 0 R.length 1∧H'=[none,some (R.map FN)]))) (min n m) ?_ ?_
   ·refine ⟨_,_,Gh.refl,0,L,by omega,by omega,by simp [iW],ah,ah,ah,ah, .inl ⟨rfl,?_,rfl⟩⟩
    all_goals (simp (disch:=omega) only [RA,↓reduceIte,Nat.reduceEqDiff,Nat.reduceBEq,Nat.reduceSub,Nat.reduceAdd,Nat.reduceMul,Nat.reduceLT,Nat.reduceLeDiff,Int.reduceLE,Int.reduceLT,Int.reduceEq,Int.reduceNeg,Int.reduceToNat,Int.reduceMul,Int.reduceAdd,Int.reduceSub,Int.reduceBEq,Int.reduceBNe,reduceCtorEq,RD,RE, *]<;>rfl)
   ·rintro d f H' R0 ⟨i,R,hi,rfl,hR0,g0,g1,g2,g9,hH⟩ hN hX hR hE
    simp only [ig.l0,aB]
    have hpl:=sV (k:=k) (n:=n) hi
    have hRl:R.length≤1000:=by
     rw [hR0,List.length_append,List.length_map]
     omega
    by_cases him:i<min n m
    ·have e1:(n:Int)-((i+1:Nat):Int)=((n-(i+1):Nat):Int):=by omega
     have hpl2:=sV (k:=k) (n:=n) (show i+1≤min n m by omega)
     have hps:=yO (k:=k) (n:=n) (i:=i)
     rw [hps,List.length_append,List.length_map] at hpl2
     have hst:(start++[i+1]).length=start.length+1:=by simp
     have vF:R++(aU k (n-(i+1)) (i+1)).map ((start++[i+1])++ ·)=L++(iW k n (i+1)).map (start++ ·):=by
      rw [hR0,hps,List.map_append,List.append_assoc,List.map_map]
      congr 3
      funext r
      simp
     have hih:=ih (n-(i+1)) (i+1) (start++[i+1]) R (by omega) (by omega) (by omega) (.inr (by omega)) (by omega) (by rw [hR0,List.length_append,List.length_map];omega)
     rw [vF] at hih
     rcases hH with ⟨hi0,g3,rfl⟩|⟨hi0,g3,rfl⟩
     ·refine au fun Kr hKr=>?_;simp (disch:=omega) only [RA,↓reduceIte,Nat.reduceEqDiff,Nat.reduceBEq,Nat.reduceSub,Nat.reduceAdd,Nat.reduceMul,Nat.reduceLT,Nat.reduceLeDiff,Int.reduceLE,Int.reduceLT,Int.reduceEq,Int.reduceNeg,Int.reduceToNat,Int.reduceMul,Int.reduceAdd,Int.reduceSub,Int.reduceBEq,Int.reduceBNe,reduceCtorEq,RD,g0,g1,g9];refine hKr _ _ ?_;clear hKr Kr;(try simp only [RN,reduceIte]);try refine aj rfl ?_
      refine dY (t:=true) (by simp (disch:=omega) only [RA,↓reduceIte,Nat.reduceEqDiff,Nat.reduceBEq,Nat.reduceSub,Nat.reduceAdd,Nat.reduceMul,Nat.reduceLT,Nat.reduceLeDiff,Int.reduceLE,Int.reduceLT,Int.reduceEq,Int.reduceNeg,Int.reduceToNat,Int.reduceMul,Int.reduceAdd,Int.reduceSub,Int.reduceBEq,Int.reduceBNe,reduceCtorEq,RD]) ?_;(try simp only [RN,reduceIte]);try refine aj rfl ?_
      (first|refine fV rfl ?_|refine fZ rfl ?_);(try simp only [RN,reduceIte]);try refine aj rfl ?_
      refine au fun Kr hKr=>?_;simp (disch:=omega) only [RA,↓reduceIte,Nat.reduceEqDiff,Nat.reduceBEq,Nat.reduceSub,Nat.reduceAdd,Nat.reduceMul,Nat.reduceLT,Nat.reduceLeDiff,Int.reduceLE,Int.reduceLT,Int.reduceEq,Int.reduceNeg,Int.reduceToNat,Int.reduceMul,Int.reduceAdd,Int.reduceSub,Int.reduceBEq,Int.reduceBNe,reduceCtorEq,RD,g0,g2,g3,g9,e1]
      refine CP (by omega) ?_
      simp (disch:=omega) only [RA,↓reduceIte,Nat.reduceEqDiff,Nat.reduceBEq,Nat.reduceSub,Nat.reduceAdd,Nat.reduceMul,Nat.reduceLT,Nat.reduceLeDiff,Int.reduceLE,Int.reduceLT,Int.reduceEq,Int.reduceNeg,Int.reduceToNat,Int.reduceMul,Int.reduceAdd,Int.reduceSub,Int.reduceBEq,Int.reduceBNe,reduceCtorEq,RD,g3,g9,rJ]
      have hz:(start.length+1)*1=((start++[i+1]).map bF).length:=by simp
      refine uZ 3 (cs:=(start++[i+1]).map bF) rfl kU ?_
      have ea:([I ((n-(i+1):Nat):Int),I ((i+1:Nat):Int),S 3 0 (start.length+1) 1,S 0 0 R.length 1]:List Value).map (frz 3 ((start++[i+1]).map bF))=[I ((n-(i+1):Nat):Int),I ((i+1:Nat):Int),FN (start++[i+1]),S 0 0 R.length 1]:=by
       simp only [List.map_cons,List.map_nil,vG,nC hz,CS (show 0≠3 by omega)]
       rw [FN,hst]
      rw [ea]
      refine FV (i:=0) (cs0:=R.map FN) rfl kL ?_
      have eb:([I ((n-(i+1):Nat):Int),I ((i+1:Nat):Int),FN (start++[i+1]),S 0 0 R.length 1]:List Value).map (ren [0])=[I ((n-(i+1):Nat):Int),I ((i+1:Nat):Int),FN (start++[i+1]),S 0 0 R.length 1]:=by simp [ren,og,nm,Fz]
      rw [eb]
      refine hih.mono fun v H1 ⟨j,h1,h2,h3⟩=>⟨j,_,_,_,h2,h1,h3,kL,?_⟩
      obtain ⟨R2,hR2⟩: ∃R2,L++(iW k n (i+1)).map (start++ ·)=R2:=⟨_,rfl⟩
      rw [hR2]
      simp (disch:=omega) only [RA,↓reduceIte,Nat.reduceEqDiff,Nat.reduceBEq,Nat.reduceSub,Nat.reduceAdd,Nat.reduceMul,Nat.reduceLT,Nat.reduceLeDiff,Int.reduceLE,Int.reduceLT,Int.reduceEq,Int.reduceNeg,Int.reduceToNat,Int.reduceMul,Int.reduceAdd,Int.reduceSub,Int.reduceBEq,Int.reduceBNe,reduceCtorEq,RD]
      refine hKr _ _ ?_;clear hKr Kr;(try simp only [bW,dH,dG]);(try simp only [RN,reduceIte]);try refine aj rfl ?_
      refine dN fun Kr hKr=>?_;simp (disch:=omega) only [RA,↓reduceIte,Nat.reduceEqDiff,Nat.reduceBEq,Nat.reduceSub,Nat.reduceAdd,Nat.reduceMul,Nat.reduceLT,Nat.reduceLeDiff,Int.reduceLE,Int.reduceLT,Int.reduceEq,Int.reduceNeg,Int.reduceToNat,Int.reduceMul,Int.reduceAdd,Int.reduceSub,Int.reduceBEq,Int.reduceBNe,reduceCtorEq,RD,g9];refine hKr _ _ ?_;clear hKr Kr
      exact hN (min n m-(i+1)) _ _ _ _ (by omega) (Gh.nrm [0,4] rfl rfl (by simp only [RH,RV])) ⟨i+1,R2,by omega,rfl,hR2.symm,ah,ah,ah,ah, .inr ⟨by omega,ah,rfl⟩⟩
     ·refine au fun Kr hKr=>?_;simp (disch:=omega) only [RA,↓reduceIte,Nat.reduceEqDiff,Nat.reduceBEq,Nat.reduceSub,Nat.reduceAdd,Nat.reduceMul,Nat.reduceLT,Nat.reduceLeDiff,Int.reduceLE,Int.reduceLT,Int.reduceEq,Int.reduceNeg,Int.reduceToNat,Int.reduceMul,Int.reduceAdd,Int.reduceSub,Int.reduceBEq,Int.reduceBNe,reduceCtorEq,RD,g0,g1,g9];refine hKr _ _ ?_;clear hKr Kr;(try simp only [RN,reduceIte]);try refine aj rfl ?_
      refine dY (t:=true) (by simp (disch:=omega) only [RA,↓reduceIte,Nat.reduceEqDiff,Nat.reduceBEq,Nat.reduceSub,Nat.reduceAdd,Nat.reduceMul,Nat.reduceLT,Nat.reduceLeDiff,Int.reduceLE,Int.reduceLT,Int.reduceEq,Int.reduceNeg,Int.reduceToNat,Int.reduceMul,Int.reduceAdd,Int.reduceSub,Int.reduceBEq,Int.reduceBNe,reduceCtorEq,RD]) ?_;(try simp only [RN,reduceIte]);try refine aj rfl ?_
      (first|refine fV rfl ?_|refine fZ rfl ?_);(try simp only [RN,reduceIte]);try refine aj rfl ?_
      refine au fun Kr hKr=>?_;simp (disch:=omega) only [RA,↓reduceIte,Nat.reduceEqDiff,Nat.reduceBEq,Nat.reduceSub,Nat.reduceAdd,Nat.reduceMul,Nat.reduceLT,Nat.reduceLeDiff,Int.reduceLE,Int.reduceLT,Int.reduceEq,Int.reduceNeg,Int.reduceToNat,Int.reduceMul,Int.reduceAdd,Int.reduceSub,Int.reduceBEq,Int.reduceBNe,reduceCtorEq,RD,g0,g2,g3,g9,e1]
      refine CP (by omega) ?_
      simp (disch:=omega) only [RA,↓reduceIte,Nat.reduceEqDiff,Nat.reduceBEq,Nat.reduceSub,Nat.reduceAdd,Nat.reduceMul,Nat.reduceLT,Nat.reduceLeDiff,Int.reduceLE,Int.reduceLT,Int.reduceEq,Int.reduceNeg,Int.reduceToNat,Int.reduceMul,Int.reduceAdd,Int.reduceSub,Int.reduceBEq,Int.reduceBNe,reduceCtorEq,RD,g3,g9,rJ]
      have hz:(start.length+1)*1=((start++[i+1]).map bF).length:=by simp
      refine uZ 4 (cs:=(start++[i+1]).map bF) rfl kU ?_
      have ea:([I ((n-(i+1):Nat):Int),I ((i+1:Nat):Int),S 4 0 (start.length+1) 1,S 1 0 R.length 1]:List Value).map (frz 4 ((start++[i+1]).map bF))=[I ((n-(i+1):Nat):Int),I ((i+1:Nat):Int),FN (start++[i+1]),S 1 0 R.length 1]:=by
       simp only [List.map_cons,List.map_nil,vG,nC hz,CS (show 1≠4 by omega)]
       rw [FN,hst]
      rw [ea]
      refine FV (i:=1) (cs0:=R.map FN) rfl kL ?_
      have eb:([I ((n-(i+1):Nat):Int),I ((i+1:Nat):Int),FN (start++[i+1]),S 1 0 R.length 1]:List Value).map (ren [1])=[I ((n-(i+1):Nat):Int),I ((i+1:Nat):Int),FN (start++[i+1]),S 0 0 R.length 1]:=by simp [ren,og,nm,Fz]
      rw [eb]
      refine hih.mono fun v H1 ⟨j,h1,h2,h3⟩=>⟨j,_,_,_,h2,h1,h3,kL,?_⟩
      obtain ⟨R2,hR2⟩: ∃R2,L++(iW k n (i+1)).map (start++ ·)=R2:=⟨_,rfl⟩
      rw [hR2]
      simp (disch:=omega) only [RA,↓reduceIte,Nat.reduceEqDiff,Nat.reduceBEq,Nat.reduceSub,Nat.reduceAdd,Nat.reduceMul,Nat.reduceLT,Nat.reduceLeDiff,Int.reduceLE,Int.reduceLT,Int.reduceEq,Int.reduceNeg,Int.reduceToNat,Int.reduceMul,Int.reduceAdd,Int.reduceSub,Int.reduceBEq,Int.reduceBNe,reduceCtorEq,RD]
      refine hKr _ _ ?_;clear hKr Kr;(try simp only [bW,dH,dG]);(try simp only [RN,reduceIte]);try refine aj rfl ?_
      refine dN fun Kr hKr=>?_;simp (disch:=omega) only [RA,↓reduceIte,Nat.reduceEqDiff,Nat.reduceBEq,Nat.reduceSub,Nat.reduceAdd,Nat.reduceMul,Nat.reduceLT,Nat.reduceLeDiff,Int.reduceLE,Int.reduceLT,Int.reduceEq,Int.reduceNeg,Int.reduceToNat,Int.reduceMul,Int.reduceAdd,Int.reduceSub,Int.reduceBEq,Int.reduceBNe,reduceCtorEq,RD,g9];refine hKr _ _ ?_;clear hKr Kr
      exact hN (min n m-(i+1)) _ _ _ _ (by omega) (Gh.nrm [0,5] rfl rfl (by simp only [RH,RV])) ⟨i+1,R2,by omega,rfl,hR2.symm,ah,ah,ah,ah, .inr ⟨by omega,ah,rfl⟩⟩
    ·obtain rfl:i=min n m:=by omega
     have hi0:0<min n m:=by omega
     rcases hH with ⟨h1,_⟩|⟨_,g3,rfl⟩
     ·omega
     ·by_cases hmm:min n m+1≤m
      ·refine au fun Kr hKr=>?_;simp (disch:=omega) only [RA,↓reduceIte,Nat.reduceEqDiff,Nat.reduceBEq,Nat.reduceSub,Nat.reduceAdd,Nat.reduceMul,Nat.reduceLT,Nat.reduceLeDiff,Int.reduceLE,Int.reduceLT,Int.reduceEq,Int.reduceNeg,Int.reduceToNat,Int.reduceMul,Int.reduceAdd,Int.reduceSub,Int.reduceBEq,Int.reduceBNe,reduceCtorEq,RD,g0,g1,g9];refine hKr _ _ ?_;clear hKr Kr;(try simp only [RN,reduceIte]);try refine aj rfl ?_
       refine dY (t:=false) (by simp (disch:=omega) only [RA,↓reduceIte,Nat.reduceEqDiff,Nat.reduceBEq,Nat.reduceSub,Nat.reduceAdd,Nat.reduceMul,Nat.reduceLT,Nat.reduceLeDiff,Int.reduceLE,Int.reduceLT,Int.reduceEq,Int.reduceNeg,Int.reduceToNat,Int.reduceMul,Int.reduceAdd,Int.reduceSub,Int.reduceBEq,Int.reduceBNe,reduceCtorEq,RD]) ?_;(try simp only [RN,reduceIte]);try refine aj rfl ?_
       refine hX _ _ ?_
       refine au fun Kr hKr=>?_;simp (disch:=omega) only [RA,↓reduceIte,Nat.reduceEqDiff,Nat.reduceBEq,Nat.reduceSub,Nat.reduceAdd,Nat.reduceMul,Nat.reduceLT,Nat.reduceLeDiff,Int.reduceLE,Int.reduceLT,Int.reduceEq,Int.reduceNeg,Int.reduceToNat,Int.reduceMul,Int.reduceAdd,Int.reduceSub,Int.reduceBEq,Int.reduceBNe,reduceCtorEq,RD,g3];refine hKr _ _ ?_;clear hKr Kr;(try simp only [RN,reduceIte]);try refine aj rfl ?_
       refine bZ (by simp (disch:=omega) only [RA,↓reduceIte,Nat.reduceEqDiff,Nat.reduceBEq,Nat.reduceSub,Nat.reduceAdd,Nat.reduceMul,Nat.reduceLT,Nat.reduceLeDiff,Int.reduceLE,Int.reduceLT,Int.reduceEq,Int.reduceNeg,Int.reduceToNat,Int.reduceMul,Int.reduceAdd,Int.reduceSub,Int.reduceBEq,Int.reduceBNe,reduceCtorEq,RD,resAll,resOf];rfl) aY.refl ?_;simp only [tup]
       rw [hR0]
       exact ⟨1,by omega,rfl,rfl⟩
      ·refine au fun Kr hKr=>?_;simp (disch:=omega) only [RA,↓reduceIte,Nat.reduceEqDiff,Nat.reduceBEq,Nat.reduceSub,Nat.reduceAdd,Nat.reduceMul,Nat.reduceLT,Nat.reduceLeDiff,Int.reduceLE,Int.reduceLT,Int.reduceEq,Int.reduceNeg,Int.reduceToNat,Int.reduceMul,Int.reduceAdd,Int.reduceSub,Int.reduceBEq,Int.reduceBNe,reduceCtorEq,RD,g0,g1,g9];refine hKr _ _ ?_;clear hKr Kr;(try simp only [RN,reduceIte]);try refine aj rfl ?_
       refine dY (t:=false) (by simp (disch:=omega) only [RA,↓reduceIte,Nat.reduceEqDiff,Nat.reduceBEq,Nat.reduceSub,Nat.reduceAdd,Nat.reduceMul,Nat.reduceLT,Nat.reduceLeDiff,Int.reduceLE,Int.reduceLT,Int.reduceEq,Int.reduceNeg,Int.reduceToNat,Int.reduceMul,Int.reduceAdd,Int.reduceSub,Int.reduceBEq,Int.reduceBNe,reduceCtorEq,RD]) ?_;(try simp only [RN,reduceIte]);try refine aj rfl ?_
       refine hX _ _ ?_
       refine au fun Kr hKr=>?_;simp (disch:=omega) only [RA,↓reduceIte,Nat.reduceEqDiff,Nat.reduceBEq,Nat.reduceSub,Nat.reduceAdd,Nat.reduceMul,Nat.reduceLT,Nat.reduceLeDiff,Int.reduceLE,Int.reduceLT,Int.reduceEq,Int.reduceNeg,Int.reduceToNat,Int.reduceMul,Int.reduceAdd,Int.reduceSub,Int.reduceBEq,Int.reduceBNe,reduceCtorEq,RD,g3];refine hKr _ _ ?_;clear hKr Kr;(try simp only [RN,reduceIte]);try refine aj rfl ?_
       refine bZ (by simp (disch:=omega) only [RA,↓reduceIte,Nat.reduceEqDiff,Nat.reduceBEq,Nat.reduceSub,Nat.reduceAdd,Nat.reduceMul,Nat.reduceLT,Nat.reduceLeDiff,Int.reduceLE,Int.reduceLT,Int.reduceEq,Int.reduceNeg,Int.reduceToNat,Int.reduceMul,Int.reduceAdd,Int.reduceSub,Int.reduceBEq,Int.reduceBNe,reduceCtorEq,RD,resAll,resOf];rfl) aY.refl ?_;simp only [tup]
       rw [hR0]
       exact ⟨1,by omega,rfl,rfl⟩
theorem ach: ∀(k n m:Nat) (start:List Nat),n≤k→k≤16→m≤16→(n=0∨1≤m)→start.length+n≤16→
  aF false BG [I n,I m,FN start, .slice none 0 0] [] fun v H1=> ∃j,v=S j 0 ((aU k n m).map (start++ ·)).length 1∧blk H1 j=some (((aU k n m).map (start++ ·)).map FN):=by
 intro k
 induction k with
 |zero=>
  intro n m start hn hk hm hnm hs
  obtain rfl:n=0:=by omega
  have e:(aU 0 0 m).map (start++ ·)=[start]:=by simp [aU]
  rw [e]
  exact (CO (L:=[]) (.inl ⟨rfl,rfl,rfl⟩) (by simp)).mono fun v H1 ⟨j,_,h2,h3⟩=>⟨j,h2,h3⟩
 |succ k ih=>
  intro n m start hn hk hm hnm hs
  by_cases h0:n=0
  ·subst h0
   have e:(aU (k+1) 0 m).map (start++ ·)=[start]:=by simp [aU]
   rw [e]
   exact (CO (L:=[]) (.inl ⟨rfl,rfl,rfl⟩) (by simp)).mono fun v H1 ⟨j,_,h2,h3⟩=>⟨j,h2,h3⟩
  ·have hl:=MW (k:=k+1) (n:=n) (m:=m) hn hk
   rw [yN h0] at hl⊢
   refine aG BL ?_;simp only [ig,aB]
   refine au fun Kr hKr=>?_;simp (disch:=omega) only [RA,↓reduceIte,Nat.reduceEqDiff,Nat.reduceBEq,Nat.reduceSub,Nat.reduceAdd,Nat.reduceMul,Nat.reduceLT,Nat.reduceLeDiff,Int.reduceLE,Int.reduceLT,Int.reduceEq,Int.reduceNeg,Int.reduceToNat,Int.reduceMul,Int.reduceAdd,Int.reduceSub,Int.reduceBEq,Int.reduceBNe,reduceCtorEq,RD];refine hKr _ _ ?_;clear hKr Kr;(try simp only [RN,reduceIte]);try refine aj rfl ?_
   refine au fun Kr hKr=>?_;simp (disch:=omega) only [RA,↓reduceIte,Nat.reduceEqDiff,Nat.reduceBEq,Nat.reduceSub,Nat.reduceAdd,Nat.reduceMul,Nat.reduceLT,Nat.reduceLeDiff,Int.reduceLE,Int.reduceLT,Int.reduceEq,Int.reduceNeg,Int.reduceToNat,Int.reduceMul,Int.reduceAdd,Int.reduceSub,Int.reduceBEq,Int.reduceBNe,reduceCtorEq,RD];refine hKr _ _ ?_;clear hKr Kr;(try simp only [RN,reduceIte]);try refine aj rfl ?_
   refine dY (t:=false) (by simp (disch:=omega) only [RA,↓reduceIte,Nat.reduceEqDiff,Nat.reduceBEq,Nat.reduceSub,Nat.reduceAdd,Nat.reduceMul,Nat.reduceLT,Nat.reduceLeDiff,Int.reduceLE,Int.reduceLT,Int.reduceEq,Int.reduceNeg,Int.reduceToNat,Int.reduceMul,Int.reduceAdd,Int.reduceSub,Int.reduceBEq,Int.reduceBNe,reduceCtorEq,RD]) ?_;(try simp only [RN,reduceIte]);try refine aj rfl ?_
   refine au fun Kr hKr=>?_;simp (disch:=omega) only [RA,↓reduceIte,Nat.reduceEqDiff,Nat.reduceBEq,Nat.reduceSub,Nat.reduceAdd,Nat.reduceMul,Nat.reduceLT,Nat.reduceLeDiff,Int.reduceLE,Int.reduceLT,Int.reduceEq,Int.reduceNeg,Int.reduceToNat,Int.reduceMul,Int.reduceAdd,Int.reduceSub,Int.reduceBEq,Int.reduceBNe,reduceCtorEq,RD];refine hKr _ _ ?_;clear hKr Kr;(try simp only [RN,reduceIte]);try refine aj rfl ?_
   refine aW (fun d f H'=> ∃i R,i≤min n m∧d=min n m-i∧R=(iW k n i).map (start++ ·)∧f 0=I n∧f 1=I m∧f 2=FN start∧f 9=I ((i+1:Nat):Int)∧((i=0∧f 3= .slice none 0 0∧H'=[])∨(0<i∧f 3=S 0 0 R.length 1∧H'=[some (R.map FN)]))) (min n m) ?_ ?_
   ·refine ⟨_,_,Gh.refl,0,[],by omega,by omega,by simp [iW],ah,ah,ah,ah, .inl ⟨rfl,?_,rfl⟩⟩
    all_goals (simp (disch:=omega) only [RA,↓reduceIte,Nat.reduceEqDiff,Nat.reduceBEq,Nat.reduceSub,Nat.reduceAdd,Nat.reduceMul,Nat.reduceLT,Nat.reduceLeDiff,Int.reduceLE,Int.reduceLT,Int.reduceEq,Int.reduceNeg,Int.reduceToNat,Int.reduceMul,Int.reduceAdd,Int.reduceSub,Int.reduceBEq,Int.reduceBNe,reduceCtorEq,RD,RE, *]<;>rfl)
   ·rintro d f H' R0 ⟨i,R,hi,rfl,hR0,g0,g1,g2,g9,hH⟩ hN hX hR hE
    simp only [ig.l0,aB]
    have hpl:=sV (k:=k) (n:=n) hi
    have hRl:R.length≤1000:=by
     rw [hR0,List.length_map]
     omega
    by_cases him:i<min n m
    ·have e1:(n:Int)-((i+1:Nat):Int)=((n-(i+1):Nat):Int):=by omega
     have hpl2:=sV (k:=k) (n:=n) (show i+1≤min n m by omega)
     have hps:=yO (k:=k) (n:=n) (i:=i)
     rw [hps,List.length_append,List.length_map] at hpl2
     have hst:(start++[i+1]).length=start.length+1:=by simp
     have vF:R++(aU k (n-(i+1)) (i+1)).map ((start++[i+1])++ ·)=(iW k n (i+1)).map (start++ ·):=by
      rw [hR0,hps,List.map_append,List.map_map]
      congr 2
      funext r
      simp
     have hz:(start.length+1)*1=((start++[i+1]).map bF).length:=by simp
     obtain ⟨R2,hR2⟩: ∃R2,(iW k n (i+1)).map (start++ ·)=R2:=⟨_,rfl⟩
     rw [hR2] at vF
     rcases hH with ⟨hi0,g3,rfl⟩|⟨hi0,g3,rfl⟩
     ·have aci:R=[]:=by rw [hR0,hi0];simp [iW]
      have hih:=ih (n-(i+1)) (i+1) (start++[i+1]) (by omega) (by omega) (by omega) (.inr (by omega)) (by omega)
      rw [aci,List.nil_append] at vF
      rw [vF] at hih
      refine au fun Kr hKr=>?_;simp (disch:=omega) only [RA,↓reduceIte,Nat.reduceEqDiff,Nat.reduceBEq,Nat.reduceSub,Nat.reduceAdd,Nat.reduceMul,Nat.reduceLT,Nat.reduceLeDiff,Int.reduceLE,Int.reduceLT,Int.reduceEq,Int.reduceNeg,Int.reduceToNat,Int.reduceMul,Int.reduceAdd,Int.reduceSub,Int.reduceBEq,Int.reduceBNe,reduceCtorEq,RD,g0,g1,g9];refine hKr _ _ ?_;clear hKr Kr;(try simp only [RN,reduceIte]);try refine aj rfl ?_
      refine dY (t:=true) (by simp (disch:=omega) only [RA,↓reduceIte,Nat.reduceEqDiff,Nat.reduceBEq,Nat.reduceSub,Nat.reduceAdd,Nat.reduceMul,Nat.reduceLT,Nat.reduceLeDiff,Int.reduceLE,Int.reduceLT,Int.reduceEq,Int.reduceNeg,Int.reduceToNat,Int.reduceMul,Int.reduceAdd,Int.reduceSub,Int.reduceBEq,Int.reduceBNe,reduceCtorEq,RD]) ?_;(try simp only [RN,reduceIte]);try refine aj rfl ?_
      (first|refine fV rfl ?_|refine fZ rfl ?_);(try simp only [RN,reduceIte]);try refine aj rfl ?_
      refine au fun Kr hKr=>?_;simp (disch:=omega) only [RA,↓reduceIte,Nat.reduceEqDiff,Nat.reduceBEq,Nat.reduceSub,Nat.reduceAdd,Nat.reduceMul,Nat.reduceLT,Nat.reduceLeDiff,Int.reduceLE,Int.reduceLT,Int.reduceEq,Int.reduceNeg,Int.reduceToNat,Int.reduceMul,Int.reduceAdd,Int.reduceSub,Int.reduceBEq,Int.reduceBNe,reduceCtorEq,RD,g0,g2,g3,g9,e1]
      refine CP (by omega) ?_
      simp (disch:=omega) only [RA,↓reduceIte,Nat.reduceEqDiff,Nat.reduceBEq,Nat.reduceSub,Nat.reduceAdd,Nat.reduceMul,Nat.reduceLT,Nat.reduceLeDiff,Int.reduceLE,Int.reduceLT,Int.reduceEq,Int.reduceNeg,Int.reduceToNat,Int.reduceMul,Int.reduceAdd,Int.reduceSub,Int.reduceBEq,Int.reduceBNe,reduceCtorEq,RD,g3,g9,rJ]
      refine uZ 2 (cs:=(start++[i+1]).map bF) rfl kU ?_
      have ea:([I ((n-(i+1):Nat):Int),I ((i+1:Nat):Int),S 2 0 (start.length+1) 1, .slice none 0 0]:List Value).map (frz 2 ((start++[i+1]).map bF))=[I ((n-(i+1):Nat):Int),I ((i+1:Nat):Int),FN (start++[i+1]), .slice none 0 0]:=by
       simp only [List.map_cons,List.map_nil,vG,nC hz,FW]
       rw [FN,hst]
      rw [ea]
      refine MX (.cons .int (.cons .int (.cons .fz (.cons .nil .nil)))) (hih.mono fun v H1 ⟨j,h2,h3⟩=>⟨j,_,_,_,h2,h3,kL,?_⟩)
      simp (disch:=omega) only [RA,↓reduceIte,Nat.reduceEqDiff,Nat.reduceBEq,Nat.reduceSub,Nat.reduceAdd,Nat.reduceMul,Nat.reduceLT,Nat.reduceLeDiff,Int.reduceLE,Int.reduceLT,Int.reduceEq,Int.reduceNeg,Int.reduceToNat,Int.reduceMul,Int.reduceAdd,Int.reduceSub,Int.reduceBEq,Int.reduceBNe,reduceCtorEq,RD]
      refine hKr _ _ ?_;clear hKr Kr;(try simp only [bW,dH,dG]);(try simp only [RN,reduceIte]);try refine aj rfl ?_
      refine dN fun Kr hKr=>?_;simp (disch:=omega) only [RA,↓reduceIte,Nat.reduceEqDiff,Nat.reduceBEq,Nat.reduceSub,Nat.reduceAdd,Nat.reduceMul,Nat.reduceLT,Nat.reduceLeDiff,Int.reduceLE,Int.reduceLT,Int.reduceEq,Int.reduceNeg,Int.reduceToNat,Int.reduceMul,Int.reduceAdd,Int.reduceSub,Int.reduceBEq,Int.reduceBNe,reduceCtorEq,RD,g9];refine hKr _ _ ?_;clear hKr Kr
      exact hN (min n m-(i+1)) _ _ _ _ (by omega) (Gh.nrm [3] rfl rfl (by simp only [RH,RV])) ⟨i+1,R2,by omega,rfl,hR2.symm,ah,ah,ah,ah, .inr ⟨by omega,ah,rfl⟩⟩
     ·have hih:=acg k (n-(i+1)) (i+1) (start++[i+1]) R (by omega) (by omega) (by omega) (.inr (by omega)) (by omega) (by rw [hR0,List.length_map];omega)
      rw [vF] at hih
      refine au fun Kr hKr=>?_;simp (disch:=omega) only [RA,↓reduceIte,Nat.reduceEqDiff,Nat.reduceBEq,Nat.reduceSub,Nat.reduceAdd,Nat.reduceMul,Nat.reduceLT,Nat.reduceLeDiff,Int.reduceLE,Int.reduceLT,Int.reduceEq,Int.reduceNeg,Int.reduceToNat,Int.reduceMul,Int.reduceAdd,Int.reduceSub,Int.reduceBEq,Int.reduceBNe,reduceCtorEq,RD,g0,g1,g9];refine hKr _ _ ?_;clear hKr Kr;(try simp only [RN,reduceIte]);try refine aj rfl ?_
      refine dY (t:=true) (by simp (disch:=omega) only [RA,↓reduceIte,Nat.reduceEqDiff,Nat.reduceBEq,Nat.reduceSub,Nat.reduceAdd,Nat.reduceMul,Nat.reduceLT,Nat.reduceLeDiff,Int.reduceLE,Int.reduceLT,Int.reduceEq,Int.reduceNeg,Int.reduceToNat,Int.reduceMul,Int.reduceAdd,Int.reduceSub,Int.reduceBEq,Int.reduceBNe,reduceCtorEq,RD]) ?_;(try simp only [RN,reduceIte]);try refine aj rfl ?_
      (first|refine fV rfl ?_|refine fZ rfl ?_);(try simp only [RN,reduceIte]);try refine aj rfl ?_
      refine au fun Kr hKr=>?_;simp (disch:=omega) only [RA,↓reduceIte,Nat.reduceEqDiff,Nat.reduceBEq,Nat.reduceSub,Nat.reduceAdd,Nat.reduceMul,Nat.reduceLT,Nat.reduceLeDiff,Int.reduceLE,Int.reduceLT,Int.reduceEq,Int.reduceNeg,Int.reduceToNat,Int.reduceMul,Int.reduceAdd,Int.reduceSub,Int.reduceBEq,Int.reduceBNe,reduceCtorEq,RD,g0,g2,g3,g9,e1]
      refine CP (by omega) ?_
      simp (disch:=omega) only [RA,↓reduceIte,Nat.reduceEqDiff,Nat.reduceBEq,Nat.reduceSub,Nat.reduceAdd,Nat.reduceMul,Nat.reduceLT,Nat.reduceLeDiff,Int.reduceLE,Int.reduceLT,Int.reduceEq,Int.reduceNeg,Int.reduceToNat,Int.reduceMul,Int.reduceAdd,Int.reduceSub,Int.reduceBEq,Int.reduceBNe,reduceCtorEq,RD,g3,g9,rJ]
      refine uZ 3 (cs:=(start++[i+1]).map bF) rfl kU ?_
      have ea:([I ((n-(i+1):Nat):Int),I ((i+1:Nat):Int),S 3 0 (start.length+1) 1,S 0 0 R.length 1]:List Value).map (frz 3 ((start++[i+1]).map bF))=[I ((n-(i+1):Nat):Int),I ((i+1:Nat):Int),FN (start++[i+1]),S 0 0 R.length 1]:=by
       simp only [List.map_cons,List.map_nil,vG,nC hz,CS (show 0≠3 by omega)]
       rw [FN,hst]
      rw [ea]
      refine FV (i:=0) (cs0:=R.map FN) rfl kL ?_
      have eb:([I ((n-(i+1):Nat):Int),I ((i+1:Nat):Int),FN (start++[i+1]),S 0 0 R.length 1]:List Value).map (ren [0])=[I ((n-(i+1):Nat):Int),I ((i+1:Nat):Int),FN (start++[i+1]),S 0 0 R.length 1]:=by simp [ren,og,nm,Fz]
      rw [eb]
      refine hih.mono fun v H1 ⟨j,h1,h2,h3⟩=>⟨j,_,_,_,h2,h1,h3,kL,?_⟩
      simp (disch:=omega) only [RA,↓reduceIte,Nat.reduceEqDiff,Nat.reduceBEq,Nat.reduceSub,Nat.reduceAdd,Nat.reduceMul,Nat.reduceLT,Nat.reduceLeDiff,Int.reduceLE,Int.reduceLT,Int.reduceEq,Int.reduceNeg,Int.reduceToNat,Int.reduceMul,Int.reduceAdd,Int.reduceSub,Int.reduceBEq,Int.reduceBNe,reduceCtorEq,RD]
      refine hKr _ _ ?_;clear hKr Kr;(try simp only [bW,dH,dG]);(try simp only [RN,reduceIte]);try refine aj rfl ?_
      refine dN fun Kr hKr=>?_;simp (disch:=omega) only [RA,↓reduceIte,Nat.reduceEqDiff,Nat.reduceBEq,Nat.reduceSub,Nat.reduceAdd,Nat.reduceMul,Nat.reduceLT,Nat.reduceLeDiff,Int.reduceLE,Int.reduceLT,Int.reduceEq,Int.reduceNeg,Int.reduceToNat,Int.reduceMul,Int.reduceAdd,Int.reduceSub,Int.reduceBEq,Int.reduceBNe,reduceCtorEq,RD,g9];refine hKr _ _ ?_;clear hKr Kr
      exact hN (min n m-(i+1)) _ _ _ _ (by omega) (Gh.nrm [4] rfl rfl (by simp only [RH,RV])) ⟨i+1,R2,by omega,rfl,hR2.symm,ah,ah,ah,ah, .inr ⟨by omega,ah,rfl⟩⟩
    ·obtain rfl:i=min n m:=by omega
     have hi0:0<min n m:=by omega
     rcases hH with ⟨h1,_⟩|⟨_,g3,rfl⟩
     ·omega
     ·by_cases hmm:min n m+1≤m
      ·refine au fun Kr hKr=>?_;simp (disch:=omega) only [RA,↓reduceIte,Nat.reduceEqDiff,Nat.reduceBEq,Nat.reduceSub,Nat.reduceAdd,Nat.reduceMul,Nat.reduceLT,Nat.reduceLeDiff,Int.reduceLE,Int.reduceLT,Int.reduceEq,Int.reduceNeg,Int.reduceToNat,Int.reduceMul,Int.reduceAdd,Int.reduceSub,Int.reduceBEq,Int.reduceBNe,reduceCtorEq,RD,g0,g1,g9];refine hKr _ _ ?_;clear hKr Kr;(try simp only [RN,reduceIte]);try refine aj rfl ?_
       refine dY (t:=false) (by simp (disch:=omega) only [RA,↓reduceIte,Nat.reduceEqDiff,Nat.reduceBEq,Nat.reduceSub,Nat.reduceAdd,Nat.reduceMul,Nat.reduceLT,Nat.reduceLeDiff,Int.reduceLE,Int.reduceLT,Int.reduceEq,Int.reduceNeg,Int.reduceToNat,Int.reduceMul,Int.reduceAdd,Int.reduceSub,Int.reduceBEq,Int.reduceBNe,reduceCtorEq,RD]) ?_;(try simp only [RN,reduceIte]);try refine aj rfl ?_
       refine hX _ _ ?_
       refine au fun Kr hKr=>?_;simp (disch:=omega) only [RA,↓reduceIte,Nat.reduceEqDiff,Nat.reduceBEq,Nat.reduceSub,Nat.reduceAdd,Nat.reduceMul,Nat.reduceLT,Nat.reduceLeDiff,Int.reduceLE,Int.reduceLT,Int.reduceEq,Int.reduceNeg,Int.reduceToNat,Int.reduceMul,Int.reduceAdd,Int.reduceSub,Int.reduceBEq,Int.reduceBNe,reduceCtorEq,RD,g3];refine hKr _ _ ?_;clear hKr Kr;(try simp only [RN,reduceIte]);try refine aj rfl ?_
       refine bZ (by simp (disch:=omega) only [RA,↓reduceIte,Nat.reduceEqDiff,Nat.reduceBEq,Nat.reduceSub,Nat.reduceAdd,Nat.reduceMul,Nat.reduceLT,Nat.reduceLeDiff,Int.reduceLE,Int.reduceLT,Int.reduceEq,Int.reduceNeg,Int.reduceToNat,Int.reduceMul,Int.reduceAdd,Int.reduceSub,Int.reduceBEq,Int.reduceBNe,reduceCtorEq,RD,resAll,resOf];rfl) aY.refl ?_;simp only [tup]
       rw [hR0]
       exact ⟨0,rfl,rfl⟩
      ·refine au fun Kr hKr=>?_;simp (disch:=omega) only [RA,↓reduceIte,Nat.reduceEqDiff,Nat.reduceBEq,Nat.reduceSub,Nat.reduceAdd,Nat.reduceMul,Nat.reduceLT,Nat.reduceLeDiff,Int.reduceLE,Int.reduceLT,Int.reduceEq,Int.reduceNeg,Int.reduceToNat,Int.reduceMul,Int.reduceAdd,Int.reduceSub,Int.reduceBEq,Int.reduceBNe,reduceCtorEq,RD,g0,g1,g9];refine hKr _ _ ?_;clear hKr Kr;(try simp only [RN,reduceIte]);try refine aj rfl ?_
       refine dY (t:=false) (by simp (disch:=omega) only [RA,↓reduceIte,Nat.reduceEqDiff,Nat.reduceBEq,Nat.reduceSub,Nat.reduceAdd,Nat.reduceMul,Nat.reduceLT,Nat.reduceLeDiff,Int.reduceLE,Int.reduceLT,Int.reduceEq,Int.reduceNeg,Int.reduceToNat,Int.reduceMul,Int.reduceAdd,Int.reduceSub,Int.reduceBEq,Int.reduceBNe,reduceCtorEq,RD]) ?_;(try simp only [RN,reduceIte]);try refine aj rfl ?_
       refine hX _ _ ?_
       refine au fun Kr hKr=>?_;simp (disch:=omega) only [RA,↓reduceIte,Nat.reduceEqDiff,Nat.reduceBEq,Nat.reduceSub,Nat.reduceAdd,Nat.reduceMul,Nat.reduceLT,Nat.reduceLeDiff,Int.reduceLE,Int.reduceLT,Int.reduceEq,Int.reduceNeg,Int.reduceToNat,Int.reduceMul,Int.reduceAdd,Int.reduceSub,Int.reduceBEq,Int.reduceBNe,reduceCtorEq,RD,g3];refine hKr _ _ ?_;clear hKr Kr;(try simp only [RN,reduceIte]);try refine aj rfl ?_
       refine bZ (by simp (disch:=omega) only [RA,↓reduceIte,Nat.reduceEqDiff,Nat.reduceBEq,Nat.reduceSub,Nat.reduceAdd,Nat.reduceMul,Nat.reduceLT,Nat.reduceLeDiff,Int.reduceLE,Int.reduceLT,Int.reduceEq,Int.reduceNeg,Int.reduceToNat,Int.reduceMul,Int.reduceAdd,Int.reduceSub,Int.reduceBEq,Int.reduceBNe,reduceCtorEq,RD,resAll,resOf];rfl) aY.refl ?_;simp only [tup]
       rw [hR0]
       exact ⟨0,rfl,rfl⟩
theorem acj {x:Bool} {n:Nat} {H:BH} {K:Value→BH→Prop} (h1:1≤n) (hn:n≤16) (hK:K (LN (aU n n n)) H):aF x BG [I n,I n,FN [], .slice none 0 0] H K:=
 oz (.cons .int (.cons .int (.cons .fz (.cons .nil .nil)))) kL (by simp) ((ach n n n [] (Nat.le_refl _) hn hn (.inr h1) (by simpa using hn)).mono fun v H1 ⟨j,h2,h3⟩=>by
  have e:(aU n n n).map (([]:List Nat)++ ·)=aU n n n:=by simp
  rw [e] at h2 h3
  exact ⟨j,h2,h3⟩) hK
end Go.Bm
namespace Go.Bm
open Go Go.Am
def Sl (H:BH) (v:Value) (xs:List Int):Prop:=(v= .slice none 0 0∧xs=[])∨(∃i,v=S i 0 xs.length 1∧blk H i=some (xs.map I))∨v=FI xs
theorem Sl.own {H:BH} {i:Nat} {xs:List Int} (h:blk H i=some (xs.map I)):Sl H (S i 0 xs.length 1) xs:= .inr (.inl ⟨i,rfl,h⟩)
theorem Sl.fz {H:BH} {xs:List Int}:Sl H (FI xs) xs:= .inr (.inr rfl)
theorem Sl.nil {H:BH}:Sl H (.slice none 0 0) []:= .inl ⟨rfl,rfl⟩
theorem Sl.len {H:BH} {v:Value} {xs:List Int} (h:Sl H v xs):yP v=some (I xs.length):=by
 rcases h with ⟨rfl,rfl⟩|⟨i,rfl,_⟩|rfl<;>rfl
theorem Sl.get {H:BH} {v:Value} {xs:List Int} (h:Sl H v xs) {j:Nat} (hj:j<xs.length): ∃p,sW 1 v (I j)=some p∧vH none H p=some (I (el xs j)):=by
 rcases h with ⟨rfl,rfl⟩|⟨i,rfl,hb⟩|rfl
 ·simp at hj
 ·refine ⟨_,FX (by omega),?_⟩
  rw [FY,hb,FZ,CU (by omega)]
  simp
 ·refine ⟨_,F5 (by omega),?_⟩
  rw [F6,CU (by omega)]
  simp
theorem acn {v u:Value} {xs ys:List Int} {H:BH} {K:Value→BH→Prop} (hv:Sl H v xs) (hu:Sl H u ys) (hl:xs.length<4611686018427387904) (hl':ys.length<4611686018427387904) (hK:K (.bool (decide (xs=ys))) H):
  aF false Xt [v,u] H K:=by
 have v1:=hv.len
 have u1:=hu.len
 refine aG YF ?_;simp only [iM,aB]
 refine au fun Kr hKr=>?_;simp (disch:=omega) only [RA,↓reduceIte,Nat.reduceEqDiff,RD];refine hKr _ _ ?_;clear hKr Kr;(try simp only [RN,reduceIte]);try refine aj rfl ?_
 refine au fun Kr hKr=>?_;simp (disch:=omega) only [RA,↓reduceIte,Nat.reduceEqDiff,RD,v1,u1];refine hKr _ _ ?_;clear hKr Kr;(try simp only [RN,reduceIte]);try refine aj rfl ?_
 refine eY (p:= ¬xs.length=ys.length) (by simp only [RA,↓reduceIte,Nat.reduceEqDiff]<;>rfl) (by (try simp only [RB])<;>first|done|exact Iff.rfl|omega|simp) (fun hc=>?_) (fun hc=>?_)<;>(try simp only [RN,reduceIte])<;>(try refine aj rfl ?_)
 ·refine au fun Kr hKr=>?_;simp (disch:=omega) only [RA,↓reduceIte,Nat.reduceEqDiff,RD];refine hKr _ _ ?_;clear hKr Kr;(try simp only [RN,reduceIte]);try refine aj rfl ?_
  refine bZ (by simp (disch:=omega) only [RA,↓reduceIte,Nat.reduceEqDiff,RD,resAll,resOf];rfl) aY.refl ?_;simp only [tup]
  rw [show decide (xs=ys)=false by simp;intro e;exact hc (by rw [e])] at hK
  exact hK
 have hll:=Decidable.not_not.1 hc
 clear hc
 refine au fun Kr hKr=>?_;simp (disch:=omega) only [RA,↓reduceIte,Nat.reduceEqDiff,RD];refine hKr _ _ ?_;clear hKr Kr;(try simp only [RN,reduceIte]);try refine aj rfl ?_
 refine aW (fun m f H'=> ∃i,i≤xs.length∧m=xs.length-i∧(∀j,j<i→el xs j=el ys j)∧f 0=v∧f 1=u∧f 5=I i∧H'=H) (xs.length) ?_ ?_
 ·exact ⟨_,_,Gh.refl,0,by omega,by omega,fun j hj=>by omega,ah,ah,ah,rfl⟩
 ·rintro m f H' R ⟨i,hi,rfl,he,g0,g1,g5,rfl⟩ hN hX hR hE
  simp only [iM.l0,aB]
  refine au fun Kr hKr=>?_;simp (disch:=omega) only [RA,↓reduceIte,Nat.reduceEqDiff,RD,g0,g5,v1];refine hKr _ _ ?_;clear hKr Kr;(try simp only [RN,reduceIte]);try refine aj rfl ?_
  refine eY (p:=i<xs.length) (by simp only [RA,↓reduceIte,Nat.reduceEqDiff]<;>rfl) (by (try simp only [RB])<;>first|done|exact Iff.rfl|omega|simp) (fun hc=>?_) (fun hc=>?_)<;>(try simp only [RN,reduceIte])<;>(try refine aj rfl ?_)
  ·obtain ⟨p,p1,p2⟩:=hv.get hc
   obtain ⟨q,q1,q2⟩:=hu.get (show i<ys.length by omega)
   (first|refine fV rfl ?_|refine fZ rfl ?_);(try simp only [RN,reduceIte]);try refine aj rfl ?_
   refine au fun Kr hKr=>?_;simp (disch:=omega) only [RA,↓reduceIte,Nat.reduceEqDiff,RD,g0,g1,g5,p1,p2,q1,q2];refine hKr _ _ ?_;clear hKr Kr;(try simp only [RN,reduceIte]);try refine aj rfl ?_
   refine eY (p:= ¬el xs i=el ys i) (by simp only [RA,↓reduceIte,Nat.reduceEqDiff]<;>rfl) (by (try simp only [RB])<;>first|done|exact Iff.rfl|omega|simp) (fun hc=>?_) (fun hc=>?_)<;>(try simp only [RN,reduceIte])<;>(try refine aj rfl ?_)
   ·refine au fun Kr hKr=>?_;simp (disch:=omega) only [RA,↓reduceIte,Nat.reduceEqDiff,RD];refine hKr _ _ ?_;clear hKr Kr;(try simp only [RN,reduceIte]);try refine aj rfl ?_
    refine hR _ _ ?_
    refine bZ (by simp (disch:=omega) only [RA,↓reduceIte,Nat.reduceEqDiff,RD,resAll,resOf];rfl) aY.refl ?_;simp only [tup]
    rw [show decide (xs=ys)=false by simp;intro e;exact hc (by rw [e])] at hK
    exact hK
   have hee:=Decidable.not_not.1 hc
   refine dN fun Kr hKr=>?_;simp (disch:=omega) only [RA,↓reduceIte,Nat.reduceEqDiff,RD,g5];refine hKr _ _ ?_;clear hKr Kr
   have he': ∀j,j<i+1→el xs j=el ys j:=fun j hj=>by
    by_cases e:j=i
    ·rw [e];exact hee
    ·exact he j (by omega)
   exact hN (xs.length-(i+1)) _ _ _ _ (by omega) Gh.refl ⟨i+1,by omega,rfl,he',ah,ah,ah,rfl⟩
  ·refine hX _ _ ?_
   have e:xs=ys:=by
    apply List.ext_getElem hll
    intro j h1 h2
    have:=he j (by omega)
    simpa [el,List.getD,h1,h2] using this
   rw [show decide (xs=ys)=true by simp [e]] at hK
   refine au fun Kr hKr=>?_;simp (disch:=omega) only [RA,↓reduceIte,Nat.reduceEqDiff,RD];refine hKr _ _ ?_;clear hKr Kr;(try simp only [RN,reduceIte]);try refine aj rfl ?_
   refine bZ (by simp (disch:=omega) only [RA,↓reduceIte,Nat.reduceEqDiff,RD,resAll,resOf];rfl) aY.refl ?_;simp only [tup]
   exact hK
def lW (m n:Nat):List Int:=(List.range n).map fun i:Nat=>((m+i:Nat):Int)
theorem vJ {m n:Nat}:(lW m n).length=n:=by simp [lW]
theorem MZ {m n i:Nat} (h:i<n):el (lW m n) i=((m+i:Nat):Int):=by simp [lW,el,List.getD,h]
def mkK (xs:List Int) (m:Nat):Nat→List Int
 |0=>xs
 |k+1=>(mkK xs m k).set k ((m+k:Nat):Int)
theorem yQ {xs:List Int} {m k:Nat}:(mkK xs m k).length=xs.length:=by
 induction k with
 |zero=>rfl
 |succ k ih=>simp [mkK,ih]
theorem aco {xs:List Int} {i j:Nat} {c:Int}:el (xs.set i c) j=if j=i∧i<xs.length then c else el xs j:=by
 unfold el
 simp only [List.getD]
 rw [List.getElem?_set]
 by_cases h:i=j
 ·subst h
  by_cases h2:i<xs.length
  ·simp [h2]
  ·simp [h2]
 ·rw [if_neg h,if_neg (fun e=>h e.1.symm)]
theorem acp {xs:List Int} {m k i:Nat} (hi:i<xs.length):el (mkK xs m k) i=if i<k then ((m+i:Nat):Int) else el xs i:=by
 induction k with
 |zero=>rfl
 |succ k ih=>
  rw [mkK,aco,yQ,ih]
  by_cases e:i=k
  ·subst e
   rw [if_pos ⟨rfl,hi⟩,if_pos (by omega)]
  ·rw [if_neg (fun h=>e h.1)]
   by_cases h:i<k
   ·rw [if_pos h,if_pos (by omega)]
   ·rw [if_neg h,if_neg (by omega)]
theorem acr {xs:List Int} {m:Nat}:mkK xs m xs.length=lW m xs.length:=by
 apply List.ext_getElem (by rw [yQ,vJ])
 intro i h1 h2
 rw [yQ] at h1
 have a:=acp (xs:=xs) (m:=m) (k:=xs.length) h1
 rw [if_pos h1] at a
 have b:=MZ (m:=m) h1
 rw [←b] at a
 have e1:i<(mkK xs m xs.length).length:=by rw [yQ];exact h1
 have e2:i<(lW m xs.length).length:=by rw [vJ];exact h1
 simpa [el,List.getD,e1,e2] using a
theorem acs {xs:List Int} {m:Nat} {K:Value→BH→Prop} (hl:xs.length+m<4611686018427387904) (hK:K (I ((m+xs.length:Nat):Int)) [some ((lW m xs.length).map I)]):
  aF false Ky [S 0 0 xs.length 1,I m] [some (xs.map I)] K:=by
 refine aG YG ?_;simp only [jF,aB]
 refine au fun Kr hKr=>?_;simp (disch:=omega) only [RA,↓reduceIte,Nat.reduceEqDiff,RD];refine hKr _ _ ?_;clear hKr Kr;(try simp only [RN,reduceIte]);try refine aj rfl ?_
 refine au fun Kr hKr=>?_;simp (disch:=omega) only [RA,↓reduceIte,Nat.reduceEqDiff,RD];refine hKr _ _ ?_;clear hKr Kr;(try simp only [RN,reduceIte]);try refine aj rfl ?_
 refine aW (fun d f H'=> ∃i,i≤xs.length∧d=xs.length-i∧f 0=S 0 0 xs.length 1∧f 1=I ((m+i:Nat):Int)∧f 5=I i∧H'=[some ((mkK xs m i).map I)]) (xs.length) ?_ ?_
 ·exact ⟨_,_,Gh.refl,0,by omega,by omega,ah,ah,ah,rfl⟩
 ·rintro d f H' R ⟨i,hi,rfl,g0,g1,g5,rfl⟩ hN hX hR hE
  simp only [jF.l0,aB]
  have hml:= @yQ xs m i
  refine au fun Kr hKr=>?_;simp (disch:=omega) only [RA,↓reduceIte,Nat.reduceEqDiff,RD,g0,g5];refine hKr _ _ ?_;clear hKr Kr;(try simp only [RN,reduceIte]);try refine aj rfl ?_
  refine eY (p:=i<xs.length) (by simp only [RA,↓reduceIte,Nat.reduceEqDiff]<;>rfl) (by (try simp only [RB])<;>first|done|exact Iff.rfl|omega|simp) (fun hc=>?_) (fun hc=>?_)<;>(try simp only [RN,reduceIte])<;>(try refine aj rfl ?_)
  ·have e:((m+i:Nat):Int)+1=((m+(i+1):Nat):Int):=by omega
   (first|refine fV rfl ?_|refine fZ rfl ?_);(try simp only [RN,reduceIte]);try refine aj rfl ?_
   refine au fun Kr hKr=>?_;simp (disch:=omega) only [RA,↓reduceIte,Nat.reduceEqDiff,RD,g0,g1,g5,hml];refine hKr _ _ ?_;clear hKr Kr;(try simp only [RN,reduceIte]);try refine aj rfl ?_
   refine au fun Kr hKr=>?_;simp (disch:=omega) only [RA,↓reduceIte,Nat.reduceEqDiff,RD,g1,e];refine hKr _ _ ?_;clear hKr Kr;(try simp only [RN,reduceIte]);try refine aj rfl ?_
   refine dN fun Kr hKr=>?_;simp (disch:=omega) only [RA,↓reduceIte,Nat.reduceEqDiff,RD,g5];refine hKr _ _ ?_;clear hKr Kr
   exact hN (xs.length-(i+1)) _ _ _ _ (by omega) Gh.refl ⟨i+1,by omega,rfl,ah,ah,ah,rfl⟩
  ·refine hX _ _ ?_
   obtain rfl:i=xs.length:=by omega
   rw [acr]
   refine au fun Kr hKr=>?_;simp (disch:=omega) only [RA,↓reduceIte,Nat.reduceEqDiff,RD,g1];refine hKr _ _ ?_;clear hKr Kr;(try simp only [RN,reduceIte]);try refine aj rfl ?_
   refine bZ (by simp (disch:=omega) only [RA,↓reduceIte,Nat.reduceEqDiff,RD,resAll,resOf];rfl) aY.refl ?_;simp only [tup]
   exact hK
theorem acu {xs:List Int} {m i:Nat} {H:BH} {K:Value→BH→Prop} (hb:blk H i=some (xs.map I)) (hl:xs.length+m<4611686018427387904) (hK:K (I ((m+xs.length:Nat):Int)) (H.set i (some ((lW m xs.length).map I)))):
  aF false Ky [S i 0 xs.length 1,I m] H K:=by
 refine Na hb (aJ.map fun _=> .int) ?_
 have e:([S i 0 xs.length 1,I m]:List Value).map (ren [i])=[S 0 0 xs.length 1,I m]:=by simp [ren,og,nm]
 rw [e]
 refine acs hl ⟨.int,HN.cons (aJ.map fun _=> .int) HN.nil,?_⟩
 exact hK
theorem acv {v:Value} {m n:Nat} {H:BH} {K:Value→BH→Prop} (hv:Sl H v (lW m n)) (hl:n+m<4611686018427387904) (hK:K (I ((m+n:Nat):Int)) H):
  aF false XJ [v,I m] H K:=by
 have v1:=hv.len
 rw [vJ] at v1
 refine aG Y0 ?_;simp only [jg,aB]
 refine au fun Kr hKr=>?_;simp (disch:=omega) only [RA,↓reduceIte,Nat.reduceEqDiff,RD];refine hKr _ _ ?_;clear hKr Kr;(try simp only [RN,reduceIte]);try refine aj rfl ?_
 refine au fun Kr hKr=>?_;simp (disch:=omega) only [RA,↓reduceIte,Nat.reduceEqDiff,RD];refine hKr _ _ ?_;clear hKr Kr;(try simp only [RN,reduceIte]);try refine aj rfl ?_
 refine aW (fun d f H'=> ∃i,i≤n∧d=n-i∧f 0=v∧f 1=I ((m+i:Nat):Int)∧f 5=I i∧H'=H) (n) ?_ ?_
 ·exact ⟨_,_,Gh.refl,0,by omega,by omega,ah,ah,ah,rfl⟩
 ·rintro d f H' R ⟨i,hi,rfl,g0,g1,g5,rfl⟩ hN hX hR hE
  simp only [jg.l0,aB]
  refine au fun Kr hKr=>?_;simp (disch:=omega) only [RA,↓reduceIte,Nat.reduceEqDiff,RD,g0,g5,v1];refine hKr _ _ ?_;clear hKr Kr;(try simp only [RN,reduceIte]);try refine aj rfl ?_
  refine eY (p:=i<n) (by simp only [RA,↓reduceIte,Nat.reduceEqDiff]<;>rfl) (by (try simp only [RB])<;>first|done|exact Iff.rfl|omega|simp) (fun hc=>?_) (fun hc=>?_)<;>(try simp only [RN,reduceIte])<;>(try refine aj rfl ?_)
  ·obtain ⟨p,p1,p2⟩:=hv.get (show i<(lW m n).length by rw [vJ];exact hc)
   rw [MZ hc] at p2
   have e:((m+i:Nat):Int)+1=((m+(i+1):Nat):Int):=by omega
   (first|refine fV rfl ?_|refine fZ rfl ?_);(try simp only [RN,reduceIte]);try refine aj rfl ?_
   refine au fun Kr hKr=>?_;simp (disch:=omega) only [RA,↓reduceIte,Nat.reduceEqDiff,RD,g0,g1,g5,p1,p2];refine hKr _ _ ?_;clear hKr Kr;(try simp only [RN,reduceIte]);try refine aj rfl ?_
   refine dY (t:=false) (by simp (disch:=omega) only [RA,↓reduceIte,Nat.reduceEqDiff,RD]) ?_;(try simp only [RN,reduceIte]);try refine aj rfl ?_
   refine au fun Kr hKr=>?_;simp (disch:=omega) only [RA,↓reduceIte,Nat.reduceEqDiff,RD,g1,e];refine hKr _ _ ?_;clear hKr Kr;(try simp only [RN,reduceIte]);try refine aj rfl ?_
   refine dN fun Kr hKr=>?_;simp (disch:=omega) only [RA,↓reduceIte,Nat.reduceEqDiff,RD,g5];refine hKr _ _ ?_;clear hKr Kr
   exact hN (n-(i+1)) _ _ _ _ (by omega) Gh.refl ⟨i+1,by omega,rfl,ah,ah,ah,rfl⟩
  ·refine hX _ _ ?_
   obtain rfl:i=n:=by omega
   refine au fun Kr hKr=>?_;simp (disch:=omega) only [RA,↓reduceIte,Nat.reduceEqDiff,RD,g1];refine hKr _ _ ?_;clear hKr Kr;(try simp only [RN,reduceIte]);try refine aj rfl ?_
   refine bZ (by simp (disch:=omega) only [RA,↓reduceIte,Nat.reduceEqDiff,RD,resAll,resOf];rfl) aY.refl ?_;simp only [tup]
   exact hK
end Go.Bm
namespace Go.Bm
open Go Go.Am
theorem nJ {α:Type} {ls:List α} {d:α} {j:Nat} (h:j<ls.length):ls.getD j d∈ls:=by simp [List.getD,h]
theorem acw {xs:List (List Int)} {k:Nat} (h:k<xs.length):getN none (xs.map FI) k=some (FI (xs.getD k [])):=by
 simp [getN,h,List.getD]
theorem acy {xss:List (List Int)} {H:BH} {K:Value→BH→Prop} (hl:xss.length≤1048576) (hll: ∀xs∈xss,xs.length≤1048576) (hK:K (.bool true) H):aF false Xh [sZ xss,sZ xss] H K:=by
 refine bK (.cons .fz (.cons .fz .nil)) ?_
 refine aG Yp ?_;simp only [iK,aB]
 refine au fun Kr hKr=>?_;simp (disch:=omega) only [RA,↓reduceIte,Nat.reduceEqDiff,RD];refine hKr _ _ ?_;clear hKr Kr;(try simp only [RN,reduceIte]);try refine aj rfl ?_
 refine au fun Kr hKr=>?_;simp (disch:=omega) only [RA,↓reduceIte,Nat.reduceEqDiff,RD];refine hKr _ _ ?_;clear hKr Kr;(try simp only [RN,reduceIte]);try refine aj rfl ?_
 refine dY (t:=false) (by simp (disch:=omega) only [RA,↓reduceIte,Nat.reduceEqDiff,RD]) ?_;(try simp only [RN,reduceIte]);try refine aj rfl ?_
 refine au fun Kr hKr=>?_;simp (disch:=omega) only [RA,↓reduceIte,Nat.reduceEqDiff,RD];refine hKr _ _ ?_;clear hKr Kr;(try simp only [RN,reduceIte]);try refine aj rfl ?_
 refine aW (fun m f H'=> ∃i,i≤xss.length∧m=xss.length-i∧f 0=sZ xss∧f 1=sZ xss∧f 5=I i∧H'=[]) (xss.length) ?_ ?_
 ·exact ⟨_,_,Gh.refl,0,by omega,by omega,ah,ah,ah,rfl⟩
 ·rintro m f H' R ⟨i,hi,rfl,g0,g1,g5,rfl⟩ hN hX hR hE
  simp only [iK.l0,aB]
  refine au fun Kr hKr=>?_;simp (disch:=omega) only [RA,↓reduceIte,Nat.reduceEqDiff,RD,g0,g5];refine hKr _ _ ?_;clear hKr Kr;(try simp only [RN,reduceIte]);try refine aj rfl ?_
  refine eY (p:=i<xss.length) (by simp only [RA,↓reduceIte,Nat.reduceEqDiff]<;>rfl) (by (try simp only [RB])<;>first|done|exact Iff.rfl|omega|simp) (fun hc=>?_) (fun hc=>?_)<;>(try simp only [RN,reduceIte])<;>(try refine aj rfl ?_)
  ·have hxi:=hll _ (nJ (d:=[]) hc)
   (first|refine fV rfl ?_|refine fZ rfl ?_);(try simp only [RN,reduceIte]);try refine aj rfl ?_
   refine au fun Kr hKr=>?_;simp (disch:=omega) only [RA,↓reduceIte,Nat.reduceEqDiff,RD,g0,g1,g5,acw]
   refine bK (.cons .fz (.cons .fz .nil)) ?_
   refine acn Sl.fz Sl.fz (by omega) (by omega) ?_
   refine ⟨.bool,?_⟩
   simp (disch:=omega) only [RA,↓reduceIte,Nat.reduceEqDiff,RD]
   refine hKr _ _ ?_;clear hKr Kr;(try simp only [bW,dH,dG]);(try simp only [RN,reduceIte]);try refine aj rfl ?_
   refine dY (t:=false) (by simp (disch:=omega) only [RA,↓reduceIte,Nat.reduceEqDiff,RD]) ?_;(try simp only [RN,reduceIte]);try refine aj rfl ?_
   refine dN fun Kr hKr=>?_;simp (disch:=omega) only [RA,↓reduceIte,Nat.reduceEqDiff,RD,g5];refine hKr _ _ ?_;clear hKr Kr
   exact hN (xss.length-(i+1)) _ _ _ _ (by omega) Gh.refl ⟨i+1,by omega,rfl,ah,ah,ah,rfl⟩
  ·refine hX _ _ ?_
   refine au fun Kr hKr=>?_;simp (disch:=omega) only [RA,↓reduceIte,Nat.reduceEqDiff,RD];refine hKr _ _ ?_;clear hKr Kr;(try simp only [RN,reduceIte]);try refine aj rfl ?_
   refine bZ (by simp (disch:=omega) only [RA,↓reduceIte,Nat.reduceEqDiff,RD,resAll,resOf];rfl) aY.refl ?_;simp only [tup]
   exact ⟨.bool,hK⟩
end Go.Bm
namespace Go.Bm
open Go Go.Am
def nY (xs:List Int):Nat→Int
 |0=>0
 |i+1=>nY xs i+el xs i
def qm (xs:List Int):Int:=nY xs xs.length
def yR (xs:List Int) (i:Nat):Prop:=(1≤el xs i∧el xs i≤16)∧(0<i→el xs i≤el xs (i-1))
instance (xs:List Int) (i:Nat):Decidable (yR xs i):=by unfold yR;infer_instance
def ru (xs:List Int):Prop:=(1≤xs.length∧xs.length≤16)∧(∀i,i<xs.length→yR xs i)∧qm xs≤16
instance (xs:List Int):Decidable (ru xs):=by unfold ru;infer_instance
theorem Nb {xs:List Int}: ∀{i:Nat},(∀j,j<i→yR xs j)→(i:Int)≤nY xs i∧nY xs i≤16*i
 |0,_=>by simp [nY]
 |i+1,h=>by
  have ih:=Nb (i:=i) fun j hj=>h j (by omega)
  have:=(h i (by omega)).1
  simp only [nY]
  omega
theorem LU {xs:List Int} {i:Nat}: ∀{k:Nat},(∀j,j<k→yR xs j)→i≤k→nY xs i≤nY xs k
 |0,_,h=>by
  obtain rfl:i=0:=by omega
  exact Int.le_refl _
 |k+1,hk,h=>by
  by_cases e:i=k+1
  ·rw [e];exact Int.le_refl _
  ·have ih:=LU (i:=i) (k:=k) (fun j hj=>hk j (by omega)) (by omega)
   have:=(hk k (by omega)).1
   simp only [nY]
   omega
theorem ru.pos {xs:List Int} (h:ru xs):1≤qm xs:=by
 have:=(Nb h.2.1).1
 have:=h.1
 rw [qm]
 omega
def at3 (xss:List (List Int)) (i:Nat):List Int:=xss.getD i []
def Fq (xss:List (List Int)):Prop:=xss.length=3∧ ∀i,i<3→ru (at3 xss i)∧qm (at3 xss i)=qm (at3 xss 0)
instance (xss:List (List Int)):Decidable (Fq xss):=by unfold Fq;infer_instance
end Go.Bm
namespace Go.Bm
open Go Go.Am
theorem Nc {p:List Nat} {n i:Nat} (h:i<(aQ p n).length):nl (lens p n) i=((aQ p n).getD i []).length:=by
 simp [nl,lens,List.getD,h]
theorem CV {p:List Nat} {n:Nat} (hb:By 16 p) (hp:Perm p n):
  aF false KC [PL p,I n] [] fun v H1=> ∃j,v=S j 0 (typ p n).length 1∧blk H1 j=some ((typ p n).map bF):=by
 have hlen:=hb.len
 have hnum:=tq hp
 have hn:=hp.1
 have hll:(lens p n).length=(aQ p n).length:=by rw [lens,List.length_map]
 refine aG YT ?_;simp only [jf,aB]
 refine aC ?_
 refine aC ?_
 refine eP fun Kr hKr=>?_
 refine acz hb hp ?_
 refine aS ?_
 refine aO hKr ?_
 refine aW (fun m f H'=> ∃i out,i≤(aQ p n).length∧m=(aQ p n).length-i∧out=(lens p n).take i∧f 5=S 1 0 out.length 1∧f 11=Fz (aQ p n).length 1 ((aQ p n).map FN)∧f 12=I (aQ p n).length∧f 13=I i∧H'=[some (p.map N8),some (out.map bF)]) ((aQ p n).length) ?_ ?_
 ·exact ⟨_,_,Gh.refl,0,[],by omega,by omega,by simp,ah,ah,ah,ah,by simp⟩
 ·rintro m f H' R ⟨i,out,hi,rfl,hout,g5,g11,g12,g13,rfl⟩ hN hX hR hE
  simp only [jf.l0,aB]
  refine aA (aH @g12 @g13) ?_
  refine bI (i<(aQ p n).length) (fun hc=>?_) fun hc=>?_
  ·have hol:out.length≤16:=by rw [hout,List.length_take];omega
   have hci:=Nc hc
   refine dD ?_
   refine aA (bP @g11 @g13 @vK) ?_
   refine au fun Kr hKr=>?_;simp (disch:=omega) only [RA,↓reduceIte,Nat.reduceEqDiff,Nat.reduceAdd,Nat.reduceLeDiff,RD,g5,←hci,rJ];refine hKr _ _ ?_;clear hKr Kr;(try simp only [RN,reduceIte]);try refine aj rfl ?_
   refine bM @g13 ?_
   exact hN ((aQ p n).length-(i+1)) _ _ _ _ (by omega) (Gh.nrm [0,3] rfl rfl (by simp only [RH,RV])) ⟨i+1,out++[nl (lens p n) i],by omega,rfl,by rw [Nh (by omega),hout],ah,ah,ah,ah,rfl⟩
  ·refine hX _ _ ?_
   obtain rfl:i=(aQ p n).length:=by omega
   have acA:out=lens p n:=by rw [hout,←hll,List.take_length]
   subst acA
   have hpl:(nK (lens p n)).length=(lens p n).length:=Nj
   have hpm:(nK (typ p n)).Perm (nK (lens p n)):=(F7 hp).map _
   have htl:(typ p n).length=(lens p n).length:=(F7 hp).length_eq
   have kG:=Nk hp
   refine dF @g5 fun Kr hKr=>?_
   refine acB (i:=1) rfl kU ?_
   have e:([S 1 0 (lens p n).length 1]:List Value).map (ren [1])=[S 0 0 (nK (lens p n)).length 1]:=by rw [hpl];simp [ren,og,nm]
   rw [e,Nl]
   refine acC (r:=nK (typ p n)) (by omega) acD hpm ?_
   refine ⟨0,_,_,rfl,HN.cons (aJ.map fun _=> .int) HN.nil,?_⟩
   rw [hpl]
   refine aS ?_
   refine aO hKr ?_
   refine aV ?_
   exact ⟨1,by rw [htl],by rw [Nl];rfl⟩
theorem F8 {x:Bool} {p:List Nat} {n:Nat} {H:BH} {K:Value→BH→Prop} (hb:By 16 p) (hp:Perm p n) (hK:K (FN (typ p n)) H):aF x KC [PL p,I n] H K:=
 oz (by (simp only [RH])) kU (by simp) (CV hb hp) hK
theorem acE {H:BH} {b:Nat}:dV (some (List.replicate 17 (.int .i64 0))) H b 0 17 (aggL (List.replicate 17 (.int .i64 0)))=some (undef,H.set b (some ((List.replicate 17 0).map bF))):=by
 rw [F9];rfl
theorem acF {H:BH} {b o:Nat} {s:List Nat} {c:Nat} (h:o<s.length):dV (some (s.map bF)) H b o 1 (.int .i64 (c:Int))=some (undef,H.set b (some ((s.set o c).map bF))):=by
 rw [rC (by simpa using h)]
 rw [CW (g:=bF) h]
theorem acG {p:List Nat} {n:Nat} (hb:By 16 p) (hp:Perm p n):
  aF false Ku [PL p,I n] [] fun v H1=> ∃j,v=S j 0 (typ p n).length 1∧blk H1 j=some ((typ p n).map bF):=by
 have hlen:=hb.len
 have hnum:=tq hp
 have hn:=hp.1
 have hll:(lens p n).length=(aQ p n).length:=by rw [lens,List.length_map]
 have hlo:=Np hp
 have kG:=Nk hp
 refine aG Yv ?_;simp only [dO,aB]
 refine aC ?_
 refine eP fun Kr hKr=>?_
 refine acH hb hp ?_
 refine gU @acE ?_
 refine aO hKr ?_
 refine aC ?_
 refine aW (fun m f H'=> ∃i cn,i≤(aQ p n).length∧m=(aQ p n).length-i∧cn=kV (lens p n) i∧f 1=I n∧f 5=P 2 0∧f 6=Fz (aQ p n).length 1 ((aQ p n).map FN)∧f 7=S 1 0 0 1∧f 8=I i∧H'=[some (p.map N8),some (([]:List Nat).map bF),some (cn.map bF)]) ((aQ p n).length) ?_ ?_
 ·exact ⟨_,_,Gh.refl,0,List.replicate 17 0,by omega,by omega,rfl,ah,ah,ah,ah,ah,rfl⟩
 ·rintro m f H' R ⟨i,cn,hi,rfl,hcn,g1,g5,g6,g7,g8,rfl⟩ hN hX hR hE
  simp only [dO.l0,aB]
  have hcl:cn.length=17:=by rw [hcn];exact Nq
  refine aA (aH @g6 @g8) ?_
  refine bI (i<(aQ p n).length) (fun hc=>?_) fun hc=>?_
  ·have hci:=Nc hc
   have hz:=hlo _ (dK (show i<(lens p n).length by omega))
   have hle:nl cn (nl (lens p n) i)≤16:=by
    rw [hcn,Gf (by omega) (by omega)]
    have:=List.count_le_length (a:=nl (lens p n) i) (l:=(lens p n).take i)
    rw [List.length_take] at this
    omega
   have e1:(nl cn (nl (lens p n) i):Int)+1=((nl cn (nl (lens p n) i)+1:Nat):Int):=by omega
   refine dD ?_
   refine au fun Kr hKr=>?_;simp (disch:=omega) only [RA,↓reduceIte,Nat.reduceEqDiff,RD,g5,g6,g8,vK,←hci,vM,hcl,e1,acF];refine hKr _ _ ?_;clear hKr Kr;(try simp only [RN,reduceIte]);try refine aj rfl ?_
   refine bM @g8 ?_
   exact hN ((aQ p n).length-(i+1)) _ _ _ _ (by omega) Gh.refl ⟨i+1,cn.set (nl (lens p n) i) (nl cn (nl (lens p n) i)+1),by omega,rfl,by rw [kV,hcn],ah,ah,ah,ah,ah,rfl⟩
  ·refine hX _ _ ?_
   obtain rfl:i=(aQ p n).length:=by omega
   rw [←hll] at hcn
   have acI: ∀k,k≤n→(gW cn n k).length≤16:=fun k hk=>by
    rw [hcn]
    have:=acJ (show n≤16 by omega) hk hlo
    omega
   have hcv: ∀v,v<17→nl cn v≤16:=fun v hv=>by
    rw [hcn,Gf (Nat.le_refl _) hv]
    have:=List.count_le_length (a:=v) (l:=(lens p n).take (lens p n).length)
    rw [List.length_take] at this
    omega
   have hdl:typ p n=gW cn n n:=by rw [hcn];rfl
   rw [hdl] at hX
   clear g6 g8 hc hN hX hR hE
   refine jQ ?_
   refine aA @g1 ?_
   rw [hdl]
   refine aW (fun m f H'=> ∃v out,v≤n∧v=m∧out=gW cn n (n-v)∧f 5=P 1 0∧f 7=S 0 0 out.length 1∧f 9=I v∧H'=[some (out.map bF),some (cn.map bF)]) (n) ?_ ?_
   ·refine ⟨_,_,(Gh.nrm [1,2] rfl rfl (by simp only [RH,RV])),n,[],by omega,by omega,by simp [gW],ah,ah,ah,rfl⟩
   ·clear g1 g5 g7
    rintro m f H' R2 ⟨v,out,hv,rfl,hout,g5,g7,g9,rfl⟩ iT hX2 hR2 hE2
    simp only [dO.l2,aB]
    refine aA @g9 ?_
    refine bI (0<v) (fun hc=>?_) fun hc=>?_
    ·have hq:=hcv v (by omega)
     have hstep:gW cn n (n-(v-1))=gW cn n (n-v)++List.replicate (nl cn v) v:=by
      rw [show n-(v-1)=(n-v)+1 by omega,gW,show n-(n-v)=v by omega]
     have hdn:=acI (n-(v-1)) (by omega)
     rw [hstep,←hout,List.length_append,List.length_replicate] at hdn
     rw [←hout] at hstep
     refine dD ?_
     refine aA (dh @g5 @g9 @vM @hcl) ?_
     obtain ⟨q,hqe⟩: ∃q,nl cn v=q:=⟨_,rfl⟩
     rw [hqe] at hq hstep hdn
     simp only [hqe]
     refine aW (fun m f H'=> ∃j o,j≤q∧j=m∧o=out++List.replicate (q-j) v∧f 5=P 1 0∧f 7=S 0 0 o.length 1∧f 9=I v∧f 10=I j∧H'=[some (o.map bF),some (cn.map bF)]) (q) ?_ ?_
     ·exact ⟨_,_,Gh.refl,q,out,by omega,by omega,by simp,ah,ah,ah,ah,rfl⟩
     ·clear g5 g7 g9
      rintro m f H' R3 ⟨j,o,hj,rfl,ho,g5,g7,g9,g10,rfl⟩ hN3 hX3 yS hE3
      simp only [dO.l1,aB]
      have hol:o.length≤16:=by rw [ho,List.length_append,List.length_replicate];omega
      refine aA @g10 ?_
      refine bI (0<j) (fun hc=>?_) fun hc=>?_
      ·have hj1:(j:Int)-1=((j-1:Nat):Int):=by omega
       refine dD ?_
       refine aA (bP @g7 @g9 @rJ) ?_
       refine bM (aH @g10 @hj1) ?_
       refine hN3 (j-1) _ _ _ _ (by omega) (Gh.nrm [3,1] rfl rfl (by simp only [RH,RV])) ⟨j-1,o++[v],by omega,rfl,?_,ah,ah,ah,ah,rfl⟩
       rw [ho,List.append_assoc,show q-(j-1)=(q-j)+1 by omega,List.replicate_succ']
      ·refine hX3 _ _ ?_
       obtain rfl:j=0:=by omega
       have hv1:(v:Int)-1=((v-1:Nat):Int):=by omega
       refine bM (aH @g9 @hv1) ?_
       refine iT (v-1) _ _ _ _ (by omega) Gh.refl ⟨v-1,o,by omega,rfl,by rw [hstep,ho];rfl,ah,ah,ah,rfl⟩
    ·refine hX2 _ _ ?_
     obtain rfl:v=0:=by omega
     refine aA @g7 ?_
     refine mJ @g7 ?_
     rw [hout]
     exact ⟨0,rfl,rfl⟩
theorem vN {x:Bool} {p:List Nat} {n:Nat} {H:BH} {K:Value→BH→Prop} (hb:By 16 p) (hp:Perm p n) (hK:K (FN (typ p n)) H):aF x Ku [PL p,I n] H K:=
 oz (by (simp only [RH])) kU (by simp) (acG hb hp) hK
def Clean (w:List Nat) (n:Nat):Prop:= ∀x,x<n→nl w x≠x∧nl w (nl w x)=x
instance (w:List Nat) (n:Nat):Decidable (Clean w n):=by unfold Clean;infer_instance
end Go.Bm
namespace Go.Bm
open Go Go.Am
theorem agA {g:Nat} {args:List Value} {H:BH} {K:Value→BH→Prop} {i:Nat} {cs0:List Value} (hc0:blk H i=some cs0) (hn0:aJ cs0)
  (h:aF false g (args.map (ren [i])) [some cs0] fun v H1=> ∃j l e cs,v= .slice (some ⟨j,0,none⟩) l e∧j≠0∧blk H1 j=some cs∧aJ cs∧ ∃cu,blk H1 0=some cu∧aJ cu∧K (.slice (some ⟨H.length,0,none⟩) l e) ((H.set i (some cu))++[some cs])):aF false g args H K:=by
 intro ρ Z as HA h1 h2
 have hi:=oC hc0
 obtain ⟨b0,Gg,r1,r2,r3,r4,r5⟩:=h2.bH i cs0 hc0
 obtain ⟨lJ,yT⟩: ∃lJ:Nat→Option Nat,lJ=fun j=>if j=0 then some b0 else none:=⟨_,rfl⟩
 have oZ:lJ 0=some b0:=by rw [yT];rfl
 have hR0:Rel lJ Z [some cs0] HA:=by
  refine ⟨fun j cs hj=>?_,fun j j' c1 c2 b e1 e2 _ _=>?_,fun j cs b e1 e2=>?_,h2.fH,fun j hj=>?_⟩
  ·cases j with
   |zero=>
    simp [blk] at hj;subst hj
    exact ⟨b0,Gg,oZ,r2,r3,r4,(hn0.vz r5).vl⟩
   |succ j=>simp [blk] at hj
  ·cases j with
   |zero=>cases j' with
    |zero=>rfl
    |succ j'=>simp [blk] at e2
   |succ j=>simp [blk] at e1
  ·cases j with
   |zero=>
    rw [oZ] at e2;cases e2
    exact h2.eF i cs0 b0 hc0 r1
   |succ j=>simp [blk] at e1
  ·rw [yT]
   simp only [List.length_singleton] at hj
   simp only
   rw [if_neg (by omega)]
 have hargs:VL lJ Z (args.map (ren [i])) as:=by
  refine ⟨by simpa using h1.1,fun q c d q1 q2=>?_⟩
  rw [List.getElem?_map] at q1
  obtain ⟨p,hp,rfl⟩:=map_inj q1
  refine vO (fun x y hxy=>?_) (h1.2 q p d hp q2)
  cases y with
  |zero=>
   simp at hxy
   subst hxy
   rw [oZ,r1]
  |succ y=>simp at hxy
 obtain ⟨v',HA',h3,_,bG,Z1,v,H1,h4,h5,_,h7,h6,j,l,e,cs,rfl,hj0,hj,hn,cu,hu,hnu,hK⟩:=h lJ Z as HA hargs hR0
 obtain ⟨bn,bk1,hb0,e2,e3,e4,e5⟩:=h5.bH j cs hj
 have qw: ∀q cs' b,blk ([some cs0]:BH) q=some cs'→lJ q=some b→b=b0:=fun q cs' b e1 e2=>by
  cases q with
  |zero=>rw [oZ] at e2;cases e2;rfl
  |succ q=>simp [blk] at e1
 obtain ⟨bu,bku,hbu,u2,u3,u4,u5⟩:=h5.bH 0 cu hu
 obtain rfl:bu=b0:=by
  have:=h7 0 (by simp)
  rw [hbu,oZ] at this
  injection this
 have Gi:bn≠bu:=fun e=>hj0 (h5.inj j 0 cs cu bn hj hu hb0 (by rw [e];exact hbu))
 have hge:HA.n≤bn:=by
  rcases h6.own j cs bn hj hb0 with h9|⟨q,cs',h9,h10⟩
  ·exact h9
  ·exact absurd (qw q cs' bn h9 h10) Gi
 have hkeep: ∀b,b<HA.n→b≠bu→HA'.get b=HA.get b:=fun b hb hne=>h6.keep b hb fun q cs' e1 e2=>hne (qw q cs' b e1 e2)
 have hne: ∀q cs' b,q≠i→blk H q=some cs'→ρ q=some b→b≠bu:=fun q cs' b hq e1 e2 e=>hq (h2.inj q i cs' cs0 b e1 hc0 e2 (by rw [e];exact r1))
 have hold: ∀q cs',blk ((H.set i (some cu))++[some cs]) q=some cs'→(q=H.length∧cs'=cs)∨(q<H.length∧q≠i∧blk H q=some cs')∨(q<H.length∧q=i∧cs'=cu):=fun q cs' hc=>by
  rcases Nat.lt_trichotomy q H.length with hq|hq|hq
  ·right
   have hc':blk (H.set i (some cu)) q=some cs':=by
    unfold blk at hc⊢
    rwa [List.getElem?_append_left (by simpa using hq)] at hc
   rw [kM hi] at hc'
   split at hc'
   ·rename_i e
    injection hc' with hc'
    exact .inr ⟨hq,e,hc'.symm⟩
   ·exact .inl ⟨hq,by assumption,hc'⟩
  ·left
   subst hq
   unfold blk at hc
   rw [List.getElem?_append_right (by simp)] at hc
   simp at hc
   exact ⟨rfl,hc.symm⟩
  ·unfold blk at hc
   rw [List.getElem?_eq_none (by simp;omega)] at hc
   cases hc
 have hρ: ∀q,q<H.length→put ρ H.length bn q=ρ q:=fun q hq=>by simp only [put];rw [if_neg (by omega)]
 have iY:put ρ H.length bn H.length=some bn:=by simp [put]
 have hv:VR (put ρ H.length bn) Z1 (.slice (some ⟨H.length,0,none⟩) l e) v':=by
  obtain ⟨b,hb,rfl⟩:=h4.slice_inv
  rw [hb0] at hb;cases hb
  exact .slice iY
 have hat: ∀q cs' b,blk ((H.set i (some cu))++[some cs]) q=some cs'→put ρ H.length bn q=some b→(q=H.length∧b=bn)∨(q≠i∧q<H.length∧ρ q=some b∧blk H q=some cs')∨(q=i∧b=bu):=fun q cs' b hc hb=>by
  rcases hold q cs' hc with ⟨rfl,rfl⟩|⟨hq,hqi,hc⟩|⟨hq,rfl,rfl⟩
  ·rw [iY] at hb;cases hb
   exact .inl ⟨rfl,rfl⟩
  ·rw [hρ q hq] at hb
   exact .inr (.inl ⟨hqi,hq,hb,hc⟩)
  ·rw [hρ q hq,r1] at hb
   cases hb
   exact .inr (.inr ⟨rfl,rfl⟩)
 refine ⟨v',HA',h3,(fun h=>by cases h),put ρ H.length bn,Z1,_,_,hv,⟨fun q cs' hc=>?_,fun q q' c1 c2 b k1 k2 k3 k4=>?_,fun q cs' b k1 k2=>?_,h5.fH,fun q hq=>?_⟩,by simp,hρ,⟨h6.n,fun b hb hno=>?_,fun q cs' b k1 k2=>?_,h6.zx,fun b bk hb=>?_⟩,hK⟩
 ·rcases hold q cs' hc with ⟨rfl,rfl⟩|⟨hq,hqi,hc⟩|⟨hq,rfl,rfl⟩
  ·exact ⟨bn,bk1,iY,e2,e3,e4,(hn.vz e5).vl⟩
  ·obtain ⟨b,bk,k1,k2,k3,k4,k5⟩:=h2.bH q cs' hc
   refine ⟨b,bk,by rw [hρ q hq];exact k1,Nat.lt_of_lt_of_le k2 h6.n,by rw [hkeep b k2 (hne q cs' b hqi hc k1)];exact k3,k4,k5.mono (fun p d hp=>?_) h6.zx⟩
   rcases Nat.lt_or_ge p H.length with hpl|hpl
   ·rw [hρ p hpl];exact hp
   ·rw [h2.top p hpl] at hp;cases hp
  ·exact ⟨bu,bku,by rw [hρ q hq];exact r1,u2,u3,u4,(hnu.vz u5).vl⟩
 ·rcases hat q c1 b k1 k3 with ⟨rfl,rfl⟩|⟨hqi,hq,k3,hc⟩|⟨rfl,rfl⟩<;>rcases hat q' c2 _ k2 k4 with ⟨rfl,e⟩|⟨Gj,hq',k4,hc'⟩|⟨rfl,e⟩
  ·rfl
  ·have:=h2.lt hc' k4;omega
  ·exact absurd e Gi
  ·have:=h2.lt hc k3;omega
  ·exact h2.inj q q' c1 c2 b hc hc' k3 k4
  ·exact absurd e (hne q _ b hqi hc k3)
  ·exact absurd e.symm Gi
  ·exact absurd rfl (hne q' _ _ Gj hc' k4)
  ·rfl
 ·rcases hat q cs' b k1 k2 with ⟨rfl,rfl⟩|⟨hqi,hq,k2,hc⟩|⟨rfl,rfl⟩
  ·exact h5.eF j _ b hj hb0
  ·cases hz:Z1 b with
   |none=>rfl
   |some bk=>
    rcases h6.zn b bk hz with h9|h9|⟨p,cs',h9,h10⟩
    ·rw [h2.eF q _ b hc k2] at h9;cases h9
    ·have:=h2.lt hc k2;omega
    ·exact absurd (qw p cs' b h9 h10) (hne q _ b hqi hc k2)
  ·exact h5.eF 0 cu b hu hbu
 ·simp only [List.length_append,List.length_set,List.length_singleton] at hq
  simp only [put]
  rw [if_neg (by omega)]
  exact h2.top q (by omega)
 ·refine hkeep b hb fun e=>?_
  rw [e] at hno
  exact hno i cs0 hc0 r1
 ·rcases hat q cs' b k1 k2 with ⟨rfl,rfl⟩|⟨hqi,hq,k2,hc⟩|⟨rfl,rfl⟩
  ·exact .inl hge
  ·exact .inr ⟨q,cs',hc,k2⟩
  ·exact .inr ⟨q,cs0,hc0,r1⟩
 ·rcases h6.zn b bk hb with h9|h9|⟨p,cs',h9,h10⟩
  ·exact .inl h9
  ·exact .inr (.inl h9)
  ·rw [qw p cs' b h9 h10]
   exact .inr (.inr ⟨i,cs0,hc0,r1⟩)
end Go.Bm
namespace Go.Bm
open Go Go.Am
def ng (ns:List Nat) (H:BH):BH:=ns.map fun i=>(blk H i).map (List.map (ren ns))
theorem yU {ns:List Nat} {H:BH} {j:Nat} {cs:List Value} (h:blk (ng ns H) j=some cs): ∃i cs0,ns[j]? =some i∧blk H i=some cs0∧cs=cs0.map (ren ns):=by
 unfold blk ng at h
 rw [List.getElem?_map] at h
 cases h1:ns[j]? with
 |none=>rw [h1] at h;cases h
 |some i=>
  rw [h1] at h
  simp only [Option.map_some,Option.getD_some] at h
  change (blk H i).map _=some cs at h
  cases h2:blk H i with
  |none=>rw [h2] at h;cases h
  |some cs0=>rw [h2] at h;exact ⟨i,cs0,rfl,h2,by simpa using h.symm⟩
theorem Gh.qj {k:Nat} {f:Fr} {H:BH} (ns:List Nat) (hd:ns.Nodup) (hk: ∀j,j<k→ns[j]? =some j):Gh k f H (fun t=>ren ns (f t)) (ng ns H):=by
 refine ⟨fun _=>?_,fun ρ Z fA HA h1 h2=>?_⟩
 ·rcases Nat.lt_or_ge ns.length k with h|h
  ·have:=hk ns.length h
   simp at this
  ·simpa [ng] using h
 ·have hr: ∀(i j:Nat),ns[j]? =some i→(match ns[j]? with|some i=>ρ i|none=>none)=ρ i:=fun i j h=>by rw [h]
  refine ⟨fun j=>match ns[j]? with|some i=>ρ i|none=>none,Z,fun t=>vO hr (h1 t),⟨fun j cs hc=>?_,fun j j' cs cs' b hc hc' hb hb'=>?_,fun j cs b hc hb=>?_,h2.fH,fun j hj=>?_⟩,fun j hj=>?_,⟨Nat.le_refl _,fun _ _ _=>rfl,fun j cs b hc hb=>?_,fun _ _ h=>h,fun _ _ h=> .inl h⟩⟩
  ·obtain ⟨i,cs0,hi,hc',rfl⟩:=yU hc
   obtain ⟨b,bk,e1,e2,e3,e4,e5⟩:=h2.bH i cs0 hc'
   refine ⟨b,bk,by rw [hi];exact e1,e2,e3,e4,by simpa using e5.1,fun q c d q1 q2=>?_⟩
   rw [List.getElem?_map] at q1
   obtain ⟨p,hp,rfl⟩:=map_inj q1
   exact vO hr (e5.2 q p d hp q2)
  ·obtain ⟨i,c0,hi,hci,_⟩:=yU hc
   obtain ⟨i',c0',hi',mM,_⟩:=yU hc'
   rw [hi] at hb;rw [hi'] at hb'
   have:=h2.inj i i' c0 c0' b hci mM hb hb'
   subst this
   obtain ⟨e1,e2⟩:=List.getElem?_eq_some_iff.1 hi
   obtain ⟨e3,e4⟩:=List.getElem?_eq_some_iff.1 hi'
   have hp:=List.pairwise_iff_getElem.1 hd
   rcases Nat.lt_trichotomy j j' with hl|hl|hl
   ·exact absurd (e2.trans e4.symm) (hp j j' e1 e3 hl)
   ·exact hl
   ·exact absurd (e4.trans e2.symm) (hp j' j e3 e1 hl)
  ·obtain ⟨i,c0,hi,hci,_⟩:=yU hc
   rw [hi] at hb
   exact h2.eF i c0 b hci hb
  ·have:ns[j]? =none:=List.getElem?_eq_none (by simpa [ng] using hj)
   rw [this]
  ·exact hr j j (hk j hj)
  ·obtain ⟨i,c0,hi,hci,_⟩:=yU hc
   rw [hi] at hb
   exact .inr ⟨i,c0,hci,hb⟩
theorem aY.qj {k:Nat} {v:Value} {H:BH} (ns:List Nat) (hd:ns.Nodup) (hk: ∀j,j<k→ns[j]? =some j) (hv:NN v):aY k v H v (ng ns H):=
 ⟨(Gh.qj (f:=fun _=>v) ns hd hk).1,fun ρ Z u HA h1 h2=>by
  obtain ⟨ρ',Z',h3,h4,h5,h6⟩:=(Gh.qj (f:=fun _=>v) ns hd hk).2 ρ Z (fun _=>u) HA (fun _=>h1) h2
  refine ⟨ρ',Z',?_,h4,h5,h6⟩
  exact (hv ρ Z u h1).mono h6.zx|> .z⟩
theorem acK {ρ:Nat→Option Nat} {Z:Nat→Option Blk} {HA:AHeap} {H:BH} {i:Nat} {cs:List Value} (h2:Rel ρ Z H HA) (hc:blk H i=some cs) (hn:aJ cs):
  ∃Z',Rel ρ Z' ((lK (frz i cs) H).set i none) HA∧Frm ρ Z H HA ρ Z' ((lK (frz i cs) H).set i none) HA∧ ∀v u,VR ρ Z v u→VR ρ Z' (frz i cs v) u:=by
 obtain ⟨Z',h3,h4,h5⟩:=yV h2 hc hn
 have hi:=oC hc
 have hset: ∀j cs',blk ((lK (frz i cs) H).set i none) j=some cs'→j≠i∧ ∃cs0,blk H j=some cs0∧cs'=cs0.map (frz i cs):=fun j cs' h=>by
  rw [kM (by simpa [lK] using hi)] at h
  split at h
  ·cases h
  ·rename_i hne
   exact ⟨hne,Nr h⟩
 have hold: ∀j cs0,j≠i→blk H j=some cs0→blk (H.set i none) j=some cs0:=fun j cs0 hne h=>by rw [kM hi,if_neg hne];exact h
 refine ⟨Z',⟨fun j cs' h=>?_,fun j j' c1 c2 b e1 e2 e3 e4=>?_,fun j cs' b e1 e2=>?_,h3.fH,fun j hj=>h2.top j (by simpa [lK] using hj)⟩,⟨h4.n,h4.keep,fun j cs' b e1 e2=>?_,h4.zx,h4.zn⟩,h5⟩
 ·obtain ⟨hne,cs0,g1,rfl⟩:=hset j cs' h
  obtain ⟨b,bk,k1,k2,k3,k4,k5⟩:=h2.bH j cs0 g1
  refine ⟨b,bk,k1,k2,k3,k4,by simpa using k5.1,fun q c d q1 q2=>?_⟩
  rw [List.getElem?_map] at q1
  obtain ⟨p,hp,rfl⟩:=map_inj q1
  exact h5 _ _ (k5.2 q p d hp q2)
 ·obtain ⟨n1,x1,g1,_⟩:=hset j c1 e1
  obtain ⟨n2,x2,g2,_⟩:=hset j' c2 e2
  exact h2.inj j j' x1 x2 b g1 g2 e3 e4
 ·obtain ⟨n1,x1,g1,_⟩:=hset j cs' e1
  exact h3.eF j x1 b (hold j x1 n1 g1) e2
 ·obtain ⟨n1,x1,g1,_⟩:=hset j cs' e1
  exact h4.own j x1 b (hold j x1 n1 g1) e2
theorem aY.CX {k:Nat} {v:Value} {H:BH} {i:Nat} {cs:List Value} (hc:blk H i=some cs) (hn:aJ cs):aY k v H (o7 i cs v) ((lK (frz i cs) H).set i none):=
 ⟨fun h=>by simpa [lK] using h,fun ρ Z u HA h1 h2=>by
  obtain ⟨Z',h3,h4,h5⟩:=acK h2 hc hn
  refine ⟨ρ,Z',?_,h3,fun _ _=>rfl,h4⟩
  unfold o7
  split
  ·rename_i vs
   obtain ⟨ds,rfl,hl⟩:=h1.tuple_inv
   obtain ⟨ds⟩:=ds
   refine .tuple (by simpa using hl.1) fun i c d k1 k2=>?_
   rw [List.getElem?_map] at k1
   obtain ⟨q,hq,rfl⟩:=map_inj k1
   exact h5 _ _ (hl.2 i q d hq k2)
  ·exact h5 _ _ h1⟩
end Go.Bm
namespace Go.Bm
open Go Go.Am
section
variable {code:List Nat} {a:Nat} {h:Int}
def kH (r:List Nat):List Int:=r.map fun x:Nat=>(x:Int)
theorem Gl {r:List Nat}:(kH r).length=r.length:=by simp [kH]
theorem Ns {r:List Nat}:r.map bF=(kH r).map I:=by
 rw [kH,List.map_map]
 rfl
theorem Gm {r:List Nat}:FN r=FI (kH r):=by
 rw [FI,Gl,←Ns]
section
variable {x y z:Value} {H:BH} {b j o l e:Nat}
end
end
end Go.Bm
namespace Go.Bm
open Go Go.Am
theorem acL {xss:List (List Nat)}:LN xss=sZ (xss.map kH):=by
 have e:(xss.map kH).map FI=xss.map FN:=by
  rw [List.map_map]
  exact List.map_congr_left fun r _=>Gm.symm
 rw [sZ,e,List.length_map]
section
variable {code:List Nat} {a:Nat} {h:Int}
theorem qx {p:List Nat} {n:Nat} (hp:Perm p n):(typ p n).length≤100:=by
 have hn:=hp.1
 have:=tq hp
 rw [CY hp]
 omega
end
end Go.Bm
namespace Go.Bm
open Go Go.Am
section
variable {xs:List Int} {n:Nat}
end
section
variable {xs:List Int} (ht:ru xs)
include ht
end
end Go.Bm
namespace Go.Bm
open Go Go.Am
section
variable {xs:List Int}
end
end Go.Bm
namespace Go.Bm
open Go Go.Am
section
variable {code:List Nat} {H:BH} {K:Value→BH→Prop} {x:Bool}
variable (hl:code.length≤1048576) (hcd: ∀i,nl code i<256)
include hl hcd
end
end Go.Bm
