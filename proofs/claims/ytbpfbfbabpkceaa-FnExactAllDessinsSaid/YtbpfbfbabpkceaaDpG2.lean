/- DpDd, DpS, DpEa, DpEb, DpW, BmU, BmV, DpDi, DpDj, DpDe, DpDk, DpDl, DpKb, DpKc, DpKd, DpKe, DpKf -/
import Derived.Test.YtbpfbfbabpkceaaDpG0
import Derived.Test.YtbpfbfbabpkceaaDpG1
set_option linter.unusedVariables false
set_option linter.unusedSimpArgs false
namespace Go.Bm
open Go Go.Am
def uY (c:Option (List Value)) (H:BH) (bytes cn:Nat):Option (Value×BH):=
 match c with
 |some [v]=>if bytes≤140737488355328 then some (S H.length 0 1 1,H++[some [v]]) else dK 1 bytes (.slice none 0 0) (S cn 0 1 1) H
 | _=>dK 1 bytes (.slice none 0 0) (S cn 0 1 1) H
theorem RU {H:BH} {c bytes:Nat}:dK 1 bytes (.slice none 0 0) (S c 0 1 1) H=uY (blk H c) H bytes c:=by
 unfold uY
 split
 ·rename_i v hc
  split
  ·rename_i h
   simp [dK,newC,hc,h]
  ·rfl
 ·rfl
theorem RX {H:BH} {v:Value} {bytes cn:Nat} (h:bytes≤140737488355328):uY (some [v]) H bytes cn=some (S H.length 0 1 1,H++[some [v]]):=by
 simp only [uY]
 rw [if_pos h]
def LS (lv:Value) (L:List (List Nat)) (H0:BH):Prop:=(lv= .slice none 0 0∧L=[]∧H0=[])∨(lv=S 0 0 L.length 1∧H0=[some (L.map FN)])
theorem uZ {m:Nat} {start:List Nat} {L:List (List Nat)} {lv:Value} {H0:BH} (hL:LS lv L H0) (hl:L.length≤1000):
  aA false uF [I (0:Nat),I m,FN start,lv] H0 fun v H1=> ∃j,(j≠0∨H0=[])∧v=S j 0 (L++[start]).length 1∧blk H1 j=some ((L++[start]).map FN):=by
 rcases hL with ⟨rfl,rfl,rfl⟩|⟨rfl,rfl⟩
 ·refine aZ uH ?_;simp only [dR,aB]
  refine au fun Kr hKr=>?_;simp (disch:=omega) only [RA,↓reduceIte,Nat.reduceEqDiff,Nat.reduceBEq,Nat.reduceSub,Nat.reduceAdd,Nat.reduceMul,Nat.reduceLT,Nat.reduceLeDiff,Int.reduceLE,Int.reduceLT,Int.reduceEq,Int.reduceNeg,Int.reduceToNat,Int.reduceMul,Int.reduceAdd,Int.reduceSub,Int.reduceBEq,Int.reduceBNe,reduceCtorEq,RD];refine hKr _ _ ?_;clear hKr Kr;(try simp only [RN,reduceIte]);try refine ah rfl ?_
  refine au fun Kr hKr=>?_;simp (disch:=omega) only [RA,↓reduceIte,Nat.reduceEqDiff,Nat.reduceBEq,Nat.reduceSub,Nat.reduceAdd,Nat.reduceMul,Nat.reduceLT,Nat.reduceLeDiff,Int.reduceLE,Int.reduceLT,Int.reduceEq,Int.reduceNeg,Int.reduceToNat,Int.reduceMul,Int.reduceAdd,Int.reduceSub,Int.reduceBEq,Int.reduceBNe,reduceCtorEq,RD];refine hKr _ _ ?_;clear hKr Kr;(try simp only [RN,reduceIte]);try refine ah rfl ?_
  refine aP (t:=true) (by simp (disch:=omega) only [RA,↓reduceIte,Nat.reduceEqDiff,Nat.reduceBEq,Nat.reduceSub,Nat.reduceAdd,Nat.reduceMul,Nat.reduceLT,Nat.reduceLeDiff,Int.reduceLE,Int.reduceLT,Int.reduceEq,Int.reduceNeg,Int.reduceToNat,Int.reduceMul,Int.reduceAdd,Int.reduceSub,Int.reduceBEq,Int.reduceBNe,reduceCtorEq,RD]) ?_;(try simp only [RN,reduceIte]);try refine ah rfl ?_
  refine au fun Kr hKr=>?_;simp (disch:=omega) only [RA,↓reduceIte,Nat.reduceEqDiff,Nat.reduceBEq,Nat.reduceSub,Nat.reduceAdd,Nat.reduceMul,Nat.reduceLT,Nat.reduceLeDiff,Int.reduceLE,Int.reduceLT,Int.reduceEq,Int.reduceNeg,Int.reduceToNat,Int.reduceMul,Int.reduceAdd,Int.reduceSub,Int.reduceBEq,Int.reduceBNe,reduceCtorEq,RD,RU,RX];refine hKr _ _ ?_;clear hKr Kr;(try simp only [RN,reduceIte]);try refine ah rfl ?_
  refine aS (by simp (disch:=omega) only [RA,↓reduceIte,Nat.reduceEqDiff,Nat.reduceBEq,Nat.reduceSub,Nat.reduceAdd,Nat.reduceMul,Nat.reduceLT,Nat.reduceLeDiff,Int.reduceLE,Int.reduceLT,Int.reduceEq,Int.reduceNeg,Int.reduceToNat,Int.reduceMul,Int.reduceAdd,Int.reduceSub,Int.reduceBEq,Int.reduceBNe,reduceCtorEq,RD,resAll,resOf];rfl) aG.refl ?_;simp only [tup]
  exact ⟨1, .inr trivial,rfl,rfl⟩
 ·refine aZ uH ?_;simp only [dR,aB]
  refine au fun Kr hKr=>?_;simp (disch:=omega) only [RA,↓reduceIte,Nat.reduceEqDiff,Nat.reduceBEq,Nat.reduceSub,Nat.reduceAdd,Nat.reduceMul,Nat.reduceLT,Nat.reduceLeDiff,Int.reduceLE,Int.reduceLT,Int.reduceEq,Int.reduceNeg,Int.reduceToNat,Int.reduceMul,Int.reduceAdd,Int.reduceSub,Int.reduceBEq,Int.reduceBNe,reduceCtorEq,RD];refine hKr _ _ ?_;clear hKr Kr;(try simp only [RN,reduceIte]);try refine ah rfl ?_
  refine au fun Kr hKr=>?_;simp (disch:=omega) only [RA,↓reduceIte,Nat.reduceEqDiff,Nat.reduceBEq,Nat.reduceSub,Nat.reduceAdd,Nat.reduceMul,Nat.reduceLT,Nat.reduceLeDiff,Int.reduceLE,Int.reduceLT,Int.reduceEq,Int.reduceNeg,Int.reduceToNat,Int.reduceMul,Int.reduceAdd,Int.reduceSub,Int.reduceBEq,Int.reduceBNe,reduceCtorEq,RD];refine hKr _ _ ?_;clear hKr Kr;(try simp only [RN,reduceIte]);try refine ah rfl ?_
  refine aP (t:=true) (by simp (disch:=omega) only [RA,↓reduceIte,Nat.reduceEqDiff,Nat.reduceBEq,Nat.reduceSub,Nat.reduceAdd,Nat.reduceMul,Nat.reduceLT,Nat.reduceLeDiff,Int.reduceLE,Int.reduceLT,Int.reduceEq,Int.reduceNeg,Int.reduceToNat,Int.reduceMul,Int.reduceAdd,Int.reduceSub,Int.reduceBEq,Int.reduceBNe,reduceCtorEq,RD]) ?_;(try simp only [RN,reduceIte]);try refine ah rfl ?_
  refine au fun Kr hKr=>?_;simp (disch:=omega) only [RA,↓reduceIte,Nat.reduceEqDiff,Nat.reduceBEq,Nat.reduceSub,Nat.reduceAdd,Nat.reduceMul,Nat.reduceLT,Nat.reduceLeDiff,Int.reduceLE,Int.reduceLT,Int.reduceEq,Int.reduceNeg,Int.reduceToNat,Int.reduceMul,Int.reduceAdd,Int.reduceSub,Int.reduceBEq,Int.reduceBNe,reduceCtorEq,RD,RY];refine hKr _ _ ?_;clear hKr Kr;(try simp only [RN,reduceIte]);try refine ah rfl ?_
  refine aS (by simp (disch:=omega) only [RA,↓reduceIte,Nat.reduceEqDiff,Nat.reduceBEq,Nat.reduceSub,Nat.reduceAdd,Nat.reduceMul,Nat.reduceLT,Nat.reduceLeDiff,Int.reduceLE,Int.reduceLT,Int.reduceEq,Int.reduceNeg,Int.reduceToNat,Int.reduceMul,Int.reduceAdd,Int.reduceSub,Int.reduceBEq,Int.reduceBNe,reduceCtorEq,RD,resAll,resOf];rfl) aG.refl ?_;simp only [tup]
  exact ⟨2, .inl (by omega),by simp,rfl⟩
theorem Si {H:BH} {b bytes:Nat} {ys:List Nat} (h:ys.length*bytes≤140737488355328):kM (some []) H b 0 ys.length bytes (ys.map dU)=some (S H.length 0 ys.length 1,(H.set b none)++[some (ys.map dU)]):=Sj (fun _=>rfl) h
theorem vg {x:Bool} {xs:List Nat} {H:BH} {K:Value→BH→Prop} (hl:xs.length≤1000) (hK:K (S H.length 0 xs.length 1) (H++[some (xs.map dU)])):
  aA x OD [FN xs] H K:=by
 refine Ei (.cons .fz .nil) kN ?_ hK
 refine aZ Pg ?_;simp only [kD,aB]
 refine fB ?_
 refine dM (iP @Ej @Si) ?_
 refine jh ?_
 exact ⟨1,rfl,rfl⟩
theorem Sm: ∀(k n m:Nat) (start:List Nat) (L:List (List Nat)),n≤k→k≤16→m≤16→(n=0∨1≤m)→start.length+n≤16→L.length+(aH k n m).length≤1000→
  aA false uF [I n,I m,FN start,S 0 0 L.length 1] [some (L.map FN)] fun v H1=> ∃j,j≠0∧v=S j 0 (L++(aH k n m).map (start++ ·)).length 1∧blk H1 j=some ((L++(aH k n m).map (start++ ·)).map FN):=by
 intro k
 induction k with
 |zero=>
  intro n m start L hn hk hm hnm hs hl
  obtain rfl:n=0:=by omega
  have e:(aH 0 0 m).map (start++ ·)=[start]:=by simp [aH]
  rw [e]
  refine (uZ (L:=L) (.inr ⟨rfl,rfl⟩) (by omega)).mono fun v H1 ⟨j,h1,h2,h3⟩=>⟨j,?_,h2,h3⟩
  rcases h1 with h1|h1
  ·exact h1
  ·cases h1
 |succ k ih=>
  intro n m start L hn hk hm hnm hs hl
  by_cases h0:n=0
  ·subst h0
   have e:(aH (k+1) 0 m).map (start++ ·)=[start]:=by simp [aH]
   rw [e]
   refine (uZ (L:=L) (.inr ⟨rfl,rfl⟩) (by omega)).mono fun v H1 ⟨j,h1,h2,h3⟩=>⟨j,?_,h2,h3⟩
   rcases h1 with h1|h1
   ·exact h1
   ·cases h1
  ·rw [qy h0] at hl⊢
   refine aZ uH ?_;simp only [dR,aB]
   refine au fun Kr hKr=>?_;simp (disch:=omega) only [RA,↓reduceIte,Nat.reduceEqDiff,Nat.reduceBEq,Nat.reduceSub,Nat.reduceAdd,Nat.reduceMul,Nat.reduceLT,Nat.reduceLeDiff,Int.reduceLE,Int.reduceLT,Int.reduceEq,Int.reduceNeg,Int.reduceToNat,Int.reduceMul,Int.reduceAdd,Int.reduceSub,Int.reduceBEq,Int.reduceBNe,reduceCtorEq,RD];refine hKr _ _ ?_;clear hKr Kr;(try simp only [RN,reduceIte]);try refine ah rfl ?_
   refine au fun Kr hKr=>?_;simp (disch:=omega) only [RA,↓reduceIte,Nat.reduceEqDiff,Nat.reduceBEq,Nat.reduceSub,Nat.reduceAdd,Nat.reduceMul,Nat.reduceLT,Nat.reduceLeDiff,Int.reduceLE,Int.reduceLT,Int.reduceEq,Int.reduceNeg,Int.reduceToNat,Int.reduceMul,Int.reduceAdd,Int.reduceSub,Int.reduceBEq,Int.reduceBNe,reduceCtorEq,RD];refine hKr _ _ ?_;clear hKr Kr;(try simp only [RN,reduceIte]);try refine ah rfl ?_
   refine aP (t:=false) (by simp (disch:=omega) only [RA,↓reduceIte,Nat.reduceEqDiff,Nat.reduceBEq,Nat.reduceSub,Nat.reduceAdd,Nat.reduceMul,Nat.reduceLT,Nat.reduceLeDiff,Int.reduceLE,Int.reduceLT,Int.reduceEq,Int.reduceNeg,Int.reduceToNat,Int.reduceMul,Int.reduceAdd,Int.reduceSub,Int.reduceBEq,Int.reduceBNe,reduceCtorEq,RD]) ?_;(try simp only [RN,reduceIte]);try refine ah rfl ?_
   refine au fun Kr hKr=>?_;simp (disch:=omega) only [RA,↓reduceIte,Nat.reduceEqDiff,Nat.reduceBEq,Nat.reduceSub,Nat.reduceAdd,Nat.reduceMul,Nat.reduceLT,Nat.reduceLeDiff,Int.reduceLE,Int.reduceLT,Int.reduceEq,Int.reduceNeg,Int.reduceToNat,Int.reduceMul,Int.reduceAdd,Int.reduceSub,Int.reduceBEq,Int.reduceBNe,reduceCtorEq,RD];refine hKr _ _ ?_;clear hKr Kr;(try simp only [RN,reduceIte]);try refine ah rfl ?_
   refine bH (fun d f H'=> ∃i R,i≤min n m∧d=min n m-i∧R=L++(eG k n i).map (start++ ·)∧f 0=I n∧f 1=I m∧f 2=FN start∧f 9=I ((i+1:Nat):Int)∧((i=0∧f 3=S 0 0 R.length 1∧H'=[some (R.map FN)])∨(0<i∧f 3=S 1 0 R.length 1∧H'=[none,some (R.map FN)]))) (min n m) ?_ ?_
   ·refine ⟨_,_,Gh.refl,0,L,by omega,by omega,by simp [eG],aj,aj,aj,aj, .inl ⟨rfl,?_,rfl⟩⟩
    all_goals (simp (disch:=omega) only [RA,↓reduceIte,Nat.reduceEqDiff,Nat.reduceBEq,Nat.reduceSub,Nat.reduceAdd,Nat.reduceMul,Nat.reduceLT,Nat.reduceLeDiff,Int.reduceLE,Int.reduceLT,Int.reduceEq,Int.reduceNeg,Int.reduceToNat,Int.reduceMul,Int.reduceAdd,Int.reduceSub,Int.reduceBEq,Int.reduceBNe,reduceCtorEq,RD,RE, *]<;>rfl)
   ·rintro d f H' R0 ⟨i,R,hi,rfl,hR0,g0,g1,g2,g9,hH⟩ hN hX hR hE
    simp only [dR.l0,aB]
    have hpl:=lG (k:=k) (n:=n) hi
    have hRl:R.length≤1000:=by
     rw [hR0,List.length_append,List.length_map]
     omega
    by_cases him:i<min n m
    ·have e1:(n:Int)-((i+1:Nat):Int)=((n-(i+1):Nat):Int):=by omega
     have hpl2:=lG (k:=k) (n:=n) (show i+1≤min n m by omega)
     have hps:=qA (k:=k) (n:=n) (i:=i)
     rw [hps,List.length_append,List.length_map] at hpl2
     have hst:(start++[i+1]).length=start.length+1:=by simp
     have ni:R++(aH k (n-(i+1)) (i+1)).map ((start++[i+1])++ ·)=L++(eG k n (i+1)).map (start++ ·):=by
      rw [hR0,hps,List.map_append,List.append_assoc,List.map_map]
      congr 3
      funext r
      simp
     have hih:=ih (n-(i+1)) (i+1) (start++[i+1]) R (by omega) (by omega) (by omega) (.inr (by omega)) (by omega) (by rw [hR0,List.length_append,List.length_map];omega)
     rw [ni] at hih
     rcases hH with ⟨hi0,g3,rfl⟩|⟨hi0,g3,rfl⟩
     ·refine au fun Kr hKr=>?_;simp (disch:=omega) only [RA,↓reduceIte,Nat.reduceEqDiff,Nat.reduceBEq,Nat.reduceSub,Nat.reduceAdd,Nat.reduceMul,Nat.reduceLT,Nat.reduceLeDiff,Int.reduceLE,Int.reduceLT,Int.reduceEq,Int.reduceNeg,Int.reduceToNat,Int.reduceMul,Int.reduceAdd,Int.reduceSub,Int.reduceBEq,Int.reduceBNe,reduceCtorEq,RD,g0,g1,g9];refine hKr _ _ ?_;clear hKr Kr;(try simp only [RN,reduceIte]);try refine ah rfl ?_
      refine aP (t:=true) (by simp (disch:=omega) only [RA,↓reduceIte,Nat.reduceEqDiff,Nat.reduceBEq,Nat.reduceSub,Nat.reduceAdd,Nat.reduceMul,Nat.reduceLT,Nat.reduceLeDiff,Int.reduceLE,Int.reduceLT,Int.reduceEq,Int.reduceNeg,Int.reduceToNat,Int.reduceMul,Int.reduceAdd,Int.reduceSub,Int.reduceBEq,Int.reduceBNe,reduceCtorEq,RD]) ?_;(try simp only [RN,reduceIte]);try refine ah rfl ?_
      (first|refine bY rfl ?_|refine bZ rfl ?_);(try simp only [RN,reduceIte]);try refine ah rfl ?_
      refine au fun Kr hKr=>?_;simp (disch:=omega) only [RA,↓reduceIte,Nat.reduceEqDiff,Nat.reduceBEq,Nat.reduceSub,Nat.reduceAdd,Nat.reduceMul,Nat.reduceLT,Nat.reduceLeDiff,Int.reduceLE,Int.reduceLT,Int.reduceEq,Int.reduceNeg,Int.reduceToNat,Int.reduceMul,Int.reduceAdd,Int.reduceSub,Int.reduceBEq,Int.reduceBNe,reduceCtorEq,RD,g0,g2,g3,g9,e1]
      refine vg (by omega) ?_
      simp (disch:=omega) only [RA,↓reduceIte,Nat.reduceEqDiff,Nat.reduceBEq,Nat.reduceSub,Nat.reduceAdd,Nat.reduceMul,Nat.reduceLT,Nat.reduceLeDiff,Int.reduceLE,Int.reduceLT,Int.reduceEq,Int.reduceNeg,Int.reduceToNat,Int.reduceMul,Int.reduceAdd,Int.reduceSub,Int.reduceBEq,Int.reduceBNe,reduceCtorEq,RD,g3,g9,vk]
      have hz:(start.length+1)*1=((start++[i+1]).map dU).length:=by simp
      refine ny 3 (cs:=(start++[i+1]).map dU) rfl kN ?_
      have ea:([I ((n-(i+1):Nat):Int),I ((i+1:Nat):Int),S 3 0 (start.length+1) 1,S 0 0 R.length 1]:List Value).map (frz 3 ((start++[i+1]).map dU))=[I ((n-(i+1):Nat):Int),I ((i+1:Nat):Int),FN (start++[i+1]),S 0 0 R.length 1]:=by
       simp only [List.map_cons,List.map_nil,nC,ji hz,vw (show 0≠3 by omega)]
       rw [FN,hst]
      rw [ea]
      refine yG (i:=0) (cs0:=R.map FN) rfl iQ ?_
      have eb:([I ((n-(i+1):Nat):Int),I ((i+1:Nat):Int),FN (start++[i+1]),S 0 0 R.length 1]:List Value).map (ren [0])=[I ((n-(i+1):Nat):Int),I ((i+1:Nat):Int),FN (start++[i+1]),S 0 0 R.length 1]:=by simp [ren,jR,nm,Fz]
      rw [eb]
      refine hih.mono fun v H1 ⟨j,h1,h2,h3⟩=>⟨j,_,_,_,h2,h1,h3,iQ,?_⟩
      obtain ⟨R2,hR2⟩: ∃R2,L++(eG k n (i+1)).map (start++ ·)=R2:=⟨_,rfl⟩
      rw [hR2]
      simp (disch:=omega) only [RA,↓reduceIte,Nat.reduceEqDiff,Nat.reduceBEq,Nat.reduceSub,Nat.reduceAdd,Nat.reduceMul,Nat.reduceLT,Nat.reduceLeDiff,Int.reduceLE,Int.reduceLT,Int.reduceEq,Int.reduceNeg,Int.reduceToNat,Int.reduceMul,Int.reduceAdd,Int.reduceSub,Int.reduceBEq,Int.reduceBNe,reduceCtorEq,RD]
      refine hKr _ _ ?_;clear hKr Kr;(try simp only [aK,aO,aN]);(try simp only [RN,reduceIte]);try refine ah rfl ?_
      refine bI fun Kr hKr=>?_;simp (disch:=omega) only [RA,↓reduceIte,Nat.reduceEqDiff,Nat.reduceBEq,Nat.reduceSub,Nat.reduceAdd,Nat.reduceMul,Nat.reduceLT,Nat.reduceLeDiff,Int.reduceLE,Int.reduceLT,Int.reduceEq,Int.reduceNeg,Int.reduceToNat,Int.reduceMul,Int.reduceAdd,Int.reduceSub,Int.reduceBEq,Int.reduceBNe,reduceCtorEq,RD,g9];refine hKr _ _ ?_;clear hKr Kr
      exact hN (min n m-(i+1)) _ _ _ _ (by omega) (Gh.nrm [0,4] rfl rfl (by simp only [RH,RV])) ⟨i+1,R2,by omega,rfl,hR2.symm,aj,aj,aj,aj, .inr ⟨by omega,aj,rfl⟩⟩
     ·refine au fun Kr hKr=>?_;simp (disch:=omega) only [RA,↓reduceIte,Nat.reduceEqDiff,Nat.reduceBEq,Nat.reduceSub,Nat.reduceAdd,Nat.reduceMul,Nat.reduceLT,Nat.reduceLeDiff,Int.reduceLE,Int.reduceLT,Int.reduceEq,Int.reduceNeg,Int.reduceToNat,Int.reduceMul,Int.reduceAdd,Int.reduceSub,Int.reduceBEq,Int.reduceBNe,reduceCtorEq,RD,g0,g1,g9];refine hKr _ _ ?_;clear hKr Kr;(try simp only [RN,reduceIte]);try refine ah rfl ?_
      refine aP (t:=true) (by simp (disch:=omega) only [RA,↓reduceIte,Nat.reduceEqDiff,Nat.reduceBEq,Nat.reduceSub,Nat.reduceAdd,Nat.reduceMul,Nat.reduceLT,Nat.reduceLeDiff,Int.reduceLE,Int.reduceLT,Int.reduceEq,Int.reduceNeg,Int.reduceToNat,Int.reduceMul,Int.reduceAdd,Int.reduceSub,Int.reduceBEq,Int.reduceBNe,reduceCtorEq,RD]) ?_;(try simp only [RN,reduceIte]);try refine ah rfl ?_
      (first|refine bY rfl ?_|refine bZ rfl ?_);(try simp only [RN,reduceIte]);try refine ah rfl ?_
      refine au fun Kr hKr=>?_;simp (disch:=omega) only [RA,↓reduceIte,Nat.reduceEqDiff,Nat.reduceBEq,Nat.reduceSub,Nat.reduceAdd,Nat.reduceMul,Nat.reduceLT,Nat.reduceLeDiff,Int.reduceLE,Int.reduceLT,Int.reduceEq,Int.reduceNeg,Int.reduceToNat,Int.reduceMul,Int.reduceAdd,Int.reduceSub,Int.reduceBEq,Int.reduceBNe,reduceCtorEq,RD,g0,g2,g3,g9,e1]
      refine vg (by omega) ?_
      simp (disch:=omega) only [RA,↓reduceIte,Nat.reduceEqDiff,Nat.reduceBEq,Nat.reduceSub,Nat.reduceAdd,Nat.reduceMul,Nat.reduceLT,Nat.reduceLeDiff,Int.reduceLE,Int.reduceLT,Int.reduceEq,Int.reduceNeg,Int.reduceToNat,Int.reduceMul,Int.reduceAdd,Int.reduceSub,Int.reduceBEq,Int.reduceBNe,reduceCtorEq,RD,g3,g9,vk]
      have hz:(start.length+1)*1=((start++[i+1]).map dU).length:=by simp
      refine ny 4 (cs:=(start++[i+1]).map dU) rfl kN ?_
      have ea:([I ((n-(i+1):Nat):Int),I ((i+1:Nat):Int),S 4 0 (start.length+1) 1,S 1 0 R.length 1]:List Value).map (frz 4 ((start++[i+1]).map dU))=[I ((n-(i+1):Nat):Int),I ((i+1:Nat):Int),FN (start++[i+1]),S 1 0 R.length 1]:=by
       simp only [List.map_cons,List.map_nil,nC,ji hz,vw (show 1≠4 by omega)]
       rw [FN,hst]
      rw [ea]
      refine yG (i:=1) (cs0:=R.map FN) rfl iQ ?_
      have eb:([I ((n-(i+1):Nat):Int),I ((i+1:Nat):Int),FN (start++[i+1]),S 1 0 R.length 1]:List Value).map (ren [1])=[I ((n-(i+1):Nat):Int),I ((i+1:Nat):Int),FN (start++[i+1]),S 0 0 R.length 1]:=by simp [ren,jR,nm,Fz]
      rw [eb]
      refine hih.mono fun v H1 ⟨j,h1,h2,h3⟩=>⟨j,_,_,_,h2,h1,h3,iQ,?_⟩
      obtain ⟨R2,hR2⟩: ∃R2,L++(eG k n (i+1)).map (start++ ·)=R2:=⟨_,rfl⟩
      rw [hR2]
      simp (disch:=omega) only [RA,↓reduceIte,Nat.reduceEqDiff,Nat.reduceBEq,Nat.reduceSub,Nat.reduceAdd,Nat.reduceMul,Nat.reduceLT,Nat.reduceLeDiff,Int.reduceLE,Int.reduceLT,Int.reduceEq,Int.reduceNeg,Int.reduceToNat,Int.reduceMul,Int.reduceAdd,Int.reduceSub,Int.reduceBEq,Int.reduceBNe,reduceCtorEq,RD]
      refine hKr _ _ ?_;clear hKr Kr;(try simp only [aK,aO,aN]);(try simp only [RN,reduceIte]);try refine ah rfl ?_
      refine bI fun Kr hKr=>?_;simp (disch:=omega) only [RA,↓reduceIte,Nat.reduceEqDiff,Nat.reduceBEq,Nat.reduceSub,Nat.reduceAdd,Nat.reduceMul,Nat.reduceLT,Nat.reduceLeDiff,Int.reduceLE,Int.reduceLT,Int.reduceEq,Int.reduceNeg,Int.reduceToNat,Int.reduceMul,Int.reduceAdd,Int.reduceSub,Int.reduceBEq,Int.reduceBNe,reduceCtorEq,RD,g9];refine hKr _ _ ?_;clear hKr Kr
      exact hN (min n m-(i+1)) _ _ _ _ (by omega) (Gh.nrm [0,5] rfl rfl (by simp only [RH,RV])) ⟨i+1,R2,by omega,rfl,hR2.symm,aj,aj,aj,aj, .inr ⟨by omega,aj,rfl⟩⟩
    ·obtain rfl:i=min n m:=by omega
     have hi0:0<min n m:=by omega
     rcases hH with ⟨h1,_⟩|⟨_,g3,rfl⟩
     ·omega
     ·by_cases hmm:min n m+1≤m
      ·refine au fun Kr hKr=>?_;simp (disch:=omega) only [RA,↓reduceIte,Nat.reduceEqDiff,Nat.reduceBEq,Nat.reduceSub,Nat.reduceAdd,Nat.reduceMul,Nat.reduceLT,Nat.reduceLeDiff,Int.reduceLE,Int.reduceLT,Int.reduceEq,Int.reduceNeg,Int.reduceToNat,Int.reduceMul,Int.reduceAdd,Int.reduceSub,Int.reduceBEq,Int.reduceBNe,reduceCtorEq,RD,g0,g1,g9];refine hKr _ _ ?_;clear hKr Kr;(try simp only [RN,reduceIte]);try refine ah rfl ?_
       refine aP (t:=false) (by simp (disch:=omega) only [RA,↓reduceIte,Nat.reduceEqDiff,Nat.reduceBEq,Nat.reduceSub,Nat.reduceAdd,Nat.reduceMul,Nat.reduceLT,Nat.reduceLeDiff,Int.reduceLE,Int.reduceLT,Int.reduceEq,Int.reduceNeg,Int.reduceToNat,Int.reduceMul,Int.reduceAdd,Int.reduceSub,Int.reduceBEq,Int.reduceBNe,reduceCtorEq,RD]) ?_;(try simp only [RN,reduceIte]);try refine ah rfl ?_
       refine hX _ _ ?_
       refine au fun Kr hKr=>?_;simp (disch:=omega) only [RA,↓reduceIte,Nat.reduceEqDiff,Nat.reduceBEq,Nat.reduceSub,Nat.reduceAdd,Nat.reduceMul,Nat.reduceLT,Nat.reduceLeDiff,Int.reduceLE,Int.reduceLT,Int.reduceEq,Int.reduceNeg,Int.reduceToNat,Int.reduceMul,Int.reduceAdd,Int.reduceSub,Int.reduceBEq,Int.reduceBNe,reduceCtorEq,RD,g3];refine hKr _ _ ?_;clear hKr Kr;(try simp only [RN,reduceIte]);try refine ah rfl ?_
       refine aS (by simp (disch:=omega) only [RA,↓reduceIte,Nat.reduceEqDiff,Nat.reduceBEq,Nat.reduceSub,Nat.reduceAdd,Nat.reduceMul,Nat.reduceLT,Nat.reduceLeDiff,Int.reduceLE,Int.reduceLT,Int.reduceEq,Int.reduceNeg,Int.reduceToNat,Int.reduceMul,Int.reduceAdd,Int.reduceSub,Int.reduceBEq,Int.reduceBNe,reduceCtorEq,RD,resAll,resOf];rfl) aG.refl ?_;simp only [tup]
       rw [hR0]
       exact ⟨1,by omega,rfl,rfl⟩
      ·refine au fun Kr hKr=>?_;simp (disch:=omega) only [RA,↓reduceIte,Nat.reduceEqDiff,Nat.reduceBEq,Nat.reduceSub,Nat.reduceAdd,Nat.reduceMul,Nat.reduceLT,Nat.reduceLeDiff,Int.reduceLE,Int.reduceLT,Int.reduceEq,Int.reduceNeg,Int.reduceToNat,Int.reduceMul,Int.reduceAdd,Int.reduceSub,Int.reduceBEq,Int.reduceBNe,reduceCtorEq,RD,g0,g1,g9];refine hKr _ _ ?_;clear hKr Kr;(try simp only [RN,reduceIte]);try refine ah rfl ?_
       refine aP (t:=false) (by simp (disch:=omega) only [RA,↓reduceIte,Nat.reduceEqDiff,Nat.reduceBEq,Nat.reduceSub,Nat.reduceAdd,Nat.reduceMul,Nat.reduceLT,Nat.reduceLeDiff,Int.reduceLE,Int.reduceLT,Int.reduceEq,Int.reduceNeg,Int.reduceToNat,Int.reduceMul,Int.reduceAdd,Int.reduceSub,Int.reduceBEq,Int.reduceBNe,reduceCtorEq,RD]) ?_;(try simp only [RN,reduceIte]);try refine ah rfl ?_
       refine hX _ _ ?_
       refine au fun Kr hKr=>?_;simp (disch:=omega) only [RA,↓reduceIte,Nat.reduceEqDiff,Nat.reduceBEq,Nat.reduceSub,Nat.reduceAdd,Nat.reduceMul,Nat.reduceLT,Nat.reduceLeDiff,Int.reduceLE,Int.reduceLT,Int.reduceEq,Int.reduceNeg,Int.reduceToNat,Int.reduceMul,Int.reduceAdd,Int.reduceSub,Int.reduceBEq,Int.reduceBNe,reduceCtorEq,RD,g3];refine hKr _ _ ?_;clear hKr Kr;(try simp only [RN,reduceIte]);try refine ah rfl ?_
       refine aS (by simp (disch:=omega) only [RA,↓reduceIte,Nat.reduceEqDiff,Nat.reduceBEq,Nat.reduceSub,Nat.reduceAdd,Nat.reduceMul,Nat.reduceLT,Nat.reduceLeDiff,Int.reduceLE,Int.reduceLT,Int.reduceEq,Int.reduceNeg,Int.reduceToNat,Int.reduceMul,Int.reduceAdd,Int.reduceSub,Int.reduceBEq,Int.reduceBNe,reduceCtorEq,RD,resAll,resOf];rfl) aG.refl ?_;simp only [tup]
       rw [hR0]
       exact ⟨1,by omega,rfl,rfl⟩
theorem Sr: ∀(k n m:Nat) (start:List Nat),n≤k→k≤16→m≤16→(n=0∨1≤m)→start.length+n≤16→
  aA false uF [I n,I m,FN start, .slice none 0 0] [] fun v H1=> ∃j,v=S j 0 ((aH k n m).map (start++ ·)).length 1∧blk H1 j=some (((aH k n m).map (start++ ·)).map FN):=by
 intro k
 induction k with
 |zero=>
  intro n m start hn hk hm hnm hs
  obtain rfl:n=0:=by omega
  have e:(aH 0 0 m).map (start++ ·)=[start]:=by simp [aH]
  rw [e]
  exact (uZ (L:=[]) (.inl ⟨rfl,rfl,rfl⟩) (by simp)).mono fun v H1 ⟨j,_,h2,h3⟩=>⟨j,h2,h3⟩
 |succ k ih=>
  intro n m start hn hk hm hnm hs
  by_cases h0:n=0
  ·subst h0
   have e:(aH (k+1) 0 m).map (start++ ·)=[start]:=by simp [aH]
   rw [e]
   exact (uZ (L:=[]) (.inl ⟨rfl,rfl,rfl⟩) (by simp)).mono fun v H1 ⟨j,_,h2,h3⟩=>⟨j,h2,h3⟩
  ·have hl:=Em (k:=k+1) (n:=n) (m:=m) hn hk
   rw [qy h0] at hl⊢
   refine aZ uH ?_;simp only [dR,aB]
   refine au fun Kr hKr=>?_;simp (disch:=omega) only [RA,↓reduceIte,Nat.reduceEqDiff,Nat.reduceBEq,Nat.reduceSub,Nat.reduceAdd,Nat.reduceMul,Nat.reduceLT,Nat.reduceLeDiff,Int.reduceLE,Int.reduceLT,Int.reduceEq,Int.reduceNeg,Int.reduceToNat,Int.reduceMul,Int.reduceAdd,Int.reduceSub,Int.reduceBEq,Int.reduceBNe,reduceCtorEq,RD];refine hKr _ _ ?_;clear hKr Kr;(try simp only [RN,reduceIte]);try refine ah rfl ?_
   refine au fun Kr hKr=>?_;simp (disch:=omega) only [RA,↓reduceIte,Nat.reduceEqDiff,Nat.reduceBEq,Nat.reduceSub,Nat.reduceAdd,Nat.reduceMul,Nat.reduceLT,Nat.reduceLeDiff,Int.reduceLE,Int.reduceLT,Int.reduceEq,Int.reduceNeg,Int.reduceToNat,Int.reduceMul,Int.reduceAdd,Int.reduceSub,Int.reduceBEq,Int.reduceBNe,reduceCtorEq,RD];refine hKr _ _ ?_;clear hKr Kr;(try simp only [RN,reduceIte]);try refine ah rfl ?_
   refine aP (t:=false) (by simp (disch:=omega) only [RA,↓reduceIte,Nat.reduceEqDiff,Nat.reduceBEq,Nat.reduceSub,Nat.reduceAdd,Nat.reduceMul,Nat.reduceLT,Nat.reduceLeDiff,Int.reduceLE,Int.reduceLT,Int.reduceEq,Int.reduceNeg,Int.reduceToNat,Int.reduceMul,Int.reduceAdd,Int.reduceSub,Int.reduceBEq,Int.reduceBNe,reduceCtorEq,RD]) ?_;(try simp only [RN,reduceIte]);try refine ah rfl ?_
   refine au fun Kr hKr=>?_;simp (disch:=omega) only [RA,↓reduceIte,Nat.reduceEqDiff,Nat.reduceBEq,Nat.reduceSub,Nat.reduceAdd,Nat.reduceMul,Nat.reduceLT,Nat.reduceLeDiff,Int.reduceLE,Int.reduceLT,Int.reduceEq,Int.reduceNeg,Int.reduceToNat,Int.reduceMul,Int.reduceAdd,Int.reduceSub,Int.reduceBEq,Int.reduceBNe,reduceCtorEq,RD];refine hKr _ _ ?_;clear hKr Kr;(try simp only [RN,reduceIte]);try refine ah rfl ?_
   refine bH (fun d f H'=> ∃i R,i≤min n m∧d=min n m-i∧R=(eG k n i).map (start++ ·)∧f 0=I n∧f 1=I m∧f 2=FN start∧f 9=I ((i+1:Nat):Int)∧((i=0∧f 3= .slice none 0 0∧H'=[])∨(0<i∧f 3=S 0 0 R.length 1∧H'=[some (R.map FN)]))) (min n m) ?_ ?_
   ·refine ⟨_,_,Gh.refl,0,[],by omega,by omega,by simp [eG],aj,aj,aj,aj, .inl ⟨rfl,?_,rfl⟩⟩
    all_goals (simp (disch:=omega) only [RA,↓reduceIte,Nat.reduceEqDiff,Nat.reduceBEq,Nat.reduceSub,Nat.reduceAdd,Nat.reduceMul,Nat.reduceLT,Nat.reduceLeDiff,Int.reduceLE,Int.reduceLT,Int.reduceEq,Int.reduceNeg,Int.reduceToNat,Int.reduceMul,Int.reduceAdd,Int.reduceSub,Int.reduceBEq,Int.reduceBNe,reduceCtorEq,RD,RE, *]<;>rfl)
   ·rintro d f H' R0 ⟨i,R,hi,rfl,hR0,g0,g1,g2,g9,hH⟩ hN hX hR hE
    simp only [dR.l0,aB]
    have hpl:=lG (k:=k) (n:=n) hi
    have hRl:R.length≤1000:=by
     rw [hR0,List.length_map]
     omega
    by_cases him:i<min n m
    ·have e1:(n:Int)-((i+1:Nat):Int)=((n-(i+1):Nat):Int):=by omega
     have hpl2:=lG (k:=k) (n:=n) (show i+1≤min n m by omega)
     have hps:=qA (k:=k) (n:=n) (i:=i)
     rw [hps,List.length_append,List.length_map] at hpl2
     have hst:(start++[i+1]).length=start.length+1:=by simp
     have ni:R++(aH k (n-(i+1)) (i+1)).map ((start++[i+1])++ ·)=(eG k n (i+1)).map (start++ ·):=by
      rw [hR0,hps,List.map_append,List.map_map]
      congr 2
      funext r
      simp
     have hz:(start.length+1)*1=((start++[i+1]).map dU).length:=by simp
     obtain ⟨R2,hR2⟩: ∃R2,(eG k n (i+1)).map (start++ ·)=R2:=⟨_,rfl⟩
     rw [hR2] at ni
     rcases hH with ⟨hi0,g3,rfl⟩|⟨hi0,g3,rfl⟩
     ·have Sv:R=[]:=by rw [hR0,hi0];simp [eG]
      have hih:=ih (n-(i+1)) (i+1) (start++[i+1]) (by omega) (by omega) (by omega) (.inr (by omega)) (by omega)
      rw [Sv,List.nil_append] at ni
      rw [ni] at hih
      refine au fun Kr hKr=>?_;simp (disch:=omega) only [RA,↓reduceIte,Nat.reduceEqDiff,Nat.reduceBEq,Nat.reduceSub,Nat.reduceAdd,Nat.reduceMul,Nat.reduceLT,Nat.reduceLeDiff,Int.reduceLE,Int.reduceLT,Int.reduceEq,Int.reduceNeg,Int.reduceToNat,Int.reduceMul,Int.reduceAdd,Int.reduceSub,Int.reduceBEq,Int.reduceBNe,reduceCtorEq,RD,g0,g1,g9];refine hKr _ _ ?_;clear hKr Kr;(try simp only [RN,reduceIte]);try refine ah rfl ?_
      refine aP (t:=true) (by simp (disch:=omega) only [RA,↓reduceIte,Nat.reduceEqDiff,Nat.reduceBEq,Nat.reduceSub,Nat.reduceAdd,Nat.reduceMul,Nat.reduceLT,Nat.reduceLeDiff,Int.reduceLE,Int.reduceLT,Int.reduceEq,Int.reduceNeg,Int.reduceToNat,Int.reduceMul,Int.reduceAdd,Int.reduceSub,Int.reduceBEq,Int.reduceBNe,reduceCtorEq,RD]) ?_;(try simp only [RN,reduceIte]);try refine ah rfl ?_
      (first|refine bY rfl ?_|refine bZ rfl ?_);(try simp only [RN,reduceIte]);try refine ah rfl ?_
      refine au fun Kr hKr=>?_;simp (disch:=omega) only [RA,↓reduceIte,Nat.reduceEqDiff,Nat.reduceBEq,Nat.reduceSub,Nat.reduceAdd,Nat.reduceMul,Nat.reduceLT,Nat.reduceLeDiff,Int.reduceLE,Int.reduceLT,Int.reduceEq,Int.reduceNeg,Int.reduceToNat,Int.reduceMul,Int.reduceAdd,Int.reduceSub,Int.reduceBEq,Int.reduceBNe,reduceCtorEq,RD,g0,g2,g3,g9,e1]
      refine vg (by omega) ?_
      simp (disch:=omega) only [RA,↓reduceIte,Nat.reduceEqDiff,Nat.reduceBEq,Nat.reduceSub,Nat.reduceAdd,Nat.reduceMul,Nat.reduceLT,Nat.reduceLeDiff,Int.reduceLE,Int.reduceLT,Int.reduceEq,Int.reduceNeg,Int.reduceToNat,Int.reduceMul,Int.reduceAdd,Int.reduceSub,Int.reduceBEq,Int.reduceBNe,reduceCtorEq,RD,g3,g9,vk]
      refine ny 2 (cs:=(start++[i+1]).map dU) rfl kN ?_
      have ea:([I ((n-(i+1):Nat):Int),I ((i+1:Nat):Int),S 2 0 (start.length+1) 1, .slice none 0 0]:List Value).map (frz 2 ((start++[i+1]).map dU))=[I ((n-(i+1):Nat):Int),I ((i+1:Nat):Int),FN (start++[i+1]), .slice none 0 0]:=by
       simp only [List.map_cons,List.map_nil,nC,ji hz,yH]
       rw [FN,hst]
      rw [ea]
      refine En (.cons .int (.cons .int (.cons .fz (.cons .nil .nil)))) (hih.mono fun v H1 ⟨j,h2,h3⟩=>⟨j,_,_,_,h2,h3,iQ,?_⟩)
      simp (disch:=omega) only [RA,↓reduceIte,Nat.reduceEqDiff,Nat.reduceBEq,Nat.reduceSub,Nat.reduceAdd,Nat.reduceMul,Nat.reduceLT,Nat.reduceLeDiff,Int.reduceLE,Int.reduceLT,Int.reduceEq,Int.reduceNeg,Int.reduceToNat,Int.reduceMul,Int.reduceAdd,Int.reduceSub,Int.reduceBEq,Int.reduceBNe,reduceCtorEq,RD]
      refine hKr _ _ ?_;clear hKr Kr;(try simp only [aK,aO,aN]);(try simp only [RN,reduceIte]);try refine ah rfl ?_
      refine bI fun Kr hKr=>?_;simp (disch:=omega) only [RA,↓reduceIte,Nat.reduceEqDiff,Nat.reduceBEq,Nat.reduceSub,Nat.reduceAdd,Nat.reduceMul,Nat.reduceLT,Nat.reduceLeDiff,Int.reduceLE,Int.reduceLT,Int.reduceEq,Int.reduceNeg,Int.reduceToNat,Int.reduceMul,Int.reduceAdd,Int.reduceSub,Int.reduceBEq,Int.reduceBNe,reduceCtorEq,RD,g9];refine hKr _ _ ?_;clear hKr Kr
      exact hN (min n m-(i+1)) _ _ _ _ (by omega) (Gh.nrm [3] rfl rfl (by simp only [RH,RV])) ⟨i+1,R2,by omega,rfl,hR2.symm,aj,aj,aj,aj, .inr ⟨by omega,aj,rfl⟩⟩
     ·have hih:=Sm k (n-(i+1)) (i+1) (start++[i+1]) R (by omega) (by omega) (by omega) (.inr (by omega)) (by omega) (by rw [hR0,List.length_map];omega)
      rw [ni] at hih
      refine au fun Kr hKr=>?_;simp (disch:=omega) only [RA,↓reduceIte,Nat.reduceEqDiff,Nat.reduceBEq,Nat.reduceSub,Nat.reduceAdd,Nat.reduceMul,Nat.reduceLT,Nat.reduceLeDiff,Int.reduceLE,Int.reduceLT,Int.reduceEq,Int.reduceNeg,Int.reduceToNat,Int.reduceMul,Int.reduceAdd,Int.reduceSub,Int.reduceBEq,Int.reduceBNe,reduceCtorEq,RD,g0,g1,g9];refine hKr _ _ ?_;clear hKr Kr;(try simp only [RN,reduceIte]);try refine ah rfl ?_
      refine aP (t:=true) (by simp (disch:=omega) only [RA,↓reduceIte,Nat.reduceEqDiff,Nat.reduceBEq,Nat.reduceSub,Nat.reduceAdd,Nat.reduceMul,Nat.reduceLT,Nat.reduceLeDiff,Int.reduceLE,Int.reduceLT,Int.reduceEq,Int.reduceNeg,Int.reduceToNat,Int.reduceMul,Int.reduceAdd,Int.reduceSub,Int.reduceBEq,Int.reduceBNe,reduceCtorEq,RD]) ?_;(try simp only [RN,reduceIte]);try refine ah rfl ?_
      (first|refine bY rfl ?_|refine bZ rfl ?_);(try simp only [RN,reduceIte]);try refine ah rfl ?_
      refine au fun Kr hKr=>?_;simp (disch:=omega) only [RA,↓reduceIte,Nat.reduceEqDiff,Nat.reduceBEq,Nat.reduceSub,Nat.reduceAdd,Nat.reduceMul,Nat.reduceLT,Nat.reduceLeDiff,Int.reduceLE,Int.reduceLT,Int.reduceEq,Int.reduceNeg,Int.reduceToNat,Int.reduceMul,Int.reduceAdd,Int.reduceSub,Int.reduceBEq,Int.reduceBNe,reduceCtorEq,RD,g0,g2,g3,g9,e1]
      refine vg (by omega) ?_
      simp (disch:=omega) only [RA,↓reduceIte,Nat.reduceEqDiff,Nat.reduceBEq,Nat.reduceSub,Nat.reduceAdd,Nat.reduceMul,Nat.reduceLT,Nat.reduceLeDiff,Int.reduceLE,Int.reduceLT,Int.reduceEq,Int.reduceNeg,Int.reduceToNat,Int.reduceMul,Int.reduceAdd,Int.reduceSub,Int.reduceBEq,Int.reduceBNe,reduceCtorEq,RD,g3,g9,vk]
      refine ny 3 (cs:=(start++[i+1]).map dU) rfl kN ?_
      have ea:([I ((n-(i+1):Nat):Int),I ((i+1:Nat):Int),S 3 0 (start.length+1) 1,S 0 0 R.length 1]:List Value).map (frz 3 ((start++[i+1]).map dU))=[I ((n-(i+1):Nat):Int),I ((i+1:Nat):Int),FN (start++[i+1]),S 0 0 R.length 1]:=by
       simp only [List.map_cons,List.map_nil,nC,ji hz,vw (show 0≠3 by omega)]
       rw [FN,hst]
      rw [ea]
      refine yG (i:=0) (cs0:=R.map FN) rfl iQ ?_
      have eb:([I ((n-(i+1):Nat):Int),I ((i+1:Nat):Int),FN (start++[i+1]),S 0 0 R.length 1]:List Value).map (ren [0])=[I ((n-(i+1):Nat):Int),I ((i+1:Nat):Int),FN (start++[i+1]),S 0 0 R.length 1]:=by simp [ren,jR,nm,Fz]
      rw [eb]
      refine hih.mono fun v H1 ⟨j,h1,h2,h3⟩=>⟨j,_,_,_,h2,h1,h3,iQ,?_⟩
      simp (disch:=omega) only [RA,↓reduceIte,Nat.reduceEqDiff,Nat.reduceBEq,Nat.reduceSub,Nat.reduceAdd,Nat.reduceMul,Nat.reduceLT,Nat.reduceLeDiff,Int.reduceLE,Int.reduceLT,Int.reduceEq,Int.reduceNeg,Int.reduceToNat,Int.reduceMul,Int.reduceAdd,Int.reduceSub,Int.reduceBEq,Int.reduceBNe,reduceCtorEq,RD]
      refine hKr _ _ ?_;clear hKr Kr;(try simp only [aK,aO,aN]);(try simp only [RN,reduceIte]);try refine ah rfl ?_
      refine bI fun Kr hKr=>?_;simp (disch:=omega) only [RA,↓reduceIte,Nat.reduceEqDiff,Nat.reduceBEq,Nat.reduceSub,Nat.reduceAdd,Nat.reduceMul,Nat.reduceLT,Nat.reduceLeDiff,Int.reduceLE,Int.reduceLT,Int.reduceEq,Int.reduceNeg,Int.reduceToNat,Int.reduceMul,Int.reduceAdd,Int.reduceSub,Int.reduceBEq,Int.reduceBNe,reduceCtorEq,RD,g9];refine hKr _ _ ?_;clear hKr Kr
      exact hN (min n m-(i+1)) _ _ _ _ (by omega) (Gh.nrm [4] rfl rfl (by simp only [RH,RV])) ⟨i+1,R2,by omega,rfl,hR2.symm,aj,aj,aj,aj, .inr ⟨by omega,aj,rfl⟩⟩
    ·obtain rfl:i=min n m:=by omega
     have hi0:0<min n m:=by omega
     rcases hH with ⟨h1,_⟩|⟨_,g3,rfl⟩
     ·omega
     ·by_cases hmm:min n m+1≤m
      ·refine au fun Kr hKr=>?_;simp (disch:=omega) only [RA,↓reduceIte,Nat.reduceEqDiff,Nat.reduceBEq,Nat.reduceSub,Nat.reduceAdd,Nat.reduceMul,Nat.reduceLT,Nat.reduceLeDiff,Int.reduceLE,Int.reduceLT,Int.reduceEq,Int.reduceNeg,Int.reduceToNat,Int.reduceMul,Int.reduceAdd,Int.reduceSub,Int.reduceBEq,Int.reduceBNe,reduceCtorEq,RD,g0,g1,g9];refine hKr _ _ ?_;clear hKr Kr;(try simp only [RN,reduceIte]);try refine ah rfl ?_
       refine aP (t:=false) (by simp (disch:=omega) only [RA,↓reduceIte,Nat.reduceEqDiff,Nat.reduceBEq,Nat.reduceSub,Nat.reduceAdd,Nat.reduceMul,Nat.reduceLT,Nat.reduceLeDiff,Int.reduceLE,Int.reduceLT,Int.reduceEq,Int.reduceNeg,Int.reduceToNat,Int.reduceMul,Int.reduceAdd,Int.reduceSub,Int.reduceBEq,Int.reduceBNe,reduceCtorEq,RD]) ?_;(try simp only [RN,reduceIte]);try refine ah rfl ?_
       refine hX _ _ ?_
       refine au fun Kr hKr=>?_;simp (disch:=omega) only [RA,↓reduceIte,Nat.reduceEqDiff,Nat.reduceBEq,Nat.reduceSub,Nat.reduceAdd,Nat.reduceMul,Nat.reduceLT,Nat.reduceLeDiff,Int.reduceLE,Int.reduceLT,Int.reduceEq,Int.reduceNeg,Int.reduceToNat,Int.reduceMul,Int.reduceAdd,Int.reduceSub,Int.reduceBEq,Int.reduceBNe,reduceCtorEq,RD,g3];refine hKr _ _ ?_;clear hKr Kr;(try simp only [RN,reduceIte]);try refine ah rfl ?_
       refine aS (by simp (disch:=omega) only [RA,↓reduceIte,Nat.reduceEqDiff,Nat.reduceBEq,Nat.reduceSub,Nat.reduceAdd,Nat.reduceMul,Nat.reduceLT,Nat.reduceLeDiff,Int.reduceLE,Int.reduceLT,Int.reduceEq,Int.reduceNeg,Int.reduceToNat,Int.reduceMul,Int.reduceAdd,Int.reduceSub,Int.reduceBEq,Int.reduceBNe,reduceCtorEq,RD,resAll,resOf];rfl) aG.refl ?_;simp only [tup]
       rw [hR0]
       exact ⟨0,rfl,rfl⟩
      ·refine au fun Kr hKr=>?_;simp (disch:=omega) only [RA,↓reduceIte,Nat.reduceEqDiff,Nat.reduceBEq,Nat.reduceSub,Nat.reduceAdd,Nat.reduceMul,Nat.reduceLT,Nat.reduceLeDiff,Int.reduceLE,Int.reduceLT,Int.reduceEq,Int.reduceNeg,Int.reduceToNat,Int.reduceMul,Int.reduceAdd,Int.reduceSub,Int.reduceBEq,Int.reduceBNe,reduceCtorEq,RD,g0,g1,g9];refine hKr _ _ ?_;clear hKr Kr;(try simp only [RN,reduceIte]);try refine ah rfl ?_
       refine aP (t:=false) (by simp (disch:=omega) only [RA,↓reduceIte,Nat.reduceEqDiff,Nat.reduceBEq,Nat.reduceSub,Nat.reduceAdd,Nat.reduceMul,Nat.reduceLT,Nat.reduceLeDiff,Int.reduceLE,Int.reduceLT,Int.reduceEq,Int.reduceNeg,Int.reduceToNat,Int.reduceMul,Int.reduceAdd,Int.reduceSub,Int.reduceBEq,Int.reduceBNe,reduceCtorEq,RD]) ?_;(try simp only [RN,reduceIte]);try refine ah rfl ?_
       refine hX _ _ ?_
       refine au fun Kr hKr=>?_;simp (disch:=omega) only [RA,↓reduceIte,Nat.reduceEqDiff,Nat.reduceBEq,Nat.reduceSub,Nat.reduceAdd,Nat.reduceMul,Nat.reduceLT,Nat.reduceLeDiff,Int.reduceLE,Int.reduceLT,Int.reduceEq,Int.reduceNeg,Int.reduceToNat,Int.reduceMul,Int.reduceAdd,Int.reduceSub,Int.reduceBEq,Int.reduceBNe,reduceCtorEq,RD,g3];refine hKr _ _ ?_;clear hKr Kr;(try simp only [RN,reduceIte]);try refine ah rfl ?_
       refine aS (by simp (disch:=omega) only [RA,↓reduceIte,Nat.reduceEqDiff,Nat.reduceBEq,Nat.reduceSub,Nat.reduceAdd,Nat.reduceMul,Nat.reduceLT,Nat.reduceLeDiff,Int.reduceLE,Int.reduceLT,Int.reduceEq,Int.reduceNeg,Int.reduceToNat,Int.reduceMul,Int.reduceAdd,Int.reduceSub,Int.reduceBEq,Int.reduceBNe,reduceCtorEq,RD,resAll,resOf];rfl) aG.refl ?_;simp only [tup]
       rw [hR0]
       exact ⟨0,rfl,rfl⟩
theorem Sz {x:Bool} {n:Nat} {H:BH} {K:Value→BH→Prop} (h1:1≤n) (hn:n≤16) (hK:K (LN (aH n n n)) H):aA x uF [I n,I n,FN [], .slice none 0 0] H K:=
 uT (.cons .int (.cons .int (.cons .fz (.cons .nil .nil)))) iQ (by simp) ((Sr n n n [] (Nat.le_refl _) hn hn (.inr h1) (by simpa using hn)).mono fun v H1 ⟨j,h2,h3⟩=>by
  have e:(aH n n n).map (([]:List Nat)++ ·)=aH n n n:=by simp
  rw [e] at h2 h3
  exact ⟨j,h2,h3⟩) hK
end Go.Bm
namespace Go.Bm
open Go Go.Am
def Sl (H:BH) (v:Value) (xs:List Int):Prop:=(v= .slice none 0 0∧xs=[])∨(∃i,v=S i 0 xs.length 1∧blk H i=some (xs.map I))∨v=FI xs
theorem Sl.own {H:BH} {i:Nat} {xs:List Int} (h:blk H i=some (xs.map I)):Sl H (S i 0 xs.length 1) xs:= .inr (.inl ⟨i,rfl,h⟩)
theorem Sl.fz {H:BH} {xs:List Int}:Sl H (FI xs) xs:= .inr (.inr rfl)
theorem Sl.nil {H:BH}:Sl H (.slice none 0 0) []:= .inl ⟨rfl,rfl⟩
theorem Sl.len {H:BH} {v:Value} {xs:List Int} (h:Sl H v xs):qB v=some (I xs.length):=by
 rcases h with ⟨rfl,rfl⟩|⟨i,rfl,_⟩|rfl<;>rfl
theorem Sl.get {H:BH} {v:Value} {xs:List Int} (h:Sl H v xs) {j:Nat} (hj:j<xs.length): ∃p,lH 1 v (I j)=some p∧nG none H p=some (I (el xs j)):=by
 rcases h with ⟨rfl,rfl⟩|⟨i,rfl,hb⟩|rfl
 ·simp at hj
 ·refine ⟨_,yI (by omega),?_⟩
  rw [yJ,hb,yK,vC (by omega)]
  simp
 ·refine ⟨_,yL (by omega),?_⟩
  rw [yM,vC (by omega)]
  simp
end Go.Bm
namespace Go.Bm
open Go Go.Am
theorem Eo {α:Type} {ls:List α} {d:α} {j:Nat} (h:j<ls.length):ls.getD j d∈ls:=by simp [List.getD,h]
end Go.Bm
namespace Go.Bm
open Go Go.Am
def jk (xs:List Int):Nat→Int
 |0=>0
 |i+1=>jk xs i+el xs i
def jS (xs:List Int):Int:=jk xs xs.length
def qE (xs:List Int) (i:Nat):Prop:=(1≤el xs i∧el xs i≤16)∧(0<i→el xs i≤el xs (i-1))
instance (xs:List Int) (i:Nat):Decidable (qE xs i):=by unfold qE;infer_instance
def kP (xs:List Int):Prop:=(1≤xs.length∧xs.length≤16)∧(∀i,i<xs.length→qE xs i)∧jS xs≤16
instance (xs:List Int):Decidable (kP xs):=by unfold kP;infer_instance
theorem Ep {xs:List Int}: ∀{i:Nat},(∀j,j<i→qE xs j)→(i:Int)≤jk xs i∧jk xs i≤16*i
 |0,_=>by simp [jk]
 |i+1,h=>by
  have ih:=Ep (i:=i) fun j hj=>h j (by omega)
  have:=(h i (by omega)).1
  simp only [jk]
  omega
theorem Es {xs:List Int} {i:Nat}: ∀{k:Nat},(∀j,j<k→qE xs j)→i≤k→jk xs i≤jk xs k
 |0,_,h=>by
  obtain rfl:i=0:=by omega
  exact Int.le_refl _
 |k+1,hk,h=>by
  by_cases e:i=k+1
  ·rw [e];exact Int.le_refl _
  ·have ih:=Es (i:=i) (k:=k) (fun j hj=>hk j (by omega)) (by omega)
   have:=(hk k (by omega)).1
   simp only [jk]
   omega
theorem kP.pos {xs:List Int} (h:kP xs):1≤jS xs:=by
 have:=(Ep h.2.1).1
 have:=h.1
 rw [jS]
 omega
def at3 (xss:List (List Int)) (i:Nat):List Int:=xss.getD i []
def yN (xss:List (List Int)):Prop:=xss.length=3∧ ∀i,i<3→kP (at3 xss i)∧jS (at3 xss i)=jS (at3 xss 0)
instance (xss:List (List Int)):Decidable (yN xss):=by unfold yN;infer_instance
end Go.Bm
namespace Go.Bm
open Go Go.Am
def Clean (w:List Nat) (n:Nat):Prop:= ∀x,x<n→nl w x≠x∧nl w (nl w x)=x
instance (w:List Nat) (n:Nat):Decidable (Clean w n):=by unfold Clean;infer_instance
end Go.Bm
namespace Go.Bm
open Go Go.Am
theorem V9 {g:Nat} {args:List Value} {H:BH} {K:Value→BH→Prop} {i:Nat} {cs0:List Value} (hc0:blk H i=some cs0) (hn0:aF cs0)
  (h:aA false g (args.map (ren [i])) [some cs0] fun v H1=> ∃j l e cs,v= .slice (some ⟨j,0,none⟩) l e∧j≠0∧blk H1 j=some cs∧aF cs∧ ∃cu,blk H1 0=some cu∧aF cu∧K (.slice (some ⟨H.length,0,none⟩) l e) ((H.set i (some cu))++[some cs])):aA false g args H K:=by
 intro ρ Z as HA h1 h2
 have hi:=qF hc0
 obtain ⟨b0,yO,r1,r2,r3,r4,r5⟩:=h2.bF i cs0 hc0
 obtain ⟨gX,qG⟩: ∃gX:Nat→Option Nat,gX=fun j=>if j=0 then some b0 else none:=⟨_,rfl⟩
 have jC:gX 0=some b0:=by rw [qG];rfl
 have hR0:Rel gX Z [some cs0] HA:=by
  refine ⟨fun j cs hj=>?_,fun j j' c1 c2 b e1 e2 _ _=>?_,fun j cs b e1 e2=>?_,h2.dI,fun j hj=>?_⟩
  ·cases j with
   |zero=>
    simp [blk] at hj;subst hj
    exact ⟨b0,yO,jC,r2,r3,r4,(hn0.vz r5).vl⟩
   |succ j=>simp [blk] at hj
  ·cases j with
   |zero=>cases j' with
    |zero=>rfl
    |succ j'=>simp [blk] at e2
   |succ j=>simp [blk] at e1
  ·cases j with
   |zero=>
    rw [jC] at e2;cases e2
    exact h2.cZ i cs0 b0 hc0 r1
   |succ j=>simp [blk] at e1
  ·rw [qG]
   simp only [List.length_singleton] at hj
   simp only
   rw [if_neg (by omega)]
 have hargs:VL gX Z (args.map (ren [i])) as:=by
  refine ⟨by simpa using h1.1,fun q c d q1 q2=>?_⟩
  rw [List.getElem?_map] at q1
  obtain ⟨p,hp,rfl⟩:=map_inj q1
  refine nH (fun x y hxy=>?_) (h1.2 q p d hp q2)
  cases y with
  |zero=>
   simp at hxy
   subst hxy
   rw [jC,r1]
  |succ y=>simp at hxy
 obtain ⟨v',HA',h3,_,aV,Z1,v,H1,h4,h5,_,h7,h6,j,l,e,cs,rfl,hj0,hj,hn,cu,hu,hnu,hK⟩:=h gX Z as HA hargs hR0
 obtain ⟨bn,bk1,hb0,e2,e3,e4,e5⟩:=h5.bF j cs hj
 have jT: ∀q cs' b,blk ([some cs0]:BH) q=some cs'→gX q=some b→b=b0:=fun q cs' b e1 e2=>by
  cases q with
  |zero=>rw [jC] at e2;cases e2;rfl
  |succ q=>simp [blk] at e1
 obtain ⟨bu,SA,hbu,u2,u3,u4,u5⟩:=h5.bF 0 cu hu
 obtain rfl:bu=b0:=by
  have:=h7 0 (by simp)
  rw [hbu,jC] at this
  injection this
 have yP:bn≠bu:=fun e=>hj0 (h5.inj j 0 cs cu bn hj hu hb0 (by rw [e];exact hbu))
 have hge:HA.n≤bn:=by
  rcases h6.own j cs bn hj hb0 with h9|⟨q,cs',h9,h10⟩
  ·exact h9
  ·exact absurd (jT q cs' bn h9 h10) yP
 have hkeep: ∀b,b<HA.n→b≠bu→HA'.get b=HA.get b:=fun b hb hne=>h6.keep b hb fun q cs' e1 e2=>hne (jT q cs' b e1 e2)
 have hne: ∀q cs' b,q≠i→blk H q=some cs'→ρ q=some b→b≠bu:=fun q cs' b hq e1 e2 e=>hq (h2.inj q i cs' cs0 b e1 hc0 e2 (by rw [e];exact r1))
 have hold: ∀q cs',blk ((H.set i (some cu))++[some cs]) q=some cs'→(q=H.length∧cs'=cs)∨(q<H.length∧q≠i∧blk H q=some cs')∨(q<H.length∧q=i∧cs'=cu):=fun q cs' hc=>by
  rcases Nat.lt_trichotomy q H.length with hq|hq|hq
  ·right
   have hc':blk (H.set i (some cu)) q=some cs':=by
    unfold blk at hc⊢
    rwa [List.getElem?_append_left (by simpa using hq)] at hc
   rw [kQ hi] at hc'
   split at hc'
   ·rename_i e
    injection hc' with hc'
    exact .inr ⟨hq,e,hc'.symm⟩
   ·exact .inl ⟨hq,by assumption,hc'⟩
  ·left
   subst hq
   unfold blk at hc
   rw [List.getElem?_append_right (by simp)] at hc
   simp at hc
   exact ⟨rfl,hc.symm⟩
  ·unfold blk at hc
   rw [List.getElem?_eq_none (by simp;omega)] at hc
   cases hc
 have hρ: ∀q,q<H.length→put ρ H.length bn q=ρ q:=fun q hq=>by simp only [put];rw [if_neg (by omega)]
 have eH:put ρ H.length bn H.length=some bn:=by simp [put]
 have hv:VR (put ρ H.length bn) Z1 (.slice (some ⟨H.length,0,none⟩) l e) v':=by
  obtain ⟨b,hb,rfl⟩:=h4.slice_inv
  rw [hb0] at hb;cases hb
  exact .slice eH
 have hat: ∀q cs' b,blk ((H.set i (some cu))++[some cs]) q=some cs'→put ρ H.length bn q=some b→(q=H.length∧b=bn)∨(q≠i∧q<H.length∧ρ q=some b∧blk H q=some cs')∨(q=i∧b=bu):=fun q cs' b hc hb=>by
  rcases hold q cs' hc with ⟨rfl,rfl⟩|⟨hq,hqi,hc⟩|⟨hq,rfl,rfl⟩
  ·rw [eH] at hb;cases hb
   exact .inl ⟨rfl,rfl⟩
  ·rw [hρ q hq] at hb
   exact .inr (.inl ⟨hqi,hq,hb,hc⟩)
  ·rw [hρ q hq,r1] at hb
   cases hb
   exact .inr (.inr ⟨rfl,rfl⟩)
 refine ⟨v',HA',h3,(fun h=>by cases h),put ρ H.length bn,Z1,_,_,hv,⟨fun q cs' hc=>?_,fun q q' c1 c2 b k1 k2 k3 k4=>?_,fun q cs' b k1 k2=>?_,h5.dI,fun q hq=>?_⟩,by simp,hρ,⟨h6.n,fun b hb hno=>?_,fun q cs' b k1 k2=>?_,h6.zx,fun b bk hb=>?_⟩,hK⟩
 ·rcases hold q cs' hc with ⟨rfl,rfl⟩|⟨hq,hqi,hc⟩|⟨hq,rfl,rfl⟩
  ·exact ⟨bn,bk1,eH,e2,e3,e4,(hn.vz e5).vl⟩
  ·obtain ⟨b,bk,k1,k2,k3,k4,k5⟩:=h2.bF q cs' hc
   refine ⟨b,bk,by rw [hρ q hq];exact k1,Nat.lt_of_lt_of_le k2 h6.n,by rw [hkeep b k2 (hne q cs' b hqi hc k1)];exact k3,k4,k5.mono (fun p d hp=>?_) h6.zx⟩
   rcases Nat.lt_or_ge p H.length with hpl|hpl
   ·rw [hρ p hpl];exact hp
   ·rw [h2.top p hpl] at hp;cases hp
  ·exact ⟨bu,SA,by rw [hρ q hq];exact r1,u2,u3,u4,(hnu.vz u5).vl⟩
 ·rcases hat q c1 b k1 k3 with ⟨rfl,rfl⟩|⟨hqi,hq,k3,hc⟩|⟨rfl,rfl⟩<;>rcases hat q' c2 _ k2 k4 with ⟨rfl,e⟩|⟨yQ,hq',k4,hc'⟩|⟨rfl,e⟩
  ·rfl
  ·have:=h2.lt hc' k4;omega
  ·exact absurd e yP
  ·have:=h2.lt hc k3;omega
  ·exact h2.inj q q' c1 c2 b hc hc' k3 k4
  ·exact absurd e (hne q _ b hqi hc k3)
  ·exact absurd e.symm yP
  ·exact absurd rfl (hne q' _ _ yQ hc' k4)
  ·rfl
 ·rcases hat q cs' b k1 k2 with ⟨rfl,rfl⟩|⟨hqi,hq,k2,hc⟩|⟨rfl,rfl⟩
  ·exact h5.cZ j _ b hj hb0
  ·cases hz:Z1 b with
   |none=>rfl
   |some bk=>
    rcases h6.zn b bk hz with h9|h9|⟨p,cs',h9,h10⟩
    ·rw [h2.cZ q _ b hc k2] at h9;cases h9
    ·have:=h2.lt hc k2;omega
    ·exact absurd (jT p cs' b h9 h10) (hne q _ b hqi hc k2)
  ·exact h5.cZ 0 cu b hu hbu
 ·simp only [List.length_append,List.length_set,List.length_singleton] at hq
  simp only [put]
  rw [if_neg (by omega)]
  exact h2.top q (by omega)
 ·refine hkeep b hb fun e=>?_
  rw [e] at hno
  exact hno i cs0 hc0 r1
 ·rcases hat q cs' b k1 k2 with ⟨rfl,rfl⟩|⟨hqi,hq,k2,hc⟩|⟨rfl,rfl⟩
  ·exact .inl hge
  ·exact .inr ⟨q,cs',hc,k2⟩
  ·exact .inr ⟨q,cs0,hc0,r1⟩
 ·rcases h6.zn b bk hb with h9|h9|⟨p,cs',h9,h10⟩
  ·exact .inl h9
  ·exact .inr (.inl h9)
  ·rw [jT p cs' b h9 h10]
   exact .inr (.inr ⟨i,cs0,hc0,r1⟩)
end Go.Bm
namespace Go.Bm
open Go Go.Am
def iM (ns:List Nat) (H:BH):BH:=ns.map fun i=>(blk H i).map (List.map (ren ns))
theorem qH {ns:List Nat} {H:BH} {j:Nat} {cs:List Value} (h:blk (iM ns H) j=some cs): ∃i cs0,ns[j]? =some i∧blk H i=some cs0∧cs=cs0.map (ren ns):=by
 unfold blk iM at h
 rw [List.getElem?_map] at h
 cases h1:ns[j]? with
 |none=>rw [h1] at h;cases h
 |some i=>
  rw [h1] at h
  simp only [Option.map_some,Option.getD_some] at h
  change (blk H i).map _=some cs at h
  cases h2:blk H i with
  |none=>rw [h2] at h;cases h
  |some cs0=>rw [h2] at h;exact ⟨i,cs0,rfl,h2,by simpa using h.symm⟩
theorem Gh.mX {k:Nat} {f:Fr} {H:BH} (ns:List Nat) (hd:ns.Nodup) (hk: ∀j,j<k→ns[j]? =some j):Gh k f H (fun t=>ren ns (f t)) (iM ns H):=by
 refine ⟨fun _=>?_,fun ρ Z fA HA h1 h2=>?_⟩
 ·rcases Nat.lt_or_ge ns.length k with h|h
  ·have:=hk ns.length h
   simp at this
  ·simpa [iM] using h
 ·have hr: ∀(i j:Nat),ns[j]? =some i→(match ns[j]? with|some i=>ρ i|none=>none)=ρ i:=fun i j h=>by rw [h]
  refine ⟨fun j=>match ns[j]? with|some i=>ρ i|none=>none,Z,fun t=>nH hr (h1 t),⟨fun j cs hc=>?_,fun j j' cs cs' b hc hc' hb hb'=>?_,fun j cs b hc hb=>?_,h2.dI,fun j hj=>?_⟩,fun j hj=>?_,⟨Nat.le_refl _,fun _ _ _=>rfl,fun j cs b hc hb=>?_,fun _ _ h=>h,fun _ _ h=> .inl h⟩⟩
  ·obtain ⟨i,cs0,hi,hc',rfl⟩:=qH hc
   obtain ⟨b,bk,e1,e2,e3,e4,e5⟩:=h2.bF i cs0 hc'
   refine ⟨b,bk,by rw [hi];exact e1,e2,e3,e4,by simpa using e5.1,fun q c d q1 q2=>?_⟩
   rw [List.getElem?_map] at q1
   obtain ⟨p,hp,rfl⟩:=map_inj q1
   exact nH hr (e5.2 q p d hp q2)
  ·obtain ⟨i,c0,hi,hci,_⟩:=qH hc
   obtain ⟨i',c0',hi',iG,_⟩:=qH hc'
   rw [hi] at hb;rw [hi'] at hb'
   have:=h2.inj i i' c0 c0' b hci iG hb hb'
   subst this
   obtain ⟨e1,e2⟩:=List.getElem?_eq_some_iff.1 hi
   obtain ⟨e3,e4⟩:=List.getElem?_eq_some_iff.1 hi'
   have hp:=List.pairwise_iff_getElem.1 hd
   rcases Nat.lt_trichotomy j j' with hl|hl|hl
   ·exact absurd (e2.trans e4.symm) (hp j j' e1 e3 hl)
   ·exact hl
   ·exact absurd (e4.trans e2.symm) (hp j' j e3 e1 hl)
  ·obtain ⟨i,c0,hi,hci,_⟩:=qH hc
   rw [hi] at hb
   exact h2.cZ i c0 b hci hb
  ·have:ns[j]? =none:=List.getElem?_eq_none (by simpa [iM] using hj)
   rw [this]
  ·exact hr j j (hk j hj)
  ·obtain ⟨i,c0,hi,hci,_⟩:=qH hc
   rw [hi] at hb
   exact .inr ⟨i,c0,hci,hb⟩
theorem aG.mX {k:Nat} {v:Value} {H:BH} (ns:List Nat) (hd:ns.Nodup) (hk: ∀j,j<k→ns[j]? =some j) (hv:NN v):aG k v H v (iM ns H):=
 ⟨(Gh.mX (f:=fun _=>v) ns hd hk).1,fun ρ Z u HA h1 h2=>by
  obtain ⟨ρ',Z',h3,h4,h5,h6⟩:=(Gh.mX (f:=fun _=>v) ns hd hk).2 ρ Z (fun _=>u) HA (fun _=>h1) h2
  refine ⟨ρ',Z',?_,h4,h5,h6⟩
  exact (hv ρ Z u h1).mono h6.zx|> .z⟩
theorem SB {ρ:Nat→Option Nat} {Z:Nat→Option Blk} {HA:AHeap} {H:BH} {i:Nat} {cs:List Value} (h2:Rel ρ Z H HA) (hc:blk H i=some cs) (hn:aF cs):
  ∃Z',Rel ρ Z' ((gY (frz i cs) H).set i none) HA∧Frm ρ Z H HA ρ Z' ((gY (frz i cs) H).set i none) HA∧ ∀v u,VR ρ Z v u→VR ρ Z' (frz i cs v) u:=by
 obtain ⟨Z',h3,h4,h5⟩:=qI h2 hc hn
 have hi:=qF hc
 have hset: ∀j cs',blk ((gY (frz i cs) H).set i none) j=some cs'→j≠i∧ ∃cs0,blk H j=some cs0∧cs'=cs0.map (frz i cs):=fun j cs' h=>by
  rw [kQ (by simpa [gY] using hi)] at h
  split at h
  ·cases h
  ·rename_i hne
   exact ⟨hne,Et h⟩
 have hold: ∀j cs0,j≠i→blk H j=some cs0→blk (H.set i none) j=some cs0:=fun j cs0 hne h=>by rw [kQ hi,if_neg hne];exact h
 refine ⟨Z',⟨fun j cs' h=>?_,fun j j' c1 c2 b e1 e2 e3 e4=>?_,fun j cs' b e1 e2=>?_,h3.dI,fun j hj=>h2.top j (by simpa [gY] using hj)⟩,⟨h4.n,h4.keep,fun j cs' b e1 e2=>?_,h4.zx,h4.zn⟩,h5⟩
 ·obtain ⟨hne,cs0,g1,rfl⟩:=hset j cs' h
  obtain ⟨b,bk,k1,k2,k3,k4,k5⟩:=h2.bF j cs0 g1
  refine ⟨b,bk,k1,k2,k3,k4,by simpa using k5.1,fun q c d q1 q2=>?_⟩
  rw [List.getElem?_map] at q1
  obtain ⟨p,hp,rfl⟩:=map_inj q1
  exact h5 _ _ (k5.2 q p d hp q2)
 ·obtain ⟨n1,x1,g1,_⟩:=hset j c1 e1
  obtain ⟨n2,x2,g2,_⟩:=hset j' c2 e2
  exact h2.inj j j' x1 x2 b g1 g2 e3 e4
 ·obtain ⟨n1,x1,g1,_⟩:=hset j cs' e1
  exact h3.cZ j x1 b (hold j x1 n1 g1) e2
 ·obtain ⟨n1,x1,g1,_⟩:=hset j cs' e1
  exact h4.own j x1 b (hold j x1 n1 g1) e2
theorem aG.vF {k:Nat} {v:Value} {H:BH} {i:Nat} {cs:List Value} (hc:blk H i=some cs) (hn:aF cs):aG k v H (jD i cs v) ((gY (frz i cs) H).set i none):=
 ⟨fun h=>by simpa [gY] using h,fun ρ Z u HA h1 h2=>by
  obtain ⟨Z',h3,h4,h5⟩:=SB h2 hc hn
  refine ⟨ρ,Z',?_,h3,fun _ _=>rfl,h4⟩
  unfold jD
  split
  ·rename_i vs
   obtain ⟨ds,rfl,hl⟩:=h1.tuple_inv
   obtain ⟨ds⟩:=ds
   refine .tuple (by simpa using hl.1) fun i c d k1 k2=>?_
   rw [List.getElem?_map] at k1
   obtain ⟨q,hq,rfl⟩:=map_inj k1
   exact h5 _ _ (hl.2 i q d hq k2)
  ·exact h5 _ _ h1⟩
end Go.Bm
namespace Go.Bm
open Go Go.Am
section
variable {code:List Nat} {a:Nat} {h:Int}
def jl (r:List Nat):List Int:=r.map fun x:Nat=>(x:Int)
theorem SC {r:List Nat}:(jl r).length=r.length:=by simp [jl]
theorem SE {r:List Nat}:r.map dU=(jl r).map I:=by
 rw [jl,List.map_map]
 rfl
theorem Eu {r:List Nat}:FN r=FI (jl r):=by
 rw [FI,SC,←SE]
section
variable {x y z:Value} {H:BH} {b j o l e:Nat}
end
end
end Go.Bm
namespace Go.Bm
open Go Go.Am
section
variable {code:List Nat} {a:Nat} {h:Int}
end
end Go.Bm
namespace Go.Bm
open Go Go.Am
section
variable {xs:List Int} {n:Nat}
end
section
variable {xs:List Int} (ht:kP xs)
include ht
end
end Go.Bm
namespace Go.Bm
open Go Go.Am
section
variable {xs:List Int}
end
end Go.Bm
namespace Go.Bm
open Go Go.Am
section
variable {code:List Nat} {H:BH} {K:Value→BH→Prop} {x:Bool}
variable (hl:code.length≤1048576) (hcd: ∀i,nl code i<256)
include hl hcd
end
end Go.Bm
set_option linter.unusedSectionVars false
namespace Go.Bm
open Go Go.Am
def iR (p:List Nat) (t m:Nat):Nat→List Nat
 |0=>p
 |k+1=>(iR p t m k).set (t+k) (t+(k+1)%m)
def elN (xs:List Int) (i:Nat):Nat:=(el xs i).toNat
def gB (xs:List Int):Nat→List Nat×Nat
 |0=>(dG,0)
 |i+1=>(iR (gB xs i).1 (gB xs i).2 (elN xs i) (elN xs i),(gB xs i).2+elN xs i)
def std (xs:List Int):List Nat:=(gB xs xs.length).1
theorem vG {p:List Nat} {t m k:Nat}:(iR p t m k).length=p.length:=by
 induction k with
 |zero=>rfl
 |succ k ih=>rw [iR,List.length_set,ih]
theorem vH {p:List Nat} {t m k x:Nat} (hl:p.length=16) (h:t+k≤16):nl (iR p t m k) x=if t≤x∧x<t+k then t+(x-t+1)%m else nl p x:=by
 induction k with
 |zero=>rw [iR,if_neg (by omega)]
 |succ k ih=>
  rw [iR,fU,vG,hl,ih (by omega)]
  by_cases e:x=t+k
  ·subst e
   rw [if_pos ⟨rfl,by omega⟩,if_pos (by omega),show t+k-t+1=k+1 by omega]
  ·rw [if_neg (by omega)]
   by_cases h2:t≤x∧x<t+k
   ·rw [if_pos h2,if_pos (by omega)]
   ·rw [if_neg h2,if_neg (by omega)]
structure vJ (p:List Nat) (t:Nat):Prop where
 len:p.length=16
 lt: ∀x,x<t→nl p x<t
 inj: ∀x y,x<t→y<t→nl p x=nl p y→x=y
 zero: ∀x,t≤x→nl p x=0
theorem vJ.seg {p:List Nat} {t m:Nat} (h:vJ p t) (hm:1≤m) (vK:t+m≤16):vJ (iR p t m m) (t+m):=by
 have hmod: ∀x,t≤x→x<t+m→(x-t+1)%m=if x-t+1=m then 0 else x-t+1:=fun x h1 h2=>mod_one (by omega)
 refine ⟨by rw [vG,h.len],fun x hx=>?_,fun x y hx hy=>?_,fun x hx=>?_⟩
 ·rw [vH h.len vK]
  have:=Nat.mod_lt (x-t+1) (show 0<m by omega)
  by_cases h1:t≤x∧x<t+m
  ·rw [if_pos h1];omega
  ·rw [if_neg h1]
   have:=h.lt x (by omega)
   omega
 ·rw [vH h.len vK,vH h.len vK]
  have hx':=h.lt x
  have hy':=h.lt y
  by_cases h1:t≤x∧x<t+m<;>by_cases h2:t≤y∧y<t+m
  ·rw [if_pos h1,if_pos h2,hmod x h1.1 h1.2,hmod y h2.1 h2.2]
   intro e
   split at e<;>split at e<;>omega
  ·rw [if_pos h1,if_neg h2]
   intro e
   have:=hy' (by omega)
   omega
  ·rw [if_neg h1,if_pos h2]
   intro e
   have:=hx' (by omega)
   omega
  ·rw [if_neg h1,if_neg h2]
   exact h.inj x y (by omega) (by omega)
 ·rw [vH h.len vK,if_neg (by omega)]
  exact h.zero x (by omega)
section
variable {xs:List Int} (ht:kP xs)
include ht
theorem vM {i:Nat} (hi:i<xs.length):el xs i=(elN xs i:Int)∧1≤elN xs i∧elN xs i≤16:=by
 have:=(ht.2.1 i hi).1
 unfold elN
 omega
theorem Ew {i:Nat} (hi:i≤xs.length):((gB xs i).2:Int)=jk xs i:=by
 induction i with
 |zero=>rfl
 |succ i ih=>
  have:=(vM ht (i:=i) (by omega)).1
  rw [gB,jk,←ih (by omega)]
  omega
theorem yR {i:Nat} (hi:i≤xs.length):(gB xs i).2≤16:=by
 have h1:=Ew ht hi
 have h2:=Es (xs:=xs) (i:=i) (k:=xs.length) ht.2.1 hi
 have h3:=ht.2.2
 rw [jS] at h3
 omega
theorem yS {i:Nat} (hi:i≤xs.length):vJ (gB xs i).1 (gB xs i).2:=by
 induction i with
 |zero=>exact ⟨fZ,fun x hx=>absurd hx (Nat.not_lt_zero x),fun x y hx=>absurd hx (Nat.not_lt_zero x),fun x _=>Ey⟩
 |succ i ih=>
  have h1:=vM ht (i:=i) (by omega)
  have h2:=yR ht hi
  rw [gB] at h2⊢
  exact (ih (by omega)).seg h1.2.1 h2
theorem Ez {n:Nat} (hn:jS xs=n):Perm (std xs) n∧By 16 (std xs)∧1≤n∧n≤16:=by
 have h:=yS ht (Nat.le_refl xs.length)
 have h1:=Ew ht (Nat.le_refl xs.length)
 have h2:=ht.pos
 have h3:=ht.2.2
 rw [jS] at hn h2 h3
 have e:(gB xs xs.length).2=n:=by omega
 rw [e] at h
 have hn1:1≤n∧n≤16:=by omega
 have hp:Perm (std xs) n:= .of hn1 (fun i h1 h2=>h.zero i h1) h.lt (fun i j hi hj e=>by have:=h.inj j i (by omega) hi e;omega)
 exact ⟨hp,⟨h.len,fun i=>by have:=hp.iD h.len i;omega⟩,hn1⟩
theorem SG {x:Bool} {H:BH} {K:Value→BH→Prop} (hK:K (PL (std xs)) H):aA x OA [FI xs] H K:=by
 have hl:=ht.1
 have hz:=fZ
 refine cO (.cons .fz .nil) ?_
 refine aZ O6 ?_;simp only [bU,aB]
 refine au fun Kr hKr=>?_;simp (disch:=omega) only [RA,↓reduceIte,Nat.reduceEqDiff,Nat.reduceBEq,Nat.reduceSub,Nat.reduceAdd,Nat.reduceMul,Nat.reduceLT,Nat.reduceLeDiff,Int.reduceLE,Int.reduceLT,Int.reduceEq,Int.reduceNeg,Int.reduceToNat,Int.reduceMul,Int.reduceAdd,Int.reduceSub,Int.reduceBEq,Int.reduceBNe,reduceCtorEq,RD];refine hKr _ _ ?_;clear hKr Kr;(try simp only [RN,reduceIte]);try refine ah rfl ?_
 refine au fun Kr hKr=>?_;simp (disch:=omega) only [RA,↓reduceIte,Nat.reduceEqDiff,Nat.reduceBEq,Nat.reduceSub,Nat.reduceAdd,Nat.reduceMul,Nat.reduceLT,Nat.reduceLeDiff,Int.reduceLE,Int.reduceLT,Int.reduceEq,Int.reduceNeg,Int.reduceToNat,Int.reduceMul,Int.reduceAdd,Int.reduceSub,Int.reduceBEq,Int.reduceBNe,reduceCtorEq,RD];refine hKr _ _ ?_;clear hKr Kr;(try simp only [RN,reduceIte]);try refine ah rfl ?_
 refine au fun Kr hKr=>?_;simp (disch:=omega) only [RA,↓reduceIte,Nat.reduceEqDiff,Nat.reduceBEq,Nat.reduceSub,Nat.reduceAdd,Nat.reduceMul,Nat.reduceLT,Nat.reduceLeDiff,Int.reduceLE,Int.reduceLT,Int.reduceEq,Int.reduceNeg,Int.reduceToNat,Int.reduceMul,Int.reduceAdd,Int.reduceSub,Int.reduceBEq,Int.reduceBNe,reduceCtorEq,RD];refine hKr _ _ ?_;clear hKr Kr;(try simp only [RN,reduceIte]);try refine ah rfl ?_
 refine bH (fun m f H'=> ∃i p t,i≤xs.length∧m=xs.length-i∧gB xs i=(p,t)∧f 2=P 0 0∧f 3=P 1 0∧f 4=I t∧f 9=FI xs∧f 10=I xs.length∧f 11=I i∧H'=[some (List.replicate 16 (.int .u8 0)),some (p.map N8)]) (xs.length) ?_ ?_
 ·exact ⟨_,_,Gh.refl,0,dG,0,by omega,by omega,rfl,aj,aj,aj,aj,aj,aj,rfl⟩
 ·rintro m f H' R ⟨i,p,t,hi,rfl,hst,g2,g3,g4,g9,g10,g11,rfl⟩ hN hX hR hE
  simp only [bU.l1,aB]
  have hok:=yS ht hi
  rw [hst] at hok
  have hlp:=hok.len
  refine au fun Kr hKr=>?_;simp (disch:=omega) only [RA,↓reduceIte,Nat.reduceEqDiff,Nat.reduceBEq,Nat.reduceSub,Nat.reduceAdd,Nat.reduceMul,Nat.reduceLT,Nat.reduceLeDiff,Int.reduceLE,Int.reduceLT,Int.reduceEq,Int.reduceNeg,Int.reduceToNat,Int.reduceMul,Int.reduceAdd,Int.reduceSub,Int.reduceBEq,Int.reduceBNe,reduceCtorEq,RD,g10,g11];refine hKr _ _ ?_;clear hKr Kr;(try simp only [RN,reduceIte]);try refine ah rfl ?_
  refine bG (p:=i<xs.length) (by simp only [RA,↓reduceIte,Nat.reduceEqDiff,Nat.reduceBEq,Nat.reduceSub,Nat.reduceAdd,Nat.reduceMul,Nat.reduceLT,Nat.reduceLeDiff,Int.reduceLE,Int.reduceLT,Int.reduceEq,Int.reduceNeg,Int.reduceToNat,Int.reduceMul,Int.reduceAdd,Int.reduceSub,Int.reduceBEq,Int.reduceBNe,reduceCtorEq]<;>rfl) (by (try simp only [RB])<;>first|done|exact Iff.rfl|omega|simp) (fun hc=>?_) (fun hc=>?_)<;>(try simp only [RN,reduceIte])<;>(try refine ah rfl ?_)
  ·have hil:i<xs.length:=by assumption
   obtain ⟨e0,e1,e2⟩:=vM ht hil
   have hle:=yR ht (i:=i+1) (by omega)
   have hst1:gB xs (i+1)=(iR p t (elN xs i) (elN xs i),t+elN xs i):=by rw [gB,hst]
   rw [hst1] at hle
   generalize elN xs i=q at e0 e1 e2 hle hst1
   have hle':t+q≤16:=hle
   have hq0:(q:Int)≠0:=by omega
   (first|refine bY rfl ?_|refine bZ rfl ?_);(try simp only [RN,reduceIte]);try refine ah rfl ?_
   refine au fun Kr hKr=>?_;simp (disch:=omega) only [RA,↓reduceIte,Nat.reduceEqDiff,Nat.reduceBEq,Nat.reduceSub,Nat.reduceAdd,Nat.reduceMul,Nat.reduceLT,Nat.reduceLeDiff,Int.reduceLE,Int.reduceLT,Int.reduceEq,Int.reduceNeg,Int.reduceToNat,Int.reduceMul,Int.reduceAdd,Int.reduceSub,Int.reduceBEq,Int.reduceBNe,reduceCtorEq,RD,g9,g11];refine hKr _ _ ?_;clear hKr Kr;(try simp only [RN,reduceIte]);try refine ah rfl ?_
   refine au fun Kr hKr=>?_;simp (disch:=omega) only [RA,↓reduceIte,Nat.reduceEqDiff,Nat.reduceBEq,Nat.reduceSub,Nat.reduceAdd,Nat.reduceMul,Nat.reduceLT,Nat.reduceLeDiff,Int.reduceLE,Int.reduceLT,Int.reduceEq,Int.reduceNeg,Int.reduceToNat,Int.reduceMul,Int.reduceAdd,Int.reduceSub,Int.reduceBEq,Int.reduceBNe,reduceCtorEq,RD,e0];refine hKr _ _ ?_;clear hKr Kr;(try simp only [RN,reduceIte]);try refine ah rfl ?_
   refine bH (fun m f H'=> ∃j,j≤q∧m=q-j∧f 2=P 0 0∧f 3=P 1 0∧f 4=I t∧f 6=I q∧f 9=FI xs∧f 10=I xs.length∧f 11=I i∧f 15=I q∧f 16=I j∧H'=[some (List.replicate 16 (.int .u8 0)),some ((iR p t q j).map N8)]) (q) ?_ ?_
   ·exact ⟨_,_,Gh.refl,0,by omega,by omega,aj,aj,aj,aj,aj,aj,aj,aj,aj,rfl⟩
   ·clear g2 g3 g4 g9 g10 g11
    rintro m f H' R1 ⟨j,hj,rfl,g2,g3,g4,g6,g9,g10,g11,g15,g16,rfl⟩ hN1 hX1 hR1 hE1
    simp only [bU.l0,aB]
    have hsl:= @vG p t q j
    rw [hlp] at hsl
    refine au fun Kr hKr=>?_;simp (disch:=omega) only [RA,↓reduceIte,Nat.reduceEqDiff,Nat.reduceBEq,Nat.reduceSub,Nat.reduceAdd,Nat.reduceMul,Nat.reduceLT,Nat.reduceLeDiff,Int.reduceLE,Int.reduceLT,Int.reduceEq,Int.reduceNeg,Int.reduceToNat,Int.reduceMul,Int.reduceAdd,Int.reduceSub,Int.reduceBEq,Int.reduceBNe,reduceCtorEq,RD,g15,g16];refine hKr _ _ ?_;clear hKr Kr;(try simp only [RN,reduceIte]);try refine ah rfl ?_
    refine bG (p:=j<q) (by simp only [RA,↓reduceIte,Nat.reduceEqDiff,Nat.reduceBEq,Nat.reduceSub,Nat.reduceAdd,Nat.reduceMul,Nat.reduceLT,Nat.reduceLeDiff,Int.reduceLE,Int.reduceLT,Int.reduceEq,Int.reduceNeg,Int.reduceToNat,Int.reduceMul,Int.reduceAdd,Int.reduceSub,Int.reduceBEq,Int.reduceBNe,reduceCtorEq]<;>rfl) (by (try simp only [RB])<;>first|done|exact Iff.rfl|omega|simp) (fun hc=>?_) (fun hc=>?_)<;>(try simp only [RN,reduceIte])<;>(try refine ah rfl ?_)
    ·have hjq:j<q:=by assumption
     have hm:=Nat.mod_lt (j+1) (show 0<q by omega)
     have a1:((t:Nat):Int)+((j:Nat):Int)=((t+j:Nat):Int):=by omega
     have a2:((j:Nat):Int)+1=((j+1:Nat):Int):=by omega
     have a3:(((j+1:Nat):Int)).tmod (q:Int)=(((j+1)%q:Nat):Int):=Int.ofNat_tmod (j+1) q
     have a4:((t:Nat):Int)+(((j+1)%q:Nat):Int)=((t+(j+1)%q:Nat):Int):=by omega
     (first|refine bY rfl ?_|refine bZ rfl ?_);(try simp only [RN,reduceIte]);try refine ah rfl ?_
     refine au fun Kr hKr=>?_;simp (disch:=omega) only [RA,↓reduceIte,Nat.reduceEqDiff,Nat.reduceBEq,Nat.reduceSub,Nat.reduceAdd,Nat.reduceMul,Nat.reduceLT,Nat.reduceLeDiff,Int.reduceLE,Int.reduceLT,Int.reduceEq,Int.reduceNeg,Int.reduceToNat,Int.reduceMul,Int.reduceAdd,Int.reduceSub,Int.reduceBEq,Int.reduceBNe,reduceCtorEq,RD,g16];refine hKr _ _ ?_;clear hKr Kr;(try simp only [RN,reduceIte]);try refine ah rfl ?_
     refine au fun Kr hKr=>?_;simp (disch:=omega) only [RA,↓reduceIte,Nat.reduceEqDiff,Nat.reduceBEq,Nat.reduceSub,Nat.reduceAdd,Nat.reduceMul,Nat.reduceLT,Nat.reduceLeDiff,Int.reduceLE,Int.reduceLT,Int.reduceEq,Int.reduceNeg,Int.reduceToNat,Int.reduceMul,Int.reduceAdd,Int.reduceSub,Int.reduceBEq,Int.reduceBNe,reduceCtorEq,RD,g3,g4,g6,hsl,hq0,a1,a2,a3,a4];refine hKr _ _ ?_;clear hKr Kr;(try simp only [RN,reduceIte]);try refine ah rfl ?_
     refine bI fun Kr hKr=>?_;simp (disch:=omega) only [RA,↓reduceIte,Nat.reduceEqDiff,Nat.reduceBEq,Nat.reduceSub,Nat.reduceAdd,Nat.reduceMul,Nat.reduceLT,Nat.reduceLeDiff,Int.reduceLE,Int.reduceLT,Int.reduceEq,Int.reduceNeg,Int.reduceToNat,Int.reduceMul,Int.reduceAdd,Int.reduceSub,Int.reduceBEq,Int.reduceBNe,reduceCtorEq,RD,g16,a2];refine hKr _ _ ?_;clear hKr Kr
     exact hN1 (q-(j+1)) _ _ _ _ (by omega) Gh.refl ⟨j+1,by omega,rfl,aj,aj,aj,aj,aj,aj,aj,aj,aj,rfl⟩
    ·refine hX1 _ _ ?_
     obtain rfl:j=q:=by omega
     have a1:((t:Nat):Int)+((j:Nat):Int)=((t+j:Nat):Int):=by omega
     refine au fun Kr hKr=>?_;simp (disch:=omega) only [RA,↓reduceIte,Nat.reduceEqDiff,Nat.reduceBEq,Nat.reduceSub,Nat.reduceAdd,Nat.reduceMul,Nat.reduceLT,Nat.reduceLeDiff,Int.reduceLE,Int.reduceLT,Int.reduceEq,Int.reduceNeg,Int.reduceToNat,Int.reduceMul,Int.reduceAdd,Int.reduceSub,Int.reduceBEq,Int.reduceBNe,reduceCtorEq,RD,g4,g6,a1];refine hKr _ _ ?_;clear hKr Kr;(try simp only [RN,reduceIte]);try refine ah rfl ?_
     refine bI fun Kr hKr=>?_;simp (disch:=omega) only [RA,↓reduceIte,Nat.reduceEqDiff,Nat.reduceBEq,Nat.reduceSub,Nat.reduceAdd,Nat.reduceMul,Nat.reduceLT,Nat.reduceLeDiff,Int.reduceLE,Int.reduceLT,Int.reduceEq,Int.reduceNeg,Int.reduceToNat,Int.reduceMul,Int.reduceAdd,Int.reduceSub,Int.reduceBEq,Int.reduceBNe,reduceCtorEq,RD,g11];refine hKr _ _ ?_;clear hKr Kr
     exact hN (xs.length-(i+1)) _ _ _ _ (by omega) Gh.refl ⟨i+1,_,_,by omega,rfl,hst1,aj,aj,aj,aj,aj,aj,rfl⟩
  ·refine hX _ _ ?_
   obtain rfl:i=xs.length:=by omega
   have e:std xs=p:=by rw [std,hst]
   rw [e] at hK
   refine au fun Kr hKr=>?_;simp (disch:=omega) only [RA,↓reduceIte,Nat.reduceEqDiff,Nat.reduceBEq,Nat.reduceSub,Nat.reduceAdd,Nat.reduceMul,Nat.reduceLT,Nat.reduceLeDiff,Int.reduceLE,Int.reduceLT,Int.reduceEq,Int.reduceNeg,Int.reduceToNat,Int.reduceMul,Int.reduceAdd,Int.reduceSub,Int.reduceBEq,Int.reduceBNe,reduceCtorEq,RD,g2,g3,hlp];refine hKr _ _ ?_;clear hKr Kr;(try simp only [RN,reduceIte]);try refine ah rfl ?_
   refine aS (by simp (disch:=omega) only [RA,↓reduceIte,Nat.reduceEqDiff,Nat.reduceBEq,Nat.reduceSub,Nat.reduceAdd,Nat.reduceMul,Nat.reduceLT,Nat.reduceLeDiff,Int.reduceLE,Int.reduceLT,Int.reduceEq,Int.reduceNeg,Int.reduceToNat,Int.reduceMul,Int.reduceAdd,Int.reduceSub,Int.reduceBEq,Int.reduceBNe,reduceCtorEq,RD,resAll,resOf,g2,hlp];rfl) aG.refl ?_;simp only [tup]
   exact ⟨gu vN,hK⟩
theorem SH {x:Bool} {H:BH} {K:Value→BH→Prop} (hK:K (PL (std xs)) H):aA x Oy [FI xs] H K:=by
 have hl:=ht.1
 have hz:=fZ
 refine cO (.cons .fz .nil) ?_
 refine aZ O4 ?_;simp only [dw,aB]
 refine au fun Kr hKr=>?_;simp (disch:=omega) only [RA,↓reduceIte,Nat.reduceEqDiff,Nat.reduceBEq,Nat.reduceSub,Nat.reduceAdd,Nat.reduceMul,Nat.reduceLT,Nat.reduceLeDiff,Int.reduceLE,Int.reduceLT,Int.reduceEq,Int.reduceNeg,Int.reduceToNat,Int.reduceMul,Int.reduceAdd,Int.reduceSub,Int.reduceBEq,Int.reduceBNe,reduceCtorEq,RD];refine hKr _ _ ?_;clear hKr Kr;(try simp only [RN,reduceIte]);try refine ah rfl ?_
 refine au fun Kr hKr=>?_;simp (disch:=omega) only [RA,↓reduceIte,Nat.reduceEqDiff,Nat.reduceBEq,Nat.reduceSub,Nat.reduceAdd,Nat.reduceMul,Nat.reduceLT,Nat.reduceLeDiff,Int.reduceLE,Int.reduceLT,Int.reduceEq,Int.reduceNeg,Int.reduceToNat,Int.reduceMul,Int.reduceAdd,Int.reduceSub,Int.reduceBEq,Int.reduceBNe,reduceCtorEq,RD];refine hKr _ _ ?_;clear hKr Kr;(try simp only [RN,reduceIte]);try refine ah rfl ?_
 refine au fun Kr hKr=>?_;simp (disch:=omega) only [RA,↓reduceIte,Nat.reduceEqDiff,Nat.reduceBEq,Nat.reduceSub,Nat.reduceAdd,Nat.reduceMul,Nat.reduceLT,Nat.reduceLeDiff,Int.reduceLE,Int.reduceLT,Int.reduceEq,Int.reduceNeg,Int.reduceToNat,Int.reduceMul,Int.reduceAdd,Int.reduceSub,Int.reduceBEq,Int.reduceBNe,reduceCtorEq,RD];refine hKr _ _ ?_;clear hKr Kr;(try simp only [RN,reduceIte]);try refine ah rfl ?_
 refine bH (fun m f H'=> ∃i p t,i≤xs.length∧m=xs.length-i∧gB xs i=(p,t)∧f 0=FI xs∧f 2=P 0 0∧f 3=P 1 0∧f 4=I t∧f 5=I i∧H'=[some (List.replicate 16 (.int .u8 0)),some (p.map N8)]) (xs.length) ?_ ?_
 ·exact ⟨_,_,Gh.refl,0,dG,0,by omega,by omega,rfl,aj,aj,aj,aj,aj,rfl⟩
 ·rintro m f H' R ⟨i,p,t,hi,rfl,hst,g0,g2,g3,g4,g5,rfl⟩ hN hX hR hE
  simp only [dw.l1,aB]
  have hok:=yS ht hi
  rw [hst] at hok
  have hlp:=hok.len
  refine au fun Kr hKr=>?_;simp (disch:=omega) only [RA,↓reduceIte,Nat.reduceEqDiff,Nat.reduceBEq,Nat.reduceSub,Nat.reduceAdd,Nat.reduceMul,Nat.reduceLT,Nat.reduceLeDiff,Int.reduceLE,Int.reduceLT,Int.reduceEq,Int.reduceNeg,Int.reduceToNat,Int.reduceMul,Int.reduceAdd,Int.reduceSub,Int.reduceBEq,Int.reduceBNe,reduceCtorEq,RD,g0,g5];refine hKr _ _ ?_;clear hKr Kr;(try simp only [RN,reduceIte]);try refine ah rfl ?_
  refine bG (p:=i<xs.length) (by simp only [RA,↓reduceIte,Nat.reduceEqDiff,Nat.reduceBEq,Nat.reduceSub,Nat.reduceAdd,Nat.reduceMul,Nat.reduceLT,Nat.reduceLeDiff,Int.reduceLE,Int.reduceLT,Int.reduceEq,Int.reduceNeg,Int.reduceToNat,Int.reduceMul,Int.reduceAdd,Int.reduceSub,Int.reduceBEq,Int.reduceBNe,reduceCtorEq]<;>rfl) (by (try simp only [RB])<;>first|done|exact Iff.rfl|omega|simp) (fun hc=>?_) (fun hc=>?_)<;>(try simp only [RN,reduceIte])<;>(try refine ah rfl ?_)
  ·have hil:i<xs.length:=by assumption
   obtain ⟨e0,e1,e2⟩:=vM ht hil
   have hle:=yR ht (i:=i+1) (by omega)
   have hst1:gB xs (i+1)=(iR p t (elN xs i) (elN xs i),t+elN xs i):=by rw [gB,hst]
   rw [hst1] at hle
   generalize elN xs i=q at e0 e1 e2 hle hst1
   have hle':t+q≤16:=hle
   have hq0:(q:Int)≠0:=by omega
   (first|refine bY rfl ?_|refine bZ rfl ?_);(try simp only [RN,reduceIte]);try refine ah rfl ?_
   refine au fun Kr hKr=>?_;simp (disch:=omega) only [RA,↓reduceIte,Nat.reduceEqDiff,Nat.reduceBEq,Nat.reduceSub,Nat.reduceAdd,Nat.reduceMul,Nat.reduceLT,Nat.reduceLeDiff,Int.reduceLE,Int.reduceLT,Int.reduceEq,Int.reduceNeg,Int.reduceToNat,Int.reduceMul,Int.reduceAdd,Int.reduceSub,Int.reduceBEq,Int.reduceBNe,reduceCtorEq,RD];refine hKr _ _ ?_;clear hKr Kr;(try simp only [RN,reduceIte]);try refine ah rfl ?_
   refine bH (fun m f H'=> ∃j,j≤q∧m=q-j∧f 0=FI xs∧f 2=P 0 0∧f 3=P 1 0∧f 4=I t∧f 5=I i∧f 6=I j∧H'=[some (List.replicate 16 (.int .u8 0)),some ((iR p t q j).map N8)]) (q) ?_ ?_
   ·exact ⟨_,_,Gh.refl,0,by omega,by omega,aj,aj,aj,aj,aj,aj,rfl⟩
   ·clear g0 g2 g3 g4 g5
    rintro m f H' R1 ⟨j,hj,rfl,g0,g2,g3,g4,g5,g6,rfl⟩ hN1 hX1 hR1 hE1
    simp only [dw.l0,aB]
    have hsl:= @vG p t q j
    rw [hlp] at hsl
    refine au fun Kr hKr=>?_;simp (disch:=omega) only [RA,↓reduceIte,Nat.reduceEqDiff,Nat.reduceBEq,Nat.reduceSub,Nat.reduceAdd,Nat.reduceMul,Nat.reduceLT,Nat.reduceLeDiff,Int.reduceLE,Int.reduceLT,Int.reduceEq,Int.reduceNeg,Int.reduceToNat,Int.reduceMul,Int.reduceAdd,Int.reduceSub,Int.reduceBEq,Int.reduceBNe,reduceCtorEq,RD,g0,g5,g6,e0];refine hKr _ _ ?_;clear hKr Kr;(try simp only [RN,reduceIte]);try refine ah rfl ?_
    refine bG (p:=j<q) (by simp only [RA,↓reduceIte,Nat.reduceEqDiff,Nat.reduceBEq,Nat.reduceSub,Nat.reduceAdd,Nat.reduceMul,Nat.reduceLT,Nat.reduceLeDiff,Int.reduceLE,Int.reduceLT,Int.reduceEq,Int.reduceNeg,Int.reduceToNat,Int.reduceMul,Int.reduceAdd,Int.reduceSub,Int.reduceBEq,Int.reduceBNe,reduceCtorEq]<;>rfl) (by (try simp only [RB])<;>first|done|exact Iff.rfl|omega|simp) (fun hc=>?_) (fun hc=>?_)<;>(try simp only [RN,reduceIte])<;>(try refine ah rfl ?_)
    ·have hjq:j<q:=by assumption
     have hm:=Nat.mod_lt (j+1) (show 0<q by omega)
     have a1:((t:Nat):Int)+((j:Nat):Int)=((t+j:Nat):Int):=by omega
     have a2:((j:Nat):Int)+1=((j+1:Nat):Int):=by omega
     have a3:(((j+1:Nat):Int)).tmod (q:Int)=(((j+1)%q:Nat):Int):=Int.ofNat_tmod (j+1) q
     have a4:((t:Nat):Int)+(((j+1)%q:Nat):Int)=((t+(j+1)%q:Nat):Int):=by omega
     (first|refine bY rfl ?_|refine bZ rfl ?_);(try simp only [RN,reduceIte]);try refine ah rfl ?_
     refine au fun Kr hKr=>?_;simp (disch:=omega) only [RA,↓reduceIte,Nat.reduceEqDiff,Nat.reduceBEq,Nat.reduceSub,Nat.reduceAdd,Nat.reduceMul,Nat.reduceLT,Nat.reduceLeDiff,Int.reduceLE,Int.reduceLT,Int.reduceEq,Int.reduceNeg,Int.reduceToNat,Int.reduceMul,Int.reduceAdd,Int.reduceSub,Int.reduceBEq,Int.reduceBNe,reduceCtorEq,RD,g0,g3,g4,g5,g6,e0,hsl,hq0,a1,a2,a3,a4];refine hKr _ _ ?_;clear hKr Kr;(try simp only [RN,reduceIte]);try refine ah rfl ?_
     refine bI fun Kr hKr=>?_;simp (disch:=omega) only [RA,↓reduceIte,Nat.reduceEqDiff,Nat.reduceBEq,Nat.reduceSub,Nat.reduceAdd,Nat.reduceMul,Nat.reduceLT,Nat.reduceLeDiff,Int.reduceLE,Int.reduceLT,Int.reduceEq,Int.reduceNeg,Int.reduceToNat,Int.reduceMul,Int.reduceAdd,Int.reduceSub,Int.reduceBEq,Int.reduceBNe,reduceCtorEq,RD,g6,a2];refine hKr _ _ ?_;clear hKr Kr
     exact hN1 (q-(j+1)) _ _ _ _ (by omega) Gh.refl ⟨j+1,by omega,rfl,aj,aj,aj,aj,aj,aj,rfl⟩
    ·refine hX1 _ _ ?_
     obtain rfl:j=q:=by omega
     have a1:((t:Nat):Int)+((j:Nat):Int)=((t+j:Nat):Int):=by omega
     refine au fun Kr hKr=>?_;simp (disch:=omega) only [RA,↓reduceIte,Nat.reduceEqDiff,Nat.reduceBEq,Nat.reduceSub,Nat.reduceAdd,Nat.reduceMul,Nat.reduceLT,Nat.reduceLeDiff,Int.reduceLE,Int.reduceLT,Int.reduceEq,Int.reduceNeg,Int.reduceToNat,Int.reduceMul,Int.reduceAdd,Int.reduceSub,Int.reduceBEq,Int.reduceBNe,reduceCtorEq,RD,g0,g4,g5,e0,a1];refine hKr _ _ ?_;clear hKr Kr;(try simp only [RN,reduceIte]);try refine ah rfl ?_
     refine bI fun Kr hKr=>?_;simp (disch:=omega) only [RA,↓reduceIte,Nat.reduceEqDiff,Nat.reduceBEq,Nat.reduceSub,Nat.reduceAdd,Nat.reduceMul,Nat.reduceLT,Nat.reduceLeDiff,Int.reduceLE,Int.reduceLT,Int.reduceEq,Int.reduceNeg,Int.reduceToNat,Int.reduceMul,Int.reduceAdd,Int.reduceSub,Int.reduceBEq,Int.reduceBNe,reduceCtorEq,RD,g5];refine hKr _ _ ?_;clear hKr Kr
     exact hN (xs.length-(i+1)) _ _ _ _ (by omega) Gh.refl ⟨i+1,_,_,by omega,rfl,hst1,aj,aj,aj,aj,aj,rfl⟩
  ·refine hX _ _ ?_
   obtain rfl:i=xs.length:=by omega
   have e:std xs=p:=by rw [std,hst]
   rw [e] at hK
   refine au fun Kr hKr=>?_;simp (disch:=omega) only [RA,↓reduceIte,Nat.reduceEqDiff,Nat.reduceBEq,Nat.reduceSub,Nat.reduceAdd,Nat.reduceMul,Nat.reduceLT,Nat.reduceLeDiff,Int.reduceLE,Int.reduceLT,Int.reduceEq,Int.reduceNeg,Int.reduceToNat,Int.reduceMul,Int.reduceAdd,Int.reduceSub,Int.reduceBEq,Int.reduceBNe,reduceCtorEq,RD,g2,g3,hlp];refine hKr _ _ ?_;clear hKr Kr;(try simp only [RN,reduceIte]);try refine ah rfl ?_
   refine aS (by simp (disch:=omega) only [RA,↓reduceIte,Nat.reduceEqDiff,Nat.reduceBEq,Nat.reduceSub,Nat.reduceAdd,Nat.reduceMul,Nat.reduceLT,Nat.reduceLeDiff,Int.reduceLE,Int.reduceLT,Int.reduceEq,Int.reduceNeg,Int.reduceToNat,Int.reduceMul,Int.reduceAdd,Int.reduceSub,Int.reduceBEq,Int.reduceBNe,reduceCtorEq,RD,resAll,resOf,g2,hlp];rfl) aG.refl ?_;simp only [tup]
   exact ⟨gu vN,hK⟩
end
section
variable {x:Bool} {H:BH} {K:Value→BH→Prop}
end
end Go.Bm
namespace Go.Bm
open Go Go.Am
section
variable {H:BH} {K:Value→BH→Prop} {x:Bool}
end
abbrev iq (p c:Int):List Value:=[I p,I c, .slice none 0 0, .bool false]
abbrev EC (p c:Int):Value:=aggL (iq p c)
section
variable {p c p' c':Int} {H:BH} {b:Nat}
theorem ED:getN (some 4) (iq p c) 0=some (EC p c):=rfl
theorem EF:getN none (iq p c) 0=some (I p):=rfl
theorem EG:getN none (iq p c) 1=some (I c):=rfl
theorem EH:getN none (iq p c) 3=some (.bool false):=rfl
theorem EI:bQ (some (iq p c)) H b 0 4 (EC p' c')=some (undef,H.set b (some (iq p' c'))):=(jE (vs:=iq p' c') (n:=4) rfl rfl (by simp)).trans rfl
theorem EJ {y:Int}:bQ (some (iq p c)) H b 0 1 (.int .i64 y)=some (undef,H.set b (some (iq y c))):=by rw [lI (by simp)];rfl
theorem EK {y:Int}:bQ (some (iq p c)) H b 1 1 (.int .i64 y)=some (undef,H.set b (some (iq p y))):=by rw [lI (by simp)];rfl
theorem EL:fillL (iq 0 0) [(3,1, .bool false)]=some (iq 0 0):=rfl
end
theorem EN {a b c d e:Value} {l:List Value}:frame0 (a::b::c::d::e::l) 4=e:=rfl
theorem EO {a b c d e g:Value} {l:List Value}:frame0 (a::b::c::d::e::g::l) 5=g:=rfl
theorem R4:(type_of% @EN)∧(type_of% @EO)∧(type_of% @ED)∧(type_of% @EF)∧(type_of% @EG)∧(type_of% @EH)∧(type_of% @EI)∧(type_of% @EJ)∧(type_of% @EK)∧(type_of% @EL):=⟨@EN, @EO, @ED, @EF, @EG, @EH, @EI, @EJ, @EK, @EL⟩
section
variable {black:List Nat} {n:Nat} {xss:List (List Int)} {H:BH} {K:Value→BH→Prop} {x:Bool}
def gq:Nat→Nat
 |0=>1
 |m+1=>(m+1)*gq m
theorem yT {n:Nat}: ∀(m:Nat) {p:List Nat} {k:Nat},(sw n m p k).length=gq m
 |0,p,k=>rfl
 |m+1,p,k=>by
  have key: ∀l:List Nat,(l.flatMap fun d=>sw n m (iT p k (k+d)) (k+1)).length=l.length*gq m:=by
   intro l
   induction l with
   |nil=>simp
   |cons d l ih=>rw [List.flatMap_cons,List.length_append,ih,yT m,List.length_cons,Nat.add_mul];omega
  rw [sw,key,List.length_range,gq]
end
end Go.Bm
namespace Go.Bm
open Go Go.Am
section
variable {xss:List (List Int)} (hp:yN xss)
include hp
end
section
variable {xss:List (List Int)} {H:BH} {K:Value→BH→Prop} {x:Bool}
end
end Go.Bm
namespace Go.Bm
open Go Go.Am
theorem QT {Q:Ex→Fr→BH→Prop} {f:Fr} {H:BH} {k:Nat} {c:ACode} (h:T k (.seq c .skip) Q f H):T k c Q f H:=jm (fun _ _ _ _ _ h=>by
 cases h with
 |seqN ha hb=>cases hb;exact ha
 |seqX ha hne=>exact ha) h
def vO (v:Value) (k:Nat→Array Value→Prop):Prop:=
 match v with
 | .func (.func cap) ⟨[]⟩ caps=>k cap caps
 | _=>False
theorem xR {m:Nat} {caps:Array Value} {k:Nat→Array Value→Prop}:vO (.func (.func m) #[] caps) k=k m caps:=rfl
theorem xQ {d t:Option Nat} {r:List AOper} {K:Fr→BH→Prop} {f:Fr} {H:BH} {g:Opd} {as:List Opd}:
  opsT d (⟨t, .callv g as,none⟩::r) K f H=vO (ev f g) fun cap caps=>aA (dP d) cap (as.map (ev f)++caps.toList) H (dW d t r K f):=by
 rw [opsT]
 simp only [kR]
 generalize ev f g=v
 cases v<;>try rfl
 rename_i fid first caps
 cases fid<;>try rfl
 obtain ⟨first⟩:=first
 cases first with
 |nil=>simp [vO];rfl
 |cons a l=>simp [vO]
abbrev clo (g:Nat) (caps:List Value):Value:= .func (.func g) #[] ⟨caps⟩
theorem yA {ns:List Nat} {xs:List Nat}:(xs.map N8).map (ren ns)=xs.map N8:=by
 rw [List.map_map]
 exact List.map_congr_left fun x _=>rfl
theorem Rx {ns:List Nat} {xs:List Bool}:(xs.map B).map (ren ns)=xs.map B:=by
 rw [List.map_map]
 exact List.map_congr_left fun x _=>rfl
theorem Ec {ns:List Nat} {g:Nat} {caps:List Value}:ren ns (clo g caps)=clo g (caps.map (jR ns)):=by
 show Value.func (.func g) #[] ((⟨caps⟩:Array Value).map (jR ns))=_
 rw [List.map_toArray]
theorem DN {k j:Nat} (h:j<k):(List.range k)[j]? =some j:=by rw [List.getElem?_range h]
section
variable {g1 n many:Nat} {xss:List (List Int)} {black p:List Nat} {used:List Bool}
end
section
variable {g1 n:Nat} {xss:List (List Int)} {black:List Nat} {d1:List Nat→Bool}
def EP (g1 n:Nat) (black:List Nat) (d1:List Nat→Bool):Prop:=
 ∀(many:Nat) (w:List Nat) (H:BH) (K:Value→BH→Prop),PQ n w→many<1000000000→blk H 0=some [I many]→(∀ex,K (.tuple ⟨[]⟩) (H.set 0 (some [I ((many+if d1 w then 1 else 0:Nat):Int)])++ex))→aA false g1 [DV n black w,P 0 0] H K
theorem xU {l:List Value}:(⟨l⟩:Array Value).toList=l:=rfl
variable (hdo:EP g1 n black d1) (hb:By 16 black) (hbp:Perm black n) (h3:xss.length=3) (hll: ∀xs∈xss,xs.length≤1048576)
include hdo hb hbp h3 hll
omit hdo hb hbp h3 hll in
theorem ER {n:Nat}: ∀(m:Nat) {pre:List Nat},1≤n∧n≤16→kH n pre→pre.length+m=n→(lv n m pre).length≤n^m
 |0,pre,_,_,_=>by simp [lv]
 |m+1,pre,hn,h,hm=>by
  have key: ∀l:List Nat,(∀x∈l,x<n)→(l.flatMap fun x=>if x∈pre then [] else lv n m (pre++[x])).length≤l.length*n^m:=by
   intro l
   induction l with
   |nil=>intro _;simp
   |cons x l ih=>
    intro hx
    rw [List.flatMap_cons,List.length_append,List.length_cons,Nat.add_mul]
    have h1:=ih fun y hy=>hx y (by simp [hy])
    have h2:(if x∈pre then [] else lv n m (pre++[x])).length≤n^m:=by
     split
     ·simp
     ·rename_i hxp
      exact ER m hn ⟨by
       rw [List.nodup_append]
       exact ⟨h.eu,by simp,fun a ha b hb e=>by rw [List.mem_singleton] at hb;subst hb;subst e;exact hxp ha⟩,fun y hy=>by
       rcases List.mem_append.1 hy with hy|hy
       ·exact h.lt y hy
       ·rw [List.mem_singleton] at hy;subst hy;exact hx y (by simp),by simp;omega⟩ (by simp;omega)
    omega
  have:=key (List.range n) fun x hx=>List.mem_range.1 hx
  rw [List.length_range] at this
  rw [lv,Nat.pow_succ,Nat.mul_comm]
  exact this
omit hdo hb hbp h3 hll in
theorem QV {used:List Bool} {y:Nat} (h:bl used y=false):(used.set y true).set y false=used:=by
 apply List.ext_getElem?
 intro i
 rw [List.set_set,List.getElem?_set]
 by_cases e:y=i
 ·subst e
  rw [if_pos rfl]
  by_cases hl:y<used.length
  ·rw [if_pos hl,List.getElem?_eq_getElem hl]
   simp only [bl,List.getD,List.getElem?_eq_getElem hl,Option.getD_some] at h
   rw [h]
  ·rw [if_neg hl,List.getElem?_eq_none (by omega)]
 ·rw [if_neg e]
end
end Go.Bm
namespace Go.Bm
open Go Go.Am
theorem Rz {x:Bool} {n:Int} {b w:List Nat} {H:BH} {K:Value→BH→Prop} (hb:By 16 b) (hw:By 16 w) (h1:Perm b n) (h2:Perm w n) (hK:K (.bool (decide (bg n b w))) H):aA x OH [DV n b w] H K:=by
 have hlb:=hb.len
 have fH:=hw.len
 refine cO (by simp only [RH]) ?_
 refine aZ Pn ?_;simp only [kF,aB]
 refine au fun Kr hKr=>?_;simp (disch:=omega) only [RA,↓reduceIte,Nat.reduceEqDiff,Nat.reduceBEq,Nat.reduceSub,Nat.reduceAdd,Nat.reduceMul,Nat.reduceLT,Nat.reduceLeDiff,Int.reduceLE,Int.reduceLT,Int.reduceEq,Int.reduceNeg,Int.reduceToNat,Int.reduceMul,Int.reduceAdd,Int.reduceSub,Int.reduceBEq,Int.reduceBNe,reduceCtorEq,RD];refine hKr _ _ ?_;clear hKr Kr;(try simp only [RN,reduceIte]);try refine ah rfl ?_
 refine au fun Kr hKr=>?_;simp (disch:=omega) only [RA,↓reduceIte,Nat.reduceEqDiff,Nat.reduceBEq,Nat.reduceSub,Nat.reduceAdd,Nat.reduceMul,Nat.reduceLT,Nat.reduceLeDiff,Int.reduceLE,Int.reduceLT,Int.reduceEq,Int.reduceNeg,Int.reduceToNat,Int.reduceMul,Int.reduceAdd,Int.reduceSub,Int.reduceBEq,Int.reduceBNe,reduceCtorEq,RD,lJ,qJ,qK,SI hlb fH]
 have h32:2*16=(b.map N8++w.map N8).length:=by simp [hlb,fH]
 refine ny 1 rfl (by simp only [RH]) ?_;simp only [RZ,ji h32]
 rw [SK]
 refine SL (by simp) (by simp [hlb,fH]) (by simp;exact ⟨h1.vP hb.len,h2.vP hw.len⟩) ?_
 simp (disch:=omega) only [RA,↓reduceIte,Nat.reduceEqDiff,Nat.reduceBEq,Nat.reduceSub,Nat.reduceAdd,Nat.reduceMul,Nat.reduceLT,Nat.reduceLeDiff,Int.reduceLE,Int.reduceLT,Int.reduceEq,Int.reduceNeg,Int.reduceToNat,Int.reduceMul,Int.reduceAdd,Int.reduceSub,Int.reduceBEq,Int.reduceBNe,reduceCtorEq,RD,lJ]
 refine hKr _ _ ?_;clear hKr Kr;(try simp only [aK,aO,aN]);(try simp only [RN,reduceIte]);try refine ah rfl ?_
 refine aS (by simp (disch:=omega) only [RA,↓reduceIte,Nat.reduceEqDiff,Nat.reduceBEq,Nat.reduceSub,Nat.reduceAdd,Nat.reduceMul,Nat.reduceLT,Nat.reduceLeDiff,Int.reduceLE,Int.reduceLT,Int.reduceEq,Int.reduceNeg,Int.reduceToNat,Int.reduceMul,Int.reduceAdd,Int.reduceSub,Int.reduceBEq,Int.reduceBNe,reduceCtorEq,RD,resAll,resOf];rfl) aG.refl ?_;simp only [tup]
 exact ⟨NN.bool,by simpa [bg,h1,h2,reach] using hK⟩
section
variable {n:Nat} {black:List Nat}
end
section
variable {g1 n:Nat} {xss:List (List Int)} {black:List Nat} {d1:List Nat→Bool}
variable (hdo:EP g1 n black d1) (hb:By 16 black) (hbp:Perm black n) (h3:xss.length=3) (hll: ∀xs∈xss,xs.length≤1048576)
include hdo hb hbp h3 hll
end
section
variable {g1:Nat} {xss:List (List Int)} {d1:List Nat→Bool}
end
section
variable {xss:List (List Int)} {H:BH} {K:Value→BH→Prop} {x:Bool}
end
end Go.Bm
