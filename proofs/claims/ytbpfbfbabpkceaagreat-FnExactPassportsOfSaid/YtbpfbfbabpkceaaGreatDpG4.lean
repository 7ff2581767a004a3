/- DpKb, DpKc, DpKd, DpKe, DpKf, DpQa, BmX, DpY -/
import Derived.Test.YtbpfbfbabpkceaaGreatBmM
import Derived.Test.YtbpfbfbabpkceaaGreatBmS
import Derived.Test.YtbpfbfbabpkceaaGreatDpG0
import Derived.Test.YtbpfbfbabpkceaaGreatDpG1
import Derived.Test.YtbpfbfbabpkceaaGreatDpG2
import Derived.Test.YtbpfbfbabpkceaaGreatDpG3
set_option linter.unusedVariables false
set_option linter.unusedSimpArgs false
set_option linter.unusedSectionVars false
namespace Go.Bm
open Go Go.Am
def ni (p:List Nat) (t m:Nat):Nat→List Nat
 |0=>p
 |k+1=>(ni p t m k).set (t+k) (t+(k+1)%m)
def elN (xs:List Int) (i:Nat):Nat:=(el xs i).toNat
def kJ (xs:List Int):Nat→List Nat×Nat
 |0=>(fQ,0)
 |i+1=>(ni (kJ xs i).1 (kJ xs i).2 (elN xs i) (elN xs i),(kJ xs i).2+elN xs i)
def std (xs:List Int):List Nat:=(kJ xs xs.length).1
theorem BQ {p:List Nat} {t m k:Nat}:(ni p t m k).length=p.length:=by
 induction k with
 |zero=>rfl
 |succ k ih=>rw [ni,List.length_set,ih]
theorem BR {p:List Nat} {t m k x:Nat} (hl:p.length=16) (h:t+k≤16):nl (ni p t m k) x=if t≤x∧x<t+k then t+(x-t+1)%m else nl p x:=by
 induction k with
 |zero=>rw [ni,if_neg (by omega)]
 |succ k ih=>
  rw [ni,jq,BQ,hl,ih (by omega)]
  by_cases e:x=t+k
  ·subst e
   rw [if_pos ⟨rfl,by omega⟩,if_pos (by omega),show t+k-t+1=k+1 by omega]
  ·rw [if_neg (by omega)]
   by_cases h2:t≤x∧x<t+k
   ·rw [if_pos h2,if_pos (by omega)]
   ·rw [if_neg h2,if_neg (by omega)]
structure BU (p:List Nat) (t:Nat):Prop where
 len:p.length=16
 lt: ∀x,x<t→nl p x<t
 inj: ∀x y,x<t→y<t→nl p x=nl p y→x=y
 zero: ∀x,t≤x→nl p x=0
theorem BU.seg {p:List Nat} {t m:Nat} (h:BU p t) (hm:1≤m) (BX:t+m≤16):BU (ni p t m m) (t+m):=by
 have hmod: ∀x,t≤x→x<t+m→(x-t+1)%m=if x-t+1=m then 0 else x-t+1:=fun x h1 h2=>mod_one (by omega)
 refine ⟨by rw [BQ,h.len],fun x hx=>?_,fun x y hx hy=>?_,fun x hx=>?_⟩
 ·rw [BR h.len BX]
  have:=Nat.mod_lt (x-t+1) (show 0<m by omega)
  by_cases h1:t≤x∧x<t+m
  ·rw [if_pos h1];omega
  ·rw [if_neg h1]
   have:=h.lt x (by omega)
   omega
 ·rw [BR h.len BX,BR h.len BX]
  have hx':=h.lt x
  have hy':=h.lt y
  by_cases h1:t≤x∧x<t+m<;>by_cases h2:t≤y∧y<t+m
  ·rw [if_pos h1,if_pos h2,hmod x h1.1 h1.2,hmod y h2.1 h2.2]
   intro e
   split at e<;>split at e<;>omega
  ·rw [if_pos h1,if_neg h2]
   intro e
   have:=hy' (by omega)
   omega
  ·rw [if_neg h1,if_pos h2]
   intro e
   have:=hx' (by omega)
   omega
  ·rw [if_neg h1,if_neg h2]
   exact h.inj x y (by omega) (by omega)
 ·rw [BR h.len BX,if_neg (by omega)]
  exact h.zero x (by omega)
section
variable {xs:List Int} (ht:ru xs)
include ht
theorem BZ {i:Nat} (hi:i<xs.length):el xs i=(elN xs i:Int)∧1≤elN xs i∧elN xs i≤16:=by
 have:=(ht.2.1 i hi).1
 unfold elN
 omega
theorem LQ {i:Nat} (hi:i≤xs.length):((kJ xs i).2:Int)=nY xs i:=by
 induction i with
 |zero=>rfl
 |succ i ih=>
  have:=(BZ ht (i:=i) (by omega)).1
  rw [kJ,nY,←ih (by omega)]
  omega
theorem Fg {i:Nat} (hi:i≤xs.length):(kJ xs i).2≤16:=by
 have h1:=LQ ht hi
 have h2:=LU (xs:=xs) (i:=i) (k:=xs.length) ht.2.1 hi
 have h3:=ht.2.2
 rw [qm] at h3
 omega
theorem Fh {i:Nat} (hi:i≤xs.length):BU (kJ xs i).1 (kJ xs i).2:=by
 induction i with
 |zero=>exact ⟨jS,fun x hx=>absurd hx (Nat.not_lt_zero x),fun x y hx=>absurd hx (Nat.not_lt_zero x),fun x _=>LV⟩
 |succ i ih=>
  have h1:=BZ ht (i:=i) (by omega)
  have h2:=Fg ht hi
  rw [kJ] at h2⊢
  exact (ih (by omega)).seg h1.2.1 h2
theorem LW {n:Nat} (hn:qm xs=n):Perm (std xs) n∧By 16 (std xs)∧1≤n∧n≤16:=by
 have h:=Fh ht (Nat.le_refl xs.length)
 have h1:=LQ ht (Nat.le_refl xs.length)
 have h2:=ht.pos
 have h3:=ht.2.2
 rw [qm] at hn h2 h3
 have e:(kJ xs xs.length).2=n:=by omega
 rw [e] at h
 have hn1:1≤n∧n≤16:=by omega
 have hp:Perm (std xs) n:= .of hn1 (fun i h1 h2=>h.zero i h1) h.lt (fun i j hi hj e=>by have:=h.inj j i (by omega) hi e;omega)
 exact ⟨hp,⟨h.len,fun i=>by have:=hp.jM h.len i;omega⟩,hn1⟩
theorem abK {x:Bool} {H:BH} {K:Value→BH→Prop} (hK:K (PL (std xs)) H):aF x XE [FI xs] H K:=by
 have hl:=ht.1
 have hz:=jS
 refine bK (.cons .fz .nil) ?_
 refine aG YQ ?_;simp only [fC,aB]
 refine au fun Kr hKr=>?_;simp (disch:=omega) only [RA,↓reduceIte,Nat.reduceEqDiff,Nat.reduceBEq,Nat.reduceSub,Nat.reduceAdd,Nat.reduceMul,Nat.reduceLT,Nat.reduceLeDiff,Int.reduceLE,Int.reduceLT,Int.reduceEq,Int.reduceNeg,Int.reduceToNat,Int.reduceMul,Int.reduceAdd,Int.reduceSub,Int.reduceBEq,Int.reduceBNe,reduceCtorEq,RD];refine hKr _ _ ?_;clear hKr Kr;(try simp only [RN,reduceIte]);try refine aj rfl ?_
 refine au fun Kr hKr=>?_;simp (disch:=omega) only [RA,↓reduceIte,Nat.reduceEqDiff,Nat.reduceBEq,Nat.reduceSub,Nat.reduceAdd,Nat.reduceMul,Nat.reduceLT,Nat.reduceLeDiff,Int.reduceLE,Int.reduceLT,Int.reduceEq,Int.reduceNeg,Int.reduceToNat,Int.reduceMul,Int.reduceAdd,Int.reduceSub,Int.reduceBEq,Int.reduceBNe,reduceCtorEq,RD];refine hKr _ _ ?_;clear hKr Kr;(try simp only [RN,reduceIte]);try refine aj rfl ?_
 refine au fun Kr hKr=>?_;simp (disch:=omega) only [RA,↓reduceIte,Nat.reduceEqDiff,Nat.reduceBEq,Nat.reduceSub,Nat.reduceAdd,Nat.reduceMul,Nat.reduceLT,Nat.reduceLeDiff,Int.reduceLE,Int.reduceLT,Int.reduceEq,Int.reduceNeg,Int.reduceToNat,Int.reduceMul,Int.reduceAdd,Int.reduceSub,Int.reduceBEq,Int.reduceBNe,reduceCtorEq,RD];refine hKr _ _ ?_;clear hKr Kr;(try simp only [RN,reduceIte]);try refine aj rfl ?_
 refine aW (fun m f H'=> ∃i p t,i≤xs.length∧m=xs.length-i∧kJ xs i=(p,t)∧f 2=P 0 0∧f 3=P 1 0∧f 4=I t∧f 9=FI xs∧f 10=I xs.length∧f 11=I i∧H'=[some (List.replicate 16 (.int .u8 0)),some (p.map N8)]) (xs.length) ?_ ?_
 ·exact ⟨_,_,Gh.refl,0,fQ,0,by omega,by omega,rfl,ah,ah,ah,ah,ah,ah,rfl⟩
 ·rintro m f H' R ⟨i,p,t,hi,rfl,hst,g2,g3,g4,g9,g10,g11,rfl⟩ hN hX hR hE
  simp only [fC.l1,aB]
  have hok:=Fh ht hi
  rw [hst] at hok
  have hlp:=hok.len
  refine au fun Kr hKr=>?_;simp (disch:=omega) only [RA,↓reduceIte,Nat.reduceEqDiff,Nat.reduceBEq,Nat.reduceSub,Nat.reduceAdd,Nat.reduceMul,Nat.reduceLT,Nat.reduceLeDiff,Int.reduceLE,Int.reduceLT,Int.reduceEq,Int.reduceNeg,Int.reduceToNat,Int.reduceMul,Int.reduceAdd,Int.reduceSub,Int.reduceBEq,Int.reduceBNe,reduceCtorEq,RD,g10,g11];refine hKr _ _ ?_;clear hKr Kr;(try simp only [RN,reduceIte]);try refine aj rfl ?_
  refine eY (p:=i<xs.length) (by simp only [RA,↓reduceIte,Nat.reduceEqDiff,Nat.reduceBEq,Nat.reduceSub,Nat.reduceAdd,Nat.reduceMul,Nat.reduceLT,Nat.reduceLeDiff,Int.reduceLE,Int.reduceLT,Int.reduceEq,Int.reduceNeg,Int.reduceToNat,Int.reduceMul,Int.reduceAdd,Int.reduceSub,Int.reduceBEq,Int.reduceBNe,reduceCtorEq]<;>rfl) (by (try simp only [RB])<;>first|done|exact Iff.rfl|omega|simp) (fun hc=>?_) (fun hc=>?_)<;>(try simp only [RN,reduceIte])<;>(try refine aj rfl ?_)
  ·have hil:i<xs.length:=by assumption
   obtain ⟨e0,e1,e2⟩:=BZ ht hil
   have hle:=Fg ht (i:=i+1) (by omega)
   have hst1:kJ xs (i+1)=(ni p t (elN xs i) (elN xs i),t+elN xs i):=by rw [kJ,hst]
   rw [hst1] at hle
   generalize elN xs i=q at e0 e1 e2 hle hst1
   have hle':t+q≤16:=hle
   have hq0:(q:Int)≠0:=by omega
   (first|refine fV rfl ?_|refine fZ rfl ?_);(try simp only [RN,reduceIte]);try refine aj rfl ?_
   refine au fun Kr hKr=>?_;simp (disch:=omega) only [RA,↓reduceIte,Nat.reduceEqDiff,Nat.reduceBEq,Nat.reduceSub,Nat.reduceAdd,Nat.reduceMul,Nat.reduceLT,Nat.reduceLeDiff,Int.reduceLE,Int.reduceLT,Int.reduceEq,Int.reduceNeg,Int.reduceToNat,Int.reduceMul,Int.reduceAdd,Int.reduceSub,Int.reduceBEq,Int.reduceBNe,reduceCtorEq,RD,g9,g11];refine hKr _ _ ?_;clear hKr Kr;(try simp only [RN,reduceIte]);try refine aj rfl ?_
   refine au fun Kr hKr=>?_;simp (disch:=omega) only [RA,↓reduceIte,Nat.reduceEqDiff,Nat.reduceBEq,Nat.reduceSub,Nat.reduceAdd,Nat.reduceMul,Nat.reduceLT,Nat.reduceLeDiff,Int.reduceLE,Int.reduceLT,Int.reduceEq,Int.reduceNeg,Int.reduceToNat,Int.reduceMul,Int.reduceAdd,Int.reduceSub,Int.reduceBEq,Int.reduceBNe,reduceCtorEq,RD,e0];refine hKr _ _ ?_;clear hKr Kr;(try simp only [RN,reduceIte]);try refine aj rfl ?_
   refine aW (fun m f H'=> ∃j,j≤q∧m=q-j∧f 2=P 0 0∧f 3=P 1 0∧f 4=I t∧f 6=I q∧f 9=FI xs∧f 10=I xs.length∧f 11=I i∧f 15=I q∧f 16=I j∧H'=[some (List.replicate 16 (.int .u8 0)),some ((ni p t q j).map N8)]) (q) ?_ ?_
   ·exact ⟨_,_,Gh.refl,0,by omega,by omega,ah,ah,ah,ah,ah,ah,ah,ah,ah,rfl⟩
   ·clear g2 g3 g4 g9 g10 g11
    rintro m f H' R1 ⟨j,hj,rfl,g2,g3,g4,g6,g9,g10,g11,g15,g16,rfl⟩ hN1 hX1 hR1 hE1
    simp only [fC.l0,aB]
    have hsl:= @BQ p t q j
    rw [hlp] at hsl
    refine au fun Kr hKr=>?_;simp (disch:=omega) only [RA,↓reduceIte,Nat.reduceEqDiff,Nat.reduceBEq,Nat.reduceSub,Nat.reduceAdd,Nat.reduceMul,Nat.reduceLT,Nat.reduceLeDiff,Int.reduceLE,Int.reduceLT,Int.reduceEq,Int.reduceNeg,Int.reduceToNat,Int.reduceMul,Int.reduceAdd,Int.reduceSub,Int.reduceBEq,Int.reduceBNe,reduceCtorEq,RD,g15,g16];refine hKr _ _ ?_;clear hKr Kr;(try simp only [RN,reduceIte]);try refine aj rfl ?_
    refine eY (p:=j<q) (by simp only [RA,↓reduceIte,Nat.reduceEqDiff,Nat.reduceBEq,Nat.reduceSub,Nat.reduceAdd,Nat.reduceMul,Nat.reduceLT,Nat.reduceLeDiff,Int.reduceLE,Int.reduceLT,Int.reduceEq,Int.reduceNeg,Int.reduceToNat,Int.reduceMul,Int.reduceAdd,Int.reduceSub,Int.reduceBEq,Int.reduceBNe,reduceCtorEq]<;>rfl) (by (try simp only [RB])<;>first|done|exact Iff.rfl|omega|simp) (fun hc=>?_) (fun hc=>?_)<;>(try simp only [RN,reduceIte])<;>(try refine aj rfl ?_)
    ·have hjq:j<q:=by assumption
     have hm:=Nat.mod_lt (j+1) (show 0<q by omega)
     have a1:((t:Nat):Int)+((j:Nat):Int)=((t+j:Nat):Int):=by omega
     have a2:((j:Nat):Int)+1=((j+1:Nat):Int):=by omega
     have a3:(((j+1:Nat):Int)).tmod (q:Int)=(((j+1)%q:Nat):Int):=Int.ofNat_tmod (j+1) q
     have a4:((t:Nat):Int)+(((j+1)%q:Nat):Int)=((t+(j+1)%q:Nat):Int):=by omega
     (first|refine fV rfl ?_|refine fZ rfl ?_);(try simp only [RN,reduceIte]);try refine aj rfl ?_
     refine au fun Kr hKr=>?_;simp (disch:=omega) only [RA,↓reduceIte,Nat.reduceEqDiff,Nat.reduceBEq,Nat.reduceSub,Nat.reduceAdd,Nat.reduceMul,Nat.reduceLT,Nat.reduceLeDiff,Int.reduceLE,Int.reduceLT,Int.reduceEq,Int.reduceNeg,Int.reduceToNat,Int.reduceMul,Int.reduceAdd,Int.reduceSub,Int.reduceBEq,Int.reduceBNe,reduceCtorEq,RD,g16];refine hKr _ _ ?_;clear hKr Kr;(try simp only [RN,reduceIte]);try refine aj rfl ?_
     refine au fun Kr hKr=>?_;simp (disch:=omega) only [RA,↓reduceIte,Nat.reduceEqDiff,Nat.reduceBEq,Nat.reduceSub,Nat.reduceAdd,Nat.reduceMul,Nat.reduceLT,Nat.reduceLeDiff,Int.reduceLE,Int.reduceLT,Int.reduceEq,Int.reduceNeg,Int.reduceToNat,Int.reduceMul,Int.reduceAdd,Int.reduceSub,Int.reduceBEq,Int.reduceBNe,reduceCtorEq,RD,g3,g4,g6,hsl,hq0,a1,a2,a3,a4];refine hKr _ _ ?_;clear hKr Kr;(try simp only [RN,reduceIte]);try refine aj rfl ?_
     refine dN fun Kr hKr=>?_;simp (disch:=omega) only [RA,↓reduceIte,Nat.reduceEqDiff,Nat.reduceBEq,Nat.reduceSub,Nat.reduceAdd,Nat.reduceMul,Nat.reduceLT,Nat.reduceLeDiff,Int.reduceLE,Int.reduceLT,Int.reduceEq,Int.reduceNeg,Int.reduceToNat,Int.reduceMul,Int.reduceAdd,Int.reduceSub,Int.reduceBEq,Int.reduceBNe,reduceCtorEq,RD,g16,a2];refine hKr _ _ ?_;clear hKr Kr
     exact hN1 (q-(j+1)) _ _ _ _ (by omega) Gh.refl ⟨j+1,by omega,rfl,ah,ah,ah,ah,ah,ah,ah,ah,ah,rfl⟩
    ·refine hX1 _ _ ?_
     obtain rfl:j=q:=by omega
     have a1:((t:Nat):Int)+((j:Nat):Int)=((t+j:Nat):Int):=by omega
     refine au fun Kr hKr=>?_;simp (disch:=omega) only [RA,↓reduceIte,Nat.reduceEqDiff,Nat.reduceBEq,Nat.reduceSub,Nat.reduceAdd,Nat.reduceMul,Nat.reduceLT,Nat.reduceLeDiff,Int.reduceLE,Int.reduceLT,Int.reduceEq,Int.reduceNeg,Int.reduceToNat,Int.reduceMul,Int.reduceAdd,Int.reduceSub,Int.reduceBEq,Int.reduceBNe,reduceCtorEq,RD,g4,g6,a1];refine hKr _ _ ?_;clear hKr Kr;(try simp only [RN,reduceIte]);try refine aj rfl ?_
     refine dN fun Kr hKr=>?_;simp (disch:=omega) only [RA,↓reduceIte,Nat.reduceEqDiff,Nat.reduceBEq,Nat.reduceSub,Nat.reduceAdd,Nat.reduceMul,Nat.reduceLT,Nat.reduceLeDiff,Int.reduceLE,Int.reduceLT,Int.reduceEq,Int.reduceNeg,Int.reduceToNat,Int.reduceMul,Int.reduceAdd,Int.reduceSub,Int.reduceBEq,Int.reduceBNe,reduceCtorEq,RD,g11];refine hKr _ _ ?_;clear hKr Kr
     exact hN (xs.length-(i+1)) _ _ _ _ (by omega) Gh.refl ⟨i+1,_,_,by omega,rfl,hst1,ah,ah,ah,ah,ah,ah,rfl⟩
  ·refine hX _ _ ?_
   obtain rfl:i=xs.length:=by omega
   have e:std xs=p:=by rw [std,hst]
   rw [e] at hK
   refine au fun Kr hKr=>?_;simp (disch:=omega) only [RA,↓reduceIte,Nat.reduceEqDiff,Nat.reduceBEq,Nat.reduceSub,Nat.reduceAdd,Nat.reduceMul,Nat.reduceLT,Nat.reduceLeDiff,Int.reduceLE,Int.reduceLT,Int.reduceEq,Int.reduceNeg,Int.reduceToNat,Int.reduceMul,Int.reduceAdd,Int.reduceSub,Int.reduceBEq,Int.reduceBNe,reduceCtorEq,RD,g2,g3,hlp];refine hKr _ _ ?_;clear hKr Kr;(try simp only [RN,reduceIte]);try refine aj rfl ?_
   refine bZ (by simp (disch:=omega) only [RA,↓reduceIte,Nat.reduceEqDiff,Nat.reduceBEq,Nat.reduceSub,Nat.reduceAdd,Nat.reduceMul,Nat.reduceLT,Nat.reduceLeDiff,Int.reduceLE,Int.reduceLT,Int.reduceEq,Int.reduceNeg,Int.reduceToNat,Int.reduceMul,Int.reduceAdd,Int.reduceSub,Int.reduceBEq,Int.reduceBNe,reduceCtorEq,RD,resAll,resOf,g2,hlp];rfl) aY.refl ?_;simp only [tup]
   exact ⟨jr Cb,hK⟩
theorem abL {x:Bool} {H:BH} {K:Value→BH→Prop} (hK:K (PL (std xs)) H):aF x Xx [FI xs] H K:=by
 have hl:=ht.1
 have hz:=jS
 refine bK (.cons .fz .nil) ?_
 refine aG YJ ?_;simp only [gq,aB]
 refine au fun Kr hKr=>?_;simp (disch:=omega) only [RA,↓reduceIte,Nat.reduceEqDiff,Nat.reduceBEq,Nat.reduceSub,Nat.reduceAdd,Nat.reduceMul,Nat.reduceLT,Nat.reduceLeDiff,Int.reduceLE,Int.reduceLT,Int.reduceEq,Int.reduceNeg,Int.reduceToNat,Int.reduceMul,Int.reduceAdd,Int.reduceSub,Int.reduceBEq,Int.reduceBNe,reduceCtorEq,RD];refine hKr _ _ ?_;clear hKr Kr;(try simp only [RN,reduceIte]);try refine aj rfl ?_
 refine au fun Kr hKr=>?_;simp (disch:=omega) only [RA,↓reduceIte,Nat.reduceEqDiff,Nat.reduceBEq,Nat.reduceSub,Nat.reduceAdd,Nat.reduceMul,Nat.reduceLT,Nat.reduceLeDiff,Int.reduceLE,Int.reduceLT,Int.reduceEq,Int.reduceNeg,Int.reduceToNat,Int.reduceMul,Int.reduceAdd,Int.reduceSub,Int.reduceBEq,Int.reduceBNe,reduceCtorEq,RD];refine hKr _ _ ?_;clear hKr Kr;(try simp only [RN,reduceIte]);try refine aj rfl ?_
 refine au fun Kr hKr=>?_;simp (disch:=omega) only [RA,↓reduceIte,Nat.reduceEqDiff,Nat.reduceBEq,Nat.reduceSub,Nat.reduceAdd,Nat.reduceMul,Nat.reduceLT,Nat.reduceLeDiff,Int.reduceLE,Int.reduceLT,Int.reduceEq,Int.reduceNeg,Int.reduceToNat,Int.reduceMul,Int.reduceAdd,Int.reduceSub,Int.reduceBEq,Int.reduceBNe,reduceCtorEq,RD];refine hKr _ _ ?_;clear hKr Kr;(try simp only [RN,reduceIte]);try refine aj rfl ?_
 refine aW (fun m f H'=> ∃i p t,i≤xs.length∧m=xs.length-i∧kJ xs i=(p,t)∧f 0=FI xs∧f 2=P 0 0∧f 3=P 1 0∧f 4=I t∧f 5=I i∧H'=[some (List.replicate 16 (.int .u8 0)),some (p.map N8)]) (xs.length) ?_ ?_
 ·exact ⟨_,_,Gh.refl,0,fQ,0,by omega,by omega,rfl,ah,ah,ah,ah,ah,rfl⟩
 ·rintro m f H' R ⟨i,p,t,hi,rfl,hst,g0,g2,g3,g4,g5,rfl⟩ hN hX hR hE
  simp only [gq.l1,aB]
  have hok:=Fh ht hi
  rw [hst] at hok
  have hlp:=hok.len
  refine au fun Kr hKr=>?_;simp (disch:=omega) only [RA,↓reduceIte,Nat.reduceEqDiff,Nat.reduceBEq,Nat.reduceSub,Nat.reduceAdd,Nat.reduceMul,Nat.reduceLT,Nat.reduceLeDiff,Int.reduceLE,Int.reduceLT,Int.reduceEq,Int.reduceNeg,Int.reduceToNat,Int.reduceMul,Int.reduceAdd,Int.reduceSub,Int.reduceBEq,Int.reduceBNe,reduceCtorEq,RD,g0,g5];refine hKr _ _ ?_;clear hKr Kr;(try simp only [RN,reduceIte]);try refine aj rfl ?_
  refine eY (p:=i<xs.length) (by simp only [RA,↓reduceIte,Nat.reduceEqDiff,Nat.reduceBEq,Nat.reduceSub,Nat.reduceAdd,Nat.reduceMul,Nat.reduceLT,Nat.reduceLeDiff,Int.reduceLE,Int.reduceLT,Int.reduceEq,Int.reduceNeg,Int.reduceToNat,Int.reduceMul,Int.reduceAdd,Int.reduceSub,Int.reduceBEq,Int.reduceBNe,reduceCtorEq]<;>rfl) (by (try simp only [RB])<;>first|done|exact Iff.rfl|omega|simp) (fun hc=>?_) (fun hc=>?_)<;>(try simp only [RN,reduceIte])<;>(try refine aj rfl ?_)
  ·have hil:i<xs.length:=by assumption
   obtain ⟨e0,e1,e2⟩:=BZ ht hil
   have hle:=Fg ht (i:=i+1) (by omega)
   have hst1:kJ xs (i+1)=(ni p t (elN xs i) (elN xs i),t+elN xs i):=by rw [kJ,hst]
   rw [hst1] at hle
   generalize elN xs i=q at e0 e1 e2 hle hst1
   have hle':t+q≤16:=hle
   have hq0:(q:Int)≠0:=by omega
   (first|refine fV rfl ?_|refine fZ rfl ?_);(try simp only [RN,reduceIte]);try refine aj rfl ?_
   refine au fun Kr hKr=>?_;simp (disch:=omega) only [RA,↓reduceIte,Nat.reduceEqDiff,Nat.reduceBEq,Nat.reduceSub,Nat.reduceAdd,Nat.reduceMul,Nat.reduceLT,Nat.reduceLeDiff,Int.reduceLE,Int.reduceLT,Int.reduceEq,Int.reduceNeg,Int.reduceToNat,Int.reduceMul,Int.reduceAdd,Int.reduceSub,Int.reduceBEq,Int.reduceBNe,reduceCtorEq,RD];refine hKr _ _ ?_;clear hKr Kr;(try simp only [RN,reduceIte]);try refine aj rfl ?_
   refine aW (fun m f H'=> ∃j,j≤q∧m=q-j∧f 0=FI xs∧f 2=P 0 0∧f 3=P 1 0∧f 4=I t∧f 5=I i∧f 6=I j∧H'=[some (List.replicate 16 (.int .u8 0)),some ((ni p t q j).map N8)]) (q) ?_ ?_
   ·exact ⟨_,_,Gh.refl,0,by omega,by omega,ah,ah,ah,ah,ah,ah,rfl⟩
   ·clear g0 g2 g3 g4 g5
    rintro m f H' R1 ⟨j,hj,rfl,g0,g2,g3,g4,g5,g6,rfl⟩ hN1 hX1 hR1 hE1
    simp only [gq.l0,aB]
    have hsl:= @BQ p t q j
    rw [hlp] at hsl
    refine au fun Kr hKr=>?_;simp (disch:=omega) only [RA,↓reduceIte,Nat.reduceEqDiff,Nat.reduceBEq,Nat.reduceSub,Nat.reduceAdd,Nat.reduceMul,Nat.reduceLT,Nat.reduceLeDiff,Int.reduceLE,Int.reduceLT,Int.reduceEq,Int.reduceNeg,Int.reduceToNat,Int.reduceMul,Int.reduceAdd,Int.reduceSub,Int.reduceBEq,Int.reduceBNe,reduceCtorEq,RD,g0,g5,g6,e0];refine hKr _ _ ?_;clear hKr Kr;(try simp only [RN,reduceIte]);try refine aj rfl ?_
    refine eY (p:=j<q) (by simp only [RA,↓reduceIte,Nat.reduceEqDiff,Nat.reduceBEq,Nat.reduceSub,Nat.reduceAdd,Nat.reduceMul,Nat.reduceLT,Nat.reduceLeDiff,Int.reduceLE,Int.reduceLT,Int.reduceEq,Int.reduceNeg,Int.reduceToNat,Int.reduceMul,Int.reduceAdd,Int.reduceSub,Int.reduceBEq,Int.reduceBNe,reduceCtorEq]<;>rfl) (by (try simp only [RB])<;>first|done|exact Iff.rfl|omega|simp) (fun hc=>?_) (fun hc=>?_)<;>(try simp only [RN,reduceIte])<;>(try refine aj rfl ?_)
    ·have hjq:j<q:=by assumption
     have hm:=Nat.mod_lt (j+1) (show 0<q by omega)
     have a1:((t:Nat):Int)+((j:Nat):Int)=((t+j:Nat):Int):=by omega
     have a2:((j:Nat):Int)+1=((j+1:Nat):Int):=by omega
     have a3:(((j+1:Nat):Int)).tmod (q:Int)=(((j+1)%q:Nat):Int):=Int.ofNat_tmod (j+1) q
     have a4:((t:Nat):Int)+(((j+1)%q:Nat):Int)=((t+(j+1)%q:Nat):Int):=by omega
     (first|refine fV rfl ?_|refine fZ rfl ?_);(try simp only [RN,reduceIte]);try refine aj rfl ?_
     refine au fun Kr hKr=>?_;simp (disch:=omega) only [RA,↓reduceIte,Nat.reduceEqDiff,Nat.reduceBEq,Nat.reduceSub,Nat.reduceAdd,Nat.reduceMul,Nat.reduceLT,Nat.reduceLeDiff,Int.reduceLE,Int.reduceLT,Int.reduceEq,Int.reduceNeg,Int.reduceToNat,Int.reduceMul,Int.reduceAdd,Int.reduceSub,Int.reduceBEq,Int.reduceBNe,reduceCtorEq,RD,g0,g3,g4,g5,g6,e0,hsl,hq0,a1,a2,a3,a4];refine hKr _ _ ?_;clear hKr Kr;(try simp only [RN,reduceIte]);try refine aj rfl ?_
     refine dN fun Kr hKr=>?_;simp (disch:=omega) only [RA,↓reduceIte,Nat.reduceEqDiff,Nat.reduceBEq,Nat.reduceSub,Nat.reduceAdd,Nat.reduceMul,Nat.reduceLT,Nat.reduceLeDiff,Int.reduceLE,Int.reduceLT,Int.reduceEq,Int.reduceNeg,Int.reduceToNat,Int.reduceMul,Int.reduceAdd,Int.reduceSub,Int.reduceBEq,Int.reduceBNe,reduceCtorEq,RD,g6,a2];refine hKr _ _ ?_;clear hKr Kr
     exact hN1 (q-(j+1)) _ _ _ _ (by omega) Gh.refl ⟨j+1,by omega,rfl,ah,ah,ah,ah,ah,ah,rfl⟩
    ·refine hX1 _ _ ?_
     obtain rfl:j=q:=by omega
     have a1:((t:Nat):Int)+((j:Nat):Int)=((t+j:Nat):Int):=by omega
     refine au fun Kr hKr=>?_;simp (disch:=omega) only [RA,↓reduceIte,Nat.reduceEqDiff,Nat.reduceBEq,Nat.reduceSub,Nat.reduceAdd,Nat.reduceMul,Nat.reduceLT,Nat.reduceLeDiff,Int.reduceLE,Int.reduceLT,Int.reduceEq,Int.reduceNeg,Int.reduceToNat,Int.reduceMul,Int.reduceAdd,Int.reduceSub,Int.reduceBEq,Int.reduceBNe,reduceCtorEq,RD,g0,g4,g5,e0,a1];refine hKr _ _ ?_;clear hKr Kr;(try simp only [RN,reduceIte]);try refine aj rfl ?_
     refine dN fun Kr hKr=>?_;simp (disch:=omega) only [RA,↓reduceIte,Nat.reduceEqDiff,Nat.reduceBEq,Nat.reduceSub,Nat.reduceAdd,Nat.reduceMul,Nat.reduceLT,Nat.reduceLeDiff,Int.reduceLE,Int.reduceLT,Int.reduceEq,Int.reduceNeg,Int.reduceToNat,Int.reduceMul,Int.reduceAdd,Int.reduceSub,Int.reduceBEq,Int.reduceBNe,reduceCtorEq,RD,g5];refine hKr _ _ ?_;clear hKr Kr
     exact hN (xs.length-(i+1)) _ _ _ _ (by omega) Gh.refl ⟨i+1,_,_,by omega,rfl,hst1,ah,ah,ah,ah,ah,rfl⟩
  ·refine hX _ _ ?_
   obtain rfl:i=xs.length:=by omega
   have e:std xs=p:=by rw [std,hst]
   rw [e] at hK
   refine au fun Kr hKr=>?_;simp (disch:=omega) only [RA,↓reduceIte,Nat.reduceEqDiff,Nat.reduceBEq,Nat.reduceSub,Nat.reduceAdd,Nat.reduceMul,Nat.reduceLT,Nat.reduceLeDiff,Int.reduceLE,Int.reduceLT,Int.reduceEq,Int.reduceNeg,Int.reduceToNat,Int.reduceMul,Int.reduceAdd,Int.reduceSub,Int.reduceBEq,Int.reduceBNe,reduceCtorEq,RD,g2,g3,hlp];refine hKr _ _ ?_;clear hKr Kr;(try simp only [RN,reduceIte]);try refine aj rfl ?_
   refine bZ (by simp (disch:=omega) only [RA,↓reduceIte,Nat.reduceEqDiff,Nat.reduceBEq,Nat.reduceSub,Nat.reduceAdd,Nat.reduceMul,Nat.reduceLT,Nat.reduceLeDiff,Int.reduceLE,Int.reduceLT,Int.reduceEq,Int.reduceNeg,Int.reduceToNat,Int.reduceMul,Int.reduceAdd,Int.reduceSub,Int.reduceBEq,Int.reduceBNe,reduceCtorEq,RD,resAll,resOf,g2,hlp];rfl) aY.refl ?_;simp only [tup]
   exact ⟨jr Cb,hK⟩
end
section
variable {x:Bool} {H:BH} {K:Value→BH→Prop}
end
end Go.Bm
namespace Go.Bm
open Go Go.Am
section
variable {H:BH} {K:Value→BH→Prop} {x:Bool}
end
abbrev lV (p c:Int):List Value:=[I p,I c, .slice none 0 0, .bool false]
abbrev LX (p c:Int):Value:=aggL (lV p c)
section
variable {p c p' c':Int} {H:BH} {b:Nat}
theorem LY:getN (some 4) (lV p c) 0=some (LX p c):=rfl
theorem LZ:getN none (lV p c) 0=some (I p):=rfl
theorem L6:getN none (lV p c) 1=some (I c):=rfl
theorem L8:getN none (lV p c) 3=some (.bool false):=rfl
theorem L9:dV (some (lV p c)) H b 0 4 (LX p' c')=some (undef,H.set b (some (lV p' c'))):=(oV (vs:=lV p' c') (n:=4) rfl rfl (by simp)).trans rfl
theorem Mc {y:Int}:dV (some (lV p c)) H b 0 1 (.int .i64 y)=some (undef,H.set b (some (lV y c))):=by rw [rC (by simp)];rfl
theorem Md {y:Int}:dV (some (lV p c)) H b 1 1 (.int .i64 y)=some (undef,H.set b (some (lV p y))):=by rw [rC (by simp)];rfl
theorem Me:fillL (lV 0 0) [(3,1, .bool false)]=some (lV 0 0):=rfl
end
theorem MB {a b c d e:Value} {l:List Value}:frame0 (a::b::c::d::e::l) 4=e:=rfl
theorem MC {a b c d e g:Value} {l:List Value}:frame0 (a::b::c::d::e::g::l) 5=g:=rfl
theorem R4:(type_of% @MB)∧(type_of% @MC)∧(type_of% @LY)∧(type_of% @LZ)∧(type_of% @L6)∧(type_of% @L8)∧(type_of% @L9)∧(type_of% @Mc)∧(type_of% @Md)∧(type_of% @Me):=⟨@MB, @MC, @LY, @LZ, @L6, @L8, @L9, @Mc, @Md, @Me⟩
section
variable {black:List Nat} {n:Nat} {xss:List (List Int)} {H:BH} {K:Value→BH→Prop} {x:Bool}
def kD:Nat→Nat
 |0=>1
 |m+1=>(m+1)*kD m
theorem Fj {n:Nat}: ∀(m:Nat) {p:List Nat} {k:Nat},(sw n m p k).length=kD m
 |0,p,k=>rfl
 |m+1,p,k=>by
  have key: ∀l:List Nat,(l.flatMap fun d=>sw n m (ny p k (k+d)) (k+1)).length=l.length*kD m:=by
   intro l
   induction l with
   |nil=>simp
   |cons d l ih=>rw [List.flatMap_cons,List.length_append,ih,Fj m,List.length_cons,Nat.add_mul];omega
  rw [sw,key,List.length_range,kD]
end
end Go.Bm
namespace Go.Bm
open Go Go.Am
section
variable {xss:List (List Int)} (hp:Fq xss)
include hp
end
section
variable {xss:List (List Int)} {H:BH} {K:Value→BH→Prop} {x:Bool}
end
end Go.Bm
namespace Go.Bm
open Go Go.Am
theorem abM {Q:Ex→Fr→BH→Prop} {f:Fr} {H:BH} {k:Nat} {c:ACode} (h:T k (.seq c .skip) Q f H):T k c Q f H:=nZ (fun _ _ _ _ _ h=>by
 cases h with
 |seqN ha hb=>cases hb;exact ha
 |seqX ha hne=>exact ha) h
def Cc (v:Value) (k:Nat→Array Value→Prop):Prop:=
 match v with
 | .func (.func cap) ⟨[]⟩ caps=>k cap caps
 | _=>False
theorem uV {m:Nat} {caps:Array Value} {k:Nat→Array Value→Prop}:Cc (.func (.func m) #[] caps) k=k m caps:=rfl
theorem uX {d t:Option Nat} {r:List AOper} {K:Fr→BH→Prop} {f:Fr} {H:BH} {g:Opd} {as:List Opd}:
  opsT d (⟨t, .callv g as,none⟩::r) K f H=Cc (ev f g) fun cap caps=>aF (gX d) cap (as.map (ev f)++caps.toList) H (iE d t r K f):=by
 rw [opsT]
 simp only [rD]
 generalize ev f g=v
 cases v<;>try rfl
 rename_i fid first caps
 cases fid<;>try rfl
 obtain ⟨first⟩:=first
 cases first with
 |nil=>simp [Cc];rfl
 |cons a l=>simp [Cc]
abbrev clo (g:Nat) (caps:List Value):Value:= .func (.func g) #[] ⟨caps⟩
theorem E9 {ns:List Nat} {xs:List Nat}:(xs.map N8).map (ren ns)=xs.map N8:=by
 rw [List.map_map]
 exact List.map_congr_left fun x _=>rfl
theorem abA {ns:List Nat} {xs:List Bool}:(xs.map B).map (ren ns)=xs.map B:=by
 rw [List.map_map]
 exact List.map_congr_left fun x _=>rfl
theorem Lp {ns:List Nat} {g:Nat} {caps:List Value}:ren ns (clo g caps)=clo g (caps.map (og ns)):=by
 show Value.func (.func g) #[] ((⟨caps⟩:Array Value).map (og ns))=_
 rw [List.map_toArray]
theorem Ls {k j:Nat} (h:j<k):(List.range k)[j]? =some j:=by rw [List.getElem?_range h]
section
variable {g1 n many:Nat} {xss:List (List Int)} {black p:List Nat} {used:List Bool}
end
section
variable {g1 n:Nat} {xss:List (List Int)} {black:List Nat} {d1:List Nat→Bool}
def MF (g1 n:Nat) (black:List Nat) (d1:List Nat→Bool):Prop:=
 ∀(many:Nat) (w:List Nat) (H:BH) (K:Value→BH→Prop),PQ n w→many<1000000000→blk H 0=some [I many]→(∀ex,K (.tuple ⟨[]⟩) (H.set 0 (some [I ((many+if d1 w then 1 else 0:Nat):Int)])++ex))→aF false g1 [DV n black w,P 0 0] H K
theorem uY {l:List Value}:(⟨l⟩:Array Value).toList=l:=rfl
variable (hdo:MF g1 n black d1) (hb:By 16 black) (hbp:Perm black n) (h3:xss.length=3) (hll: ∀xs∈xss,xs.length≤1048576)
include hdo hb hbp h3 hll
omit hdo hb hbp h3 hll in
theorem MG {n:Nat}: ∀(m:Nat) {pre:List Nat},1≤n∧n≤16→rE n pre→pre.length+m=n→(lv n m pre).length≤n^m
 |0,pre,_,_,_=>by simp [lv]
 |m+1,pre,hn,h,hm=>by
  have key: ∀l:List Nat,(∀x∈l,x<n)→(l.flatMap fun x=>if x∈pre then [] else lv n m (pre++[x])).length≤l.length*n^m:=by
   intro l
   induction l with
   |nil=>intro _;simp
   |cons x l ih=>
    intro hx
    rw [List.flatMap_cons,List.length_append,List.length_cons,Nat.add_mul]
    have h1:=ih fun y hy=>hx y (by simp [hy])
    have h2:(if x∈pre then [] else lv n m (pre++[x])).length≤n^m:=by
     split
     ·simp
     ·rename_i hxp
      exact MG m hn ⟨by
       rw [List.nodup_append]
       exact ⟨h.fM,by simp,fun a ha b hb e=>by rw [List.mem_singleton] at hb;subst hb;subst e;exact hxp ha⟩,fun y hy=>by
       rcases List.mem_append.1 hy with hy|hy
       ·exact h.lt y hy
       ·rw [List.mem_singleton] at hy;subst hy;exact hx y (by simp),by simp;omega⟩ (by simp;omega)
    omega
  have:=key (List.range n) fun x hx=>List.mem_range.1 hx
  rw [List.length_range] at this
  rw [lv,Nat.pow_succ,Nat.mul_comm]
  exact this
omit hdo hb hbp h3 hll in
theorem abN {used:List Bool} {y:Nat} (h:bl used y=false):(used.set y true).set y false=used:=by
 apply List.ext_getElem?
 intro i
 rw [List.set_set,List.getElem?_set]
 by_cases e:y=i
 ·subst e
  rw [if_pos rfl]
  by_cases hl:y<used.length
  ·rw [if_pos hl,List.getElem?_eq_getElem hl]
   simp only [bl,List.getD,List.getElem?_eq_getElem hl,Option.getD_some] at h
   rw [h]
  ·rw [if_neg hl,List.getElem?_eq_none (by omega)]
 ·rw [if_neg e]
end
end Go.Bm
namespace Go.Bm
open Go Go.Am
theorem abC {x:Bool} {n:Int} {b w:List Nat} {H:BH} {K:Value→BH→Prop} (hb:By 16 b) (hw:By 16 w) (h1:Perm b n) (h2:Perm w n) (hK:K (.bool (decide (aX n b w))) H):aF x XK [DV n b w] H K:=by
 have hlb:=hb.len
 have fG:=hw.len
 refine bK (by simp only [RH]) ?_
 refine aG Y1 ?_;simp only [qQ,aB]
 refine au fun Kr hKr=>?_;simp (disch:=omega) only [RA,↓reduceIte,Nat.reduceEqDiff,Nat.reduceBEq,Nat.reduceSub,Nat.reduceAdd,Nat.reduceMul,Nat.reduceLT,Nat.reduceLeDiff,Int.reduceLE,Int.reduceLT,Int.reduceEq,Int.reduceNeg,Int.reduceToNat,Int.reduceMul,Int.reduceAdd,Int.reduceSub,Int.reduceBEq,Int.reduceBNe,reduceCtorEq,RD];refine hKr _ _ ?_;clear hKr Kr;(try simp only [RN,reduceIte]);try refine aj rfl ?_
 refine au fun Kr hKr=>?_;simp (disch:=omega) only [RA,↓reduceIte,Nat.reduceEqDiff,Nat.reduceBEq,Nat.reduceSub,Nat.reduceAdd,Nat.reduceMul,Nat.reduceLT,Nat.reduceLeDiff,Int.reduceLE,Int.reduceLT,Int.reduceEq,Int.reduceNeg,Int.reduceToNat,Int.reduceMul,Int.reduceAdd,Int.reduceSub,Int.reduceBEq,Int.reduceBNe,reduceCtorEq,RD,oh,sN,sO,abO hlb fG]
 have h32:2*16=(b.map N8++w.map N8).length:=by simp [hlb,fG]
 refine uZ 1 rfl (by simp only [RH]) ?_;simp only [RZ,nC h32]
 rw [abP]
 refine abQ (by simp) (by simp [hlb,fG]) (by simp;exact ⟨h1.Ce hb.len,h2.Ce hw.len⟩) ?_
 simp (disch:=omega) only [RA,↓reduceIte,Nat.reduceEqDiff,Nat.reduceBEq,Nat.reduceSub,Nat.reduceAdd,Nat.reduceMul,Nat.reduceLT,Nat.reduceLeDiff,Int.reduceLE,Int.reduceLT,Int.reduceEq,Int.reduceNeg,Int.reduceToNat,Int.reduceMul,Int.reduceAdd,Int.reduceSub,Int.reduceBEq,Int.reduceBNe,reduceCtorEq,RD,oh]
 refine hKr _ _ ?_;clear hKr Kr;(try simp only [bW,dH,dG]);(try simp only [RN,reduceIte]);try refine aj rfl ?_
 refine bZ (by simp (disch:=omega) only [RA,↓reduceIte,Nat.reduceEqDiff,Nat.reduceBEq,Nat.reduceSub,Nat.reduceAdd,Nat.reduceMul,Nat.reduceLT,Nat.reduceLeDiff,Int.reduceLE,Int.reduceLT,Int.reduceEq,Int.reduceNeg,Int.reduceToNat,Int.reduceMul,Int.reduceAdd,Int.reduceSub,Int.reduceBEq,Int.reduceBNe,reduceCtorEq,RD,resAll,resOf];rfl) aY.refl ?_;simp only [tup]
 exact ⟨NN.bool,by simpa [aX,h1,h2,reach] using hK⟩
section
variable {n:Nat} {black:List Nat}
end
section
variable {g1 n:Nat} {xss:List (List Int)} {black:List Nat} {d1:List Nat→Bool}
variable (hdo:MF g1 n black d1) (hb:By 16 black) (hbp:Perm black n) (h3:xss.length=3) (hll: ∀xs∈xss,xs.length≤1048576)
include hdo hb hbp h3 hll
end
section
variable {g1:Nat} {xss:List (List Int)} {d1:List Nat→Bool}
end
section
variable {xss:List (List Int)} {H:BH} {K:Value→BH→Prop} {x:Bool}
end
end Go.Bm
namespace Go.Bm.Q5
open Go Go.Am Go.Bm
def uS:Value:=clo KF [P 5 0,P 6 0,P 7 0,P 8 0,P 9 0]
def PM {σ:Type} (B0 B1 B2 B3 B4:σ→Option (List Value)) (s:σ):BH:=[B0 s,B1 s,B2 s,B3 s,B4 s]
def EM {σ:Type} (B0 B1 B2 B3 B4:σ→Option (List Value)) (g1:Nat) (caps:List Value) (n:Nat) (s:σ) (p:List Nat) (used:List Bool):BH:=
 [B0 s,B1 s,B2 s,B3 s,B4 s,some [I n],some [clo g1 caps],some (p.map N8),some (used.map B),some [uS]]
section
variable {σ:Type} {B0 B1 B2 B3 B4:σ→Option (List Value)} {g1 n:Nat} {caps:List Value} {step:σ→List Nat→σ}
theorem abR (hr: ∀s,ng (List.range 5) (PM B0 B1 B2 B3 B4 s)=PM B0 B1 B2 B3 B4 s) {s:σ} {p:List Nat} {used:List Bool}:ng (List.range 5) (EM B0 B1 B2 B3 B4 g1 caps n s p used)=PM B0 B1 B2 B3 B4 s:=by
 rw [←hr s]
 rfl
def Lr (B0 B1 B2 B3 B4:σ→Option (List Value)) (g1:Nat) (caps:List Value) (n:Nat) (step:σ→List Nat→σ):Prop:=
 ∀(s:σ) (w p:List Nat) (used:List Bool) (K:Value→BH→Prop),PQ n w→K (.tuple ⟨[]⟩) (EM B0 B1 B2 B3 B4 g1 caps n (step s w) p used)→aF false g1 (PL w::caps) (EM B0 B1 B2 B3 B4 g1 caps n s p used) K
variable (hdo:Lr B0 B1 B2 B3 B4 g1 caps n step)
include hdo
theorem abS (hn0:1≤n) (MH:n≤8): ∀(m:Nat) {i:Nat} {pre p:List Nat} {used:List Bool} {s:σ} {K:Value→BH→Prop},i=pre.length→i+m=n→rE n pre→p.length=16→p.take i=pre→(∀j,n≤j→nl p j=0)→(∀j,nl p j<256)→
  used.length=16→(∀y,y<n→bl used y=decide (y∈pre))→
  (∀p',p'.length=16→p'.take i=pre→(∀j,n≤j→nl p' j=0)→(∀j,nl p' j<256)→K (.tuple ⟨[]⟩) (EM B0 B1 B2 B3 B4 g1 caps n ((lv n m pre).foldl step s) p' used))→
  aF false KF [I i,P 5 0,P 6 0,P 7 0,P 8 0,P 9 0] (EM B0 B1 B2 B3 B4 g1 caps n s p used) K:=by
 have gone: ∀{v:Value},getN none [v] 0=some v:=rfl
 intro m
 induction m with
 |zero=>
  intro i pre p used s K hi him hpre hlp htk hz hlt yG hus hK
  obtain rfl:i=n:=by omega
  have hpq:PQ i p:=by
   have:p∈lv i 0 pre:=by
    rw [lv,List.mem_singleton]
    refine vg (by rw [hlp,Fv (by omega)]) fun j hj=>?_
    rw [vk]
    by_cases hjn:j<pre.length
    ·rw [if_pos hjn,←htk]
     simp [nl,List.getD,List.getElem?_take,show j<i by omega]
    ·rw [if_neg hjn]
     exact hz j (by omega)
   exact ((sQ (by omega) 0 hpre (by omega) p).1 this).1
  have abT:lv i 0 pre=[p]:=by
   have:p∈lv i 0 pre:=(sQ (by omega) 0 hpre (by omega) p).2 ⟨hpq,by rw [←hi];exact htk⟩
   rw [lv,List.mem_singleton] at this
   rw [lv,this]
  have MI:=hK p hlp htk hz hlt
  rw [abT,List.foldl_cons,List.foldl_nil] at MI
  refine aG KT ?_;simp only [gy,aB]
  unfold EM
  refine au fun Kr hKr=>?_;simp (disch:=omega) only [RA,↓reduceIte,Nat.reduceEqDiff,Nat.reduceBEq,Nat.reduceSub,Nat.reduceAdd,Nat.reduceMul,Nat.reduceLT,Nat.reduceLeDiff,Int.reduceLE,Int.reduceLT,Int.reduceEq,Int.reduceNeg,Int.reduceToNat,Int.reduceMul,Int.reduceAdd,Int.reduceSub,Int.reduceBEq,Int.reduceBNe,reduceCtorEq,RD,R4,gone];refine hKr _ _ ?_;clear hKr Kr;(try simp only [RN,reduceIte]);try refine aj rfl ?_
  refine dY (t:=true) (by simp (disch:=omega) only [RA,↓reduceIte,Nat.reduceEqDiff,Nat.reduceBEq,Nat.reduceSub,Nat.reduceAdd,Nat.reduceMul,Nat.reduceLT,Nat.reduceLeDiff,Int.reduceLE,Int.reduceLT,Int.reduceEq,Int.reduceNeg,Int.reduceToNat,Int.reduceMul,Int.reduceAdd,Int.reduceSub,Int.reduceBEq,Int.reduceBNe,reduceCtorEq,RD]) ?_;(try simp only [RN,reduceIte]);try refine aj rfl ?_
  refine au fun Kr hKr=>?_;simp (disch:=omega) only [RA,↓reduceIte,Nat.reduceEqDiff,Nat.reduceBEq,Nat.reduceSub,Nat.reduceAdd,Nat.reduceMul,Nat.reduceLT,Nat.reduceLeDiff,Int.reduceLE,Int.reduceLT,Int.reduceEq,Int.reduceNeg,Int.reduceToNat,Int.reduceMul,Int.reduceAdd,Int.reduceSub,Int.reduceBEq,Int.reduceBNe,reduceCtorEq,RD,R4,gone,hlp,uX,uV,uY]
  refine hdo s p p used _ hpq ?_
  unfold EM
  simp (disch:=omega) only [RA,↓reduceIte,Nat.reduceEqDiff,Nat.reduceBEq,Nat.reduceSub,Nat.reduceAdd,Nat.reduceMul,Nat.reduceLT,Nat.reduceLeDiff,Int.reduceLE,Int.reduceLT,Int.reduceEq,Int.reduceNeg,Int.reduceToNat,Int.reduceMul,Int.reduceAdd,Int.reduceSub,Int.reduceBEq,Int.reduceBNe,reduceCtorEq,RD]
  refine hKr _ _ ?_;clear hKr Kr;(try simp only [bW,dH,dG]);(try simp only [RN,reduceIte]);try refine aj rfl ?_
  refine bZ (by simp (disch:=omega) only [RA,↓reduceIte,Nat.reduceEqDiff,Nat.reduceBEq,Nat.reduceSub,Nat.reduceAdd,Nat.reduceMul,Nat.reduceLT,Nat.reduceLeDiff,Int.reduceLE,Int.reduceLT,Int.reduceEq,Int.reduceNeg,Int.reduceToNat,Int.reduceMul,Int.reduceAdd,Int.reduceSub,Int.reduceBEq,Int.reduceBNe,reduceCtorEq,RD,resAll,resOf];rfl) aY.refl ?_;simp only [tup]
  exact MI
 |succ m ih=>
  intro i pre p used s K hi him hpre hlp htk hz hlt yG hus hK
  have hin:i<n:=by omega
  have agw:n≤16:=by omega
  obtain ⟨g,hg⟩: ∃g:Nat→List (List Nat),g=fun y=>if y∈pre then [] else lv n m (pre++[y]):=⟨_,rfl⟩
  obtain ⟨A,hA⟩: ∃A:Nat→σ,A=fun y=>((List.range y).flatMap g).foldl step s:=⟨_,rfl⟩
  have hAs: ∀y,A (y+1)=(g y).foldl step (A y):=fun y=>by
   rw [hA]
   simp only [List.range_succ,List.flatMap_append,List.foldl_append,List.flatMap_cons,List.flatMap_nil,List.append_nil]
  have hpre': ∀y,y<n→y∉pre→rE n (pre++[y]):=fun y hy hyp=>⟨by
   rw [List.nodup_append]
   exact ⟨hpre.fM,by simp,fun a ha b hb e=>by rw [List.mem_singleton] at hb;subst hb;subst e;exact hyp ha⟩,fun z hz=>by
   rcases List.mem_append.1 hz with hz|hz
   ·exact hpre.lt z hz
   ·rw [List.mem_singleton] at hz;subst hz;exact hy,by simp;omega⟩
  have hA0:A 0=s:=by rw [hA];rfl
  have hAe:A n=(lv n (m+1) pre).foldl step s:=by rw [hA,hg];rfl
  refine aG KT ?_;simp only [gy,aB]
  unfold EM
  have hne: ¬(i:Int)=n:=by omega
  refine au fun Kr hKr=>?_;simp (disch:=omega) only [RA,↓reduceIte,Nat.reduceEqDiff,Nat.reduceBEq,Nat.reduceSub,Nat.reduceAdd,Nat.reduceMul,Nat.reduceLT,Nat.reduceLeDiff,Int.reduceLE,Int.reduceLT,Int.reduceEq,Int.reduceNeg,Int.reduceToNat,Int.reduceMul,Int.reduceAdd,Int.reduceSub,Int.reduceBEq,Int.reduceBNe,reduceCtorEq,RD,R4,gone,hne];refine hKr _ _ ?_;clear hKr Kr;(try simp only [RN,reduceIte]);try refine aj rfl ?_
  refine dY (t:=false) (by simp (disch:=omega) only [RA,↓reduceIte,Nat.reduceEqDiff,Nat.reduceBEq,Nat.reduceSub,Nat.reduceAdd,Nat.reduceMul,Nat.reduceLT,Nat.reduceLeDiff,Int.reduceLE,Int.reduceLT,Int.reduceEq,Int.reduceNeg,Int.reduceToNat,Int.reduceMul,Int.reduceAdd,Int.reduceSub,Int.reduceBEq,Int.reduceBNe,reduceCtorEq,RD]) ?_;(try simp only [RN,reduceIte]);try refine aj rfl ?_
  refine au fun Kr hKr=>?_;simp (disch:=omega) only [RA,↓reduceIte,Nat.reduceEqDiff,Nat.reduceBEq,Nat.reduceSub,Nat.reduceAdd,Nat.reduceMul,Nat.reduceLT,Nat.reduceLeDiff,Int.reduceLE,Int.reduceLT,Int.reduceEq,Int.reduceNeg,Int.reduceToNat,Int.reduceMul,Int.reduceAdd,Int.reduceSub,Int.reduceBEq,Int.reduceBNe,reduceCtorEq,RD,gone];refine hKr _ _ ?_;clear hKr Kr;(try simp only [RN,reduceIte]);try refine aj rfl ?_
  refine abM ?_
  refine aW (fun mm f H'=> ∃y p',y≤n∧mm=n-y∧p'.length=16∧p'.take i=pre∧(∀j,n≤j→nl p' j=0)∧(∀j,nl p' j<256)∧f 0=I i∧f 1=P 5 0∧f 2=P 6 0∧f 3=P 7 0∧f 4=P 8 0∧f 5=P 9 0∧f 14=I n∧f 15=I y∧H'=EM B0 B1 B2 B3 B4 g1 caps n (A y) p' used) (n) ?_ ?_
  ·refine ⟨_,_,Gh.refl,0,p,by omega,by omega,hlp,htk,hz,hlt,?_,?_,?_,?_,?_,?_,?_,?_,by rw [hA0];rfl⟩
   all_goals (simp (disch:=omega) only [RA,↓reduceIte,Nat.reduceEqDiff,Nat.reduceBEq,Nat.reduceSub,Nat.reduceAdd,Nat.reduceMul,Nat.reduceLT,Nat.reduceLeDiff,Int.reduceLE,Int.reduceLT,Int.reduceEq,Int.reduceNeg,Int.reduceToNat,Int.reduceMul,Int.reduceAdd,Int.reduceSub,Int.reduceBEq,Int.reduceBNe,reduceCtorEq,R4,RD,RE]<;>rfl)
  ·rintro mm f H' R ⟨y,p',hy,rfl,Ci,FC,hz',hlt',g0,g1',g2,g3,g4,g5,g14,g15,rfl⟩ hN hX hR hE
   simp only [gy.l0,aB]
   refine au fun Kr hKr=>?_;simp (disch:=omega) only [RA,↓reduceIte,Nat.reduceEqDiff,Nat.reduceBEq,Nat.reduceSub,Nat.reduceAdd,Nat.reduceMul,Nat.reduceLT,Nat.reduceLeDiff,Int.reduceLE,Int.reduceLT,Int.reduceEq,Int.reduceNeg,Int.reduceToNat,Int.reduceMul,Int.reduceAdd,Int.reduceSub,Int.reduceBEq,Int.reduceBNe,reduceCtorEq,RD,g14,g15];refine hKr _ _ ?_;clear hKr Kr;(try simp only [RN,reduceIte]);try refine aj rfl ?_
   refine eY (p:=y<n) (by simp only [RA,↓reduceIte,Nat.reduceEqDiff,Nat.reduceBEq,Nat.reduceSub,Nat.reduceAdd,Nat.reduceMul,Nat.reduceLT,Nat.reduceLeDiff,Int.reduceLE,Int.reduceLT,Int.reduceEq,Int.reduceNeg,Int.reduceToNat,Int.reduceMul,Int.reduceAdd,Int.reduceSub,Int.reduceBEq,Int.reduceBNe,reduceCtorEq]<;>rfl) (by (try simp only [RB])<;>first|done|exact Iff.rfl|omega|simp) (fun hc=>?_) (fun hc=>?_)<;>(try simp only [RN,reduceIte])<;>(try refine aj rfl ?_)
   ·have hyn:y<n:=by assumption
    have agx:y<16:=by omega
    have hnext: ∀f' p2,p2.length=16→p2.take i=pre→(∀j,n≤j→nl p2 j=0)→(∀j,nl p2 j<256)→f' 0=I i→f' 1=P 5 0→f' 2=P 6 0→f' 3=P 7 0→f' 4=P 8 0→f' 5=P 9 0→f' 14=I n→f' 15=I y→T 10 gy.r10 R f' (EM B0 B1 B2 B3 B4 g1 caps n (A (y+1)) p2 used):=by
     clear g0 g1' g2 g3 g4 g5 g14 g15
     intro f' p2 q1 q2 q3 q4 g0 g1' g2 g3 g4 g5 g14 g15
     refine dN fun Kr hKr=>?_;simp (disch:=omega) only [RA,↓reduceIte,Nat.reduceEqDiff,Nat.reduceBEq,Nat.reduceSub,Nat.reduceAdd,Nat.reduceMul,Nat.reduceLT,Nat.reduceLeDiff,Int.reduceLE,Int.reduceLT,Int.reduceEq,Int.reduceNeg,Int.reduceToNat,Int.reduceMul,Int.reduceAdd,Int.reduceSub,Int.reduceBEq,Int.reduceBNe,reduceCtorEq,RD,g15];refine hKr _ _ ?_;clear hKr Kr
     refine hN (n-(y+1)) _ _ _ _ (by omega) Gh.refl ⟨y+1,p2,by omega,rfl,q1,q2,q3,q4,?_,?_,?_,?_,?_,?_,?_,?_,rfl⟩
     all_goals (simp (disch:=omega) only [RA,↓reduceIte,Nat.reduceEqDiff,Nat.reduceBEq,Nat.reduceSub,Nat.reduceAdd,Nat.reduceMul,Nat.reduceLT,Nat.reduceLeDiff,Int.reduceLE,Int.reduceLT,Int.reduceEq,Int.reduceNeg,Int.reduceToNat,Int.reduceMul,Int.reduceAdd,Int.reduceSub,Int.reduceBEq,Int.reduceBNe,reduceCtorEq,RD,RE, *]<;>rfl)
    (first|refine fV rfl ?_|refine fZ rfl ?_);(try simp only [RN,reduceIte]);try refine aj rfl ?_
    refine au fun Kr hKr=>?_;simp (disch:=omega) only [RA,↓reduceIte,Nat.reduceEqDiff,Nat.reduceBEq,Nat.reduceSub,Nat.reduceAdd,Nat.reduceMul,Nat.reduceLT,Nat.reduceLeDiff,Int.reduceLE,Int.reduceLT,Int.reduceEq,Int.reduceNeg,Int.reduceToNat,Int.reduceMul,Int.reduceAdd,Int.reduceSub,Int.reduceBEq,Int.reduceBNe,reduceCtorEq,RD,g15];refine hKr _ _ ?_;clear hKr Kr;(try simp only [RN,reduceIte]);try refine aj rfl ?_
    unfold EM
    refine au fun Kr hKr=>?_;simp (disch:=omega) only [RA,↓reduceIte,Nat.reduceEqDiff,Nat.reduceBEq,Nat.reduceSub,Nat.reduceAdd,Nat.reduceMul,Nat.reduceLT,Nat.reduceLeDiff,Int.reduceLE,Int.reduceLT,Int.reduceEq,Int.reduceNeg,Int.reduceToNat,Int.reduceMul,Int.reduceAdd,Int.reduceSub,Int.reduceBEq,Int.reduceBNe,reduceCtorEq,RD,g4,yG];refine hKr _ _ ?_;clear hKr Kr;(try simp only [RN,reduceIte]);try refine aj rfl ?_
    by_cases hyp:y∈pre
    ·have hb1:bl used y=true:=by rw [hus y hyn,decide_eq_true hyp]
     have FD:g y=[]:=by rw [hg];simp [hyp]
     have abU:A (y+1)=A y:=by rw [hAs,FD];rfl
     refine dY (t:=false) (by simp (disch:=omega) only [RA,↓reduceIte,Nat.reduceEqDiff,Nat.reduceBEq,Nat.reduceSub,Nat.reduceAdd,Nat.reduceMul,Nat.reduceLT,Nat.reduceLeDiff,Int.reduceLE,Int.reduceLT,Int.reduceEq,Int.reduceNeg,Int.reduceToNat,Int.reduceMul,Int.reduceAdd,Int.reduceSub,Int.reduceBEq,Int.reduceBNe,reduceCtorEq,RD,hb1]) ?_;(try simp only [RN,reduceIte]);try refine aj rfl ?_
     rw [←abU]
     refine hnext _ p' Ci FC hz' hlt' ?_ ?_ ?_ ?_ ?_ ?_ ?_ ?_
     any_goals (simp (disch:=omega) only [RA,↓reduceIte,Nat.reduceEqDiff,Nat.reduceBEq,Nat.reduceSub,Nat.reduceAdd,Nat.reduceMul,Nat.reduceLT,Nat.reduceLeDiff,Int.reduceLE,Int.reduceLT,Int.reduceEq,Int.reduceNeg,Int.reduceToNat,Int.reduceMul,Int.reduceAdd,Int.reduceSub,Int.reduceBEq,Int.reduceBNe,reduceCtorEq,RD,RE, *]<;>rfl)
    ·have hb1:bl used y=false:=by rw [hus y hyn,decide_eq_false hyp]
     have FD:g y=lv n m (pre++[y]):=by rw [hg];simp [hyp]
     have MJ:(used.set y true).length=16:=by rw [List.length_set,yG]
     have a1:((i:Nat):Int)+1=((i+1:Nat):Int):=by omega
     refine dY (t:=true) (by simp (disch:=omega) only [RA,↓reduceIte,Nat.reduceEqDiff,Nat.reduceBEq,Nat.reduceSub,Nat.reduceAdd,Nat.reduceMul,Nat.reduceLT,Nat.reduceLeDiff,Int.reduceLE,Int.reduceLT,Int.reduceEq,Int.reduceNeg,Int.reduceToNat,Int.reduceMul,Int.reduceAdd,Int.reduceSub,Int.reduceBEq,Int.reduceBNe,reduceCtorEq,RD,hb1]) ?_;(try simp only [RN,reduceIte]);try refine aj rfl ?_
     refine au fun Kr hKr=>?_;simp (disch:=omega) only [RA,↓reduceIte,Nat.reduceEqDiff,Nat.reduceBEq,Nat.reduceSub,Nat.reduceAdd,Nat.reduceMul,Nat.reduceLT,Nat.reduceLeDiff,Int.reduceLE,Int.reduceLT,Int.reduceEq,Int.reduceNeg,Int.reduceToNat,Int.reduceMul,Int.reduceAdd,Int.reduceSub,Int.reduceBEq,Int.reduceBNe,reduceCtorEq,RD,g4,yG];refine hKr _ _ ?_;clear hKr Kr;(try simp only [RN,reduceIte]);try refine aj rfl ?_
     refine au fun Kr hKr=>?_;simp (disch:=omega) only [RA,↓reduceIte,Nat.reduceEqDiff,Nat.reduceBEq,Nat.reduceSub,Nat.reduceAdd,Nat.reduceMul,Nat.reduceLT,Nat.reduceLeDiff,Int.reduceLE,Int.reduceLT,Int.reduceEq,Int.reduceNeg,Int.reduceToNat,Int.reduceMul,Int.reduceAdd,Int.reduceSub,Int.reduceBEq,Int.reduceBNe,reduceCtorEq,RD,g0,g3,Ci];refine hKr _ _ ?_;clear hKr Kr;(try simp only [RN,reduceIte]);try refine aj rfl ?_
     refine au fun Kr hKr=>?_;simp (disch:=omega) only [RA,↓reduceIte,Nat.reduceEqDiff,Nat.reduceBEq,Nat.reduceSub,Nat.reduceAdd,Nat.reduceMul,Nat.reduceLT,Nat.reduceLeDiff,Int.reduceLE,Int.reduceLT,Int.reduceEq,Int.reduceNeg,Int.reduceToNat,Int.reduceMul,Int.reduceAdd,Int.reduceSub,Int.reduceBEq,Int.reduceBNe,reduceCtorEq,RD,g0,g5,gone,a1,uX,uS,uV,uY]
     refine ih (i:=i+1) (pre:=pre++[y]) (p:=p'.set i y) (used:=used.set y true) (s:=A y) (by simp;omega) (by omega) (hpre' y hyn hyp) (by rw [List.length_set,Ci]) ?_ (fun j hj=>by rw [jq,if_neg (by omega)];exact hz' j hj) (fun j=>by rw [jq];split;omega;exact hlt' j) MJ (fun z hzn=>?_) fun p2 q1 q2 q3 q4=>?_
     ·rw [List.take_set,List.take_add_one,FC,List.getElem?_eq_getElem (show i<p'.length by omega),Option.toList_some,List.set_append,if_neg (by omega)]
      simp [hi]
     ·rw [jO,yG]
      by_cases e:z=y
      ·rw [if_pos ⟨e,by omega⟩,e];simp
      ·rw [if_neg (by omega),hus z hzn]
       simp [e]
     ·rw [←FD,←hAs]
      unfold EM
      simp (disch:=omega) only [RA,↓reduceIte,Nat.reduceEqDiff,Nat.reduceBEq,Nat.reduceSub,Nat.reduceAdd,Nat.reduceMul,Nat.reduceLT,Nat.reduceLeDiff,Int.reduceLE,Int.reduceLT,Int.reduceEq,Int.reduceNeg,Int.reduceToNat,Int.reduceMul,Int.reduceAdd,Int.reduceSub,Int.reduceBEq,Int.reduceBNe,reduceCtorEq,RD]
      refine hKr _ _ ?_;clear hKr Kr;(try simp only [bW,dH,dG]);(try simp only [RN,reduceIte]);try refine aj rfl ?_
      refine au fun Kr hKr=>?_;simp (disch:=omega) only [RA,↓reduceIte,Nat.reduceEqDiff,Nat.reduceBEq,Nat.reduceSub,Nat.reduceAdd,Nat.reduceMul,Nat.reduceLT,Nat.reduceLeDiff,Int.reduceLE,Int.reduceLT,Int.reduceEq,Int.reduceNeg,Int.reduceToNat,Int.reduceMul,Int.reduceAdd,Int.reduceSub,Int.reduceBEq,Int.reduceBNe,reduceCtorEq,RD,g4,MJ];refine hKr _ _ ?_;clear hKr Kr;(try simp only [RN,reduceIte]);try refine aj rfl ?_
      rw [abN hb1]
      refine hnext _ p2 q1 ?_ q3 q4 ?_ ?_ ?_ ?_ ?_ ?_ ?_ ?_
      any_goals (simp (disch:=omega) only [RA,↓reduceIte,Nat.reduceEqDiff,Nat.reduceBEq,Nat.reduceSub,Nat.reduceAdd,Nat.reduceMul,Nat.reduceLT,Nat.reduceLeDiff,Int.reduceLE,Int.reduceLT,Int.reduceEq,Int.reduceNeg,Int.reduceToNat,Int.reduceMul,Int.reduceAdd,Int.reduceSub,Int.reduceBEq,Int.reduceBNe,reduceCtorEq,RD,RE, *]<;>rfl)
      have q5:=congrArg (List.take i) q2
      rw [List.take_take,Nat.min_eq_left (by omega),List.take_append_of_le_length (by omega),List.take_of_length_le (l:=pre) (by omega)] at q5
      exact q5
   ·refine hX _ _ ?_
    obtain rfl:y=n:=by omega
    rw [hAe]
    exact pJ (Fa (vs:=[]) rfl aY.refl (hK p' Ci FC hz' hlt'))
theorem abV (hr: ∀s,ng (List.range 5) (PM B0 B1 B2 B3 B4 s)=PM B0 B1 B2 B3 B4 s) (hn0:1≤n) (MH:n≤8) {s:σ} {K:Value→BH→Prop} (hK:K (.tuple ⟨[]⟩) (PM B0 B1 B2 B3 B4 ((lv n n []).foldl step s))):
  aF false XF [I n,clo g1 caps] (PM B0 B1 B2 B3 B4 s) K:=by
 have gone: ∀{v:Value},getN none [v] 0=some v:=rfl
 refine aG YR ?_;simp only [kS,aB]
 unfold PM
 refine au fun Kr hKr=>?_;simp (disch:=omega) only [RA,↓reduceIte,Nat.reduceEqDiff,Nat.reduceBEq,Nat.reduceSub,Nat.reduceAdd,Nat.reduceMul,Nat.reduceLT,Nat.reduceLeDiff,Int.reduceLE,Int.reduceLT,Int.reduceEq,Int.reduceNeg,Int.reduceToNat,Int.reduceMul,Int.reduceAdd,Int.reduceSub,Int.reduceBEq,Int.reduceBNe,reduceCtorEq,RD];refine hKr _ _ ?_;clear hKr Kr;(try simp only [RN,reduceIte]);try refine aj rfl ?_
 refine au fun Kr hKr=>?_;simp (disch:=omega) only [RA,↓reduceIte,Nat.reduceEqDiff,Nat.reduceBEq,Nat.reduceSub,Nat.reduceAdd,Nat.reduceMul,Nat.reduceLT,Nat.reduceLeDiff,Int.reduceLE,Int.reduceLT,Int.reduceEq,Int.reduceNeg,Int.reduceToNat,Int.reduceMul,Int.reduceAdd,Int.reduceSub,Int.reduceBEq,Int.reduceBNe,reduceCtorEq,RD];refine hKr _ _ ?_;clear hKr Kr;(try simp only [RN,reduceIte]);try refine aj rfl ?_
 refine au fun Kr hKr=>?_;simp (disch:=omega) only [RA,↓reduceIte,Nat.reduceEqDiff,Nat.reduceBEq,Nat.reduceSub,Nat.reduceAdd,Nat.reduceMul,Nat.reduceLT,Nat.reduceLeDiff,Int.reduceLE,Int.reduceLT,Int.reduceEq,Int.reduceNeg,Int.reduceToNat,Int.reduceMul,Int.reduceAdd,Int.reduceSub,Int.reduceBEq,Int.reduceBNe,reduceCtorEq,RD];refine hKr _ _ ?_;clear hKr Kr;(try simp only [RN,reduceIte]);try refine aj rfl ?_
 refine au fun Kr hKr=>?_;simp (disch:=omega) only [RA,↓reduceIte,Nat.reduceEqDiff,Nat.reduceBEq,Nat.reduceSub,Nat.reduceAdd,Nat.reduceMul,Nat.reduceLT,Nat.reduceLeDiff,Int.reduceLE,Int.reduceLT,Int.reduceEq,Int.reduceNeg,Int.reduceToNat,Int.reduceMul,Int.reduceAdd,Int.reduceSub,Int.reduceBEq,Int.reduceBNe,reduceCtorEq,RD];refine hKr _ _ ?_;clear hKr Kr;(try simp only [RN,reduceIte]);try refine aj rfl ?_
 refine au fun Kr hKr=>?_;simp (disch:=omega) only [RA,↓reduceIte,Nat.reduceEqDiff,Nat.reduceBEq,Nat.reduceSub,Nat.reduceAdd,Nat.reduceMul,Nat.reduceLT,Nat.reduceLeDiff,Int.reduceLE,Int.reduceLT,Int.reduceEq,Int.reduceNeg,Int.reduceToNat,Int.reduceMul,Int.reduceAdd,Int.reduceSub,Int.reduceBEq,Int.reduceBNe,reduceCtorEq,RD];refine hKr _ _ ?_;clear hKr Kr;(try simp only [RN,reduceIte]);try refine aj rfl ?_
 refine dN fun Kr hKr=>?_;simp (disch:=omega) only [RA,↓reduceIte,Nat.reduceEqDiff,Nat.reduceBEq,Nat.reduceSub,Nat.reduceAdd,Nat.reduceMul,Nat.reduceLT,Nat.reduceLeDiff,Int.reduceLE,Int.reduceLT,Int.reduceEq,Int.reduceNeg,Int.reduceToNat,Int.reduceMul,Int.reduceAdd,Int.reduceSub,Int.reduceBEq,Int.reduceBNe,reduceCtorEq,RD,gone,uX,uS,uV,uY]
 refine abS hdo hn0 MH n (i:=0) (pre:=[]) (p:=List.replicate 16 0) (used:=List.replicate 16 false) (s:=s) rfl (by omega) ⟨by simp,by simp,by simp⟩ rfl rfl (fun j _=>by rw [lG];split<;>rfl) (fun j=>by rw [lG];split<;>omega) rfl (fun y _=>?_) fun p' q1 q2 q3 q4=>?_
 ·have:bl (List.replicate 16 false) y=false:=by
   rw [bl,List.getD_eq_getElem?_getD,List.getElem?_replicate]
   split<;>rfl
  rw [this];simp
 ·simp (disch:=omega) only [RA,↓reduceIte,Nat.reduceEqDiff,Nat.reduceBEq,Nat.reduceSub,Nat.reduceAdd,Nat.reduceMul,Nat.reduceLT,Nat.reduceLeDiff,Int.reduceLE,Int.reduceLT,Int.reduceEq,Int.reduceNeg,Int.reduceToNat,Int.reduceMul,Int.reduceAdd,Int.reduceSub,Int.reduceBEq,Int.reduceBNe,reduceCtorEq,RD]
  refine hKr _ _ ?_;clear hKr Kr;(try simp only [bW,dH,dG]);(try simp only [RN,reduceIte]);try refine aj rfl ?_
  refine Fa (vs:=[]) rfl (aY.qj (List.range 5) List.nodup_range (fun j hj=>Ls hj) .undef) ?_
  rw [abR hr]
  exact hK
end
end Go.Bm.Q5
namespace Go.Bm
open Go Go.Am
def nG (p q:List Nat):Int:=Lib.compareBytes (Lib.bytesOf (p.map fun n:Nat=>(n:Int))) (Lib.bytesOf (q.map fun n:Nat=>(n:Int)))
theorem MK {a b:Nat} (ha:a<256) (hb:b<256):((a:Int).toNat.toUInt8<(b:Int).toNat.toUInt8)↔a<b:=by
 rw [UInt8.lt_iff_toNat_lt]
 simp [Nat.mod_eq_of_lt ha,Nat.mod_eq_of_lt hb]
theorem abW {a b:Nat} {p q:List Nat} (ha:a<256) (hb:b<256):nG (a::p) (b::q)=if a<b then-1 else if b<a then 1 else nG p q:=by
 show Lib.compareBytes (_::_) (_::_)=_
 rw [Lib.compareBytes]
 simp only [MK ha hb,MK hb ha]
 rfl
theorem FH: ∀{p q:List Nat},p.length=q.length→(∀x∈p,x<256)→(∀x∈q,x<256)→((nG p q<0↔p<q)∧(nG p q=0↔p=q))
 |[],[],_,_,_=>⟨by simp [nG,Lib.bytesOf,Lib.compareBytes],by simp [nG,Lib.bytesOf,Lib.compareBytes]⟩
 |[],_::_,h,_,_=>by simp at h
 | _::_,[],h,_,_=>by simp at h
 |a::p,b::q,h,hp,hq=>by
  have ih:=FH (p:=p) (q:=q) (by simpa using h) (fun x hx=>hp x (by simp [hx])) (fun x hx=>hq x (by simp [hx]))
  rw [abW (hp a (by simp)) (hq b (by simp)),List.cons_lt_cons_iff]
  rcases Nat.lt_trichotomy a b with h1|h1|h1
  ·rw [if_pos h1]
   refine ⟨⟨fun _=> .inl h1,fun _=>by omega⟩,⟨fun h=>by omega,fun h=>?_⟩⟩
   injection h with h2
   omega
  ·subst h1
   rw [if_neg (by omega),if_neg (by omega),ih.1,ih.2]
   refine ⟨⟨fun h=> .inr ⟨rfl,h⟩,fun h=>?_⟩,by simp⟩
   rcases h with h|h
   ·omega
   ·exact h.2
  ·rw [if_neg (by omega),if_pos h1]
   refine ⟨⟨fun h=>by omega,fun h=>?_⟩,⟨fun h=>by omega,fun h=>?_⟩⟩
   ·rcases h with h|h<;>omega
   ·injection h with h2
    omega
theorem abX {x:Bool} {i j:Nat} {p q:List Nat} {H:BH} {K:Value→BH→Prop} (hi:blk H i=some (p.map N8)) (hj:blk H j=some (q.map N8)) (hp:0<p.length) (hq:0<q.length)
  (hK:K (I (nG p q)) H):aF x uO [S i 0 p.length 1,S j 0 q.length 1] H K:=by
 intro ρ Z as HA h1 h2
 obtain ⟨u1,us,rfl,v1,h3⟩:=h1.iV
 obtain ⟨u2,us2,rfl,v2,h4⟩:=h3.iV
 obtain rfl:=h4.jo
 obtain ⟨b1,r1,rfl⟩:=v1.slice_inv
 obtain ⟨b2,r2,rfl⟩:=v2.slice_inv
 have hat: ∀(i b:Nat) (p:List Nat),blk H i=some (p.map N8)→0<p.length→ρ i=some b→BytesAt HA (.slice (some ⟨b,0,none⟩) p.length 1) (p.map fun n:Nat=>(n:Int)):=by
  intro i b p hb hp hr
  obtain ⟨b',bk,e1,e2,e3,e4,e5⟩:=h2.bH i _ hb
  rw [hr] at e1
  cases e1
  refine ⟨b,0,bk,by rw [List.length_map],by simpa using hp,e3,fun t x hx=>?_⟩
  simp only [List.getElem?_map,Option.map_eq_some_iff] at hx
  obtain ⟨n,hn,rfl⟩:=hx
  obtain ⟨d,hd,hv⟩:=e5.at_ (i:=t) (c:=N8 n) (by simp [hn])
  rw [Nat.zero_add,hd,hv.int]
 exact ⟨_,HA, .outer (.inl ⟨rfl,rfl,_,_,_,_,rfl,hat i b1 p hi hp r1,hat j b2 q hj hq r2,rfl⟩),fun _=>Ext.refl' _,ρ,Z,_,H, .z (.plain rfl),h2,Nat.le_refl _,fun _ _=>rfl, .refl _ _ _ _,hK⟩
end Go.Bm
namespace Go.Bm
open Go Go.Am
theorem abY {a b:Nat}:fillL (List.replicate 2 (.int .u8 0)) [(0,1, .int .u8 (a:Int)),(1,1, .int .u8 (b:Int))]=some ([a,b].map N8):=rfl
theorem abZ {b w:List Nat} {z j:Nat} (h:j<2):nl [nl b z,nl w z] j=nl ([b,w].getD j []) z:=by
 have:j=0∨j=1:=by omega
 rcases this with rfl|rfl<;>rfl
theorem ML {x:Nat} (hx:x<16):Bi 16 (stA x):=⟨by simp [stA,vw],fun i hi=>by
 rw [show (stA x).2=[x] from rfl,yH (by simpa [stA] using hi)];exact hx,by
 show 1≤(oW.set x true).count true
 rw [qo (by rw [vw];exact hx) Cj]
 omega⟩
theorem ab1 {n x:Nat} {b w:List Nat} (hb:By 16 b) (hw:By 16 w) (hd:aX n b w) (hx:x<n):
  aF false KH [DV n b w,I x] [] fun v H1=> ∃j,v=S j 0 (ord b w x).length 1∧blk H1 j=some ((ord b w x).map N8):=by
 have hlb:=hb.len
 have fG:=hw.len
 have hn:=hd.1.1
 have hb16:=fun i=>hd.1.jM hlb i
 have hw16:=fun i=>hd.2.1.jM fG i
 have kG: ∀p∈[b,w],∀i,nl p i<16:=by simp;exact ⟨hb16,hw16⟩
 have hx16:x<16:=by omega
 have ab2:(List.replicate 16 false).length=16:=List.length_replicate
 refine aG Zk ?_;simp only [dQ,aB]
 refine au fun Kr hKr=>?_;simp (disch:=omega) only [RA,↓reduceIte,Nat.reduceEqDiff,RD,aI];refine hKr _ _ ?_;clear hKr Kr;(try simp only [RN,reduceIte]);try refine aj rfl ?_
 refine au fun Kr hKr=>?_;simp (disch:=omega) only [RA,↓reduceIte,Nat.reduceEqDiff,Nat.reduceBEq,Nat.reduceSub,Nat.reduceAdd,Nat.reduceMul,Nat.reduceLT,Nat.reduceLeDiff,Int.reduceLE,Int.reduceLT,Int.reduceEq,Int.reduceNeg,Int.reduceToNat,Int.reduceMul,Int.reduceAdd,Int.reduceSub,Int.reduceBEq,Int.reduceBNe,reduceCtorEq,RD];refine hKr _ _ ?_;clear hKr Kr;(try simp only [RN,reduceIte]);try refine aj rfl ?_
 refine au fun Kr hKr=>?_;simp (disch:=omega) only [RA,↓reduceIte,Nat.reduceEqDiff,Nat.reduceBEq,Nat.reduceSub,Nat.reduceAdd,Nat.reduceMul,Nat.reduceLT,Nat.reduceLeDiff,Int.reduceLE,Int.reduceLT,Int.reduceEq,Int.reduceNeg,Int.reduceToNat,Int.reduceMul,Int.reduceAdd,Int.reduceSub,Int.reduceBEq,Int.reduceBNe,reduceCtorEq,RD,FK];refine hKr _ _ ?_;clear hKr Kr;(try simp only [RN,reduceIte]);try refine aj rfl ?_
 refine au fun Kr hKr=>?_;simp (disch:=omega) only [RA,↓reduceIte,Nat.reduceEqDiff,Nat.reduceBEq,Nat.reduceSub,Nat.reduceAdd,Nat.reduceMul,Nat.reduceLT,Nat.reduceLeDiff,Int.reduceLE,Int.reduceLT,Int.reduceEq,Int.reduceNeg,Int.reduceToNat,Int.reduceMul,Int.reduceAdd,Int.reduceSub,Int.reduceBEq,Int.reduceBNe,reduceCtorEq,RD];refine hKr _ _ ?_;clear hKr Kr;(try simp only [RN,reduceIte]);try refine aj rfl ?_
 refine au fun Kr hKr=>?_;simp (disch:=omega) only [RA,↓reduceIte,Nat.reduceEqDiff,Nat.reduceBEq,Nat.reduceSub,Nat.reduceAdd,Nat.reduceMul,Nat.reduceLT,Nat.reduceLeDiff,Int.reduceLE,Int.reduceLT,Int.reduceEq,Int.reduceNeg,Int.reduceToNat,Int.reduceMul,Int.reduceAdd,Int.reduceSub,Int.reduceBEq,Int.reduceBNe,reduceCtorEq,RD];refine hKr _ _ ?_;clear hKr Kr;(try simp only [RN,reduceIte]);try refine aj rfl ?_
 refine aW (fun m f H'=> ∃k st,k≤16∧m=16-k∧st=aN [b,w] (stA x) k∧k≤st.2.length∧f 2=P 0 0∧f 5=P 1 0∧f 6=S 2 0 st.2.length 1∧f 7=I k∧H'=[some (DC n b w),some (st.1.map B),some (st.2.map N8)]) (16) ?_ ?_
 ·exact ⟨_,_,Gh.refl,0,stA x,by omega,by omega,rfl,Nat.zero_le _,ah,ah,ah,ah,by simp [stA,oW]⟩
 ·rintro m f H' R ⟨k,st,hk,rfl,hst,hkl,g2,g5,g6,g7,rfl⟩ hN hX hR hE
  simp only [dQ.l1,aB]
  have hB:=(ML hx16).aN kG k
  rw [←hst] at hB
  replace hst:=hst.symm
  have hle:=hB.le
  have hsl:=hB.len
  refine au fun Kr hKr=>?_;simp (disch:=omega) only [RA,↓reduceIte,Nat.reduceEqDiff,Nat.reduceBEq,Nat.reduceSub,Nat.reduceAdd,Nat.reduceMul,Nat.reduceLT,Nat.reduceLeDiff,Int.reduceLE,Int.reduceLT,Int.reduceEq,Int.reduceNeg,Int.reduceToNat,Int.reduceMul,Int.reduceAdd,Int.reduceSub,Int.reduceBEq,Int.reduceBNe,reduceCtorEq,RD,g6,g7];refine hKr _ _ ?_;clear hKr Kr;(try simp only [RN,reduceIte]);try refine aj rfl ?_
  refine eY (p:=k<st.2.length) (by simp only [RA,↓reduceIte,Nat.reduceEqDiff,Nat.reduceBEq,Nat.reduceSub,Nat.reduceAdd,Nat.reduceMul,Nat.reduceLT,Nat.reduceLeDiff,Int.reduceLE,Int.reduceLT,Int.reduceEq,Int.reduceNeg,Int.reduceToNat,Int.reduceMul,Int.reduceAdd,Int.reduceSub,Int.reduceBEq,Int.reduceBNe,reduceCtorEq]<;>rfl) (by (try simp only [RB])<;>first|done|exact Iff.rfl|omega|simp) (fun hc=>?_) (fun hc=>?_)<;>(try simp only [RN,reduceIte])<;>(try refine aj rfl ?_)
  ·have hxk:=hB.lt k hc
   have yI:k<st.2.length:=by assumption
   have h1:=hb16 (nl st.2 k)
   have h2:=hw16 (nl st.2 k)
   obtain ⟨pr,hpr⟩: ∃pr,pr=[nl b (nl st.2 k),nl w (nl st.2 k)]:=⟨_,rfl⟩
   have hpl:pr.length=2:=by rw [hpr];rfl
   have yJ: ∀j,j<2→nl pr j=nl ([b,w].getD j []) (nl st.2 k):=fun j hj=>by rw [hpr];exact abZ hj
   (first|refine fV rfl ?_|refine fZ rfl ?_);(try simp only [RN,reduceIte]);try refine aj rfl ?_
   refine au fun Kr hKr=>?_;simp (disch:=omega) only [RA,↓reduceIte,Nat.reduceEqDiff,Nat.reduceBEq,Nat.reduceSub,Nat.reduceAdd,Nat.reduceMul,Nat.reduceLT,Nat.reduceLeDiff,Int.reduceLE,Int.reduceLT,Int.reduceEq,Int.reduceNeg,Int.reduceToNat,Int.reduceMul,Int.reduceAdd,Int.reduceSub,Int.reduceBEq,Int.reduceBNe,reduceCtorEq,RD,g2,g6,g7,aI,aT,abY];refine hKr _ _ ?_;clear hKr Kr;(try simp only [RN,reduceIte]);try refine aj rfl ?_
   refine aW (fun m f H'=> ∃j st',j≤2∧m=2-j∧st'=gY ([b,w].take j) (nl st.2 k) st∧f 2=P 0 0∧f 5=P 1 0∧f 6=S 2 0 st'.2.length 1∧f 7=I k∧f 36=S 3 0 2 1∧f 37=I 2∧f 38=I j∧H'=[some (DC n b w),some (st'.1.map B),some (st'.2.map N8),some (pr.map N8)]) (2) ?_ ?_
   ·exact ⟨_,_,Gh.refl,0,st,by omega,by omega,rfl,ah,ah,ah,ah,ah,ah,ah,by rw [hpr];rfl⟩
   ·clear g2 g5 g6 g7 hpr
    rintro m f H' R2 ⟨j,st',hj,rfl,hst',g2,g5,g6,g7,MN,MO,Cm,rfl⟩ iT hX2 hR2 hE2
    simp only [dQ.l0,aB]
    refine au fun Kr hKr=>?_;simp (disch:=omega) only [RA,↓reduceIte,Nat.reduceEqDiff,RD,MO,Cm];refine hKr _ _ ?_;clear hKr Kr;(try simp only [RN,reduceIte]);try refine aj rfl ?_
    have hB':Bi 16 st':=by rw [hst'];exact hB.round fun p hp=>kG p (List.mem_of_mem_take hp) _
    have hle':=hB'.le
    have oq:=hB'.len
    refine eY (p:=j<2) (by simp only [RA,↓reduceIte,Nat.reduceEqDiff]<;>rfl) (by (try simp only [RB])<;>first|done|exact Iff.rfl|omega|simp) (fun hc=>?_) (fun hc=>?_)<;>(try simp only [RN,reduceIte])<;>(try refine aj rfl ?_)
    ·have hnx:=CB (ls:=[b,w]) (x:=nl st.2 k) (st:=st) hc
     rw [←hst',←yJ j hc] at hnx
     have hyl:nl pr j<16:=by
      rw [yJ j hc]
      exact kG _ (getD_mem hc) _
     obtain ⟨y,ou⟩: ∃y,nl pr j=y:=⟨_,rfl⟩
     rw [ou] at hyl hnx
     have hxi:y<16:=hyl
     have hnext: ∀f' st2,f' 2=P 0 0→f' 5=P 1 0→f' 6=S 2 0 st2.2.length 1→f' 7=I k→f' 36=S 3 0 2 1→f' 37=I 2→f' 38=I j→st2=visit st' y→T 0 dQ.r13 R2 f' [some (DC n b w),some (st2.1.map B),some (st2.2.map N8),some (pr.map N8)]:=by
      intro f' st2 g2 g5 g6 g7 MN MO Cm hs2
      refine dN fun Kr hKr=>?_;simp (disch:=omega) only [RA,↓reduceIte,Nat.reduceEqDiff,RD,Cm];refine hKr _ _ ?_;clear hKr Kr
      exact iT (2-(j+1)) _ _ _ _ (by omega) Gh.refl ⟨j+1,st2,by omega,rfl,by rw [hnx,hs2],ah,ah,ah,ah,ah,ah,ah,rfl⟩
     (first|refine fV rfl ?_|refine fZ rfl ?_);(try simp only [RN,reduceIte]);try refine aj rfl ?_
     refine au fun Kr hKr=>?_;simp (disch:=omega) only [RA,↓reduceIte,Nat.reduceEqDiff,RD,MN,Cm,hpl,ou];refine hKr _ _ ?_;clear hKr Kr;(try simp only [RN,reduceIte]);try refine aj rfl ?_
     refine au fun Kr hKr=>?_;simp (disch:=omega) only [RA,↓reduceIte,Nat.reduceEqDiff,Nat.reduceBEq,Nat.reduceSub,Nat.reduceAdd,Nat.reduceMul,Nat.reduceLT,Nat.reduceLeDiff,Int.reduceLE,Int.reduceLT,Int.reduceEq,Int.reduceNeg,Int.reduceToNat,Int.reduceMul,Int.reduceAdd,Int.reduceSub,Int.reduceBEq,Int.reduceBNe,reduceCtorEq,RD,g5,oq];refine hKr _ _ ?_;clear hKr Kr;(try simp only [RN,reduceIte]);try refine aj rfl ?_
     refine eY (p:= ¬bl st'.1 y=true) (by simp only [RA,↓reduceIte,Nat.reduceEqDiff,Nat.reduceBEq,Nat.reduceSub,Nat.reduceAdd,Nat.reduceMul,Nat.reduceLT,Nat.reduceLeDiff,Int.reduceLE,Int.reduceLT,Int.reduceEq,Int.reduceNeg,Int.reduceToNat,Int.reduceMul,Int.reduceAdd,Int.reduceSub,Int.reduceBEq,Int.reduceBNe,reduceCtorEq]<;>rfl) (by (try simp only [RB])<;>first|done|exact Iff.rfl|omega|simp) (fun hc=>?_) (fun hc=>?_)<;>(try simp only [RN,reduceIte])<;>(try refine aj rfl ?_)
     ·refine au fun Kr hKr=>?_;simp (disch:=omega) only [RA,↓reduceIte,Nat.reduceEqDiff,Nat.reduceBEq,Nat.reduceSub,Nat.reduceAdd,Nat.reduceMul,Nat.reduceLT,Nat.reduceLeDiff,Int.reduceLE,Int.reduceLT,Int.reduceEq,Int.reduceNeg,Int.reduceToNat,Int.reduceMul,Int.reduceAdd,Int.reduceSub,Int.reduceBEq,Int.reduceBNe,reduceCtorEq,RD,g5,oq];refine hKr _ _ ?_;clear hKr Kr;(try simp only [RN,reduceIte]);try refine aj rfl ?_
      refine au fun Kr hKr=>?_;simp (disch:=omega) only [RA,↓reduceIte,Nat.reduceEqDiff,Nat.reduceBEq,Nat.reduceSub,Nat.reduceAdd,Nat.reduceMul,Nat.reduceLT,Nat.reduceLeDiff,Int.reduceLE,Int.reduceLT,Int.reduceEq,Int.reduceNeg,Int.reduceToNat,Int.reduceMul,Int.reduceAdd,Int.reduceSub,Int.reduceBEq,Int.reduceBNe,reduceCtorEq,RD,g6];refine hKr _ _ ?_;clear hKr Kr;(try simp only [RN,reduceIte]);try refine aj rfl ?_
      refine jT (Gh.nrm [0,1,5,3] rfl rfl (by simp only [RH,rF])) ?_
      refine hnext _ (st'.1.set y true,st'.2++[y]) ah ah ah ah ah ah ah ?_
      rw [visit,if_neg hc]
     ·(try simp only [RN,reduceIte]);try refine aj rfl ?_
      refine hnext _ st' ah ah ah ah ah ah ah ?_
      rw [visit,if_pos (by simpa using hc)]
    ·refine hX2 _ _ ?_
     obtain rfl:j=2:=by omega
     have hst2:st'=aN [b,w] (stA x) (k+1):=by
      rw [hst',aN,hst,if_pos yI];rfl
     obtain ⟨q,hq⟩:= @rG (nl st.2 k) ([b,w].take 2) st
     have hlq:k+1≤st'.2.length:=by rw [hst',hq];simp;omega
     refine dN fun Kr hKr=>?_;simp (disch:=omega) only [RA,↓reduceIte,Nat.reduceEqDiff,RD,g7];refine hKr _ _ ?_;clear hKr Kr
     refine hN (16-(k+1)) _ _ _ _ (by omega) (Gh.nrm [0,1,2] rfl rfl (by simp only [RH,rF])) ⟨k+1,st',by omega,rfl,hst2,hlq,ah,ah,ah,ah,rfl⟩
  ·refine hX _ _ ?_
   have hfin:aN [b,w] (stA x) 16=st:=by rw [vC (i:=k) (by rw [hst];omega) 16 hk,hst]
   refine au fun Kr hKr=>?_;simp (disch:=omega) only [RA,↓reduceIte,Nat.reduceEqDiff,Nat.reduceBEq,Nat.reduceSub,Nat.reduceAdd,Nat.reduceMul,Nat.reduceLT,Nat.reduceLeDiff,Int.reduceLE,Int.reduceLT,Int.reduceEq,Int.reduceNeg,Int.reduceToNat,Int.reduceMul,Int.reduceAdd,Int.reduceSub,Int.reduceBEq,Int.reduceBNe,reduceCtorEq,RD,g6];refine hKr _ _ ?_;clear hKr Kr;(try simp only [RN,reduceIte]);try refine aj rfl ?_
   refine bZ (by simp (disch:=omega) only [RA,↓reduceIte,Nat.reduceEqDiff,RD,resAll,resOf,g6];rfl) aY.refl ?_;simp only [tup]
   rw [ord,hfin]
   exact ⟨2,rfl,rfl⟩
theorem ab3 {x0:Bool} {n x:Nat} {b w:List Nat} {H:BH} {K:Value→BH→Prop} (hb:By 16 b) (hw:By 16 w) (hd:aX n b w) (hx:x<n)
  (hK:K (Fz (ord b w x).length 1 ((ord b w x).map N8)) H):aF x0 KH [DV n b w,I x] H K:=
 oz (.cons jP (.cons .int .nil)) mG (by simp) (ab1 hb hw hd hx) hK
theorem ab4 {l:List Nat} {k:Nat} (hk:k≤16):By 16 (iw l k):=⟨yK,fun i=>by have:= @ab5 l k i;omega⟩
theorem MP {x0:Bool} {n x:Nat} {b w:List Nat} {H:BH} {K:Value→BH→Prop} (hb:By 16 b) (hw:By 16 w) (hd:aX n b w) (hx:x<n)
  (hK:K (PL (dW b w x)) H):aF x0 XQ [DV n b w,I x] H K:=by
 have hlb:=hb.len
 have fG:=hw.len
 have hn:=hd.1.1
 have hol:=nH hd hx
 have hlt: ∀j,j<(ord b w x).length→nl (ord b w x) j<16:=fun j hj=>by
  have:=sS hd hx (j:=j) (by omega)
  omega
 rw [dW] at hK
 refine bK (by exact .cons jP (.cons .int .nil)) ?_
 refine aG Y5 ?_;simp only [jh,aB]
 refine au fun Kr hKr=>?_;simp (disch:=omega) only [RA,↓reduceIte,Nat.reduceEqDiff,RD,aI];refine hKr _ _ ?_;clear hKr Kr;(try simp only [RN,reduceIte]);try refine aj rfl ?_
 refine au fun Kr hKr=>?_;simp (disch:=omega) only [RA,↓reduceIte,Nat.reduceEqDiff,RD];refine hKr _ _ ?_;clear hKr Kr;(try simp only [RN,reduceIte]);try refine aj rfl ?_
 refine au fun Kr hKr=>?_;simp (disch:=omega) only [RA,↓reduceIte,Nat.reduceEqDiff,RD,aI,aT]
 refine ab3 hb hw hd hx ?_
 generalize ord b w x=l at hol hlt hK
 have kG:l.length≤16:=by omega
 simp (disch:=omega) only [RA,↓reduceIte,Nat.reduceEqDiff,RD]
 refine hKr _ _ ?_;clear hKr Kr;(try simp only [bW,dH,dG]);(try simp only [RN,reduceIte]);try refine aj rfl ?_
 refine aW (fun m f H'=> ∃k,k≤l.length∧m=l.length-k∧f 4=P 1 0∧f 5=P 2 0∧f 11=Fz l.length 1 (l.map N8)∧f 12=I l.length∧f 13=I k∧H'=[some (DC n b w),some (List.replicate 16 (.int .u8 0)),some ((iw l k).map N8)]) (l.length) ?_ ?_
 ·exact ⟨_,_,Gh.refl,0,by omega,by omega,ah,ah,ah,ah,ah,by simp [iw]⟩
 ·clear hol
  rintro m f H' R ⟨k,hk,rfl,g4,g5,g11,g12,g13,rfl⟩ hN hX hR hE
  simp only [jh.l0,aB]
  have hnl:= @yK l k
  refine au fun Kr hKr=>?_;simp (disch:=omega) only [RA,↓reduceIte,Nat.reduceEqDiff,RD,g12,g13];refine hKr _ _ ?_;clear hKr Kr;(try simp only [RN,reduceIte]);try refine aj rfl ?_
  refine eY (p:=k<l.length) (by simp only [RA,↓reduceIte,Nat.reduceEqDiff]<;>rfl) (by (try simp only [RB])<;>first|done|exact Iff.rfl|omega|simp) (fun hc=>?_) (fun hc=>?_)<;>(try simp only [RN,reduceIte])<;>(try refine aj rfl ?_)
  ·have h16:=hlt k hc
   (first|refine fV rfl ?_|refine fZ rfl ?_);(try simp only [RN,reduceIte]);try refine aj rfl ?_
   refine au fun Kr hKr=>?_;simp (disch:=omega) only [RA,↓reduceIte,Nat.reduceEqDiff,RD,g11,g13];refine hKr _ _ ?_;clear hKr Kr;(try simp only [RN,reduceIte]);try refine aj rfl ?_
   refine au fun Kr hKr=>?_;simp (disch:=omega) only [RA,↓reduceIte,Nat.reduceEqDiff,RD,g5,hnl];refine hKr _ _ ?_;clear hKr Kr;(try simp only [RN,reduceIte]);try refine aj rfl ?_
   refine dN fun Kr hKr=>?_;simp (disch:=omega) only [RA,↓reduceIte,Nat.reduceEqDiff,RD,g13];refine hKr _ _ ?_;clear hKr Kr
   exact hN (l.length-(k+1)) _ _ _ _ (by omega) Gh.refl ⟨k+1,by omega,rfl,ah,ah,ah,ah,ah,rfl⟩
  ·refine hX _ _ ?_
   obtain rfl:k=l.length:=by omega
   refine au fun Kr hKr=>?_;simp (disch:=omega) only [RA,↓reduceIte,Nat.reduceEqDiff,RD,g4,g5,hnl];refine hKr _ _ ?_;clear hKr Kr;(try simp only [RN,reduceIte]);try refine aj rfl ?_
   refine bZ (by simp (disch:=omega) only [RA,↓reduceIte,Nat.reduceEqDiff,RD,resAll,resOf,g4,hnl];rfl) aY.refl ?_;simp only [tup]
   exact ⟨jr mG,hK⟩
theorem FM {p nm:List Nat} (hl: ∀i,nl nm i<256): ∀{k:Nat},By 16 (dJ p nm k)
 |0=>By.rep
 |k+1=>(FM hl).set (hl _)
theorem MQ {x0:Bool} {n:Nat} {b w nm:List Nat} {H:BH} {K:Value→BH→Prop} (hb:By 16 b) (hw:By 16 w) (hd:aX n b w) (hm:By 16 nm) (FP: ∀i,nl nm i<16)
  (hK:K (DV n (dJ b nm n) (dJ w nm n)) H):aF x0 XO [DV n b w,PL nm] H K:=by
 have hlb:=hb.len
 have fG:=hw.len
 have hlm:=hm.len
 have hz:=jS
 have hn:=hd.1.1
 have hb16:=fun i=>hd.1.jM hlb i
 have hw16:=fun i=>hd.2.1.jM fG i
 refine bK (by exact .cons jP (.cons (jr mG) .nil)) ?_
 refine aG Y4 ?_;simp only [iP,aB]
 refine au fun Kr hKr=>?_;simp (disch:=omega) only [RA,↓reduceIte,Nat.reduceEqDiff,RD,aI];refine hKr _ _ ?_;clear hKr Kr;(try simp only [RN,reduceIte]);try refine aj rfl ?_
 refine au fun Kr hKr=>?_;simp (disch:=omega) only [RA,↓reduceIte,Nat.reduceEqDiff,RD,aI,aT];refine hKr _ _ ?_;clear hKr Kr;(try simp only [RN,reduceIte]);try refine aj rfl ?_
 refine au fun Kr hKr=>?_;simp (disch:=omega) only [RA,↓reduceIte,Nat.reduceEqDiff,RD,aI];refine hKr _ _ ?_;clear hKr Kr;(try simp only [RN,reduceIte]);try refine aj rfl ?_
 refine aW (fun m f H'=> ∃k,k≤n∧m=n-k∧f 2=P 0 0∧f 3=P 1 0∧f 4=P 2 0∧f 5=P 3 0∧f 11=I n∧f 12=I k∧H'=[some (DC n b w),some (nm.map N8),some (DC 0 fQ fQ),some (DC n (dJ b nm k) (dJ w nm k))]) (n) ?_ ?_
 ·exact ⟨_,_,Gh.refl,0,by omega,by omega,ah,ah,ah,ah,ah,ah,rfl⟩
 ·rintro m f H' R ⟨k,hk,rfl,g2,g3,g4,g5,g11,g12,rfl⟩ hN hX hR hE
  simp only [iP.l0,aB]
  have hl1:= @qp b nm k
  have hl2:= @qp w nm k
  refine au fun Kr hKr=>?_;simp (disch:=omega) only [RA,↓reduceIte,Nat.reduceEqDiff,RD,g11,g12];refine hKr _ _ ?_;clear hKr Kr;(try simp only [RN,reduceIte]);try refine aj rfl ?_
  refine eY (p:=k<n) (by simp only [RA,↓reduceIte,Nat.reduceEqDiff]<;>rfl) (by (try simp only [RB])<;>first|done|exact Iff.rfl|omega|simp) (fun hc=>?_) (fun hc=>?_)<;>(try simp only [RN,reduceIte])<;>(try refine aj rfl ?_)
  ·have h1:=hb16 k
   have h2:=hw16 k
   have h3:=FP k
   have hl3:((dJ b nm k).set (nl nm k) (nl nm (nl b k))).length=16:=by rw [List.length_set];exact hl1
   (first|refine fV rfl ?_|refine fZ rfl ?_);(try simp only [RN,reduceIte]);try refine aj rfl ?_
   refine au fun Kr hKr=>?_;simp (disch:=omega) only [RA,↓reduceIte,Nat.reduceEqDiff,RD,g12];refine hKr _ _ ?_;clear hKr Kr;(try simp only [RN,reduceIte]);try refine aj rfl ?_
   refine au fun Kr hKr=>?_;simp (disch:=omega) only [RA,↓reduceIte,Nat.reduceEqDiff,RD,g2,g3,g5,aI,aT];refine hKr _ _ ?_;clear hKr Kr;(try simp only [RN,reduceIte]);try refine aj rfl ?_
   refine au fun Kr hKr=>?_;simp (disch:=omega) only [RA,↓reduceIte,Nat.reduceEqDiff,RD,g2,g3,g5,aI,aT];refine hKr _ _ ?_;clear hKr Kr;(try simp only [RN,reduceIte]);try refine aj rfl ?_
   refine dN fun Kr hKr=>?_;simp (disch:=omega) only [RA,↓reduceIte,Nat.reduceEqDiff,RD,g12];refine hKr _ _ ?_;clear hKr Kr
   exact hN (n-(k+1)) _ _ _ _ (by omega) Gh.refl ⟨k+1,by omega,rfl,ah,ah,ah,ah,ah,ah,rfl⟩
  ·refine hX _ _ ?_
   obtain rfl:k=n:=by omega
   refine au fun Kr hKr=>?_;simp (disch:=omega) only [RA,↓reduceIte,Nat.reduceEqDiff,RD,g4,g5,aI,aT];refine hKr _ _ ?_;clear hKr Kr;(try simp only [RN,reduceIte]);try refine aj rfl ?_
   refine bZ (by simp (disch:=omega) only [RA,↓reduceIte,Nat.reduceEqDiff,RD,resAll,resOf,g4,aI,aT];rfl) aY.refl ?_;simp only [tup]
   exact ⟨jP,hK⟩
def FQ (c:Option (List Value)) (len e b o:Nat) (lo hi:Option Value):Option Value:=
 match c with
 |some cs=>if o+len*e≤cs.length then (kK len lo hi).map fun (l,h)=>S b (o+l*e) (h-l) e else none
 |none=>none
theorem ab6 {len e b o:Nat} {H:BH} {lo hi:Option Value}:FT len e H (P b o) lo hi=FQ (blk H b) len e b o lo hi:=rfl
theorem ab7 {cs:List Value} {len e b o:Nat} (h:o+len*e≤cs.length):FQ (some cs) len e b o none none=some (S b o len e):=by
 simp [FQ,h,ab8]
theorem MR {x0:Bool} {p q:List Nat} {H:BH} {K:Value→BH→Prop} (hp:By 16 p) (hq:By 16 q) (hK:K (I (nG p q)) H):aF x0 ER [PL p,PL q] H K:=by
 have hlp:=hp.len
 have hlq:=hq.len
 have h1:(p.map N8).length=16:=by simpa using hlp
 have h2:(q.map N8).length=16:=by simpa using hlq
 refine bK (by exact .cons (jr mG) (.cons (jr mG) .nil)) ?_
 refine aG Zj ?_;simp only [pV,aB]
 refine au fun Kr hKr=>?_;simp (disch:=omega) only [RA,↓reduceIte,Nat.reduceEqDiff,RD];refine hKr _ _ ?_;clear hKr Kr;(try simp only [RN,reduceIte]);try refine aj rfl ?_
 refine au fun Kr hKr=>?_;simp (disch:=omega) only [RA,↓reduceIte,Nat.reduceEqDiff,RD,ab6,ab7]
 refine cast (congrArg (fun n:Nat×Nat=>aF true uO [S 0 0 n.1 1,S 1 0 n.2 1] [some (p.map N8),some (q.map N8)] _) (Prod.ext hlp hlq:(p.length,q.length)=(16,16))) ?_
 refine abX rfl rfl (by omega) (by omega) ?_
 simp (disch:=omega) only [RA,↓reduceIte,Nat.reduceEqDiff,RD]
 refine hKr _ _ ?_;clear hKr Kr;(try simp only [bW,dH,dG]);(try simp only [RN,reduceIte]);try refine aj rfl ?_
 refine bZ (by simp (disch:=omega) only [RA,↓reduceIte,Nat.reduceEqDiff,RD,resAll,resOf];rfl) aY.refl ?_;simp only [tup]
 exact ⟨.int,hK⟩
def qg (x y:L2):Int:=if nG x.1 y.1=0 then nG x.2 y.2 else nG x.1 y.1
theorem KW {x y:L2} (h1:By 16 x.1) (h2:By 16 x.2) (h3:By 16 y.1) (h4:By 16 y.2):qg x y<0↔cZ x y:=by
 have a:=FH (by rw [h1.len,h3.len]) h1.mem h3.mem
 have b:=FH (by rw [h2.len,h4.len]) h2.mem h4.mem
 unfold qg cZ
 by_cases e:x.1=y.1
 ·rw [if_pos (a.2.2 e),b.1]
  constructor
  ·intro h;exact .inr ⟨e,h⟩
  ·rintro (h|h)
   ·rw [e] at h;exact absurd h (List.lt_irrefl _)
   ·exact h.2
 ·rw [if_neg (fun h=>e (a.2.1 h)),a.1]
  constructor
  ·intro h;exact .inl h
  ·rintro (h|h)
   ·exact h
   ·exact absurd h.1 e
theorem Lc {x0:Bool} {n m:Int} {b w b' w':List Nat} {H:BH} {K:Value→BH→Prop} (hb:By 16 b) (hw:By 16 w) (hb':By 16 b') (hw':By 16 w')
  (hK:K (I (qg (b,w) (b',w'))) H):aF x0 yx [DV n b w,DV m b' w'] H K:=by
 have hlb:=hb.len
 have fG:=hw.len
 have agy:=hb'.len
 have agz:=hw'.len
 refine bK (by exact .cons jP (.cons jP .nil)) ?_
 refine aG Y2 ?_;simp only [lC,aB]
 refine au fun Kr hKr=>?_;simp (disch:=omega) only [RA,↓reduceIte,Nat.reduceEqDiff,RD,aI];refine hKr _ _ ?_;clear hKr Kr;(try simp only [RN,reduceIte]);try refine aj rfl ?_
 refine au fun Kr hKr=>?_;simp (disch:=omega) only [RA,↓reduceIte,Nat.reduceEqDiff,RD,aI,aT]
 refine MR hb hb' ?_
 simp (disch:=omega) only [RA,↓reduceIte,Nat.reduceEqDiff,RD]
 refine hKr _ _ ?_;clear hKr Kr;(try simp only [bW,dH,dG]);(try simp only [RN,reduceIte]);try refine aj rfl ?_
 refine au fun Kr hKr=>?_;simp (disch:=omega) only [RA,↓reduceIte,Nat.reduceEqDiff,RD];refine hKr _ _ ?_;clear hKr Kr;(try simp only [RN,reduceIte]);try refine aj rfl ?_
 refine eY (p:= ¬nG b b'=0) (by simp only [RA,↓reduceIte,Nat.reduceEqDiff]<;>rfl) (by (try simp only [RB])<;>first|done|exact Iff.rfl|omega|simp) (fun hc=>?_) (fun hc=>?_)<;>(try simp only [RN,reduceIte])<;>(try refine aj rfl ?_)
 ·refine au fun Kr hKr=>?_;simp (disch:=omega) only [RA,↓reduceIte,Nat.reduceEqDiff,RD];refine hKr _ _ ?_;clear hKr Kr;(try simp only [RN,reduceIte]);try refine aj rfl ?_
  refine bZ (by simp (disch:=omega) only [RA,↓reduceIte,Nat.reduceEqDiff,RD,resAll,resOf];rfl) aY.refl ?_;simp only [tup]
  rw [qg,if_neg hc] at hK
  exact ⟨.int,hK⟩
 ·rw [qg,if_pos (Decidable.not_not.1 hc)] at hK
  refine au fun Kr hKr=>?_;simp (disch:=omega) only [RA,↓reduceIte,Nat.reduceEqDiff,RD,aI,aT]
  refine MR hw hw' ?_
  simp (disch:=omega) only [RA,↓reduceIte,Nat.reduceEqDiff,RD]
  refine hKr _ _ ?_;clear hKr Kr;(try simp only [bW,dH,dG]);(try simp only [RN,reduceIte]);try refine aj rfl ?_
  refine bZ (by simp (disch:=omega) only [RA,↓reduceIte,Nat.reduceEqDiff,RD,resAll,resOf];rfl) aY.refl ?_;simp only [tup]
  exact ⟨.int,hK⟩
theorem CG {b w:List Nat} {n x:Nat} (hd:aX n b w) (hx:x<n):By 16 (dW b w x):=ab4 (by rw [nH hd hx];have:=hd.1.1;omega)
theorem yL {b w:List Nat} {n x:Nat} (hd:aX n b w) (hx:x<n) (i:Nat):nl (dW b w x) i<16:=by
 rcases Nat.lt_or_ge i n with h|h
 ·have:=(kT hd hx h).2
  have:=hd.1.1
  omega
 ·have hl:=nH hd hx
  have: ∀k,k≤(ord b w x).length→nl (iw (ord b w x) k) i=0:=by
   intro k
   induction k with
   |zero=>intro _;simp only [iw,lG];split<;>rfl
   |succ k ih=>
    intro hk
    rw [iw,jq,if_neg (fun e=>by have:=sS hd hx (j:=k) (by omega);omega),ih (by omega)]
  rw [dW,this _ (Nat.le_refl _)]
  omega
theorem yM {b w:List Nat} {n x:Nat} (hd:aX n b w) (hx:x<n):By 16 (dR b w n x).1∧By 16 (dR b w n x).2:=by
 have h:=fun i=>Nat.lt_trans (yL hd hx i) (show 16<256 by omega)
 exact ⟨FM h,FM h⟩
theorem uT {b w:List Nat} {n k:Nat} (hd:aX n b w) (hk:k<n):By 16 (lH b w n k).1∧By 16 (lH b w n k).2:=by
 obtain ⟨x,hx,e⟩:= @sU b w n k
 rw [e]
 exact yM hd (by omega)
theorem abD {x0:Bool} {n:Nat} {b w:List Nat} {H:BH} {K:Value→BH→Prop} (hb:By 16 b) (hw:By 16 w) (hd:aX n b w)
  (hK:K (DV n (eG b w n).1 (eG b w n).2) H):aF x0 Xu [DV n b w] H K:=by
 have hlb:=hb.len
 have fG:=hw.len
 have hz:=jS
 have hn:=hd.1.1
 refine bK (by exact .cons jP .nil) ?_
 refine aG YH ?_;simp only [iO,aB]
 refine au fun Kr hKr=>?_;simp (disch:=omega) only [RA,↓reduceIte,Nat.reduceEqDiff,RD,aI];refine hKr _ _ ?_;clear hKr Kr;(try simp only [RN,reduceIte]);try refine aj rfl ?_
 refine au fun Kr hKr=>?_;simp (disch:=omega) only [RA,↓reduceIte,Nat.reduceEqDiff,Nat.reduceAdd,Nat.reduceMul,Int.reduceToNat,Nat.reduceLT,reduceCtorEq,RD,aI,aT]
 have hq0:=yM (x:=0) hd (by omega)
 have l1:=hq0.1.len
 have l2:=hq0.2.len
 simp only [dR] at l1 l2
 refine MP (x:=0) hb hw hd (by omega) ?_
 simp (disch:=omega) only [RA,↓reduceIte,Nat.reduceEqDiff,Nat.reduceAdd,Nat.reduceMul,Int.reduceToNat,Nat.reduceLT,reduceCtorEq,RD,aI,aT]
 refine MQ hb hw hd (CG hd (by omega)) (yL hd (by omega)) ?_
 simp (disch:=omega) only [RA,↓reduceIte,Nat.reduceEqDiff,Nat.reduceAdd,Nat.reduceMul,Int.reduceToNat,Nat.reduceLT,reduceCtorEq,RD,aI,aT]
 refine hKr _ _ ?_;clear hKr Kr;(try simp only [bW,dH,dG]);(try simp only [RN,reduceIte]);try refine aj rfl ?_
 refine au fun Kr hKr=>?_;simp (disch:=omega) only [RA,↓reduceIte,Nat.reduceEqDiff,RD];refine hKr _ _ ?_;clear hKr Kr;(try simp only [RN,reduceIte]);try refine aj rfl ?_
 clear l1 l2
 refine aW (fun m f H'=> ∃k r,k+1≤n∧m=n-(k+1)∧r=lH b w n k∧f 1=P 0 0∧f 2=P 1 0∧f 3=P 2 0∧f 4=I ((k+1:Nat):Int)∧H'=[some (DC n b w),some (DC 0 fQ fQ),some (DC n r.1 r.2)]) (n-1) ?_ ?_
 ·exact ⟨_,_,Gh.refl,0,dR b w n 0,by omega,by omega,rfl,ah,ah,ah,ah,rfl⟩
 ·rintro m f H' R ⟨k,r,hk,rfl,hr,g1,g2,g3,g4,rfl⟩ hN hX hR hE
  simp only [iO.l0,aB]
  have hrb:=uT (k:=k) hd (by omega)
  rw [←hr] at hrb
  have l1:=hrb.1.len
  have l2:=hrb.2.len
  refine au fun Kr hKr=>?_;simp (disch:=omega) only [RA,↓reduceIte,Nat.reduceEqDiff,RD,g1,g4,aI];refine hKr _ _ ?_;clear hKr Kr;(try simp only [RN,reduceIte]);try refine aj rfl ?_
  refine eY (p:=k+1<n) (by simp only [RA,↓reduceIte,Nat.reduceEqDiff]<;>rfl) (by (try simp only [RB])<;>first|done|exact Iff.rfl|omega|simp) (fun hc=>?_) (fun hc=>?_)<;>(try simp only [RN,reduceIte])<;>(try refine aj rfl ?_)
  ·have hq:=yM hd hc
   have l3:=hq.1.len
   have l4:=hq.2.len
   simp only [dR] at l3 l4
   have e1:((k+1:Nat):Int)+1=((k+1+1:Nat):Int):=by omega
   (first|refine fV rfl ?_|refine fZ rfl ?_);(try simp only [RN,reduceIte]);try refine aj rfl ?_
   refine au fun Kr hKr=>?_;simp (disch:=omega) only [RA,↓reduceIte,Nat.reduceEqDiff,Nat.reduceAdd,Nat.reduceMul,Int.reduceToNat,Nat.reduceLT,reduceCtorEq,RD,g1,g4,aI,aT]
   refine MP hb hw hd hc ?_
   simp (disch:=omega) only [RA,↓reduceIte,Nat.reduceEqDiff,Nat.reduceAdd,Nat.reduceMul,Int.reduceToNat,Nat.reduceLT,reduceCtorEq,RD,g1,g4,aI,aT]
   refine MQ hb hw hd (CG hd hc) (yL hd hc) ?_
   simp (disch:=omega) only [RA,↓reduceIte,Nat.reduceEqDiff,Nat.reduceAdd,Nat.reduceMul,Int.reduceToNat,Nat.reduceLT,reduceCtorEq,RD,g1,g4,aI,aT]
   refine hKr _ _ ?_;clear hKr Kr;(try simp only [bW,dH,dG]);(try simp only [RN,reduceIte]);try refine aj rfl ?_
   refine au fun Kr hKr=>?_;simp (disch:=omega) only [RA,↓reduceIte,Nat.reduceEqDiff,RD,g3,aI,aT]
   refine Lc hq.1 hq.2 hrb.1 hrb.2 ?_
   simp (disch:=omega) only [RA,↓reduceIte,Nat.reduceEqDiff,RD]
   refine hKr _ _ ?_;clear hKr Kr;(try simp only [bW,dH,dG]);(try simp only [RN,reduceIte]);try refine aj rfl ?_
   have hlt:=KW (x:=dR b w n (k+1)) (y:=r) hq.1 hq.2 hrb.1 hrb.2
   have hlt':qg (dJ b (dW b w (k+1)) n,dJ w (dW b w (k+1)) n) (r.1,r.2)<0↔cZ (dR b w n (k+1)) r:=hlt
   refine eY (p:=qg (dJ b (dW b w (k+1)) n,dJ w (dW b w (k+1)) n) (r.1,r.2)<0) (by simp only [RA,↓reduceIte,Nat.reduceEqDiff]<;>rfl) (by (try simp only [RB])<;>first|done|exact Iff.rfl|omega|simp) (fun hc=>?_) (fun hc=>?_)<;>(try simp only [RN,reduceIte])<;>(try refine aj rfl ?_)
   ·refine au fun Kr hKr=>?_;simp (disch:=omega) only [RA,↓reduceIte,Nat.reduceEqDiff,RD,g3,aI,aT];refine hKr _ _ ?_;clear hKr Kr;(try simp only [RN,reduceIte]);try refine aj rfl ?_
    refine dN fun Kr hKr=>?_;simp (disch:=omega) only [RA,↓reduceIte,Nat.reduceEqDiff,RD,g4,e1];refine hKr _ _ ?_;clear hKr Kr
    refine hN (n-(k+1+1)) _ _ _ _ (by omega) (Gh.nrm [0,1,2] rfl rfl (by simp only [RH,rF])) ⟨k+1,dR b w n (k+1),by omega,rfl,?_,ah,ah,ah,ah,rfl⟩
    rw [lH,←hr,if_pos (hlt'.1 hc)]
   ·(try simp only [RN,reduceIte]);try refine aj rfl ?_
    refine dN fun Kr hKr=>?_;simp (disch:=omega) only [RA,↓reduceIte,Nat.reduceEqDiff,RD,g4,e1];refine hKr _ _ ?_;clear hKr Kr
    refine hN (n-(k+1+1)) _ _ _ _ (by omega) (Gh.nrm [0,1,2] rfl rfl (by simp only [RH,rF])) ⟨k+1,r,by omega,rfl,?_,ah,ah,ah,ah,rfl⟩
    rw [lH,←hr,if_neg (fun h=>hc (hlt'.2 h))]
  ·refine hX _ _ ?_
   obtain rfl:k=n-1:=by omega
   rw [eG,←hr] at hK
   refine au fun Kr hKr=>?_;simp (disch:=omega) only [RA,↓reduceIte,Nat.reduceEqDiff,RD,g2,g3,aI,aT];refine hKr _ _ ?_;clear hKr Kr;(try simp only [RN,reduceIte]);try refine aj rfl ?_
   refine bZ (by simp (disch:=omega) only [RA,↓reduceIte,Nat.reduceEqDiff,RD,resAll,resOf,g2,aI,aT];rfl) aY.refl ?_;simp only [tup]
   exact ⟨jP,hK⟩
end Go.Bm
