/- DpQi, DpQj, Dp5, DpQk, DpQl, DpQm -/
import Derived.Test.YtbpfbfbabpkceaaDpG0
import Derived.Test.YtbpfbfbabpkceaaDpG2
import Derived.Test.YtbpfbfbabpkceaaDpG5
set_option linter.unusedVariables false
set_option linter.unusedSimpArgs false
set_option linter.unusedSectionVars false
namespace Go.Bm.Q5
open Go Go.Am Go.Bm
def allI (n:Nat):Nat→List L2
 |0=>[]
 |k+1=>(sw n n (gZ n) 0).foldl (gG n (std (jl ((aH n n n).getD k [])))) (allI n k)
theorem Np {n:Nat} {black:List Nat} {x:L2}: ∀{ws:List (List Nat)} {l:List L2},x∈ws.foldl (gG n black) l↔x∈l∨ ∃w∈ws,bg n black w∧x=eY black w n
 |[],l=>by simp
 |w::ws,l=>by
  rw [List.foldl_cons,Np]
  have h1:x∈gG n black l w↔x∈l∨(bg n black w∧x=eY black w n):=by
   unfold gG
   split
   ·rename_i h
    rw [ng]
    constructor
    ·rintro (h1|h1)
     ·exact .inr ⟨h,h1⟩
     ·exact .inl h1
    ·rintro (h1|⟨_,h1⟩)
     ·exact .inr h1
     ·exact .inl h1
   ·rename_i h
    constructor
    ·exact .inl
    ·rintro (h1|⟨h1,_⟩)
     ·exact h1
     ·exact absurd h1 h
  rw [h1]
  constructor
  ·rintro ((h|h)|⟨v,hv,h⟩)
   ·exact .inl h
   ·exact .inr ⟨w,by simp,h⟩
   ·exact .inr ⟨v,by simp [hv],h⟩
  ·rintro (h|⟨v,hv,h⟩)
   ·exact .inl (.inl h)
   ·rcases List.mem_cons.1 hv with rfl|hv
    ·exact .inl (.inr h)
    ·exact .inr ⟨v,hv,h⟩
theorem Nq {n:Nat} {black:List Nat} {x:L2}: ∀{ws:List (List Nat)} {l:List L2},x∈ws.foldl (stepD n black) l↔x∈l∨ ∃w∈ws,bg n black w∧x=eY black w n
 |[],l=>by simp
 |w::ws,l=>by
  rw [List.foldl_cons,Nq]
  have h1:x∈stepD n black l w↔x∈l∨(bg n black w∧x=eY black w n):=by
   unfold stepD
   split
   ·rename_i h
    rw [List.mem_append,List.mem_singleton]
    constructor
    ·rintro (h1|h1)
     ·exact .inl h1
     ·exact .inr ⟨h,h1⟩
    ·rintro (h1|⟨_,h1⟩)
     ·exact .inl h1
     ·exact .inr h1
   ·rename_i h
    constructor
    ·exact .inl
    ·rintro (h1|⟨h1,_⟩)
     ·exact h1
     ·exact absurd h1 h
  rw [h1]
  constructor
  ·rintro ((h|h)|⟨v,hv,h⟩)
   ·exact .inl h
   ·exact .inr ⟨w,by simp,h⟩
   ·exact .inr ⟨v,by simp [hv],h⟩
  ·rintro (h|⟨v,hv,h⟩)
   ·exact .inl (.inl h)
   ·rcases List.mem_cons.1 hv with rfl|hv
    ·exact .inl (.inr h)
    ·exact .inr ⟨v,hv,h⟩
theorem AP {n:Nat}: ∀k,mJ (allI n k)
 |0=>⟨by simp [allI], .nil⟩
 |k+1=>AQ _ (AP k)
theorem Nr {n:Nat} (hn:1≤n∧n≤16) {x:L2}: ∀k,x∈allI n k↔x∈iw n k
 |0=>by simp [allI,iw]
 |k+1=>by
  have ih:=Nr hn (x:=x) k
  rw [allI,iw,Np,Nq,ih]
  have hp: ∀w,w∈sw n n (gZ n) 0↔w∈lv n n []:=fun w=>(SN hn).mem_iff.symm
  constructor
  ·rintro (h|⟨w,hw,h⟩)
   ·exact .inl h
   ·exact .inr ⟨w,(hp w).1 hw,h⟩
  ·rintro (h|⟨w,hw,h⟩)
   ·exact .inl h
   ·exact .inr ⟨w,(hp w).2 hw,h⟩
theorem U2 {n:Nat} (hn:1≤n∧n≤16):allI n (aH n n n).length=dL (allL n):=
 Eh (AP _).2 Ef fun x=>by rw [Nr hn,lF];rfl
theorem Ns {n:Nat}: ∀k,(allI n k).length≤k*gq n
 |0=>by simp [allI]
 |k+1=>by
  have h1:=AU (n:=n) (black:=std (jl ((aH n n n).getD k []))) (sw n n (gZ n) 0) (l:=allI n k)
  have h2:=Ns (n:=n) k
  rw [yT n] at h1
  rw [allI,Nat.add_mul]
  omega
theorem U3: ∀n,n<6→gq n≤120:=by decide
theorem U4 {n:Nat} {x:Bool} {H:BH} {K:Value→BH→Prop} (h1:1≤n) (h5:n≤5) (hK:K (LD n (dL (allL n))) H):aA x Ou [I n] H K:=by
 have hlen:=AO n (by omega)
 have hid:PQ n (gZ n):=⟨EU ⟨h1,by omega⟩,vU⟩
 have hil:=hid.2
 have hfc:=U3 n (by omega)
 have hr0:repl (DC 0 dG dG) 0=[]:=rfl
 have Xh:0*33=([]:List Value).length:=rfl
 refine cO (.cons .int .nil) ?_
 refine aZ OY ?_;simp only [fC,aB]
 refine au fun Kr hKr=>?_;simp (disch:=omega) only [RA,↓reduceIte,Nat.reduceEqDiff,Nat.reduceBEq,Nat.reduceSub,Nat.reduceAdd,Nat.reduceMul,Nat.reduceLT,Nat.reduceLeDiff,Int.reduceLE,Int.reduceLT,Int.reduceEq,Int.reduceNeg,Int.reduceToNat,Int.reduceMul,Int.reduceAdd,Int.reduceSub,Int.reduceBEq,Int.reduceBNe,reduceCtorEq,RD];refine hKr _ _ ?_;clear hKr Kr;(try simp only [RN,reduceIte]);try refine ah rfl ?_
 refine au fun Kr hKr=>?_;simp (disch:=omega) only [RA,↓reduceIte,Nat.reduceEqDiff,Nat.reduceBEq,Nat.reduceSub,Nat.reduceAdd,Nat.reduceMul,Nat.reduceLT,Nat.reduceLeDiff,Int.reduceLE,Int.reduceLT,Int.reduceEq,Int.reduceNeg,Int.reduceToNat,Int.reduceMul,Int.reduceAdd,Int.reduceSub,Int.reduceBEq,Int.reduceBNe,reduceCtorEq,RD]
 refine ny 0 rfl (by simp only [RH]) ?_;simp only [RZ,ji]
 refine Sz h1 (by omega) ?_
 simp (disch:=omega) only [RA,↓reduceIte,Nat.reduceEqDiff,Nat.reduceBEq,Nat.reduceSub,Nat.reduceAdd,Nat.reduceMul,Nat.reduceLT,Nat.reduceLeDiff,Int.reduceLE,Int.reduceLT,Int.reduceEq,Int.reduceNeg,Int.reduceToNat,Int.reduceMul,Int.reduceAdd,Int.reduceSub,Int.reduceBEq,Int.reduceBNe,reduceCtorEq,RD,R4,aI,aQ,hr0]
 refine hKr _ _ ?_;clear hKr Kr;(try simp only [aK,aO,aN]);(try simp only [RN,reduceIte]);try refine ah rfl ?_
 refine au fun Kr hKr=>?_;simp (disch:=omega) only [RA,↓reduceIte,Nat.reduceEqDiff,Nat.reduceBEq,Nat.reduceSub,Nat.reduceAdd,Nat.reduceMul,Nat.reduceLT,Nat.reduceLeDiff,Int.reduceLE,Int.reduceLT,Int.reduceEq,Int.reduceNeg,Int.reduceToNat,Int.reduceMul,Int.reduceAdd,Int.reduceSub,Int.reduceBEq,Int.reduceBNe,reduceCtorEq,RD];refine hKr _ _ ?_;clear hKr Kr;(try simp only [RN,reduceIte]);try refine ah rfl ?_
 refine jg (Gh.fz (i:=1) (cs:=[]) rfl aF.nil) ?_
 refine bH (fun m f H'=> ∃k,k≤(aH n n n).length∧m=(aH n n n).length-k∧f 0=I n∧f 3=Fz (aH n n n).length 1 ((aH n n n).map FN)∧f 4=LD n (allI n k)∧f 5=I k∧H'=[none,none]) ((aH n n n).length) ?_ ?_
 ·refine ⟨_,_,Gh.refl,0,by omega,by omega,?_,?_,?_,?_,?_⟩
  all_goals rfl
 ·rintro m f H' R ⟨k,hk,rfl,g0,g3,g4,g5,rfl⟩ hN hX hR hE
  simp only [fC.l0,aB]
  refine au fun Kr hKr=>?_;simp (disch:=omega) only [RA,↓reduceIte,Nat.reduceEqDiff,Nat.reduceBEq,Nat.reduceSub,Nat.reduceAdd,Nat.reduceMul,Nat.reduceLT,Nat.reduceLeDiff,Int.reduceLE,Int.reduceLT,Int.reduceEq,Int.reduceNeg,Int.reduceToNat,Int.reduceMul,Int.reduceAdd,Int.reduceSub,Int.reduceBEq,Int.reduceBNe,reduceCtorEq,RD,g3,g5];refine hKr _ _ ?_;clear hKr Kr;(try simp only [RN,reduceIte]);try refine ah rfl ?_
  refine bG (p:=k<(aH n n n).length) (by simp only [RA,↓reduceIte,Nat.reduceEqDiff,Nat.reduceBEq,Nat.reduceSub,Nat.reduceAdd,Nat.reduceMul,Nat.reduceLT,Nat.reduceLeDiff,Int.reduceLE,Int.reduceLT,Int.reduceEq,Int.reduceNeg,Int.reduceToNat,Int.reduceMul,Int.reduceAdd,Int.reduceSub,Int.reduceBEq,Int.reduceBNe,reduceCtorEq]<;>rfl) (by (try simp only [RB])<;>first|done|exact Iff.rfl|omega|simp) (fun hc=>?_) (fun hc=>?_)<;>(try simp only [RN,reduceIte])<;>(try refine ah rfl ?_)
  ·have hkn:k<(aH n n n).length:=by assumption
   obtain ⟨ht,hsum⟩:=Nu n (by omega) h1 ((aH n n n).getD k []) (Eo hkn)
   obtain ⟨hp,hby,_,_⟩:=Ez ht hsum
   have hlb:=hby.len
   have hlk:=Ns (n:=n) k
   have hmul:k*gq n≤7*120:=Nat.mul_le_mul (by omega) hfc
   have a1:((k:Nat):Int)+1=((k+1:Nat):Int):=by omega
   (first|refine bY rfl ?_|refine bZ rfl ?_);(try simp only [RN,reduceIte]);try refine ah rfl ?_
   refine au fun Kr hKr=>?_;simp (disch:=omega) only [RA,↓reduceIte,Nat.reduceEqDiff,Nat.reduceBEq,Nat.reduceSub,Nat.reduceAdd,Nat.reduceMul,Nat.reduceLT,Nat.reduceLeDiff,Int.reduceLE,Int.reduceLT,Int.reduceEq,Int.reduceNeg,Int.reduceToNat,Int.reduceMul,Int.reduceAdd,Int.reduceSub,Int.reduceBEq,Int.reduceBNe,reduceCtorEq,RD,g0,g3,g4,g5,y7,Eu]
   refine SH ht ?_
   simp (disch:=omega) only [RA,↓reduceIte,Nat.reduceEqDiff,Nat.reduceBEq,Nat.reduceSub,Nat.reduceAdd,Nat.reduceMul,Nat.reduceLT,Nat.reduceLeDiff,Int.reduceLE,Int.reduceLT,Int.reduceEq,Int.reduceNeg,Int.reduceToNat,Int.reduceMul,Int.reduceAdd,Int.reduceSub,Int.reduceBEq,Int.reduceBNe,reduceCtorEq,RD,g0,R4,hlb]
   refine Uc (by omega) ?_
   simp (disch:=omega) only [RA,↓reduceIte,Nat.reduceEqDiff,Nat.reduceBEq,Nat.reduceSub,Nat.reduceAdd,Nat.reduceMul,Nat.reduceLT,Nat.reduceLeDiff,Int.reduceLE,Int.reduceLT,Int.reduceEq,Int.reduceNeg,Int.reduceToNat,Int.reduceMul,Int.reduceAdd,Int.reduceSub,Int.reduceBEq,Int.reduceBNe,reduceCtorEq,RD,g0,R4,hlb,hil]
   refine U5 hby hp n (k:=0) hid (by omega) (AP k) (by omega) ?_
   simp (disch:=omega) only [RA,↓reduceIte,Nat.reduceEqDiff,Nat.reduceBEq,Nat.reduceSub,Nat.reduceAdd,Nat.reduceMul,Nat.reduceLT,Nat.reduceLeDiff,Int.reduceLE,Int.reduceLT,Int.reduceEq,Int.reduceNeg,Int.reduceToNat,Int.reduceMul,Int.reduceAdd,Int.reduceSub,Int.reduceBEq,Int.reduceBNe,reduceCtorEq,RD,g0,R4]
   refine hKr _ _ ?_;clear hKr Kr;(try simp only [aK,aO,aN]);(try simp only [RN,reduceIte]);try refine ah rfl ?_
   refine bI fun Kr hKr=>?_;simp (disch:=omega) only [RA,↓reduceIte,Nat.reduceEqDiff,Nat.reduceBEq,Nat.reduceSub,Nat.reduceAdd,Nat.reduceMul,Nat.reduceLT,Nat.reduceLeDiff,Int.reduceLE,Int.reduceLT,Int.reduceEq,Int.reduceNeg,Int.reduceToNat,Int.reduceMul,Int.reduceAdd,Int.reduceSub,Int.reduceBEq,Int.reduceBNe,reduceCtorEq,RD,g5,a1];refine hKr _ _ ?_;clear hKr Kr
   refine hN ((aH n n n).length-(k+1)) _ _ _ _ (by omega) Gh.refl ⟨k+1,by omega,rfl,?_,?_,?_,?_,rfl⟩
   any_goals (simp (disch:=omega) only [RA,↓reduceIte,Nat.reduceEqDiff,Nat.reduceBEq,Nat.reduceSub,Nat.reduceAdd,Nat.reduceMul,Nat.reduceLT,Nat.reduceLeDiff,Int.reduceLE,Int.reduceLT,Int.reduceEq,Int.reduceNeg,Int.reduceToNat,Int.reduceMul,Int.reduceAdd,Int.reduceSub,Int.reduceBEq,Int.reduceBNe,reduceCtorEq,RD,RE, *]<;>rfl)
  ·refine hX _ _ ?_
   obtain rfl:k=(aH n n n).length:=by omega
   rw [←U2 ⟨h1,by omega⟩] at hK
   refine au fun Kr hKr=>?_;simp (disch:=omega) only [RA,↓reduceIte,Nat.reduceEqDiff,Nat.reduceBEq,Nat.reduceSub,Nat.reduceAdd,Nat.reduceMul,Nat.reduceLT,Nat.reduceLeDiff,Int.reduceLE,Int.reduceLT,Int.reduceEq,Int.reduceNeg,Int.reduceToNat,Int.reduceMul,Int.reduceAdd,Int.reduceSub,Int.reduceBEq,Int.reduceBNe,reduceCtorEq,RD,g4];refine hKr _ _ ?_;clear hKr Kr;(try simp only [RN,reduceIte]);try refine ah rfl ?_
   refine aS (by simp (disch:=omega) only [RA,↓reduceIte,Nat.reduceEqDiff,Nat.reduceBEq,Nat.reduceSub,Nat.reduceAdd,Nat.reduceMul,Nat.reduceLT,Nat.reduceLeDiff,Int.reduceLE,Int.reduceLT,Int.reduceEq,Int.reduceNeg,Int.reduceToNat,Int.reduceMul,Int.reduceAdd,Int.reduceSub,Int.reduceBEq,Int.reduceBNe,reduceCtorEq,RD,resAll,resOf];rfl) aG.refl ?_;simp only [tup]
   exact ⟨.fz,hK⟩
end Go.Bm.Q5
namespace Go.Bm.Q5
open Go Go.Am Go.Bm
theorem AV {c:Int}:NN (.tuple ⟨[.slice none 0 0,I c]⟩):=NN.tuple (aF.cons .nil (aF.cons .int .nil))
theorem U6 {n:Nat} {l:List L2} {c:Int}:NN (.tuple ⟨[LD n l,I c]⟩):=NN.tuple (aF.cons .fz (aF.cons .int .nil))
section
variable {x:Bool} {H:BH} {K:Value→BH→Prop}
theorem UW {n:Nat} (h1:1≤n) (h5:n≤5) (hK:K (.tuple ⟨[LD n (dL (allL n)),I 0]⟩) H):aA x CQ [I n] H K:=by
 refine cO (.cons .int .nil) ?_
 refine aZ Dh ?_;simp only [iy,aB]
 refine au fun Kr hKr=>?_;simp (disch:=omega) only [RA,↓reduceIte,Nat.reduceEqDiff,Nat.reduceBEq,Nat.reduceSub,Nat.reduceAdd,Nat.reduceMul,Nat.reduceLT,Nat.reduceLeDiff,Int.reduceLE,Int.reduceLT,Int.reduceEq,Int.reduceNeg,Int.reduceToNat,Int.reduceMul,Int.reduceAdd,Int.reduceSub,Int.reduceBEq,Int.reduceBNe,reduceCtorEq,RD];refine hKr _ _ ?_;clear hKr Kr;(try simp only [RN,reduceIte]);try refine ah rfl ?_
 refine au fun Kr hKr=>?_;simp (disch:=omega) only [RA,↓reduceIte,Nat.reduceEqDiff,Nat.reduceBEq,Nat.reduceSub,Nat.reduceAdd,Nat.reduceMul,Nat.reduceLT,Nat.reduceLeDiff,Int.reduceLE,Int.reduceLT,Int.reduceEq,Int.reduceNeg,Int.reduceToNat,Int.reduceMul,Int.reduceAdd,Int.reduceSub,Int.reduceBEq,Int.reduceBNe,reduceCtorEq,RD]
 refine zq ?_
 simp (disch:=omega) only [RA,↓reduceIte,Nat.reduceEqDiff,Nat.reduceBEq,Nat.reduceSub,Nat.reduceAdd,Nat.reduceMul,Nat.reduceLT,Nat.reduceLeDiff,Int.reduceLE,Int.reduceLT,Int.reduceEq,Int.reduceNeg,Int.reduceToNat,Int.reduceMul,Int.reduceAdd,Int.reduceSub,Int.reduceBEq,Int.reduceBNe,reduceCtorEq,RD]
 refine hKr _ _ ?_;clear hKr Kr;(try simp only [aK,aO,aN]);(try simp only [RN,reduceIte]);try refine ah rfl ?_
 have e:decide (1≤(n:Int)∧(n:Int)≤5)=true:=decide_eq_true (by omega)
 refine aP (t:=false) (by simp (disch:=omega) only [RA,↓reduceIte,Nat.reduceEqDiff,Nat.reduceBEq,Nat.reduceSub,Nat.reduceAdd,Nat.reduceMul,Nat.reduceLT,Nat.reduceLeDiff,Int.reduceLE,Int.reduceLT,Int.reduceEq,Int.reduceNeg,Int.reduceToNat,Int.reduceMul,Int.reduceAdd,Int.reduceSub,Int.reduceBEq,Int.reduceBNe,reduceCtorEq,RD,e]) ?_;(try simp only [RN,reduceIte]);try refine ah rfl ?_
 refine au fun Kr hKr=>?_;simp (disch:=omega) only [RA,↓reduceIte,Nat.reduceEqDiff,Nat.reduceBEq,Nat.reduceSub,Nat.reduceAdd,Nat.reduceMul,Nat.reduceLT,Nat.reduceLeDiff,Int.reduceLE,Int.reduceLT,Int.reduceEq,Int.reduceNeg,Int.reduceToNat,Int.reduceMul,Int.reduceAdd,Int.reduceSub,Int.reduceBEq,Int.reduceBNe,reduceCtorEq,RD]
 refine U4 h1 h5 ?_
 simp (disch:=omega) only [RA,↓reduceIte,Nat.reduceEqDiff,Nat.reduceBEq,Nat.reduceSub,Nat.reduceAdd,Nat.reduceMul,Nat.reduceLT,Nat.reduceLeDiff,Int.reduceLE,Int.reduceLT,Int.reduceEq,Int.reduceNeg,Int.reduceToNat,Int.reduceMul,Int.reduceAdd,Int.reduceSub,Int.reduceBEq,Int.reduceBNe,reduceCtorEq,RD]
 refine hKr _ _ ?_;clear hKr Kr;(try simp only [aK,aO,aN]);(try simp only [RN,reduceIte]);try refine ah rfl ?_
 refine aS (by simp (disch:=omega) only [RA,↓reduceIte,Nat.reduceEqDiff,Nat.reduceBEq,Nat.reduceSub,Nat.reduceAdd,Nat.reduceMul,Nat.reduceLT,Nat.reduceLeDiff,Int.reduceLE,Int.reduceLT,Int.reduceEq,Int.reduceNeg,Int.reduceToNat,Int.reduceMul,Int.reduceAdd,Int.reduceSub,Int.reduceBEq,Int.reduceBNe,reduceCtorEq,RD,resAll,resOf];rfl) aG.refl ?_;simp only [tup]
 exact ⟨U6,hK⟩
theorem U0 {n:Int} (h: ¬(1≤n∧n≤5)) (hK:K (.tuple ⟨[.slice none 0 0,I 2]⟩) H):aA x CQ [I n] H K:=by
 refine cO (.cons .int .nil) ?_
 refine aZ Dh ?_;simp only [iy,aB]
 refine au fun Kr hKr=>?_;simp (disch:=omega) only [RA,↓reduceIte,Nat.reduceEqDiff,Nat.reduceBEq,Nat.reduceSub,Nat.reduceAdd,Nat.reduceMul,Nat.reduceLT,Nat.reduceLeDiff,Int.reduceLE,Int.reduceLT,Int.reduceEq,Int.reduceNeg,Int.reduceToNat,Int.reduceMul,Int.reduceAdd,Int.reduceSub,Int.reduceBEq,Int.reduceBNe,reduceCtorEq,RD];refine hKr _ _ ?_;clear hKr Kr;(try simp only [RN,reduceIte]);try refine ah rfl ?_
 refine au fun Kr hKr=>?_;simp (disch:=omega) only [RA,↓reduceIte,Nat.reduceEqDiff,Nat.reduceBEq,Nat.reduceSub,Nat.reduceAdd,Nat.reduceMul,Nat.reduceLT,Nat.reduceLeDiff,Int.reduceLE,Int.reduceLT,Int.reduceEq,Int.reduceNeg,Int.reduceToNat,Int.reduceMul,Int.reduceAdd,Int.reduceSub,Int.reduceBEq,Int.reduceBNe,reduceCtorEq,RD]
 refine zq ?_
 simp (disch:=omega) only [RA,↓reduceIte,Nat.reduceEqDiff,Nat.reduceBEq,Nat.reduceSub,Nat.reduceAdd,Nat.reduceMul,Nat.reduceLT,Nat.reduceLeDiff,Int.reduceLE,Int.reduceLT,Int.reduceEq,Int.reduceNeg,Int.reduceToNat,Int.reduceMul,Int.reduceAdd,Int.reduceSub,Int.reduceBEq,Int.reduceBNe,reduceCtorEq,RD]
 refine hKr _ _ ?_;clear hKr Kr;(try simp only [aK,aO,aN]);(try simp only [RN,reduceIte]);try refine ah rfl ?_
 have e:decide (1≤n∧n≤5)=false:=decide_eq_false h
 refine aP (t:=true) (by simp (disch:=omega) only [RA,↓reduceIte,Nat.reduceEqDiff,Nat.reduceBEq,Nat.reduceSub,Nat.reduceAdd,Nat.reduceMul,Nat.reduceLT,Nat.reduceLeDiff,Int.reduceLE,Int.reduceLT,Int.reduceEq,Int.reduceNeg,Int.reduceToNat,Int.reduceMul,Int.reduceAdd,Int.reduceSub,Int.reduceBEq,Int.reduceBNe,reduceCtorEq,RD,e]) ?_;(try simp only [RN,reduceIte]);try refine ah rfl ?_
 refine au fun Kr hKr=>?_;simp (disch:=omega) only [RA,↓reduceIte,Nat.reduceEqDiff,Nat.reduceBEq,Nat.reduceSub,Nat.reduceAdd,Nat.reduceMul,Nat.reduceLT,Nat.reduceLeDiff,Int.reduceLE,Int.reduceLT,Int.reduceEq,Int.reduceNeg,Int.reduceToNat,Int.reduceMul,Int.reduceAdd,Int.reduceSub,Int.reduceBEq,Int.reduceBNe,reduceCtorEq,RD];refine hKr _ _ ?_;clear hKr Kr;(try simp only [RN,reduceIte]);try refine ah rfl ?_
 refine aS (by simp (disch:=omega) only [RA,↓reduceIte,Nat.reduceEqDiff,Nat.reduceBEq,Nat.reduceSub,Nat.reduceAdd,Nat.reduceMul,Nat.reduceLT,Nat.reduceLeDiff,Int.reduceLE,Int.reduceLT,Int.reduceEq,Int.reduceNeg,Int.reduceToNat,Int.reduceMul,Int.reduceAdd,Int.reduceSub,Int.reduceBEq,Int.reduceBNe,reduceCtorEq,RD,resAll,resOf];rfl) aG.refl ?_;simp only [tup]
 exact ⟨AV,hK⟩
theorem UY {n:Nat} (h1:1≤n) (h5:n≤5) (hK:K (.tuple ⟨[S H.length 0 (dL (allL n)).length 33,I 0]⟩) (H++[some (DL n (dL (allL n)))])):aA x CS [I n] H K:=by
 refine Ut (.cons .int .nil) ?_
 refine aZ Di ?_;simp only [iC,aB]
 refine au fun Kr hKr=>?_;simp (disch:=omega) only [RA,↓reduceIte,Nat.reduceEqDiff,Nat.reduceBEq,Nat.reduceSub,Nat.reduceAdd,Nat.reduceMul,Nat.reduceLT,Nat.reduceLeDiff,Int.reduceLE,Int.reduceLT,Int.reduceEq,Int.reduceNeg,Int.reduceToNat,Int.reduceMul,Int.reduceAdd,Int.reduceSub,Int.reduceBEq,Int.reduceBNe,reduceCtorEq,RD];refine hKr _ _ ?_;clear hKr Kr;(try simp only [RN,reduceIte]);try refine ah rfl ?_
 have q1: ¬(n:Int)<1:=by omega
 have q2: ¬(5:Int)<n:=by omega
 refine au fun Kr hKr=>?_;simp (disch:=omega) only [RA,↓reduceIte,Nat.reduceEqDiff,Nat.reduceBEq,Nat.reduceSub,Nat.reduceAdd,Nat.reduceMul,Nat.reduceLT,Nat.reduceLeDiff,Int.reduceLE,Int.reduceLT,Int.reduceEq,Int.reduceNeg,Int.reduceToNat,Int.reduceMul,Int.reduceAdd,Int.reduceSub,Int.reduceBEq,Int.reduceBNe,reduceCtorEq,RD,q1,q2];refine hKr _ _ ?_;clear hKr Kr;(try simp only [RN,reduceIte]);try refine ah rfl ?_
 refine aP (t:=false) (by simp (disch:=omega) only [RA,↓reduceIte,Nat.reduceEqDiff,Nat.reduceBEq,Nat.reduceSub,Nat.reduceAdd,Nat.reduceMul,Nat.reduceLT,Nat.reduceLeDiff,Int.reduceLE,Int.reduceLT,Int.reduceEq,Int.reduceNeg,Int.reduceToNat,Int.reduceMul,Int.reduceAdd,Int.reduceSub,Int.reduceBEq,Int.reduceBNe,reduceCtorEq,RD]) ?_;(try simp only [RN,reduceIte]);try refine ah rfl ?_
 refine au fun Kr hKr=>?_;simp (disch:=omega) only [RA,↓reduceIte,Nat.reduceEqDiff,Nat.reduceBEq,Nat.reduceSub,Nat.reduceAdd,Nat.reduceMul,Nat.reduceLT,Nat.reduceLeDiff,Int.reduceLE,Int.reduceLT,Int.reduceEq,Int.reduceNeg,Int.reduceToNat,Int.reduceMul,Int.reduceAdd,Int.reduceSub,Int.reduceBEq,Int.reduceBNe,reduceCtorEq,RD]
 refine U7 h1 h5 ?_
 simp (disch:=omega) only [RA,↓reduceIte,Nat.reduceEqDiff,Nat.reduceBEq,Nat.reduceSub,Nat.reduceAdd,Nat.reduceMul,Nat.reduceLT,Nat.reduceLeDiff,Int.reduceLE,Int.reduceLT,Int.reduceEq,Int.reduceNeg,Int.reduceToNat,Int.reduceMul,Int.reduceAdd,Int.reduceSub,Int.reduceBEq,Int.reduceBNe,reduceCtorEq,RD]
 refine hKr _ _ ?_;clear hKr Kr;(try simp only [aK,aO,aN]);(try simp only [RN,reduceIte]);try refine ah rfl ?_
 refine aS (by simp (disch:=omega) only [RA,↓reduceIte,Nat.reduceEqDiff,Nat.reduceBEq,Nat.reduceSub,Nat.reduceAdd,Nat.reduceMul,Nat.reduceLT,Nat.reduceLeDiff,Int.reduceLE,Int.reduceLT,Int.reduceEq,Int.reduceNeg,Int.reduceToNat,Int.reduceMul,Int.reduceAdd,Int.reduceSub,Int.reduceBEq,Int.reduceBNe,reduceCtorEq,RD,resAll,resOf];rfl) aG.refl ?_;simp only [tup]
 exact ⟨0,_,_,_,_,_,rfl,rfl,yE,hK⟩
theorem Nj {n:Int} (h: ¬(1≤n∧n≤5)) (hK:K (.tuple ⟨[.slice none 0 0,I 2]⟩) H):aA x CS [I n] H K:=by
 refine cO (.cons .int .nil) ?_
 refine aZ Di ?_;simp only [iC,aB]
 refine au fun Kr hKr=>?_;simp (disch:=omega) only [RA,↓reduceIte,Nat.reduceEqDiff,Nat.reduceBEq,Nat.reduceSub,Nat.reduceAdd,Nat.reduceMul,Nat.reduceLT,Nat.reduceLeDiff,Int.reduceLE,Int.reduceLT,Int.reduceEq,Int.reduceNeg,Int.reduceToNat,Int.reduceMul,Int.reduceAdd,Int.reduceSub,Int.reduceBEq,Int.reduceBNe,reduceCtorEq,RD];refine hKr _ _ ?_;clear hKr Kr;(try simp only [RN,reduceIte]);try refine ah rfl ?_
 by_cases q1:n<1
 ·refine au fun Kr hKr=>?_;simp (disch:=omega) only [RA,↓reduceIte,Nat.reduceEqDiff,Nat.reduceBEq,Nat.reduceSub,Nat.reduceAdd,Nat.reduceMul,Nat.reduceLT,Nat.reduceLeDiff,Int.reduceLE,Int.reduceLT,Int.reduceEq,Int.reduceNeg,Int.reduceToNat,Int.reduceMul,Int.reduceAdd,Int.reduceSub,Int.reduceBEq,Int.reduceBNe,reduceCtorEq,RD,q1];refine hKr _ _ ?_;clear hKr Kr;(try simp only [RN,reduceIte]);try refine ah rfl ?_
  refine aP (t:=true) (by simp (disch:=omega) only [RA,↓reduceIte,Nat.reduceEqDiff,Nat.reduceBEq,Nat.reduceSub,Nat.reduceAdd,Nat.reduceMul,Nat.reduceLT,Nat.reduceLeDiff,Int.reduceLE,Int.reduceLT,Int.reduceEq,Int.reduceNeg,Int.reduceToNat,Int.reduceMul,Int.reduceAdd,Int.reduceSub,Int.reduceBEq,Int.reduceBNe,reduceCtorEq,RD]) ?_;(try simp only [RN,reduceIte]);try refine ah rfl ?_
  refine au fun Kr hKr=>?_;simp (disch:=omega) only [RA,↓reduceIte,Nat.reduceEqDiff,Nat.reduceBEq,Nat.reduceSub,Nat.reduceAdd,Nat.reduceMul,Nat.reduceLT,Nat.reduceLeDiff,Int.reduceLE,Int.reduceLT,Int.reduceEq,Int.reduceNeg,Int.reduceToNat,Int.reduceMul,Int.reduceAdd,Int.reduceSub,Int.reduceBEq,Int.reduceBNe,reduceCtorEq,RD];refine hKr _ _ ?_;clear hKr Kr;(try simp only [RN,reduceIte]);try refine ah rfl ?_
  refine aS (by simp (disch:=omega) only [RA,↓reduceIte,Nat.reduceEqDiff,Nat.reduceBEq,Nat.reduceSub,Nat.reduceAdd,Nat.reduceMul,Nat.reduceLT,Nat.reduceLeDiff,Int.reduceLE,Int.reduceLT,Int.reduceEq,Int.reduceNeg,Int.reduceToNat,Int.reduceMul,Int.reduceAdd,Int.reduceSub,Int.reduceBEq,Int.reduceBNe,reduceCtorEq,RD,resAll,resOf];rfl) aG.refl ?_;simp only [tup]
  exact ⟨AV,hK⟩
 ·have q2:(5:Int)<n:=by omega
  refine au fun Kr hKr=>?_;simp (disch:=omega) only [RA,↓reduceIte,Nat.reduceEqDiff,Nat.reduceBEq,Nat.reduceSub,Nat.reduceAdd,Nat.reduceMul,Nat.reduceLT,Nat.reduceLeDiff,Int.reduceLE,Int.reduceLT,Int.reduceEq,Int.reduceNeg,Int.reduceToNat,Int.reduceMul,Int.reduceAdd,Int.reduceSub,Int.reduceBEq,Int.reduceBNe,reduceCtorEq,RD,q1,q2];refine hKr _ _ ?_;clear hKr Kr;(try simp only [RN,reduceIte]);try refine ah rfl ?_
  refine aP (t:=true) (by simp (disch:=omega) only [RA,↓reduceIte,Nat.reduceEqDiff,Nat.reduceBEq,Nat.reduceSub,Nat.reduceAdd,Nat.reduceMul,Nat.reduceLT,Nat.reduceLeDiff,Int.reduceLE,Int.reduceLT,Int.reduceEq,Int.reduceNeg,Int.reduceToNat,Int.reduceMul,Int.reduceAdd,Int.reduceSub,Int.reduceBEq,Int.reduceBNe,reduceCtorEq,RD]) ?_;(try simp only [RN,reduceIte]);try refine ah rfl ?_
  refine au fun Kr hKr=>?_;simp (disch:=omega) only [RA,↓reduceIte,Nat.reduceEqDiff,Nat.reduceBEq,Nat.reduceSub,Nat.reduceAdd,Nat.reduceMul,Nat.reduceLT,Nat.reduceLeDiff,Int.reduceLE,Int.reduceLT,Int.reduceEq,Int.reduceNeg,Int.reduceToNat,Int.reduceMul,Int.reduceAdd,Int.reduceSub,Int.reduceBEq,Int.reduceBNe,reduceCtorEq,RD];refine hKr _ _ ?_;clear hKr Kr;(try simp only [RN,reduceIte]);try refine ah rfl ?_
  refine aS (by simp (disch:=omega) only [RA,↓reduceIte,Nat.reduceEqDiff,Nat.reduceBEq,Nat.reduceSub,Nat.reduceAdd,Nat.reduceMul,Nat.reduceLT,Nat.reduceLeDiff,Int.reduceLE,Int.reduceLT,Int.reduceEq,Int.reduceNeg,Int.reduceToNat,Int.reduceMul,Int.reduceAdd,Int.reduceSub,Int.reduceBEq,Int.reduceBNe,reduceCtorEq,RD,resAll,resOf];rfl) aG.refl ?_;simp only [tup]
  exact ⟨AV,hK⟩
end
end Go.Bm.Q5
namespace Go.Bm
open Go Go.Am
theorem Nv {x:Bool} {p q:List Nat} {H:BH} {K:Value→BH→Prop} (hp:By 16 p) (hq:By 16 q) (hK:K (.bool (decide (p=q))) H):aA x OC [PL p,PL q] H K:=by
 have hlp:=hp.len
 have hlq:=hq.len
 refine cO (by simp only [RH]) ?_
 refine aZ O9 ?_;simp only [fE,aB]
 refine au fun Kr hKr=>?_;simp (disch:=omega) only [RA,↓reduceIte,Nat.reduceEqDiff,RD];refine hKr _ _ ?_;clear hKr Kr;(try simp only [RN,reduceIte]);try refine ah rfl ?_
 refine au fun Kr hKr=>?_;simp (disch:=omega) only [RA,↓reduceIte,Nat.reduceEqDiff,RD];refine hKr _ _ ?_;clear hKr Kr;(try simp only [RN,reduceIte]);try refine ah rfl ?_
 refine bH (fun m f H'=> ∃k,k≤16∧m=16-k∧f 2=P 0 0∧f 3=P 1 0∧f 5=I k∧H'=[some (p.map N8),some (q.map N8)]∧ ∀i,i<k→nl p i=nl q i) (16) ?_ ?_
 ·refine ⟨_,_,Gh.refl,0,by omega,by omega,?_,?_,?_,rfl,by omega⟩
  any_goals (simp (disch:=omega) only [RA,↓reduceIte,Nat.reduceEqDiff,RD,RE, *]<;>rfl)
 ·rintro m f H' R ⟨k,hk,rfl,h1,h2,h4,rfl,hall⟩ hN hX hR hE
  simp only [fE.l0,aB]
  refine au fun Kr hKr=>?_;simp (disch:=omega) only [RA,↓reduceIte,Nat.reduceEqDiff,RD,h4];refine hKr _ _ ?_;clear hKr Kr;(try simp only [RN,reduceIte]);try refine ah rfl ?_
  refine bG (p:=k<16) (by simp only [RA,↓reduceIte,Nat.reduceEqDiff]<;>rfl) (by (try simp only [RB])<;>first|done|exact Iff.rfl|omega|simp) (fun hc=>?_) (fun hc=>?_)<;>(try simp only [RN,reduceIte])<;>(try refine ah rfl ?_)
  ·(first|refine bY rfl ?_|refine bZ rfl ?_);(try simp only [RN,reduceIte]);try refine ah rfl ?_
   refine au fun Kr hKr=>?_;simp (disch:=omega) only [RA,↓reduceIte,Nat.reduceEqDiff,RD,h1,h2,h4,hlp,hlq];refine hKr _ _ ?_;clear hKr Kr;(try simp only [RN,reduceIte]);try refine ah rfl ?_
   refine bG (p:=nl p k≠nl q k) (by simp only [RA,↓reduceIte,Nat.reduceEqDiff]<;>rfl) (by (try simp only [RB])<;>first|done|exact Iff.rfl|omega|simp) (fun hc=>?_) (fun hc=>?_)<;>(try simp only [RN,reduceIte])<;>(try refine ah rfl ?_)
   ·refine au fun Kr hKr=>?_;simp (disch:=omega) only [RA,↓reduceIte,Nat.reduceEqDiff,RD];refine hKr _ _ ?_;clear hKr Kr;(try simp only [RN,reduceIte]);try refine ah rfl ?_
    refine hR _ _ ?_
    refine aS (by simp (disch:=omega) only [RA,↓reduceIte,Nat.reduceEqDiff,RD,resAll,resOf];rfl) aG.refl ?_;simp only [tup]
    refine ⟨NN.bool,?_⟩
    have: ¬p=q:=fun e=>hc (by rw [e])
    simpa [this] using hK
   ·refine bI fun Kr hKr=>?_;simp (disch:=omega) only [RA,↓reduceIte,Nat.reduceEqDiff,RD,h4];refine hKr _ _ ?_;clear hKr Kr
    refine hN (16-(k+1)) _ _ _ _ (by omega) Gh.refl ⟨k+1,by omega,rfl,?_,?_,?_,rfl,fun i hi=>?_⟩
    any_goals (simp (disch:=omega) only [RA,↓reduceIte,Nat.reduceEqDiff,RD,RE, *]<;>rfl)
    rcases Nat.lt_or_ge i k with h|h
    ·exact hall i h
    ·obtain rfl:i=k:=by omega
     exact Decidable.not_not.1 hc
  ·refine hX _ _ ?_
   refine au fun Kr hKr=>?_;simp (disch:=omega) only [RA,↓reduceIte,Nat.reduceEqDiff,RD];refine hKr _ _ ?_;clear hKr Kr;(try simp only [RN,reduceIte]);try refine ah rfl ?_
   refine aS (by simp (disch:=omega) only [RA,↓reduceIte,Nat.reduceEqDiff,RD,resAll,resOf];rfl) aG.refl ?_;simp only [tup]
   refine ⟨NN.bool,?_⟩
   have:p=q:=kZ (by omega) fun i hi=>hall i (by omega)
   simpa [this] using hK
def kY (n:Int) (b w:List Nat) (n':Int) (b' w':List Nat):Prop:=n=n'∧b=b'∧w=w'
instance (n:Int) (b w:List Nat) (n':Int) (b' w':List Nat):Decidable (kY n b w n' b' w'):=by unfold kY;infer_instance
theorem U8 {x:Bool} {n:Int} {b w:List Nat} {n':Int} {b' w':List Nat} {H:BH} {K:Value→BH→Prop} (hb:By 16 b) (hw:By 16 w) (hb':By 16 b') (hw':By 16 w') (hK:K (.bool (decide (kY n b w n' b' w'))) H):
  aA x Ov [DV n b w,DV n' b' w'] H K:=by
 have hlb:=hb.len
 have fH:=hw.len
 have Rn:=hb'.len
 have Ro:=hw'.len
 refine cO (by exact .cons fV (.cons fV .nil)) ?_
 refine aZ O1 ?_;simp only [fK,aB]
 refine au fun Kr hKr=>?_;simp (disch:=omega) only [RA,↓reduceIte,Nat.reduceEqDiff,RD,aI];refine hKr _ _ ?_;clear hKr Kr;(try simp only [RN,reduceIte]);try refine ah rfl ?_
 refine au fun Kr hKr=>?_;simp (disch:=omega) only [RA,↓reduceIte,Nat.reduceEqDiff,RD,aI];refine hKr _ _ ?_;clear hKr Kr;(try simp only [RN,reduceIte]);try refine ah rfl ?_
 refine bG (p:=n≠n') (by simp only [RA,↓reduceIte,Nat.reduceEqDiff]<;>rfl) (by (try simp only [RB])<;>first|done|exact Iff.rfl|omega|simp) (fun hc=>?_) (fun hc=>?_)<;>(try simp only [RN,reduceIte])<;>(try refine ah rfl ?_)
 ·refine au fun Kr hKr=>?_;simp (disch:=omega) only [RA,↓reduceIte,Nat.reduceEqDiff,RD];refine hKr _ _ ?_;clear hKr Kr;(try simp only [RN,reduceIte]);try refine ah rfl ?_
  refine aS (by simp (disch:=omega) only [RA,↓reduceIte,Nat.reduceEqDiff,RD,resAll,resOf];rfl) aG.refl ?_;simp only [tup]
  exact ⟨NN.bool,by simpa [kY,hc] using hK⟩
 refine au fun Kr hKr=>?_;simp (disch:=omega) only [RA,↓reduceIte,Nat.reduceEqDiff,RD,aI,aQ]
 refine Nv hb hb' ?_
 simp (disch:=omega) only [RA,↓reduceIte,Nat.reduceEqDiff,RD]
 refine hKr _ _ ?_;clear hKr Kr;(try simp only [aK,aO,aN]);(try simp only [RN,reduceIte]);try refine ah rfl ?_
 refine bG (p:= ¬b=b') (by simp only [RA,↓reduceIte,Nat.reduceEqDiff]<;>rfl) (by (try simp only [RB])<;>first|done|exact Iff.rfl|omega|simp) (fun hc=>?_) (fun hc=>?_)<;>(try simp only [RN,reduceIte])<;>(try refine ah rfl ?_)
 ·refine au fun Kr hKr=>?_;simp (disch:=omega) only [RA,↓reduceIte,Nat.reduceEqDiff,RD];refine hKr _ _ ?_;clear hKr Kr;(try simp only [RN,reduceIte]);try refine ah rfl ?_
  refine aS (by simp (disch:=omega) only [RA,↓reduceIte,Nat.reduceEqDiff,RD,resAll,resOf];rfl) aG.refl ?_;simp only [tup]
  rename_i hc1
  exact ⟨NN.bool,by simpa [kY,hc] using hK⟩
 refine au fun Kr hKr=>?_;simp (disch:=omega) only [RA,↓reduceIte,Nat.reduceEqDiff,RD,aI,aQ]
 refine Nv hw hw' ?_
 simp (disch:=omega) only [RA,↓reduceIte,Nat.reduceEqDiff,RD]
 refine hKr _ _ ?_;clear hKr Kr;(try simp only [aK,aO,aN]);(try simp only [RN,reduceIte]);try refine ah rfl ?_
 refine bG (p:= ¬w=w') (by simp only [RA,↓reduceIte,Nat.reduceEqDiff]<;>rfl) (by (try simp only [RB])<;>first|done|exact Iff.rfl|omega|simp) (fun hc=>?_) (fun hc=>?_)<;>(try simp only [RN,reduceIte])<;>(try refine ah rfl ?_)
 ·refine au fun Kr hKr=>?_;simp (disch:=omega) only [RA,↓reduceIte,Nat.reduceEqDiff,RD];refine hKr _ _ ?_;clear hKr Kr;(try simp only [RN,reduceIte]);try refine ah rfl ?_
  refine aS (by simp (disch:=omega) only [RA,↓reduceIte,Nat.reduceEqDiff,RD,resAll,resOf];rfl) aG.refl ?_;simp only [tup]
  exact ⟨NN.bool,by simpa [kY,hc] using hK⟩
 refine au fun Kr hKr=>?_;simp (disch:=omega) only [RA,↓reduceIte,Nat.reduceEqDiff,RD];refine hKr _ _ ?_;clear hKr Kr;(try simp only [RN,reduceIte]);try refine ah rfl ?_
 refine aS (by simp (disch:=omega) only [RA,↓reduceIte,Nat.reduceEqDiff,RD,resAll,resOf];rfl) aG.refl ?_;simp only [tup]
 rename_i h1 h2
 exact ⟨NN.bool,by simpa [kY,Decidable.not_not.1 h1,Decidable.not_not.1 h2,Decidable.not_not.1 hc] using hK⟩
end Go.Bm
namespace Go.Bm.Q5
open Go Go.Am Go.Bm
section
variable {n:Nat} {l:List L2} {x:Bool} {H:BH} {K:Value→BH→Prop}
theorem Nc (hl: ∀d∈l,By 16 d.1∧By 16 d.2) (hn:l.length≤100000) (hK:K (.bool true) H):aA x CU [LD n l,LD n l] H K:=by
 refine cO (.cons .fz (.cons .fz .nil)) ?_
 refine aZ Dj ?_;simp only [dQ,aB]
 refine au fun Kr hKr=>?_;simp (disch:=omega) only [RA,↓reduceIte,Nat.reduceEqDiff,Nat.reduceBEq,Nat.reduceSub,Nat.reduceAdd,Nat.reduceMul,Nat.reduceLT,Nat.reduceLeDiff,Int.reduceLE,Int.reduceLT,Int.reduceEq,Int.reduceNeg,Int.reduceToNat,Int.reduceMul,Int.reduceAdd,Int.reduceSub,Int.reduceBEq,Int.reduceBNe,reduceCtorEq,RD];refine hKr _ _ ?_;clear hKr Kr;(try simp only [RN,reduceIte]);try refine ah rfl ?_
 refine au fun Kr hKr=>?_;simp (disch:=omega) only [RA,↓reduceIte,Nat.reduceEqDiff,Nat.reduceBEq,Nat.reduceSub,Nat.reduceAdd,Nat.reduceMul,Nat.reduceLT,Nat.reduceLeDiff,Int.reduceLE,Int.reduceLT,Int.reduceEq,Int.reduceNeg,Int.reduceToNat,Int.reduceMul,Int.reduceAdd,Int.reduceSub,Int.reduceBEq,Int.reduceBNe,reduceCtorEq,RD];refine hKr _ _ ?_;clear hKr Kr;(try simp only [RN,reduceIte]);try refine ah rfl ?_
 refine aP (t:=false) (by simp (disch:=omega) only [RA,↓reduceIte,Nat.reduceEqDiff,Nat.reduceBEq,Nat.reduceSub,Nat.reduceAdd,Nat.reduceMul,Nat.reduceLT,Nat.reduceLeDiff,Int.reduceLE,Int.reduceLT,Int.reduceEq,Int.reduceNeg,Int.reduceToNat,Int.reduceMul,Int.reduceAdd,Int.reduceSub,Int.reduceBEq,Int.reduceBNe,reduceCtorEq,RD]) ?_;(try simp only [RN,reduceIte]);try refine ah rfl ?_
 refine au fun Kr hKr=>?_;simp (disch:=omega) only [RA,↓reduceIte,Nat.reduceEqDiff,Nat.reduceBEq,Nat.reduceSub,Nat.reduceAdd,Nat.reduceMul,Nat.reduceLT,Nat.reduceLeDiff,Int.reduceLE,Int.reduceLT,Int.reduceEq,Int.reduceNeg,Int.reduceToNat,Int.reduceMul,Int.reduceAdd,Int.reduceSub,Int.reduceBEq,Int.reduceBNe,reduceCtorEq,RD];refine hKr _ _ ?_;clear hKr Kr;(try simp only [RN,reduceIte]);try refine ah rfl ?_
 refine bH (fun m f H'=> ∃k,k≤l.length∧m=l.length-k∧f 0=LD n l∧f 1=LD n l∧f 5=I k∧H'=[]) (l.length) ?_ ?_
 ·refine ⟨_,_,Gh.refl,0,by omega,by omega,?_,?_,?_,rfl⟩
  any_goals (simp (disch:=omega) only [RA,↓reduceIte,Nat.reduceEqDiff,Nat.reduceBEq,Nat.reduceSub,Nat.reduceAdd,Nat.reduceMul,Nat.reduceLT,Nat.reduceLeDiff,Int.reduceLE,Int.reduceLT,Int.reduceEq,Int.reduceNeg,Int.reduceToNat,Int.reduceMul,Int.reduceAdd,Int.reduceSub,Int.reduceBEq,Int.reduceBNe,reduceCtorEq,RD,RE, *]<;>rfl)
 ·rintro m f H' R ⟨k,hk,rfl,g0,g1,g5,rfl⟩ hN hX hR hE
  simp only [dQ.l0,aB]
  refine au fun Kr hKr=>?_;simp (disch:=omega) only [RA,↓reduceIte,Nat.reduceEqDiff,Nat.reduceBEq,Nat.reduceSub,Nat.reduceAdd,Nat.reduceMul,Nat.reduceLT,Nat.reduceLeDiff,Int.reduceLE,Int.reduceLT,Int.reduceEq,Int.reduceNeg,Int.reduceToNat,Int.reduceMul,Int.reduceAdd,Int.reduceSub,Int.reduceBEq,Int.reduceBNe,reduceCtorEq,RD,g0,g5];refine hKr _ _ ?_;clear hKr Kr;(try simp only [RN,reduceIte]);try refine ah rfl ?_
  refine bG (p:=k<l.length) (by simp only [RA,↓reduceIte,Nat.reduceEqDiff,Nat.reduceBEq,Nat.reduceSub,Nat.reduceAdd,Nat.reduceMul,Nat.reduceLT,Nat.reduceLeDiff,Int.reduceLE,Int.reduceLT,Int.reduceEq,Int.reduceNeg,Int.reduceToNat,Int.reduceMul,Int.reduceAdd,Int.reduceSub,Int.reduceBEq,Int.reduceBNe,reduceCtorEq]<;>rfl) (by (try simp only [RB])<;>first|done|exact Iff.rfl|omega|simp) (fun hc=>?_) (fun hc=>?_)<;>(try simp only [RN,reduceIte])<;>(try refine ah rfl ?_)
  ·have hkn:k<l.length:=by assumption
   obtain ⟨e,he⟩: ∃e,l[k]? =some e:=⟨_,List.getElem?_eq_getElem hkn⟩
   have hel:=hl e (List.mem_of_getElem? he)
   have hge:=AX (n:=n) hl he
   have a1:((k:Nat):Int)+1=((k+1:Nat):Int):=by omega
   have eq1:decide (kY n e.1 e.2 n e.1 e.2)=true:=decide_eq_true ⟨rfl,rfl,rfl⟩
   (first|refine bY rfl ?_|refine bZ rfl ?_);(try simp only [RN,reduceIte]);try refine ah rfl ?_
   refine au fun Kr hKr=>?_;simp (disch:=omega) only [RA,↓reduceIte,Nat.reduceEqDiff,Nat.reduceBEq,Nat.reduceSub,Nat.reduceAdd,Nat.reduceMul,Nat.reduceLT,Nat.reduceLeDiff,Int.reduceLE,Int.reduceLT,Int.reduceEq,Int.reduceNeg,Int.reduceToNat,Int.reduceMul,Int.reduceAdd,Int.reduceSub,Int.reduceBEq,Int.reduceBNe,reduceCtorEq,RD,g0,g1,g5,hge]
   refine U8 hel.1 hel.2 hel.1 hel.2 ?_
   simp (disch:=omega) only [RA,↓reduceIte,Nat.reduceEqDiff,Nat.reduceBEq,Nat.reduceSub,Nat.reduceAdd,Nat.reduceMul,Nat.reduceLT,Nat.reduceLeDiff,Int.reduceLE,Int.reduceLT,Int.reduceEq,Int.reduceNeg,Int.reduceToNat,Int.reduceMul,Int.reduceAdd,Int.reduceSub,Int.reduceBEq,Int.reduceBNe,reduceCtorEq,RD,eq1]
   refine hKr _ _ ?_;clear hKr Kr;(try simp only [aK,aO,aN]);(try simp only [RN,reduceIte]);try refine ah rfl ?_
   refine aP (t:=false) (by simp (disch:=omega) only [RA,↓reduceIte,Nat.reduceEqDiff,Nat.reduceBEq,Nat.reduceSub,Nat.reduceAdd,Nat.reduceMul,Nat.reduceLT,Nat.reduceLeDiff,Int.reduceLE,Int.reduceLT,Int.reduceEq,Int.reduceNeg,Int.reduceToNat,Int.reduceMul,Int.reduceAdd,Int.reduceSub,Int.reduceBEq,Int.reduceBNe,reduceCtorEq,RD]) ?_;(try simp only [RN,reduceIte]);try refine ah rfl ?_
   refine bI fun Kr hKr=>?_;simp (disch:=omega) only [RA,↓reduceIte,Nat.reduceEqDiff,Nat.reduceBEq,Nat.reduceSub,Nat.reduceAdd,Nat.reduceMul,Nat.reduceLT,Nat.reduceLeDiff,Int.reduceLE,Int.reduceLT,Int.reduceEq,Int.reduceNeg,Int.reduceToNat,Int.reduceMul,Int.reduceAdd,Int.reduceSub,Int.reduceBEq,Int.reduceBNe,reduceCtorEq,RD,g5,a1];refine hKr _ _ ?_;clear hKr Kr
   refine hN (l.length-(k+1)) _ _ _ _ (by omega) Gh.refl ⟨k+1,by omega,rfl,?_,?_,?_,rfl⟩
   any_goals (simp (disch:=omega) only [RA,↓reduceIte,Nat.reduceEqDiff,Nat.reduceBEq,Nat.reduceSub,Nat.reduceAdd,Nat.reduceMul,Nat.reduceLT,Nat.reduceLeDiff,Int.reduceLE,Int.reduceLT,Int.reduceEq,Int.reduceNeg,Int.reduceToNat,Int.reduceMul,Int.reduceAdd,Int.reduceSub,Int.reduceBEq,Int.reduceBNe,reduceCtorEq,RD,RE, *]<;>rfl)
  ·refine hX _ _ ?_
   refine au fun Kr hKr=>?_;simp (disch:=omega) only [RA,↓reduceIte,Nat.reduceEqDiff,Nat.reduceBEq,Nat.reduceSub,Nat.reduceAdd,Nat.reduceMul,Nat.reduceLT,Nat.reduceLeDiff,Int.reduceLE,Int.reduceLT,Int.reduceEq,Int.reduceNeg,Int.reduceToNat,Int.reduceMul,Int.reduceAdd,Int.reduceSub,Int.reduceBEq,Int.reduceBNe,reduceCtorEq,RD];refine hKr _ _ ?_;clear hKr Kr;(try simp only [RN,reduceIte]);try refine ah rfl ?_
   refine aS (by simp (disch:=omega) only [RA,↓reduceIte,Nat.reduceEqDiff,Nat.reduceBEq,Nat.reduceSub,Nat.reduceAdd,Nat.reduceMul,Nat.reduceLT,Nat.reduceLeDiff,Int.reduceLE,Int.reduceLT,Int.reduceEq,Int.reduceNeg,Int.reduceToNat,Int.reduceMul,Int.reduceAdd,Int.reduceSub,Int.reduceBEq,Int.reduceBNe,reduceCtorEq,RD,resAll,resOf];rfl) aG.refl ?_;simp only [tup]
   exact ⟨.bool,hK⟩
theorem Nk (hK:K (.bool true) H):aA x CU [.slice none 0 0, .slice none 0 0] H K:=by
 refine cO (.cons .nil (.cons .nil .nil)) ?_
 refine aZ Dj ?_;simp only [dQ,aB]
 refine au fun Kr hKr=>?_;simp (disch:=omega) only [RA,↓reduceIte,Nat.reduceEqDiff,Nat.reduceBEq,Nat.reduceSub,Nat.reduceAdd,Nat.reduceMul,Nat.reduceLT,Nat.reduceLeDiff,Int.reduceLE,Int.reduceLT,Int.reduceEq,Int.reduceNeg,Int.reduceToNat,Int.reduceMul,Int.reduceAdd,Int.reduceSub,Int.reduceBEq,Int.reduceBNe,reduceCtorEq,RD];refine hKr _ _ ?_;clear hKr Kr;(try simp only [RN,reduceIte]);try refine ah rfl ?_
 refine au fun Kr hKr=>?_;simp (disch:=omega) only [RA,↓reduceIte,Nat.reduceEqDiff,Nat.reduceBEq,Nat.reduceSub,Nat.reduceAdd,Nat.reduceMul,Nat.reduceLT,Nat.reduceLeDiff,Int.reduceLE,Int.reduceLT,Int.reduceEq,Int.reduceNeg,Int.reduceToNat,Int.reduceMul,Int.reduceAdd,Int.reduceSub,Int.reduceBEq,Int.reduceBNe,reduceCtorEq,RD];refine hKr _ _ ?_;clear hKr Kr;(try simp only [RN,reduceIte]);try refine ah rfl ?_
 refine aP (t:=false) (by simp (disch:=omega) only [RA,↓reduceIte,Nat.reduceEqDiff,Nat.reduceBEq,Nat.reduceSub,Nat.reduceAdd,Nat.reduceMul,Nat.reduceLT,Nat.reduceLeDiff,Int.reduceLE,Int.reduceLT,Int.reduceEq,Int.reduceNeg,Int.reduceToNat,Int.reduceMul,Int.reduceAdd,Int.reduceSub,Int.reduceBEq,Int.reduceBNe,reduceCtorEq,RD]) ?_;(try simp only [RN,reduceIte]);try refine ah rfl ?_
 refine au fun Kr hKr=>?_;simp (disch:=omega) only [RA,↓reduceIte,Nat.reduceEqDiff,Nat.reduceBEq,Nat.reduceSub,Nat.reduceAdd,Nat.reduceMul,Nat.reduceLT,Nat.reduceLeDiff,Int.reduceLE,Int.reduceLT,Int.reduceEq,Int.reduceNeg,Int.reduceToNat,Int.reduceMul,Int.reduceAdd,Int.reduceSub,Int.reduceBEq,Int.reduceBNe,reduceCtorEq,RD];refine hKr _ _ ?_;clear hKr Kr;(try simp only [RN,reduceIte]);try refine ah rfl ?_
 refine bH (fun m f H'=>f 0= .slice none 0 0∧f 5=I (0:Nat)∧H'=[]) (0) ?_ ?_
 ·refine ⟨_,_,Gh.refl,?_,?_,rfl⟩
  any_goals (simp (disch:=omega) only [RA,↓reduceIte,Nat.reduceEqDiff,Nat.reduceBEq,Nat.reduceSub,Nat.reduceAdd,Nat.reduceMul,Nat.reduceLT,Nat.reduceLeDiff,Int.reduceLE,Int.reduceLT,Int.reduceEq,Int.reduceNeg,Int.reduceToNat,Int.reduceMul,Int.reduceAdd,Int.reduceSub,Int.reduceBEq,Int.reduceBNe,reduceCtorEq,RD,RE, *]<;>rfl)
 ·rintro m f H' R ⟨g0,g5,rfl⟩ hN hX hR hE
  simp only [dQ.l0,aB]
  refine au fun Kr hKr=>?_;simp (disch:=omega) only [RA,↓reduceIte,Nat.reduceEqDiff,Nat.reduceBEq,Nat.reduceSub,Nat.reduceAdd,Nat.reduceMul,Nat.reduceLT,Nat.reduceLeDiff,Int.reduceLE,Int.reduceLT,Int.reduceEq,Int.reduceNeg,Int.reduceToNat,Int.reduceMul,Int.reduceAdd,Int.reduceSub,Int.reduceBEq,Int.reduceBNe,reduceCtorEq,RD,g0,g5];refine hKr _ _ ?_;clear hKr Kr;(try simp only [RN,reduceIte]);try refine ah rfl ?_
  refine aP (t:=false) (by simp (disch:=omega) only [RA,↓reduceIte,Nat.reduceEqDiff,Nat.reduceBEq,Nat.reduceSub,Nat.reduceAdd,Nat.reduceMul,Nat.reduceLT,Nat.reduceLeDiff,Int.reduceLE,Int.reduceLT,Int.reduceEq,Int.reduceNeg,Int.reduceToNat,Int.reduceMul,Int.reduceAdd,Int.reduceSub,Int.reduceBEq,Int.reduceBNe,reduceCtorEq,RD]) ?_;(try simp only [RN,reduceIte]);try refine ah rfl ?_
  refine hX _ _ ?_
  refine au fun Kr hKr=>?_;simp (disch:=omega) only [RA,↓reduceIte,Nat.reduceEqDiff,Nat.reduceBEq,Nat.reduceSub,Nat.reduceAdd,Nat.reduceMul,Nat.reduceLT,Nat.reduceLeDiff,Int.reduceLE,Int.reduceLT,Int.reduceEq,Int.reduceNeg,Int.reduceToNat,Int.reduceMul,Int.reduceAdd,Int.reduceSub,Int.reduceBEq,Int.reduceBNe,reduceCtorEq,RD];refine hKr _ _ ?_;clear hKr Kr;(try simp only [RN,reduceIte]);try refine ah rfl ?_
  refine aS (by simp (disch:=omega) only [RA,↓reduceIte,Nat.reduceEqDiff,Nat.reduceBEq,Nat.reduceSub,Nat.reduceAdd,Nat.reduceMul,Nat.reduceLT,Nat.reduceLeDiff,Int.reduceLE,Int.reduceLT,Int.reduceEq,Int.reduceNeg,Int.reduceToNat,Int.reduceMul,Int.reduceAdd,Int.reduceSub,Int.reduceBEq,Int.reduceBNe,reduceCtorEq,RD,resAll,resOf];rfl) aG.refl ?_;simp only [tup]
  exact ⟨.bool,hK⟩
end
end Go.Bm.Q5
namespace Go.Bm.Q5
open Go Go.Am Go.Bm
def mkV (q p:Nat):Value:=if p%33=0 then I ((q+p:Nat):Int) else .int .u8 (IntKind.u8.wrap ((q+p:Nat):Int))
def fJ (q m:Nat):List Value:=(List.range m).map (mkV q)
def MX (q:Nat) (cs:List Value) (p:Nat):List Value:=fJ q p++cs.drop p
theorem mG {q m:Nat}:(fJ q m).length=m:=by simp [fJ]
theorem AY {q p:Nat} {cs:List Value} (h:p≤cs.length):(MX q cs p).length=cs.length:=by
 rw [MX,List.length_append,mG,List.length_drop]
 omega
theorem AZ {q p o:Nat} {cs:List Value} {v:Value} (ho:o=p) (h:p<cs.length) (hv:v=mkV q p):splice (MX q cs p) o [v]=MX q cs (p+1):=by
 subst ho;subst hv
 have e:fJ q (o+1)=fJ q o++[mkV q o]:=by simp [fJ,List.range_succ]
 have h1:(MX q cs o).take o=fJ q o:=by rw [MX,List.take_append_of_le_length (by rw [mG];omega),List.take_of_length_le (by rw [mG];omega)]
 have h2:(MX q cs o).drop (o+1)=cs.drop (o+1):=by
  rw [MX,List.drop_append,List.drop_of_length_le (by rw [mG];omega),mG,List.drop_drop,List.nil_append]
  congr 1
  omega
 rw [splice,h1,List.length_singleton,h2,MX,e]
theorem U9 {q:Nat} {cs:List Value}:MX q cs 0=cs:=by simp [MX,fJ]
theorem Va {q:Nat} {cs:List Value}:MX q cs cs.length=fJ q cs.length:=by simp [MX]
section
variable {N q:Nat} {cs:List Value} {K:Value→BH→Prop}
theorem UZ (hcl:cs.length=N*33) (Vb:N≤100000) (hq:q≤100) (hK:K (I ((q+N*33:Nat):Int)) [some (fJ q (N*33))]):aA false CV [S 0 0 N 33,I q] [some cs] K:=by
 refine aZ Dk ?_;simp only [bf,aB]
 refine au fun Kr hKr=>?_;simp (disch:=omega) only [RA,↓reduceIte,Nat.reduceEqDiff,Nat.reduceBEq,Nat.reduceSub,Nat.reduceAdd,Nat.reduceMul,Nat.reduceLT,Nat.reduceLeDiff,Int.reduceLE,Int.reduceLT,Int.reduceEq,Int.reduceNeg,Int.reduceToNat,Int.reduceMul,Int.reduceAdd,Int.reduceSub,Int.reduceBEq,Int.reduceBNe,reduceCtorEq,RD];refine hKr _ _ ?_;clear hKr Kr;(try simp only [RN,reduceIte]);try refine ah rfl ?_
 refine au fun Kr hKr=>?_;simp (disch:=omega) only [RA,↓reduceIte,Nat.reduceEqDiff,Nat.reduceBEq,Nat.reduceSub,Nat.reduceAdd,Nat.reduceMul,Nat.reduceLT,Nat.reduceLeDiff,Int.reduceLE,Int.reduceLT,Int.reduceEq,Int.reduceNeg,Int.reduceToNat,Int.reduceMul,Int.reduceAdd,Int.reduceSub,Int.reduceBEq,Int.reduceBNe,reduceCtorEq,RD];refine hKr _ _ ?_;clear hKr Kr;(try simp only [RN,reduceIte]);try refine ah rfl ?_
 refine bH (fun m f H'=> ∃i,i≤N∧m=N-i∧f 0=S 0 0 N 33∧f 1=I ((q+i*33:Nat):Int)∧f 5=I i∧H'=[some (MX q cs (i*33))]) (N) ?_ ?_
 ·refine ⟨_,_,Gh.refl,0,by omega,by omega,?_,?_,?_,by rw [Nat.zero_mul,U9]⟩
  any_goals (simp (disch:=omega) only [RA,↓reduceIte,Nat.reduceEqDiff,Nat.reduceBEq,Nat.reduceSub,Nat.reduceAdd,Nat.reduceMul,Nat.reduceLT,Nat.reduceLeDiff,Int.reduceLE,Int.reduceLT,Int.reduceEq,Int.reduceNeg,Int.reduceToNat,Int.reduceMul,Int.reduceAdd,Int.reduceSub,Int.reduceBEq,Int.reduceBNe,reduceCtorEq,RD,RE, *]<;>rfl)
 ·rintro m f H' R ⟨i,hi,rfl,g0,g1,g5,rfl⟩ A8 hX hR hE
  simp only [bf.l2,aB]
  refine au fun Kr hKr=>?_;simp (disch:=omega) only [RA,↓reduceIte,Nat.reduceEqDiff,Nat.reduceBEq,Nat.reduceSub,Nat.reduceAdd,Nat.reduceMul,Nat.reduceLT,Nat.reduceLeDiff,Int.reduceLE,Int.reduceLT,Int.reduceEq,Int.reduceNeg,Int.reduceToNat,Int.reduceMul,Int.reduceAdd,Int.reduceSub,Int.reduceBEq,Int.reduceBNe,reduceCtorEq,RD,g0,g5];refine hKr _ _ ?_;clear hKr Kr;(try simp only [RN,reduceIte]);try refine ah rfl ?_
  refine bG (p:=i<N) (by simp only [RA,↓reduceIte,Nat.reduceEqDiff,Nat.reduceBEq,Nat.reduceSub,Nat.reduceAdd,Nat.reduceMul,Nat.reduceLT,Nat.reduceLeDiff,Int.reduceLE,Int.reduceLT,Int.reduceEq,Int.reduceNeg,Int.reduceToNat,Int.reduceMul,Int.reduceAdd,Int.reduceSub,Int.reduceBEq,Int.reduceBNe,reduceCtorEq]<;>rfl) (by (try simp only [RB])<;>first|done|exact Iff.rfl|omega|simp) (fun hc=>?_) (fun hc=>?_)<;>(try simp only [RN,reduceIte])<;>(try refine ah rfl ?_)
  ·have hin:i<N:=by assumption
   have a1:(((q+i*33:Nat):Int))+1=((q+(i*33+1):Nat):Int):=by omega
   have hs0:splice (MX q cs (i*33)) (i*33) [I ((q+i*33:Nat):Int)]=MX q cs (i*33+1):=AZ rfl (by omega) (by rw [mkV,if_pos (by omega)])
   have hl0:=AY (q:=q) (p:=i*33) (cs:=cs) (by omega)
   have wW:bQ (some (MX q cs (i*33))) [some (MX q cs (i*33))] 0 (i*33) 1 (I ((q+i*33:Nat):Int))=some (undef,[some (MX q cs (i*33+1))]):=by
    rw [qZ rfl rfl rfl (by omega),hs0]
    rfl
   (first|refine bY rfl ?_|refine bZ rfl ?_);(try simp only [RN,reduceIte]);try refine ah rfl ?_
   refine au fun Kr hKr=>?_;simp (disch:=omega) only [RA,↓reduceIte,Nat.reduceEqDiff,Nat.reduceBEq,Nat.reduceSub,Nat.reduceAdd,Nat.reduceMul,Nat.reduceLT,Nat.reduceLeDiff,Int.reduceLE,Int.reduceLT,Int.reduceEq,Int.reduceNeg,Int.reduceToNat,Int.reduceMul,Int.reduceAdd,Int.reduceSub,Int.reduceBEq,Int.reduceBNe,reduceCtorEq,RD,g0,g1,g5,wW];refine hKr _ _ ?_;clear hKr Kr;(try simp only [RN,reduceIte]);try refine ah rfl ?_
   refine au fun Kr hKr=>?_;simp (disch:=omega) only [RA,↓reduceIte,Nat.reduceEqDiff,Nat.reduceBEq,Nat.reduceSub,Nat.reduceAdd,Nat.reduceMul,Nat.reduceLT,Nat.reduceLeDiff,Int.reduceLE,Int.reduceLT,Int.reduceEq,Int.reduceNeg,Int.reduceToNat,Int.reduceMul,Int.reduceAdd,Int.reduceSub,Int.reduceBEq,Int.reduceBNe,reduceCtorEq,RD,g1,a1];refine hKr _ _ ?_;clear hKr Kr;(try simp only [RN,reduceIte]);try refine ah rfl ?_
   refine au fun Kr hKr=>?_;simp (disch:=omega) only [RA,↓reduceIte,Nat.reduceEqDiff,Nat.reduceBEq,Nat.reduceSub,Nat.reduceAdd,Nat.reduceMul,Nat.reduceLT,Nat.reduceLeDiff,Int.reduceLE,Int.reduceLT,Int.reduceEq,Int.reduceNeg,Int.reduceToNat,Int.reduceMul,Int.reduceAdd,Int.reduceSub,Int.reduceBEq,Int.reduceBNe,reduceCtorEq,RD];refine hKr _ _ ?_;clear hKr Kr;(try simp only [RN,reduceIte]);try refine ah rfl ?_
   refine bH (fun m f H'=> ∃j,j≤16∧m=16-j∧f 0=S 0 0 N 33∧f 1=I ((q+(i*33+1+j):Nat):Int)∧f 5=I i∧f 6=I j∧H'=[some (MX q cs (i*33+1+j))]) (16) ?_ ?_
   ·refine ⟨_,_,Gh.refl,0,by omega,by omega,?_,?_,?_,?_,rfl⟩
    any_goals (simp (disch:=omega) only [RA,↓reduceIte,Nat.reduceEqDiff,Nat.reduceBEq,Nat.reduceSub,Nat.reduceAdd,Nat.reduceMul,Nat.reduceLT,Nat.reduceLeDiff,Int.reduceLE,Int.reduceLT,Int.reduceEq,Int.reduceNeg,Int.reduceToNat,Int.reduceMul,Int.reduceAdd,Int.reduceSub,Int.reduceBEq,Int.reduceBNe,reduceCtorEq,RD,RE, *]<;>rfl)
   ·rintro m f H' R ⟨j,hj,rfl,g0,g1,g5,g6,rfl⟩ hN hX hR hE
    simp only [bf.l0,aB]
    refine au fun Kr hKr=>?_;simp (disch:=omega) only [RA,↓reduceIte,Nat.reduceEqDiff,Nat.reduceBEq,Nat.reduceSub,Nat.reduceAdd,Nat.reduceMul,Nat.reduceLT,Nat.reduceLeDiff,Int.reduceLE,Int.reduceLT,Int.reduceEq,Int.reduceNeg,Int.reduceToNat,Int.reduceMul,Int.reduceAdd,Int.reduceSub,Int.reduceBEq,Int.reduceBNe,reduceCtorEq,RD,g6];refine hKr _ _ ?_;clear hKr Kr;(try simp only [RN,reduceIte]);try refine ah rfl ?_
    refine bG (p:=j<16) (by simp only [RA,↓reduceIte,Nat.reduceEqDiff,Nat.reduceBEq,Nat.reduceSub,Nat.reduceAdd,Nat.reduceMul,Nat.reduceLT,Nat.reduceLeDiff,Int.reduceLE,Int.reduceLT,Int.reduceEq,Int.reduceNeg,Int.reduceToNat,Int.reduceMul,Int.reduceAdd,Int.reduceSub,Int.reduceBEq,Int.reduceBNe,reduceCtorEq]<;>rfl) (by (try simp only [RB])<;>first|done|exact Iff.rfl|omega|simp) (fun hc=>?_) (fun hc=>?_)<;>(try simp only [RN,reduceIte])<;>(try refine ah rfl ?_)
    ·have Ba:j<16:=by assumption
     have b1:(((q+(i*33+1+j):Nat):Int))+1=((q+(i*33+1+(j+1)):Nat):Int):=by omega
     have b2:((j:Nat):Int)+1=((j+1:Nat):Int):=by omega
     have hs1:splice (MX q cs (i*33+1+j)) (i*33+1+j) [.int .u8 (IntKind.u8.wrap ((q+(i*33+1+j):Nat):Int))]=MX q cs (i*33+1+(j+1)):=AZ rfl (by omega) (by rw [mkV,if_neg (by omega)])
     have hl1:=AY (q:=q) (p:=i*33+1+j) (cs:=cs) (by omega)
     have hst1:bQ (some (MX q cs (i*33+1+j))) [some (MX q cs (i*33+1+j))] 0 (i*33+1+j) 1 (.int .u8 (IntKind.u8.wrap ((q+(i*33+1+j):Nat):Int)))=some (undef,[some (MX q cs (i*33+1+(j+1)))]):=by
      rw [qZ rfl rfl rfl (by omega),hs1]
      rfl
     (first|refine bY rfl ?_|refine bZ rfl ?_);(try simp only [RN,reduceIte]);try refine ah rfl ?_
     refine au fun Kr hKr=>?_;simp (disch:=omega) only [RA,↓reduceIte,Nat.reduceEqDiff,Nat.reduceBEq,Nat.reduceSub,Nat.reduceAdd,Nat.reduceMul,Nat.reduceLT,Nat.reduceLeDiff,Int.reduceLE,Int.reduceLT,Int.reduceEq,Int.reduceNeg,Int.reduceToNat,Int.reduceMul,Int.reduceAdd,Int.reduceSub,Int.reduceBEq,Int.reduceBNe,reduceCtorEq,RD,g0,g1,g5,g6,hst1];refine hKr _ _ ?_;clear hKr Kr;(try simp only [RN,reduceIte]);try refine ah rfl ?_
     refine au fun Kr hKr=>?_;simp (disch:=omega) only [RA,↓reduceIte,Nat.reduceEqDiff,Nat.reduceBEq,Nat.reduceSub,Nat.reduceAdd,Nat.reduceMul,Nat.reduceLT,Nat.reduceLeDiff,Int.reduceLE,Int.reduceLT,Int.reduceEq,Int.reduceNeg,Int.reduceToNat,Int.reduceMul,Int.reduceAdd,Int.reduceSub,Int.reduceBEq,Int.reduceBNe,reduceCtorEq,RD,g1,b1];refine hKr _ _ ?_;clear hKr Kr;(try simp only [RN,reduceIte]);try refine ah rfl ?_
     refine bI fun Kr hKr=>?_;simp (disch:=omega) only [RA,↓reduceIte,Nat.reduceEqDiff,Nat.reduceBEq,Nat.reduceSub,Nat.reduceAdd,Nat.reduceMul,Nat.reduceLT,Nat.reduceLeDiff,Int.reduceLE,Int.reduceLT,Int.reduceEq,Int.reduceNeg,Int.reduceToNat,Int.reduceMul,Int.reduceAdd,Int.reduceSub,Int.reduceBEq,Int.reduceBNe,reduceCtorEq,RD,g6,b2];refine hKr _ _ ?_;clear hKr Kr
     refine hN (16-(j+1)) _ _ _ _ (by omega) Gh.refl ⟨j+1,by omega,rfl,?_,?_,?_,?_,rfl⟩
     any_goals (simp (disch:=omega) only [RA,↓reduceIte,Nat.reduceEqDiff,Nat.reduceBEq,Nat.reduceSub,Nat.reduceAdd,Nat.reduceMul,Nat.reduceLT,Nat.reduceLeDiff,Int.reduceLE,Int.reduceLT,Int.reduceEq,Int.reduceNeg,Int.reduceToNat,Int.reduceMul,Int.reduceAdd,Int.reduceSub,Int.reduceBEq,Int.reduceBNe,reduceCtorEq,RD,RE, *]<;>rfl)
    ·refine hX _ _ ?_
     obtain rfl:j=16:=by omega
     clear hN hX hR hE
     simp only [aB]
     refine au fun Kr hKr=>?_;simp (disch:=omega) only [RA,↓reduceIte,Nat.reduceEqDiff,Nat.reduceBEq,Nat.reduceSub,Nat.reduceAdd,Nat.reduceMul,Nat.reduceLT,Nat.reduceLeDiff,Int.reduceLE,Int.reduceLT,Int.reduceEq,Int.reduceNeg,Int.reduceToNat,Int.reduceMul,Int.reduceAdd,Int.reduceSub,Int.reduceBEq,Int.reduceBNe,reduceCtorEq,RD];refine hKr _ _ ?_;clear hKr Kr;(try simp only [RN,reduceIte]);try refine ah rfl ?_
     have c0:q+(i*33+1+16)=q+(i*33+17+0):=by omega
     have c1:i*33+1+16=i*33+17+0:=by omega
     rw [c0] at g1
     rw [c1]
     clear c0 c1
     refine bH (fun m f H'=> ∃j,j≤16∧m=16-j∧f 0=S 0 0 N 33∧f 1=I ((q+(i*33+17+j):Nat):Int)∧f 5=I i∧f 7=I j∧H'=[some (MX q cs (i*33+17+j))]) (16) ?_ ?_
     ·refine ⟨_,_,Gh.refl,0,by omega,by omega,?_,?_,?_,?_,rfl⟩
      any_goals (simp (disch:=omega) only [RA,↓reduceIte,Nat.reduceEqDiff,Nat.reduceBEq,Nat.reduceSub,Nat.reduceAdd,Nat.reduceMul,Nat.reduceLT,Nat.reduceLeDiff,Int.reduceLE,Int.reduceLT,Int.reduceEq,Int.reduceNeg,Int.reduceToNat,Int.reduceMul,Int.reduceAdd,Int.reduceSub,Int.reduceBEq,Int.reduceBNe,reduceCtorEq,RD,RE, *]<;>rfl)
     ·clear g0 g1 g5 g6
      rintro m f H' R ⟨j,hj,rfl,g0,g1,g5,g7,rfl⟩ hN hX hR hE
      simp only [bf.l1,aB]
      refine au fun Kr hKr=>?_;simp (disch:=omega) only [RA,↓reduceIte,Nat.reduceEqDiff,Nat.reduceBEq,Nat.reduceSub,Nat.reduceAdd,Nat.reduceMul,Nat.reduceLT,Nat.reduceLeDiff,Int.reduceLE,Int.reduceLT,Int.reduceEq,Int.reduceNeg,Int.reduceToNat,Int.reduceMul,Int.reduceAdd,Int.reduceSub,Int.reduceBEq,Int.reduceBNe,reduceCtorEq,RD,g7];refine hKr _ _ ?_;clear hKr Kr;(try simp only [RN,reduceIte]);try refine ah rfl ?_
      refine bG (p:=j<16) (by simp only [RA,↓reduceIte,Nat.reduceEqDiff,Nat.reduceBEq,Nat.reduceSub,Nat.reduceAdd,Nat.reduceMul,Nat.reduceLT,Nat.reduceLeDiff,Int.reduceLE,Int.reduceLT,Int.reduceEq,Int.reduceNeg,Int.reduceToNat,Int.reduceMul,Int.reduceAdd,Int.reduceSub,Int.reduceBEq,Int.reduceBNe,reduceCtorEq]<;>rfl) (by (try simp only [RB])<;>first|done|exact Iff.rfl|omega|simp) (fun hc=>?_) (fun hc=>?_)<;>(try simp only [RN,reduceIte])<;>(try refine ah rfl ?_)
      ·have Ba:j<16:=by assumption
       have b1:(((q+(i*33+17+j):Nat):Int))+1=((q+(i*33+17+(j+1)):Nat):Int):=by omega
       have b2:((j:Nat):Int)+1=((j+1:Nat):Int):=by omega
       have hs1:splice (MX q cs (i*33+17+j)) (i*33+17+j) [.int .u8 (IntKind.u8.wrap ((q+(i*33+17+j):Nat):Int))]=MX q cs (i*33+17+(j+1)):=AZ rfl (by omega) (by rw [mkV,if_neg (by omega)])
       have hl1:=AY (q:=q) (p:=i*33+17+j) (cs:=cs) (by omega)
       have hst1:bQ (some (MX q cs (i*33+17+j))) [some (MX q cs (i*33+17+j))] 0 (i*33+17+j) 1 (.int .u8 (IntKind.u8.wrap ((q+(i*33+17+j):Nat):Int)))=some (undef,[some (MX q cs (i*33+17+(j+1)))]):=by
        rw [qZ rfl rfl rfl (by omega),hs1]
        rfl
       (first|refine bY rfl ?_|refine bZ rfl ?_);(try simp only [RN,reduceIte]);try refine ah rfl ?_
       refine au fun Kr hKr=>?_;simp (disch:=omega) only [RA,↓reduceIte,Nat.reduceEqDiff,Nat.reduceBEq,Nat.reduceSub,Nat.reduceAdd,Nat.reduceMul,Nat.reduceLT,Nat.reduceLeDiff,Int.reduceLE,Int.reduceLT,Int.reduceEq,Int.reduceNeg,Int.reduceToNat,Int.reduceMul,Int.reduceAdd,Int.reduceSub,Int.reduceBEq,Int.reduceBNe,reduceCtorEq,RD,g0,g1,g5,g7,hst1];refine hKr _ _ ?_;clear hKr Kr;(try simp only [RN,reduceIte]);try refine ah rfl ?_
       refine au fun Kr hKr=>?_;simp (disch:=omega) only [RA,↓reduceIte,Nat.reduceEqDiff,Nat.reduceBEq,Nat.reduceSub,Nat.reduceAdd,Nat.reduceMul,Nat.reduceLT,Nat.reduceLeDiff,Int.reduceLE,Int.reduceLT,Int.reduceEq,Int.reduceNeg,Int.reduceToNat,Int.reduceMul,Int.reduceAdd,Int.reduceSub,Int.reduceBEq,Int.reduceBNe,reduceCtorEq,RD,g1,b1];refine hKr _ _ ?_;clear hKr Kr;(try simp only [RN,reduceIte]);try refine ah rfl ?_
       refine bI fun Kr hKr=>?_;simp (disch:=omega) only [RA,↓reduceIte,Nat.reduceEqDiff,Nat.reduceBEq,Nat.reduceSub,Nat.reduceAdd,Nat.reduceMul,Nat.reduceLT,Nat.reduceLeDiff,Int.reduceLE,Int.reduceLT,Int.reduceEq,Int.reduceNeg,Int.reduceToNat,Int.reduceMul,Int.reduceAdd,Int.reduceSub,Int.reduceBEq,Int.reduceBNe,reduceCtorEq,RD,g7,b2];refine hKr _ _ ?_;clear hKr Kr
       refine hN (16-(j+1)) _ _ _ _ (by omega) Gh.refl ⟨j+1,by omega,rfl,?_,?_,?_,?_,rfl⟩
       any_goals (simp (disch:=omega) only [RA,↓reduceIte,Nat.reduceEqDiff,Nat.reduceBEq,Nat.reduceSub,Nat.reduceAdd,Nat.reduceMul,Nat.reduceLT,Nat.reduceLeDiff,Int.reduceLE,Int.reduceLT,Int.reduceEq,Int.reduceNeg,Int.reduceToNat,Int.reduceMul,Int.reduceAdd,Int.reduceSub,Int.reduceBEq,Int.reduceBNe,reduceCtorEq,RD,RE, *]<;>rfl)
      ·refine hX _ _ ?_
       obtain rfl:j=16:=by omega
       have d0:q+(i*33+17+16)=q+(i+1)*33:=by omega
       have d1:i*33+17+16=(i+1)*33:=by omega
       have d2:((i:Nat):Int)+1=((i+1:Nat):Int):=by omega
       rw [d0] at g1
       rw [d1]
       clear d0 d1
       refine bI fun Kr hKr=>?_;simp (disch:=omega) only [RA,↓reduceIte,Nat.reduceEqDiff,Nat.reduceBEq,Nat.reduceSub,Nat.reduceAdd,Nat.reduceMul,Nat.reduceLT,Nat.reduceLeDiff,Int.reduceLE,Int.reduceLT,Int.reduceEq,Int.reduceNeg,Int.reduceToNat,Int.reduceMul,Int.reduceAdd,Int.reduceSub,Int.reduceBEq,Int.reduceBNe,reduceCtorEq,RD,g5,d2];refine hKr _ _ ?_;clear hKr Kr
       clear d2
       refine A8 (N-(i+1)) _ _ _ _ (by omega) Gh.refl ⟨i+1,by omega,rfl,?_,?_,?_,rfl⟩
       any_goals (simp (disch:=omega) only [RA,↓reduceIte,Nat.reduceEqDiff,Nat.reduceBEq,Nat.reduceSub,Nat.reduceAdd,Nat.reduceMul,Nat.reduceLT,Nat.reduceLeDiff,Int.reduceLE,Int.reduceLT,Int.reduceEq,Int.reduceNeg,Int.reduceToNat,Int.reduceMul,Int.reduceAdd,Int.reduceSub,Int.reduceBEq,Int.reduceBNe,reduceCtorEq,RD,RE, *]<;>rfl)
  ·refine hX _ _ ?_
   obtain rfl:i=N:=by omega
   refine au fun Kr hKr=>?_;simp (disch:=omega) only [RA,↓reduceIte,Nat.reduceEqDiff,Nat.reduceBEq,Nat.reduceSub,Nat.reduceAdd,Nat.reduceMul,Nat.reduceLT,Nat.reduceLeDiff,Int.reduceLE,Int.reduceLT,Int.reduceEq,Int.reduceNeg,Int.reduceToNat,Int.reduceMul,Int.reduceAdd,Int.reduceSub,Int.reduceBEq,Int.reduceBNe,reduceCtorEq,RD,g1];refine hKr _ _ ?_;clear hKr Kr;(try simp only [RN,reduceIte]);try refine ah rfl ?_
   refine aS (by simp (disch:=omega) only [RA,↓reduceIte,Nat.reduceEqDiff,Nat.reduceBEq,Nat.reduceSub,Nat.reduceAdd,Nat.reduceMul,Nat.reduceLT,Nat.reduceLeDiff,Int.reduceLE,Int.reduceLT,Int.reduceEq,Int.reduceNeg,Int.reduceToNat,Int.reduceMul,Int.reduceAdd,Int.reduceSub,Int.reduceBEq,Int.reduceBNe,reduceCtorEq,RD,resAll,resOf];rfl) aG.refl ?_;simp only [tup]
   have e:MX q cs (i*33)=fJ q (i*33):=by rw [←hcl];exact Va
   rw [e]
   exact hK
end
end Go.Bm.Q5
namespace Go.Bm.Q5
open Go Go.Am Go.Bm
theorem Bc {q m p o:Nat} {v:Value} (ho:o=p) (h:p<m) (hv:v=mkV q p):getN none (fJ q m) o=some v:=by
 subst ho;subst hv
 simp [getN,fJ,h]
section
variable {N q:Nat} {x:Bool} {H:BH} {K:Value→BH→Prop}
theorem Nh (Vb:N≤100000) (hq:q≤100) (hK:K (I ((q+N*33:Nat):Int)) H):aA x CW [Fz N 33 (fJ q (N*33)),I q] H K:=by
 refine cO (.cons .fz (.cons .int .nil)) ?_
 refine aZ Dl ?_;simp only [aT,aB]
 refine au fun Kr hKr=>?_;simp (disch:=omega) only [RA,↓reduceIte,Nat.reduceEqDiff,Nat.reduceBEq,Nat.reduceSub,Nat.reduceAdd,Nat.reduceMul,Nat.reduceLT,Nat.reduceLeDiff,Int.reduceLE,Int.reduceLT,Int.reduceEq,Int.reduceNeg,Int.reduceToNat,Int.reduceMul,Int.reduceAdd,Int.reduceSub,Int.reduceBEq,Int.reduceBNe,reduceCtorEq,RD];refine hKr _ _ ?_;clear hKr Kr;(try simp only [RN,reduceIte]);try refine ah rfl ?_
 refine au fun Kr hKr=>?_;simp (disch:=omega) only [RA,↓reduceIte,Nat.reduceEqDiff,Nat.reduceBEq,Nat.reduceSub,Nat.reduceAdd,Nat.reduceMul,Nat.reduceLT,Nat.reduceLeDiff,Int.reduceLE,Int.reduceLT,Int.reduceEq,Int.reduceNeg,Int.reduceToNat,Int.reduceMul,Int.reduceAdd,Int.reduceSub,Int.reduceBEq,Int.reduceBNe,reduceCtorEq,RD];refine hKr _ _ ?_;clear hKr Kr;(try simp only [RN,reduceIte]);try refine ah rfl ?_
 refine bH (fun m f H'=> ∃i,i≤N∧m=N-i∧f 0=Fz N 33 (fJ q (N*33))∧f 1=I ((q+i*33:Nat):Int)∧f 5=I i∧H'=[]) (N) ?_ ?_
 ·refine ⟨_,_,Gh.refl,0,by omega,by omega,?_,?_,?_,rfl⟩
  any_goals (simp (disch:=omega) only [RA,↓reduceIte,Nat.reduceEqDiff,Nat.reduceBEq,Nat.reduceSub,Nat.reduceAdd,Nat.reduceMul,Nat.reduceLT,Nat.reduceLeDiff,Int.reduceLE,Int.reduceLT,Int.reduceEq,Int.reduceNeg,Int.reduceToNat,Int.reduceMul,Int.reduceAdd,Int.reduceSub,Int.reduceBEq,Int.reduceBNe,reduceCtorEq,RD,RE, *]<;>rfl)
 ·rintro m f H' R ⟨i,hi,rfl,g0,g1,g5,rfl⟩ A8 hX hR hE
  simp only [aT.l2,aB]
  refine au fun Kr hKr=>?_;simp (disch:=omega) only [RA,↓reduceIte,Nat.reduceEqDiff,Nat.reduceBEq,Nat.reduceSub,Nat.reduceAdd,Nat.reduceMul,Nat.reduceLT,Nat.reduceLeDiff,Int.reduceLE,Int.reduceLT,Int.reduceEq,Int.reduceNeg,Int.reduceToNat,Int.reduceMul,Int.reduceAdd,Int.reduceSub,Int.reduceBEq,Int.reduceBNe,reduceCtorEq,RD,g0,g5];refine hKr _ _ ?_;clear hKr Kr;(try simp only [RN,reduceIte]);try refine ah rfl ?_
  refine bG (p:=i<N) (by simp only [RA,↓reduceIte,Nat.reduceEqDiff,Nat.reduceBEq,Nat.reduceSub,Nat.reduceAdd,Nat.reduceMul,Nat.reduceLT,Nat.reduceLeDiff,Int.reduceLE,Int.reduceLT,Int.reduceEq,Int.reduceNeg,Int.reduceToNat,Int.reduceMul,Int.reduceAdd,Int.reduceSub,Int.reduceBEq,Int.reduceBNe,reduceCtorEq]<;>rfl) (by (try simp only [RB])<;>first|done|exact Iff.rfl|omega|simp) (fun hc=>?_) (fun hc=>?_)<;>(try simp only [RN,reduceIte])<;>(try refine ah rfl ?_)
  ·have hin:i<N:=by assumption
   have a1:(((q+i*33:Nat):Int))+1=((q+(i*33+1):Nat):Int):=by omega
   have hg0:getN none (fJ q (N*33)) (i*33)=some (I ((q+i*33:Nat):Int)):=Bc rfl (by omega) (by rw [mkV,if_pos (by omega)])
   (first|refine bY rfl ?_|refine bZ rfl ?_);(try simp only [RN,reduceIte]);try refine ah rfl ?_
   refine au fun Kr hKr=>?_;simp (disch:=omega) only [RA,↓reduceIte,Nat.reduceEqDiff,Nat.reduceBEq,Nat.reduceSub,Nat.reduceAdd,Nat.reduceMul,Nat.reduceLT,Nat.reduceLeDiff,Int.reduceLE,Int.reduceLT,Int.reduceEq,Int.reduceNeg,Int.reduceToNat,Int.reduceMul,Int.reduceAdd,Int.reduceSub,Int.reduceBEq,Int.reduceBNe,reduceCtorEq,RD,g0,g1,g5,hg0];refine hKr _ _ ?_;clear hKr Kr;(try simp only [RN,reduceIte]);try refine ah rfl ?_
   refine aP (t:=false) (by simp (disch:=omega) only [RA,↓reduceIte,Nat.reduceEqDiff,Nat.reduceBEq,Nat.reduceSub,Nat.reduceAdd,Nat.reduceMul,Nat.reduceLT,Nat.reduceLeDiff,Int.reduceLE,Int.reduceLT,Int.reduceEq,Int.reduceNeg,Int.reduceToNat,Int.reduceMul,Int.reduceAdd,Int.reduceSub,Int.reduceBEq,Int.reduceBNe,reduceCtorEq,RD]) ?_;(try simp only [RN,reduceIte]);try refine ah rfl ?_
   refine au fun Kr hKr=>?_;simp (disch:=omega) only [RA,↓reduceIte,Nat.reduceEqDiff,Nat.reduceBEq,Nat.reduceSub,Nat.reduceAdd,Nat.reduceMul,Nat.reduceLT,Nat.reduceLeDiff,Int.reduceLE,Int.reduceLT,Int.reduceEq,Int.reduceNeg,Int.reduceToNat,Int.reduceMul,Int.reduceAdd,Int.reduceSub,Int.reduceBEq,Int.reduceBNe,reduceCtorEq,RD,g1,a1];refine hKr _ _ ?_;clear hKr Kr;(try simp only [RN,reduceIte]);try refine ah rfl ?_
   refine au fun Kr hKr=>?_;simp (disch:=omega) only [RA,↓reduceIte,Nat.reduceEqDiff,Nat.reduceBEq,Nat.reduceSub,Nat.reduceAdd,Nat.reduceMul,Nat.reduceLT,Nat.reduceLeDiff,Int.reduceLE,Int.reduceLT,Int.reduceEq,Int.reduceNeg,Int.reduceToNat,Int.reduceMul,Int.reduceAdd,Int.reduceSub,Int.reduceBEq,Int.reduceBNe,reduceCtorEq,RD];refine hKr _ _ ?_;clear hKr Kr;(try simp only [RN,reduceIte]);try refine ah rfl ?_
   refine bH (fun m f H'=> ∃j,j≤16∧m=16-j∧f 0=Fz N 33 (fJ q (N*33))∧f 1=I ((q+(i*33+1+j):Nat):Int)∧f 5=I i∧f 6=I j∧H'=[]) (16) ?_ ?_
   ·refine ⟨_,_,Gh.refl,0,by omega,by omega,?_,?_,?_,?_,rfl⟩
    any_goals (simp (disch:=omega) only [RA,↓reduceIte,Nat.reduceEqDiff,Nat.reduceBEq,Nat.reduceSub,Nat.reduceAdd,Nat.reduceMul,Nat.reduceLT,Nat.reduceLeDiff,Int.reduceLE,Int.reduceLT,Int.reduceEq,Int.reduceNeg,Int.reduceToNat,Int.reduceMul,Int.reduceAdd,Int.reduceSub,Int.reduceBEq,Int.reduceBNe,reduceCtorEq,RD,RE, *]<;>rfl)
   ·rintro m f H' R ⟨j,hj,rfl,g0,g1,g5,g6,rfl⟩ hN hX hR hE
    simp only [aT.l0,aB]
    refine au fun Kr hKr=>?_;simp (disch:=omega) only [RA,↓reduceIte,Nat.reduceEqDiff,Nat.reduceBEq,Nat.reduceSub,Nat.reduceAdd,Nat.reduceMul,Nat.reduceLT,Nat.reduceLeDiff,Int.reduceLE,Int.reduceLT,Int.reduceEq,Int.reduceNeg,Int.reduceToNat,Int.reduceMul,Int.reduceAdd,Int.reduceSub,Int.reduceBEq,Int.reduceBNe,reduceCtorEq,RD,g6];refine hKr _ _ ?_;clear hKr Kr;(try simp only [RN,reduceIte]);try refine ah rfl ?_
    refine bG (p:=j<16) (by simp only [RA,↓reduceIte,Nat.reduceEqDiff,Nat.reduceBEq,Nat.reduceSub,Nat.reduceAdd,Nat.reduceMul,Nat.reduceLT,Nat.reduceLeDiff,Int.reduceLE,Int.reduceLT,Int.reduceEq,Int.reduceNeg,Int.reduceToNat,Int.reduceMul,Int.reduceAdd,Int.reduceSub,Int.reduceBEq,Int.reduceBNe,reduceCtorEq]<;>rfl) (by (try simp only [RB])<;>first|done|exact Iff.rfl|omega|simp) (fun hc=>?_) (fun hc=>?_)<;>(try simp only [RN,reduceIte])<;>(try refine ah rfl ?_)
    ·have Ba:j<16:=by assumption
     have b1:(((q+(i*33+1+j):Nat):Int))+1=((q+(i*33+1+(j+1)):Nat):Int):=by omega
     have b2:((j:Nat):Int)+1=((j+1:Nat):Int):=by omega
     have hg1:getN none (fJ q (N*33)) (i*33+1+j)=some (.int .u8 (IntKind.u8.wrap ((q+(i*33+1+j):Nat):Int))):=Bc rfl (by omega) (by rw [mkV,if_neg (by omega)])
     (first|refine bY rfl ?_|refine bZ rfl ?_);(try simp only [RN,reduceIte]);try refine ah rfl ?_
     refine au fun Kr hKr=>?_;simp (disch:=omega) only [RA,↓reduceIte,Nat.reduceEqDiff,Nat.reduceBEq,Nat.reduceSub,Nat.reduceAdd,Nat.reduceMul,Nat.reduceLT,Nat.reduceLeDiff,Int.reduceLE,Int.reduceLT,Int.reduceEq,Int.reduceNeg,Int.reduceToNat,Int.reduceMul,Int.reduceAdd,Int.reduceSub,Int.reduceBEq,Int.reduceBNe,reduceCtorEq,RD,g0,g1,g5,g6,hg1];refine hKr _ _ ?_;clear hKr Kr;(try simp only [RN,reduceIte]);try refine ah rfl ?_
     refine aP (t:=false) (by simp (disch:=omega) only [RA,↓reduceIte,Nat.reduceEqDiff,Nat.reduceBEq,Nat.reduceSub,Nat.reduceAdd,Nat.reduceMul,Nat.reduceLT,Nat.reduceLeDiff,Int.reduceLE,Int.reduceLT,Int.reduceEq,Int.reduceNeg,Int.reduceToNat,Int.reduceMul,Int.reduceAdd,Int.reduceSub,Int.reduceBEq,Int.reduceBNe,reduceCtorEq,RD]) ?_;(try simp only [RN,reduceIte]);try refine ah rfl ?_
     refine au fun Kr hKr=>?_;simp (disch:=omega) only [RA,↓reduceIte,Nat.reduceEqDiff,Nat.reduceBEq,Nat.reduceSub,Nat.reduceAdd,Nat.reduceMul,Nat.reduceLT,Nat.reduceLeDiff,Int.reduceLE,Int.reduceLT,Int.reduceEq,Int.reduceNeg,Int.reduceToNat,Int.reduceMul,Int.reduceAdd,Int.reduceSub,Int.reduceBEq,Int.reduceBNe,reduceCtorEq,RD,g1,b1];refine hKr _ _ ?_;clear hKr Kr;(try simp only [RN,reduceIte]);try refine ah rfl ?_
     refine bI fun Kr hKr=>?_;simp (disch:=omega) only [RA,↓reduceIte,Nat.reduceEqDiff,Nat.reduceBEq,Nat.reduceSub,Nat.reduceAdd,Nat.reduceMul,Nat.reduceLT,Nat.reduceLeDiff,Int.reduceLE,Int.reduceLT,Int.reduceEq,Int.reduceNeg,Int.reduceToNat,Int.reduceMul,Int.reduceAdd,Int.reduceSub,Int.reduceBEq,Int.reduceBNe,reduceCtorEq,RD,g6,b2];refine hKr _ _ ?_;clear hKr Kr
     refine hN (16-(j+1)) _ _ _ _ (by omega) Gh.refl ⟨j+1,by omega,rfl,?_,?_,?_,?_,rfl⟩
     any_goals (simp (disch:=omega) only [RA,↓reduceIte,Nat.reduceEqDiff,Nat.reduceBEq,Nat.reduceSub,Nat.reduceAdd,Nat.reduceMul,Nat.reduceLT,Nat.reduceLeDiff,Int.reduceLE,Int.reduceLT,Int.reduceEq,Int.reduceNeg,Int.reduceToNat,Int.reduceMul,Int.reduceAdd,Int.reduceSub,Int.reduceBEq,Int.reduceBNe,reduceCtorEq,RD,RE, *]<;>rfl)
    ·refine hX _ _ ?_
     obtain rfl:j=16:=by omega
     clear hN hX hR hE
     simp only [aB]
     refine au fun Kr hKr=>?_;simp (disch:=omega) only [RA,↓reduceIte,Nat.reduceEqDiff,Nat.reduceBEq,Nat.reduceSub,Nat.reduceAdd,Nat.reduceMul,Nat.reduceLT,Nat.reduceLeDiff,Int.reduceLE,Int.reduceLT,Int.reduceEq,Int.reduceNeg,Int.reduceToNat,Int.reduceMul,Int.reduceAdd,Int.reduceSub,Int.reduceBEq,Int.reduceBNe,reduceCtorEq,RD];refine hKr _ _ ?_;clear hKr Kr;(try simp only [RN,reduceIte]);try refine ah rfl ?_
     have c0:q+(i*33+1+16)=q+(i*33+17+0):=by omega
     rw [c0] at g1
     clear c0
     refine bH (fun m f H'=> ∃j,j≤16∧m=16-j∧f 0=Fz N 33 (fJ q (N*33))∧f 1=I ((q+(i*33+17+j):Nat):Int)∧f 5=I i∧f 7=I j∧H'=[]) (16) ?_ ?_
     ·refine ⟨_,_,Gh.refl,0,by omega,by omega,?_,?_,?_,?_,rfl⟩
      any_goals (simp (disch:=omega) only [RA,↓reduceIte,Nat.reduceEqDiff,Nat.reduceBEq,Nat.reduceSub,Nat.reduceAdd,Nat.reduceMul,Nat.reduceLT,Nat.reduceLeDiff,Int.reduceLE,Int.reduceLT,Int.reduceEq,Int.reduceNeg,Int.reduceToNat,Int.reduceMul,Int.reduceAdd,Int.reduceSub,Int.reduceBEq,Int.reduceBNe,reduceCtorEq,RD,RE, *]<;>rfl)
     ·clear g0 g1 g5 g6
      rintro m f H' R ⟨j,hj,rfl,g0,g1,g5,g7,rfl⟩ hN hX hR hE
      simp only [aT.l1,aB]
      refine au fun Kr hKr=>?_;simp (disch:=omega) only [RA,↓reduceIte,Nat.reduceEqDiff,Nat.reduceBEq,Nat.reduceSub,Nat.reduceAdd,Nat.reduceMul,Nat.reduceLT,Nat.reduceLeDiff,Int.reduceLE,Int.reduceLT,Int.reduceEq,Int.reduceNeg,Int.reduceToNat,Int.reduceMul,Int.reduceAdd,Int.reduceSub,Int.reduceBEq,Int.reduceBNe,reduceCtorEq,RD,g7];refine hKr _ _ ?_;clear hKr Kr;(try simp only [RN,reduceIte]);try refine ah rfl ?_
      refine bG (p:=j<16) (by simp only [RA,↓reduceIte,Nat.reduceEqDiff,Nat.reduceBEq,Nat.reduceSub,Nat.reduceAdd,Nat.reduceMul,Nat.reduceLT,Nat.reduceLeDiff,Int.reduceLE,Int.reduceLT,Int.reduceEq,Int.reduceNeg,Int.reduceToNat,Int.reduceMul,Int.reduceAdd,Int.reduceSub,Int.reduceBEq,Int.reduceBNe,reduceCtorEq]<;>rfl) (by (try simp only [RB])<;>first|done|exact Iff.rfl|omega|simp) (fun hc=>?_) (fun hc=>?_)<;>(try simp only [RN,reduceIte])<;>(try refine ah rfl ?_)
      ·have Ba:j<16:=by assumption
       have b1:(((q+(i*33+17+j):Nat):Int))+1=((q+(i*33+17+(j+1)):Nat):Int):=by omega
       have b2:((j:Nat):Int)+1=((j+1:Nat):Int):=by omega
       have hg1:getN none (fJ q (N*33)) (i*33+17+j)=some (.int .u8 (IntKind.u8.wrap ((q+(i*33+17+j):Nat):Int))):=Bc rfl (by omega) (by rw [mkV,if_neg (by omega)])
       (first|refine bY rfl ?_|refine bZ rfl ?_);(try simp only [RN,reduceIte]);try refine ah rfl ?_
       refine au fun Kr hKr=>?_;simp (disch:=omega) only [RA,↓reduceIte,Nat.reduceEqDiff,Nat.reduceBEq,Nat.reduceSub,Nat.reduceAdd,Nat.reduceMul,Nat.reduceLT,Nat.reduceLeDiff,Int.reduceLE,Int.reduceLT,Int.reduceEq,Int.reduceNeg,Int.reduceToNat,Int.reduceMul,Int.reduceAdd,Int.reduceSub,Int.reduceBEq,Int.reduceBNe,reduceCtorEq,RD,g0,g1,g5,g7,hg1];refine hKr _ _ ?_;clear hKr Kr;(try simp only [RN,reduceIte]);try refine ah rfl ?_
       refine aP (t:=false) (by simp (disch:=omega) only [RA,↓reduceIte,Nat.reduceEqDiff,Nat.reduceBEq,Nat.reduceSub,Nat.reduceAdd,Nat.reduceMul,Nat.reduceLT,Nat.reduceLeDiff,Int.reduceLE,Int.reduceLT,Int.reduceEq,Int.reduceNeg,Int.reduceToNat,Int.reduceMul,Int.reduceAdd,Int.reduceSub,Int.reduceBEq,Int.reduceBNe,reduceCtorEq,RD]) ?_;(try simp only [RN,reduceIte]);try refine ah rfl ?_
       refine au fun Kr hKr=>?_;simp (disch:=omega) only [RA,↓reduceIte,Nat.reduceEqDiff,Nat.reduceBEq,Nat.reduceSub,Nat.reduceAdd,Nat.reduceMul,Nat.reduceLT,Nat.reduceLeDiff,Int.reduceLE,Int.reduceLT,Int.reduceEq,Int.reduceNeg,Int.reduceToNat,Int.reduceMul,Int.reduceAdd,Int.reduceSub,Int.reduceBEq,Int.reduceBNe,reduceCtorEq,RD,g1,b1];refine hKr _ _ ?_;clear hKr Kr;(try simp only [RN,reduceIte]);try refine ah rfl ?_
       refine bI fun Kr hKr=>?_;simp (disch:=omega) only [RA,↓reduceIte,Nat.reduceEqDiff,Nat.reduceBEq,Nat.reduceSub,Nat.reduceAdd,Nat.reduceMul,Nat.reduceLT,Nat.reduceLeDiff,Int.reduceLE,Int.reduceLT,Int.reduceEq,Int.reduceNeg,Int.reduceToNat,Int.reduceMul,Int.reduceAdd,Int.reduceSub,Int.reduceBEq,Int.reduceBNe,reduceCtorEq,RD,g7,b2];refine hKr _ _ ?_;clear hKr Kr
       refine hN (16-(j+1)) _ _ _ _ (by omega) Gh.refl ⟨j+1,by omega,rfl,?_,?_,?_,?_,rfl⟩
       any_goals (simp (disch:=omega) only [RA,↓reduceIte,Nat.reduceEqDiff,Nat.reduceBEq,Nat.reduceSub,Nat.reduceAdd,Nat.reduceMul,Nat.reduceLT,Nat.reduceLeDiff,Int.reduceLE,Int.reduceLT,Int.reduceEq,Int.reduceNeg,Int.reduceToNat,Int.reduceMul,Int.reduceAdd,Int.reduceSub,Int.reduceBEq,Int.reduceBNe,reduceCtorEq,RD,RE, *]<;>rfl)
      ·refine hX _ _ ?_
       obtain rfl:j=16:=by omega
       have d0:q+(i*33+17+16)=q+(i+1)*33:=by omega
       have d2:((i:Nat):Int)+1=((i+1:Nat):Int):=by omega
       rw [d0] at g1
       clear d0
       refine bI fun Kr hKr=>?_;simp (disch:=omega) only [RA,↓reduceIte,Nat.reduceEqDiff,Nat.reduceBEq,Nat.reduceSub,Nat.reduceAdd,Nat.reduceMul,Nat.reduceLT,Nat.reduceLeDiff,Int.reduceLE,Int.reduceLT,Int.reduceEq,Int.reduceNeg,Int.reduceToNat,Int.reduceMul,Int.reduceAdd,Int.reduceSub,Int.reduceBEq,Int.reduceBNe,reduceCtorEq,RD,g5,d2];refine hKr _ _ ?_;clear hKr Kr
       clear d2
       refine A8 (N-(i+1)) _ _ _ _ (by omega) Gh.refl ⟨i+1,by omega,rfl,?_,?_,?_,rfl⟩
       any_goals (simp (disch:=omega) only [RA,↓reduceIte,Nat.reduceEqDiff,Nat.reduceBEq,Nat.reduceSub,Nat.reduceAdd,Nat.reduceMul,Nat.reduceLT,Nat.reduceLeDiff,Int.reduceLE,Int.reduceLT,Int.reduceEq,Int.reduceNeg,Int.reduceToNat,Int.reduceMul,Int.reduceAdd,Int.reduceSub,Int.reduceBEq,Int.reduceBNe,reduceCtorEq,RD,RE, *]<;>rfl)
  ·refine hX _ _ ?_
   obtain rfl:i=N:=by omega
   refine au fun Kr hKr=>?_;simp (disch:=omega) only [RA,↓reduceIte,Nat.reduceEqDiff,Nat.reduceBEq,Nat.reduceSub,Nat.reduceAdd,Nat.reduceMul,Nat.reduceLT,Nat.reduceLeDiff,Int.reduceLE,Int.reduceLT,Int.reduceEq,Int.reduceNeg,Int.reduceToNat,Int.reduceMul,Int.reduceAdd,Int.reduceSub,Int.reduceBEq,Int.reduceBNe,reduceCtorEq,RD,g1];refine hKr _ _ ?_;clear hKr Kr;(try simp only [RN,reduceIte]);try refine ah rfl ?_
   refine aS (by simp (disch:=omega) only [RA,↓reduceIte,Nat.reduceEqDiff,Nat.reduceBEq,Nat.reduceSub,Nat.reduceAdd,Nat.reduceMul,Nat.reduceLT,Nat.reduceLeDiff,Int.reduceLE,Int.reduceLT,Int.reduceEq,Int.reduceNeg,Int.reduceToNat,Int.reduceMul,Int.reduceAdd,Int.reduceSub,Int.reduceBEq,Int.reduceBNe,reduceCtorEq,RD,resAll,resOf];rfl) aG.refl ?_;simp only [tup]
   exact ⟨.int,hK⟩
theorem Nl (hK:K (I q) H):aA x CW [.slice none 0 0,I q] H K:=by
 refine cO (.cons .nil (.cons .int .nil)) ?_
 refine aZ Dl ?_;simp only [aT,aB]
 refine au fun Kr hKr=>?_;simp (disch:=omega) only [RA,↓reduceIte,Nat.reduceEqDiff,Nat.reduceBEq,Nat.reduceSub,Nat.reduceAdd,Nat.reduceMul,Nat.reduceLT,Nat.reduceLeDiff,Int.reduceLE,Int.reduceLT,Int.reduceEq,Int.reduceNeg,Int.reduceToNat,Int.reduceMul,Int.reduceAdd,Int.reduceSub,Int.reduceBEq,Int.reduceBNe,reduceCtorEq,RD];refine hKr _ _ ?_;clear hKr Kr;(try simp only [RN,reduceIte]);try refine ah rfl ?_
 refine au fun Kr hKr=>?_;simp (disch:=omega) only [RA,↓reduceIte,Nat.reduceEqDiff,Nat.reduceBEq,Nat.reduceSub,Nat.reduceAdd,Nat.reduceMul,Nat.reduceLT,Nat.reduceLeDiff,Int.reduceLE,Int.reduceLT,Int.reduceEq,Int.reduceNeg,Int.reduceToNat,Int.reduceMul,Int.reduceAdd,Int.reduceSub,Int.reduceBEq,Int.reduceBNe,reduceCtorEq,RD];refine hKr _ _ ?_;clear hKr Kr;(try simp only [RN,reduceIte]);try refine ah rfl ?_
 refine bH (fun m f H'=>f 0= .slice none 0 0∧f 1=I q∧f 5=I (0:Nat)∧H'=[]) (0) ?_ ?_
 ·refine ⟨_,_,Gh.refl,?_,?_,?_,rfl⟩
  any_goals (simp (disch:=omega) only [RA,↓reduceIte,Nat.reduceEqDiff,Nat.reduceBEq,Nat.reduceSub,Nat.reduceAdd,Nat.reduceMul,Nat.reduceLT,Nat.reduceLeDiff,Int.reduceLE,Int.reduceLT,Int.reduceEq,Int.reduceNeg,Int.reduceToNat,Int.reduceMul,Int.reduceAdd,Int.reduceSub,Int.reduceBEq,Int.reduceBNe,reduceCtorEq,RD,RE, *]<;>rfl)
 ·rintro m f H' R ⟨g0,g1,g5,rfl⟩ hN hX hR hE
  simp only [aT.l2,aB]
  refine au fun Kr hKr=>?_;simp (disch:=omega) only [RA,↓reduceIte,Nat.reduceEqDiff,Nat.reduceBEq,Nat.reduceSub,Nat.reduceAdd,Nat.reduceMul,Nat.reduceLT,Nat.reduceLeDiff,Int.reduceLE,Int.reduceLT,Int.reduceEq,Int.reduceNeg,Int.reduceToNat,Int.reduceMul,Int.reduceAdd,Int.reduceSub,Int.reduceBEq,Int.reduceBNe,reduceCtorEq,RD,g0,g5];refine hKr _ _ ?_;clear hKr Kr;(try simp only [RN,reduceIte]);try refine ah rfl ?_
  refine aP (t:=false) (by simp (disch:=omega) only [RA,↓reduceIte,Nat.reduceEqDiff,Nat.reduceBEq,Nat.reduceSub,Nat.reduceAdd,Nat.reduceMul,Nat.reduceLT,Nat.reduceLeDiff,Int.reduceLE,Int.reduceLT,Int.reduceEq,Int.reduceNeg,Int.reduceToNat,Int.reduceMul,Int.reduceAdd,Int.reduceSub,Int.reduceBEq,Int.reduceBNe,reduceCtorEq,RD]) ?_;(try simp only [RN,reduceIte]);try refine ah rfl ?_
  refine hX _ _ ?_
  refine au fun Kr hKr=>?_;simp (disch:=omega) only [RA,↓reduceIte,Nat.reduceEqDiff,Nat.reduceBEq,Nat.reduceSub,Nat.reduceAdd,Nat.reduceMul,Nat.reduceLT,Nat.reduceLeDiff,Int.reduceLE,Int.reduceLT,Int.reduceEq,Int.reduceNeg,Int.reduceToNat,Int.reduceMul,Int.reduceAdd,Int.reduceSub,Int.reduceBEq,Int.reduceBNe,reduceCtorEq,RD,g1];refine hKr _ _ ?_;clear hKr Kr;(try simp only [RN,reduceIte]);try refine ah rfl ?_
  refine aS (by simp (disch:=omega) only [RA,↓reduceIte,Nat.reduceEqDiff,Nat.reduceBEq,Nat.reduceSub,Nat.reduceAdd,Nat.reduceMul,Nat.reduceLT,Nat.reduceLeDiff,Int.reduceLE,Int.reduceLT,Int.reduceEq,Int.reduceNeg,Int.reduceToNat,Int.reduceMul,Int.reduceAdd,Int.reduceSub,Int.reduceBEq,Int.reduceBNe,reduceCtorEq,RD,resAll,resOf];rfl) aG.refl ?_;simp only [tup]
  exact ⟨.int,hK⟩
theorem U1 (hK:K (I q) H):aA x CV [.slice none 0 0,I q] H K:=by
 refine cO (.cons .nil (.cons .int .nil)) ?_
 refine aZ Dk ?_;simp only [bf,aB]
 refine au fun Kr hKr=>?_;simp (disch:=omega) only [RA,↓reduceIte,Nat.reduceEqDiff,Nat.reduceBEq,Nat.reduceSub,Nat.reduceAdd,Nat.reduceMul,Nat.reduceLT,Nat.reduceLeDiff,Int.reduceLE,Int.reduceLT,Int.reduceEq,Int.reduceNeg,Int.reduceToNat,Int.reduceMul,Int.reduceAdd,Int.reduceSub,Int.reduceBEq,Int.reduceBNe,reduceCtorEq,RD];refine hKr _ _ ?_;clear hKr Kr;(try simp only [RN,reduceIte]);try refine ah rfl ?_
 refine au fun Kr hKr=>?_;simp (disch:=omega) only [RA,↓reduceIte,Nat.reduceEqDiff,Nat.reduceBEq,Nat.reduceSub,Nat.reduceAdd,Nat.reduceMul,Nat.reduceLT,Nat.reduceLeDiff,Int.reduceLE,Int.reduceLT,Int.reduceEq,Int.reduceNeg,Int.reduceToNat,Int.reduceMul,Int.reduceAdd,Int.reduceSub,Int.reduceBEq,Int.reduceBNe,reduceCtorEq,RD];refine hKr _ _ ?_;clear hKr Kr;(try simp only [RN,reduceIte]);try refine ah rfl ?_
 refine bH (fun m f H'=>f 0= .slice none 0 0∧f 1=I q∧f 5=I (0:Nat)∧H'=[]) (0) ?_ ?_
 ·refine ⟨_,_,Gh.refl,?_,?_,?_,rfl⟩
  any_goals (simp (disch:=omega) only [RA,↓reduceIte,Nat.reduceEqDiff,Nat.reduceBEq,Nat.reduceSub,Nat.reduceAdd,Nat.reduceMul,Nat.reduceLT,Nat.reduceLeDiff,Int.reduceLE,Int.reduceLT,Int.reduceEq,Int.reduceNeg,Int.reduceToNat,Int.reduceMul,Int.reduceAdd,Int.reduceSub,Int.reduceBEq,Int.reduceBNe,reduceCtorEq,RD,RE, *]<;>rfl)
 ·rintro m f H' R ⟨g0,g1,g5,rfl⟩ hN hX hR hE
  simp only [bf.l2,aB]
  refine au fun Kr hKr=>?_;simp (disch:=omega) only [RA,↓reduceIte,Nat.reduceEqDiff,Nat.reduceBEq,Nat.reduceSub,Nat.reduceAdd,Nat.reduceMul,Nat.reduceLT,Nat.reduceLeDiff,Int.reduceLE,Int.reduceLT,Int.reduceEq,Int.reduceNeg,Int.reduceToNat,Int.reduceMul,Int.reduceAdd,Int.reduceSub,Int.reduceBEq,Int.reduceBNe,reduceCtorEq,RD,g0,g5];refine hKr _ _ ?_;clear hKr Kr;(try simp only [RN,reduceIte]);try refine ah rfl ?_
  refine aP (t:=false) (by simp (disch:=omega) only [RA,↓reduceIte,Nat.reduceEqDiff,Nat.reduceBEq,Nat.reduceSub,Nat.reduceAdd,Nat.reduceMul,Nat.reduceLT,Nat.reduceLeDiff,Int.reduceLE,Int.reduceLT,Int.reduceEq,Int.reduceNeg,Int.reduceToNat,Int.reduceMul,Int.reduceAdd,Int.reduceSub,Int.reduceBEq,Int.reduceBNe,reduceCtorEq,RD]) ?_;(try simp only [RN,reduceIte]);try refine ah rfl ?_
  refine hX _ _ ?_
  refine au fun Kr hKr=>?_;simp (disch:=omega) only [RA,↓reduceIte,Nat.reduceEqDiff,Nat.reduceBEq,Nat.reduceSub,Nat.reduceAdd,Nat.reduceMul,Nat.reduceLT,Nat.reduceLeDiff,Int.reduceLE,Int.reduceLT,Int.reduceEq,Int.reduceNeg,Int.reduceToNat,Int.reduceMul,Int.reduceAdd,Int.reduceSub,Int.reduceBEq,Int.reduceBNe,reduceCtorEq,RD,g1];refine hKr _ _ ?_;clear hKr Kr;(try simp only [RN,reduceIte]);try refine ah rfl ?_
  refine aS (by simp (disch:=omega) only [RA,↓reduceIte,Nat.reduceEqDiff,Nat.reduceBEq,Nat.reduceSub,Nat.reduceAdd,Nat.reduceMul,Nat.reduceLT,Nat.reduceLeDiff,Int.reduceLE,Int.reduceLT,Int.reduceEq,Int.reduceNeg,Int.reduceToNat,Int.reduceMul,Int.reduceAdd,Int.reduceSub,Int.reduceBEq,Int.reduceBNe,reduceCtorEq,RD,resAll,resOf];rfl) aG.refl ?_;simp only [tup]
  exact ⟨.int,hK⟩
end
end Go.Bm.Q5
