/- DpTb, DpAa, DpDp, DpPk, DpPg, Dp7 -/
import Derived.Test.YtkapkmjofpoebaaDpG2
import Derived.Test.YtkapkmjofpoebaaDpG3
import Derived.Test.YtkapkmjofpoebaaDpG5
set_option linter.unusedVariables false
set_option linter.unusedSimpArgs false
namespace Go.Bm
open Go Go.Am
theorem Xc {b w:List Nat} {n:Nat} (hn:n≤16):By 16 (eH b w n):=Ux hn
def pass (b w:List Nat) (n:Nat):List (List Nat):=[typ b n,typ w n,typ (eH b w n) n]
abbrev mF (xs:List (List Nat)):Value:=Fz xs.length 1 (xs.map FN)
theorem Xd {x:Bool} {n:Nat} {b w:List Nat} {H:BH} {K:Value→BH→Prop} (hb:By 16 b) (hw:By 16 w) (hd:aZ n b w)
  (hK:K (mF (pass b w n)) H):aQ x YQ [DV n b w] H K:=by
 have hlb:=hb.len
 have dI:=hw.len
 have hn:=hd.1.1
 have hb16:=fun i=>hd.1.kN hlb i
 have hw16:=fun i=>hd.2.1.kN dI i
 refine uQ (l:=3) (e:=1) (cs:=(pass b w n).map FN) (.cons iK .nil) yF (by simp [pass]) ?_ hK
 refine bF aac ?_;simp only [tJ,aI]
 refine au fun Kr hKr=>?_;simp (disch:=omega) only [RA,↓reduceIte,Nat.reduceEqDiff,RD,aF];refine hKr _ _ ?_;clear hKr Kr;(try simp only [RN,reduceIte]);try refine ah rfl ?_
 refine au fun Kr hKr=>?_;simp (disch:=omega) only [RA,↓reduceIte,Nat.reduceEqDiff,RD,aF,aU]
 refine FP hb hd.1 ?_
 simp (disch:=omega) only [RA,↓reduceIte,Nat.reduceEqDiff,Nat.reduceBEq,Nat.reduceSub,Nat.reduceAdd,Nat.reduceMul,Nat.reduceLT,Nat.reduceLeDiff,Int.reduceLE,Int.reduceLT,Int.reduceEq,Int.reduceNeg,Int.reduceToNat,Int.reduceMul,Int.reduceAdd,Int.reduceSub,Int.reduceBEq,Int.reduceBNe,reduceCtorEq,RD,aF,aU]
 refine FP hw hd.2.1 ?_
 simp (disch:=omega) only [RA,↓reduceIte,Nat.reduceEqDiff,Nat.reduceBEq,Nat.reduceSub,Nat.reduceAdd,Nat.reduceMul,Nat.reduceLT,Nat.reduceLeDiff,Int.reduceLE,Int.reduceLT,Int.reduceEq,Int.reduceNeg,Int.reduceToNat,Int.reduceMul,Int.reduceAdd,Int.reduceSub,Int.reduceBEq,Int.reduceBNe,reduceCtorEq,RD,aF,aU]
 refine UC hb hw (by omega) hb16 hw16 ?_
 simp (disch:=omega) only [RA,↓reduceIte,Nat.reduceEqDiff,Nat.reduceBEq,Nat.reduceSub,Nat.reduceAdd,Nat.reduceMul,Nat.reduceLT,Nat.reduceLeDiff,Int.reduceLE,Int.reduceLT,Int.reduceEq,Int.reduceNeg,Int.reduceToNat,Int.reduceMul,Int.reduceAdd,Int.reduceSub,Int.reduceBEq,Int.reduceBNe,reduceCtorEq,RD,aF,aU]
 refine FP (Xc (by omega)) (qX hd.1 hd.2.1) ?_
 simp (disch:=omega) only [RA,↓reduceIte,Nat.reduceEqDiff,Nat.reduceBEq,Nat.reduceSub,Nat.reduceAdd,Nat.reduceMul,Nat.reduceLT,Nat.reduceLeDiff,Int.reduceLE,Int.reduceLT,Int.reduceEq,Int.reduceNeg,Int.reduceToNat,Int.reduceMul,Int.reduceAdd,Int.reduceSub,Int.reduceBEq,Int.reduceBNe,reduceCtorEq,RD]
 refine hKr _ _ ?_;clear hKr Kr;(try simp only [aK,aP,aN]);(try simp only [RN,reduceIte]);try refine ah rfl ?_
 refine aS (by simp (disch:=omega) only [RA,↓reduceIte,Nat.reduceEqDiff,RD,aG,aO];rfl) aC.refl ?_;simp only [aH]
 exact ⟨1,rfl,rfl⟩
theorem ag8 {x:Bool} {n:Nat} {b w:List Nat} {H:BH} {K:Value→BH→Prop} (hb:By 16 b) (hw:By 16 w) (hd:aZ n b w)
  (hK:K (mF (pass b w n)) H):aQ x YS [DV n b w] H K:=by
 have hlb:=hb.len
 have dI:=hw.len
 have hn:=hd.1.1
 have hb16:=fun i=>hd.1.kN hlb i
 have hw16:=fun i=>hd.2.1.kN dI i
 refine uQ (l:=3) (e:=1) (cs:=(pass b w n).map FN) (.cons iK .nil) yF (by simp [pass]) ?_ hK
 refine bF aae ?_;simp only [tN,aI]
 refine au fun Kr hKr=>?_;simp (disch:=omega) only [RA,↓reduceIte,Nat.reduceEqDiff,RD,aF];refine hKr _ _ ?_;clear hKr Kr;(try simp only [RN,reduceIte]);try refine ah rfl ?_
 refine au fun Kr hKr=>?_;simp (disch:=omega) only [RA,↓reduceIte,Nat.reduceEqDiff,RD,aF,aU]
 refine JQ hb hd.1 ?_
 simp (disch:=omega) only [RA,↓reduceIte,Nat.reduceEqDiff,Nat.reduceBEq,Nat.reduceSub,Nat.reduceAdd,Nat.reduceMul,Nat.reduceLT,Nat.reduceLeDiff,Int.reduceLE,Int.reduceLT,Int.reduceEq,Int.reduceNeg,Int.reduceToNat,Int.reduceMul,Int.reduceAdd,Int.reduceSub,Int.reduceBEq,Int.reduceBNe,reduceCtorEq,RD,aF,aU]
 refine JQ hw hd.2.1 ?_
 simp (disch:=omega) only [RA,↓reduceIte,Nat.reduceEqDiff,Nat.reduceBEq,Nat.reduceSub,Nat.reduceAdd,Nat.reduceMul,Nat.reduceLT,Nat.reduceLeDiff,Int.reduceLE,Int.reduceLT,Int.reduceEq,Int.reduceNeg,Int.reduceToNat,Int.reduceMul,Int.reduceAdd,Int.reduceSub,Int.reduceBEq,Int.reduceBNe,reduceCtorEq,RD,aF,aU]
 refine aeR hb hw (by omega) hb16 hw16 ?_
 simp (disch:=omega) only [RA,↓reduceIte,Nat.reduceEqDiff,Nat.reduceBEq,Nat.reduceSub,Nat.reduceAdd,Nat.reduceMul,Nat.reduceLT,Nat.reduceLeDiff,Int.reduceLE,Int.reduceLT,Int.reduceEq,Int.reduceNeg,Int.reduceToNat,Int.reduceMul,Int.reduceAdd,Int.reduceSub,Int.reduceBEq,Int.reduceBNe,reduceCtorEq,RD,aF,aU]
 refine JQ (Xc (by omega)) (qX hd.1 hd.2.1) ?_
 simp (disch:=omega) only [RA,↓reduceIte,Nat.reduceEqDiff,Nat.reduceBEq,Nat.reduceSub,Nat.reduceAdd,Nat.reduceMul,Nat.reduceLT,Nat.reduceLeDiff,Int.reduceLE,Int.reduceLT,Int.reduceEq,Int.reduceNeg,Int.reduceToNat,Int.reduceMul,Int.reduceAdd,Int.reduceSub,Int.reduceBEq,Int.reduceBNe,reduceCtorEq,RD]
 refine hKr _ _ ?_;clear hKr Kr;(try simp only [aK,aP,aN]);(try simp only [RN,reduceIte]);try refine ah rfl ?_
 refine aS (by simp (disch:=omega) only [RA,↓reduceIte,Nat.reduceEqDiff,RD,aG,aO];rfl) aC.refl ?_;simp only [aH]
 exact ⟨1,rfl,rfl⟩
end Go.Bm
namespace Go.Bm
open Go Go.Am
def FQ (n:Nat) (b w b' w':List Nat):Bool:=(List.range n).any fun x=>decide (fC b' w' n x=fC b w n 0)
theorem ag9 {n:Nat} {b w b' w':List Nat}:FQ n b w b' w'=true↔ ∃x,x<n∧fC b' w' n x=fC b w n 0:=by
 simp [FQ,List.any_eq_true]
theorem U2 {n:Nat} {b w b' w':List Nat} (hd:aZ n b w) (hd':aZ n b' w'):FQ n b w b' w'=decide (jX b w n=jX b' w' n):=by
 rw [Bool.eq_iff_iff,ag9,decide_eq_true_eq]
 exact (Vk hd hd').symm
def wF (n:Int) (b w:List Nat) (m:Int) (b' w':List Nat):Bool×Int:=
 if aZ n b w∧aZ m b' w' then (decide (n=m)&&FQ n.toNat b w b' w',0) else (false,1)
theorem ae6 {x:Bool} {n:Int} {b w:List Nat} {m:Int} {b' w':List Nat} {H:BH} {K:Value→BH→Prop} (hb:By 16 b) (hw:By 16 w) (hb':By 16 b') (hw':By 16 w')
  (hK:K (.tuple ⟨[.bool (wF n b w m b' w').1,I (wF n b w m b' w').2]⟩) H):aQ x YH [DV n b w,DV m b' w'] H K:=by
 have hlb:=hb.len
 have dI:=hw.len
 have I8:=hb'.len
 have I9:=hw'.len
 refine dR (by exact .cons iK (.cons iK .nil)) ?_
 refine bF ZQ ?_;simp only [oD,aI]
 refine au fun Kr hKr=>?_;simp (disch:=omega) only [RA,↓reduceIte,Nat.reduceEqDiff,RD,aF];refine hKr _ _ ?_;clear hKr Kr;(try simp only [RN,reduceIte]);try refine ah rfl ?_
 by_cases h1:aZ n b w
 ·by_cases h2:aZ m b' w'
  ·rw [wF,if_pos ⟨h1,h2⟩] at hK
   obtain ⟨n,rfl,hn1,hn2⟩:=h1.n0
   obtain ⟨m,rfl,_,_⟩:=h2.n0
   rw [Int.toNat_natCast] at hK
   refine au fun Kr hKr=>?_;simp (disch:=omega) only [RA,↓reduceIte,Nat.reduceEqDiff,RD,aF,aU]
   refine oZ hb hw ?_
   rw [decide_eq_true h1]
   simp (disch:=omega) only [RA,↓reduceIte,Nat.reduceEqDiff,RD,aF,aU]
   refine oZ hb' hw' ?_
   rw [decide_eq_true h2]
   simp (disch:=omega) only [RA,↓reduceIte,Nat.reduceEqDiff,RD]
   refine hKr _ _ ?_;clear hKr Kr;(try simp only [aK,aP,aN]);(try simp only [RN,reduceIte]);try refine ah rfl ?_
   refine dG (t:=false) (by simp (disch:=omega) only [RA,↓reduceIte,Nat.reduceEqDiff,RD]) ?_;(try simp only [RN,reduceIte]);try refine ah rfl ?_
   by_cases hnm:n=m
   ·subst hnm
    have c1:=BJ h1 (show n-1<n by omega)
    have c2:=BJ h2 (show n-1<n by omega)
    have l1:=c1.1.len
    have l2:=c1.2.len
    have l3:=c2.1.len
    have l4:=c2.2.len
    rw [decide_eq_true (rfl:(n:Int)=n),Bool.true_and,U2 h1 h2] at hK
    have e1:jX b w n=lN b w n (n-1):=rfl
    have e2:jX b' w' n=lN b' w' n (n-1):=rfl
    refine au fun Kr hKr=>?_;simp (disch:=omega) only [RA,↓reduceIte,Nat.reduceEqDiff,RD,aF,aU]
    refine JR hb hw h1 ?_
    rw [e1] at hK⊢
    generalize lN b w n (n-1)=r1 at l1 l2 hK⊢
    simp (disch:=omega) only [RA,↓reduceIte,Nat.reduceEqDiff,RD,aF,aU]
    refine JR hb' hw' h2 ?_
    rw [e2] at hK⊢
    generalize lN b' w' n (n-1)=r2 at l3 l4 hK⊢
    simp (disch:=omega) only [RA,↓reduceIte,Nat.reduceEqDiff,RD,aF,aU,Jb]
    refine hKr _ _ ?_;clear hKr Kr;(try simp only [aK,aP,aN]);(try simp only [RN,reduceIte]);try refine ah rfl ?_
    refine aS (by simp (disch:=omega) only [RA,↓reduceIte,Nat.reduceEqDiff,RD,aG,aO];rfl) aC.refl ?_;simp only [aH]
    exact ⟨FT,hK⟩
   ·rw [decide_eq_false (show¬(n:Int)=m by omega),Bool.false_and] at hK
    refine au fun Kr hKr=>?_;simp (disch:=omega) only [RA,↓reduceIte,Nat.reduceEqDiff,RD,aF,aU];refine hKr _ _ ?_;clear hKr Kr;(try simp only [RN,reduceIte]);try refine ah rfl ?_
    refine aS (by simp (disch:=omega) only [RA,↓reduceIte,Nat.reduceEqDiff,RD,aG,aO];rfl) aC.refl ?_;simp only [aH]
    exact ⟨FT,hK⟩
  ·rw [wF,if_neg (fun h=>h2 h.2)] at hK
   refine au fun Kr hKr=>?_;simp (disch:=omega) only [RA,↓reduceIte,Nat.reduceEqDiff,RD,aF,aU]
   refine oZ hb hw ?_
   rw [decide_eq_true h1]
   simp (disch:=omega) only [RA,↓reduceIte,Nat.reduceEqDiff,RD,aF,aU]
   refine oZ hb' hw' ?_
   rw [decide_eq_false h2]
   simp (disch:=omega) only [RA,↓reduceIte,Nat.reduceEqDiff,RD]
   refine hKr _ _ ?_;clear hKr Kr;(try simp only [aK,aP,aN]);(try simp only [RN,reduceIte]);try refine ah rfl ?_
   refine dG (t:=true) (by simp (disch:=omega) only [RA,↓reduceIte,Nat.reduceEqDiff,RD]) ?_;(try simp only [RN,reduceIte]);try refine ah rfl ?_
   refine au fun Kr hKr=>?_;simp (disch:=omega) only [RA,↓reduceIte,Nat.reduceEqDiff,RD];refine hKr _ _ ?_;clear hKr Kr;(try simp only [RN,reduceIte]);try refine ah rfl ?_
   refine aS (by simp (disch:=omega) only [RA,↓reduceIte,Nat.reduceEqDiff,RD,aG,aO];rfl) aC.refl ?_;simp only [aH]
   exact ⟨FT,hK⟩
 ·rw [wF,if_neg (fun h=>h1 h.1)] at hK
  refine au fun Kr hKr=>?_;simp (disch:=omega) only [RA,↓reduceIte,Nat.reduceEqDiff,RD,aF,aU]
  refine oZ hb hw ?_
  rw [decide_eq_false h1]
  simp (disch:=omega) only [RA,↓reduceIte,Nat.reduceEqDiff,RD]
  refine hKr _ _ ?_;clear hKr Kr;(try simp only [aK,aP,aN]);(try simp only [RN,reduceIte]);try refine ah rfl ?_
  refine dG (t:=true) (by simp (disch:=omega) only [RA,↓reduceIte,Nat.reduceEqDiff,RD]) ?_;(try simp only [RN,reduceIte]);try refine ah rfl ?_
  refine au fun Kr hKr=>?_;simp (disch:=omega) only [RA,↓reduceIte,Nat.reduceEqDiff,RD];refine hKr _ _ ?_;clear hKr Kr;(try simp only [RN,reduceIte]);try refine ah rfl ?_
  refine aS (by simp (disch:=omega) only [RA,↓reduceIte,Nat.reduceEqDiff,RD,aG,aO];rfl) aC.refl ?_;simp only [aH]
  exact ⟨FT,hK⟩
end Go.Bm
namespace Go.Bm
open Go Go.Am
section
variable {x:Bool} {n:Int} {b w p:List Nat} {H:BH} {K:Value→BH→Prop}
def lJ (n:Int) (b w:List Nat):(Int×List Nat×List Nat)×Int:=if aZ n b w then ((n,(jX b w n.toNat).1,(jX b w n.toNat).2),0) else ((0,gu,gu),1)
theorem U3 (hb:By 16 b) (hw:By 16 w) (hK:K (.tuple ⟨[DV (lJ n b w).1.1 (lJ n b w).1.2.1 (lJ n b w).1.2.2,I (lJ n b w).2]⟩) H):
  aQ x YI [DV n b w] H K:=by
 have hlb:=hb.len
 have dI:=hw.len
 have hz:=ji
 refine dR (by exact .cons iK .nil) ?_
 refine bF ZR ?_;simp only [oG,aI]
 refine au fun Kr hKr=>?_;simp (disch:=omega) only [RA,↓reduceIte,Nat.reduceEqDiff,RD,aF];refine hKr _ _ ?_;clear hKr Kr;(try simp only [RN,reduceIte]);try refine ah rfl ?_
 refine au fun Kr hKr=>?_;simp (disch:=omega) only [RA,↓reduceIte,Nat.reduceEqDiff,RD,aF,aU]
 refine oZ hb hw ?_
 simp (disch:=omega) only [RA,↓reduceIte,Nat.reduceEqDiff,RD]
 refine hKr _ _ ?_;clear hKr Kr;(try simp only [aK,aP,aN]);(try simp only [RN,reduceIte]);try refine ah rfl ?_
 refine aX (p:= ¬aZ n b w) (by simp only [RA,↓reduceIte,Nat.reduceEqDiff]<;>rfl) (by (try simp only [RB])<;>first|done|exact Iff.rfl|omega|simp) (fun hc=>?_) (fun hc=>?_)<;>(try simp only [RN,reduceIte])<;>(try refine ah rfl ?_)
 ·refine au fun Kr hKr=>?_;simp (disch:=omega) only [RA,↓reduceIte,Nat.reduceEqDiff,RD,aF,aU];refine hKr _ _ ?_;clear hKr Kr;(try simp only [RN,reduceIte]);try refine ah rfl ?_
  refine aS (by simp (disch:=omega) only [RA,↓reduceIte,Nat.reduceEqDiff,RD,aG,aO,aF,aU];rfl) aC.refl ?_;simp only [aH]
  rw [lJ,if_neg hc] at hK
  exact ⟨sG,hK⟩
 have hd:=Decidable.not_not.1 hc
 obtain ⟨m,rfl,hm1,hm2⟩:=hd.n0
 have c1:=BJ hd (show m-1<m by omega)
 have l1:(jX b w m).1.length=16:=c1.1.len
 have l2:(jX b w m).2.length=16:=c1.2.len
 refine au fun Kr hKr=>?_;simp (disch:=omega) only [RA,↓reduceIte,Nat.reduceEqDiff,RD,aF,aU]
 refine JR hb hw hd ?_
 simp (disch:=omega) only [RA,↓reduceIte,Nat.reduceEqDiff,RD,aF,aU]
 refine hKr _ _ ?_;clear hKr Kr;(try simp only [aK,aP,aN]);(try simp only [RN,reduceIte]);try refine ah rfl ?_
 refine aS (by simp (disch:=omega) only [RA,↓reduceIte,Nat.reduceEqDiff,RD,aG,aO,aF,aU];rfl) aC.refl ?_;simp only [aH]
 rw [lJ,if_pos hd] at hK
 exact ⟨sG,hK⟩
theorem ae5 (hb:By 16 b) (hw:By 16 w):By 16 (lJ n b w).1.2.1∧By 16 (lJ n b w).1.2.2:=by
 unfold lJ
 split
 ·rename_i hd
  obtain ⟨m,rfl,hm1,hm2⟩:=hd.n0
  exact BJ hd (show m-1<m by omega)
 ·exact ⟨UH,UH⟩
def kX (n:Int) (b w:List Nat):List (List Nat):=if aZ n b w then pass b w n.toNat else []
def qY (n:Int) (b w:List Nat):Int:=if aZ n b w then 0 else 1
theorem FU {t:List (List Nat)} {c:Int}:NN (.tuple ⟨[mF t,I c]⟩):=NN.tuple (aW.cons .fz (aW.cons .int .nil))
theorem Ja (hb:By 16 b) (hw:By 16 w) (hK:K (.tuple ⟨[mF (kX n b w),I (qY n b w)]⟩) H):aQ x YF [DV n b w] H K:=by
 have hlb:=hb.len
 have dI:=hw.len
 refine dR (by exact .cons iK .nil) ?_
 refine bF ZL ?_;simp only [oz,aI]
 refine au fun Kr hKr=>?_;simp (disch:=omega) only [RA,↓reduceIte,Nat.reduceEqDiff,RD,aF];refine hKr _ _ ?_;clear hKr Kr;(try simp only [RN,reduceIte]);try refine ah rfl ?_
 refine au fun Kr hKr=>?_;simp (disch:=omega) only [RA,↓reduceIte,Nat.reduceEqDiff,RD,aF,aU]
 refine oZ hb hw ?_
 simp (disch:=omega) only [RA,↓reduceIte,Nat.reduceEqDiff,RD]
 refine hKr _ _ ?_;clear hKr Kr;(try simp only [aK,aP,aN]);(try simp only [RN,reduceIte]);try refine ah rfl ?_
 by_cases hd:aZ n b w
 ·obtain ⟨m,rfl,hm1,hm2⟩:=hd.n0
  rw [kX,qY,if_pos hd,if_pos hd,Int.toNat_natCast] at hK
  refine dG (t:=false) (by simp (disch:=omega) only [RA,↓reduceIte,Nat.reduceEqDiff,RD,decide_eq_true hd]) ?_;(try simp only [RN,reduceIte]);try refine ah rfl ?_
  refine au fun Kr hKr=>?_;simp (disch:=omega) only [RA,↓reduceIte,Nat.reduceEqDiff,RD,aF,aU]
  refine Xd hb hw hd ?_
  simp (disch:=omega) only [RA,↓reduceIte,Nat.reduceEqDiff,RD]
  refine hKr _ _ ?_;clear hKr Kr;(try simp only [aK,aP,aN]);(try simp only [RN,reduceIte]);try refine ah rfl ?_
  refine aS (by simp (disch:=omega) only [RA,↓reduceIte,Nat.reduceEqDiff,RD,aG,aO];rfl) aC.refl ?_;simp only [aH]
  exact ⟨FU (t:=pass b w m) (c:=0),hK⟩
 ·rw [kX,qY,if_neg hd,if_neg hd] at hK
  refine dG (t:=true) (by simp (disch:=omega) only [RA,↓reduceIte,Nat.reduceEqDiff,RD,decide_eq_false hd]) ?_;(try simp only [RN,reduceIte]);try refine ah rfl ?_
  refine au fun Kr hKr=>?_;simp (disch:=omega) only [RA,↓reduceIte,Nat.reduceEqDiff,RD];refine hKr _ _ ?_;clear hKr Kr;(try simp only [RN,reduceIte]);try refine ah rfl ?_
  refine aS (by simp (disch:=omega) only [RA,↓reduceIte,Nat.reduceEqDiff,aG,aO]<;>rfl) (aC.nil 1) ?_
  exact ⟨FU (t:=[]) (c:=1),hK⟩
end
end Go.Bm
set_option linter.unusedSectionVars false
namespace Go.Bm
open Go Go.Am
theorem aeZ {x:Bool} {H:BH} {K:Value→BH→Prop} {xss nO:List (List Int)} (hl:xss.length<1048576) (hl':nO.length<1048576) (hx: ∀xs∈xss,xs.length<4611686018427387904) (hy: ∀xs∈nO,xs.length<4611686018427387904)
  (hK:K (.bool (decide (xss=nO))) H):aQ x LX [vU xss,vU nO] H K:=by
 refine dR (.cons .fz (.cons .fz .nil)) ?_
 refine bF ZN ?_;simp only [iY,aI]
 refine au fun Kr hKr=>?_;simp (disch:=omega) only [RA,↓reduceIte,Nat.reduceEqDiff,RD];refine hKr _ _ ?_;clear hKr Kr;(try simp only [RN,reduceIte]);try refine ah rfl ?_
 refine au fun Kr hKr=>?_;simp (disch:=omega) only [RA,↓reduceIte,Nat.reduceEqDiff,RD];refine hKr _ _ ?_;clear hKr Kr;(try simp only [RN,reduceIte]);try refine ah rfl ?_
 refine aX (p:= ¬xss.length=nO.length) (by simp only [RA,↓reduceIte,Nat.reduceEqDiff]<;>rfl) (by (try simp only [RB])<;>first|done|exact Iff.rfl|omega|simp) (fun hc=>?_) (fun hc=>?_)<;>(try simp only [RN,reduceIte])<;>(try refine ah rfl ?_)
 ·refine au fun Kr hKr=>?_;simp (disch:=omega) only [RA,↓reduceIte,Nat.reduceEqDiff,RD];refine hKr _ _ ?_;clear hKr Kr;(try simp only [RN,reduceIte]);try refine ah rfl ?_
  refine aS (by simp (disch:=omega) only [RA,↓reduceIte,Nat.reduceEqDiff,RD,aG,aO];rfl) aC.refl ?_;simp only [aH]
  rw [show decide (xss=nO)=false by simp;intro e;exact hc (by rw [e])] at hK
  exact ⟨.bool,hK⟩
 have hll:=Decidable.not_not.1 hc
 clear hc
 refine au fun Kr hKr=>?_;simp (disch:=omega) only [RA,↓reduceIte,Nat.reduceEqDiff,RD];refine hKr _ _ ?_;clear hKr Kr;(try simp only [RN,reduceIte]);try refine ah rfl ?_
 refine bU (fun m f H'=> ∃i,i≤xss.length∧m=xss.length-i∧(∀j,j<i→xss.getD j []=nO.getD j [])∧f 0=vU xss∧f 1=vU nO∧f 5=I i∧H'=[]) (xss.length) ?_ ?_
 ·refine ⟨_,_,Gh.refl,0,by omega,by omega,fun j hj=>by omega,?_,?_,?_,rfl⟩
  any_goals (simp (disch:=omega) only [RA,↓reduceIte,Nat.reduceEqDiff,RD,RE, *]<;>rfl)
 ·rintro m f H' R ⟨i,hi,rfl,he,g0,g1,g5,rfl⟩ hN hX hR hE
  simp only [iY.l0,aI]
  refine au fun Kr hKr=>?_;simp (disch:=omega) only [RA,↓reduceIte,Nat.reduceEqDiff,RD,g0,g5];refine hKr _ _ ?_;clear hKr Kr;(try simp only [RN,reduceIte]);try refine ah rfl ?_
  refine aX (p:=i<xss.length) (by simp only [RA,↓reduceIte,Nat.reduceEqDiff]<;>rfl) (by (try simp only [RB])<;>first|done|exact Iff.rfl|omega|simp) (fun hc=>?_) (fun hc=>?_)<;>(try simp only [RN,reduceIte])<;>(try refine ah rfl ?_)
  ·have hil:i<xss.length:=by assumption
   have EJ:i<nO.length:=by omega
   (first|refine bP rfl ?_|refine bQ rfl ?_);(try simp only [RN,reduceIte]);try refine ah rfl ?_
   refine au fun Kr hKr=>?_;simp (disch:=omega) only [RA,↓reduceIte,Nat.reduceEqDiff,RD,g0,g1,g5,ag7]
   refine U1 (hx _ (WZ hil)) (hy _ (WZ EJ)) ?_
   simp (disch:=omega) only [RA,↓reduceIte,Nat.reduceEqDiff,RD]
   refine hKr _ _ ?_;clear hKr Kr;(try simp only [aK,aP,aN]);(try simp only [RN,reduceIte]);try refine ah rfl ?_
   refine aX (p:= ¬xss.getD i []=nO.getD i []) (by simp only [RA,↓reduceIte,Nat.reduceEqDiff]<;>rfl) (by (try simp only [RB])<;>first|done|exact Iff.rfl|omega|simp) (fun hc=>?_) (fun hc=>?_)<;>(try simp only [RN,reduceIte])<;>(try refine ah rfl ?_)
   ·refine au fun Kr hKr=>?_;simp (disch:=omega) only [RA,↓reduceIte,Nat.reduceEqDiff,RD];refine hKr _ _ ?_;clear hKr Kr;(try simp only [RN,reduceIte]);try refine ah rfl ?_
    refine hR _ _ ?_
    refine aS (by simp (disch:=omega) only [RA,↓reduceIte,Nat.reduceEqDiff,RD,aG,aO];rfl) aC.refl ?_;simp only [aH]
    rw [show decide (xss=nO)=false by simp;intro e;exact hc (by rw [e])] at hK
    exact ⟨.bool,hK⟩
   have hee:=Decidable.not_not.1 hc
   refine bH fun Kr hKr=>?_;simp (disch:=omega) only [RA,↓reduceIte,Nat.reduceEqDiff,RD,g5];refine hKr _ _ ?_;clear hKr Kr
   have he': ∀j,j<i+1→xss.getD j []=nO.getD j []:=fun j hj=>by
    by_cases e:j=i
    ·rw [e];exact hee
    ·exact he j (by omega)
   refine hN (xss.length-(i+1)) _ _ _ _ (by omega) Gh.refl ⟨i+1,by omega,rfl,he',?_,?_,?_,rfl⟩
   any_goals (simp (disch:=omega) only [RA,↓reduceIte,Nat.reduceEqDiff,RD,RE, *]<;>rfl)
  ·refine hX _ _ ?_
   have e:xss=nO:=by
    apply List.ext_getElem hll
    intro j h1 h2
    have:=he j (by omega)
    simpa [List.getD,h1,h2] using this
   rw [show decide (xss=nO)=true by simp [e]] at hK
   refine au fun Kr hKr=>?_;simp (disch:=omega) only [RA,↓reduceIte,Nat.reduceEqDiff,RD];refine hKr _ _ ?_;clear hKr Kr;(try simp only [RN,reduceIte]);try refine ah rfl ?_
   refine aS (by simp (disch:=omega) only [RA,↓reduceIte,Nat.reduceEqDiff,RD,aG,aO];rfl) aC.refl ?_;simp only [aH]
   exact ⟨.bool,hK⟩
theorem aha {x:Bool} {H:BH} {K:Value→BH→Prop} {t0 t1 t2:List Nat} {n:Nat} (h0:t0.length≤100) (h1:t1.length≤100) (h2:t2.length≤100) (hn:n≤16) (hK:K (I ((t0.length:Int)+(t1.length:Int)+(t2.length:Int)-n)) H):
  aQ x Zc [mF [t0,t1,t2],I n] H K:=by
 have g0:aY none ([t0,t1,t2].map FN) 0=some (FN t0):=rfl
 have g1:aY none ([t0,t1,t2].map FN) 1=some (FN t1):=rfl
 have g2:aY none ([t0,t1,t2].map FN) 2=some (FN t2):=rfl
 have hl3:[t0,t1,t2].length=3:=rfl
 simp only [mF,hl3]
 generalize [t0,t1,t2].map FN=cs at g0 g1 g2⊢
 refine dR (.cons .fz (.cons .int .nil)) ?_
 refine bF aaF ?_;simp only [uh,aI]
 refine au fun Kr hKr=>?_;simp (disch:=omega) only [RA,↓reduceIte,Nat.reduceEqDiff,RD];refine hKr _ _ ?_;clear hKr Kr;(try simp only [RN,reduceIte]);try refine ah rfl ?_
 refine au fun Kr hKr=>?_;simp (disch:=omega) only [RA,↓reduceIte,Nat.reduceEqDiff,Int.reduceToNat,reduceCtorEq,RD,g0,g1,g2];refine hKr _ _ ?_;clear hKr Kr;(try simp only [RN,reduceIte]);try refine ah rfl ?_
 refine aS (by simp (disch:=omega) only [RA,↓reduceIte,Nat.reduceEqDiff,RD,aG,aO];rfl) aC.refl ?_;simp only [aH]
 exact ⟨.int,hK⟩
section
variable {x:Bool} {H:BH} {K:Value→BH→Prop} {n:Nat} {b w:List Nat}
def lK (b w:List Nat) (n:Nat):Int:=((typ b n).length:Int)+((typ w n).length:Int)+((typ (eH b w n) n).length:Int)-n
theorem ahb (hb:By 16 b) (hw:By 16 w) (hd:aZ n b w) (hK:K (I (1-(lK b w n).tdiv 2)) H):aQ x YV [DV n b w] H K:=by
 have hlb:=hb.len
 have dI:=hw.len
 have hn:=hd.1.1
 have t0:=sD hd.1
 have t1:=sD hd.2.1
 have t2:=sD (qX hd.1 hd.2.1)
 refine dR (by exact .cons iK .nil) ?_
 refine bF aaj ?_;simp only [tY,aI]
 refine au fun Kr hKr=>?_;simp (disch:=omega) only [RA,↓reduceIte,Nat.reduceEqDiff,RD];refine hKr _ _ ?_;clear hKr Kr;(try simp only [RN,reduceIte]);try refine ah rfl ?_
 refine au fun Kr hKr=>?_;simp (disch:=omega) only [RA,↓reduceIte,Nat.reduceEqDiff,RD,aF,aU]
 refine Xd hb hw hd ?_
 simp (disch:=omega) only [RA,↓reduceIte,Nat.reduceEqDiff,Nat.reduceSub,Nat.reduceLT,RD,aF,aU]
 refine aha t0 t1 t2 (by omega) ?_
 have he: -100≤lK b w n∧lK b w n≤300:=by unfold lK;omega
 have hq: -100≤(lK b w n).tdiv 2∧(lK b w n).tdiv 2≤300:=by
  rcases Int.le_total 0 (lK b w n) with h|h
  ·rw [Int.tdiv_eq_ediv_of_nonneg h];omega
  ·have e:(lK b w n).tdiv 2= -((-(lK b w n)).tdiv 2):=by rw [Int.neg_tdiv,Int.neg_neg]
   rw [e,Int.tdiv_eq_ediv_of_nonneg (by omega)]
   omega
 rw [show ((typ b n).length:Int)+((typ w n).length:Int)+((typ (eH b w n) n).length:Int)-n=lK b w n from rfl]
 generalize lK b w n=e at*
 generalize hqe:e.tdiv 2=q at*
 simp (disch:=omega) only [RA,↓reduceIte,Nat.reduceEqDiff,Nat.reduceSub,Int.reduceEq,RD,hqe]
 refine hKr _ _ ?_;clear hKr Kr;(try simp only [aK,aP,aN]);(try simp only [RN,reduceIte]);try refine ah rfl ?_
 refine aS (by simp (disch:=omega) only [RA,↓reduceIte,Nat.reduceEqDiff,RD,aG,aO];rfl) aC.refl ?_;simp only [aH]
 exact ⟨.int,hK⟩
theorem afa (hb:By 16 b) (hw:By 16 w) (hd:aZ n b w) (hK:K (.tuple ⟨[I (1-(lK b w n).tdiv 2),I 0]⟩) H):aQ x YL [DV n b w] H K:=by
 have hlb:=hb.len
 have dI:=hw.len
 refine dR (by exact .cons iK .nil) ?_
 refine bF ZW ?_;simp only [oI,aI]
 refine au fun Kr hKr=>?_;simp (disch:=omega) only [RA,↓reduceIte,Nat.reduceEqDiff,RD,aF];refine hKr _ _ ?_;clear hKr Kr;(try simp only [RN,reduceIte]);try refine ah rfl ?_
 refine au fun Kr hKr=>?_;simp (disch:=omega) only [RA,↓reduceIte,Nat.reduceEqDiff,RD,aF,aU]
 refine oZ hb hw ?_
 simp (disch:=omega) only [RA,↓reduceIte,Nat.reduceEqDiff,RD]
 refine hKr _ _ ?_;clear hKr Kr;(try simp only [aK,aP,aN]);(try simp only [RN,reduceIte]);try refine ah rfl ?_
 refine dG (t:=false) (by simp (disch:=omega) only [RA,↓reduceIte,Nat.reduceEqDiff,RD,decide_eq_true hd]) ?_;(try simp only [RN,reduceIte]);try refine ah rfl ?_
 refine au fun Kr hKr=>?_;simp (disch:=omega) only [RA,↓reduceIte,Nat.reduceEqDiff,RD,aF,aU]
 refine ahb hb hw hd ?_
 simp (disch:=omega) only [RA,↓reduceIte,Nat.reduceEqDiff,RD]
 refine hKr _ _ ?_;clear hKr Kr;(try simp only [aK,aP,aN]);(try simp only [RN,reduceIte]);try refine ah rfl ?_
 refine aS (by simp (disch:=omega) only [RA,↓reduceIte,Nat.reduceEqDiff,RD,aG,aO];rfl) aC.refl ?_;simp only [aH]
 exact ⟨NN.tuple (aW.cons .int (aW.cons .int .nil)),hK⟩
end
section
variable {x:Bool} {H:BH} {K:Value→BH→Prop} {n:Int} {b w:List Nat}
theorem afj (hb:By 16 b) (hw:By 16 w) (hK:K (.tuple ⟨[mF (kX n b w),I (qY n b w)]⟩) H):aQ x YG [DV n b w] H K:=by
 have hlb:=hb.len
 have dI:=hw.len
 refine dR (by exact .cons iK .nil) ?_
 refine bF ZM ?_;simp only [oC,aI]
 refine au fun Kr hKr=>?_;simp (disch:=omega) only [RA,↓reduceIte,Nat.reduceEqDiff,RD,aF];refine hKr _ _ ?_;clear hKr Kr;(try simp only [RN,reduceIte]);try refine ah rfl ?_
 refine au fun Kr hKr=>?_;simp (disch:=omega) only [RA,↓reduceIte,Nat.reduceEqDiff,RD,aF,aU]
 refine UG hb hw ?_
 simp (disch:=omega) only [RA,↓reduceIte,Nat.reduceEqDiff,RD]
 refine hKr _ _ ?_;clear hKr Kr;(try simp only [aK,aP,aN]);(try simp only [RN,reduceIte]);try refine ah rfl ?_
 by_cases hd:aZ n b w
 ·obtain ⟨m,rfl,hm1,hm2⟩:=hd.n0
  rw [kX,qY,if_pos hd,if_pos hd,Int.toNat_natCast] at hK
  refine dG (t:=false) (by simp (disch:=omega) only [RA,↓reduceIte,Nat.reduceEqDiff,RD,decide_eq_true hd]) ?_;(try simp only [RN,reduceIte]);try refine ah rfl ?_
  refine au fun Kr hKr=>?_;simp (disch:=omega) only [RA,↓reduceIte,Nat.reduceEqDiff,RD,aF,aU]
  refine ag8 hb hw hd ?_
  simp (disch:=omega) only [RA,↓reduceIte,Nat.reduceEqDiff,RD]
  refine hKr _ _ ?_;clear hKr Kr;(try simp only [aK,aP,aN]);(try simp only [RN,reduceIte]);try refine ah rfl ?_
  refine aS (by simp (disch:=omega) only [RA,↓reduceIte,Nat.reduceEqDiff,RD,aG,aO];rfl) aC.refl ?_;simp only [aH]
  exact ⟨FU (t:=pass b w m) (c:=0),hK⟩
 ·rw [kX,qY,if_neg hd,if_neg hd] at hK
  refine dG (t:=true) (by simp (disch:=omega) only [RA,↓reduceIte,Nat.reduceEqDiff,RD,decide_eq_false hd]) ?_;(try simp only [RN,reduceIte]);try refine ah rfl ?_
  refine au fun Kr hKr=>?_;simp (disch:=omega) only [RA,↓reduceIte,Nat.reduceEqDiff,RD];refine hKr _ _ ?_;clear hKr Kr;(try simp only [RN,reduceIte]);try refine ah rfl ?_
  refine aS (by simp (disch:=omega) only [RA,↓reduceIte,Nat.reduceEqDiff,aG,aO]<;>rfl) (aC.nil 1) ?_
  exact ⟨FU (t:=[]) (c:=1),hK⟩
end
section
variable {code:List Nat} {H:BH} {K:Value→BH→Prop} {x:Bool}
theorem afi (hl:code.length≤1048576) (hcd: ∀i,nl code i<256) (hK: ∀(n:Int) b w,By 16 b→By 16 w→ -1≤n∧n≤17→K (DV n b w) H):aQ x YE [FB code] H K:=by
 have hz:=ji
 refine dR (.cons .fz .nil) ?_
 refine bF ZK ?_;simp only [tH,aI]
 refine au fun Kr hKr=>?_;simp (disch:=omega) only [RA,↓reduceIte,Nat.reduceEqDiff,RD,aF];refine hKr _ _ ?_;clear hKr Kr;(try simp only [RN,reduceIte]);try refine ah rfl ?_
 refine au fun Kr hKr=>?_;simp (disch:=omega) only [RA,↓reduceIte,Nat.reduceEqDiff,RD]
 refine agk hl hcd fun h=>?_
 simp (disch:=omega) only [RA,↓reduceIte,Nat.reduceEqDiff,RD]
 refine ahc (i:=1) rfl (Nat.zero_le _) hl hcd (by omega) fun n b w a h hb hw hn hA=>?_
 have hlb:=hb.len
 have dI:=hw.len
 simp (disch:=omega) only [RA,↓reduceIte,Nat.reduceEqDiff,RD,aF,aU]
 refine hKr _ _ ?_;clear hKr Kr;(try simp only [aK,aP,aN]);(try simp only [RN,reduceIte]);try refine ah rfl ?_
 refine aS (by simp (disch:=omega) only [RA,↓reduceIte,Nat.reduceEqDiff,RD,aG,aO,aF,aU];rfl) aC.refl ?_;simp only [aH]
 exact ⟨iK,hK n b w hb hw hn⟩
end
end Go.Bm
namespace Go.Bm
open Go Go.Am
def dD (ts:List (List Nat)) (m:Nat) (x y:Nat):Prop:= ∀S:Nat→Prop,(∀t∈ts,∀z,z<m→(S z↔S (nl t z)))→(S x↔S y)
structure Cls (m:Nat) (R:Nat→Nat→Prop) (L:List Nat):Prop where
 lt: ∀x∈L,x<m
 pw:L.Pairwise fun x y=> ¬R x y
 rep: ∀x,x<m→ ∃y∈L,R x y
section
variable {ts:List (List Nat)} {m x y z:Nat}
theorem dD.refl:dD ts m x x:=fun _ _=>Iff.rfl
theorem dD.symm (h:dD ts m x y):dD ts m y x:=fun S hS=>(h S hS).symm
theorem dD.trans (h:dD ts m x y) (k:dD ts m y z):dD ts m x z:=fun S hS=>(h S hS).trans (k S hS)
theorem dD.step {t:List Nat} (ht:t∈ts) (hx:x<m):dD ts m x (nl t x):=fun S hS=>hS t ht x hx
end
theorem Cls.le {m m':Nat} {R R':Nat→Nat→Prop} {L L':List Nat} (h:Cls m R L) (h':Cls m' R' L') (f:Nat→Nat) (hf: ∀x,x<m→f x<m')
  (hs: ∀x y,R' x y→R' y x) (ht: ∀x y z,R' x y→R' y z→R' x z) (hr: ∀x,R x x) (hi: ∀x y,x<m→y<m→R' (f x) (f y)→R x y):L.length≤L'.length:=by
 classical
 have hch: ∀x,∃y,x<m→y∈L'∧R' (f x) y:=fun x=>by
  by_cases hx:x<m
  ·obtain ⟨y,h1,h2⟩:=h'.rep _ (hf x hx)
   exact ⟨y,fun _=>⟨h1,h2⟩⟩
  ·exact ⟨0,fun h=>absurd h hx⟩
 let g:=fun x=>(hch x).choose
 have hg: ∀x,x<m→g x∈L'∧R' (f x) (g x):=fun x=>(hch x).choose_spec
 have hnd:(L.map g).Nodup:=by
  refine List.pairwise_map.2 ?_
  refine List.Pairwise.imp_of_mem (fun {a b} ha hb hab e=>?_) h.pw
  have h1:=(hg a (h.lt a ha)).2
  have h2:=(hg b (h.lt b hb)).2
  rw [←e] at h2
  exact hab (hi a b (h.lt a ha) (h.lt b hb) (ht _ _ _ h1 (hs _ _ h2)))
 have:=yB hnd (l2:=L') fun y hy=>by
  obtain ⟨x,hx,rfl⟩:=List.mem_map.1 hy
  exact (hg x (h.lt x hx)).1
 simpa using this
theorem Cls.uniq {ts:List (List Nat)} {m:Nat} {L L':List Nat} (h:Cls m (dD ts m) L) (h':Cls m (dD ts m) L'):L.length=L'.length:=
 Nat.le_antisymm (h.le h' id (fun _ h=>h) (fun _ _=> .symm) (fun _ _ _=> .trans) (fun _=> .refl) fun _ _ _ _ h=>h)
  (h'.le h id (fun _ h=>h) (fun _ _=> .symm) (fun _ _ _=> .trans) (fun _=> .refl) fun _ _ _ _ h=>h)
theorem chain {g:Nat→Prop} {a:Nat}: ∀d,(∀j,a≤j→j<a+d→(g j↔g (j+1)))→(g a↔g (a+d))
 |0,_=>Iff.rfl
 |d+1,h=>(chain d fun j h1 h2=>h j h1 (by omega)).trans (h (a+d) (by omega) (by omega))
section
variable {p:List Nat} {n:Nat}
theorem JU (hp:Perm p n) {c:List Nat} (hc:c∈aV p n) {x:Nat} (hx:x∈c):dD [p] n x (nl c 0):=by
 have hi:=kJ hp hc
 obtain ⟨j,hj,rfl⟩:=kZ hx
 refine dD.symm fun S hS=>?_
 have:=chain (g:=fun k=>S (nl c k)) (a:=0) j fun k _ hk=>by
  have h1:=hS p (by simp) (nl c k) (hi.lt _ (eu (by omega)))
  rwa [hi.step k (by omega)] at h1
 rwa [Nat.zero_add] at this
theorem Xe (hp:Perm p n) {c:List Nat} (hc:c∈aV p n): ∀t∈[p],∀z,z<n→(z∈c↔nl t z∈c):=fun t ht z hz=>by
 obtain rfl:=List.mem_singleton.1 ht
 exact ⟨(kJ hp hc).fwd,(kJ hp hc).bwd hp hz⟩
theorem wQ (hp:Perm p n):Cls n (dD [p] n) ((aV p n).map fun c=>nl c 0):=by
 have hk:=pq.all (p:=p) (m:=16) rfl hp (Nat.le_refl n)
 refine ⟨fun x hx=>?_,?_,fun x hx=>?_⟩
 ·obtain ⟨c,hc,rfl⟩:=List.mem_map.1 hx
  exact (kJ hp hc).lt _ (eu (kJ hp hc).ne)
 ·refine List.pairwise_map.2 (List.Pairwise.imp_of_mem (fun {c c'} hc hc' hd ho=>?_) (List.pairwise_flatten.1 hk.gW).2)
  have h1:=(ho (· ∈c) (Xe hp hc)).1 (eu (kJ hp hc).ne)
  exact hd _ h1 _ (eu (kJ hp hc').ne) rfl
 ·obtain ⟨c,hc,hxc⟩:=rD hp hx
  exact ⟨_,List.mem_map.2 ⟨c,hc,rfl⟩,JU hp hc hxc⟩
theorem FW (hp:Perm p n) {L:List Nat} (h:Cls n (dD [p] n) L):L.length=(aV p n).length:=by
 rw [h.uniq (wQ hp),List.length_map]
end
def jl (x y v:Nat):Nat:=if v=x then y else if v=y then x else v
theorem ahd {x y v:Nat}:jl x y (jl x y v)=v:=by
 simp only [jl]
 split
 ·rename_i h;subst h
  split
  ·rename_i h;exact h
  ·rw [if_pos rfl]
 ·rename_i h
  split
  ·rename_i h2;subst h2;rw [if_pos rfl]
  ·rfl
section
variable {q r:List Nat} {n x y:Nat}
theorem joined (hq:Perm q n) (hs: ∀z,z<n→nl r z=jl x y (nl q z)) (hx:x<n) (hy:y<n) (hne: ¬dD [q] n x y):dD [r] n x y:=by
 intro S hS
 have hS': ∀z,z<n→(S z↔S (nl r z)):=hS r (by simp)
 obtain ⟨c,hc,yu⟩:=rD hq hy
 have hi:=kJ hq hc
 have hxc:x∉c:=fun h=>hne ((JU hq hc h).trans (JU hq hc yu).symm)
 obtain ⟨j,hj,rfl⟩:=kZ yu
 have hstep: ∀k,k+1<c.length→k+1≠j→(S (nl c k)↔S (nl c (k+1))):=fun k hk he=>by
  have h1:=hS' (nl c k) (hi.lt _ (eu (by omega)))
  rw [hs _ (hi.lt _ (eu (by omega))),hi.step k hk,jl,if_neg (show¬nl c (k+1)=x from fun e=>hxc (by rw [←e];exact eu hk)),if_neg (show¬nl c (k+1)=nl c j from fun e=>he (o9 hi.gW hk hj e))] at h1
  exact h1
 have hback: ∀k,k<c.length→nl q (nl c k)=nl c j→(S (nl c k)↔S x):=fun k hk he=>by
  have h1:=hS' (nl c k) (hi.lt _ (eu hk))
  rw [hs _ (hi.lt _ (eu hk)),he,jl,if_neg (show¬nl c j=x from fun e=>hxc (by rw [←e];exact eu hj)),if_pos rfl] at h1
  exact h1
 have h1:=chain (g:=fun k=>S (nl c k)) (a:=j) (c.length-1-j) fun k h1 h2=>hstep k (by omega) (by omega)
 rw [show j+(c.length-1-j)=c.length-1 by omega] at h1
 by_cases hj0:j=0
 ·subst hj0
  exact ((h1.trans (hback _ (by omega) hi.last))).symm
 ·have h2:S (nl c (c.length-1))↔S (nl c 0):=by
   have h1:=hS' (nl c (c.length-1)) (hi.lt _ (eu (by omega)))
   rw [hs _ (hi.lt _ (eu (by omega))),hi.last,jl,if_neg (show¬nl c 0=x from fun e=>hxc (by rw [←e];exact eu (by omega))),if_neg (show¬nl c 0=nl c j from fun e=>hj0 (o9 hi.gW (by omega) hj e).symm)] at h1
   exact h1
  have h3:=chain (g:=fun k=>S (nl c k)) (a:=0) (j-1) fun k h1 h2=>hstep k (by omega) (by omega)
  rw [Nat.zero_add] at h3
  have h4:=hback (j-1) (by omega) (by rw [hi.step _ (by omega),show j-1+1=j by omega])
  exact (h1.trans (h2.trans (h3.trans h4))).symm
theorem Xf (hq:Perm q n) (hr:Perm r n) (hs: ∀z,z<n→nl r z=jl x y (nl q z)) (hx:x<n) (hy:y<n) (hne: ¬dD [q] n x y):(aV r n).length+1=(aV q n).length:=by
 have hxy:=joined hq hs hx hy hne
 have hsub: ∀u v,dD [q] n u v→dD [r] n u v:=fun u v h S hS=>h S fun t ht z hz=>by
  obtain rfl:=List.mem_singleton.1 ht
  have h1:=hS r (by simp) z hz
  rw [hs z hz,jl] at h1
  have h2:=hxy S hS
  split at h1
  ·rename_i e;rw [e];exact h1.trans h2.symm
  ·split at h1
   ·rename_i e;rw [e];exact h1.trans h2
   ·exact h1
 have hsup: ∀u v,dD [r] n u v→dD [q] n u v∨((dD [q] n u x∨dD [q] n u y)∧(dD [q] n v x∨dD [q] n v y)):=fun u v h=>by
  refine (h (fun v=>dD [q] n u v∨((dD [q] n u x∨dD [q] n u y)∧(dD [q] n v x∨dD [q] n v y))) fun t ht z hz=>?_).1 (.inl .refl)
  obtain rfl:=List.mem_singleton.1 ht
  have hz1:dD [q] n z (nl q z):= .step (by simp) hz
  rw [hs z hz,jl]
  split
  ·rename_i e
   rw [e] at hz1
   exact ⟨fun h=>h.elim (fun h=> .inr ⟨.inl (h.trans hz1), .inr .refl⟩) fun h=> .inr ⟨h.1, .inr .refl⟩,
    fun h=>h.elim (fun h=> .inr ⟨.inr h, .inl hz1⟩) fun h=> .inr ⟨h.1, .inl hz1⟩⟩
  ·split
   ·rename_i e
    rw [e] at hz1
    exact ⟨fun h=>h.elim (fun h=> .inr ⟨.inr (h.trans hz1), .inl .refl⟩) fun h=> .inr ⟨h.1, .inl .refl⟩,
     fun h=>h.elim (fun h=> .inr ⟨.inl h, .inr hz1⟩) fun h=> .inr ⟨h.1, .inr hz1⟩⟩
   ·exact ⟨fun h=>h.elim (fun h=> .inl (h.trans hz1)) fun h=> .inr ⟨h.1,h.2.elim (fun a=> .inl (hz1.symm.trans a)) fun a=> .inr (hz1.symm.trans a)⟩,
     fun h=>h.elim (fun h=> .inl (h.trans hz1.symm)) fun h=> .inr ⟨h.1,h.2.elim (fun a=> .inl (hz1.trans a)) fun a=> .inr (hz1.trans a)⟩⟩
 have hL:=wQ hq
 generalize hLe:(aV q n).map (fun c=>nl c 0)=L at hL
 have hlen:L.length=(aV q n).length:=by rw [←hLe,List.length_map]
 have hnd:L.Nodup:=List.Pairwise.imp (fun {a b} h e=>h (by rw [e];exact .refl)) hL.pw
 have hinj: ∀u∈L,∀v∈L,dD [q] n u v→u=v:=fun u hu v hv h=>by
  obtain ⟨i,hi,rfl⟩:=List.mem_iff_getElem.1 hu
  obtain ⟨j,hj,rfl⟩:=List.mem_iff_getElem.1 hv
  have hp:=List.pairwise_iff_getElem.1 hL.pw
  rcases Nat.lt_trichotomy i j with h1|h1|h1
  ·exact absurd h (hp i j hi hj h1)
  ·subst h1;rfl
  ·exact absurd h.symm (hp j i hj hi h1)
 obtain ⟨rx,hrx,JV⟩:=hL.rep x hx
 obtain ⟨ry,JW,JX⟩:=hL.rep y hy
 have ahe:rx≠ry:=fun e=>hne (JV.trans (e▸JX.symm))
 have hJ: ∀u∈L,u≠ry→(dD [q] n u x∨dD [q] n u y)→u=rx:=fun u hu hn h=>by
  rcases h with h|h
  ·exact hinj u hu rx hrx (h.trans JV)
  ·exact absurd (hinj u hu ry JW (h.trans JX)) hn
 have hcl:Cls n (dD [r] n) (L.erase ry):=by
  refine ⟨fun u hu=>hL.lt u (List.mem_of_mem_erase hu),?_,fun u hu=>?_⟩
  ·refine List.Pairwise.imp_of_mem (fun {a b} ha hb hab ho=>?_) (hnd.erase ry)
   have ha2:=List.mem_of_mem_erase ha
   have hb2:=List.mem_of_mem_erase hb
   have han:a≠ry:=fun e=>(List.Nodup.not_mem_erase hnd) (e▸ha)
   have hbn:b≠ry:=fun e=>(List.Nodup.not_mem_erase hnd) (e▸hb)
   rcases hsup a b ho with h|⟨h1,h2⟩
   ·exact hab (hinj a ha2 b hb2 h)
   ·exact hab ((hJ a ha2 han h1).trans (hJ b hb2 hbn h2).symm)
  ·obtain ⟨v,hv,hv2⟩:=hL.rep u hu
   by_cases e:v=ry
   ·subst e
    exact ⟨rx,(List.mem_erase_of_ne ahe).2 hrx,(hsub _ _ (hv2.trans JX.symm)).trans (hxy.symm.trans (hsub _ _ JV))⟩
   ·exact ⟨v,(List.mem_erase_of_ne e).2 hv,hsub _ _ hv2⟩
 have h1:=FW hr hcl
 have h2:=List.length_erase_of_mem JW
 have h3:0<L.length:=List.length_pos_of_mem JW
 omega
theorem parted (hq:Perm q n) (hs: ∀z,z<n→nl r z=jl x y (nl q z)) (hx:x<n) (hy:y<n) {c:List Nat} (hc:c∈aV q n) {i j:Nat} (hij:i<j) (hj:j<c.length) (hi0:nl c i=x) (hj0:nl c j=y): ¬dD [r] n x y:=by
 intro ho
 have hi:=kJ hq hc
 have hin: ∀k,k<c.length→((∃k',i≤k'∧k'<j∧nl c k=nl c k')↔(i≤k∧k<j)):=fun k hk=>
  ⟨fun ⟨k',h1,h2,h3⟩=>by rw [o9 hi.gW hk (by omega) h3];exact ⟨h1,h2⟩,fun h=>⟨k,h.1,h.2,rfl⟩⟩
 have:=(ho (fun z=> ∃k,i≤k∧k<j∧z=nl c k) fun t ht z hz=>?_).1 ⟨i,Nat.le_refl _,hij,hi0.symm⟩
 ·rw [←hj0,hin j hj] at this
  omega
 obtain rfl:=List.mem_singleton.1 ht
 rw [hs z hz]
 by_cases hzc:z∈c
 ·obtain ⟨k,hk,rfl⟩:=kZ hzc
  rw [hin k hk,jl]
  by_cases hk1:k+1<c.length
  ·rw [hi.step k hk1]
   split
   ·rename_i e
    rw [←hi0] at e
    have:=o9 hi.gW hk1 (by omega) e
    rw [←hj0,hin j hj]
    omega
   ·rename_i e1
    split
    ·rename_i e
     rw [←hj0] at e
     have:=o9 hi.gW hk1 hj e
     rw [←hi0,hin i (by omega)]
     omega
    ·rename_i e2
     rw [hin _ hk1]
     have h1:k+1≠i:=fun e=>e1 (by rw [e,hi0])
     have h2:k+1≠j:=fun e=>e2 (by rw [e,hj0])
     omega
  ·obtain rfl:k=c.length-1:=by omega
   rw [hi.last]
   split
   ·rename_i e
    rw [←hi0] at e
    have:=o9 hi.gW (by omega) (by omega) e
    rw [←hj0,hin j hj]
    omega
   ·rename_i e1
    split
    ·rename_i e
     rw [←hj0] at e
     have:=o9 hi.gW (by omega) hj e
     omega
    ·rw [hin 0 (by omega)]
     have h1:(0:Nat)≠i:=fun e=>e1 (by rw [e,hi0])
     omega
 ·have hqc:nl q z∉c:=fun h=>hzc (hi.bwd hq hz h)
  have e1:nl q z≠x:=fun e=>hqc (by rw [e,←hi0];exact eu (by omega))
  have e2:nl q z≠y:=fun e=>hqc (by rw [e,←hj0];exact eu hj)
  rw [jl,if_neg e1,if_neg e2]
  exact ⟨fun ⟨k,_,h2,h3⟩=>absurd (h3▸eu (by omega)) hzc,fun ⟨k,_,h2,h3⟩=>absurd (h3▸eu (by omega)) hqc⟩
theorem ahf {v:Nat} (h:x≠y):jl x y v=jl y x v:=by
 simp only [jl]
 split
 ·rename_i e;subst e;rw [if_neg h]
 ·rfl
theorem Xg (hq:Perm q n) (hr:Perm r n) (hs: ∀z,z<n→nl r z=jl x y (nl q z)) (hx:x<n) (hy:y<n) (hxy:x≠y):((aV r n).length+(aV q n).length)%2=1:=by
 classical
 by_cases ho:dD [q] n x y
 ·obtain ⟨c,hc,hxc⟩:=rD hq hx
  have yu:y∈c:=(ho (· ∈c) (Xe hq hc)).1 hxc
  obtain ⟨i,hi,hie⟩:=kZ hxc
  obtain ⟨j,hj,hje⟩:=kZ yu
  have hback: ∀z,z<n→nl q z=jl x y (nl r z):=fun z hz=>by rw [hs z hz,ahd]
  have hno: ¬dD [r] n x y:=by
   rcases Nat.lt_trichotomy i j with h|h|h
   ·exact parted hq hs hx hy hc h hj hie hje
   ·subst h;exact absurd (hie.symm.trans hje) hxy
   ·exact fun h'=>parted hq (fun z hz=>by rw [hs z hz,ahf hxy]) hy hx hc h hi hje hie h'.symm
  have:=Xf hr hq hback hx hy hno
  omega
 ·have:=Xf hq hr hs hx hy ho
  omega
end
def vJ (n x y:Nat):List Nat:=((dQ n).set x (nl (dQ n) y)).set y (nl (dQ n) x)
theorem ahg {n x y:Nat} (hn:1≤n∧n≤16) (hx:x<n) (hy:y<n):PN n (vJ n x y):=
 ⟨(AZ hn).swap mG hx hy,by rw [vJ,List.length_set,List.length_set,mG]⟩
theorem ahh {n x y z:Nat} (hn:1≤n∧n≤16) (hx:x<n) (hy:y<n) (hz:z<n):nl (vJ n x y) z=jl x y z:=by
 rw [vJ,jI,jI,List.length_set,mG,pz hn.2 hx,pz hn.2 hy,pz hn.2 hz,jl]
 by_cases h1:z=x
 ·subst h1
  rw [if_pos rfl]
  by_cases h2:z=y
  ·subst h2;rw [if_pos ⟨rfl,by omega⟩]
  ·rw [if_neg (fun h=>h2 h.1),if_pos ⟨rfl,by omega⟩]
 ·rw [if_neg h1]
  by_cases h2:z=y
  ·rw [if_pos h2,if_pos ⟨h2,by omega⟩]
  ·rw [if_neg h2,if_neg (fun h=>h2 h.1),if_neg (fun h=>h1 h.1)]
theorem ahj {n:Nat} (hn:1≤n∧n≤16):(aV (dQ n) n).length=n:=by
 have h:=FW (p:=dQ n) (n:=n) (L:=List.range n) (AZ hn) ⟨fun x hx=>List.mem_range.1 hx,?_,fun x hx=>⟨x,List.mem_range.2 hx, .refl⟩⟩
 ·rw [←h,List.length_range]
 ·refine List.Pairwise.imp_of_mem (fun {a b} ha hb hab ho=>?_) (List.nodup_range (n:=n))
  refine hab ((ho (a= ·) fun t ht z hz=>?_).1 rfl)
  obtain rfl:=List.mem_singleton.1 ht
  rw [pz hn.2 hz]
def JY (w:List Nat) (n:Nat):Nat:=((List.range n).filter fun x=>decide (nl w x≠x)).length
theorem ahk {n:Nat}: ∀(k:Nat) (p w:List Nat),JY w n=k→PN n p→PN n w→((aV p n).length+(aV w n).length+(aV (bG p w n) n).length)%2=n%2:=by
 intro k
 induction k using Nat.strongRecOn with
 | _ k ih=>
  intro p w hk hp hw
  have hn:=hp.n16
  by_cases hex: ∃x,x<n∧nl w x≠x
  ·obtain ⟨x,hx,hxm⟩:=hex
   have hy:=hw.perm.lt hx
   have ht:=ahg hn hx hy
   have hw':=hw.mul ht
   have hs1: ∀z,z<n→nl (bG w (vJ n x (nl w x)) n) z=jl x (nl w x) (nl w z):=fun z hz=>by
    rw [jJ hw hz,ahh hn hx hy (hw.perm.lt hz)]
   have hs2: ∀z,z<n→nl (bG p (bG w (vJ n x (nl w x)) n) n) z=jl x (nl w x) (nl (bG p w n) z):=fun z hz=>by
    rw [jJ hp hz,hs1 _ (hp.perm.lt hz),jJ hp hz]
   have e1:=Xg hw.perm hw'.perm hs1 hx hy hxm.symm
   have e2:=Xg (hp.mul hw).perm (hp.mul hw').perm hs2 hx hy hxm.symm
   have hlt:JY (bG w (vJ n x (nl w x)) n) n<k:=by
    rw [←hk]
    have hsub: ∀z∈(List.range n).filter (fun z=>decide (nl (bG w (vJ n x (nl w x)) n) z≠z)),z∈((List.range n).filter fun z=>decide (nl w z≠z)).erase x:=fun z hz=>by
     rw [List.mem_filter,List.mem_range,decide_eq_true_eq] at hz
     obtain ⟨hz,hzm⟩:=hz
     rw [hs1 z hz] at hzm
     have hzx:z≠x:=fun e=>by
      subst e
      refine hzm ?_
      rw [jl,if_neg hxm,if_pos rfl]
     refine (List.mem_erase_of_ne hzx).2 (List.mem_filter.2 ⟨List.mem_range.2 hz,decide_eq_true fun e=>hzm ?_⟩)
     rw [e,jl,if_neg hzx,if_neg]
     intro e2
     rw [←e] at e2
     exact hzx (hw.perm.inj hz hx e2)
    have h1:=yB ((List.nodup_range (n:=n)).filter _) hsub
    have yM:x∈(List.range n).filter fun z=>decide (nl w z≠z):=List.mem_filter.2 ⟨List.mem_range.2 hx,decide_eq_true hxm⟩
    have h2:=List.length_erase_of_mem yM
    have h3:=List.length_pos_of_mem yM
    simp only [JY]
    omega
   have h:=ih _ hlt p _ rfl hp hw'
   omega
  ·have e:w=dQ n:=hw.ext (.one hn) fun i hi=>by
    rw [pz hn.2 hi]
    exact Classical.byContradiction fun h=>hex ⟨i,hi,h⟩
   rw [e,mul_one hp,ahj hn]
   omega
theorem Xh {n:Nat} {p:List Nat} (hp:PN n p):(aV (dN p n) n).length=(aV p n).length:=by
 have h:=wQ hp.inv.perm
 have h2:Cls n (dD [p] n) ((aV (dN p n) n).map fun c=>nl c 0):=by
  have he: ∀x y,dD [p] n x y↔dD [dN p n] n x y:=fun x y=>by
   constructor
   ·intro h S hS
    refine h S fun t ht z hz=>?_
    obtain rfl:=List.mem_singleton.1 ht
    have:=hS _ (List.mem_singleton.2 rfl) (nl t z) (hp.perm.lt hz)
    rw [nZ hp.perm (Nat.le_refl _) hz] at this
    exact this.symm
   ·intro h S hS
    refine h S fun t ht z hz=>?_
    obtain rfl:=List.mem_singleton.1 ht
    obtain ⟨y,hy,rfl⟩:=hp.perm.mO hz
    have:=hS p (by simp) y hy
    rw [nZ hp.perm (Nat.le_refl _) hy]
    exact this.symm
  exact ⟨h.lt,h.pw.imp fun hn ho=>hn ((he _ _).1 ho),fun x hx=>by
   obtain ⟨y,h1,h2⟩:=h.rep x hx
   exact ⟨y,h1,(he _ _).2 h2⟩⟩
 have:=FW hp.perm h2
 rwa [List.length_map] at this
theorem ahl {n:Nat} {b w:List Nat} (hb:PN n b) (hw:PN n w):((aV b n).length+(aV w n).length+(aV (eH b w n) n).length)%2=n%2:=by
 rw [eH,Xh (hb.mul hw)]
 exact ahk _ b w rfl hb hw
end Go.Bm
namespace Go.Bm
open Go Go.Am
def iL (s:List Bool) (x:Nat):BS:=(s.set x true,[x])
def fD (ls:List (List Nat)):Nat→List Bool×List Nat
 |0=>(List.replicate 32 false,[])
 |k+1=>if bl (fD ls k).1 k=true then fD ls k else ((bf ls (iL (fD ls k).1 k) 32).1,(fD ls k).2++[(bf ls (iL (fD ls k).1 k) 32).2.length])
theorem Bi.iL {m x:Nat} {s:List Bool} (hs:s.length=m) (hx:x<m) (h:bl s x=false):Bi m (iL s x):=⟨by simp [Bm.iL,hs],fun i hi=>by
 rw [show (Bm.iL s x).2=[x] from rfl,AO (by simpa [Bm.iL] using hi)];exact hx,by
 show 1≤(s.set x true).count true
 rw [rY (by omega) h];omega⟩
theorem FX {ls:List (List Nat)} (hl: ∀p∈ls,∀i,nl p i<32): ∀{k:Nat},k≤32→(fD ls k).1.length=32∧(fD ls k).2.length≤k
 |0,_=>⟨List.length_replicate (n:=32) (a:=false),Nat.le_refl 0⟩
 |k+1,h=>by
  obtain ⟨h1,h2⟩:=FX hl (k:=k) (by omega)
  simp only [fD]
  split
  ·exact ⟨h1,by omega⟩
  ·rename_i hb
   have:=(Bi.iL h1 (show k<32 by omega) (by simpa using hb)).bf hl 32
   generalize bf ls (Bm.iL (fD ls k).1 k) 32=st at this⊢
   exact ⟨this.len,by simp;omega⟩
theorem ahm {ls:List (List Nat)} {n:Nat} (hn:n≤32) (hll:ls.length≤1000) (hl: ∀p∈ls,p.length=32) (yN: ∀p∈ls,∀i,nl p i<32):
  aQ false Me [I n,kW 32 ls] [] fun v H1=> ∃j,v=S j 0 (fD ls n).2.length 1∧blk H1 j=some ((fD ls n).2.map fJ):=by
 refine bF aam ?_;simp only [dh,aI]
 refine au fun Kr hKr=>?_;simp (disch:=omega) only [RA,↓reduceIte,Nat.reduceEqDiff,Nat.reduceBEq,Nat.reduceSub,Nat.reduceAdd,Nat.reduceMul,Nat.reduceLT,Nat.reduceLeDiff,Int.reduceLE,Int.reduceLT,Int.reduceEq,Int.reduceNeg,Int.reduceToNat,Int.reduceMul,Int.reduceAdd,Int.reduceSub,Int.reduceBEq,Int.reduceBNe,reduceCtorEq,RD];refine hKr _ _ ?_;clear hKr Kr;(try simp only [RN,reduceIte]);try refine ah rfl ?_
 refine au fun Kr hKr=>?_;simp (disch:=omega) only [RA,↓reduceIte,Nat.reduceEqDiff,Nat.reduceBEq,Nat.reduceSub,Nat.reduceAdd,Nat.reduceMul,Nat.reduceLT,Nat.reduceLeDiff,Int.reduceLE,Int.reduceLT,Int.reduceEq,Int.reduceNeg,Int.reduceToNat,Int.reduceMul,Int.reduceAdd,Int.reduceSub,Int.reduceBEq,Int.reduceBNe,reduceCtorEq,RD];refine hKr _ _ ?_;clear hKr Kr;(try simp only [RN,reduceIte]);try refine ah rfl ?_
 refine au fun Kr hKr=>?_;simp (disch:=omega) only [RA,↓reduceIte,Nat.reduceEqDiff,Nat.reduceBEq,Nat.reduceSub,Nat.reduceAdd,Nat.reduceMul,Nat.reduceLT,Nat.reduceLeDiff,Int.reduceLE,Int.reduceLT,Int.reduceEq,Int.reduceNeg,Int.reduceToNat,Int.reduceMul,Int.reduceAdd,Int.reduceSub,Int.reduceBEq,Int.reduceBNe,reduceCtorEq,RD];refine hKr _ _ ?_;clear hKr Kr;(try simp only [RN,reduceIte]);try refine ah rfl ?_
 refine au fun Kr hKr=>?_;simp (disch:=omega) only [RA,↓reduceIte,Nat.reduceEqDiff,Nat.reduceBEq,Nat.reduceSub,Nat.reduceAdd,Nat.reduceMul,Nat.reduceLT,Nat.reduceLeDiff,Int.reduceLE,Int.reduceLT,Int.reduceEq,Int.reduceNeg,Int.reduceToNat,Int.reduceMul,Int.reduceAdd,Int.reduceSub,Int.reduceBEq,Int.reduceBNe,reduceCtorEq,RD];refine hKr _ _ ?_;clear hKr Kr;(try simp only [RN,reduceIte]);try refine ah rfl ?_
 refine bU (fun m f H'=> ∃x so,x≤n∧m=n-x∧so=fD ls x∧f 1=kW 32 ls∧f 15=I n∧f 5=P 0 0∧f 6=S 1 0 so.2.length 1∧f 16=I x∧H'=[some (so.1.map B),some (so.2.map fJ)]) (n) ?_ ?_
 ·refine ⟨_,_,Gh.refl,0,(List.replicate 32 false,[]),by omega,by omega,rfl,?_,?_,?_,?_,?_,by simp⟩
  any_goals (simp (disch:=omega) only [RA,↓reduceIte,Nat.reduceEqDiff,RD,RE, *]<;>rfl)
 ·rintro m f H' R ⟨x,so,hx,rfl,hso,hL,hN0,hM,hO,hx1,rfl⟩ hN hX hR hE
  simp only [dh.l2,aI]
  obtain ⟨hsl,hol⟩:=FX yN (show x≤32 by omega)
  rw [←hso] at hsl hol
  replace hso:=hso.symm
  refine au fun Kr hKr=>?_;simp (disch:=omega) only [RA,↓reduceIte,Nat.reduceEqDiff,RD,hN0,hx1];refine hKr _ _ ?_;clear hKr Kr;(try simp only [RN,reduceIte]);try refine ah rfl ?_
  refine aX (p:=x<n) (by simp only [RA,↓reduceIte,Nat.reduceEqDiff]<;>rfl) (by (try simp only [RB])<;>first|done|exact Iff.rfl|omega|simp) (fun hc=>?_) (fun hc=>?_)<;>(try simp only [RN,reduceIte])<;>(try refine ah rfl ?_)
  ·have hnext: ∀f' so',f' 1=kW 32 ls→f' 15=I n→f' 5=P 0 0→f' 6=S 1 0 so'.2.length 1→f' 16=I x→so'=fD ls (x+1)→T 0 dh.ng R f' [some (so'.1.map B),some (so'.2.map fJ)]:=by
    intro f' so' hL hN0 hM hO hx1 hs
    refine bH fun Kr hKr=>?_;simp (disch:=omega) only [RA,↓reduceIte,Nat.reduceEqDiff,RD,hx1];refine hKr _ _ ?_;clear hKr Kr
    refine hN (n-(x+1)) _ _ _ _ (by omega) Gh.refl ⟨x+1,so',by omega,rfl,hs,?_,?_,?_,?_,?_,rfl⟩
    any_goals (simp (disch:=omega) only [RA,↓reduceIte,Nat.reduceEqDiff,RD,RE, *]<;>rfl)
   refine lV (ou ?_);(try simp only [RN,reduceIte]);try refine ah rfl ?_
   refine au fun Kr hKr=>?_;simp (disch:=omega) only [RA,↓reduceIte,Nat.reduceEqDiff,Nat.reduceBEq,Nat.reduceSub,Nat.reduceAdd,Nat.reduceMul,Nat.reduceLT,Nat.reduceLeDiff,Int.reduceLE,Int.reduceLT,Int.reduceEq,Int.reduceNeg,Int.reduceToNat,Int.reduceMul,Int.reduceAdd,Int.reduceSub,Int.reduceBEq,Int.reduceBNe,reduceCtorEq,RD,hx1];refine hKr _ _ ?_;clear hKr Kr;(try simp only [RN,reduceIte]);try refine ah rfl ?_
   refine au fun Kr hKr=>?_;simp (disch:=omega) only [RA,↓reduceIte,Nat.reduceEqDiff,Nat.reduceBEq,Nat.reduceSub,Nat.reduceAdd,Nat.reduceMul,Nat.reduceLT,Nat.reduceLeDiff,Int.reduceLE,Int.reduceLT,Int.reduceEq,Int.reduceNeg,Int.reduceToNat,Int.reduceMul,Int.reduceAdd,Int.reduceSub,Int.reduceBEq,Int.reduceBNe,reduceCtorEq,RD,hM,hx1,hsl];refine hKr _ _ ?_;clear hKr Kr;(try simp only [RN,reduceIte]);try refine ah rfl ?_
   refine aX (p:=bl so.1 x=true) (by simp only [RA,↓reduceIte,Nat.reduceEqDiff,Nat.reduceAdd,Nat.reduceMul,Int.reduceToNat,Nat.reduceLT,reduceCtorEq]<;>rfl) (by (try simp only [RB])<;>first|done|exact Iff.rfl|omega|simp) (fun hc=>?_) (fun hc=>?_)<;>(try simp only [RN,reduceIte])<;>(try refine ah rfl ?_)
   ·simp only [aK,aP,aN,if_true]
    refine hnext _ so ?_ ?_ ?_ ?_ ?_ (by rw [fD,hso,if_pos hc])
    any_goals (simp (disch:=omega) only [RA,↓reduceIte,Nat.reduceEqDiff,Nat.reduceBEq,Nat.reduceSub,Nat.reduceAdd,Nat.reduceMul,Nat.reduceLT,Nat.reduceLeDiff,Int.reduceLE,Int.reduceLT,Int.reduceEq,Int.reduceNeg,Int.reduceToNat,Int.reduceMul,Int.reduceAdd,Int.reduceSub,Int.reduceBEq,Int.reduceBNe,reduceCtorEq,RD,RE, *]<;>rfl)
   ·have hb:bl so.1 x=false:=by simpa using hc
    have hB0:=Bi.iL hsl (show x<32 by omega) hb
    refine au fun Kr hKr=>?_;simp (disch:=omega) only [RA,↓reduceIte,Nat.reduceEqDiff,Nat.reduceBEq,Nat.reduceSub,Nat.reduceAdd,Nat.reduceMul,Nat.reduceLT,Nat.reduceLeDiff,Int.reduceLE,Int.reduceLT,Int.reduceEq,Int.reduceNeg,Int.reduceToNat,Int.reduceMul,Int.reduceAdd,Int.reduceSub,Int.reduceBEq,Int.reduceBNe,reduceCtorEq,RD,hM,hx1,hsl];refine hKr _ _ ?_;clear hKr Kr;(try simp only [RN,reduceIte]);try refine ah rfl ?_
    refine au fun Kr hKr=>?_;simp (disch:=omega) only [RA,↓reduceIte,Nat.reduceEqDiff,Nat.reduceBEq,Nat.reduceSub,Nat.reduceAdd,Nat.reduceMul,Nat.reduceLT,Nat.reduceLeDiff,Int.reduceLE,Int.reduceLT,Int.reduceEq,Int.reduceNeg,Int.reduceToNat,Int.reduceMul,Int.reduceAdd,Int.reduceSub,Int.reduceBEq,Int.reduceBNe,reduceCtorEq,RD,hx1];refine hKr _ _ ?_;clear hKr Kr;(try simp only [RN,reduceIte]);try refine ah rfl ?_
    refine au fun Kr hKr=>?_;simp (disch:=omega) only [RA,↓reduceIte,Nat.reduceEqDiff,Nat.reduceBEq,Nat.reduceSub,Nat.reduceAdd,Nat.reduceMul,Nat.reduceLT,Nat.reduceLeDiff,Int.reduceLE,Int.reduceLT,Int.reduceEq,Int.reduceNeg,Int.reduceToNat,Int.reduceMul,Int.reduceAdd,Int.reduceSub,Int.reduceBEq,Int.reduceBNe,reduceCtorEq,RD];refine hKr _ _ ?_;clear hKr Kr;(try simp only [RN,reduceIte]);try refine ah rfl ?_
    refine bU (fun m f H'=> ∃k st,k≤32∧m=32-k∧st=bf ls (iL so.1 x) k∧k≤st.2.length∧f 1=kW 32 ls∧f 15=I n∧f 5=P 0 0∧f 6=S 1 0 so.2.length 1∧f 16=I x∧f 8=S 2 0 st.2.length 1∧f 9=I k∧H'=[some (st.1.map B),some (so.2.map fJ),some (st.2.map N8)]) (32) ?_ ?_
    ·refine ⟨_,_,Gh.refl,0,iL so.1 x,by omega,by omega,rfl,Nat.zero_le _,?_,?_,?_,?_,?_,?_,?_,by simp [iL]⟩
     any_goals (simp (disch:=omega) only [RA,↓reduceIte,Nat.reduceEqDiff,RD,RE, *]<;>rfl)
    ·clear hL hN0 hM hO hx1
     rintro m f H' R1 ⟨k,st,hk,rfl,hst,hkl,hL,hN0,hM,hO,hx1,hq,hk1,rfl⟩ hN1 hX1 hR1 hE1
     simp only [dh.l1,aI]
     have hB:=hB0.bf yN k
     rw [←hst] at hB
     replace hst:=hst.symm
     have hle:=hB.le
     have hsl1:=hB.len
     refine au fun Kr hKr=>?_;simp (disch:=omega) only [RA,↓reduceIte,Nat.reduceEqDiff,RD,hq,hk1];refine hKr _ _ ?_;clear hKr Kr;(try simp only [RN,reduceIte]);try refine ah rfl ?_
     refine aX (p:=k<st.2.length) (by simp only [RA,↓reduceIte,Nat.reduceEqDiff]<;>rfl) (by (try simp only [RB])<;>first|done|exact Iff.rfl|omega|simp) (fun hc=>?_) (fun hc=>?_)<;>(try simp only [RN,reduceIte])<;>(try refine ah rfl ?_)
     ·have hxk:=hB.lt k hc
      (first|refine bP rfl ?_|refine bQ rfl ?_);(try simp only [RN,reduceIte]);try refine ah rfl ?_
      refine au fun Kr hKr=>?_;simp (disch:=omega) only [RA,↓reduceIte,Nat.reduceEqDiff,RD,hL];refine hKr _ _ ?_;clear hKr Kr;(try simp only [RN,reduceIte]);try refine ah rfl ?_
      refine bU (fun m f H'=> ∃j st',j≤ls.length∧m=ls.length-j∧st'=iJ (ls.take j) (nl st.2 k) st∧f 1=kW 32 ls∧f 15=I n∧f 5=P 0 0∧f 6=S 1 0 so.2.length 1∧f 16=I x∧f 8=S 2 0 st'.2.length 1∧f 9=I k∧f 35=I j∧f 33=kW 32 ls∧f 34=I ls.length∧H'=[some (st'.1.map B),some (so.2.map fJ),some (st'.2.map N8)]) (ls.length) ?_ ?_
      ·refine ⟨_,_,Gh.refl,0,st,by omega,by omega,rfl,?_,?_,?_,?_,?_,?_,?_,?_,?_,?_,rfl⟩
       any_goals (simp (disch:=omega) only [RA,↓reduceIte,Nat.reduceEqDiff,RD,RE, *]<;>rfl)
      ·clear hL hN0 hM hO hx1 hq hk1
       rintro m f H' R2 ⟨j,st',hj,rfl,hst',hL,hN0,hM,hO,hx1,hq,hk1,hj1,hL2,FY,rfl⟩ gB hX2 hR2 hE2
       simp only [dh.l0,aI]
       refine au fun Kr hKr=>?_;simp (disch:=omega) only [RA,↓reduceIte,Nat.reduceEqDiff,RD,hL,hj1,FY];refine hKr _ _ ?_;clear hKr Kr;(try simp only [RN,reduceIte]);try refine ah rfl ?_
       have hB':Bi 32 st':=by rw [hst'];exact hB.round fun p hp=>yN p (List.mem_of_mem_take hp) _
       have hle':=hB'.le
       have qy:=hB'.len
       refine aX (p:=j<ls.length) (by simp only [RA,↓reduceIte,Nat.reduceEqDiff,Nat.reduceBEq,Nat.reduceSub,Nat.reduceAdd,Nat.reduceMul,Nat.reduceLT,Nat.reduceLeDiff,Int.reduceLE,Int.reduceLT,Int.reduceEq,Int.reduceNeg,Int.reduceToNat,Int.reduceMul,Int.reduceAdd,Int.reduceSub,Int.reduceBEq,Int.reduceBNe,reduceCtorEq]<;>rfl) (by (try simp only [RB])<;>first|done|exact Iff.rfl|omega|simp) (fun hc=>?_) (fun hc=>?_)<;>(try simp only [RN,reduceIte])<;>(try refine ah rfl ?_)
       ·obtain ⟨w,hw⟩:= @uY (nl st.2 k) (ls.take j) st
        rw [←hst'] at hw
        have hxi:nl st'.2 k=nl st.2 k:=by rw [hw,oW,if_pos (by assumption)]
        have EJ:k<st'.2.length:=by rw [hw];simp;omega
        have hnx:=EH (ls:=ls) (x:=nl st.2 k) (st:=st) hc
        rw [←hst'] at hnx
        have hpl:=hl _ (getD_mem (d:=[]) hc)
        have hyl:=yN _ (getD_mem (d:=[]) hc) (nl st.2 k)
        obtain ⟨pj,rZ⟩: ∃pj,ls.getD j []=pj:=⟨_,rfl⟩
        rw [rZ] at hnx hpl hyl
        obtain ⟨y,mD⟩: ∃y,nl pj (nl st.2 k)=y:=⟨_,rfl⟩
        rw [mD] at hyl hnx
        have Fv:=aeT (m:=32) (y:=nl st.2 k) hl hc hxk
        rw [rZ,mD] at Fv
        have Xi: ∀f' st2,f' 1=kW 32 ls→f' 15=I n→f' 5=P 0 0→f' 6=S 1 0 so.2.length 1→f' 16=I x→f' 8=S 2 0 st2.2.length 1→f' 9=I k→f' 35=I j→f' 33=kW 32 ls→f' 34=I ls.length→st2=visit st' y→T 0 dh.lF R2 f' [some (st2.1.map B),some (so.2.map fJ),some (st2.2.map N8)]:=by
         intro f' st2 hL hN0 hM hO hx1 hq hk1 hj1 hL2 FY hs2
         refine bH fun Kr hKr=>?_;simp (disch:=omega) only [RA,↓reduceIte,Nat.reduceEqDiff,Nat.reduceBEq,Nat.reduceSub,Nat.reduceAdd,Nat.reduceMul,Nat.reduceLT,Nat.reduceLeDiff,Int.reduceLE,Int.reduceLT,Int.reduceEq,Int.reduceNeg,Int.reduceToNat,Int.reduceMul,Int.reduceAdd,Int.reduceSub,Int.reduceBEq,Int.reduceBNe,reduceCtorEq,RD,hj1];refine hKr _ _ ?_;clear hKr Kr
         refine gB (ls.length-(j+1)) _ _ _ _ (by omega) Gh.refl ⟨j+1,st2,by omega,rfl,by rw [hnx,hs2],?_,?_,?_,?_,?_,?_,?_,?_,?_,?_,rfl⟩
         any_goals (simp (disch:=omega) only [RA,↓reduceIte,Nat.reduceEqDiff,Nat.reduceBEq,Nat.reduceSub,Nat.reduceAdd,Nat.reduceMul,Nat.reduceLT,Nat.reduceLeDiff,Int.reduceLE,Int.reduceLT,Int.reduceEq,Int.reduceNeg,Int.reduceToNat,Int.reduceMul,Int.reduceAdd,Int.reduceSub,Int.reduceBEq,Int.reduceBNe,reduceCtorEq,RD,RE, *]<;>rfl)
        (first|refine bP rfl ?_|refine bQ rfl ?_);(try simp only [RN,reduceIte]);try refine ah rfl ?_
        refine au fun Kr hKr=>?_;simp (disch:=omega) only [RA,↓reduceIte,Nat.reduceEqDiff,Nat.reduceBEq,Nat.reduceSub,Nat.reduceAdd,Nat.reduceMul,Nat.reduceLT,Nat.reduceLeDiff,Int.reduceLE,Int.reduceLT,Int.reduceEq,Int.reduceNeg,Int.reduceToNat,Int.reduceMul,Int.reduceAdd,Int.reduceSub,Int.reduceBEq,Int.reduceBNe,reduceCtorEq,RD,hL2,hj1,IY hl hc,rZ];refine hKr _ _ ?_;clear hKr Kr;(try simp only [RN,reduceIte]);try refine ah rfl ?_
        refine au fun Kr hKr=>?_;simp (disch:=omega) only [RA,↓reduceIte,Nat.reduceEqDiff,RD,hq,hk1,hxi,hpl,mD];refine hKr _ _ ?_;clear hKr Kr;(try simp only [RN,reduceIte]);try refine ah rfl ?_
        refine au fun Kr hKr=>?_;simp (disch:=omega) only [RA,↓reduceIte,Nat.reduceEqDiff,Nat.reduceBEq,Nat.reduceSub,Nat.reduceAdd,Nat.reduceMul,Nat.reduceLT,Nat.reduceLeDiff,Int.reduceLE,Int.reduceLT,Int.reduceEq,Int.reduceNeg,Int.reduceToNat,Int.reduceMul,Int.reduceAdd,Int.reduceSub,Int.reduceBEq,Int.reduceBNe,reduceCtorEq,RD,hM,qy];refine hKr _ _ ?_;clear hKr Kr;(try simp only [RN,reduceIte]);try refine ah rfl ?_
        refine aX (p:= ¬bl st'.1 y=true) (by simp only [RA,↓reduceIte,Nat.reduceEqDiff,Nat.reduceBEq,Nat.reduceSub,Nat.reduceAdd,Nat.reduceMul,Nat.reduceLT,Nat.reduceLeDiff,Int.reduceLE,Int.reduceLT,Int.reduceEq,Int.reduceNeg,Int.reduceToNat,Int.reduceMul,Int.reduceAdd,Int.reduceSub,Int.reduceBEq,Int.reduceBNe,reduceCtorEq]<;>rfl) (by (try simp only [RB])<;>first|done|exact Iff.rfl|omega|simp) (fun hc=>?_) (fun hc=>?_)<;>(try simp only [RN,reduceIte])<;>(try refine ah rfl ?_)
        ·refine au fun Kr hKr=>?_;simp (disch:=omega) only [RA,↓reduceIte,Nat.reduceEqDiff,Nat.reduceBEq,Nat.reduceSub,Nat.reduceAdd,Nat.reduceMul,Nat.reduceLT,Nat.reduceLeDiff,Int.reduceLE,Int.reduceLT,Int.reduceEq,Int.reduceNeg,Int.reduceToNat,Int.reduceMul,Int.reduceAdd,Int.reduceSub,Int.reduceBEq,Int.reduceBNe,reduceCtorEq,RD,hM,qy];refine hKr _ _ ?_;clear hKr Kr;(try simp only [RN,reduceIte]);try refine ah rfl ?_
         refine au fun Kr hKr=>?_;simp (disch:=omega) only [RA,↓reduceIte,Nat.reduceEqDiff,Nat.reduceBEq,Nat.reduceSub,Nat.reduceAdd,Nat.reduceMul,Nat.reduceLT,Nat.reduceLeDiff,Int.reduceLE,Int.reduceLT,Int.reduceEq,Int.reduceNeg,Int.reduceToNat,Int.reduceMul,Int.reduceAdd,Int.reduceSub,Int.reduceBEq,Int.reduceBNe,reduceCtorEq,RD,hq];refine hKr _ _ ?_;clear hKr Kr;(try simp only [RN,reduceIte]);try refine ah rfl ?_
         refine lI (Gh.nrm [0,1,5] rfl rfl (by simp only [RH])) ?_
         refine Xi _ (st'.1.set y true,st'.2++[y]) ?_ ?_ ?_ ?_ ?_ ?_ ?_ ?_ ?_ ?_ ?_
         any_goals (simp (disch:=omega) only [RA,↓reduceIte,Nat.reduceEqDiff,RD,RE, *]<;>rfl)
         rw [visit,if_neg hc]
        ·(try simp only [RN,reduceIte]);try refine ah rfl ?_
         refine lI (Gh.nrm [0,1,2] rfl rfl (by simp only [RH])) ?_
         refine Xi _ st' ?_ ?_ ?_ ?_ ?_ ?_ ?_ ?_ ?_ ?_ ?_
         any_goals (simp (disch:=omega) only [RA,↓reduceIte,Nat.reduceEqDiff,Nat.reduceBEq,Nat.reduceSub,Nat.reduceAdd,Nat.reduceMul,Nat.reduceLT,Nat.reduceLeDiff,Int.reduceLE,Int.reduceLT,Int.reduceEq,Int.reduceNeg,Int.reduceToNat,Int.reduceMul,Int.reduceAdd,Int.reduceSub,Int.reduceBEq,Int.reduceBNe,reduceCtorEq,RD,RE, *]<;>rfl)
         rw [visit,if_pos (by simpa using hc)]
       ·refine hX2 _ _ ?_
        obtain rfl:j=ls.length:=by omega
        have hst2:st'=bf ls (iL so.1 x) (k+1):=by
         rw [hst',bf,hst,if_pos (by assumption),List.take_length]
        obtain ⟨w,hw⟩:= @uY (nl st.2 k) (ls.take ls.length) st
        have hlq:k+1≤st'.2.length:=by rw [hst',hw];simp;omega
        refine bH fun Kr hKr=>?_;simp (disch:=omega) only [RA,↓reduceIte,Nat.reduceEqDiff,Nat.reduceBEq,Nat.reduceSub,Nat.reduceAdd,Nat.reduceMul,Nat.reduceLT,Nat.reduceLeDiff,Int.reduceLE,Int.reduceLT,Int.reduceEq,Int.reduceNeg,Int.reduceToNat,Int.reduceMul,Int.reduceAdd,Int.reduceSub,Int.reduceBEq,Int.reduceBNe,reduceCtorEq,RD,hk1];refine hKr _ _ ?_;clear hKr Kr
        refine hN1 (32-(k+1)) _ _ _ _ (by omega) Gh.refl ⟨k+1,st',by omega,rfl,hst2,hlq,?_,?_,?_,?_,?_,?_,?_,rfl⟩
        any_goals (simp (disch:=omega) only [RA,↓reduceIte,Nat.reduceEqDiff,Nat.reduceBEq,Nat.reduceSub,Nat.reduceAdd,Nat.reduceMul,Nat.reduceLT,Nat.reduceLeDiff,Int.reduceLE,Int.reduceLT,Int.reduceEq,Int.reduceNeg,Int.reduceToNat,Int.reduceMul,Int.reduceAdd,Int.reduceSub,Int.reduceBEq,Int.reduceBNe,reduceCtorEq,RD,RE, *]<;>rfl)
     ·refine hX1 _ _ ?_
      have hfin:bf ls (iL so.1 x) 32=st:=by rw [xR (i:=k) (by rw [hst];omega) 32 hk,hst]
      refine bH fun Kr hKr=>?_;simp (disch:=omega) only [RA,↓reduceIte,Nat.reduceEqDiff,Nat.reduceBEq,Nat.reduceSub,Nat.reduceAdd,Nat.reduceMul,Nat.reduceLT,Nat.reduceLeDiff,Int.reduceLE,Int.reduceLT,Int.reduceEq,Int.reduceNeg,Int.reduceToNat,Int.reduceMul,Int.reduceAdd,Int.reduceSub,Int.reduceBEq,Int.reduceBNe,reduceCtorEq,RD,hO,hq,Bg];refine hKr _ _ ?_;clear hKr Kr
      simp only [aK,aP,aN,if_true]
      refine lI (Gh.nrm [0,4] rfl rfl (by simp only [RH])) ?_
      refine hnext _ (st.1,so.2++[st.2.length]) ?_ ?_ ?_ ?_ ?_ ?_
      any_goals (simp (disch:=omega) only [RA,↓reduceIte,Nat.reduceEqDiff,RD,RE, *]<;>rfl)
      rw [fD,hso,if_neg (by simp [hb]),hfin]
  ·refine hX _ _ ?_
   obtain rfl:x=n:=by omega
   refine au fun Kr hKr=>?_;simp (disch:=omega) only [RA,↓reduceIte,Nat.reduceEqDiff,RD,hO];refine hKr _ _ ?_;clear hKr Kr;(try simp only [RN,reduceIte]);try refine ah rfl ?_
   refine aS (by simp (disch:=omega) only [RA,↓reduceIte,Nat.reduceEqDiff,RD,aG,aO,hO];rfl) aC.refl ?_;simp only [aH]
   rw [hso]
   exact ⟨1,rfl,rfl⟩
theorem FZ {x:Bool} {ls:List (List Nat)} {n:Nat} {H:BH} {K:Value→BH→Prop} (hn:n≤32) (hll:ls.length≤1000) (hl: ∀p∈ls,p.length=32) (yN: ∀p∈ls,∀i,nl p i<32)
  (hK:K (Fz (fD ls n).2.length 1 ((fD ls n).2.map fJ)) H):aQ x Me [I n,kW 32 ls] H K:=
 uQ (by (simp only [RH])) (by (simp only [RH])) (by simp) (ahm hn hll hl yN) hK
end Go.Bm
