/- DpSa, DpSb -/
import Derived.Test.YtbpfbfbabpkceaaGreatDpG4
import Derived.Test.YtbpfbfbabpkceaaGreatDpG8
set_option linter.unusedVariables false
set_option linter.unusedSimpArgs false
set_option linter.unusedSectionVars false
namespace Go.Bm.Q5
open Go Go.Am Go.Bm
def kT (n:Nat):List L2→Value
 |[]=> .slice none 0 0
 |d::l=>LD n (d::l)
theorem Tn {n:Nat} {l:List L2}:NN (kT n l):=by
 cases l
 ·exact .nil
 ·exact .fz
theorem ac8 {n:Nat} {d:L2} {l:List L2}:kT n (dZ d l)=LD n (dZ d l):=by
 have h:dZ d l≠[]:=fun h=>by
  have:=qV (d:=d) (x:=d) (l:=l)
  rw [h] at this
  have:=this.2 (.inl rfl)
  cases this
 cases e:dZ d l with
 |nil=>exact absurd e h
 |cons x k=>rfl
theorem aB.nil0 {x:Bool} {g e:Nat} {args:List Value} {H:BH} {K:Value→BH→Prop} (h:aB x g (Fz 0 e []::args) H K):aB x g (.slice none 0 0::args) H K:=by
 intro ρ Z us HA h1 h2
 obtain ⟨u,us',rfl,hv,hl⟩:=h1.jB
 have hu:u= .slice none 0 0:=hv.nil_inv.2.2
 subst hu
 exact h ρ Z _ HA (VL.cons (.z .fz0) hl) h2
theorem ac9 {n:Nat} {l:List L2} {d:L2} {x:Bool} {H:BH} {K:Value→BH→Prop} (hl: ∀d∈l,By 16 d.1∧By 16 d.2) (hd:By 16 d.1∧By 16 d.2) (hs:l.Pairwise bU) (hn:l.length≤100000)
  (hK:K (kT n (dZ d l)) H):aB x CG [kT n l,DV n d.1 d.2] H K:=by
 rw [ac8] at hK
 have h:=acV (x:=x) (H:=H) (K:=K) hl hd hs hn hK
 cases l with
 |nil=>exact aB.nil0 h
 |cons y l=>exact h
def gy (n:Nat) (p c:Int) (l:List L2):List Value:=[I p,I c,kT n l, .bool true]
abbrev pW (n:Nat) (p c:Int) (l:List L2):Value:=aggL (gy n p c l)
section
variable {n:Nat} {p c p' c':Int} {l l':List L2} {H:BH} {b:Nat}
theorem Tq:fF (kT n l)=true:=by cases l<;>rfl
theorem ada:cells2 (kT n l)=some [kT n l]:=by cases l<;>rfl
theorem Tt:(gy n p c l).all fF=true:=by
 unfold gy
 simp only [List.all_cons,List.all_nil,Tq,Bool.and_true]
 rfl
theorem Tv:getN (some 4) (gy n p c l) 0=some (pW n p c l):=rfl
theorem Tz:getN none (gy n p c l) 0=some (I p):=rfl
theorem TA:getN none (gy n p c l) 1=some (I c):=rfl
theorem TB:getN none (gy n p c l) 2=some (kT n l):=rfl
theorem TD:getN none (gy n p c l) 3=some (.bool true):=rfl
theorem TF:bQ (some (gy n p c l)) H b 0 4 (pW n p' c' l')=some (undef,H.set b (some (gy n p' c' l'))):=(lU (vs:=gy n p' c' l') (n:=4) rfl Tt (by simp [gy])).trans rfl
theorem TG:bQ (some (jT p c)) H b 0 4 (pW n p' c' l')=some (undef,H.set b (some (gy n p' c' l'))):=(lU (vs:=gy n p' c' l') (n:=4) rfl Tt (by simp)).trans rfl
theorem TI {y:Int}:bQ (some (gy n p c l)) H b 0 1 (.int .i64 y)=some (undef,H.set b (some (gy n y c l))):=by rw [nX (by simp [gy])];rfl
theorem TJ {y:Int}:bQ (some (gy n p c l)) H b 1 1 (.int .i64 y)=some (undef,H.set b (some (gy n p y l))):=by rw [nX (by simp [gy])];rfl
theorem TK:bQ (some (gy n p c l)) H b 2 1 (kT n l')=some (undef,H.set b (some (gy n p c l'))):=by
 simp only [bQ,ada]
 rw [if_pos ⟨rfl,by simp [gy],by simp [Tq]⟩]
 rfl
theorem nN:aP (gy n p c l):= .cons .int (.cons .int (.cons Tn (.cons .bool .nil)))
theorem adb:aP (gy n p c l)=True:=eq_true nN
theorem ade:fillL (jT 0 0) [(3,1, .bool true)]=some (gy n 0 0 []):=rfl
end
theorem eH:(type_of% @Tv)∧(type_of% @Tz)∧(type_of% @TA)∧(type_of% @TB)∧(type_of% @TD)∧(type_of% @TF)∧(type_of% @TG)∧(type_of% @TI)∧(type_of% @TJ)∧(type_of% @TK):=⟨@Tv, @Tz, @TA, @TB, @TD, @TF, @TG, @TI, @TJ, @TK⟩
def kH (t1 t2:List Int) (n:Nat) (black:List Nat) (l:List L2) (w:List Nat):List L2:=if nV t1 t2 black n w then dZ (jE black w n) l else l
section
variable {t1 t2:List Int} {n:Nat} {black:List Nat}
theorem adf {w:List Nat} {l:List L2} (h:qO l):qO (kH t1 t2 n black l w):=by
 unfold kH
 split
 ·rename_i hd
  simp only [nV,Bool.and_eq_true,decide_eq_true_eq] at hd
  refine ⟨fun d hx=>?_,CW h.2⟩
  rcases qV.1 hx with rfl|hx
  ·exact tX (k:=n-1) hd.2 (by have:=hd.2.1.1;omega)
  ·exact h.1 d hx
 ·exact h
theorem adg {w:List Nat} {l:List L2}:(kH t1 t2 n black l w).length≤l.length+1:=by
 unfold kH
 split
 ·exact CY
 ·omega
theorem Gp: ∀(ws:List (List Nat)) {l:List L2},qO l→qO (ws.foldl (kH t1 t2 n black) l)
 |[],l,h=>h
 |w::ws,l,h=>Gp ws (adf h)
theorem TL: ∀(ws:List (List Nat)) {l:List L2},(ws.foldl (kH t1 t2 n black) l).length≤l.length+ws.length
 |[],l=>by simp
 |w::ws,l=>by
  have h1:=TL ws (l:=kH t1 t2 n black l w)
  have h2:=adg (t1:=t1) (t2:=t2) (n:=n) (black:=black) (w:=w) (l:=l)
  rw [List.foldl_cons,List.length_cons]
  omega
end
section
variable {black:List Nat} {n:Nat} {xss:List (List Int)} {H:BH} {K:Value→BH→Prop} {x:Bool}
theorem adh {p c:Int} {l:List L2} {w:List Nat} (hb:By 16 black) (hbp:Perm black n) (hw:By 16 w) (hwp:Perm w n) (h3:xss.length=3) (hll: ∀xs∈xss,xs.length≤1048576)
  (hp:0≤p∧p<1000000000) (hc:0≤c∧c<1000000000) (ho:qO l) (hln:l.length≤100000)
  (hK: ∀p' c',p'≤p+1∧p≤p'→c'≤c+1∧c≤c'→K (pW n p' c' (kH (at3 xss 1) (at3 xss 2) n black l w)) H):
  aB x Vo [pW n p c l,PL black,PL w,I n,dU xss] H K:=by
 have hlb:=hb.len
 have fK:=hw.len
 have hn:=hbp.1
 have hb16:=fun i=>hbp.jM hlb i
 have hw16:=fun i=>hwp.jM fK i
 have hz:=jU
 have hg: ∀i,i<3→getN none (xss.map FI) i=some (FI (at3 xss i)):=fun i hi=>mW (by omega)
 have hg1:=hg 1 (by omega)
 have hg2:=hg 2 (by omega)
 have hm: ∀i,i<3→(at3 xss i).length≤1048576:=fun i hi=>hll _ (pG (by omega))
 have hm1:=hm 1 (by omega)
 have hm2:=hm 2 (by omega)
 have t1:=Au hwp
 have t2:=Au (AU hbp hwp)
 unfold kH nV Dh at hK
 refine bf (.cons (dV nN) (.cons (dV kP) (.cons (dV kP) (.cons .int (.cons .fz .nil))))) ?_
 refine aK Xh ?_;simp only [fD,aA]
 refine au fun Kr hKr=>?_;simp (disch:=omega) only [RA,↓reduceIte,Nat.reduceEqDiff,Nat.reduceBEq,Nat.reduceSub,Nat.reduceAdd,Nat.reduceMul,Nat.reduceLT,Nat.reduceLeDiff,Int.reduceLE,Int.reduceLT,Int.reduceEq,Int.reduceNeg,Int.reduceToNat,Int.reduceMul,Int.reduceAdd,Int.reduceSub,Int.reduceBEq,Int.reduceBNe,reduceCtorEq,RD];refine hKr _ _ ?_;clear hKr Kr;(try simp only [RN,reduceIte]);try refine aj rfl ?_
 refine au fun Kr hKr=>?_;simp (disch:=omega) only [RA,↓reduceIte,Nat.reduceEqDiff,Nat.reduceBEq,Nat.reduceSub,Nat.reduceAdd,Nat.reduceMul,Nat.reduceLT,Nat.reduceLeDiff,Int.reduceLE,Int.reduceLT,Int.reduceEq,Int.reduceNeg,Int.reduceToNat,Int.reduceMul,Int.reduceAdd,Int.reduceSub,Int.reduceBEq,Int.reduceBNe,reduceCtorEq,RD,fK,R4,eH]
 refine JF hw hwp ?_
 simp (disch:=omega) only [RA,↓reduceIte,Nat.reduceEqDiff,Nat.reduceBEq,Nat.reduceSub,Nat.reduceAdd,Nat.reduceMul,Nat.reduceLT,Nat.reduceLeDiff,Int.reduceLE,Int.reduceLT,Int.reduceEq,Int.reduceNeg,Int.reduceToNat,Int.reduceMul,Int.reduceAdd,Int.reduceSub,Int.reduceBEq,Int.reduceBNe,reduceCtorEq,RD,R4,eH,hg1,Ar]
 refine II (xs:=kM (typ w n)) (ys:=at3 xss 1) (by rw [xC];omega) (by omega) ?_
 simp (disch:=omega) only [RA,↓reduceIte,Nat.reduceEqDiff,Nat.reduceBEq,Nat.reduceSub,Nat.reduceAdd,Nat.reduceMul,Nat.reduceLT,Nat.reduceLeDiff,Int.reduceLE,Int.reduceLT,Int.reduceEq,Int.reduceNeg,Int.reduceToNat,Int.reduceMul,Int.reduceAdd,Int.reduceSub,Int.reduceBEq,Int.reduceBNe,reduceCtorEq,RD]
 refine hKr _ _ ?_;clear hKr Kr;(try simp only [aH,aJ,aI]);(try simp only [RN,reduceIte]);try refine aj rfl ?_
 by_cases e1:kM (typ w n)=at3 xss 1
 ·refine aQ (t:=false) (by simp (disch:=omega) only [RA,↓reduceIte,Nat.reduceEqDiff,Nat.reduceBEq,Nat.reduceSub,Nat.reduceAdd,Nat.reduceMul,Nat.reduceLT,Nat.reduceLeDiff,Int.reduceLE,Int.reduceLT,Int.reduceEq,Int.reduceNeg,Int.reduceToNat,Int.reduceMul,Int.reduceAdd,Int.reduceSub,Int.reduceBEq,Int.reduceBNe,reduceCtorEq,RD,decide_eq_true e1]) ?_;(try simp only [RN,reduceIte]);try refine aj rfl ?_
  refine au fun Kr hKr=>?_;simp (disch:=omega) only [RA,↓reduceIte,Nat.reduceEqDiff,Nat.reduceBEq,Nat.reduceSub,Nat.reduceAdd,Nat.reduceMul,Nat.reduceLT,Nat.reduceLeDiff,Int.reduceLE,Int.reduceLT,Int.reduceEq,Int.reduceNeg,Int.reduceToNat,Int.reduceMul,Int.reduceAdd,Int.reduceSub,Int.reduceBEq,Int.reduceBNe,reduceCtorEq,RD,aT,bF,hlb,fK];refine hKr _ _ ?_;clear hKr Kr;(try simp only [RN,reduceIte]);try refine aj rfl ?_
  refine au fun Kr hKr=>?_;simp (disch:=omega) only [RA,↓reduceIte,Nat.reduceEqDiff,Nat.reduceBEq,Nat.reduceSub,Nat.reduceAdd,Nat.reduceMul,Nat.reduceLT,Nat.reduceLeDiff,Int.reduceLE,Int.reduceLT,Int.reduceEq,Int.reduceNeg,Int.reduceToNat,Int.reduceMul,Int.reduceAdd,Int.reduceSub,Int.reduceBEq,Int.reduceBNe,reduceCtorEq,RD,aT,bF]
  refine abw hb hw (by omega) hb16 hw16 ?_
  simp (disch:=omega) only [RA,↓reduceIte,Nat.reduceEqDiff,Nat.reduceBEq,Nat.reduceSub,Nat.reduceAdd,Nat.reduceMul,Nat.reduceLT,Nat.reduceLeDiff,Int.reduceLE,Int.reduceLT,Int.reduceEq,Int.reduceNeg,Int.reduceToNat,Int.reduceMul,Int.reduceAdd,Int.reduceSub,Int.reduceBEq,Int.reduceBNe,reduceCtorEq,RD]
  refine JF (Md (by omega)) (AU hbp hwp) ?_
  simp (disch:=omega) only [RA,↓reduceIte,Nat.reduceEqDiff,Nat.reduceBEq,Nat.reduceSub,Nat.reduceAdd,Nat.reduceMul,Nat.reduceLT,Nat.reduceLeDiff,Int.reduceLE,Int.reduceLT,Int.reduceEq,Int.reduceNeg,Int.reduceToNat,Int.reduceMul,Int.reduceAdd,Int.reduceSub,Int.reduceBEq,Int.reduceBNe,reduceCtorEq,RD,R4,eH,hg2,Ar]
  refine II (xs:=kM (typ (oW black w n) n)) (ys:=at3 xss 2) (by rw [xC];omega) (by omega) ?_
  simp (disch:=omega) only [RA,↓reduceIte,Nat.reduceEqDiff,Nat.reduceBEq,Nat.reduceSub,Nat.reduceAdd,Nat.reduceMul,Nat.reduceLT,Nat.reduceLeDiff,Int.reduceLE,Int.reduceLT,Int.reduceEq,Int.reduceNeg,Int.reduceToNat,Int.reduceMul,Int.reduceAdd,Int.reduceSub,Int.reduceBEq,Int.reduceBNe,reduceCtorEq,RD]
  refine hKr _ _ ?_;clear hKr Kr;(try simp only [aH,aJ,aI]);(try simp only [RN,reduceIte]);try refine aj rfl ?_
  by_cases e2:kM (typ (oW black w n) n)=at3 xss 2
  ·refine aQ (t:=false) (by simp (disch:=omega) only [RA,↓reduceIte,Nat.reduceEqDiff,Nat.reduceBEq,Nat.reduceSub,Nat.reduceAdd,Nat.reduceMul,Nat.reduceLT,Nat.reduceLeDiff,Int.reduceLE,Int.reduceLT,Int.reduceEq,Int.reduceNeg,Int.reduceToNat,Int.reduceMul,Int.reduceAdd,Int.reduceSub,Int.reduceBEq,Int.reduceBNe,reduceCtorEq,RD,decide_eq_true e2]) ?_;(try simp only [RN,reduceIte]);try refine aj rfl ?_
   refine au fun Kr hKr=>?_;simp (disch:=omega) only [RA,↓reduceIte,Nat.reduceEqDiff,Nat.reduceBEq,Nat.reduceSub,Nat.reduceAdd,Nat.reduceMul,Nat.reduceLT,Nat.reduceLeDiff,Int.reduceLE,Int.reduceLT,Int.reduceEq,Int.reduceNeg,Int.reduceToNat,Int.reduceMul,Int.reduceAdd,Int.reduceSub,Int.reduceBEq,Int.reduceBNe,reduceCtorEq,RD,R4,eH];refine hKr _ _ ?_;clear hKr Kr;(try simp only [RN,reduceIte]);try refine aj rfl ?_
   refine au fun Kr hKr=>?_;simp (disch:=omega) only [RA,↓reduceIte,Nat.reduceEqDiff,Nat.reduceBEq,Nat.reduceSub,Nat.reduceAdd,Nat.reduceMul,Nat.reduceLT,Nat.reduceLeDiff,Int.reduceLE,Int.reduceLT,Int.reduceEq,Int.reduceNeg,Int.reduceToNat,Int.reduceMul,Int.reduceAdd,Int.reduceSub,Int.reduceBEq,Int.reduceBNe,reduceCtorEq,RD,aT,bF]
   refine abj hb hw ?_
   simp (disch:=omega) only [RA,↓reduceIte,Nat.reduceEqDiff,Nat.reduceBEq,Nat.reduceSub,Nat.reduceAdd,Nat.reduceMul,Nat.reduceLT,Nat.reduceLeDiff,Int.reduceLE,Int.reduceLT,Int.reduceEq,Int.reduceNeg,Int.reduceToNat,Int.reduceMul,Int.reduceAdd,Int.reduceSub,Int.reduceBEq,Int.reduceBNe,reduceCtorEq,RD]
   refine hKr _ _ ?_;clear hKr Kr;(try simp only [aH,aJ,aI]);(try simp only [RN,reduceIte]);try refine aj rfl ?_
   by_cases e3:bY n black w
   ·rw [decide_eq_true e1,decide_eq_true e2,decide_eq_true e3] at hK
    have hK':=hK (p+1) (c+1) (by omega) (by omega)
    simp only [Bool.and_true,if_true] at hK'
    have hcd:By 16 (jE black w n).1∧By 16 (jE black w n).2:=tX (k:=n-1) e3 (by omega)
    refine aQ (t:=false) (by simp (disch:=omega) only [RA,↓reduceIte,Nat.reduceEqDiff,Nat.reduceBEq,Nat.reduceSub,Nat.reduceAdd,Nat.reduceMul,Nat.reduceLT,Nat.reduceLeDiff,Int.reduceLE,Int.reduceLT,Int.reduceEq,Int.reduceNeg,Int.reduceToNat,Int.reduceMul,Int.reduceAdd,Int.reduceSub,Int.reduceBEq,Int.reduceBNe,reduceCtorEq,RD,decide_eq_true e3]) ?_;(try simp only [RN,reduceIte]);try refine aj rfl ?_
    refine au fun Kr hKr=>?_;simp (disch:=omega) only [RA,↓reduceIte,Nat.reduceEqDiff,Nat.reduceBEq,Nat.reduceSub,Nat.reduceAdd,Nat.reduceMul,Nat.reduceLT,Nat.reduceLeDiff,Int.reduceLE,Int.reduceLT,Int.reduceEq,Int.reduceNeg,Int.reduceToNat,Int.reduceMul,Int.reduceAdd,Int.reduceSub,Int.reduceBEq,Int.reduceBNe,reduceCtorEq,RD,R4,eH];refine hKr _ _ ?_;clear hKr Kr;(try simp only [RN,reduceIte]);try refine aj rfl ?_
    refine au fun Kr hKr=>?_;simp (disch:=omega) only [RA,↓reduceIte,Nat.reduceEqDiff,Nat.reduceBEq,Nat.reduceSub,Nat.reduceAdd,Nat.reduceMul,Nat.reduceLT,Nat.reduceLeDiff,Int.reduceLE,Int.reduceLT,Int.reduceEq,Int.reduceNeg,Int.reduceToNat,Int.reduceMul,Int.reduceAdd,Int.reduceSub,Int.reduceBEq,Int.reduceBNe,reduceCtorEq,RD,R4,eH];refine hKr _ _ ?_;clear hKr Kr;(try simp only [RN,reduceIte]);try refine aj rfl ?_
    refine aQ (t:=true) (by simp (disch:=omega) only [RA,↓reduceIte,Nat.reduceEqDiff,Nat.reduceBEq,Nat.reduceSub,Nat.reduceAdd,Nat.reduceMul,Nat.reduceLT,Nat.reduceLeDiff,Int.reduceLE,Int.reduceLT,Int.reduceEq,Int.reduceNeg,Int.reduceToNat,Int.reduceMul,Int.reduceAdd,Int.reduceSub,Int.reduceBEq,Int.reduceBNe,reduceCtorEq,RD]) ?_;(try simp only [RN,reduceIte]);try refine aj rfl ?_
    refine au fun Kr hKr=>?_;simp (disch:=omega) only [RA,↓reduceIte,Nat.reduceEqDiff,Nat.reduceBEq,Nat.reduceSub,Nat.reduceAdd,Nat.reduceMul,Nat.reduceLT,Nat.reduceLeDiff,Int.reduceLE,Int.reduceLT,Int.reduceEq,Int.reduceNeg,Int.reduceToNat,Int.reduceMul,Int.reduceAdd,Int.reduceSub,Int.reduceBEq,Int.reduceBNe,reduceCtorEq,RD,R4,eH,aT,bF]
    refine acO hb hw e3 ?_
    simp (disch:=omega) only [RA,↓reduceIte,Nat.reduceEqDiff,Nat.reduceBEq,Nat.reduceSub,Nat.reduceAdd,Nat.reduceMul,Nat.reduceLT,Nat.reduceLeDiff,Int.reduceLE,Int.reduceLT,Int.reduceEq,Int.reduceNeg,Int.reduceToNat,Int.reduceMul,Int.reduceAdd,Int.reduceSub,Int.reduceBEq,Int.reduceBNe,reduceCtorEq,RD,R4,eH,aT,bF]
    refine ac9 ho.1 hcd ho.2 hln ?_
    simp (disch:=omega) only [RA,↓reduceIte,Nat.reduceEqDiff,Nat.reduceBEq,Nat.reduceSub,Nat.reduceAdd,Nat.reduceMul,Nat.reduceLT,Nat.reduceLeDiff,Int.reduceLE,Int.reduceLT,Int.reduceEq,Int.reduceNeg,Int.reduceToNat,Int.reduceMul,Int.reduceAdd,Int.reduceSub,Int.reduceBEq,Int.reduceBNe,reduceCtorEq,RD,R4,eH,aT,bF]
    refine hKr _ _ ?_;clear hKr Kr;(try simp only [aH,aJ,aI]);(try simp only [RN,reduceIte]);try refine aj rfl ?_
    refine au fun Kr hKr=>?_;simp (disch:=omega) only [RA,↓reduceIte,Nat.reduceEqDiff,Nat.reduceBEq,Nat.reduceSub,Nat.reduceAdd,Nat.reduceMul,Nat.reduceLT,Nat.reduceLeDiff,Int.reduceLE,Int.reduceLT,Int.reduceEq,Int.reduceNeg,Int.reduceToNat,Int.reduceMul,Int.reduceAdd,Int.reduceSub,Int.reduceBEq,Int.reduceBNe,reduceCtorEq,RD,R4,eH];refine hKr _ _ ?_;clear hKr Kr;(try simp only [RN,reduceIte]);try refine aj rfl ?_
    refine aN (by simp (disch:=omega) only [RA,↓reduceIte,Nat.reduceEqDiff,Nat.reduceBEq,Nat.reduceSub,Nat.reduceAdd,Nat.reduceMul,Nat.reduceLT,Nat.reduceLeDiff,Int.reduceLE,Int.reduceLT,Int.reduceEq,Int.reduceNeg,Int.reduceToNat,Int.reduceMul,Int.reduceAdd,Int.reduceSub,Int.reduceBEq,Int.reduceBNe,reduceCtorEq,RD,resAll,resOf,R4,eH];rfl) aF.refl ?_;simp only [tup]
    exact ⟨dV nN,hK'⟩
   ·rw [decide_eq_true e1,decide_eq_true e2,decide_eq_false e3] at hK
    have hK':=hK (p+1) c (by omega) (by omega)
    simp only [Bool.and_true,Bool.and_false,Bool.false_eq_true,if_false] at hK'
    refine aQ (t:=true) (by simp (disch:=omega) only [RA,↓reduceIte,Nat.reduceEqDiff,Nat.reduceBEq,Nat.reduceSub,Nat.reduceAdd,Nat.reduceMul,Nat.reduceLT,Nat.reduceLeDiff,Int.reduceLE,Int.reduceLT,Int.reduceEq,Int.reduceNeg,Int.reduceToNat,Int.reduceMul,Int.reduceAdd,Int.reduceSub,Int.reduceBEq,Int.reduceBNe,reduceCtorEq,RD,decide_eq_false e3]) ?_;(try simp only [RN,reduceIte]);try refine aj rfl ?_
    refine au fun Kr hKr=>?_;simp (disch:=omega) only [RA,↓reduceIte,Nat.reduceEqDiff,Nat.reduceBEq,Nat.reduceSub,Nat.reduceAdd,Nat.reduceMul,Nat.reduceLT,Nat.reduceLeDiff,Int.reduceLE,Int.reduceLT,Int.reduceEq,Int.reduceNeg,Int.reduceToNat,Int.reduceMul,Int.reduceAdd,Int.reduceSub,Int.reduceBEq,Int.reduceBNe,reduceCtorEq,RD,R4,eH];refine hKr _ _ ?_;clear hKr Kr;(try simp only [RN,reduceIte]);try refine aj rfl ?_
    refine aN (by simp (disch:=omega) only [RA,↓reduceIte,Nat.reduceEqDiff,Nat.reduceBEq,Nat.reduceSub,Nat.reduceAdd,Nat.reduceMul,Nat.reduceLT,Nat.reduceLeDiff,Int.reduceLE,Int.reduceLT,Int.reduceEq,Int.reduceNeg,Int.reduceToNat,Int.reduceMul,Int.reduceAdd,Int.reduceSub,Int.reduceBEq,Int.reduceBNe,reduceCtorEq,RD,resAll,resOf,R4,eH];rfl) aF.refl ?_;simp only [tup]
    exact ⟨dV nN,hK'⟩
  ·rw [decide_eq_true e1,decide_eq_false e2] at hK
   have hK':=hK p c (by omega) (by omega)
   simp only [Bool.and_false,Bool.false_and,Bool.false_eq_true,if_false] at hK'
   refine aQ (t:=true) (by simp (disch:=omega) only [RA,↓reduceIte,Nat.reduceEqDiff,Nat.reduceBEq,Nat.reduceSub,Nat.reduceAdd,Nat.reduceMul,Nat.reduceLT,Nat.reduceLeDiff,Int.reduceLE,Int.reduceLT,Int.reduceEq,Int.reduceNeg,Int.reduceToNat,Int.reduceMul,Int.reduceAdd,Int.reduceSub,Int.reduceBEq,Int.reduceBNe,reduceCtorEq,RD,decide_eq_false e2]) ?_;(try simp only [RN,reduceIte]);try refine aj rfl ?_
   refine au fun Kr hKr=>?_;simp (disch:=omega) only [RA,↓reduceIte,Nat.reduceEqDiff,Nat.reduceBEq,Nat.reduceSub,Nat.reduceAdd,Nat.reduceMul,Nat.reduceLT,Nat.reduceLeDiff,Int.reduceLE,Int.reduceLT,Int.reduceEq,Int.reduceNeg,Int.reduceToNat,Int.reduceMul,Int.reduceAdd,Int.reduceSub,Int.reduceBEq,Int.reduceBNe,reduceCtorEq,RD,R4,eH];refine hKr _ _ ?_;clear hKr Kr;(try simp only [RN,reduceIte]);try refine aj rfl ?_
   refine aN (by simp (disch:=omega) only [RA,↓reduceIte,Nat.reduceEqDiff,Nat.reduceBEq,Nat.reduceSub,Nat.reduceAdd,Nat.reduceMul,Nat.reduceLT,Nat.reduceLeDiff,Int.reduceLE,Int.reduceLT,Int.reduceEq,Int.reduceNeg,Int.reduceToNat,Int.reduceMul,Int.reduceAdd,Int.reduceSub,Int.reduceBEq,Int.reduceBNe,reduceCtorEq,RD,resAll,resOf,R4,eH];rfl) aF.refl ?_;simp only [tup]
   exact ⟨dV nN,hK'⟩
 ·rw [decide_eq_false e1] at hK
  have hK':=hK p c (by omega) (by omega)
  simp only [Bool.false_and,Bool.false_eq_true,if_false] at hK'
  refine aQ (t:=true) (by simp (disch:=omega) only [RA,↓reduceIte,Nat.reduceEqDiff,Nat.reduceBEq,Nat.reduceSub,Nat.reduceAdd,Nat.reduceMul,Nat.reduceLT,Nat.reduceLeDiff,Int.reduceLE,Int.reduceLT,Int.reduceEq,Int.reduceNeg,Int.reduceToNat,Int.reduceMul,Int.reduceAdd,Int.reduceSub,Int.reduceBEq,Int.reduceBNe,reduceCtorEq,RD,decide_eq_false e1]) ?_;(try simp only [RN,reduceIte]);try refine aj rfl ?_
  refine au fun Kr hKr=>?_;simp (disch:=omega) only [RA,↓reduceIte,Nat.reduceEqDiff,Nat.reduceBEq,Nat.reduceSub,Nat.reduceAdd,Nat.reduceMul,Nat.reduceLT,Nat.reduceLeDiff,Int.reduceLE,Int.reduceLT,Int.reduceEq,Int.reduceNeg,Int.reduceToNat,Int.reduceMul,Int.reduceAdd,Int.reduceSub,Int.reduceBEq,Int.reduceBNe,reduceCtorEq,RD,R4,eH];refine hKr _ _ ?_;clear hKr Kr;(try simp only [RN,reduceIte]);try refine aj rfl ?_
  refine aN (by simp (disch:=omega) only [RA,↓reduceIte,Nat.reduceEqDiff,Nat.reduceBEq,Nat.reduceSub,Nat.reduceAdd,Nat.reduceMul,Nat.reduceLT,Nat.reduceLeDiff,Int.reduceLE,Int.reduceLT,Int.reduceEq,Int.reduceNeg,Int.reduceToNat,Int.reduceMul,Int.reduceAdd,Int.reduceSub,Int.reduceBEq,Int.reduceBNe,reduceCtorEq,RD,resAll,resOf,R4,eH];rfl) aF.refl ?_;simp only [tup]
  exact ⟨dV nN,hK'⟩
theorem adi {t1 t2:List Int} (hb:By 16 black) (hbp:Perm black n) (h3:xss.length=3) (hll: ∀xs∈xss,xs.length≤1048576) (e1:at3 xss 1=t1) (e2:at3 xss 2=t2):
  ∀(m:Nat) {p:List Nat} {k:Nat} {a0 c0:Int} {l:List L2} {x:Bool} {H:BH} {K:Value→BH→Prop},PQ n p→k+m=n→0≤a0∧a0+dY m≤900000000→0≤c0∧c0+dY m≤900000000→qO l→l.length+dY m≤90000→
   (∀p' c',a0≤p'∧p'≤a0+dY m→c0≤c'∧c'≤c0+dY m→K (pW n p' c' ((sw n m p k).foldl (kH t1 t2 n black) l)) H)→
   aB x U6 [pW n a0 c0 l,PL black,PL p,I k,I n,dU xss] H K:=by
 intro m
 induction m with
 |zero=>
  intro p k a0 c0 l x H K hp hk hP hC ho hln hK
  obtain rfl:k=n:=by omega
  have hwb:By 16 p:=⟨hp.2,fun i=>by have:=hp.1.jM hp.2 i;omega⟩
  have fK:=hwb.len
  have hlb:=hb.len
  subst e1;subst e2
  simp only [sw,List.foldl_cons,List.foldl_nil,dY] at hK hP hC hln
  refine bf (.cons (dV nN) (.cons (dV kP) (.cons (dV kP) (.cons .int (.cons .int (.cons .fz .nil)))))) ?_
  refine aK Io ?_;simp only [fC,aA]
  refine au fun Kr hKr=>?_;simp (disch:=omega) only [RA,↓reduceIte,Nat.reduceEqDiff,Nat.reduceBEq,Nat.reduceSub,Nat.reduceAdd,Nat.reduceMul,Nat.reduceLT,Nat.reduceLeDiff,Int.reduceLE,Int.reduceLT,Int.reduceEq,Int.reduceNeg,Int.reduceToNat,Int.reduceMul,Int.reduceAdd,Int.reduceSub,Int.reduceBEq,Int.reduceBNe,reduceCtorEq,RD,R4,eH];refine hKr _ _ ?_;clear hKr Kr;(try simp only [RN,reduceIte]);try refine aj rfl ?_
  refine au fun Kr hKr=>?_;simp (disch:=omega) only [RA,↓reduceIte,Nat.reduceEqDiff,Nat.reduceBEq,Nat.reduceSub,Nat.reduceAdd,Nat.reduceMul,Nat.reduceLT,Nat.reduceLeDiff,Int.reduceLE,Int.reduceLT,Int.reduceEq,Int.reduceNeg,Int.reduceToNat,Int.reduceMul,Int.reduceAdd,Int.reduceSub,Int.reduceBEq,Int.reduceBNe,reduceCtorEq,RD,R4,eH];refine hKr _ _ ?_;clear hKr Kr;(try simp only [RN,reduceIte]);try refine aj rfl ?_
  refine aQ (t:=true) (by simp (disch:=omega) only [RA,↓reduceIte,Nat.reduceEqDiff,Nat.reduceBEq,Nat.reduceSub,Nat.reduceAdd,Nat.reduceMul,Nat.reduceLT,Nat.reduceLeDiff,Int.reduceLE,Int.reduceLT,Int.reduceEq,Int.reduceNeg,Int.reduceToNat,Int.reduceMul,Int.reduceAdd,Int.reduceSub,Int.reduceBEq,Int.reduceBNe,reduceCtorEq,RD]) ?_;(try simp only [RN,reduceIte]);try refine aj rfl ?_
  refine au fun Kr hKr=>?_;simp (disch:=omega) only [RA,↓reduceIte,Nat.reduceEqDiff,Nat.reduceBEq,Nat.reduceSub,Nat.reduceAdd,Nat.reduceMul,Nat.reduceLT,Nat.reduceLeDiff,Int.reduceLE,Int.reduceLT,Int.reduceEq,Int.reduceNeg,Int.reduceToNat,Int.reduceMul,Int.reduceAdd,Int.reduceSub,Int.reduceBEq,Int.reduceBNe,reduceCtorEq,RD,R4,eH,hlb,fK]
  refine adh hb hbp hwb hp.1 h3 hll (by omega) (by omega) ho (by omega) fun p' c' hp' hc'=>?_
  simp (disch:=omega) only [RA,↓reduceIte,Nat.reduceEqDiff,Nat.reduceBEq,Nat.reduceSub,Nat.reduceAdd,Nat.reduceMul,Nat.reduceLT,Nat.reduceLeDiff,Int.reduceLE,Int.reduceLT,Int.reduceEq,Int.reduceNeg,Int.reduceToNat,Int.reduceMul,Int.reduceAdd,Int.reduceSub,Int.reduceBEq,Int.reduceBNe,reduceCtorEq,RD,R4,eH]
  refine hKr _ _ ?_;clear hKr Kr;(try simp only [aH,aJ,aI]);(try simp only [RN,reduceIte]);try refine aj rfl ?_
  refine aN (by simp (disch:=omega) only [RA,↓reduceIte,Nat.reduceEqDiff,Nat.reduceBEq,Nat.reduceSub,Nat.reduceAdd,Nat.reduceMul,Nat.reduceLT,Nat.reduceLeDiff,Int.reduceLE,Int.reduceLT,Int.reduceEq,Int.reduceNeg,Int.reduceToNat,Int.reduceMul,Int.reduceAdd,Int.reduceSub,Int.reduceBEq,Int.reduceBNe,reduceCtorEq,RD,resAll,resOf,R4,eH];rfl) aF.refl ?_;simp only [tup]
  exact ⟨dV nN,hK p' c' (by omega) (by omega)⟩
 |succ m ih=>
  intro p k a0 c0 l x H K hp hk hP hC ho hln hK
  have hlp:=hp.2
  have hlb:=hb.len
  have hn:=hp.1.1
  have hwb:By 16 p:=⟨hp.2,fun i=>by have:=hp.1.jM hp.2 i;omega⟩
  have hfc:dY (m+1)=(m+1)*dY m:=rfl
  obtain ⟨g,hg⟩: ∃g:Nat→List (List Nat),g=fun d=>sw n m (lV p k (k+d)) (k+1):=⟨_,rfl⟩
  obtain ⟨A,hA⟩: ∃A:Nat→List L2,A=fun d=>((List.range d).flatMap g).foldl (kH t1 t2 n black) l:=⟨_,rfl⟩
  have hAs: ∀d,A (d+1)=(g d).foldl (kH t1 t2 n black) (A d):=fun d=>by
   rw [hA]
   simp only [List.range_succ,List.flatMap_append,List.foldl_append,List.flatMap_cons,List.flatMap_nil,List.append_nil]
  have hgl: ∀d,(g d).length=dY m:=fun d=>by rw [hg];exact Di m
  have hA0:A 0=l:=by rw [hA];rfl
  have hAb: ∀d,qO (A d)∧(A d).length≤l.length+d*dY m:=by
   intro d
   induction d with
   |zero=>rw [hA0];exact ⟨ho,by omega⟩
   |succ d ih=>
    have q1:=TL (t1:=t1) (t2:=t2) (n:=n) (black:=black) (g d) (l:=A d)
    rw [hgl] at q1
    rw [hAs,Nat.add_mul]
    exact ⟨Gp _ ih.1,by have:=ih.2;omega⟩
  have hend:sw n (m+1) p k=(List.range (m+1)).flatMap g:=by rw [hg];rfl
  have hKe: ∀p' c',a0≤p'∧p'≤a0+dY (m+1)→c0≤c'∧c'≤c0+dY (m+1)→K (pW n p' c' (A (m+1))) H:=by rw [hA];rw [hend] at hK;exact hK
  refine bf (.cons (dV nN) (.cons (dV kP) (.cons (dV kP) (.cons .int (.cons .int (.cons .fz .nil)))))) ?_
  refine aK Io ?_;simp only [fC,aA]
  refine au fun Kr hKr=>?_;simp (disch:=omega) only [RA,↓reduceIte,Nat.reduceEqDiff,Nat.reduceBEq,Nat.reduceSub,Nat.reduceAdd,Nat.reduceMul,Nat.reduceLT,Nat.reduceLeDiff,Int.reduceLE,Int.reduceLT,Int.reduceEq,Int.reduceNeg,Int.reduceToNat,Int.reduceMul,Int.reduceAdd,Int.reduceSub,Int.reduceBEq,Int.reduceBNe,reduceCtorEq,RD,R4,eH];refine hKr _ _ ?_;clear hKr Kr;(try simp only [RN,reduceIte]);try refine aj rfl ?_
  refine au fun Kr hKr=>?_;simp (disch:=omega) only [RA,↓reduceIte,Nat.reduceEqDiff,Nat.reduceBEq,Nat.reduceSub,Nat.reduceAdd,Nat.reduceMul,Nat.reduceLT,Nat.reduceLeDiff,Int.reduceLE,Int.reduceLT,Int.reduceEq,Int.reduceNeg,Int.reduceToNat,Int.reduceMul,Int.reduceAdd,Int.reduceSub,Int.reduceBEq,Int.reduceBNe,reduceCtorEq,RD,R4,eH];refine hKr _ _ ?_;clear hKr Kr;(try simp only [RN,reduceIte]);try refine aj rfl ?_
  refine aQ (t:=false) (by simp (disch:=omega) only [RA,↓reduceIte,Nat.reduceEqDiff,Nat.reduceBEq,Nat.reduceSub,Nat.reduceAdd,Nat.reduceMul,Nat.reduceLT,Nat.reduceLeDiff,Int.reduceLE,Int.reduceLT,Int.reduceEq,Int.reduceNeg,Int.reduceToNat,Int.reduceMul,Int.reduceAdd,Int.reduceSub,Int.reduceBEq,Int.reduceBNe,reduceCtorEq,RD]) ?_;(try simp only [RN,reduceIte]);try refine aj rfl ?_
  refine au fun Kr hKr=>?_;simp (disch:=omega) only [RA,↓reduceIte,Nat.reduceEqDiff,Nat.reduceBEq,Nat.reduceSub,Nat.reduceAdd,Nat.reduceMul,Nat.reduceLT,Nat.reduceLeDiff,Int.reduceLE,Int.reduceLT,Int.reduceEq,Int.reduceNeg,Int.reduceToNat,Int.reduceMul,Int.reduceAdd,Int.reduceSub,Int.reduceBEq,Int.reduceBNe,reduceCtorEq,RD];refine hKr _ _ ?_;clear hKr Kr;(try simp only [RN,reduceIte]);try refine aj rfl ?_
  refine aS (fun mm f H'=> ∃(d:Nat) (a c:Int),d≤m+1∧mm=m+1-d∧(a0≤a∧a≤a0+(d*dY m:Nat))∧(c0≤c∧c≤c0+(d*dY m:Nat))∧f 3=I k∧f 4=I n∧f 5=dU xss∧f 6=P 0 0∧f 7=P 1 0∧f 8=P 2 0∧f 12=P 3 0∧f 13=I ((k+d:Nat):Int)∧H'=[some (gy n a c (A d)),some (black.map N8),some (p.map N8),some (jT 0 0)]) (m+1) ?_ ?_
  ·refine ⟨_,_,Gh.refl,0,a0,c0,by omega,by omega,by omega,by omega,?_,?_,?_,?_,?_,?_,?_,?_,by rw [hA0]⟩
   all_goals (simp (disch:=omega) only [RA,↓reduceIte,Nat.reduceEqDiff,Nat.reduceBEq,Nat.reduceSub,Nat.reduceAdd,Nat.reduceMul,Nat.reduceLT,Nat.reduceLeDiff,Int.reduceLE,Int.reduceLT,Int.reduceEq,Int.reduceNeg,Int.reduceToNat,Int.reduceMul,Int.reduceAdd,Int.reduceSub,Int.reduceBEq,Int.reduceBNe,reduceCtorEq,R4,RD,RE, *]<;>rfl)
  ·rintro mm f H' R ⟨d,a,c,hd,rfl,ha,hc,g3,g4,g5,g6,g7,g8,g12,g13,rfl⟩ hN hX hR hE
   simp only [fC.l0,aA]
   refine au fun Kr hKr=>?_;simp (disch:=omega) only [RA,↓reduceIte,Nat.reduceEqDiff,Nat.reduceBEq,Nat.reduceSub,Nat.reduceAdd,Nat.reduceMul,Nat.reduceLT,Nat.reduceLeDiff,Int.reduceLE,Int.reduceLT,Int.reduceEq,Int.reduceNeg,Int.reduceToNat,Int.reduceMul,Int.reduceAdd,Int.reduceSub,Int.reduceBEq,Int.reduceBNe,reduceCtorEq,RD,g4,g13];refine hKr _ _ ?_;clear hKr Kr;(try simp only [RN,reduceIte]);try refine aj rfl ?_
   refine bD (p:=k+d<n) (by simp only [RA,↓reduceIte,Nat.reduceEqDiff,Nat.reduceBEq,Nat.reduceSub,Nat.reduceAdd,Nat.reduceMul,Nat.reduceLT,Nat.reduceLeDiff,Int.reduceLE,Int.reduceLT,Int.reduceEq,Int.reduceNeg,Int.reduceToNat,Int.reduceMul,Int.reduceAdd,Int.reduceSub,Int.reduceBEq,Int.reduceBNe,reduceCtorEq]<;>rfl) (by (try simp only [RB])<;>first|done|exact Iff.rfl|omega|simp) (fun hc=>?_) (fun hc=>?_)<;>(try simp only [RN,reduceIte])<;>(try refine aj rfl ?_)
   ·have hdm:d<m+1:=by omega
    obtain ⟨hb1,hb2⟩:=hAb d
    have hmul:d*dY m+dY m≤(m+1)*dY m:=by
     have:(d+1)*dY m≤(m+1)*dY m:=Nat.mul_le_mul_right _ (by omega)
     rwa [Nat.add_mul,Nat.one_mul] at this
    have hmd:(d+1)*dY m=d*dY m+dY m:=by rw [Nat.add_mul,Nat.one_mul]
    have TM:PQ n (lV p k (k+d)):=AP hp (by omega) (by omega)
    have hsl:=TM.2
    have hsd:lV p k (k+d)=(p.set k (nl p (k+d))).set (k+d) (nl p k):=rfl
    have hl1:(p.set k (nl p (k+d))).length=16:=by rw [List.length_set,hlp]
    have hw1:=hwb.lt (k+d)
    have hw2:=hwb.lt k
    have a1:((k:Nat):Int)+1=((k+1:Nat):Int):=by omega
    have a2:((k+d:Nat):Int)+1=((k+(d+1):Nat):Int):=by omega
    rw [hfc] at hP hC hln
    (first|refine cZ rfl ?_|refine dh rfl ?_);(try simp only [RN,reduceIte]);try refine aj rfl ?_
    refine au fun Kr hKr=>?_;simp (disch:=omega) only [RA,↓reduceIte,Nat.reduceEqDiff,Nat.reduceBEq,Nat.reduceSub,Nat.reduceAdd,Nat.reduceMul,Nat.reduceLT,Nat.reduceLeDiff,Int.reduceLE,Int.reduceLT,Int.reduceEq,Int.reduceNeg,Int.reduceToNat,Int.reduceMul,Int.reduceAdd,Int.reduceSub,Int.reduceBEq,Int.reduceBNe,reduceCtorEq,RD,g8,hlp];refine hKr _ _ ?_;clear hKr Kr;(try simp only [RN,reduceIte]);try refine aj rfl ?_
    refine au fun Kr hKr=>?_;simp (disch:=omega) only [RA,↓reduceIte,Nat.reduceEqDiff,Nat.reduceBEq,Nat.reduceSub,Nat.reduceAdd,Nat.reduceMul,Nat.reduceLT,Nat.reduceLeDiff,Int.reduceLE,Int.reduceLT,Int.reduceEq,Int.reduceNeg,Int.reduceToNat,Int.reduceMul,Int.reduceAdd,Int.reduceSub,Int.reduceBEq,Int.reduceBNe,reduceCtorEq,RD,g3,g8,g13,hlp];refine hKr _ _ ?_;clear hKr Kr;(try simp only [RN,reduceIte]);try refine aj rfl ?_
    refine au fun Kr hKr=>?_;simp (disch:=omega) only [RA,↓reduceIte,Nat.reduceEqDiff,Nat.reduceBEq,Nat.reduceSub,Nat.reduceAdd,Nat.reduceMul,Nat.reduceLT,Nat.reduceLeDiff,Int.reduceLE,Int.reduceLT,Int.reduceEq,Int.reduceNeg,Int.reduceToNat,Int.reduceMul,Int.reduceAdd,Int.reduceSub,Int.reduceBEq,Int.reduceBNe,reduceCtorEq,RD,g3,g8,g13,hlp,hl1];refine hKr _ _ ?_;clear hKr Kr;(try simp only [RN,reduceIte]);try refine aj rfl ?_
    rw [←hsd]
    refine au fun Kr hKr=>?_;simp (disch:=omega) only [RA,↓reduceIte,Nat.reduceEqDiff,Nat.reduceBEq,Nat.reduceSub,Nat.reduceAdd,Nat.reduceMul,Nat.reduceLT,Nat.reduceLeDiff,Int.reduceLE,Int.reduceLT,Int.reduceEq,Int.reduceNeg,Int.reduceToNat,Int.reduceMul,Int.reduceAdd,Int.reduceSub,Int.reduceBEq,Int.reduceBNe,reduceCtorEq,RD,g3,g4,g5,g6,g7,R4,eH,hlb,hsl,a1]
    refine ih TM (by omega) (by omega) (by omega) hb1 (by omega) fun p' c' hp' hc'=>?_
    have ga:(sw n m (lV p k (k+d)) (k+1)).foldl (kH t1 t2 n black) (A d)=A (d+1):=by rw [hAs,hg]
    rw [ga]
    simp (disch:=omega) only [RA,↓reduceIte,Nat.reduceEqDiff,Nat.reduceBEq,Nat.reduceSub,Nat.reduceAdd,Nat.reduceMul,Nat.reduceLT,Nat.reduceLeDiff,Int.reduceLE,Int.reduceLT,Int.reduceEq,Int.reduceNeg,Int.reduceToNat,Int.reduceMul,Int.reduceAdd,Int.reduceSub,Int.reduceBEq,Int.reduceBNe,reduceCtorEq,RD,g6,R4,eH]
    refine hKr _ _ ?_;clear hKr Kr;(try simp only [aH,aJ,aI]);(try simp only [RN,reduceIte]);try refine aj rfl ?_
    refine bK fun Kr hKr=>?_;simp (disch:=omega) only [RA,↓reduceIte,Nat.reduceEqDiff,Nat.reduceBEq,Nat.reduceSub,Nat.reduceAdd,Nat.reduceMul,Nat.reduceLT,Nat.reduceLeDiff,Int.reduceLE,Int.reduceLT,Int.reduceEq,Int.reduceNeg,Int.reduceToNat,Int.reduceMul,Int.reduceAdd,Int.reduceSub,Int.reduceBEq,Int.reduceBNe,reduceCtorEq,RD,g13,a2];refine hKr _ _ ?_;clear hKr Kr
    refine hN (m+1-(d+1)) _ _ _ _ (by omega) (Gh.nrm [0,1,2,3] rfl rfl (by simp only [RH,adb])) ⟨d+1,p',c',by omega,rfl,by omega,by omega,?_,?_,?_,?_,?_,?_,?_,?_,rfl⟩
    any_goals (simp (disch:=omega) only [RA,↓reduceIte,Nat.reduceEqDiff,Nat.reduceBEq,Nat.reduceSub,Nat.reduceAdd,Nat.reduceMul,Nat.reduceLT,Nat.reduceLeDiff,Int.reduceLE,Int.reduceLT,Int.reduceEq,Int.reduceNeg,Int.reduceToNat,Int.reduceMul,Int.reduceAdd,Int.reduceSub,Int.reduceBEq,Int.reduceBNe,reduceCtorEq,RD,RE, *]<;>rfl)
   ·refine hX _ _ ?_
    obtain rfl:d=m+1:=by omega
    refine au fun Kr hKr=>?_;simp (disch:=omega) only [RA,↓reduceIte,Nat.reduceEqDiff,Nat.reduceBEq,Nat.reduceSub,Nat.reduceAdd,Nat.reduceMul,Nat.reduceLT,Nat.reduceLeDiff,Int.reduceLE,Int.reduceLT,Int.reduceEq,Int.reduceNeg,Int.reduceToNat,Int.reduceMul,Int.reduceAdd,Int.reduceSub,Int.reduceBEq,Int.reduceBNe,reduceCtorEq,RD,g6,g12,R4,eH];refine hKr _ _ ?_;clear hKr Kr;(try simp only [RN,reduceIte]);try refine aj rfl ?_
    refine aN (by simp (disch:=omega) only [RA,↓reduceIte,Nat.reduceEqDiff,Nat.reduceBEq,Nat.reduceSub,Nat.reduceAdd,Nat.reduceMul,Nat.reduceLT,Nat.reduceLeDiff,Int.reduceLE,Int.reduceLT,Int.reduceEq,Int.reduceNeg,Int.reduceToNat,Int.reduceMul,Int.reduceAdd,Int.reduceSub,Int.reduceBEq,Int.reduceBNe,reduceCtorEq,RD,resAll,resOf,g12,R4,eH];rfl) aF.refl ?_;simp only [tup]
    exact ⟨dV nN,hKe a c (by omega) (by omega)⟩
def uQ (xss:List (List Int)):List L2:=(sw (nP xss) (nP xss) (lJ (nP xss)) 0).foldl (kH (at3 xss 1) (at3 xss 2) (nP xss) (std (at3 xss 0))) []
theorem adk (xss:List (List Int)):qO (uQ xss):=Gp _ ⟨fun d h=>(by cases h), .nil⟩
theorem Tm (hp:jD xss) (h8:nP xss≤8) (hll: ∀xs∈xss,xs.length≤1048576) (hK: ∀p' c',K (pW (nP xss) p' c' (uQ xss)) H):aB x UJ [dU xss, .bool true] H K:=by
 obtain ⟨e1,e2,e3⟩:=qy hp
 obtain ⟨q1,q2⟩:=I8 hp
 have h3:=hp.1
 have t0:=(hp.2 0 (by omega)).1
 have hg0:getN none (xss.map FI) 0=some (FI (at3 xss 0)):=mW (by omega)
 have hlb:=q2.len
 have hil:= @AQ (nP xss)
 have hfc:dY (nP xss)≤40320:=by have:=Dj h8;have h:dY 8=40320:=rfl;omega
 have hfb:= @ade (nP xss)
 refine bf (.cons .fz (.cons .bool .nil)) ?_
 refine aK V8 ?_;simp only [nR,aA]
 refine au fun Kr hKr=>?_;simp (disch:=omega) only [RA,↓reduceIte,Nat.reduceEqDiff,Nat.reduceBEq,Nat.reduceSub,Nat.reduceAdd,Nat.reduceMul,Nat.reduceLT,Nat.reduceLeDiff,Int.reduceLE,Int.reduceLT,Int.reduceEq,Int.reduceNeg,Int.reduceToNat,Int.reduceMul,Int.reduceAdd,Int.reduceSub,Int.reduceBEq,Int.reduceBNe,reduceCtorEq,RD];refine hKr _ _ ?_;clear hKr Kr;(try simp only [RN,reduceIte]);try refine aj rfl ?_
 refine au fun Kr hKr=>?_;simp (disch:=omega) only [RA,↓reduceIte,Nat.reduceEqDiff,Nat.reduceBEq,Nat.reduceSub,Nat.reduceAdd,Nat.reduceMul,Nat.reduceLT,Nat.reduceLeDiff,Int.reduceLE,Int.reduceLT,Int.reduceEq,Int.reduceNeg,Int.reduceToNat,Int.reduceMul,Int.reduceAdd,Int.reduceSub,Int.reduceBEq,Int.reduceBNe,reduceCtorEq,RD,hg0]
 refine wP t0.1.2 t0.2.1 ?_
 simp (disch:=omega) only [RA,↓reduceIte,Nat.reduceEqDiff,Nat.reduceBEq,Nat.reduceSub,Nat.reduceAdd,Nat.reduceMul,Nat.reduceLT,Nat.reduceLeDiff,Int.reduceLE,Int.reduceLT,Int.reduceEq,Int.reduceNeg,Int.reduceToNat,Int.reduceMul,Int.reduceAdd,Int.reduceSub,Int.reduceBEq,Int.reduceBNe,reduceCtorEq,RD,e1]
 refine hKr _ _ ?_;clear hKr Kr;(try simp only [aH,aJ,aI]);(try simp only [RN,reduceIte]);try refine aj rfl ?_
 refine au fun Kr hKr=>?_;simp (disch:=omega) only [RA,↓reduceIte,Nat.reduceEqDiff,Nat.reduceBEq,Nat.reduceSub,Nat.reduceAdd,Nat.reduceMul,Nat.reduceLT,Nat.reduceLeDiff,Int.reduceLE,Int.reduceLT,Int.reduceEq,Int.reduceNeg,Int.reduceToNat,Int.reduceMul,Int.reduceAdd,Int.reduceSub,Int.reduceBEq,Int.reduceBNe,reduceCtorEq,RD,R4,hg0,hfb]
 refine aau t0 ?_
 simp (disch:=omega) only [RA,↓reduceIte,Nat.reduceEqDiff,Nat.reduceBEq,Nat.reduceSub,Nat.reduceAdd,Nat.reduceMul,Nat.reduceLT,Nat.reduceLeDiff,Int.reduceLE,Int.reduceLT,Int.reduceEq,Int.reduceNeg,Int.reduceToNat,Int.reduceMul,Int.reduceAdd,Int.reduceSub,Int.reduceBEq,Int.reduceBNe,reduceCtorEq,RD]
 refine abp (by omega) ?_
 rw [Int.toNat_natCast]
 simp (disch:=omega) only [RA,↓reduceIte,Nat.reduceEqDiff,Nat.reduceBEq,Nat.reduceSub,Nat.reduceAdd,Nat.reduceMul,Nat.reduceLT,Nat.reduceLeDiff,Int.reduceLE,Int.reduceLT,Int.reduceEq,Int.reduceNeg,Int.reduceToNat,Int.reduceMul,Int.reduceAdd,Int.reduceSub,Int.reduceBEq,Int.reduceBNe,reduceCtorEq,RD]
 refine adi (a0:=0) (c0:=0) (k:=0) (l:=[]) q2 q1 h3 hll rfl rfl (nP xss) ⟨JX ⟨e2,e3⟩,hil⟩ (by omega) (by omega) (by omega) ⟨fun d h=>(by cases h), .nil⟩ (by simp;omega) fun p' c' _ _=>?_
 simp (disch:=omega) only [RA,↓reduceIte,Nat.reduceEqDiff,Nat.reduceBEq,Nat.reduceSub,Nat.reduceAdd,Nat.reduceMul,Nat.reduceLT,Nat.reduceLeDiff,Int.reduceLE,Int.reduceLT,Int.reduceEq,Int.reduceNeg,Int.reduceToNat,Int.reduceMul,Int.reduceAdd,Int.reduceSub,Int.reduceBEq,Int.reduceBNe,reduceCtorEq,RD,R4,eH]
 refine hKr _ _ ?_;clear hKr Kr;(try simp only [aH,aJ,aI]);(try simp only [RN,reduceIte]);try refine aj rfl ?_
 refine aN (by simp (disch:=omega) only [RA,↓reduceIte,Nat.reduceEqDiff,Nat.reduceBEq,Nat.reduceSub,Nat.reduceAdd,Nat.reduceMul,Nat.reduceLT,Nat.reduceLeDiff,Int.reduceLE,Int.reduceLT,Int.reduceEq,Int.reduceNeg,Int.reduceToNat,Int.reduceMul,Int.reduceAdd,Int.reduceSub,Int.reduceBEq,Int.reduceBNe,reduceCtorEq,RD,resAll,resOf,R4,eH];rfl) aF.refl ?_;simp only [tup]
 exact ⟨dV nN,hK p' c'⟩
end
end Go.Bm.Q5
namespace Go.Bm.Q7
open Go Go.Am Go.Bm Go.Bm.Q5
section
variable (n:Nat) (black:List Nat) (xss:List (List Int))
def c0 (_:List L2):Option (List Value):=some []
noncomputable def c1 (s:List L2):Option (List Value):=some (s.map (dR n))
def c2 (_:List L2):Option (List Value):=some [.map (some 0)]
def c3 (_:List L2):Option (List Value):=some [dU xss]
def c4 (_:List L2):Option (List Value):=some [clo qQ [P 2 0]]
def c5 (_:List L2):Option (List Value):=some [I n]
def c6 (_:List L2):Option (List Value):=some (black.map N8)
end
def mP (t1 t2:List Int) (n:Nat) (black:List Nat) (s:List L2) (w:List Nat):List L2:=if nV t1 t2 black n w then s++[jE black w n] else s
section
variable {n:Nat} {black:List Nat} {xss:List (List Int)}
theorem ac3 (s:List L2):kN (List.range 7) (PM c0 (c1 n) c2 (c3 xss) c4 (c5 n) (c6 black) s)=PM c0 (c1 n) c2 (c3 xss) c4 (c5 n) (c6 black) s:=by
 show [_,_,_,_,_,_,_]=_
 unfold PM
 have e1:Option.map (List.map (ren (List.range 7))) (some (s.map (dR n)))=some (s.map (dR n)):=by rw [Option.map_some,DI]
 have e2:Option.map (List.map (ren (List.range 7))) (some (black.map N8))=some (black.map N8):=by rw [Option.map_some,Dk]
 have e4:Option.map (List.map (ren (List.range 7))) (some [clo qQ [P 2 0]])=some [clo qQ [P 2 0]]:=by
  rw [Option.map_some,List.map_cons,List.map_nil,zX]
  rfl
 exact congr (congrArg List.cons rfl) (congr (congrArg List.cons e1) (congr (congrArg List.cons rfl) (congr (congrArg List.cons rfl) (congr (congrArg List.cons e4) (congr (congrArg List.cons rfl) (congr (congrArg List.cons e2) rfl))))))
noncomputable abbrev ED (n:Nat) (black:List Nat) (xss:List (List Int)):List L2→List Nat→List Bool→BH:=EM c0 (c1 n) c2 (c3 xss) c4 (c5 n) (c6 black) zL [P 5 0,P 6 0,P 3 0,P 4 0] n
theorem adl {p:List Nat} {used:List Bool} {s:List L2} {ex:BH}:kN (List.range 12) (ED n black xss s p used++ex)=ED n black xss s p used:=by
 show [_,_,_,_,_,_,_,_,_,_,_,_]=_
 unfold ED EM
 have e0:Option.map (List.map (ren (List.range 12))) (some (s.map (dR n)))=some (s.map (dR n)):=by rw [Option.map_some,DI]
 have e1:Option.map (List.map (ren (List.range 12))) (some (black.map N8))=some (black.map N8):=by rw [Option.map_some,Dk]
 have e2:Option.map (List.map (ren (List.range 12))) (some (p.map N8))=some (p.map N8):=by rw [Option.map_some,Dk]
 have e3:Option.map (List.map (ren (List.range 12))) (some (used.map B))=some (used.map B):=by rw [Option.map_some,Zz]
 have e4:Option.map (List.map (ren (List.range 12))) (some [clo qQ [P 2 0]])=some [clo qQ [P 2 0]]:=by
  rw [Option.map_some,List.map_cons,List.map_nil,zX]
  rfl
 have g2:Option.map (List.map (ren (List.range 12))) (some [clo zL [P 5 0,P 6 0,P 3 0,P 4 0]])=some [clo zL [P 5 0,P 6 0,P 3 0,P 4 0]]:=by
  rw [Option.map_some,List.map_cons,List.map_nil,zX]
  rfl
 have g3:Option.map (List.map (ren (List.range 12))) (some [nZ])=some [nZ]:=by
  rw [Option.map_some,List.map_cons,List.map_nil,nZ,zX]
  rfl
 exact congr (congrArg List.cons rfl) (congr (congrArg List.cons e0) (congr (congrArg List.cons rfl) (congr (congrArg List.cons rfl) (congr (congrArg List.cons e4) (congr (congrArg List.cons rfl) (congr (congrArg List.cons e1) (congr (congrArg List.cons rfl) (congr (congrArg List.cons g2) (congr (congrArg List.cons e2) (congr (congrArg List.cons e3) (congr (congrArg List.cons g3) rfl)))))))))))
theorem adn {s:List L2} {w:List Nat} {H:BH} {K:Value→BH→Prop} (hn:n≤16) (hb:By 16 black) (hbp:Perm black n) (hw:PQ n w) (h0:blk H 0=some []) (h1:blk H 1=some (s.map (dR n))) (h2:blk H 2=some [.map (some 0)])
  (hk: ∀ex,K (.tuple ⟨[]⟩) ((if bY n black w then H.set 1 (some ((s++[jE black w n]).map (dR n))) else H)++ex)):aB false qQ [DV n black w,P 2 0] H K:=by
 have hwb:By 16 w:=⟨hw.2,fun i=>by have:=hw.1.jM hw.2 i;omega⟩
 have hl0:=sS h0
 have hl1:=sS h1
 have hl2:=sS h2
 have a0:blk (H++[some (DC n black w)]) 0=some []:=by rw [o7,if_neg (by omega),h0]
 have a1:blk (H++[some (DC n black w)]) (0+1)=some (s.map (dR n)):=by rw [o7,if_neg (by omega),h1]
 have a2:blk (H++[some (DC n black w)]) 2=some [.map (some 0)]:=by rw [o7,if_neg (by omega),h2]
 have a3:blk (H++[some (DC n black w)]) H.length=some (DC n black w):=Je
 have gone: ∀{v:Value},getN none [v] 0=some v:=rfl
 refine aK Wj ?_;simp only [nS,aA]
 refine au fun Kr hKr=>?_;simp (disch:=omega) only [RA,↓reduceIte,Nat.reduceEqDiff,Nat.reduceBEq,Nat.reduceSub,Nat.reduceAdd,Nat.reduceMul,Nat.reduceLT,Nat.reduceLeDiff,Int.reduceLE,Int.reduceLT,Int.reduceEq,Int.reduceNeg,Int.reduceToNat,Int.reduceMul,Int.reduceAdd,Int.reduceSub,Int.reduceBEq,Int.reduceBNe,reduceCtorEq,RD];refine hKr _ _ ?_;clear hKr Kr;(try simp only [RN,reduceIte]);try refine aj rfl ?_
 refine au fun Kr hKr=>?_;simp (disch:=omega) only [RA,↓reduceIte,Nat.reduceEqDiff,Nat.reduceBEq,Nat.reduceSub,Nat.reduceAdd,Nat.reduceMul,Nat.reduceLT,Nat.reduceLeDiff,Int.reduceLE,Int.reduceLT,Int.reduceEq,Int.reduceNeg,Int.reduceToNat,Int.reduceMul,Int.reduceAdd,Int.reduceSub,Int.reduceBEq,Int.reduceBNe,reduceCtorEq,RD,a3,EF hb.len hw.2]
 refine ZA hb hwb hbp hw.1 ?_
 simp (disch:=omega) only [RA,↓reduceIte,Nat.reduceEqDiff,Nat.reduceBEq,Nat.reduceSub,Nat.reduceAdd,Nat.reduceMul,Nat.reduceLT,Nat.reduceLeDiff,Int.reduceLE,Int.reduceLT,Int.reduceEq,Int.reduceNeg,Int.reduceToNat,Int.reduceMul,Int.reduceAdd,Int.reduceSub,Int.reduceBEq,Int.reduceBNe,reduceCtorEq,RD]
 refine hKr _ _ ?_;clear hKr Kr;(try simp only [aH,aJ,aI]);(try simp only [RN,reduceIte]);try refine aj rfl ?_
 have hk:=hk [some (DC n black w)]
 by_cases hd:bY n black w
 ·have hc:By 16 (jE black w n).1∧By 16 (jE black w n).2:=tX (k:=n-1) hd (by have:=hbp.1;omega)
  have e:dR n (jE black w n)=DV n (jE black w n).1 (jE black w n).2:=zV hc.1 hc.2
  rw [if_pos hd] at hk
  refine jw (t:=true) (by simp (disch:=omega) only [RA,↓reduceIte,Nat.reduceEqDiff,Nat.reduceBEq,Nat.reduceSub,Nat.reduceAdd,Nat.reduceMul,Nat.reduceLT,Nat.reduceLeDiff,Int.reduceLE,Int.reduceLT,Int.reduceEq,Int.reduceNeg,Int.reduceToNat,Int.reduceMul,Int.reduceAdd,Int.reduceSub,Int.reduceBEq,Int.reduceBNe,reduceCtorEq,RD,decide_eq_true hd]) ?_;(try simp only [RN,reduceIte]);try refine aj rfl ?_
  refine bK fun Kr hKr=>?_;simp (disch:=omega) only [RA,↓reduceIte,Nat.reduceEqDiff,Nat.reduceBEq,Nat.reduceSub,Nat.reduceAdd,Nat.reduceMul,Nat.reduceLT,Nat.reduceLeDiff,Int.reduceLE,Int.reduceLT,Int.reduceEq,Int.reduceNeg,Int.reduceToNat,Int.reduceMul,Int.reduceAdd,Int.reduceSub,Int.reduceBEq,Int.reduceBNe,reduceCtorEq,RD,a2,a3,gone,EF hb.len hw.2]
  refine ZY hb hwb hd ?_
  simp (disch:=omega) only [RA,↓reduceIte,Nat.reduceEqDiff,Nat.reduceBEq,Nat.reduceSub,Nat.reduceAdd,Nat.reduceMul,Nat.reduceLT,Nat.reduceLeDiff,Int.reduceLE,Int.reduceLT,Int.reduceEq,Int.reduceNeg,Int.reduceToNat,Int.reduceMul,Int.reduceAdd,Int.reduceSub,Int.reduceBEq,Int.reduceBNe,reduceCtorEq,RD,ach]
  rw [acn (qs:=tY) (i:=0) (ks:=s.map (dR n)) a0 a1 (Js hn hc.1 hc.2) (zU hn s)]
  refine hKr _ _ ?_;clear hKr Kr;(try simp only [aH,aJ,aI]);(try simp only [RN,reduceIte]);try refine aj rfl ?_
  refine rF (vs:=[]) rfl aF.refl ?_
  rw [List.set_append_left _ _ (by omega)]
  rw [List.map_append] at hk
  rw [←e]
  exact hk
 ·rw [if_neg hd] at hk
  refine jw (t:=false) (by simp (disch:=omega) only [RA,↓reduceIte,Nat.reduceEqDiff,Nat.reduceBEq,Nat.reduceSub,Nat.reduceAdd,Nat.reduceMul,Nat.reduceLT,Nat.reduceLeDiff,Int.reduceLE,Int.reduceLT,Int.reduceEq,Int.reduceNeg,Int.reduceToNat,Int.reduceMul,Int.reduceAdd,Int.reduceSub,Int.reduceBEq,Int.reduceBNe,reduceCtorEq,RD,decide_eq_false hd]) ?_;(try simp only [RN,reduceIte]);try refine aj rfl ?_
  exact rF (vs:=[]) rfl aF.refl hk
theorem ac2 (hb:By 16 black) (hbp:Perm black n) (h3:xss.length=3) (hll: ∀xs∈xss,xs.length≤1048576):
  Ac c0 (c1 n) c2 (c3 xss) c4 (c5 n) (c6 black) zL [P 5 0,P 6 0,P 3 0,P 4 0] n (mP (at3 xss 1) (at3 xss 2) n black):=by
 intro s w p used K hw hK
 have hlb:=hb.len
 have fK:=hw.2
 have hwb:By 16 w:=⟨hw.2,fun i=>by have:=hw.1.jM hw.2 i;omega⟩
 have hn:=hbp.1
 have hb16:=fun i=>hbp.jM hlb i
 have hw16:=fun i=>hw.1.jM fK i
 have hz:=jU
 have hg: ∀i,i<3→getN none (xss.map FI) i=some (FI (at3 xss i)):=fun i hi=>mW (by omega)
 have hg1:=hg 1 (by omega)
 have hg2:=hg 2 (by omega)
 have hm': ∀i,i<3→(at3 xss i).length≤1048576:=fun i hi=>hll _ (pG (by omega))
 have hm1:=hm' 1 (by omega)
 have hm2:=hm' 2 (by omega)
 have t1:=Au hw.1
 have t2:=Au (AU hbp hw.1)
 have gone: ∀{v:Value},getN none [v] 0=some v:=rfl
 unfold mP nV Dh at hK
 have hfin: ∀(f':Fr) (s':List L2) (ex:BH),K (.tuple ⟨[]⟩) (ED n black xss s' p used)→lC 12 [] K .normal f' (ED n black xss s' p used++ex):=by
  intro f' s' ex hk
  refine rF (vs:=[]) rfl (aF.rG (List.range 12) List.nodup_range (fun j hj=>zY hj) .undef) ?_
  rw [adl]
  exact hk
 refine aK WO ?_;simp only [lN,aA]
 unfold EM c0 c1 c2 c3 c4 c5 c6
 refine au fun Kr hKr=>?_;simp (disch:=omega) only [RA,↓reduceIte,Nat.reduceEqDiff,Nat.reduceBEq,Nat.reduceSub,Nat.reduceAdd,Nat.reduceMul,Nat.reduceLT,Nat.reduceLeDiff,Int.reduceLE,Int.reduceLT,Int.reduceEq,Int.reduceNeg,Int.reduceToNat,Int.reduceMul,Int.reduceAdd,Int.reduceSub,Int.reduceBEq,Int.reduceBNe,reduceCtorEq,RD,aT,bF,R4];refine hKr _ _ ?_;clear hKr Kr;(try simp only [RN,reduceIte]);try refine aj rfl ?_
 refine au fun Kr hKr=>?_;simp (disch:=omega) only [RA,↓reduceIte,Nat.reduceEqDiff,Nat.reduceBEq,Nat.reduceSub,Nat.reduceAdd,Nat.reduceMul,Nat.reduceLT,Nat.reduceLeDiff,Int.reduceLE,Int.reduceLT,Int.reduceEq,Int.reduceNeg,Int.reduceToNat,Int.reduceMul,Int.reduceAdd,Int.reduceSub,Int.reduceBEq,Int.reduceBNe,reduceCtorEq,RD,aT,bF,R4,gone];refine hKr _ _ ?_;clear hKr Kr;(try simp only [RN,reduceIte]);try refine aj rfl ?_
 refine au fun Kr hKr=>?_;simp (disch:=omega) only [RA,↓reduceIte,Nat.reduceEqDiff,Nat.reduceBEq,Nat.reduceSub,Nat.reduceAdd,Nat.reduceMul,Nat.reduceLT,Nat.reduceLeDiff,Int.reduceLE,Int.reduceLT,Int.reduceEq,Int.reduceNeg,Int.reduceToNat,Int.reduceMul,Int.reduceAdd,Int.reduceSub,Int.reduceBEq,Int.reduceBNe,reduceCtorEq,RD,aT,bF,R4,gone]
 refine JB hwb hw.1 ?_
 simp (disch:=omega) only [RA,↓reduceIte,Nat.reduceEqDiff,Nat.reduceBEq,Nat.reduceSub,Nat.reduceAdd,Nat.reduceMul,Nat.reduceLT,Nat.reduceLeDiff,Int.reduceLE,Int.reduceLT,Int.reduceEq,Int.reduceNeg,Int.reduceToNat,Int.reduceMul,Int.reduceAdd,Int.reduceSub,Int.reduceBEq,Int.reduceBNe,reduceCtorEq,RD,aT,bF,R4,gone,hg1,Ar]
 refine IK (xs:=kM (typ w n)) (ys:=at3 xss 1) (by rw [xC];omega) (by omega) ?_
 by_cases e1:kM (typ w n)=at3 xss 1
 ·rw [decide_eq_true e1] at hK⊢
  simp (disch:=omega) only [RA,↓reduceIte,Nat.reduceEqDiff,Nat.reduceBEq,Nat.reduceSub,Nat.reduceAdd,Nat.reduceMul,Nat.reduceLT,Nat.reduceLeDiff,Int.reduceLE,Int.reduceLT,Int.reduceEq,Int.reduceNeg,Int.reduceToNat,Int.reduceMul,Int.reduceAdd,Int.reduceSub,Int.reduceBEq,Int.reduceBNe,reduceCtorEq,RD,aT,bF,R4,gone]
  refine abx hb hwb (by omega) hb16 hw16 ?_
  simp (disch:=omega) only [RA,↓reduceIte,Nat.reduceEqDiff,Nat.reduceBEq,Nat.reduceSub,Nat.reduceAdd,Nat.reduceMul,Nat.reduceLT,Nat.reduceLeDiff,Int.reduceLE,Int.reduceLT,Int.reduceEq,Int.reduceNeg,Int.reduceToNat,Int.reduceMul,Int.reduceAdd,Int.reduceSub,Int.reduceBEq,Int.reduceBNe,reduceCtorEq,RD,aT,bF,R4,gone]
  refine JB (Md (by omega)) (AU hbp hw.1) ?_
  simp (disch:=omega) only [RA,↓reduceIte,Nat.reduceEqDiff,Nat.reduceBEq,Nat.reduceSub,Nat.reduceAdd,Nat.reduceMul,Nat.reduceLT,Nat.reduceLeDiff,Int.reduceLE,Int.reduceLT,Int.reduceEq,Int.reduceNeg,Int.reduceToNat,Int.reduceMul,Int.reduceAdd,Int.reduceSub,Int.reduceBEq,Int.reduceBNe,reduceCtorEq,RD,aT,bF,R4,gone,hg2,Ar]
  refine IK (xs:=kM (typ (oW black w n) n)) (ys:=at3 xss 2) (by rw [xC];omega) (by omega) ?_
  by_cases e2:kM (typ (oW black w n) n)=at3 xss 2
  ·rw [decide_eq_true e2] at hK⊢
   simp (disch:=omega) only [RA,↓reduceIte,Nat.reduceEqDiff,Nat.reduceBEq,Nat.reduceSub,Nat.reduceAdd,Nat.reduceMul,Nat.reduceLT,Nat.reduceLeDiff,Int.reduceLE,Int.reduceLT,Int.reduceEq,Int.reduceNeg,Int.reduceToNat,Int.reduceMul,Int.reduceAdd,Int.reduceSub,Int.reduceBEq,Int.reduceBNe,reduceCtorEq,RD]
   refine hKr _ _ ?_;clear hKr Kr;(try simp only [aH,aJ,aI]);(try simp only [RN,reduceIte]);try refine aj rfl ?_
   refine jw (t:=true) (by simp (disch:=omega) only [RA,↓reduceIte,Nat.reduceEqDiff,Nat.reduceBEq,Nat.reduceSub,Nat.reduceAdd,Nat.reduceMul,Nat.reduceLT,Nat.reduceLeDiff,Int.reduceLE,Int.reduceLT,Int.reduceEq,Int.reduceNeg,Int.reduceToNat,Int.reduceMul,Int.reduceAdd,Int.reduceSub,Int.reduceBEq,Int.reduceBNe,reduceCtorEq,RD]) ?_;(try simp only [RN,reduceIte]);try refine aj rfl ?_
   refine bK fun Kr hKr=>?_;simp (disch:=omega) only [RA,↓reduceIte,Nat.reduceEqDiff,Nat.reduceBEq,Nat.reduceSub,Nat.reduceAdd,Nat.reduceMul,Nat.reduceLT,Nat.reduceLeDiff,Int.reduceLE,Int.reduceLT,Int.reduceEq,Int.reduceNeg,Int.reduceToNat,Int.reduceMul,Int.reduceAdd,Int.reduceSub,Int.reduceBEq,Int.reduceBNe,reduceCtorEq,RD,aT,bF,R4,gone,qX,qW,qY]
   refine adn (s:=s) (by omega) hb hbp hw rfl rfl rfl fun ex=>?_
   simp (disch:=omega) only [RA,↓reduceIte,Nat.reduceEqDiff,Nat.reduceBEq,Nat.reduceSub,Nat.reduceAdd,Nat.reduceMul,Nat.reduceLT,Nat.reduceLeDiff,Int.reduceLE,Int.reduceLT,Int.reduceEq,Int.reduceNeg,Int.reduceToNat,Int.reduceMul,Int.reduceAdd,Int.reduceSub,Int.reduceBEq,Int.reduceBNe,reduceCtorEq,RD]
   refine hKr _ _ ?_;clear hKr Kr;(try simp only [aH,aJ,aI]);(try simp only [RN,reduceIte]);try refine aj rfl ?_
   by_cases hd:bY n black w
   ·rw [decide_eq_true hd] at hK
    simp only [Bool.and_true,if_true] at hK
    rw [if_pos hd]
    exact hfin _ (s++[jE black w n]) ([some (w.map N8),some (DC n black w)]++ex) hK
   ·rw [decide_eq_false hd] at hK
    simp only [Bool.and_false,Bool.false_eq_true,if_false] at hK
    rw [if_neg hd]
    exact hfin _ s ([some (w.map N8),some (DC n black w)]++ex) hK
  ·rw [decide_eq_false e2] at hK⊢
   simp only [Bool.and_false,Bool.false_and,Bool.false_eq_true,if_false] at hK
   simp (disch:=omega) only [RA,↓reduceIte,Nat.reduceEqDiff,Nat.reduceBEq,Nat.reduceSub,Nat.reduceAdd,Nat.reduceMul,Nat.reduceLT,Nat.reduceLeDiff,Int.reduceLE,Int.reduceLT,Int.reduceEq,Int.reduceNeg,Int.reduceToNat,Int.reduceMul,Int.reduceAdd,Int.reduceSub,Int.reduceBEq,Int.reduceBNe,reduceCtorEq,RD]
   refine hKr _ _ ?_;clear hKr Kr;(try simp only [aH,aJ,aI]);(try simp only [RN,reduceIte]);try refine aj rfl ?_
   refine jw (t:=false) (by simp (disch:=omega) only [RA,↓reduceIte,Nat.reduceEqDiff,Nat.reduceBEq,Nat.reduceSub,Nat.reduceAdd,Nat.reduceMul,Nat.reduceLT,Nat.reduceLeDiff,Int.reduceLE,Int.reduceLT,Int.reduceEq,Int.reduceNeg,Int.reduceToNat,Int.reduceMul,Int.reduceAdd,Int.reduceSub,Int.reduceBEq,Int.reduceBNe,reduceCtorEq,RD]) ?_;(try simp only [RN,reduceIte]);try refine aj rfl ?_
   exact hfin _ s [some (w.map N8),some (DC n black w)] hK
 ·rw [decide_eq_false e1] at hK⊢
  simp only [Bool.false_and,Bool.false_eq_true,if_false] at hK
  simp (disch:=omega) only [RA,↓reduceIte,Nat.reduceEqDiff,Nat.reduceBEq,Nat.reduceSub,Nat.reduceAdd,Nat.reduceMul,Nat.reduceLT,Nat.reduceLeDiff,Int.reduceLE,Int.reduceLT,Int.reduceEq,Int.reduceNeg,Int.reduceToNat,Int.reduceMul,Int.reduceAdd,Int.reduceSub,Int.reduceBEq,Int.reduceBNe,reduceCtorEq,RD]
  refine hKr _ _ ?_;clear hKr Kr;(try simp only [aH,aJ,aI]);(try simp only [RN,reduceIte]);try refine aj rfl ?_
  refine jw (t:=false) (by simp (disch:=omega) only [RA,↓reduceIte,Nat.reduceEqDiff,Nat.reduceBEq,Nat.reduceSub,Nat.reduceAdd,Nat.reduceMul,Nat.reduceLT,Nat.reduceLeDiff,Int.reduceLE,Int.reduceLT,Int.reduceEq,Int.reduceNeg,Int.reduceToNat,Int.reduceMul,Int.reduceAdd,Int.reduceSub,Int.reduceBEq,Int.reduceBNe,reduceCtorEq,RD]) ?_;(try simp only [RN,reduceIte]);try refine aj rfl ?_
  exact hfin _ s [some (w.map N8),some (DC n black w)] hK
end
def lK (xss:List (List Int)):List L2:=(lv (nP xss) (nP xss) []).foldl (mP (at3 xss 1) (at3 xss 2) (nP xss) (std (at3 xss 0))) []
section
variable {t1 t2:List Int} {n:Nat} {black:List Nat}
theorem ado {w:List Nat} {s:List L2} (hs: ∀d∈s,By 16 d.1∧By 16 d.2): ∀d∈mP t1 t2 n black s w,By 16 d.1∧By 16 d.2:=by
 intro d hd
 unfold mP at hd
 split at hd
 ·rename_i h
  simp only [nV,Bool.and_eq_true,decide_eq_true_eq] at h
  rcases List.mem_append.1 hd with hd|hd
  ·exact hs d hd
  ·rw [List.mem_singleton] at hd
   subst hd
   exact tX (k:=n-1) h.2 (by have:=h.2.1.1;omega)
 ·exact hs d hd
theorem TN: ∀(l:List (List Nat)) {s:List L2},(∀d∈s,By 16 d.1∧By 16 d.2)→ ∀d∈l.foldl (mP t1 t2 n black) s,By 16 d.1∧By 16 d.2
 |[],s,h=>h
 |w::l,s,h=>TN l (ado h)
theorem TP: ∀(l:List (List Nat)) {s:List L2},(l.foldl (mP t1 t2 n black) s).length≤s.length+l.length
 |[],s=>by simp
 |w::l,s=>by
  have h1:=TP l (s:=mP t1 t2 n black s w)
  have h2:(mP t1 t2 n black s w).length≤s.length+1:=by
   unfold mP
   split<;>simp
  rw [List.foldl_cons,List.length_cons]
  omega
theorem TQ {x:L2}: ∀(l:List (List Nat)) {s:List L2},x∈l.foldl (mP t1 t2 n black) s↔x∈s∨ ∃w∈l,nV t1 t2 black n w=true∧x=jE black w n
 |[],s=>by simp
 |w::l,s=>by
  rw [List.foldl_cons,TQ l]
  unfold mP
  by_cases h:nV t1 t2 black n w=true
  ·rw [if_pos h]
   simp only [List.mem_append,List.mem_singleton]
   constructor
   ·rintro ((h1|h1)|⟨v,hv,h2⟩)
    ·exact .inl h1
    ·exact .inr ⟨w,List.mem_cons_self,h,h1⟩
    ·exact .inr ⟨v,List.mem_cons_of_mem _ hv,h2⟩
   ·rintro (h1|⟨v,hv,h2⟩)
    ·exact .inl (.inl h1)
    ·rcases List.mem_cons.1 hv with rfl|hv
     ·exact .inl (.inr h2.2)
     ·exact .inr ⟨v,hv,h2⟩
  ·rw [if_neg h]
   constructor
   ·rintro (h1|⟨v,hv,h2⟩)
    ·exact .inl h1
    ·exact .inr ⟨v,List.mem_cons_of_mem _ hv,h2⟩
   ·rintro (h1|⟨v,hv,h2⟩)
    ·exact .inl h1
    ·rcases List.mem_cons.1 hv with rfl|hv
     ·exact absurd h2.1 h
     ·exact .inr ⟨v,hv,h2⟩
theorem TR {x:L2}: ∀(l:List (List Nat)) {s:List L2},x∈l.foldl (kH t1 t2 n black) s↔x∈s∨ ∃w∈l,nV t1 t2 black n w=true∧x=jE black w n
 |[],s=>by simp
 |w::l,s=>by
  rw [List.foldl_cons,TR l]
  unfold kH
  by_cases h:nV t1 t2 black n w=true
  ·rw [if_pos h]
   simp only [qV]
   constructor
   ·rintro ((h1|h1)|⟨v,hv,h2⟩)
    ·exact .inr ⟨w,List.mem_cons_self,h,h1⟩
    ·exact .inl h1
    ·exact .inr ⟨v,List.mem_cons_of_mem _ hv,h2⟩
   ·rintro (h1|⟨v,hv,h2⟩)
    ·exact .inl (.inr h1)
    ·rcases List.mem_cons.1 hv with rfl|hv
     ·exact .inl (.inl h2.2)
     ·exact .inr ⟨v,hv,h2⟩
  ·rw [if_neg h]
   constructor
   ·rintro (h1|⟨v,hv,h2⟩)
    ·exact .inl h1
    ·exact .inr ⟨v,List.mem_cons_of_mem _ hv,h2⟩
   ·rintro (h1|⟨v,hv,h2⟩)
    ·exact .inl h1
    ·rcases List.mem_cons.1 hv with rfl|hv
     ·exact absurd h2.1 h
     ·exact .inr ⟨v,hv,h2⟩
end
theorem Tj {xss:List (List Int)} (hp:jD xss):uQ xss=jk (lK xss):=by
 obtain ⟨e1,e2,e3⟩:=qy hp
 refine IG (adk xss).2 CX fun x=>?_
 rw [mV,uQ,lK,TR,TQ]
 have hq: ∀w,w∈sw (nP xss) (nP xss) (lJ (nP xss)) 0↔w∈lv (nP xss) (nP xss) []:=fun w=>((JW ⟨e2,e3⟩).mem_iff).symm
 constructor
 ·rintro (h|⟨w,hw,h⟩)
  ·cases h
  ·exact .inr ⟨w,(hq w).1 hw,h⟩
 ·rintro (h|⟨w,hw,h⟩)
  ·cases h
  ·exact .inr ⟨w,(hq w).2 hw,h⟩
theorem SB (xss:List (List Int)): ∀d∈lK xss,By 16 d.1∧By 16 d.2:=TN _ fun d h=>by cases h
theorem ac5 {xss:List (List Int)} (hp:jD xss) (h8:nP xss≤8):(lK xss).length≤40320:=by
 obtain ⟨e1,e2,e3⟩:=qy hp
 have h1:=TP (t1:=at3 xss 1) (t2:=at3 xss 2) (n:=nP xss) (black:=std (at3 xss 0)) (lv (nP xss) (nP xss) []) (s:=[])
 rw [(JW ⟨e2,e3⟩).length_eq,Di] at h1
 have h2:=Dj h8
 have h3:dY 8=40320:=rfl
 unfold lK
 simp only [List.length_nil] at h1
 omega
end Go.Bm.Q7
