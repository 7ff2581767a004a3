/- DpSc -/
import Derived.Test.YtbpfbfbabpkceaaGreatAmMap
import Derived.Test.YtbpfbfbabpkceaaGreatDpG2
import Derived.Test.YtbpfbfbabpkceaaGreatDpG8
import Derived.Test.YtbpfbfbabpkceaaGreatDpG9
set_option linter.unusedVariables false
set_option linter.unusedSimpArgs false
set_option linter.unusedSectionVars false
namespace Go.Bm.Q7
open Go Go.Am Go.Bm Go.Bm.Q5
theorem acZ {cs:List Value} {H:BH} {b o i:Nat} (h:o<cs.length):bQ (some cs) H b o 1 (.map (some i))=some (undef,H.set b (some (splice cs o [.map (some i)]))):=by
 simp only [bQ,cells2]
 rw [if_pos ⟨rfl,by omega,rfl⟩]
section
variable {xss:List (List Int)}
theorem ac0 {n:Nat} {black:List Nat} (s:List L2):kN (List.range 3) (PM c0 (c1 n) c2 (c3 xss) c4 (c5 n) (c6 black) s)=[some [],some (s.map (dR n)),some [.map (some 0)]]:=by
 show [_,_,_]=_
 have e1:Option.map (List.map (ren (List.range 3))) (some (s.map (dR n)))=some (s.map (dR n)):=by rw [Option.map_some,DI]
 exact congr (congrArg List.cons rfl) (congr (congrArg List.cons e1) (congr (congrArg List.cons rfl) rfl))
theorem ac1 (hp:jD xss) (h8:nP xss≤8) (hll: ∀xs∈xss,xs.length≤1048576) {K:Value→BH→Prop}
  (hK:K (I (tJ xss)) [some [],some ((lK xss).map (dR (nP xss))),some [.map (some 0)]]):
  aB false UL [dU xss,clo qQ [P 2 0]] [some [],some [],some [.map (some 0)]] K:=by
 have gone: ∀{v:Value},getN none [v] 0=some v:=rfl
 obtain ⟨e1,e2,e3⟩:=qy hp
 obtain ⟨q1,q2⟩:=I8 hp
 have h3:=hp.1
 have t0:=(hp.2 0 (by omega)).1
 have hg0:getN none (xss.map FI) 0=some (FI (at3 xss 0)):=mW (by omega)
 have hps:nY xss=(nP xss:Int):=by rw [nY,if_pos hp,e1]
 have hlb:=q2.len
 have hcp:=I9 t0
 have hc0:tK (at3 xss 0)≠0:=by omega
 have hsh:(gI (nP xss)).tdiv (tK (at3 xss 0))=tJ xss:=rfl
 have hs:=Zx hp h8
 refine aK Wi ?_;simp only [kV,aA]
 refine au fun Kr hKr=>?_;simp (disch:=omega) only [RA,↓reduceIte,Nat.reduceEqDiff,Nat.reduceBEq,Nat.reduceSub,Nat.reduceAdd,Nat.reduceMul,Nat.reduceLT,Nat.reduceLeDiff,Int.reduceLE,Int.reduceLT,Int.reduceEq,Int.reduceNeg,Int.reduceToNat,Int.reduceMul,Int.reduceAdd,Int.reduceSub,Int.reduceBEq,Int.reduceBNe,reduceCtorEq,RD];refine hKr _ _ ?_;clear hKr Kr;(try simp only [RN,reduceIte]);try refine aj rfl ?_
 refine au fun Kr hKr=>?_;simp (disch:=omega) only [RA,↓reduceIte,Nat.reduceEqDiff,Nat.reduceBEq,Nat.reduceSub,Nat.reduceAdd,Nat.reduceMul,Nat.reduceLT,Nat.reduceLeDiff,Int.reduceLE,Int.reduceLT,Int.reduceEq,Int.reduceNeg,Int.reduceToNat,Int.reduceMul,Int.reduceAdd,Int.reduceSub,Int.reduceBEq,Int.reduceBNe,reduceCtorEq,RD,gone]
 refine Jf (by omega) hll ?_
 simp (disch:=omega) only [RA,↓reduceIte,Nat.reduceEqDiff,Nat.reduceBEq,Nat.reduceSub,Nat.reduceAdd,Nat.reduceMul,Nat.reduceLT,Nat.reduceLeDiff,Int.reduceLE,Int.reduceLT,Int.reduceEq,Int.reduceNeg,Int.reduceToNat,Int.reduceMul,Int.reduceAdd,Int.reduceSub,Int.reduceBEq,Int.reduceBNe,reduceCtorEq,RD,hps]
 refine hKr _ _ ?_;clear hKr Kr;(try simp only [aH,aJ,aI]);(try simp only [RN,reduceIte]);try refine aj rfl ?_
 refine au fun Kr hKr=>?_;simp (disch:=omega) only [RA,↓reduceIte,Nat.reduceEqDiff,Nat.reduceBEq,Nat.reduceSub,Nat.reduceAdd,Nat.reduceMul,Nat.reduceLT,Nat.reduceLeDiff,Int.reduceLE,Int.reduceLT,Int.reduceEq,Int.reduceNeg,Int.reduceToNat,Int.reduceMul,Int.reduceAdd,Int.reduceSub,Int.reduceBEq,Int.reduceBNe,reduceCtorEq,RD,R4,gone,hg0]
 refine aat t0 ?_
 simp (disch:=omega) only [RA,↓reduceIte,Nat.reduceEqDiff,Nat.reduceBEq,Nat.reduceSub,Nat.reduceAdd,Nat.reduceMul,Nat.reduceLT,Nat.reduceLeDiff,Int.reduceLE,Int.reduceLT,Int.reduceEq,Int.reduceNeg,Int.reduceToNat,Int.reduceMul,Int.reduceAdd,Int.reduceSub,Int.reduceBEq,Int.reduceBNe,reduceCtorEq,RD,R4,hlb]
 refine hKr _ _ ?_;clear hKr Kr;(try simp only [aH,aJ,aI]);(try simp only [RN,reduceIte]);try refine aj rfl ?_
 refine au fun Kr hKr=>?_;simp (disch:=omega) only [RA,↓reduceIte,Nat.reduceEqDiff,Nat.reduceBEq,Nat.reduceSub,Nat.reduceAdd,Nat.reduceMul,Nat.reduceLT,Nat.reduceLeDiff,Int.reduceLE,Int.reduceLT,Int.reduceEq,Int.reduceNeg,Int.reduceToNat,Int.reduceMul,Int.reduceAdd,Int.reduceSub,Int.reduceBEq,Int.reduceBNe,reduceCtorEq,RD,gone]
 refine Jg (B0:=c0) (B1:=c1 (nP xss)) (B2:=c2) (B3:=c3 xss) (B4:=c4) (B5:=c5 (nP xss)) (B6:=c6 (std (at3 xss 0))) (s:=[]) (ac2 q2 q1 h3 hll) ac3 e2 h8 ?_
 simp (disch:=omega) only [RA,↓reduceIte,Nat.reduceEqDiff,Nat.reduceBEq,Nat.reduceSub,Nat.reduceAdd,Nat.reduceMul,Nat.reduceLT,Nat.reduceLeDiff,Int.reduceLE,Int.reduceLT,Int.reduceEq,Int.reduceNeg,Int.reduceToNat,Int.reduceMul,Int.reduceAdd,Int.reduceSub,Int.reduceBEq,Int.reduceBNe,reduceCtorEq,RD]
 refine hKr _ _ ?_;clear hKr Kr;(try simp only [aH,aJ,aI]);(try simp only [RN,reduceIte]);try refine aj rfl ?_
 unfold PM c5
 refine au fun Kr hKr=>?_;simp (disch:=omega) only [RA,↓reduceIte,Nat.reduceEqDiff,Nat.reduceBEq,Nat.reduceSub,Nat.reduceAdd,Nat.reduceMul,Nat.reduceLT,Nat.reduceLeDiff,Int.reduceLE,Int.reduceLT,Int.reduceEq,Int.reduceNeg,Int.reduceToNat,Int.reduceMul,Int.reduceAdd,Int.reduceSub,Int.reduceBEq,Int.reduceBNe,reduceCtorEq,RD,gone]
 refine aav e2 e3 ?_
 unfold c3
 simp (disch:=omega) only [RA,↓reduceIte,Nat.reduceEqDiff,Nat.reduceBEq,Nat.reduceSub,Nat.reduceAdd,Nat.reduceMul,Nat.reduceLT,Nat.reduceLeDiff,Int.reduceLE,Int.reduceLT,Int.reduceEq,Int.reduceNeg,Int.reduceToNat,Int.reduceMul,Int.reduceAdd,Int.reduceSub,Int.reduceBEq,Int.reduceBNe,reduceCtorEq,RD,gone,hg0]
 refine aas t0 ?_
 simp (disch:=omega) only [RA,↓reduceIte,Nat.reduceEqDiff,Nat.reduceBEq,Nat.reduceSub,Nat.reduceAdd,Nat.reduceMul,Nat.reduceLT,Nat.reduceLeDiff,Int.reduceLE,Int.reduceLT,Int.reduceEq,Int.reduceNeg,Int.reduceToNat,Int.reduceMul,Int.reduceAdd,Int.reduceSub,Int.reduceBEq,Int.reduceBNe,reduceCtorEq,RD,hc0,hsh]
 refine hKr _ _ ?_;clear hKr Kr;(try simp only [aH,aJ,aI]);(try simp only [RN,reduceIte]);try refine aj rfl ?_
 refine aN (vs:=[I (tJ xss)]) ?_ (aF.rG (List.range 3) List.nodup_range (fun j hj=>zY hj) .int) ?_
 ·simp (disch:=omega) only [RA,↓reduceIte,Nat.reduceEqDiff,Nat.reduceBEq,Nat.reduceSub,Nat.reduceAdd,Nat.reduceMul,Nat.reduceLT,Nat.reduceLeDiff,Int.reduceLE,Int.reduceLT,Int.reduceEq,Int.reduceNeg,Int.reduceToNat,Int.reduceMul,Int.reduceAdd,Int.reduceSub,Int.reduceBEq,Int.reduceBNe,reduceCtorEq,resAll,resOf]
 ·have:=ac0 (xss:=xss) (n:=nP xss) (black:=std (at3 xss 0)) (lK xss)
  unfold PM c3 c5 at this
  rw [←this] at hK
  exact hK
def gu (xss:List (List Int)):List L2:=jk (lK xss)
def uO (xss:List (List Int)):Prop:=jD xss∧nP xss≤8∧(gu xss).length≤3000
open Classical in
noncomputable def oH (xss:List (List Int)):Int:=if jD xss then if nP xss≤8 then 3 else 2 else 1
def Ti:Value→Nat
 | .int _ n=>n.toNat
 | _=>0
theorem ac4 {n:Nat} (hn:n≤16) {s:List L2} (hs: ∀d∈s,By 16 d.1∧By 16 d.2):cntI ((s.map (dR n)).map keyI)=(jk s).length:=by
 have hq:=zU hn s
 have hk: ∀d∈s,keyV tY (dR n d)=true:=fun d hd=>Df hn d
 rw [cntI_of (k:=(jk s).map fun d=>keyI (dR n d)) (nodup_map (CX.imp fun h e=>by rw [e] at h;exact tH _ h) fun a ha b hb e=>?_) fun x=>?_]
 ·simp
 ·have ha':=mV.1 ha
  have hb':=mV.1 hb
  have:=keyI_inj (hk a ha') (hk b hb') e
  rw [zV (hs a ha').1 (hs a ha').2,zV (hs b hb').1 (hs b hb').2] at this
  have h1:(I (n:Int))::(a.1.map N8++a.2.map N8)=I n::(b.1.map N8++b.2.map N8):=by
   have:=congrArg cellsL this
   exact this
  have h2:=(List.cons.inj h1).2
  have h3:=List.append_inj h2 (by simp [(hs a ha').1.len,(hs b hb').1.len])
  have inj: ∀{l k:List Nat},l.map N8=k.map N8→l=k:=fun {l k} h=>by
   have:=congrArg (List.map Ti) h
   simpa [List.map_map,Function.comp_def,Ti] using this
  exact Prod.ext (inj h3.1) (inj h3.2)
 ·rw [List.mem_map,List.mem_map]
  constructor
  ·rintro ⟨d,hd,rfl⟩
   exact ⟨_,List.mem_map_of_mem (mV.1 hd),rfl⟩
  ·rintro ⟨k,hk,rfl⟩
   obtain ⟨d,hd,rfl⟩:=List.mem_map.1 hk
   exact ⟨d,mV.2 hd,rfl⟩
theorem SC (hl:xss.length≤1048576) (hll: ∀xs∈xss,xs.length≤1048576):aB false CB [dU xss] [] fun v H1=>
  (uO xss∧ ∃j,v= .tuple ⟨[S j 0 (gu xss).length 33,I 0]⟩∧blk H1 j=some (DL (nP xss) (gu xss)))∨(¬uO xss∧v= .tuple ⟨[.slice none 0 0,I (oH xss)]⟩):=by
 have gone: ∀{v:Value},getN none [v] 0=some v:=rfl
 refine aK VW ?_;simp only [iQ,aA]
 refine au fun Kr hKr=>?_;simp (disch:=omega) only [RA,↓reduceIte,Nat.reduceEqDiff,Nat.reduceBEq,Nat.reduceSub,Nat.reduceAdd,Nat.reduceMul,Nat.reduceLT,Nat.reduceLeDiff,Int.reduceLE,Int.reduceLT,Int.reduceEq,Int.reduceNeg,Int.reduceToNat,Int.reduceMul,Int.reduceAdd,Int.reduceSub,Int.reduceBEq,Int.reduceBNe,reduceCtorEq,RD];refine hKr _ _ ?_;clear hKr Kr;(try simp only [RN,reduceIte]);try refine aj rfl ?_
 refine au fun Kr hKr=>?_;simp (disch:=omega) only [RA,↓reduceIte,Nat.reduceEqDiff,Nat.reduceBEq,Nat.reduceSub,Nat.reduceAdd,Nat.reduceMul,Nat.reduceLT,Nat.reduceLeDiff,Int.reduceLE,Int.reduceLT,Int.reduceEq,Int.reduceNeg,Int.reduceToNat,Int.reduceMul,Int.reduceAdd,Int.reduceSub,Int.reduceBEq,Int.reduceBNe,reduceCtorEq,RD]
 refine ZG hl hll ?_
 simp (disch:=omega) only [RA,↓reduceIte,Nat.reduceEqDiff,Nat.reduceBEq,Nat.reduceSub,Nat.reduceAdd,Nat.reduceMul,Nat.reduceLT,Nat.reduceLeDiff,Int.reduceLE,Int.reduceLT,Int.reduceEq,Int.reduceNeg,Int.reduceToNat,Int.reduceMul,Int.reduceAdd,Int.reduceSub,Int.reduceBEq,Int.reduceBNe,reduceCtorEq,RD]
 refine hKr _ _ ?_;clear hKr Kr;(try simp only [aH,aJ,aI]);(try simp only [RN,reduceIte]);try refine aj rfl ?_
 by_cases hp:jD xss
 ·by_cases h8:nP xss≤8
  ·obtain ⟨e1,e2,e3⟩:=qy hp
   have hby:=SB xss
   have hln:=ac5 hp h8
   have hcn:=ac4 (n:=nP xss) e3 hby
   have hky:=zU (n:=nP xss) e3 (lK xss)
   have hbl:sO tY (.map (some 0)) [some [],some ((lK xss).map (dR (nP xss))),some [.map (some 0)]]=some (.int .i64 ((gu xss).length:Nat),[some [],some ((lK xss).map (dR (nP xss))),some [.map (some 0)]]):=by
    rw [acj rfl rfl hky,hcn]
    rfl
   have hsl:(gu xss).length≤(lK xss).length:=Zt
   rw [if_pos hp,if_pos h8]
   refine au fun Kr hKr=>?_;simp (disch:=omega) only [RA,↓reduceIte,Nat.reduceEqDiff,Nat.reduceBEq,Nat.reduceSub,Nat.reduceAdd,Nat.reduceMul,Nat.reduceLT,Nat.reduceLeDiff,Int.reduceLE,Int.reduceLT,Int.reduceEq,Int.reduceNeg,Int.reduceToNat,Int.reduceMul,Int.reduceAdd,Int.reduceSub,Int.reduceBEq,Int.reduceBNe,reduceCtorEq,RD];refine hKr _ _ ?_;clear hKr Kr;(try simp only [RN,reduceIte]);try refine aj rfl ?_
   refine aQ (t:=false) (by simp (disch:=omega) only [RA,↓reduceIte,Nat.reduceEqDiff,Nat.reduceBEq,Nat.reduceSub,Nat.reduceAdd,Nat.reduceMul,Nat.reduceLT,Nat.reduceLeDiff,Int.reduceLE,Int.reduceLT,Int.reduceEq,Int.reduceNeg,Int.reduceToNat,Int.reduceMul,Int.reduceAdd,Int.reduceSub,Int.reduceBEq,Int.reduceBNe,reduceCtorEq,RD]) ?_;(try simp only [RN,reduceIte]);try refine aj rfl ?_
   refine au fun Kr hKr=>?_;simp (disch:=omega) only [RA,↓reduceIte,Nat.reduceEqDiff,Nat.reduceBEq,Nat.reduceSub,Nat.reduceAdd,Nat.reduceMul,Nat.reduceLT,Nat.reduceLeDiff,Int.reduceLE,Int.reduceLT,Int.reduceEq,Int.reduceNeg,Int.reduceToNat,Int.reduceMul,Int.reduceAdd,Int.reduceSub,Int.reduceBEq,Int.reduceBNe,reduceCtorEq,RD,acg,acH,acZ];refine hKr _ _ ?_;clear hKr Kr;(try simp only [RN,reduceIte]);try refine aj rfl ?_
   refine au fun Kr hKr=>?_;simp (disch:=omega) only [RA,↓reduceIte,Nat.reduceEqDiff,Nat.reduceBEq,Nat.reduceSub,Nat.reduceAdd,Nat.reduceMul,Nat.reduceLT,Nat.reduceLeDiff,Int.reduceLE,Int.reduceLT,Int.reduceEq,Int.reduceNeg,Int.reduceToNat,Int.reduceMul,Int.reduceAdd,Int.reduceSub,Int.reduceBEq,Int.reduceBNe,reduceCtorEq,RD,gone]
   refine ac1 hp h8 hll ?_
   simp (disch:=omega) only [RA,↓reduceIte,Nat.reduceEqDiff,Nat.reduceBEq,Nat.reduceSub,Nat.reduceAdd,Nat.reduceMul,Nat.reduceLT,Nat.reduceLeDiff,Int.reduceLE,Int.reduceLT,Int.reduceEq,Int.reduceNeg,Int.reduceToNat,Int.reduceMul,Int.reduceAdd,Int.reduceSub,Int.reduceBEq,Int.reduceBNe,reduceCtorEq,RD]
   refine hKr _ _ ?_;clear hKr Kr;(try simp only [aH,aJ,aI]);(try simp only [RN,reduceIte]);try refine aj rfl ?_
   refine au fun Kr hKr=>?_;simp (disch:=omega) only [RA,↓reduceIte,Nat.reduceEqDiff,Nat.reduceBEq,Nat.reduceSub,Nat.reduceAdd,Nat.reduceMul,Nat.reduceLT,Nat.reduceLeDiff,Int.reduceLE,Int.reduceLT,Int.reduceEq,Int.reduceNeg,Int.reduceToNat,Int.reduceMul,Int.reduceAdd,Int.reduceSub,Int.reduceBEq,Int.reduceBNe,reduceCtorEq,RD,gone,aci,hbl];refine hKr _ _ ?_;clear hKr Kr;(try simp only [RN,reduceIte]);try refine aj rfl ?_
   by_cases h3:(gu xss).length≤3000
   ·have e:decide ((3000:Int)<((gu xss).length:Nat))=false:=decide_eq_false (by omega)
    refine aQ (t:=false) (by simp (disch:=omega) only [RA,↓reduceIte,Nat.reduceEqDiff,Nat.reduceBEq,Nat.reduceSub,Nat.reduceAdd,Nat.reduceMul,Nat.reduceLT,Nat.reduceLeDiff,Int.reduceLE,Int.reduceLT,Int.reduceEq,Int.reduceNeg,Int.reduceToNat,Int.reduceMul,Int.reduceAdd,Int.reduceSub,Int.reduceBEq,Int.reduceBNe,reduceCtorEq,RD,e]) ?_;(try simp only [RN,reduceIte]);try refine aj rfl ?_
    refine au fun Kr hKr=>?_;simp (disch:=omega) only [RA,↓reduceIte,Nat.reduceEqDiff,Nat.reduceBEq,Nat.reduceSub,Nat.reduceAdd,Nat.reduceMul,Nat.reduceLT,Nat.reduceLeDiff,Int.reduceLE,Int.reduceLT,Int.reduceEq,Int.reduceNeg,Int.reduceToNat,Int.reduceMul,Int.reduceAdd,Int.reduceSub,Int.reduceBEq,Int.reduceBNe,reduceCtorEq,RD,gone]
    refine Zv (i:=0) (s:=lK xss) e3 hby (by omega) rfl rfl ?_
    simp (disch:=omega) only [RA,↓reduceIte,Nat.reduceEqDiff,Nat.reduceBEq,Nat.reduceSub,Nat.reduceAdd,Nat.reduceMul,Nat.reduceLT,Nat.reduceLeDiff,Int.reduceLE,Int.reduceLT,Int.reduceEq,Int.reduceNeg,Int.reduceToNat,Int.reduceMul,Int.reduceAdd,Int.reduceSub,Int.reduceBEq,Int.reduceBNe,reduceCtorEq,RD]
    refine hKr _ _ ?_;clear hKr Kr;(try simp only [aH,aJ,aI]);(try simp only [RN,reduceIte]);try refine aj rfl ?_
    refine aN (by simp (disch:=omega) only [RA,↓reduceIte,Nat.reduceEqDiff,Nat.reduceBEq,Nat.reduceSub,Nat.reduceAdd,Nat.reduceMul,Nat.reduceLT,Nat.reduceLeDiff,Int.reduceLE,Int.reduceLT,Int.reduceEq,Int.reduceNeg,Int.reduceToNat,Int.reduceMul,Int.reduceAdd,Int.reduceSub,Int.reduceBEq,Int.reduceBNe,reduceCtorEq,RD,resAll,resOf];rfl) aF.refl ?_;simp only [tup]
    exact .inl ⟨⟨hp,h8,h3⟩,3,rfl,rfl⟩
   ·have e:decide ((3000:Int)<((gu xss).length:Nat))=true:=decide_eq_true (by omega)
    refine aQ (t:=true) (by simp (disch:=omega) only [RA,↓reduceIte,Nat.reduceEqDiff,Nat.reduceBEq,Nat.reduceSub,Nat.reduceAdd,Nat.reduceMul,Nat.reduceLT,Nat.reduceLeDiff,Int.reduceLE,Int.reduceLT,Int.reduceEq,Int.reduceNeg,Int.reduceToNat,Int.reduceMul,Int.reduceAdd,Int.reduceSub,Int.reduceBEq,Int.reduceBNe,reduceCtorEq,RD,e]) ?_;(try simp only [RN,reduceIte]);try refine aj rfl ?_
    refine au fun Kr hKr=>?_;simp (disch:=omega) only [RA,↓reduceIte,Nat.reduceEqDiff,Nat.reduceBEq,Nat.reduceSub,Nat.reduceAdd,Nat.reduceMul,Nat.reduceLT,Nat.reduceLeDiff,Int.reduceLE,Int.reduceLT,Int.reduceEq,Int.reduceNeg,Int.reduceToNat,Int.reduceMul,Int.reduceAdd,Int.reduceSub,Int.reduceBEq,Int.reduceBNe,reduceCtorEq,RD];refine hKr _ _ ?_;clear hKr Kr;(try simp only [RN,reduceIte]);try refine aj rfl ?_
    refine aN (by simp (disch:=omega) only [RA,↓reduceIte,Nat.reduceEqDiff,Nat.reduceBEq,Nat.reduceSub,Nat.reduceAdd,Nat.reduceMul,Nat.reduceLT,Nat.reduceLeDiff,Int.reduceLE,Int.reduceLT,Int.reduceEq,Int.reduceNeg,Int.reduceToNat,Int.reduceMul,Int.reduceAdd,Int.reduceSub,Int.reduceBEq,Int.reduceBNe,reduceCtorEq,RD,resAll,resOf];rfl) aF.refl ?_;simp only [tup]
    refine .inr ⟨fun h=>h3 h.2.2,?_⟩
    rw [oH,if_pos hp,if_pos h8]
  ·rw [if_pos hp,if_neg h8]
   refine au fun Kr hKr=>?_;simp (disch:=omega) only [RA,↓reduceIte,Nat.reduceEqDiff,Nat.reduceBEq,Nat.reduceSub,Nat.reduceAdd,Nat.reduceMul,Nat.reduceLT,Nat.reduceLeDiff,Int.reduceLE,Int.reduceLT,Int.reduceEq,Int.reduceNeg,Int.reduceToNat,Int.reduceMul,Int.reduceAdd,Int.reduceSub,Int.reduceBEq,Int.reduceBNe,reduceCtorEq,RD];refine hKr _ _ ?_;clear hKr Kr;(try simp only [RN,reduceIte]);try refine aj rfl ?_
   refine aQ (t:=true) (by simp (disch:=omega) only [RA,↓reduceIte,Nat.reduceEqDiff,Nat.reduceBEq,Nat.reduceSub,Nat.reduceAdd,Nat.reduceMul,Nat.reduceLT,Nat.reduceLeDiff,Int.reduceLE,Int.reduceLT,Int.reduceEq,Int.reduceNeg,Int.reduceToNat,Int.reduceMul,Int.reduceAdd,Int.reduceSub,Int.reduceBEq,Int.reduceBNe,reduceCtorEq,RD]) ?_;(try simp only [RN,reduceIte]);try refine aj rfl ?_
   refine au fun Kr hKr=>?_;simp (disch:=omega) only [RA,↓reduceIte,Nat.reduceEqDiff,Nat.reduceBEq,Nat.reduceSub,Nat.reduceAdd,Nat.reduceMul,Nat.reduceLT,Nat.reduceLeDiff,Int.reduceLE,Int.reduceLT,Int.reduceEq,Int.reduceNeg,Int.reduceToNat,Int.reduceMul,Int.reduceAdd,Int.reduceSub,Int.reduceBEq,Int.reduceBNe,reduceCtorEq,RD];refine hKr _ _ ?_;clear hKr Kr;(try simp only [RN,reduceIte]);try refine aj rfl ?_
   refine aN (by simp (disch:=omega) only [RA,↓reduceIte,Nat.reduceEqDiff,Nat.reduceBEq,Nat.reduceSub,Nat.reduceAdd,Nat.reduceMul,Nat.reduceLT,Nat.reduceLeDiff,Int.reduceLE,Int.reduceLT,Int.reduceEq,Int.reduceNeg,Int.reduceToNat,Int.reduceMul,Int.reduceAdd,Int.reduceSub,Int.reduceBEq,Int.reduceBNe,reduceCtorEq,RD,resAll,resOf];rfl) aF.refl ?_;simp only [tup]
   refine .inr ⟨fun h=>h8 h.2.1,?_⟩
   rw [oH,if_pos hp,if_neg h8]
 ·rw [if_neg hp]
  refine au fun Kr hKr=>?_;simp (disch:=omega) only [RA,↓reduceIte,Nat.reduceEqDiff,Nat.reduceBEq,Nat.reduceSub,Nat.reduceAdd,Nat.reduceMul,Nat.reduceLT,Nat.reduceLeDiff,Int.reduceLE,Int.reduceLT,Int.reduceEq,Int.reduceNeg,Int.reduceToNat,Int.reduceMul,Int.reduceAdd,Int.reduceSub,Int.reduceBEq,Int.reduceBNe,reduceCtorEq,RD];refine hKr _ _ ?_;clear hKr Kr;(try simp only [RN,reduceIte]);try refine aj rfl ?_
  refine aQ (t:=true) (by simp (disch:=omega) only [RA,↓reduceIte,Nat.reduceEqDiff,Nat.reduceBEq,Nat.reduceSub,Nat.reduceAdd,Nat.reduceMul,Nat.reduceLT,Nat.reduceLeDiff,Int.reduceLE,Int.reduceLT,Int.reduceEq,Int.reduceNeg,Int.reduceToNat,Int.reduceMul,Int.reduceAdd,Int.reduceSub,Int.reduceBEq,Int.reduceBNe,reduceCtorEq,RD]) ?_;(try simp only [RN,reduceIte]);try refine aj rfl ?_
  refine au fun Kr hKr=>?_;simp (disch:=omega) only [RA,↓reduceIte,Nat.reduceEqDiff,Nat.reduceBEq,Nat.reduceSub,Nat.reduceAdd,Nat.reduceMul,Nat.reduceLT,Nat.reduceLeDiff,Int.reduceLE,Int.reduceLT,Int.reduceEq,Int.reduceNeg,Int.reduceToNat,Int.reduceMul,Int.reduceAdd,Int.reduceSub,Int.reduceBEq,Int.reduceBNe,reduceCtorEq,RD];refine hKr _ _ ?_;clear hKr Kr;(try simp only [RN,reduceIte]);try refine aj rfl ?_
  refine aN (by simp (disch:=omega) only [RA,↓reduceIte,Nat.reduceEqDiff,Nat.reduceBEq,Nat.reduceSub,Nat.reduceAdd,Nat.reduceMul,Nat.reduceLT,Nat.reduceLeDiff,Int.reduceLE,Int.reduceLT,Int.reduceEq,Int.reduceNeg,Int.reduceToNat,Int.reduceMul,Int.reduceAdd,Int.reduceSub,Int.reduceBEq,Int.reduceBNe,reduceCtorEq,RD,resAll,resOf];rfl) aF.refl ?_;simp only [tup]
  refine .inr ⟨fun h=>hp h.1,?_⟩
  rw [oH,if_neg hp]
theorem ac6 {k n:Nat} {l:List L2} {c:Int} {H:BH}:aF k (.tuple ⟨[kT n l,I c]⟩) H (.tuple ⟨[LD n l,I c]⟩) H:=by
 cases l with
 |cons d l=>exact .refl
 |nil=>
  refine ⟨id,fun ρ Z u HA h1 h2=>⟨ρ,Z,?_,h2,fun _ _=>rfl, .refl _ _ _ _⟩⟩
  obtain ⟨ds,rfl,hl⟩:=h1.tuple_inv
  obtain ⟨ds⟩:=ds
  replace hl:VL ρ Z [.slice none 0 0,I c] ds:=hl
  obtain ⟨d1,r1,rfl,w1,hl2⟩:=hl.jB
  obtain ⟨_,_,rfl⟩:=w1.nil_inv
  have h5:VL ρ Z [Fz 0 33 [],I c] (.slice none 0 0::r1):=VL.cons (.z .fz0) hl2
  exact .tuple h5.1 h5.2
section
variable {H:BH} {K:Value→BH→Prop} {x:Bool}
theorem ac7 (hl:xss.length≤1048576) (hll: ∀xs∈xss,xs.length≤1048576) (h:uO xss) (hK:K (.tuple ⟨[kT (nP xss) (gu xss),I 0]⟩) H):aB x Cm [dU xss] H K:=by
 obtain ⟨hp,h8,h3⟩:=h
 have he:uQ xss=gu xss:=Tj hp
 have hlen:rP (kT (nP xss) (gu xss))=some (I ((gu xss).length:Nat)):=by
  generalize gu xss=l
  cases l<;>rfl
 refine bf (.cons .fz .nil) ?_
 refine aK Ig ?_;simp only [iV,aA]
 refine au fun Kr hKr=>?_;simp (disch:=omega) only [RA,↓reduceIte,Nat.reduceEqDiff,Nat.reduceBEq,Nat.reduceSub,Nat.reduceAdd,Nat.reduceMul,Nat.reduceLT,Nat.reduceLeDiff,Int.reduceLE,Int.reduceLT,Int.reduceEq,Int.reduceNeg,Int.reduceToNat,Int.reduceMul,Int.reduceAdd,Int.reduceSub,Int.reduceBEq,Int.reduceBNe,reduceCtorEq,RD];refine hKr _ _ ?_;clear hKr Kr;(try simp only [RN,reduceIte]);try refine aj rfl ?_
 refine au fun Kr hKr=>?_;simp (disch:=omega) only [RA,↓reduceIte,Nat.reduceEqDiff,Nat.reduceBEq,Nat.reduceSub,Nat.reduceAdd,Nat.reduceMul,Nat.reduceLT,Nat.reduceLeDiff,Int.reduceLE,Int.reduceLT,Int.reduceEq,Int.reduceNeg,Int.reduceToNat,Int.reduceMul,Int.reduceAdd,Int.reduceSub,Int.reduceBEq,Int.reduceBNe,reduceCtorEq,RD]
 refine Ja hl hll ?_
 rw [if_pos hp,if_pos h8]
 simp (disch:=omega) only [RA,↓reduceIte,Nat.reduceEqDiff,Nat.reduceBEq,Nat.reduceSub,Nat.reduceAdd,Nat.reduceMul,Nat.reduceLT,Nat.reduceLeDiff,Int.reduceLE,Int.reduceLT,Int.reduceEq,Int.reduceNeg,Int.reduceToNat,Int.reduceMul,Int.reduceAdd,Int.reduceSub,Int.reduceBEq,Int.reduceBNe,reduceCtorEq,RD]
 refine hKr _ _ ?_;clear hKr Kr;(try simp only [aH,aJ,aI]);(try simp only [RN,reduceIte]);try refine aj rfl ?_
 refine au fun Kr hKr=>?_;simp (disch:=omega) only [RA,↓reduceIte,Nat.reduceEqDiff,Nat.reduceBEq,Nat.reduceSub,Nat.reduceAdd,Nat.reduceMul,Nat.reduceLT,Nat.reduceLeDiff,Int.reduceLE,Int.reduceLT,Int.reduceEq,Int.reduceNeg,Int.reduceToNat,Int.reduceMul,Int.reduceAdd,Int.reduceSub,Int.reduceBEq,Int.reduceBNe,reduceCtorEq,RD];refine hKr _ _ ?_;clear hKr Kr;(try simp only [RN,reduceIte]);try refine aj rfl ?_
 refine aQ (t:=false) (by simp (disch:=omega) only [RA,↓reduceIte,Nat.reduceEqDiff,Nat.reduceBEq,Nat.reduceSub,Nat.reduceAdd,Nat.reduceMul,Nat.reduceLT,Nat.reduceLeDiff,Int.reduceLE,Int.reduceLT,Int.reduceEq,Int.reduceNeg,Int.reduceToNat,Int.reduceMul,Int.reduceAdd,Int.reduceSub,Int.reduceBEq,Int.reduceBNe,reduceCtorEq,RD]) ?_;(try simp only [RN,reduceIte]);try refine aj rfl ?_
 refine au fun Kr hKr=>?_;simp (disch:=omega) only [RA,↓reduceIte,Nat.reduceEqDiff,Nat.reduceBEq,Nat.reduceSub,Nat.reduceAdd,Nat.reduceMul,Nat.reduceLT,Nat.reduceLeDiff,Int.reduceLE,Int.reduceLT,Int.reduceEq,Int.reduceNeg,Int.reduceToNat,Int.reduceMul,Int.reduceAdd,Int.reduceSub,Int.reduceBEq,Int.reduceBNe,reduceCtorEq,RD]
 refine Tm hp h8 hll fun p' c'=>?_
 rw [he]
 simp (disch:=omega) only [RA,↓reduceIte,Nat.reduceEqDiff,Nat.reduceBEq,Nat.reduceSub,Nat.reduceAdd,Nat.reduceMul,Nat.reduceLT,Nat.reduceLeDiff,Int.reduceLE,Int.reduceLT,Int.reduceEq,Int.reduceNeg,Int.reduceToNat,Int.reduceMul,Int.reduceAdd,Int.reduceSub,Int.reduceBEq,Int.reduceBNe,reduceCtorEq,RD,eH]
 refine hKr _ _ ?_;clear hKr Kr;(try simp only [aH,aJ,aI]);(try simp only [RN,reduceIte]);try refine aj rfl ?_
 have e:decide ((3000:Int)<((gu xss).length:Nat))=false:=decide_eq_false (by omega)
 refine au fun Kr hKr=>?_;simp (disch:=omega) only [RA,↓reduceIte,Nat.reduceEqDiff,Nat.reduceBEq,Nat.reduceSub,Nat.reduceAdd,Nat.reduceMul,Nat.reduceLT,Nat.reduceLeDiff,Int.reduceLE,Int.reduceLT,Int.reduceEq,Int.reduceNeg,Int.reduceToNat,Int.reduceMul,Int.reduceAdd,Int.reduceSub,Int.reduceBEq,Int.reduceBNe,reduceCtorEq,RD,hlen];refine hKr _ _ ?_;clear hKr Kr;(try simp only [RN,reduceIte]);try refine aj rfl ?_
 refine aQ (t:=false) (by simp (disch:=omega) only [RA,↓reduceIte,Nat.reduceEqDiff,Nat.reduceBEq,Nat.reduceSub,Nat.reduceAdd,Nat.reduceMul,Nat.reduceLT,Nat.reduceLeDiff,Int.reduceLE,Int.reduceLT,Int.reduceEq,Int.reduceNeg,Int.reduceToNat,Int.reduceMul,Int.reduceAdd,Int.reduceSub,Int.reduceBEq,Int.reduceBNe,reduceCtorEq,RD,e]) ?_;(try simp only [RN,reduceIte]);try refine aj rfl ?_
 refine au fun Kr hKr=>?_;simp (disch:=omega) only [RA,↓reduceIte,Nat.reduceEqDiff,Nat.reduceBEq,Nat.reduceSub,Nat.reduceAdd,Nat.reduceMul,Nat.reduceLT,Nat.reduceLeDiff,Int.reduceLE,Int.reduceLT,Int.reduceEq,Int.reduceNeg,Int.reduceToNat,Int.reduceMul,Int.reduceAdd,Int.reduceSub,Int.reduceBEq,Int.reduceBNe,reduceCtorEq,RD];refine hKr _ _ ?_;clear hKr Kr;(try simp only [RN,reduceIte]);try refine aj rfl ?_
 refine aN (by simp (disch:=omega) only [RA,↓reduceIte,Nat.reduceEqDiff,Nat.reduceBEq,Nat.reduceSub,Nat.reduceAdd,Nat.reduceMul,Nat.reduceLT,Nat.reduceLeDiff,Int.reduceLE,Int.reduceLT,Int.reduceEq,Int.reduceNeg,Int.reduceToNat,Int.reduceMul,Int.reduceAdd,Int.reduceSub,Int.reduceBEq,Int.reduceBNe,reduceCtorEq,RD,resAll,resOf];rfl) aF.refl ?_;simp only [tup]
 exact ⟨NN.tuple (aP.cons Tn (aP.cons .int .nil)),hK⟩
theorem acC (hl:xss.length≤1048576) (hll: ∀xs∈xss,xs.length≤1048576) (h:uO xss) (hK:K (.tuple ⟨[LD (nP xss) (gu xss),I 0]⟩) H):aB x Cm [dU xss] H K:=
 (ac7 (K:=fun v H1=>v= .tuple ⟨[kT (nP xss) (gu xss),I 0]⟩∧H1=H) hl hll h ⟨rfl,rfl⟩).gh fun v H1 ⟨h1,h2⟩=>by
  subst h1;subst h2
  exact ⟨_,_,ac6,hK⟩
theorem acE (hl:xss.length≤1048576) (hll: ∀xs∈xss,xs.length≤1048576) (h: ¬uO xss) (hK:K (.tuple ⟨[.slice none 0 0,I (oH xss)]⟩) H):aB x Cm [dU xss] H K:=by
 refine bf (.cons .fz .nil) ?_
 refine aK Ig ?_;simp only [iV,aA]
 refine au fun Kr hKr=>?_;simp (disch:=omega) only [RA,↓reduceIte,Nat.reduceEqDiff,Nat.reduceBEq,Nat.reduceSub,Nat.reduceAdd,Nat.reduceMul,Nat.reduceLT,Nat.reduceLeDiff,Int.reduceLE,Int.reduceLT,Int.reduceEq,Int.reduceNeg,Int.reduceToNat,Int.reduceMul,Int.reduceAdd,Int.reduceSub,Int.reduceBEq,Int.reduceBNe,reduceCtorEq,RD];refine hKr _ _ ?_;clear hKr Kr;(try simp only [RN,reduceIte]);try refine aj rfl ?_
 refine au fun Kr hKr=>?_;simp (disch:=omega) only [RA,↓reduceIte,Nat.reduceEqDiff,Nat.reduceBEq,Nat.reduceSub,Nat.reduceAdd,Nat.reduceMul,Nat.reduceLT,Nat.reduceLeDiff,Int.reduceLE,Int.reduceLT,Int.reduceEq,Int.reduceNeg,Int.reduceToNat,Int.reduceMul,Int.reduceAdd,Int.reduceSub,Int.reduceBEq,Int.reduceBNe,reduceCtorEq,RD]
 refine Ja hl hll ?_
 by_cases hp:jD xss
 ·by_cases h8:nP xss≤8
  ·have h3: ¬(gu xss).length≤3000:=fun h3=>h ⟨hp,h8,h3⟩
   have he:uQ xss=gu xss:=Tj hp
   have hlen:rP (kT (nP xss) (gu xss))=some (I ((gu xss).length:Nat)):=by
    generalize gu xss=l
    cases l<;>rfl
   rw [oH,if_pos hp,if_pos h8] at hK
   rw [if_pos hp,if_pos h8]
   simp (disch:=omega) only [RA,↓reduceIte,Nat.reduceEqDiff,Nat.reduceBEq,Nat.reduceSub,Nat.reduceAdd,Nat.reduceMul,Nat.reduceLT,Nat.reduceLeDiff,Int.reduceLE,Int.reduceLT,Int.reduceEq,Int.reduceNeg,Int.reduceToNat,Int.reduceMul,Int.reduceAdd,Int.reduceSub,Int.reduceBEq,Int.reduceBNe,reduceCtorEq,RD]
   refine hKr _ _ ?_;clear hKr Kr;(try simp only [aH,aJ,aI]);(try simp only [RN,reduceIte]);try refine aj rfl ?_
   refine au fun Kr hKr=>?_;simp (disch:=omega) only [RA,↓reduceIte,Nat.reduceEqDiff,Nat.reduceBEq,Nat.reduceSub,Nat.reduceAdd,Nat.reduceMul,Nat.reduceLT,Nat.reduceLeDiff,Int.reduceLE,Int.reduceLT,Int.reduceEq,Int.reduceNeg,Int.reduceToNat,Int.reduceMul,Int.reduceAdd,Int.reduceSub,Int.reduceBEq,Int.reduceBNe,reduceCtorEq,RD];refine hKr _ _ ?_;clear hKr Kr;(try simp only [RN,reduceIte]);try refine aj rfl ?_
   refine aQ (t:=false) (by simp (disch:=omega) only [RA,↓reduceIte,Nat.reduceEqDiff,Nat.reduceBEq,Nat.reduceSub,Nat.reduceAdd,Nat.reduceMul,Nat.reduceLT,Nat.reduceLeDiff,Int.reduceLE,Int.reduceLT,Int.reduceEq,Int.reduceNeg,Int.reduceToNat,Int.reduceMul,Int.reduceAdd,Int.reduceSub,Int.reduceBEq,Int.reduceBNe,reduceCtorEq,RD]) ?_;(try simp only [RN,reduceIte]);try refine aj rfl ?_
   refine au fun Kr hKr=>?_;simp (disch:=omega) only [RA,↓reduceIte,Nat.reduceEqDiff,Nat.reduceBEq,Nat.reduceSub,Nat.reduceAdd,Nat.reduceMul,Nat.reduceLT,Nat.reduceLeDiff,Int.reduceLE,Int.reduceLT,Int.reduceEq,Int.reduceNeg,Int.reduceToNat,Int.reduceMul,Int.reduceAdd,Int.reduceSub,Int.reduceBEq,Int.reduceBNe,reduceCtorEq,RD]
   refine Tm hp h8 hll fun p' c'=>?_
   rw [he]
   simp (disch:=omega) only [RA,↓reduceIte,Nat.reduceEqDiff,Nat.reduceBEq,Nat.reduceSub,Nat.reduceAdd,Nat.reduceMul,Nat.reduceLT,Nat.reduceLeDiff,Int.reduceLE,Int.reduceLT,Int.reduceEq,Int.reduceNeg,Int.reduceToNat,Int.reduceMul,Int.reduceAdd,Int.reduceSub,Int.reduceBEq,Int.reduceBNe,reduceCtorEq,RD,eH]
   refine hKr _ _ ?_;clear hKr Kr;(try simp only [aH,aJ,aI]);(try simp only [RN,reduceIte]);try refine aj rfl ?_
   have e:decide ((3000:Int)<((gu xss).length:Nat))=true:=decide_eq_true (by omega)
   refine au fun Kr hKr=>?_;simp (disch:=omega) only [RA,↓reduceIte,Nat.reduceEqDiff,Nat.reduceBEq,Nat.reduceSub,Nat.reduceAdd,Nat.reduceMul,Nat.reduceLT,Nat.reduceLeDiff,Int.reduceLE,Int.reduceLT,Int.reduceEq,Int.reduceNeg,Int.reduceToNat,Int.reduceMul,Int.reduceAdd,Int.reduceSub,Int.reduceBEq,Int.reduceBNe,reduceCtorEq,RD,hlen];refine hKr _ _ ?_;clear hKr Kr;(try simp only [RN,reduceIte]);try refine aj rfl ?_
   refine aQ (t:=true) (by simp (disch:=omega) only [RA,↓reduceIte,Nat.reduceEqDiff,Nat.reduceBEq,Nat.reduceSub,Nat.reduceAdd,Nat.reduceMul,Nat.reduceLT,Nat.reduceLeDiff,Int.reduceLE,Int.reduceLT,Int.reduceEq,Int.reduceNeg,Int.reduceToNat,Int.reduceMul,Int.reduceAdd,Int.reduceSub,Int.reduceBEq,Int.reduceBNe,reduceCtorEq,RD,e]) ?_;(try simp only [RN,reduceIte]);try refine aj rfl ?_
   refine au fun Kr hKr=>?_;simp (disch:=omega) only [RA,↓reduceIte,Nat.reduceEqDiff,Nat.reduceBEq,Nat.reduceSub,Nat.reduceAdd,Nat.reduceMul,Nat.reduceLT,Nat.reduceLeDiff,Int.reduceLE,Int.reduceLT,Int.reduceEq,Int.reduceNeg,Int.reduceToNat,Int.reduceMul,Int.reduceAdd,Int.reduceSub,Int.reduceBEq,Int.reduceBNe,reduceCtorEq,RD];refine hKr _ _ ?_;clear hKr Kr;(try simp only [RN,reduceIte]);try refine aj rfl ?_
   refine aN (by simp (disch:=omega) only [RA,↓reduceIte,Nat.reduceEqDiff,Nat.reduceBEq,Nat.reduceSub,Nat.reduceAdd,Nat.reduceMul,Nat.reduceLT,Nat.reduceLeDiff,Int.reduceLE,Int.reduceLT,Int.reduceEq,Int.reduceNeg,Int.reduceToNat,Int.reduceMul,Int.reduceAdd,Int.reduceSub,Int.reduceBEq,Int.reduceBNe,reduceCtorEq,RD,resAll,resOf];rfl) aF.refl ?_;simp only [tup]
   exact ⟨BM,hK⟩
  ·rw [oH,if_pos hp,if_neg h8] at hK
   rw [if_pos hp,if_neg h8]
   simp (disch:=omega) only [RA,↓reduceIte,Nat.reduceEqDiff,Nat.reduceBEq,Nat.reduceSub,Nat.reduceAdd,Nat.reduceMul,Nat.reduceLT,Nat.reduceLeDiff,Int.reduceLE,Int.reduceLT,Int.reduceEq,Int.reduceNeg,Int.reduceToNat,Int.reduceMul,Int.reduceAdd,Int.reduceSub,Int.reduceBEq,Int.reduceBNe,reduceCtorEq,RD]
   refine hKr _ _ ?_;clear hKr Kr;(try simp only [aH,aJ,aI]);(try simp only [RN,reduceIte]);try refine aj rfl ?_
   refine au fun Kr hKr=>?_;simp (disch:=omega) only [RA,↓reduceIte,Nat.reduceEqDiff,Nat.reduceBEq,Nat.reduceSub,Nat.reduceAdd,Nat.reduceMul,Nat.reduceLT,Nat.reduceLeDiff,Int.reduceLE,Int.reduceLT,Int.reduceEq,Int.reduceNeg,Int.reduceToNat,Int.reduceMul,Int.reduceAdd,Int.reduceSub,Int.reduceBEq,Int.reduceBNe,reduceCtorEq,RD];refine hKr _ _ ?_;clear hKr Kr;(try simp only [RN,reduceIte]);try refine aj rfl ?_
   refine aQ (t:=true) (by simp (disch:=omega) only [RA,↓reduceIte,Nat.reduceEqDiff,Nat.reduceBEq,Nat.reduceSub,Nat.reduceAdd,Nat.reduceMul,Nat.reduceLT,Nat.reduceLeDiff,Int.reduceLE,Int.reduceLT,Int.reduceEq,Int.reduceNeg,Int.reduceToNat,Int.reduceMul,Int.reduceAdd,Int.reduceSub,Int.reduceBEq,Int.reduceBNe,reduceCtorEq,RD]) ?_;(try simp only [RN,reduceIte]);try refine aj rfl ?_
   refine au fun Kr hKr=>?_;simp (disch:=omega) only [RA,↓reduceIte,Nat.reduceEqDiff,Nat.reduceBEq,Nat.reduceSub,Nat.reduceAdd,Nat.reduceMul,Nat.reduceLT,Nat.reduceLeDiff,Int.reduceLE,Int.reduceLT,Int.reduceEq,Int.reduceNeg,Int.reduceToNat,Int.reduceMul,Int.reduceAdd,Int.reduceSub,Int.reduceBEq,Int.reduceBNe,reduceCtorEq,RD];refine hKr _ _ ?_;clear hKr Kr;(try simp only [RN,reduceIte]);try refine aj rfl ?_
   refine aN (by simp (disch:=omega) only [RA,↓reduceIte,Nat.reduceEqDiff,Nat.reduceBEq,Nat.reduceSub,Nat.reduceAdd,Nat.reduceMul,Nat.reduceLT,Nat.reduceLeDiff,Int.reduceLE,Int.reduceLT,Int.reduceEq,Int.reduceNeg,Int.reduceToNat,Int.reduceMul,Int.reduceAdd,Int.reduceSub,Int.reduceBEq,Int.reduceBNe,reduceCtorEq,RD,resAll,resOf];rfl) aF.refl ?_;simp only [tup]
   exact ⟨BM,hK⟩
 ·rw [oH,if_neg hp] at hK
  rw [if_neg hp]
  simp (disch:=omega) only [RA,↓reduceIte,Nat.reduceEqDiff,Nat.reduceBEq,Nat.reduceSub,Nat.reduceAdd,Nat.reduceMul,Nat.reduceLT,Nat.reduceLeDiff,Int.reduceLE,Int.reduceLT,Int.reduceEq,Int.reduceNeg,Int.reduceToNat,Int.reduceMul,Int.reduceAdd,Int.reduceSub,Int.reduceBEq,Int.reduceBNe,reduceCtorEq,RD]
  refine hKr _ _ ?_;clear hKr Kr;(try simp only [aH,aJ,aI]);(try simp only [RN,reduceIte]);try refine aj rfl ?_
  refine au fun Kr hKr=>?_;simp (disch:=omega) only [RA,↓reduceIte,Nat.reduceEqDiff,Nat.reduceBEq,Nat.reduceSub,Nat.reduceAdd,Nat.reduceMul,Nat.reduceLT,Nat.reduceLeDiff,Int.reduceLE,Int.reduceLT,Int.reduceEq,Int.reduceNeg,Int.reduceToNat,Int.reduceMul,Int.reduceAdd,Int.reduceSub,Int.reduceBEq,Int.reduceBNe,reduceCtorEq,RD];refine hKr _ _ ?_;clear hKr Kr;(try simp only [RN,reduceIte]);try refine aj rfl ?_
  refine aQ (t:=true) (by simp (disch:=omega) only [RA,↓reduceIte,Nat.reduceEqDiff,Nat.reduceBEq,Nat.reduceSub,Nat.reduceAdd,Nat.reduceMul,Nat.reduceLT,Nat.reduceLeDiff,Int.reduceLE,Int.reduceLT,Int.reduceEq,Int.reduceNeg,Int.reduceToNat,Int.reduceMul,Int.reduceAdd,Int.reduceSub,Int.reduceBEq,Int.reduceBNe,reduceCtorEq,RD]) ?_;(try simp only [RN,reduceIte]);try refine aj rfl ?_
  refine au fun Kr hKr=>?_;simp (disch:=omega) only [RA,↓reduceIte,Nat.reduceEqDiff,Nat.reduceBEq,Nat.reduceSub,Nat.reduceAdd,Nat.reduceMul,Nat.reduceLT,Nat.reduceLeDiff,Int.reduceLE,Int.reduceLT,Int.reduceEq,Int.reduceNeg,Int.reduceToNat,Int.reduceMul,Int.reduceAdd,Int.reduceSub,Int.reduceBEq,Int.reduceBNe,reduceCtorEq,RD];refine hKr _ _ ?_;clear hKr Kr;(try simp only [RN,reduceIte]);try refine aj rfl ?_
  refine aN (by simp (disch:=omega) only [RA,↓reduceIte,Nat.reduceEqDiff,Nat.reduceBEq,Nat.reduceSub,Nat.reduceAdd,Nat.reduceMul,Nat.reduceLT,Nat.reduceLeDiff,Int.reduceLE,Int.reduceLT,Int.reduceEq,Int.reduceNeg,Int.reduceToNat,Int.reduceMul,Int.reduceAdd,Int.reduceSub,Int.reduceBEq,Int.reduceBNe,reduceCtorEq,RD,resAll,resOf];rfl) aF.refl ?_;simp only [tup]
  exact ⟨BM,hK⟩
end
end
end Go.Bm.Q7
