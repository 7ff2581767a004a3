/- DpQg, DpQh, DpQf, DpQi, DpDn, DpAa, Dp5, DpDp, DpPk, DpDo, DpYe, DpYf, DpQk, DpQl, DpQm -/
import Derived.Test.YtbpfbfbabpkceaaGreatDpG1
import Derived.Test.YtbpfbfbabpkceaaGreatDpG2
import Derived.Test.YtbpfbfbabpkceaaGreatDpG3
import Derived.Test.YtbpfbfbabpkceaaGreatDpG4
import Derived.Test.YtbpfbfbabpkceaaGreatDpG5
import Derived.Test.YtbpfbfbabpkceaaGreatDpG7
set_option linter.unusedVariables false
set_option linter.unusedSimpArgs false
set_option linter.unusedSectionVars false
namespace Go.Bm.Q5
open Go Go.Am Go.Bm
theorem VJ {d:L2}: ∀{l:List L2} {k:Nat},k≤l.length→(∀j e,j<k→l[j]? =some e→cZ e d)→(∀j e,k≤j→l[j]? =some e→ ¬cZ e d)→iH d l=if l[k]? =some d then l else l.take k++d::l.drop k
 |[],k,hk,_,_=>by
  obtain rfl:k=0:=by simpa using hk
  simp [iH]
 |e::l,0,_,_,h=>by
  have h1: ¬cZ e d:=h 0 e (Nat.le_refl _) rfl
  simp only [iH,if_neg h1]
  by_cases h2:cZ d e
  ·rw [if_pos h2,if_neg (fun he=>by simp at he;subst he;exact sK _ h2)]
   rfl
  ·rw [if_neg h2,if_pos (by rw [yE h1 h2];rfl)]
 |e::l,k+1,hk,h1,h2=>by
  have h3:cZ e d:=h1 0 e (by omega) rfl
  have ih:=VJ (l:=l) (k:=k) (by simpa using hk) (fun j x hj hx=>h1 (j+1) x (by omega) (by simpa using hx)) (fun j x hj hx=>h2 (j+1) x (by omega) (by simpa using hx))
  simp only [iH,if_pos h3,ih]
  rw [List.getElem?_cons_succ]
  split<;>rfl
abbrev LD (n:Nat) (l:List L2):Value:=Fz l.length 33 (DL n l)
theorem uz {n:Nat}: ∀{l:List L2},(∀d∈l,By 16 d.1∧By 16 d.2)→(DL n l).length=l.length*33
 |[],_=>rfl
 |d::l,h=>by
  obtain ⟨h1,h2⟩:=h d (by simp)
  have ih:=uz (n:=n) (l:=l) fun x hx=>h x (by simp [hx])
  have h3:=h1.len
  have h4:=h2.len
  show (DC n d.1 d.2++DL n l).length=_
  rw [List.length_append,ih]
  simp [h3,h4]
  omega
theorem D9 {n:Nat}: ∀{l:List L2} {k:Nat},(∀d∈l,By 16 d.1∧By 16 d.2)→(DL n l).drop (k*33)=DL n (l.drop k)
 |l,0,_=>by simp
 |[],k+1,_=>by simp [DL]
 |d::l,k+1,h=>by
  obtain ⟨h1,h2⟩:=h d (by simp)
  have ih:=D9 (n:=n) (l:=l) (k:=k) fun x hx=>h x (by simp [hx])
  have h3:(DC n d.1 d.2).length=33:=by simp [h1.len,h2.len]
  show (DC n d.1 d.2++DL n l).drop ((k+1)*33)=_
  rw [List.drop_append,List.drop_of_length_le (by omega),h3,show (k+1)*33-33=k*33 by omega,ih]
  rfl
theorem VK {n:Nat}: ∀{l:List L2} {k:Nat},(∀d∈l,By 16 d.1∧By 16 d.2)→(DL n l).take (k*33)=DL n (l.take k)
 |l,0,_=>by simp [DL]
 |[],k+1,_=>by simp [DL]
 |d::l,k+1,h=>by
  obtain ⟨h1,h2⟩:=h d (by simp)
  have ih:=VK (n:=n) (l:=l) (k:=k) fun x hx=>h x (by simp [hx])
  have h3:(DC n d.1 d.2).length=33:=by simp [h1.len,h2.len]
  show (DC n d.1 d.2++DL n l).take ((k+1)*33)=DC n d.1 d.2++DL n (l.take k)
  rw [List.take_append,List.take_of_length_le (by omega),h3,show (k+1)*33-33=k*33 by omega,ih]
theorem afq {n:Nat} {l k:List L2}:DL n (l++k)=DL n l++DL n k:=List.flatMap_append
theorem Ec {n:Nat} {l:List L2} {k:Nat} {d:L2} (h: ∀d∈l,By 16 d.1∧By 16 d.2) (hk:l[k]? =some d):getN (some 33) (DL n l) (k*33)=some (DV n d.1 d.2):=by
 have hlt:k<l.length:=(List.getElem?_eq_some_iff.1 hk).1
 have hd:l.drop k=d::l.drop (k+1):=by
  rw [List.drop_eq_getElem_cons hlt]
  congr 1
  exact (List.getElem?_eq_some_iff.1 hk).2
 obtain ⟨h1,h2⟩:=h d (List.mem_of_getElem? hk)
 have h3:(DC n d.1 d.2).length=33:=by simp [h1.len,h2.len]
 have h4:=uz (n:=n) h
 have h5:(DL n l).drop (k*33)=DC n d.1 d.2++DL n (l.drop (k+1)):=by rw [D9 h,hd];rfl
 have h6:((DL n l).drop (k*33)).take 33=DC n d.1 d.2:=by rw [h5,List.take_append,List.take_of_length_le (by omega),h3];simp
 simp only [getN]
 rw [if_pos (by omega),h6]
theorem afr {z cs:List Value} (hz:z.length=33) (hc:cs.length=33):fillL (repl z 1) [(0,33,aggL cs)]=some cs:=by
 have e:repl z 1=z:=by simp [repl]
 have e2:cellsL (aggL cs)=cs:=rfl
 rw [e,fillL,e2,if_pos ⟨hc,by omega⟩,fillL,splice,hc,List.drop_of_length_le (by omega)]
 simp
theorem VN {H:BH} {b k m:Nat} {cs ys:List Value} (hb:blk H b=some cs) (h1:ys.length=m*33) (h2:k*33≤cs.length) (h3:(k+m)*40≤140737488355328) (h4:ys.all fJ=true):
  eH 33 40 (S b 0 k 33) (Fz m 33 ys) H=some (S H.length 0 (k+m) 33,(H.set b none)++[some (cs.take (k*33)++ys)]):=by
 by_cases hm:m=0
 ·subst hm
  obtain rfl:ys=[]:=List.eq_nil_of_length_eq_zero (by omega)
  simp only [Nat.add_zero] at h3
  simp [eH,newC,Fz,hb,h2,h3]
 ·simp only [eH,newC,Fz,if_neg hm,if_true,hb]
  rw [if_pos ⟨h2,h3,h4⟩]
theorem afs {H:BH} {b c k m:Nat} {cs ys:List Value} (hb:blk H b=some cs) (hc:blk H c=some ys) (hm:m≠0) (h1:ys.length=m*33) (h2:k*33≤cs.length) (h3:(k+m)*40≤140737488355328) (h4:ys.all fJ=true):
  eH 33 40 (S b 0 k 33) (S c 0 m 33) H=some (S H.length 0 (k+m) 33,(H.set b none)++[some (cs.take (k*33)++ys)]):=by
 have e:(ys.drop 0).take (m*33)=ys:=by rw [List.drop_zero,List.take_of_length_le (by omega)]
 simp only [eH,newC,if_neg hm,if_true,hb,hc]
 rw [if_pos (by omega)]
 simp only [e]
 rw [if_pos ⟨h2,h3,h4⟩]
theorem Jg {n:Nat} {l:List L2}:(DL n l).all fJ=true:=List.all_eq_true.2 fun v hv=>by
 obtain ⟨d,_,hd⟩:=List.mem_flatMap.1 hv
 rcases List.mem_cons.1 hd with rfl|hd
 ·rfl
 ·rcases List.mem_append.1 hd with hd|hd<;>(obtain ⟨x,_,rfl⟩:=List.mem_map.1 hd;rfl)
section
variable {n:Nat} {l:List L2} {d:L2} (hl: ∀d∈l,By 16 d.1∧By 16 d.2) (hd:By 16 d.1∧By 16 d.2) (hs:l.Pairwise cZ) (hn:l.length≤100000)
include hl hd hs hn
theorem VO {j k:Nat} {x y:L2} (hj:l[j]? =some x) (hk:l[k]? =some y) (h:j<k):cZ x y:=by
 obtain ⟨h1,rfl⟩:=List.getElem?_eq_some_iff.1 hj
 obtain ⟨h2,rfl⟩:=List.getElem?_eq_some_iff.1 hk
 exact List.pairwise_iff_getElem.1 hs j k h1 h2 h
omit hs in
theorem VP {a:Nat} (ha:a≤l.length): ∀f:Fr,iH d l=l.take a++d::l.drop a→f 0=LD n l→f 3=P 0 0→f 5=I a→
  T 0 (gu.r9.seq (gu.r10.seq ACode.ret)) (mg 0 [ARes.tmp 4] fun v H1=>v=LD n (iH d l)∨ ∃j,v=S j 0 (iH d l).length 33∧blk H1 j=some (DL n (iH d l))) f [some (DC n d.1 d.2)]:=by
 intro f hins g0 g3 g5
 have hd1:=hd.1.len
 have hd2:=hd.2.len
 have hfl:fillL (repl (DC 0 fQ fQ) 1) [(0,33,aggL (DC n d.1 d.2))]=some (DC n d.1 d.2):=afr (by simp [jS]) (by simp [hd1,hd2])
 have hT:=fun x (hx:x∈l.take a)=>hl x (List.mem_of_mem_take hx)
 have hD:=fun x (hx:x∈l.drop a)=>hl x (List.mem_of_mem_drop hx)
 have lT:=uz (n:=n) hT
 have lD:=uz (n:=n) hD
 have nT:(l.take a).length=a:=by rw [List.length_take];omega
 have nD:(l.drop a).length=l.length-a:=by rw [List.length_drop]
 have hs1:mP 33 (LD n l) (some (I a)) none=some (LD n (l.drop a)):=by
  rw [DF (wE (by omega)),Int.toNat_natCast,D9 hl,List.take_of_length_le (l:=DL n (l.drop a)) (by omega)]
  show some (Fz (l.length-a) 33 _)=some (Fz (l.drop a).length 33 _)
  rw [nD]
 have hs2:mP 33 (LD n l) none (some (I a))=some (LD n (l.take a)):=by
  rw [DF (zC (by omega)),Int.toNat_natCast,Nat.zero_mul,List.drop_zero,Nat.sub_zero,VK hl]
  show some (Fz a 33 _)=some (Fz (l.take a).length 33 _)
  rw [nT]
 have hcd:(DC n d.1 d.2).length=33:=by simp [hd1,hd2]
 have ha1:eH 33 40 (S 1 0 1 33) (LD n (l.drop a)) [some (DC n d.1 d.2),some (DC n d.1 d.2)]=some (S 2 0 (1+(l.drop a).length) 33,[some (DC n d.1 d.2),none,some (DL n (d::l.drop a))]):=by
  rw [VN (cs:=DC n d.1 d.2) rfl lD (by omega) (by omega) Jg,List.take_of_length_le (l:=DC n d.1 d.2) (by omega)]
  rfl
 have ha2: ∀X:List Value,eH 33 40 (S 3 0 0 33) (LD n (l.take a)) [some (DC n d.1 d.2),none,some X,some []]=some (S 4 0 (0+(l.take a).length) 33,[some (DC n d.1 d.2),none,some X,none,some (DL n (l.take a))]):=fun X=>by
  rw [VN (cs:=[]) rfl lT (by simp) (by omega) Jg]
  rfl
 have lX:(DL n (d::l.drop a)).length=(1+(l.drop a).length)*33:=by
  show (DC n d.1 d.2++DL n (l.drop a)).length=_
  rw [List.length_append,hcd,lD]
  omega
 have ha3:eH 33 40 (S 4 0 (l.take a).length 33) (S 2 0 (1+(l.drop a).length) 33) [some (DC n d.1 d.2),none,some (DL n (d::l.drop a)),none,some (DL n (l.take a))]=
   some (S 5 0 ((l.take a).length+(1+(l.drop a).length)) 33,[some (DC n d.1 d.2),none,some (DL n (d::l.drop a)),none,none,some (DL n (l.take a)++DL n (d::l.drop a))]):=by
  rw [afs (cs:=DL n (l.take a)) rfl rfl (by omega) lX (by omega) (by omega) Jg,List.take_of_length_le (l:=DL n (l.take a)) (by omega)]
  rfl
 refine au fun Kr hKr=>?_;simp (disch:=omega) only [RA,↓reduceIte,Nat.reduceEqDiff,Nat.reduceBEq,Nat.reduceSub,Nat.reduceAdd,Nat.reduceMul,Nat.reduceLT,Nat.reduceLeDiff,Int.reduceLE,Int.reduceLT,Int.reduceEq,Int.reduceNeg,Int.reduceToNat,Int.reduceMul,Int.reduceAdd,Int.reduceSub,Int.reduceBEq,Int.reduceBNe,reduceCtorEq,RD,g0,g3,g5,aI,aT,R4,hfl,hs1,ha1];refine hKr _ _ ?_;clear hKr Kr;(try simp only [RN,reduceIte]);try refine aj rfl ?_
 have hr0:repl (DC 0 fQ fQ) 0=[]:=rfl
 refine au fun Kr hKr=>?_;simp (disch:=omega) only [RA,↓reduceIte,Nat.reduceEqDiff,Nat.reduceBEq,Nat.reduceSub,Nat.reduceAdd,Nat.reduceMul,Nat.reduceLT,Nat.reduceLeDiff,Int.reduceLE,Int.reduceLT,Int.reduceEq,Int.reduceNeg,Int.reduceToNat,Int.reduceMul,Int.reduceAdd,Int.reduceSub,Int.reduceBEq,Int.reduceBNe,reduceCtorEq,RD,g0,g3,g5,aI,aT,R4,hs2,hr0,ha2,ha3];refine hKr _ _ ?_;clear hKr Kr;(try simp only [RN,reduceIte]);try refine aj rfl ?_
 refine bZ (by simp (disch:=omega) only [RA,↓reduceIte,Nat.reduceEqDiff,Nat.reduceBEq,Nat.reduceSub,Nat.reduceAdd,Nat.reduceMul,Nat.reduceLT,Nat.reduceLeDiff,Int.reduceLE,Int.reduceLT,Int.reduceEq,Int.reduceNeg,Int.reduceToNat,Int.reduceMul,Int.reduceAdd,Int.reduceSub,Int.reduceBEq,Int.reduceBNe,reduceCtorEq,RD,resAll,resOf];rfl) aY.refl ?_;simp only [tup]
 rw [hins]
 refine .inr ⟨5,?_,by rw [afq];rfl⟩
 rw [List.length_append,List.length_cons]
 congr 1
 omega
theorem aft:aF false KE [LD n l,DV n d.1 d.2] [] fun v H1=>v=LD n (iH d l)∨ ∃j,v=S j 0 (iH d l).length 33∧blk H1 j=some (DL n (iH d l)):=by
 have gone: ∀{v:Value},getN none [v] 0=some v:=rfl
 have hz:=jS
 have hd1:=hd.1.len
 have hd2:=hd.2.len
 refine aG Y8 ?_;simp only [gu,aB]
 refine au fun Kr hKr=>?_;simp (disch:=omega) only [RA,↓reduceIte,Nat.reduceEqDiff,Nat.reduceBEq,Nat.reduceSub,Nat.reduceAdd,Nat.reduceMul,Nat.reduceLT,Nat.reduceLeDiff,Int.reduceLE,Int.reduceLT,Int.reduceEq,Int.reduceNeg,Int.reduceToNat,Int.reduceMul,Int.reduceAdd,Int.reduceSub,Int.reduceBEq,Int.reduceBNe,reduceCtorEq,RD,aI,aT,R4];refine hKr _ _ ?_;clear hKr Kr;(try simp only [RN,reduceIte]);try refine aj rfl ?_
 refine au fun Kr hKr=>?_;simp (disch:=omega) only [RA,↓reduceIte,Nat.reduceEqDiff,Nat.reduceBEq,Nat.reduceSub,Nat.reduceAdd,Nat.reduceMul,Nat.reduceLT,Nat.reduceLeDiff,Int.reduceLE,Int.reduceLT,Int.reduceEq,Int.reduceNeg,Int.reduceToNat,Int.reduceMul,Int.reduceAdd,Int.reduceSub,Int.reduceBEq,Int.reduceBNe,reduceCtorEq,RD];refine hKr _ _ ?_;clear hKr Kr;(try simp only [RN,reduceIte]);try refine aj rfl ?_
 refine aW (fun m f H'=> ∃a b,a≤b∧b≤l.length∧m=b-a∧(∀j e,j<a→l[j]? =some e→cZ e d)∧(∀j e,b≤j→l[j]? =some e→ ¬cZ e d)∧f 0=LD n l∧f 3=P 0 0∧f 5=I a∧f 6=I b∧H'=[some (DC n d.1 d.2)]) (l.length) ?_ ?_
 ·refine ⟨_,_,Gh.refl,0,l.length,by omega,by omega,by omega,fun j e hj=>absurd hj (Nat.not_lt_zero j),fun j e hj he=>(by rw [List.getElem?_eq_none hj] at he;cases he),?_,?_,?_,?_,rfl⟩
  any_goals (simp (disch:=omega) only [RA,↓reduceIte,Nat.reduceEqDiff,Nat.reduceBEq,Nat.reduceSub,Nat.reduceAdd,Nat.reduceMul,Nat.reduceLT,Nat.reduceLeDiff,Int.reduceLE,Int.reduceLT,Int.reduceEq,Int.reduceNeg,Int.reduceToNat,Int.reduceMul,Int.reduceAdd,Int.reduceSub,Int.reduceBEq,Int.reduceBNe,reduceCtorEq,RD,RE, *]<;>rfl)
 ·rintro m f H' R ⟨a,b,hab,hbl,rfl,hlo,hhi,g0,g3,g5,g6,rfl⟩ hN hX hR hE
  simp only [gu.l0,aB]
  refine au fun Kr hKr=>?_;simp (disch:=omega) only [RA,↓reduceIte,Nat.reduceEqDiff,Nat.reduceBEq,Nat.reduceSub,Nat.reduceAdd,Nat.reduceMul,Nat.reduceLT,Nat.reduceLeDiff,Int.reduceLE,Int.reduceLT,Int.reduceEq,Int.reduceNeg,Int.reduceToNat,Int.reduceMul,Int.reduceAdd,Int.reduceSub,Int.reduceBEq,Int.reduceBNe,reduceCtorEq,RD,g5,g6];refine hKr _ _ ?_;clear hKr Kr;(try simp only [RN,reduceIte]);try refine aj rfl ?_
  refine eY (p:=a<b) (by simp only [RA,↓reduceIte,Nat.reduceEqDiff,Nat.reduceBEq,Nat.reduceSub,Nat.reduceAdd,Nat.reduceMul,Nat.reduceLT,Nat.reduceLeDiff,Int.reduceLE,Int.reduceLT,Int.reduceEq,Int.reduceNeg,Int.reduceToNat,Int.reduceMul,Int.reduceAdd,Int.reduceSub,Int.reduceBEq,Int.reduceBNe,reduceCtorEq]<;>rfl) (by (try simp only [RB])<;>first|done|exact Iff.rfl|omega|simp) (fun hc=>?_) (fun hc=>?_)<;>(try simp only [RN,reduceIte])<;>(try refine aj rfl ?_)
  ·have hlt:a<b:=by assumption
   obtain ⟨c,hc⟩: ∃c,c=(a+b)/2:=⟨_,rfl⟩
   have hc2:((a:Int)+b).tdiv 2=c:=by
    rw [hc]
    have:((a:Int)+b)=((a+b:Nat):Int):=by omega
    rw [this]
    rfl
   have hca:a≤c∧c<b:=by omega
   obtain ⟨e,he⟩: ∃e,l[c]? =some e:=⟨_,List.getElem?_eq_getElem (by omega)⟩
   have hel:=hl e (List.mem_of_getElem? he)
   have hge:=Ec (n:=n) hl he
   (first|refine fV rfl ?_|refine fZ rfl ?_);(try simp only [RN,reduceIte]);try refine aj rfl ?_
   refine au fun Kr hKr=>?_;simp (disch:=omega) only [RA,↓reduceIte,Nat.reduceEqDiff,Nat.reduceBEq,Nat.reduceSub,Nat.reduceAdd,Nat.reduceMul,Nat.reduceLT,Nat.reduceLeDiff,Int.reduceLE,Int.reduceLT,Int.reduceEq,Int.reduceNeg,Int.reduceToNat,Int.reduceMul,Int.reduceAdd,Int.reduceSub,Int.reduceBEq,Int.reduceBNe,reduceCtorEq,RD,g5,g6,hc2];refine hKr _ _ ?_;clear hKr Kr;(try simp only [RN,reduceIte]);try refine aj rfl ?_
   refine au fun Kr hKr=>?_;simp (disch:=omega) only [RA,↓reduceIte,Nat.reduceEqDiff,Nat.reduceBEq,Nat.reduceSub,Nat.reduceAdd,Nat.reduceMul,Nat.reduceLT,Nat.reduceLeDiff,Int.reduceLE,Int.reduceLT,Int.reduceEq,Int.reduceNeg,Int.reduceToNat,Int.reduceMul,Int.reduceAdd,Int.reduceSub,Int.reduceBEq,Int.reduceBNe,reduceCtorEq,RD,g0,g3,hge,aI,aT,R4]
   refine VQ hel.1 hel.2 hd.1 hd.2 ?_
   simp (disch:=omega) only [RA,↓reduceIte,Nat.reduceEqDiff,Nat.reduceBEq,Nat.reduceSub,Nat.reduceAdd,Nat.reduceMul,Nat.reduceLT,Nat.reduceLeDiff,Int.reduceLE,Int.reduceLT,Int.reduceEq,Int.reduceNeg,Int.reduceToNat,Int.reduceMul,Int.reduceAdd,Int.reduceSub,Int.reduceBEq,Int.reduceBNe,reduceCtorEq,RD]
   refine hKr _ _ ?_;clear hKr Kr;(try simp only [bW,dH,dG]);(try simp only [RN,reduceIte]);try refine aj rfl ?_
   by_cases hle:cZ e d
   ·have a1:((c:Nat):Int)+1=((c+1:Nat):Int):=by omega
    have hlo2: ∀j x,j<c+1→l[j]? =some x→cZ x d:=fun j x hj hx=>by
     rcases Nat.lt_or_ge j c with h|h
     ·exact lt2_trans (VO hl hd hs hn hx he h) hle
     ·obtain rfl:j=c:=by omega
      rw [he] at hx
      cases hx
      exact hle
    refine jX (t:=true) (by simp (disch:=omega) only [RA,↓reduceIte,Nat.reduceEqDiff,Nat.reduceBEq,Nat.reduceSub,Nat.reduceAdd,Nat.reduceMul,Nat.reduceLT,Nat.reduceLeDiff,Int.reduceLE,Int.reduceLT,Int.reduceEq,Int.reduceNeg,Int.reduceToNat,Int.reduceMul,Int.reduceAdd,Int.reduceSub,Int.reduceBEq,Int.reduceBNe,reduceCtorEq,RD,decide_eq_true hle]) ?_;(try simp only [RN,reduceIte]);try refine aj rfl ?_
    refine dN fun Kr hKr=>?_;simp (disch:=omega) only [RA,↓reduceIte,Nat.reduceEqDiff,Nat.reduceBEq,Nat.reduceSub,Nat.reduceAdd,Nat.reduceMul,Nat.reduceLT,Nat.reduceLeDiff,Int.reduceLE,Int.reduceLT,Int.reduceEq,Int.reduceNeg,Int.reduceToNat,Int.reduceMul,Int.reduceAdd,Int.reduceSub,Int.reduceBEq,Int.reduceBNe,reduceCtorEq,RD,a1];refine hKr _ _ ?_;clear hKr Kr
    refine hN (b-(c+1)) _ _ _ _ (by omega) Gh.refl ⟨c+1,b,by omega,hbl,rfl,hlo2,hhi,?_,?_,?_,?_,rfl⟩
    any_goals (simp (disch:=omega) only [RA,↓reduceIte,Nat.reduceEqDiff,Nat.reduceBEq,Nat.reduceSub,Nat.reduceAdd,Nat.reduceMul,Nat.reduceLT,Nat.reduceLeDiff,Int.reduceLE,Int.reduceLT,Int.reduceEq,Int.reduceNeg,Int.reduceToNat,Int.reduceMul,Int.reduceAdd,Int.reduceSub,Int.reduceBEq,Int.reduceBNe,reduceCtorEq,RD,RE, *]<;>rfl)
   ·have hhi2: ∀j x,c≤j→l[j]? =some x→ ¬cZ x d:=fun j x hj hx hxd=>by
     rcases Nat.lt_or_ge c j with h|h
     ·exact hle (lt2_trans (VO hl hd hs hn he hx h) hxd)
     ·obtain rfl:j=c:=by omega
      rw [he] at hx
      cases hx
      exact hle hxd
    refine jX (t:=false) (by simp (disch:=omega) only [RA,↓reduceIte,Nat.reduceEqDiff,Nat.reduceBEq,Nat.reduceSub,Nat.reduceAdd,Nat.reduceMul,Nat.reduceLT,Nat.reduceLeDiff,Int.reduceLE,Int.reduceLT,Int.reduceEq,Int.reduceNeg,Int.reduceToNat,Int.reduceMul,Int.reduceAdd,Int.reduceSub,Int.reduceBEq,Int.reduceBNe,reduceCtorEq,RD,decide_eq_false hle]) ?_;(try simp only [RN,reduceIte]);try refine aj rfl ?_
    refine dN fun Kr hKr=>?_;simp (disch:=omega) only [RA,↓reduceIte,Nat.reduceEqDiff,Nat.reduceBEq,Nat.reduceSub,Nat.reduceAdd,Nat.reduceMul,Nat.reduceLT,Nat.reduceLeDiff,Int.reduceLE,Int.reduceLT,Int.reduceEq,Int.reduceNeg,Int.reduceToNat,Int.reduceMul,Int.reduceAdd,Int.reduceSub,Int.reduceBEq,Int.reduceBNe,reduceCtorEq,RD];refine hKr _ _ ?_;clear hKr Kr
    refine hN (c-a) _ _ _ _ (by omega) Gh.refl ⟨a,c,by omega,by omega,rfl,hlo,hhi2,?_,?_,?_,?_,rfl⟩
    any_goals (simp (disch:=omega) only [RA,↓reduceIte,Nat.reduceEqDiff,Nat.reduceBEq,Nat.reduceSub,Nat.reduceAdd,Nat.reduceMul,Nat.reduceLT,Nat.reduceLeDiff,Int.reduceLE,Int.reduceLT,Int.reduceEq,Int.reduceNeg,Int.reduceToNat,Int.reduceMul,Int.reduceAdd,Int.reduceSub,Int.reduceBEq,Int.reduceBNe,reduceCtorEq,RD,RE, *]<;>rfl)
  ·refine hX _ _ ?_
   obtain rfl:a=b:=by omega
   have hins:=VJ hbl hlo hhi
   simp only [aB]
   by_cases hal:a<l.length
   ·obtain ⟨e,he⟩: ∃e,l[a]? =some e:=⟨_,List.getElem?_eq_getElem hal⟩
    have hel:=hl e (List.mem_of_getElem? he)
    have hge:=Ec (n:=n) hl he
    have q1:=hel.1.len
    have q2:=hel.2.len
    have hrest:=VP (n:=n) (l:=l) (d:=d) hl hd hn (a:=a) (by omega)
    refine au fun Kr hKr=>?_;simp (disch:=omega) only [RA,↓reduceIte,Nat.reduceEqDiff,Nat.reduceBEq,Nat.reduceSub,Nat.reduceAdd,Nat.reduceMul,Nat.reduceLT,Nat.reduceLeDiff,Int.reduceLE,Int.reduceLT,Int.reduceEq,Int.reduceNeg,Int.reduceToNat,Int.reduceMul,Int.reduceAdd,Int.reduceSub,Int.reduceBEq,Int.reduceBNe,reduceCtorEq,RD,g0,g3,g5,hge,aI,aT,R4,afu];refine hKr _ _ ?_;clear hKr Kr;(try simp only [RN,reduceIte]);try refine aj rfl ?_
    by_cases hed:e=d
    ·have e1:decide ((n:Int)=n∧(e.1,e.2)=(d.1,d.2))=true:=decide_eq_true ⟨rfl,by rw [hed]⟩
     rw [he,if_pos (by rw [hed])] at hins
     refine dY (t:=true) (by simp (disch:=omega) only [RA,↓reduceIte,Nat.reduceEqDiff,Nat.reduceBEq,Nat.reduceSub,Nat.reduceAdd,Nat.reduceMul,Nat.reduceLT,Nat.reduceLeDiff,Int.reduceLE,Int.reduceLT,Int.reduceEq,Int.reduceNeg,Int.reduceToNat,Int.reduceMul,Int.reduceAdd,Int.reduceSub,Int.reduceBEq,Int.reduceBNe,reduceCtorEq,RD,e1]) ?_;(try simp only [RN,reduceIte]);try refine aj rfl ?_
     refine au fun Kr hKr=>?_;simp (disch:=omega) only [RA,↓reduceIte,Nat.reduceEqDiff,Nat.reduceBEq,Nat.reduceSub,Nat.reduceAdd,Nat.reduceMul,Nat.reduceLT,Nat.reduceLeDiff,Int.reduceLE,Int.reduceLT,Int.reduceEq,Int.reduceNeg,Int.reduceToNat,Int.reduceMul,Int.reduceAdd,Int.reduceSub,Int.reduceBEq,Int.reduceBNe,reduceCtorEq,RD,g0];refine hKr _ _ ?_;clear hKr Kr;(try simp only [RN,reduceIte]);try refine aj rfl ?_
     refine bZ (by simp (disch:=omega) only [RA,↓reduceIte,Nat.reduceEqDiff,Nat.reduceBEq,Nat.reduceSub,Nat.reduceAdd,Nat.reduceMul,Nat.reduceLT,Nat.reduceLeDiff,Int.reduceLE,Int.reduceLT,Int.reduceEq,Int.reduceNeg,Int.reduceToNat,Int.reduceMul,Int.reduceAdd,Int.reduceSub,Int.reduceBEq,Int.reduceBNe,reduceCtorEq,RD,resAll,resOf];rfl) aY.refl ?_;simp only [tup]
     exact .inl (by rw [hins])
    ·have e1:decide ((n:Int)=n∧(e.1,e.2)=(d.1,d.2))=false:=decide_eq_false fun h=>hed h.2
     rw [he,if_neg (fun h=>hed (Option.some.inj h))] at hins
     refine dY (t:=false) (by simp (disch:=omega) only [RA,↓reduceIte,Nat.reduceEqDiff,Nat.reduceBEq,Nat.reduceSub,Nat.reduceAdd,Nat.reduceMul,Nat.reduceLT,Nat.reduceLeDiff,Int.reduceLE,Int.reduceLT,Int.reduceEq,Int.reduceNeg,Int.reduceToNat,Int.reduceMul,Int.reduceAdd,Int.reduceSub,Int.reduceBEq,Int.reduceBNe,reduceCtorEq,RD,e1]) ?_;(try simp only [RN,reduceIte]);try refine aj rfl ?_
     refine hrest _ hins ?_ ?_ ?_
     any_goals (simp (disch:=omega) only [RA,↓reduceIte,Nat.reduceEqDiff,Nat.reduceBEq,Nat.reduceSub,Nat.reduceAdd,Nat.reduceMul,Nat.reduceLT,Nat.reduceLeDiff,Int.reduceLE,Int.reduceLT,Int.reduceEq,Int.reduceNeg,Int.reduceToNat,Int.reduceMul,Int.reduceAdd,Int.reduceSub,Int.reduceBEq,Int.reduceBNe,reduceCtorEq,RD,RE, *]<;>rfl)
   ·have hrest:=VP (n:=n) (l:=l) (d:=d) hl hd hn (a:=a) (by omega)
    rw [List.getElem?_eq_none (by omega),if_neg (by simp)] at hins
    have e0:decide (a<l.length)=false:=decide_eq_false hal
    refine au fun Kr hKr=>?_;simp (disch:=omega) only [RA,↓reduceIte,Nat.reduceEqDiff,Nat.reduceBEq,Nat.reduceSub,Nat.reduceAdd,Nat.reduceMul,Nat.reduceLT,Nat.reduceLeDiff,Int.reduceLE,Int.reduceLT,Int.reduceEq,Int.reduceNeg,Int.reduceToNat,Int.reduceMul,Int.reduceAdd,Int.reduceSub,Int.reduceBEq,Int.reduceBNe,reduceCtorEq,RD,g0,g3,g5,e0];refine hKr _ _ ?_;clear hKr Kr;(try simp only [RN,reduceIte]);try refine aj rfl ?_
    refine dY (t:=false) (by simp (disch:=omega) only [RA,↓reduceIte,Nat.reduceEqDiff,Nat.reduceBEq,Nat.reduceSub,Nat.reduceAdd,Nat.reduceMul,Nat.reduceLT,Nat.reduceLeDiff,Int.reduceLE,Int.reduceLT,Int.reduceEq,Int.reduceNeg,Int.reduceToNat,Int.reduceMul,Int.reduceAdd,Int.reduceSub,Int.reduceBEq,Int.reduceBNe,reduceCtorEq,RD]) ?_;(try simp only [RN,reduceIte]);try refine aj rfl ?_
    refine hrest _ hins ?_ ?_ ?_
    any_goals (simp (disch:=omega) only [RA,↓reduceIte,Nat.reduceEqDiff,Nat.reduceBEq,Nat.reduceSub,Nat.reduceAdd,Nat.reduceMul,Nat.reduceLT,Nat.reduceLeDiff,Int.reduceLE,Int.reduceLT,Int.reduceEq,Int.reduceNeg,Int.reduceToNat,Int.reduceMul,Int.reduceAdd,Int.reduceSub,Int.reduceBEq,Int.reduceBNe,reduceCtorEq,RD,RE, *]<;>rfl)
end
theorem afv {x:Bool} {g:Nat} {args:List Value} {H:BH} {K:Value→BH→Prop} {l e:Nat} {cs:List Value} (ha:aJ args) (hn:aJ cs) (hl:l*e=cs.length)
  (h:aF false g args [] fun v H1=>v=Fz l e cs∨ ∃j,v= .slice (some ⟨j,0,none⟩) l e∧blk H1 j=some cs) (hK:K (Fz l e cs) H):aF x g args H K:=
 bK ha (h.gh fun v H1 hv=>by
  rcases hv with h1|⟨j,h1,h2⟩
  ·exact ⟨v,H1, .refl,by rw [h1];exact ⟨NN.fz,hK⟩⟩
  ·refine ⟨o7 j cs v,H1.set j none,aY.fz h2 hn,?_⟩
   have e1:o7 j cs (.slice (some ⟨j,0,none⟩) l e)=Fz l e cs:=by
    simp only [o7]
    exact nC hl
   rw [h1,e1]
   exact ⟨NN.fz,hK⟩)
theorem afw {n:Nat} {d:L2}:NN (DV n d.1 d.2):=jP
theorem afx {n:Nat} {l:List L2} {d:L2} {x:Bool} {H:BH} {K:Value→BH→Prop} (hl: ∀d∈l,By 16 d.1∧By 16 d.2) (hd:By 16 d.1∧By 16 d.2) (hs:l.Pairwise cZ) (hn:l.length≤100000)
  (hK:K (LD n (iH d l)) H):aF x KE [LD n l,DV n d.1 d.2] H K:=by
 refine afv (.cons .fz (.cons afw .nil)) LP ?_ (aft hl hd hs hn) hK
 rw [uz fun x hx=>?_]
 rcases uU.1 hx with rfl|hx
 ·exact hd
 ·exact hl x hx
end Go.Bm.Q5
namespace Go.Bm.Q5
open Go Go.Am Go.Bm
def kP (n:Nat) (black:List Nat) (l:List L2) (w:List Nat):List L2:=if aX n black w then iH (eG black w n) l else l
def uF (l:List L2):Prop:=(∀d∈l,By 16 d.1∧By 16 d.2)∧l.Pairwise cZ
theorem afy {n:Nat} {black w:List Nat} {l:List L2} (h:uF l):uF (kP n black l w):=by
 unfold kP
 split
 ·rename_i hd
  refine ⟨fun d hx=>?_,Fb h.2⟩
  rcases uU.1 hx with rfl|hx
  ·exact uT (k:=n-1) hd (by have:=hd.1.1;omega)
  ·exact h.1 d hx
 ·exact h
theorem afz {n:Nat} {black w:List Nat} {l:List L2}:(kP n black l w).length≤l.length+1:=by
 unfold kP
 split
 ·exact LK
 ·omega
theorem Jh {n:Nat} {black:List Nat}: ∀(ws:List (List Nat)) {l:List L2},uF l→uF (ws.foldl (kP n black) l)
 |[],l,h=>h
 |w::ws,l,h=>Jh ws (afy h)
theorem Ji {n:Nat} {black:List Nat}: ∀(ws:List (List Nat)) {l:List L2},(ws.foldl (kP n black) l).length≤l.length+ws.length
 |[],l=>by simp
 |w::ws,l=>by
  have h1:=Ji (n:=n) (black:=black) ws (l:=kP n black l w)
  have h2:=afz (n:=n) (black:=black) (w:=w) (l:=l)
  rw [List.foldl_cons,List.length_cons]
  omega
section
variable {n:Nat} {black:List Nat}
theorem afA (hb:By 16 black) (hbp:Perm black n): ∀(m:Nat) {p:List Nat} {k:Nat} {l:List L2} {x:Bool} {H:BH} {K:Value→BH→Prop},PQ n p→k+m=n→uF l→l.length+kD m≤90000→
  K (LD n ((sw n m p k).foldl (kP n black) l)) H→aF x Xw [LD n l,PL black,PL p,I k,I n] H K:=by
 intro m
 induction m with
 |zero=>
  intro p k l x H K hp hk ho hC hK
  obtain rfl:k=n:=by omega
  have hwb:By 16 p:=⟨hp.2,fun i=>by have:=hp.1.jM hp.2 i;omega⟩
  have fG:=hwb.len
  have hlb:=hb.len
  have hz:=jS
  have gone: ∀{v:Value},getN none [v] 0=some v:=rfl
  simp only [sw,List.foldl_cons,List.foldl_nil] at hK
  simp only [kD] at hC
  refine bK (.cons .fz (.cons (jr mG) (.cons (jr mG) (.cons .int (.cons .int .nil))))) ?_
  refine aG KR ?_;simp only [fB,aB]
  refine au fun Kr hKr=>?_;simp (disch:=omega) only [RA,↓reduceIte,Nat.reduceEqDiff,Nat.reduceBEq,Nat.reduceSub,Nat.reduceAdd,Nat.reduceMul,Nat.reduceLT,Nat.reduceLeDiff,Int.reduceLE,Int.reduceLT,Int.reduceEq,Int.reduceNeg,Int.reduceToNat,Int.reduceMul,Int.reduceAdd,Int.reduceSub,Int.reduceBEq,Int.reduceBNe,reduceCtorEq,RD,R4];refine hKr _ _ ?_;clear hKr Kr;(try simp only [RN,reduceIte]);try refine aj rfl ?_
  refine au fun Kr hKr=>?_;simp (disch:=omega) only [RA,↓reduceIte,Nat.reduceEqDiff,Nat.reduceBEq,Nat.reduceSub,Nat.reduceAdd,Nat.reduceMul,Nat.reduceLT,Nat.reduceLeDiff,Int.reduceLE,Int.reduceLT,Int.reduceEq,Int.reduceNeg,Int.reduceToNat,Int.reduceMul,Int.reduceAdd,Int.reduceSub,Int.reduceBEq,Int.reduceBNe,reduceCtorEq,RD,R4];refine hKr _ _ ?_;clear hKr Kr;(try simp only [RN,reduceIte]);try refine aj rfl ?_
  refine dY (t:=true) (by simp (disch:=omega) only [RA,↓reduceIte,Nat.reduceEqDiff,Nat.reduceBEq,Nat.reduceSub,Nat.reduceAdd,Nat.reduceMul,Nat.reduceLT,Nat.reduceLeDiff,Int.reduceLE,Int.reduceLT,Int.reduceEq,Int.reduceNeg,Int.reduceToNat,Int.reduceMul,Int.reduceAdd,Int.reduceSub,Int.reduceBEq,Int.reduceBNe,reduceCtorEq,RD]) ?_;(try simp only [RN,reduceIte]);try refine aj rfl ?_
  refine au fun Kr hKr=>?_;simp (disch:=omega) only [RA,↓reduceIte,Nat.reduceEqDiff,Nat.reduceBEq,Nat.reduceSub,Nat.reduceAdd,Nat.reduceMul,Nat.reduceLT,Nat.reduceLeDiff,Int.reduceLE,Int.reduceLT,Int.reduceEq,Int.reduceNeg,Int.reduceToNat,Int.reduceMul,Int.reduceAdd,Int.reduceSub,Int.reduceBEq,Int.reduceBNe,reduceCtorEq,RD,R4,aI,aT,gone];refine hKr _ _ ?_;clear hKr Kr;(try simp only [RN,reduceIte]);try refine aj rfl ?_
  refine au fun Kr hKr=>?_;simp (disch:=omega) only [RA,↓reduceIte,Nat.reduceEqDiff,Nat.reduceBEq,Nat.reduceSub,Nat.reduceAdd,Nat.reduceMul,Nat.reduceLT,Nat.reduceLeDiff,Int.reduceLE,Int.reduceLT,Int.reduceEq,Int.reduceNeg,Int.reduceToNat,Int.reduceMul,Int.reduceAdd,Int.reduceSub,Int.reduceBEq,Int.reduceBNe,reduceCtorEq,RD,R4,aI,aT,gone]
  refine adu hb hwb ?_
  simp (disch:=omega) only [RA,↓reduceIte,Nat.reduceEqDiff,Nat.reduceBEq,Nat.reduceSub,Nat.reduceAdd,Nat.reduceMul,Nat.reduceLT,Nat.reduceLeDiff,Int.reduceLE,Int.reduceLT,Int.reduceEq,Int.reduceNeg,Int.reduceToNat,Int.reduceMul,Int.reduceAdd,Int.reduceSub,Int.reduceBEq,Int.reduceBNe,reduceCtorEq,RD,R4,aI,aT]
  refine hKr _ _ ?_;clear hKr Kr;(try simp only [bW,dH,dG]);(try simp only [RN,reduceIte]);try refine aj rfl ?_
  by_cases hd:aX k black p
  ·rw [kP,if_pos hd] at hK
   have hc:By 16 (eG black p k).1∧By 16 (eG black p k).2:=uT (k:=k-1) hd (by have:=hbp.1;omega)
   refine dY (t:=true) (by simp (disch:=omega) only [RA,↓reduceIte,Nat.reduceEqDiff,Nat.reduceBEq,Nat.reduceSub,Nat.reduceAdd,Nat.reduceMul,Nat.reduceLT,Nat.reduceLeDiff,Int.reduceLE,Int.reduceLT,Int.reduceEq,Int.reduceNeg,Int.reduceToNat,Int.reduceMul,Int.reduceAdd,Int.reduceSub,Int.reduceBEq,Int.reduceBNe,reduceCtorEq,RD,decide_eq_true hd]) ?_;(try simp only [RN,reduceIte]);try refine aj rfl ?_
   refine au fun Kr hKr=>?_;simp (disch:=omega) only [RA,↓reduceIte,Nat.reduceEqDiff,Nat.reduceBEq,Nat.reduceSub,Nat.reduceAdd,Nat.reduceMul,Nat.reduceLT,Nat.reduceLeDiff,Int.reduceLE,Int.reduceLT,Int.reduceEq,Int.reduceNeg,Int.reduceToNat,Int.reduceMul,Int.reduceAdd,Int.reduceSub,Int.reduceBEq,Int.reduceBNe,reduceCtorEq,RD,R4,aI,aT,gone]
   refine afB hb hwb hd ?_
   simp (disch:=omega) only [RA,↓reduceIte,Nat.reduceEqDiff,Nat.reduceBEq,Nat.reduceSub,Nat.reduceAdd,Nat.reduceMul,Nat.reduceLT,Nat.reduceLeDiff,Int.reduceLE,Int.reduceLT,Int.reduceEq,Int.reduceNeg,Int.reduceToNat,Int.reduceMul,Int.reduceAdd,Int.reduceSub,Int.reduceBEq,Int.reduceBNe,reduceCtorEq,RD,R4,aI,aT]
   refine afx ho.1 hc ho.2 (by omega) ?_
   simp (disch:=omega) only [RA,↓reduceIte,Nat.reduceEqDiff,Nat.reduceBEq,Nat.reduceSub,Nat.reduceAdd,Nat.reduceMul,Nat.reduceLT,Nat.reduceLeDiff,Int.reduceLE,Int.reduceLT,Int.reduceEq,Int.reduceNeg,Int.reduceToNat,Int.reduceMul,Int.reduceAdd,Int.reduceSub,Int.reduceBEq,Int.reduceBNe,reduceCtorEq,RD,R4,aI,aT]
   refine hKr _ _ ?_;clear hKr Kr;(try simp only [bW,dH,dG]);(try simp only [RN,reduceIte]);try refine aj rfl ?_
   refine bZ (by simp (disch:=omega) only [RA,↓reduceIte,Nat.reduceEqDiff,Nat.reduceBEq,Nat.reduceSub,Nat.reduceAdd,Nat.reduceMul,Nat.reduceLT,Nat.reduceLeDiff,Int.reduceLE,Int.reduceLT,Int.reduceEq,Int.reduceNeg,Int.reduceToNat,Int.reduceMul,Int.reduceAdd,Int.reduceSub,Int.reduceBEq,Int.reduceBNe,reduceCtorEq,RD,resAll,resOf];rfl) aY.refl ?_;simp only [tup]
   exact ⟨.fz,hK⟩
  ·rw [kP,if_neg hd] at hK
   refine dY (t:=false) (by simp (disch:=omega) only [RA,↓reduceIte,Nat.reduceEqDiff,Nat.reduceBEq,Nat.reduceSub,Nat.reduceAdd,Nat.reduceMul,Nat.reduceLT,Nat.reduceLeDiff,Int.reduceLE,Int.reduceLT,Int.reduceEq,Int.reduceNeg,Int.reduceToNat,Int.reduceMul,Int.reduceAdd,Int.reduceSub,Int.reduceBEq,Int.reduceBNe,reduceCtorEq,RD,decide_eq_false hd]) ?_;(try simp only [RN,reduceIte]);try refine aj rfl ?_
   refine au fun Kr hKr=>?_;simp (disch:=omega) only [RA,↓reduceIte,Nat.reduceEqDiff,Nat.reduceBEq,Nat.reduceSub,Nat.reduceAdd,Nat.reduceMul,Nat.reduceLT,Nat.reduceLeDiff,Int.reduceLE,Int.reduceLT,Int.reduceEq,Int.reduceNeg,Int.reduceToNat,Int.reduceMul,Int.reduceAdd,Int.reduceSub,Int.reduceBEq,Int.reduceBNe,reduceCtorEq,RD];refine hKr _ _ ?_;clear hKr Kr;(try simp only [RN,reduceIte]);try refine aj rfl ?_
   refine bZ (by simp (disch:=omega) only [RA,↓reduceIte,Nat.reduceEqDiff,Nat.reduceBEq,Nat.reduceSub,Nat.reduceAdd,Nat.reduceMul,Nat.reduceLT,Nat.reduceLeDiff,Int.reduceLE,Int.reduceLT,Int.reduceEq,Int.reduceNeg,Int.reduceToNat,Int.reduceMul,Int.reduceAdd,Int.reduceSub,Int.reduceBEq,Int.reduceBNe,reduceCtorEq,RD,resAll,resOf];rfl) aY.refl ?_;simp only [tup]
   exact ⟨.fz,hK⟩
 |succ m ih=>
  intro p k l x H K hp hk ho hC hK
  have hlp:=hp.2
  have hlb:=hb.len
  have hn:=hp.1.1
  have hwb:By 16 p:=⟨hp.2,fun i=>by have:=hp.1.jM hp.2 i;omega⟩
  have hfc:kD (m+1)=(m+1)*kD m:=rfl
  obtain ⟨g,hg⟩: ∃g:Nat→List (List Nat),g=fun d=>sw n m (ny p k (k+d)) (k+1):=⟨_,rfl⟩
  obtain ⟨A,hA⟩: ∃A:Nat→List L2,A=fun d=>((List.range d).flatMap g).foldl (kP n black) l:=⟨_,rfl⟩
  have hAs: ∀d,A (d+1)=(g d).foldl (kP n black) (A d):=fun d=>by
   rw [hA]
   simp only [List.range_succ,List.flatMap_append,List.foldl_append,List.flatMap_cons,List.flatMap_nil,List.append_nil]
  have hgl: ∀d,(g d).length=kD m:=fun d=>by rw [hg];exact Fj m
  have hA0:A 0=l:=by rw [hA];rfl
  have hAb: ∀d,uF (A d)∧(A d).length≤l.length+d*kD m:=by
   intro d
   induction d with
   |zero=>rw [hA0];exact ⟨ho,by omega⟩
   |succ d ih=>
    have q1:=Ji (n:=n) (black:=black) (g d) (l:=A d)
    rw [hgl] at q1
    rw [hAs,Nat.add_mul]
    exact ⟨Jh _ ih.1,by have:=ih.2;omega⟩
  have hend:sw n (m+1) p k=(List.range (m+1)).flatMap g:=by rw [hg];rfl
  have hKe:K (LD n (A (m+1))) H:=by rw [hA];rw [hend] at hK;exact hK
  refine bK (.cons .fz (.cons (jr mG) (.cons (jr mG) (.cons .int (.cons .int .nil))))) ?_
  refine aG KR ?_;simp only [fB,aB]
  refine au fun Kr hKr=>?_;simp (disch:=omega) only [RA,↓reduceIte,Nat.reduceEqDiff,Nat.reduceBEq,Nat.reduceSub,Nat.reduceAdd,Nat.reduceMul,Nat.reduceLT,Nat.reduceLeDiff,Int.reduceLE,Int.reduceLT,Int.reduceEq,Int.reduceNeg,Int.reduceToNat,Int.reduceMul,Int.reduceAdd,Int.reduceSub,Int.reduceBEq,Int.reduceBNe,reduceCtorEq,RD,R4];refine hKr _ _ ?_;clear hKr Kr;(try simp only [RN,reduceIte]);try refine aj rfl ?_
  refine au fun Kr hKr=>?_;simp (disch:=omega) only [RA,↓reduceIte,Nat.reduceEqDiff,Nat.reduceBEq,Nat.reduceSub,Nat.reduceAdd,Nat.reduceMul,Nat.reduceLT,Nat.reduceLeDiff,Int.reduceLE,Int.reduceLT,Int.reduceEq,Int.reduceNeg,Int.reduceToNat,Int.reduceMul,Int.reduceAdd,Int.reduceSub,Int.reduceBEq,Int.reduceBNe,reduceCtorEq,RD,R4];refine hKr _ _ ?_;clear hKr Kr;(try simp only [RN,reduceIte]);try refine aj rfl ?_
  refine dY (t:=false) (by simp (disch:=omega) only [RA,↓reduceIte,Nat.reduceEqDiff,Nat.reduceBEq,Nat.reduceSub,Nat.reduceAdd,Nat.reduceMul,Nat.reduceLT,Nat.reduceLeDiff,Int.reduceLE,Int.reduceLT,Int.reduceEq,Int.reduceNeg,Int.reduceToNat,Int.reduceMul,Int.reduceAdd,Int.reduceSub,Int.reduceBEq,Int.reduceBNe,reduceCtorEq,RD]) ?_;(try simp only [RN,reduceIte]);try refine aj rfl ?_
  refine au fun Kr hKr=>?_;simp (disch:=omega) only [RA,↓reduceIte,Nat.reduceEqDiff,Nat.reduceBEq,Nat.reduceSub,Nat.reduceAdd,Nat.reduceMul,Nat.reduceLT,Nat.reduceLeDiff,Int.reduceLE,Int.reduceLT,Int.reduceEq,Int.reduceNeg,Int.reduceToNat,Int.reduceMul,Int.reduceAdd,Int.reduceSub,Int.reduceBEq,Int.reduceBNe,reduceCtorEq,RD];refine hKr _ _ ?_;clear hKr Kr;(try simp only [RN,reduceIte]);try refine aj rfl ?_
  refine aW (fun mm f H'=> ∃d,d≤m+1∧mm=m+1-d∧f 0=LD n (A d)∧f 3=I k∧f 4=I n∧f 6=P 0 0∧f 7=P 1 0∧f 12=I ((k+d:Nat):Int)∧H'=[some (black.map N8),some (p.map N8)]) (m+1) ?_ ?_
  ·refine ⟨_,_,Gh.refl,0,by omega,by omega,?_,?_,?_,?_,?_,?_,rfl⟩
   all_goals (simp (disch:=omega) only [RA,↓reduceIte,Nat.reduceEqDiff,Nat.reduceBEq,Nat.reduceSub,Nat.reduceAdd,Nat.reduceMul,Nat.reduceLT,Nat.reduceLeDiff,Int.reduceLE,Int.reduceLT,Int.reduceEq,Int.reduceNeg,Int.reduceToNat,Int.reduceMul,Int.reduceAdd,Int.reduceSub,Int.reduceBEq,Int.reduceBNe,reduceCtorEq,R4,RD,RE, *]<;>rfl)
  ·rintro mm f H' R ⟨d,hd,rfl,g0,g3,g4,g6,g7,g12,rfl⟩ hN hX hR hE
   simp only [fB.l0,aB]
   refine au fun Kr hKr=>?_;simp (disch:=omega) only [RA,↓reduceIte,Nat.reduceEqDiff,Nat.reduceBEq,Nat.reduceSub,Nat.reduceAdd,Nat.reduceMul,Nat.reduceLT,Nat.reduceLeDiff,Int.reduceLE,Int.reduceLT,Int.reduceEq,Int.reduceNeg,Int.reduceToNat,Int.reduceMul,Int.reduceAdd,Int.reduceSub,Int.reduceBEq,Int.reduceBNe,reduceCtorEq,RD,g4,g12];refine hKr _ _ ?_;clear hKr Kr;(try simp only [RN,reduceIte]);try refine aj rfl ?_
   refine eY (p:=k+d<n) (by simp only [RA,↓reduceIte,Nat.reduceEqDiff,Nat.reduceBEq,Nat.reduceSub,Nat.reduceAdd,Nat.reduceMul,Nat.reduceLT,Nat.reduceLeDiff,Int.reduceLE,Int.reduceLT,Int.reduceEq,Int.reduceNeg,Int.reduceToNat,Int.reduceMul,Int.reduceAdd,Int.reduceSub,Int.reduceBEq,Int.reduceBNe,reduceCtorEq]<;>rfl) (by (try simp only [RB])<;>first|done|exact Iff.rfl|omega|simp) (fun hc=>?_) (fun hc=>?_)<;>(try simp only [RN,reduceIte])<;>(try refine aj rfl ?_)
   ·have hdm:d<m+1:=by omega
    obtain ⟨hb1,hb2⟩:=hAb d
    have hmul:d*kD m+kD m≤(m+1)*kD m:=by
     have:(d+1)*kD m≤(m+1)*kD m:=Nat.mul_le_mul_right _ (by omega)
     rwa [Nat.add_mul,Nat.one_mul] at this
    have VT:PQ n (ny p k (k+d)):=CZ hp (by omega) (by omega)
    have hsl:=VT.2
    have hsd:ny p k (k+d)=(p.set k (nl p (k+d))).set (k+d) (nl p k):=rfl
    have hl1:(p.set k (nl p (k+d))).length=16:=by rw [List.length_set,hlp]
    have hw1:=hwb.lt (k+d)
    have hw2:=hwb.lt k
    have a1:((k:Nat):Int)+1=((k+1:Nat):Int):=by omega
    have a2:((k+d:Nat):Int)+1=((k+(d+1):Nat):Int):=by omega
    rw [hfc] at hC
    (first|refine fV rfl ?_|refine fZ rfl ?_);(try simp only [RN,reduceIte]);try refine aj rfl ?_
    refine au fun Kr hKr=>?_;simp (disch:=omega) only [RA,↓reduceIte,Nat.reduceEqDiff,Nat.reduceBEq,Nat.reduceSub,Nat.reduceAdd,Nat.reduceMul,Nat.reduceLT,Nat.reduceLeDiff,Int.reduceLE,Int.reduceLT,Int.reduceEq,Int.reduceNeg,Int.reduceToNat,Int.reduceMul,Int.reduceAdd,Int.reduceSub,Int.reduceBEq,Int.reduceBNe,reduceCtorEq,RD,g7,hlp];refine hKr _ _ ?_;clear hKr Kr;(try simp only [RN,reduceIte]);try refine aj rfl ?_
    refine au fun Kr hKr=>?_;simp (disch:=omega) only [RA,↓reduceIte,Nat.reduceEqDiff,Nat.reduceBEq,Nat.reduceSub,Nat.reduceAdd,Nat.reduceMul,Nat.reduceLT,Nat.reduceLeDiff,Int.reduceLE,Int.reduceLT,Int.reduceEq,Int.reduceNeg,Int.reduceToNat,Int.reduceMul,Int.reduceAdd,Int.reduceSub,Int.reduceBEq,Int.reduceBNe,reduceCtorEq,RD,g3,g7,g12,hlp];refine hKr _ _ ?_;clear hKr Kr;(try simp only [RN,reduceIte]);try refine aj rfl ?_
    refine au fun Kr hKr=>?_;simp (disch:=omega) only [RA,↓reduceIte,Nat.reduceEqDiff,Nat.reduceBEq,Nat.reduceSub,Nat.reduceAdd,Nat.reduceMul,Nat.reduceLT,Nat.reduceLeDiff,Int.reduceLE,Int.reduceLT,Int.reduceEq,Int.reduceNeg,Int.reduceToNat,Int.reduceMul,Int.reduceAdd,Int.reduceSub,Int.reduceBEq,Int.reduceBNe,reduceCtorEq,RD,g3,g7,g12,hlp,hl1];refine hKr _ _ ?_;clear hKr Kr;(try simp only [RN,reduceIte]);try refine aj rfl ?_
    rw [←hsd]
    refine au fun Kr hKr=>?_;simp (disch:=omega) only [RA,↓reduceIte,Nat.reduceEqDiff,Nat.reduceBEq,Nat.reduceSub,Nat.reduceAdd,Nat.reduceMul,Nat.reduceLT,Nat.reduceLeDiff,Int.reduceLE,Int.reduceLT,Int.reduceEq,Int.reduceNeg,Int.reduceToNat,Int.reduceMul,Int.reduceAdd,Int.reduceSub,Int.reduceBEq,Int.reduceBNe,reduceCtorEq,RD,g0,g3,g4,g6,R4,hlb,hsl,a1]
    refine ih VT (by omega) hb1 (by omega) ?_
    have ga:(sw n m (ny p k (k+d)) (k+1)).foldl (kP n black) (A d)=A (d+1):=by rw [hAs,hg]
    rw [ga]
    simp (disch:=omega) only [RA,↓reduceIte,Nat.reduceEqDiff,Nat.reduceBEq,Nat.reduceSub,Nat.reduceAdd,Nat.reduceMul,Nat.reduceLT,Nat.reduceLeDiff,Int.reduceLE,Int.reduceLT,Int.reduceEq,Int.reduceNeg,Int.reduceToNat,Int.reduceMul,Int.reduceAdd,Int.reduceSub,Int.reduceBEq,Int.reduceBNe,reduceCtorEq,RD,g6,R4]
    refine hKr _ _ ?_;clear hKr Kr;(try simp only [bW,dH,dG]);(try simp only [RN,reduceIte]);try refine aj rfl ?_
    refine dN fun Kr hKr=>?_;simp (disch:=omega) only [RA,↓reduceIte,Nat.reduceEqDiff,Nat.reduceBEq,Nat.reduceSub,Nat.reduceAdd,Nat.reduceMul,Nat.reduceLT,Nat.reduceLeDiff,Int.reduceLE,Int.reduceLT,Int.reduceEq,Int.reduceNeg,Int.reduceToNat,Int.reduceMul,Int.reduceAdd,Int.reduceSub,Int.reduceBEq,Int.reduceBNe,reduceCtorEq,RD,g12,a2];refine hKr _ _ ?_;clear hKr Kr
    refine hN (m+1-(d+1)) _ _ _ _ (by omega) (Gh.nrm [0,1] rfl rfl (by simp only [RH])) ⟨d+1,by omega,rfl,?_,?_,?_,?_,?_,?_,rfl⟩
    any_goals (simp (disch:=omega) only [RA,↓reduceIte,Nat.reduceEqDiff,Nat.reduceBEq,Nat.reduceSub,Nat.reduceAdd,Nat.reduceMul,Nat.reduceLT,Nat.reduceLeDiff,Int.reduceLE,Int.reduceLT,Int.reduceEq,Int.reduceNeg,Int.reduceToNat,Int.reduceMul,Int.reduceAdd,Int.reduceSub,Int.reduceBEq,Int.reduceBNe,reduceCtorEq,RD,RE, *]<;>rfl)
   ·refine hX _ _ ?_
    obtain rfl:d=m+1:=by omega
    refine au fun Kr hKr=>?_;simp (disch:=omega) only [RA,↓reduceIte,Nat.reduceEqDiff,Nat.reduceBEq,Nat.reduceSub,Nat.reduceAdd,Nat.reduceMul,Nat.reduceLT,Nat.reduceLeDiff,Int.reduceLE,Int.reduceLT,Int.reduceEq,Int.reduceNeg,Int.reduceToNat,Int.reduceMul,Int.reduceAdd,Int.reduceSub,Int.reduceBEq,Int.reduceBNe,reduceCtorEq,RD,g0,R4];refine hKr _ _ ?_;clear hKr Kr;(try simp only [RN,reduceIte]);try refine aj rfl ?_
    refine bZ (by simp (disch:=omega) only [RA,↓reduceIte,Nat.reduceEqDiff,Nat.reduceBEq,Nat.reduceSub,Nat.reduceAdd,Nat.reduceMul,Nat.reduceLT,Nat.reduceLeDiff,Int.reduceLE,Int.reduceLT,Int.reduceEq,Int.reduceNeg,Int.reduceToNat,Int.reduceMul,Int.reduceAdd,Int.reduceSub,Int.reduceBEq,Int.reduceBNe,reduceCtorEq,RD,resAll,resOf];rfl) aY.refl ?_;simp only [tup]
    exact ⟨.fz,hKe⟩
end
end Go.Bm.Q5
namespace Go.Bm.Q5
open Go Go.Am Go.Bm
theorem afC {cs:List Value} {H:BH} {b o i:Nat} (h:o<cs.length):dV (some cs) H b o 1 (.map (some i))=some (undef,H.set b (some (splice cs o [.map (some i)]))):=by
 simp only [dV,cells2]
 rw [if_pos ⟨rfl,by omega,rfl⟩]
theorem afD:Am.plain (.map none)=true:=rfl
theorem VU: ∀n,n<6→1≤n→ ∀t∈aU n n n,ru (kH t)∧qm (kH t)=n:=by decide+kernel
theorem Jj: ∀n,n<6→(aU n n n).length≤7:=by decide+kernel
def lu (n:Nat):Nat→List L2
 |0=>[]
 |k+1=>(lv n n []).foldl (stepD n (std (kH ((aU n n n).getD k [])))) (lu n k)
def allL (n:Nat):List L2:=lu n (aU n n n).length
theorem afE {n:Nat} {black w:List Nat} {s:List L2} (hs: ∀d∈s,By 16 d.1∧By 16 d.2): ∀d∈stepD n black s w,By 16 d.1∧By 16 d.2:=by
 intro d hd
 unfold stepD at hd
 split at hd
 ·rename_i h
  rcases List.mem_append.1 hd with hd|hd
  ·exact hs d hd
  ·rw [List.mem_singleton] at hd
   subst hd
   exact uT (k:=n-1) h (by have:=h.1.1;omega)
 ·exact hs d hd
theorem VW {n:Nat} {black:List Nat}: ∀(l:List (List Nat)) {s:List L2},(∀d∈s,By 16 d.1∧By 16 d.2)→ ∀d∈l.foldl (stepD n black) s,By 16 d.1∧By 16 d.2
 |[],s,h=>h
 |w::l,s,h=>VW l (afE h)
theorem VX {n:Nat} {black:List Nat}: ∀(l:List (List Nat)) {s:List L2},(l.foldl (stepD n black) s).length≤s.length+l.length
 |[],s=>by simp
 |w::l,s=>by
  have h1:=VX (n:=n) (black:=black) l (s:=stepD n black s w)
  have h2:(stepD n black s w).length≤s.length+1:=by
   unfold stepD
   split<;>simp
  rw [List.foldl_cons,List.length_cons]
  omega
theorem IU {n:Nat}: ∀k,∀d∈lu n k,By 16 d.1∧By 16 d.2
 |0=>by simp [lu]
 |k+1=>VW _ (IU k)
theorem VY {n:Nat} (h1:1≤n) (h5:n≤5): ∀k,(lu n k).length≤k*3125
 |0=>by simp [lu]
 |k+1=>by
  have h2:=VX (n:=n) (black:=std (kH ((aU n n n).getD k []))) (lv n n []) (s:=lu n k)
  have h3:=VY h1 h5 k
  have h4:=MG (n:=n) n (pre:=[]) ⟨h1,by omega⟩ ⟨by simp,by simp,by simp⟩ (by simp)
  have h6:n^n≤5^5:=Nat.le_trans (Nat.pow_le_pow_left h5 n) (Nat.pow_le_pow_right (by omega) h5)
  rw [lu,Nat.add_mul]
  omega
theorem afF {n:Nat} {black:List Nat} (s:List L2):ng [0,1,2,3] (PM (b0 n) b1 (b2 n) b3 (b4 black) s)=[some [I n],some [],some (s.map (gG n)),some [.map (some 1)]]:=by
 show [_,_,_,_]=_
 have e1:Option.map (List.map (ren [0,1,2,3])) (some (s.map (gG n)))=some (s.map (gG n)):=by rw [Option.map_some,E8]
 exact congr (congrArg List.cons rfl) (congr (congrArg List.cons rfl) (congr (congrArg List.cons e1) (congr (congrArg List.cons rfl) rfl)))
theorem aeY {n:Nat} (h1:1≤n) (h5:n≤5):aF false Xn [I n] [] fun v H1=> ∃j,v=S j 0 (gI (allL n)).length 33∧blk H1 j=some (DL n (gI (allL n))):=by
 have gone: ∀{v:Value},getN none [v] 0=some v:=rfl
 have hz:=jS
 refine aG Yy ?_;simp only [iF,aB]
 refine au fun Kr hKr=>?_;simp (disch:=omega) only [RA,↓reduceIte,Nat.reduceEqDiff,Nat.reduceBEq,Nat.reduceSub,Nat.reduceAdd,Nat.reduceMul,Nat.reduceLT,Nat.reduceLeDiff,Int.reduceLE,Int.reduceLT,Int.reduceEq,Int.reduceNeg,Int.reduceToNat,Int.reduceMul,Int.reduceAdd,Int.reduceSub,Int.reduceBEq,Int.reduceBNe,reduceCtorEq,RD,R4];refine hKr _ _ ?_;clear hKr Kr;(try simp only [RN,reduceIte]);try refine aj rfl ?_
 refine au fun Kr hKr=>?_;simp (disch:=omega) only [RA,↓reduceIte,Nat.reduceEqDiff,Nat.reduceBEq,Nat.reduceSub,Nat.reduceAdd,Nat.reduceMul,Nat.reduceLT,Nat.reduceLeDiff,Int.reduceLE,Int.reduceLT,Int.reduceEq,Int.reduceNeg,Int.reduceToNat,Int.reduceMul,Int.reduceAdd,Int.reduceSub,Int.reduceBEq,Int.reduceBNe,reduceCtorEq,RD,aeh,afD,afC];refine hKr _ _ ?_;clear hKr Kr;(try simp only [RN,reduceIte]);try refine aj rfl ?_
 refine au fun Kr hKr=>?_;simp (disch:=omega) only [RA,↓reduceIte,Nat.reduceEqDiff,Nat.reduceBEq,Nat.reduceSub,Nat.reduceAdd,Nat.reduceMul,Nat.reduceLT,Nat.reduceLeDiff,Int.reduceLE,Int.reduceLT,Int.reduceEq,Int.reduceNeg,Int.reduceToNat,Int.reduceMul,Int.reduceAdd,Int.reduceSub,Int.reduceBEq,Int.reduceBNe,reduceCtorEq,RD,R4,gone]
 refine acV (by omega) (by omega) ?_
 simp (disch:=omega) only [RA,↓reduceIte,Nat.reduceEqDiff,Nat.reduceBEq,Nat.reduceSub,Nat.reduceAdd,Nat.reduceMul,Nat.reduceLT,Nat.reduceLeDiff,Int.reduceLE,Int.reduceLT,Int.reduceEq,Int.reduceNeg,Int.reduceToNat,Int.reduceMul,Int.reduceAdd,Int.reduceSub,Int.reduceBEq,Int.reduceBNe,reduceCtorEq,RD]
 refine hKr _ _ ?_;clear hKr Kr;(try simp only [bW,dH,dG]);(try simp only [RN,reduceIte]);try refine aj rfl ?_
 have hlen:=Jj n (by omega)
 refine aW (fun m f H'=> ∃k,k≤(aU n n n).length∧m=(aU n n n).length-k∧f 1=P 0 0∧f 3=P 3 0∧f 10=Fz (aU n n n).length 1 ((aU n n n).map FN)∧f 11=I (aU n n n).length∧f 12=I k∧H'=[some [I n],some [],some ((lu n k).map (gG n)),some [.map (some 1)]]) ((aU n n n).length) ?_ ?_
 ·refine ⟨_,_,Gh.refl,0,by omega,by omega,?_,?_,?_,?_,?_,rfl⟩
  any_goals (simp (disch:=omega) only [RA,↓reduceIte,Nat.reduceEqDiff,Nat.reduceBEq,Nat.reduceSub,Nat.reduceAdd,Nat.reduceMul,Nat.reduceLT,Nat.reduceLeDiff,Int.reduceLE,Int.reduceLT,Int.reduceEq,Int.reduceNeg,Int.reduceToNat,Int.reduceMul,Int.reduceAdd,Int.reduceSub,Int.reduceBEq,Int.reduceBNe,reduceCtorEq,RD,RE, *]<;>rfl)
 ·rintro m f H' R ⟨k,hk,rfl,g1,g3,g10,g11,g12,rfl⟩ hN hX hR hE
  simp only [iF.l0,aB]
  refine au fun Kr hKr=>?_;simp (disch:=omega) only [RA,↓reduceIte,Nat.reduceEqDiff,Nat.reduceBEq,Nat.reduceSub,Nat.reduceAdd,Nat.reduceMul,Nat.reduceLT,Nat.reduceLeDiff,Int.reduceLE,Int.reduceLT,Int.reduceEq,Int.reduceNeg,Int.reduceToNat,Int.reduceMul,Int.reduceAdd,Int.reduceSub,Int.reduceBEq,Int.reduceBNe,reduceCtorEq,RD,g11,g12];refine hKr _ _ ?_;clear hKr Kr;(try simp only [RN,reduceIte]);try refine aj rfl ?_
  refine eY (p:=k<(aU n n n).length) (by simp only [RA,↓reduceIte,Nat.reduceEqDiff,Nat.reduceBEq,Nat.reduceSub,Nat.reduceAdd,Nat.reduceMul,Nat.reduceLT,Nat.reduceLeDiff,Int.reduceLE,Int.reduceLT,Int.reduceEq,Int.reduceNeg,Int.reduceToNat,Int.reduceMul,Int.reduceAdd,Int.reduceSub,Int.reduceBEq,Int.reduceBNe,reduceCtorEq]<;>rfl) (by (try simp only [RB])<;>first|done|exact Iff.rfl|omega|simp) (fun hc=>?_) (fun hc=>?_)<;>(try simp only [RN,reduceIte])<;>(try refine aj rfl ?_)
  ·have hkn:k<(aU n n n).length:=by assumption
   obtain ⟨ht,hsum⟩:=VU n (by omega) h1 ((aU n n n).getD k []) (nJ hkn)
   obtain ⟨hp,hby,_,_⟩:=LW ht hsum
   have hlb:=hby.len
   have hnext: ∀f',f' 1=P 0 0→f' 3=P 3 0→f' 10=Fz (aU n n n).length 1 ((aU n n n).map FN)→f' 11=I (aU n n n).length→f' 12=I k→T 0 iF.r7 R f' [some [I n],some [],some ((lu n (k+1)).map (gG n)),some [.map (some 1)]]:=by
    clear g1 g3 g10 g11 g12
    intro f' g1 g3 g10 g11 g12
    have a1:((k:Nat):Int)+1=((k+1:Nat):Int):=by omega
    refine dN fun Kr hKr=>?_;simp (disch:=omega) only [RA,↓reduceIte,Nat.reduceEqDiff,Nat.reduceBEq,Nat.reduceSub,Nat.reduceAdd,Nat.reduceMul,Nat.reduceLT,Nat.reduceLeDiff,Int.reduceLE,Int.reduceLT,Int.reduceEq,Int.reduceNeg,Int.reduceToNat,Int.reduceMul,Int.reduceAdd,Int.reduceSub,Int.reduceBEq,Int.reduceBNe,reduceCtorEq,RD,g12,a1];refine hKr _ _ ?_;clear hKr Kr
    refine hN ((aU n n n).length-(k+1)) _ _ _ _ (by omega) Gh.refl ⟨k+1,by omega,rfl,?_,?_,?_,?_,?_,rfl⟩
    any_goals (simp (disch:=omega) only [RA,↓reduceIte,Nat.reduceEqDiff,Nat.reduceBEq,Nat.reduceSub,Nat.reduceAdd,Nat.reduceMul,Nat.reduceLT,Nat.reduceLeDiff,Int.reduceLE,Int.reduceLT,Int.reduceEq,Int.reduceNeg,Int.reduceToNat,Int.reduceMul,Int.reduceAdd,Int.reduceSub,Int.reduceBEq,Int.reduceBNe,reduceCtorEq,RD,RE, *]<;>rfl)
   (first|refine fV rfl ?_|refine fZ rfl ?_);(try simp only [RN,reduceIte]);try refine aj rfl ?_
   refine au fun Kr hKr=>?_;simp (disch:=omega) only [RA,↓reduceIte,Nat.reduceEqDiff,Nat.reduceBEq,Nat.reduceSub,Nat.reduceAdd,Nat.reduceMul,Nat.reduceLT,Nat.reduceLeDiff,Int.reduceLE,Int.reduceLT,Int.reduceEq,Int.reduceNeg,Int.reduceToNat,Int.reduceMul,Int.reduceAdd,Int.reduceSub,Int.reduceBEq,Int.reduceBNe,reduceCtorEq,RD,g10,g12,vK];refine hKr _ _ ?_;clear hKr Kr;(try simp only [RN,reduceIte]);try refine aj rfl ?_
   refine au fun Kr hKr=>?_;simp (disch:=omega) only [RA,↓reduceIte,Nat.reduceEqDiff,Nat.reduceBEq,Nat.reduceSub,Nat.reduceAdd,Nat.reduceMul,Nat.reduceLT,Nat.reduceLeDiff,Int.reduceLE,Int.reduceLT,Int.reduceEq,Int.reduceNeg,Int.reduceToNat,Int.reduceMul,Int.reduceAdd,Int.reduceSub,Int.reduceBEq,Int.reduceBNe,reduceCtorEq,RD,Gm]
   refine abK ht ?_
   simp (disch:=omega) only [RA,↓reduceIte,Nat.reduceEqDiff,Nat.reduceBEq,Nat.reduceSub,Nat.reduceAdd,Nat.reduceMul,Nat.reduceLT,Nat.reduceLeDiff,Int.reduceLE,Int.reduceLT,Int.reduceEq,Int.reduceNeg,Int.reduceToNat,Int.reduceMul,Int.reduceAdd,Int.reduceSub,Int.reduceBEq,Int.reduceBNe,reduceCtorEq,RD,R4,hlb]
   refine hKr _ _ ?_;clear hKr Kr;(try simp only [bW,dH,dG]);(try simp only [RN,reduceIte]);try refine aj rfl ?_
   refine au fun Kr hKr=>?_;simp (disch:=omega) only [RA,↓reduceIte,Nat.reduceEqDiff,Nat.reduceBEq,Nat.reduceSub,Nat.reduceAdd,Nat.reduceMul,Nat.reduceLT,Nat.reduceLeDiff,Int.reduceLE,Int.reduceLT,Int.reduceEq,Int.reduceNeg,Int.reduceToNat,Int.reduceMul,Int.reduceAdd,Int.reduceSub,Int.reduceBEq,Int.reduceBNe,reduceCtorEq,RD,g1,g3,gone]
   refine abV (s:=lu n k) (abB (by omega) hby hp) aby h1 (by omega) ?_
   simp (disch:=omega) only [RA,↓reduceIte,Nat.reduceEqDiff,Nat.reduceBEq,Nat.reduceSub,Nat.reduceAdd,Nat.reduceMul,Nat.reduceLT,Nat.reduceLeDiff,Int.reduceLE,Int.reduceLT,Int.reduceEq,Int.reduceNeg,Int.reduceToNat,Int.reduceMul,Int.reduceAdd,Int.reduceSub,Int.reduceBEq,Int.reduceBNe,reduceCtorEq,RD]
   refine hKr _ _ ?_;clear hKr Kr;(try simp only [bW,dH,dG]);(try simp only [RN,reduceIte]);try refine aj rfl ?_
   refine jT (Gh.qj [0,1,2,3] (by decide) fun j hj=>absurd hj (Nat.not_lt_zero j)) ?_
   rw [afF]
   refine hnext _ ?_ ?_ ?_ ?_ ?_
   all_goals exact (by simp (disch:=omega) only [RA,↓reduceIte,Nat.reduceEqDiff,Nat.reduceBEq,Nat.reduceSub,Nat.reduceAdd,Nat.reduceMul,Nat.reduceLT,Nat.reduceLeDiff,Int.reduceLE,Int.reduceLT,Int.reduceEq,Int.reduceNeg,Int.reduceToNat,Int.reduceMul,Int.reduceAdd,Int.reduceSub,Int.reduceBEq,Int.reduceBNe,reduceCtorEq,RD,RE, *]<;>rfl)
  ·refine hX _ _ ?_
   obtain rfl:k=(aU n n n).length:=by omega
   have hla:=VY h1 h5 (aU n n n).length
   refine au fun Kr hKr=>?_;simp (disch:=omega) only [RA,↓reduceIte,Nat.reduceEqDiff,Nat.reduceBEq,Nat.reduceSub,Nat.reduceAdd,Nat.reduceMul,Nat.reduceLT,Nat.reduceLeDiff,Int.reduceLE,Int.reduceLT,Int.reduceEq,Int.reduceNeg,Int.reduceToNat,Int.reduceMul,Int.reduceAdd,Int.reduceSub,Int.reduceBEq,Int.reduceBNe,reduceCtorEq,RD,g3,gone]
   refine abJ (i:=1) (s:=allL n) (by omega) (IU _) (by rw [allL];omega) rfl rfl ?_
   simp (disch:=omega) only [RA,↓reduceIte,Nat.reduceEqDiff,Nat.reduceBEq,Nat.reduceSub,Nat.reduceAdd,Nat.reduceMul,Nat.reduceLT,Nat.reduceLeDiff,Int.reduceLE,Int.reduceLT,Int.reduceEq,Int.reduceNeg,Int.reduceToNat,Int.reduceMul,Int.reduceAdd,Int.reduceSub,Int.reduceBEq,Int.reduceBNe,reduceCtorEq,RD]
   refine hKr _ _ ?_;clear hKr Kr;(try simp only [bW,dH,dG]);(try simp only [RN,reduceIte]);try refine aj rfl ?_
   refine bZ (by simp (disch:=omega) only [RA,↓reduceIte,Nat.reduceEqDiff,Nat.reduceBEq,Nat.reduceSub,Nat.reduceAdd,Nat.reduceMul,Nat.reduceLT,Nat.reduceLeDiff,Int.reduceLE,Int.reduceLT,Int.reduceEq,Int.reduceNeg,Int.reduceToNat,Int.reduceMul,Int.reduceAdd,Int.reduceSub,Int.reduceBEq,Int.reduceBNe,reduceCtorEq,RD,resAll,resOf];rfl) aY.refl ?_;simp only [tup]
   exact ⟨4,rfl,rfl⟩
end Go.Bm.Q5
namespace Go.Bm.Q5
open Go Go.Am Go.Bm
def allI (n:Nat):Nat→List L2
 |0=>[]
 |k+1=>(sw n n (gJ n) 0).foldl (kP n (std (kH ((aU n n n).getD k [])))) (allI n k)
theorem V3 {n:Nat} {black:List Nat} {x:L2}: ∀{ws:List (List Nat)} {l:List L2},x∈ws.foldl (kP n black) l↔x∈l∨ ∃w∈ws,aX n black w∧x=eG black w n
 |[],l=>by simp
 |w::ws,l=>by
  rw [List.foldl_cons,V3]
  have h1:x∈kP n black l w↔x∈l∨(aX n black w∧x=eG black w n):=by
   unfold kP
   split
   ·rename_i h
    rw [uU]
    constructor
    ·rintro (h1|h1)
     ·exact .inr ⟨h,h1⟩
     ·exact .inl h1
    ·rintro (h1|⟨_,h1⟩)
     ·exact .inr h1
     ·exact .inl h1
   ·rename_i h
    constructor
    ·exact .inl
    ·rintro (h1|⟨h1,_⟩)
     ·exact h1
     ·exact absurd h1 h
  rw [h1]
  constructor
  ·rintro ((h|h)|⟨v,hv,h⟩)
   ·exact .inl h
   ·exact .inr ⟨w,by simp,h⟩
   ·exact .inr ⟨v,by simp [hv],h⟩
  ·rintro (h|⟨v,hv,h⟩)
   ·exact .inl (.inl h)
   ·rcases List.mem_cons.1 hv with rfl|hv
    ·exact .inl (.inr h)
    ·exact .inr ⟨v,hv,h⟩
theorem Jk {n:Nat} {black:List Nat} {x:L2}: ∀{ws:List (List Nat)} {l:List L2},x∈ws.foldl (stepD n black) l↔x∈l∨ ∃w∈ws,aX n black w∧x=eG black w n
 |[],l=>by simp
 |w::ws,l=>by
  rw [List.foldl_cons,Jk]
  have h1:x∈stepD n black l w↔x∈l∨(aX n black w∧x=eG black w n):=by
   unfold stepD
   split
   ·rename_i h
    rw [List.mem_append,List.mem_singleton]
    constructor
    ·rintro (h1|h1)
     ·exact .inl h1
     ·exact .inr ⟨h,h1⟩
    ·rintro (h1|⟨_,h1⟩)
     ·exact .inl h1
     ·exact .inr h1
   ·rename_i h
    constructor
    ·exact .inl
    ·rintro (h1|⟨h1,_⟩)
     ·exact h1
     ·exact absurd h1 h
  rw [h1]
  constructor
  ·rintro ((h|h)|⟨v,hv,h⟩)
   ·exact .inl h
   ·exact .inr ⟨w,by simp,h⟩
   ·exact .inr ⟨v,by simp [hv],h⟩
  ·rintro (h|⟨v,hv,h⟩)
   ·exact .inl (.inl h)
   ·rcases List.mem_cons.1 hv with rfl|hv
    ·exact .inl (.inr h)
    ·exact .inr ⟨v,hv,h⟩
theorem Jl {n:Nat}: ∀k,uF (allI n k)
 |0=>⟨by simp [allI], .nil⟩
 |k+1=>Jh _ (Jl k)
theorem V4 {n:Nat} (hn:1≤n∧n≤16) {x:L2}: ∀k,x∈allI n k↔x∈lu n k
 |0=>by simp [allI,lu]
 |k+1=>by
  have ih:=V4 hn (x:=x) k
  rw [allI,lu,V3,Jk,ih]
  have hp: ∀w,w∈sw n n (gJ n) 0↔w∈lv n n []:=fun w=>(acN hn).mem_iff.symm
  constructor
  ·rintro (h|⟨w,hw,h⟩)
   ·exact .inl h
   ·exact .inr ⟨w,(hp w).1 hw,h⟩
  ·rintro (h|⟨w,hw,h⟩)
   ·exact .inl h
   ·exact .inr ⟨w,(hp w).2 hw,h⟩
theorem V5 {n:Nat} (hn:1≤n∧n≤16):allI n (aU n n n).length=gI (allL n):=
 LJ (Jl _).2 LG fun x=>by rw [V4 hn,qZ];rfl
theorem Jm {n:Nat}: ∀k,(allI n k).length≤k*kD n
 |0=>by simp [allI]
 |k+1=>by
  have h1:=Ji (n:=n) (black:=std (kH ((aU n n n).getD k []))) (sw n n (gJ n) 0) (l:=allI n k)
  have h2:=Jm (n:=n) k
  rw [Fj n] at h1
  rw [allI,Nat.add_mul]
  omega
theorem V6: ∀n,n<6→kD n≤120:=by decide
theorem afp {n:Nat} {x:Bool} {H:BH} {K:Value→BH→Prop} (h1:1≤n) (h5:n≤5) (hK:K (LD n (gI (allL n))) H):aF x Xk [I n] H K:=by
 have hlen:=Jj n (by omega)
 have hid:PQ n (gJ n):=⟨yY ⟨h1,by omega⟩,rM⟩
 have hil:=hid.2
 have hfc:=V6 n (by omega)
 have hr0:repl (DC 0 fQ fQ) 0=[]:=rfl
 have ag4:0*33=([]:List Value).length:=rfl
 refine bK (.cons .int .nil) ?_
 refine aG Yt ?_;simp only [jE,aB]
 refine au fun Kr hKr=>?_;simp (disch:=omega) only [RA,↓reduceIte,Nat.reduceEqDiff,Nat.reduceBEq,Nat.reduceSub,Nat.reduceAdd,Nat.reduceMul,Nat.reduceLT,Nat.reduceLeDiff,Int.reduceLE,Int.reduceLT,Int.reduceEq,Int.reduceNeg,Int.reduceToNat,Int.reduceMul,Int.reduceAdd,Int.reduceSub,Int.reduceBEq,Int.reduceBNe,reduceCtorEq,RD];refine hKr _ _ ?_;clear hKr Kr;(try simp only [RN,reduceIte]);try refine aj rfl ?_
 refine au fun Kr hKr=>?_;simp (disch:=omega) only [RA,↓reduceIte,Nat.reduceEqDiff,Nat.reduceBEq,Nat.reduceSub,Nat.reduceAdd,Nat.reduceMul,Nat.reduceLT,Nat.reduceLeDiff,Int.reduceLE,Int.reduceLT,Int.reduceEq,Int.reduceNeg,Int.reduceToNat,Int.reduceMul,Int.reduceAdd,Int.reduceSub,Int.reduceBEq,Int.reduceBNe,reduceCtorEq,RD]
 refine uZ 0 rfl (by simp only [RH]) ?_;simp only [RZ,nC]
 refine acj h1 (by omega) ?_
 simp (disch:=omega) only [RA,↓reduceIte,Nat.reduceEqDiff,Nat.reduceBEq,Nat.reduceSub,Nat.reduceAdd,Nat.reduceMul,Nat.reduceLT,Nat.reduceLeDiff,Int.reduceLE,Int.reduceLT,Int.reduceEq,Int.reduceNeg,Int.reduceToNat,Int.reduceMul,Int.reduceAdd,Int.reduceSub,Int.reduceBEq,Int.reduceBNe,reduceCtorEq,RD,R4,aI,aT,hr0]
 refine hKr _ _ ?_;clear hKr Kr;(try simp only [bW,dH,dG]);(try simp only [RN,reduceIte]);try refine aj rfl ?_
 refine au fun Kr hKr=>?_;simp (disch:=omega) only [RA,↓reduceIte,Nat.reduceEqDiff,Nat.reduceBEq,Nat.reduceSub,Nat.reduceAdd,Nat.reduceMul,Nat.reduceLT,Nat.reduceLeDiff,Int.reduceLE,Int.reduceLT,Int.reduceEq,Int.reduceNeg,Int.reduceToNat,Int.reduceMul,Int.reduceAdd,Int.reduceSub,Int.reduceBEq,Int.reduceBNe,reduceCtorEq,RD];refine hKr _ _ ?_;clear hKr Kr;(try simp only [RN,reduceIte]);try refine aj rfl ?_
 refine jT (Gh.fz (i:=1) (cs:=[]) rfl aJ.nil) ?_
 refine aW (fun m f H'=> ∃k,k≤(aU n n n).length∧m=(aU n n n).length-k∧f 0=I n∧f 3=Fz (aU n n n).length 1 ((aU n n n).map FN)∧f 4=LD n (allI n k)∧f 5=I k∧H'=[none,none]) ((aU n n n).length) ?_ ?_
 ·refine ⟨_,_,Gh.refl,0,by omega,by omega,?_,?_,?_,?_,?_⟩
  all_goals rfl
 ·rintro m f H' R ⟨k,hk,rfl,g0,g3,g4,g5,rfl⟩ hN hX hR hE
  simp only [jE.l0,aB]
  refine au fun Kr hKr=>?_;simp (disch:=omega) only [RA,↓reduceIte,Nat.reduceEqDiff,Nat.reduceBEq,Nat.reduceSub,Nat.reduceAdd,Nat.reduceMul,Nat.reduceLT,Nat.reduceLeDiff,Int.reduceLE,Int.reduceLT,Int.reduceEq,Int.reduceNeg,Int.reduceToNat,Int.reduceMul,Int.reduceAdd,Int.reduceSub,Int.reduceBEq,Int.reduceBNe,reduceCtorEq,RD,g3,g5];refine hKr _ _ ?_;clear hKr Kr;(try simp only [RN,reduceIte]);try refine aj rfl ?_
  refine eY (p:=k<(aU n n n).length) (by simp only [RA,↓reduceIte,Nat.reduceEqDiff,Nat.reduceBEq,Nat.reduceSub,Nat.reduceAdd,Nat.reduceMul,Nat.reduceLT,Nat.reduceLeDiff,Int.reduceLE,Int.reduceLT,Int.reduceEq,Int.reduceNeg,Int.reduceToNat,Int.reduceMul,Int.reduceAdd,Int.reduceSub,Int.reduceBEq,Int.reduceBNe,reduceCtorEq]<;>rfl) (by (try simp only [RB])<;>first|done|exact Iff.rfl|omega|simp) (fun hc=>?_) (fun hc=>?_)<;>(try simp only [RN,reduceIte])<;>(try refine aj rfl ?_)
  ·have hkn:k<(aU n n n).length:=by assumption
   obtain ⟨ht,hsum⟩:=VU n (by omega) h1 ((aU n n n).getD k []) (nJ hkn)
   obtain ⟨hp,hby,_,_⟩:=LW ht hsum
   have hlb:=hby.len
   have hlk:=Jm (n:=n) k
   have hmul:k*kD n≤7*120:=Nat.mul_le_mul (by omega) hfc
   have a1:((k:Nat):Int)+1=((k+1:Nat):Int):=by omega
   (first|refine fV rfl ?_|refine fZ rfl ?_);(try simp only [RN,reduceIte]);try refine aj rfl ?_
   refine au fun Kr hKr=>?_;simp (disch:=omega) only [RA,↓reduceIte,Nat.reduceEqDiff,Nat.reduceBEq,Nat.reduceSub,Nat.reduceAdd,Nat.reduceMul,Nat.reduceLT,Nat.reduceLeDiff,Int.reduceLE,Int.reduceLT,Int.reduceEq,Int.reduceNeg,Int.reduceToNat,Int.reduceMul,Int.reduceAdd,Int.reduceSub,Int.reduceBEq,Int.reduceBNe,reduceCtorEq,RD,g0,g3,g4,g5,vK,Gm]
   refine abL ht ?_
   simp (disch:=omega) only [RA,↓reduceIte,Nat.reduceEqDiff,Nat.reduceBEq,Nat.reduceSub,Nat.reduceAdd,Nat.reduceMul,Nat.reduceLT,Nat.reduceLeDiff,Int.reduceLE,Int.reduceLT,Int.reduceEq,Int.reduceNeg,Int.reduceToNat,Int.reduceMul,Int.reduceAdd,Int.reduceSub,Int.reduceBEq,Int.reduceBNe,reduceCtorEq,RD,g0,R4,hlb]
   refine acM (by omega) ?_
   simp (disch:=omega) only [RA,↓reduceIte,Nat.reduceEqDiff,Nat.reduceBEq,Nat.reduceSub,Nat.reduceAdd,Nat.reduceMul,Nat.reduceLT,Nat.reduceLeDiff,Int.reduceLE,Int.reduceLT,Int.reduceEq,Int.reduceNeg,Int.reduceToNat,Int.reduceMul,Int.reduceAdd,Int.reduceSub,Int.reduceBEq,Int.reduceBNe,reduceCtorEq,RD,g0,R4,hlb,hil]
   refine afA hby hp n (k:=0) hid (by omega) (Jl k) (by omega) ?_
   simp (disch:=omega) only [RA,↓reduceIte,Nat.reduceEqDiff,Nat.reduceBEq,Nat.reduceSub,Nat.reduceAdd,Nat.reduceMul,Nat.reduceLT,Nat.reduceLeDiff,Int.reduceLE,Int.reduceLT,Int.reduceEq,Int.reduceNeg,Int.reduceToNat,Int.reduceMul,Int.reduceAdd,Int.reduceSub,Int.reduceBEq,Int.reduceBNe,reduceCtorEq,RD,g0,R4]
   refine hKr _ _ ?_;clear hKr Kr;(try simp only [bW,dH,dG]);(try simp only [RN,reduceIte]);try refine aj rfl ?_
   refine dN fun Kr hKr=>?_;simp (disch:=omega) only [RA,↓reduceIte,Nat.reduceEqDiff,Nat.reduceBEq,Nat.reduceSub,Nat.reduceAdd,Nat.reduceMul,Nat.reduceLT,Nat.reduceLeDiff,Int.reduceLE,Int.reduceLT,Int.reduceEq,Int.reduceNeg,Int.reduceToNat,Int.reduceMul,Int.reduceAdd,Int.reduceSub,Int.reduceBEq,Int.reduceBNe,reduceCtorEq,RD,g5,a1];refine hKr _ _ ?_;clear hKr Kr
   refine hN ((aU n n n).length-(k+1)) _ _ _ _ (by omega) Gh.refl ⟨k+1,by omega,rfl,?_,?_,?_,?_,rfl⟩
   any_goals (simp (disch:=omega) only [RA,↓reduceIte,Nat.reduceEqDiff,Nat.reduceBEq,Nat.reduceSub,Nat.reduceAdd,Nat.reduceMul,Nat.reduceLT,Nat.reduceLeDiff,Int.reduceLE,Int.reduceLT,Int.reduceEq,Int.reduceNeg,Int.reduceToNat,Int.reduceMul,Int.reduceAdd,Int.reduceSub,Int.reduceBEq,Int.reduceBNe,reduceCtorEq,RD,RE, *]<;>rfl)
  ·refine hX _ _ ?_
   obtain rfl:k=(aU n n n).length:=by omega
   rw [←V5 ⟨h1,by omega⟩] at hK
   refine au fun Kr hKr=>?_;simp (disch:=omega) only [RA,↓reduceIte,Nat.reduceEqDiff,Nat.reduceBEq,Nat.reduceSub,Nat.reduceAdd,Nat.reduceMul,Nat.reduceLT,Nat.reduceLeDiff,Int.reduceLE,Int.reduceLT,Int.reduceEq,Int.reduceNeg,Int.reduceToNat,Int.reduceMul,Int.reduceAdd,Int.reduceSub,Int.reduceBEq,Int.reduceBNe,reduceCtorEq,RD,g4];refine hKr _ _ ?_;clear hKr Kr;(try simp only [RN,reduceIte]);try refine aj rfl ?_
   refine bZ (by simp (disch:=omega) only [RA,↓reduceIte,Nat.reduceEqDiff,Nat.reduceBEq,Nat.reduceSub,Nat.reduceAdd,Nat.reduceMul,Nat.reduceLT,Nat.reduceLeDiff,Int.reduceLE,Int.reduceLT,Int.reduceEq,Int.reduceNeg,Int.reduceToNat,Int.reduceMul,Int.reduceAdd,Int.reduceSub,Int.reduceBEq,Int.reduceBNe,reduceCtorEq,RD,resAll,resOf];rfl) aY.refl ?_;simp only [tup]
   exact ⟨.fz,hK⟩
end Go.Bm.Q5
namespace Go.Bm
open Go Go.Am
section
variable {n:Int} {b w:List Nat} {H:BH} {i:Nat}
end
section
variable {code:List Nat} {a:Nat} {h:Int}
end
section
variable {code:List Nat} {H:BH} {K:Value→BH→Prop} {x:Bool} (hl:code.length≤1048576) (hcd: ∀i,nl code i<256)
include hl hcd
end
end Go.Bm
namespace Go.Bm
open Go Go.Am
end Go.Bm
namespace Go.Bm
open Go Go.Am
def V7 (n:Int) (b w:List Nat) (n':Int) (b' w':List Nat):Prop:=n=n'∧b=b'∧w=w'
instance (n:Int) (b w:List Nat) (n':Int) (b' w':List Nat):Decidable (V7 n b w n' b' w'):=by unfold V7;infer_instance
end Go.Bm
namespace Go.Bm
open Go Go.Am
section
variable {x:Bool} {n:Int} {b w p:List Nat} {H:BH} {K:Value→BH→Prop}
end
end Go.Bm
namespace Go.Bm
open Go Go.Am
theorem afG {x:Bool} {H:BH} {K:Value→BH→Prop} {t0 t1 t2:List Nat} {n:Nat} (h0:t0.length≤100) (h1:t1.length≤100) (h2:t2.length≤100) (hn:n≤16) (hK:K (I ((t0.length:Int)+(t1.length:Int)+(t2.length:Int)-n)) H):
  aF x Xv [wR [t0,t1,t2],I n] H K:=by
 have g0:getN none ([t0,t1,t2].map FN) 0=some (FN t0):=rfl
 have g1:getN none ([t0,t1,t2].map FN) 1=some (FN t1):=rfl
 have g2:getN none ([t0,t1,t2].map FN) 2=some (FN t2):=rfl
 have hl3:[t0,t1,t2].length=3:=rfl
 simp only [wR,hl3]
 generalize [t0,t1,t2].map FN=cs at g0 g1 g2⊢
 refine bK (.cons .fz (.cons .int .nil)) ?_
 refine aG YI ?_;simp only [qO,aB]
 refine au fun Kr hKr=>?_;simp (disch:=omega) only [RA,↓reduceIte,Nat.reduceEqDiff,RD];refine hKr _ _ ?_;clear hKr Kr;(try simp only [RN,reduceIte]);try refine aj rfl ?_
 refine au fun Kr hKr=>?_;simp (disch:=omega) only [RA,↓reduceIte,Nat.reduceEqDiff,Int.reduceToNat,reduceCtorEq,RD,g0,g1,g2];refine hKr _ _ ?_;clear hKr Kr;(try simp only [RN,reduceIte]);try refine aj rfl ?_
 refine bZ (by simp (disch:=omega) only [RA,↓reduceIte,Nat.reduceEqDiff,RD,resAll,resOf];rfl) aY.refl ?_;simp only [tup]
 exact ⟨.int,hK⟩
section
variable {x:Bool} {H:BH} {K:Value→BH→Prop} {n:Nat} {b w:List Nat}
def jw (b w:List Nat) (n:Nat):Int:=((typ b n).length:Int)+((typ w n).length:Int)+((typ (jR b w n) n).length:Int)-n
theorem afH (hb:By 16 b) (hw:By 16 w) (hd:aX n b w) (hK:K (I (1-(jw b w n).tdiv 2)) H):aF x Xo [DV n b w] H K:=by
 have hlb:=hb.len
 have fG:=hw.len
 have hn:=hd.1.1
 have t0:=qx hd.1
 have t1:=qx hd.2.1
 have t2:=qx (qA hd.1 hd.2.1)
 refine bK (by exact .cons jP .nil) ?_
 refine aG Yz ?_;simp only [qL,aB]
 refine au fun Kr hKr=>?_;simp (disch:=omega) only [RA,↓reduceIte,Nat.reduceEqDiff,RD];refine hKr _ _ ?_;clear hKr Kr;(try simp only [RN,reduceIte]);try refine aj rfl ?_
 refine au fun Kr hKr=>?_;simp (disch:=omega) only [RA,↓reduceIte,Nat.reduceEqDiff,RD,aI,aT]
 refine afI hb hw hd ?_
 simp (disch:=omega) only [RA,↓reduceIte,Nat.reduceEqDiff,Nat.reduceSub,Nat.reduceLT,RD,aI,aT]
 refine afG t0 t1 t2 (by omega) ?_
 have he: -100≤jw b w n∧jw b w n≤300:=by unfold jw;omega
 have hq: -100≤(jw b w n).tdiv 2∧(jw b w n).tdiv 2≤300:=by
  rcases Int.le_total 0 (jw b w n) with h|h
  ·rw [Int.tdiv_eq_ediv_of_nonneg h];omega
  ·have e:(jw b w n).tdiv 2= -((-(jw b w n)).tdiv 2):=by rw [Int.neg_tdiv,Int.neg_neg]
   rw [e,Int.tdiv_eq_ediv_of_nonneg (by omega)]
   omega
 rw [show ((typ b n).length:Int)+((typ w n).length:Int)+((typ (jR b w n) n).length:Int)-n=jw b w n from rfl]
 generalize jw b w n=e at*
 generalize hqe:e.tdiv 2=q at*
 simp (disch:=omega) only [RA,↓reduceIte,Nat.reduceEqDiff,Nat.reduceSub,Int.reduceEq,RD,hqe]
 refine hKr _ _ ?_;clear hKr Kr;(try simp only [bW,dH,dG]);(try simp only [RN,reduceIte]);try refine aj rfl ?_
 refine bZ (by simp (disch:=omega) only [RA,↓reduceIte,Nat.reduceEqDiff,RD,resAll,resOf];rfl) aY.refl ?_;simp only [tup]
 exact ⟨.int,hK⟩
end
section
variable {x:Bool} {H:BH} {K:Value→BH→Prop} {n:Int} {b w:List Nat}
end
section
variable {code:List Nat} {H:BH} {K:Value→BH→Prop} {x:Bool}
end
end Go.Bm
namespace Go.Bm
open Go Go.Am
def cl (p:List Nat) (n x:Nat):Nat:=(((aQ p n).find? (·.contains x)).getD []).length
section
variable {p q:List Nat} {n:Nat}
theorem zT (hp:Perm p n) (hq:Perm q n) {y:Nat} (hy:y<n):nl (dJ p q n) (nl q y)=nl q (nl p y):=
 Dp (n:=n) (fun i j hi hj he=>hq.inj hi hj he) (fun i hi=>by have:=hq.lt hi;have:=hq.1;omega) (Nat.le_refl _) hy
theorem V8 (hp:Perm p n) (hq:Perm q n):Perm (dJ p q n) n:=by
 have hn:=hq.1
 refine .of (by omega) (fun i h1 h2=>Dq (n:=n) (m:=n) (fun i hi=>hq.lt hi) h1 (Nat.le_refl _)) (fun i hi=>?_) (fun i j hi hj=>?_)
 ·obtain ⟨y,hy,rfl⟩:=hq.qy hi
  rw [zT hp hq hy]
  exact hq.lt (hp.lt hy)
 ·obtain ⟨y,hy,rfl⟩:=hq.qy hi
  obtain ⟨z,hz,rfl⟩:=hq.qy (show j<n by omega)
  rw [zT hp hq hy,zT hp hq hz]
  intro he
  have:=hp.inj hz hy (hq.inj (hp.lt hz) (hp.lt hy) he)
  subst this
  omega
end
section
variable {b w q:List Nat} {n:Nat}
theorem V9 (hd:aX n b w) (hq:Perm q n):rU n b w (dJ b q n) (dJ w q n) (nl q):=
 ⟨fun y hy=>hq.lt hy,fun y z hy hz he=>hq.inj hy hz he,fun y hy=>zT hd.1 hq hy,fun y hy=>zT hd.2.1 hq hy⟩
theorem Jo (hd:aX n b w) (hq:Perm q n):aX n (dJ b q n) (dJ w q n):=by
 have hn:=hq.1
 have h1:=V8 hd.1 hq
 have h2:=V8 hd.2.1 hq
 refine ⟨h1,h2,?_⟩
 obtain ⟨x,hx,h0⟩:=hq.qy (y:=0) (by omega)
 have h3:=(V9 hd hq).ord (by omega) hd.1 hd.2.1 hx
 rw [h0] at h3
 have h4:=nH hd hx
 have h5:(ord (dJ b q n) (dJ w q n) 0).length=n:=by rw [h3,List.length_map,h4]
 show ((Bm.reach (dJ b q n) (dJ w q n)).2.length:Int)=n
 have e:(Bm.reach (dJ b q n) (dJ w q n)).2.length=n:=h5
 omega
theorem afJ (hd:aX n b w) (hq:Perm q n):eG (dJ b q n) (dJ w q n) n=eG b w n:=by
 have hn:=hq.1
 refine ((adA hd (Jo hd hq)).2 ⟨nl q 0,hq.lt (by omega),?_⟩).symm
 exact (V9 hd hq).dR hd (Jo hd hq) (by omega)
theorem afK (hd:aX n b w) {x:Nat} (hx:x<n):Perm (dW b w x) n:=by
 have hn:=hd.1.1
 refine .of (by omega) (fun i h1 h2=>?_) (fun i hi=>(kT hd hx hi).2) (fun i j hi hj he=>by have:=Dt hd hx j i (by omega) hi he;omega)
 have hl:=nH hd hx
 have: ∀k,k≤(ord b w x).length→nl (iw (ord b w x) k) i=0:=by
  intro k
  induction k with
  |zero=>intro _;simp only [iw,lG];split<;>rfl
  |succ k ih=>
   intro hk
   rw [iw,jq,if_neg (fun e=>by have:=sS hd hx (j:=k) (by omega);omega),ih (by omega)]
 rw [dW,this _ (Nat.le_refl _)]
theorem afL (hd:aX n b w):aX n (eG b w n).1 (eG b w n).2∧eG (eG b w n).1 (eG b w n).2 n=eG b w n:=by
 have hn:=hd.1.1
 obtain ⟨x,hx,e⟩:= @sU b w n (n-1)
 have hx':x<n:=by omega
 have hq:=afK hd hx'
 have e2:eG b w n=(dJ b (dW b w x) n,dJ w (dW b w x) n):=e
 rw [e2]
 exact ⟨Jo hd hq,by rw [afJ hd hq,e2]⟩
end
end Go.Bm
namespace Go.Bm.Q5
open Go Go.Am Go.Bm
theorem afM {n:Nat} {black:List Nat}: ∀{ws:List (List Nat)} {l:List L2},(∀d∈l,aX n d.1 d.2)→ ∀d∈ws.foldl (stepD n black) l,aX n d.1 d.2:=fun {ws l} h d hd=>by
 rcases Jk.1 hd with h1|⟨w,_,h1,rfl⟩
 ·exact h d h1
 ·exact (afL h1).1
theorem Vs {n:Nat}: ∀k,∀d∈lu n k,aX n d.1 d.2
 |0=>by simp [lu]
 |k+1=>afM (Vs k)
theorem Iw {n:Nat} (h1:1≤n) (h5:n≤5):(gI (allL n)).length≤840:=by
 have h:=Jm (n:=n) (aU n n n).length
 have hlen:=Jj n (by omega)
 have hfc:=V6 n (by omega)
 have hmul:(aU n n n).length*kD n≤7*120:=Nat.mul_le_mul hlen hfc
 rw [V5 ⟨h1,by omega⟩] at h
 omega
def pF (n:Nat) (d:L2):P3:=(typ d.1 n,typ d.2 n,typ (jR d.1 d.2 n) n)
def uD (n:Nat) (d:L2):Int:=1-(jw d.1 d.2 n).tdiv 2
def iC (n:Nat) (g:Int) (L:List L2):List P3:=(L.filter fun d=>decide (uD n d=g)).map (pF n)
theorem VI {n i:Nat} {g:Int} {L:List L2} (h:i<L.length):iC n g (L.take (i+1))=iC n g (L.take i)++if uD n (L.getD i default)=g then [pF n (L.getD i default)] else []:=by
 have e4:L.take (i+1)=L.take i++[L.getD i default]:=by
  rw [List.take_add_one]
  simp [List.getD,h]
 rw [e4,iC,List.filter_append,List.map_append]
 congr 1
 by_cases hg:uD n (L.getD i default)=g
 ·rw [if_pos hg,List.filter_cons_of_pos (by exact decide_eq_true hg)]
  rfl
 ·rw [if_neg hg,List.filter_cons_of_neg (by simpa using hg)]
  rfl
theorem DW {n i:Nat} {g:Int} {L:List L2}:(iC n g (L.take i)).length≤L.length:=by
 rw [iC,List.length_map]
 refine Nat.le_trans (List.length_filter_le _ _) ?_
 rw [List.length_take]
 omega
def heads (ks:List Nat):List Value:=ks.map fun k=>S (k+3) 0 3 1
structure O3 (H:BH) (b:Nat) (ks:List Nat) (ps:List P3):Prop where
 len:ks.length=ps.length
 out:blk H b=some (heads ks)
 row: ∀(j k:Nat) (p:P3),ks[j]? =some k→ps[j]? =some p→blk H (k+3)=some (hdr k (dS p))∧ ∀i r,(dS p)[i]? =some r→blk H (k+i)=some r
 sep:ks.Pairwise fun a c=>a+3<c∨c+3<a
 off: ∀k∈ks,b<k∨k+3<b
theorem wM {p:P3}:(dS p).length=3:=rfl
theorem zU {H:BH} {x:Nat} {c:List Value} (h:blk H x=some c):x<H.length:=oC h
theorem O3.mono {H H':BH} {b:Nat} {ks:List Nat} {ps:List P3} (h:O3 H b ks ps) (hk: ∀x c,blk H x=some c→blk H' x=some c):O3 H' b ks ps:=
 ⟨h.len,hk _ _ h.out,fun j k p h1 h2=>⟨hk _ _ (h.row j k p h1 h2).1,fun i r h3=>hk _ _ ((h.row j k p h1 h2).2 i r h3)⟩,h.sep,h.off⟩
theorem O3.lt {H:BH} {b:Nat} {ks:List Nat} {ps:List P3} (h:O3 H b ks ps) {k:Nat} (hk:k∈ks):k+3<H.length:=by
 obtain ⟨j,hj⟩:=List.mem_iff_getElem?.1 hk
 have hjl:j<ps.length:=by rw [←h.len];exact (List.getElem?_eq_some_iff.1 hj).1
 exact zU (h.row j k _ hj (List.getElem?_eq_getElem hjl)).1
theorem O3.push {M M2:BH} {b b2 k:Nat} {ks:List Nat} {ps:List P3} {p:P3} (h:O3 M b ks ps) (hkeep: ∀x c,x≠b→blk M x=some c→blk M2 x=some c) (hk:M.length≤k) (hhd:blk M2 (k+3)=some (hdr k (dS p)))
  (hrow: ∀i r,(dS p)[i]? =some r→blk M2 (k+i)=some r) (hb2:k+3<b2) (hout:blk M2 b2=some (heads (ks++[k]))):O3 M2 b2 (ks++[k]) (ps++[p]):=by
 refine ⟨by simp [h.len],hout,fun j k' p' h1 h2=>?_,?_,fun k' hk'=>?_⟩
 ·rcases Nat.lt_or_ge j ks.length with hj|hj
  ·rw [List.getElem?_append_left hj] at h1
   rw [List.getElem?_append_left (by rw [←h.len];exact hj)] at h2
   obtain ⟨g1,g2⟩:=h.row j k' p' h1 h2
   have ho:=h.off k' (List.mem_of_getElem? h1)
   refine ⟨hkeep _ _ (by omega) g1,fun i r hi=>?_⟩
   have:i<3:=by
    have:=(List.getElem?_eq_some_iff.1 hi).1
    simpa [wM] using this
   exact hkeep _ _ (by omega) (g2 i r hi)
  ·have e:j=ks.length:=by
    have:=(List.getElem?_eq_some_iff.1 h1).1
    simp at this
    omega
   rw [e,List.getElem?_append_right (Nat.le_refl _)] at h1
   rw [e,h.len,List.getElem?_append_right (Nat.le_refl _)] at h2
   simp at h1 h2
   subst h1;subst h2
   exact ⟨hhd,hrow⟩
 ·refine List.pairwise_append.2 ⟨h.sep,List.pairwise_singleton _ _,fun a ha c hc=>?_⟩
  rw [List.mem_singleton.1 hc]
  have:=h.lt ha
  exact .inl (by omega)
 ·rcases List.mem_append.1 hk' with hk'|hk'
  ·have:=h.lt hk'
   exact .inr (by omega)
  ·rw [List.mem_singleton.1 hk']
   exact .inr hb2
section
variable {M:BH} {b w:List Nat} {n bo:Nat} {ks:List Nat} {ps:List P3} {g:Int} {L:List L2}
theorem afN {H:BH} {b bytes cn j l q e:Nat} {cs:List Value} (hl:cs.length=l) (h:(l+1)*bytes≤140737488355328):app1 (some [S j 0 q e]) (some cs) H b l bytes cn=some (S H.length 0 (l+1) 1,(H.set b none)++[some (cs++[S j 0 q e])]):=by
 simp only [app1]
 rw [if_pos ⟨by omega,h,rfl⟩,←hl,List.take_length]
theorem Eh {x:Nat} {c c':Option (List Value)} (h:blk M x=c) (hx:x<M.length):blk (M++[c']) x=c:=by rw [l9,if_neg (by omega)];exact h
theorem aeZ {rest:ACode} {Q:Ex→Fr→BH→Prop} {f:Fr} (hL:L.length≤840) (h1:1≤n∧n≤5) (hby: ∀d∈L,By 16 d.1∧By 16 d.2) (hdes: ∀d∈L,aX n d.1 d.2)
  (g1:f 1=I g) (g6:f 6=S 0 0 0 1) (g21:f 21=LD n L) (g22:f 22=I L.length) (g23:f 23=I 0)
  (hend: ∀f' M' bo ks,O3 M' bo ks (iC n g L)→f' 6=S bo 0 (iC n g L).length 1→T 0 rest Q f' M'):T 0 (.seq (.block 0 (.loop fK.l0)) rest) Q f [some []]:=by
 refine aW (fun m f H'=> ∃i ks bo,i≤L.length∧m=L.length-i∧O3 H' bo ks (iC n g (L.take i))∧f 1=I g∧f 6=S bo 0 (iC n g (L.take i)).length 1∧f 21=LD n L∧f 22=I L.length∧f 23=I i) (L.length) ?_ ?_
 ·refine ⟨_,_,Gh.refl,0,[],0,by omega,by omega,⟨by simp [iC],rfl,fun j k p h=>by simp at h, .nil,fun k h=>by cases h⟩,g1,?_,g21,g22,g23⟩
  simpa [iC] using g6
 ·clear g1 g6 g21 g22 g23
  rintro m f M R ⟨i,ks,bo,hi,rfl,ho,g1,g6,g21,g22,g23⟩ hN hX hR hE
  simp only [fK.l0,aB]
  refine au fun Kr hKr=>?_;simp (disch:=omega) only [RA,↓reduceIte,Nat.reduceEqDiff,RD,g22,g23];refine hKr _ _ ?_;clear hKr Kr;(try simp only [RN,reduceIte]);try refine aj rfl ?_
  refine eY (p:=i<L.length) (by simp only [RA,↓reduceIte,Nat.reduceEqDiff]<;>rfl) (by (try simp only [RB])<;>first|done|exact Iff.rfl|omega|simp) (fun hc=>?_) (fun hc=>?_)<;>(try simp only [RN,reduceIte])<;>(try refine aj rfl ?_)
  ·have hil:i<L.length:=by assumption
   have hget:L[i]? =some (L.getD i default):=by simp [List.getD,hil]
   obtain ⟨hb,hw⟩:=hby _ (nJ (d:=default) hil)
   have hd:=hdes _ (nJ (d:=default) hil)
   have hsu:=VI (n:=n) (g:=g) hil
   have hpl:=DW (n:=n) (g:=g) (i:=i) (L:=L)
   have hnext: ∀f' M' Ei ks',O3 M' Ei ks' (iC n g (L.take (i+1)))→f' 1=I g→f' 6=S Ei 0 (iC n g (L.take (i+1))).length 1→f' 21=LD n L→f' 22=I L.length→f' 23=I i→T 0 fK.r9 R f' M':=by
    clear g1 g6 g21 g22 g23
    intro f' M' Ei ks' ho' g1 g6 g21 g22 g23
    refine dN fun Kr hKr=>?_;simp (disch:=omega) only [RA,↓reduceIte,Nat.reduceEqDiff,RD,g23];refine hKr _ _ ?_;clear hKr Kr
    refine hN (L.length-(i+1)) _ _ _ _ (by omega) Gh.refl ⟨i+1,ks',Ei,by omega,rfl,ho',?_,?_,?_,?_,?_⟩
    any_goals (simp (disch:=omega) only [RA,↓reduceIte,Nat.reduceEqDiff,RD,RE, *]<;>rfl)
   generalize L.getD i default=d at*
   have hlb:=hb.len
   have fG:=hw.len
   have q0: ∀c,blk (M++[c]) M.length=c:=fun c=>by rw [l9,if_pos rfl]
   have qs: ∀c c',(M++[c]).set M.length c'=M++[c']:=fun c c'=>by simp
   have hgl:=Ec (n:=n) hby hget
   have hst:=GR (H:=M++[some (DC 0 fQ fQ)]) (i:=M.length) (n:=0) (m:=n) jS jS hlb fG
   rw [qs] at hst
   (first|refine fV rfl ?_|refine fZ rfl ?_);(try simp only [RN,reduceIte]);try refine aj rfl ?_
   refine au fun Kr hKr=>?_;simp (disch:=omega) only [RA,↓reduceIte,Nat.reduceEqDiff,RD,g21,g23,hgl,aI,aT,q0,hst];refine hKr _ _ ?_;clear hKr Kr;(try simp only [RN,reduceIte]);try refine aj rfl ?_
   refine au fun Kr hKr=>?_;simp (disch:=omega) only [RA,↓reduceIte,Nat.reduceEqDiff,RD,aI,aT,q0]
   refine afH hb hw hd ?_
   simp (disch:=omega) only [RA,↓reduceIte,Nat.reduceEqDiff,RD,g1]
   refine hKr _ _ ?_;clear hKr Kr;(try simp only [bW,dH,dG]);(try simp only [RN,reduceIte]);try refine aj rfl ?_
   have hgd:1-(jw d.1 d.2 n).tdiv 2=uD n d:=rfl
   rw [hgd]
   by_cases hg:uD n d=g
   ·rw [if_pos hg] at hsu
    rw [hsu] at hnext
    have q1:blk (M++[some (DC n d.1 d.2)]) M.length=some (DC n d.1 d.2):=q0 _
    have ln: ∀(H:BH) (c:Option (List Value)),(H++[c]).length=H.length+1:=fun H c=>by simp
    refine dY (t:=true) (by simp (disch:=omega) only [RA,↓reduceIte,Nat.reduceEqDiff,RD,hg]) ?_;(try simp only [RN,reduceIte]);try refine aj rfl ?_
    refine au fun Kr hKr=>?_;simp (disch:=omega) only [RA,↓reduceIte,Nat.reduceEqDiff,RD,g6,aI,aT,q0]
    refine afO hb hw hd ?_
    rw [ln M]
    have hpl':(hdr (M.length+1+1) (dS (typ d.1 n,typ d.2 n,typ (jR d.1 d.2 n) n)))=hdr (M.length+2) (dS (pF n d)):=rfl
    rw [hpl']
    obtain ⟨M6,wS⟩: ∃M6,M6=((((((M++[some (DC n d.1 d.2)])++[some (DC n d.1 d.2)])++[some ((typ d.1 n).map bF)])++[some ((typ d.2 n).map bF)])++[some ((typ (jR d.1 d.2 n) n).map bF)])++[some (hdr (M.length+2) (dS (pF n d)))]):=⟨_,rfl⟩
    rw [←wS]
    have h6l:M6.length=M.length+6:=by rw [wS];simp
    have Wh: ∀x c,blk M x=some c→blk M6 x=some c:=fun x c hx=>by
     have:=zU hx
     rw [wS]
     simp only [l9,List.length_append,List.length_singleton]
     rw [if_neg (by omega),if_neg (by omega),if_neg (by omega),if_neg (by omega),if_neg (by omega),if_neg (by omega)]
     exact hx
    have khd:blk M6 (M.length+5)=some (hdr (M.length+2) (dS (pF n d))):=by
     rw [wS,l9,if_pos (by simp)]
    have afP: ∀i r,(dS (pF n d))[i]? =some r→blk M6 (M.length+2+i)=some r:=fun i r hi=>by
     have hi3:=(List.getElem?_eq_some_iff.1 hi).1
     rw [wM] at hi3
     rw [wS]
     simp only [l9,List.length_append,List.length_singleton]
     rcases i with _| _| _|i
     ·rw [if_neg (by omega),if_neg (by omega),if_neg (by omega),if_pos (by omega)];exact hi
     ·rw [if_neg (by omega),if_neg (by omega),if_pos (by omega)];exact hi
     ·rw [if_neg (by omega),if_pos (by omega)];exact hi
     ·omega
    clear wS
    have hbo:=zU ho.out
    have e7:blk (M6++[some [S (M.length+1+4) 0 3 1]]) M6.length=some [S (M.length+1+4) 0 3 1]:=by rw [l9,if_pos rfl]
    have e8:blk (M6++[some [S (M.length+1+4) 0 3 1]]) bo=some (heads ks):=Eh (Wh _ _ ho.out) (by omega)
    have hlk:(heads ks).length=(iC n g (L.take i)).length:=by rw [heads,List.length_map,ho.len]
    have ha:=afN (H:=M6++[some [S (M.length+1+4) 0 3 1]]) (b:=bo) (bytes:=24) (cn:=M6.length) (j:=M.length+1+4) (q:=3) (e:=1) hlk (by omega)
    simp (disch:=omega) only [RA,↓reduceIte,Nat.reduceEqDiff,Nat.reduceLeDiff,RD,g6,aI,aT,e7,e8,ha]
    refine hKr _ _ ?_;clear hKr Kr;(try simp only [bW,dH,dG]);(try simp only [RN,reduceIte]);try refine aj rfl ?_
    refine hnext _ _ (M6.length+1) (ks++[M.length+2]) ?_ ?_ ?_ ?_ ?_ ?_
    any_goals (simp (disch:=omega) only [RA,↓reduceIte,Nat.reduceEqDiff,RD,RE, *]<;>rfl)
    ·have hfin: ∀x c,x≠bo→blk M6 x=some c→blk (((M6++[some [S (M.length+1+4) 0 3 1]]).set bo none)++[some (heads ks++[S (M.length+1+4) 0 3 1])]) x=some c:=fun x c hx h=>by
      have h2:=zU h
      refine Eh ?_ (by rw [List.length_set,ln];omega)
      rw [kM (by rw [ln];omega),if_neg hx]
      exact Eh h h2
     refine ho.push (fun x c hx h=>hfin x c hx (Wh x c h)) (by omega) (hfin _ _ (by omega) khd) (fun i r hi=>hfin _ _ ?_ (afP i r hi)) (by omega) ?_
     ·omega
     ·rw [l9,if_pos (by rw [List.length_set,ln])]
      simp only [heads,List.map_append]
      rfl
   ·rw [if_neg hg,List.append_nil] at hsu
    rw [hsu] at hnext
    refine dY (t:=false) (by simp (disch:=omega) only [RA,↓reduceIte,Nat.reduceEqDiff,RD,hg]) ?_;(try simp only [RN,reduceIte]);try refine aj rfl ?_
    refine hnext _ _ bo ks (ho.mono fun x c hx=>Eh hx (zU hx)) ?_ ?_ ?_ ?_ ?_
    any_goals (simp (disch:=omega) only [RA,↓reduceIte,Nat.reduceEqDiff,RD,RE, *]<;>rfl)
  ·refine hX _ _ ?_
   obtain rfl:i=L.length:=by omega
   rw [List.take_length] at ho g6
   exact hend _ _ _ _ ho (by simp (disch:=omega) only [RA,↓reduceIte,Nat.reduceEqDiff,RD,RE, *]<;>rfl)
end
end Go.Bm.Q5
namespace Go.Bm.Q5
open Go Go.Am Go.Bm
structure R3 (H:BH) (b:Nat) (ks:List Nat) (kN:List (List (List Value))):Prop where
 len:ks.length=kN.length
 row: ∀(j k:Nat) (rs:List (List Value)),ks[j]? =some k→kN[j]? =some rs→rs.length=3∧blk H (k+3)=some (hdr k rs)∧ ∀i r,rs[i]? =some r→blk H (k+i)=some r∧r.all Am.plain=true
 sep:ks.Pairwise fun a c=>a+3<c∨c+3<a
 off: ∀k∈ks,b<k∨k+3<b
theorem O3.r3 {H:BH} {b:Nat} {ks:List Nat} {ps:List P3} (h:O3 H b ks ps):R3 H b ks (ps.map dS):=
 ⟨by simp [h.len],fun j k rs h1 h2=>by
  rw [List.getElem?_map] at h2
  obtain ⟨p,hp,rfl⟩:=map_inj h2
  obtain ⟨g1,g2⟩:=h.row j k p h1 hp
  exact ⟨wM,g1,fun i r hi=>⟨g2 i r hi,Jp r (List.mem_of_getElem? hi)⟩⟩,h.sep,h.off⟩
theorem R3.o3 {H:BH} {b:Nat} {ks:List Nat} {ps:List P3} (h:R3 H b ks (ps.map dS)) (ho:blk H b=some (heads ks)):O3 H b ks ps:=
 ⟨by simpa using h.len,ho,fun j k p h1 h2=>by
  obtain ⟨_,g1,g2⟩:=h.row j k (dS p) h1 (by rw [List.getElem?_map,h2];rfl)
  exact ⟨g1,fun i r hi=>(g2 i r hi).1⟩,h.sep,h.off⟩
theorem R3.keep {H H':BH} {b:Nat} {ks:List Nat} {kN:List (List (List Value))} (h:R3 H b ks kN) (hk: ∀x c,x≠b→blk H x=some c→blk H' x=some c):R3 H' b ks kN:=
 ⟨h.len,fun j k rs h1 h2=>by
  obtain ⟨g0,g1,g2⟩:=h.row j k rs h1 h2
  have ho:=h.off k (List.mem_of_getElem? h1)
  refine ⟨g0,hk _ _ (by omega) g1,fun i r hi=>?_⟩
  have hi3:=(List.getElem?_eq_some_iff.1 hi).1
  exact ⟨hk _ _ (by omega) (g2 i r hi).1,(g2 i r hi).2⟩,h.sep,h.off⟩
theorem R3.sel {H:BH} {b:Nat} {ks:List Nat} {kN:List (List (List Value))} (h:R3 H b ks kN) {σ:List Nat} (h1: ∀i∈σ,i<ks.length) (h2:σ.Nodup):R3 H b (σ.map fun i=>ks.getD i 0) (σ.map fun i=>kN.getD i []):=by
 have hk: ∀i,i<ks.length→ks[i]? =some (ks.getD i 0):=fun i hi=>by rw [List.getD_eq_getElem?_getD,List.getElem?_eq_getElem hi];rfl
 have hr: ∀i,i<ks.length→kN[i]? =some (kN.getD i []):=fun i hi=>by rw [List.getD_eq_getElem?_getD,List.getElem?_eq_getElem (by rw [←h.len];exact hi)];rfl
 refine ⟨by simp,fun j k rs e1 e2=>?_,?_,fun k hk'=>?_⟩
 ·rw [List.getElem?_map] at e1 e2
  obtain ⟨i,hi,rfl⟩:=map_inj e1
  rw [hi] at e2
  cases e2
  have:=h1 i (List.mem_of_getElem? hi)
  exact h.row i _ _ (hk i this) (hr i this)
 ·rw [List.pairwise_map]
  refine h2.imp_of_mem fun {i j} hi hj hne=>?_
  have hi':=h1 i hi
  have hj':=h1 j hj
  have hs:=List.pairwise_iff_getElem.1 h.sep
  have ei:ks.getD i 0=ks[i]:=by rw [List.getD_eq_getElem?_getD,List.getElem?_eq_getElem hi'];rfl
  have ej:ks.getD j 0=ks[j]:=by rw [List.getD_eq_getElem?_getD,List.getElem?_eq_getElem hj'];rfl
  rw [ei,ej]
  rcases Nat.lt_trichotomy i j with hl|hl|hl
  ·exact hs i j hi' hj' hl
  ·exact absurd hl hne
  ·have:=hs j i hj' hi' hl
   omega
 ·obtain ⟨i,hi,rfl⟩:=List.mem_map.1 hk'
  exact h.off _ (List.mem_of_getElem? (hk i (h1 i hi)))
theorem zN {ks:List Nat} {i:Nat} (h:i<ks.length):(heads ks).getD i undef=S (ks.getD i 0+3) 0 3 1:=by
 rw [heads,List.getD_eq_getElem?_getD,List.getElem?_map,List.getD_eq_getElem?_getD,List.getElem?_eq_getElem h]
 rfl
theorem afQ {ks σ:List Nat} (h: ∀i∈σ,i<ks.length):(σ.map fun i=>(heads ks).getD i undef)=heads (σ.map fun i=>ks.getD i 0):=by
 show _=List.map _ (List.map _ _)
 rw [List.map_map]
 exact List.map_congr_left fun i hi=>zN (h i hi)
theorem su {ks:List Nat}:(heads ks).length=ks.length:=by simp [heads]
theorem Vt {ps:List P3} {σ:List Nat} (h: ∀i∈σ,i<ps.length):(σ.map fun i=>(ps.map dS).getD i [])=(σ.map fun i=>ps.getD i default).map dS:=by
 rw [List.map_map]
 refine List.map_congr_left fun i hi=>?_
 show (ps.map dS).getD i []=dS (ps.getD i default)
 rw [List.getD_eq_getElem?_getD,List.getElem?_map,List.getD_eq_getElem?_getD,List.getElem?_eq_getElem (h i hi)]
 rfl
theorem O3.at2 {H:BH} {b:Nat} {ks:List Nat} {ps:List P3} (h:O3 H b ks ps) {j:Nat} (hj:j<ps.length):At2 H b ((heads ks).getD j undef) (dS (ps.getD j default)):=by
 have hjk:j<ks.length:=by rw [h.len];exact hj
 have e1:ks[j]? =some (ks.getD j 0):=by rw [List.getD_eq_getElem?_getD,List.getElem?_eq_getElem hjk];rfl
 have e2:ps[j]? =some (ps.getD j default):=by rw [List.getD_eq_getElem?_getD,List.getElem?_eq_getElem hj];rfl
 obtain ⟨g1,g2⟩:=h.row j _ _ e1 e2
 have ho:=h.off _ (List.mem_of_getElem? e1)
 refine ⟨ks.getD j 0,ks.getD j 0+3,by rw [zN hjk,wM],g1,fun i r hi=>⟨g2 i r hi,?_⟩,by omega⟩
 have hi3:=(List.getElem?_eq_some_iff.1 hi).1
 rw [wM] at hi3
 omega
theorem map_range {α:Type} {ps:List α} {d:α}:((List.range ps.length).map fun i=>ps.getD i d)=ps:=by
 apply List.ext_getElem (by simp)
 intro i h1 h2
 simp [List.getD,h2]
theorem ae0 {H:BH} {b:Nat} {ks:List Nat} {ps:List P3} {K:Value→BH→Prop} (ho:O3 H b ks ps) (hl:ps.length≤1000000) (hrow: ∀p∈ps,∀r∈aP p,r.length<1000000)
  (hK: ∀H' ks' ps',O3 H' b ks' ps'→ps'.Perm ps→ps'.Pairwise (fun p q=> ¬dM q p)→K (.tuple ⟨[]⟩) H'):aF false yw [S b 0 ps.length 1, .func (.func pO) #[] #[]] H K:=by
 rcases Nat.eq_zero_or_pos ps.length with h0|h0
 ·have hp:ps=[]:=List.eq_nil_of_length_eq_zero h0
  subst hp
  exact afR (hK H ks [] ho (List.Perm.refl _) .nil)
 ·have hbl:=oC ho.out
  refine afS ho.out (by rw [su,ho.len]) h0 hl (fun j hj=>ho.at2 hj) (fun c hc=>?_) hrow fun σ hσ hs=>?_
  ·obtain ⟨k,_,rfl⟩:=List.mem_map.1 hc
   rfl
  ·have uG: ∀i∈σ,i<ps.length:=fun i hi=>by simpa using hσ.mem_iff.1 hi
   have Wi: ∀i∈σ,i<ks.length:=fun i hi=>by rw [ho.len];exact uG i hi
   have hnd:σ.Nodup:=hσ.nodup_iff.2 List.nodup_range
   have h3:=(ho.r3.keep (H':=H.set b (some (σ.map fun i=>(heads ks).getD i undef))) fun x c hx h=>by rw [kM hbl,if_neg hx];exact h).sel Wi hnd
   rw [Vt uG] at h3
   refine hK _ _ _ (h3.o3 (by rw [kM hbl,if_pos rfl,afQ Wi])) ?_ ?_
   ·have:=hσ.map fun i=>ps.getD i default
    rw [map_range] at this
    exact this
   ·rw [List.pairwise_map]
    exact hs
end Go.Bm.Q5
namespace Go.Bm.Q5
open Go Go.Am Go.Bm
section
variable {n:Nat} {l:List L2} {x:Bool} {H:BH} {K:Value→BH→Prop}
end
end Go.Bm.Q5
namespace Go.Bm.Q5
open Go Go.Am Go.Bm
def mkV (q p:Nat):Value:=if p%33=0 then I ((q+p:Nat):Int) else .int .u8 (IntKind.u8.wrap ((q+p:Nat):Int))
section
variable {N q:Nat} {cs:List Value} {K:Value→BH→Prop}
end
end Go.Bm.Q5
namespace Go.Bm.Q5
open Go Go.Am Go.Bm
section
variable {N q:Nat} {x:Bool} {H:BH} {K:Value→BH→Prop}
end
end Go.Bm.Q5
