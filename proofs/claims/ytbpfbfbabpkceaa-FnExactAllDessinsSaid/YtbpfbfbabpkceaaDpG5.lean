/- Dp0b, Dp6, Dp6b, DpX, DpZ, DpDm, DpQg, DpQh, DpQf -/
import Derived.Test.YtbpfbfbabpkceaaDpG0
import Derived.Test.YtbpfbfbabpkceaaDpG2
import Derived.Test.YtbpfbfbabpkceaaDpG3
set_option linter.unusedVariables false
set_option linter.unusedSimpArgs false
namespace Go.Bm
open Go Go.Am
theorem Bd: ∀{p q:List Nat},p.length=q.length→eqCells (p.map N8) (q.map N8)=some (decide (p=q))
 |[],[],_=>rfl
 |[],_::_,h=>by simp at h
 | _::_,[],h=>by simp at h
 |a::p,b::q,h=>by
  have ih:=Bd (p:=p) (q:=q) (by simpa using h)
  simp only [List.map_cons,eqCells,eqCell,if_true,ih,Option.map_some,Option.some.injEq]
  by_cases e:a=b
  ·subst e;simp
  ·have: ¬((a:Int)=(b:Int)):=by omega
   simp [e,this]
theorem Vd {neg:Bool} {m:Nat} {p q:List Nat} (hp:p.length=m) (hq:q.length=m):nN neg m (PL p) (PL q)=some (.bool (if neg then !decide (p=q) else decide (p=q))):=by
 have:aEqa m (PL p) (PL q)=some (decide (p=q)):=by
  simp only [aEqa]
  rw [if_pos (by simpa using hp)]
  exact Bd (by omega)
 simp only [nN,this,Option.map_some]
end Go.Bm
namespace Go.Bm
open Go Go.Am
section
variable {H:BH} {i:Nat} {n m:Int} {c t s p c' t' s':List Nat}
end
def Bf (l:List Nat) (n:Int) (x:Nat):Prop:=(n≤(x:Int)→nl l x=0)∧((x:Int)<n→(nl l x:Int)<n∧nl l x≠x∧nl l (nl l x)=x)
instance (l:List Nat) (n:Int) (x:Nat):Decidable (Bf l n x):=by unfold Bf;infer_instance
def Pairs (l:List Nat) (n:Int):Prop:= ∀x,x<32→Bf l n x
instance (l:List Nat) (n:Int):Decidable (Pairs l n):=by unfold Pairs;infer_instance
end Go.Bm
namespace Go.Bm
open Go Go.Am
end Go.Bm
namespace Go.Bm
open Go Go.Am
end Go.Bm
namespace Go.Bm
open Go Go.Am
theorem Ve {neg:Bool} {n m:Int} {b w b' w':List Nat} (hb:b.length=16) (hw:w.length=16) (hb':b'.length=16) (hw':w'.length=16):
  nN neg 33 (aggL (DC n b w)) (aggL (DC m b' w'))=some (.bool (if neg then !decide (n=m∧(b,w)=(b',w')) else decide (n=m∧(b,w)=(b',w')))):=by
 have e1:eqCells ((b++w).map N8) ((b'++w').map N8)=some (decide (b++w=b'++w')):=Bd (by simp [hb,hw,hb',hw'])
 have e2:(b++w=b'++w')↔(b,w)=(b',w'):=by
  rw [Prod.mk.injEq]
  exact ⟨fun h=>List.append_inj h (by omega),fun h=>by rw [h.1,h.2]⟩
 have:aEqa 33 (aggL (DC n b w)) (aggL (DC m b' w'))=some (decide (n=m∧(b,w)=(b',w'))):=by
  simp only [aEqa]
  rw [if_pos (by simp [hb,hw])]
  rw [List.map_append,List.map_append] at e1
  simp only [DC,eqCells,eqCell,if_true,e1,Option.map_some,Option.some.injEq]
  by_cases h1:n=m
  ·by_cases h2:b++w=b'++w'
   ·rw [decide_eq_true h2,decide_eq_true ⟨h1,e2.1 h2⟩]
    simp [h1]
   ·have h3:=fun h=>h2 (e2.2 h)
    rw [decide_eq_false h2,decide_eq_false (fun h=>h3 h.2)]
    simp
  ·simp [h1]
 simp only [nN,this,Option.map_some]
end Go.Bm
namespace Go.Bm
open Go Go.Am
theorem Nw {ls:List (List Nat)} {st:BS} {k:Nat}: ∀d,∃q,(aJ ls st (k+d)).2=(aJ ls st k).2++q
 |0=>⟨[],by simp⟩
 |d+1=>by
  obtain ⟨q,hq⟩:=Nw (ls:=ls) (st:=st) (k:=k) d
  rw [show k+(d+1)=(k+d)+1 by omega,aJ]
  split
  ·obtain ⟨r,hr⟩:= @lC (nl (aJ ls st (k+d)).2 (k+d)) ls (aJ ls st (k+d))
   exact ⟨q++r,by rw [hr,hq,List.append_assoc]⟩
  ·exact ⟨q,hq⟩
theorem Vf {p q:List Nat} {i:Nat} (h:i<p.length):nl (p++q) i=nl p i:=by rw [jF,if_pos h]
theorem Ny {x0:Bool} {n x:Nat} {b w:List Nat} {H:BH} {K:Value→BH→Prop} (hb:By 16 b) (hw:By 16 w) (hd:bg n b w) (hx:x<n)
  (hK:K (PL (dJ b w x)) H):aA x0 OQ [DV n b w,I x] H K:=by
 have hlb:=hb.len
 have fH:=hw.len
 have hn:=hd.1.1
 have hb16:=fun i=>hd.1.iD hlb i
 have hw16:=fun i=>hd.2.1.iD fH i
 have gQ: ∀p∈[b,w],∀i,nl p i<16:=by simp;exact ⟨hb16,hw16⟩
 have hx16:x<16:=by omega
 have Q9:(List.replicate 16 false).length=16:=List.length_replicate
 have hz:=fZ
 obtain ⟨l,hl⟩: ∃l,ord b w x=l:=⟨_,rfl⟩
 have hlen:=kK hd hx
 rw [hl] at hlen
 refine cO (.cons fV (.cons .int .nil)) ?_
 refine aZ PD ?_;simp only [aY,aB]
 refine au fun Kr hKr=>?_;simp (disch:=omega) only [RA,↓reduceIte,Nat.reduceEqDiff,Nat.reduceBEq,Nat.reduceSub,Nat.reduceAdd,Nat.reduceMul,Nat.reduceLT,Nat.reduceLeDiff,Int.reduceLE,Int.reduceLT,Int.reduceEq,Int.reduceNeg,Int.reduceToNat,Int.reduceMul,Int.reduceAdd,Int.reduceSub,Int.reduceBEq,Int.reduceBNe,reduceCtorEq,RD,aI];refine hKr _ _ ?_;clear hKr Kr;(try simp only [RN,reduceIte]);try refine ah rfl ?_
 refine au fun Kr hKr=>?_;simp (disch:=omega) only [RA,↓reduceIte,Nat.reduceEqDiff,Nat.reduceBEq,Nat.reduceSub,Nat.reduceAdd,Nat.reduceMul,Nat.reduceLT,Nat.reduceLeDiff,Int.reduceLE,Int.reduceLT,Int.reduceEq,Int.reduceNeg,Int.reduceToNat,Int.reduceMul,Int.reduceAdd,Int.reduceSub,Int.reduceBEq,Int.reduceBNe,reduceCtorEq,RD];refine hKr _ _ ?_;clear hKr Kr;(try simp only [RN,reduceIte]);try refine ah rfl ?_
 refine au fun Kr hKr=>?_;simp (disch:=omega) only [RA,↓reduceIte,Nat.reduceEqDiff,RD,yc];refine hKr _ _ ?_;clear hKr Kr;(try simp only [RN,reduceIte]);try refine ah rfl ?_
 refine au fun Kr hKr=>?_;simp (disch:=omega) only [RA,↓reduceIte,Nat.reduceEqDiff,Nat.reduceBEq,Nat.reduceSub,Nat.reduceAdd,Nat.reduceMul,Nat.reduceLT,Nat.reduceLeDiff,Int.reduceLE,Int.reduceLT,Int.reduceEq,Int.reduceNeg,Int.reduceToNat,Int.reduceMul,Int.reduceAdd,Int.reduceSub,Int.reduceBEq,Int.reduceBNe,reduceCtorEq,RD];refine hKr _ _ ?_;clear hKr Kr;(try simp only [RN,reduceIte]);try refine ah rfl ?_
 refine bH (fun m f H'=> ∃k st,k≤16∧m=16-k∧st=aJ [b,w] (stA x) k∧k≤st.2.length∧f 2=P 0 0∧f 4=P 1 0∧f 5=P 3 0∧f 6=P 4 0∧f 7=S 2 0 st.2.length 1∧f 8=I k∧H'=[some (DC n b w),some (List.replicate 16 (.int .u8 0)),some (st.2.map N8),some ((eF l k).map N8),some (st.1.map B)]) (16) ?_ ?_
 ·exact ⟨_,_,Gh.refl,0,stA x,by omega,by omega,rfl,Nat.zero_le _,aj,aj,aj,aj,aj,aj,by simp [stA,jB,eF]⟩
 ·rintro m f H' R ⟨k,st,hk,rfl,hst,hkl,g2,g4,g5,g6,g7,g8,rfl⟩ hN hX hR hE
  simp only [aY.l1,aB]
  have hB:=(DT hx16).aJ gQ k
  rw [←hst] at hB
  have hpre: ∃q,l=st.2++q:=by
   obtain ⟨q,hq⟩:=Nw (ls:=[b,w]) (st:=stA x) (k:=k) (16-k)
   rw [show k+(16-k)=16 by omega,←hst] at hq
   exact ⟨q,by rw [←hl,←hq];rfl⟩
  replace hst:=hst.symm
  have hle:=hB.le
  have hsl:=hB.len
  refine au fun Kr hKr=>?_;simp (disch:=omega) only [RA,↓reduceIte,Nat.reduceEqDiff,RD,g7,g8];refine hKr _ _ ?_;clear hKr Kr;(try simp only [RN,reduceIte]);try refine ah rfl ?_
  refine bG (p:=k<st.2.length) (by simp only [RA,↓reduceIte,Nat.reduceEqDiff]<;>rfl) (by (try simp only [RB])<;>first|done|exact Iff.rfl|omega|simp) (fun hc=>?_) (fun hc=>?_)<;>(try simp only [RN,reduceIte])<;>(try refine ah rfl ?_)
  ·have qj:k<st.2.length:=by assumption
   have hxk:=hB.lt k qj
   have hlk:nl l k=nl st.2 k:=by
    obtain ⟨q,hq⟩:=hpre
    rw [hq,Vf qj]
   have h1:=hb16 (nl st.2 k)
   have h2:=hw16 (nl st.2 k)
   have hnl:= @qp l k
   have hnk:(eF l k).set (nl st.2 k) k=eF l (k+1):=by rw [eF,hlk]
   (first|refine bY rfl ?_|refine bZ rfl ?_);(try simp only [RN,reduceIte]);try refine ah rfl ?_
   refine au fun Kr hKr=>?_;simp (disch:=omega) only [RA,↓reduceIte,Nat.reduceEqDiff,RD,g7,g8];refine hKr _ _ ?_;clear hKr Kr;(try simp only [RN,reduceIte]);try refine ah rfl ?_
   obtain ⟨z,hz0⟩: ∃z,nl st.2 k=z:=⟨_,rfl⟩
   rw [hz0] at hxk h1 h2 hlk hnk
   refine au fun Kr hKr=>?_;simp (disch:=omega) only [RA,↓reduceIte,Nat.reduceEqDiff,RD,hz0,g5,g8,hnl,hnk];refine hKr _ _ ?_;clear hKr Kr;(try simp only [RN,reduceIte]);try refine ah rfl ?_
   refine au fun Kr hKr=>?_;simp (disch:=omega) only [RA,↓reduceIte,Nat.reduceEqDiff,Nat.reduceBEq,Nat.reduceSub,Nat.reduceAdd,Nat.reduceMul,Nat.reduceLT,Nat.reduceLeDiff,Int.reduceLE,Int.reduceLT,Int.reduceEq,Int.reduceNeg,Int.reduceToNat,Int.reduceMul,Int.reduceAdd,Int.reduceSub,Int.reduceBEq,Int.reduceBNe,reduceCtorEq,RD];refine hKr _ _ ?_;clear hKr Kr;(try simp only [RN,reduceIte]);try refine ah rfl ?_
   refine bH (fun m f H'=> ∃j st',j≤2∧m=2-j∧st'=fM ([b,w].take j) z st∧f 2=P 0 0∧f 4=P 1 0∧f 5=P 3 0∧f 6=P 4 0∧f 7=S 2 0 st'.2.length 1∧f 8=I k∧f 9=N8 z∧f 10=I j∧H'=[some (DC n b w),some (List.replicate 16 (.int .u8 0)),some (st'.2.map N8),some ((eF l (k+1)).map N8),some (st'.1.map B)]) (2) ?_ ?_
   ·exact ⟨_,_,Gh.refl,0,st,by omega,by omega,rfl,aj,aj,aj,aj,aj,aj,aj,aj,rfl⟩
   ·clear g2 g4 g5 g6 g7 g8
    rintro m f H' R2 ⟨j,st',hj,rfl,hst',g2,g4,g5,g6,g7,g8,g9,g10,rfl⟩ lu hX2 hR2 hE2
    simp only [aY.l0,aB]
    refine au fun Kr hKr=>?_;simp (disch:=omega) only [RA,↓reduceIte,Nat.reduceEqDiff,RD,g10];refine hKr _ _ ?_;clear hKr Kr;(try simp only [RN,reduceIte]);try refine ah rfl ?_
    have hB':Bi 16 st':=by rw [hst'];exact hB.round fun p hp=>gQ p (List.mem_of_mem_take hp) _
    have hle':=hB'.le
    have je:=hB'.len
    refine bG (p:=j<2) (by simp only [RA,↓reduceIte,Nat.reduceEqDiff]<;>rfl) (by (try simp only [RB])<;>first|done|exact Iff.rfl|omega|simp) (fun hc=>?_) (fun hc=>?_)<;>(try simp only [RN,reduceIte])<;>(try refine ah rfl ?_)
    ·have hj2:j<2:=by assumption
     have hnx:=uS (ls:=[b,w]) (x:=z) (st:=st) hj2
     rw [←hst'] at hnx
     have hyl:nl ([b,w].getD j []) z<16:=gQ _ (getD_mem hj2) _
     have hgo: ∀f' y,nl ([b,w].getD j []) z=y→f' 2=P 0 0→f' 4=P 1 0→f' 5=P 3 0→f' 6=P 4 0→f' 7=S 2 0 st'.2.length 1→f' 8=I k→f' 9=N8 z→f' 10=I j→f' 11=N8 y→
       T 0 (.seq aY.iL (.seq (.cond (.t 50) (.seq aY.kG aY.r16) .skip) aY.r10)) R2 f' [some (DC n b w),some (List.replicate 16 (.int .u8 0)),some (st'.2.map N8),some ((eF l (k+1)).map N8),some (st'.1.map B)]:=by
      clear g2 g4 g5 g6 g7 g8 g9 g10
      intro f' y hy g2 g4 g5 g6 g7 g8 g9 g10 g11
      rw [hy] at hyl hnx
      have hxi:y<16:=hyl
      have hnext: ∀f' st2,f' 2=P 0 0→f' 4=P 1 0→f' 5=P 3 0→f' 6=P 4 0→f' 7=S 2 0 st2.2.length 1→f' 8=I k→f' 9=N8 z→f' 10=I j→st2=visit st' y→T 0 aY.r10 R2 f' [some (DC n b w),some (List.replicate 16 (.int .u8 0)),some (st2.2.map N8),some ((eF l (k+1)).map N8),some (st2.1.map B)]:=by
       clear g2 g4 g5 g6 g7 g8 g9 g10 g11
       intro f' st2 g2 g4 g5 g6 g7 g8 g9 g10 hs2
       refine bI fun Kr hKr=>?_;simp (disch:=omega) only [RA,↓reduceIte,Nat.reduceEqDiff,RD,g10];refine hKr _ _ ?_;clear hKr Kr
       exact lu (2-(j+1)) _ _ _ _ (by omega) Gh.refl ⟨j+1,st2,by omega,rfl,by rw [hnx,hs2],aj,aj,aj,aj,aj,aj,aj,aj,rfl⟩
      refine au fun Kr hKr=>?_;simp (disch:=omega) only [RA,↓reduceIte,Nat.reduceEqDiff,Nat.reduceAdd,Nat.reduceMul,Int.reduceToNat,Nat.reduceLT,reduceCtorEq,RD,g6,g11,je];refine hKr _ _ ?_;clear hKr Kr;(try simp only [RN,reduceIte]);try refine ah rfl ?_
      refine bG (p:= ¬bl st'.1 y=true) (by simp only [RA,↓reduceIte,Nat.reduceEqDiff,Nat.reduceBEq,Nat.reduceSub,Nat.reduceAdd,Nat.reduceMul,Nat.reduceLT,Nat.reduceLeDiff,Int.reduceLE,Int.reduceLT,Int.reduceEq,Int.reduceNeg,Int.reduceToNat,Int.reduceMul,Int.reduceAdd,Int.reduceSub,Int.reduceBEq,Int.reduceBNe,reduceCtorEq]<;>rfl) (by (try simp only [RB])<;>first|done|exact Iff.rfl|omega|simp) (fun hc=>?_) (fun hc=>?_)<;>(try simp only [RN,reduceIte])<;>(try refine ah rfl ?_)
      ·refine au fun Kr hKr=>?_;simp (disch:=omega) only [RA,↓reduceIte,Nat.reduceEqDiff,Nat.reduceBEq,Nat.reduceSub,Nat.reduceAdd,Nat.reduceMul,Nat.reduceLT,Nat.reduceLeDiff,Int.reduceLE,Int.reduceLT,Int.reduceEq,Int.reduceNeg,Int.reduceToNat,Int.reduceMul,Int.reduceAdd,Int.reduceSub,Int.reduceBEq,Int.reduceBNe,reduceCtorEq,RD,g6,g11,je];refine hKr _ _ ?_;clear hKr Kr;(try simp only [RN,reduceIte]);try refine ah rfl ?_
       refine au fun Kr hKr=>?_;simp (disch:=omega) only [RA,↓reduceIte,Nat.reduceEqDiff,Nat.reduceBEq,Nat.reduceSub,Nat.reduceAdd,Nat.reduceMul,Nat.reduceLT,Nat.reduceLeDiff,Int.reduceLE,Int.reduceLT,Int.reduceEq,Int.reduceNeg,Int.reduceToNat,Int.reduceMul,Int.reduceAdd,Int.reduceSub,Int.reduceBEq,Int.reduceBNe,reduceCtorEq,RD,g7,g11];refine hKr _ _ ?_;clear hKr Kr;(try simp only [RN,reduceIte]);try refine ah rfl ?_
       refine jg (Gh.nrm [0,1,6,3,4] rfl rfl (by simp only [RH,kJ])) ?_
       refine hnext _ (st'.1.set y true,st'.2++[y]) aj aj aj aj aj aj aj aj ?_
       rw [visit,if_neg hc]
      ·(try simp only [RN,reduceIte]);try refine ah rfl ?_
       refine hnext _ st' aj aj aj aj aj aj aj aj ?_
       rw [visit,if_pos (by simpa using hc)]
     (first|refine bY rfl ?_|refine bZ rfl ?_);(try simp only [RN,reduceIte]);try refine ah rfl ?_
     refine au fun Kr hKr=>?_;simp (disch:=omega) only [RA,↓reduceIte,Nat.reduceEqDiff,RD,g2,g9,aI,aQ];refine hKr _ _ ?_;clear hKr Kr;(try simp only [RN,reduceIte]);try refine ah rfl ?_
     have hjc:j=0∨j=1:=by omega
     rcases hjc with rfl|rfl
     ·refine au fun Kr hKr=>?_;simp (disch:=omega) only [RA,↓reduceIte,Nat.reduceEqDiff,RD,g10];refine hKr _ _ ?_;clear hKr Kr;(try simp only [RN,reduceIte]);try refine ah rfl ?_
      refine aP (t:=false) (by simp (disch:=omega) only [RA,↓reduceIte,Nat.reduceEqDiff,RD]) ?_;(try simp only [RN,reduceIte]);try refine ah rfl ?_
      exact hgo _ _ rfl aj aj aj aj aj aj aj aj aj
     ·refine au fun Kr hKr=>?_;simp (disch:=omega) only [RA,↓reduceIte,Nat.reduceEqDiff,RD,g10];refine hKr _ _ ?_;clear hKr Kr;(try simp only [RN,reduceIte]);try refine ah rfl ?_
      refine aP (t:=true) (by simp (disch:=omega) only [RA,↓reduceIte,Nat.reduceEqDiff,RD]) ?_;(try simp only [RN,reduceIte]);try refine ah rfl ?_
      refine au fun Kr hKr=>?_;simp (disch:=omega) only [RA,↓reduceIte,Nat.reduceEqDiff,RD,g2,g9,aI,aQ];refine hKr _ _ ?_;clear hKr Kr;(try simp only [RN,reduceIte]);try refine ah rfl ?_
      exact hgo _ _ rfl aj aj aj aj aj aj aj aj aj
    ·refine hX2 _ _ ?_
     obtain rfl:j=2:=by omega
     have hst2:st'=aJ [b,w] (stA x) (k+1):=by
      rw [hst',aJ,hst,if_pos qj,hz0];rfl
     obtain ⟨q,hq⟩:= @lC z ([b,w].take 2) st
     have hlq:k+1≤st'.2.length:=by rw [hst',hq];simp;omega
     refine bI fun Kr hKr=>?_;simp (disch:=omega) only [RA,↓reduceIte,Nat.reduceEqDiff,RD,g8];refine hKr _ _ ?_;clear hKr Kr
     refine hN (16-(k+1)) _ _ _ _ (by omega) Gh.refl ⟨k+1,st',by omega,rfl,hst2,hlq,aj,aj,aj,aj,aj,aj,rfl⟩
  ·refine hX _ _ ?_
   have hfin:aJ [b,w] (stA x) 16=st:=by rw [qo (i:=k) (by rw [hst];omega) 16 hk,hst]
   have hkl2:k=l.length:=by
    have:l=st.2:=by rw [←hl,ord,hfin]
    rw [this]
    omega
   have hnl:= @qp l k
   refine au fun Kr hKr=>?_;simp (disch:=omega) only [RA,↓reduceIte,Nat.reduceEqDiff,RD,g4,g5,hnl];refine hKr _ _ ?_;clear hKr Kr;(try simp only [RN,reduceIte]);try refine ah rfl ?_
   refine aS (by simp (disch:=omega) only [RA,↓reduceIte,Nat.reduceEqDiff,RD,resAll,resOf,g4,hnl];rfl) aG.refl ?_;simp only [tup]
   rw [dJ,hl,←hkl2] at hK
   exact ⟨gu iE,hK⟩
theorem Nz {x0:Bool} {n:Nat} {b w nm:List Nat} {H:BH} {K:Value→BH→Prop} (hb:By 16 b) (hw:By 16 w) (hn:n≤16) (hb16: ∀i,nl b i<16) (hw16: ∀i,nl w i<16) (hm:By 16 nm) (yj: ∀i,nl nm i<16)
  (hK:K (DV n (dN b nm n) (dN w nm n)) H):aA x0 OO [DV n b w,PL nm] H K:=by
 have hlb:=hb.len
 have fH:=hw.len
 have hlm:=hm.len
 have hz:=fZ
 refine cO (by exact .cons fV (.cons (gu iE) .nil)) ?_
 refine aZ Pz ?_;simp only [eP,aB]
 refine au fun Kr hKr=>?_;simp (disch:=omega) only [RA,↓reduceIte,Nat.reduceEqDiff,RD,aI];refine hKr _ _ ?_;clear hKr Kr;(try simp only [RN,reduceIte]);try refine ah rfl ?_
 refine au fun Kr hKr=>?_;simp (disch:=omega) only [RA,↓reduceIte,Nat.reduceEqDiff,RD,aI,aQ];refine hKr _ _ ?_;clear hKr Kr;(try simp only [RN,reduceIte]);try refine ah rfl ?_
 refine au fun Kr hKr=>?_;simp (disch:=omega) only [RA,↓reduceIte,Nat.reduceEqDiff,RD,aI];refine hKr _ _ ?_;clear hKr Kr;(try simp only [RN,reduceIte]);try refine ah rfl ?_
 refine bH (fun m f H'=> ∃k,k≤n∧m=n-k∧f 2=P 0 0∧f 3=P 1 0∧f 4=P 2 0∧f 5=P 3 0∧f 6=I k∧H'=[some (DC n b w),some (nm.map N8),some (DC 0 dG dG),some (DC n (dN b nm k) (dN w nm k))]) (n) ?_ ?_
 ·exact ⟨_,_,Gh.refl,0,by omega,by omega,aj,aj,aj,aj,aj,rfl⟩
 ·rintro m f H' R ⟨k,hk,rfl,g2,g3,g4,g5,g6,rfl⟩ hN hX hR hE
  simp only [eP.l0,aB]
  have hl1:= @jQ b nm k
  have hl2:= @jQ w nm k
  refine au fun Kr hKr=>?_;simp (disch:=omega) only [RA,↓reduceIte,Nat.reduceEqDiff,RD,g2,g6,aI];refine hKr _ _ ?_;clear hKr Kr;(try simp only [RN,reduceIte]);try refine ah rfl ?_
  refine bG (p:=k<n) (by simp only [RA,↓reduceIte,Nat.reduceEqDiff]<;>rfl) (by (try simp only [RB])<;>first|done|exact Iff.rfl|omega|simp) (fun hc=>?_) (fun hc=>?_)<;>(try simp only [RN,reduceIte])<;>(try refine ah rfl ?_)
  ·have h1:=hb16 k
   have h2:=hw16 k
   have h3:=yj k
   have hl3:((dN b nm k).set (nl nm k) (nl nm (nl b k))).length=16:=by rw [List.length_set];exact hl1
   (first|refine bY rfl ?_|refine bZ rfl ?_);(try simp only [RN,reduceIte]);try refine ah rfl ?_
   refine au fun Kr hKr=>?_;simp (disch:=omega) only [RA,↓reduceIte,Nat.reduceEqDiff,RD,g2,g3,g5,g6,aI,aQ];refine hKr _ _ ?_;clear hKr Kr;(try simp only [RN,reduceIte]);try refine ah rfl ?_
   refine au fun Kr hKr=>?_;simp (disch:=omega) only [RA,↓reduceIte,Nat.reduceEqDiff,RD,g2,g3,g5,g6,aI,aQ];refine hKr _ _ ?_;clear hKr Kr;(try simp only [RN,reduceIte]);try refine ah rfl ?_
   refine bI fun Kr hKr=>?_;simp (disch:=omega) only [RA,↓reduceIte,Nat.reduceEqDiff,RD,g6];refine hKr _ _ ?_;clear hKr Kr
   exact hN (n-(k+1)) _ _ _ _ (by omega) Gh.refl ⟨k+1,by omega,rfl,aj,aj,aj,aj,aj,rfl⟩
  ·refine hX _ _ ?_
   obtain rfl:k=n:=by omega
   refine au fun Kr hKr=>?_;simp (disch:=omega) only [RA,↓reduceIte,Nat.reduceEqDiff,RD,g4,g5,aI,aQ];refine hKr _ _ ?_;clear hKr Kr;(try simp only [RN,reduceIte]);try refine ah rfl ?_
   refine aS (by simp (disch:=omega) only [RA,↓reduceIte,Nat.reduceEqDiff,RD,resAll,resOf,g4,aI,aQ];rfl) aG.refl ?_;simp only [tup]
   exact ⟨fV,hK⟩
theorem lex_lt {p q:List Nat} {i:Nat} (hp:i<p.length) (hq:i<q.length) (he: ∀j,j<i→nl p j=nl q j) (h:nl p i<nl q i):p<q:=by
 refine List.lt_iff_exists.2 (.inr ⟨i,hp,hq,fun j hj=>?_,?_⟩)
 ·have:=he j hj
  simpa [nl,List.getD,show j<p.length by omega,show j<q.length by omega] using this
 ·simpa [nl,List.getD,hp,hq] using h
theorem NC {x0:Bool} {p q:List Nat} {H:BH} {K:Value→BH→Prop} (hp:By 16 p) (hq:By 16 q) (hK:K (.bool (decide (p<q))) H):aA x0 OW [PL p,PL q] H K:=by
 have hlp:=hp.len
 have hlq:=hq.len
 refine cO (by exact .cons (gu iE) (.cons (gu iE) .nil)) ?_
 refine aZ PO ?_;simp only [fF,aB]
 refine au fun Kr hKr=>?_;simp (disch:=omega) only [RA,↓reduceIte,Nat.reduceEqDiff,RD];refine hKr _ _ ?_;clear hKr Kr;(try simp only [RN,reduceIte]);try refine ah rfl ?_
 refine au fun Kr hKr=>?_;simp (disch:=omega) only [RA,↓reduceIte,Nat.reduceEqDiff,RD];refine hKr _ _ ?_;clear hKr Kr;(try simp only [RN,reduceIte]);try refine ah rfl ?_
 refine bH (fun m f H'=> ∃i,i≤16∧m=16-i∧(∀j,j<i→nl p j=nl q j)∧f 2=P 0 0∧f 3=P 1 0∧f 5=I i∧H'=[some (p.map N8),some (q.map N8)]) (16) ?_ ?_
 ·exact ⟨_,_,Gh.refl,0,by omega,by omega,fun j hj=>by omega,aj,aj,aj,rfl⟩
 ·rintro m f H' R ⟨i,hi,rfl,he,g2,g3,g5,rfl⟩ hN hX hR hE
  simp only [fF.l0,aB]
  refine au fun Kr hKr=>?_;simp (disch:=omega) only [RA,↓reduceIte,Nat.reduceEqDiff,RD,g5];refine hKr _ _ ?_;clear hKr Kr;(try simp only [RN,reduceIte]);try refine ah rfl ?_
  refine bG (p:=i<16) (by simp only [RA,↓reduceIte,Nat.reduceEqDiff]<;>rfl) (by (try simp only [RB])<;>first|done|exact Iff.rfl|omega|simp) (fun hc=>?_) (fun hc=>?_)<;>(try simp only [RN,reduceIte])<;>(try refine ah rfl ?_)
  ·have Xi:i<16:=by assumption
   (first|refine bY rfl ?_|refine bZ rfl ?_);(try simp only [RN,reduceIte]);try refine ah rfl ?_
   refine au fun Kr hKr=>?_;simp (disch:=omega) only [RA,↓reduceIte,Nat.reduceEqDiff,RD,g2,g3,g5,hlp,hlq];refine hKr _ _ ?_;clear hKr Kr;(try simp only [RN,reduceIte]);try refine ah rfl ?_
   refine bG (p:= ¬nl p i=nl q i) (by simp only [RA,↓reduceIte,Nat.reduceEqDiff]<;>rfl) (by (try simp only [RB])<;>first|done|exact Iff.rfl|omega|simp) (fun hc=>?_) (fun hc=>?_)<;>(try simp only [RN,reduceIte])<;>(try refine ah rfl ?_)
   ·refine au fun Kr hKr=>?_;simp (disch:=omega) only [RA,↓reduceIte,Nat.reduceEqDiff,RD,g2,g3,g5,hlp,hlq];refine hKr _ _ ?_;clear hKr Kr;(try simp only [RN,reduceIte]);try refine ah rfl ?_
    refine hR _ _ ?_
    refine aS (by simp (disch:=omega) only [RA,↓reduceIte,Nat.reduceEqDiff,RD,resAll,resOf];rfl) aG.refl ?_;simp only [tup]
    have e:decide (nl p i<nl q i)=decide (p<q):=by
     rw [decide_eq_decide]
     constructor
     ·intro h
      exact lex_lt (by omega) (by omega) he h
     ·intro h
      have h2: ¬nl q i<nl p i:=fun h2=>List.lt_asymm h (lex_lt (by omega) (by omega) (fun j hj=>(he j hj).symm) h2)
      omega
    rw [←e] at hK
    exact ⟨.bool,hK⟩
   ·have hee:=Decidable.not_not.1 hc
    have he': ∀j,j<i+1→nl p j=nl q j:=fun j hj=>by
     by_cases e:j=i
     ·rw [e];exact hee
     ·exact he j (by omega)
    refine bI fun Kr hKr=>?_;simp (disch:=omega) only [RA,↓reduceIte,Nat.reduceEqDiff,RD,g5];refine hKr _ _ ?_;clear hKr Kr
    exact hN (16-(i+1)) _ _ _ _ (by omega) Gh.refl ⟨i+1,by omega,rfl,he',aj,aj,aj,rfl⟩
  ·refine hX _ _ ?_
   obtain rfl:i=16:=by omega
   have e:p=q:=kZ (by omega) fun i hi=>he i (by omega)
   subst e
   rw [decide_eq_false (List.lt_irrefl p)] at hK
   refine au fun Kr hKr=>?_;simp (disch:=omega) only [RA,↓reduceIte,Nat.reduceEqDiff,RD];refine hKr _ _ ?_;clear hKr Kr;(try simp only [RN,reduceIte]);try refine ah rfl ?_
   refine aS (by simp (disch:=omega) only [RA,↓reduceIte,Nat.reduceEqDiff,RD,resAll,resOf];rfl) aG.refl ?_;simp only [tup]
   exact ⟨.bool,hK⟩
theorem ND {x0:Bool} {n m:Int} {x y:L2} {H:BH} {K:Value→BH→Prop} (h1:By 16 x.1) (h2:By 16 x.2) (h3:By 16 y.1) (h4:By 16 y.2)
  (hK:K (.bool (decide (bC x y))) H):aA x0 OM [DV n x.1 x.2,DV m y.1 y.2] H K:=by
 have l1:=h1.len
 have l2:=h2.len
 have l3:=h3.len
 have l4:=h4.len
 refine cO (by exact .cons fV (.cons fV .nil)) ?_
 refine aZ Py ?_;simp only [iK,aB]
 refine au fun Kr hKr=>?_;simp (disch:=omega) only [RA,↓reduceIte,Nat.reduceEqDiff,RD,aI];refine hKr _ _ ?_;clear hKr Kr;(try simp only [RN,reduceIte]);try refine ah rfl ?_
 refine au fun Kr hKr=>?_;simp (disch:=omega) only [RA,↓reduceIte,Nat.reduceEqDiff,RD,aI,aQ,Vd];refine hKr _ _ ?_;clear hKr Kr;(try simp only [RN,reduceIte]);try refine ah rfl ?_
 refine bG (p:= ¬x.1=y.1) (by simp only [RA,↓reduceIte,Nat.reduceEqDiff]<;>rfl) (by (try simp only [RB])<;>first|done|exact Iff.rfl|omega|simp) (fun hc=>?_) (fun hc=>?_)<;>(try simp only [RN,reduceIte])<;>(try refine ah rfl ?_)
 ·refine au fun Kr hKr=>?_;simp (disch:=omega) only [RA,↓reduceIte,Nat.reduceEqDiff,RD,aI,aQ]
  refine NC h1 h3 ?_
  simp (disch:=omega) only [RA,↓reduceIte,Nat.reduceEqDiff,RD]
  refine hKr _ _ ?_;clear hKr Kr;(try simp only [aK,aO,aN]);(try simp only [RN,reduceIte]);try refine ah rfl ?_
  refine aS (by simp (disch:=omega) only [RA,↓reduceIte,Nat.reduceEqDiff,RD,resAll,resOf];rfl) aG.refl ?_;simp only [tup]
  rw [show decide (x.1<y.1)=decide (bC x y) by
   rw [decide_eq_decide]
   exact ⟨fun h=> .inl h,fun h=>h.elim id fun h=>absurd h.1 hc⟩]
  exact ⟨.bool,hK⟩
 ·have he:=Decidable.not_not.1 hc
  refine au fun Kr hKr=>?_;simp (disch:=omega) only [RA,↓reduceIte,Nat.reduceEqDiff,RD,aI,aQ]
  refine NC h2 h4 ?_
  simp (disch:=omega) only [RA,↓reduceIte,Nat.reduceEqDiff,RD]
  refine hKr _ _ ?_;clear hKr Kr;(try simp only [aK,aO,aN]);(try simp only [RN,reduceIte]);try refine ah rfl ?_
  refine aS (by simp (disch:=omega) only [RA,↓reduceIte,Nat.reduceEqDiff,RD,resAll,resOf];rfl) aG.refl ?_;simp only [tup]
  rw [show decide (x.2<y.2)=decide (bC x y) by
   rw [decide_eq_decide]
   exact ⟨fun h=> .inr ⟨he,h⟩,fun h=>h.elim (fun h=>absurd (he▸h) (List.lt_irrefl _)) fun h=>h.2⟩]
  exact ⟨.bool,hK⟩
theorem Vg {x0:Bool} {n:Nat} {b w:List Nat} {H:BH} {K:Value→BH→Prop} (hb:By 16 b) (hw:By 16 w) (hd:bg n b w)
  (hK:K (DV n (eY b w n).1 (eY b w n).2) H):aA x0 OG [DV n b w] H K:=by
 have hlb:=hb.len
 have fH:=hw.len
 have hz:=fZ
 have hn:=hd.1.1
 have hb16:=fun i=>hd.1.iD hlb i
 have hw16:=fun i=>hd.2.1.iD fH i
 refine cO (by exact .cons fV .nil) ?_
 refine aZ Pm ?_;simp only [dX,aB]
 refine au fun Kr hKr=>?_;simp (disch:=omega) only [RA,↓reduceIte,Nat.reduceEqDiff,RD,aI];refine hKr _ _ ?_;clear hKr Kr;(try simp only [RN,reduceIte]);try refine ah rfl ?_
 refine au fun Kr hKr=>?_;simp (disch:=omega) only [RA,↓reduceIte,Nat.reduceEqDiff,Nat.reduceAdd,Nat.reduceMul,Int.reduceToNat,Nat.reduceLT,reduceCtorEq,RD,aI,aQ]
 have hq0:=qx (x:=0) hd (by omega)
 have l1:=hq0.1.len
 have l2:=hq0.2.len
 simp only [dA] at l1 l2
 refine Ny (x:=0) hb hw hd (by omega) ?_
 simp (disch:=omega) only [RA,↓reduceIte,Nat.reduceEqDiff,Nat.reduceAdd,Nat.reduceMul,Int.reduceToNat,Nat.reduceLT,reduceCtorEq,RD,aI,aQ]
 refine Nz hb hw (by omega) hb16 hw16 (uU hd (by omega)) (qw hd (by omega)) ?_
 simp (disch:=omega) only [RA,↓reduceIte,Nat.reduceEqDiff,Nat.reduceAdd,Nat.reduceMul,Int.reduceToNat,Nat.reduceLT,reduceCtorEq,RD,aI,aQ]
 refine hKr _ _ ?_;clear hKr Kr;(try simp only [aK,aO,aN]);(try simp only [RN,reduceIte]);try refine ah rfl ?_
 refine au fun Kr hKr=>?_;simp (disch:=omega) only [RA,↓reduceIte,Nat.reduceEqDiff,RD];refine hKr _ _ ?_;clear hKr Kr;(try simp only [RN,reduceIte]);try refine ah rfl ?_
 clear l1 l2
 refine bH (fun m f H'=> ∃k r,k+1≤n∧m=n-(k+1)∧r=iF b w n k∧f 1=P 0 0∧f 2=P 1 0∧f 3=P 2 0∧f 4=I ((k+1:Nat):Int)∧H'=[some (DC n b w),some (DC 0 dG dG),some (DC n r.1 r.2)]) (n-1) ?_ ?_
 ·exact ⟨_,_,Gh.refl,0,dA b w n 0,by omega,by omega,rfl,aj,aj,aj,aj,rfl⟩
 ·rintro m f H' R ⟨k,r,hk,rfl,hr,g1,g2,g3,g4,rfl⟩ hN hX hR hE
  simp only [dX.l0,aB]
  have hrb:=mZ (k:=k) hd (by omega)
  rw [←hr] at hrb
  have l1:=hrb.1.len
  have l2:=hrb.2.len
  refine au fun Kr hKr=>?_;simp (disch:=omega) only [RA,↓reduceIte,Nat.reduceEqDiff,RD,g1,g4,aI];refine hKr _ _ ?_;clear hKr Kr;(try simp only [RN,reduceIte]);try refine ah rfl ?_
  refine bG (p:=k+1<n) (by simp only [RA,↓reduceIte,Nat.reduceEqDiff]<;>rfl) (by (try simp only [RB])<;>first|done|exact Iff.rfl|omega|simp) (fun hc=>?_) (fun hc=>?_)<;>(try simp only [RN,reduceIte])<;>(try refine ah rfl ?_)
  ·have hq:=qx hd hc
   have l3:=hq.1.len
   have l4:=hq.2.len
   have hc':=hc
   (first|refine bY rfl ?_|refine bZ rfl ?_);(try simp only [RN,reduceIte]);try refine ah rfl ?_
   refine au fun Kr hKr=>?_;simp (disch:=omega) only [RA,↓reduceIte,Nat.reduceEqDiff,Nat.reduceAdd,Nat.reduceMul,Int.reduceToNat,Nat.reduceLT,reduceCtorEq,RD,g1,g4,aI,aQ]
   refine Ny hb hw hd hc' ?_
   simp (disch:=omega) only [RA,↓reduceIte,Nat.reduceEqDiff,Nat.reduceAdd,Nat.reduceMul,Int.reduceToNat,Nat.reduceLT,reduceCtorEq,RD,g1,g4,aI,aQ]
   refine Nz hb hw (by omega) hb16 hw16 (uU hd hc') (qw hd hc') ?_
   have Vh:dN b (dJ b w (k+1)) n=(dA b w n (k+1)).1:=rfl
   have Vj:dN w (dJ b w (k+1)) n=(dA b w n (k+1)).2:=rfl
   rw [Vh,Vj]
   obtain ⟨q,Bg⟩: ∃q,dA b w n (k+1)=q:=⟨_,rfl⟩
   rw [Bg] at hq l3 l4⊢
   simp (disch:=omega) only [RA,↓reduceIte,Nat.reduceEqDiff,Nat.reduceAdd,Nat.reduceMul,Int.reduceToNat,Nat.reduceLT,reduceCtorEq,RD,g1,g4,aI,aQ]
   refine hKr _ _ ?_;clear hKr Kr;(try simp only [aK,aO,aN]);(try simp only [RN,reduceIte]);try refine ah rfl ?_
   refine au fun Kr hKr=>?_;simp (disch:=omega) only [RA,↓reduceIte,Nat.reduceEqDiff,RD,g3,aI,aQ]
   refine ND hq.1 hq.2 hrb.1 hrb.2 ?_
   simp (disch:=omega) only [RA,↓reduceIte,Nat.reduceEqDiff,RD]
   refine hKr _ _ ?_;clear hKr Kr;(try simp only [aK,aO,aN]);(try simp only [RN,reduceIte]);try refine ah rfl ?_
   have e1:((k+1:Nat):Int)+1=((k+1+1:Nat):Int):=by omega
   refine bG (p:=bC q r) (by simp only [RA,↓reduceIte,Nat.reduceEqDiff]<;>rfl) (by (try simp only [RB])<;>first|done|exact Iff.rfl|omega|simp) (fun hc=>?_) (fun hc=>?_)<;>(try simp only [RN,reduceIte])<;>(try refine ah rfl ?_)
   ·refine au fun Kr hKr=>?_;simp (disch:=omega) only [RA,↓reduceIte,Nat.reduceEqDiff,RD,g3,aI,aQ];refine hKr _ _ ?_;clear hKr Kr;(try simp only [RN,reduceIte]);try refine ah rfl ?_
    refine bI fun Kr hKr=>?_;simp (disch:=omega) only [RA,↓reduceIte,Nat.reduceEqDiff,RD,g4,e1];refine hKr _ _ ?_;clear hKr Kr
    refine hN (n-(k+1+1)) _ _ _ _ (by omega) (Gh.nrm [0,1,2] rfl rfl (by simp only [RH,kJ])) ⟨k+1,q,by omega,rfl,?_,aj,aj,aj,aj,rfl⟩
    rw [iF,←hr,Bg,if_pos hc]
   ·refine bI fun Kr hKr=>?_;simp (disch:=omega) only [RA,↓reduceIte,Nat.reduceEqDiff,RD,g4,e1];refine hKr _ _ ?_;clear hKr Kr
    refine hN (n-(k+1+1)) _ _ _ _ (by omega) (Gh.nrm [0,1,2] rfl rfl (by simp only [RH,kJ])) ⟨k+1,r,by omega,rfl,?_,aj,aj,aj,aj,rfl⟩
    rw [iF,←hr,Bg,if_neg hc]
  ·refine hX _ _ ?_
   have hkn:k=n-1:=by omega
   rw [eY,←hkn,←hr] at hK
   refine au fun Kr hKr=>?_;simp (disch:=omega) only [RA,↓reduceIte,Nat.reduceEqDiff,RD,g2,g3,aI,aQ];refine hKr _ _ ?_;clear hKr Kr;(try simp only [RN,reduceIte]);try refine ah rfl ?_
   refine aS (by simp (disch:=omega) only [RA,↓reduceIte,Nat.reduceEqDiff,RD,resAll,resOf,g2,aI,aQ];rfl) aG.refl ?_;simp only [tup]
   exact ⟨fV,hK⟩
end Go.Bm
set_option linter.unusedSectionVars false
namespace Go.Bm.Q5
open Go Go.Am Go.Bm
theorem NG {d:L2}: ∀{l:List L2} {k:Nat},k≤l.length→(∀j e,j<k→l[j]? =some e→bC e d)→(∀j e,k≤j→l[j]? =some e→ ¬bC e d)→dO d l=if l[k]? =some d then l else l.take k++d::l.drop k
 |[],k,hk,_,_=>by
  obtain rfl:k=0:=by simpa using hk
  simp [dO]
 |e::l,0,_,_,h=>by
  have h1: ¬bC e d:=h 0 e (Nat.le_refl _) rfl
  simp only [dO,if_neg h1]
  by_cases h2:bC d e
  ·rw [if_pos h2,if_neg (fun he=>by simp at he;subst he;exact qc _ h2)]
   rfl
  ·rw [if_neg h2,if_pos (by rw [uJ h1 h2];rfl)]
 |e::l,k+1,hk,h1,h2=>by
  have h3:bC e d:=h1 0 e (by omega) rfl
  have ih:=NG (l:=l) (k:=k) (by simpa using hk) (fun j x hj hx=>h1 (j+1) x (by omega) (by simpa using hx)) (fun j x hj hx=>h2 (j+1) x (by omega) (by simpa using hx))
  simp only [dO,if_pos h3,ih]
  rw [List.getElem?_cons_succ]
  split<;>rfl
abbrev LD (n:Nat) (l:List L2):Value:=Fz l.length 33 (DL n l)
theorem nZ {n:Nat}: ∀{l:List L2},(∀d∈l,By 16 d.1∧By 16 d.2)→(DL n l).length=l.length*33
 |[],_=>rfl
 |d::l,h=>by
  obtain ⟨h1,h2⟩:=h d (by simp)
  have ih:=nZ (n:=n) (l:=l) fun x hx=>h x (by simp [hx])
  have h3:=h1.len
  have h4:=h2.len
  show (DC n d.1 d.2++DL n l).length=_
  rw [List.length_append,ih]
  simp [h3,h4]
  omega
theorem Bh {n:Nat}: ∀{l:List L2} {k:Nat},(∀d∈l,By 16 d.1∧By 16 d.2)→(DL n l).drop (k*33)=DL n (l.drop k)
 |l,0,_=>by simp
 |[],k+1,_=>by simp [DL]
 |d::l,k+1,h=>by
  obtain ⟨h1,h2⟩:=h d (by simp)
  have ih:=Bh (n:=n) (l:=l) (k:=k) fun x hx=>h x (by simp [hx])
  have h3:(DC n d.1 d.2).length=33:=by simp [h1.len,h2.len]
  show (DC n d.1 d.2++DL n l).drop ((k+1)*33)=_
  rw [List.drop_append,List.drop_of_length_le (by omega),h3,show (k+1)*33-33=k*33 by omega,ih]
  rfl
theorem NH {n:Nat}: ∀{l:List L2} {k:Nat},(∀d∈l,By 16 d.1∧By 16 d.2)→(DL n l).take (k*33)=DL n (l.take k)
 |l,0,_=>by simp [DL]
 |[],k+1,_=>by simp [DL]
 |d::l,k+1,h=>by
  obtain ⟨h1,h2⟩:=h d (by simp)
  have ih:=NH (n:=n) (l:=l) (k:=k) fun x hx=>h x (by simp [hx])
  have h3:(DC n d.1 d.2).length=33:=by simp [h1.len,h2.len]
  show (DC n d.1 d.2++DL n l).take ((k+1)*33)=DC n d.1 d.2++DL n (l.take k)
  rw [List.take_append,List.take_of_length_le (by omega),h3,show (k+1)*33-33=k*33 by omega,ih]
theorem Vk {n:Nat} {l k:List L2}:DL n (l++k)=DL n l++DL n k:=List.flatMap_append
theorem AX {n:Nat} {l:List L2} {k:Nat} {d:L2} (h: ∀d∈l,By 16 d.1∧By 16 d.2) (hk:l[k]? =some d):getN (some 33) (DL n l) (k*33)=some (DV n d.1 d.2):=by
 have hlt:k<l.length:=(List.getElem?_eq_some_iff.1 hk).1
 have hd:l.drop k=d::l.drop (k+1):=by
  rw [List.drop_eq_getElem_cons hlt]
  congr 1
  exact (List.getElem?_eq_some_iff.1 hk).2
 obtain ⟨h1,h2⟩:=h d (List.mem_of_getElem? hk)
 have h3:(DC n d.1 d.2).length=33:=by simp [h1.len,h2.len]
 have h4:=nZ (n:=n) h
 have h5:(DL n l).drop (k*33)=DC n d.1 d.2++DL n (l.drop (k+1)):=by rw [Bh h,hd];rfl
 have h6:((DL n l).drop (k*33)).take 33=DC n d.1 d.2:=by rw [h5,List.take_append,List.take_of_length_le (by omega),h3];simp
 simp only [getN]
 rw [if_pos (by omega),h6]
theorem Vl {z cs:List Value} (hz:z.length=33) (hc:cs.length=33):fillL (repl z 1) [(0,33,aggL cs)]=some cs:=by
 have e:repl z 1=z:=by simp [repl]
 have e2:cellsL (aggL cs)=cs:=rfl
 rw [e,fillL,e2,if_pos ⟨hc,by omega⟩,fillL,splice,hc,List.drop_of_length_le (by omega)]
 simp
theorem NI {H:BH} {b k m:Nat} {cs ys:List Value} (hb:blk H b=some cs) (h1:ys.length=m*33) (h2:k*33≤cs.length) (h3:(k+m)*40≤140737488355328) (h4:ys.all dB=true):
  dK 33 40 (S b 0 k 33) (Fz m 33 ys) H=some (S H.length 0 (k+m) 33,(H.set b none)++[some (cs.take (k*33)++ys)]):=by
 by_cases hm:m=0
 ·subst hm
  obtain rfl:ys=[]:=List.eq_nil_of_length_eq_zero (by omega)
  simp only [Nat.add_zero] at h3
  simp [dK,newC,Fz,hb,h2,h3]
 ·simp only [dK,newC,Fz,if_neg hm,if_true,hb]
  rw [if_pos ⟨h2,h3,h4⟩]
theorem Vm {H:BH} {b c k m:Nat} {cs ys:List Value} (hb:blk H b=some cs) (hc:blk H c=some ys) (hm:m≠0) (h1:ys.length=m*33) (h2:k*33≤cs.length) (h3:(k+m)*40≤140737488355328) (h4:ys.all dB=true):
  dK 33 40 (S b 0 k 33) (S c 0 m 33) H=some (S H.length 0 (k+m) 33,(H.set b none)++[some (cs.take (k*33)++ys)]):=by
 have e:(ys.drop 0).take (m*33)=ys:=by rw [List.drop_zero,List.take_of_length_le (by omega)]
 simp only [dK,newC,if_neg hm,if_true,hb,hc]
 rw [if_pos (by omega)]
 simp only [e]
 rw [if_pos ⟨h2,h3,h4⟩]
theorem Bj {n:Nat} {l:List L2}:(DL n l).all dB=true:=List.all_eq_true.2 fun v hv=>by
 obtain ⟨d,_,hd⟩:=List.mem_flatMap.1 hv
 rcases List.mem_cons.1 hd with rfl|hd
 ·rfl
 ·rcases List.mem_append.1 hd with hd|hd<;>(obtain ⟨x,_,rfl⟩:=List.mem_map.1 hd;rfl)
section
variable {n:Nat} {l:List L2} {d:L2} (hl: ∀d∈l,By 16 d.1∧By 16 d.2) (hd:By 16 d.1∧By 16 d.2) (hs:l.Pairwise bC) (hn:l.length≤100000)
include hl hd hs hn
theorem NJ {j k:Nat} {x y:L2} (hj:l[j]? =some x) (hk:l[k]? =some y) (h:j<k):bC x y:=by
 obtain ⟨h1,rfl⟩:=List.getElem?_eq_some_iff.1 hj
 obtain ⟨h2,rfl⟩:=List.getElem?_eq_some_iff.1 hk
 exact List.pairwise_iff_getElem.1 hs j k h1 h2 h
omit hs in
theorem NK {a:Nat} (ha:a≤l.length): ∀f:Fr,dO d l=l.take a++d::l.drop a→f 0=LD n l→f 3=P 0 0→f 5=I a→
  T 0 (dD.r9.seq (dD.r10.seq ACode.ret)) (jd 0 [ARes.tmp 4] fun v H1=>v=LD n (dO d l)∨ ∃j,v=S j 0 (dO d l).length 33∧blk H1 j=some (DL n (dO d l))) f [some (DC n d.1 d.2)]:=by
 intro f hins g0 g3 g5
 have hd1:=hd.1.len
 have hd2:=hd.2.len
 have hfl:fillL (repl (DC 0 dG dG) 1) [(0,33,aggL (DC n d.1 d.2))]=some (DC n d.1 d.2):=Vl (by simp [fZ]) (by simp [hd1,hd2])
 have hT:=fun x (hx:x∈l.take a)=>hl x (List.mem_of_mem_take hx)
 have hD:=fun x (hx:x∈l.drop a)=>hl x (List.mem_of_mem_drop hx)
 have lT:=nZ (n:=n) hT
 have lD:=nZ (n:=n) hD
 have nT:(l.take a).length=a:=by rw [List.length_take];omega
 have nD:(l.drop a).length=l.length-a:=by rw [List.length_drop]
 have hs1:kW 33 (LD n l) (some (I a)) none=some (LD n (l.drop a)):=by
  rw [IW (Aa (by omega)),Int.toNat_natCast,Bh hl,List.take_of_length_le (l:=DL n (l.drop a)) (by omega)]
  show some (Fz (l.length-a) 33 _)=some (Fz (l.drop a).length 33 _)
  rw [nD]
 have hs2:kW 33 (LD n l) none (some (I a))=some (LD n (l.take a)):=by
  rw [IW (zZ (by omega)),Int.toNat_natCast,Nat.zero_mul,List.drop_zero,Nat.sub_zero,NH hl]
  show some (Fz a 33 _)=some (Fz (l.take a).length 33 _)
  rw [nT]
 have hcd:(DC n d.1 d.2).length=33:=by simp [hd1,hd2]
 have ha1:dK 33 40 (S 1 0 1 33) (LD n (l.drop a)) [some (DC n d.1 d.2),some (DC n d.1 d.2)]=some (S 2 0 (1+(l.drop a).length) 33,[some (DC n d.1 d.2),none,some (DL n (d::l.drop a))]):=by
  rw [NI (cs:=DC n d.1 d.2) rfl lD (by omega) (by omega) Bj,List.take_of_length_le (l:=DC n d.1 d.2) (by omega)]
  rfl
 have ha2: ∀X:List Value,dK 33 40 (S 3 0 0 33) (LD n (l.take a)) [some (DC n d.1 d.2),none,some X,some []]=some (S 4 0 (0+(l.take a).length) 33,[some (DC n d.1 d.2),none,some X,none,some (DL n (l.take a))]):=fun X=>by
  rw [NI (cs:=[]) rfl lT (by simp) (by omega) Bj]
  rfl
 have lX:(DL n (d::l.drop a)).length=(1+(l.drop a).length)*33:=by
  show (DC n d.1 d.2++DL n (l.drop a)).length=_
  rw [List.length_append,hcd,lD]
  omega
 have ha3:dK 33 40 (S 4 0 (l.take a).length 33) (S 2 0 (1+(l.drop a).length) 33) [some (DC n d.1 d.2),none,some (DL n (d::l.drop a)),none,some (DL n (l.take a))]=
   some (S 5 0 ((l.take a).length+(1+(l.drop a).length)) 33,[some (DC n d.1 d.2),none,some (DL n (d::l.drop a)),none,none,some (DL n (l.take a)++DL n (d::l.drop a))]):=by
  rw [Vm (cs:=DL n (l.take a)) rfl rfl (by omega) lX (by omega) (by omega) Bj,List.take_of_length_le (l:=DL n (l.take a)) (by omega)]
  rfl
 refine au fun Kr hKr=>?_;simp (disch:=omega) only [RA,↓reduceIte,Nat.reduceEqDiff,Nat.reduceBEq,Nat.reduceSub,Nat.reduceAdd,Nat.reduceMul,Nat.reduceLT,Nat.reduceLeDiff,Int.reduceLE,Int.reduceLT,Int.reduceEq,Int.reduceNeg,Int.reduceToNat,Int.reduceMul,Int.reduceAdd,Int.reduceSub,Int.reduceBEq,Int.reduceBNe,reduceCtorEq,RD,g0,g3,g5,aI,aQ,R4,hfl,hs1,ha1];refine hKr _ _ ?_;clear hKr Kr;(try simp only [RN,reduceIte]);try refine ah rfl ?_
 have hr0:repl (DC 0 dG dG) 0=[]:=rfl
 refine au fun Kr hKr=>?_;simp (disch:=omega) only [RA,↓reduceIte,Nat.reduceEqDiff,Nat.reduceBEq,Nat.reduceSub,Nat.reduceAdd,Nat.reduceMul,Nat.reduceLT,Nat.reduceLeDiff,Int.reduceLE,Int.reduceLT,Int.reduceEq,Int.reduceNeg,Int.reduceToNat,Int.reduceMul,Int.reduceAdd,Int.reduceSub,Int.reduceBEq,Int.reduceBNe,reduceCtorEq,RD,g0,g3,g5,aI,aQ,R4,hs2,hr0,ha2,ha3];refine hKr _ _ ?_;clear hKr Kr;(try simp only [RN,reduceIte]);try refine ah rfl ?_
 refine aS (by simp (disch:=omega) only [RA,↓reduceIte,Nat.reduceEqDiff,Nat.reduceBEq,Nat.reduceSub,Nat.reduceAdd,Nat.reduceMul,Nat.reduceLT,Nat.reduceLeDiff,Int.reduceLE,Int.reduceLT,Int.reduceEq,Int.reduceNeg,Int.reduceToNat,Int.reduceMul,Int.reduceAdd,Int.reduceSub,Int.reduceBEq,Int.reduceBNe,reduceCtorEq,RD,resAll,resOf];rfl) aG.refl ?_;simp only [tup]
 rw [hins]
 refine .inr ⟨5,?_,by rw [Vk];rfl⟩
 rw [List.length_append,List.length_cons]
 congr 1
 omega
theorem Vo:aA false CZ [LD n l,DV n d.1 d.2] [] fun v H1=>v=LD n (dO d l)∨ ∃j,v=S j 0 (dO d l).length 33∧blk H1 j=some (DL n (dO d l)):=by
 have gone: ∀{v:Value},getN none [v] 0=some v:=rfl
 have hz:=fZ
 have hd1:=hd.1.len
 have hd2:=hd.2.len
 refine aZ Pj ?_;simp only [dD,aB]
 refine au fun Kr hKr=>?_;simp (disch:=omega) only [RA,↓reduceIte,Nat.reduceEqDiff,Nat.reduceBEq,Nat.reduceSub,Nat.reduceAdd,Nat.reduceMul,Nat.reduceLT,Nat.reduceLeDiff,Int.reduceLE,Int.reduceLT,Int.reduceEq,Int.reduceNeg,Int.reduceToNat,Int.reduceMul,Int.reduceAdd,Int.reduceSub,Int.reduceBEq,Int.reduceBNe,reduceCtorEq,RD,aI,aQ,R4];refine hKr _ _ ?_;clear hKr Kr;(try simp only [RN,reduceIte]);try refine ah rfl ?_
 refine au fun Kr hKr=>?_;simp (disch:=omega) only [RA,↓reduceIte,Nat.reduceEqDiff,Nat.reduceBEq,Nat.reduceSub,Nat.reduceAdd,Nat.reduceMul,Nat.reduceLT,Nat.reduceLeDiff,Int.reduceLE,Int.reduceLT,Int.reduceEq,Int.reduceNeg,Int.reduceToNat,Int.reduceMul,Int.reduceAdd,Int.reduceSub,Int.reduceBEq,Int.reduceBNe,reduceCtorEq,RD];refine hKr _ _ ?_;clear hKr Kr;(try simp only [RN,reduceIte]);try refine ah rfl ?_
 refine bH (fun m f H'=> ∃a b,a≤b∧b≤l.length∧m=b-a∧(∀j e,j<a→l[j]? =some e→bC e d)∧(∀j e,b≤j→l[j]? =some e→ ¬bC e d)∧f 0=LD n l∧f 3=P 0 0∧f 5=I a∧f 6=I b∧H'=[some (DC n d.1 d.2)]) (l.length) ?_ ?_
 ·refine ⟨_,_,Gh.refl,0,l.length,by omega,by omega,by omega,fun j e hj=>absurd hj (Nat.not_lt_zero j),fun j e hj he=>(by rw [List.getElem?_eq_none hj] at he;cases he),?_,?_,?_,?_,rfl⟩
  any_goals (simp (disch:=omega) only [RA,↓reduceIte,Nat.reduceEqDiff,Nat.reduceBEq,Nat.reduceSub,Nat.reduceAdd,Nat.reduceMul,Nat.reduceLT,Nat.reduceLeDiff,Int.reduceLE,Int.reduceLT,Int.reduceEq,Int.reduceNeg,Int.reduceToNat,Int.reduceMul,Int.reduceAdd,Int.reduceSub,Int.reduceBEq,Int.reduceBNe,reduceCtorEq,RD,RE, *]<;>rfl)
 ·rintro m f H' R ⟨a,b,hab,hbl,rfl,hlo,hhi,g0,g3,g5,g6,rfl⟩ hN hX hR hE
  simp only [dD.l0,aB]
  refine au fun Kr hKr=>?_;simp (disch:=omega) only [RA,↓reduceIte,Nat.reduceEqDiff,Nat.reduceBEq,Nat.reduceSub,Nat.reduceAdd,Nat.reduceMul,Nat.reduceLT,Nat.reduceLeDiff,Int.reduceLE,Int.reduceLT,Int.reduceEq,Int.reduceNeg,Int.reduceToNat,Int.reduceMul,Int.reduceAdd,Int.reduceSub,Int.reduceBEq,Int.reduceBNe,reduceCtorEq,RD,g5,g6];refine hKr _ _ ?_;clear hKr Kr;(try simp only [RN,reduceIte]);try refine ah rfl ?_
  refine bG (p:=a<b) (by simp only [RA,↓reduceIte,Nat.reduceEqDiff,Nat.reduceBEq,Nat.reduceSub,Nat.reduceAdd,Nat.reduceMul,Nat.reduceLT,Nat.reduceLeDiff,Int.reduceLE,Int.reduceLT,Int.reduceEq,Int.reduceNeg,Int.reduceToNat,Int.reduceMul,Int.reduceAdd,Int.reduceSub,Int.reduceBEq,Int.reduceBNe,reduceCtorEq]<;>rfl) (by (try simp only [RB])<;>first|done|exact Iff.rfl|omega|simp) (fun hc=>?_) (fun hc=>?_)<;>(try simp only [RN,reduceIte])<;>(try refine ah rfl ?_)
  ·have hlt:a<b:=by assumption
   obtain ⟨c,hc⟩: ∃c,c=(a+b)/2:=⟨_,rfl⟩
   have hc2:((a:Int)+b).tdiv 2=c:=by
    rw [hc]
    have:((a:Int)+b)=((a+b:Nat):Int):=by omega
    rw [this]
    rfl
   have hca:a≤c∧c<b:=by omega
   obtain ⟨e,he⟩: ∃e,l[c]? =some e:=⟨_,List.getElem?_eq_getElem (by omega)⟩
   have hel:=hl e (List.mem_of_getElem? he)
   have hge:=AX (n:=n) hl he
   (first|refine bY rfl ?_|refine bZ rfl ?_);(try simp only [RN,reduceIte]);try refine ah rfl ?_
   refine au fun Kr hKr=>?_;simp (disch:=omega) only [RA,↓reduceIte,Nat.reduceEqDiff,Nat.reduceBEq,Nat.reduceSub,Nat.reduceAdd,Nat.reduceMul,Nat.reduceLT,Nat.reduceLeDiff,Int.reduceLE,Int.reduceLT,Int.reduceEq,Int.reduceNeg,Int.reduceToNat,Int.reduceMul,Int.reduceAdd,Int.reduceSub,Int.reduceBEq,Int.reduceBNe,reduceCtorEq,RD,g5,g6,hc2];refine hKr _ _ ?_;clear hKr Kr;(try simp only [RN,reduceIte]);try refine ah rfl ?_
   refine au fun Kr hKr=>?_;simp (disch:=omega) only [RA,↓reduceIte,Nat.reduceEqDiff,Nat.reduceBEq,Nat.reduceSub,Nat.reduceAdd,Nat.reduceMul,Nat.reduceLT,Nat.reduceLeDiff,Int.reduceLE,Int.reduceLT,Int.reduceEq,Int.reduceNeg,Int.reduceToNat,Int.reduceMul,Int.reduceAdd,Int.reduceSub,Int.reduceBEq,Int.reduceBNe,reduceCtorEq,RD,g0,g3,hge,aI,aQ,R4]
   refine ND hel.1 hel.2 hd.1 hd.2 ?_
   simp (disch:=omega) only [RA,↓reduceIte,Nat.reduceEqDiff,Nat.reduceBEq,Nat.reduceSub,Nat.reduceAdd,Nat.reduceMul,Nat.reduceLT,Nat.reduceLeDiff,Int.reduceLE,Int.reduceLT,Int.reduceEq,Int.reduceNeg,Int.reduceToNat,Int.reduceMul,Int.reduceAdd,Int.reduceSub,Int.reduceBEq,Int.reduceBNe,reduceCtorEq,RD]
   refine hKr _ _ ?_;clear hKr Kr;(try simp only [aK,aO,aN]);(try simp only [RN,reduceIte]);try refine ah rfl ?_
   by_cases hle:bC e d
   ·have a1:((c:Nat):Int)+1=((c+1:Nat):Int):=by omega
    have hlo2: ∀j x,j<c+1→l[j]? =some x→bC x d:=fun j x hj hx=>by
     rcases Nat.lt_or_ge j c with h|h
     ·exact lt2_trans (NJ hl hd hs hn hx he h) hle
     ·obtain rfl:j=c:=by omega
      rw [he] at hx
      cases hx
      exact hle
    refine ku (t:=true) (by simp (disch:=omega) only [RA,↓reduceIte,Nat.reduceEqDiff,Nat.reduceBEq,Nat.reduceSub,Nat.reduceAdd,Nat.reduceMul,Nat.reduceLT,Nat.reduceLeDiff,Int.reduceLE,Int.reduceLT,Int.reduceEq,Int.reduceNeg,Int.reduceToNat,Int.reduceMul,Int.reduceAdd,Int.reduceSub,Int.reduceBEq,Int.reduceBNe,reduceCtorEq,RD,decide_eq_true hle]) ?_;(try simp only [RN,reduceIte]);try refine ah rfl ?_
    refine bI fun Kr hKr=>?_;simp (disch:=omega) only [RA,↓reduceIte,Nat.reduceEqDiff,Nat.reduceBEq,Nat.reduceSub,Nat.reduceAdd,Nat.reduceMul,Nat.reduceLT,Nat.reduceLeDiff,Int.reduceLE,Int.reduceLT,Int.reduceEq,Int.reduceNeg,Int.reduceToNat,Int.reduceMul,Int.reduceAdd,Int.reduceSub,Int.reduceBEq,Int.reduceBNe,reduceCtorEq,RD,a1];refine hKr _ _ ?_;clear hKr Kr
    refine hN (b-(c+1)) _ _ _ _ (by omega) Gh.refl ⟨c+1,b,by omega,hbl,rfl,hlo2,hhi,?_,?_,?_,?_,rfl⟩
    any_goals (simp (disch:=omega) only [RA,↓reduceIte,Nat.reduceEqDiff,Nat.reduceBEq,Nat.reduceSub,Nat.reduceAdd,Nat.reduceMul,Nat.reduceLT,Nat.reduceLeDiff,Int.reduceLE,Int.reduceLT,Int.reduceEq,Int.reduceNeg,Int.reduceToNat,Int.reduceMul,Int.reduceAdd,Int.reduceSub,Int.reduceBEq,Int.reduceBNe,reduceCtorEq,RD,RE, *]<;>rfl)
   ·have hhi2: ∀j x,c≤j→l[j]? =some x→ ¬bC x d:=fun j x hj hx hxd=>by
     rcases Nat.lt_or_ge c j with h|h
     ·exact hle (lt2_trans (NJ hl hd hs hn he hx h) hxd)
     ·obtain rfl:j=c:=by omega
      rw [he] at hx
      cases hx
      exact hle hxd
    refine ku (t:=false) (by simp (disch:=omega) only [RA,↓reduceIte,Nat.reduceEqDiff,Nat.reduceBEq,Nat.reduceSub,Nat.reduceAdd,Nat.reduceMul,Nat.reduceLT,Nat.reduceLeDiff,Int.reduceLE,Int.reduceLT,Int.reduceEq,Int.reduceNeg,Int.reduceToNat,Int.reduceMul,Int.reduceAdd,Int.reduceSub,Int.reduceBEq,Int.reduceBNe,reduceCtorEq,RD,decide_eq_false hle]) ?_;(try simp only [RN,reduceIte]);try refine ah rfl ?_
    refine bI fun Kr hKr=>?_;simp (disch:=omega) only [RA,↓reduceIte,Nat.reduceEqDiff,Nat.reduceBEq,Nat.reduceSub,Nat.reduceAdd,Nat.reduceMul,Nat.reduceLT,Nat.reduceLeDiff,Int.reduceLE,Int.reduceLT,Int.reduceEq,Int.reduceNeg,Int.reduceToNat,Int.reduceMul,Int.reduceAdd,Int.reduceSub,Int.reduceBEq,Int.reduceBNe,reduceCtorEq,RD];refine hKr _ _ ?_;clear hKr Kr
    refine hN (c-a) _ _ _ _ (by omega) Gh.refl ⟨a,c,by omega,by omega,rfl,hlo,hhi2,?_,?_,?_,?_,rfl⟩
    any_goals (simp (disch:=omega) only [RA,↓reduceIte,Nat.reduceEqDiff,Nat.reduceBEq,Nat.reduceSub,Nat.reduceAdd,Nat.reduceMul,Nat.reduceLT,Nat.reduceLeDiff,Int.reduceLE,Int.reduceLT,Int.reduceEq,Int.reduceNeg,Int.reduceToNat,Int.reduceMul,Int.reduceAdd,Int.reduceSub,Int.reduceBEq,Int.reduceBNe,reduceCtorEq,RD,RE, *]<;>rfl)
  ·refine hX _ _ ?_
   obtain rfl:a=b:=by omega
   have hins:=NG hbl hlo hhi
   simp only [aB]
   by_cases hal:a<l.length
   ·obtain ⟨e,he⟩: ∃e,l[a]? =some e:=⟨_,List.getElem?_eq_getElem hal⟩
    have hel:=hl e (List.mem_of_getElem? he)
    have hge:=AX (n:=n) hl he
    have q1:=hel.1.len
    have q2:=hel.2.len
    have hrest:=NK (n:=n) (l:=l) (d:=d) hl hd hn (a:=a) (by omega)
    refine au fun Kr hKr=>?_;simp (disch:=omega) only [RA,↓reduceIte,Nat.reduceEqDiff,Nat.reduceBEq,Nat.reduceSub,Nat.reduceAdd,Nat.reduceMul,Nat.reduceLT,Nat.reduceLeDiff,Int.reduceLE,Int.reduceLT,Int.reduceEq,Int.reduceNeg,Int.reduceToNat,Int.reduceMul,Int.reduceAdd,Int.reduceSub,Int.reduceBEq,Int.reduceBNe,reduceCtorEq,RD,g0,g3,g5,hge,aI,aQ,R4,Ve];refine hKr _ _ ?_;clear hKr Kr;(try simp only [RN,reduceIte]);try refine ah rfl ?_
    by_cases hed:e=d
    ·have e1:decide ((n:Int)=n∧(e.1,e.2)=(d.1,d.2))=true:=decide_eq_true ⟨rfl,by rw [hed]⟩
     rw [he,if_pos (by rw [hed])] at hins
     refine aP (t:=true) (by simp (disch:=omega) only [RA,↓reduceIte,Nat.reduceEqDiff,Nat.reduceBEq,Nat.reduceSub,Nat.reduceAdd,Nat.reduceMul,Nat.reduceLT,Nat.reduceLeDiff,Int.reduceLE,Int.reduceLT,Int.reduceEq,Int.reduceNeg,Int.reduceToNat,Int.reduceMul,Int.reduceAdd,Int.reduceSub,Int.reduceBEq,Int.reduceBNe,reduceCtorEq,RD,e1]) ?_;(try simp only [RN,reduceIte]);try refine ah rfl ?_
     refine au fun Kr hKr=>?_;simp (disch:=omega) only [RA,↓reduceIte,Nat.reduceEqDiff,Nat.reduceBEq,Nat.reduceSub,Nat.reduceAdd,Nat.reduceMul,Nat.reduceLT,Nat.reduceLeDiff,Int.reduceLE,Int.reduceLT,Int.reduceEq,Int.reduceNeg,Int.reduceToNat,Int.reduceMul,Int.reduceAdd,Int.reduceSub,Int.reduceBEq,Int.reduceBNe,reduceCtorEq,RD,g0];refine hKr _ _ ?_;clear hKr Kr;(try simp only [RN,reduceIte]);try refine ah rfl ?_
     refine aS (by simp (disch:=omega) only [RA,↓reduceIte,Nat.reduceEqDiff,Nat.reduceBEq,Nat.reduceSub,Nat.reduceAdd,Nat.reduceMul,Nat.reduceLT,Nat.reduceLeDiff,Int.reduceLE,Int.reduceLT,Int.reduceEq,Int.reduceNeg,Int.reduceToNat,Int.reduceMul,Int.reduceAdd,Int.reduceSub,Int.reduceBEq,Int.reduceBNe,reduceCtorEq,RD,resAll,resOf];rfl) aG.refl ?_;simp only [tup]
     exact .inl (by rw [hins])
    ·have e1:decide ((n:Int)=n∧(e.1,e.2)=(d.1,d.2))=false:=decide_eq_false fun h=>hed h.2
     rw [he,if_neg (fun h=>hed (Option.some.inj h))] at hins
     refine aP (t:=false) (by simp (disch:=omega) only [RA,↓reduceIte,Nat.reduceEqDiff,Nat.reduceBEq,Nat.reduceSub,Nat.reduceAdd,Nat.reduceMul,Nat.reduceLT,Nat.reduceLeDiff,Int.reduceLE,Int.reduceLT,Int.reduceEq,Int.reduceNeg,Int.reduceToNat,Int.reduceMul,Int.reduceAdd,Int.reduceSub,Int.reduceBEq,Int.reduceBNe,reduceCtorEq,RD,e1]) ?_;(try simp only [RN,reduceIte]);try refine ah rfl ?_
     refine hrest _ hins ?_ ?_ ?_
     any_goals (simp (disch:=omega) only [RA,↓reduceIte,Nat.reduceEqDiff,Nat.reduceBEq,Nat.reduceSub,Nat.reduceAdd,Nat.reduceMul,Nat.reduceLT,Nat.reduceLeDiff,Int.reduceLE,Int.reduceLT,Int.reduceEq,Int.reduceNeg,Int.reduceToNat,Int.reduceMul,Int.reduceAdd,Int.reduceSub,Int.reduceBEq,Int.reduceBNe,reduceCtorEq,RD,RE, *]<;>rfl)
   ·have hrest:=NK (n:=n) (l:=l) (d:=d) hl hd hn (a:=a) (by omega)
    rw [List.getElem?_eq_none (by omega),if_neg (by simp)] at hins
    have e0:decide (a<l.length)=false:=decide_eq_false hal
    refine au fun Kr hKr=>?_;simp (disch:=omega) only [RA,↓reduceIte,Nat.reduceEqDiff,Nat.reduceBEq,Nat.reduceSub,Nat.reduceAdd,Nat.reduceMul,Nat.reduceLT,Nat.reduceLeDiff,Int.reduceLE,Int.reduceLT,Int.reduceEq,Int.reduceNeg,Int.reduceToNat,Int.reduceMul,Int.reduceAdd,Int.reduceSub,Int.reduceBEq,Int.reduceBNe,reduceCtorEq,RD,g0,g3,g5,e0];refine hKr _ _ ?_;clear hKr Kr;(try simp only [RN,reduceIte]);try refine ah rfl ?_
    refine aP (t:=false) (by simp (disch:=omega) only [RA,↓reduceIte,Nat.reduceEqDiff,Nat.reduceBEq,Nat.reduceSub,Nat.reduceAdd,Nat.reduceMul,Nat.reduceLT,Nat.reduceLeDiff,Int.reduceLE,Int.reduceLT,Int.reduceEq,Int.reduceNeg,Int.reduceToNat,Int.reduceMul,Int.reduceAdd,Int.reduceSub,Int.reduceBEq,Int.reduceBNe,reduceCtorEq,RD]) ?_;(try simp only [RN,reduceIte]);try refine ah rfl ?_
    refine hrest _ hins ?_ ?_ ?_
    any_goals (simp (disch:=omega) only [RA,↓reduceIte,Nat.reduceEqDiff,Nat.reduceBEq,Nat.reduceSub,Nat.reduceAdd,Nat.reduceMul,Nat.reduceLT,Nat.reduceLeDiff,Int.reduceLE,Int.reduceLT,Int.reduceEq,Int.reduceNeg,Int.reduceToNat,Int.reduceMul,Int.reduceAdd,Int.reduceSub,Int.reduceBEq,Int.reduceBNe,reduceCtorEq,RD,RE, *]<;>rfl)
end
theorem Vp {x:Bool} {g:Nat} {args:List Value} {H:BH} {K:Value→BH→Prop} {l e:Nat} {cs:List Value} (ha:aF args) (hn:aF cs) (hl:l*e=cs.length)
  (h:aA false g args [] fun v H1=>v=Fz l e cs∨ ∃j,v= .slice (some ⟨j,0,none⟩) l e∧blk H1 j=some cs) (hK:K (Fz l e cs) H):aA x g args H K:=
 cO ha (h.gh fun v H1 hv=>by
  rcases hv with h1|⟨j,h1,h2⟩
  ·exact ⟨v,H1, .refl,by rw [h1];exact ⟨NN.fz,hK⟩⟩
  ·refine ⟨jD j cs v,H1.set j none,aG.fz h2 hn,?_⟩
   have e1:jD j cs (.slice (some ⟨j,0,none⟩) l e)=Fz l e cs:=by
    simp only [jD]
    exact ji hl
   rw [h1,e1]
   exact ⟨NN.fz,hK⟩)
theorem Vq {n:Nat} {d:L2}:NN (DV n d.1 d.2):=fV
theorem Vr {n:Nat} {l:List L2} {d:L2} {x:Bool} {H:BH} {K:Value→BH→Prop} (hl: ∀d∈l,By 16 d.1∧By 16 d.2) (hd:By 16 d.1∧By 16 d.2) (hs:l.Pairwise bC) (hn:l.length≤100000)
  (hK:K (LD n (dO d l)) H):aA x CZ [LD n l,DV n d.1 d.2] H K:=by
 refine Vp (.cons .fz (.cons Vq .nil)) yE ?_ (Vo hl hd hs hn) hK
 rw [nZ fun x hx=>?_]
 rcases ng.1 hx with rfl|hx
 ·exact hd
 ·exact hl x hx
end Go.Bm.Q5
namespace Go.Bm.Q5
open Go Go.Am Go.Bm
def gG (n:Nat) (black:List Nat) (l:List L2) (w:List Nat):List L2:=if bg n black w then dO (eY black w n) l else l
def mJ (l:List L2):Prop:=(∀d∈l,By 16 d.1∧By 16 d.2)∧l.Pairwise bC
theorem Vs {n:Nat} {black w:List Nat} {l:List L2} (h:mJ l):mJ (gG n black l w):=by
 unfold gG
 split
 ·rename_i hd
  refine ⟨fun d hx=>?_,yB h.2⟩
  rcases ng.1 hx with rfl|hx
  ·exact mZ (k:=n-1) hd (by have:=hd.1.1;omega)
  ·exact h.1 d hx
 ·exact h
theorem Vt {n:Nat} {black w:List Nat} {l:List L2}:(gG n black l w).length≤l.length+1:=by
 unfold gG
 split
 ·exact yC
 ·omega
theorem AQ {n:Nat} {black:List Nat}: ∀(ws:List (List Nat)) {l:List L2},mJ l→mJ (ws.foldl (gG n black) l)
 |[],l,h=>h
 |w::ws,l,h=>AQ ws (Vs h)
theorem AU {n:Nat} {black:List Nat}: ∀(ws:List (List Nat)) {l:List L2},(ws.foldl (gG n black) l).length≤l.length+ws.length
 |[],l=>by simp
 |w::ws,l=>by
  have h1:=AU (n:=n) (black:=black) ws (l:=gG n black l w)
  have h2:=Vt (n:=n) (black:=black) (w:=w) (l:=l)
  rw [List.foldl_cons,List.length_cons]
  omega
section
variable {n:Nat} {black:List Nat}
theorem U5 (hb:By 16 black) (hbp:Perm black n): ∀(m:Nat) {p:List Nat} {k:Nat} {l:List L2} {x:Bool} {H:BH} {K:Value→BH→Prop},PQ n p→k+m=n→mJ l→l.length+gq m≤90000→
  K (LD n ((sw n m p k).foldl (gG n black) l)) H→aA x Ox [LD n l,PL black,PL p,I k,I n] H K:=by
 intro m
 induction m with
 |zero=>
  intro p k l x H K hp hk ho hC hK
  obtain rfl:k=n:=by omega
  have hwb:By 16 p:=⟨hp.2,fun i=>by have:=hp.1.iD hp.2 i;omega⟩
  have fH:=hwb.len
  have hlb:=hb.len
  have hz:=fZ
  have gone: ∀{v:Value},getN none [v] 0=some v:=rfl
  simp only [sw,List.foldl_cons,List.foldl_nil] at hK
  simp only [gq] at hC
  refine cO (.cons .fz (.cons (gu iE) (.cons (gu iE) (.cons .int (.cons .int .nil))))) ?_
  refine aZ Dn ?_;simp only [bT,aB]
  refine au fun Kr hKr=>?_;simp (disch:=omega) only [RA,↓reduceIte,Nat.reduceEqDiff,Nat.reduceBEq,Nat.reduceSub,Nat.reduceAdd,Nat.reduceMul,Nat.reduceLT,Nat.reduceLeDiff,Int.reduceLE,Int.reduceLT,Int.reduceEq,Int.reduceNeg,Int.reduceToNat,Int.reduceMul,Int.reduceAdd,Int.reduceSub,Int.reduceBEq,Int.reduceBNe,reduceCtorEq,RD,R4];refine hKr _ _ ?_;clear hKr Kr;(try simp only [RN,reduceIte]);try refine ah rfl ?_
  refine au fun Kr hKr=>?_;simp (disch:=omega) only [RA,↓reduceIte,Nat.reduceEqDiff,Nat.reduceBEq,Nat.reduceSub,Nat.reduceAdd,Nat.reduceMul,Nat.reduceLT,Nat.reduceLeDiff,Int.reduceLE,Int.reduceLT,Int.reduceEq,Int.reduceNeg,Int.reduceToNat,Int.reduceMul,Int.reduceAdd,Int.reduceSub,Int.reduceBEq,Int.reduceBNe,reduceCtorEq,RD,R4];refine hKr _ _ ?_;clear hKr Kr;(try simp only [RN,reduceIte]);try refine ah rfl ?_
  refine aP (t:=true) (by simp (disch:=omega) only [RA,↓reduceIte,Nat.reduceEqDiff,Nat.reduceBEq,Nat.reduceSub,Nat.reduceAdd,Nat.reduceMul,Nat.reduceLT,Nat.reduceLeDiff,Int.reduceLE,Int.reduceLT,Int.reduceEq,Int.reduceNeg,Int.reduceToNat,Int.reduceMul,Int.reduceAdd,Int.reduceSub,Int.reduceBEq,Int.reduceBNe,reduceCtorEq,RD]) ?_;(try simp only [RN,reduceIte]);try refine ah rfl ?_
  refine au fun Kr hKr=>?_;simp (disch:=omega) only [RA,↓reduceIte,Nat.reduceEqDiff,Nat.reduceBEq,Nat.reduceSub,Nat.reduceAdd,Nat.reduceMul,Nat.reduceLT,Nat.reduceLeDiff,Int.reduceLE,Int.reduceLT,Int.reduceEq,Int.reduceNeg,Int.reduceToNat,Int.reduceMul,Int.reduceAdd,Int.reduceSub,Int.reduceBEq,Int.reduceBNe,reduceCtorEq,RD,R4,aI,aQ,gone];refine hKr _ _ ?_;clear hKr Kr;(try simp only [RN,reduceIte]);try refine ah rfl ?_
  refine au fun Kr hKr=>?_;simp (disch:=omega) only [RA,↓reduceIte,Nat.reduceEqDiff,Nat.reduceBEq,Nat.reduceSub,Nat.reduceAdd,Nat.reduceMul,Nat.reduceLT,Nat.reduceLeDiff,Int.reduceLE,Int.reduceLT,Int.reduceEq,Int.reduceNeg,Int.reduceToNat,Int.reduceMul,Int.reduceAdd,Int.reduceSub,Int.reduceBEq,Int.reduceBNe,reduceCtorEq,RD,R4,aI,aQ,gone]
  refine TT hb hwb ?_
  simp (disch:=omega) only [RA,↓reduceIte,Nat.reduceEqDiff,Nat.reduceBEq,Nat.reduceSub,Nat.reduceAdd,Nat.reduceMul,Nat.reduceLT,Nat.reduceLeDiff,Int.reduceLE,Int.reduceLT,Int.reduceEq,Int.reduceNeg,Int.reduceToNat,Int.reduceMul,Int.reduceAdd,Int.reduceSub,Int.reduceBEq,Int.reduceBNe,reduceCtorEq,RD,R4,aI,aQ]
  refine hKr _ _ ?_;clear hKr Kr;(try simp only [aK,aO,aN]);(try simp only [RN,reduceIte]);try refine ah rfl ?_
  by_cases hd:bg k black p
  ·rw [gG,if_pos hd] at hK
   have hc:By 16 (eY black p k).1∧By 16 (eY black p k).2:=mZ (k:=k-1) hd (by have:=hbp.1;omega)
   refine aP (t:=true) (by simp (disch:=omega) only [RA,↓reduceIte,Nat.reduceEqDiff,Nat.reduceBEq,Nat.reduceSub,Nat.reduceAdd,Nat.reduceMul,Nat.reduceLT,Nat.reduceLeDiff,Int.reduceLE,Int.reduceLT,Int.reduceEq,Int.reduceNeg,Int.reduceToNat,Int.reduceMul,Int.reduceAdd,Int.reduceSub,Int.reduceBEq,Int.reduceBNe,reduceCtorEq,RD,decide_eq_true hd]) ?_;(try simp only [RN,reduceIte]);try refine ah rfl ?_
   refine au fun Kr hKr=>?_;simp (disch:=omega) only [RA,↓reduceIte,Nat.reduceEqDiff,Nat.reduceBEq,Nat.reduceSub,Nat.reduceAdd,Nat.reduceMul,Nat.reduceLT,Nat.reduceLeDiff,Int.reduceLE,Int.reduceLT,Int.reduceEq,Int.reduceNeg,Int.reduceToNat,Int.reduceMul,Int.reduceAdd,Int.reduceSub,Int.reduceBEq,Int.reduceBNe,reduceCtorEq,RD,R4,aI,aQ,gone]
   refine Vg hb hwb hd ?_
   simp (disch:=omega) only [RA,↓reduceIte,Nat.reduceEqDiff,Nat.reduceBEq,Nat.reduceSub,Nat.reduceAdd,Nat.reduceMul,Nat.reduceLT,Nat.reduceLeDiff,Int.reduceLE,Int.reduceLT,Int.reduceEq,Int.reduceNeg,Int.reduceToNat,Int.reduceMul,Int.reduceAdd,Int.reduceSub,Int.reduceBEq,Int.reduceBNe,reduceCtorEq,RD,R4,aI,aQ]
   refine Vr ho.1 hc ho.2 (by omega) ?_
   simp (disch:=omega) only [RA,↓reduceIte,Nat.reduceEqDiff,Nat.reduceBEq,Nat.reduceSub,Nat.reduceAdd,Nat.reduceMul,Nat.reduceLT,Nat.reduceLeDiff,Int.reduceLE,Int.reduceLT,Int.reduceEq,Int.reduceNeg,Int.reduceToNat,Int.reduceMul,Int.reduceAdd,Int.reduceSub,Int.reduceBEq,Int.reduceBNe,reduceCtorEq,RD,R4,aI,aQ]
   refine hKr _ _ ?_;clear hKr Kr;(try simp only [aK,aO,aN]);(try simp only [RN,reduceIte]);try refine ah rfl ?_
   refine aS (by simp (disch:=omega) only [RA,↓reduceIte,Nat.reduceEqDiff,Nat.reduceBEq,Nat.reduceSub,Nat.reduceAdd,Nat.reduceMul,Nat.reduceLT,Nat.reduceLeDiff,Int.reduceLE,Int.reduceLT,Int.reduceEq,Int.reduceNeg,Int.reduceToNat,Int.reduceMul,Int.reduceAdd,Int.reduceSub,Int.reduceBEq,Int.reduceBNe,reduceCtorEq,RD,resAll,resOf];rfl) aG.refl ?_;simp only [tup]
   exact ⟨.fz,hK⟩
  ·rw [gG,if_neg hd] at hK
   refine aP (t:=false) (by simp (disch:=omega) only [RA,↓reduceIte,Nat.reduceEqDiff,Nat.reduceBEq,Nat.reduceSub,Nat.reduceAdd,Nat.reduceMul,Nat.reduceLT,Nat.reduceLeDiff,Int.reduceLE,Int.reduceLT,Int.reduceEq,Int.reduceNeg,Int.reduceToNat,Int.reduceMul,Int.reduceAdd,Int.reduceSub,Int.reduceBEq,Int.reduceBNe,reduceCtorEq,RD,decide_eq_false hd]) ?_;(try simp only [RN,reduceIte]);try refine ah rfl ?_
   refine au fun Kr hKr=>?_;simp (disch:=omega) only [RA,↓reduceIte,Nat.reduceEqDiff,Nat.reduceBEq,Nat.reduceSub,Nat.reduceAdd,Nat.reduceMul,Nat.reduceLT,Nat.reduceLeDiff,Int.reduceLE,Int.reduceLT,Int.reduceEq,Int.reduceNeg,Int.reduceToNat,Int.reduceMul,Int.reduceAdd,Int.reduceSub,Int.reduceBEq,Int.reduceBNe,reduceCtorEq,RD];refine hKr _ _ ?_;clear hKr Kr;(try simp only [RN,reduceIte]);try refine ah rfl ?_
   refine aS (by simp (disch:=omega) only [RA,↓reduceIte,Nat.reduceEqDiff,Nat.reduceBEq,Nat.reduceSub,Nat.reduceAdd,Nat.reduceMul,Nat.reduceLT,Nat.reduceLeDiff,Int.reduceLE,Int.reduceLT,Int.reduceEq,Int.reduceNeg,Int.reduceToNat,Int.reduceMul,Int.reduceAdd,Int.reduceSub,Int.reduceBEq,Int.reduceBNe,reduceCtorEq,RD,resAll,resOf];rfl) aG.refl ?_;simp only [tup]
   exact ⟨.fz,hK⟩
 |succ m ih=>
  intro p k l x H K hp hk ho hC hK
  have hlp:=hp.2
  have hlb:=hb.len
  have hn:=hp.1.1
  have hwb:By 16 p:=⟨hp.2,fun i=>by have:=hp.1.iD hp.2 i;omega⟩
  have hfc:gq (m+1)=(m+1)*gq m:=rfl
  obtain ⟨g,hg⟩: ∃g:Nat→List (List Nat),g=fun d=>sw n m (iT p k (k+d)) (k+1):=⟨_,rfl⟩
  obtain ⟨A,hA⟩: ∃A:Nat→List L2,A=fun d=>((List.range d).flatMap g).foldl (gG n black) l:=⟨_,rfl⟩
  have hAs: ∀d,A (d+1)=(g d).foldl (gG n black) (A d):=fun d=>by
   rw [hA]
   simp only [List.range_succ,List.flatMap_append,List.foldl_append,List.flatMap_cons,List.flatMap_nil,List.append_nil]
  have hgl: ∀d,(g d).length=gq m:=fun d=>by rw [hg];exact yT m
  have hA0:A 0=l:=by rw [hA];rfl
  have Vu: ∀d,mJ (A d)∧(A d).length≤l.length+d*gq m:=by
   intro d
   induction d with
   |zero=>rw [hA0];exact ⟨ho,by omega⟩
   |succ d ih=>
    have q1:=AU (n:=n) (black:=black) (g d) (l:=A d)
    rw [hgl] at q1
    rw [hAs,Nat.add_mul]
    exact ⟨AQ _ ih.1,by have:=ih.2;omega⟩
  have hend:sw n (m+1) p k=(List.range (m+1)).flatMap g:=by rw [hg];rfl
  have Vw:K (LD n (A (m+1))) H:=by rw [hA];rw [hend] at hK;exact hK
  refine cO (.cons .fz (.cons (gu iE) (.cons (gu iE) (.cons .int (.cons .int .nil))))) ?_
  refine aZ Dn ?_;simp only [bT,aB]
  refine au fun Kr hKr=>?_;simp (disch:=omega) only [RA,↓reduceIte,Nat.reduceEqDiff,Nat.reduceBEq,Nat.reduceSub,Nat.reduceAdd,Nat.reduceMul,Nat.reduceLT,Nat.reduceLeDiff,Int.reduceLE,Int.reduceLT,Int.reduceEq,Int.reduceNeg,Int.reduceToNat,Int.reduceMul,Int.reduceAdd,Int.reduceSub,Int.reduceBEq,Int.reduceBNe,reduceCtorEq,RD,R4];refine hKr _ _ ?_;clear hKr Kr;(try simp only [RN,reduceIte]);try refine ah rfl ?_
  refine au fun Kr hKr=>?_;simp (disch:=omega) only [RA,↓reduceIte,Nat.reduceEqDiff,Nat.reduceBEq,Nat.reduceSub,Nat.reduceAdd,Nat.reduceMul,Nat.reduceLT,Nat.reduceLeDiff,Int.reduceLE,Int.reduceLT,Int.reduceEq,Int.reduceNeg,Int.reduceToNat,Int.reduceMul,Int.reduceAdd,Int.reduceSub,Int.reduceBEq,Int.reduceBNe,reduceCtorEq,RD,R4];refine hKr _ _ ?_;clear hKr Kr;(try simp only [RN,reduceIte]);try refine ah rfl ?_
  refine aP (t:=false) (by simp (disch:=omega) only [RA,↓reduceIte,Nat.reduceEqDiff,Nat.reduceBEq,Nat.reduceSub,Nat.reduceAdd,Nat.reduceMul,Nat.reduceLT,Nat.reduceLeDiff,Int.reduceLE,Int.reduceLT,Int.reduceEq,Int.reduceNeg,Int.reduceToNat,Int.reduceMul,Int.reduceAdd,Int.reduceSub,Int.reduceBEq,Int.reduceBNe,reduceCtorEq,RD]) ?_;(try simp only [RN,reduceIte]);try refine ah rfl ?_
  refine au fun Kr hKr=>?_;simp (disch:=omega) only [RA,↓reduceIte,Nat.reduceEqDiff,Nat.reduceBEq,Nat.reduceSub,Nat.reduceAdd,Nat.reduceMul,Nat.reduceLT,Nat.reduceLeDiff,Int.reduceLE,Int.reduceLT,Int.reduceEq,Int.reduceNeg,Int.reduceToNat,Int.reduceMul,Int.reduceAdd,Int.reduceSub,Int.reduceBEq,Int.reduceBNe,reduceCtorEq,RD];refine hKr _ _ ?_;clear hKr Kr;(try simp only [RN,reduceIte]);try refine ah rfl ?_
  refine bH (fun mm f H'=> ∃d,d≤m+1∧mm=m+1-d∧f 0=LD n (A d)∧f 3=I k∧f 4=I n∧f 6=P 0 0∧f 7=P 1 0∧f 12=I ((k+d:Nat):Int)∧H'=[some (black.map N8),some (p.map N8)]) (m+1) ?_ ?_
  ·refine ⟨_,_,Gh.refl,0,by omega,by omega,?_,?_,?_,?_,?_,?_,rfl⟩
   all_goals (simp (disch:=omega) only [RA,↓reduceIte,Nat.reduceEqDiff,Nat.reduceBEq,Nat.reduceSub,Nat.reduceAdd,Nat.reduceMul,Nat.reduceLT,Nat.reduceLeDiff,Int.reduceLE,Int.reduceLT,Int.reduceEq,Int.reduceNeg,Int.reduceToNat,Int.reduceMul,Int.reduceAdd,Int.reduceSub,Int.reduceBEq,Int.reduceBNe,reduceCtorEq,R4,RD,RE, *]<;>rfl)
  ·rintro mm f H' R ⟨d,hd,rfl,g0,g3,g4,g6,g7,g12,rfl⟩ hN hX hR hE
   simp only [bT.l0,aB]
   refine au fun Kr hKr=>?_;simp (disch:=omega) only [RA,↓reduceIte,Nat.reduceEqDiff,Nat.reduceBEq,Nat.reduceSub,Nat.reduceAdd,Nat.reduceMul,Nat.reduceLT,Nat.reduceLeDiff,Int.reduceLE,Int.reduceLT,Int.reduceEq,Int.reduceNeg,Int.reduceToNat,Int.reduceMul,Int.reduceAdd,Int.reduceSub,Int.reduceBEq,Int.reduceBNe,reduceCtorEq,RD,g4,g12];refine hKr _ _ ?_;clear hKr Kr;(try simp only [RN,reduceIte]);try refine ah rfl ?_
   refine bG (p:=k+d<n) (by simp only [RA,↓reduceIte,Nat.reduceEqDiff,Nat.reduceBEq,Nat.reduceSub,Nat.reduceAdd,Nat.reduceMul,Nat.reduceLT,Nat.reduceLeDiff,Int.reduceLE,Int.reduceLT,Int.reduceEq,Int.reduceNeg,Int.reduceToNat,Int.reduceMul,Int.reduceAdd,Int.reduceSub,Int.reduceBEq,Int.reduceBNe,reduceCtorEq]<;>rfl) (by (try simp only [RB])<;>first|done|exact Iff.rfl|omega|simp) (fun hc=>?_) (fun hc=>?_)<;>(try simp only [RN,reduceIte])<;>(try refine ah rfl ?_)
   ·have hdm:d<m+1:=by omega
    obtain ⟨hb1,hb2⟩:=Vu d
    have hmul:d*gq m+gq m≤(m+1)*gq m:=by
     have:(d+1)*gq m≤(m+1)*gq m:=Nat.mul_le_mul_right _ (by omega)
     rwa [Nat.add_mul,Nat.one_mul] at this
    have NM:PQ n (iT p k (k+d)):=vT hp (by omega) (by omega)
    have hsl:=NM.2
    have hsd:iT p k (k+d)=(p.set k (nl p (k+d))).set (k+d) (nl p k):=rfl
    have hl1:(p.set k (nl p (k+d))).length=16:=by rw [List.length_set,hlp]
    have hw1:=hwb.lt (k+d)
    have hw2:=hwb.lt k
    have a1:((k:Nat):Int)+1=((k+1:Nat):Int):=by omega
    have a2:((k+d:Nat):Int)+1=((k+(d+1):Nat):Int):=by omega
    rw [hfc] at hC
    (first|refine bY rfl ?_|refine bZ rfl ?_);(try simp only [RN,reduceIte]);try refine ah rfl ?_
    refine au fun Kr hKr=>?_;simp (disch:=omega) only [RA,↓reduceIte,Nat.reduceEqDiff,Nat.reduceBEq,Nat.reduceSub,Nat.reduceAdd,Nat.reduceMul,Nat.reduceLT,Nat.reduceLeDiff,Int.reduceLE,Int.reduceLT,Int.reduceEq,Int.reduceNeg,Int.reduceToNat,Int.reduceMul,Int.reduceAdd,Int.reduceSub,Int.reduceBEq,Int.reduceBNe,reduceCtorEq,RD,g7,hlp];refine hKr _ _ ?_;clear hKr Kr;(try simp only [RN,reduceIte]);try refine ah rfl ?_
    refine au fun Kr hKr=>?_;simp (disch:=omega) only [RA,↓reduceIte,Nat.reduceEqDiff,Nat.reduceBEq,Nat.reduceSub,Nat.reduceAdd,Nat.reduceMul,Nat.reduceLT,Nat.reduceLeDiff,Int.reduceLE,Int.reduceLT,Int.reduceEq,Int.reduceNeg,Int.reduceToNat,Int.reduceMul,Int.reduceAdd,Int.reduceSub,Int.reduceBEq,Int.reduceBNe,reduceCtorEq,RD,g3,g7,g12,hlp];refine hKr _ _ ?_;clear hKr Kr;(try simp only [RN,reduceIte]);try refine ah rfl ?_
    refine au fun Kr hKr=>?_;simp (disch:=omega) only [RA,↓reduceIte,Nat.reduceEqDiff,Nat.reduceBEq,Nat.reduceSub,Nat.reduceAdd,Nat.reduceMul,Nat.reduceLT,Nat.reduceLeDiff,Int.reduceLE,Int.reduceLT,Int.reduceEq,Int.reduceNeg,Int.reduceToNat,Int.reduceMul,Int.reduceAdd,Int.reduceSub,Int.reduceBEq,Int.reduceBNe,reduceCtorEq,RD,g3,g7,g12,hlp,hl1];refine hKr _ _ ?_;clear hKr Kr;(try simp only [RN,reduceIte]);try refine ah rfl ?_
    rw [←hsd]
    refine au fun Kr hKr=>?_;simp (disch:=omega) only [RA,↓reduceIte,Nat.reduceEqDiff,Nat.reduceBEq,Nat.reduceSub,Nat.reduceAdd,Nat.reduceMul,Nat.reduceLT,Nat.reduceLeDiff,Int.reduceLE,Int.reduceLT,Int.reduceEq,Int.reduceNeg,Int.reduceToNat,Int.reduceMul,Int.reduceAdd,Int.reduceSub,Int.reduceBEq,Int.reduceBNe,reduceCtorEq,RD,g0,g3,g4,g6,R4,hlb,hsl,a1]
    refine ih NM (by omega) hb1 (by omega) ?_
    have ga:(sw n m (iT p k (k+d)) (k+1)).foldl (gG n black) (A d)=A (d+1):=by rw [hAs,hg]
    rw [ga]
    simp (disch:=omega) only [RA,↓reduceIte,Nat.reduceEqDiff,Nat.reduceBEq,Nat.reduceSub,Nat.reduceAdd,Nat.reduceMul,Nat.reduceLT,Nat.reduceLeDiff,Int.reduceLE,Int.reduceLT,Int.reduceEq,Int.reduceNeg,Int.reduceToNat,Int.reduceMul,Int.reduceAdd,Int.reduceSub,Int.reduceBEq,Int.reduceBNe,reduceCtorEq,RD,g6,R4]
    refine hKr _ _ ?_;clear hKr Kr;(try simp only [aK,aO,aN]);(try simp only [RN,reduceIte]);try refine ah rfl ?_
    refine bI fun Kr hKr=>?_;simp (disch:=omega) only [RA,↓reduceIte,Nat.reduceEqDiff,Nat.reduceBEq,Nat.reduceSub,Nat.reduceAdd,Nat.reduceMul,Nat.reduceLT,Nat.reduceLeDiff,Int.reduceLE,Int.reduceLT,Int.reduceEq,Int.reduceNeg,Int.reduceToNat,Int.reduceMul,Int.reduceAdd,Int.reduceSub,Int.reduceBEq,Int.reduceBNe,reduceCtorEq,RD,g12,a2];refine hKr _ _ ?_;clear hKr Kr
    refine hN (m+1-(d+1)) _ _ _ _ (by omega) (Gh.nrm [0,1] rfl rfl (by simp only [RH])) ⟨d+1,by omega,rfl,?_,?_,?_,?_,?_,?_,rfl⟩
    any_goals (simp (disch:=omega) only [RA,↓reduceIte,Nat.reduceEqDiff,Nat.reduceBEq,Nat.reduceSub,Nat.reduceAdd,Nat.reduceMul,Nat.reduceLT,Nat.reduceLeDiff,Int.reduceLE,Int.reduceLT,Int.reduceEq,Int.reduceNeg,Int.reduceToNat,Int.reduceMul,Int.reduceAdd,Int.reduceSub,Int.reduceBEq,Int.reduceBNe,reduceCtorEq,RD,RE, *]<;>rfl)
   ·refine hX _ _ ?_
    obtain rfl:d=m+1:=by omega
    refine au fun Kr hKr=>?_;simp (disch:=omega) only [RA,↓reduceIte,Nat.reduceEqDiff,Nat.reduceBEq,Nat.reduceSub,Nat.reduceAdd,Nat.reduceMul,Nat.reduceLT,Nat.reduceLeDiff,Int.reduceLE,Int.reduceLT,Int.reduceEq,Int.reduceNeg,Int.reduceToNat,Int.reduceMul,Int.reduceAdd,Int.reduceSub,Int.reduceBEq,Int.reduceBNe,reduceCtorEq,RD,g0,R4];refine hKr _ _ ?_;clear hKr Kr;(try simp only [RN,reduceIte]);try refine ah rfl ?_
    refine aS (by simp (disch:=omega) only [RA,↓reduceIte,Nat.reduceEqDiff,Nat.reduceBEq,Nat.reduceSub,Nat.reduceAdd,Nat.reduceMul,Nat.reduceLT,Nat.reduceLeDiff,Int.reduceLE,Int.reduceLT,Int.reduceEq,Int.reduceNeg,Int.reduceToNat,Int.reduceMul,Int.reduceAdd,Int.reduceSub,Int.reduceBEq,Int.reduceBNe,reduceCtorEq,RD,resAll,resOf];rfl) aG.refl ?_;simp only [tup]
    exact ⟨.fz,Vw⟩
end
end Go.Bm.Q5
namespace Go.Bm.Q5
open Go Go.Am Go.Bm
theorem Vx {cs:List Value} {H:BH} {b o i:Nat} (h:o<cs.length):bQ (some cs) H b o 1 (.map (some i))=some (undef,H.set b (some (splice cs o [.map (some i)]))):=by
 simp only [bQ,cells2]
 rw [if_pos ⟨rfl,by omega,rfl⟩]
theorem Vy:Am.plain (.map none)=true:=rfl
theorem Nu: ∀n,n<6→1≤n→ ∀t∈aH n n n,kP (jl t)∧jS (jl t)=n:=by decide+kernel
theorem AO: ∀n,n<6→(aH n n n).length≤7:=by decide+kernel
def iw (n:Nat):Nat→List L2
 |0=>[]
 |k+1=>(lv n n []).foldl (stepD n (std (jl ((aH n n n).getD k [])))) (iw n k)
def allL (n:Nat):List L2:=iw n (aH n n n).length
theorem Vz {n:Nat} {black w:List Nat} {s:List L2} (hs: ∀d∈s,By 16 d.1∧By 16 d.2): ∀d∈stepD n black s w,By 16 d.1∧By 16 d.2:=by
 intro d hd
 unfold stepD at hd
 split at hd
 ·rename_i h
  rcases List.mem_append.1 hd with hd|hd
  ·exact hs d hd
  ·rw [List.mem_singleton] at hd
   subst hd
   exact mZ (k:=n-1) h (by have:=h.1.1;omega)
 ·exact hs d hd
theorem NP {n:Nat} {black:List Nat}: ∀(l:List (List Nat)) {s:List L2},(∀d∈s,By 16 d.1∧By 16 d.2)→ ∀d∈l.foldl (stepD n black) s,By 16 d.1∧By 16 d.2
 |[],s,h=>h
 |w::l,s,h=>NP l (Vz h)
theorem NQ {n:Nat} {black:List Nat}: ∀(l:List (List Nat)) {s:List L2},(l.foldl (stepD n black) s).length≤s.length+l.length
 |[],s=>by simp
 |w::l,s=>by
  have h1:=NQ (n:=n) (black:=black) l (s:=stepD n black s w)
  have h2:(stepD n black s w).length≤s.length+1:=by
   unfold stepD
   split<;>simp
  rw [List.foldl_cons,List.length_cons]
  omega
theorem AB {n:Nat}: ∀k,∀d∈iw n k,By 16 d.1∧By 16 d.2
 |0=>by simp [iw]
 |k+1=>NP _ (AB k)
theorem AL {n:Nat} (h1:1≤n) (h5:n≤5): ∀k,(iw n k).length≤k*3125
 |0=>by simp [iw]
 |k+1=>by
  have h2:=NQ (n:=n) (black:=std (jl ((aH n n n).getD k []))) (lv n n []) (s:=iw n k)
  have h3:=AL h1 h5 k
  have h4:=ER (n:=n) n (pre:=[]) ⟨h1,by omega⟩ ⟨by simp,by simp,by simp⟩ (by simp)
  have h6:n^n≤5^5:=Nat.le_trans (Nat.pow_le_pow_left h5 n) (Nat.pow_le_pow_right (by omega) h5)
  rw [iw,Nat.add_mul]
  omega
theorem VA {n:Nat} {black:List Nat} (s:List L2):iM [0,1,2,3] (PM (b0 n) b1 (b2 n) b3 (b4 black) s)=[some [I n],some [],some (s.map (dH n)),some [.map (some 1)]]:=by
 show [_,_,_,_]=_
 have e1:Option.map (List.map (ren [0,1,2,3])) (some (s.map (dH n)))=some (s.map (dH n)):=by rw [Option.map_some,yx]
 exact congr (congrArg List.cons rfl) (congr (congrArg List.cons rfl) (congr (congrArg List.cons e1) (congr (congrArg List.cons rfl) rfl)))
theorem VB {n:Nat} (h1:1≤n) (h5:n≤5):aA false CX [I n] [] fun v H1=> ∃j,v=S j 0 (dL (allL n)).length 33∧blk H1 j=some (DL n (dL (allL n))):=by
 have gone: ∀{v:Value},getN none [v] 0=some v:=rfl
 have hz:=fZ
 refine aZ OZ ?_;simp only [dS,aB]
 refine au fun Kr hKr=>?_;simp (disch:=omega) only [RA,↓reduceIte,Nat.reduceEqDiff,Nat.reduceBEq,Nat.reduceSub,Nat.reduceAdd,Nat.reduceMul,Nat.reduceLT,Nat.reduceLeDiff,Int.reduceLE,Int.reduceLT,Int.reduceEq,Int.reduceNeg,Int.reduceToNat,Int.reduceMul,Int.reduceAdd,Int.reduceSub,Int.reduceBEq,Int.reduceBNe,reduceCtorEq,RD,R4];refine hKr _ _ ?_;clear hKr Kr;(try simp only [RN,reduceIte]);try refine ah rfl ?_
 refine au fun Kr hKr=>?_;simp (disch:=omega) only [RA,↓reduceIte,Nat.reduceEqDiff,Nat.reduceBEq,Nat.reduceSub,Nat.reduceAdd,Nat.reduceMul,Nat.reduceLT,Nat.reduceLeDiff,Int.reduceLE,Int.reduceLT,Int.reduceEq,Int.reduceNeg,Int.reduceToNat,Int.reduceMul,Int.reduceAdd,Int.reduceSub,Int.reduceBEq,Int.reduceBNe,reduceCtorEq,RD,UL,Vy,Vx];refine hKr _ _ ?_;clear hKr Kr;(try simp only [RN,reduceIte]);try refine ah rfl ?_
 refine au fun Kr hKr=>?_;simp (disch:=omega) only [RA,↓reduceIte,Nat.reduceEqDiff,Nat.reduceBEq,Nat.reduceSub,Nat.reduceAdd,Nat.reduceMul,Nat.reduceLT,Nat.reduceLeDiff,Int.reduceLE,Int.reduceLT,Int.reduceEq,Int.reduceNeg,Int.reduceToNat,Int.reduceMul,Int.reduceAdd,Int.reduceSub,Int.reduceBEq,Int.reduceBNe,reduceCtorEq,RD,R4,gone]
 refine Tf (by omega) (by omega) ?_
 simp (disch:=omega) only [RA,↓reduceIte,Nat.reduceEqDiff,Nat.reduceBEq,Nat.reduceSub,Nat.reduceAdd,Nat.reduceMul,Nat.reduceLT,Nat.reduceLeDiff,Int.reduceLE,Int.reduceLT,Int.reduceEq,Int.reduceNeg,Int.reduceToNat,Int.reduceMul,Int.reduceAdd,Int.reduceSub,Int.reduceBEq,Int.reduceBNe,reduceCtorEq,RD]
 refine hKr _ _ ?_;clear hKr Kr;(try simp only [aK,aO,aN]);(try simp only [RN,reduceIte]);try refine ah rfl ?_
 have hlen:=AO n (by omega)
 refine bH (fun m f H'=> ∃k,k≤(aH n n n).length∧m=(aH n n n).length-k∧f 1=P 0 0∧f 3=P 3 0∧f 10=Fz (aH n n n).length 1 ((aH n n n).map FN)∧f 11=I (aH n n n).length∧f 12=I k∧H'=[some [I n],some [],some ((iw n k).map (dH n)),some [.map (some 1)]]) ((aH n n n).length) ?_ ?_
 ·refine ⟨_,_,Gh.refl,0,by omega,by omega,?_,?_,?_,?_,?_,rfl⟩
  any_goals (simp (disch:=omega) only [RA,↓reduceIte,Nat.reduceEqDiff,Nat.reduceBEq,Nat.reduceSub,Nat.reduceAdd,Nat.reduceMul,Nat.reduceLT,Nat.reduceLeDiff,Int.reduceLE,Int.reduceLT,Int.reduceEq,Int.reduceNeg,Int.reduceToNat,Int.reduceMul,Int.reduceAdd,Int.reduceSub,Int.reduceBEq,Int.reduceBNe,reduceCtorEq,RD,RE, *]<;>rfl)
 ·rintro m f H' R ⟨k,hk,rfl,g1,g3,g10,g11,g12,rfl⟩ hN hX hR hE
  simp only [dS.l0,aB]
  refine au fun Kr hKr=>?_;simp (disch:=omega) only [RA,↓reduceIte,Nat.reduceEqDiff,Nat.reduceBEq,Nat.reduceSub,Nat.reduceAdd,Nat.reduceMul,Nat.reduceLT,Nat.reduceLeDiff,Int.reduceLE,Int.reduceLT,Int.reduceEq,Int.reduceNeg,Int.reduceToNat,Int.reduceMul,Int.reduceAdd,Int.reduceSub,Int.reduceBEq,Int.reduceBNe,reduceCtorEq,RD,g11,g12];refine hKr _ _ ?_;clear hKr Kr;(try simp only [RN,reduceIte]);try refine ah rfl ?_
  refine bG (p:=k<(aH n n n).length) (by simp only [RA,↓reduceIte,Nat.reduceEqDiff,Nat.reduceBEq,Nat.reduceSub,Nat.reduceAdd,Nat.reduceMul,Nat.reduceLT,Nat.reduceLeDiff,Int.reduceLE,Int.reduceLT,Int.reduceEq,Int.reduceNeg,Int.reduceToNat,Int.reduceMul,Int.reduceAdd,Int.reduceSub,Int.reduceBEq,Int.reduceBNe,reduceCtorEq]<;>rfl) (by (try simp only [RB])<;>first|done|exact Iff.rfl|omega|simp) (fun hc=>?_) (fun hc=>?_)<;>(try simp only [RN,reduceIte])<;>(try refine ah rfl ?_)
  ·have hkn:k<(aH n n n).length:=by assumption
   obtain ⟨ht,hsum⟩:=Nu n (by omega) h1 ((aH n n n).getD k []) (Eo hkn)
   obtain ⟨hp,hby,_,_⟩:=Ez ht hsum
   have hlb:=hby.len
   have hnext: ∀f',f' 1=P 0 0→f' 3=P 3 0→f' 10=Fz (aH n n n).length 1 ((aH n n n).map FN)→f' 11=I (aH n n n).length→f' 12=I k→T 0 dS.r7 R f' [some [I n],some [],some ((iw n (k+1)).map (dH n)),some [.map (some 1)]]:=by
    clear g1 g3 g10 g11 g12
    intro f' g1 g3 g10 g11 g12
    have a1:((k:Nat):Int)+1=((k+1:Nat):Int):=by omega
    refine bI fun Kr hKr=>?_;simp (disch:=omega) only [RA,↓reduceIte,Nat.reduceEqDiff,Nat.reduceBEq,Nat.reduceSub,Nat.reduceAdd,Nat.reduceMul,Nat.reduceLT,Nat.reduceLeDiff,Int.reduceLE,Int.reduceLT,Int.reduceEq,Int.reduceNeg,Int.reduceToNat,Int.reduceMul,Int.reduceAdd,Int.reduceSub,Int.reduceBEq,Int.reduceBNe,reduceCtorEq,RD,g12,a1];refine hKr _ _ ?_;clear hKr Kr
    refine hN ((aH n n n).length-(k+1)) _ _ _ _ (by omega) Gh.refl ⟨k+1,by omega,rfl,?_,?_,?_,?_,?_,rfl⟩
    any_goals (simp (disch:=omega) only [RA,↓reduceIte,Nat.reduceEqDiff,Nat.reduceBEq,Nat.reduceSub,Nat.reduceAdd,Nat.reduceMul,Nat.reduceLT,Nat.reduceLeDiff,Int.reduceLE,Int.reduceLT,Int.reduceEq,Int.reduceNeg,Int.reduceToNat,Int.reduceMul,Int.reduceAdd,Int.reduceSub,Int.reduceBEq,Int.reduceBNe,reduceCtorEq,RD,RE, *]<;>rfl)
   (first|refine bY rfl ?_|refine bZ rfl ?_);(try simp only [RN,reduceIte]);try refine ah rfl ?_
   refine au fun Kr hKr=>?_;simp (disch:=omega) only [RA,↓reduceIte,Nat.reduceEqDiff,Nat.reduceBEq,Nat.reduceSub,Nat.reduceAdd,Nat.reduceMul,Nat.reduceLT,Nat.reduceLeDiff,Int.reduceLE,Int.reduceLT,Int.reduceEq,Int.reduceNeg,Int.reduceToNat,Int.reduceMul,Int.reduceAdd,Int.reduceSub,Int.reduceBEq,Int.reduceBNe,reduceCtorEq,RD,g10,g12,y7];refine hKr _ _ ?_;clear hKr Kr;(try simp only [RN,reduceIte]);try refine ah rfl ?_
   refine au fun Kr hKr=>?_;simp (disch:=omega) only [RA,↓reduceIte,Nat.reduceEqDiff,Nat.reduceBEq,Nat.reduceSub,Nat.reduceAdd,Nat.reduceMul,Nat.reduceLT,Nat.reduceLeDiff,Int.reduceLE,Int.reduceLT,Int.reduceEq,Int.reduceNeg,Int.reduceToNat,Int.reduceMul,Int.reduceAdd,Int.reduceSub,Int.reduceBEq,Int.reduceBNe,reduceCtorEq,RD,Eu]
   refine SG ht ?_
   simp (disch:=omega) only [RA,↓reduceIte,Nat.reduceEqDiff,Nat.reduceBEq,Nat.reduceSub,Nat.reduceAdd,Nat.reduceMul,Nat.reduceLT,Nat.reduceLeDiff,Int.reduceLE,Int.reduceLT,Int.reduceEq,Int.reduceNeg,Int.reduceToNat,Int.reduceMul,Int.reduceAdd,Int.reduceSub,Int.reduceBEq,Int.reduceBNe,reduceCtorEq,RD,R4,hlb]
   refine hKr _ _ ?_;clear hKr Kr;(try simp only [aK,aO,aN]);(try simp only [RN,reduceIte]);try refine ah rfl ?_
   refine au fun Kr hKr=>?_;simp (disch:=omega) only [RA,↓reduceIte,Nat.reduceEqDiff,Nat.reduceBEq,Nat.reduceSub,Nat.reduceAdd,Nat.reduceMul,Nat.reduceLT,Nat.reduceLeDiff,Int.reduceLE,Int.reduceLT,Int.reduceEq,Int.reduceNeg,Int.reduceToNat,Int.reduceMul,Int.reduceAdd,Int.reduceSub,Int.reduceBEq,Int.reduceBNe,reduceCtorEq,RD,g1,g3,gone]
   refine QW (s:=iw n k) (Ry (by omega) hby hp) Ru h1 (by omega) ?_
   simp (disch:=omega) only [RA,↓reduceIte,Nat.reduceEqDiff,Nat.reduceBEq,Nat.reduceSub,Nat.reduceAdd,Nat.reduceMul,Nat.reduceLT,Nat.reduceLeDiff,Int.reduceLE,Int.reduceLT,Int.reduceEq,Int.reduceNeg,Int.reduceToNat,Int.reduceMul,Int.reduceAdd,Int.reduceSub,Int.reduceBEq,Int.reduceBNe,reduceCtorEq,RD]
   refine hKr _ _ ?_;clear hKr Kr;(try simp only [aK,aO,aN]);(try simp only [RN,reduceIte]);try refine ah rfl ?_
   refine jg (Gh.mX [0,1,2,3] (by decide) fun j hj=>absurd hj (Nat.not_lt_zero j)) ?_
   rw [VA]
   refine hnext _ ?_ ?_ ?_ ?_ ?_
   all_goals exact (by simp (disch:=omega) only [RA,↓reduceIte,Nat.reduceEqDiff,Nat.reduceBEq,Nat.reduceSub,Nat.reduceAdd,Nat.reduceMul,Nat.reduceLT,Nat.reduceLeDiff,Int.reduceLE,Int.reduceLT,Int.reduceEq,Int.reduceNeg,Int.reduceToNat,Int.reduceMul,Int.reduceAdd,Int.reduceSub,Int.reduceBEq,Int.reduceBNe,reduceCtorEq,RD,RE, *]<;>rfl)
  ·refine hX _ _ ?_
   obtain rfl:k=(aH n n n).length:=by omega
   have hla:=AL h1 h5 (aH n n n).length
   refine au fun Kr hKr=>?_;simp (disch:=omega) only [RA,↓reduceIte,Nat.reduceEqDiff,Nat.reduceBEq,Nat.reduceSub,Nat.reduceAdd,Nat.reduceMul,Nat.reduceLT,Nat.reduceLeDiff,Int.reduceLE,Int.reduceLT,Int.reduceEq,Int.reduceNeg,Int.reduceToNat,Int.reduceMul,Int.reduceAdd,Int.reduceSub,Int.reduceBEq,Int.reduceBNe,reduceCtorEq,RD,g3,gone]
   refine RS (i:=1) (s:=allL n) (by omega) (AB _) (by rw [allL];omega) rfl rfl ?_
   simp (disch:=omega) only [RA,↓reduceIte,Nat.reduceEqDiff,Nat.reduceBEq,Nat.reduceSub,Nat.reduceAdd,Nat.reduceMul,Nat.reduceLT,Nat.reduceLeDiff,Int.reduceLE,Int.reduceLT,Int.reduceEq,Int.reduceNeg,Int.reduceToNat,Int.reduceMul,Int.reduceAdd,Int.reduceSub,Int.reduceBEq,Int.reduceBNe,reduceCtorEq,RD]
   refine hKr _ _ ?_;clear hKr Kr;(try simp only [aK,aO,aN]);(try simp only [RN,reduceIte]);try refine ah rfl ?_
   refine aS (by simp (disch:=omega) only [RA,↓reduceIte,Nat.reduceEqDiff,Nat.reduceBEq,Nat.reduceSub,Nat.reduceAdd,Nat.reduceMul,Nat.reduceLT,Nat.reduceLeDiff,Int.reduceLE,Int.reduceLT,Int.reduceEq,Int.reduceNeg,Int.reduceToNat,Int.reduceMul,Int.reduceAdd,Int.reduceSub,Int.reduceBEq,Int.reduceBNe,reduceCtorEq,RD,resAll,resOf];rfl) aG.refl ?_;simp only [tup]
   exact ⟨4,rfl,rfl⟩
theorem U7 {n:Nat} {x:Bool} {H:BH} {K:Value→BH→Prop} (h1:1≤n) (h5:n≤5) (hK:K (S H.length 0 (dL (allL n)).length 33) (H++[some (DL n (dL (allL n)))])):aA x CX [I n] H K:=
 Ei (.cons .int .nil) yE (VB h1 h5) hK
end Go.Bm.Q5
