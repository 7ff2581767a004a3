/- DpPb, DpPc, DpPd, DpPe, DpPf, DpDb, DpDc, DpDh, DpDd, DpS, DpEa, DpEb -/
import Derived.Test.YtkapkmjofpoebaaBmQ
import Derived.Test.YtkapkmjofpoebaaBmR
import Derived.Test.YtkapkmjofpoebaaDpG0
import Derived.Test.YtkapkmjofpoebaaDpG2
import Derived.Test.YtkapkmjofpoebaaDpG3
set_option linter.unusedVariables false
set_option linter.unusedSimpArgs false
set_option linter.unusedSectionVars false
namespace Go.Bm
open Go Go.Am
abbrev GC (n:Nat) (tb:List Nat) (hs:List Bool):List Value:=I n::(tb.map N8++hs.map Value.bool)
def wM (tb:List Nat) (i k:Nat):List Nat:=(tb.drop (256*i+16*k)).take 16
def dY (tb:List Nat) (hs:List Bool):Tab:=fun i k=>if i<16∧k<16∧bl hs (16*i+k)=true then some (wM tb i k) else none
structure kD (tb:List Nat) (hs:List Bool):Prop where
 t:tb.length=4096
 h:hs.length=256
section
variable {n:Nat} {tb:List Nat} {hs:List Bool}
theorem pJ:aW (GC n tb hs):= .cons .int (.append (.map fun _=> .int) (.map fun _=> .bool))
theorem wO {p:List Nat}:aW (p.map N8):= .map fun _=> .int
theorem Bz:aY none (GC n tb hs) 0=some (I n):=rfl
theorem agu (hl:kD tb hs) {j o:Nat} (hj:j<256) (ho:o=4097+j):aY none (GC n tb hs) o=some (.bool (bl hs j)):=by
 subst ho
 have h1:=hl.t
 have h2:=hl.h
 show (GC n tb hs)[4097+j]? =_
 rw [show 4097+j=4096+j+1 by omega,List.getElem?_cons_succ,List.getElem?_append_right (by simp;omega)]
 simp [h1,bl,List.getD,show j<hs.length by omega]
theorem agv (hl:kD tb hs) {i k o:Nat} (hi:i<16) (hk:k<16) (ho:o=1+(256*i+16*k)):aY (some 16) (GC n tb hs) o=some (bJ ((wM tb i k).map N8)):=by
 subst ho
 have h1:=hl.t
 have h2:=hl.h
 simp only [aY]
 rw [if_pos (by simp [h1,h2];omega),show 1+(256*i+16*k)=256*i+16*k+1 by omega,List.drop_succ_cons,List.drop_append_of_le_length (by simp;omega),List.take_append_of_le_length (by simp;omega),←List.map_drop,←List.map_take]
 rfl
theorem Jy {i k:Nat} (hi:i<16) (hk:k<16) (h:bl hs (16*i+k)=true):dY tb hs i k=some (wM tb i k):=if_pos ⟨hi,hk,h⟩
theorem Wj {i k:Nat} (h:bl hs (16*i+k)=false):dY tb hs i k=none:=if_neg fun ⟨_,_,h'⟩=>by rw [h] at h';cases h'
theorem agw {T:Tab} (h:fQ n T) {q:List Nat} (hq:PN n q):bG q (dN (dQ n) n) n=q:=by
 have:dN (dQ n) n=dQ n:=by
  have h1:=rF (PN.one h.n16)
  rwa [one_mul (PN.one h.n16).inv] at h1
 rw [this,mul_one hq]
theorem PN.by {q:List Nat} (h:PN n q):By 16 q:=⟨h.len,fun i=>by have:=h.perm.kN h.len i;omega⟩
theorem Jz {H:BH} {b:Nat} {q p:List Nat} (hq:q.length=16) (hp:p.length=16):dP (some (q.map N8)) H b 0 16 (PL p)=some (undef,H.set b (some (p.map N8))):=by
 rw [Ey hp (by simp [hq]),uO (by simp [hq,hp])]
theorem agx {p:List Nat} {K:Value→BH→Prop} (hl:kD tb hs) (hT:fQ n (dY tb hs)) (hp:PN n p)
  (hK:K (.tuple ⟨[PL (sf (dY tb hs) n n p).1,I (sf (dY tb hs) n n p).2]⟩) [some (GC n tb hs)]):aQ false MO [P 0 0,PL p] [some (GC n tb hs)] K:=by
 have hn:=hT.n16
 have hpl:=hp.len
 have hz:=ji
 refine bF aaT ?_;simp only [iy,aI]
 refine au fun Kr hKr=>?_;simp (disch:=omega) only [RA,↓reduceIte,Nat.reduceEqDiff,RD,aF];refine hKr _ _ ?_;clear hKr Kr;(try simp only [RN,reduceIte]);try refine ah rfl ?_
 refine au fun Kr hKr=>?_;simp (disch:=omega) only [RA,↓reduceIte,Nat.reduceEqDiff,RD,Bz];refine hKr _ _ ?_;clear hKr Kr;(try simp only [RN,reduceIte]);try refine ah rfl ?_
 refine bU (fun m f H'=> ∃(i:Nat) (q:List Nat),i≤n∧m=n-i∧PN n q∧sf (dY tb hs) n (n-i) q=sf (dY tb hs) n n p∧f 0=P 0 0∧f 3=P 1 0∧f 4=P 2 0∧f 11=I n∧f 12=I i∧H'=[some (GC n tb hs),some (q.map N8),some (gu.map N8)]) (n) ?_ ?_
 ·refine ⟨_,_,Gh.refl,0,p,by omega,by omega,hp,rfl,?_,?_,?_,?_,?_,rfl⟩
  any_goals (simp (disch:=omega) only [RA,↓reduceIte,Nat.reduceEqDiff,RD,RE, *]<;>rfl)
 ·rintro m f H' R ⟨i,q,hi,rfl,hq,he,g0,g3,g4,g11,g12,rfl⟩ hN hX hR hE
  simp only [iy.l0,aI]
  have bW:=hq.len
  refine au fun Kr hKr=>?_;simp (disch:=omega) only [RA,↓reduceIte,Nat.reduceEqDiff,RD,g11,g12];refine hKr _ _ ?_;clear hKr Kr;(try simp only [RN,reduceIte]);try refine ah rfl ?_
  refine aX (p:=i<n) (by simp only [RA,↓reduceIte,Nat.reduceEqDiff]<;>rfl) (by (try simp only [RB])<;>first|done|exact Iff.rfl|omega|simp) (fun hc=>?_) (fun hc=>?_)<;>(try simp only [RN,reduceIte])<;>(try refine ah rfl ?_)
  ·have hil:i<n:=by assumption
   have hk:=hq.perm.lt hil
   have hgh:=fun o (ho:o=4097+(16*i+nl q i))=>agu (n:=n) hl (j:=16*i+nl q i) (by omega) ho
   (first|refine bP rfl ?_|refine bQ rfl ?_);(try simp only [RN,reduceIte]);try refine ah rfl ?_
   refine au fun Kr hKr=>?_;simp (disch:=omega) only [RA,↓reduceIte,Nat.reduceEqDiff,RD,g12];refine hKr _ _ ?_;clear hKr Kr;(try simp only [RN,reduceIte]);try refine ah rfl ?_
   refine au fun Kr hKr=>?_;simp (disch:=omega) only [RA,↓reduceIte,Nat.reduceEqDiff,RD,g3];refine hKr _ _ ?_;clear hKr Kr;(try simp only [RN,reduceIte]);try refine ah rfl ?_
   have hd1:n-i=(n-(i+1))+1:=by omega
   have hdi:n-(n-(i+1)+1)=i:=by omega
   have hnext: ∀(f':Fr) (q':List Nat),PN n q'→sf (dY tb hs) n (n-(i+1)) q'=sf (dY tb hs) n n p→f' 0=P 0 0→f' 3=P 1 0→f' 4=P 2 0→f' 11=I n→f' 12=I i→T 1 iy.r9 R f' [some (GC n tb hs),some (q'.map N8),some (gu.map N8)]:=by
    clear g0 g3 g4 g11 g12
    intro f' q' hq' e' g0 g3 g4 g11 g12
    refine bH fun Kr hKr=>?_;simp (disch:=omega) only [RA,↓reduceIte,Nat.reduceEqDiff,RD,g12];refine hKr _ _ ?_;clear hKr Kr
    refine hN (n-(i+1)) _ _ _ _ (by omega) Gh.refl ⟨i+1,q',by omega,rfl,hq',e',?_,?_,?_,?_,?_,rfl⟩
    any_goals (simp (disch:=omega) only [RA,↓reduceIte,Nat.reduceEqDiff,RD,RE, *]<;>rfl)
   by_cases hb:bl hs (16*i+nl q i)=true
   ·have BA:=Jy (tb:=tb) (show i<16 by omega) (show nl q i<16 by omega) hb
    obtain ⟨k1,k2,k3,k4⟩:=hT.ok _ _ _ hil BA
    have hsf:sf (dY tb hs) n (n-(i+1)) (bG q (dN (wM tb i (nl q i)) n) n)=sf (dY tb hs) n n p:=by
     rw [←he,hd1,sf,hdi,BA]
    have hgt:=fun o (ho:o=1+(256*i+16*nl q i))=>agv (n:=n) hl (i:=i) (k:=nl q i) (by omega) (by omega) ho
    refine au fun Kr hKr=>?_;simp (disch:=omega) only [RA,↓reduceIte,Nat.reduceEqDiff,RD,g0,hgh,hb];refine hKr _ _ ?_;clear hKr Kr;(try simp only [RN,reduceIte]);try refine ah rfl ?_
    refine dG (t:=false) (by simp (disch:=omega) only [RA,↓reduceIte,Nat.reduceEqDiff,RD]) ?_;(try simp only [RN,reduceIte]);try refine ah rfl ?_
    refine au fun Kr hKr=>?_;simp (disch:=omega) only [RA,↓reduceIte,Nat.reduceEqDiff,RD,g12];refine hKr _ _ ?_;clear hKr Kr;(try simp only [RN,reduceIte]);try refine ah rfl ?_
    refine aX (p:= ¬nl q i=i) (by simp only [RA,↓reduceIte,Nat.reduceEqDiff]<;>rfl) (by (try simp only [RB])<;>first|done|exact Iff.rfl|omega|simp) (fun hc=>?_) (fun hc=>?_)<;>(try simp only [RN,reduceIte])<;>(try refine ah rfl ?_)
    ·have hbk:=k2.inv
     refine au fun Kr hKr=>?_;simp (disch:=omega) only [RA,↓reduceIte,Nat.reduceEqDiff,RD,g0,g3,g12,hgt,Bz]
     refine Uy k2.by (by omega) (k2.perm.kN k2.len) ?_
     simp (disch:=omega) only [RA,↓reduceIte,Nat.reduceEqDiff,RD,g0,Bz]
     refine EG hq.by hbk.by (by omega) (hq.perm.kN hq.len) ?_
     have htl:=(hq.mul hbk).len
     simp (disch:=omega) only [RA,↓reduceIte,Nat.reduceEqDiff,RD,g3,Jz]
     refine hKr _ _ ?_;clear hKr Kr;(try simp only [aK,aP,aN]);(try simp only [RN,reduceIte]);try refine ah rfl ?_
     refine hnext _ _ (hq.mul hbk) hsf ?_ ?_ ?_ ?_ ?_
     any_goals (simp (disch:=omega) only [RA,↓reduceIte,Nat.reduceEqDiff,RD,RE, *]<;>rfl)
    ·have hkk:nl q i=i:=by omega
     have hid:=hT.id i hil
     rw [hkk] at BA hsf
     rw [hid] at BA
     rw [←Option.some.inj BA,agw hT hq] at hsf
     refine hnext _ _ hq hsf ?_ ?_ ?_ ?_ ?_
     any_goals (simp (disch:=omega) only [RA,↓reduceIte,Nat.reduceEqDiff,RD,RE, *]<;>rfl)
   ·have hb':bl hs (16*i+nl q i)=false:=by simpa using hb
    have hsf:sf (dY tb hs) n n p=(q,i):=by
     rw [←he,hd1,sf,hdi,Wj hb']
    refine au fun Kr hKr=>?_;simp (disch:=omega) only [RA,↓reduceIte,Nat.reduceEqDiff,RD,g0,hgh,hb'];refine hKr _ _ ?_;clear hKr Kr;(try simp only [RN,reduceIte]);try refine ah rfl ?_
    refine dG (t:=true) (by simp (disch:=omega) only [RA,↓reduceIte,Nat.reduceEqDiff,RD]) ?_;(try simp only [RN,reduceIte]);try refine ah rfl ?_
    refine au fun Kr hKr=>?_;simp (disch:=omega) only [RA,↓reduceIte,Nat.reduceEqDiff,RD,g3,g4,g12,Jz];refine hKr _ _ ?_;clear hKr Kr;(try simp only [RN,reduceIte]);try refine ah rfl ?_
    refine hR _ _ ?_
    rw [hsf] at hK
    refine aS (by simp (disch:=omega) only [RA,↓reduceIte,Nat.reduceEqDiff,RD,aG,aO,g4];rfl) (aC.nrm [0] rfl rfl (by simp only [RH,pJ,wO]) (by simp only [aH,RH])) ?_;simp only [aH]
    exact hK
  ·refine hX _ _ ?_
   obtain rfl:i=n:=by omega
   have hsf:sf (dY tb hs) i i p=(q,i):=by rw [←he,Nat.sub_self];rfl
   rw [hsf] at hK
   refine au fun Kr hKr=>?_;simp (disch:=omega) only [RA,↓reduceIte,Nat.reduceEqDiff,Nat.reduceBEq,Nat.reduceSub,Nat.reduceLT,reduceCtorEq,RD,g0,g3,g4,Bz,Jz];refine hKr _ _ ?_;clear hKr Kr;(try simp only [RN,reduceIte]);try refine ah rfl ?_
   refine aS (by simp (disch:=omega) only [RA,↓reduceIte,Nat.reduceEqDiff,RD,aG,aO,g4];rfl) (aC.nrm [0] rfl rfl (by simp only [RH,pJ,wO]) (by simp only [aH,RH])) ?_;simp only [aH]
   exact hK
theorem agy {p:List Nat} {g:Nat} {H:BH} {K:Value→BH→Prop} (hg:blk H g=some (GC n tb hs)) (hl:kD tb hs) (hT:fQ n (dY tb hs)) (hp:PN n p)
  (hK:K (.tuple ⟨[PL (sf (dY tb hs) n n p).1,I (sf (dY tb hs) n n p).2]⟩) (H.set g (some (GC n tb hs)))):aQ false MO [P g 0,PL p] H K:=by
 refine qR hg pJ ?_
 have e:([P g 0,PL p]:List Value).map (ren [g])=[P 0 0,PL p]:=by
  simp [ren,nI,nm]
  intros
  rfl
 rw [e]
 exact agx hl hT hp ⟨NN.tuple (aW.cons (kM wO) (aW.cons .int aW.nil)),HN.cons pJ HN.nil,hK⟩
def jk (hs:List Bool) (i:Nat):Nat→Nat
 |0=>0
 |m+1=>jk hs i m+(if bl hs (16*i+m)=true then 1 else 0)
def jf (hs:List Bool):Nat→Nat
 |0=>1
 |i+1=>jf hs i*jk hs i 16
theorem Wn {i:Nat}: ∀m,jk hs i m≤m
 |0=>Nat.le_refl _
 |m+1=>by
  have:= @Wn i m
  simp only [jk]
  split<;>omega
theorem agz (hT:fQ n (dY tb hs)) {i k:Nat} (hi:i<n) (hk:k<16) (h:bl hs (16*i+k)=true):i≤k∧k<n:=by
 obtain ⟨h1,h2,h3,h4⟩:=hT.ok i k _ hi (Jy (by have:=hT.n16;omega) hk h)
 refine ⟨?_,h1⟩
 rcases Nat.lt_or_ge k i with h5|h5
 ·have h6:=h3 k h5
  have:=h2.perm.inj h1 hi (h6.trans h4.symm)
  omega
 ·exact h5
theorem JA (hT:fQ n (dY tb hs)) {i:Nat} (hi:i<n): ∀m,m≤16→jk hs i m≤n-i∧jk hs i m≤m-i∧(n≤m→jk hs i m=jk hs i n)
 |0,_=>⟨Nat.zero_le _,Nat.zero_le _,fun h=>by omega⟩
 |m+1,hm=>by
  have ih:=JA hT hi m (by omega)
  simp only [jk]
  by_cases h:bl hs (16*i+m)=true
  ·have:=agz hT hi (by omega) h
   rw [if_pos h]
   refine ⟨by omega,by omega,fun hnm=>?_⟩
   obtain rfl:n=m+1:=by omega
   rw [jk,if_pos h]
  ·rw [if_neg h]
   refine ⟨by omega,by omega,fun hnm=>?_⟩
   by_cases e:n=m+1
   ·rw [e,jk,if_neg h]
   ·rw [Nat.add_zero]
    exact ih.2.2 (by omega)
theorem agA (hT:fQ n (dY tb hs)) {i:Nat} (hi:i<n):(vF (dY tb hs) n i).length=jk hs i 16:=by
 have hn:=hT.n16
 rw [(JA hT hi 16 (by omega)).2.2 hn.2]
 unfold vF
 have key: ∀m,m≤16→((List.range m).filterMap (dY tb hs i)).length=jk hs i m:=by
  intro m
  induction m with
  |zero=>intro _;rfl
  |succ m ih=>
   intro hm
   rw [List.range_succ,List.filterMap_append,List.length_append,ih (by omega),jk]
   congr 1
   by_cases h:bl hs (16*i+m)=true
   ·rw [if_pos h]
    simp [Jy (tb:=tb) (show i<16 by omega) (show m<16 by omega) h]
   ·rw [if_neg h]
    simp [Wj (tb:=tb) (i:=i) (k:=m) (by simpa using h)]
 exact key n hn.2
theorem Wp (hT:fQ n (dY tb hs)): ∀d,d≤n→jf hs (n-d)*(jY (dY tb hs) n d).length=jf hs n
 |0,_=>by simp [jY]
 |d+1,hd=>by
  have ih:=Wp hT d (by omega)
  have e:n-d=n-(d+1)+1:=by omega
  rw [afK,agA hT (by omega)]
  rw [e,jf] at ih
  rw [←ih,Nat.mul_comm (jY _ n d).length,Nat.mul_assoc]
theorem agB (hT:fQ n (dY tb hs)):(jY (dY tb hs) n n).length=jf hs n:=by
 have:=Wp hT n (Nat.le_refl _)
 rw [Nat.sub_self,jf,Nat.one_mul] at this
 exact this
def pK:Nat→Nat
 |0=>1
 |k+1=>(k+1)*pK k
theorem Wq: ∀k,1≤pK k
 |0=>Nat.le_refl _
 |k+1=>by
  have:=Wq k
  have:=Nat.mul_le_mul (show 1≤k+1 by omega) this
  simpa [pK] using this
theorem Ws {a:Nat}: ∀d,pK a≤pK (a+d)
 |0=>Nat.le_refl _
 |d+1=>Nat.le_trans (Ws d) (by
  show pK (a+d)≤(a+d+1)*pK (a+d)
  exact Nat.le_mul_of_pos_left _ (by omega))
theorem Wu (hT:fQ n (dY tb hs)): ∀i,i≤n→jf hs i*pK (n-i)≤pK n
 |0,_=>by simp [jf]
 |i+1,hi=>by
  have ih:=Wu hT i (by omega)
  have hc:=(JA hT (show i<n by omega) 16 (Nat.le_refl _)).1
  have e:n-i=n-(i+1)+1:=by omega
  rw [e,pK] at ih
  rw [e] at hc
  refine Nat.le_trans ?_ ih
  rw [jf,Nat.mul_assoc]
  exact Nat.mul_le_mul_left _ (Nat.mul_le_mul_right _ hc)
theorem Wv (hT:fQ n (dY tb hs)) {i:Nat} (hi:i≤n):jf hs i≤20922789888000:=by
 have h1:=Wu hT i hi
 have h2:=Wq (n-i)
 have h3:jf hs i≤jf hs i*pK (n-i):=Nat.le_mul_of_pos_right _ h2
 have h4:=Ws (a:=n) (16-n)
 rw [show n+(16-n)=16 by have:=hT.n16;omega,show pK 16=20922789888000 from rfl] at h4
 omega
theorem agC (hl:kD tb hs) {i o:Nat} (hi:i<16) (ho:o=4097+16*i):aY (some 16) (GC n tb hs) o=some (bJ (((hs.drop (16*i)).take 16).map Value.bool)):=by
 subst ho
 have h1:=hl.t
 have h2:=hl.h
 simp only [aY]
 rw [if_pos (by simp [h1,h2];omega),show 4097+16*i=(tb.map N8).length+16*i+1 by simp [h1];omega,List.drop_succ_cons,List.drop_append,List.drop_of_length_le (by omega),List.nil_append,Nat.add_sub_cancel_left,←List.map_drop,←List.map_take]
theorem agD {i k:Nat} (hl:hs.length=256) (hi:i<16) (hk:k<16):aY none (((hs.drop (16*i)).take 16).map Value.bool) k=some (.bool (bl hs (16*i+k))):=by
 show (((hs.drop (16*i)).take 16).map Value.bool)[k]? =_
 rw [List.getElem?_map,List.getElem?_take,if_pos hk,List.getElem?_drop]
 simp [bl,List.getD,show 16*i+k<hs.length by omega]
theorem agE {cs:List Value} {k:Nat} (hk:k<16):uN 16 1 none (bJ cs) (I k)=aY none cs k:=by
 have h:(0:Int)≤k∧(k:Int)<16:=by omega
 simp [uN,intOf,hk]
 try (intro h';omega)
theorem agF {K:Value→BH→Prop} (hl:kD tb hs) (hT:fQ n (dY tb hs)) (hK:K (I (jf hs n)) [some (GC n tb hs)]):aQ false Md [P 0 0] [some (GC n tb hs)] K:=by
 have hn:=hT.n16
 have hhl:=hl.h
 refine bF aah ?_;simp only [eP,aI]
 refine au fun Kr hKr=>?_;simp (disch:=omega) only [RA,↓reduceIte,Nat.reduceEqDiff,RD];refine hKr _ _ ?_;clear hKr Kr;(try simp only [RN,reduceIte]);try refine ah rfl ?_
 refine au fun Kr hKr=>?_;simp (disch:=omega) only [RA,↓reduceIte,Nat.reduceEqDiff,RD];refine hKr _ _ ?_;clear hKr Kr;(try simp only [RN,reduceIte]);try refine ah rfl ?_
 refine au fun Kr hKr=>?_;simp (disch:=omega) only [RA,↓reduceIte,Nat.reduceEqDiff,RD,Bz];refine hKr _ _ ?_;clear hKr Kr;(try simp only [RN,reduceIte]);try refine ah rfl ?_
 refine bU (fun m f H'=> ∃i:Nat,i≤n∧m=n-i∧f 0=P 0 0∧f 3=I (jf hs i)∧f 11=I n∧f 12=I i∧H'=[some (GC n tb hs)]) (n) ?_ ?_
 ·refine ⟨_,_,Gh.refl,0,by omega,by omega,?_,?_,?_,?_,rfl⟩
  any_goals (simp (disch:=omega) only [RA,↓reduceIte,Nat.reduceEqDiff,RD,RE, *]<;>rfl)
 ·rintro m f H' R ⟨i,hi,rfl,g0,g3,g11,g12,rfl⟩ hN hX hR hE
  simp only [eP.l1,aI]
  refine au fun Kr hKr=>?_;simp (disch:=omega) only [RA,↓reduceIte,Nat.reduceEqDiff,RD,g11,g12];refine hKr _ _ ?_;clear hKr Kr;(try simp only [RN,reduceIte]);try refine ah rfl ?_
  refine aX (p:=i<n) (by simp only [RA,↓reduceIte,Nat.reduceEqDiff]<;>rfl) (by (try simp only [RB])<;>first|done|exact Iff.rfl|omega|simp) (fun hc=>?_) (fun hc=>?_)<;>(try simp only [RN,reduceIte])<;>(try refine ah rfl ?_)
  ·have hil:i<n:=by assumption
   have hgs:=fun o (ho:o=4097+16*i)=>agC (n:=n) hl (i:=i) (by omega) ho
   have hbd:=Wv hT (i:=i+1) (by omega)
   have hup:(jf hs i:Int)*(jk hs i 16:Int)=((jf hs (i+1):Nat):Int):=by
    show _=((jf hs i*jk hs i 16:Nat):Int)
    rw [Int.natCast_mul]
   have hw:IntKind.i64.wrap ((jf hs (i+1):Nat):Int)=((jf hs (i+1):Nat):Int):=tq (by omega) (by omega)
   (first|refine bP rfl ?_|refine bQ rfl ?_);(try simp only [RN,reduceIte]);try refine ah rfl ?_
   refine au fun Kr hKr=>?_;simp (disch:=omega) only [RA,↓reduceIte,Nat.reduceEqDiff,RD,g12];refine hKr _ _ ?_;clear hKr Kr;(try simp only [RN,reduceIte]);try refine ah rfl ?_
   refine au fun Kr hKr=>?_;simp (disch:=omega) only [RA,↓reduceIte,Nat.reduceEqDiff,RD];refine hKr _ _ ?_;clear hKr Kr;(try simp only [RN,reduceIte]);try refine ah rfl ?_
   refine au fun Kr hKr=>?_;simp (disch:=omega) only [RA,↓reduceIte,Nat.reduceEqDiff,RD,g0,hgs];refine hKr _ _ ?_;clear hKr Kr;(try simp only [RN,reduceIte]);try refine ah rfl ?_
   refine bU (fun m f H'=> ∃k:Nat,k≤16∧m=16-k∧f 0=P 0 0∧f 3=I (jf hs i)∧f 5=I (jk hs i k)∧f 11=I n∧f 12=I i∧f 20=bJ (((hs.drop (16*i)).take 16).map Value.bool)∧f 21=I k∧H'=[some (GC n tb hs)]) (16) ?_ ?_
   ·refine ⟨_,_,Gh.refl,0,by omega,by omega,?_,?_,?_,?_,?_,?_,?_,rfl⟩
    any_goals (simp (disch:=omega) only [RA,↓reduceIte,Nat.reduceEqDiff,RD,RE, *]<;>rfl)
   ·clear g0 g3 g11 g12
    rintro m f H' R2 ⟨k,hk,rfl,g0,g3,g5,g11,g12,g20,g21,rfl⟩ gB hX2 hR2 hE2
    simp only [eP.l0,aI]
    have hck:= @Wn hs i k
    refine au fun Kr hKr=>?_;simp (disch:=omega) only [RA,↓reduceIte,Nat.reduceEqDiff,RD,g21];refine hKr _ _ ?_;clear hKr Kr;(try simp only [RN,reduceIte]);try refine ah rfl ?_
    refine aX (p:=k<16) (by simp only [RA,↓reduceIte,Nat.reduceEqDiff]<;>rfl) (by (try simp only [RB])<;>first|done|exact Iff.rfl|omega|simp) (fun hc=>?_) (fun hc=>?_)<;>(try simp only [RN,reduceIte])<;>(try refine ah rfl ?_)
    ·have hbk:=agD (i:=i) hhl (show i<16 by omega) hc
     have hnx: ∀f',f' 0=P 0 0→f' 3=I (jf hs i)→f' 5=I (jk hs i (k+1))→f' 11=I n→f' 12=I i→f' 20=bJ (((hs.drop (16*i)).take 16).map Value.bool)→f' 21=I k→T 1 eP.r11 R2 f' [some (GC n tb hs)]:=by
      clear g0 g3 g5 g11 g12 g20 g21
      intro f' g0 g3 g5 g11 g12 g20 g21
      refine bH fun Kr hKr=>?_;simp (disch:=omega) only [RA,↓reduceIte,Nat.reduceEqDiff,RD,g21];refine hKr _ _ ?_;clear hKr Kr
      refine gB (16-(k+1)) _ _ _ _ (by omega) Gh.refl ⟨k+1,by omega,rfl,?_,?_,?_,?_,?_,?_,?_,rfl⟩
      any_goals (simp (disch:=omega) only [RA,↓reduceIte,Nat.reduceEqDiff,RD,RE, *]<;>rfl)
     (first|refine bP rfl ?_|refine bQ rfl ?_);(try simp only [RN,reduceIte]);try refine ah rfl ?_
     refine au fun Kr hKr=>?_;simp (disch:=omega) only [RA,↓reduceIte,Nat.reduceEqDiff,RD,g20,g21,agE,hbk];refine hKr _ _ ?_;clear hKr Kr;(try simp only [RN,reduceIte]);try refine ah rfl ?_
     refine au fun Kr hKr=>?_;simp (disch:=omega) only [RA,↓reduceIte,Nat.reduceEqDiff,RD];refine hKr _ _ ?_;clear hKr Kr;(try simp only [RN,reduceIte]);try refine ah rfl ?_
     cases hb:bl hs (16*i+k) with
     |true=>
      have hcs:jk hs i (k+1)=jk hs i k+1:=by rw [jk,if_pos hb]
      refine dG (t:=true) (by simp (disch:=omega) only [RA,↓reduceIte,Nat.reduceEqDiff,RD,hb]) ?_;(try simp only [RN,reduceIte]);try refine ah rfl ?_
      refine au fun Kr hKr=>?_;simp (disch:=omega) only [RA,↓reduceIte,Nat.reduceEqDiff,RD,g5];refine hKr _ _ ?_;clear hKr Kr;(try simp only [RN,reduceIte]);try refine ah rfl ?_
      rw [hcs] at hnx
      refine hnx _ ?_ ?_ ?_ ?_ ?_ ?_ ?_
      any_goals (simp (disch:=omega) only [RA,↓reduceIte,Nat.reduceEqDiff,RD,RE, *]<;>rfl)
     |false=>
      have hcs:jk hs i (k+1)=jk hs i k:=by rw [jk,if_neg (by simp [hb]),Nat.add_zero]
      refine dG (t:=false) (by simp (disch:=omega) only [RA,↓reduceIte,Nat.reduceEqDiff,RD,hb]) ?_;(try simp only [RN,reduceIte]);try refine ah rfl ?_
      rw [hcs] at hnx
      refine hnx _ ?_ ?_ ?_ ?_ ?_ ?_ ?_
      any_goals (simp (disch:=omega) only [RA,↓reduceIte,Nat.reduceEqDiff,RD,RE, *]<;>rfl)
    ·refine hX2 _ _ ?_
     (try simp only [RN,reduceIte]);try refine ah rfl ?_
     obtain rfl:k=16:=by omega
     refine au fun Kr hKr=>?_;simp (disch:=omega) only [RA,↓reduceIte,Nat.reduceEqDiff,RD,g3,g5,hup,hw];refine hKr _ _ ?_;clear hKr Kr;(try simp only [RN,reduceIte]);try refine ah rfl ?_
     refine bH fun Kr hKr=>?_;simp (disch:=omega) only [RA,↓reduceIte,Nat.reduceEqDiff,RD,g12];refine hKr _ _ ?_;clear hKr Kr
     refine hN (n-(i+1)) _ _ _ _ (by omega) Gh.refl ⟨i+1,by omega,rfl,?_,?_,?_,?_,rfl⟩
     any_goals (simp (disch:=omega) only [RA,↓reduceIte,Nat.reduceEqDiff,RD,RE, *]<;>rfl)
  ·refine hX _ _ ?_
   obtain rfl:i=n:=by omega
   refine au fun Kr hKr=>?_;simp (disch:=omega) only [RA,↓reduceIte,Nat.reduceEqDiff,RD,g3];refine hKr _ _ ?_;clear hKr Kr;(try simp only [RN,reduceIte]);try refine ah rfl ?_
   refine aS (by simp (disch:=omega) only [RA,↓reduceIte,Nat.reduceEqDiff,RD,aG,aO];rfl) aC.refl ?_;simp only [aH]
   exact hK
end
end Go.Bm
namespace Go.Bm
open Go Go.Am
def nM (T:Tab) (i k:Nat) (t:List Nat):Tab:=fun i' k'=>if i'=i∧k'=k then some t else T i' k'
def T0 (n m:Nat):Tab:=fun i k=>if i=k∧i<m then some (dQ n) else none
section
variable {n:Nat} {T:Tab} {b w p r:List Nat} {els td:List (List Nat)}
theorem agG (hn:1≤n∧n≤16):fQ n (T0 n n):=by
 refine ⟨hn,fun i hi=>if_pos ⟨rfl,hi⟩,fun i k t hi ht=>?_⟩
 simp only [T0] at ht
 split at ht
 ·rename_i h
  obtain ⟨rfl,_⟩:=h
  obtain rfl:=Option.some.inj ht
  exact ⟨hi, .one hn,Fix.one hn.2 (by omega),pz hn.2 hi⟩
 ·cases ht
theorem Wx {i k:Nat} (hT:T i k=none): ∀i' k' t,T i' k'=some t→nM T i k r i' k'=some t:=fun i' k' t h=>by
 simp only [nM]
 rw [if_neg]
 ·exact h
 ·rintro ⟨rfl,rfl⟩
  rw [hT] at h;cases h
theorem fQ.ins (h:fQ n T) {i:Nat} (hi:i<n) (hr:PN n r) (hf:Fix i r) (hT:T i (nl r i)=none):fQ n (nM T i (nl r i) r):=by
 refine ⟨h.n16,fun j hj=>Wx hT _ _ _ (h.id j hj),fun j k t hj ht=>?_⟩
 simp only [nM] at ht
 split at ht
 ·rename_i e
  obtain ⟨rfl,rfl⟩:=e
  obtain rfl:=Option.some.inj ht
  exact ⟨hr.perm.lt hi,hr,hf,rfl⟩
 ·exact h.ok j k t hj ht
theorem JB (hg: ∀i k t,i<n→T i k=some t→Gen n b w t): ∀d p,d≤n→Gen n b w p→Gen n b w (sf T n d p).1
 |0,p,_,hp=>hp
 |d+1,p,hd,hp=>by
  simp only [sf]
  cases ht:T (n-(d+1)) (nl p (n-(d+1))) with
  |none=>exact hp
  |some t=>exact JB hg d _ (by omega) (.mul hp (.inv (hg _ _ _ (by omega) ht)))
structure lu (n:Nat) (b w:List Nat) (T:Tab) (els td:List (List Nat)):Prop where
 ok:fQ n T
 gT: ∀i k t,i<n→T i k=some t→Gen n b w t
 yH: ∀p∈td,Gen n b w p
 Fh: ∀p∈els,Gen n b w p
 ent: ∀i k t,i<n→T i k=some t→t=dQ n∨t∈els
 hb:b∈td∨cO T n n b
 hw:w∈td∨cO T n n w
 prod: ∀x∈els,∀y∈els,bG x y n∈td∨cO T n n (bG x y n)
theorem lu.start (hn:1≤n∧n≤16):lu n b w (T0 n n) [] [b,w]:=by
 have he: ∀i k t,T0 n n i k=some t→t=dQ n:=fun i k t h=>by
  simp only [T0] at h
  split at h
  ·exact (Option.some.inj h).symm
  ·cases h
 exact ⟨agG hn,fun i k t _ h=>he i k t h▸ .one,by simpa using ⟨Gen.b,Gen.w⟩,by simp,fun i k t _ h=> .inl (he i k t h),by simp,by simp,by simp⟩
theorem Fj {x:List Nat} {P Q:Prop} (h:x∈td++[p]∨P) (h1:x∈td→Q) (h2:x=p→Q) (h3:P→Q):Q:=by
 rcases h with h|h
 ·rcases List.mem_append.1 h with h|h
  ·exact h1 h
  ·exact h2 (List.mem_singleton.1 h)
 ·exact h3 h
theorem Fix.zero:Fix 0 p:=fun _ h=>absurd h (Nat.not_lt_zero _)
theorem lu.lp (hb:PN n b) (hw:PN n w) (h:lu n b w T els (td++[p])):PN n p:=(h.yH p (by simp)).pn hb hw
theorem lu.skip (hb:PN n b) (hw:PN n w) (h:lu n b w T els (td++[p])) (hs:(sf T n n p).2=n):lu n b w T els td:=by
 have hp:cO T n n p:=by
  rcases Jo h.ok n p (Nat.le_refl _) (h.lp hb hw) (by rw [Nat.sub_self];exact .zero) with ⟨_,a⟩|⟨a,_⟩
  ·exact a
  ·omega
 exact ⟨h.ok,h.gT,fun q hq=>h.yH q (by simp [hq]),h.Fh,h.ent,Fj h.hb .inl (fun e=> .inr (e▸hp)) .inr,Fj h.hw .inl (fun e=> .inr (e▸hp)) .inr,
  fun x hx y hy=>Fj (h.prod x hx y hy) .inl (fun e=> .inr (e▸hp)) .inr⟩
def prods (n:Nat) (r:List Nat) (L:List (List Nat)):List (List Nat):=L.flatMap fun q=>[bG r q n,bG q r n]
theorem lu.add (hb:PN n b) (hw:PN n w) (h:lu n b w T els (td++[p])) (hs:(sf T n n p).2≠n):
  (sf T n n p).2<n∧PN n (sf T n n p).1∧T (sf T n n p).2 (nl (sf T n n p).1 (sf T n n p).2)=none∧fQ n (nM T (sf T n n p).2 (nl (sf T n n p).1 (sf T n n p).2) (sf T n n p).1)∧
  lu n b w (nM T (sf T n n p).2 (nl (sf T n n p).1 (sf T n n p).2) (sf T n n p).1) (els++[(sf T n n p).1]) (td++prods n (sf T n n p).1 (els++[(sf T n n p).1])):=by
 have hpn:=h.lp hb hw
 have hgr:=JB h.gT n p (Nat.le_refl _) (h.yH p (by simp))
 rcases Jo h.ok n p (Nat.le_refl _) hpn (by rw [Nat.sub_self];exact .zero) with ⟨a,_⟩|⟨a1,a2,a3,a4,a5,a6⟩
 ·exact absurd a hs
 generalize hi:(sf T n n p).2=i at*
 generalize hr:(sf T n n p).1=r at*
 have hok:=h.ok.ins a1 a3 a4 a5
 have hold:=Wx (r:=r) a5
 have hp:=a6 _ hok hold (if_pos ⟨rfl,rfl⟩)
 have hmono: ∀s,cO T n n s→cO (nM T i (nl r i) r) n n s:=fun s=>cO.mono hold
 have hcase: ∀x,(x∈td++[p]∨cO T n n x)→x∈td++prods n r (els++[r])∨cO (nM T i (nl r i) r) n n x:=fun x hx=>
  Fj hx (fun h=> .inl (List.mem_append_left _ h)) (fun e=> .inr (e▸hp)) fun h=> .inr (hmono x h)
 have hent: ∀j k t,j<n→nM T i (nl r i) r j k=some t→t=dQ n∨t∈els++[r]:=fun j k t hj ht=>by
  simp only [nM] at ht
  split at ht
  ·exact .inr (by simp [←Option.some.inj ht])
  ·rcases h.ent j k t hj ht with e|e
   ·exact .inl e
   ·exact .inr (by simp [e])
 have JC: ∀q∈els++[r],Gen n b w q:=fun q hq=>by
  rcases List.mem_append.1 hq with hq|hq
  ·exact h.Fh q hq
  ·exact List.mem_singleton.1 hq▸hgr
 refine ⟨a1,a3,a5,hok,hok,fun j k t hj ht=>?_,fun q hq=>?_,JC,hent,hcase _ h.hb,hcase _ h.hw,fun x hx y hy=>?_⟩
 ·rcases hent j k t hj ht with e|e
  ·exact e▸ .one
  ·exact JC t e
 ·rcases List.mem_append.1 hq with hq|hq
  ·exact h.yH q (by simp [hq])
  ·obtain ⟨x,hx,hx2⟩:=List.mem_flatMap.1 hq
   have:=JC x hx
   rcases List.mem_cons.1 hx2 with rfl|hx2
   ·exact .mul hgr this
   ·exact List.mem_singleton.1 hx2▸ .mul this hgr
 ·have hpr: ∀q∈els++[r],bG r q n∈prods n r (els++[r])∧bG q r n∈prods n r (els++[r]):=fun q hq=>
   ⟨List.mem_flatMap.2 ⟨q,hq,by simp⟩,List.mem_flatMap.2 ⟨q,hq,by simp⟩⟩
  rcases List.mem_append.1 hx with hx'|hx'
  ·rcases List.mem_append.1 hy with hy'|hy'
   ·exact hcase _ (h.prod x hx' y hy')
   ·rw [List.mem_singleton.1 hy']
    exact .inl (List.mem_append_right _ (hpr x hx).2)
  ·rw [List.mem_singleton.1 hx']
   exact .inl (List.mem_append_right _ (hpr y hy).1)
theorem lu.fin (h:lu n b w T els []):lq n b w (jY T n n).length:=by
 have hb:cO T n n b:=h.hb.resolve_left (by simp)
 have hw:cO T n n w:=h.hw.resolve_left (by simp)
 refine afL h.ok (fun i k t i' k' t' hi hi' ht ht'=>?_) hb hw h.gT
 have e1:=(cO.entry h.ok hi ht).all h.ok (by omega)
 have e2:=(cO.entry h.ok hi' ht').all h.ok (by omega)
 rcases h.ent i k t hi ht with rfl|a
 ·rw [one_mul (e2.pn h.ok).1];exact e2
 rcases h.ent i' k' t' hi' ht' with rfl|c
 ·rw [mul_one (e1.pn h.ok).1];exact e1
 exact (h.prod t a t' c).resolve_left (by simp)
end
section
variable {n:Nat} {tb:List Nat} {hs:List Bool}
def qA (tb:List Nat) (i k:Nat) (p:List Nat):List Nat:=tb.take (256*i+16*k)++p++tb.drop (256*i+16*k+16)
theorem Fq {i k:Nat} {p:List Nat} (hi:i<16) (hk:k<16) (hp:p.length=16) (hl:tb.length=4096):(qA tb i k p).length=4096:=by
 simp [qA];omega
theorem agH {i k i' k':Nat} {p:List Nat} (hi:i<16) (hk:k<16) (hp:p.length=16) (hl:tb.length=4096) (hi':i'<16) (hk':k'<16):
  wM (qA tb i k p) i' k'=if i'=i∧k'=k then p else wM tb i' k':=by
 have hpl:=Fq hi hk hp hl
 refine List.ext_getElem? fun j=>?_
 simp only [wM,List.getElem?_take,List.getElem?_drop]
 by_cases hj:j<16
 ·rw [if_pos hj]
  simp only [qA]
  by_cases h1:256*i'+16*k'+j<256*i+16*k
  ·rw [List.append_assoc,List.getElem?_append_left (by simp;omega),List.getElem?_take,if_pos h1,if_neg (by omega),List.getElem?_take,if_pos hj,List.getElem?_drop]
  ·by_cases h2:256*i'+16*k'+j<256*i+16*k+16
   ·have e:i'=i∧k'=k:=by omega
    obtain ⟨rfl,rfl⟩:=e
    rw [List.append_assoc,List.getElem?_append_right (by simp;omega),List.getElem?_append_left (by simp;omega),if_pos ⟨rfl,rfl⟩]
    congr 1
    simp;omega
   ·rw [List.getElem?_append_right (by simp;omega),List.getElem?_drop,if_neg (by omega),List.getElem?_take,if_pos hj,List.getElem?_drop]
    congr 1
    simp;omega
 ·rw [if_neg hj]
  split
  ·rw [List.getElem?_eq_none (by omega)]
  ·rw [List.getElem?_take,if_neg hj]
theorem Wy {i k:Nat} {p:List Nat} (hl:kD tb hs) (hi:i<16) (hk:k<16) (hp:p.length=16):dY (qA tb i k p) (hs.set (16*i+k) true)=nM (dY tb hs) i k p:=by
 have h1:=hl.t
 have h2:=hl.h
 funext i' k'
 simp only [dY,nM]
 by_cases h:i'<16∧k'<16
 ·rw [agH hi hk hp h1 h.1 h.2,jh]
  by_cases e:i'=i∧k'=k
  ·obtain ⟨rfl,rfl⟩:=e
   simp [h,h2,show 16*i'+k'<256 by omega]
  ·rw [if_neg e,if_neg e,if_neg (show¬(16*i'+k'=16*i+k∧16*i+k<hs.length) by omega)]
 ·rw [if_neg (by omega),if_neg (by omega),if_neg (by omega)]
theorem kD.put {i k:Nat} {p:List Nat} (hl:kD tb hs) (hi:i<16) (hk:k<16) (hp:p.length=16):kD (qA tb i k p) (hs.set (16*i+k) true):=
 ⟨Fq hi hk hp hl.t,by simp [hl.h]⟩
def lC:List Bool→Nat
 |[]=>0
 |x::l=>(if x=true then 1 else 0)+lC l
theorem JD: ∀{l:List Bool},lC l≤l.length
 |[]=>Nat.le_refl _
 |x::l=>by
  have:= @JD l
  simp only [lC,List.length_cons]
  split<;>omega
theorem JE: ∀{l:List Bool} {j:Nat},j<l.length→bl l j=false→lC (l.set j true)=lC l+1
 |[],_,h,_=>absurd h (by simp)
 |x::l,0,_,h=>by
  obtain rfl:x=false:=h
  simp [lC];omega
 |x::l,j+1,h,h2=>by
  have:= @JE l j (by simpa using h) h2
  simp only [List.set_cons_succ,lC,this]
  omega
theorem WA {i k:Nat} (hi:i<16) (hk:k<16) (h:dY tb hs i k=none):bl hs (16*i+k)=false:=by
 simp only [dY] at h
 split at h
 ·cases h
 ·rename_i h'
  cases e:bl hs (16*i+k) with
  |false=>rfl
  |true=>exact absurd ⟨hi,hk,e⟩ h'
theorem WB {H:BH} {b i k o:Nat} {p:List Nat} (hl:kD tb hs) (hi:i<16) (hk:k<16) (hp:p.length=16) (ho:o=1+(256*i+16*k)):
  dP (some (GC n tb hs)) H b o 16 (PL p)=some (undef,H.set b (some (GC n (qA tb i k p) hs))):=by
 subst ho
 have h1:=hl.t
 have h2:=hl.h
 rw [Ey hp (by simp [h1,h2];omega)]
 congr 3
 simp only [splice,GC,qA]
 rw [show 1+(256*i+16*k)=256*i+16*k+1 by omega,List.take_succ_cons,List.length_map,hp]
 rw [show 256*i+16*k+1+16=256*i+16*k+16+1 by omega,List.drop_succ_cons,List.take_append_of_le_length (by simp;omega),List.drop_append_of_le_length (by simp;omega)]
 simp [List.map_take,List.map_drop]
theorem WE {H:BH} {b i k o:Nat} {t:Bool} (hl:kD tb hs) (hi:i<16) (hk:k<16) (ho:o=4097+(16*i+k)):
  dP (some (GC n tb hs)) H b o 1 (.bool t)=some (undef,H.set b (some (GC n tb (hs.set (16*i+k) t)))):=by
 subst ho
 have h1:=hl.t
 have h2:=hl.h
 rw [QM (by simp [h1,h2];omega)]
 congr 3
 simp only [splice,GC,List.length_singleton]
 rw [show 4097+(16*i+k)=(tb.map N8).length+(16*i+k)+1 by simp [h1];omega,List.take_succ_cons,show∀a b:Nat,a+b+1+1=(a+(b+1))+1 by intros;omega,List.drop_succ_cons,List.take_append,List.drop_append,
  List.take_of_length_le (by omega),List.drop_of_length_le (by omega),List.nil_append,Nat.add_sub_cancel_left,Nat.add_sub_cancel_left]
 rw [List.set_eq_take_append_cons_drop,if_pos (by omega)]
 simp [List.map_take,List.map_drop]
end
end Go.Bm
namespace Go.Bm
open Go Go.Am
theorem agI {x:Bool} {n:Int} {H:BH} {K:Value→BH→Prop} (hn:n≤16) (hK:K (PL (dQ n.toNat)) H):aQ x Zk [I n] H K:=by
 have hz:=ji
 refine dR (by simp only [RH]) ?_
 refine bF aaR ?_;simp only [jA,aI]
 refine au fun Kr hKr=>?_;simp (disch:=omega) only [RA,↓reduceIte,Nat.reduceEqDiff,RD];refine hKr _ _ ?_;clear hKr Kr;(try simp only [RN,reduceIte]);try refine ah rfl ?_
 refine au fun Kr hKr=>?_;simp (disch:=omega) only [RA,↓reduceIte,Nat.reduceEqDiff,RD];refine hKr _ _ ?_;clear hKr Kr;(try simp only [RN,reduceIte]);try refine ah rfl ?_
 refine au fun Kr hKr=>?_;simp (disch:=omega) only [RA,↓reduceIte,Nat.reduceEqDiff,RD];refine hKr _ _ ?_;clear hKr Kr;(try simp only [RN,reduceIte]);try refine ah rfl ?_
 refine bU (fun m f H'=> ∃k:Nat,k≤n.toNat∧m=n.toNat-k∧f 6=I n∧f 2=P 0 0∧f 3=P 1 0∧f 7=I k∧H'=[some (List.replicate 16 (.int .u8 0)),some ((dQ k).map N8)]) (n.toNat) ?_ ?_
 ·refine ⟨_,_,Gh.refl,0,by omega,by omega,?_,?_,?_,?_,rfl⟩
  any_goals (simp (disch:=omega) only [RA,↓reduceIte,Nat.reduceEqDiff,RD,RE, *]<;>rfl)
 ·rintro m f H' R ⟨k,hk,rfl,g0,g2,g3,g4,rfl⟩ hN hX hR hE
  simp only [jA.l0,aI]
  have hlk:= @mG k
  refine au fun Kr hKr=>?_;simp (disch:=omega) only [RA,↓reduceIte,Nat.reduceEqDiff,RD,g0,g4];refine hKr _ _ ?_;clear hKr Kr;(try simp only [RN,reduceIte]);try refine ah rfl ?_
  refine aX (p:=(k:Int)<n) (by simp only [RA,↓reduceIte,Nat.reduceEqDiff]<;>rfl) (by (try simp only [RB])<;>first|done|exact Iff.rfl|omega|simp) (fun hc=>?_) (fun hc=>?_)<;>(try simp only [RN,reduceIte])<;>(try refine ah rfl ?_)
  ·have sJ:k<16:=by omega
   (first|refine bP rfl ?_|refine bQ rfl ?_);(try simp only [RN,reduceIte]);try refine ah rfl ?_
   refine au fun Kr hKr=>?_;simp (disch:=omega) only [RA,↓reduceIte,Nat.reduceEqDiff,RD,g4];refine hKr _ _ ?_;clear hKr Kr;(try simp only [RN,reduceIte]);try refine ah rfl ?_
   refine au fun Kr hKr=>?_;simp (disch:=omega) only [RA,↓reduceIte,Nat.reduceEqDiff,RD,g3,g4,hlk];refine hKr _ _ ?_;clear hKr Kr;(try simp only [RN,reduceIte]);try refine ah rfl ?_
   refine bH fun Kr hKr=>?_;simp (disch:=omega) only [RA,↓reduceIte,Nat.reduceEqDiff,RD,g4];refine hKr _ _ ?_;clear hKr Kr
   refine hN (n.toNat-(k+1)) _ _ _ _ (by omega) Gh.refl ⟨k+1,by omega,rfl,?_,?_,?_,?_,rfl⟩
   any_goals (simp (disch:=omega) only [RA,↓reduceIte,Nat.reduceEqDiff,RD,RE, *]<;>rfl)
  ·refine hX _ _ ?_
   obtain rfl:k=n.toNat:=by omega
   refine au fun Kr hKr=>?_;simp (disch:=omega) only [RA,↓reduceIte,Nat.reduceEqDiff,RD,g2,g3,hlk];refine hKr _ _ ?_;clear hKr Kr;(try simp only [RN,reduceIte]);try refine ah rfl ?_
   refine aS (by simp (disch:=omega) only [RA,↓reduceIte,Nat.reduceEqDiff,RD,aG,aO,g2,hlk];rfl) aC.refl ?_;simp only [aH]
   exact ⟨kM (by (simp only [RH])),hK⟩
def WC (ps:List (List Nat)):List Value:=ps.flatMap fun p=>p.map N8
abbrev jU (ps:List (List Nat)):Prop:= ∀p∈ps,p.length=16
theorem agJ {ps qs:List (List Nat)}:WC (ps++qs)=WC ps++WC qs:=List.flatMap_append
theorem BD: ∀{ps:List (List Nat)},jU ps→(WC ps).length=ps.length*16
 |[],_=>rfl
 |p::ps,h=>by
  have:=BD (ps:=ps) fun q hq=>h q (by simp [hq])
  have h0:=h p (by simp)
  simp only [WC,List.flatMap_cons,List.length_append,List.length_map,List.length_cons] at this⊢
  omega
theorem WG: ∀{ps:List (List Nat)} {i:Nat} {ju:List Value},jU ps→i<ps.length→((WC ps++ju).drop (i*16)).take 16=(ps.getD i []).map N8
 |[],_,_,_,h=>absurd h (by simp)
 |p::ps,0,ju,h,_=>by
  have h0:=h p (by simp)
  simp only [WC,List.flatMap_cons,Nat.zero_mul,List.drop_zero,List.append_assoc]
  rw [List.take_append_of_le_length (by simp [h0]),List.take_of_length_le (by simp [h0])]
  rfl
 |p::ps,i+1,ju,h,hi=>by
  have h0:=h p (by simp)
  have ih:=WG (ju:=ju) (ps:=ps) (i:=i) (fun q hq=>h q (by simp [hq])) (by simpa using hi)
  have e:WC (p::ps)++ju=p.map N8++(WC ps++ju):=by simp [WC]
  rw [e,List.drop_append,List.drop_of_length_le (by simp [h0];omega),List.nil_append,List.length_map,h0,show (i+1)*16-16=i*16 by omega,ih]
  rfl
theorem WH {ps:List (List Nat)} {i o:Nat} {ju:List Value} (h:jU ps) (hi:i<ps.length) (ho:o=i*16):aY (some 16) (WC ps++ju) o=some (PL (ps.getD i [])):=by
 subst ho
 have hl:=BD h
 simp only [aY]
 rw [if_pos (by simp;omega),WG h hi]
theorem yI {ps:List (List Nat)}:aW (WC ps):=fun x hx=>by
 obtain ⟨p,_,hp⟩:=List.mem_flatMap.1 hx
 obtain ⟨k,_,rfl⟩:=List.mem_map.1 hp
 exact .int
theorem WI {ps:List (List Nat)}:(WC ps).all iE=true:=List.all_eq_true.2 fun x hx=>by
 obtain ⟨p,_,hp⟩:=List.mem_flatMap.1 hx
 obtain ⟨k,_,rfl⟩:=List.mem_map.1 hp
 rfl
def BF (y c:Option (List Value)) (H:BH) (b l m cn:Nat):Option (Value×BH):=
 match y,c with
 |some ys,some cs=>if ys.length=m*16∧m≠0∧l*16≤cs.length∧(l+m)*16≤140737488355328∧ys.all iE=true then some (S H.length 0 (l+m) 16,(H.set b none)++[some (cs.take (l*16)++ys)]) else kH 16 16 (S b 0 l 16) (S cn 0 m 16) H
 | _,_=>kH 16 16 (S b 0 l 16) (S cn 0 m 16) H
theorem WJ {H:BH} {b c l m:Nat}:kH 16 16 (S b 0 l 16) (S c 0 m 16) H=BF (blk H c) (blk H b) H b l m c:=by
 unfold BF
 split
 ·rename_i ys cs hc hb
  split
  ·rename_i h
   obtain ⟨h1,h2,h3,h4,h5⟩:=h
   have e:(List.drop 0 ys).take (m*16)=ys:=by rw [List.drop_zero,List.take_of_length_le (by omega)]
   simp only [kH,newC,hb,hc,if_neg h2,if_true,Nat.zero_add]
   rw [if_pos (by omega)]
   simp only [e]
   rw [if_pos ⟨h3,h4,h5⟩]
  ·rfl
 ·rfl
theorem WL {H:BH} {b l m cn:Nat} {ps qs:List (List Nat)} {ju:List Value} (hp:jU ps) (hq:jU qs) (h0:qs≠[]) (hl:l=ps.length) (hm:m=qs.length) (h:(ps.length+qs.length)*16≤140737488355328):
  BF (some (WC qs)) (some (WC ps++ju)) H b l m cn=some (S H.length 0 (ps.length+qs.length) 16,(H.set b none)++[some (WC (ps++qs))]):=by
 subst hl hm
 have h1:=BD hp
 simp only [BF]
 rw [if_pos ⟨BD hq,by simpa using h0,by simp;omega,h,WI⟩,←h1,List.take_left,agJ]
theorem WM {m n:Nat} {v:Value}:dA (List.replicate m v) n=List.replicate (n*m) v:=by simp [dA]
theorem agK {p:List Nat} (hp:p.length=16):bK (dA (List.replicate 16 (.int .u8 0)) 1) [(0,16,PL p)]=some (WC [p]):=by
 rw [WM]
 rw [Et ⟨by simp [dL,hp],by simp⟩]
 have:splice (List.replicate (1*16) (Value.int .u8 0)) 0 (dL (PL p))=p.map N8:=uO (by simp [dL,hp])
 rw [this,xI]
 simp [WC]
theorem WO {p q:List Nat} (hp:p.length=16) (hq:q.length=16):bK (dA (List.replicate 16 (.int .u8 0)) 2) [(0,16,PL p),(16,16,PL q)]=some (WC [p,q]):=by
 rw [WM,Et ⟨by simp [dL,hp],by simp⟩,Et ⟨by simp [dL,hq],by simp [splice,dL,hp]⟩,xI]
 congr 1
 simp only [splice,dL,List.take_zero,List.nil_append,List.length_map,hp,hq,WC,List.flatMap_cons,List.flatMap_nil,List.append_nil]
 rw [List.take_append_of_le_length (by simp [hp]),List.take_of_length_le (by simp [hp]),List.drop_of_length_le (by simp [hp]),List.append_nil]
theorem agL {x:Bool} {b w:List Nat} {H:BH} {K:Value→BH→Prop} (hb:b.length=16) (hw:w.length=16) (hK:K (S H.length 0 2 16) (H++[some (WC [b,w])])):
  aQ x Zl [Fz 2 16 (WC [b,w])] H K:=by
 refine aey (.cons .fz .nil) yI ?_ hK
 have hap:kH 16 16 (S 0 0 0 16) (Fz 2 16 (WC [b,w])) [some []]=some (S 1 0 2 16,[none,some (WC [b,w])]):=by
  simp [kH,newC,Fz,WI]
  rfl
 have vH:dA (List.replicate 16 (Value.int .u8 0)) 0=[]:=rfl
 refine bF aaS ?_;simp only [oK,aI]
 refine au fun Kr hKr=>?_;simp (disch:=omega) only [RA,↓reduceIte,Nat.reduceEqDiff,RD];refine hKr _ _ ?_;clear hKr Kr;(try simp only [RN,reduceIte]);try refine ah rfl ?_
 refine au fun Kr hKr=>?_;simp (disch:=omega) only [RA,↓reduceIte,Nat.reduceEqDiff,Nat.reduceBEq,Nat.reduceSub,Nat.reduceAdd,Nat.reduceMul,Nat.reduceLT,Nat.reduceLeDiff,Int.reduceLE,Int.reduceLT,Int.reduceEq,Int.reduceNeg,Int.reduceToNat,Int.reduceMul,Int.reduceAdd,Int.reduceSub,Int.reduceBEq,Int.reduceBNe,reduceCtorEq,RD,aef (show 0<2 by omega)];refine hKr _ _ ?_;clear hKr Kr;(try simp only [RN,reduceIte]);try refine ah rfl ?_
 refine dG (t:=false) (by simp (disch:=omega) only [RA,↓reduceIte,Nat.reduceEqDiff,Nat.reduceBEq,Nat.reduceSub,Nat.reduceAdd,Nat.reduceMul,Nat.reduceLT,Nat.reduceLeDiff,Int.reduceLE,Int.reduceLT,Int.reduceEq,Int.reduceNeg,Int.reduceToNat,Int.reduceMul,Int.reduceAdd,Int.reduceSub,Int.reduceBEq,Int.reduceBNe,reduceCtorEq,RD]) ?_;(try simp only [RN,reduceIte]);try refine ah rfl ?_
 refine au fun Kr hKr=>?_;simp (disch:=omega) only [RA,↓reduceIte,Nat.reduceEqDiff,Nat.reduceBEq,Nat.reduceSub,Nat.reduceAdd,Nat.reduceMul,Nat.reduceLT,Nat.reduceLeDiff,Int.reduceLE,Int.reduceLT,Int.reduceEq,Int.reduceNeg,Int.reduceToNat,Int.reduceMul,Int.reduceAdd,Int.reduceSub,Int.reduceBEq,Int.reduceBNe,reduceCtorEq,RD,vH,xI,hap];refine hKr _ _ ?_;clear hKr Kr;(try simp only [RN,reduceIte]);try refine ah rfl ?_
 refine aS (by simp (disch:=omega) only [RA,↓reduceIte,Nat.reduceEqDiff,RD,aG,aO];rfl) aC.refl ?_;simp only [aH]
 exact ⟨1,rfl,rfl⟩
end Go.Bm
namespace Go.Bm
open Go Go.Am
theorem agM {n i:Nat} (hi:i<n):nM (T0 n i) i i (dQ n)=T0 n (i+1):=by
 funext j k
 simp only [nM,T0]
 by_cases h:j=i∧k=i
 ·obtain ⟨rfl,rfl⟩:=h
  rw [if_pos ⟨rfl,rfl⟩,if_pos ⟨rfl,by omega⟩]
 ·rw [if_neg h]
  by_cases h2:j=k∧j<i
  ·rw [if_pos h2,if_pos ⟨h2.1,by omega⟩]
  ·rw [if_neg h2,if_neg (by omega)]
theorem agN {n:Nat} {tb:List Nat}:dY tb (List.replicate 256 false)=T0 n 0:=by
 funext j k
 simp only [dY,T0]
 have e: ∀m,bl (List.replicate 256 false) m=false:=fun m=>by
  simp only [bl,List.getD,List.getElem?_replicate]
  split<;>rfl
 rw [if_neg (c:=j=k∧j<0) (by omega),if_neg]
 rintro ⟨h1,h2,h⟩
 rw [e] at h;cases h
theorem WQ: ∀k,lC (List.replicate k false)=0
 |0=>rfl
 |k+1=>by rw [List.replicate_succ,lC,WQ k];rfl
def Z4:List Nat:=List.replicate 4096 0
def F2:List Bool:=List.replicate 256 false
theorem agO:kD Z4 F2:=⟨List.length_replicate,List.length_replicate⟩
abbrev JF:List Value:=List.replicate 4096 (.int .u8 0)++List.replicate 256 (.bool false)
theorem agP:JF=Z4.map N8++F2.map Value.bool:=by
 simp only [Z4,F2,List.map_replicate]
 rfl
theorem agQ {n:Nat}:bK (.int .i64 0::JF) [(0,1,I n)]=some (GC n Z4 F2):=by
 rw [agP]
 simp only [bK]
 rw [if_pos ⟨rfl,by simp only [List.length_cons];omega⟩]
 rfl
theorem agR:JF.all Am.plain=true:=by
 rw [List.all_append,Ip,Io]
 rfl
theorem agS {n:Nat} {tb:List Nat} {hs:List Bool} {H:BH}:qL (bJ (GC n tb hs)) H=some (P H.length 0,H++[some (GC n tb hs)]):=rfl
theorem jU.app {ps qs:List (List Nat)} (h:jU ps) (k:jU qs):jU (ps++qs):=fun p hp=>(List.mem_append.1 hp).elim (h p) (k p)
theorem jU.one {p:List Nat} (h:p.length=16):jU [p]:=fun q hq=>List.mem_singleton.1 hq▸h
theorem JG {n:Nat} {r:List Nat}: ∀{L:List (List Nat)},(prods n r L).length=2*L.length
 |[]=>rfl
 |q::L=>by
  have:= @JG n r L
  simp only [prods,List.flatMap_cons,List.length_append,List.length_cons,List.length_nil] at this⊢
  omega
theorem agT {n:Nat} {r:List Nat} {L:List (List Nat)}:jU (prods n r L):=fun p hp=>by
 obtain ⟨q,_,hq⟩:=List.mem_flatMap.1 hp
 rcases List.mem_cons.1 hq with rfl|hq
 ·exact qx
 ·exact List.mem_singleton.1 hq▸qx
theorem agU {n:Nat} {r:List Nat} {L:List (List Nat)} {j:Nat} (h:j<L.length):prods n r (L.take (j+1))=prods n r (L.take j)++[bG r (L.getD j []) n,bG (L.getD j []) r n]:=by
 rw [List.take_succ_eq_append_getElem h,prods,List.flatMap_append]
 simp [prods,List.getD,h]
theorem lu.a16 {n:Nat} {b w:List Nat} {T:Tab} {els td:List (List Nat)} (hb:PN n b) (hw:PN n w) (h:lu n b w T els td):jU els∧jU td:=⟨fun p hp=>((h.Fh p hp).pn hb hw).len,fun p hp=>((h.yH p hp).pn hb hw).len⟩
theorem agV {k:Nat} {a:aj} {Q:Ex→Fr→BH→Prop} {f:Fr} {H:BH} (h:T k (.seq a .skip) Q f H):T k a Q f H:=
 qo (fun _ _ _ _ _ h=>by
  cases h with
  |eF ha hb=>cases hb;exact ha
  |dW ha hne=>exact ha) h
theorem agW {H:BH} {b l m cn:Nat} {ps qs:List (List Nat)} (hp:jU ps) (hq:jU qs) (h0:qs≠[]) (hl:l=ps.length) (hm:m=qs.length) (h:(ps.length+qs.length)*16≤140737488355328):
  BF (some (WC qs)) (some (WC ps)) H b l m cn=some (S H.length 0 (ps.length+qs.length) 16,(H.set b none)++[some (WC (ps++qs))]):=by
 have:=WL (H:=H) (b:=b) (cn:=cn) (ju:=[]) hp hq h0 hl hm h
 rwa [List.append_nil] at this
theorem agX {ps:List (List Nat)} {i o:Nat} (h:jU ps) (hi:i<ps.length) (ho:o=i*16):aY (some 16) (WC ps) o=some (PL (ps.getD i [])):=by
 have:=WH (ju:=[]) h hi ho
 rwa [List.append_nil] at this
theorem agY {n:Nat} {b w:List Nat} {K:Value→BH→Prop} (hb:PN n b) (hw:PN n w)
  (hK: ∀tb hs els H1,kD tb hs→lu n b w (dY tb hs) els []→blk H1 0=some (GC n tb hs)→K (P 0 0) H1):aQ false MH [I n,Fz 2 16 (WC [b,w])] [] K:=by
 have hn:=hb.n16
 have hbl:=hb.len
 have hwl:=hw.len
 refine bF aaC ?_;simp only [dB,aI]
 refine au fun Kr hKr=>?_;simp (disch:=omega) only [RA,↓reduceIte,Nat.reduceEqDiff,RD];refine hKr _ _ ?_;clear hKr Kr;(try simp only [RN,reduceIte]);try refine ah rfl ?_
 refine au fun Kr hKr=>?_;simp (disch:=omega) only [RA,↓reduceIte,Nat.reduceEqDiff,RD,agQ,agR,agS];refine hKr _ _ ?_;clear hKr Kr;(try simp only [RN,reduceIte]);try refine ah rfl ?_
 refine au fun Kr hKr=>?_;simp (disch:=omega) only [RA,↓reduceIte,Nat.reduceEqDiff,RD];refine hKr _ _ ?_;clear hKr Kr;(try simp only [RN,reduceIte]);try refine ah rfl ?_
 refine bU (fun m f H'=> ∃(i:Nat) (tb:List Nat) (hs:List Bool),i≤n∧m=n-i∧kD tb hs∧dY tb hs=T0 n i∧lC hs=i∧f 0=I n∧f 1=Fz 2 16 (WC [b,w])∧f 5=P 0 0∧f 16=I n∧f 17=I i∧H'=[some (GC n tb hs)]) (n) ?_ ?_
 ·refine ⟨_,_,Gh.refl,0,Z4,F2,by omega,by omega,agO,agN,WQ _,?_,?_,?_,?_,?_,rfl⟩
  any_goals (simp (disch:=omega) only [RA,↓reduceIte,Nat.reduceEqDiff,RD,RE, *]<;>rfl)
 ·rintro m f H' R ⟨i,tb,hs,hi,rfl,hl,hT,hcn,g0,g1,g5,g16,g17,rfl⟩ hN hX hR hE
  simp only [dB.l0,aI]
  refine au fun Kr hKr=>?_;simp (disch:=omega) only [RA,↓reduceIte,Nat.reduceEqDiff,RD,g16,g17];refine hKr _ _ ?_;clear hKr Kr;(try simp only [RN,reduceIte]);try refine ah rfl ?_
  refine aX (p:=i<n) (by simp only [RA,↓reduceIte,Nat.reduceEqDiff]<;>rfl) (by (try simp only [RB])<;>first|done|exact Iff.rfl|omega|simp) (fun hc=>?_) (fun hc=>?_)<;>(try simp only [RN,reduceIte])<;>(try refine ah rfl ?_)
  ·have hil:i<n:=by assumption
   have hlk:= @mG n
   have hst:=fun (H:BH) (b o:Nat) (ho:o=1+(256*i+16*i))=>WB (n:=n) (H:=H) (b:=b) (p:=dQ n) hl (show i<16 by omega) (show i<16 by omega) hlk ho
   have hsh:=fun (H:BH) (b o:Nat) (ho:o=4097+(16*i+i))=>WE (n:=n) (H:=H) (b:=b) (t:=true) (tb:=qA tb i i (dQ n)) (hs:=hs) ⟨Fq (by omega) (by omega) hlk hl.t,hl.h⟩ (show i<16 by omega) (show i<16 by omega) ho
   have hb0:bl hs (16*i+i)=false:=WA (tb:=tb) (by omega) (by omega) (by rw [hT];exact if_neg (by omega))
   (first|refine bP rfl ?_|refine bQ rfl ?_);(try simp only [RN,reduceIte]);try refine ah rfl ?_
   refine au fun Kr hKr=>?_;simp (disch:=omega) only [RA,↓reduceIte,Nat.reduceEqDiff,RD,g17];refine hKr _ _ ?_;clear hKr Kr;(try simp only [RN,reduceIte]);try refine ah rfl ?_
   refine au fun Kr hKr=>?_;simp (disch:=omega) only [RA,↓reduceIte,Nat.reduceEqDiff,RD,g0,g5]
   refine agI (by omega) ?_
   rw [Int.toNat_natCast]
   simp (disch:=omega) only [RA,↓reduceIte,Nat.reduceEqDiff,RD,g5,hst]
   refine hKr _ _ ?_;clear hKr Kr;(try simp only [aK,aP,aN]);(try simp only [RN,reduceIte]);try refine ah rfl ?_
   refine au fun Kr hKr=>?_;simp (disch:=omega) only [RA,↓reduceIte,Nat.reduceEqDiff,RD,g5,hsh];refine hKr _ _ ?_;clear hKr Kr;(try simp only [RN,reduceIte]);try refine ah rfl ?_
   refine bH fun Kr hKr=>?_;simp (disch:=omega) only [RA,↓reduceIte,Nat.reduceEqDiff,RD,g17];refine hKr _ _ ?_;clear hKr Kr
   refine hN (n-(i+1)) _ _ _ _ (by omega) Gh.refl ⟨i+1,_,_,by omega,rfl,hl.put (by omega) (by omega) hlk,by rw [Wy hl (by omega) (by omega) hlk,hT,agM hil],by rw [JE (by rw [hl.h];omega) hb0,hcn],?_,?_,?_,?_,?_,rfl⟩
   any_goals (simp (disch:=omega) only [RA,↓reduceIte,Nat.reduceEqDiff,reduceCtorEq,RD,RE, *]<;>rfl)
  ·refine hX _ _ ?_
   obtain rfl:i=n:=by omega
   have vH:dA (List.replicate 16 (Value.int .u8 0)) 0=[]:=rfl
   refine au fun Kr hKr=>?_;simp (disch:=omega) only [RA,↓reduceIte,Nat.reduceEqDiff,Nat.reduceMul,Nat.reduceLeDiff,RD,vH,xI];refine hKr _ _ ?_;clear hKr Kr;(try simp only [RN,reduceIte]);try refine ah rfl ?_
   refine au fun Kr hKr=>?_;simp (disch:=omega) only [RA,↓reduceIte,Nat.reduceEqDiff,RD,g1]
   refine agL hbl hwl ?_
   simp (disch:=omega) only [RA,↓reduceIte,Nat.reduceEqDiff,RD]
   refine hKr _ _ ?_;clear hKr Kr;(try simp only [aK,aP,aN]);(try simp only [RN,reduceIte]);try refine ah rfl ?_
   have WR:lu i b w (dY tb hs) [] [b,w]:=by rw [hT];exact .start hn
   refine bU (fun m f H'=> ∃(tb:List Nat) (hs:List Bool) (els td ju:List (List Nat)),m=(256-lC hs)*1000+td.length∧kD tb hs∧lu i b w (dY tb hs) els td∧els.length≤lC hs∧td.length≤1000*lC hs+2∧f 0=I i∧f 5=P 0 0∧f 7=S 1 0 els.length 16∧f 8=S 2 0 td.length 16∧H'=[some (GC i tb hs),some (WC els),some (WC td++WC ju)]) ((256-lC hs)*1000+2) ?_ ?_
   ·refine ⟨_,_,Gh.refl,tb,hs,[],[b,w],[],rfl,hl,WR,Nat.zero_le _,by simp,?_,?_,?_,?_,by simp [WC]⟩
    any_goals (simp (disch:=omega) only [RA,↓reduceIte,Nat.reduceEqDiff,RD,RE, *]<;>rfl)
   ·clear WR hT hl hcn g0 g1 g5 g16 g17
    clear tb hs
    rintro m f H' R ⟨tb,hs,els,td,ju,rfl,hl,sU,hel,htl,g0,g5,g7,g8,rfl⟩ hN hX hR hE
    simp only [dB.l2,aI]
    have hcl:=hl.h▸ @JD hs
    refine au fun Kr hKr=>?_;simp (disch:=omega) only [RA,↓reduceIte,Nat.reduceEqDiff,RD,g8];refine hKr _ _ ?_;clear hKr Kr;(try simp only [RN,reduceIte]);try refine ah rfl ?_
    refine aX (p:=0<td.length) (by simp only [RA,↓reduceIte,Nat.reduceEqDiff]<;>rfl) (by (try simp only [RB])<;>first|done|exact Iff.rfl|omega|simp) (fun hc=>?_) (fun hc=>?_)<;>(try simp only [RN,reduceIte])<;>(try refine ah rfl ?_)
    ·obtain ⟨td,p,rfl⟩: ∃JH p,td=JH++[p]:=by
      rcases List.eq_nil_or_concat td with rfl|⟨JH,p,h⟩
      ·simp at hc
      ·exact ⟨JH,p,by simpa using h⟩
     clear hc
     have ha:=(sU.a16 hb hw).2
     have ha1:=(sU.a16 hb hw).1
     have hpl:=ha p (by simp)
     have hat:jU td:=fun q hq=>ha q (by simp [hq])
     have Fv: ∀o,o=td.length*16→aY (some 16) (WC (td++[p])++WC ju) o=some (PL p):=fun o ho=>by
      rw [WH ha (i:=td.length) (by simp) ho]
      simp [List.getD]
     have hW:WC (td++[p])++WC ju=WC td++WC (p::ju):=by simp [WC]
     rw [hW] at Fv⊢
     rw [List.length_append,List.length_singleton] at g8 htl hN
     have e1:((td.length+1:Nat):Int)-1=(td.length:Int):=by omega
     have hpn:=sU.lp hb hw
     have hz:=ji
     refine ou ?_
     refine au fun Kr hKr=>?_;simp (disch:=omega) only [RA,↓reduceIte,Nat.reduceEqDiff,RD,g5,g8,e1,Fv]
     refine agy (g:=0) rfl hl sU.ok hpn ?_
     have hsk:=sU.skip hb hw
     have had:=sU.add hb hw
     have hrl:(sf (dY tb hs) i i p).1.length=16:=((JB sU.gT i p (Nat.le_refl _) (sU.yH p (by simp))).pn hb hw).len
     generalize sf (dY tb hs) i i p=sp at hsk had hrl⊢
     obtain ⟨r,k⟩:=sp
     simp only at hsk had hrl⊢
     simp (disch:=omega) only [RA,↓reduceIte,Nat.reduceEqDiff,Nat.reduceAdd,RD,hz,hrl]
     refine hKr _ _ ?_;clear hKr Kr;(try simp only [aK,aP,aN]);(try simp only [RN,reduceIte]);try refine ah rfl ?_
     have hcut:wo 16 (S 2 0 (td.length+1) 16) none (some (.int .i64 (td.length:Int)))=some (S 2 0 td.length 16):=by
      rw [aeh (Ii (by omega))]
      simp
     refine au fun Kr hKr=>?_;simp (disch:=omega) only [RA,↓reduceIte,Nat.reduceEqDiff,RD,g8,e1,hcut];refine hKr _ _ ?_;clear hKr Kr;(try simp only [RN,reduceIte]);try refine ah rfl ?_
     refine au fun Kr hKr=>?_;simp (disch:=omega) only [RA,↓reduceIte,Nat.reduceEqDiff,RD,g0];refine hKr _ _ ?_;clear hKr Kr;(try simp only [RN,reduceIte]);try refine ah rfl ?_
     refine aX (p:=k=i) (by simp only [RA,↓reduceIte,Nat.reduceEqDiff]<;>rfl) (by (try simp only [RB])<;>first|done|exact Iff.rfl|omega|simp) (fun hc=>?_) (fun hc=>?_)<;>(try simp only [RN,reduceIte])<;>(try refine ah rfl ?_)
     ·simp only [aK,aP,aN,if_true]
      refine hN ((256-lC hs)*1000+td.length) _ _ _ _ (by omega) (Gh.nrm [0,1,2] rfl rfl (by simp only [RH,pJ,yI,wO])) ⟨tb,hs,els,td,p::ju,rfl,hl,hsk hc,hel,by omega,?_,?_,?_,?_,rfl⟩
      any_goals (simp (disch:=omega) only [RA,↓reduceIte,Nat.reduceEqDiff,reduceCtorEq,RD,RE, *]<;>rfl)
     ·obtain ⟨hki,vH,hno,hok2,JI⟩:=had hc
      have sJ:k<16:=by omega
      have wP:nl r k<16:=by have:=vH.perm.lt hki;omega
      have hst:=fun (H:BH) (b o:Nat) (ho:o=1+(256*k+16*nl r k))=>WB (n:=i) (H:=H) (b:=b) (p:=r) hl sJ wP hrl ho
      have hsh:=fun (H:BH) (b o:Nat) (ho:o=4097+(16*k+nl r k))=>WE (n:=i) (H:=H) (b:=b) (t:=true) (tb:=qA tb k (nl r k) r) (hs:=hs) ⟨Fq sJ wP hrl hl.t,hl.h⟩ sJ wP ho
      have hb0:bl hs (16*k+nl r k)=false:=WA sJ wP hno
      have hcs:=JE (l:=hs) (by rw [hl.h];omega) hb0
      have hl2:=hl.put sJ wP hrl
      rw [←Wy hl sJ wP hrl] at JI
      have hf1:=agK hrl
      have hw1:=fun (H:BH)=>agW (H:=H) (b:=1) (l:=els.length) (m:=1) (cn:=4) ha1 (jU.one hrl) (by simp) rfl rfl (by simp only [List.length_singleton];omega)
      simp only [List.length_singleton] at hw1
      have WT:jU (els++[r]):=ha1.app (.one hrl)
      have hll:(els++[r]).length=els.length+1:=by simp
      refine au fun Kr hKr=>?_;simp (disch:=omega) only [RA,↓reduceIte,Nat.reduceEqDiff,Nat.reduceSub,Nat.reduceLT,RD,g5,hst,hrl];refine hKr _ _ ?_;clear hKr Kr;(try simp only [RN,reduceIte]);try refine ah rfl ?_
      refine au fun Kr hKr=>?_;simp (disch:=omega) only [RA,↓reduceIte,Nat.reduceEqDiff,Nat.reduceSub,Nat.reduceLT,RD,g5,hsh,hrl];refine hKr _ _ ?_;clear hKr Kr;(try simp only [RN,reduceIte]);try refine ah rfl ?_
      refine au fun Kr hKr=>?_;simp (disch:=omega) only [RA,↓reduceIte,Nat.reduceEqDiff,Nat.reduceAdd,Nat.reduceLeDiff,RD,g7,hf1,WJ,hw1,hrl];refine hKr _ _ ?_;clear hKr Kr;(try simp only [RN,reduceIte]);try refine ah rfl ?_
      refine au fun Kr hKr=>?_;simp (disch:=omega) only [RA,↓reduceIte,Nat.reduceEqDiff,RD];refine hKr _ _ ?_;clear hKr Kr;(try simp only [RN,reduceIte]);try refine ah rfl ?_
      refine agV ?_
      have ai0:lC (hs.set (16*k+nl r k) true)≤256:=hl2.h▸JD
      generalize hE2:els++[r]=E2 at*
      generalize qA tb k (nl r k) r=tb2 at*
      generalize hs.set (16*k+nl r k) true=hs2 at*
      refine bU (fun m f H'=> ∃(j:Nat) (ju:List (List Nat)),j≤els.length+1∧m=els.length+1-j∧f 0=I i∧f 5=P 0 0∧f 7=S 1 0 (els.length+1) 16∧f 8=S 2 0 (td.length+2*j) 16∧f 9=P 3 0∧f 85=S 1 0 (els.length+1) 16∧f 86=I ((els.length+1:Nat):Int)∧f 87=I j∧H'=[some (GC i tb2 hs2),some (WC E2),some (WC (td++prods i r (E2.take j))++WC ju),some (r.map N8)]) (els.length+1) ?_ ?_
      ·refine ⟨_,_,(Gh.nrm [0,5,2,3] rfl rfl (by simp only [RH,pJ,yI,wO])),0,p::ju,by omega,by omega,?_,?_,?_,?_,?_,?_,?_,?_,by simp [prods,blk]⟩
       any_goals (simp (disch:=omega) only [RA,↓reduceIte,Nat.reduceEqDiff,RD,RE, *]<;>rfl)
      ·clear g0 g5 g7 g8
       rintro m f H' R1 ⟨j,ju,hj,rfl,g0,g5,g7,g8,g9,g85,g86,yE,rfl⟩ hN1 hX1 hR1 hE1
       simp only [dB.l1,aI]
       refine au fun Kr hKr=>?_;simp (disch:=omega) only [RA,↓reduceIte,Nat.reduceEqDiff,RD,g86,yE];refine hKr _ _ ?_;clear hKr Kr;(try simp only [RN,reduceIte]);try refine ah rfl ?_
       refine aX (p:=j<els.length+1) (by simp only [RA,↓reduceIte,Nat.reduceEqDiff]<;>rfl) (by (try simp only [RB])<;>first|done|exact Iff.rfl|omega|simp) (fun hc=>?_) (fun hc=>?_)<;>(try simp only [RN,reduceIte])<;>(try refine ah rfl ?_)
       ·have hjl:j<E2.length:=by omega
        have hq:=WT (E2.getD j []) (by simp [List.getD,hjl])
        have hgq:=fun o (ho:o=j*16)=>agX WT hjl ho
        have JJ:PN i (E2.getD j []):=(JI.Fh _ (by simp [List.getD,hjl])).pn hb hw
        have htk:=agU (n:=i) (r:=r) hjl
        have JK:(td++prods i r (E2.take j)).length=td.length+2*j:=by rw [List.length_append,JG,List.length_take];omega
        have agZ:jU (td++prods i r (E2.take j)):=hat.app agT
        generalize E2.getD j []=q at*
        (first|refine bP rfl ?_|refine bQ rfl ?_);(try simp only [RN,reduceIte]);try refine ah rfl ?_
        refine au fun Kr hKr=>?_;simp (disch:=omega) only [RA,↓reduceIte,Nat.reduceEqDiff,Nat.reduceAdd,RD,g85,yE,hgq,hq];refine hKr _ _ ?_;clear hKr Kr;(try simp only [RN,reduceIte]);try refine ah rfl ?_
        refine au fun Kr hKr=>?_;simp (disch:=omega) only [RA,↓reduceIte,Nat.reduceEqDiff,Nat.reduceSub,Nat.reduceLT,reduceCtorEq,RD,g8,g9,g0,hq,hrl]
        refine EG vH.by JJ.by (by omega) (vH.perm.kN hrl) ?_
        simp (disch:=omega) only [RA,↓reduceIte,Nat.reduceEqDiff,Nat.reduceSub,Nat.reduceLT,reduceCtorEq,RD,g9,g0,hq,hrl]
        refine EG JJ.by vH.by (by omega) (JJ.perm.kN hq) ?_
        have WU:= @qx r q i
        have WV:= @qx q r i
        have hf2:=WO WU WV
        have hw2:=fun (H:BH)=>WL (H:=H) (b:=2) (l:=td.length+2*j) (m:=2) (cn:=5) (ju:=WC ju) agZ (qs:=[bG r q i,bG q r i]) (fun x hx=>by rcases List.mem_cons.1 hx with rfl|hx;exact WU;exact List.mem_singleton.1 hx▸WV) (by simp) JK.symm rfl (by rw [JK];simp only [List.length_cons,List.length_nil];omega)
        rw [JK] at hw2
        simp only [List.length_cons,List.length_nil,Nat.zero_add,Nat.reduceAdd] at hw2
        have e2:td.length+2*(j+1)=td.length+2*j+2:=by omega
        simp (disch:=omega) only [RA,↓reduceIte,Nat.reduceEqDiff,Nat.reduceSub,Nat.reduceAdd,Nat.reduceMul,Nat.reduceLT,Nat.reduceLeDiff,RD,g8,hf2,WJ,hw2]
        refine hKr _ _ ?_;clear hKr Kr;(try simp only [aK,aP,aN]);(try simp only [RN,reduceIte]);try refine ah rfl ?_
        refine bH fun Kr hKr=>?_;simp (disch:=omega) only [RA,↓reduceIte,Nat.reduceEqDiff,RD,yE];refine hKr _ _ ?_;clear hKr Kr
        refine hN1 (els.length+1-(j+1)) _ _ _ _ (by omega) (Gh.nrm [0,1,6,3] rfl rfl (by simp only [RH,pJ,yI,wO])) ⟨j+1,[],by omega,rfl,?_,?_,?_,by rw [e2];rfl,?_,?_,?_,?_,?_⟩
        any_goals (simp (disch:=omega) only [RA,↓reduceIte,Nat.reduceEqDiff,RD,RE, *]<;>rfl)
        rw [htk,←List.append_assoc]
        simp [WC,blk]
       ·refine hX1 _ _ ?_
        obtain rfl:j=els.length+1:=by omega
        rw [List.take_of_length_le (by omega)]
        have hL:(td++prods i r E2).length=td.length+2*(els.length+1):=by rw [List.length_append,JG,hll]
        (try simp only [RN,reduceIte]);try refine ah rfl ?_
        simp only [aK,aP,aN,if_true]
        refine hN ((256-lC hs2)*1000+(td++prods i r E2).length) _ _ _ _ (by omega) (Gh.nrm [0,1,2] rfl rfl (by simp only [RH,pJ,yI,wO])) ⟨tb2,hs2,E2,td++prods i r E2,ju,rfl,hl2,JI,by omega,by omega,?_,?_,?_,by rw [hL];simp (disch:=omega) only [RA,↓reduceIte,Nat.reduceEqDiff,RD,RE, *]<;>rfl,rfl⟩
        any_goals (simp (disch:=omega) only [RA,↓reduceIte,Nat.reduceEqDiff,RD,RE, *]<;>rfl)
    ·refine hX _ _ ?_
     obtain rfl:td=[]:=List.eq_nil_of_length_eq_zero (by omega)
     refine au fun Kr hKr=>?_;simp (disch:=omega) only [RA,↓reduceIte,Nat.reduceEqDiff,RD,g5];refine hKr _ _ ?_;clear hKr Kr;(try simp only [RN,reduceIte]);try refine ah rfl ?_
     refine aS (by simp (disch:=omega) only [RA,↓reduceIte,Nat.reduceEqDiff,RD,aG,aO,g5];rfl) aC.refl ?_;simp only [aH]
     exact hK _ _ _ _ hl sU rfl
end Go.Bm
namespace Go.Bm
open Go Go.Am
section
variable {n:Nat} {b w:List Nat} {H:BH} {K:Value→BH→Prop}
theorem ag0 {x:Bool} (hb:PN n b) (hw:PN n w)
  (hK: ∀tb hs,kD tb hs→fQ n (dY tb hs)→lq n b w (jf hs n)→K (P H.length 0) (H++[some (GC n tb hs)])):aQ x MH [I n,Fz 2 16 (WC [b,w])] H K:=
 xP (.cons .int (.cons .fz .nil)) (agY hb hw fun tb hs els H1 hl hc h=>⟨0,_,_,fun ρ ρ' Z u hr hv=>by
  obtain ⟨b,hb,rfl⟩:=hv.jH
  exact .ptr (by rw [hr];exact hb),h,pJ,hK tb hs hl hc.ok (by
   rw [←agB hc.ok]
   exact hc.fin)⟩)
theorem ag1 {x:Bool} {tb:List Nat} {hs:List Bool} {g:Nat} (hg:blk H g=some (GC n tb hs)) (hl:kD tb hs) (hT:fQ n (dY tb hs)) (hK:K (I (jf hs n)) (H.set g (some (GC n tb hs)))):aQ false Md [P g 0] H K:=by
 refine qR hg pJ ?_
 have e:([P g 0]:List Value).map (ren [g])=[P 0 0]:=by simp [ren,nI,nm]
 rw [e]
 exact agF hl hT ⟨.int,HN.cons pJ HN.nil,hK⟩
theorem ag2 (hb:PN n b) (hw:PN n w):aQ false Mc [DV n b w] [] fun v H1=> ∃j tb hs,v=P j 0∧blk H1 j=some (GC n tb hs)∧kD tb hs∧fQ n (dY tb hs)∧lq n b w (jf hs n):=by
 have hlb:=hb.len
 have dI:=hw.len
 have hf2:=WO hlb dI
 have hwl:(WC [b,w]).length=2*16:=BD (ps:=[b,w]) fun p hp=>by
  rcases List.mem_cons.1 hp with rfl|hp
  ·exact hlb
  ·exact List.mem_singleton.1 hp▸dI
 refine bF aag ?_;simp only [tV,aI]
 refine au fun Kr hKr=>?_;simp (disch:=omega) only [RA,↓reduceIte,Nat.reduceEqDiff,Nat.reduceBEq,Nat.reduceSub,Nat.reduceAdd,Nat.reduceMul,Nat.reduceLT,Nat.reduceLeDiff,Int.reduceLE,Int.reduceLT,Int.reduceEq,Int.reduceNeg,Int.reduceToNat,Int.reduceMul,Int.reduceAdd,Int.reduceSub,Int.reduceBEq,Int.reduceBNe,reduceCtorEq,RD];refine hKr _ _ ?_;clear hKr Kr;(try simp only [RN,reduceIte]);try refine ah rfl ?_
 refine au fun Kr hKr=>?_;simp (disch:=omega) only [RA,↓reduceIte,Nat.reduceEqDiff,Nat.reduceBEq,Nat.reduceSub,Nat.reduceAdd,Nat.reduceMul,Nat.reduceLT,Nat.reduceLeDiff,Int.reduceLE,Int.reduceLT,Int.reduceEq,Int.reduceNeg,Int.reduceToNat,Int.reduceMul,Int.reduceAdd,Int.reduceSub,Int.reduceBEq,Int.reduceBNe,reduceCtorEq,RD,aF,aU,hf2]
 refine qP 1 rfl yI ?_
 simp only [RZ,jD hwl.symm]
 refine ag0 hb hw fun tb hs hl hT hO=>?_
 simp (disch:=omega) only [RA,↓reduceIte,Nat.reduceEqDiff,RD]
 refine hKr _ _ ?_;clear hKr Kr;(try simp only [aK,aP,aN]);(try simp only [RN,reduceIte]);try refine ah rfl ?_
 refine aS (by simp (disch:=omega) only [RA,↓reduceIte,Nat.reduceEqDiff,RD,aG,aO];rfl) aC.refl ?_;simp only [aH]
 exact ⟨_,tb,hs,rfl,rfl,hl,hT,hO⟩
theorem ag3 {x:Bool} (hb:PN n b) (hw:PN n w)
  (hK: ∀tb hs,kD tb hs→fQ n (dY tb hs)→lq n b w (jf hs n)→K (P H.length 0) (H++[some (GC n tb hs)])):aQ x Mc [DV n b w] H K:=
 xP (.cons iK .nil) ((ag2 hb hw).mono fun v H1 ⟨j,tb,hs,h1,h2,hl,hT,hO⟩=>⟨j,_,_,fun ρ ρ' Z u hr hv=>by
  rw [h1] at hv
  obtain ⟨b,hb,rfl⟩:=hv.jH
  exact .ptr (by rw [hr];exact hb),h2,pJ,hK tb hs hl hT hO⟩)
theorem U4 {x:Bool} (hD:aZ n b w) (hlb:b.length=16) (dI:w.length=16) (hK: ∀N:Nat,lq n b w N→N≤20922789888000→K (.tuple ⟨[I N,I 0]⟩) H):aQ x YJ [DV n b w] H K:=by
 have hb:PN n b:=⟨hD.1,hlb⟩
 have hw:PN n w:=⟨hD.2.1,dI⟩
 refine dR (by exact .cons iK .nil) ?_
 refine bF ZT ?_;simp only [oH,aI]
 refine au fun Kr hKr=>?_;simp (disch:=omega) only [RA,↓reduceIte,Nat.reduceEqDiff,RD];refine hKr _ _ ?_;clear hKr Kr;(try simp only [RN,reduceIte]);try refine ah rfl ?_
 refine au fun Kr hKr=>?_;simp (disch:=omega) only [RA,↓reduceIte,Nat.reduceEqDiff,RD,aF,aU]
 refine oZ hb.by hw.by ?_
 rw [decide_eq_true hD]
 simp (disch:=omega) only [RA,↓reduceIte,Nat.reduceEqDiff,RD]
 refine hKr _ _ ?_;clear hKr Kr;(try simp only [aK,aP,aN]);(try simp only [RN,reduceIte]);try refine ah rfl ?_
 refine dG (t:=false) (by simp (disch:=omega) only [RA,↓reduceIte,Nat.reduceEqDiff,RD]) ?_;(try simp only [RN,reduceIte]);try refine ah rfl ?_
 refine au fun Kr hKr=>?_;simp (disch:=omega) only [RA,↓reduceIte,Nat.reduceEqDiff,RD,aF,aU]
 refine ag3 hb hw fun tb hs hl hT hO=>?_
 simp (disch:=omega) only [RA,↓reduceIte,Nat.reduceEqDiff,RD]
 refine ag1 (x:=false) rfl hl hT ?_
 simp (disch:=omega) only [RA,↓reduceIte,Nat.reduceEqDiff,RD]
 refine hKr _ _ ?_;clear hKr Kr;(try simp only [aK,aP,aN]);(try simp only [RN,reduceIte]);try refine ah rfl ?_
 refine aS (by simp (disch:=omega) only [RA,↓reduceIte,Nat.reduceEqDiff,RD,aG,aO];rfl) aC.refl ?_;simp only [aH]
 exact ⟨Iy (aW.cons .int (aW.cons .int aW.nil)),hK _ hO (Wv hT (Nat.le_refl _))⟩
end
end Go.Bm
namespace Go.Bm
open Go Go.Am
end Go.Bm
namespace Go.Bm
open Go Go.Am
abbrev LN (ts:List (List Nat)):Value:=Fz ts.length 1 (ts.map FN)
theorem WW {k:IntKind} {x y:Int}:iU min2 [.int k x, .int k y]=some (.int k (if y<x then y else x)):=by
 simp [iU,min2]
end Go.Bm
namespace Go.Bm
open Go Go.Am
theorem FD {xs:List Int} {k:Nat} (h:k<xs.length):el xs k∈xs:=by simp [el,List.getD,h]
section
variable {code:List Nat} {a:Nat} {h:Int}
theorem ag4 {n:Nat} {size:Int} {K:Value→BH→Prop} (ha:a≤code.length) (hl:code.length≤1048576) (hcd: ∀i,nl code i<256) (hn:1≤n∧n≤16) (hs:size<4611686018427387904)
  (hK: ∀p a' h',By 16 p→a'≤code.length→K (PL p) [some (SC code a' h')]):aQ false MI [P 0 0,I n,I size] [some (SC code a h)] K:=by
 have hil:= @mG n
 refine bF aaG ?_;simp only [gK,aI]
 refine au fun Kr hKr=>?_;simp (disch:=omega) only [RA,↓reduceIte,Nat.reduceEqDiff,RD];refine hKr _ _ ?_;clear hKr Kr;(try simp only [RN,reduceIte]);try refine ah rfl ?_
 refine au fun Kr hKr=>?_;simp (disch:=omega) only [RA,↓reduceIte,Nat.reduceEqDiff,reduceCtorEq,RD]
 refine Vm (i:=0) rfl ha hl hcd hn fun q a h hq hp hA=>?_
 have hlq:=hq.len
 clear ha
 simp (disch:=omega) only [RA,↓reduceIte,Nat.reduceEqDiff,Nat.reduceAdd,RD]
 refine E9 (by omega) ?_
 simp (disch:=omega) only [RA,↓reduceIte,Nat.reduceEqDiff,Nat.reduceAdd,RD]
 refine hKr _ _ ?_;clear hKr Kr;(try simp only [aK,aP,aN]);(try simp only [RN,reduceIte]);try refine ah rfl ?_
 have WX: ∀i,nl q i<16:=fun i=>hp.kN hlq i
 refine au fun Kr hKr=>?_;simp (disch:=omega) only [RA,↓reduceIte,Nat.reduceEqDiff,RD];refine hKr _ _ ?_;clear hKr Kr;(try simp only [RN,reduceIte]);try refine ah rfl ?_
 refine bU (fun m f H'=> ∃t a' h' p,t≤n∧m=n-t∧a'≤code.length∧By 16 p∧f 0=P 0 0∧f 1=I n∧f 2=I size∧f 6=P 1 0∧f 7=P 2 0∧f 8=P 3 0∧f 9=I t∧H'=[some (SC code a' h'),some (List.replicate 16 (.int .u8 0)),some (q.map N8),some (p.map N8)]) (n) ?_ ?_
 ·refine ⟨_,_,Gh.refl,0,a,h,dQ n,by omega,by omega,hA,E8 hn.2,?_,?_,?_,?_,?_,?_,?_,rfl⟩
  any_goals (simp (disch:=omega) only [RA,↓reduceIte,Nat.reduceEqDiff,RD,RE, *]<;>rfl)
 ·clear hA
  rintro m f H' R ⟨t,a,h,p,ht,rfl,hA,hb,g0,g1,g2,g6,g7,g8,g9,rfl⟩ hN hX hR hE
  simp only [gK.l1,aI]
  have hlp:=hb.len
  refine au fun Kr hKr=>?_;simp (disch:=omega) only [RA,↓reduceIte,Nat.reduceEqDiff,RD,g1,g9];refine hKr _ _ ?_;clear hKr Kr;(try simp only [RN,reduceIte]);try refine ah rfl ?_
  refine aX (p:=t<n) (by simp only [RA,↓reduceIte,Nat.reduceEqDiff]<;>rfl) (by (try simp only [RB])<;>first|done|exact Iff.rfl|omega|simp) (fun hc=>?_) (fun hc=>?_)<;>(try simp only [RN,reduceIte])<;>(try refine ah rfl ?_)
  ·have htn:t<n:=hc
   clear hc
   (first|refine bP rfl ?_|refine bQ rfl ?_);(try simp only [RN,reduceIte]);try refine ah rfl ?_
   refine au fun Kr hKr=>?_;simp (disch:=omega) only [RA,↓reduceIte,Nat.reduceEqDiff,RD,g0,g2]
   refine yA (i:=0) rfl hA hl hcd (by omega) fun v a h hA k2 k3 k4 k5=>?_
   have hk: ∃k:Nat,1≤k∧t+k≤n∧(if (n:Int)-t<1+v then (n:Int)-t else 1+v)=k:=by
    by_cases hc:(n:Int)-t<1+v
    ·exact ⟨n-t,by omega,by omega,by rw [if_pos hc];omega⟩
    ·exact ⟨(1+v).toNat,by omega,by omega,by rw [if_neg hc];omega⟩
   obtain ⟨k,hk1,hk2,hk3⟩:=hk
   simp (disch:=omega) only [RA,↓reduceIte,Nat.reduceEqDiff,RD,g1,g9,WW,hk3]
   refine hKr _ _ ?_;clear hKr Kr;(try simp only [aK,aP,aN]);(try simp only [RN,reduceIte]);try refine ah rfl ?_
   refine au fun Kr hKr=>?_;simp (disch:=omega) only [RA,↓reduceIte,Nat.reduceEqDiff,RD];refine hKr _ _ ?_;clear hKr Kr;(try simp only [RN,reduceIte]);try refine ah rfl ?_
   refine bU (fun m f H'=> ∃i p,i≤k∧m=k-i∧By 16 p∧f 0=P 0 0∧f 1=I n∧f 2=I size∧f 6=P 1 0∧f 7=P 2 0∧f 8=P 3 0∧f 9=I t∧f 10=I k∧f 11=I i∧H'=[some (SC code a h),some (List.replicate 16 (.int .u8 0)),some (q.map N8),some (p.map N8)]) (k) ?_ ?_
   ·refine ⟨_,_,Gh.refl,0,p,by omega,by omega,hb,?_,?_,?_,?_,?_,?_,?_,?_,?_,rfl⟩
    any_goals (simp (disch:=omega) only [RA,↓reduceIte,Nat.reduceEqDiff,RD,RE, *]<;>rfl)
   ·clear g0 g1 g2 g6 g7 g8 g9 hb hlp p
    rintro m f H' R1 ⟨i,p,hi,rfl,hb,g0,g1,g2,g6,g7,g8,g9,g10,g11,rfl⟩ hN1 hX1 hR1 hE1
    simp only [gK.l0,aI]
    have hlp:=hb.len
    refine au fun Kr hKr=>?_;simp (disch:=omega) only [RA,↓reduceIte,Nat.reduceEqDiff,RD,g10,g11];refine hKr _ _ ?_;clear hKr Kr;(try simp only [RN,reduceIte]);try refine ah rfl ?_
    refine aX (p:=i<k) (by simp only [RA,↓reduceIte,Nat.reduceEqDiff]<;>rfl) (by (try simp only [RB])<;>first|done|exact Iff.rfl|omega|simp) (fun hc=>?_) (fun hc=>?_)<;>(try simp only [RN,reduceIte])<;>(try refine ah rfl ?_)
    ·have hik:i<k:=hc
     clear hc
     have hk0:(k:Int)≠0:=by omega
     have hm:=Nat.mod_lt (i+1) (show 0<k by omega)
     have e1:((i:Nat):Int)+1=((i+1:Nat):Int):=by omega
     have e2:(((i+1:Nat):Int)).tmod (k:Int)=(((i+1)%k:Nat):Int):=Int.ofNat_tmod (i+1) k
     have e3:((t:Nat):Int)+((i:Nat):Int)=((t+i:Nat):Int):=by omega
     have e4:((t:Nat):Int)+(((i+1)%k:Nat):Int)=((t+(i+1)%k:Nat):Int):=by omega
     have hq1:=WX (t+i)
     have hq2:=WX (t+(i+1)%k)
     (first|refine bP rfl ?_|refine bQ rfl ?_);(try simp only [RN,reduceIte]);try refine ah rfl ?_
     refine au fun Kr hKr=>?_;simp (disch:=omega) only [RA,↓reduceIte,Nat.reduceEqDiff,RD,g7,g8,g9,g10,g11,hlq,hlp,hk0,e1,e2,e3,e4];refine hKr _ _ ?_;clear hKr Kr;(try simp only [RN,reduceIte]);try refine ah rfl ?_
     refine bH fun Kr hKr=>?_;simp (disch:=omega) only [RA,↓reduceIte,Nat.reduceEqDiff,RD,g11];refine hKr _ _ ?_;clear hKr Kr
     refine hN1 (k-(i+1)) _ _ _ _ (by omega) Gh.refl ⟨i+1,_,by omega,rfl,hb.set (by omega),?_,?_,?_,?_,?_,?_,?_,?_,?_,rfl⟩
     any_goals (simp (disch:=omega) only [RA,↓reduceIte,Nat.reduceEqDiff,RD,RE, *]<;>rfl)
    ·refine hX1 _ _ ?_
     have e5:((t:Nat):Int)+((k:Nat):Int)=((t+k:Nat):Int):=by omega
     refine bH fun Kr hKr=>?_;simp (disch:=omega) only [RA,↓reduceIte,Nat.reduceEqDiff,RD,g9,g10,e5];refine hKr _ _ ?_;clear hKr Kr
     refine hN (n-(t+k)) _ _ _ _ (by omega) Gh.refl ⟨t+k,a,h,p,by omega,rfl,hA,hb,?_,?_,?_,?_,?_,?_,?_,rfl⟩
     any_goals (simp (disch:=omega) only [RA,↓reduceIte,Nat.reduceEqDiff,RD,RE, *]<;>rfl)
  ·refine hX _ _ ?_
   refine au fun Kr hKr=>?_;simp (disch:=omega) only [RA,↓reduceIte,Nat.reduceEqDiff,RD,g6,g8,hlp];refine hKr _ _ ?_;clear hKr Kr;(try simp only [RN,reduceIte]);try refine ah rfl ?_
   refine aS (by simp (disch:=omega) only [RA,↓reduceIte,Nat.reduceEqDiff,RD,aG,aO,g6,hlp];rfl) (aC.nrm [0] rfl rfl (by simp only [RH,ru]) (by simp only [aH,RH])) ?_;simp only [aH]
   exact hK _ _ _ hb hA
theorem WY {n:Nat} {size:Int} {i:Nat} {H:BH} {K:Value→BH→Prop} (hb:blk H i=some (SC code a h)) (ha:a≤code.length) (hl:code.length≤1048576) (hcd: ∀i,nl code i<256) (hn:1≤n∧n≤16) (hs:size<4611686018427387904)
  (hK: ∀p a' h',By 16 p→a'≤code.length→K (PL p) (H.set i (some (SC code a' h')))):aQ false MI [P i 0,I n,I size] H K:=by
 refine qR hb kY ?_
 have e:([P i 0,I n,I size]:List Value).map (ren [i])=[P 0 0,I n,I size]:=by simp [ren,nI,nm]
 rw [e]
 exact ag4 ha hl hcd hn hs fun p a' h' k1 k2=>⟨kM (by (simp only [RH])),HN.cons kY HN.nil,hK p a' h' k1 k2⟩
theorem ag5 {most:Int} {K:Value→BH→Prop} (ha:a≤code.length) (hl:code.length≤1048576) (hcd: ∀i,nl code i<256) (hm:1≤most∧most≤16)
  (hK: ∀(n:Nat) b w a' h',By 16 b→By 16 w→aZ n b w→(n:Int)≤most→a'≤code.length→K (DV n b w) [some (SC code a' h')]):aQ false MB [P 0 0,I most] [some (SC code a h)] K:=by
 have hz:=ji
 refine bF aao ?_;simp only [iD,aI]
 refine au fun Kr hKr=>?_;simp (disch:=omega) only [RA,↓reduceIte,Nat.reduceEqDiff,RD,aF];refine hKr _ _ ?_;clear hKr Kr;(try simp only [RN,reduceIte]);try refine ah rfl ?_
 refine au fun Kr hKr=>?_;simp (disch:=omega) only [RA,↓reduceIte,Nat.reduceEqDiff,RD]
 refine yA (i:=0) rfl ha hl hcd (by omega) fun v a h hA k2 k3 k4 k5=>?_
 clear ha
 have hv:=k4 (by omega)
 obtain ⟨n,hn⟩: ∃n:Nat,1+v=n:=⟨(1+v).toNat,by omega⟩
 have hn1:1≤n∧n≤16:=by omega
 have hnm:(n:Int)≤most:=by omega
 simp (disch:=omega) only [RA,↓reduceIte,Nat.reduceEqDiff,RD,hn]
 refine hKr _ _ ?_;clear hKr Kr;(try simp only [aK,aP,aN]);(try simp only [RN,reduceIte]);try refine ah rfl ?_
 clear k2 k3 k4 k5
 refine au fun Kr hKr=>?_;simp (disch:=omega) only [RA,↓reduceIte,Nat.reduceEqDiff,RD];refine hKr _ _ ?_;clear hKr Kr;(try simp only [RN,reduceIte]);try refine ah rfl ?_
 refine bU (fun m f H'=> ∃k a' h',k≤8∧m=8-k∧a'≤code.length∧f 0=P 0 0∧f 4=P 1 0∧f 5=I n∧f 6=I k∧H'=[some (SC code a' h'),some (DC 0 gu gu)]) (8) ?_ ?_
 ·refine ⟨_,_,Gh.refl,0,a,h,by omega,by omega,hA,?_,?_,?_,?_,rfl⟩
  any_goals (simp (disch:=omega) only [RA,↓reduceIte,Nat.reduceEqDiff,RD,RE, *]<;>rfl)
 ·clear hA
  rintro m f H' R ⟨k,a,h,hk,rfl,hA,g0,g4,g5,g6,rfl⟩ hN hX hR hE
  simp only [iD.l0,aI]
  refine au fun Kr hKr=>?_;simp (disch:=omega) only [RA,↓reduceIte,Nat.reduceEqDiff,RD,g6];refine hKr _ _ ?_;clear hKr Kr;(try simp only [RN,reduceIte]);try refine ah rfl ?_
  refine aX (p:=k<8) (by simp only [RA,↓reduceIte,Nat.reduceEqDiff]<;>rfl) (by (try simp only [RB])<;>first|done|exact Iff.rfl|omega|simp) (fun hc=>?_) (fun hc=>?_)<;>(try simp only [RN,reduceIte])<;>(try refine ah rfl ?_)
  ·have hk8:k<8:=hc
   clear hc
   (first|refine bP rfl ?_|refine bQ rfl ?_);(try simp only [RN,reduceIte]);try refine ah rfl ?_
   refine au fun Kr hKr=>?_;simp (disch:=omega) only [RA,↓reduceIte,Nat.reduceEqDiff,Nat.reduceAdd,Nat.reduceLeDiff,reduceCtorEq,RD,g0,g5]
   refine qP 2 rfl (by simp only [RH]) ?_;simp only [RZ,jD]
   refine Fg (xs:=[2,3,4,(n:Int)]) (i:=0) rfl hA hl hcd (by simp) (by simp) fun j a h hj hA=>?_
   have hj1:=FD hj
   simp (disch:=omega) only [RA,↓reduceIte,Nat.reduceEqDiff,Nat.reduceAdd,Nat.reduceLeDiff,reduceCtorEq,RD,g0,g5]
   refine WY (i:=0) rfl hA hl hcd hn1 (by simp at hj1;omega) fun p a h hp hA=>?_
   simp (disch:=omega) only [RA,↓reduceIte,Nat.reduceEqDiff,Nat.reduceAdd,Nat.reduceLeDiff,reduceCtorEq,RD,g0,g5]
   refine qP 3 rfl (by simp only [RH]) ?_;simp only [RZ,jD]
   refine Fg (xs:=[2,2,3,(n:Int)]) (i:=0) rfl hA hl hcd (by simp) (by simp) fun j a h hj hA=>?_
   have hj2:=FD hj
   simp (disch:=omega) only [RA,↓reduceIte,Nat.reduceEqDiff,Nat.reduceAdd,Nat.reduceLeDiff,reduceCtorEq,RD,g0,g5]
   refine WY (i:=0) rfl hA hl hcd hn1 (by simp at hj2;omega) fun q a h hq hA=>?_
   have hlp:=hp.len
   have hlq:=hq.len
   simp (disch:=omega) only [RA,↓reduceIte,Nat.reduceEqDiff,Nat.reduceAdd,RD,aF,aU]
   refine hKr _ _ ?_;clear hKr Kr;(try simp only [aK,aP,aN]);(try simp only [RN,reduceIte]);try refine ah rfl ?_
   refine au fun Kr hKr=>?_;simp (disch:=omega) only [RA,↓reduceIte,Nat.reduceEqDiff,RD,aF,aU]
   refine UG hp hq ?_
   simp (disch:=omega) only [RA,↓reduceIte,Nat.reduceEqDiff,RD]
   refine hKr _ _ ?_;clear hKr Kr;(try simp only [aK,aP,aN]);(try simp only [RN,reduceIte]);try refine ah rfl ?_
   refine aX (p:=aZ n p q) (by simp only [RA,↓reduceIte,Nat.reduceEqDiff]<;>rfl) (by (try simp only [RB])<;>first|done|exact Iff.rfl|omega|simp) (fun hc=>?_) (fun hc=>?_)<;>(try simp only [RN,reduceIte])<;>(try refine ah rfl ?_)
   ·refine au fun Kr hKr=>?_;simp (disch:=omega) only [RA,↓reduceIte,Nat.reduceEqDiff,RD,g4,aF,aU];refine hKr _ _ ?_;clear hKr Kr;(try simp only [RN,reduceIte]);try refine ah rfl ?_
    refine hR _ _ ?_
    refine aS (by simp (disch:=omega) only [RA,↓reduceIte,Nat.reduceEqDiff,RD,aG,aO,g4,aU];rfl) (aC.nrm [0] rfl rfl (by simp only [RH,ru,o7]) (by simp only [aH,RH])) ?_;simp only [aH]
    exact hK n p q _ _ hp hq hc hnm hA
   ·refine bH fun Kr hKr=>?_;simp (disch:=omega) only [RA,↓reduceIte,Nat.reduceEqDiff,RD,g6];refine hKr _ _ ?_;clear hKr Kr
    refine hN (8-(k+1)) _ _ _ _ (by omega) (Gh.nrm [0,1] rfl rfl (by simp only [RH,ru,o7])) ⟨k+1,a,h,by omega,rfl,hA,?_,?_,?_,?_,rfl⟩
    any_goals (simp (disch:=omega) only [RA,↓reduceIte,Nat.reduceEqDiff,reduceCtorEq,RD,RE, *]<;>rfl)
  ·refine hX _ _ ?_
   have h1:= @AY n n
   have h2:= @mG n
   refine au fun Kr hKr=>?_;simp (disch:=omega) only [RA,↓reduceIte,Nat.reduceEqDiff,RD,g5]
   refine afD hn1 ?_
   simp (disch:=omega) only [RA,↓reduceIte,Nat.reduceEqDiff,Nat.reduceAdd,RD,aF,aU]
   refine hKr _ _ ?_;clear hKr Kr;(try simp only [aK,aP,aN]);(try simp only [RN,reduceIte]);try refine ah rfl ?_
   refine au fun Kr hKr=>?_;simp (disch:=omega) only [RA,↓reduceIte,Nat.reduceEqDiff,Nat.reduceAdd,Nat.reduceLeDiff,reduceCtorEq,RD,g0,g5]
   refine Vm (i:=0) rfl hA hl hcd hn1 fun q a h hq hp hA=>?_
   have hlq:=hq.len
   simp (disch:=omega) only [RA,↓reduceIte,Nat.reduceEqDiff,Nat.reduceAdd,RD,aF,aU]
   refine hKr _ _ ?_;clear hKr Kr;(try simp only [aK,aP,aN]);(try simp only [RN,reduceIte]);try refine ah rfl ?_
   refine au fun Kr hKr=>?_;simp (disch:=omega) only [RA,↓reduceIte,Nat.reduceEqDiff,RD,g4,aF,aU];refine hKr _ _ ?_;clear hKr Kr;(try simp only [RN,reduceIte]);try refine ah rfl ?_
   refine aS (by simp (disch:=omega) only [RA,↓reduceIte,Nat.reduceEqDiff,RD,aG,aO,g4,aU];rfl) (aC.nrm [0] rfl rfl (by simp only [RH,ru,o7]) (by simp only [aH,RH])) ?_;simp only [aH]
   exact hK n _ q _ _ (afA hn1 hn1.2) hq (aZ.turn hn1 hp) hnm hA
theorem ag6 {most:Int} {i:Nat} {H:BH} {K:Value→BH→Prop} (hb:blk H i=some (SC code a h)) (ha:a≤code.length) (hl:code.length≤1048576) (hcd: ∀i,nl code i<256) (hm:1≤most∧most≤16)
  (hK: ∀(n:Nat) b w a' h',By 16 b→By 16 w→aZ n b w→(n:Int)≤most→a'≤code.length→K (DV n b w) (H.set i (some (SC code a' h')))):aQ false MB [P i 0,I most] H K:=by
 refine qR hb kY ?_
 have e:([P i 0,I most]:List Value).map (ren [i])=[P 0 0,I most]:=by simp [ren,nI,nm]
 rw [e]
 exact ag5 ha hl hcd hm fun n b w a' h' k1 k2 k3 k4 k5=>⟨iK,HN.cons kY HN.nil,hK n b w a' h' k1 k2 k3 k4 k5⟩
end
end Go.Bm
namespace Go.Bm
open Go Go.Am
end Go.Bm
namespace Go.Bm
open Go Go.Am
def Sl (H:BH) (v:Value) (xs:List Int):Prop:=(v= .slice none 0 0∧xs=[])∨(∃i,v=S i 0 xs.length 1∧blk H i=some (xs.map I))∨v=FI xs
theorem Sl.own {H:BH} {i:Nat} {xs:List Int} (h:blk H i=some (xs.map I)):Sl H (S i 0 xs.length 1) xs:= .inr (.inl ⟨i,rfl,h⟩)
theorem Sl.fz {H:BH} {xs:List Int}:Sl H (FI xs) xs:= .inr (.inr rfl)
theorem Sl.nil {H:BH}:Sl H (.slice none 0 0) []:= .inl ⟨rfl,rfl⟩
theorem Sl.len {H:BH} {v:Value} {xs:List Int} (h:Sl H v xs):Ap v=some (I xs.length):=by
 rcases h with ⟨rfl,rfl⟩|⟨i,rfl,_⟩|rfl<;>rfl
theorem Sl.get {H:BH} {v:Value} {xs:List Int} (h:Sl H v xs) {j:Nat} (hj:j<xs.length): ∃p,vW 1 v (I j)=some p∧xG none H p=some (I (el xs j)):=by
 rcases h with ⟨rfl,rfl⟩|⟨i,rfl,hb⟩|rfl
 ·simp at hj
 ·refine ⟨_,Hq (by omega),?_⟩
  rw [Hy,hb,Hw,Eo (by omega)]
  simp
 ·refine ⟨_,Hr (by omega),?_⟩
  rw [Hz,Eo (by omega)]
  simp
end Go.Bm
namespace Go.Bm
open Go Go.Am
theorem WZ {α:Type} {ls:List α} {d:α} {j:Nat} (h:j<ls.length):ls.getD j d∈ls:=by simp [List.getD,h]
theorem ag7 {xs:List (List Int)} {k:Nat} (h:k<xs.length):aY none (xs.map FI) k=some (FI (xs.getD k [])):=by
 simp [aY,h,List.getD]
end Go.Bm
namespace Go.Bm
open Go Go.Am
def yJ (xs:List Int):Nat→Int
 |0=>0
 |i+1=>yJ xs i+el xs i
def BG (xs:List Int):Int:=yJ xs xs.length
def FH (xs:List Int) (i:Nat):Prop:=(1≤el xs i∧el xs i≤16)∧(0<i→el xs i≤el xs (i-1))
instance (xs:List Int) (i:Nat):Decidable (FH xs i):=by unfold FH;infer_instance
def yK (xs:List Int):Prop:=(1≤xs.length∧xs.length≤16)∧(∀i,i<xs.length→FH xs i)∧BG xs≤16
instance (xs:List Int):Decidable (yK xs):=by unfold yK;infer_instance
theorem W9 {xs:List Int}: ∀{i:Nat},(∀j,j<i→FH xs j)→(i:Int)≤yJ xs i∧yJ xs i≤16*i
 |0,_=>by simp [yJ]
 |i+1,h=>by
  have ih:=W9 (i:=i) fun j hj=>h j (by omega)
  have:=(h i (by omega)).1
  simp only [yJ]
  omega
theorem yK.pos {xs:List Int} (h:yK xs):1≤BG xs:=by
 have:=(W9 h.2.1).1
 have:=h.1
 rw [BG]
 omega
def at3 (xss:List (List Int)) (i:Nat):List Int:=xss.getD i []
def Xa (xss:List (List Int)):Prop:=xss.length=3∧ ∀i,i<3→yK (at3 xss i)∧BG (at3 xss i)=BG (at3 xss 0)
instance (xss:List (List Int)):Decidable (Xa xss):=by unfold Xa;infer_instance
end Go.Bm
