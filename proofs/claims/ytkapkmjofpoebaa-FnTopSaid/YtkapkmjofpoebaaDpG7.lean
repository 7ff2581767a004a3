/- Dp8, DpI, DpR, DpT, DpPh, DpH, DpJ, DpPi, DpPj -/
import Derived.Test.YtkapkmjofpoebaaDpG2
import Derived.Test.YtkapkmjofpoebaaDpG3
import Derived.Test.YtkapkmjofpoebaaDpG5
import Derived.Test.YtkapkmjofpoebaaDpG6
set_option linter.unusedVariables false
set_option linter.unusedSimpArgs false
namespace Go.Bm
open Go Go.Am
theorem XY {a b w:List Nat} {v:Value} (ha:a.length=32) (hb:b.length=32) (hw:w.length=32):bK (dA (List.replicate 32 v) 3) [(0,32,PL a),(32,32,PL b),(64,32,PL w)]=some ([a,b,w].flatten.map N8):=by
 rw [show (64:Nat)=32+32 from rfl,aeU ha hb hw]
 simp
theorem KC {a b:List Nat} {v:Value} (ha:a.length=32) (hb:b.length=32):bK (dA (List.replicate 32 v) 2) [(0,32,PL a),(32,32,PL b)]=some ([a,b].flatten.map N8):=by
 rw [UF ha hb]
 simp
def Fl (n:Int) (c t s:List Nat):Prop:=(4≤n∧n≤32)∧n.tmod 4=0∧Pairs c n∧Pairs t n∧Pairs s n∧(∀x:Nat,x<n.toNat→nl s (nl c x)=nl c (nl s x)∧nl s (nl c x)≠x)∧(fD [c,t,s] n.toNat).2.length=1
instance (n:Int) (c t s:List Nat):Decidable (Fl n c t s):=by unfold Fl;infer_instance
theorem Pairs.lt {l:List Nat} {n:Int} (h:Pairs l n) (hn:n≤32) (hl:By 32 l) (hn0:0≤n): ∀i,nl l i<32:=fun i=>by
 rcases Nat.lt_or_ge i 32 with hi|hi
 ·have:=h i hi
  by_cases hin:(i:Int)<n
  ·have:=(this.2 hin).1;omega
  ·rw [this.1 (by omega)];omega
 ·rw [Hg (by rw [hl.len];exact hi)];omega
theorem ls3 {c t s:List Nat} {j:Nat} (h:j<3):[c,t,s].getD j []=c∨[c,t,s].getD j []=t∨[c,t,s].getD j []=s:=by
 have:j=0∨j=1∨j=2:=by omega
 rcases this with rfl|rfl|rfl
 ·exact .inl rfl
 ·exact .inr (.inl rfl)
 ·exact .inr (.inr rfl)
theorem ahX {x:Bool} {n:Int} {c t s:List Nat} {H:BH} {K:Value→BH→Prop} (hcc:By 32 c) (ht:By 32 t) (hs:By 32 s) (hK:K (.bool (decide (Fl n c t s))) H):aQ x YX [FV n c t s] H K:=by
 have hlc:=hcc.len
 have hlt:=ht.len
 have hls:=hs.len
 refine dR (by exact .cons J7 .nil) ?_
 refine bF aal ?_;simp only [cZ,aI]
 refine au fun Kr hKr=>?_;simp (disch:=omega) only [RA,↓reduceIte,Nat.reduceEqDiff,RD,gJ];refine hKr _ _ ?_;clear hKr Kr;(try simp only [RN,reduceIte]);try refine ah rfl ?_
 by_cases h1:n<4
 ·refine au fun Kr hKr=>?_;simp (disch:=omega) only [RA,↓reduceIte,Nat.reduceEqDiff,RD,gJ,h1];refine hKr _ _ ?_;clear hKr Kr;(try simp only [RN,reduceIte]);try refine ah rfl ?_
  refine dG (t:=true) (by simp (disch:=omega) only [RA,↓reduceIte,Nat.reduceEqDiff,Nat.reduceBEq,Nat.reduceSub,Nat.reduceAdd,Nat.reduceMul,Nat.reduceLT,Nat.reduceLeDiff,Int.reduceLE,Int.reduceLT,Int.reduceEq,Int.reduceNeg,Int.reduceToNat,Int.reduceMul,Int.reduceAdd,Int.reduceSub,Int.reduceBEq,Int.reduceBNe,reduceCtorEq,RD]) ?_;(try simp only [RN,reduceIte]);try refine ah rfl ?_
  refine au fun Kr hKr=>?_;simp (disch:=omega) only [RA,↓reduceIte,Nat.reduceEqDiff,Nat.reduceBEq,Nat.reduceSub,Nat.reduceAdd,Nat.reduceMul,Nat.reduceLT,Nat.reduceLeDiff,Int.reduceLE,Int.reduceLT,Int.reduceEq,Int.reduceNeg,Int.reduceToNat,Int.reduceMul,Int.reduceAdd,Int.reduceSub,Int.reduceBEq,Int.reduceBNe,reduceCtorEq,RD];refine hKr _ _ ?_;clear hKr Kr;(try simp only [RN,reduceIte]);try refine ah rfl ?_
  refine aS (by simp (disch:=omega) only [RA,↓reduceIte,Nat.reduceEqDiff,Nat.reduceBEq,Nat.reduceSub,Nat.reduceAdd,Nat.reduceMul,Nat.reduceLT,Nat.reduceLeDiff,Int.reduceLE,Int.reduceLT,Int.reduceEq,Int.reduceNeg,Int.reduceToNat,Int.reduceMul,Int.reduceAdd,Int.reduceSub,Int.reduceBEq,Int.reduceBNe,reduceCtorEq,RD,aG,aO];rfl) aC.refl ?_;simp only [aH]
  have: ¬Fl n c t s:=fun h=>by have:=h.1;omega
  exact ⟨NN.bool,by simpa [this] using hK⟩
 by_cases h2:32<n
 ·refine au fun Kr hKr=>?_;simp (disch:=omega) only [RA,↓reduceIte,Nat.reduceEqDiff,RD,gJ,h1,h2];refine hKr _ _ ?_;clear hKr Kr;(try simp only [RN,reduceIte]);try refine ah rfl ?_
  refine dG (t:=true) (by simp (disch:=omega) only [RA,↓reduceIte,Nat.reduceEqDiff,Nat.reduceBEq,Nat.reduceSub,Nat.reduceAdd,Nat.reduceMul,Nat.reduceLT,Nat.reduceLeDiff,Int.reduceLE,Int.reduceLT,Int.reduceEq,Int.reduceNeg,Int.reduceToNat,Int.reduceMul,Int.reduceAdd,Int.reduceSub,Int.reduceBEq,Int.reduceBNe,reduceCtorEq,RD]) ?_;(try simp only [RN,reduceIte]);try refine ah rfl ?_
  refine au fun Kr hKr=>?_;simp (disch:=omega) only [RA,↓reduceIte,Nat.reduceEqDiff,Nat.reduceBEq,Nat.reduceSub,Nat.reduceAdd,Nat.reduceMul,Nat.reduceLT,Nat.reduceLeDiff,Int.reduceLE,Int.reduceLT,Int.reduceEq,Int.reduceNeg,Int.reduceToNat,Int.reduceMul,Int.reduceAdd,Int.reduceSub,Int.reduceBEq,Int.reduceBNe,reduceCtorEq,RD];refine hKr _ _ ?_;clear hKr Kr;(try simp only [RN,reduceIte]);try refine ah rfl ?_
  refine aS (by simp (disch:=omega) only [RA,↓reduceIte,Nat.reduceEqDiff,Nat.reduceBEq,Nat.reduceSub,Nat.reduceAdd,Nat.reduceMul,Nat.reduceLT,Nat.reduceLeDiff,Int.reduceLE,Int.reduceLT,Int.reduceEq,Int.reduceNeg,Int.reduceToNat,Int.reduceMul,Int.reduceAdd,Int.reduceSub,Int.reduceBEq,Int.reduceBNe,reduceCtorEq,RD,aG,aO];rfl) aC.refl ?_;simp only [aH]
  have: ¬Fl n c t s:=fun h=>by have:=h.1;omega
  exact ⟨NN.bool,by simpa [this] using hK⟩
 by_cases h3:n.tmod 4=0
 case neg=>
  refine au fun Kr hKr=>?_;simp (disch:=omega) only [RA,↓reduceIte,Nat.reduceEqDiff,Nat.reduceBEq,Nat.reduceSub,Nat.reduceAdd,Nat.reduceMul,Nat.reduceLT,Nat.reduceLeDiff,Int.reduceLE,Int.reduceLT,Int.reduceEq,Int.reduceNeg,Int.reduceToNat,Int.reduceMul,Int.reduceAdd,Int.reduceSub,Int.reduceBEq,Int.reduceBNe,reduceCtorEq,RD,gJ,h1,h2,h3];refine hKr _ _ ?_;clear hKr Kr;(try simp only [RN,reduceIte]);try refine ah rfl ?_
  refine dG (t:=true) (by simp (disch:=omega) only [RA,↓reduceIte,Nat.reduceEqDiff,Nat.reduceBEq,Nat.reduceSub,Nat.reduceAdd,Nat.reduceMul,Nat.reduceLT,Nat.reduceLeDiff,Int.reduceLE,Int.reduceLT,Int.reduceEq,Int.reduceNeg,Int.reduceToNat,Int.reduceMul,Int.reduceAdd,Int.reduceSub,Int.reduceBEq,Int.reduceBNe,reduceCtorEq,RD]) ?_;(try simp only [RN,reduceIte]);try refine ah rfl ?_
  refine au fun Kr hKr=>?_;simp (disch:=omega) only [RA,↓reduceIte,Nat.reduceEqDiff,Nat.reduceBEq,Nat.reduceSub,Nat.reduceAdd,Nat.reduceMul,Nat.reduceLT,Nat.reduceLeDiff,Int.reduceLE,Int.reduceLT,Int.reduceEq,Int.reduceNeg,Int.reduceToNat,Int.reduceMul,Int.reduceAdd,Int.reduceSub,Int.reduceBEq,Int.reduceBNe,reduceCtorEq,RD];refine hKr _ _ ?_;clear hKr Kr;(try simp only [RN,reduceIte]);try refine ah rfl ?_
  refine aS (by simp (disch:=omega) only [RA,↓reduceIte,Nat.reduceEqDiff,Nat.reduceBEq,Nat.reduceSub,Nat.reduceAdd,Nat.reduceMul,Nat.reduceLT,Nat.reduceLeDiff,Int.reduceLE,Int.reduceLT,Int.reduceEq,Int.reduceNeg,Int.reduceToNat,Int.reduceMul,Int.reduceAdd,Int.reduceSub,Int.reduceBEq,Int.reduceBNe,reduceCtorEq,RD,aG,aO];rfl) aC.refl ?_;simp only [aH]
  have: ¬Fl n c t s:=fun h=>h3 h.2.1
  exact ⟨NN.bool,by simpa [this] using hK⟩
 refine au fun Kr hKr=>?_;simp (disch:=omega) only [RA,↓reduceIte,Nat.reduceEqDiff,Nat.reduceBEq,Nat.reduceSub,Nat.reduceAdd,Nat.reduceMul,Nat.reduceLT,Nat.reduceLeDiff,Int.reduceLE,Int.reduceLT,Int.reduceEq,Int.reduceNeg,Int.reduceToNat,Int.reduceMul,Int.reduceAdd,Int.reduceSub,Int.reduceBEq,Int.reduceBNe,reduceCtorEq,RD,gJ,h1,h2,h3];refine hKr _ _ ?_;clear hKr Kr;(try simp only [RN,reduceIte]);try refine ah rfl ?_
 refine dG (t:=false) (by simp (disch:=omega) only [RA,↓reduceIte,Nat.reduceEqDiff,Nat.reduceBEq,Nat.reduceSub,Nat.reduceAdd,Nat.reduceMul,Nat.reduceLT,Nat.reduceLeDiff,Int.reduceLE,Int.reduceLT,Int.reduceEq,Int.reduceNeg,Int.reduceToNat,Int.reduceMul,Int.reduceAdd,Int.reduceSub,Int.reduceBEq,Int.reduceBNe,reduceCtorEq,RD]) ?_;(try simp only [RN,reduceIte]);try refine ah rfl ?_
 obtain ⟨n,rfl⟩:=Int.eq_ofNat_of_zero_le (show 0≤n by omega)
 have hall: ∀p∈[c,t,s],p.length=32:=by simp [hlc,hlt,hls]
 have hby: ∀p∈[c,t,s],By 32 p:=by simp;exact ⟨hcc,ht,hs⟩
 refine au fun Kr hKr=>?_;simp (disch:=omega) only [RA,↓reduceIte,Nat.reduceEqDiff,Nat.reduceBEq,Nat.reduceSub,Nat.reduceAdd,Nat.reduceMul,Nat.reduceLT,Nat.reduceLeDiff,Int.reduceLE,Int.reduceLT,Int.reduceEq,Int.reduceNeg,Int.reduceToNat,Int.reduceMul,Int.reduceAdd,Int.reduceSub,Int.reduceBEq,Int.reduceBNe,reduceCtorEq,RD,gJ,jT,XY];refine hKr _ _ ?_;clear hKr Kr;(try simp only [RN,reduceIte]);try refine ah rfl ?_
 refine bU (fun m f H'=> ∃j,j≤3∧m=3-j∧(∀i,i<j→Pairs ([c,t,s].getD i []) n)∧f 1=P 0 0∧f 30=S 1 0 3 32∧f 31=I 3∧f 32=I j∧H'=[some (FC n c t s),some ([c,t,s].flatten.map N8)]) (3) ?_ ?_
 ·refine ⟨_,_,Gh.refl,0,by omega,by omega,by omega,?_,?_,?_,?_,rfl⟩
  any_goals (simp (disch:=omega) only [RA,↓reduceIte,Nat.reduceEqDiff,Nat.reduceBEq,Nat.reduceSub,Nat.reduceAdd,Nat.reduceMul,Nat.reduceLT,Nat.reduceLeDiff,Int.reduceLE,Int.reduceLT,Int.reduceEq,Int.reduceNeg,Int.reduceToNat,Int.reduceMul,Int.reduceAdd,Int.reduceSub,Int.reduceBEq,Int.reduceBNe,reduceCtorEq,RD,RE, *]<;>rfl)
 ·rintro m f H' R ⟨j,hj,rfl,hat,g1,BN,BO,wS,rfl⟩ hN hX hR hE
  simp only [cZ.l1,aI]
  refine au fun Kr hKr=>?_;simp (disch:=omega) only [RA,↓reduceIte,Nat.reduceEqDiff,Nat.reduceBEq,Nat.reduceSub,Nat.reduceAdd,Nat.reduceMul,Nat.reduceLT,Nat.reduceLeDiff,Int.reduceLE,Int.reduceLT,Int.reduceEq,Int.reduceNeg,Int.reduceToNat,Int.reduceMul,Int.reduceAdd,Int.reduceSub,Int.reduceBEq,Int.reduceBNe,reduceCtorEq,RD,BO,wS];refine hKr _ _ ?_;clear hKr Kr;(try simp only [RN,reduceIte]);try refine ah rfl ?_
  refine aX (p:=j<3) (by simp only [RA,↓reduceIte,Nat.reduceEqDiff,Nat.reduceBEq,Nat.reduceSub,Nat.reduceAdd,Nat.reduceMul,Nat.reduceLT,Nat.reduceLeDiff,Int.reduceLE,Int.reduceLT,Int.reduceEq,Int.reduceNeg,Int.reduceToNat,Int.reduceMul,Int.reduceAdd,Int.reduceSub,Int.reduceBEq,Int.reduceBNe,reduceCtorEq]<;>rfl) (by (try simp only [RB])<;>first|done|exact Iff.rfl|omega|simp) (fun hc=>?_) (fun hc=>?_)<;>(try simp only [RN,reduceIte])<;>(try refine ah rfl ?_)
  ·have hmem:[c,t,s].getD j []∈[c,t,s]:=getD_mem hc
   obtain ⟨l,hl⟩: ∃l,[c,t,s].getD j []=l:=⟨_,rfl⟩
   rw [hl] at hmem
   have hlb:=hby l hmem
   have hll:=hlb.len
   have hget:=IY (m:=32) hall (j:=j) hc
   rw [hl] at hget
   (first|refine bP rfl ?_|refine bQ rfl ?_);(try simp only [RN,reduceIte]);try refine ah rfl ?_
   refine au fun Kr hKr=>?_;simp (disch:=omega) only [RA,↓reduceIte,Nat.reduceEqDiff,Nat.reduceBEq,Nat.reduceSub,Nat.reduceAdd,Nat.reduceMul,Nat.reduceLT,Nat.reduceLeDiff,Int.reduceLE,Int.reduceLT,Int.reduceEq,Int.reduceNeg,Int.reduceToNat,Int.reduceMul,Int.reduceAdd,Int.reduceSub,Int.reduceBEq,Int.reduceBNe,reduceCtorEq,RD,BN,wS,hget];refine hKr _ _ ?_;clear hKr Kr;(try simp only [RN,reduceIte]);try refine ah rfl ?_
   refine au fun Kr hKr=>?_;simp (disch:=omega) only [RA,↓reduceIte,Nat.reduceEqDiff,Nat.reduceBEq,Nat.reduceSub,Nat.reduceAdd,Nat.reduceMul,Nat.reduceLT,Nat.reduceLeDiff,Int.reduceLE,Int.reduceLT,Int.reduceEq,Int.reduceNeg,Int.reduceToNat,Int.reduceMul,Int.reduceAdd,Int.reduceSub,Int.reduceBEq,Int.reduceBNe,reduceCtorEq,RD];refine hKr _ _ ?_;clear hKr Kr;(try simp only [RN,reduceIte]);try refine ah rfl ?_
   refine bU (fun m f H'=> ∃k,k≤32∧m=32-k∧(∀i,i<k→yO l n i)∧f 1=P 0 0∧f 4=P 2 0∧f 30=S 1 0 3 32∧f 31=I 3∧f 32=I j∧f 36=PL l∧f 37=I k∧H'=[some (FC n c t s),some ([c,t,s].flatten.map N8),some (l.map N8)]) (32) ?_ ?_
   ·refine ⟨_,_,Gh.refl,0,by omega,by omega,by omega,?_,?_,?_,?_,?_,?_,?_,rfl⟩
    any_goals (simp (disch:=omega) only [RA,↓reduceIte,Nat.reduceEqDiff,RD,RE, *]<;>rfl)
   ·clear g1 BN BO wS
    rintro m f H' R2 ⟨k,hk,rfl,BP,g1,g4,BN,BO,wS,BK,sW,rfl⟩ gB hX2 hR2 hE2
    simp only [cZ.l0,aI]
    refine au fun Kr hKr=>?_;simp (disch:=omega) only [RA,↓reduceIte,Nat.reduceEqDiff,RD,sW];refine hKr _ _ ?_;clear hKr Kr;(try simp only [RN,reduceIte]);try refine ah rfl ?_
    refine aX (p:=k<32) (by simp only [RA,↓reduceIte,Nat.reduceEqDiff]<;>rfl) (by (try simp only [RB])<;>first|done|exact Iff.rfl|omega|simp) (fun hc=>?_) (fun hc=>?_)<;>(try simp only [RN,reduceIte])<;>(try refine ah rfl ?_)
    ·have hkl:=hlb.lt k
     have hnext: ∀f',f' 1=P 0 0→f' 4=P 2 0→f' 30=S 1 0 3 32→f' 31=I 3→f' 32=I j→f' 36=PL l→f' 37=I k→yO l n k→T 0 cZ.gQ R2 f' [some (FC n c t s),some ([c,t,s].flatten.map N8),some (l.map N8)]:=by
      intro f' g1 g4 BN BO wS BK sW hp
      refine bH fun Kr hKr=>?_;simp (disch:=omega) only [RA,↓reduceIte,Nat.reduceEqDiff,RD,sW];refine hKr _ _ ?_;clear hKr Kr
      refine gB (32-(k+1)) _ _ _ _ (by omega) Gh.refl ⟨k+1,by omega,rfl,fun i hi=>?_,?_,?_,?_,?_,?_,?_,?_,rfl⟩
      any_goals (simp (disch:=omega) only [RA,↓reduceIte,Nat.reduceEqDiff,RD,RE, *]<;>rfl)
      rcases Nat.lt_or_ge i k with h|h
      ·exact BP i h
      ·obtain rfl:i=k:=by omega
       exact hp
     have hbad: ¬yO l n k→ ¬Fl n c t s:=fun hno h=>by
      have key:Pairs l n:=by
       rcases ls3 (c:=c) (t:=t) (s:=s) (show j<3 by assumption) with e|e|e
       ·rw [hl] at e;rw [e];exact h.2.2.1
       ·rw [hl] at e;rw [e];exact h.2.2.2.1
       ·rw [hl] at e;rw [e];exact h.2.2.2.2.1
      exact hno (key k (by omega))
     refine lV (ou ?_);(try simp only [RN,reduceIte]);try refine ah rfl ?_
     refine au fun Kr hKr=>?_;simp (disch:=omega) only [RA,↓reduceIte,Nat.reduceEqDiff,RD,BK,sW];refine hKr _ _ ?_;clear hKr Kr;(try simp only [RN,reduceIte]);try refine ah rfl ?_
     refine au fun Kr hKr=>?_;simp (disch:=omega) only [RA,↓reduceIte,Nat.reduceEqDiff,RD,gJ,g1];refine hKr _ _ ?_;clear hKr Kr;(try simp only [RN,reduceIte]);try refine ah rfl ?_
     refine aX (p:=n≤k) (by simp only [RA,↓reduceIte,Nat.reduceEqDiff]<;>rfl) (by (try simp only [RB])<;>first|done|exact Iff.rfl|omega|simp) (fun hc=>?_) (fun hc=>?_)<;>(try simp only [RN,reduceIte])<;>(try refine ah rfl ?_)
     ·refine au fun Kr hKr=>?_;simp (disch:=omega) only [RA,↓reduceIte,Nat.reduceEqDiff,RD];refine hKr _ _ ?_;clear hKr Kr;(try simp only [RN,reduceIte]);try refine ah rfl ?_
      refine aX (p:=nl l k≠0) (by simp only [RA,↓reduceIte,Nat.reduceEqDiff]<;>rfl) (by (try simp only [RB])<;>first|done|exact Iff.rfl|omega|simp) (fun hc=>?_) (fun hc=>?_)<;>(try simp only [RN,reduceIte])<;>(try refine ah rfl ?_)
      ·refine au fun Kr hKr=>?_;simp (disch:=omega) only [RA,↓reduceIte,Nat.reduceEqDiff,RD];refine hKr _ _ ?_;clear hKr Kr;(try simp only [RN,reduceIte]);try refine ah rfl ?_
       refine hR2 _ _ (hR _ _ ?_)
       refine aS (by simp (disch:=omega) only [RA,↓reduceIte,Nat.reduceEqDiff,Nat.reduceBEq,Nat.reduceSub,Nat.reduceAdd,Nat.reduceMul,Nat.reduceLT,Nat.reduceLeDiff,Int.reduceLE,Int.reduceLT,Int.reduceEq,Int.reduceNeg,Int.reduceToNat,Int.reduceMul,Int.reduceAdd,Int.reduceSub,Int.reduceBEq,Int.reduceBNe,reduceCtorEq,RD,aG,aO];rfl) aC.refl ?_;simp only [aH]
       have:=hbad fun h=>hc (h.1 (by omega))
       exact ⟨NN.bool,by simpa [this] using hK⟩
      ·(try simp only [RN,reduceIte]);try refine ah rfl ?_
       simp only [aK,aP,aN,if_true]
       refine hnext _ ?_ ?_ ?_ ?_ ?_ ?_ ?_ ⟨fun _=>by omega,fun h=>by omega⟩
       any_goals (simp (disch:=omega) only [RA,↓reduceIte,Nat.reduceEqDiff,RD,RE, *]<;>rfl)
     ·by_cases c1:n≤nl l k
      ·have c1':(n:Int)≤nl l k:=by omega
       refine au fun Kr hKr=>?_;simp (disch:=omega) only [RA,↓reduceIte,Nat.reduceEqDiff,RD,gJ,g1,c1];refine hKr _ _ ?_;clear hKr Kr;(try simp only [RN,reduceIte]);try refine ah rfl ?_
       refine lW (t:=true) (by simp (disch:=omega) only [RA,↓reduceIte,Nat.reduceEqDiff,RD]) ?_;(try simp only [RN,reduceIte]);try refine ah rfl ?_
       refine au fun Kr hKr=>?_;simp (disch:=omega) only [RA,↓reduceIte,Nat.reduceEqDiff,Nat.reduceBEq,Nat.reduceSub,Nat.reduceAdd,Nat.reduceMul,Nat.reduceLT,Nat.reduceLeDiff,Int.reduceLE,Int.reduceLT,Int.reduceEq,Int.reduceNeg,Int.reduceToNat,Int.reduceMul,Int.reduceAdd,Int.reduceSub,Int.reduceBEq,Int.reduceBNe,reduceCtorEq,RD];refine hKr _ _ ?_;clear hKr Kr;(try simp only [RN,reduceIte]);try refine ah rfl ?_
       refine hR2 _ _ (hR _ _ ?_)
       refine aS (by simp (disch:=omega) only [RA,↓reduceIte,Nat.reduceEqDiff,Nat.reduceBEq,Nat.reduceSub,Nat.reduceAdd,Nat.reduceMul,Nat.reduceLT,Nat.reduceLeDiff,Int.reduceLE,Int.reduceLT,Int.reduceEq,Int.reduceNeg,Int.reduceToNat,Int.reduceMul,Int.reduceAdd,Int.reduceSub,Int.reduceBEq,Int.reduceBNe,reduceCtorEq,RD,aG,aO];rfl) aC.refl ?_;simp only [aH]
       have:=hbad fun h=>by have:=(h.2 (by omega)).1;omega
       exact ⟨NN.bool,by simpa [this] using hK⟩
      ·have c1': ¬(n:Int)≤nl l k:=by omega
       by_cases c2:nl l k=k
       ·refine au fun Kr hKr=>?_;simp (disch:=omega) only [RA,↓reduceIte,Nat.reduceEqDiff,RD,gJ,g1,sW,c1,c2];refine hKr _ _ ?_;clear hKr Kr;(try simp only [RN,reduceIte]);try refine ah rfl ?_
        refine lW (t:=true) (by simp (disch:=omega) only [RA,↓reduceIte,Nat.reduceEqDiff,RD]) ?_;(try simp only [RN,reduceIte]);try refine ah rfl ?_
        refine au fun Kr hKr=>?_;simp (disch:=omega) only [RA,↓reduceIte,Nat.reduceEqDiff,Nat.reduceBEq,Nat.reduceSub,Nat.reduceAdd,Nat.reduceMul,Nat.reduceLT,Nat.reduceLeDiff,Int.reduceLE,Int.reduceLT,Int.reduceEq,Int.reduceNeg,Int.reduceToNat,Int.reduceMul,Int.reduceAdd,Int.reduceSub,Int.reduceBEq,Int.reduceBNe,reduceCtorEq,RD];refine hKr _ _ ?_;clear hKr Kr;(try simp only [RN,reduceIte]);try refine ah rfl ?_
        refine hR2 _ _ (hR _ _ ?_)
        refine aS (by simp (disch:=omega) only [RA,↓reduceIte,Nat.reduceEqDiff,Nat.reduceBEq,Nat.reduceSub,Nat.reduceAdd,Nat.reduceMul,Nat.reduceLT,Nat.reduceLeDiff,Int.reduceLE,Int.reduceLT,Int.reduceEq,Int.reduceNeg,Int.reduceToNat,Int.reduceMul,Int.reduceAdd,Int.reduceSub,Int.reduceBEq,Int.reduceBNe,reduceCtorEq,RD,aG,aO];rfl) aC.refl ?_;simp only [aH]
        have:=hbad fun h=>(h.2 (by omega)).2.1 c2
        exact ⟨NN.bool,by simpa [this] using hK⟩
       ·have c2': ¬(nl l k:Int)=k:=by omega
        have hkl2:=hlb.lt (nl l k)
        refine au fun Kr hKr=>?_;simp (disch:=omega) only [RA,↓reduceIte,Nat.reduceEqDiff,RD,gJ,g1,g4,sW,c1,c2,hll];refine hKr _ _ ?_;clear hKr Kr;(try simp only [RN,reduceIte]);try refine ah rfl ?_
        refine qN (p:=nl l (nl l k)≠k) (by simp only [RA,↓reduceIte,Nat.reduceEqDiff]<;>rfl) (by (try simp only [RB])<;>first|done|exact Iff.rfl|omega|simp) (fun hc=>?_) (fun hc=>?_)<;>(try simp only [RN,reduceIte])<;>(try refine ah rfl ?_)
        ·refine au fun Kr hKr=>?_;simp (disch:=omega) only [RA,↓reduceIte,Nat.reduceEqDiff,RD];refine hKr _ _ ?_;clear hKr Kr;(try simp only [RN,reduceIte]);try refine ah rfl ?_
         refine hR2 _ _ (hR _ _ ?_)
         refine aS (by simp (disch:=omega) only [RA,↓reduceIte,Nat.reduceEqDiff,Nat.reduceBEq,Nat.reduceSub,Nat.reduceAdd,Nat.reduceMul,Nat.reduceLT,Nat.reduceLeDiff,Int.reduceLE,Int.reduceLT,Int.reduceEq,Int.reduceNeg,Int.reduceToNat,Int.reduceMul,Int.reduceAdd,Int.reduceSub,Int.reduceBEq,Int.reduceBNe,reduceCtorEq,RD,aG,aO];rfl) aC.refl ?_;simp only [aH]
         have:=hbad fun h=>hc (h.2 (by omega)).2.2
         exact ⟨NN.bool,by simpa [this] using hK⟩
        ·(try simp only [RN,reduceIte]);try refine ah rfl ?_
         simp only [aK,aP,aN,if_true]
         refine hnext _ ?_ ?_ ?_ ?_ ?_ ?_ ?_ ⟨fun h=>by omega,fun _=>⟨by omega,c2,Decidable.not_not.1 hc⟩⟩
         any_goals (simp (disch:=omega) only [RA,↓reduceIte,Nat.reduceEqDiff,RD,RE, *]<;>rfl)
    ·refine hX2 _ _ ?_
     refine bH fun Kr hKr=>?_;simp (disch:=omega) only [RA,↓reduceIte,Nat.reduceEqDiff,RD,wS];refine hKr _ _ ?_;clear hKr Kr
     refine hN (3-(j+1)) _ _ _ _ (by omega) (Gh.nrm [0,1] rfl rfl (by simp only [RH])) ⟨j+1,by omega,rfl,fun i hi=>?_,?_,?_,?_,?_,rfl⟩
     any_goals (simp (disch:=omega) only [RA,↓reduceIte,Nat.reduceEqDiff,RD,RE, *]<;>rfl)
     rcases Nat.lt_or_ge i j with h|h
     ·exact hat i h
     ·obtain rfl:i=j:=by omega
      rw [hl]
      exact fun i hi=>BP i (by omega)
  ·refine hX _ _ ?_
   have p1:Pairs c n:=hat 0 (by omega)
   have p2:Pairs t n:=hat 1 (by omega)
   have p3:Pairs s n:=hat 2 (by omega)
   have hc32:=p1.lt (by omega) hcc (by omega)
   have F7:=p2.lt (by omega) ht (by omega)
   have yQ:=p3.lt (by omega) hs (by omega)
   have hfl:(∀x,x<n→nl s (nl c x)=nl c (nl s x)∧nl s (nl c x)≠x)∧(fD [c,t,s] n).2.length=1↔Fl n c t s:=⟨fun h=>⟨⟨by omega,by omega⟩,h3,p1,p2,p3,h.1,h.2⟩,fun h=>⟨h.2.2.2.2.2.1,h.2.2.2.2.2.2⟩⟩
   (try simp only [RN,reduceIte]);try refine ah rfl ?_
   refine au fun Kr hKr=>?_;simp (disch:=omega) only [RA,↓reduceIte,Nat.reduceEqDiff,RD,gJ,g1];refine hKr _ _ ?_;clear hKr Kr;(try simp only [RN,reduceIte]);try refine ah rfl ?_
   refine bU (fun m f H'=> ∃k,k≤n∧m=n-k∧(∀x,x<k→nl s (nl c x)=nl c (nl s x)∧nl s (nl c x)≠x)∧f 1=P 0 0∧f 69=I n∧f 70=I k∧H'=[some (FC n c t s),some ([c,t,s].flatten.map N8)]) (n) ?_ ?_
   ·refine ⟨_,_,Gh.refl,0,by omega,by omega,by omega,?_,?_,?_,rfl⟩
    any_goals (simp (disch:=omega) only [RA,↓reduceIte,Nat.reduceEqDiff,RD,RE, *]<;>rfl)
   ·clear g1 BN BO wS
    rintro m f H' R2 ⟨k,hk,rfl,BP,g1,g69,KD,rfl⟩ gB hX2 hR2 hE2
    simp only [cZ.l2,aI]
    refine au fun Kr hKr=>?_;simp (disch:=omega) only [RA,↓reduceIte,Nat.reduceEqDiff,RD,g69,KD];refine hKr _ _ ?_;clear hKr Kr;(try simp only [RN,reduceIte]);try refine ah rfl ?_
    refine aX (p:=k<n) (by simp only [RA,↓reduceIte,Nat.reduceEqDiff]<;>rfl) (by (try simp only [RB])<;>first|done|exact Iff.rfl|omega|simp) (fun hc=>?_) (fun hc=>?_)<;>(try simp only [RN,reduceIte])<;>(try refine ah rfl ?_)
    ·have hck:=hc32 k
     have hsk:=yQ k
     have hsc:=yQ (nl c k)
     have hcs:=hc32 (nl s k)
     (first|refine bP rfl ?_|refine bQ rfl ?_);(try simp only [RN,reduceIte]);try refine ah rfl ?_
     refine au fun Kr hKr=>?_;simp (disch:=omega) only [RA,↓reduceIte,Nat.reduceEqDiff,RD,KD];refine hKr _ _ ?_;clear hKr Kr;(try simp only [RN,reduceIte]);try refine ah rfl ?_
     refine au fun Kr hKr=>?_;simp (disch:=omega) only [RA,↓reduceIte,Nat.reduceEqDiff,RD,gJ,jT,g1];refine hKr _ _ ?_;clear hKr Kr;(try simp only [RN,reduceIte]);try refine ah rfl ?_
     by_cases e1:nl s (nl c k)=nl c (nl s k)
     ·by_cases e2:nl s (nl c k)=k
      ·have e2':nl c (nl s k)=k:=by omega
       refine au fun Kr hKr=>?_;simp (disch:=omega) only [RA,↓reduceIte,Nat.reduceEqDiff,RD,e1,e2,e2'];refine hKr _ _ ?_;clear hKr Kr;(try simp only [RN,reduceIte]);try refine ah rfl ?_
       refine dG (t:=true) (by simp (disch:=omega) only [RA,↓reduceIte,Nat.reduceEqDiff,Nat.reduceBEq,Nat.reduceSub,Nat.reduceAdd,Nat.reduceMul,Nat.reduceLT,Nat.reduceLeDiff,Int.reduceLE,Int.reduceLT,Int.reduceEq,Int.reduceNeg,Int.reduceToNat,Int.reduceMul,Int.reduceAdd,Int.reduceSub,Int.reduceBEq,Int.reduceBNe,reduceCtorEq,RD]) ?_;(try simp only [RN,reduceIte]);try refine ah rfl ?_
       refine au fun Kr hKr=>?_;simp (disch:=omega) only [RA,↓reduceIte,Nat.reduceEqDiff,Nat.reduceBEq,Nat.reduceSub,Nat.reduceAdd,Nat.reduceMul,Nat.reduceLT,Nat.reduceLeDiff,Int.reduceLE,Int.reduceLT,Int.reduceEq,Int.reduceNeg,Int.reduceToNat,Int.reduceMul,Int.reduceAdd,Int.reduceSub,Int.reduceBEq,Int.reduceBNe,reduceCtorEq,RD];refine hKr _ _ ?_;clear hKr Kr;(try simp only [RN,reduceIte]);try refine ah rfl ?_
       refine hR2 _ _ ?_
       refine aS (by simp (disch:=omega) only [RA,↓reduceIte,Nat.reduceEqDiff,Nat.reduceBEq,Nat.reduceSub,Nat.reduceAdd,Nat.reduceMul,Nat.reduceLT,Nat.reduceLeDiff,Int.reduceLE,Int.reduceLT,Int.reduceEq,Int.reduceNeg,Int.reduceToNat,Int.reduceMul,Int.reduceAdd,Int.reduceSub,Int.reduceBEq,Int.reduceBNe,reduceCtorEq,RD,aG,aO];rfl) aC.refl ?_;simp only [aH]
       have: ¬Fl n c t s:=fun h=>((hfl.2 h).1 k hc).2 e2
       exact ⟨NN.bool,by simpa [this] using hK⟩
      ·have e2': ¬nl c (nl s k)=k:=by omega
       refine au fun Kr hKr=>?_;simp (disch:=omega) only [RA,↓reduceIte,Nat.reduceEqDiff,RD,e1,e2,e2'];refine hKr _ _ ?_;clear hKr Kr;(try simp only [RN,reduceIte]);try refine ah rfl ?_
       refine dG (t:=false) (by simp (disch:=omega) only [RA,↓reduceIte,Nat.reduceEqDiff,Nat.reduceBEq,Nat.reduceSub,Nat.reduceAdd,Nat.reduceMul,Nat.reduceLT,Nat.reduceLeDiff,Int.reduceLE,Int.reduceLT,Int.reduceEq,Int.reduceNeg,Int.reduceToNat,Int.reduceMul,Int.reduceAdd,Int.reduceSub,Int.reduceBEq,Int.reduceBNe,reduceCtorEq,RD]) ?_;(try simp only [RN,reduceIte]);try refine ah rfl ?_
       refine bH fun Kr hKr=>?_;simp (disch:=omega) only [RA,↓reduceIte,Nat.reduceEqDiff,RD,KD];refine hKr _ _ ?_;clear hKr Kr
       refine gB (n-(k+1)) _ _ _ _ (by omega) Gh.refl ⟨k+1,by omega,rfl,fun i hi=>?_,?_,?_,?_,rfl⟩
       any_goals (simp (disch:=omega) only [RA,↓reduceIte,Nat.reduceEqDiff,RD,RE, *]<;>rfl)
       rcases Nat.lt_or_ge i k with h|h
       ·exact BP i h
       ·obtain rfl:i=k:=by omega
        exact ⟨e1,e2⟩
     ·refine au fun Kr hKr=>?_;simp (disch:=omega) only [RA,↓reduceIte,Nat.reduceEqDiff,RD,e1];refine hKr _ _ ?_;clear hKr Kr;(try simp only [RN,reduceIte]);try refine ah rfl ?_
      refine dG (t:=true) (by simp (disch:=omega) only [RA,↓reduceIte,Nat.reduceEqDiff,Nat.reduceBEq,Nat.reduceSub,Nat.reduceAdd,Nat.reduceMul,Nat.reduceLT,Nat.reduceLeDiff,Int.reduceLE,Int.reduceLT,Int.reduceEq,Int.reduceNeg,Int.reduceToNat,Int.reduceMul,Int.reduceAdd,Int.reduceSub,Int.reduceBEq,Int.reduceBNe,reduceCtorEq,RD]) ?_;(try simp only [RN,reduceIte]);try refine ah rfl ?_
      refine au fun Kr hKr=>?_;simp (disch:=omega) only [RA,↓reduceIte,Nat.reduceEqDiff,Nat.reduceBEq,Nat.reduceSub,Nat.reduceAdd,Nat.reduceMul,Nat.reduceLT,Nat.reduceLeDiff,Int.reduceLE,Int.reduceLT,Int.reduceEq,Int.reduceNeg,Int.reduceToNat,Int.reduceMul,Int.reduceAdd,Int.reduceSub,Int.reduceBEq,Int.reduceBNe,reduceCtorEq,RD];refine hKr _ _ ?_;clear hKr Kr;(try simp only [RN,reduceIte]);try refine ah rfl ?_
      refine hR2 _ _ ?_
      refine aS (by simp (disch:=omega) only [RA,↓reduceIte,Nat.reduceEqDiff,Nat.reduceBEq,Nat.reduceSub,Nat.reduceAdd,Nat.reduceMul,Nat.reduceLT,Nat.reduceLeDiff,Int.reduceLE,Int.reduceLT,Int.reduceEq,Int.reduceNeg,Int.reduceToNat,Int.reduceMul,Int.reduceAdd,Int.reduceSub,Int.reduceBEq,Int.reduceBNe,reduceCtorEq,RD,aG,aO];rfl) aC.refl ?_;simp only [aH]
      have: ¬Fl n c t s:=fun h=>e1 ((hfl.2 h).1 k hc).1
      exact ⟨NN.bool,by simpa [this] using hK⟩
    ·refine hX2 _ _ ?_
     have hfin: ∀x,x<n→nl s (nl c x)=nl c (nl s x)∧nl s (nl c x)≠x:=fun x hx=>BP x (by omega)
     refine au fun Kr hKr=>?_;simp (disch:=omega) only [RA,↓reduceIte,Nat.reduceEqDiff,Nat.reduceBEq,Nat.reduceSub,Nat.reduceAdd,Nat.reduceMul,Nat.reduceLT,Nat.reduceLeDiff,Int.reduceLE,Int.reduceLT,Int.reduceEq,Int.reduceNeg,Int.reduceToNat,Int.reduceMul,Int.reduceAdd,Int.reduceSub,Int.reduceBEq,Int.reduceBNe,reduceCtorEq,RD,gJ,jT,g1,XY]
     have h96:3*32=([c,t,s].flatten.map N8).length:=by simp [hlc,hlt,hls]
     refine qP 2 rfl (by simp only [RH]) ?_;simp only [RZ,jD h96]
     refine FZ (ls:=[c,t,s]) (by omega) (by simp) (by simp [hlc,hlt,hls]) (by simp;exact ⟨hc32,F7,yQ⟩) ?_
     simp (disch:=omega) only [RA,↓reduceIte,Nat.reduceEqDiff,RD]
     refine hKr _ _ ?_;clear hKr Kr;(try simp only [aK,aP,aN]);(try simp only [RN,reduceIte]);try refine ah rfl ?_
     refine aS (by simp (disch:=omega) only [RA,↓reduceIte,Nat.reduceEqDiff,Nat.reduceBEq,Nat.reduceSub,Nat.reduceAdd,Nat.reduceMul,Nat.reduceLT,Nat.reduceLeDiff,Int.reduceLE,Int.reduceLT,Int.reduceEq,Int.reduceNeg,Int.reduceToNat,Int.reduceMul,Int.reduceAdd,Int.reduceSub,Int.reduceBEq,Int.reduceBNe,reduceCtorEq,RD,aG,aO];rfl) aC.refl ?_;simp only [aH]
     refine ⟨NN.bool,?_⟩
     by_cases h8:(fD [c,t,s] n).2.length=1
     ·have:Fl n c t s:=hfl.1 ⟨hfin,h8⟩
      simpa [this,h8] using hK
     ·have: ¬Fl n c t s:=fun h=>h8 (hfl.2 h).2
      have h8': ¬((fD [c,t,s] n).2.length:Int)=1:=by omega
      simpa [this,h8'] using hK
end Go.Bm
namespace Go.Bm
open Go Go.Am
end Go.Bm
namespace Go.Bm
open Go Go.Am
end Go.Bm
namespace Go.Bm
open Go Go.Am
theorem ahY {c:List Nat} {x:Nat} (h:x∈c): ∃j,j<c.length∧nl c j=x:=by
 obtain ⟨i,hi,rfl⟩:=List.mem_iff_getElem.1 h
 exact ⟨i,hi,by simp [nl,List.getD,hi]⟩
structure og (ls:List (List Nat)) (m:Nat) (s0:List Bool) (d:Nat) (st:BS):Prop where
 bi:Bi m st
 new: ∀y,bl st.1 y=true→bl s0 y=true∨y∈st.2
 old: ∀y,bl s0 y=true→bl st.1 y=true
 le:d≤st.2.length
 done: ∀j,j<d→ ∀p∈ls,bl st.1 (nl p (nl st.2 j))=true
theorem KE {st:BS} {y z:Nat} (h:bl st.1 y=true):bl (visit st z).1 y=true:=by
 unfold visit
 split
 ·exact h
 ·show bl (st.1.set z true) y=true
  rw [jh]
  split
  ·rfl
  ·exact h
theorem ahZ {m:Nat} {st:BS} {y:Nat} (h:Bi m st) (hy:y<m):bl (visit st y).1 y=true:=by
 unfold visit
 split
 ·assumption
 ·show bl (st.1.set y true) y=true
  rw [jh,if_pos ⟨rfl,by rw [h.len];exact hy⟩]
theorem og.visit {ls:List (List Nat)} {m d y:Nat} {s0:List Bool} {st:BS} (h:og ls m s0 d st) (hy:y<m):og ls m s0 d (Bm.visit st y):=by
 obtain ⟨q,hq⟩:= @UD st y
 refine ⟨h.bi.visit hy,fun z hz=>?_,fun z hz=>KE (h.old z hz),?_,fun j hj p hp=>?_⟩
 ·unfold Bm.visit at hz⊢
  split at hz
  ·rename_i hb
   rw [if_pos hb]
   exact h.new z hz
  ·rename_i hb
   rw [if_neg hb]
   have hz':bl (st.1.set y true) z=true:=hz
   show bl s0 z=true∨z∈st.2++[y]
   rw [jh] at hz'
   split at hz'
   ·rename_i hc
    exact .inr (by simp [hc.1])
   ·rcases h.new z hz' with k|k
    ·exact .inl k
    ·exact .inr (by simp [k])
 ·rw [hq]
  have:=h.le
  simp
  omega
 ·have:nl (Bm.visit st y).2 j=nl st.2 j:=by rw [hq,oW,if_pos (by have:=h.le;omega)]
  rw [this]
  exact KE (h.done j hj p hp)
theorem og.round {ls:List (List Nat)} {m d z:Nat} {s0:List Bool}: ∀{l2:List (List Nat)} {st:BS},og ls m s0 d st→(∀p∈l2,nl p z<m)→og ls m s0 d (iJ l2 z st)∧(∀y,bl st.1 y=true→bl (iJ l2 z st).1 y=true)∧ ∀p∈l2,bl (iJ l2 z st).1 (nl p z)=true
 |[],st,h,_=>⟨h,fun y hy=>hy,by simp⟩
 |p::l2,st,h,hp=>by
  have h1:=h.visit (hp p (by simp))
  obtain ⟨h4,h5,h6⟩:=og.round (l2:=l2) h1 fun q hq=>hp q (by simp [hq])
  have e:iJ (p::l2) z st=iJ l2 z (Bm.visit st (nl p z)):=rfl
  rw [e]
  refine ⟨h4,fun y hy=>h5 y (KE hy),fun q hq=>?_⟩
  rcases List.mem_cons.1 hq with rfl|hq
  ·exact h5 _ (ahZ h.bi (hp _ (by simp)))
  ·exact h6 q hq
theorem og.bf {ls:List (List Nat)} {m:Nat} {s0:List Bool} {st:BS} (hl: ∀p∈ls,∀y,nl p y<m) (h:og ls m s0 0 st): ∀i,og ls m s0 (min i (Bm.bf ls st i).2.length) (Bm.bf ls st i)
 |0=>by rw [Nat.zero_min];exact h
 |i+1=>by
  have ih:=og.bf hl h i
  simp only [Bm.bf]
  generalize Bm.bf ls st i=s at ih⊢
  by_cases hi:i<s.2.length
  ·rw [if_pos hi]
   rw [Nat.min_eq_left (by omega)] at ih
   obtain ⟨h1,h2,h3⟩:=ih.round (z:=nl s.2 i) (l2:=ls) fun p hp=>hl p hp _
   obtain ⟨q,hq⟩:= @uY (nl s.2 i) ls s
   have hlen:i+1≤(iJ ls (nl s.2 i) s).2.length:=by rw [hq];simp;omega
   rw [Nat.min_eq_left hlen]
   refine ⟨h1.bi,h1.new,h1.old,hlen,fun j hj p hp=>?_⟩
   by_cases e:j=i
   ·subst e
    have:nl (iJ ls (nl s.2 j) s).2 j=nl s.2 j:=by rw [hq,oW,if_pos hi]
    rw [this]
    exact h3 p hp
   ·exact h1.done j (by omega) p hp
  ·rw [if_neg hi]
   rw [Nat.min_eq_right (by omega)] at ih
   rw [Nat.min_eq_right (by omega)]
   exact ih
end Go.Bm
set_option linter.unusedSectionVars false
namespace Go.Bm
open Go Go.Am
def nP (ls:List (List Nat)) (n x:Nat) (st:BS):Prop:= ∀y∈st.2,y<n∧dD ls n x y
theorem nP.visit {ls:List (List Nat)} {n x y:Nat} {st:BS} (h:nP ls n x st) (hy:y<n∧dD ls n x y):nP ls n x (visit st y):=by
 unfold Bm.visit
 split
 ·exact h
 ·intro z hz
  rcases List.mem_append.1 hz with hz|hz
  ·exact h z hz
  ·exact List.mem_singleton.1 hz▸hy
theorem nP.round {ls:List (List Nat)} {n x z:Nat} (hz:z<n) (hxz:dD ls n x z) (hl: ∀p∈ls,∀y,y<n→nl p y<n): ∀{l2:List (List Nat)} {st:BS},(∀p∈l2,p∈ls)→nP ls n x st→nP ls n x (iJ l2 z st)
 |[],st,_,h=>h
 |p::l2,st,hs,h=>nP.round hz hxz hl (l2:=l2) (fun q hq=>hs q (by simp [hq])) (h.visit ⟨hl p (hs p (by simp)) z hz,hxz.trans (.step (hs p (by simp)) hz)⟩)
theorem nP.bf {ls:List (List Nat)} {n x:Nat} {st:BS} (hl: ∀p∈ls,∀y,y<n→nl p y<n) (h:nP ls n x st): ∀i,nP ls n x (bf ls st i)
 |0=>h
 |i+1=>by
  have ih:=nP.bf hl h i
  simp only [Bm.bf]
  split
  ·rename_i hi
   have:=ih _ (eu hi)
   exact nP.round this.1 this.2 hl (fun _ h=>h) ih
  ·exact ih
structure ah0 (ls:List (List Nat)) (n k:Nat) (so:List Bool×List Nat) (L:List Nat):Prop where
 len:so.1.length=32
 cl: ∀y,bl so.1 y=true→ ∀p∈ls,bl so.1 (nl p y)=true
 upto: ∀i,i<k→bl so.1 i=true
 cnt:L.length=so.2.length
 lt: ∀x∈L,x<n∧bl so.1 x=true
 pw:L.Pairwise fun x y=> ¬dD ls n x y
 rep: ∀y,bl so.1 y=true→y<n∧ ∃x∈L,dD ls n y x
theorem XZ {ls:List (List Nat)} {n:Nat} (hn:n≤32) (hl: ∀p∈ls,∀i,nl p i<32) (hi: ∀p∈ls,∀y,y<n→nl p y<n∧nl p (nl p y)=y): ∀k,k≤n→ ∃L,ah0 ls n k (fD ls k) L
 |0,_=>by
  have h0: ∀y,bl (List.replicate 32 false) y=false:=fun y=>xQ
  exact ⟨[],List.length_replicate,fun y hy=>absurd ((h0 y).symm.trans hy) Bool.false_ne_true,fun i h=>absurd h (Nat.not_lt_zero i),rfl,by simp, .nil,fun y hy=>absurd ((h0 y).symm.trans hy) Bool.false_ne_true⟩
 |x+1,hk=>by
  obtain ⟨L,ih⟩:=XZ hn hl hi x (by omega)
  simp only [fD]
  generalize fD ls x=so at ih⊢
  by_cases hb:bl so.1 x=true
  ·rw [if_pos hb]
   refine ⟨L,ih.len,ih.cl,fun i h=>?_,ih.cnt,ih.lt,ih.pw,ih.rep⟩
   rcases Nat.lt_or_ge i x with h1|h1
   ·exact ih.upto i h1
   ·obtain rfl:i=x:=by omega
    exact hb
  ·rw [if_neg hb]
   have n0:bl so.1 x=false:=by simpa using hb
   have hx32:x<32:=by omega
   have hB:=Bi.iL ih.len hx32 n0
   have hC:og ls 32 so.1 0 (iL so.1 x):=by
    refine ⟨hB,fun y hy=>?_,fun y hy=>?_,Nat.zero_le _,fun j hj=>absurd hj (Nat.not_lt_zero j)⟩
    ·have hy':bl (so.1.set x true) y=true:=hy
     rw [jh] at hy'
     split at hy'
     ·rename_i hc
      exact .inr (by simp [iL,hc.1])
     ·exact .inl hy'
    ·show bl (so.1.set x true) y=true
     rw [jh]
     split
     ·rfl
     ·exact hy
   have hF:=hC.bf hl 32
   have hle:=(hB.bf hl 32).le
   have hR:nP ls n x (bf ls (iL so.1 x) 32):=nP.bf (fun p hp y hy=>(hi p hp y hy).1) (fun y hy=>by
    obtain rfl:=List.mem_singleton.1 hy
    exact ⟨by omega, .refl⟩) 32
   have hC2:og ls 32 (so.1.set x true) 0 (iL so.1 x):=⟨hB,fun y hy=> .inl hy,fun y hy=>hy,Nat.zero_le _,fun j hj=>absurd hj (Nat.not_lt_zero j)⟩
   have yM:bl (bf ls (iL so.1 x) 32).1 x=true:=(hC2.bf hl 32).old x (by rw [jh,if_pos ⟨rfl,by rw [ih.len];exact hx32⟩])
   rw [Nat.min_eq_right hle] at hF
   generalize bf ls (iL so.1 x) 32=st at hF hle hR yM⊢
   refine ⟨L++[x],hF.bi.len,fun y hy p hp=>?_,fun i h=>?_,by simp [ih.cnt],fun y hy=>?_,?_,fun y hy=>?_⟩
   ·show bl st.1 (nl p y)=true
    rcases hF.new y hy with h|h
    ·exact hF.old _ (ih.cl y h p hp)
    ·obtain ⟨j,hj,rfl⟩:=ahY h
     exact hF.done j hj p hp
   ·rcases Nat.lt_or_ge i x with h1|h1
    ·exact hF.old _ (ih.upto i h1)
    ·obtain rfl:i=x:=by omega
     exact yM
   ·rcases List.mem_append.1 hy with hy|hy
    ·exact ⟨(ih.lt y hy).1,hF.old _ (ih.lt y hy).2⟩
    ·obtain rfl:=List.mem_singleton.1 hy
     exact ⟨by omega,yM⟩
   ·refine List.pairwise_append.2 ⟨ih.pw,List.pairwise_singleton ..,fun u hu v hv ho=>?_⟩
    obtain rfl:=List.mem_singleton.1 hv
    have:=(ho (fun y=>bl so.1 y=true) fun t ht z hz=>⟨fun h=>ih.cl z h t ht,fun h=>by
     have:=ih.cl _ h t ht
     rwa [(hi t ht z hz).2] at this⟩).1 (ih.lt u hu).2
    rw [n0] at this;cases this
   ·rcases hF.new y hy with h|h
    ·obtain ⟨h1,u,h2,h3⟩:=ih.rep y h
     exact ⟨h1,u,by simp [h2],h3⟩
    ·exact ⟨(hR y h).1,x,by simp,(hR y h).2.symm⟩
theorem KF {ls:List (List Nat)} {n:Nat} (hn:n≤32) (hl: ∀p∈ls,∀i,nl p i<32) (hi: ∀p∈ls,∀y,y<n→nl p y<n∧nl p (nl p y)=y): ∃L,Cls n (dD ls n) L∧L.length=(fD ls n).2.length:=by
 obtain ⟨L,h⟩:=XZ hn hl hi n (Nat.le_refl _)
 exact ⟨L,⟨fun x hx=>(h.lt x hx).1,h.pw,fun x hx=>(h.rep x (h.upto x hx)).2⟩,h.cnt⟩
end Go.Bm
namespace Go.Bm
open Go Go.Am
def iF (b w:List Nat) (n:Nat):Nat→List Nat
 |0=>gu
 |k+1=>((iF b w n k).set k (nl b k)).set (n+k) (n+nl w k)
def iT (n:Nat):Nat→List Nat
 |0=>gu
 |k+1=>((iT n k).set k (n+k)).set (n+k) k
theorem Jd {b w:List Nat} {n k:Nat}:(iF b w n k).length=16:=by
 induction k with
 |zero=>exact ji
 |succ k ih=>simp [iF,ih]
theorem Je {n k:Nat}:(iT n k).length=16:=by
 induction k with
 |zero=>exact ji
 |succ k ih=>simp [iT,ih]
def vg (n:Int) (b w:List Nat):(Int×List Nat×List Nat)×Int:=
 if¬aZ n b w then ((0,gu,gu),1) else if 2*n>16 then ((0,gu,gu),3) else ((2*n,iF b w n.toNat n.toNat,iT n.toNat n.toNat),0)
theorem afe {x:Bool} {n:Int} {b w:List Nat} {H:BH} {K:Value→BH→Prop} (hb:By 16 b) (hw:By 16 w)
  (hK:K (.tuple ⟨[DV (vg n b w).1.1 (vg n b w).1.2.1 (vg n b w).1.2.2,I (vg n b w).2]⟩) H):aQ x YM [DV n b w] H K:=by
 have hlb:=hb.len
 have dI:=hw.len
 have hz:=ji
 refine dR (by exact .cons iK .nil) ?_
 refine bF ZX ?_;simp only [fF,aI]
 refine au fun Kr hKr=>?_;simp (disch:=omega) only [RA,↓reduceIte,Nat.reduceEqDiff,RD,aF];refine hKr _ _ ?_;clear hKr Kr;(try simp only [RN,reduceIte]);try refine ah rfl ?_
 refine au fun Kr hKr=>?_;simp (disch:=omega) only [RA,↓reduceIte,Nat.reduceEqDiff,RD,aF];refine hKr _ _ ?_;clear hKr Kr;(try simp only [RN,reduceIte]);try refine ah rfl ?_
 refine lV (ou ?_);(try simp only [RN,reduceIte]);try refine ah rfl ?_
 refine au fun Kr hKr=>?_;simp (disch:=omega) only [RA,↓reduceIte,Nat.reduceEqDiff,RD,aF,aU]
 refine oZ hb hw ?_
 simp (disch:=omega) only [RA,↓reduceIte,Nat.reduceEqDiff,RD]
 refine hKr _ _ ?_;clear hKr Kr;(try simp only [aK,aP,aN]);(try simp only [RN,reduceIte]);try refine ah rfl ?_
 refine qN (p:= ¬aZ n b w) (by simp only [RA,↓reduceIte,Nat.reduceEqDiff]<;>rfl) (by (try simp only [RB])<;>first|done|exact Iff.rfl|omega|simp) (fun hc=>?_) (fun hc=>?_)<;>(try simp only [RN,reduceIte])<;>(try refine ah rfl ?_)
 ·refine au fun Kr hKr=>?_;simp (disch:=omega) only [RA,↓reduceIte,Nat.reduceEqDiff,RD,aF,aU];refine hKr _ _ ?_;clear hKr Kr;(try simp only [RN,reduceIte]);try refine ah rfl ?_
  simp only [aK,aP,aN,if_true]
  refine aS (by simp (disch:=omega) only [RA,↓reduceIte,Nat.reduceEqDiff,RD,aG,aO,aF,aU];rfl) aC.refl ?_;simp only [aH]
  rw [vg,if_pos hc] at hK
  exact ⟨sG,hK⟩
 have hd:=Decidable.not_not.1 hc
 obtain ⟨m,rfl,hm1,hm2⟩:=hd.n0
 rw [vg,if_neg (by simpa using hd)] at hK
 clear hc
 refine au fun Kr hKr=>?_;simp (disch:=omega) only [RA,↓reduceIte,Nat.reduceEqDiff,Nat.reduceAdd,RD,aF,aU];refine hKr _ _ ?_;clear hKr Kr;(try simp only [RN,reduceIte]);try refine ah rfl ?_
 refine qN (p:=2*(m:Int)>16) (by simp only [RA,↓reduceIte,Nat.reduceEqDiff]<;>rfl) (by (try simp only [RB])<;>first|done|exact Iff.rfl|omega|simp) (fun hc=>?_) (fun hc=>?_)<;>(try simp only [RN,reduceIte])<;>(try refine ah rfl ?_)
 ·refine au fun Kr hKr=>?_;simp (disch:=omega) only [RA,↓reduceIte,Nat.reduceEqDiff,RD,aF,aU];refine hKr _ _ ?_;clear hKr Kr;(try simp only [RN,reduceIte]);try refine ah rfl ?_
  simp only [aK,aP,aN,if_true]
  refine aS (by simp (disch:=omega) only [RA,↓reduceIte,Nat.reduceEqDiff,RD,aG,aO,aF,aU];rfl) aC.refl ?_;simp only [aH]
  rw [if_pos hc] at hK
  exact ⟨sG,hK⟩
 rw [if_neg hc] at hK
 have h8:m≤8:=by omega
 have hb16:=hd.1.qW hlb
 have hw16:=hd.2.1.qW dI
 clear hc
 simp only [aK,aP,aN,if_true]
 refine au fun Kr hKr=>?_;simp (disch:=omega) only [RA,↓reduceIte,Nat.reduceEqDiff,Nat.reduceAdd,RD,aF,aU];refine hKr _ _ ?_;clear hKr Kr;(try simp only [RN,reduceIte]);try refine ah rfl ?_
 simp only [Int.toNat_natCast] at hK
 obtain ⟨nn,hnn⟩: ∃nn:Int,2*(m:Int)=nn:=⟨_,rfl⟩
 rw [hnn] at hK
 refine au fun Kr hKr=>?_;simp (disch:=omega) only [RA,↓reduceIte,Nat.reduceEqDiff,RD];refine hKr _ _ ?_;clear hKr Kr;(try simp only [RN,reduceIte]);try refine ah rfl ?_
 refine bU (fun j f H'=> ∃k p q,k≤m∧j=m-k∧p=iF b w m k∧q=iT m k∧f 1=P 0 0∧f 2=P 1 0∧f 4=I m∧f 5=P 2 0∧f 22=I m∧f 23=I k∧H'=[some (DC m b w),some (DC 0 gu gu),some (DC nn p q)]) (m) ?_ ?_
 ·refine ⟨_,_,Gh.refl,0,gu,gu,by omega,by omega,rfl,rfl,?_,?_,?_,?_,?_,?_,by rw [←hnn]⟩
  any_goals (simp (disch:=omega) only [RA,↓reduceIte,Nat.reduceEqDiff,RD,RE, *]<;>rfl)
 ·rintro j f H' R ⟨k,p,q,hk,rfl,hp,hq,g1,g2,g4,g5,g22,g23,rfl⟩ hN hX hR hE
  simp only [fF.l0,aI]
  have hpl:p.length=16:=by rw [hp];exact Jd
  have bW:q.length=16:=by rw [hq];exact Je
  refine au fun Kr hKr=>?_;simp (disch:=omega) only [RA,↓reduceIte,Nat.reduceEqDiff,RD,g22,g23];refine hKr _ _ ?_;clear hKr Kr;(try simp only [RN,reduceIte]);try refine ah rfl ?_
  refine aX (p:=k<m) (by simp only [RA,↓reduceIte,Nat.reduceEqDiff]<;>rfl) (by (try simp only [RB])<;>first|done|exact Iff.rfl|omega|simp) (fun hc=>?_) (fun hc=>?_)<;>(try simp only [RN,reduceIte])<;>(try refine ah rfl ?_)
  ·have h1:=hb16 k
   have h2:=hw16 k
   have hp1:(p.set k (nl b k)).length=16:=by simp [hpl]
   have hq1:(q.set k (m+k)).length=16:=by simp [bW]
   have hp2:((p.set k (nl b k)).set (m+k) (m+nl w k)).length=16:=by simp [hpl]
   have e1:(m:Int)+(k:Int)=((m+k:Nat):Int):=by omega
   have e2:(m:Int)+(nl w k:Int)=((m+nl w k:Nat):Int):=by omega
   (first|refine bP rfl ?_|refine bQ rfl ?_);(try simp only [RN,reduceIte]);try refine ah rfl ?_
   refine au fun Kr hKr=>?_;simp (disch:=omega) only [RA,↓reduceIte,Nat.reduceEqDiff,RD,g23];refine hKr _ _ ?_;clear hKr Kr;(try simp only [RN,reduceIte]);try refine ah rfl ?_
   refine au fun Kr hKr=>?_;simp (disch:=omega) only [RA,↓reduceIte,Nat.reduceEqDiff,RD,g1,g5,aF,aU];refine hKr _ _ ?_;clear hKr Kr;(try simp only [RN,reduceIte]);try refine ah rfl ?_
   refine au fun Kr hKr=>?_;simp (disch:=omega) only [RA,↓reduceIte,Nat.reduceEqDiff,RD,g1,g4,g5,e1,e2,aF,aU];refine hKr _ _ ?_;clear hKr Kr;(try simp only [RN,reduceIte]);try refine ah rfl ?_
   refine au fun Kr hKr=>?_;simp (disch:=omega) only [RA,↓reduceIte,Nat.reduceEqDiff,RD,g4,g5,e1,aF,aU];refine hKr _ _ ?_;clear hKr Kr;(try simp only [RN,reduceIte]);try refine ah rfl ?_
   refine au fun Kr hKr=>?_;simp (disch:=omega) only [RA,↓reduceIte,Nat.reduceEqDiff,RD,g4,g5,e1,aF,aU];refine hKr _ _ ?_;clear hKr Kr;(try simp only [RN,reduceIte]);try refine ah rfl ?_
   refine bH fun Kr hKr=>?_;simp (disch:=omega) only [RA,↓reduceIte,Nat.reduceEqDiff,RD,g23];refine hKr _ _ ?_;clear hKr Kr
   refine hN (m-(k+1)) _ _ _ _ (by omega) Gh.refl ⟨k+1,_,_,by omega,rfl,by rw [iF,←hp],by rw [iT,←hq],?_,?_,?_,?_,?_,?_,rfl⟩
   any_goals (simp (disch:=omega) only [RA,↓reduceIte,Nat.reduceEqDiff,RD,RE, *]<;>rfl)
  ·refine hX _ _ ?_
   obtain rfl:k=m:=by omega
   refine au fun Kr hKr=>?_;simp (disch:=omega) only [RA,↓reduceIte,Nat.reduceEqDiff,RD,g2,g5,aF,aU];refine hKr _ _ ?_;clear hKr Kr;(try simp only [RN,reduceIte]);try refine ah rfl ?_
   refine aS (by simp (disch:=omega) only [RA,↓reduceIte,Nat.reduceEqDiff,RD,aG,aO,g2,aF,aU];rfl) aC.refl ?_;simp only [aH]
   rw [←hp,←hq] at hK
   exact ⟨sG,hK⟩
end Go.Bm
namespace Go.Bm
open Go Go.Am
theorem KG {st:BS} {y:Nat} (h:bl st.1 y=false):visit st y=(st.1.set y true,st.2++[y]):=by rw [visit,if_neg (by simp [h])]
theorem X0 {st:BS} {y:Nat} (h:bl st.1 y=true):visit st y=st:=by rw [visit,if_pos h]
theorem KH: ∀(l:List Bool) (n m:Nat),l.length=m→n≤m→(∀i,i<m→bl l i=decide (i<n))→l.count true=n
 |[],n,m,hl,hn,h=>by simp at hl;simp;omega
 |a::l,0,m,hl,hn,h=>by
  have h0:=h 0 (by simp at hl;omega)
  have ih:=KH l 0 (m-1) (by simp at hl;omega) (by omega) fun i hi=>by
   have:=h (i+1) (by omega)
   simpa [bl,List.getD] using this
  have:a=false:=by simpa [bl,List.getD] using h0
  subst this
  simpa using ih
 |a::l,n+1,m,hl,hn,h=>by
  have h0:=h 0 (by omega)
  have ih:=KH l n (m-1) (by simp at hl;omega) (by omega) fun i hi=>by
   have:=h (i+1) (by omega)
   simpa [bl,List.getD] using this
  have:a=true:=by simpa [bl,List.getD] using h0
  subst this
  simp [ih]
structure Four (c s:List Nat) (n k:Nat) (so:List Bool×List Nat):Prop where
 len:so.1.length=32
 lt: ∀i,bl so.1 i=true→i<n
 cl: ∀i,bl so.1 i=true→bl so.1 (nl c i)=true∧bl so.1 (nl s i)=true
 cnt:so.1.count true=4*so.2.length
 upto: ∀i,i<k→bl so.1 i=true
theorem ah1 {c s:List Nat} {se:List Bool} {x a b d:Nat} (hl:se.length=32) (hx:x<32) (ha:a<32) (hb:b<32) (hd:d<32) (hxa:x≠a) (hxb:x≠b) (hxd:x≠d) (hab:a≠b) (had:a≠d) (hbd:b≠d)
  (h1:nl c x=a) (h2:nl s x=b) (h3:nl c a=x) (h4:nl s a=d) (h5:nl c b=d) (h6:nl s b=x) (h7:nl c d=b) (h8:nl s d=a)
  (n0:bl se x=false) (n1:bl se a=false) (n2:bl se b=false) (n3:bl se d=false):
  bf [c,s] (iL se x) 32=((((se.set x true).set a true).set b true).set d true,[x,a,b,d]):=by
 have v1:visit (se.set x true,[x]) a=((se.set x true).set a true,[x,a]):=KG (st:=(se.set x true,[x])) (by simp [jh,n1,hxa.symm])
 have v2:visit ((se.set x true).set a true,[x,a]) b=(((se.set x true).set a true).set b true,[x,a,b]):=KG (st:=((se.set x true).set a true,[x,a])) (by simp [jh,n2,hxb.symm,hab.symm])
 have v3:visit (((se.set x true).set a true).set b true,[x,a,b]) x=(((se.set x true).set a true).set b true,[x,a,b]):=X0 (by simp [jh,hl,hx])
 have v4:visit (((se.set x true).set a true).set b true,[x,a,b]) d=((((se.set x true).set a true).set b true).set d true,[x,a,b,d]):=KG (st:=(((se.set x true).set a true).set b true,[x,a,b])) (by simp [jh,n3,hxd.symm,had.symm,hbd.symm])
 have w: ∀y,y=x∨y=a∨y=b∨y=d→visit ((((se.set x true).set a true).set b true).set d true,[x,a,b,d]) y=((((se.set x true).set a true).set b true).set d true,[x,a,b,d]):=by
  intro y hy
  refine X0 ?_
  rcases hy with rfl|rfl|rfl|rfl<;>simp [jh,hl,hx,ha,hb,hd]
 have e0:bf [c,s] (iL se x) 0=(se.set x true,[x]):=rfl
 have e1:bf [c,s] (iL se x) 1=(((se.set x true).set a true).set b true,[x,a,b]):=by
  rw [bf,e0,if_pos (by simp)]
  show visit (visit _ (nl c x)) (nl s x)=_
  rw [h1,h2,v1,v2]
 have e2:bf [c,s] (iL se x) 2=((((se.set x true).set a true).set b true).set d true,[x,a,b,d]):=by
  rw [bf,e1,if_pos (by simp)]
  show visit (visit _ (nl c a)) (nl s a)=_
  rw [h3,h4,v3,v4]
 have e3:bf [c,s] (iL se x) 3=((((se.set x true).set a true).set b true).set d true,[x,a,b,d]):=by
  rw [bf,e2,if_pos (by simp)]
  show visit (visit _ (nl c b)) (nl s b)=_
  rw [h5,h6,w d (by simp),w x (by simp)]
 have e4:bf [c,s] (iL se x) 4=((((se.set x true).set a true).set b true).set d true,[x,a,b,d]):=by
  rw [bf,e3,if_pos (by simp)]
  show visit (visit _ (nl c d)) (nl s d)=_
  rw [h7,h8,w b (by simp),w a (by simp)]
 rw [xR (i:=4) (by rw [e4];simp) 32 (by omega),e4]
theorem X3 {c s:List Nat} {n:Nat} (hn:n≤32) (hc: ∀x,x<n→nl c x<n∧nl c x≠x∧nl c (nl c x)=x) (hs: ∀x,x<n→nl s x<n∧nl s x≠x∧nl s (nl s x)=x)
  (hcs: ∀x,x<n→nl s (nl c x)=nl c (nl s x)∧nl s (nl c x)≠x): ∀k,k≤n→Four c s n k (fD [c,s] k)
 |0,_=>by
  have h0: ∀i,bl (fD [c,s] 0).1 i=false:=fun i=>xQ
  exact ⟨by simp [fD],fun i h=>(by rw [h0] at h;cases h),fun i h=>(by rw [h0] at h;cases h),by simp [fD],fun i h=>by omega⟩
 |x+1,hk=>by
  have ih:=X3 hn hc hs hcs x (by omega)
  simp only [fD]
  generalize fD [c,s] x=so at ih⊢
  split
  ·rename_i hb
   refine ⟨ih.len,ih.lt,ih.cl,ih.cnt,fun i hi=>?_⟩
   rcases Nat.lt_or_ge i x with h|h
   ·exact ih.upto i h
   ·obtain rfl:i=x:=by omega
    exact hb
  ·rename_i hb
   have n0:bl so.1 x=false:=by simpa using hb
   obtain ⟨c1,c2,c3⟩:=hc x (by omega)
   obtain ⟨s1,s2,s3⟩:=hs x (by omega)
   obtain ⟨d1,d2,d3⟩:=hs (nl c x) c1
   obtain ⟨k1,k2⟩:=hcs x (by omega)
   obtain ⟨m1,m2,m3⟩:=hc (nl s x) s1
   have hnot: ∀y,y<n→(nl c y=x∨nl s y=x∨nl s (nl c y)=x)→bl so.1 y=false:=by
    intro y hy h
    cases hby:bl so.1 y with
    |false=>rfl
    |true=>
     exfalso
     obtain ⟨q1,q2⟩:=ih.cl y hby
     rcases h with h|h|h
     ·rw [h] at q1;rw [q1] at n0;cases n0
     ·rw [h] at q2;rw [q2] at n0;cases n0
     ·have:=(ih.cl _ q1).2
      rw [h,n0] at this;cases this
   have n1:=hnot (nl c x) c1 (.inl c3)
   have n2:=hnot (nl s x) s1 (.inr (.inl s3))
   have e7:nl c (nl s (nl c x))=nl s x:=by rw [k1,m3]
   have n3:=hnot (nl s (nl c x)) d1 (.inr (.inr (by rw [e7,s3])))
   have hab:nl c x≠nl s x:=fun e=>by rw [e] at k2;exact k2 s3
   have had:nl c x≠nl s (nl c x):=fun e=>d2 e.symm
   have hbd:nl s x≠nl s (nl c x):=fun e=>by
    have:=congrArg (nl s) e
    rw [s3,d3] at this
    exact c2 this.symm
   rw [ah1 (x:=x) (a:=nl c x) (b:=nl s x) (d:=nl s (nl c x)) ih.len (by omega) (by omega) (by omega) (by omega) c2.symm s2.symm (fun e=>k2 e.symm) hab had hbd rfl rfl c3 rfl k1.symm s3 e7 d3 n0 n1 n2 n3]
   have hget: ∀i,bl ((((so.1.set x true).set (nl c x) true).set (nl s x) true).set (nl s (nl c x)) true) i=true↔(bl so.1 i=true∨i=x∨i=nl c x∨i=nl s x∨i=nl s (nl c x)):=by
    intro i
    simp only [jh,List.length_set,ih.len]
    by_cases h1:i=nl s (nl c x)
    ·simp [h1,show nl s (nl c x)<32 by omega]
    ·by_cases h2:i=nl s x
     ·simp [h2,show nl s x<32 by omega]
     ·by_cases h3:i=nl c x
      ·simp [h3,show nl c x<32 by omega]
      ·by_cases h4:i=x
       ·simp [h4,show x<32 by omega]
       ·simp [h1,h2,h3,h4]
   refine ⟨by simp [ih.len],fun i hi=>?_,fun i hi=>?_,?_,fun i hi=>?_⟩
   ·rcases (hget i).1 hi with h|rfl|rfl|rfl|rfl
    ·exact ih.lt i h
    ·omega
    ·exact c1
    ·exact s1
    ·exact d1
   ·show bl _ (nl c i)=true∧bl _ (nl s i)=true
    rw [hget,hget]
    rcases (hget i).1 hi with h|rfl|rfl|rfl|rfl
    ·exact ⟨.inl (ih.cl i h).1, .inl (ih.cl i h).2⟩
    ·exact ⟨.inr (.inr (.inl rfl)), .inr (.inr (.inr (.inl rfl)))⟩
    ·exact ⟨.inr (.inl c3), .inr (.inr (.inr (.inr rfl)))⟩
    ·exact ⟨.inr (.inr (.inr (.inr k1.symm))), .inr (.inl s3)⟩
    ·exact ⟨.inr (.inr (.inr (.inl e7))), .inr (.inr (.inl d3))⟩
   ·show ((((so.1.set x true).set (nl c x) true).set (nl s x) true).set (nl s (nl c x)) true).count true=4*(so.2++[_]).length
    rw [rY (by simp [ih.len];omega) (by simp [jh,n3,had.symm,hbd.symm,k2]),rY (by simp [ih.len];omega) (by simp [jh,n2,hab.symm,s2]),rY (by simp [ih.len];omega) (by simp [jh,n1,c2]),rY (by simp [ih.len];omega) n0,ih.cnt]
    simp
    omega
   ·show bl _ i=true
    rw [hget]
    rcases Nat.lt_or_ge i x with h|h
    ·exact .inl (ih.upto i h)
    ·exact .inr (.inl (by omega))
theorem Fl.four {n:Nat} {c t s:List Nat} (h:Fl n c t s):(fD [c,s] n).2.length=n/4:=by
 have hn:=h.1
 have hp: ∀p,Pairs p n→ ∀i,i<n→nl p i<n∧nl p i≠i∧nl p (nl p i)=i:=fun p hp i hi=>by
  have:=(hp i (by omega)).2 (by omega)
  exact ⟨by omega,this.2⟩
 have h4:=X3 (c:=c) (s:=s) (by omega) (hp c h.2.2.1) (hp s h.2.2.2.2.1) (fun x hx=>h.2.2.2.2.2.1 x (by simpa using hx)) n (Nat.le_refl _)
 have:=KH (fD [c,s] n).1 n 32 h4.len (by omega) fun i hi=>by
  by_cases h':i<n
  ·rw [h4.upto i h'];simp [h']
  ·cases hb:bl (fD [c,s] n).1 i with
   |false=>simp [h']
   |true=>exact absurd (h4.lt i hb) h'
 have h5:=h4.cnt
 omega
def yR (n:Int) (c t s:List Nat):Int×Int:=
 if¬Fl n c t s then (0,1) else (((fD [t,s] n.toNat).2.length:Int)+((fD [t,c] n.toNat).2.length:Int)-((n.toNat/4:Nat):Int),0)
theorem X4 {k l:IntKind} {a b:Int}:NN (.tuple ⟨[.int k a, .int l b]⟩):=NN.tuple (aW.cons NN.int (aW.cons NN.int aW.nil))
theorem afg {x:Bool} {n:Int} {c t s:List Nat} {H:BH} {K:Value→BH→Prop} (hcc:By 32 c) (ht:By 32 t) (hs:By 32 s)
  (hK:K (.tuple ⟨[I (yR n c t s).1,I (yR n c t s).2]⟩) H):aQ x YO [FV n c t s] H K:=by
 have hlc:=hcc.len
 have hlt:=ht.len
 have hls:=hs.len
 refine dR (by exact .cons J7 .nil) ?_
 refine bF Z5 ?_;simp only [mV,aI]
 refine au fun Kr hKr=>?_;simp (disch:=omega) only [RA,↓reduceIte,Nat.reduceEqDiff,RD,gJ];refine hKr _ _ ?_;clear hKr Kr;(try simp only [RN,reduceIte]);try refine ah rfl ?_
 refine au fun Kr hKr=>?_;simp (disch:=omega) only [RA,↓reduceIte,Nat.reduceEqDiff,RD,gJ,jT]
 refine ahX hcc ht hs ?_
 simp (disch:=omega) only [RA,↓reduceIte,Nat.reduceEqDiff,RD]
 refine hKr _ _ ?_;clear hKr Kr;(try simp only [aK,aP,aN]);(try simp only [RN,reduceIte]);try refine ah rfl ?_
 refine aX (p:= ¬Fl n c t s) (by simp only [RA,↓reduceIte,Nat.reduceEqDiff]<;>rfl) (by (try simp only [RB])<;>first|done|exact Iff.rfl|omega|simp) (fun hc=>?_) (fun hc=>?_)<;>(try simp only [RN,reduceIte])<;>(try refine ah rfl ?_)
 ·refine au fun Kr hKr=>?_;simp (disch:=omega) only [RA,↓reduceIte,Nat.reduceEqDiff,RD];refine hKr _ _ ?_;clear hKr Kr;(try simp only [RN,reduceIte]);try refine ah rfl ?_
  refine aS (by simp (disch:=omega) only [RA,↓reduceIte,Nat.reduceEqDiff,RD,aG,aO];rfl) aC.refl ?_;simp only [aH]
  rw [yR,if_pos hc] at hK
  exact ⟨X4,hK⟩
 have hd:=Decidable.not_not.1 hc
 rw [yR,if_neg (by simpa using hd)] at hK
 clear hc
 have hn:=hd.1
 obtain ⟨m,rfl⟩: ∃m:Nat,n=m:=⟨n.toNat,by omega⟩
 simp only [Int.toNat_natCast] at hK
 have hc32:=hd.2.2.1.lt hn.2 hcc (by omega)
 have F7:=hd.2.2.2.1.lt hn.2 ht (by omega)
 have yQ:=hd.2.2.2.2.1.lt hn.2 hs (by omega)
 have a1: ∀p∈[t,s],∀i,nl p i<32:=by simp;exact ⟨F7,yQ⟩
 have a2: ∀p∈[c,s],∀i,nl p i<32:=by simp;exact ⟨hc32,yQ⟩
 have a3: ∀p∈[t,c],∀i,nl p i<32:=by simp;exact ⟨F7,hc32⟩
 have z1:=(FX a1 (show m≤32 by omega)).2
 have z3:=(FX a3 (show m≤32 by omega)).2
 have hf:=hd.four
 refine au fun Kr hKr=>?_;simp (disch:=omega) only [RA,↓reduceIte,Nat.reduceEqDiff,Nat.reduceSub,Nat.reduceMul,Nat.reduceLT,Nat.reduceLeDiff,RD,gJ,jT,KC]
 have h64:2*32=([t,s].flatten.map N8).length:=by simp [hlt,hls]
 refine qP 1 rfl (by simp only [RH]) ?_;simp only [RZ,jD h64]
 refine FZ (ls:=[t,s]) (by omega) (by simp) (by simp [hlt,hls]) a1 ?_
 simp (disch:=omega) only [RA,↓reduceIte,Nat.reduceEqDiff,Nat.reduceSub,Nat.reduceAdd,Nat.reduceMul,Nat.reduceLT,Nat.reduceLeDiff,RD,gJ,jT,KC]
 have ah2:2*32=([c,s].flatten.map N8).length:=by simp [hlc,hls]
 refine qP 2 rfl (by simp only [RH]) ?_;simp only [RZ,jD ah2]
 refine FZ (ls:=[c,s]) (by omega) (by simp) (by simp [hlc,hls]) a2 ?_
 simp (disch:=omega) only [RA,↓reduceIte,Nat.reduceEqDiff,Nat.reduceSub,Nat.reduceAdd,Nat.reduceMul,Nat.reduceLT,Nat.reduceLeDiff,RD,gJ,jT,KC]
 have ah3:2*32=([t,c].flatten.map N8).length:=by simp [hlt,hlc]
 refine qP 3 rfl (by simp only [RH]) ?_;simp only [RZ,jD ah3]
 refine FZ (ls:=[t,c]) (by omega) (by simp) (by simp [hlt,hlc]) a3 ?_
 rw [hf]
 simp (disch:=omega) only [RA,↓reduceIte,Nat.reduceEqDiff,RD]
 refine hKr _ _ ?_;clear hKr Kr;(try simp only [aK,aP,aN]);(try simp only [RN,reduceIte]);try refine ah rfl ?_
 refine au fun Kr hKr=>?_;simp (disch:=omega) only [RA,↓reduceIte,Nat.reduceEqDiff,RD];refine hKr _ _ ?_;clear hKr Kr;(try simp only [RN,reduceIte]);try refine ah rfl ?_
 refine aS (by simp (disch:=omega) only [RA,↓reduceIte,Nat.reduceEqDiff,RD,aG,aO];rfl) aC.refl ?_;simp only [aH]
 refine ⟨X4,?_⟩
 rw [show ((fD [t,s] m).2.length:Int)+((fD [t,c] m).2.length:Int)-((m/4:Nat):Int)=((fD [t,s] m).2.length:Int)-((m/4:Nat):Int)+((fD [t,c] m).2.length:Int) by omega] at hK
 exact hK
end Go.Bm
namespace Go.Bm
open Go Go.Am
theorem XW {b w:List Nat} {n:Nat} (hb:Perm b n) (hw:Perm w n)
  (h: ∀S:Nat→Prop,(∀z,z<n→(S z↔S (nl b z)))→(∀z,z<n→(S z↔S (nl w z)))→S 0→ ∀z,z<n→S z):aZ n b w:=by
 have hn:=hb.1
 have h0:0<n:=by omega
 have hbf:=rC hb hw (x:=0) h0
 have hcl:=Ji hb hw (x:=0) h0
 have hin: ∀z,z<n→z∈ord b w 0:=by
  refine h (· ∈ord b w 0) (fun z hz=>⟨fun h=>(hcl z h).1,fun h=>EU hb (S:=(· ∈ord b w 0)) (fun x _ hx=>(hcl x hx).1) hz h⟩) (fun z hz=>⟨fun h=>(hcl z h).2,fun h=>EU hw (S:=(· ∈ord b w 0)) (fun x _ hx=>(hcl x hx).2) hz h⟩) ?_
  obtain ⟨r,hr⟩:=hbf.pre
  show 0∈(bf [b,w] (stA 0) 16).2
  rw [hr];simp
 have h1:=AV hbf.gW hbf.lt
 have h2:n≤(ord b w 0).length:=by
  have:=List.Nodup.length_le_of_subset (List.nodup_range (n:=n)) (l₂:=ord b w 0) fun x hx=>hin x (List.mem_range.1 hx)
  simpa using this
 refine ⟨hb,hw,?_⟩
 have e:(ord b w 0).length=n:=by
  have:(ord b w 0).length≤n:=h1
  omega
 have:(Bm.reach b w).2.length=(ord b w 0).length:=rfl
 omega
section
variable {b w:List Nat} {n:Nat}
theorem F8 (hn:n≤8): ∀{k z:Nat},k≤n→nl (iF b w n k) z=if z<k then nl b z else if n≤z∧z<n+k then n+nl w (z-n) else 0
 |0,z,_=>by
  rw [iF,E5,if_neg (by omega),if_neg (by omega)]
 |k+1,z,hk=>by
  rw [iF,jI,jI,List.length_set,Jd,F8 hn (k:=k) (by omega)]
  by_cases h1:z=n+k
  ·rw [if_pos ⟨h1,by omega⟩,if_neg (by omega),if_pos (by omega),h1,Nat.add_sub_cancel_left]
  ·rw [if_neg (fun h=>h1 h.1)]
   by_cases h2:z=k
   ·rw [if_pos ⟨h2,by omega⟩,if_pos (by omega),h2]
   ·rw [if_neg (fun h=>h2 h.1)]
    by_cases h3:z<k
    ·rw [if_pos h3,if_pos (by omega)]
    ·rw [if_neg h3]
     by_cases h4:n≤z∧z<n+k
     ·rw [if_pos h4,if_neg (show¬z<k+1 by omega),if_pos (by omega)]
     ·rw [if_neg h4,if_neg (show¬z<k+1 by omega),if_neg (by omega)]
theorem F9 (hn:n≤8): ∀{k z:Nat},k≤n→nl (iT n k) z=if z<k then n+z else if n≤z∧z<n+k then z-n else 0
 |0,z,_=>by
  rw [iT,E5,if_neg (by omega),if_neg (by omega)]
 |k+1,z,hk=>by
  rw [iT,jI,jI,List.length_set,Je,F9 hn (k:=k) (by omega)]
  by_cases h1:z=n+k
  ·rw [if_pos ⟨h1,by omega⟩,if_neg (by omega),if_pos (by omega),h1,Nat.add_sub_cancel_left]
  ·rw [if_neg (fun h=>h1 h.1)]
   by_cases h2:z=k
   ·rw [if_pos ⟨h2,by omega⟩,if_pos (by omega),h2]
   ·rw [if_neg (fun h=>h2 h.1)]
    by_cases h3:z<k
    ·rw [if_pos h3,if_pos (by omega)]
    ·rw [if_neg h3]
     by_cases h4:n≤z∧z<n+k
     ·rw [if_pos h4,if_neg (show¬z<k+1 by omega),if_pos (by omega)]
     ·rw [if_neg h4,if_neg (show¬z<k+1 by omega),if_neg (by omega)]
structure Sub (n:Nat) (b w B W:List Nat):Prop where
 n8:n≤8
 b0: ∀z,z<n→nl B z=nl b z
 b1: ∀z,z<n→nl B (n+z)=n+nl w z
 w0: ∀z,z<n→nl W z=n+z
 w1: ∀z,z<n→nl W (n+z)=z
theorem yS (hn:n≤8):Sub n b w (iF b w n n) (iT n n):=
 ⟨hn,fun z hz=>by rw [F8 hn (Nat.le_refl _),if_pos hz],fun z hz=>by rw [F8 hn (Nat.le_refl _),if_neg (by omega),if_pos (by omega),Nat.add_sub_cancel_left],
  fun z hz=>by rw [F9 hn (Nat.le_refl _),if_pos hz],fun z hz=>by rw [F9 hn (Nat.le_refl _),if_neg (by omega),if_pos (by omega),Nat.add_sub_cancel_left]⟩
theorem kQ {n z:Nat} (h:z<2*n):z<n∨ ∃u,u<n∧z=n+u:=by
 rcases Nat.lt_or_ge z n with h1|h1
 ·exact .inl h1
 ·exact .inr ⟨z-n,by omega,by omega⟩
theorem X5 (hd:aZ n b w) (hn:n≤8):Perm (iF b w n n) ((2*n:Nat):Int):=by
 have hs:=yS (b:=b) (w:=w) hn
 have hn1:=hd.1.1
 refine .of (by omega) (fun i h1 h2=>by rw [F8 hn (Nat.le_refl _),if_neg (by omega),if_neg (by omega)]) (fun i hi=>?_) (fun i j hi hj=>?_)
 ·rcases kQ hi with h|⟨u,hu,rfl⟩
  ·rw [hs.b0 i h];have:=hd.1.lt h;omega
  ·rw [hs.b1 u hu];have:=hd.2.1.lt hu;omega
 ·intro he'
  rcases kQ (show i<2*n by omega) with h|⟨u,hu,rfl⟩
  ·rcases kQ (show j<2*n by omega) with k|⟨v,hv,rfl⟩
   ·rw [hs.b0 i h,hs.b0 j k] at he'
    have:=hd.1.inj h k he'.symm
    omega
   ·rw [hs.b0 i h,hs.b1 v hv] at he'
    have:=hd.1.lt h
    omega
  ·rcases kQ (show j<2*n by omega) with k|⟨v,hv,rfl⟩
   ·rw [hs.b0 j k,hs.b1 u hu] at he'
    have:=hd.1.lt k
    omega
   ·rw [hs.b1 u hu,hs.b1 v hv] at he'
    have:=hd.2.1.inj hu hv (by omega)
    omega
theorem ah4 (hn1:1≤n) (hn:n≤8):Perm (iT n n) ((2*n:Nat):Int):=by
 have hs:=yS (b:=[]) (w:=[]) hn
 refine .of (by omega) (fun i h1 h2=>by rw [F9 hn (Nat.le_refl _),if_neg (by omega),if_neg (by omega)]) (fun i hi=>?_) (fun i j hi hj=>?_)
 ·rcases kQ hi with h|⟨u,hu,rfl⟩
  ·rw [hs.w0 i h];omega
  ·rw [hs.w1 u hu];omega
 ·intro he'
  rcases kQ (show i<2*n by omega) with h|⟨u,hu,rfl⟩
  ·rcases kQ (show j<2*n by omega) with k|⟨v,hv,rfl⟩
   ·rw [hs.w0 i h,hs.w0 j k] at he'
    omega
   ·rw [hs.w0 i h,hs.w1 v hv] at he'
    omega
  ·rcases kQ (show j<2*n by omega) with k|⟨v,hv,rfl⟩
   ·rw [hs.w0 j k,hs.w1 u hu] at he'
    omega
   ·rw [hs.w1 u hu,hs.w1 v hv] at he'
    omega
theorem U6 (hn:n≤8):Clean (iT n n) (2*n):=fun x hx=>by
 have hs:=yS (b:=[]) (w:=[]) hn
 rcases kQ hx with h|⟨u,hu,rfl⟩
 ·rw [hs.w0 x h,hs.w1 x h];omega
 ·rw [hs.w1 u hu,hs.w0 u hu];omega
theorem U5 (hd:aZ n b w) (hn:n≤8):aZ ((2*n:Nat):Int) (iF b w n n) (iT n n):=by
 have hs:=yS (b:=b) (w:=w) hn
 have hn1:=hd.1.1
 refine XW (X5 hd hn) (ah4 (by omega) hn) fun S h1 h2 h0=>?_
 have hl: ∀z,z<n→(S z↔S (n+z)):=fun z hz=>by
  have:=h2 z (by omega)
  rwa [hs.w0 z hz] at this
 have hlow: ∀z,z<n→S z:=aZ.ind hd S (fun z hz h=>by
  have:=h1 z (by omega)
  rw [hs.b0 z hz] at this
  exact this.1 h) (fun z hz h=>by
  have h3:=h1 (n+z) (by omega)
  rw [hs.b1 z hz] at h3
  exact (hl _ (hd.2.1.lt hz)).2 (h3.1 ((hl z hz).1 h))) h0
 intro z hz
 rcases kQ hz with h|⟨u,hu,rfl⟩
 ·exact hlow z h
 ·exact (hl u hu).1 (hlow u hu)
theorem ah5 (hd:aZ n b w) (hn:n≤8):(aV (iF b w n n) (2*n)).length=(aV b n).length+(aV w n).length:=by
 have hs:=yS (b:=b) (w:=w) hn
 have hn1:=hd.1.1
 have hB:=X5 hd hn
 have hb:=wQ hd.1
 have hw:=wQ hd.2.1
 have e1:((aV b n).map fun c=>nl c 0).length=(aV b n).length:=List.length_map ..
 have e2:((aV w n).map fun c=>nl c 0).length=(aV w n).length:=List.length_map ..
 generalize (aV b n).map (fun c=>nl c 0)=L1 at hb e1
 generalize (aV w n).map (fun c=>nl c 0)=L2 at hw e2
 have hlow: ∀x y,x<n→y<n→(dD [iF b w n n] (2*n) x y↔dD [b] n x y):=fun x y hx hy=>by
  constructor
  ·intro h S hS
   have:=h (fun z=>z<n→S z) fun t ht z hz=>by
    obtain rfl:=List.mem_singleton.1 ht
    rcases kQ hz with k|⟨u,hu,rfl⟩
    ·rw [hs.b0 z k]
     have:=hS b (by simp) z k
     have h3:=hd.1.lt k
     simp [k,h3,this]
    ·rw [hs.b1 u hu]
     simp [show¬n+u<n by omega,show¬n+nl w u<n by omega]
   simpa [hx,hy] using this
  ·intro h S hS
   refine h S fun t ht z hz=>?_
   obtain rfl:=List.mem_singleton.1 ht
   have:=hS _ (List.mem_singleton.2 rfl) z (by omega)
   rwa [hs.b0 z hz] at this
 have hhigh: ∀x y,x<n→y<n→(dD [iF b w n n] (2*n) (n+x) (n+y)↔dD [w] n x y):=fun x y hx hy=>by
  constructor
  ·intro h S hS
   have:=h (fun z=>n≤z→S (z-n)) fun t ht z hz=>by
    obtain rfl:=List.mem_singleton.1 ht
    rcases kQ hz with k|⟨u,hu,rfl⟩
    ·rw [hs.b0 z k]
     have h3:=hd.1.lt k
     simp [show¬n≤z by omega,show¬n≤nl b z by omega]
    ·rw [hs.b1 u hu]
     have:=hS w (by simp) u hu
     simp [Nat.add_sub_cancel_left,this]
   simpa [Nat.add_sub_cancel_left] using this
  ·intro h S hS
   refine h (fun z=>S (n+z)) fun t ht z hz=>?_
   obtain rfl:=List.mem_singleton.1 ht
   have:=hS _ (List.mem_singleton.2 rfl) (n+z) (by omega)
   rwa [hs.b1 z hz] at this
 have ah6: ∀x y,x<n→y<n→ ¬dD [iF b w n n] (2*n) x (n+y):=fun x y hx hy h=>by
  have:=(h (fun z=>z<n) fun t ht z hz=>by
   obtain rfl:=List.mem_singleton.1 ht
   rcases kQ hz with k|⟨u,hu,rfl⟩
   ·rw [hs.b0 z k]
    exact ⟨fun _=>hd.1.lt k,fun _=>k⟩
   ·rw [hs.b1 u hu]
    exact ⟨fun h=>by omega,fun h=>by omega⟩).1 hx
  omega
 have hcl:Cls (2*n) (dD [iF b w n n] (2*n)) (L1++L2.map (n+ ·)):=by
  refine ⟨fun x hx=>?_,List.pairwise_append.2 ⟨?_,List.pairwise_map.2 ?_,?_⟩,fun x hx=>?_⟩
  ·rcases List.mem_append.1 hx with hx|hx
   ·have:=hb.lt x hx;omega
   ·obtain ⟨y,hy,rfl⟩:=List.mem_map.1 hx
    have:=hw.lt y hy;omega
  ·exact List.Pairwise.imp_of_mem (fun {u v} hu hv h ho=>h ((hlow u v (hb.lt u hu) (hb.lt v hv)).1 ho)) hb.pw
  ·exact List.Pairwise.imp_of_mem (fun {u v} hu hv h ho=>h ((hhigh u v (hw.lt u hu) (hw.lt v hv)).1 ho)) hw.pw
  ·intro u hu v hv
   obtain ⟨v',hv',rfl⟩:=List.mem_map.1 hv
   exact ah6 u v' (hb.lt u hu) (hw.lt v' hv')
  ·rcases kQ hx with k|⟨u,hu,rfl⟩
   ·obtain ⟨y,h1,h2⟩:=hb.rep x k
    exact ⟨y,by simp [h1],(hlow x y k (hb.lt y h1)).2 h2⟩
   ·obtain ⟨y,h1,h2⟩:=hw.rep u hu
    exact ⟨n+y,by simp [h1],(hhigh u y hu (hw.lt y h1)).2 h2⟩
 have:=FW hB hcl
 rw [←this,List.length_append,List.length_map,e1,e2]
theorem KI {i:Nat}:nl z32 i=0:=by rw [z32,qw];split<;>rfl
theorem KJ {x:Nat} {cs:List Nat×List Nat}:qB w x cs 2=((cs.1.set (2*x) (2*nl w x+1)).set (2*x+1) (2*nl w x),(cs.2.set (2*x) (2*x+1)).set (2*x+1) (2*x)):=by
 simp [qB]
theorem vk: ∀{x:Nat},(dV b w x).1.length=32∧(dV b w x).2.1.length=32∧(dV b w x).2.2.length=32
 |0=>⟨List.length_replicate,List.length_replicate,List.length_replicate⟩
 |x+1=>by
  obtain ⟨h1,h2,h3⟩:= @vk x
  simp only [dV,KJ,List.length_set]
  exact ⟨h1,h2,h3⟩
theorem set2 {l:List Nat} (hl:l.length=32) {i j u v f:Nat} (hi:i<32) (hj:j<32):nl ((l.set i u).set j v) f=if f=j then v else if f=i then u else nl l f:=by
 rw [jI,jI,List.length_set,hl]
 by_cases h1:f=j
 ·rw [if_pos ⟨h1,hj⟩,if_pos h1]
 ·rw [if_neg (fun h=>h1 h.1),if_neg h1]
  by_cases h2:f=i
  ·rw [if_pos ⟨h2,hi⟩,if_pos h2]
  ·rw [if_neg (fun h=>h2 h.1),if_neg h2]
theorem Gf: ∀{x f:Nat},x≤16→nl (dV b w x).1 f=if f<2*x then 2*nl w (f/2)+(1-f%2) else 0
 |0,f,_=>by rw [dV,KI,if_neg (by omega)]
 |x+1,f,hx=>by
  rw [dV,KJ,set2 vk.1 (by omega) (by omega),Gf (by omega)]
  by_cases h1:f=2*x+1
  ·rw [if_pos h1,if_pos (by omega),show f/2=x by omega,show f%2=1 by omega]
   rfl
  ·rw [if_neg h1]
   by_cases h2:f=2*x
   ·rw [if_pos h2,if_pos (by omega),show f/2=x by omega,show f%2=0 by omega]
   ·rw [if_neg h2]
    by_cases h3:f<2*x
    ·rw [if_pos h3,if_pos (by omega)]
    ·rw [if_neg h3,if_neg (by omega)]
theorem Gg: ∀{x f:Nat},x≤16→nl (dV b w x).2.2 f=if f<2*x then 2*(f/2)+(1-f%2) else 0
 |0,f,_=>by rw [dV,KI,if_neg (by omega)]
 |x+1,f,hx=>by
  rw [dV,KJ,set2 vk.2.2 (by omega) (by omega),Gg (by omega)]
  by_cases h1:f=2*x+1
  ·rw [if_pos h1,if_pos (by omega)];omega
  ·rw [if_neg h1]
   by_cases h2:f=2*x
   ·rw [if_pos h2,if_pos (by omega)];omega
   ·rw [if_neg h2]
    by_cases h3:f<2*x
    ·rw [if_pos h3,if_pos (by omega)]
    ·rw [if_neg h3,if_neg (by omega)]
theorem BQ (hb:Perm b n): ∀{x:Nat},x≤n→(∀z,z<x→nl (dV b w x).2.1 (2*z+1)=2*nl b z∧nl (dV b w x).2.1 (2*nl b z)=2*z+1)∧ ∀f,2*n≤f→nl (dV b w x).2.1 f=0
 |0,_=>⟨fun z hz=>absurd hz (Nat.not_lt_zero z),fun f _=>by rw [dV,KI]⟩
 |x+1,hx=>by
  have hn:=hb.1
  obtain ⟨ih1,ih2⟩:=BQ hb (x:=x) (by omega)
  have hbx:=hb.lt (show x<n by omega)
  rw [dV]
  refine ⟨fun z hz=>?_,fun f hf=>?_⟩
  ·rw [set2 vk.2.1 (by omega) (by omega),set2 vk.2.1 (by omega) (by omega)]
   by_cases e:z=x
   ·subst e
    exact ⟨by rw [if_neg (by omega),if_pos rfl],by rw [if_pos rfl]⟩
   ·have hne:nl b z≠nl b x:=fun h=>e (hb.inj (by omega) (by omega) h)
    rw [if_neg (by omega),if_neg (by omega),if_neg (by omega),if_neg (by omega)]
    exact ih1 z (by omega)
  ·rw [set2 vk.2.1 (by omega) (by omega),if_neg (by omega),if_neg (by omega)]
   exact ih2 f hf
end
end Go.Bm
namespace Go.Bm
open Go Go.Am
structure BR (N:Nat) (B W c t s:List Nat):Prop where
 c: ∀f,f<2*N→nl c f=2*nl W (f/2)+(1-f%2)
 s: ∀f,f<2*N→nl s f=2*(f/2)+(1-f%2)
 t1: ∀z,z<N→nl t (2*z+1)=2*nl B z
 t0: ∀z,z<N→nl t (2*nl B z)=2*z+1
section
variable {N n:Nat} {B W c t s b w:List Nat}
theorem X6 (hB:Perm B N):BR N B W (dV B W N).1 (dV B W N).2.1 (dV B W N).2.2:=by
 have hN:=hB.1
 exact ⟨fun f hf=>by rw [Gf (by omega),if_pos hf],fun f hf=>by rw [Gg (by omega),if_pos hf],fun z hz=>((BQ (w:=W) hB (Nat.le_refl N)).1 z hz).1,fun z hz=>((BQ (w:=W) hB (Nat.le_refl N)).1 z hz).2⟩
theorem KL {N f:Nat} (hB:Perm B N) (h:f<2*N):(∃z,z<N∧f=2*z+1)∨ ∃z,z<N∧f=2*nl B z:=by
 rcases Nat.mod_two_eq_zero_or_one f with h1|h1
 ·obtain ⟨z,hz,he⟩:=hB.mO (show f/2<N by omega)
  exact .inr ⟨z,hz,by omega⟩
 ·exact .inl ⟨f/2,by omega,by omega⟩
theorem BR.pairs (h:BR N B W c t s) (hB:Perm B N) (hW:Perm W N) (hcl:Clean W N):(∀f,f<2*N→nl c f<2*N∧nl c f≠f∧nl c (nl c f)=f)∧(∀f,f<2*N→nl t f<2*N∧nl t f≠f∧nl t (nl t f)=f)∧(∀f,f<2*N→nl s f<2*N∧nl s f≠f∧nl s (nl s f)=f)∧
  ∀f,f<2*N→nl s (nl c f)=nl c (nl s f)∧nl s (nl c f)≠f:=by
 have hc1: ∀f,f<2*N→nl c f<2*N:=fun f hf=>by
  rw [h.c f hf];have:=hW.lt (show f/2<N by omega);omega
 have hs1: ∀f,f<2*N→nl s f<2*N:=fun f hf=>by rw [h.s f hf];omega
 refine ⟨fun f hf=>⟨hc1 f hf,?_,?_⟩,fun f hf=>?_,fun f hf=>⟨hs1 f hf,?_,?_⟩,fun f hf=>?_⟩
 ·rw [h.c f hf];omega
 ·rw [h.c _ (hc1 f hf),h.c f hf,show (2*nl W (f/2)+(1-f%2))/2=nl W (f/2) by omega,(hcl _ (by omega)).2]
  omega
 ·rcases KL hB hf with ⟨z,hz,rfl⟩|⟨z,hz,rfl⟩
  ·rw [h.t1 z hz,h.t0 z hz]
   have:=hB.lt hz
   omega
  ·rw [h.t0 z hz,h.t1 z hz]
   omega
 ·rw [h.s f hf];omega
 ·rw [h.s _ (hs1 f hf),h.s f hf];omega
 ·rw [h.s _ (hc1 f hf),h.c f hf,h.c _ (hs1 f hf),h.s f hf,show (2*nl W (f/2)+(1-f%2))/2=nl W (f/2) by omega,show (2*(f/2)+(1-f%2))/2=f/2 by omega]
  have:=(hcl (f/2) (by omega)).1
  omega
theorem ah7 (hd:aZ (N:Int) B W) (hcl:Clean W N) (h2:N%2=0):Fl ((2*N:Nat):Int) (dV B W N).1 (dV B W N).2.1 (dV B W N).2.2:=by
 have hN:=hd.1.1
 have hf:=X6 (W:=W) hd.1
 obtain ⟨p1,p2,p3,p4⟩:=hf.pairs hd.1 hd.2.1 hcl
 have h0c: ∀f,2*N≤f→nl (dV B W N).1 f=0:=fun f h=>by rw [Gf (by omega),if_neg (by omega)]
 have Gi: ∀f,2*N≤f→nl (dV B W N).2.2 f=0:=fun f h=>by rw [Gg (by omega),if_neg (by omega)]
 have h0t:=(BQ (w:=W) hd.1 (Nat.le_refl N)).2
 have l1:=(@vk B W N).1
 generalize dV B W N=fl at*
 obtain ⟨c,t,s⟩:=fl
 simp only at*
 have mk: ∀p,(∀f,2*N≤f→nl p f=0)→(∀f,f<2*N→nl p f<2*N∧nl p f≠f∧nl p (nl p f)=f)→Pairs p ((2*N:Nat):Int):=fun p h0 h f _=>
  ⟨fun h'=>h0 f (by omega),fun h'=>by
   have:=h f (by omega)
   exact ⟨by omega,this.2⟩⟩
 refine ⟨by omega,?_,mk c h0c p1,mk t h0t p2,mk s Gi p3,fun x hx=>p4 x (by omega),?_⟩
 ·obtain ⟨k,rfl⟩: ∃k,N=2*k:=⟨N/2,by omega⟩
  rw [Int.tmod_eq_emod_of_nonneg (by omega)]
  omega
 ·rw [Int.toNat_natCast]
  have hsm: ∀p∈[c,t,s],(∀f,2*N≤f→nl p f=0)∧ ∀f,f<2*N→nl p f<2*N∧nl p f≠f∧nl p (nl p f)=f:=fun p hp=>by
   simp only [List.mem_cons,List.not_mem_nil,or_false] at hp
   rcases hp with rfl|rfl|rfl
   ·exact ⟨h0c,p1⟩
   ·exact ⟨h0t,p2⟩
   ·exact ⟨Gi,p3⟩
  obtain ⟨L,hL,FY⟩:=KF (ls:=[c,t,s]) (n:=2*N) (by omega) (fun p hp i=>by
   rcases Nat.lt_or_ge i (2*N) with h|h
   ·have:=((hsm p hp).2 i h).1;omega
   ·rw [(hsm p hp).1 i h];omega) fun p hp y hy=>⟨((hsm p hp).2 y hy).1,((hsm p hp).2 y hy).2.2⟩
  rw [←FY]
  have h1:Cls (2*N) (dD [c,t,s] (2*N)) [0]:=by
   refine ⟨fun x hx=>by obtain rfl:=List.mem_singleton.1 hx;omega,List.pairwise_singleton ..,fun f hff=>⟨0,by simp,fun S hS=>?_⟩⟩
   have hc:=hS c (by simp)
   have ht:=hS t (by simp)
   have hs:=hS s (by simp)
   have hs': ∀z,z<N→(S (2*z)↔S (2*z+1)):=fun z hz=>by
    have:=hs (2*z) (by omega)
    rwa [hf.s _ (by omega),show 2*(2*z/2)+(1-2*z%2)=2*z+1 by omega] at this
   have hall: ∀z,z<N→(S 0↔S (2*z)):=aZ.ind hd (fun z=>(S 0↔S (2*z))) (fun z hz h=>by
    have:=ht (2*z+1) (by omega)
    rw [hf.t1 z hz] at this
    exact h.trans ((hs' z hz).trans this)) (fun z hz h=>by
    have:=hc (2*z+1) (by omega)
    rw [hf.c _ (by omega),show (2*z+1)/2=z by omega,show 1-(2*z+1)%2=0 by omega,Nat.add_zero] at this
    exact h.trans ((hs' z hz).trans this)) Iff.rfl
   have:=hall (f/2) (by omega)
   rcases Nat.mod_two_eq_zero_or_one f with h|h
   ·rw [show 2*(f/2)=f by omega] at this
    exact this.symm
   ·have h3:=hs' (f/2) (by omega)
    rw [show 2*(f/2)+1=f by omega] at h3
    exact (this.trans h3).symm
  exact hL.uniq h1
theorem ah8 (h:BR N B W c t s) (hB:Perm B N) (hN:2*N≤32) {L:List Nat} (hL:Cls (2*N) (dD [t,s] (2*N)) L):L.length=(aV B N).length:=by
 have hY:=wQ hB
 have e:((aV B N).map fun c=>nl c 0).length=(aV B N).length:=List.length_map ..
 rw [←e]
 refine Nat.le_antisymm (hL.le hY (fun f=>f/2) (fun f hf=>by show f/2<N;omega) (fun _ _=> .symm) (fun _ _ _=> .trans) (fun _=> .refl) fun f g hf hg ho S hS=>?_)
  (hY.le hL (fun x=>2*x) (fun x hx=>by show 2*x<2*N;omega) (fun _ _=> .symm) (fun _ _ _=> .trans) (fun _=> .refl) fun x y hx hy ho S hS=>?_)
 ·have ht:=hS t (by simp)
  have hs:=hS s (by simp)
  have hs': ∀z,z<N→(S (2*z)↔S (2*z+1)):=fun z hz=>by
   have:=hs (2*z) (by omega)
   rwa [h.s _ (by omega),show 2*(2*z/2)+(1-2*z%2)=2*z+1 by omega] at this
  have h1:=ho (fun z=>S (2*z)) fun u hu z hz=>by
   obtain rfl:=List.mem_singleton.1 hu
   have:=ht (2*z+1) (by omega)
   rw [h.t1 z hz] at this
   exact (hs' z hz).trans this
  have hfl: ∀f,f<2*N→(S f↔S (2*(f/2))):=fun f hf=>by
   rcases Nat.mod_two_eq_zero_or_one f with k|k
   ·rw [show 2*(f/2)=f by omega]
   ·have h3:=hs' (f/2) (by omega)
    rw [show 2*(f/2)+1=f by omega] at h3
    exact h3.symm
  exact (hfl f hf).trans (h1.trans (hfl g hg).symm)
 ·have:=ho (fun f=>S (f/2)) fun u hu f hf=>by
   simp only [List.mem_cons,List.not_mem_nil,or_false] at hu
   rcases hu with rfl|rfl
   ·have X7:=hS B (by simp)
    rcases KL hB hf with ⟨z,hz,rfl⟩|⟨z,hz,rfl⟩
    ·rw [h.t1 z hz,show (2*z+1)/2=z by omega,show 2*nl B z/2=nl B z by omega]
     exact X7 z hz
    ·rw [h.t0 z hz,show (2*z+1)/2=z by omega,show 2*nl B z/2=nl B z by omega]
     exact (X7 z hz).symm
   ·rw [h.s f hf,show (2*(f/2)+(1-f%2))/2=f/2 by omega]
  simp only [show 2*x/2=x by omega,show 2*y/2=y by omega] at this
  exact this
theorem ah9 (h:BR (2*n) B W c t s) (hu:Sub n b w B W) (hb:PN n b) (hw:PN n w) (hB:Perm B ((2*n:Nat):Int)) {L:List Nat} (hL:Cls (2*(2*n)) (dD [t,c] (2*(2*n))) L):L.length=(aV (bG b w n) n).length:=by
 have hY:=wQ (hb.mul hw).perm
 have hn:=hb.n16
 have e:((aV (bG b w n) n).map fun c=>nl c 0).length=(aV (bG b w n) n).length:=List.length_map ..
 rw [←e]
 have hblt:=fun z (hz:z<n)=>hb.perm.lt hz
 have yT:=fun z (hz:z<n)=>hw.perm.lt hz
 let ph:Nat→Nat:=fun f=>if f%2=1 then (if f/2<n then f/2 else nl w (f/2-n)) else if f/2<n then nl w (f/2) else f/2-n
 have a1: ∀z,z<n→ph (2*z+1)=z:=fun z hz=>by simp only [ph];rw [if_pos (by omega),show (2*z+1)/2=z by omega,if_pos hz]
 have a2: ∀z,z<n→ph (2*(n+z)+1)=nl w z:=fun z hz=>by simp only [ph];rw [if_pos (by omega),show (2*(n+z)+1)/2=n+z by omega,if_neg (by omega),Nat.add_sub_cancel_left]
 have a3: ∀z,z<n→ph (2*z)=nl w z:=fun z hz=>by simp only [ph];rw [if_neg (by omega),show 2*z/2=z by omega,if_pos hz]
 have a4: ∀z,z<n→ph (2*(n+z))=z:=fun z hz=>by simp only [ph];rw [if_neg (by omega),show 2*(n+z)/2=n+z by omega,if_neg (by omega),Nat.add_sub_cancel_left]
 have four: ∀f,f<2*(2*n)→(∃z,z<n∧f=2*z+1)∨(∃z,z<n∧f=2*(n+z)+1)∨(∃z,z<n∧f=2*z)∨ ∃z,z<n∧f=2*(n+z):=fun f hf=>by
  rcases Nat.mod_two_eq_zero_or_one f with k|k
  ·rcases kQ (show f/2<2*n by omega) with q|⟨u,q1,q2⟩
   ·exact .inr (.inr (.inl ⟨f/2,q,by omega⟩))
   ·exact .inr (.inr (.inr ⟨u,q1,by omega⟩))
  ·rcases kQ (show f/2<2*n by omega) with q|⟨u,q1,q2⟩
   ·exact .inl ⟨f/2,q,by omega⟩
   ·exact .inr (.inl ⟨u,q1,by omega⟩)
 have c1: ∀z,z<n→nl c (2*z+1)=2*(n+z):=fun z hz=>by rw [h.c _ (by omega),show (2*z+1)/2=z by omega,hu.w0 z hz];omega
 have c2: ∀z,z<n→nl c (2*(n+z)+1)=2*z:=fun z hz=>by rw [h.c _ (by omega),show (2*(n+z)+1)/2=n+z by omega,hu.w1 z hz];omega
 have c3: ∀z,z<n→nl c (2*z)=2*(n+z)+1:=fun z hz=>by rw [h.c _ (by omega),show 2*z/2=z by omega,hu.w0 z hz];omega
 have c4: ∀z,z<n→nl c (2*(n+z))=2*z+1:=fun z hz=>by rw [h.c _ (by omega),show 2*(n+z)/2=n+z by omega,hu.w1 z hz];omega
 have t1: ∀z,z<n→nl t (2*z+1)=2*nl b z:=fun z hz=>by rw [h.t1 z (by omega),hu.b0 z hz]
 have t2: ∀z,z<n→nl t (2*(n+z)+1)=2*(n+nl w z):=fun z hz=>by rw [h.t1 (n+z) (by omega),hu.b1 z hz]
 have t3: ∀z,z<n→nl t (2*nl b z)=2*z+1:=fun z hz=>by rw [←hu.b0 z hz,h.t0 z (by omega)]
 have t4: ∀z,z<n→nl t (2*(n+nl w z))=2*(n+z)+1:=fun z hz=>by rw [←hu.b1 z hz,h.t0 (n+z) (by omega)]
 have aia: ∀f,f<2*(2*n)→ph f<n:=fun f hf=>by
  rcases four f hf with ⟨z,hz,rfl⟩|⟨z,hz,rfl⟩|⟨z,hz,rfl⟩|⟨z,hz,rfl⟩
  ·rw [a1 z hz];exact hz
  ·rw [a2 z hz];exact yT z hz
  ·rw [a3 z hz];exact yT z hz
  ·rw [a4 z hz];exact hz
 refine Nat.le_antisymm (hL.le hY ph aia (fun _ _=> .symm) (fun _ _ _=> .trans) (fun _=> .refl) fun f g hf hg ho S hS=>?_)
  (hY.le hL (fun x=>2*x+1) (fun x hx=>by show 2*x+1<2*(2*n);omega) (fun _ _=> .symm) (fun _ _ _=> .trans) (fun _=> .refl) fun x y hx hy ho S hS=>?_)
 ·have ht:=hS t (by simp)
  have hc:=hS c (by simp)
  have s2: ∀z,z<n→(S (2*(n+z)+1)↔S (2*nl w z+1)):=fun z hz=>by
   have h1:=ht (2*(n+z)+1) (by omega)
   rw [t2 z hz] at h1
   have h2:=hc (2*(n+nl w z)) (by have:=yT z hz;omega)
   rw [c4 _ (yT z hz)] at h2
   exact h1.trans h2
  have s3: ∀z,z<n→(S (2*z)↔S (2*nl w z+1)):=fun z hz=>by
   have h1:=hc (2*z) (by omega)
   rw [c3 z hz] at h1
   exact h1.trans (s2 z hz)
  have s4: ∀z,z<n→(S (2*(n+z))↔S (2*z+1)):=fun z hz=>by
   have h1:=hc (2*(n+z)) (by omega)
   rwa [c4 z hz] at h1
  have X8: ∀f,f<2*(2*n)→(S f↔S (2*ph f+1)):=fun f hf=>by
   rcases four f hf with ⟨z,hz,rfl⟩|⟨z,hz,rfl⟩|⟨z,hz,rfl⟩|⟨z,hz,rfl⟩
   ·rw [a1 z hz]
   ·rw [a2 z hz];exact s2 z hz
   ·rw [a3 z hz];exact s3 z hz
   ·rw [a4 z hz];exact s4 z hz
  have h1:=ho (fun z=>S (2*z+1)) fun u hu2 z hz=>by
   obtain rfl:=List.mem_singleton.1 hu2
   rw [jJ hb hz]
   have h1:=ht (2*z+1) (by omega)
   rw [t1 z hz] at h1
   exact h1.trans (s3 _ (hblt z hz))
  exact (X8 f hf).trans (h1.trans (X8 g hg).symm)
 ·have hSP: ∀z,z<n→(S z↔S (nl w (nl b z))):=fun z hz=>by
   have:=hS _ (List.mem_singleton.2 rfl) z hz
   rwa [jJ hb hz] at this
  have:=ho (fun f=>S (ph f)) fun u hu2 f hf=>by
   simp only [List.mem_cons,List.not_mem_nil,or_false] at hu2
   rcases hu2 with rfl|rfl
   ·rcases KL hB hf with ⟨z,hz,rfl⟩|⟨z,hz,rfl⟩
    ·rcases kQ hz with k|⟨v,hv,rfl⟩
     ·rw [t1 z k,a1 z k,a3 _ (hblt z k)]
      exact hSP z k
     ·rw [t2 v hv,a2 v hv,a4 _ (yT v hv)]
    ·rcases kQ hz with k|⟨v,hv,rfl⟩
     ·rw [hu.b0 z k,t3 z k,a1 z k,a3 _ (hblt z k)]
      exact (hSP z k).symm
     ·rw [hu.b1 v hv,t4 v hv,a2 v hv,a4 _ (yT v hv)]
   ·rcases four f hf with ⟨z,hz,rfl⟩|⟨z,hz,rfl⟩|⟨z,hz,rfl⟩|⟨z,hz,rfl⟩
    ·rw [c1 z hz,a1 z hz,a4 z hz]
    ·rw [c2 z hz,a2 z hz,a3 z hz]
    ·rw [c3 z hz,a3 z hz,a2 z hz]
    ·rw [c4 z hz,a4 z hz,a1 z hz]
  rw [a1 x hx,a1 y hy] at this
  exact this
end
theorem afc {n:Nat} {b w:List Nat} (hd:aZ n b w) (hb:b.length=16) (hw:w.length=16) (hn:n≤8):
  yR ((2*(2*n):Nat):Int) (dV (iF b w n n) (iT n n) (2*n)).1 (dV (iF b w n n) (iT n n) (2*n)).2.1 (dV (iF b w n n) (iT n n) (2*n)).2.2=
   (((aV b n).length:Int)+(aV w n).length+(aV (eH b w n) n).length-n,0):=by
 have hn1:=hd.1.1
 have hs:=yS (b:=b) (w:=w) hn
 have wU:=U5 hd hn
 have hcl:=U6 hn
 have hF:=ah7 wU hcl (by omega)
 have hf:=X6 (W:=iT n n) wU.1
 obtain ⟨p1,p2,p3,p4⟩:=hf.pairs wU.1 wU.2.1 hcl
 have Bv:=ah5 hd hn
 have hbp:PN n b:=⟨hd.1,hb⟩
 have hwp:PN n w:=⟨hd.2.1,hw⟩
 have h0c: ∀f,2*(2*n)≤f→nl (dV (iF b w n n) (iT n n) (2*n)).1 f=0:=fun f h=>by rw [Gf (by omega),if_neg (by omega)]
 have Gi: ∀f,2*(2*n)≤f→nl (dV (iF b w n n) (iT n n) (2*n)).2.2 f=0:=fun f h=>by rw [Gg (by omega),if_neg (by omega)]
 have h0t:=(BQ (w:=iT n n) wU.1 (Nat.le_refl (2*n))).2
 generalize dV (iF b w n n) (iT n n) (2*n)=fl at*
 obtain ⟨c,t,s⟩:=fl
 simp only at*
 have hlt: ∀p,(∀f,2*(2*n)≤f→nl p f=0)→(∀f,f<2*(2*n)→nl p f<2*(2*n)∧nl p f≠f∧nl p (nl p f)=f)→ ∀i,nl p i<32:=fun p h0 h i=>by
  rcases Nat.lt_or_ge i (2*(2*n)) with k|k
  ·have:=(h i k).1;omega
  ·rw [h0 i k];omega
 have k1:=hlt c h0c p1
 have k2:=hlt t h0t p2
 have k3:=hlt s Gi p3
 obtain ⟨L1,g1,g2⟩:=KF (ls:=[t,s]) (n:=2*(2*n)) (by omega) (by simp;exact ⟨k2,k3⟩) (by simp;exact ⟨fun y hy=>⟨(p2 y hy).1,(p2 y hy).2.2⟩,fun y hy=>⟨(p3 y hy).1,(p3 y hy).2.2⟩⟩)
 obtain ⟨L2,q1,q2⟩:=KF (ls:=[t,c]) (n:=2*(2*n)) (by omega) (by simp;exact ⟨k2,k1⟩) (by simp;exact ⟨fun y hy=>⟨(p2 y hy).1,(p2 y hy).2.2⟩,fun y hy=>⟨(p1 y hy).1,(p1 y hy).2.2⟩⟩)
 have e1:=ah8 hf wU.1 (by omega) g1
 have e2:=ah9 hf hs hbp hwp wU.1 q1
 rw [yR,if_neg (by simpa using hF),Int.toNat_natCast,←g2,←q2,e1,e2,Bv,eH,Xh (hbp.mul hwp)]
 congr 1
 omega
end Go.Bm
