/- Dp0, Dp1, Dp2, DpCa, DpK, DpL, DpM, DpN, DpO, DpP, Dp7a, DpQ, DpCb, DpV, DpVa, DpDa, Dp3, Dp4, DpCc, DpCd, DpDg -/
import Derived.Test.YtbpfbfbabpkceaaBmS
set_option linter.unusedVariables false
set_option linter.unusedSimpArgs false
namespace Go.Bm
open Go Go.Am
structure By (m:Nat) (p:List Nat):Prop where
 len:p.length=m
 lt: ∀i,nl p i<256
theorem By.mem {m:Nat} {p:List Nat} (h:By m p): ∀x∈p,x<256:=fun x hx=>by
 obtain ⟨i,hi,rfl⟩:=List.mem_iff_getElem.1 hx
 have:=h.lt i
 simpa [nl,List.getD,hi] using this
theorem fU {p:List Nat} {i x j:Nat}:nl (p.set i x) j=if j=i∧i<p.length then x else nl p j:=by
 unfold nl
 simp only [List.getD]
 by_cases h:i=j
 ·subst h
  by_cases hi:i<p.length
  ·simp [hi]
  ·simp [List.getElem?_eq_none (by omega:p.length≤i),hi]
 ·rw [List.getElem?_set_ne h,if_neg (fun e=>h e.1.symm)]
theorem jP {p:List Bool} {i:Nat} {x:Bool} {j:Nat}:bl (p.set i x) j=if j=i∧i<p.length then x else bl p j:=by
 unfold bl
 simp only [List.getD]
 by_cases h:i=j
 ·subst h
  by_cases hi:i<p.length
  ·simp [hi]
  ·simp [List.getElem?_eq_none (by omega:p.length≤i),hi]
 ·rw [List.getElem?_set_ne h,if_neg (fun e=>h e.1.symm)]
theorem jA {n m i:Nat}:nl (List.replicate n m) i=if i<n then m else 0:=by
 unfold nl
 simp only [List.getD,List.getElem?_replicate]
 split<;>rfl
theorem vW {n i:Nat}:bl (List.replicate n false) i=false:=by
 unfold bl
 simp only [List.getD,List.getElem?_replicate]
 split<;>rfl
theorem FK {p:List Nat} {i:Nat} (h:p.length≤i):nl p i=0:=by simp [nl,List.getD,List.getElem?_eq_none h]
theorem kZ {p q:List Nat} (hl:p.length=q.length) (h: ∀i,i<p.length→nl p i=nl q i):p=q:=by
 apply List.ext_getElem hl
 intro i h1 h2
 have:=h i h1
 simpa [nl,List.getD,h1,h2] using this
theorem By.set {m:Nat} {p:List Nat} (h:By m p) {i x:Nat} (hx:x<256):By m (p.set i x):=⟨by simp [h.len],fun j=>by rw [fU];split;exact hx;exact h.lt j⟩
theorem By.rep {m:Nat}:By m (List.replicate m 0):=⟨by simp,fun i=>by rw [jA];split<;>omega⟩
theorem zq {x:Bool} {a b c:Int} {H:BH} {K:Value→BH→Prop} (hK:K (.bool (decide (b≤a∧a≤c))) H):aA x Ot [I a,I b,I c] H K:=by
 refine cO (by simp only [RH]) ?_
 refine aZ OX ?_;simp only [kC,aB]
 refine fB ?_
 by_cases h:b≤a
 ·refine dM @h ?_
  refine zu @h ?_
  exact ⟨NN.bool,by simpa [h] using hK⟩
 ·refine dM @h ?_
  refine zu @h ?_
  exact ⟨NN.bool,by simpa [h] using hK⟩
def Perm (p:List Nat) (n:Int):Prop:=(1≤n∧n≤16)∧ ∀i:Nat,i<16→((n≤(i:Int)→nl p i=0)∧((i:Int)<n→(nl p i:Int)<n∧ ∀j,j<i→nl p j≠nl p i))
instance (p:List Nat) (n:Int):Decidable (Perm p n):=by unfold Perm;infer_instance
def PermAt (p:List Nat) (n:Int) (i:Nat):Prop:=(n≤(i:Int)→nl p i=0)∧((i:Int)<n→(nl p i:Int)<n∧ ∀j,j<i→nl p j≠nl p i)
def Met (p:List Nat) (n:Int) (k:Nat) (s:List Bool):Prop:=s.length=16∧ ∀x,bl s x=true↔ ∃i,i<k∧(i:Int)<n∧nl p i=x
theorem Met.zero {p:List Nat} {n:Int}:Met p n 0 (List.replicate 16 false):=⟨by simp,fun x=>by rw [vW];simp⟩
theorem Met.next {p:List Nat} {n:Int} {k:Nat} {s:List Bool} (h:Met p n k s) (hk:(k:Int)<n) (hx:nl p k<16):Met p n (k+1) (s.set (nl p k) true):=⟨by simp [h.1],fun x=>by
 rw [jP]
 by_cases e:x=nl p k
 ·subst e
  rw [if_pos ⟨rfl,by rw [h.1];exact hx⟩]
  exact ⟨fun _=>⟨k,by omega,hk,rfl⟩,fun _=>rfl⟩
 ·rw [if_neg (fun h=>e h.1),h.2]
  exact ⟨fun ⟨i,h1,h2,h3⟩=>⟨i,by omega,h2,h3⟩,fun ⟨i,h1,h2,h3⟩=>⟨i,by
   rcases Nat.lt_or_ge i k with q|q
   ·exact q
   ·obtain rfl:i=k:=by omega
    exact absurd h3.symm e,h2,h3⟩⟩⟩
theorem Met.skip {p:List Nat} {n:Int} {k:Nat} {s:List Bool} (h:Met p n k s) (hk: ¬(k:Int)<n):Met p n (k+1) s:=⟨h.1,fun x=>by
 rw [h.2]
 exact ⟨fun ⟨i,h1,h2,h3⟩=>⟨i,by omega,h2,h3⟩,fun ⟨i,h1,h2,h3⟩=>⟨i,by
  rcases Nat.lt_or_ge i k with q|q
  ·exact q
  ·obtain rfl:i=k:=by omega
   exact absurd h2 hk,h2,h3⟩⟩⟩
end Go.Bm
namespace Go.Bm
open Go Go.Am
theorem FM {x:Bool} {p:List Nat} {n:Int} {H:BH} {K:Value→BH→Prop} (hp:By 16 p) (hK:K (.bool (decide (Perm p n))) H):aA x OJ [PL p,I n] H K:=by
 have hlen:=hp.len
 refine cO (by simp only [RH]) ?_
 refine aZ Pv ?_;simp only [bV,aB]
 refine fB ?_
 refine TF fun Kr hKr=>?_
 refine zq ?_
 refine vX ?_
 refine vY hKr ?_
 refine iV (¬(1≤n∧n≤16)) (fun hc=>?_) fun hc=>?_
 ·refine fB ?_
  refine jh ?_
  exact ⟨NN.bool,by simpa [Perm,hc] using hK⟩
 have hc':1≤n∧n≤16:=by omega
 refine fB ?_
 refine fB ?_
 refine bH (fun m f H'=> ∃k s,k≤16∧m=16-k∧Met p n k s∧(∀i,i<k→PermAt p n i)∧f 1=I n∧f 2=P 0 0∧f 5=P 1 0∧f 6=I k∧H'=[some (p.map N8),some (s.map B)]) (16) ?_ ?_
 ·refine ⟨_,_,Gh.refl,0,List.replicate 16 false,by omega,by omega,Met.zero,by omega,by simp [RA,↓reduceIte,Nat.reduceEqDiff],by simp [RA,↓reduceIte,Nat.reduceEqDiff],by simp [RA,↓reduceIte,Nat.reduceEqDiff],by simp [RA,↓reduceIte,Nat.reduceEqDiff],by simp [RA,↓reduceIte,Nat.reduceEqDiff]⟩
 ·rintro m f H' R ⟨k,s,hk,rfl,hm,hat,h1,h2,h5,h6,rfl⟩ hN hX hR hE
  simp only [bV.l0,aB]
  refine dM @h6 ?_
  refine iV (k<16) (fun hc=>?_) fun hc=>?_
  ·have hlt:=hp.lt k
   have hsl:=hm.1
   have hnext: ∀f' s',f' 1=I n→f' 2=P 0 0→f' 5=P 1 0→f' 6=I k→Met p n (k+1) s'→PermAt p n k→T 0 bV.r6 R f' [some (p.map N8),some (s'.map B)]:=by
    intro f' s' h1 h2 h5 h6 hm' hat'
    refine nJ @h6 ?_
    refine hN (16-(k+1)) _ _ _ _ (by omega) Gh.refl ⟨k+1,s',by omega,rfl,hm',fun i hi=>?_,by simp [RA,↓reduceIte,Nat.reduceEqDiff,h1],by simp [RA,↓reduceIte,Nat.reduceEqDiff,h2],by simp [RA,↓reduceIte,Nat.reduceEqDiff,h5],by simp [RA,↓reduceIte,Nat.reduceEqDiff],rfl⟩
    rcases Nat.lt_or_ge i k with h|h
    ·exact hat i h
    ·obtain rfl:i=k:=by omega
     exact hat'
   refine lS ?_
   refine lS ?_
   refine dM (iP @h1 @h6) ?_
   refine iV (n≤k) (fun hc=>?_) fun hc=>?_
   ·refine dM (vZ @h2 @h6 @hlen) ?_
    refine iV (nl p k≠0) (fun hc=>?_) fun hc=>?_
    ·refine fB ?_
     refine hR _ _ ?_
     refine jh ?_
     refine ⟨NN.bool,?_⟩
     have: ¬Perm p n:=fun h=>hc ((h.2 k (by omega)).1 (by omega))
     simpa [this] using hK
    ·refine zy ?_
     exact hnext _ s (by simp [RA,↓reduceIte,Nat.reduceEqDiff,h1]) (by simp [RA,↓reduceIte,Nat.reduceEqDiff,h2]) (by simp [RA,↓reduceIte,Nat.reduceEqDiff,h5]) (by simp [RA,↓reduceIte,Nat.reduceEqDiff,h6]) (hm.skip (by omega)) ⟨fun _=>by omega,fun h=>by omega⟩
   ·by_cases hb:n≤nl p k
    ·refine dM (wo @h1 @h2 @h6 @hb @hlen) ?_
     refine TG ?_
     refine fB ?_
     refine hR _ _ ?_
     refine jh ?_
     refine ⟨NN.bool,?_⟩
     have: ¬Perm p n:=fun h=>by have:=((h.2 k (by omega)).2 (by omega)).1;omega
     simpa [this] using hK
    ·refine dM (zA (zA @h1 @h2 @h5 @h6) @hb @hsl @hlen) ?_
     refine iV (bl s (nl p k)=true) (fun hc=>?_) fun hc=>?_
     ·refine fB ?_
      refine hR _ _ ?_
      refine jh ?_
      refine ⟨NN.bool,?_⟩
      obtain ⟨i,hi1,hi2,hi3⟩:=(hm.2 _).1 hc
      have: ¬Perm p n:=fun h=>((h.2 k (by omega)).2 (by omega)).2 i hi1 hi3
      simpa [this] using hK
     ·refine dM (wo @h2 @h5 @h6 @hsl @hlen) ?_
      refine hnext _ (s.set (nl p k) true) (by simp [RA,↓reduceIte,Nat.reduceEqDiff,h1]) (by simp [RA,↓reduceIte,Nat.reduceEqDiff,h2]) (by simp [RA,↓reduceIte,Nat.reduceEqDiff,h5]) (by simp [RA,↓reduceIte,Nat.reduceEqDiff,h6]) (hm.next (by omega) (by omega)) ⟨fun h=>by omega,fun _=>⟨by omega,fun j hj e=>hc ((hm.2 _).2 ⟨j,hj,by omega,e⟩)⟩⟩
  ·refine hX _ _ ?_
   refine fB ?_
   refine jh ?_
   refine ⟨NN.bool,?_⟩
   have:Perm p n:=⟨hc',fun i hi=>hat i (by omega)⟩
   simpa [this] using hK
theorem Perm.lt {p:List Nat} {n:Nat} (h:Perm p n) {i:Nat} (hi:i<n):nl p i<n:=by have:=((h.2 i (by have:=h.1;omega)).2 (by omega)).1;omega
theorem Perm.iD {p:List Nat} {n:Nat} (h:Perm p n) (hl:p.length=16) (i:Nat):nl p i<16:=by
 have h1:=h.1
 rcases Nat.lt_or_ge i n with hi|hi
 ·have:=h.lt hi;omega
 ·rcases Nat.lt_or_ge i 16 with h2|h2
  ·rw [(h.2 i h2).1 (by omega)];omega
  ·rw [FK (by omega)];omega
def FP (p q:List Nat):Nat→List Nat
 |0=>List.replicate 16 0
 |k+1=>(FP p q k).set k (nl q (nl p k))
def jr (p:List Nat):Nat→List Nat
 |0=>List.replicate 16 0
 |k+1=>(jr p k).set (nl p k) k
theorem TI {p:List Nat} {k:Nat}:(jr p k).length=16:=by
 induction k with
 |zero=>simp [jr]
 |succ k ih=>simp [jr,ih]
abbrev DC (n:Int) (b w:List Nat):List Value:=I n::(b.map N8++w.map N8)
abbrev DV (n:Int) (b w:List Nat):Value:=aggL (DC n b w)
theorem lJ {n:Int} {b w:List Nat}:getN none (DC n b w) 0=some (I n):=rfl
theorem qK {n:Int} {b w:List Nat} (hb:b.length=16):getN (some 16) (DC n b w) 1=some (PL b):=by
 rw [lU (by simp [hb])]
 simp [List.take_append_of_le_length,hb]
theorem qJ {n:Int} {b w:List Nat} (hb:b.length=16) (hw:w.length=16):getN (some 16) (DC n b w) 17=some (PL w):=by
 rw [lU (by simp [hb,hw])]
 simp [List.drop_append,hb,hw]
 rw [List.take_of_length_le (by simp [hw])]
theorem TJ {n:Nat} {cs:List Value} (h:cs.length=n):getN (some n) cs 0=some (aggL cs):=by
 rw [lU (by omega),List.drop_zero,List.take_of_length_le (by omega)]
theorem TK {n:Int} {b w:List Nat} (hb:b.length=16) (hw:w.length=16):getN (some 33) (DC n b w) 0=some (DV n b w):=TJ (by simp [hb,hw])
def Ti (b w:List Nat) (n:Nat):List Nat:=jr (FP b w n) n
end Go.Bm
namespace Go.Bm
open Go Go.Am
abbrev BS:=List Bool×List Nat
def visit (st:BS) (y:Nat):BS:=if bl st.1 y=true then st else (st.1.set y true,st.2++[y])
def fM (ls:List (List Nat)) (x:Nat) (st:BS):BS:=ls.foldl (fun st p=>visit st (nl p x)) st
def aJ (ls:List (List Nat)) (st:BS):Nat→BS
 |0=>st
 |i+1=>if i<(aJ ls st i).2.length then fM ls (nl (aJ ls st i).2 i) (aJ ls st i) else aJ ls st i
structure Bi (m:Nat) (st:BS):Prop where
 len:st.1.length=m
 lt: ∀i,i<st.2.length→nl st.2 i<m
 cnt:st.2.length≤st.1.count true
theorem Bi.le {m:Nat} {st:BS} (h:Bi m st):st.2.length≤m:=by
 have:=List.count_le_length (a:=true) (l:=st.1)
 have:=h.cnt
 have:=h.len
 omega
theorem jF {p q:List Nat} {i:Nat}:nl (p++q) i=if i<p.length then nl p i else nl q (i-p.length):=by
 unfold nl
 simp only [List.getD]
 split
 ·rename_i h;rw [List.getElem?_append_left h]
 ·rename_i h;rw [List.getElem?_append_right (by omega)]
theorem uN {y:Nat} {i:Nat} (h:i<1):nl [y] i=y:=by
 obtain rfl:i=0:=by omega
 rfl
theorem uO {s:List Bool} {y:Nat} (hy:y<s.length) (h:bl s y=false):(s.set y true).count true=s.count true+1:=by
 rw [List.count_set hy]
 have:s[y]=false:=by simpa [bl,List.getD,hy] using h
 simp [this]
theorem Bi.visit {m:Nat} {st:BS} (h:Bi m st) {y:Nat} (hy:y<m):Bi m (visit st y):=by
 unfold Bm.visit
 split
 ·exact h
 ·rename_i hb
  refine ⟨by simp [h.len],fun i hi=>?_,?_⟩
  ·simp only [List.length_append,List.length_singleton] at hi
   simp only [jF]
   split
   ·exact h.lt i (by assumption)
   ·rw [uN (by omega)];exact hy
  ·simp only [List.length_append,List.length_singleton]
   rw [uO (by rw [h.len];exact hy) (by simpa using hb)]
   have:=h.cnt
   omega
theorem Bi.round {m:Nat} {x:Nat}: ∀{ls:List (List Nat)} {st:BS},Bi m st→(∀p∈ls,nl p x<m)→Bi m (fM ls x st)
 |[],st,h,_=>h
 |p::ls,st,h,hp=>Bi.round (ls:=ls) (h.visit (hp p (by simp))) fun q hq=>hp q (by simp [hq])
theorem Bi.aJ {m:Nat} {ls:List (List Nat)} {st:BS} (h:Bi m st) (hp: ∀p∈ls,∀i,nl p i<m): ∀i,Bi m (aJ ls st i)
 |0=>h
 |i+1=>by
  simp only [Bm.aJ]
  split
  ·exact (Bi.aJ h hp i).round fun p hq=>hp p hq _
  ·exact Bi.aJ h hp i
theorem TL {st:BS} {y:Nat}: ∃q,(visit st y).2=st.2++q:=by
 unfold visit
 split
 ·exact ⟨[],by simp⟩
 ·exact ⟨[y],rfl⟩
theorem lC {x:Nat}: ∀{ls:List (List Nat)} {st:BS},∃q,(fM ls x st).2=st.2++q
 |[],st=>⟨[],by simp [fM]⟩
 |p::ls,st=>by
  obtain ⟨q,hq⟩:= @TL st (nl p x)
  obtain ⟨q',hq'⟩:=lC (x:=x) (ls:=ls) (st:=visit st (nl p x))
  exact ⟨q++q',by show (fM ls x (visit st (nl p x))).2=_;rw [hq',hq,List.append_assoc]⟩
theorem qo {ls:List (List Nat)} {st:BS} {i:Nat} (h:(aJ ls st i).2.length≤i): ∀j,i≤j→aJ ls st j=aJ ls st i
 |0,hj=>by
  obtain rfl:i=0:=by omega
  rfl
 |j+1,hj=>by
  rcases Nat.lt_or_ge j i with h1|h1
  ·obtain rfl:i=j+1:=by omega
   rfl
  ·have ih:=qo h j h1
   simp only [aJ]
   rw [ih,if_neg (by omega)]
theorem uS {ls:List (List Nat)} {x j:Nat} {st:BS} (h:j<ls.length):fM (ls.take (j+1)) x st=visit (fM (ls.take j) x st) (nl (ls.getD j []) x):=by
 have:ls.take (j+1)=ls.take j++[ls.getD j []]:=by
  rw [List.take_add_one]
  simp [List.getD,h]
 rw [this]
 simp [fM,List.foldl_append]
def st0 (m:Nat):BS:=((List.replicate m false).set 0 true,[0])
theorem Bi.st0 {m:Nat} (hm:0<m):Bi m (st0 m):=⟨by simp [Bm.st0],fun i hi=>by rw [show (Bm.st0 m).2=[0] from rfl,uN (by simpa [Bm.st0] using hi)];exact hm,by
 show 1≤_
 have:((List.replicate m false).set 0 true).count true=(List.replicate m false).count true+1:=uO (by simpa using hm) vW
 show 1≤((List.replicate m false).set 0 true).count true
 omega⟩
def reach (b w:List Nat):BS:=aJ [b,w] (st0 16) 16
theorem TM {x:Bool} {b w:List Nat} {n:Int} {H:BH} {K:Value→BH→Prop} (hb:By 16 b) (hw:By 16 w) (hb16: ∀i,nl b i<16) (hw16: ∀i,nl w i<16)
  (hK:K (.bool (decide (((reach b w).2.length:Int)=n))) H):aA x OL [I n,PL b,PL w] H K:=by
 have hlb:=hb.len
 have fH:=hw.len
 have hall: ∀p∈[b,w],∀i,nl p i<16:=by simp;exact ⟨hb16,hw16⟩
 refine cO (by simp only [RH]) ?_
 refine aZ Px ?_;simp only [bP,aB]
 refine fB ?_
 refine fB ?_
 refine dM @yc ?_
 refine fB ?_
 refine bH (fun m f H'=> ∃i,i≤16∧m=16-i∧i≤(aJ [b,w] (st0 16) i).2.length∧f 0=I n∧f 4=P 0 0∧f 5=P 1 0∧f 7=P 3 0∧f 8=S 2 0 (aJ [b,w] (st0 16) i).2.length 1∧f 9=I i∧H'=[some (b.map N8),some (w.map N8),some ((aJ [b,w] (st0 16) i).2.map N8),some ((aJ [b,w] (st0 16) i).1.map B)]) (16) ?_ ?_
 ·refine ⟨_,_,Gh.refl,0,by omega,by omega,by omega,aj,aj,aj,aj,aj,aj,?_⟩
  simp [aJ,st0]<;>rfl
 ·rintro m f H' R ⟨i,hi,rfl,hil,h0,h4,h5,h7,h8,h9,rfl⟩ hN hX hR hE
  simp only [bP.l1,aB]
  have hB:=(Bi.st0 (m:=16) (by omega)).aJ hall i
  generalize hst:aJ [b,w] (st0 16) i=st at hil h8 hB
  have hle:=hB.le
  have hsl:=hB.len
  refine dM (iP @h8 @h9) ?_
  refine iV (i<st.2.length) (fun hc=>?_) fun hc=>?_
  ·have hx:=hB.lt i hc
   refine lS ?_
   refine dM (zB @h4 @h5 @h8 @h9 @hlb @fH) ?_
   obtain ⟨nx,wu⟩: ∃nx,nx=[nl b (nl st.2 i),nl w (nl st.2 i)]:=⟨_,rfl⟩
   have zC:nx.length=2:=by rw [wu];rfl
   refine fB ?_
   refine bH (fun m f H'=> ∃j st',j≤2∧m=2-j∧st'=fM ([b,w].take j) (nl st.2 i) st∧f 0=I n∧f 4=P 0 0∧f 5=P 1 0∧f 7=P 3 0∧f 8=S 2 0 st'.2.length 1∧f 9=I i∧f 10=S 4 0 2 1∧f 11=I j∧H'=[some (b.map N8),some (w.map N8),some (st'.2.map N8),some (st'.1.map B),some (nx.map N8)]) (2) ?_ ?_
   ·refine ⟨_,_,Gh.refl,0,st,by omega,by omega,rfl,aj,aj,aj,aj,aj,aj,aj,aj,by rw [wu];rfl⟩
   ·clear h0 h4 h5 h7 h8 h9
    rintro m f H' R2 ⟨j,st',hj,rfl,hst',h0,h4,h5,h7,h8,h9,h10,h11,rfl⟩ lu hX2 hR2 hE2
    simp only [bP.l0,aB]
    refine dM @h11 ?_
    have hB':Bi 16 st':=by rw [hst'];exact hB.round fun p hp=>hall p (List.mem_of_mem_take hp) _
    have hle':=hB'.le
    have je:=hB'.len
    refine iV (j<2) (fun hc=>?_) fun hc=>?_
    ·have hy:nl nx j=nl ([b,w].getD j []) (nl st.2 i):=by
      rw [wu]
      have:j=0∨j=1:=by omega
      rcases this with rfl|rfl<;>rfl
     have hyl:nl nx j<16:=by
      rw [wu]
      have:j=0∨j=1:=by omega
      rcases this with rfl|rfl
      ·exact hb16 _
      ·exact hw16 _
     have hnx:=uS (ls:=[b,w]) (x:=nl st.2 i) (st:=st) (show j<[b,w].length from hc)
     rw [←hst',←hy] at hnx
     obtain ⟨y,jf⟩: ∃y,nl nx j=y:=⟨_,rfl⟩
     rw [jf] at hyl hnx
     have hnext: ∀f' st2 (c1 c2:Option (List Value)),f' 0=I n→f' 4=P 0 0→f' 5=P 1 0→f' 7=P 3 0→f' 8=S 2 0 st2.2.length 1→f' 9=I i→f' 10=S 4 0 2 1→f' 11=I j→st2=visit st' y→
       T 0 bP.r9 R2 f' [some (b.map N8),some (w.map N8),some (st2.2.map N8),some (st2.1.map B),some (nx.map N8)]:=by
      intro f' st2 c1 c2 h0 h4 h5 h7 h8 h9 h10 h11 hs2
      refine nJ @h11 ?_
      exact lu (2-(j+1)) _ _ _ _ (by omega) Gh.refl ⟨j+1,st2,by omega,rfl,by rw [hnx,hs2],aj,aj,aj,aj,aj,aj,aj,aj,rfl⟩
     refine lS ?_
     refine dM (zB @h7 @h10 @h11 @zC @je @jf) ?_
     refine iV (¬bl st'.1 y=true) (fun hc=>?_) fun hc=>?_
     ·refine dM (zB @h7 @h10 @h11 @zC @je @jf) ?_
      refine dM (wo @h8 @h10 @h11 @zC @jf) ?_
      refine jg (Gh.nrm [0,1,6,3,4] rfl rfl wz) ?_
      refine hnext _ (st'.1.set y true,st'.2++[y]) none none aj aj aj aj aj aj aj aj ?_
      rw [visit,if_neg hc]
     ·refine zy ?_
      refine hnext _ st' none none aj aj aj aj aj aj aj aj ?_
      rw [visit,if_pos (by simpa using hc)]
    ·refine hX2 _ _ ?_
     obtain rfl:j=2:=by omega
     have hst2:st'=aJ [b,w] (st0 16) (i+1):=by
      rw [hst',aJ,hst,if_pos (by assumption)]
      rfl
     obtain ⟨q,hq⟩:= @lC (nl st.2 i) ([b,w].take 2) st
     have hlq:i+1≤st'.2.length:=by rw [hst',hq];simp;omega
     refine nJ @h9 ?_
     refine hN (16-(i+1)) _ _ _ _ (by omega) (Gh.nrm [0,1,2,3] rfl rfl wz) ⟨i+1,by omega,rfl,by rw [←hst2];exact hlq,aj,aj,aj,aj,?_,aj,?_⟩
     ·rw [←hst2]
      exact aj
     ·rw [←hst2];rfl
  ·refine hX _ _ ?_
   refine dM (iP @h0 @h8) ?_
   refine jh ?_
   refine ⟨NN.bool,?_⟩
   have hs:reach b w=st:=by rw [reach,qo (i:=i) (by rw [hst];omega) 16 hi,hst]
   rw [hs] at hK
   exact hK
end Go.Bm
namespace Go.Bm
open Go Go.Am
abbrev WS:=List Bool×List Nat×Nat
def wB (p:List Nat) (st:WS):WS:=if bl st.1 st.2.2=true then st else (st.1.set st.2.2 true,st.2.1++[st.2.2],nl p st.2.2)
def wk (p:List Nat) (st:WS):Nat→WS
 |0=>st
 |j+1=>wB p (wk p st j)
def jG (p:List Nat) (m:Nat):Nat→List Bool×List (List Nat)
 |0=>(List.replicate 16 false,[])
 |k+1=>if bl (jG p m k).1 k=true then jG p m k else ((wk p ((jG p m k).1,[],k) m).1,(jG p m k).2++[(wk p ((jG p m k).1,[],k) m).2.1])
structure lV (p:List Nat) (n:Nat) (c:List Nat):Prop where
 ne:0<c.length
 lt: ∀x∈c,x<n
 eu:c.Nodup
 step: ∀j,j+1<c.length→nl p (nl c j)=nl c (j+1)
 last:nl p (nl c (c.length-1))=nl c 0
 least: ∀x∈c,nl c 0≤x
theorem eX {c:List Nat} {j:Nat} (h:j<c.length):nl c j∈c:=by simp [nl,List.getD,h]
theorem jU {c:List Nat} {x:Nat} (h:x∈c): ∃j,j<c.length∧nl c j=x:=by
 obtain ⟨i,hi,rfl⟩:=List.mem_iff_getElem.1 h
 exact ⟨i,hi,by simp [nl,List.getD,hi]⟩
theorem yV {c:List Nat} (h:c.Nodup) {i j:Nat} (hi:i<c.length) (hj:j<c.length) (he:nl c i=nl c j):i=j:=by
 have h':=List.pairwise_iff_getElem.1 h
 have e: ∀k (hk:k<c.length),nl c k=c[k]:=fun k hk=>by simp [nl,List.getD,hk]
 rcases Nat.lt_trichotomy i j with h1|h1|h1
 ·exact absurd (by rw [←e i hi,←e j hj];exact he) (h' i j hi hj h1)
 ·exact h1
 ·exact absurd (by rw [←e i hi,←e j hj];exact he.symm) (h' j i hj hi h1)
theorem Perm.inj {p:List Nat} {n:Nat} (h:Perm p n) {i j:Nat} (hi:i<n) (hj:j<n) (he:nl p i=nl p j):i=j:=by
 have h1:=h.1
 rcases Nat.lt_trichotomy i j with h2|h2|h2
 ·exact absurd he (((h.2 j (by omega)).2 (by omega)).2 i h2)
 ·exact h2
 ·exact absurd he.symm (((h.2 i (by omega)).2 (by omega)).2 j h2)
structure jv (p:List Nat) (n:Nat) (s0:List Bool) (i:Nat) (j:Nat) (st:WS):Prop where
 len:st.1.length=16
 at_:st.2.2<n
 new:bl s0 st.2.2=false
 mem: ∀x,bl st.1 x=true↔bl s0 x=true∨x∈st.2.1
 lt: ∀x∈st.2.1,x<n∧bl s0 x=false
 eu:st.2.1.Nodup
 cnt:st.1.count true=s0.count true+st.2.1.length
 step: ∀t,t+1<st.2.1.length→nl p (nl st.2.1 t)=nl st.2.1 (t+1)
 st0:st.2.1=[]→st.2.2=i
 st1:0<st.2.1.length→nl st.2.1 0=i∧nl p (nl st.2.1 (st.2.1.length-1))=st.2.2
 go:st.2.1.length=j∨bl st.1 st.2.2=true
theorem jv.wk {p:List Nat} {n:Nat} (hp:Perm p n) {s0:List Bool} {i:Nat} (hl:s0.length=16) (hi:i<n) (h0:bl s0 i=false) (hinv: ∀x,x<n→bl s0 (nl p x)=bl s0 x): ∀j,jv p n s0 i j (wk p (s0,[],i) j)
 |0=>by
  refine ⟨hl,hi,h0,fun x=>?_,?_,?_,?_,?_,?_,?_,?_⟩<;>simp [Bm.wk]
 |j+1=>by
  have ih:=jv.wk hp hl hi h0 hinv j
  have hn:=hp.1
  simp only [Bm.wk]
  generalize Bm.wk p (s0,[],i) j=st at ih⊢
  obtain ⟨s,l,k⟩:=st
  have h1:=ih.len
  have h2:=ih.at_
  have h3:=ih.new
  have h4:=ih.mem
  have h5:=ih.lt
  have h6:=ih.eu
  have h7:=ih.cnt
  have h8:=ih.step
  have h9:=ih.st0
  have h10:=ih.st1
  have h11:=ih.go
  simp only at h1 h2 h3 h4 h5 h6 h7 h8 h9 h10 h11
  unfold wB
  by_cases hb:bl s k=true
  ·rw [if_pos hb]
   exact ⟨h1,h2,h3,h4,h5,h6,h7,h8,h9,h10, .inr hb⟩
  ·rw [if_neg hb]
   have hkl:k∉l:=fun h=>hb ((h4 k).2 (.inr h))
   have hk:(l++[k]).length=l.length+1:=by simp
   refine ⟨by simpa using h1,hp.lt h2,by rw [hinv k h2];exact h3,fun x=>?_,fun x hx=>?_,?_,?_,fun t ht=>?_,fun h=>by simp at h,fun _=>?_, .inl ?_⟩
   ·show bl (s.set k true) x=true↔bl s0 x=true∨x∈l++[k]
    rw [jP]
    by_cases e:x=k
    ·subst e
     rw [if_pos ⟨rfl,by omega⟩]
     simp
    ·rw [if_neg (fun h=>e h.1),h4 x]
     simp [e]
   ·rcases List.mem_append.1 hx with h|h
    ·exact h5 x h
    ·rw [List.mem_singleton] at h
     subst h
     exact ⟨h2,h3⟩
   ·show (l++[k]).Nodup
    rw [List.nodup_append]
    exact ⟨h6,by simp,fun a ha b hb=>by
     rw [List.mem_singleton] at hb
     subst hb
     exact fun e=>hkl (e▸ha)⟩
   ·show (s.set k true).count true=s0.count true+(l++[k]).length
    rw [uO (by omega) (by simpa using hb),h7,hk]
    omega
   ·show nl p (nl (l++[k]) t)=nl (l++[k]) (t+1)
    have ht:t+1<l.length+1:=by rw [←hk];exact ht
    rw [jF,jF,if_pos (by omega)]
    by_cases e:t+1<l.length
    ·rw [if_pos e]
     exact h8 t e
    ·rw [if_neg e,uN (by omega),show t=l.length-1 by omega]
     exact (h10 (by omega)).2
   ·show nl (l++[k]) 0=i∧nl p (nl (l++[k]) ((l++[k]).length-1))=nl p k
    rw [hk,Nat.add_sub_cancel]
    refine ⟨?_,by rw [jF,if_neg (by omega),Nat.sub_self];rfl⟩
    rw [jF]
    split
    ·rename_i h
     exact (h10 h).1
    ·rename_i h
     have:l=[]:=List.eq_nil_of_length_eq_zero (by omega)
     subst this
     exact h9 rfl
   ·show (l++[k]).length=j+1
    rw [hk]
    rcases h11 with h|h
    ·omega
    ·exact absurd h hb
theorem jv.done {p:List Nat} {n m:Nat} (hm:m=16) (hp:Perm p n) {s0:List Bool} {i:Nat} (hl:s0.length=16) (hi:i<n) (h0:bl s0 i=false) (hinv: ∀x,x<n→bl s0 (nl p x)=bl s0 x):
  bl (Bm.wk p (s0,[],i) m).1 (Bm.wk p (s0,[],i) m).2.2=true:=by
 have h16:=jv.wk hp hl hi h0 hinv m
 have h17:=jv.wk hp hl hi h0 hinv (m+1)
 rcases h16.go with h|h
 ·cases hb:bl (Bm.wk p (s0,[],i) m).1 (Bm.wk p (s0,[],i) m).2.2 with
  |true=>rfl
  |false=>
   have e:Bm.wk p (s0,[],i) (m+1)=wB p (Bm.wk p (s0,[],i) m):=rfl
   rw [wB,if_neg (by simp [hb])] at e
   have h1:=h17.cnt
   have h2:=List.count_le_length (a:=true) (l:=(Bm.wk p (s0,[],i) (m+1)).1)
   have h3:=h17.len
   have h4:(Bm.wk p (s0,[],i) (m+1)).2.1.length=m+1:=by rw [e];simp [h]
   omega
 ·exact h
theorem jv.dV {p:List Nat} {n m:Nat} (hm:m=16) (hp:Perm p n) {s0:List Bool} {i:Nat} (hl:s0.length=16) (hi:i<n) (h0:bl s0 i=false) (hinv: ∀x,x<n→bl s0 (nl p x)=bl s0 x) (hup: ∀x,x<i→bl s0 x=true):
  lV p n (Bm.wk p (s0,[],i) m).2.1∧nl (Bm.wk p (s0,[],i) m).2.1 0=i:=by
 have h:=jv.wk hp hl hi h0 hinv m
 have hd:=jv.done hm hp hl hi h0 hinv
 generalize Bm.wk p (s0,[],i) m=st at h hd⊢
 obtain ⟨s,l,k⟩:=st
 have hkl:k∈l:=by
  rcases (h.mem k).1 hd with h1|h1
  ·exact absurd h1 (by have:=h.new;simp only at this;simp [this])
  ·exact h1
 have hne:0<l.length:=List.length_pos_of_mem hkl
 obtain ⟨hz,hla⟩:=h.st1 hne
 simp only at hz hla
 obtain ⟨j,hj,hje⟩:=jU hkl
 have hlt: ∀t,t<l.length→nl l t<n:=fun t ht=>(h.lt _ (eX ht)).1
 have hj0:j=0:=by
  rcases Nat.eq_zero_or_pos j with h1|h1
  ·exact h1
  ·exfalso
   have h2:=h.step (j-1) (by show j-1+1<l.length;omega)
   simp only at h2
   rw [show j-1+1=j by omega,hje,←hla] at h2
   have h3:=hp.inj (hlt _ (by omega)) (hlt _ (by omega)) h2
   have h4:=yV h.eu (by show j-1<l.length;omega) (by show l.length-1<l.length;omega) h3
   omega
 subst hj0
 refine ⟨⟨hne,fun x hx=>(h.lt x hx).1,h.eu,h.step,by rw [hla];exact hje.symm,fun x hx=>?_⟩,hz⟩
 rw [hz]
 rcases Nat.lt_or_ge x i with h1|h1
 ·have h2:=(h.lt x hx).2
  rw [hup x h1] at h2
  cases h2
 ·exact h1
theorem lV.fwd {p:List Nat} {n:Nat} {c:List Nat} (h:lV p n c) {x:Nat} (hx:x∈c):nl p x∈c:=by
 obtain ⟨j,hj,rfl⟩:=jU hx
 by_cases e:j+1<c.length
 ·rw [h.step j e]
  exact eX e
 ·rw [show j=c.length-1 by omega,h.last]
  exact eX h.ne
theorem lV.bwd {p:List Nat} {n:Nat} {c:List Nat} (hp:Perm p n) (h:lV p n c) {x:Nat} (hx:x<n) (hm:nl p x∈c):x∈c:=by
 obtain ⟨j,hj,hje⟩:=jU hm
 by_cases e:j=0
 ·subst e
  rw [←h.last] at hje
  have:=hp.inj (h.lt _ (eX (by have:=h.ne;omega))) hx hje
  rw [←this]
  exact eX (by have:=h.ne;omega)
 ·have h2:=h.step (j-1) (by omega)
  rw [show j-1+1=j by omega,hje] at h2
  have:=hp.inj (h.lt _ (eX (by omega))) hx h2
  rw [←this]
  exact eX (by omega)
structure lM (p:List Nat) (n i:Nat) (sc:List Bool×List (List Nat)):Prop where
 len:sc.1.length=16
 mem: ∀x,bl sc.1 x=true↔ ∃c∈sc.2,x∈c
 inv: ∀x,x<n→bl sc.1 (nl p x)=bl sc.1 x
 dV: ∀c∈sc.2,lV p n c
 cnt:sc.1.count true=sc.2.flatten.length
 eu:sc.2.flatten.Nodup
 upto: ∀x,x<i→bl sc.1 x=true
 hd: ∀c∈sc.2,nl c 0<i
 num:sc.2.length≤i
theorem lM.all {p:List Nat} {n m:Nat} (hm:m=16) (hp:Perm p n): ∀{i:Nat},i≤n→lM p n i (jG p m i)
 |0,_=>by
  have h0: ∀x,bl (List.replicate 16 false) x=false:=fun x=>vW
  rw [show jG p m 0=(List.replicate 16 false,[]) from rfl]
  have hno: ∀c:List Nat,c∉([]:List (List Nat)):=fun c=>List.not_mem_nil
  have hc0:(List.replicate 16 false).count true=0:=rfl
  exact ⟨List.length_replicate,fun x=>⟨fun h=>absurd ((h0 x).symm.trans h) Bool.false_ne_true,fun ⟨c,h,_⟩=>absurd h (hno c)⟩,fun x _=>(h0 _).trans (h0 x).symm,fun c h=>absurd h (hno c),hc0,List.nodup_nil,fun x h=>absurd h (Nat.not_lt_zero x),fun c h=>absurd h (hno c),Nat.le_refl _⟩
 |i+1,hi=>by
  have ih:=lM.all hm hp (i:=i) (by omega)
  have hn:=hp.1
  simp only [jG]
  generalize jG p m i=sc at ih⊢
  by_cases hb:bl sc.1 i=true
  ·rw [if_pos hb]
   exact ⟨ih.len,ih.mem,ih.inv,ih.dV,ih.cnt,ih.eu,fun x hx=>by
    by_cases e:x=i
    ·rw [e];exact hb
    ·exact ih.upto x (by omega),fun c hc=>by have:=ih.hd c hc;omega,by have:=ih.num;omega⟩
  ·rw [if_neg hb]
   have h0:bl sc.1 i=false:=by simpa using hb
   have hw:=jv.wk hp ih.len (show i<n by omega) h0 ih.inv m
   obtain ⟨hc,hz⟩:=jv.dV hm hp ih.len (show i<n by omega) h0 ih.inv ih.upto
   generalize Bm.wk p (sc.1,[],i) m=st at hw hc hz⊢
   obtain ⟨s,l,k⟩:=st
   have hm:=hw.mem
   have hlt:=hw.lt
   have hwc:=hw.cnt
   simp only at hc hz hm hlt hwc⊢
   have hil:i∈l:=by rw [←hz];exact eX hc.ne
   refine ⟨hw.len,fun x=>?_,fun x hx=>?_,fun c hc'=>?_,?_,?_,fun x hx=>?_,fun c hc'=>?_,by simp;exact ih.num⟩
   ·show bl s x=true↔_
    rw [hm x,ih.mem x]
    simp only [List.mem_append,List.mem_singleton]
    constructor
    ·rintro (⟨c,h1,h2⟩|h)
     ·exact ⟨c, .inl h1,h2⟩
     ·exact ⟨l, .inr rfl,h⟩
    ·rintro ⟨c,h1|rfl,h2⟩
     ·exact .inl ⟨c,h1,h2⟩
     ·exact .inr h2
   ·show bl s (nl p x)=bl s x
    have key:bl s (nl p x)=true↔bl s x=true:=by
     rw [hm,hm,ih.inv x hx]
     constructor
     ·rintro (h|h)
      ·exact .inl h
      ·exact .inr (hc.bwd hp hx h)
     ·rintro (h|h)
      ·exact .inl h
      ·exact .inr (hc.fwd h)
    exact Bool.eq_iff_iff.2 key
   ·rcases List.mem_append.1 hc' with h|h
    ·exact ih.dV c h
    ·rw [List.mem_singleton] at h
     subst h
     exact hc
   ·show s.count true=(sc.2++[l]).flatten.length
    rw [hwc,ih.cnt]
    simp
   ·show (sc.2++[l]).flatten.Nodup
    rw [List.flatten_append,List.nodup_append]
    refine ⟨ih.eu,by simpa using hw.eu,fun a ha b hb'=>?_⟩
    have TN:b∈l:=by simpa using hb'
    rintro rfl
    obtain ⟨c,h1,h2⟩:=List.mem_flatten.1 ha
    have h3:=(ih.mem a).2 ⟨c,h1,h2⟩
    rw [(hlt a TN).2] at h3
    cases h3
   ·show bl s x=true
    rw [hm]
    by_cases e:x=i
    ·rw [e];exact .inr hil
    ·exact .inl (ih.upto x (by omega))
   ·rcases List.mem_append.1 hc' with h|h
    ·have:=ih.hd c h;omega
    ·rw [List.mem_singleton] at h
     subst h
     omega
def dV (p:List Nat) (n:Nat):List (List Nat):=(jG p 16 n).2
section
variable {p:List Nat} {n:Nat}
theorem y8 (hp:Perm p n) {x:Nat} (hx:x<n): ∃c∈dV p n,x∈c:=((lM.all rfl hp (Nat.le_refl n)).mem x).1 ((lM.all rfl hp (Nat.le_refl n)).upto x hx)
theorem vV (hp:Perm p n) {c:List Nat} (h:c∈dV p n):lV p n c:=(lM.all rfl hp (Nat.le_refl n)).dV c h
end
end Go.Bm
namespace Go.Bm
open Go Go.Am
theorem FQ {p:List Int} {i j:Nat} {x:Int}:el (p.set i x) j=if j=i∧i<p.length then x else el p j:=by
 unfold el
 simp only [List.getD]
 by_cases h:i=j
 ·subst h
  by_cases hi:i<p.length
  ·simp [hi]
  ·simp [List.getElem?_eq_none (by omega:p.length≤i),hi]
 ·rw [List.getElem?_set_ne h,if_neg (fun e=>h e.1.symm)]
def swp (p:List Int) (i j:Nat):List Int:=(p.set i (el p j)).set j (el p i)
theorem TP {p:List Int} {i j:Nat}:(swp p i j).length=p.length:=by simp [swp]
theorem jH {p:List Int} {i j k:Nat} (hi:i<p.length) (hj:j<p.length):el (swp p i j) k=if k=j then el p i else if k=i then el p j else el p k:=by
 unfold swp
 rw [FQ,FQ]
 by_cases h:k=j
 ·rw [if_pos ⟨h,by simpa using hj⟩,if_pos h]
 ·rw [if_neg (fun e=>h e.1),if_neg h]
  by_cases h2:k=i
  ·rw [if_pos ⟨h2,hi⟩,if_pos h2]
  ·rw [if_neg (fun e=>h2 e.1),if_neg h2]
theorem TQ {p:List Int} {i j:Nat} (hi:i<p.length) (hj:j<p.length):(swp p i j).Perm p:=by
 rw [List.perm_iff_count]
 intro a
 unfold swp
 rw [List.count_set (by simpa using hj),List.count_set hi]
 have e1:p[i]=el p i:=by simp [el,List.getD,hi]
 have e2:p[j]=el p j:=by simp [el,List.getD,hj]
 have e3:(p.set i (el p j))[j]'(by simpa using hj)=el p j:=by
  rw [List.getElem_set]
  split
  ·rfl
  ·exact e2
 rw [e3,e1]
 have c1:(el p i==a)=true→0<p.count a:=fun h=>by
  rw [List.count_pos_iff,←beq_iff_eq.1 h,←e1];exact List.getElem_mem hi
 by_cases h1:(el p i==a)=true<;>by_cases h2:(el p j==a)=true<;>simp only [h1,h2,if_true,if_false,Bool.false_eq_true]<;>first|omega|(have:=c1 h1;omega)
structure Sg (a b:Nat) (p q:List Int):Prop where
 len:q.length=p.length
 out: ∀i,i<a∨b≤i→el q i=el p i
 src: ∀i,a≤i→i<b→ ∃j,a≤j∧j<b∧el q i=el p j
 perm:q.Perm p
theorem Sg.refl {a b:Nat} {p:List Int}:Sg a b p p:=⟨rfl,fun _ _=>rfl,fun i h1 h2=>⟨i,h1,h2,rfl⟩, .refl _⟩
theorem Sg.trans {a b:Nat} {p q r:List Int} (h:Sg a b p q) (k:Sg a b q r):Sg a b p r:=⟨k.len.trans h.len,fun i hi=>(k.out i hi).trans (h.out i hi),fun i h1 h2=>by
 obtain ⟨j,j1,j2,j3⟩:=k.src i h1 h2
 obtain ⟨l,l1,l2,l3⟩:=h.src j j1 j2
 exact ⟨l,l1,l2,j3.trans l3⟩,k.perm.trans h.perm⟩
theorem Sg.mono {a b a' b':Nat} {p q:List Int} (h:Sg a b p q) (ha:a'≤a) (hb:b≤b'):Sg a' b' p q:=⟨h.len,fun i hi=>h.out i (by omega),fun i h1 h2=>by
 by_cases hi:a≤i∧i<b
 ·obtain ⟨j,j1,j2,j3⟩:=h.src i hi.1 hi.2
  exact ⟨j,by omega,by omega,j3⟩
 ·exact ⟨i,h1,h2,h.out i (by omega)⟩,h.perm⟩
theorem Sg.swp {a b i j:Nat} {p:List Int} (h1:a≤i) (h2:i<b) (h3:a≤j) (h4:j<b) (hb:b≤p.length):Sg a b p (swp p i j):=⟨TP,fun k hk=>by
 rw [jH (by omega) (by omega),if_neg (by omega),if_neg (by omega)],fun k k1 k2=>by
 rw [jH (by omega) (by omega)]
 split
 ·exact ⟨i,h1,h2,rfl⟩
 ·split
  ·exact ⟨j,h3,h4,rfl⟩
  ·exact ⟨k,k1,k2,rfl⟩,TQ (by omega) (by omega)⟩
def nK (a b:Nat) (p:List Int):Prop:= ∀i j,a≤i→i≤j→j<b→el p i≤el p j
theorem nK.one {a:Nat} {p:List Int}:nK a (a+1) p:=fun i j h1 h2 h3=>by
 obtain rfl:i=j:=by omega
 exact Int.le_refl _
end Go.Bm
namespace Go.Bm
open Go Go.Am
section
variable {k:Nat} {Q:Ex→Fr→BH→Prop} {f:Fr} {H:BH}
end
structure PI (p q:List Int) (v:Int) (a b i j:Nat):Prop where
 sg:Sg a b p q
 lo:a+1≤i
 ij:i≤j+1
 jb:j<b
 ge:a≤j
 va:el q a=v
 lt: ∀x,a<x→x<i→el q x<v
 gt: ∀x,j<x→x<b→v≤el q x
section
variable {p q:List Int} {v:Int} {a b i j:Nat}
theorem PI.up (h:PI p q v a b i j) (hij:i≤j) (hx:el q i<v):PI p q v a b (i+1) j:=⟨h.sg,by have:=h.lo;omega,by omega,h.jb,h.ge,h.va,fun x h1 h2=>by
 rcases Nat.lt_or_ge x i with h3|h3
 ·exact h.lt x h1 h3
 ·obtain rfl:x=i:=by omega
  exact hx,h.gt⟩
theorem PI.dn (h:PI p q v a b i j) (hij:i≤j) (hx: ¬el q j<v):PI p q v a b i (j-1):=⟨h.sg,h.lo,by have:=h.lo;omega,by have:=h.jb;omega,by have:=h.lo;omega,h.va,h.lt,fun x h1 h2=>by
 rcases Nat.lt_or_ge j x with h3|h3
 ·exact h.gt x h3 h2
 ·obtain rfl:x=j:=by have:=h.lo;omega
  omega⟩
theorem PI.keep (h:PI p q v a b i j) (hs:j<i∨ ¬(el q i<v)) (hij:i≤j):j-1<i∨ ¬(el q i<v):=by
 rcases hs with hs|hs
 ·omega
 ·exact .inr hs
theorem PI.ex (h:PI p q v a b i j) (hb:b≤p.length) (h1:i<j) (h2: ¬el q i<v) (h3:el q j<v):PI p (swp q i j) v a b (i+1) (j-1):=by
 have hl:=h.sg.len
 have lo:=h.lo
 have jb:=h.jb
 refine ⟨h.sg.trans (.swp (by omega) (by omega) (by omega) (by omega) (by omega)),by omega,by omega,by omega,by omega,?_,fun x x1 x2=>?_,fun x x1 x2=>?_⟩
 ·rw [jH (by omega) (by omega),if_neg (by omega),if_neg (by omega)];exact h.va
 ·rw [jH (by omega) (by omega),if_neg (by omega)]
  split
  ·exact h3
  ·exact h.lt x x1 (by omega)
 ·rw [jH (by omega) (by omega)]
  split
  ·omega
  ·rw [if_neg (by omega)]
   exact h.gt x (by omega) x2
theorem PI.fin (h:PI p q v a b i j) (hb:b≤p.length) (h1:j<i):Sg a b p (swp q j a)∧(∀x,a≤x→x<j→el (swp q j a) x≤el (swp q j a) j)∧(∀x,j<x→x<b→el (swp q j a) j≤el (swp q j a) x):=by
 have hl:=h.sg.len
 have lo:=h.lo
 have jb:=h.jb
 have ge:=h.ge
 have ij:=h.ij
 have ej:el (swp q j a) j=v:=by
  rw [jH (by omega) (by omega)]
  split
  ·rename_i e;rw [e];exact h.va
  ·rw [if_pos rfl];exact h.va
 refine ⟨h.sg.trans (.swp (by omega) (by omega) (by omega) (by omega) (by omega)),fun x x1 x2=>?_,fun x x1 x2=>?_⟩
 ·rw [ej,jH (by omega) (by omega)]
  split
  ·exact Int.le_of_lt (h.lt j (by omega) (by omega))
  ·rw [if_neg (by omega)]
   exact Int.le_of_lt (h.lt x (by omega) (by omega))
 ·rw [ej,jH (by omega) (by omega),if_neg (by omega),if_neg (by omega)]
  exact h.gt x x1 x2
end
structure FT (p q:List Int) (v:Int) (a b i j:Nat):Prop where
 sg:Sg a b p q
 lo:a+1≤i
 ij:i≤j+1
 jb:j<b
 ge:a≤j
 va:el q a=v
 lt: ∀x,a<x→x<i→el q x≤v
 gt: ∀x,j<x→x<b→v<el q x
section
variable {p q:List Int} {v:Int} {a b i j:Nat}
end
theorem PI.start {p:List Int} {a b t:Nat} (hb:b≤p.length) (h1:a≤t) (h2:t<b):PI p (swp p a t) (el p t) a b (a+1) (b-1):=⟨.swp (by omega) (by omega) (by omega) (by omega) hb,by omega,by omega,by omega,by omega,by
 rw [jH (by omega) (by omega)]
 split
 ·rename_i e;rw [e]
 ·rw [if_pos rfl],fun x x1 x2=>by omega,fun x x1 x2=>by omega⟩
theorem FT.start {p:List Int} {a b t:Nat} (hb:b≤p.length) (h1:a≤t) (h2:t<b):FT p (swp p a t) (el p t) a b (a+1) (b-1):=⟨.swp (by omega) (by omega) (by omega) (by omega) hb,by omega,by omega,by omega,by omega,by
 rw [jH (by omega) (by omega)]
 split
 ·rename_i e;rw [e]
 ·rw [if_pos rfl],fun x x1 x2=>by omega,fun x x1 x2=>by omega⟩
end Go.Bm
namespace Go.Bm
open Go Go.Am
end Go.Bm
namespace Go.Bm
open Go Go.Am
end Go.Bm
namespace Go.Bm
open Go Go.Am
set_option maxRecDepth 10000
def len8:ByteArray:=⟨#[0,1,2,2,3,3,3,3,4,4,4,4,4,4,4,4,5,5,5,5,5,5,5,5,5,5,5,5,5,5,5,5,6,6,6,6,6,6,6,6,6,6,6,6,6,6,6,6,6,6,6,6,6,6,6,6,6,6,6,6,6,6,6,6,7,7,7,7,7,7,7,7,7,7,7,7,7,7,7,7,7,7,7,7,7,7,7,7,7,7,7,7,7,7,7,7,7,7,7,7,7,7,7,7,7,7,7,7,7,7,7,7,7,7,7,7,7,7,7,7,7,7,7,7,7,7,7,7,8,8,8,8,8,8,8,8,8,8,8,8,8,8,8,8,8,8,8,8,8,8,8,8,8,8,8,8,8,8,8,8,8,8,8,8,8,8,8,8,8,8,8,8,8,8,8,8,8,8,8,8,8,8,8,8,8,8,8,8,8,8,8,8,8,8,8,8,8,8,8,8,8,8,8,8,8,8,8,8,8,8,8,8,8,8,8,8,8,8,8,8,8,8,8,8,8,8,8,8,8,8,8,8,8,8,8,8,8,8,8,8,8,8,8,8,8,8,8,8,8,8,8,8,8,8,8,8]⟩
def lenOf (x:Nat):Nat:=match len8[x]? with|some b=>b.toNat|none=>0
end Go.Bm
namespace Go.Bm
open Go Go.Am
section
variable {k:Nat} {Q:Ex→Fr→BH→Prop} {f:Fr} {H:BH}
end
def Od (a b a' b':Nat) (q:List Int):Prop:= ∀x y,a≤x→x<y→y<b→ ¬(a'≤x∧y<b')→el q x≤el q y
def Pre (a b:Nat) (q:List Int):Prop:=0<a→ ∀x,a≤x→x<b→el q (a-1)≤el q x
section
variable {a b a' b' m:Nat} {q r:List Int}
theorem Od.sg (h:Od a b a' b' q) (ha:a≤a') (hb:b'≤b) (k:Sg a' b' q r):Od a b a' b' r:=by
 intro x y h1 h2 h3 h4
 by_cases hx:a'≤x∧x<b'
 ·obtain ⟨x',x1,x2,x3⟩:=k.src x hx.1 hx.2
  rw [x3,k.out y (by omega)]
  exact h x' y (by omega) (by omega) h3 (by omega)
 ·rw [k.out x (by omega)]
  by_cases hy:a'≤y∧y<b'
  ·obtain ⟨y',y1,y2,y3⟩:=k.src y hy.1 hy.2
   rw [y3]
   exact h x y' h1 (by omega) (by omega) (by omega)
  ·rw [k.out y (by omega)]
   exact h x y h1 h2 h3 h4
theorem Pre.sg (h:Pre a' b' q) (k:Sg a' b' q r):Pre a' b' r:=fun h0 x h1 h2=>by
 obtain ⟨x',x1,x2,x3⟩:=k.src x h1 h2
 rw [x3,k.out (a'-1) (by omega)]
 exact h h0 x' x1 x2
theorem Od.left (h:Od a b a' b' q) (ha:a≤a') (hb:b'≤b) (h1:a'≤m) (h2:m<b') (hl: ∀x,a'≤x→x<m→el q x≤el q m) (hr: ∀x,m<x→x<b'→el q m≤el q x) (k:Sg a' m q r) (hs:nK a' m r):Od a b (m+1) b' r:=by
 intro x y k1 k2 k3 k4
 by_cases hb2:a'≤x∧y<b'
 ·have em:el r m=el q m:=k.out m (by omega)
  have hlow: ∀z,a'≤z→z<m→el r z≤el q m:=fun z z1 z2=>by
   obtain ⟨z',w1,w2,w3⟩:=k.src z z1 z2
   rw [w3]
   exact hl z' w1 w2
  have hup: ∀z,m<z→z<b'→el q m≤el r z:=fun z z1 z2=>by
   rw [k.out z (by omega)]
   exact hr z z1 z2
  rcases Nat.lt_trichotomy y m with hy|hy|hy
  ·exact hs x y hb2.1 (by omega) hy
  ·subst hy
   rw [em]
   exact hlow x hb2.1 k2
  ·have h9:=hup y hy hb2.2
   rcases Nat.lt_or_ge x m with hx|hx
   ·exact Int.le_trans (hlow x hb2.1 hx) h9
   ·obtain rfl:x=m:=by omega
    rw [em]
    exact h9
 ·exact h.sg ha hb (k.mono (by omega) (by omega)) x y k1 k2 k3 hb2
theorem Od.right (h:Od a b a' b' q) (ha:a≤a') (hb:b'≤b) (h1:a'≤m) (h2:m<b') (hl: ∀x,a'≤x→x<m→el q x≤el q m) (hr: ∀x,m<x→x<b'→el q m≤el q x) (k:Sg (m+1) b' q r) (hs:nK (m+1) b' r):Od a b a' m r:=by
 intro x y k1 k2 k3 k4
 by_cases hb2:a'≤x∧y<b'
 ·have em:el r m=el q m:=k.out m (by omega)
  have hlow: ∀z,a'≤z→z<m→el r z≤el q m:=fun z z1 z2=>by
   rw [k.out z (by omega)]
   exact hl z z1 z2
  have hup: ∀z,m<z→z<b'→el q m≤el r z:=fun z z1 z2=>by
   obtain ⟨z',w1,w2,w3⟩:=k.src z (by omega) z2
   rw [w3]
   exact hr z' (by omega) w2
  rcases Nat.lt_trichotomy x m with hx|hx|hx
  ·have h9:=hlow x hb2.1 hx
   rcases Nat.lt_or_ge m y with hy|hy
   ·exact Int.le_trans h9 (hup y hy hb2.2)
   ·obtain rfl:y=m:=by omega
    rw [em]
    exact h9
  ·subst hx
   rw [em]
   exact hup y k2 hb2.2
  ·exact hs x y (by omega) (by omega) hb2.2
 ·exact h.sg ha hb (k.mono (by omega) (by omega)) x y k1 k2 k3 hb2
theorem Od.done (h:Od a b a' b' q) (ha:a≤a') (hb:b'≤b) (hs:nK a' b' q):nK a b q:=fun x y h1 h2 h3=>by
 rcases Nat.lt_or_ge x y with hx|hx
 ·by_cases hc:a'≤x∧y<b'
  ·exact hs x y hc.1 h2 hc.2
  ·exact h x y h1 hx h3 hc
 ·obtain rfl:x=y:=by omega
  exact Int.le_refl _
end
end Go.Bm
namespace Go.Bm
open Go Go.Am
abbrev dU (n:Nat):Value:= .int .i64 (n:Int)
theorem vk {H:BH} {b bytes cn:Nat} {xs:List Nat} {y:Nat} (h:(xs.length+1)*bytes≤140737488355328):app1 (some [.int .i64 (y:Int)]) (some (xs.map dU)) H b xs.length bytes cn=some (S H.length 0 (xs.length+1) 1,(H.set b none)++[some ((xs++[y]).map dU)]):=qR (g:=dU) rfl h
theorem iE {l:List Nat}:aF (l.map N8):=aF.map fun _=> .int
end Go.Bm
namespace Go.Bm
open Go Go.Am
def FU (p:List Int):Prop:= ∀i j,i≤j→j<p.length→el p j≤el p i
theorem FU.head {a:Int} {p:List Int} (h:FU (a::p)): ∀x∈p,x≤a:=fun x hx=>by
 obtain ⟨i,hi,rfl⟩:=List.mem_iff_getElem.1 hx
 have:=h 0 (i+1) (by omega) (by simpa using hi)
 simpa [el,List.getD,hi] using this
end Go.Bm
namespace Go.Bm
open Go Go.Am
section
variable {p:List Nat} {n:Nat}
end
end Go.Bm
namespace Go.Bm
open Go Go.Am
abbrev FN (c:List Nat):Value:=Fz c.length 1 (c.map dU)
theorem iQ {p:List (List Nat)}:aF (p.map FN):=aF.map fun _=>NN.fz
theorem kN {p:List Nat}:aF (p.map dU):=aF.map fun _=>NN.int
theorem RY {H:BH} {b bytes cn:Nat} {xs:List (List Nat)} {y:List Nat} (h:(xs.length+1)*bytes≤140737488355328):app1 (some [Fz y.length 1 (y.map dU)]) (some (xs.map FN)) H b xs.length bytes cn=some (S H.length 0 (xs.length+1) 1,(H.set b none)++[some ((xs++[y]).map FN)]):=qR (g:=FN) rfl h
theorem y7 {xs:List (List Nat)} {k:Nat} (h:k<xs.length):getN none (xs.map FN) k=some (FN (xs.getD k [])):=by
 simp [getN,h,List.getD]
theorem vw {i j o l e:Nat} {cs:List Value} (h:j≠i):frz i cs (S j o l e)=S j o l e:=by
 simp only [frz]
 rw [if_neg (fun k=>h k.1)]
theorem RV:(type_of% @iQ)∧(type_of% @kN):=⟨@iQ, @kN⟩
end Go.Bm
namespace Go.Bm
open Go Go.Am
def kM (c:Option (List Value)) (H:BH) (b l m bytes:Nat) (ys:List Value):Option (Value×BH):=
 match c with
 |some cs=>if ys.length=m∧l≤cs.length∧(l+m)*bytes≤140737488355328∧ys.all dB=true then some (S H.length 0 (l+m) 1,(H.set b none)++[some (cs.take l++ys)]) else dK 1 bytes (S b 0 l 1) (Fz m 1 ys) H
 |none=>dK 1 bytes (S b 0 l 1) (Fz m 1 ys) H
theorem Ej {H:BH} {b l m bytes:Nat} {ys:List Value}:dK 1 bytes (S b 0 l 1) (Fz m 1 ys) H=kM (blk H b) H b l m bytes ys:=by
 unfold kM
 split
 ·rename_i cs hb
  split
  ·rename_i h
   obtain ⟨h1,h2,h3,h4⟩:=h
   by_cases hm:m=0
   ·subst hm
    obtain rfl:ys=[]:=List.eq_nil_of_length_eq_zero h1
    simp only [Nat.add_zero] at h3
    simp [dK,newC,Fz,hb,h2,h3]
   ·simp only [dK,newC,Fz,if_neg hm,if_true,hb,Nat.mul_one]
    rw [if_pos ⟨h2,h3,h4⟩]
  ·rfl
 ·rfl
section
variable {H:BH} {b bytes:Nat}
theorem FV {α:Type} {g:α→Value} {xs ys:List α} (ho: ∀a,dB (g a)=true) (h:(xs.length+ys.length)*bytes≤140737488355328):
  kM (some (xs.map g)) H b xs.length ys.length bytes (ys.map g)=some (S H.length 0 (xs.length+ys.length) 1,(H.set b none)++[some ((xs++ys).map g)]):=by
 simp only [kM]
 rw [if_pos ⟨by simp,by simp,h,by simp [ho]⟩]
 simp [List.take_of_length_le]
theorem TR {α:Type} {g:α→Value} {x:α} {ys:List α} (ho: ∀a,dB (g a)=true) (h:(ys.length+1)*bytes≤140737488355328):
  kM (some [g x]) H b 1 ys.length bytes (ys.map g)=some (S H.length 0 (ys.length+1) 1,(H.set b none)++[some ((x::ys).map g)]):=by
 have:=FV (H:=H) (b:=b) (bytes:=bytes) (g:=g) (xs:=[x]) (ys:=ys) ho (by simpa [Nat.add_comm] using h)
 simpa [Nat.add_comm] using this
theorem Sj {α:Type} {g:α→Value} {ys:List α} (ho: ∀a,dB (g a)=true) (h:ys.length*bytes≤140737488355328):
  kM (some []) H b 0 ys.length bytes (ys.map g)=some (S H.length 0 ys.length 1,(H.set b none)++[some (ys.map g)]):=by
 have:=FV (H:=H) (b:=b) (bytes:=bytes) (g:=g) (xs:=[]) (ys:=ys) ho (by simpa using h)
 simpa using this
theorem Td {x:Nat} {ys:List Nat} (h:(ys.length+1)*bytes≤140737488355328):kM (some [.int .i64 (x:Int)]) H b 1 ys.length bytes (ys.map dU)=some (S H.length 0 (ys.length+1) 1,(H.set b none)++[some ((x::ys).map dU)]):=TR (g:=dU) (fun _=>rfl) h
end
end Go.Bm
namespace Go.Bm
open Go Go.Am
section
variable {code:List Nat} {a b:Nat} {h:Int} {H:BH}
end
end Go.Bm
namespace Go.Bm
open Go Go.Am
abbrev kS (m:Nat) (ls:List (List Nat)):Value:=Fz ls.length m (ls.flatten.map N8)
theorem FW {α:Type} {m:Nat}: ∀{ls:List (List α)} {j:Nat},(∀p∈ls,p.length=m)→j<ls.length→ ∃r,ls.flatten.drop (j*m)=ls.getD j []++r
 |p::ls,0,h,_=>⟨ls.flatten,by simp⟩
 |p::ls,j+1,h,hj=>by
  obtain ⟨r,hr⟩:=FW (ls:=ls) (j:=j) (fun q hq=>h q (by simp [hq])) (by simpa using hj)
  refine ⟨r,?_⟩
  have hp:p.length=m:=h p (by simp)
  rw [List.flatten_cons,Nat.succ_mul,Nat.add_comm,List.drop_append,List.drop_eq_nil_of_le (by omega)]
  simp only [List.nil_append,hp]
  rw [show m+j*m-m=j*m by omega,hr]
  simp [List.getD]
theorem flat_len {α:Type} {m:Nat}: ∀{ls:List (List α)},(∀p∈ls,p.length=m)→ls.flatten.length=ls.length*m
 |[],_=>by simp
 |p::ls,h=>by rw [List.flatten_cons,List.length_append,flat_len fun q hq=>h q (by simp [hq]),h p (by simp),List.length_cons,Nat.succ_mul];omega
theorem getD_mem {α:Type} {ls:List α} {d:α} {j:Nat} (h:j<ls.length):ls.getD j d∈ls:=by simp [List.getD,h]
theorem TS {m j:Nat} {ls:List (List Nat)} (h: ∀p∈ls,p.length=m) (hj:j<ls.length):getN (some m) (ls.flatten.map N8) (j*m)=some (PL (ls.getD j [])):=by
 obtain ⟨r,hr⟩:=FW h hj
 have hl:=h _ (getD_mem (d:=[]) hj)
 have hf:=flat_len h
 have:(j+1)*m≤ls.length*m:=Nat.mul_le_mul_right _ hj
 rw [Nat.succ_mul] at this
 generalize ls.getD j []=q at hr hl⊢
 rw [lU (by rw [List.length_map,hf];omega),←List.map_drop,hr,List.map_append,List.take_append_of_le_length (by simp [hl]),List.take_of_length_le (by simp [hl])]
theorem SI {b w:List Nat} {m:Nat} {v:Value} (hb:b.length=m) (hw:w.length=m):fillL (repl (List.replicate m v) 2) [(0,m,PL b),(m,m,PL w)]=some (b.map N8++w.map N8):=by
 simp [fillL,repl,cellsL,hb,hw,splice,List.take_append,List.drop_append]
theorem SL {x:Bool} {ls:List (List Nat)} {n:Int} {H:BH} {K:Value→BH→Prop} (hll:ls.length≤1000) (hl: ∀p∈ls,p.length=16) (gQ: ∀p∈ls,∀i,nl p i<16)
  (hK:K (I (aJ ls (st0 16) 16).2.length) H):aA x OT [I n,kS 16 ls] H K:=by
 refine cO (by simp only [RH]) ?_
 refine aZ PE ?_;simp only [bJ,aB]
 refine fB ?_
 refine fB ?_
 refine fB ?_
 refine fB ?_
 refine bH (fun m f H'=> ∃i,i≤16∧m=16-i∧i≤(aJ ls (st0 16) i).2.length∧f 1=kS 16 ls∧f 5=P 0 0∧f 6=S 1 0 (aJ ls (st0 16) i).2.length 1∧f 7=I i∧H'=[some ((aJ ls (st0 16) i).1.map B),some ((aJ ls (st0 16) i).2.map N8)]) (16) ?_ ?_
 ·refine ⟨_,_,Gh.refl,0,by omega,by omega,by omega,aj,aj,aj,aj,?_⟩
  simp [aJ,st0]<;>rfl
 ·rintro m f H' R ⟨i,hi,rfl,hil,h1,h5,h6,h7,rfl⟩ hN hX hR hE
  simp only [bJ.l1,aB]
  have hB:=(Bi.st0 (m:=16) (by omega)).aJ gQ i
  generalize hst:aJ ls (st0 16) i=st at hil h6 hB
  have hle:=hB.le
  have hsl:=hB.len
  refine dM (iP @h6 @h7) ?_
  refine iV (i<st.2.length) (fun hc=>?_) fun hc=>?_
  ·have hx:=hB.lt i hc
   refine lS ?_
   refine dM @h1 ?_
   refine bH (fun m f H'=> ∃j st',j≤ls.length∧m=ls.length-j∧st'=fM (ls.take j) (nl st.2 i) st∧f 1=kS 16 ls∧f 5=P 0 0∧f 6=S 1 0 st'.2.length 1∧f 7=I i∧f 19=kS 16 ls∧f 20=I ls.length∧f 21=I j∧H'=[some (st'.1.map B),some (st'.2.map N8)]) (ls.length) ?_ ?_
   ·refine ⟨_,_,Gh.refl,0,st,by omega,by omega,rfl,aj,aj,aj,aj,aj,aj,aj,rfl⟩
   ·clear h1 h5 h6 h7
    rintro m f H' R2 ⟨j,st',hj,rfl,hst',h1,h5,h6,h7,h19,h20,h21,rfl⟩ lu hX2 hR2 hE2
    simp only [bJ.l0,aB]
    refine dM (iP @h20 @h21) ?_
    have hB':Bi 16 st':=by rw [hst'];exact hB.round fun p hp=>gQ p (List.mem_of_mem_take hp) _
    have hle':=hB'.le
    have je:=hB'.len
    refine iV (j<ls.length) (fun hc=>?_) fun hc=>?_
    ·obtain ⟨q,hq⟩:= @lC (nl st.2 i) (ls.take j) st
     rw [←hst'] at hq
     have hxi:nl st'.2 i=nl st.2 i:=by rw [hq,jF,if_pos (by assumption)]
     have Wi:i<st'.2.length:=by rw [hq];simp;omega
     have hnx:=uS (ls:=ls) (x:=nl st.2 i) (st:=st) hc
     rw [←hst'] at hnx
     have hpl:=hl _ (getD_mem (d:=[]) hc)
     have hyl:=gQ _ (getD_mem (d:=[]) hc) (nl st.2 i)
     obtain ⟨pj,qm⟩: ∃pj,ls.getD j []=pj:=⟨_,rfl⟩
     rw [qm] at hnx hpl hyl
     obtain ⟨y,jf⟩: ∃y,nl pj (nl st.2 i)=y:=⟨_,rfl⟩
     rw [jf] at hyl hnx
     have hnext: ∀f' st2,f' 1=kS 16 ls→f' 5=P 0 0→f' 6=S 1 0 st2.2.length 1→f' 7=I i→f' 19=kS 16 ls→f' 20=I ls.length→f' 21=I j→st2=visit st' y→
       T 0 bJ.r13 R2 f' [some (st2.1.map B),some (st2.2.map N8)]:=by
      intro f' st2 h1 h5 h6 h7 h19 h20 h21 hs2
      refine nJ @h21 ?_
      exact lu (ls.length-(j+1)) _ _ _ _ (by omega) Gh.refl ⟨j+1,st2,by omega,rfl,by rw [hnx,hs2],aj,aj,aj,aj,aj,aj,aj,rfl⟩
     refine lS ?_
     refine dM (zA @h19 @h21 (TS hl hc) @qm) ?_
     refine dM (wo @h6 @h7 @hxi @hpl @jf) ?_
     refine dM (iP @h5 @je) ?_
     refine iV (¬bl st'.1 y=true) (fun hc=>?_) fun hc=>?_
     ·refine dM (iP @h5 @je) ?_
      refine dM @h6 ?_
      refine jg (Gh.nrm [0,4] rfl rfl wz) ?_
      refine hnext _ (st'.1.set y true,st'.2++[y]) aj aj aj aj aj aj aj ?_
      rw [visit,if_neg hc]
     ·refine zy ?_
      refine jg (Gh.nrm [0,1] rfl rfl wz) ?_
      refine hnext _ st' aj aj aj aj aj aj aj ?_
      rw [visit,if_pos (by simpa using hc)]
    ·refine hX2 _ _ ?_
     obtain rfl:j=ls.length:=by omega
     have hst2:st'=aJ ls (st0 16) (i+1):=by
      rw [hst',aJ,hst,if_pos (by assumption),List.take_length]
     obtain ⟨q,hq⟩:= @lC (nl st.2 i) (ls.take ls.length) st
     have hlq:i+1≤st'.2.length:=by rw [hst',hq];simp;omega
     refine nJ @h7 ?_
     refine hN (16-(i+1)) _ _ _ _ (by omega) Gh.refl ⟨i+1,by omega,rfl,by rw [←hst2];exact hlq,aj,aj,?_,aj,?_⟩
     ·rw [←hst2]
      exact aj
     ·rw [←hst2]
  ·refine hX _ _ ?_
   refine dM @h6 ?_
   refine jh ?_
   refine ⟨NN.int,?_⟩
   have hs:aJ ls (st0 16) 16=st:=by rw [qo (i:=i) (by rw [hst];omega) 16 hi,hst]
   rw [hs] at hK
   exact hK
def bg (n:Int) (b w:List Nat):Prop:=Perm b n∧Perm w n∧((reach b w).2.length:Int)=n
instance (n:Int) (b w:List Nat):Decidable (bg n b w):=by unfold bg;infer_instance
theorem Perm.vP {p:List Nat} {n:Int} (h:Perm p n) (hl:p.length=16) (i:Nat):nl p i<16:=by
 obtain ⟨m,rfl⟩:=Int.eq_ofNat_of_zero_le (show 0≤n by have:=h.1;omega)
 exact h.iD hl i
theorem TT {x:Bool} {n:Int} {b w:List Nat} {H:BH} {K:Value→BH→Prop} (hb:By 16 b) (hw:By 16 w) (hK:K (.bool (decide (bg n b w))) H):aA x OE [DV n b w] H K:=by
 have hlb:=hb.len
 have fH:=hw.len
 refine cO (by simp only [RH]) ?_
 refine aZ Ph ?_;simp only [kE,aB]
 refine fB ?_
 refine TU (iP @lJ @qK) fun Kr hKr=>?_
 refine FM hb ?_
 by_cases h1:Perm b n
 ·rw [decide_eq_true h1]
  refine FX (iP @lJ @qJ) ?_
  refine FM hw ?_
  by_cases h2:Perm w n
  ·rw [decide_eq_true h2]
   refine FX (vZ @lJ @qJ @qK) ?_
   refine TM hb hw (h1.vP hb.len) (h2.vP hw.len) ?_
   refine vX ?_
   refine vY hKr ?_
   refine jh ?_
   exact ⟨NN.bool,by simpa [bg,h1,h2] using hK⟩
  ·rw [decide_eq_false h2]
   refine vX ?_
   refine vY hKr ?_
   refine jh ?_
   exact ⟨NN.bool,by simpa [bg,h1,h2] using hK⟩
 ·rw [decide_eq_false h1]
  refine vX ?_
  refine vY hKr ?_
  refine jh ?_
  exact ⟨NN.bool,by simpa [bg,h1] using hK⟩
theorem SK {m:Nat} {b w:List Nat}:Fz 2 m (b.map N8++w.map N8)=kS m [b,w]:=by simp [kS]
end Go.Bm
namespace Go.Bm
open Go Go.Am
def dG:List Nat:=List.replicate 16 0
theorem pX:By 16 dG:=By.rep
theorem fZ:dG.length=16:=by simp [dG]
theorem dz:(Value.int .i64 0::List.replicate 32 (Value.int .u8 0))=DC 0 dG dG:=by rfl
theorem wC {b:List Nat}:(b.map N8).all Am.plain=true:=all_map fun _=>rfl
theorem TV {n:Int} {b w:List Nat}:(DC n b w).all dB=true:=by
 simp only [DC,List.all_cons,List.all_append,Bool.and_eq_true]
 exact ⟨rfl,lW,lW⟩
theorem wE {n:Int} {b w:List Nat} (hb:b.length=16) (hw:w.length=16):(DC n b w).length=33:=by simp [hb,hw]
theorem kJ {n:Int} {b w:List Nat}:aF (DC n b w):= .cons .int (.append (.map fun _=> .int) (.map fun _=> .int))
section
variable {H:BH} {i:Nat} {n m:Int} {b w b' w' p:List Nat}
theorem FY (hb:b.length=16) (hw:w.length=16) (hb':b'.length=16) (hw':w'.length=16):bQ (some (DC n b w)) H i 0 33 (aggL (DC m b' w'))=some (undef,H.set i (some (DC m b' w'))):=by
 rw [jE (wE hb' hw') TV (by rw [wE hb hw];omega),wF (by rw [wE hb hw,wE hb' hw'])]
theorem FZ:bQ (some (DC n b w)) H i 0 1 (.int .i64 m)=some (undef,H.set i (some (DC m b w))):=by
 rw [lI (by simp),qU]
theorem qV {α:Type} {g:α→Value} {x y:List α} {pre post:List Value} (h:x.length=y.length):splice (pre++(x.map g++post)) pre.length (y.map g)=pre++(y.map g++post):=by
 simp only [splice]
 rw [List.take_append_of_le_length (by omega),List.take_of_length_le (by omega)]
 rw [List.drop_append,List.drop_eq_nil_of_le (by omega),List.nil_append]
 rw [show pre.length+(List.map g y).length-pre.length=(List.map g x).length by simp [h]]
 rw [List.drop_append,List.drop_eq_nil_of_le (by omega)]
 simp
theorem F5 {α:Type} {g:α→Value} {x:List α} {y:α} {k:Nat} {pre post:List Value} (h:k<x.length):splice (pre++(x.map g++post)) (pre.length+k) [g y]=pre++((x.set k y).map g++post):=by
 simp only [splice,List.length_singleton]
 rw [List.take_append,List.take_of_length_le (l:=pre) (by omega),show pre.length+k-pre.length=k by omega,List.take_append_of_le_length (by simp;omega)]
 rw [List.drop_append,List.drop_eq_nil_of_le (as:=pre) (by omega),show pre.length+k+1-pre.length=k+1 by omega,List.drop_append_of_le_length (by simp;omega)]
 rw [List.set_eq_take_append_cons_drop]
 simp [h,List.map_take,List.map_drop]
theorem F6 {α:Type} {g:α→Value} {x:List α} {k:Nat} {d:α} {pre post:List Value} (h:k<x.length):getN none (pre++(x.map g++post)) (pre.length+k)=some (g (x.getD k d)):=by
 simp only [getN]
 rw [List.getElem?_append_right (by omega),show pre.length+k-pre.length=k by omega,List.getElem?_append_left (by simpa using h)]
 simp [List.getD,h]
theorem F7 (hb:b.length=16) (hp:p.length=16):bQ (some (DC n b w)) H i 1 16 (aggL (p.map N8))=some (undef,H.set i (some (DC n p w))):=by
 rw [jE (by simpa using hp) lW (by simp [hb])]
 have:=qV (g:=N8) (x:=b) (y:=p) (pre:=[I n]) (post:=w.map N8) (by omega)
 simp only [List.length_cons,List.length_nil,List.length_map,List.cons_append,List.nil_append,List.append_nil,Nat.zero_add] at this
 rw [show splice (DC n b w) 1 (p.map N8)=DC n p w from this]
theorem F8 (hb:b.length=16) (hw:w.length=16) (hp:p.length=16):bQ (some (DC n b w)) H i 17 16 (aggL (p.map N8))=some (undef,H.set i (some (DC n b p))):=by
 rw [jE (by simpa using hp) lW (by simp [hb,hw])]
 have:=qV (g:=N8) (x:=w) (y:=p) (pre:=I n::b.map N8) (post:=[]) (by omega)
 simp only [List.length_cons,List.length_nil,List.length_map,List.cons_append,List.nil_append,List.append_nil,Nat.zero_add,hb] at this
 rw [show splice (DC n b w) 17 (p.map N8)=DC n b p from this]
theorem F9 {k x:Nat} (h:k<b.length):bQ (some (DC n b w)) H i (1+k) 1 (.int .u8 (x:Int))=some (undef,H.set i (some (DC n (b.set k x) w))):=by
 rw [lI (by simp;omega)]
 have:=F5 (g:=N8) (x:=b) (y:=x) (k:=k) (pre:=[I n]) (post:=w.map N8) h
 simp only [List.length_cons,List.length_nil,List.length_map,List.cons_append,List.nil_append,List.append_nil,Nat.zero_add] at this
 rw [show splice (DC n b w) (1+k) [N8 x]=DC n (b.set k x) w from this]
theorem Gf {k x:Nat} (hb:b.length=16) (h:k<w.length):bQ (some (DC n b w)) H i (17+k) 1 (.int .u8 (x:Int))=some (undef,H.set i (some (DC n b (w.set k x)))):=by
 rw [lI (by simp;omega)]
 have:=F5 (g:=N8) (x:=w) (y:=x) (k:=k) (pre:=I n::b.map N8) (post:=[]) h
 simp only [List.length_cons,List.length_nil,List.length_map,List.cons_append,List.nil_append,List.append_nil,Nat.zero_add,hb] at this
 rw [show splice (DC n b w) (17+k) [N8 x]=DC n b (w.set k x) from this]
theorem Gg {k:Nat} (h:k<b.length):getN none (DC n b w) (1+k)=some (N8 (nl b k)):=by
 have:=F6 (g:=N8) (x:=b) (k:=k) (d:=0) (pre:=[I n]) (post:=w.map N8) h
 simp only [List.length_cons,List.length_nil,List.length_map,List.cons_append,List.nil_append,List.append_nil,Nat.zero_add] at this
 exact this
theorem Gi {k:Nat} (hb:b.length=16) (h:k<w.length):getN none (DC n b w) (17+k)=some (N8 (nl w k)):=by
 have:=F6 (g:=N8) (x:=w) (k:=k) (d:=0) (pre:=I n::b.map N8) (post:=[]) h
 simp only [List.length_cons,List.length_nil,List.length_map,List.cons_append,List.nil_append,List.append_nil,Nat.zero_add,hb] at this
 exact this
theorem Gj:fillL (DC n b w) [(0,1, .int .i64 m)]=some (DC m b w):=by
 simp [fillL,cellsL,splice]
theorem Gl {b' w':List Nat} (hb:b.length=16) (hw:w.length=16) (hb':b'.length=16) (hw':w'.length=16):fillL (DC n b w) [(0,1, .int .i64 m),(1,16,PL b'),(17,16,PL w')]=some (DC m b' w'):=by
 simp only [fillL,wG,wH,List.length_singleton,List.length_map]
 rw [if_pos ⟨trivial,by simp⟩,qU,if_pos ⟨hb',by simp [hb]⟩]
 have h1:=qV (g:=N8) (x:=b) (y:=b') (pre:=[I m]) (post:=w.map N8) (by omega)
 simp only [List.length_singleton,List.cons_append,List.nil_append] at h1
 rw [h1,if_pos ⟨hw',by simp [hb',hw]⟩]
 have h2:=qV (g:=N8) (x:=w) (y:=w') (pre:=I m::b'.map N8) (post:=[]) (by omega)
 simp only [List.length_cons,List.length_map,hb',List.append_nil,List.cons_append] at h2
 rw [h2]
theorem Gm (hb:b.length=16) (hw:w.length=16) (hw':w'.length=16):fillL (DC n b w) [(0,1, .int .i64 m),(17,16,PL w')]=some (DC m b w'):=by
 simp only [fillL,wG,wH,List.length_singleton,List.length_map]
 rw [if_pos ⟨trivial,by simp⟩,qU,if_pos ⟨hw',by simp [hb,hw]⟩]
 have h2:=qV (g:=N8) (x:=w) (y:=w') (pre:=I m::b.map N8) (post:=[]) (by omega)
 simp only [List.length_cons,List.length_map,hb,List.append_nil,List.cons_append] at h2
 rw [h2]
theorem Gn (hb:b.length=16) (hw:w.length=16):getN (some 33) (DC n b w) 0=some (aggL (DC n b w)):=TK hb hw
theorem fV:NN (aggL (DC n b w)):=NN.agg kJ
end
theorem Gp {b w:List Nat}:(b.map N8++w.map N8).all Am.plain=true:=by rw [List.all_append,wC,wC];rfl
theorem aI:(type_of% @dz)∧(type_of% @Gp)∧(type_of% @wC)∧(type_of% @fZ)∧(type_of% @FZ)∧(type_of% @lJ)∧(type_of% @Gj):=⟨@dz, @Gp, @wC, @fZ, @FZ, @lJ, @Gj⟩
theorem aQ:(type_of% @FY)∧(type_of% @F7)∧(type_of% @F8)∧(type_of% @F9)∧(type_of% @Gf)∧(type_of% @qK)∧(type_of% @qJ)∧(type_of% @Gg)∧(type_of% @Gi)∧(type_of% @Gl)∧(type_of% @Gm)∧(type_of% @Gn):=⟨@FY, @F7, @F8, @F9, @Gf, @qK, @qJ, @Gg, @Gi, @Gl, @Gm, @Gn⟩
theorem bg.n0 {n:Int} {b w:List Nat} (h:bg n b w): ∃m:Nat,n=m∧1≤m∧m≤16:=by
 have:=h.1.1
 exact ⟨n.toNat,by omega,by omega,by omega⟩
end Go.Bm
namespace Go.Bm
open Go Go.Am
def jB:List Bool:=List.replicate 16 false
theorem uP {x:Nat}:bl jB x=false:=vW
theorem mY:jB.length=16:=by simp [jB]
def stA (x:Nat):BS:=(jB.set x true,[x])
structure ig (ls:List (List Nat)) (n x d:Nat) (st:BS):Prop where
 len:st.1.length=16
 mem: ∀y,bl st.1 y=true↔y∈st.2
 eu:st.2.Nodup
 lt: ∀y∈st.2,y<n
 pre: ∃r,st.2=x::r
 le:d≤st.2.length
 done: ∀j,j<d→ ∀p∈ls,nl p (nl st.2 j)∈st.2
theorem ig.visit {ls:List (List Nat)} {n x d y:Nat} {st:BS} (hn:n≤16) (h:ig ls n x d st) (hy:y<n):ig ls n x d (Bm.visit st y)∧(∃q,(Bm.visit st y).2=st.2++q)∧y∈(Bm.visit st y).2:=by
 unfold Bm.visit
 by_cases hb:bl st.1 y=true
 ·rw [if_pos hb]
  exact ⟨h,⟨[],by simp⟩,(h.mem y).1 hb⟩
 ·rw [if_neg hb]
  have hny:y∉st.2:=fun hm=>hb ((h.mem y).2 hm)
  refine ⟨⟨by simpa using h.len,fun z=>?_,?_,fun z hz=>?_,?_,?_,fun j hj1 p hp=>?_⟩,⟨[y],rfl⟩,by simp⟩
  ·show bl (st.1.set y true) z=true↔z∈st.2++[y]
   rw [jP]
   by_cases e:z=y
   ·subst e
    rw [if_pos ⟨rfl,by have:=h.len;omega⟩]
    simp
   ·rw [if_neg (fun k=>e k.1),h.mem z]
    simp [e]
  ·show (st.2++[y]).Nodup
   rw [List.nodup_append]
   exact ⟨h.eu,by simp,fun a ha b hb=>by
    rw [List.mem_singleton] at hb
    subst hb
    exact fun e=>hny (e▸ha)⟩
  ·rcases List.mem_append.1 hz with k|k
   ·exact h.lt z k
   ·rw [List.mem_singleton] at k
    omega
  ·obtain ⟨r,hr⟩:=h.pre
   exact ⟨r++[y],by show st.2++[y]=_;rw [hr];rfl⟩
  ·show d≤(st.2++[y]).length
   have:=h.le
   simp
   omega
  ·show nl p (nl (st.2++[y]) j)∈st.2++[y]
   rw [jF,if_pos (by have:=h.le;omega)]
   exact List.mem_append_left _ (h.done j hj1 p hp)
theorem ig.round {ls:List (List Nat)} {n x d z:Nat} (hn:n≤16): ∀{l2:List (List Nat)} {st:BS},ig ls n x d st→(∀p∈l2,nl p z<n)→ig ls n x d (fM l2 z st)∧(∃q,(fM l2 z st).2=st.2++q)∧ ∀p∈l2,nl p z∈(fM l2 z st).2
 |[],st,h,_=>⟨h,⟨[],by simp [fM]⟩,by simp⟩
 |p::l2,st,h,hp=>by
  obtain ⟨h1,⟨q1,h2⟩,h3⟩:=h.visit hn (hp p (by simp))
  obtain ⟨h4,⟨q2,h5⟩,h6⟩:=ig.round hn (l2:=l2) h1 fun q hq=>hp q (by simp [hq])
  have e:fM (p::l2) z st=fM l2 z (Bm.visit st (nl p z)):=rfl
  rw [e]
  refine ⟨h4,⟨q1++q2,by rw [h5,h2,List.append_assoc]⟩,fun q hq=>?_⟩
  rcases List.mem_cons.1 hq with rfl|hq
  ·rw [h5]
   exact List.mem_append_left _ h3
  ·exact h6 q hq
theorem ig.aJ {ls:List (List Nat)} {n x:Nat} {st:BS} (hn:n≤16) (hl: ∀p∈ls,∀y,y<n→nl p y<n) (h:ig ls n x 0 st): ∀i,ig ls n x (min i (Bm.aJ ls st i).2.length) (Bm.aJ ls st i)
 |0=>by rw [Nat.zero_min];exact h
 |i+1=>by
  have ih:=ig.aJ hn hl h i
  simp only [Bm.aJ]
  generalize Bm.aJ ls st i=s at ih⊢
  by_cases hi:i<s.2.length
  ·rw [if_pos hi]
   rw [Nat.min_eq_left (by omega)] at ih
   obtain ⟨h1,⟨q,h2⟩,h3⟩:=ih.round hn (z:=nl s.2 i) (l2:=ls) fun p hp=>hl p hp _ (ih.lt _ (eX hi))
   have hlen:i+1≤(fM ls (nl s.2 i) s).2.length:=by rw [h2];simp;omega
   rw [Nat.min_eq_left hlen]
   refine ⟨h1.len,h1.mem,h1.eu,h1.lt,h1.pre,hlen,fun j hj p hp=>?_⟩
   by_cases e:j=i
   ·subst e
    have:nl (fM ls (nl s.2 j) s).2 j=nl s.2 j:=by rw [h2,jF,if_pos hi]
    rw [this]
    exact h3 p hp
   ·exact h1.done j (by omega) p hp
  ·rw [if_neg hi]
   rw [Nat.min_eq_right (by omega)] at ih
   rw [Nat.min_eq_right (by omega)]
   exact ih
theorem ig.start {ls:List (List Nat)} {n x:Nat} (hn:n≤16) (hx:x<n):ig ls n x 0 (stA x):=by
 refine ⟨by simp [stA,mY],fun y=>?_,by simp [stA],fun y hy=>?_,⟨[],rfl⟩,Nat.zero_le _,fun j hj=>by omega⟩
 ·show bl (jB.set x true) y=true↔y∈[x]
  rw [jP,mY,uP]
  by_cases e:y=x
  ·rw [if_pos ⟨e,by omega⟩];simp [e]
  ·rw [if_neg (fun k=>e k.1)];simp [e]
 ·rw [show (stA x).2=[x] from rfl,List.mem_singleton] at hy
  omega
theorem nodup_le {n:Nat} {l:List Nat} (h:l.Nodup) (hl: ∀x∈l,x<n):l.length≤n:=by
 have:=List.Nodup.length_le_of_subset h (l₂:=List.range n) fun x hx=>List.mem_range.2 (hl x hx)
 simpa using this
theorem TW {n:Nat} {l:List Nat} (h:l.Nodup) (hl: ∀x∈l,x<n) (hn:n≤l.length) {x:Nat} (hx:x<n):x∈l:=by
 apply Classical.byContradiction
 intro hxl
 have:=nodup_le (n:=n) (l:=x::l) (List.nodup_cons.2 ⟨hxl,h⟩) (by
  intro y hy
  rcases List.mem_cons.1 hy with rfl|hy
  ·exact hx
  ·exact hl y hy)
 rw [List.length_cons] at this
 omega
def ord (b w:List Nat) (x:Nat):List Nat:=(aJ [b,w] (stA x) 16).2
section
variable {b w:List Nat} {n:Nat}
theorem lY (hb:Perm b n) (hw:Perm w n) {x:Nat} (hx:x<n):ig [b,w] n x (ord b w x).length (aJ [b,w] (stA x) 16):=by
 have hn:=hb.1
 have h:=(ig.start (ls:=[b,w]) (x:=x) (n:=n) (by omega) hx).aJ (by omega) (by
  intro p hp y hy
  simp only [List.mem_cons,List.not_mem_nil,or_false] at hp
  rcases hp with rfl|rfl
  ·exact hb.lt hy
  ·exact hw.lt hy) 16
 have h16:=nodup_le h.eu h.lt
 rw [Nat.min_eq_right (by omega)] at h
 exact h
theorem TY (hb:Perm b n) (hw:Perm w n) {x:Nat} (hx:x<n): ∀y∈ord b w x,nl b y∈ord b w x∧nl w y∈ord b w x:=fun y hy=>by
 have h:=lY hb hw hx
 obtain ⟨j,hj,rfl⟩:=jU hy
 exact ⟨h.done j hj b (by simp),h.done j hj w (by simp)⟩
theorem Gq {p:List Nat} (hp:Perm p n) {S:Nat→Prop} (hS: ∀x,x<n→S x→S (nl p x)) {x:Nat} (hx:x<n) (h:S (nl p x)):S x:=by
 obtain ⟨c,hc,hxc⟩:=y8 hp hx
 have hi:=vV hp hc
 obtain ⟨j,hj,hje⟩:=jU (hi.fwd hxc)
 have hup: ∀d,j+d<c.length→S (nl c (j+d)):=by
  intro d
  induction d with
  |zero=>intro _;rw [Nat.add_zero,hje];exact h
  |succ d ih=>
   intro hd
   rw [←Nat.add_assoc,←hi.step (j+d) (by omega)]
   exact hS _ (hi.lt _ (eX (by omega))) (ih (by omega))
 have h0:S (nl c 0):=by
  rw [←hi.last]
  have:=hup (c.length-1-j) (by omega)
  rw [show j+(c.length-1-j)=c.length-1 by omega] at this
  exact hS _ (hi.lt _ (eX (by omega))) this
 have hall: ∀k,k<c.length→S (nl c k):=by
  intro k
  induction k with
  |zero=>intro _;exact h0
  |succ k ih=>
   intro hk
   rw [←hi.step k hk]
   exact hS _ (hi.lt _ (eX (by omega))) (ih (by omega))
 obtain ⟨k,hk,rfl⟩:=jU hxc
 exact hall k hk
theorem bg.reach (h:bg n b w) {y:Nat} (hy:y<n):y∈ord b w 0:=by
 obtain ⟨hb,hw,hr⟩:=h
 have hn:=hb.1
 have h1:=lY hb hw (x:=0) (by omega)
 refine TW h1.eu h1.lt ?_ hy
 have:(Bm.reach b w).2.length=n:=by omega
 have e:(aJ [b,w] (stA 0) 16).2.length=n:=this
 omega
theorem bg.ind (h:bg n b w) (S:Nat→Prop) (s1: ∀z,z<n→S z→S (nl b z)) (s2: ∀z,z<n→S z→S (nl w z)) (s0:S 0): ∀z,z<n→S z:=by
 obtain ⟨hb,hw,hr⟩:=id h
 have hn:=hb.1
 intro z hz
 have hcl: ∀i,∀z∈(aJ [b,w] (stA 0) i).2,z<n∧S z:=by
  have hv: ∀(st:BS) (y:Nat),(∀z∈st.2,z<n∧S z)→y<n→S y→ ∀z∈(visit st y).2,z<n∧S z:=by
   intro st y h1 h2 h3 z hz
   unfold visit at hz
   split at hz
   ·exact h1 z hz
   ·rcases List.mem_append.1 hz with k|k
    ·exact h1 z k
    ·rw [List.mem_singleton] at k
     subst k
     exact ⟨h2,h3⟩
  intro i
  induction i with
  |zero=>
   intro z hz
   have:z=0:=by simpa [aJ,stA] using hz
   subst this
   exact ⟨by omega,s0⟩
  |succ i ih=>
   simp only [aJ]
   split
   ·rename_i hi
    obtain ⟨hz1,hz2⟩:=ih _ (eX hi)
    exact hv _ _ (hv _ _ ih (hb.lt hz1) (s1 _ hz1 hz2)) (hw.lt hz1) (s2 _ hz1 hz2)
   ·exact ih
 exact (hcl 16 z (h.reach hz)).2
theorem bg.all (h:bg n b w) {x y:Nat} (hx:x<n) (hy:y<n):y∈ord b w x:=by
 obtain ⟨hb,hw,hr⟩:=id h
 have hn:=hb.1
 have h0:=h.ind
 have hx0:(ord b w x)=(ord b w x):=rfl
 have hfw:=TY hb hw hx
 have key: ∀z,z<n→(z∈ord b w x↔0∈ord b w x):=by
  refine h0 _ ?_ ?_ Iff.rfl
  ·intro z hz hS
   rw [←hS]
   exact ⟨Gq hb (S:=fun z=>z∈ord b w x) (fun z _ h=>(hfw z h).1) hz,fun h=>(hfw z h).1⟩
  ·intro z hz hS
   rw [←hS]
   exact ⟨Gq hw (S:=fun z=>z∈ord b w x) (fun z _ h=>(hfw z h).2) hz,fun h=>(hfw z h).2⟩
 have hxx:x∈ord b w x:=by
  obtain ⟨r,hr⟩:=(lY hb hw hx).pre
  rw [ord,hr]
  simp
 exact (key y hy).2 ((key x hx).1 hxx)
theorem kK (h:bg n b w) {x:Nat} (hx:x<n):(ord b w x).length=n:=by
 have h1:=lY h.1 h.2.1 hx
 have h2:=nodup_le h1.eu h1.lt
 have h3:=List.Nodup.length_le_of_subset (List.nodup_range (n:=n)) (l₂:=ord b w x) fun y hy=>h.all hx (List.mem_range.1 hy)
 rw [List.length_range] at h3
 have:(ord b w x).length≤n:=h2
 omega
theorem Ua (h:bg n b w) {x:Nat} (hx:x<n):(ord b w x).Nodup:=(lY h.1 h.2.1 hx).eu
theorem yg (h:bg n b w) {x:Nat} (hx:x<n) {j:Nat} (hj:j<n):nl (ord b w x) j<n:=(lY h.1 h.2.1 hx).lt _ (eX (by have:=kK h hx;rw [ord] at this;omega))
def eF (l:List Nat):Nat→List Nat
 |0=>List.replicate 16 0
 |k+1=>(eF l k).set (nl l k) k
theorem qp {l:List Nat} {k:Nat}:(eF l k).length=16:=by
 induction k with
 |zero=>simp [eF]
 |succ k ih=>simp [eF,ih]
theorem Ri {l:List Nat} {k i:Nat}:nl (eF l k) i≤k:=by
 induction k generalizing i with
 |zero=>simp only [eF,jA];split<;>omega
 |succ k ih=>
  rw [eF,fU]
  split
  ·omega
  ·have:= @ih i;omega
theorem Gs {l:List Nat} (hd:l.Nodup) (hl: ∀x∈l,x<16): ∀{k j:Nat},k≤l.length→j<k→nl (eF l k) (nl l j)=j
 |0,j,_,h=>by omega
 |k+1,j,hk,hj=>by
  rw [eF,fU,qp]
  by_cases e:j=k
  ·subst e
   rw [if_pos ⟨rfl,hl _ (eX (by omega))⟩]
  ·rw [if_neg (fun h=>e (yV hd (by omega) (by omega) h.1)),Gs hd hl (by omega) (by omega)]
def dJ (b w:List Nat) (x:Nat):List Nat:=eF (ord b w x) (ord b w x).length
theorem zD (h:bg n b w) {x:Nat} (hx:x<n) {j:Nat} (hj:j<n):nl (dJ b w x) (nl (ord b w x) j)=j:=by
 have hn:=h.1.1
 have hl:=kK h hx
 exact Gs (Ua h hx) (fun y hy=>by have:=(lY h.1 h.2.1 hx).lt y hy;omega) (Nat.le_refl _) (by omega)
theorem kL (h:bg n b w) {x:Nat} (hx:x<n) {y:Nat} (hy:y<n):nl (ord b w x) (nl (dJ b w x) y)=y∧nl (dJ b w x) y<n:=by
 obtain ⟨j,hj,rfl⟩:=jU (h.all hx hy)
 rw [kK h hx] at hj
 rw [zD h hx hj]
 exact ⟨rfl,hj⟩
def dN (p nm:List Nat):Nat→List Nat
 |0=>List.replicate 16 0
 |k+1=>(dN p nm k).set (nl nm k) (nl nm (nl p k))
theorem jQ {p nm:List Nat} {k:Nat}:(dN p nm k).length=16:=by
 induction k with
 |zero=>simp [dN]
 |succ k ih=>simp [dN,ih]
theorem zF {p nm:List Nat} (hd: ∀i j,i<n→j<n→nl nm i=nl nm j→i=j) (hl: ∀i,i<n→nl nm i<16): ∀{k j:Nat},k≤n→j<k→nl (dN p nm k) (nl nm j)=nl nm (nl p j)
 |0,j,_,h=>by omega
 |k+1,j,hk,hj=>by
  rw [dN,fU,jQ]
  by_cases e:j=k
  ·subst e
   rw [if_pos ⟨rfl,hl _ (by omega)⟩]
  ·rw [if_neg (fun h=>e (hd _ _ (by omega) (by omega) h.1)),zF hd hl (by omega) (by omega)]
theorem zG {p nm:List Nat} {m i:Nat} (hl: ∀i,i<n→nl nm i<m) (hi:m≤i): ∀{k:Nat},k≤n→nl (dN p nm k) i=0
 |0,_=>by simp only [dN,jA];split<;>rfl
 |k+1,hk=>by
  have:=hl k (by omega)
  rw [dN,fU,if_neg (by omega),zG hl hi (by omega)]
def dA (b w:List Nat) (n x:Nat):List Nat×List Nat:=(dN b (dJ b w x) n,dN w (dJ b w x) n)
theorem Gt (h:bg n b w) {x:Nat} (hx:x<n): ∀i j,i<n→j<n→nl (dJ b w x) i=nl (dJ b w x) j→i=j:=fun i j hi hj he=>by
 have h1:=(kL h hx hi).1
 rw [he,(kL h hx hj).1] at h1
 exact h1.symm
theorem Gu (h:bg n b w) {x:Nat} (hx:x<n) {y:Nat} (hy:y<n):nl (dA b w n x).1 (nl (dJ b w x) y)=nl (dJ b w x) (nl b y):=
 zF (Gt h hx) (fun i hi=>by have:=(kL h hx hi).2;have:=h.1.1;omega) (Nat.le_refl _) hy
theorem Gv (h:bg n b w) {x:Nat} (hx:x<n) {y:Nat} (hy:y<n):nl (dA b w n x).2 (nl (dJ b w x) y)=nl (dJ b w x) (nl w y):=
 zF (Gt h hx) (fun i hi=>by have:=(kL h hx hi).2;have:=h.1.1;omega) (Nat.le_refl _) hy
end
section
variable {b w b' w':List Nat} {n:Nat}
structure nM (n:Nat) (b w b' w':List Nat) (φ:Nat→Nat):Prop where
 lt: ∀y,y<n→φ y<n
 inj: ∀y z,y<n→z<n→φ y=φ z→y=z
 b: ∀y,y<n→nl b' (φ y)=φ (nl b y)
 w: ∀y,y<n→nl w' (φ y)=φ (nl w y)
structure qW (n:Nat) (φ:Nat→Nat) (st st':BS):Prop where
 ord:st'.2=st.2.map φ
 lt: ∀y∈st.2,y<n
 met: ∀y,y<n→bl st'.1 (φ y)=bl st.1 y
 len:st.1.length=16∧st'.1.length=16
theorem qW.visit {φ:Nat→Nat} {st st':BS} {y:Nat} (hn:n≤16) (hl: ∀y,y<n→φ y<n) (hinj: ∀y z,y<n→z<n→φ y=φ z→y=z) (h:qW n φ st st') (hy:y<n):qW n φ (Bm.visit st y) (Bm.visit st' (φ y)):=by
 unfold Bm.visit
 rw [h.met y hy]
 by_cases hb:bl st.1 y=true
 ·rw [if_pos hb,if_pos hb];exact h
 ·rw [if_neg hb,if_neg hb]
  refine ⟨by simp [h.ord],fun z hz=>?_,fun z hz=>?_,by simpa using h.len⟩
  ·rcases List.mem_append.1 hz with k|k
   ·exact h.lt z k
   ·rw [List.mem_singleton] at k;omega
  ·show bl (st'.1.set (φ y) true) (φ z)=bl (st.1.set y true) z
   have:=hl y hy
   rw [jP,jP,h.len.1,h.len.2,h.met z hz]
   by_cases e:z=y
   ·subst e;rw [if_pos ⟨rfl,by omega⟩,if_pos ⟨rfl,by omega⟩]
   ·rw [if_neg (fun k=>e (hinj _ _ hz hy k.1)),if_neg (fun k=>e k.1)]
theorem Gw {φ:Nat→Nat} {l:List Nat} {i:Nat} (h:i<l.length):nl (l.map φ) i=φ (nl l i):=by simp [nl,List.getD,h]
theorem nM.ord {φ:Nat→Nat} (hn:n≤16) (hb:Perm b n) (hw:Perm w n) (h:nM n b w b' w' φ) {x:Nat} (hx:x<n):Bm.ord b' w' (φ x)=(Bm.ord b w x).map φ:=by
 have key: ∀i,qW n φ (aJ [b,w] (stA x) i) (aJ [b',w'] (stA (φ x)) i):=by
  intro i
  induction i with
  |zero=>
   refine ⟨rfl,fun y hy=>?_,fun y hy=>?_,by simp [aJ,stA,mY]⟩
   ·have:y=x:=by simpa [aJ,stA] using hy
    omega
   ·show bl (jB.set (φ x) true) (φ y)=bl (jB.set x true) y
    have:=h.lt x hx
    rw [jP,jP,mY,uP,uP]
    by_cases e:y=x
    ·subst e;rw [if_pos ⟨rfl,by omega⟩,if_pos ⟨rfl,by omega⟩]
    ·rw [if_neg (fun k=>e (h.inj _ _ hy hx k.1)),if_neg (fun k=>e k.1)]
  |succ i ih=>
   simp only [aJ]
   generalize aJ [b,w] (stA x) i=st at ih⊢
   generalize aJ [b',w'] (stA (φ x)) i=st' at ih⊢
   have hle:st'.2.length=st.2.length:=by rw [ih.ord,List.length_map]
   rw [hle]
   by_cases hi:i<st.2.length
   ·rw [if_pos hi,if_pos hi]
    have e:nl st'.2 i=φ (nl st.2 i):=by rw [ih.ord,Gw hi]
    rw [e]
    generalize hz:nl st.2 i=z
    have hz1:z<n:=by rw [←hz];exact ih.lt _ (eX hi)
    show qW n φ (Bm.visit (Bm.visit st (nl b z)) (nl w z)) (Bm.visit (Bm.visit st' (nl b' (φ z))) (nl w' (φ z)))
    rw [h.b z hz1,h.w z hz1]
    exact (ih.visit hn h.lt h.inj (hb.lt hz1)).visit hn h.lt h.inj (hw.lt hz1)
   ·rw [if_neg hi,if_neg hi]
    exact ih
 exact (key 16).ord
theorem nM.dJ {φ:Nat→Nat} (hd:bg n b w) (hd':bg n b' w') (h:nM n b w b' w' φ) {x:Nat} (hx:x<n) {y:Nat} (hy:y<n):nl (Bm.dJ b' w' (φ x)) (φ y)=nl (Bm.dJ b w x) y:=by
 have hn:=hd.1.1
 obtain ⟨h1,h2⟩:=kL hd hx hy
 have h3:=h.ord (by omega) hd.1 hd.2.1 hx
 have h4:=zD hd' (h.lt x hx) h2
 rw [h3,Gw (by rw [kK hd hx];exact h2),h1] at h4
 exact h4
theorem nM.dA {φ:Nat→Nat} (hd:bg n b w) (hd':bg n b' w') (h:nM n b w b' w' φ) {x:Nat} (hx:x<n):Bm.dA b' w' n (φ x)=Bm.dA b w n x:=by
 have hn:=hd.1.1
 have hx':=h.lt x hx
 have hz: ∀{b w:List Nat},bg n b w→ ∀{x},x<n→ ∀i,n≤i→nl (Bm.dA b w n x).1 i=0∧nl (Bm.dA b w n x).2 i=0:=fun hd x hx i hi=>
  ⟨zG (n:=n) (m:=n) (fun i hi=>(kL hd hx hi).2) hi (Nat.le_refl _),zG (n:=n) (m:=n) (fun i hi=>(kL hd hx hi).2) hi (Nat.le_refl _)⟩
 have key: ∀i,i<16→nl (Bm.dA b' w' n (φ x)).1 i=nl (Bm.dA b w n x).1 i∧nl (Bm.dA b' w' n (φ x)).2 i=nl (Bm.dA b w n x).2 i:=by
  intro i _
  rcases Nat.lt_or_ge i n with hi|hi
  ·have hy:=yg hd hx hi
   have e:=zD hd hx hi
   generalize jf:nl (Bm.ord b w x) i=y at hy e
   have e':=h.dJ hd hd' hx hy
   rw [e] at e'
   have f1:=Gu hd' hx' (h.lt y hy)
   have f2:=Gv hd' hx' (h.lt y hy)
   have g1:=Gu hd hx hy
   have g2:=Gv hd hx hy
   rw [e',h.b y hy,h.dJ hd hd' hx (hd.1.lt hy)] at f1
   rw [e',h.w y hy,h.dJ hd hd' hx (hd.2.1.lt hy)] at f2
   rw [e] at g1 g2
   rw [f1,f2,g1,g2]
   exact ⟨rfl,rfl⟩
  ·obtain ⟨h1,h2⟩:=hz hd hx i hi
   obtain ⟨h3,h4⟩:=hz hd' hx' i hi
   rw [h1,h2,h3,h4]
   exact ⟨rfl,rfl⟩
 refine Prod.ext ?_ ?_
 ·exact kZ (by simp only [Bm.dA,jQ]) fun i hi=>(key i (by simpa only [Bm.dA,jQ] using hi)).1
 ·exact kZ (by simp only [Bm.dA,jQ]) fun i hi=>(key i (by simpa only [Bm.dA,jQ] using hi)).2
end
abbrev L2:=List Nat×List Nat
def bC (x y:L2):Prop:=x.1<y.1∨(x.1=y.1∧x.2<y.2)
instance (x y:L2):Decidable (bC x y):=by unfold bC;infer_instance
theorem qc (x:L2): ¬bC x x:=fun h=>by
 rcases h with h|h
 ·exact List.lt_irrefl _ h
 ·exact List.lt_irrefl _ h.2
theorem lt2_trans {x y z:L2} (h:bC x y) (k:bC y z):bC x z:=by
 rcases h with h|⟨h1,h2⟩<;>rcases k with k|⟨k1,k2⟩
 ·exact .inl (List.lt_trans h k)
 ·exact .inl (k1▸h)
 ·exact .inl (h1▸k)
 ·exact .inr ⟨h1.trans k1,List.lt_trans h2 k2⟩
theorem uJ {x y:L2} (h: ¬bC x y) (k: ¬bC y x):x=y:=by
 have e1:x.1=y.1:=List.le_antisymm (List.not_lt.1 fun e=>k (.inl e)) (List.not_lt.1 fun e=>h (.inl e))
 exact Prod.ext e1 (List.le_antisymm (List.not_lt.1 fun e=>k (.inr ⟨e1.symm,e⟩)) (List.not_lt.1 fun e=>h (.inr ⟨e1,e⟩)))
def iF (b w:List Nat) (n:Nat):Nat→L2
 |0=>dA b w n 0
 |k+1=>if bC (dA b w n (k+1)) (iF b w n k) then dA b w n (k+1) else iF b w n k
def eY (b w:List Nat) (n:Nat):L2:=iF b w n (n-1)
section
variable {b w b' w':List Nat} {n:Nat}
theorem D5: ∀{k:Nat},∃x,x≤k∧iF b w n k=dA b w n x
 |0=>⟨0,Nat.le_refl _,rfl⟩
 |k+1=>by
  obtain ⟨x,hx,h⟩:= @D5 k
  simp only [iF]
  split
  ·exact ⟨k+1,Nat.le_refl _,rfl⟩
  ·exact ⟨x,by omega,h⟩
end
end Go.Bm
namespace Go.Bm
open Go Go.Am
section
variable {p b w:List Nat} {n:Nat}
theorem Perm.yY (hp:Perm p n) {y:Nat} (hy:y<n): ∃x,x<n∧nl p x=y:=by
 obtain ⟨c,hc,Ub⟩:=y8 hp hy
 have hi:=vV hp hc
 obtain ⟨j,hj,rfl⟩:=jU Ub
 by_cases e:j=0
 ·subst e
  exact ⟨_,hi.lt _ (eX (by omega)),hi.last⟩
 ·have:=hi.step (j-1) (by omega)
  rw [show j-1+1=j by omega] at this
  exact ⟨_,hi.lt _ (eX (by omega)),this⟩
theorem zH (hp:Perm p n): ∀{k i:Nat},k≤n→i<k→nl (jr p k) (nl p i)=i
 |0,_,_,h=>by omega
 |k+1,i,hk,hi=>by
  have hn:=hp.1
  rw [jr,fU,TI]
  by_cases e:i=k
  ·subst e
   rw [if_pos ⟨rfl,by have:=hp.lt (show i<n by omega);omega⟩]
  ·rw [if_neg (fun h=>e (hp.inj (by omega) (by omega) h.1)),zH hp (by omega) (by omega)]
theorem Gx (hp:Perm p n) {i:Nat} (hi:n≤i): ∀{k:Nat},k≤n→nl (jr p k) i=0
 |0,_=>by simp only [jr,jA];split<;>rfl
 |k+1,hk=>by
  have:=hp.lt (show k<n by omega)
  rw [jr,fU,if_neg (by omega),Gx hp hi (by omega)]
theorem Perm.back (hp:Perm p n):Perm (jr p n) n:=by
 refine ⟨hp.1,fun i _=>⟨fun h=>Gx hp (by omega) (Nat.le_refl _),fun h=>?_⟩⟩
 obtain ⟨x,hx,rfl⟩:=hp.yY (show i<n by omega)
 rw [zH hp (Nat.le_refl _) hx]
 refine ⟨by omega,fun j hj=>?_⟩
 obtain ⟨y,hy,rfl⟩:=hp.yY (show j<n by omega)
 rw [zH hp (Nat.le_refl _) hy]
 intro e
 subst e
 omega
end
end Go.Bm
namespace Go.Bm
open Go Go.Am
def gZ:Nat→List Nat
 |0=>dG
 |i+1=>(gZ i).set i i
theorem Ey {i:Nat}:nl dG i=0:=by rw [dG,jA];split<;>rfl
theorem vU {k:Nat}:(gZ k).length=16:=by
 induction k with
 |zero=>exact fZ
 |succ k ih=>rw [gZ,List.length_set,ih]
theorem wI {k i:Nat} (hk:k≤16):nl (gZ k) i=if i<k then i else 0:=by
 induction k with
 |zero=>rw [gZ,Ey,if_neg (by omega)]
 |succ k ih=>
  rw [gZ,fU,ih (by omega),vU]
  by_cases e:i=k
  ·subst e;rw [if_pos ⟨rfl,by omega⟩,if_pos (by omega)]
  ·rw [if_neg (by omega)]
   by_cases h:i<k
   ·rw [if_pos h,if_pos (by omega)]
   ·rw [if_neg h,if_neg (by omega)]
theorem Perm.of {p:List Nat} {n:Nat} (hn:1≤n∧n≤16) (h0: ∀i,n≤i→i<16→nl p i=0) (h1: ∀i,i<n→nl p i<n) (h2: ∀i j,i<n→j<i→nl p j≠nl p i):Perm p n:=
 ⟨by omega,fun i hi=>⟨fun h=>h0 i (by omega) hi,fun h=>⟨by have:=h1 i (by omega);omega,fun j hj=>h2 i j (by omega) hj⟩⟩⟩
theorem Perm.zero {p:List Nat} {n:Nat} (h:Perm p n) {i:Nat} (h1:n≤i) (h2:i<16):nl p i=0:=(h.2 i h2).1 (by omega)
theorem EU {n:Nat} (hn:1≤n∧n≤16):Perm (gZ n) n:= .of hn
 (fun i h1 h2=>by rw [wI hn.2,if_neg (by omega)]) (fun i h=>by rw [wI hn.2,if_pos h];exact h)
 (fun i j h1 h2=>by rw [wI hn.2,wI hn.2,if_pos h1,if_pos (by omega)];omega)
theorem mod_one {n i:Nat} (h:i<n):(i+1)%n=if i+1=n then 0 else i+1:=by
 split
 ·rename_i e;rw [e,Nat.mod_self]
 ·exact Nat.mod_eq_of_lt (by omega)
theorem Perm.swap {p:List Nat} {n:Nat} (h:Perm p n) (hl:p.length=16) {i k:Nat} (hi:i<n) (hk:k<n):Perm ((p.set i (nl p k)).set k (nl p i)) n:=by
 have hn:=h.1
 have e: ∀j,nl ((p.set i (nl p k)).set k (nl p i)) j=if j=k then nl p i else if j=i then nl p k else nl p j:=fun j=>by
  rw [fU,fU,List.length_set,hl]
  by_cases e1:j=k
  ·rw [if_pos ⟨e1,by omega⟩,if_pos e1]
  ·rw [if_neg (by omega),if_neg e1]
   by_cases e2:j=i
   ·rw [if_pos ⟨e2,by omega⟩,if_pos e2]
   ·rw [if_neg (by omega),if_neg e2]
 refine .of (by omega) (fun j h1 h2=>?_) (fun j hj=>?_) (fun j j' hj hj'=>?_)
 ·rw [e,if_neg (by omega),if_neg (by omega)];exact h.zero h1 h2
 ·rw [e];split
  ·exact h.lt hi
  ·split
   ·exact h.lt hk
   ·exact h.lt hj
 ·rw [e,e]
  intro he
  have key: ∀a b,a<n→b<n→nl p a=nl p b→a=b:=fun a b ha hb hab=>h.inj ha hb hab
  split at he<;>split at he<;>(try split at he)<;>(try split at he)
  all_goals first
   |(have:=key _ _ (by omega) (by omega) he;omega)
theorem Uc {x:Bool} {n:Int} {H:BH} {K:Value→BH→Prop} (hn:n≤16) (hK:K (PL (gZ n.toNat)) H):aA x Oz [I n] H K:=by
 have hz:=fZ
 refine cO (by simp only [RH]) ?_
 refine aZ O5 ?_;simp only [fD,aB]
 refine fB ?_
 refine fB ?_
 refine fB ?_
 refine bH (fun m f H'=> ∃k:Nat,k≤n.toNat∧m=n.toNat-k∧f 0=I n∧f 2=P 0 0∧f 3=P 1 0∧f 4=I k∧H'=[some (List.replicate 16 (.int .u8 0)),some ((gZ k).map N8)]) (n.toNat) ?_ ?_
 ·exact ⟨_,_,Gh.refl,0,by omega,by omega,aj,aj,aj,aj,rfl⟩
 ·rintro m f H' R ⟨k,hk,rfl,g0,g2,g3,g4,rfl⟩ hN hX hR hE
  simp only [fD.l0,aB]
  have hlk:= @vU k
  refine dM (iP @g0 @g4) ?_
  refine iV ((k:Int)<n) (fun hc=>?_) fun hc=>?_
  ·have Wj:k<16:=by omega
   refine lS ?_
   refine dM (vZ @g3 @g4 @hlk) ?_
   refine nJ @g4 ?_
   exact hN (n.toNat-(k+1)) _ _ _ _ (by omega) Gh.refl ⟨k+1,by omega,rfl,aj,aj,aj,aj,rfl⟩
  ·refine hX _ _ ?_
   obtain rfl:k=n.toNat:=by omega
   refine dM (vZ @g2 @g3 @hlk) ?_
   refine zu (iP @g2 @hlk) ?_
   exact ⟨gu (by (simp only [RH])),hK⟩
section
variable {code:List Nat} {a:Nat} {h:Int}
end
end Go.Bm
