/- Dp0, Dp1, Dp2, Dp3, Dp4, BmP, DpCa, DpK, DpL, DpM, DpN, DpO, DpP, Dp7a, DpQ, DpCb, DpV, DpVa, DpDa -/
import Derived.Test.YtbpfbfbabpkceaaBmS
import Derived.Test.YtbpfbfbabpkceaaBmT
set_option linter.unusedVariables false
set_option linter.unusedSimpArgs false
namespace Go.Bm
open Go Go.Am
structure By (m:Nat) (p:List Nat):Prop where
 len:p.length=m
 lt: ∀i,nl p i<256
theorem By.mem {m:Nat} {p:List Nat} (h:By m p): ∀x∈p,x<256:=fun x hx=>by
 obtain ⟨i,hi,rfl⟩:=List.mem_iff_getElem.1 hx
 have:=h.lt i
 simpa [nl,List.getD,hi] using this
theorem fQ {p:List Nat} {i x j:Nat}:nl (p.set i x) j=if j=i∧i<p.length then x else nl p j:=by
 unfold nl
 simp only [List.getD]
 by_cases h:i=j
 ·subst h
  by_cases hi:i<p.length
  ·simp [hi]
  ·simp [List.getElem?_eq_none (by omega:p.length≤i),hi]
 ·rw [List.getElem?_set_ne h,if_neg (fun e=>h e.1.symm)]
theorem jM {p:List Bool} {i:Nat} {x:Bool} {j:Nat}:bl (p.set i x) j=if j=i∧i<p.length then x else bl p j:=by
 unfold bl
 simp only [List.getD]
 by_cases h:i=j
 ·subst h
  by_cases hi:i<p.length
  ·simp [hi]
  ·simp [List.getElem?_eq_none (by omega:p.length≤i),hi]
 ·rw [List.getElem?_set_ne h,if_neg (fun e=>h e.1.symm)]
theorem jD {n m i:Nat}:nl (List.replicate n m) i=if i<n then m else 0:=by
 unfold nl
 simp only [List.getD,List.getElem?_replicate]
 split<;>rfl
theorem vg {n i:Nat}:bl (List.replicate n false) i=false:=by
 unfold bl
 simp only [List.getD,List.getElem?_replicate]
 split<;>rfl
theorem Dc {p:List Nat} {i:Nat} (h:p.length≤i):nl p i=0:=by simp [nl,List.getD,List.getElem?_eq_none h]
theorem lM {p q:List Nat} (hl:p.length=q.length) (h: ∀i,i<p.length→nl p i=nl q i):p=q:=by
 apply List.ext_getElem hl
 intro i h1 h2
 have:=h i h1
 simpa [nl,List.getD,h1,h2] using this
theorem By.set {m:Nat} {p:List Nat} (h:By m p) {i x:Nat} (hx:x<256):By m (p.set i x):=⟨by simp [h.len],fun j=>by rw [fQ];split;exact hx;exact h.lt j⟩
theorem By.rep {m:Nat}:By m (List.replicate m 0):=⟨by simp,fun i=>by rw [jD];split<;>omega⟩
theorem yP {x:Bool} {a b c:Int} {H:BH} {K:Value→BH→Prop} (hK:K (.bool (decide (b≤a∧a≤c))) H):aA x NT [I a,I b,I c] H K:=by
 refine cO (by simp only [RH]) ?_
 refine aZ Oz ?_;simp only [jX,aB]
 refine eY ?_
 by_cases h:b≤a
 ·refine dK @h ?_
  refine yA @h ?_
  exact ⟨NN.bool,by simpa [h] using hK⟩
 ·refine dK @h ?_
  refine yA @h ?_
  exact ⟨NN.bool,by simpa [h] using hK⟩
def Perm (p:List Nat) (n:Int):Prop:=(1≤n∧n≤16)∧ ∀i:Nat,i<16→((n≤(i:Int)→nl p i=0)∧((i:Int)<n→(nl p i:Int)<n∧ ∀j,j<i→nl p j≠nl p i))
instance (p:List Nat) (n:Int):Decidable (Perm p n):=by unfold Perm;infer_instance
def PermAt (p:List Nat) (n:Int) (i:Nat):Prop:=(n≤(i:Int)→nl p i=0)∧((i:Int)<n→(nl p i:Int)<n∧ ∀j,j<i→nl p j≠nl p i)
def Met (p:List Nat) (n:Int) (k:Nat) (s:List Bool):Prop:=s.length=16∧ ∀x,bl s x=true↔ ∃i,i<k∧(i:Int)<n∧nl p i=x
theorem Met.zero {p:List Nat} {n:Int}:Met p n 0 (List.replicate 16 false):=⟨by simp,fun x=>by rw [vg];simp⟩
theorem Met.next {p:List Nat} {n:Int} {k:Nat} {s:List Bool} (h:Met p n k s) (hk:(k:Int)<n) (hx:nl p k<16):Met p n (k+1) (s.set (nl p k) true):=⟨by simp [h.1],fun x=>by
 rw [jM]
 by_cases e:x=nl p k
 ·subst e
  rw [if_pos ⟨rfl,by rw [h.1];exact hx⟩]
  exact ⟨fun _=>⟨k,by omega,hk,rfl⟩,fun _=>rfl⟩
 ·rw [if_neg (fun h=>e h.1),h.2]
  exact ⟨fun ⟨i,h1,h2,h3⟩=>⟨i,by omega,h2,h3⟩,fun ⟨i,h1,h2,h3⟩=>⟨i,by
   rcases Nat.lt_or_ge i k with q|q
   ·exact q
   ·obtain rfl:i=k:=by omega
    exact absurd h3.symm e,h2,h3⟩⟩⟩
theorem Met.skip {p:List Nat} {n:Int} {k:Nat} {s:List Bool} (h:Met p n k s) (hk: ¬(k:Int)<n):Met p n (k+1) s:=⟨h.1,fun x=>by
 rw [h.2]
 exact ⟨fun ⟨i,h1,h2,h3⟩=>⟨i,by omega,h2,h3⟩,fun ⟨i,h1,h2,h3⟩=>⟨i,by
  rcases Nat.lt_or_ge i k with q|q
  ·exact q
  ·obtain rfl:i=k:=by omega
   exact absurd h2 hk,h2,h3⟩⟩⟩
end Go.Bm
namespace Go.Bm
open Go Go.Am
theorem Jm {x:Bool} {p:List Nat} {n:Int} {H:BH} {K:Value→BH→Prop} (hp:By 16 p) (hK:K (.bool (decide (Perm p n))) H):aA x Oj [PL p,I n] H K:=by
 have hlen:=hp.len
 refine cO (by simp only [RH]) ?_
 refine aZ OW ?_;simp only [bV,aB]
 refine eY ?_
 refine Qz fun Kr hKr=>?_
 refine yP ?_
 refine uK ?_
 refine uM hKr ?_
 refine iL (¬(1≤n∧n≤16)) (fun hc=>?_) fun hc=>?_
 ·refine eY ?_
  refine jd ?_
  exact ⟨NN.bool,by simpa [Perm,hc] using hK⟩
 have hc':1≤n∧n≤16:=by omega
 refine eY ?_
 refine eY ?_
 refine bH (fun m f H'=> ∃k s,k≤16∧m=16-k∧Met p n k s∧(∀i,i<k→PermAt p n i)∧f 1=I n∧f 2=P 0 0∧f 5=P 1 0∧f 6=I k∧H'=[some (p.map N8),some (s.map B)]) (16) ?_ ?_
 ·refine ⟨_,_,Gh.refl,0,List.replicate 16 false,by omega,by omega,Met.zero,by omega,by simp [RA,↓reduceIte,Nat.reduceEqDiff],by simp [RA,↓reduceIte,Nat.reduceEqDiff],by simp [RA,↓reduceIte,Nat.reduceEqDiff],by simp [RA,↓reduceIte,Nat.reduceEqDiff],by simp [RA,↓reduceIte,Nat.reduceEqDiff]⟩
 ·rintro m f H' R ⟨k,s,hk,rfl,hm,hat,h1,h2,h5,h6,rfl⟩ hN hX hR hE
  simp only [bV.l0,aB]
  refine dK @h6 ?_
  refine iL (k<16) (fun hc=>?_) fun hc=>?_
  ·have hlt:=hp.lt k
   have hsl:=hm.1
   have hnext: ∀f' s',f' 1=I n→f' 2=P 0 0→f' 5=P 1 0→f' 6=I k→Met p n (k+1) s'→PermAt p n k→T 0 bV.r6 R f' [some (p.map N8),some (s'.map B)]:=by
    intro f' s' h1 h2 h5 h6 hm' hat'
    refine mZ @h6 ?_
    refine hN (16-(k+1)) _ _ _ _ (by omega) Gh.refl ⟨k+1,s',by omega,rfl,hm',fun i hi=>?_,by simp [RA,↓reduceIte,Nat.reduceEqDiff,h1],by simp [RA,↓reduceIte,Nat.reduceEqDiff,h2],by simp [RA,↓reduceIte,Nat.reduceEqDiff,h5],by simp [RA,↓reduceIte,Nat.reduceEqDiff],rfl⟩
    rcases Nat.lt_or_ge i k with h|h
    ·exact hat i h
    ·obtain rfl:i=k:=by omega
     exact hat'
   refine lG ?_
   refine lG ?_
   refine dK (iM @h1 @h6) ?_
   refine iL (n≤k) (fun hc=>?_) fun hc=>?_
   ·refine dK (uP @h2 @h6 @hlen) ?_
    refine iL (nl p k≠0) (fun hc=>?_) fun hc=>?_
    ·refine eY ?_
     refine hR _ _ ?_
     refine jd ?_
     refine ⟨NN.bool,?_⟩
     have: ¬Perm p n:=fun h=>hc ((h.2 k (by omega)).1 (by omega))
     simpa [this] using hK
    ·refine yB ?_
     exact hnext _ s (by simp [RA,↓reduceIte,Nat.reduceEqDiff,h1]) (by simp [RA,↓reduceIte,Nat.reduceEqDiff,h2]) (by simp [RA,↓reduceIte,Nat.reduceEqDiff,h5]) (by simp [RA,↓reduceIte,Nat.reduceEqDiff,h6]) (hm.skip (by omega)) ⟨fun _=>by omega,fun h=>by omega⟩
   ·by_cases hb:n≤nl p k
    ·refine dK (uQ @h1 @h2 @h6 @hb @hlen) ?_
     refine QB ?_
     refine eY ?_
     refine hR _ _ ?_
     refine jd ?_
     refine ⟨NN.bool,?_⟩
     have: ¬Perm p n:=fun h=>by have:=((h.2 k (by omega)).2 (by omega)).1;omega
     simpa [this] using hK
    ·refine dK (yC (yC @h1 @h2 @h5 @h6) @hb @hsl @hlen) ?_
     refine iL (bl s (nl p k)=true) (fun hc=>?_) fun hc=>?_
     ·refine eY ?_
      refine hR _ _ ?_
      refine jd ?_
      refine ⟨NN.bool,?_⟩
      obtain ⟨i,hi1,hi2,hi3⟩:=(hm.2 _).1 hc
      have: ¬Perm p n:=fun h=>((h.2 k (by omega)).2 (by omega)).2 i hi1 hi3
      simpa [this] using hK
     ·refine dK (uQ @h2 @h5 @h6 @hsl @hlen) ?_
      refine hnext _ (s.set (nl p k) true) (by simp [RA,↓reduceIte,Nat.reduceEqDiff,h1]) (by simp [RA,↓reduceIte,Nat.reduceEqDiff,h2]) (by simp [RA,↓reduceIte,Nat.reduceEqDiff,h5]) (by simp [RA,↓reduceIte,Nat.reduceEqDiff,h6]) (hm.next (by omega) (by omega)) ⟨fun h=>by omega,fun _=>⟨by omega,fun j hj e=>hc ((hm.2 _).2 ⟨j,hj,by omega,e⟩)⟩⟩
  ·refine hX _ _ ?_
   refine eY ?_
   refine jd ?_
   refine ⟨NN.bool,?_⟩
   have:Perm p n:=⟨hc',fun i hi=>hat i (by omega)⟩
   simpa [this] using hK
theorem Perm.lt {p:List Nat} {n:Nat} (h:Perm p n) {i:Nat} (hi:i<n):nl p i<n:=by have:=((h.2 i (by have:=h.1;omega)).2 (by omega)).1;omega
theorem Perm.iD {p:List Nat} {n:Nat} (h:Perm p n) (hl:p.length=16) (i:Nat):nl p i<16:=by
 have h1:=h.1
 rcases Nat.lt_or_ge i n with hi|hi
 ·have:=h.lt hi;omega
 ·rcases Nat.lt_or_ge i 16 with h2|h2
  ·rw [(h.2 i h2).1 (by omega)];omega
  ·rw [Dc (by omega)];omega
def Jo (p q:List Nat):Nat→List Nat
 |0=>List.replicate 16 0
 |k+1=>(Jo p q k).set k (nl q (nl p k))
def ji (p:List Nat):Nat→List Nat
 |0=>List.replicate 16 0
 |k+1=>(ji p k).set (nl p k) k
theorem Rf {p:List Nat} {k:Nat}:(ji p k).length=16:=by
 induction k with
 |zero=>simp [ji]
 |succ k ih=>simp [ji,ih]
abbrev DC (n:Int) (b w:List Nat):List Value:=I n::(b.map N8++w.map N8)
abbrev DV (n:Int) (b w:List Nat):Value:=aggL (DC n b w)
theorem lN {n:Int} {b w:List Nat}:getN none (DC n b w) 0=some (I n):=rfl
theorem qx {n:Int} {b w:List Nat} (hb:b.length=16):getN (some 16) (DC n b w) 1=some (PL b):=by
 rw [lg (by simp [hb])]
 simp [List.take_append_of_le_length,hb]
theorem qy {n:Int} {b w:List Nat} (hb:b.length=16) (hw:w.length=16):getN (some 16) (DC n b w) 17=some (PL w):=by
 rw [lg (by simp [hb,hw])]
 simp [List.drop_append,hb,hw]
 rw [List.take_of_length_le (by simp [hw])]
theorem Rh {n:Nat} {cs:List Value} (h:cs.length=n):getN (some n) cs 0=some (aggL cs):=by
 rw [lg (by omega),List.drop_zero,List.take_of_length_le (by omega)]
theorem Ri {n:Int} {b w:List Nat} (hb:b.length=16) (hw:w.length=16):getN (some 33) (DC n b w) 0=some (DV n b w):=Rh (by simp [hb,hw])
def Rj (b w:List Nat) (n:Nat):List Nat:=ji (Jo b w n) n
end Go.Bm
namespace Go.Bm
open Go Go.Am
abbrev BS:=List Bool×List Nat
def visit (st:BS) (y:Nat):BS:=if bl st.1 y=true then st else (st.1.set y true,st.2++[y])
def fK (ls:List (List Nat)) (x:Nat) (st:BS):BS:=ls.foldl (fun st p=>visit st (nl p x)) st
def aJ (ls:List (List Nat)) (st:BS):Nat→BS
 |0=>st
 |i+1=>if i<(aJ ls st i).2.length then fK ls (nl (aJ ls st i).2 i) (aJ ls st i) else aJ ls st i
structure Bi (m:Nat) (st:BS):Prop where
 len:st.1.length=m
 lt: ∀i,i<st.2.length→nl st.2 i<m
 cnt:st.2.length≤st.1.count true
theorem Bi.le {m:Nat} {st:BS} (h:Bi m st):st.2.length≤m:=by
 have:=List.count_le_length (a:=true) (l:=st.1)
 have:=h.cnt
 have:=h.len
 omega
theorem jE {p q:List Nat} {i:Nat}:nl (p++q) i=if i<p.length then nl p i else nl q (i-p.length):=by
 unfold nl
 simp only [List.getD]
 split
 ·rename_i h;rw [List.getElem?_append_left h]
 ·rename_i h;rw [List.getElem?_append_right (by omega)]
theorem vk {y:Nat} {i:Nat} (h:i<1):nl [y] i=y:=by
 obtain rfl:i=0:=by omega
 rfl
theorem vw {s:List Bool} {y:Nat} (hy:y<s.length) (h:bl s y=false):(s.set y true).count true=s.count true+1:=by
 rw [List.count_set hy]
 have:s[y]=false:=by simpa [bl,List.getD,hy] using h
 simp [this]
theorem Bi.visit {m:Nat} {st:BS} (h:Bi m st) {y:Nat} (hy:y<m):Bi m (visit st y):=by
 unfold Bm.visit
 split
 ·exact h
 ·rename_i hb
  refine ⟨by simp [h.len],fun i hi=>?_,?_⟩
  ·simp only [List.length_append,List.length_singleton] at hi
   simp only [jE]
   split
   ·exact h.lt i (by assumption)
   ·rw [vk (by omega)];exact hy
  ·simp only [List.length_append,List.length_singleton]
   rw [vw (by rw [h.len];exact hy) (by simpa using hb)]
   have:=h.cnt
   omega
theorem Bi.round {m:Nat} {x:Nat}: ∀{ls:List (List Nat)} {st:BS},Bi m st→(∀p∈ls,nl p x<m)→Bi m (fK ls x st)
 |[],st,h,_=>h
 |p::ls,st,h,hp=>Bi.round (ls:=ls) (h.visit (hp p (by simp))) fun q hq=>hp q (by simp [hq])
theorem Bi.aJ {m:Nat} {ls:List (List Nat)} {st:BS} (h:Bi m st) (hp: ∀p∈ls,∀i,nl p i<m): ∀i,Bi m (aJ ls st i)
 |0=>h
 |i+1=>by
  simp only [Bm.aJ]
  split
  ·exact (Bi.aJ h hp i).round fun p hq=>hp p hq _
  ·exact Bi.aJ h hp i
theorem Rk {st:BS} {y:Nat}: ∃q,(visit st y).2=st.2++q:=by
 unfold visit
 split
 ·exact ⟨[],by simp⟩
 ·exact ⟨[y],rfl⟩
theorem lQ {x:Nat}: ∀{ls:List (List Nat)} {st:BS},∃q,(fK ls x st).2=st.2++q
 |[],st=>⟨[],by simp [fK]⟩
 |p::ls,st=>by
  obtain ⟨q,hq⟩:= @Rk st (nl p x)
  obtain ⟨q',hq'⟩:=lQ (x:=x) (ls:=ls) (st:=visit st (nl p x))
  exact ⟨q++q',by show (fK ls x (visit st (nl p x))).2=_;rw [hq',hq,List.append_assoc]⟩
theorem qA {ls:List (List Nat)} {st:BS} {i:Nat} (h:(aJ ls st i).2.length≤i): ∀j,i≤j→aJ ls st j=aJ ls st i
 |0,hj=>by
  obtain rfl:i=0:=by omega
  rfl
 |j+1,hj=>by
  rcases Nat.lt_or_ge j i with h1|h1
  ·obtain rfl:i=j+1:=by omega
   rfl
  ·have ih:=qA h j h1
   simp only [aJ]
   rw [ih,if_neg (by omega)]
theorem vC {ls:List (List Nat)} {x j:Nat} {st:BS} (h:j<ls.length):fK (ls.take (j+1)) x st=visit (fK (ls.take j) x st) (nl (ls.getD j []) x):=by
 have:ls.take (j+1)=ls.take j++[ls.getD j []]:=by
  rw [List.take_add_one]
  simp [List.getD,h]
 rw [this]
 simp [fK,List.foldl_append]
def st0 (m:Nat):BS:=((List.replicate m false).set 0 true,[0])
theorem Bi.st0 {m:Nat} (hm:0<m):Bi m (st0 m):=⟨by simp [Bm.st0],fun i hi=>by rw [show (Bm.st0 m).2=[0] from rfl,vk (by simpa [Bm.st0] using hi)];exact hm,by
 show 1≤_
 have:((List.replicate m false).set 0 true).count true=(List.replicate m false).count true+1:=vw (by simpa using hm) vg
 show 1≤((List.replicate m false).set 0 true).count true
 omega⟩
def reach (b w:List Nat):BS:=aJ [b,w] (st0 16) 16
theorem Rl {x:Bool} {b w:List Nat} {n:Int} {H:BH} {K:Value→BH→Prop} (hb:By 16 b) (hw:By 16 w) (hb16: ∀i,nl b i<16) (hw16: ∀i,nl w i<16)
  (hK:K (.bool (decide (((reach b w).2.length:Int)=n))) H):aA x Ol [I n,PL b,PL w] H K:=by
 have hlb:=hb.len
 have fG:=hw.len
 have hall: ∀p∈[b,w],∀i,nl p i<16:=by simp;exact ⟨hb16,hw16⟩
 refine cO (by simp only [RH]) ?_
 refine aZ OX ?_;simp only [bP,aB]
 refine eY ?_
 refine eY ?_
 refine dK @yg ?_
 refine eY ?_
 refine bH (fun m f H'=> ∃i,i≤16∧m=16-i∧i≤(aJ [b,w] (st0 16) i).2.length∧f 0=I n∧f 4=P 0 0∧f 5=P 1 0∧f 7=P 3 0∧f 8=S 2 0 (aJ [b,w] (st0 16) i).2.length 1∧f 9=I i∧H'=[some (b.map N8),some (w.map N8),some ((aJ [b,w] (st0 16) i).2.map N8),some ((aJ [b,w] (st0 16) i).1.map B)]) (16) ?_ ?_
 ·refine ⟨_,_,Gh.refl,0,by omega,by omega,by omega,aj,aj,aj,aj,aj,aj,?_⟩
  simp [aJ,st0]<;>rfl
 ·rintro m f H' R ⟨i,hi,rfl,hil,h0,h4,h5,h7,h8,h9,rfl⟩ hN hX hR hE
  simp only [bP.l1,aB]
  have hB:=(Bi.st0 (m:=16) (by omega)).aJ hall i
  generalize hst:aJ [b,w] (st0 16) i=st at hil h8 hB
  have hle:=hB.le
  have hsl:=hB.len
  refine dK (iM @h8 @h9) ?_
  refine iL (i<st.2.length) (fun hc=>?_) fun hc=>?_
  ·have hx:=hB.lt i hc
   refine lG ?_
   refine dK (yD @h4 @h5 @h8 @h9 @hlb @fG) ?_
   obtain ⟨nx,vF⟩: ∃nx,nx=[nl b (nl st.2 i),nl w (nl st.2 i)]:=⟨_,rfl⟩
   have yQ:nx.length=2:=by rw [vF];rfl
   refine eY ?_
   refine bH (fun m f H'=> ∃j st',j≤2∧m=2-j∧st'=fK ([b,w].take j) (nl st.2 i) st∧f 0=I n∧f 4=P 0 0∧f 5=P 1 0∧f 7=P 3 0∧f 8=S 2 0 st'.2.length 1∧f 9=I i∧f 10=S 4 0 2 1∧f 11=I j∧H'=[some (b.map N8),some (w.map N8),some (st'.2.map N8),some (st'.1.map B),some (nx.map N8)]) (2) ?_ ?_
   ·refine ⟨_,_,Gh.refl,0,st,by omega,by omega,rfl,aj,aj,aj,aj,aj,aj,aj,aj,by rw [vF];rfl⟩
   ·clear h0 h4 h5 h7 h8 h9
    rintro m f H' R2 ⟨j,st',hj,rfl,hst',h0,h4,h5,h7,h8,h9,h10,h11,rfl⟩ lS hX2 hR2 hE2
    simp only [bP.l0,aB]
    refine dK @h11 ?_
    have hB':Bi 16 st':=by rw [hst'];exact hB.round fun p hp=>hall p (List.mem_of_mem_take hp) _
    have hle':=hB'.le
    have jk:=hB'.len
    refine iL (j<2) (fun hc=>?_) fun hc=>?_
    ·have hy:nl nx j=nl ([b,w].getD j []) (nl st.2 i):=by
      rw [vF]
      have:j=0∨j=1:=by omega
      rcases this with rfl|rfl<;>rfl
     have hyl:nl nx j<16:=by
      rw [vF]
      have:j=0∨j=1:=by omega
      rcases this with rfl|rfl
      ·exact hb16 _
      ·exact hw16 _
     have hnx:=vC (ls:=[b,w]) (x:=nl st.2 i) (st:=st) (show j<[b,w].length from hc)
     rw [←hst',←hy] at hnx
     obtain ⟨y,jl⟩: ∃y,nl nx j=y:=⟨_,rfl⟩
     rw [jl] at hyl hnx
     have hnext: ∀f' st2 (c1 c2:Option (List Value)),f' 0=I n→f' 4=P 0 0→f' 5=P 1 0→f' 7=P 3 0→f' 8=S 2 0 st2.2.length 1→f' 9=I i→f' 10=S 4 0 2 1→f' 11=I j→st2=visit st' y→
       T 0 bP.r9 R2 f' [some (b.map N8),some (w.map N8),some (st2.2.map N8),some (st2.1.map B),some (nx.map N8)]:=by
      intro f' st2 c1 c2 h0 h4 h5 h7 h8 h9 h10 h11 hs2
      refine mZ @h11 ?_
      exact lS (2-(j+1)) _ _ _ _ (by omega) Gh.refl ⟨j+1,st2,by omega,rfl,by rw [hnx,hs2],aj,aj,aj,aj,aj,aj,aj,aj,rfl⟩
     refine lG ?_
     refine dK (yD @h7 @h10 @h11 @yQ @jk @jl) ?_
     refine iL (¬bl st'.1 y=true) (fun hc=>?_) fun hc=>?_
     ·refine dK (yD @h7 @h10 @h11 @yQ @jk @jl) ?_
      refine dK (uQ @h8 @h10 @h11 @yQ @jl) ?_
      refine jg (Gh.nrm [0,1,6,3,4] rfl rfl uO) ?_
      refine hnext _ (st'.1.set y true,st'.2++[y]) none none aj aj aj aj aj aj aj aj ?_
      rw [visit,if_neg hc]
     ·refine yB ?_
      refine hnext _ st' none none aj aj aj aj aj aj aj aj ?_
      rw [visit,if_pos (by simpa using hc)]
    ·refine hX2 _ _ ?_
     obtain rfl:j=2:=by omega
     have hst2:st'=aJ [b,w] (st0 16) (i+1):=by
      rw [hst',aJ,hst,if_pos (by assumption)]
      rfl
     obtain ⟨q,hq⟩:= @lQ (nl st.2 i) ([b,w].take 2) st
     have hlq:i+1≤st'.2.length:=by rw [hst',hq];simp;omega
     refine mZ @h9 ?_
     refine hN (16-(i+1)) _ _ _ _ (by omega) (Gh.nrm [0,1,2,3] rfl rfl uO) ⟨i+1,by omega,rfl,by rw [←hst2];exact hlq,aj,aj,aj,aj,?_,aj,?_⟩
     ·rw [←hst2]
      exact aj
     ·rw [←hst2];rfl
  ·refine hX _ _ ?_
   refine dK (iM @h0 @h8) ?_
   refine jd ?_
   refine ⟨NN.bool,?_⟩
   have hs:reach b w=st:=by rw [reach,qA (i:=i) (by rw [hst];omega) 16 hi,hst]
   rw [hs] at hK
   exact hK
end Go.Bm
namespace Go.Bm
open Go Go.Am
abbrev kM (m:Nat) (ls:List (List Nat)):Value:=Fz ls.length m (ls.flatten.map N8)
theorem Jp {α:Type} {m:Nat}: ∀{ls:List (List α)} {j:Nat},(∀p∈ls,p.length=m)→j<ls.length→ ∃r,ls.flatten.drop (j*m)=ls.getD j []++r
 |p::ls,0,h,_=>⟨ls.flatten,by simp⟩
 |p::ls,j+1,h,hj=>by
  obtain ⟨r,hr⟩:=Jp (ls:=ls) (j:=j) (fun q hq=>h q (by simp [hq])) (by simpa using hj)
  refine ⟨r,?_⟩
  have hp:p.length=m:=h p (by simp)
  rw [List.flatten_cons,Nat.succ_mul,Nat.add_comm,List.drop_append,List.drop_eq_nil_of_le (by omega)]
  simp only [List.nil_append,hp]
  rw [show m+j*m-m=j*m by omega,hr]
  simp [List.getD]
theorem flat_len {α:Type} {m:Nat}: ∀{ls:List (List α)},(∀p∈ls,p.length=m)→ls.flatten.length=ls.length*m
 |[],_=>by simp
 |p::ls,h=>by rw [List.flatten_cons,List.length_append,flat_len fun q hq=>h q (by simp [hq]),h p (by simp),List.length_cons,Nat.succ_mul];omega
theorem getD_mem {α:Type} {ls:List α} {d:α} {j:Nat} (h:j<ls.length):ls.getD j d∈ls:=by simp [List.getD,h]
theorem Rn {m j:Nat} {ls:List (List Nat)} (h: ∀p∈ls,p.length=m) (hj:j<ls.length):getN (some m) (ls.flatten.map N8) (j*m)=some (PL (ls.getD j [])):=by
 obtain ⟨r,hr⟩:=Jp h hj
 have hl:=h _ (getD_mem (d:=[]) hj)
 have hf:=flat_len h
 have:(j+1)*m≤ls.length*m:=Nat.mul_le_mul_right _ hj
 rw [Nat.succ_mul] at this
 generalize ls.getD j []=q at hr hl⊢
 rw [lg (by rw [List.length_map,hf];omega),←List.map_drop,hr,List.map_append,List.take_append_of_le_length (by simp [hl]),List.take_of_length_le (by simp [hl])]
theorem Ro {b w:List Nat} {m:Nat} {v:Value} (hb:b.length=m) (hw:w.length=m):fillL (repl (List.replicate m v) 2) [(0,m,PL b),(m,m,PL w)]=some (b.map N8++w.map N8):=by
 simp [fillL,repl,cellsL,hb,hw,splice,List.take_append,List.drop_append]
theorem Rq {x:Bool} {ls:List (List Nat)} {n:Int} {H:BH} {K:Value→BH→Prop} (hll:ls.length≤1000) (hl: ∀p∈ls,p.length=16) (gQ: ∀p∈ls,∀i,nl p i<16)
  (hK:K (I (aJ ls (st0 16) 16).2.length) H):aA x Ot [I n,kM 16 ls] H K:=by
 refine cO (by simp only [RH]) ?_
 refine aZ O4 ?_;simp only [bJ,aB]
 refine eY ?_
 refine eY ?_
 refine eY ?_
 refine eY ?_
 refine bH (fun m f H'=> ∃i,i≤16∧m=16-i∧i≤(aJ ls (st0 16) i).2.length∧f 1=kM 16 ls∧f 5=P 0 0∧f 6=S 1 0 (aJ ls (st0 16) i).2.length 1∧f 7=I i∧H'=[some ((aJ ls (st0 16) i).1.map B),some ((aJ ls (st0 16) i).2.map N8)]) (16) ?_ ?_
 ·refine ⟨_,_,Gh.refl,0,by omega,by omega,by omega,aj,aj,aj,aj,?_⟩
  simp [aJ,st0]<;>rfl
 ·rintro m f H' R ⟨i,hi,rfl,hil,h1,h5,h6,h7,rfl⟩ hN hX hR hE
  simp only [bJ.l1,aB]
  have hB:=(Bi.st0 (m:=16) (by omega)).aJ gQ i
  generalize hst:aJ ls (st0 16) i=st at hil h6 hB
  have hle:=hB.le
  have hsl:=hB.len
  refine dK (iM @h6 @h7) ?_
  refine iL (i<st.2.length) (fun hc=>?_) fun hc=>?_
  ·have hx:=hB.lt i hc
   refine lG ?_
   refine dK @h1 ?_
   refine bH (fun m f H'=> ∃j st',j≤ls.length∧m=ls.length-j∧st'=fK (ls.take j) (nl st.2 i) st∧f 1=kM 16 ls∧f 5=P 0 0∧f 6=S 1 0 st'.2.length 1∧f 7=I i∧f 19=kM 16 ls∧f 20=I ls.length∧f 21=I j∧H'=[some (st'.1.map B),some (st'.2.map N8)]) (ls.length) ?_ ?_
   ·refine ⟨_,_,Gh.refl,0,st,by omega,by omega,rfl,aj,aj,aj,aj,aj,aj,aj,rfl⟩
   ·clear h1 h5 h6 h7
    rintro m f H' R2 ⟨j,st',hj,rfl,hst',h1,h5,h6,h7,h19,h20,h21,rfl⟩ lS hX2 hR2 hE2
    simp only [bJ.l0,aB]
    refine dK (iM @h20 @h21) ?_
    have hB':Bi 16 st':=by rw [hst'];exact hB.round fun p hp=>gQ p (List.mem_of_mem_take hp) _
    have hle':=hB'.le
    have jk:=hB'.len
    refine iL (j<ls.length) (fun hc=>?_) fun hc=>?_
    ·obtain ⟨q,hq⟩:= @lQ (nl st.2 i) (ls.take j) st
     rw [←hst'] at hq
     have hxi:nl st'.2 i=nl st.2 i:=by rw [hq,jE,if_pos (by assumption)]
     have Wv:i<st'.2.length:=by rw [hq];simp;omega
     have hnx:=vC (ls:=ls) (x:=nl st.2 i) (st:=st) hc
     rw [←hst'] at hnx
     have hpl:=hl _ (getD_mem (d:=[]) hc)
     have hyl:=gQ _ (getD_mem (d:=[]) hc) (nl st.2 i)
     obtain ⟨pj,qB⟩: ∃pj,ls.getD j []=pj:=⟨_,rfl⟩
     rw [qB] at hnx hpl hyl
     obtain ⟨y,jl⟩: ∃y,nl pj (nl st.2 i)=y:=⟨_,rfl⟩
     rw [jl] at hyl hnx
     have hnext: ∀f' st2,f' 1=kM 16 ls→f' 5=P 0 0→f' 6=S 1 0 st2.2.length 1→f' 7=I i→f' 19=kM 16 ls→f' 20=I ls.length→f' 21=I j→st2=visit st' y→
       T 0 bJ.r13 R2 f' [some (st2.1.map B),some (st2.2.map N8)]:=by
      intro f' st2 h1 h5 h6 h7 h19 h20 h21 hs2
      refine mZ @h21 ?_
      exact lS (ls.length-(j+1)) _ _ _ _ (by omega) Gh.refl ⟨j+1,st2,by omega,rfl,by rw [hnx,hs2],aj,aj,aj,aj,aj,aj,aj,rfl⟩
     refine lG ?_
     refine dK (yC @h19 @h21 (Rn hl hc) @qB) ?_
     refine dK (uQ @h6 @h7 @hxi @hpl @jl) ?_
     refine dK (iM @h5 @jk) ?_
     refine iL (¬bl st'.1 y=true) (fun hc=>?_) fun hc=>?_
     ·refine dK (iM @h5 @jk) ?_
      refine dK @h6 ?_
      refine jg (Gh.nrm [0,4] rfl rfl uO) ?_
      refine hnext _ (st'.1.set y true,st'.2++[y]) aj aj aj aj aj aj aj ?_
      rw [visit,if_neg hc]
     ·refine yB ?_
      refine jg (Gh.nrm [0,1] rfl rfl uO) ?_
      refine hnext _ st' aj aj aj aj aj aj aj ?_
      rw [visit,if_pos (by simpa using hc)]
    ·refine hX2 _ _ ?_
     obtain rfl:j=ls.length:=by omega
     have hst2:st'=aJ ls (st0 16) (i+1):=by
      rw [hst',aJ,hst,if_pos (by assumption),List.take_length]
     obtain ⟨q,hq⟩:= @lQ (nl st.2 i) (ls.take ls.length) st
     have hlq:i+1≤st'.2.length:=by rw [hst',hq];simp;omega
     refine mZ @h7 ?_
     refine hN (16-(i+1)) _ _ _ _ (by omega) Gh.refl ⟨i+1,by omega,rfl,by rw [←hst2];exact hlq,aj,aj,?_,aj,?_⟩
     ·rw [←hst2]
      exact aj
     ·rw [←hst2]
  ·refine hX _ _ ?_
   refine dK @h6 ?_
   refine jd ?_
   refine ⟨NN.int,?_⟩
   have hs:aJ ls (st0 16) 16=st:=by rw [qA (i:=i) (by rw [hst];omega) 16 hi,hst]
   rw [hs] at hK
   exact hK
def bg (n:Int) (b w:List Nat):Prop:=Perm b n∧Perm w n∧((reach b w).2.length:Int)=n
instance (n:Int) (b w:List Nat):Decidable (bg n b w):=by unfold bg;infer_instance
theorem Perm.vG {p:List Nat} {n:Int} (h:Perm p n) (hl:p.length=16) (i:Nat):nl p i<16:=by
 obtain ⟨m,rfl⟩:=Int.eq_ofNat_of_zero_le (show 0≤n by have:=h.1;omega)
 exact h.iD hl i
theorem Rt {x:Bool} {n:Int} {b w:List Nat} {H:BH} {K:Value→BH→Prop} (hb:By 16 b) (hw:By 16 w) (hK:K (.bool (decide (bg n b w))) H):aA x Oc [DV n b w] H K:=by
 have hlb:=hb.len
 have fG:=hw.len
 refine cO (by simp only [RH]) ?_
 refine aZ OM ?_;simp only [jZ,aB]
 refine eY ?_
 refine QA (iM @lN @qx) fun Kr hKr=>?_
 refine Jm hb ?_
 by_cases h1:Perm b n
 ·rw [decide_eq_true h1]
  refine IL (iM @lN @qy) ?_
  refine Jm hw ?_
  by_cases h2:Perm w n
  ·rw [decide_eq_true h2]
   refine IL (uP @lN @qy @qx) ?_
   refine Rl hb hw (h1.vG hb.len) (h2.vG hw.len) ?_
   refine uK ?_
   refine uM hKr ?_
   refine jd ?_
   exact ⟨NN.bool,by simpa [bg,h1,h2] using hK⟩
  ·rw [decide_eq_false h2]
   refine uK ?_
   refine uM hKr ?_
   refine jd ?_
   exact ⟨NN.bool,by simpa [bg,h1,h2] using hK⟩
 ·rw [decide_eq_false h1]
  refine uK ?_
  refine uM hKr ?_
  refine jd ?_
  exact ⟨NN.bool,by simpa [bg,h1] using hK⟩
theorem Ru {m:Nat} {b w:List Nat}:Fz 2 m (b.map N8++w.map N8)=kM m [b,w]:=by simp [kM]
end Go.Bm
namespace Go.Bm
open Go Go.Am
def dL:List Nat:=List.replicate 16 0
theorem yR:By 16 dL:=By.rep
theorem fU:dL.length=16:=by simp [dL]
theorem dz:(Value.int .i64 0::List.replicate 32 (Value.int .u8 0))=DC 0 dL dL:=by rfl
theorem vH {b:List Nat}:(b.map N8).all Am.plain=true:=all_map fun _=>rfl
theorem Rw {n:Int} {b w:List Nat}:(DC n b w).all dA=true:=by
 simp only [DC,List.all_cons,List.all_append,Bool.and_eq_true]
 exact ⟨rfl,lC,lC⟩
theorem vJ {n:Int} {b w:List Nat} (hb:b.length=16) (hw:w.length=16):(DC n b w).length=33:=by simp [hb,hw]
theorem kN {n:Int} {b w:List Nat}:aF (DC n b w):= .cons .int (.append (.map fun _=> .int) (.map fun _=> .int))
section
variable {H:BH} {i:Nat} {n m:Int} {b w b' w' p:List Nat}
theorem Jq (hb:b.length=16) (hw:w.length=16) (hb':b'.length=16) (hw':w'.length=16):bQ (some (DC n b w)) H i 0 33 (aggL (DC m b' w'))=some (undef,H.set i (some (DC m b' w'))):=by
 rw [jy (vJ hb' hw') Rw (by rw [vJ hb hw];omega),uG (by rw [vJ hb hw,vJ hb' hw'])]
theorem Jr:bQ (some (DC n b w)) H i 0 1 (.int .i64 m)=some (undef,H.set i (some (DC m b w))):=by
 rw [lu (by simp),pW]
theorem qE {α:Type} {g:α→Value} {x y:List α} {pre post:List Value} (h:x.length=y.length):splice (pre++(x.map g++post)) pre.length (y.map g)=pre++(y.map g++post):=by
 simp only [splice]
 rw [List.take_append_of_le_length (by omega),List.take_of_length_le (by omega)]
 rw [List.drop_append,List.drop_eq_nil_of_le (by omega),List.nil_append]
 rw [show pre.length+(List.map g y).length-pre.length=(List.map g x).length by simp [h]]
 rw [List.drop_append,List.drop_eq_nil_of_le (by omega)]
 simp
theorem Js {α:Type} {g:α→Value} {x:List α} {y:α} {k:Nat} {pre post:List Value} (h:k<x.length):splice (pre++(x.map g++post)) (pre.length+k) [g y]=pre++((x.set k y).map g++post):=by
 simp only [splice,List.length_singleton]
 rw [List.take_append,List.take_of_length_le (l:=pre) (by omega),show pre.length+k-pre.length=k by omega,List.take_append_of_le_length (by simp;omega)]
 rw [List.drop_append,List.drop_eq_nil_of_le (as:=pre) (by omega),show pre.length+k+1-pre.length=k+1 by omega,List.drop_append_of_le_length (by simp;omega)]
 rw [List.set_eq_take_append_cons_drop]
 simp [h,List.map_take,List.map_drop]
theorem Jt {α:Type} {g:α→Value} {x:List α} {k:Nat} {d:α} {pre post:List Value} (h:k<x.length):getN none (pre++(x.map g++post)) (pre.length+k)=some (g (x.getD k d)):=by
 simp only [getN]
 rw [List.getElem?_append_right (by omega),show pre.length+k-pre.length=k by omega,List.getElem?_append_left (by simpa using h)]
 simp [List.getD,h]
theorem Ju (hb:b.length=16) (hp:p.length=16):bQ (some (DC n b w)) H i 1 16 (aggL (p.map N8))=some (undef,H.set i (some (DC n p w))):=by
 rw [jy (by simpa using hp) lC (by simp [hb])]
 have:=qE (g:=N8) (x:=b) (y:=p) (pre:=[I n]) (post:=w.map N8) (by omega)
 simp only [List.length_cons,List.length_nil,List.length_map,List.cons_append,List.nil_append,List.append_nil,Nat.zero_add] at this
 rw [show splice (DC n b w) 1 (p.map N8)=DC n p w from this]
theorem Jv (hb:b.length=16) (hw:w.length=16) (hp:p.length=16):bQ (some (DC n b w)) H i 17 16 (aggL (p.map N8))=some (undef,H.set i (some (DC n b p))):=by
 rw [jy (by simpa using hp) lC (by simp [hb,hw])]
 have:=qE (g:=N8) (x:=w) (y:=p) (pre:=I n::b.map N8) (post:=[]) (by omega)
 simp only [List.length_cons,List.length_nil,List.length_map,List.cons_append,List.nil_append,List.append_nil,Nat.zero_add,hb] at this
 rw [show splice (DC n b w) 17 (p.map N8)=DC n b p from this]
theorem Jw {k x:Nat} (h:k<b.length):bQ (some (DC n b w)) H i (1+k) 1 (.int .u8 (x:Int))=some (undef,H.set i (some (DC n (b.set k x) w))):=by
 rw [lu (by simp;omega)]
 have:=Js (g:=N8) (x:=b) (y:=x) (k:=k) (pre:=[I n]) (post:=w.map N8) h
 simp only [List.length_cons,List.length_nil,List.length_map,List.cons_append,List.nil_append,List.append_nil,Nat.zero_add] at this
 rw [show splice (DC n b w) (1+k) [N8 x]=DC n (b.set k x) w from this]
theorem Jy {k x:Nat} (hb:b.length=16) (h:k<w.length):bQ (some (DC n b w)) H i (17+k) 1 (.int .u8 (x:Int))=some (undef,H.set i (some (DC n b (w.set k x)))):=by
 rw [lu (by simp;omega)]
 have:=Js (g:=N8) (x:=w) (y:=x) (k:=k) (pre:=I n::b.map N8) (post:=[]) h
 simp only [List.length_cons,List.length_nil,List.length_map,List.cons_append,List.nil_append,List.append_nil,Nat.zero_add,hb] at this
 rw [show splice (DC n b w) (17+k) [N8 x]=DC n b (w.set k x) from this]
theorem Jz {k:Nat} (h:k<b.length):getN none (DC n b w) (1+k)=some (N8 (nl b k)):=by
 have:=Jt (g:=N8) (x:=b) (k:=k) (d:=0) (pre:=[I n]) (post:=w.map N8) h
 simp only [List.length_cons,List.length_nil,List.length_map,List.cons_append,List.nil_append,List.append_nil,Nat.zero_add] at this
 exact this
theorem JA {k:Nat} (hb:b.length=16) (h:k<w.length):getN none (DC n b w) (17+k)=some (N8 (nl w k)):=by
 have:=Jt (g:=N8) (x:=w) (k:=k) (d:=0) (pre:=I n::b.map N8) (post:=[]) h
 simp only [List.length_cons,List.length_nil,List.length_map,List.cons_append,List.nil_append,List.append_nil,Nat.zero_add,hb] at this
 exact this
theorem JB:fillL (DC n b w) [(0,1, .int .i64 m)]=some (DC m b w):=by
 simp [fillL,cellsL,splice]
theorem JC {b' w':List Nat} (hb:b.length=16) (hw:w.length=16) (hb':b'.length=16) (hw':w'.length=16):fillL (DC n b w) [(0,1, .int .i64 m),(1,16,PL b'),(17,16,PL w')]=some (DC m b' w'):=by
 simp only [fillL,uH,uI,List.length_singleton,List.length_map]
 rw [if_pos ⟨trivial,by simp⟩,pW,if_pos ⟨hb',by simp [hb]⟩]
 have h1:=qE (g:=N8) (x:=b) (y:=b') (pre:=[I m]) (post:=w.map N8) (by omega)
 simp only [List.length_singleton,List.cons_append,List.nil_append] at h1
 rw [h1,if_pos ⟨hw',by simp [hb',hw]⟩]
 have h2:=qE (g:=N8) (x:=w) (y:=w') (pre:=I m::b'.map N8) (post:=[]) (by omega)
 simp only [List.length_cons,List.length_map,hb',List.append_nil,List.cons_append] at h2
 rw [h2]
theorem JD (hb:b.length=16) (hw:w.length=16) (hw':w'.length=16):fillL (DC n b w) [(0,1, .int .i64 m),(17,16,PL w')]=some (DC m b w'):=by
 simp only [fillL,uH,uI,List.length_singleton,List.length_map]
 rw [if_pos ⟨trivial,by simp⟩,pW,if_pos ⟨hw',by simp [hb,hw]⟩]
 have h2:=qE (g:=N8) (x:=w) (y:=w') (pre:=I m::b.map N8) (post:=[]) (by omega)
 simp only [List.length_cons,List.length_map,hb,List.append_nil,List.cons_append] at h2
 rw [h2]
theorem JE (hb:b.length=16) (hw:w.length=16):getN (some 33) (DC n b w) 0=some (aggL (DC n b w)):=Ri hb hw
theorem fV:NN (aggL (DC n b w)):=NN.agg kN
end
theorem JF {b w:List Nat}:(b.map N8++w.map N8).all Am.plain=true:=by rw [List.all_append,vH,vH];rfl
theorem aI:(type_of% @dz)∧(type_of% @JF)∧(type_of% @vH)∧(type_of% @fU)∧(type_of% @Jr)∧(type_of% @lN)∧(type_of% @JB):=⟨@dz, @JF, @vH, @fU, @Jr, @lN, @JB⟩
theorem aQ:(type_of% @Jq)∧(type_of% @Ju)∧(type_of% @Jv)∧(type_of% @Jw)∧(type_of% @Jy)∧(type_of% @qx)∧(type_of% @qy)∧(type_of% @Jz)∧(type_of% @JA)∧(type_of% @JC)∧(type_of% @JD)∧(type_of% @JE):=⟨@Jq, @Ju, @Jv, @Jw, @Jy, @qx, @qy, @Jz, @JA, @JC, @JD, @JE⟩
theorem bg.n0 {n:Int} {b w:List Nat} (h:bg n b w): ∃m:Nat,n=m∧1≤m∧m≤16:=by
 have:=h.1.1
 exact ⟨n.toNat,by omega,by omega,by omega⟩
end Go.Bm
namespace Go.Bm
open Go Go.Am
theorem VZ.qF {Z:Nat→Option Blk} {v u:Value} (hp:Am.plain v=true) (h:VZ Z v u):u=v:=by
 cases h with
 |junk=>simp [Am.plain] at hp
 |plain _=>rfl
 |fz _ _ _ _ _ _=>simp [Am.plain] at hp
 |fz0=>simp [Am.plain] at hp
 |fp _ _ _ _ _=>simp [Am.plain] at hp
 |agg _ _=>simp [Am.plain] at hp
 | @tuple cs ds hl _=>
  have:cs=[]:=by simpa [Am.plain] using hp
  subst this
  have:ds=[]:=List.eq_nil_of_length_eq_zero hl.symm
  rw [this]
 |func _ _=>simp [Am.plain] at hp
theorem VR.qF {ρ:Nat→Option Nat} {Z:Nat→Option Blk} {v u:Value} (hp:Am.plain v=true) (h:VR ρ Z v u):u=v:=(NN.plain hp _ _ _ h).qF hp
theorem VL.yS {ρ ρ':Nat→Option Nat} {Z Z':Nat→Option Blk} {cs ds:List Value} (hp:cs.all Am.plain=true) (h:VL ρ Z cs ds):VL ρ' Z' cs ds:=by
 refine ⟨h.1,fun i c d h1 h2=>?_⟩
 have hc:=List.all_eq_true.1 hp c (List.mem_of_getElem? h1)
 rw [(h.2 i c d h1 h2).qF hc]
 exact .z (.plain hc)
inductive jO (H:BH):List Value→List Value→Prop where
 |nil:jO H [] []
 |nn {a:Value} {as as':List Value}:NN a→jO H as as'→jO H (a::as) (a::as')
 |own {i l e:Nat} {cs as as':List Value}:blk H i=some cs→l*e=cs.length→cs.all Am.plain=true→jO H as as'→jO H (.slice (some ⟨i,0,none⟩) l e::as) (Fz l e cs::as')
open Classical in
noncomputable def Zo (ρ:Nat→Option Nat) (Z:Nat→Option Blk) (H:BH) (HA:AHeap) (b:Nat):Option Blk:=
 match Z b with
 |some bk=>some bk
 |none=>if∃i cs,blk H i=some cs∧ρ i=some b then HA.get b else none
theorem jO.vl {ρ:Nat→Option Nat} {Z:Nat→Option Blk} {H:BH} {HA:AHeap} (hR:Rel ρ Z H HA) {as as':List Value} (h:jO H as as'): ∀{us:List Value},VL ρ Z as us→VL (fun _=>none) (Zo ρ Z H HA) as' us:=by
 have hzx: ∀b bk,Z b=some bk→Zo ρ Z H HA b=some bk:=fun b bk hb=>by simp only [Zo,hb]
 induction h with
 |nil=>intro us h1;rw [h1.fO];exact VL.nil
 |nn hn _ ih=>
  intro us h1
  obtain ⟨u,us,rfl,h2,h3⟩:=h1.gK
  exact VL.cons (.z ((hn _ _ _ h2).mono hzx)) (ih h3)
 | @own i l e cs as as' hb hl hp _ ih=>
  intro us h1
  obtain ⟨u,us,rfl,h2,h3⟩:=h1.gK
  refine VL.cons ?_ (ih h3)
  obtain ⟨b,hρ,rfl⟩:=h2.slice_inv
  obtain ⟨b',bk,k1,k2,k3,k4,k5⟩:=hR.bD i cs hb
  rw [hρ] at k1;cases k1
  have hz:Zo ρ Z H HA b=some bk:=by
   simp only [Zo,hR.cZ i cs b hb hρ]
   rw [if_pos ⟨i,cs,hb,hρ⟩,k3]
  have k6:VL (fun _=>none) (Zo ρ Z H HA) cs bk.cells:=k5.yS hp
  refine .z (.fz (bk:=bk) (ds:=bk.cells) hz hl.symm k5.1 (by rw [hl,k5.1];omega) (by rw [hl,k5.1,List.drop_zero,List.take_length]) fun q c d h1 h2=>?_)
  have hc:=List.all_eq_true.1 hp c (List.mem_of_getElem? h1)
  rw [(k5.2 q c d h1 h2).qF hc]
  exact .plain hc
theorem Wx {x:Bool} {g:Nat} {args args':List Value} {H:BH} {K:Value→BH→Prop} (ha:jO H args args')
  (h:aA false g args' [] fun v H1=>(∃j l e cs k n,v= .tuple ⟨[.slice (some ⟨j,0,none⟩) l e, .int k n]⟩∧blk H1 j=some cs∧cs.all Am.plain=true∧K (.tuple ⟨[.slice (some ⟨H.length,0,none⟩) l e, .int k n]⟩) (H++[some cs]))∨
   (∃vs,v= .tuple ⟨vs⟩∧vs.all Am.plain=true∧K v H)):aA x g args H K:=by
 intro ρ Z as HA h1 h2
 have hzx: ∀b bk,Z b=some bk→Zo ρ Z H HA b=some bk:=fun b bk hb=>by simp only [Zo,hb]
 have hR0:Rel (fun _=>none) (Zo ρ Z H HA) [] HA:=by
  refine ⟨fun i cs h=>by simp [blk] at h,fun i j cs cs' b h=>by simp [blk] at h,fun i cs b h=>by simp [blk] at h,fun b bk hb=>?_,fun _ _=>rfl⟩
  cases hz:Z b with
  |some yT=>
   rw [hzx b yT hz] at hb;cases hb
   exact h2.dG b bk hz
  |none=>
   simp only [Zo,hz] at hb
   split at hb
   ·rename_i hex
    obtain ⟨i,cs,e1,e2⟩:=hex
    exact ⟨h2.lt e1 e2,hb⟩
   ·cases hb
 obtain ⟨v',HA',h3,_,aV,Z1,v,H1,h4,h5,_,_,h6,h8⟩:=h _ _ as HA (ha.vl h2 h1) hR0
 have hkeep: ∀b,b<HA.n→HA'.get b=HA.get b:=fun b hb=>h6.keep b hb fun i cs h=>by simp [blk] at h
 obtain ⟨Zf,jm⟩: ∃Zf:Nat→Option Blk,Zf=fun b=>if b<HA.n then Z b else Z1 b:=⟨_,rfl⟩
 have lU: ∀b bk,Z b=some bk→Zf b=some bk:=fun b bk hb=>by
  have:=(h2.dG b bk hb).1
  rw [jm]
  simp only
  rw [if_pos this]
  exact hb
 have hfro: ∀b bk,Zf b=some bk→b<HA'.n∧HA'.get b=some bk:=fun b bk hb=>by
  rw [jm] at hb
  simp only at hb
  split at hb
  ·rename_i hlt
   have:=(h2.dG b bk hb).2
   exact ⟨Nat.lt_of_lt_of_le hlt h6.n,by rw [hkeep b hlt];exact this⟩
  ·exact h5.dG b bk hb
 have hzn: ∀b bk,Zf b=some bk→Z b=some bk∨HA.n≤b:=fun b bk hb=>by
  rw [jm] at hb
  simp only at hb
  split at hb
  ·exact .inl hb
  ·exact .inr (by omega)
 rcases h8 with ⟨j,l,e,cs,k,n,rfl,hj,hp,hK⟩|⟨vs,rfl,hp,hK⟩
 ·obtain ⟨b0,bk1,hb0,e2,e3,e4,e5⟩:=h5.bD j cs hj
  have hge:HA.n≤b0:=by
   rcases h6.own j cs b0 hj hb0 with h9|⟨i,cs',h9,_⟩
   ·exact h9
   ·simp [blk] at h9
  have hold: ∀i cs',blk (H++[some cs]) i=some cs'→(i=H.length∧cs'=cs)∨(i<H.length∧blk H i=some cs'):=fun i cs' hc=>by
   rcases Nat.lt_trichotomy i H.length with hi|hi|hi
   ·right
    refine ⟨hi,?_⟩
    unfold blk at hc⊢
    rwa [List.getElem?_append_left hi] at hc
   ·left
    subst hi
    unfold blk at hc
    rw [List.getElem?_append_right (Nat.le_refl _)] at hc
    simp at hc
    exact ⟨rfl,hc.symm⟩
   ·unfold blk at hc
    rw [List.getElem?_eq_none (by simp;omega)] at hc
    cases hc
  have hρ: ∀i,i<H.length→put ρ H.length b0 i=ρ i:=fun i hi=>by simp only [put];rw [if_neg (by omega)]
  have eF:put ρ H.length b0 H.length=some b0:=by simp [put]
  have hv:VR (put ρ H.length b0) Zf (.tuple ⟨[.slice (some ⟨H.length,0,none⟩) l e, .int k n]⟩) v':=by
   obtain ⟨ds,rfl,hl⟩:=h4.tuple_inv
   obtain ⟨ds⟩:=ds
   obtain ⟨d1,r1,rfl,w1,hl⟩:=hl.gK
   obtain ⟨d2,r2,rfl,w2,hl⟩:=hl.gK
   obtain rfl:=hl.fO
   obtain ⟨b,hb,rfl⟩:=w1.slice_inv
   obtain rfl:=w2.int
   rw [hb0] at hb;cases hb
   exact .tuple rfl (VL.cons (.slice eF) (VL.cons (.z (.plain rfl)) VL.nil)).2
  refine ⟨_,HA',h3,fun _=>⟨h6.n,hkeep⟩,put ρ H.length b0,Zf,_,H++[some cs],hv,⟨fun i cs' hc=>?_,fun i i' cs1 cs2 b hc hc' hb hb'=>?_,fun i cs' b hc hb=>?_,hfro,fun i hi=>?_⟩,by simp,hρ,⟨h6.n,fun b hb _=>hkeep b hb,fun i cs' b hc hb=>?_,lU,fun b bk hb=>(hzn b bk hb).imp_right .inl⟩,hK⟩
  ·rcases hold i cs' hc with ⟨rfl,rfl⟩|⟨hi,hc⟩
   ·exact ⟨b0,bk1,eF,e2,e3,e4,e5.yS hp⟩
   ·obtain ⟨b,bk,k1,k2,k3,k4,k5⟩:=h2.bD i cs' hc
    refine ⟨b,bk,by rw [hρ i hi];exact k1,Nat.lt_of_lt_of_le k2 h6.n,by rw [hkeep b k2];exact k3,k4,k5.mono (fun q d hq=>?_) lU⟩
    rcases Nat.lt_or_ge q H.length with lJ|lJ
    ·rw [hρ q lJ];exact hq
    ·rw [h2.top q lJ] at hq;cases hq
  ·rcases hold i cs1 hc with ⟨rfl,rfl⟩|⟨hi,hc⟩<;>rcases hold i' cs2 hc' with ⟨rfl,_⟩|⟨hi',hc'⟩
   ·rfl
   ·rw [eF] at hb;cases hb
    rw [hρ i' hi'] at hb'
    have:=h2.lt hc' hb'
    omega
   ·rw [eF] at hb';cases hb'
    rw [hρ i hi] at hb
    have:=h2.lt hc hb
    omega
   ·rw [hρ i hi] at hb;rw [hρ i' hi'] at hb'
    exact h2.inj i i' cs1 cs2 b hc hc' hb hb'
  ·rcases hold i cs' hc with ⟨rfl,rfl⟩|⟨hi,hc⟩
   ·rw [eF] at hb;cases hb
    rw [jm]
    simp only
    rw [if_neg (by omega)]
    exact h5.cZ j _ b0 hj hb0
   ·rw [hρ i hi] at hb
    rw [jm]
    simp only
    rw [if_pos (h2.lt hc hb)]
    exact h2.cZ i cs' b hc hb
  ·simp only [List.length_append,List.length_singleton] at hi
   simp only [put]
   rw [if_neg (by omega)]
   exact h2.top i (by omega)
  ·rcases hold i cs' hc with ⟨rfl,rfl⟩|⟨hi,hc⟩
   ·rw [eF] at hb;cases hb
    exact .inl hge
   ·rw [hρ i hi] at hb
    exact .inr ⟨i,cs',hc,hb⟩
 ·have hv:VR ρ Zf (.tuple ⟨vs⟩) v':=by
   obtain ⟨ds,rfl,hl⟩:=h4.tuple_inv
   obtain ⟨ds⟩:=ds
   have:=hl.yS (ρ':=ρ) (Z':=Zf) hp
   exact .tuple this.1 this.2
  refine ⟨_,HA',h3,fun _=>⟨h6.n,hkeep⟩,ρ,Zf,_,H,hv,⟨fun i cs hc=>?_,h2.inj,fun i cs b hc hb=>?_,hfro,h2.top⟩,Nat.le_refl _,fun _ _=>rfl,⟨h6.n,fun b hb _=>hkeep b hb,fun i cs b hc hb=> .inr ⟨i,cs,hc,hb⟩,lU,fun b bk hb=>(hzn b bk hb).imp_right .inl⟩,hK⟩
  ·obtain ⟨b,bk,k1,k2,k3,k4,k5⟩:=h2.bD i cs hc
   exact ⟨b,bk,k1,Nat.lt_of_lt_of_le k2 h6.n,by rw [hkeep b k2];exact k3,k4,k5.mono (fun _ _ h=>h) lU⟩
  ·rw [jm]
   simp only
   rw [if_pos (h2.lt hc hb)]
   exact h2.cZ i cs b hc hb
end Go.Bm
namespace Go.Bm
open Go Go.Am
abbrev WS:=List Bool×List Nat×Nat
def vK (p:List Nat) (st:WS):WS:=if bl st.1 st.2.2=true then st else (st.1.set st.2.2 true,st.2.1++[st.2.2],nl p st.2.2)
def wk (p:List Nat) (st:WS):Nat→WS
 |0=>st
 |j+1=>vK p (wk p st j)
def jF (p:List Nat) (m:Nat):Nat→List Bool×List (List Nat)
 |0=>(List.replicate 16 false,[])
 |k+1=>if bl (jF p m k).1 k=true then jF p m k else ((wk p ((jF p m k).1,[],k) m).1,(jF p m k).2++[(wk p ((jF p m k).1,[],k) m).2.1])
structure lV (p:List Nat) (n:Nat) (c:List Nat):Prop where
 ne:0<c.length
 lt: ∀x∈c,x<n
 eu:c.Nodup
 step: ∀j,j+1<c.length→nl p (nl c j)=nl c (j+1)
 last:nl p (nl c (c.length-1))=nl c 0
 least: ∀x∈c,nl c 0≤x
theorem eX {c:List Nat} {j:Nat} (h:j<c.length):nl c j∈c:=by simp [nl,List.getD,h]
theorem jP {c:List Nat} {x:Nat} (h:x∈c): ∃j,j<c.length∧nl c j=x:=by
 obtain ⟨i,hi,rfl⟩:=List.mem_iff_getElem.1 h
 exact ⟨i,hi,by simp [nl,List.getD,hi]⟩
theorem yU {c:List Nat} (h:c.Nodup) {i j:Nat} (hi:i<c.length) (hj:j<c.length) (he:nl c i=nl c j):i=j:=by
 have h':=List.pairwise_iff_getElem.1 h
 have e: ∀k (hk:k<c.length),nl c k=c[k]:=fun k hk=>by simp [nl,List.getD,hk]
 rcases Nat.lt_trichotomy i j with h1|h1|h1
 ·exact absurd (by rw [←e i hi,←e j hj];exact he) (h' i j hi hj h1)
 ·exact h1
 ·exact absurd (by rw [←e i hi,←e j hj];exact he.symm) (h' j i hj hi h1)
theorem Perm.inj {p:List Nat} {n:Nat} (h:Perm p n) {i j:Nat} (hi:i<n) (hj:j<n) (he:nl p i=nl p j):i=j:=by
 have h1:=h.1
 rcases Nat.lt_trichotomy i j with h2|h2|h2
 ·exact absurd he (((h.2 j (by omega)).2 (by omega)).2 i h2)
 ·exact h2
 ·exact absurd he.symm (((h.2 i (by omega)).2 (by omega)).2 j h2)
structure jo (p:List Nat) (n:Nat) (s0:List Bool) (i:Nat) (j:Nat) (st:WS):Prop where
 len:st.1.length=16
 at_:st.2.2<n
 new:bl s0 st.2.2=false
 mem: ∀x,bl st.1 x=true↔bl s0 x=true∨x∈st.2.1
 lt: ∀x∈st.2.1,x<n∧bl s0 x=false
 eu:st.2.1.Nodup
 cnt:st.1.count true=s0.count true+st.2.1.length
 step: ∀t,t+1<st.2.1.length→nl p (nl st.2.1 t)=nl st.2.1 (t+1)
 st0:st.2.1=[]→st.2.2=i
 st1:0<st.2.1.length→nl st.2.1 0=i∧nl p (nl st.2.1 (st.2.1.length-1))=st.2.2
 go:st.2.1.length=j∨bl st.1 st.2.2=true
theorem jo.wk {p:List Nat} {n:Nat} (hp:Perm p n) {s0:List Bool} {i:Nat} (hl:s0.length=16) (hi:i<n) (h0:bl s0 i=false) (hinv: ∀x,x<n→bl s0 (nl p x)=bl s0 x): ∀j,jo p n s0 i j (wk p (s0,[],i) j)
 |0=>by
  refine ⟨hl,hi,h0,fun x=>?_,?_,?_,?_,?_,?_,?_,?_⟩<;>simp [Bm.wk]
 |j+1=>by
  have ih:=jo.wk hp hl hi h0 hinv j
  have hn:=hp.1
  simp only [Bm.wk]
  generalize Bm.wk p (s0,[],i) j=st at ih⊢
  obtain ⟨s,l,k⟩:=st
  have h1:=ih.len
  have h2:=ih.at_
  have h3:=ih.new
  have h4:=ih.mem
  have h5:=ih.lt
  have h6:=ih.eu
  have h7:=ih.cnt
  have h8:=ih.step
  have h9:=ih.st0
  have h10:=ih.st1
  have h11:=ih.go
  simp only at h1 h2 h3 h4 h5 h6 h7 h8 h9 h10 h11
  unfold vK
  by_cases hb:bl s k=true
  ·rw [if_pos hb]
   exact ⟨h1,h2,h3,h4,h5,h6,h7,h8,h9,h10, .inr hb⟩
  ·rw [if_neg hb]
   have hkl:k∉l:=fun h=>hb ((h4 k).2 (.inr h))
   have hk:(l++[k]).length=l.length+1:=by simp
   refine ⟨by simpa using h1,hp.lt h2,by rw [hinv k h2];exact h3,fun x=>?_,fun x hx=>?_,?_,?_,fun t ht=>?_,fun h=>by simp at h,fun _=>?_, .inl ?_⟩
   ·show bl (s.set k true) x=true↔bl s0 x=true∨x∈l++[k]
    rw [jM]
    by_cases e:x=k
    ·subst e
     rw [if_pos ⟨rfl,by omega⟩]
     simp
    ·rw [if_neg (fun h=>e h.1),h4 x]
     simp [e]
   ·rcases List.mem_append.1 hx with h|h
    ·exact h5 x h
    ·rw [List.mem_singleton] at h
     subst h
     exact ⟨h2,h3⟩
   ·show (l++[k]).Nodup
    rw [List.nodup_append]
    exact ⟨h6,by simp,fun a ha b hb=>by
     rw [List.mem_singleton] at hb
     subst hb
     exact fun e=>hkl (e▸ha)⟩
   ·show (s.set k true).count true=s0.count true+(l++[k]).length
    rw [vw (by omega) (by simpa using hb),h7,hk]
    omega
   ·show nl p (nl (l++[k]) t)=nl (l++[k]) (t+1)
    have ht:t+1<l.length+1:=by rw [←hk];exact ht
    rw [jE,jE,if_pos (by omega)]
    by_cases e:t+1<l.length
    ·rw [if_pos e]
     exact h8 t e
    ·rw [if_neg e,vk (by omega),show t=l.length-1 by omega]
     exact (h10 (by omega)).2
   ·show nl (l++[k]) 0=i∧nl p (nl (l++[k]) ((l++[k]).length-1))=nl p k
    rw [hk,Nat.add_sub_cancel]
    refine ⟨?_,by rw [jE,if_neg (by omega),Nat.sub_self];rfl⟩
    rw [jE]
    split
    ·rename_i h
     exact (h10 h).1
    ·rename_i h
     have:l=[]:=List.eq_nil_of_length_eq_zero (by omega)
     subst this
     exact h9 rfl
   ·show (l++[k]).length=j+1
    rw [hk]
    rcases h11 with h|h
    ·omega
    ·exact absurd h hb
theorem jo.done {p:List Nat} {n m:Nat} (hm:m=16) (hp:Perm p n) {s0:List Bool} {i:Nat} (hl:s0.length=16) (hi:i<n) (h0:bl s0 i=false) (hinv: ∀x,x<n→bl s0 (nl p x)=bl s0 x):
  bl (Bm.wk p (s0,[],i) m).1 (Bm.wk p (s0,[],i) m).2.2=true:=by
 have h16:=jo.wk hp hl hi h0 hinv m
 have h17:=jo.wk hp hl hi h0 hinv (m+1)
 rcases h16.go with h|h
 ·cases hb:bl (Bm.wk p (s0,[],i) m).1 (Bm.wk p (s0,[],i) m).2.2 with
  |true=>rfl
  |false=>
   have e:Bm.wk p (s0,[],i) (m+1)=vK p (Bm.wk p (s0,[],i) m):=rfl
   rw [vK,if_neg (by simp [hb])] at e
   have h1:=h17.cnt
   have h2:=List.count_le_length (a:=true) (l:=(Bm.wk p (s0,[],i) (m+1)).1)
   have h3:=h17.len
   have h4:(Bm.wk p (s0,[],i) (m+1)).2.1.length=m+1:=by rw [e];simp [h]
   omega
 ·exact h
theorem jo.dU {p:List Nat} {n m:Nat} (hm:m=16) (hp:Perm p n) {s0:List Bool} {i:Nat} (hl:s0.length=16) (hi:i<n) (h0:bl s0 i=false) (hinv: ∀x,x<n→bl s0 (nl p x)=bl s0 x) (hup: ∀x,x<i→bl s0 x=true):
  lV p n (Bm.wk p (s0,[],i) m).2.1∧nl (Bm.wk p (s0,[],i) m).2.1 0=i:=by
 have h:=jo.wk hp hl hi h0 hinv m
 have hd:=jo.done hm hp hl hi h0 hinv
 generalize Bm.wk p (s0,[],i) m=st at h hd⊢
 obtain ⟨s,l,k⟩:=st
 have hkl:k∈l:=by
  rcases (h.mem k).1 hd with h1|h1
  ·exact absurd h1 (by have:=h.new;simp only at this;simp [this])
  ·exact h1
 have hne:0<l.length:=List.length_pos_of_mem hkl
 obtain ⟨hz,hla⟩:=h.st1 hne
 simp only at hz hla
 obtain ⟨j,hj,hje⟩:=jP hkl
 have hlt: ∀t,t<l.length→nl l t<n:=fun t ht=>(h.lt _ (eX ht)).1
 have hj0:j=0:=by
  rcases Nat.eq_zero_or_pos j with h1|h1
  ·exact h1
  ·exfalso
   have h2:=h.step (j-1) (by show j-1+1<l.length;omega)
   simp only at h2
   rw [show j-1+1=j by omega,hje,←hla] at h2
   have h3:=hp.inj (hlt _ (by omega)) (hlt _ (by omega)) h2
   have h4:=yU h.eu (by show j-1<l.length;omega) (by show l.length-1<l.length;omega) h3
   omega
 subst hj0
 refine ⟨⟨hne,fun x hx=>(h.lt x hx).1,h.eu,h.step,by rw [hla];exact hje.symm,fun x hx=>?_⟩,hz⟩
 rw [hz]
 rcases Nat.lt_or_ge x i with h1|h1
 ·have h2:=(h.lt x hx).2
  rw [hup x h1] at h2
  cases h2
 ·exact h1
theorem lV.fwd {p:List Nat} {n:Nat} {c:List Nat} (h:lV p n c) {x:Nat} (hx:x∈c):nl p x∈c:=by
 obtain ⟨j,hj,rfl⟩:=jP hx
 by_cases e:j+1<c.length
 ·rw [h.step j e]
  exact eX e
 ·rw [show j=c.length-1 by omega,h.last]
  exact eX h.ne
theorem lV.bwd {p:List Nat} {n:Nat} {c:List Nat} (hp:Perm p n) (h:lV p n c) {x:Nat} (hx:x<n) (hm:nl p x∈c):x∈c:=by
 obtain ⟨j,hj,hje⟩:=jP hm
 by_cases e:j=0
 ·subst e
  rw [←h.last] at hje
  have:=hp.inj (h.lt _ (eX (by have:=h.ne;omega))) hx hje
  rw [←this]
  exact eX (by have:=h.ne;omega)
 ·have h2:=h.step (j-1) (by omega)
  rw [show j-1+1=j by omega,hje] at h2
  have:=hp.inj (h.lt _ (eX (by omega))) hx h2
  rw [←this]
  exact eX (by omega)
structure lW (p:List Nat) (n i:Nat) (sc:List Bool×List (List Nat)):Prop where
 len:sc.1.length=16
 mem: ∀x,bl sc.1 x=true↔ ∃c∈sc.2,x∈c
 inv: ∀x,x<n→bl sc.1 (nl p x)=bl sc.1 x
 dU: ∀c∈sc.2,lV p n c
 cnt:sc.1.count true=sc.2.flatten.length
 eu:sc.2.flatten.Nodup
 upto: ∀x,x<i→bl sc.1 x=true
 hd: ∀c∈sc.2,nl c 0<i
 num:sc.2.length≤i
theorem lW.all {p:List Nat} {n m:Nat} (hm:m=16) (hp:Perm p n): ∀{i:Nat},i≤n→lW p n i (jF p m i)
 |0,_=>by
  have h0: ∀x,bl (List.replicate 16 false) x=false:=fun x=>vg
  rw [show jF p m 0=(List.replicate 16 false,[]) from rfl]
  have hno: ∀c:List Nat,c∉([]:List (List Nat)):=fun c=>List.not_mem_nil
  have hc0:(List.replicate 16 false).count true=0:=rfl
  exact ⟨List.length_replicate,fun x=>⟨fun h=>absurd ((h0 x).symm.trans h) Bool.false_ne_true,fun ⟨c,h,_⟩=>absurd h (hno c)⟩,fun x _=>(h0 _).trans (h0 x).symm,fun c h=>absurd h (hno c),hc0,List.nodup_nil,fun x h=>absurd h (Nat.not_lt_zero x),fun c h=>absurd h (hno c),Nat.le_refl _⟩
 |i+1,hi=>by
  have ih:=lW.all hm hp (i:=i) (by omega)
  have hn:=hp.1
  simp only [jF]
  generalize jF p m i=sc at ih⊢
  by_cases hb:bl sc.1 i=true
  ·rw [if_pos hb]
   exact ⟨ih.len,ih.mem,ih.inv,ih.dU,ih.cnt,ih.eu,fun x hx=>by
    by_cases e:x=i
    ·rw [e];exact hb
    ·exact ih.upto x (by omega),fun c hc=>by have:=ih.hd c hc;omega,by have:=ih.num;omega⟩
  ·rw [if_neg hb]
   have h0:bl sc.1 i=false:=by simpa using hb
   have hw:=jo.wk hp ih.len (show i<n by omega) h0 ih.inv m
   obtain ⟨hc,hz⟩:=jo.dU hm hp ih.len (show i<n by omega) h0 ih.inv ih.upto
   generalize Bm.wk p (sc.1,[],i) m=st at hw hc hz⊢
   obtain ⟨s,l,k⟩:=st
   have hm:=hw.mem
   have hlt:=hw.lt
   have hwc:=hw.cnt
   simp only at hc hz hm hlt hwc⊢
   have hil:i∈l:=by rw [←hz];exact eX hc.ne
   refine ⟨hw.len,fun x=>?_,fun x hx=>?_,fun c hc'=>?_,?_,?_,fun x hx=>?_,fun c hc'=>?_,by simp;exact ih.num⟩
   ·show bl s x=true↔_
    rw [hm x,ih.mem x]
    simp only [List.mem_append,List.mem_singleton]
    constructor
    ·rintro (⟨c,h1,h2⟩|h)
     ·exact ⟨c, .inl h1,h2⟩
     ·exact ⟨l, .inr rfl,h⟩
    ·rintro ⟨c,h1|rfl,h2⟩
     ·exact .inl ⟨c,h1,h2⟩
     ·exact .inr h2
   ·show bl s (nl p x)=bl s x
    have key:bl s (nl p x)=true↔bl s x=true:=by
     rw [hm,hm,ih.inv x hx]
     constructor
     ·rintro (h|h)
      ·exact .inl h
      ·exact .inr (hc.bwd hp hx h)
     ·rintro (h|h)
      ·exact .inl h
      ·exact .inr (hc.fwd h)
    exact Bool.eq_iff_iff.2 key
   ·rcases List.mem_append.1 hc' with h|h
    ·exact ih.dU c h
    ·rw [List.mem_singleton] at h
     subst h
     exact hc
   ·show s.count true=(sc.2++[l]).flatten.length
    rw [hwc,ih.cnt]
    simp
   ·show (sc.2++[l]).flatten.Nodup
    rw [List.flatten_append,List.nodup_append]
    refine ⟨ih.eu,by simpa using hw.eu,fun a ha b hb'=>?_⟩
    have Rx:b∈l:=by simpa using hb'
    rintro rfl
    obtain ⟨c,h1,h2⟩:=List.mem_flatten.1 ha
    have h3:=(ih.mem a).2 ⟨c,h1,h2⟩
    rw [(hlt a Rx).2] at h3
    cases h3
   ·show bl s x=true
    rw [hm]
    by_cases e:x=i
    ·rw [e];exact .inr hil
    ·exact .inl (ih.upto x (by omega))
   ·rcases List.mem_append.1 hc' with h|h
    ·have:=ih.hd c h;omega
    ·rw [List.mem_singleton] at h
     subst h
     omega
def dU (p:List Nat) (n:Nat):List (List Nat):=(jF p 16 n).2
section
variable {p:List Nat} {n:Nat}
theorem yV (hp:Perm p n) {x:Nat} (hx:x<n): ∃c∈dU p n,x∈c:=((lW.all rfl hp (Nat.le_refl n)).mem x).1 ((lW.all rfl hp (Nat.le_refl n)).upto x hx)
theorem vM (hp:Perm p n) {c:List Nat} (h:c∈dU p n):lV p n c:=(lW.all rfl hp (Nat.le_refl n)).dU c h
end
end Go.Bm
namespace Go.Bm
open Go Go.Am
theorem JG {p:List Int} {i j:Nat} {x:Int}:el (p.set i x) j=if j=i∧i<p.length then x else el p j:=by
 unfold el
 simp only [List.getD]
 by_cases h:i=j
 ·subst h
  by_cases hi:i<p.length
  ·simp [hi]
  ·simp [List.getElem?_eq_none (by omega:p.length≤i),hi]
 ·rw [List.getElem?_set_ne h,if_neg (fun e=>h e.1.symm)]
def swp (p:List Int) (i j:Nat):List Int:=(p.set i (el p j)).set j (el p i)
theorem Ry {p:List Int} {i j:Nat}:(swp p i j).length=p.length:=by simp [swp]
theorem jG {p:List Int} {i j k:Nat} (hi:i<p.length) (hj:j<p.length):el (swp p i j) k=if k=j then el p i else if k=i then el p j else el p k:=by
 unfold swp
 rw [JG,JG]
 by_cases h:k=j
 ·rw [if_pos ⟨h,by simpa using hj⟩,if_pos h]
 ·rw [if_neg (fun e=>h e.1),if_neg h]
  by_cases h2:k=i
  ·rw [if_pos ⟨h2,hi⟩,if_pos h2]
  ·rw [if_neg (fun e=>h2 e.1),if_neg h2]
theorem Rz {p:List Int} {i j:Nat} (hi:i<p.length) (hj:j<p.length):(swp p i j).Perm p:=by
 rw [List.perm_iff_count]
 intro a
 unfold swp
 rw [List.count_set (by simpa using hj),List.count_set hi]
 have e1:p[i]=el p i:=by simp [el,List.getD,hi]
 have e2:p[j]=el p j:=by simp [el,List.getD,hj]
 have e3:(p.set i (el p j))[j]'(by simpa using hj)=el p j:=by
  rw [List.getElem_set]
  split
  ·rfl
  ·exact e2
 rw [e3,e1]
 have c1:(el p i==a)=true→0<p.count a:=fun h=>by
  rw [List.count_pos_iff,←beq_iff_eq.1 h,←e1];exact List.getElem_mem hi
 by_cases h1:(el p i==a)=true<;>by_cases h2:(el p j==a)=true<;>simp only [h1,h2,if_true,if_false,Bool.false_eq_true]<;>first|omega|(have:=c1 h1;omega)
structure Sg (a b:Nat) (p q:List Int):Prop where
 len:q.length=p.length
 out: ∀i,i<a∨b≤i→el q i=el p i
 src: ∀i,a≤i→i<b→ ∃j,a≤j∧j<b∧el q i=el p j
 perm:q.Perm p
theorem Sg.refl {a b:Nat} {p:List Int}:Sg a b p p:=⟨rfl,fun _ _=>rfl,fun i h1 h2=>⟨i,h1,h2,rfl⟩, .refl _⟩
theorem Sg.trans {a b:Nat} {p q r:List Int} (h:Sg a b p q) (k:Sg a b q r):Sg a b p r:=⟨k.len.trans h.len,fun i hi=>(k.out i hi).trans (h.out i hi),fun i h1 h2=>by
 obtain ⟨j,j1,j2,j3⟩:=k.src i h1 h2
 obtain ⟨l,l1,l2,l3⟩:=h.src j j1 j2
 exact ⟨l,l1,l2,j3.trans l3⟩,k.perm.trans h.perm⟩
theorem Sg.mono {a b a' b':Nat} {p q:List Int} (h:Sg a b p q) (ha:a'≤a) (hb:b≤b'):Sg a' b' p q:=⟨h.len,fun i hi=>h.out i (by omega),fun i h1 h2=>by
 by_cases hi:a≤i∧i<b
 ·obtain ⟨j,j1,j2,j3⟩:=h.src i hi.1 hi.2
  exact ⟨j,by omega,by omega,j3⟩
 ·exact ⟨i,h1,h2,h.out i (by omega)⟩,h.perm⟩
theorem Sg.swp {a b i j:Nat} {p:List Int} (h1:a≤i) (h2:i<b) (h3:a≤j) (h4:j<b) (hb:b≤p.length):Sg a b p (swp p i j):=⟨Ry,fun k hk=>by
 rw [jG (by omega) (by omega),if_neg (by omega),if_neg (by omega)],fun k k1 k2=>by
 rw [jG (by omega) (by omega)]
 split
 ·exact ⟨i,h1,h2,rfl⟩
 ·split
  ·exact ⟨j,h3,h4,rfl⟩
  ·exact ⟨k,k1,k2,rfl⟩,Rz (by omega) (by omega)⟩
def nH (a b:Nat) (p:List Int):Prop:= ∀i j,a≤i→i≤j→j<b→el p i≤el p j
theorem nH.one {a:Nat} {p:List Int}:nH a (a+1) p:=fun i j h1 h2 h3=>by
 obtain rfl:i=j:=by omega
 exact Int.le_refl _
end Go.Bm
namespace Go.Bm
open Go Go.Am
section
variable {k:Nat} {Q:Ex→Fr→BH→Prop} {f:Fr} {H:BH}
end
structure PI (p q:List Int) (v:Int) (a b i j:Nat):Prop where
 sg:Sg a b p q
 lo:a+1≤i
 ij:i≤j+1
 jb:j<b
 ge:a≤j
 va:el q a=v
 lt: ∀x,a<x→x<i→el q x<v
 gt: ∀x,j<x→x<b→v≤el q x
section
variable {p q:List Int} {v:Int} {a b i j:Nat}
theorem PI.up (h:PI p q v a b i j) (hij:i≤j) (hx:el q i<v):PI p q v a b (i+1) j:=⟨h.sg,by have:=h.lo;omega,by omega,h.jb,h.ge,h.va,fun x h1 h2=>by
 rcases Nat.lt_or_ge x i with h3|h3
 ·exact h.lt x h1 h3
 ·obtain rfl:x=i:=by omega
  exact hx,h.gt⟩
theorem PI.dn (h:PI p q v a b i j) (hij:i≤j) (hx: ¬el q j<v):PI p q v a b i (j-1):=⟨h.sg,h.lo,by have:=h.lo;omega,by have:=h.jb;omega,by have:=h.lo;omega,h.va,h.lt,fun x h1 h2=>by
 rcases Nat.lt_or_ge j x with h3|h3
 ·exact h.gt x h3 h2
 ·obtain rfl:x=j:=by have:=h.lo;omega
  omega⟩
theorem PI.keep (h:PI p q v a b i j) (hs:j<i∨ ¬(el q i<v)) (hij:i≤j):j-1<i∨ ¬(el q i<v):=by
 rcases hs with hs|hs
 ·omega
 ·exact .inr hs
theorem PI.ex (h:PI p q v a b i j) (hb:b≤p.length) (h1:i<j) (h2: ¬el q i<v) (h3:el q j<v):PI p (swp q i j) v a b (i+1) (j-1):=by
 have hl:=h.sg.len
 have lo:=h.lo
 have jb:=h.jb
 refine ⟨h.sg.trans (.swp (by omega) (by omega) (by omega) (by omega) (by omega)),by omega,by omega,by omega,by omega,?_,fun x x1 x2=>?_,fun x x1 x2=>?_⟩
 ·rw [jG (by omega) (by omega),if_neg (by omega),if_neg (by omega)];exact h.va
 ·rw [jG (by omega) (by omega),if_neg (by omega)]
  split
  ·exact h3
  ·exact h.lt x x1 (by omega)
 ·rw [jG (by omega) (by omega)]
  split
  ·omega
  ·rw [if_neg (by omega)]
   exact h.gt x (by omega) x2
theorem PI.fin (h:PI p q v a b i j) (hb:b≤p.length) (h1:j<i):Sg a b p (swp q j a)∧(∀x,a≤x→x<j→el (swp q j a) x≤el (swp q j a) j)∧(∀x,j<x→x<b→el (swp q j a) j≤el (swp q j a) x):=by
 have hl:=h.sg.len
 have lo:=h.lo
 have jb:=h.jb
 have ge:=h.ge
 have ij:=h.ij
 have ej:el (swp q j a) j=v:=by
  rw [jG (by omega) (by omega)]
  split
  ·rename_i e;rw [e];exact h.va
  ·rw [if_pos rfl];exact h.va
 refine ⟨h.sg.trans (.swp (by omega) (by omega) (by omega) (by omega) (by omega)),fun x x1 x2=>?_,fun x x1 x2=>?_⟩
 ·rw [ej,jG (by omega) (by omega)]
  split
  ·exact Int.le_of_lt (h.lt j (by omega) (by omega))
  ·rw [if_neg (by omega)]
   exact Int.le_of_lt (h.lt x (by omega) (by omega))
 ·rw [ej,jG (by omega) (by omega),if_neg (by omega),if_neg (by omega)]
  exact h.gt x x1 x2
end
structure JH (p q:List Int) (v:Int) (a b i j:Nat):Prop where
 sg:Sg a b p q
 lo:a+1≤i
 ij:i≤j+1
 jb:j<b
 ge:a≤j
 va:el q a=v
 lt: ∀x,a<x→x<i→el q x≤v
 gt: ∀x,j<x→x<b→v<el q x
section
variable {p q:List Int} {v:Int} {a b i j:Nat}
end
theorem PI.start {p:List Int} {a b t:Nat} (hb:b≤p.length) (h1:a≤t) (h2:t<b):PI p (swp p a t) (el p t) a b (a+1) (b-1):=⟨.swp (by omega) (by omega) (by omega) (by omega) hb,by omega,by omega,by omega,by omega,by
 rw [jG (by omega) (by omega)]
 split
 ·rename_i e;rw [e]
 ·rw [if_pos rfl],fun x x1 x2=>by omega,fun x x1 x2=>by omega⟩
theorem JH.start {p:List Int} {a b t:Nat} (hb:b≤p.length) (h1:a≤t) (h2:t<b):JH p (swp p a t) (el p t) a b (a+1) (b-1):=⟨.swp (by omega) (by omega) (by omega) (by omega) hb,by omega,by omega,by omega,by omega,by
 rw [jG (by omega) (by omega)]
 split
 ·rename_i e;rw [e]
 ·rw [if_pos rfl],fun x x1 x2=>by omega,fun x x1 x2=>by omega⟩
end Go.Bm
namespace Go.Bm
open Go Go.Am
end Go.Bm
namespace Go.Bm
open Go Go.Am
end Go.Bm
namespace Go.Bm
open Go Go.Am
set_option maxRecDepth 10000
def len8:ByteArray:=⟨#[0,1,2,2,3,3,3,3,4,4,4,4,4,4,4,4,5,5,5,5,5,5,5,5,5,5,5,5,5,5,5,5,6,6,6,6,6,6,6,6,6,6,6,6,6,6,6,6,6,6,6,6,6,6,6,6,6,6,6,6,6,6,6,6,7,7,7,7,7,7,7,7,7,7,7,7,7,7,7,7,7,7,7,7,7,7,7,7,7,7,7,7,7,7,7,7,7,7,7,7,7,7,7,7,7,7,7,7,7,7,7,7,7,7,7,7,7,7,7,7,7,7,7,7,7,7,7,7,8,8,8,8,8,8,8,8,8,8,8,8,8,8,8,8,8,8,8,8,8,8,8,8,8,8,8,8,8,8,8,8,8,8,8,8,8,8,8,8,8,8,8,8,8,8,8,8,8,8,8,8,8,8,8,8,8,8,8,8,8,8,8,8,8,8,8,8,8,8,8,8,8,8,8,8,8,8,8,8,8,8,8,8,8,8,8,8,8,8,8,8,8,8,8,8,8,8,8,8,8,8,8,8,8,8,8,8,8,8,8,8,8,8,8,8,8,8,8,8,8,8,8,8,8,8,8,8]⟩
def lenOf (x:Nat):Nat:=match len8[x]? with|some b=>b.toNat|none=>0
end Go.Bm
namespace Go.Bm
open Go Go.Am
section
variable {k:Nat} {Q:Ex→Fr→BH→Prop} {f:Fr} {H:BH}
end
def Od (a b a' b':Nat) (q:List Int):Prop:= ∀x y,a≤x→x<y→y<b→ ¬(a'≤x∧y<b')→el q x≤el q y
def Pre (a b:Nat) (q:List Int):Prop:=0<a→ ∀x,a≤x→x<b→el q (a-1)≤el q x
section
variable {a b a' b' m:Nat} {q r:List Int}
theorem Od.sg (h:Od a b a' b' q) (ha:a≤a') (hb:b'≤b) (k:Sg a' b' q r):Od a b a' b' r:=by
 intro x y h1 h2 h3 h4
 by_cases hx:a'≤x∧x<b'
 ·obtain ⟨x',x1,x2,x3⟩:=k.src x hx.1 hx.2
  rw [x3,k.out y (by omega)]
  exact h x' y (by omega) (by omega) h3 (by omega)
 ·rw [k.out x (by omega)]
  by_cases hy:a'≤y∧y<b'
  ·obtain ⟨y',y1,y2,y3⟩:=k.src y hy.1 hy.2
   rw [y3]
   exact h x y' h1 (by omega) (by omega) (by omega)
  ·rw [k.out y (by omega)]
   exact h x y h1 h2 h3 h4
theorem Pre.sg (h:Pre a' b' q) (k:Sg a' b' q r):Pre a' b' r:=fun h0 x h1 h2=>by
 obtain ⟨x',x1,x2,x3⟩:=k.src x h1 h2
 rw [x3,k.out (a'-1) (by omega)]
 exact h h0 x' x1 x2
theorem Od.left (h:Od a b a' b' q) (ha:a≤a') (hb:b'≤b) (h1:a'≤m) (h2:m<b') (hl: ∀x,a'≤x→x<m→el q x≤el q m) (hr: ∀x,m<x→x<b'→el q m≤el q x) (k:Sg a' m q r) (hs:nH a' m r):Od a b (m+1) b' r:=by
 intro x y k1 k2 k3 k4
 by_cases hb2:a'≤x∧y<b'
 ·have em:el r m=el q m:=k.out m (by omega)
  have hlow: ∀z,a'≤z→z<m→el r z≤el q m:=fun z z1 z2=>by
   obtain ⟨z',w1,w2,w3⟩:=k.src z z1 z2
   rw [w3]
   exact hl z' w1 w2
  have hup: ∀z,m<z→z<b'→el q m≤el r z:=fun z z1 z2=>by
   rw [k.out z (by omega)]
   exact hr z z1 z2
  rcases Nat.lt_trichotomy y m with hy|hy|hy
  ·exact hs x y hb2.1 (by omega) hy
  ·subst hy
   rw [em]
   exact hlow x hb2.1 k2
  ·have h9:=hup y hy hb2.2
   rcases Nat.lt_or_ge x m with hx|hx
   ·exact Int.le_trans (hlow x hb2.1 hx) h9
   ·obtain rfl:x=m:=by omega
    rw [em]
    exact h9
 ·exact h.sg ha hb (k.mono (by omega) (by omega)) x y k1 k2 k3 hb2
theorem Od.right (h:Od a b a' b' q) (ha:a≤a') (hb:b'≤b) (h1:a'≤m) (h2:m<b') (hl: ∀x,a'≤x→x<m→el q x≤el q m) (hr: ∀x,m<x→x<b'→el q m≤el q x) (k:Sg (m+1) b' q r) (hs:nH (m+1) b' r):Od a b a' m r:=by
 intro x y k1 k2 k3 k4
 by_cases hb2:a'≤x∧y<b'
 ·have em:el r m=el q m:=k.out m (by omega)
  have hlow: ∀z,a'≤z→z<m→el r z≤el q m:=fun z z1 z2=>by
   rw [k.out z (by omega)]
   exact hl z z1 z2
  have hup: ∀z,m<z→z<b'→el q m≤el r z:=fun z z1 z2=>by
   obtain ⟨z',w1,w2,w3⟩:=k.src z (by omega) z2
   rw [w3]
   exact hr z' (by omega) w2
  rcases Nat.lt_trichotomy x m with hx|hx|hx
  ·have h9:=hlow x hb2.1 hx
   rcases Nat.lt_or_ge m y with hy|hy
   ·exact Int.le_trans h9 (hup y hy hb2.2)
   ·obtain rfl:y=m:=by omega
    rw [em]
    exact h9
  ·subst hx
   rw [em]
   exact hup y k2 hb2.2
  ·exact hs x y (by omega) (by omega) hb2.2
 ·exact h.sg ha hb (k.mono (by omega) (by omega)) x y k1 k2 k3 hb2
theorem Od.done (h:Od a b a' b' q) (ha:a≤a') (hb:b'≤b) (hs:nH a' b' q):nH a b q:=fun x y h1 h2 h3=>by
 rcases Nat.lt_or_ge x y with hx|hx
 ·by_cases hc:a'≤x∧y<b'
  ·exact hs x y hc.1 h2 hc.2
  ·exact h x y h1 hx h3 hc
 ·obtain rfl:x=y:=by omega
  exact Int.le_refl _
end
end Go.Bm
namespace Go.Bm
open Go Go.Am
abbrev dV (n:Nat):Value:= .int .i64 (n:Int)
theorem vN {H:BH} {b bytes cn:Nat} {xs:List Nat} {y:Nat} (h:(xs.length+1)*bytes≤140737488355328):app1 (some [.int .i64 (y:Int)]) (some (xs.map dV)) H b xs.length bytes cn=some (S H.length 0 (xs.length+1) 1,(H.set b none)++[some ((xs++[y]).map dV)]):=pX (g:=dV) rfl h
theorem iE {l:List Nat}:aF (l.map N8):=aF.map fun _=> .int
end Go.Bm
namespace Go.Bm
open Go Go.Am
def JI (p:List Int):Prop:= ∀i j,i≤j→j<p.length→el p j≤el p i
theorem JI.head {a:Int} {p:List Int} (h:JI (a::p)): ∀x∈p,x≤a:=fun x hx=>by
 obtain ⟨i,hi,rfl⟩:=List.mem_iff_getElem.1 hx
 have:=h 0 (i+1) (by omega) (by simpa using hi)
 simpa [el,List.getD,hi] using this
end Go.Bm
namespace Go.Bm
open Go Go.Am
section
variable {p:List Nat} {n:Nat}
end
end Go.Bm
namespace Go.Bm
open Go Go.Am
abbrev FN (c:List Nat):Value:=Fz c.length 1 (c.map dV)
theorem iR {p:List (List Nat)}:aF (p.map FN):=aF.map fun _=>NN.fz
theorem kP {p:List Nat}:aF (p.map dV):=aF.map fun _=>NN.int
theorem RG {H:BH} {b bytes cn:Nat} {xs:List (List Nat)} {y:List Nat} (h:(xs.length+1)*bytes≤140737488355328):app1 (some [Fz y.length 1 (y.map dV)]) (some (xs.map FN)) H b xs.length bytes cn=some (S H.length 0 (xs.length+1) 1,(H.set b none)++[some ((xs++[y]).map FN)]):=pX (g:=FN) rfl h
theorem yX {xs:List (List Nat)} {k:Nat} (h:k<xs.length):getN none (xs.map FN) k=some (FN (xs.getD k [])):=by
 simp [getN,h,List.getD]
theorem uN {i j o l e:Nat} {cs:List Value} (h:j≠i):frz i cs (S j o l e)=S j o l e:=by
 simp only [frz]
 rw [if_neg (fun k=>h k.1)]
theorem RV:(type_of% @iR)∧(type_of% @kP):=⟨@iR, @kP⟩
end Go.Bm
namespace Go.Bm
open Go Go.Am
def kQ (c:Option (List Value)) (H:BH) (b l m bytes:Nat) (ys:List Value):Option (Value×BH):=
 match c with
 |some cs=>if ys.length=m∧l≤cs.length∧(l+m)*bytes≤140737488355328∧ys.all dA=true then some (S H.length 0 (l+m) 1,(H.set b none)++[some (cs.take l++ys)]) else dI 1 bytes (S b 0 l 1) (Fz m 1 ys) H
 |none=>dI 1 bytes (S b 0 l 1) (Fz m 1 ys) H
theorem JJ {H:BH} {b l m bytes:Nat} {ys:List Value}:dI 1 bytes (S b 0 l 1) (Fz m 1 ys) H=kQ (blk H b) H b l m bytes ys:=by
 unfold kQ
 split
 ·rename_i cs hb
  split
  ·rename_i h
   obtain ⟨h1,h2,h3,h4⟩:=h
   by_cases hm:m=0
   ·subst hm
    obtain rfl:ys=[]:=List.eq_nil_of_length_eq_zero h1
    simp only [Nat.add_zero] at h3
    simp [dI,newC,Fz,hb,h2,h3]
   ·simp only [dI,newC,Fz,if_neg hm,if_true,hb,Nat.mul_one]
    rw [if_pos ⟨h2,h3,h4⟩]
  ·rfl
 ·rfl
section
variable {H:BH} {b bytes:Nat}
theorem JK {α:Type} {g:α→Value} {xs ys:List α} (ho: ∀a,dA (g a)=true) (h:(xs.length+ys.length)*bytes≤140737488355328):
  kQ (some (xs.map g)) H b xs.length ys.length bytes (ys.map g)=some (S H.length 0 (xs.length+ys.length) 1,(H.set b none)++[some ((xs++ys).map g)]):=by
 simp only [kQ]
 rw [if_pos ⟨by simp,by simp,h,by simp [ho]⟩]
 simp [List.take_of_length_le]
theorem RI {α:Type} {g:α→Value} {x:α} {ys:List α} (ho: ∀a,dA (g a)=true) (h:(ys.length+1)*bytes≤140737488355328):
  kQ (some [g x]) H b 1 ys.length bytes (ys.map g)=some (S H.length 0 (ys.length+1) 1,(H.set b none)++[some ((x::ys).map g)]):=by
 have:=JK (H:=H) (b:=b) (bytes:=bytes) (g:=g) (xs:=[x]) (ys:=ys) ho (by simpa [Nat.add_comm] using h)
 simpa [Nat.add_comm] using this
theorem RJ {α:Type} {g:α→Value} {ys:List α} (ho: ∀a,dA (g a)=true) (h:ys.length*bytes≤140737488355328):
  kQ (some []) H b 0 ys.length bytes (ys.map g)=some (S H.length 0 ys.length 1,(H.set b none)++[some (ys.map g)]):=by
 have:=JK (H:=H) (b:=b) (bytes:=bytes) (g:=g) (xs:=[]) (ys:=ys) ho (by simpa using h)
 simpa using this
theorem RP {x:Nat} {ys:List Nat} (h:(ys.length+1)*bytes≤140737488355328):kQ (some [.int .i64 (x:Int)]) H b 1 ys.length bytes (ys.map dV)=some (S H.length 0 (ys.length+1) 1,(H.set b none)++[some ((x::ys).map dV)]):=RI (g:=dV) (fun _=>rfl) h
end
end Go.Bm
namespace Go.Bm
open Go Go.Am
section
variable {code:List Nat} {a b:Nat} {h:Int} {H:BH}
end
end Go.Bm
