/- DpCc, DpCd, DpDg, DpKa, BmQ, DpDb, DpDc, DpTa, DpLa, DpLz, DpDh, BmR -/
import Derived.Test.YtbpfbfbabpkceaaBmT
import Derived.Test.YtbpfbfbabpkceaaDpG0
set_option linter.unusedVariables false
set_option linter.unusedSimpArgs false
namespace Go.Bm
open Go Go.Am
def jH:List Bool:=List.replicate 16 false
theorem vX {x:Nat}:bl jH x=false:=vg
theorem nR:jH.length=16:=by simp [jH]
def stA (x:Nat):BS:=(jH.set x true,[x])
structure gY (ls:List (List Nat)) (n x d:Nat) (st:BS):Prop where
 len:st.1.length=16
 mem: ∀y,bl st.1 y=true↔y∈st.2
 eu:st.2.Nodup
 lt: ∀y∈st.2,y<n
 pre: ∃r,st.2=x::r
 le:d≤st.2.length
 done: ∀j,j<d→ ∀p∈ls,nl p (nl st.2 j)∈st.2
theorem gY.visit {ls:List (List Nat)} {n x d y:Nat} {st:BS} (hn:n≤16) (h:gY ls n x d st) (hy:y<n):gY ls n x d (Bm.visit st y)∧(∃q,(Bm.visit st y).2=st.2++q)∧y∈(Bm.visit st y).2:=by
 unfold Bm.visit
 by_cases hb:bl st.1 y=true
 ·rw [if_pos hb]
  exact ⟨h,⟨[],by simp⟩,(h.mem y).1 hb⟩
 ·rw [if_neg hb]
  have hny:y∉st.2:=fun hm=>hb ((h.mem y).2 hm)
  refine ⟨⟨by simpa using h.len,fun z=>?_,?_,fun z hz=>?_,?_,?_,fun j hj1 p hp=>?_⟩,⟨[y],rfl⟩,by simp⟩
  ·show bl (st.1.set y true) z=true↔z∈st.2++[y]
   rw [jM]
   by_cases e:z=y
   ·subst e
    rw [if_pos ⟨rfl,by have:=h.len;omega⟩]
    simp
   ·rw [if_neg (fun k=>e k.1),h.mem z]
    simp [e]
  ·show (st.2++[y]).Nodup
   rw [List.nodup_append]
   exact ⟨h.eu,by simp,fun a ha b hb=>by
    rw [List.mem_singleton] at hb
    subst hb
    exact fun e=>hny (e▸ha)⟩
  ·rcases List.mem_append.1 hz with k|k
   ·exact h.lt z k
   ·rw [List.mem_singleton] at k
    omega
  ·obtain ⟨r,hr⟩:=h.pre
   exact ⟨r++[y],by show st.2++[y]=_;rw [hr];rfl⟩
  ·show d≤(st.2++[y]).length
   have:=h.le
   simp
   omega
  ·show nl p (nl (st.2++[y]) j)∈st.2++[y]
   rw [jE,if_pos (by have:=h.le;omega)]
   exact List.mem_append_left _ (h.done j hj1 p hp)
theorem gY.round {ls:List (List Nat)} {n x d z:Nat} (hn:n≤16): ∀{l2:List (List Nat)} {st:BS},gY ls n x d st→(∀p∈l2,nl p z<n)→gY ls n x d (fK l2 z st)∧(∃q,(fK l2 z st).2=st.2++q)∧ ∀p∈l2,nl p z∈(fK l2 z st).2
 |[],st,h,_=>⟨h,⟨[],by simp [fK]⟩,by simp⟩
 |p::l2,st,h,hp=>by
  obtain ⟨h1,⟨q1,h2⟩,h3⟩:=h.visit hn (hp p (by simp))
  obtain ⟨h4,⟨q2,h5⟩,h6⟩:=gY.round hn (l2:=l2) h1 fun q hq=>hp q (by simp [hq])
  have e:fK (p::l2) z st=fK l2 z (Bm.visit st (nl p z)):=rfl
  rw [e]
  refine ⟨h4,⟨q1++q2,by rw [h5,h2,List.append_assoc]⟩,fun q hq=>?_⟩
  rcases List.mem_cons.1 hq with rfl|hq
  ·rw [h5]
   exact List.mem_append_left _ h3
  ·exact h6 q hq
theorem gY.aJ {ls:List (List Nat)} {n x:Nat} {st:BS} (hn:n≤16) (hl: ∀p∈ls,∀y,y<n→nl p y<n) (h:gY ls n x 0 st): ∀i,gY ls n x (min i (Bm.aJ ls st i).2.length) (Bm.aJ ls st i)
 |0=>by rw [Nat.zero_min];exact h
 |i+1=>by
  have ih:=gY.aJ hn hl h i
  simp only [Bm.aJ]
  generalize Bm.aJ ls st i=s at ih⊢
  by_cases hi:i<s.2.length
  ·rw [if_pos hi]
   rw [Nat.min_eq_left (by omega)] at ih
   obtain ⟨h1,⟨q,h2⟩,h3⟩:=ih.round hn (z:=nl s.2 i) (l2:=ls) fun p hp=>hl p hp _ (ih.lt _ (eX hi))
   have hlen:i+1≤(fK ls (nl s.2 i) s).2.length:=by rw [h2];simp;omega
   rw [Nat.min_eq_left hlen]
   refine ⟨h1.len,h1.mem,h1.eu,h1.lt,h1.pre,hlen,fun j hj p hp=>?_⟩
   by_cases e:j=i
   ·subst e
    have:nl (fK ls (nl s.2 j) s).2 j=nl s.2 j:=by rw [h2,jE,if_pos hi]
    rw [this]
    exact h3 p hp
   ·exact h1.done j (by omega) p hp
  ·rw [if_neg hi]
   rw [Nat.min_eq_right (by omega)] at ih
   rw [Nat.min_eq_right (by omega)]
   exact ih
theorem gY.start {ls:List (List Nat)} {n x:Nat} (hn:n≤16) (hx:x<n):gY ls n x 0 (stA x):=by
 refine ⟨by simp [stA,nR],fun y=>?_,by simp [stA],fun y hy=>?_,⟨[],rfl⟩,Nat.zero_le _,fun j hj=>by omega⟩
 ·show bl (jH.set x true) y=true↔y∈[x]
  rw [jM,nR,vX]
  by_cases e:y=x
  ·rw [if_pos ⟨e,by omega⟩];simp [e]
  ·rw [if_neg (fun k=>e k.1)];simp [e]
 ·rw [show (stA x).2=[x] from rfl,List.mem_singleton] at hy
  omega
theorem nodup_le {n:Nat} {l:List Nat} (h:l.Nodup) (hl: ∀x∈l,x<n):l.length≤n:=by
 have:=List.Nodup.length_le_of_subset h (l₂:=List.range n) fun x hx=>List.mem_range.2 (hl x hx)
 simpa using this
theorem UL {n:Nat} {l:List Nat} (h:l.Nodup) (hl: ∀x∈l,x<n) (hn:n≤l.length) {x:Nat} (hx:x<n):x∈l:=by
 apply Classical.byContradiction
 intro hxl
 have:=nodup_le (n:=n) (l:=x::l) (List.nodup_cons.2 ⟨hxl,h⟩) (by
  intro y hy
  rcases List.mem_cons.1 hy with rfl|hy
  ·exact hx
  ·exact hl y hy)
 rw [List.length_cons] at this
 omega
def ord (b w:List Nat) (x:Nat):List Nat:=(aJ [b,w] (stA x) 16).2
section
variable {b w:List Nat} {n:Nat}
theorem mF (hb:Perm b n) (hw:Perm w n) {x:Nat} (hx:x<n):gY [b,w] n x (ord b w x).length (aJ [b,w] (stA x) 16):=by
 have hn:=hb.1
 have h:=(gY.start (ls:=[b,w]) (x:=x) (n:=n) (by omega) hx).aJ (by omega) (by
  intro p hp y hy
  simp only [List.mem_cons,List.not_mem_nil,or_false] at hp
  rcases hp with rfl|rfl
  ·exact hb.lt hy
  ·exact hw.lt hy) 16
 have h16:=nodup_le h.eu h.lt
 rw [Nat.min_eq_right (by omega)] at h
 exact h
theorem UM (hb:Perm b n) (hw:Perm w n) {x:Nat} (hx:x<n): ∀y∈ord b w x,nl b y∈ord b w x∧nl w y∈ord b w x:=fun y hy=>by
 have h:=mF hb hw hx
 obtain ⟨j,hj,rfl⟩:=jP hy
 exact ⟨h.done j hj b (by simp),h.done j hj w (by simp)⟩
theorem L9 {p:List Nat} (hp:Perm p n) {S:Nat→Prop} (hS: ∀x,x<n→S x→S (nl p x)) {x:Nat} (hx:x<n) (h:S (nl p x)):S x:=by
 obtain ⟨c,hc,hxc⟩:=yV hp hx
 have hi:=vM hp hc
 obtain ⟨j,hj,hje⟩:=jP (hi.fwd hxc)
 have hup: ∀d,j+d<c.length→S (nl c (j+d)):=by
  intro d
  induction d with
  |zero=>intro _;rw [Nat.add_zero,hje];exact h
  |succ d ih=>
   intro hd
   rw [←Nat.add_assoc,←hi.step (j+d) (by omega)]
   exact hS _ (hi.lt _ (eX (by omega))) (ih (by omega))
 have h0:S (nl c 0):=by
  rw [←hi.last]
  have:=hup (c.length-1-j) (by omega)
  rw [show j+(c.length-1-j)=c.length-1 by omega] at this
  exact hS _ (hi.lt _ (eX (by omega))) this
 have hall: ∀k,k<c.length→S (nl c k):=by
  intro k
  induction k with
  |zero=>intro _;exact h0
  |succ k ih=>
   intro hk
   rw [←hi.step k hk]
   exact hS _ (hi.lt _ (eX (by omega))) (ih (by omega))
 obtain ⟨k,hk,rfl⟩:=jP hxc
 exact hall k hk
theorem bg.reach (h:bg n b w) {y:Nat} (hy:y<n):y∈ord b w 0:=by
 obtain ⟨hb,hw,hr⟩:=h
 have hn:=hb.1
 have h1:=mF hb hw (x:=0) (by omega)
 refine UL h1.eu h1.lt ?_ hy
 have:(Bm.reach b w).2.length=n:=by omega
 have e:(aJ [b,w] (stA 0) 16).2.length=n:=this
 omega
theorem bg.ind (h:bg n b w) (S:Nat→Prop) (s1: ∀z,z<n→S z→S (nl b z)) (s2: ∀z,z<n→S z→S (nl w z)) (s0:S 0): ∀z,z<n→S z:=by
 obtain ⟨hb,hw,hr⟩:=id h
 have hn:=hb.1
 intro z hz
 have hcl: ∀i,∀z∈(aJ [b,w] (stA 0) i).2,z<n∧S z:=by
  have hv: ∀(st:BS) (y:Nat),(∀z∈st.2,z<n∧S z)→y<n→S y→ ∀z∈(visit st y).2,z<n∧S z:=by
   intro st y h1 h2 h3 z hz
   unfold visit at hz
   split at hz
   ·exact h1 z hz
   ·rcases List.mem_append.1 hz with k|k
    ·exact h1 z k
    ·rw [List.mem_singleton] at k
     subst k
     exact ⟨h2,h3⟩
  intro i
  induction i with
  |zero=>
   intro z hz
   have:z=0:=by simpa [aJ,stA] using hz
   subst this
   exact ⟨by omega,s0⟩
  |succ i ih=>
   simp only [aJ]
   split
   ·rename_i hi
    obtain ⟨hz1,hz2⟩:=ih _ (eX hi)
    exact hv _ _ (hv _ _ ih (hb.lt hz1) (s1 _ hz1 hz2)) (hw.lt hz1) (s2 _ hz1 hz2)
   ·exact ih
 exact (hcl 16 z (h.reach hz)).2
theorem bg.all (h:bg n b w) {x y:Nat} (hx:x<n) (hy:y<n):y∈ord b w x:=by
 obtain ⟨hb,hw,hr⟩:=id h
 have hn:=hb.1
 have h0:=h.ind
 have hx0:(ord b w x)=(ord b w x):=rfl
 have hfw:=UM hb hw hx
 have key: ∀z,z<n→(z∈ord b w x↔0∈ord b w x):=by
  refine h0 _ ?_ ?_ Iff.rfl
  ·intro z hz hS
   rw [←hS]
   exact ⟨L9 hb (S:=fun z=>z∈ord b w x) (fun z _ h=>(hfw z h).1) hz,fun h=>(hfw z h).1⟩
  ·intro z hz hS
   rw [←hS]
   exact ⟨L9 hw (S:=fun z=>z∈ord b w x) (fun z _ h=>(hfw z h).2) hz,fun h=>(hfw z h).2⟩
 have hxx:x∈ord b w x:=by
  obtain ⟨r,hr⟩:=(mF hb hw hx).pre
  rw [ord,hr]
  simp
 exact (key y hy).2 ((key x hx).1 hxx)
theorem kS (h:bg n b w) {x:Nat} (hx:x<n):(ord b w x).length=n:=by
 have h1:=mF h.1 h.2.1 hx
 have h2:=nodup_le h1.eu h1.lt
 have h3:=List.Nodup.length_le_of_subset (List.nodup_range (n:=n)) (l₂:=ord b w x) fun y hy=>h.all hx (List.mem_range.1 hy)
 rw [List.length_range] at h3
 have:(ord b w x).length≤n:=h2
 omega
theorem UN (h:bg n b w) {x:Nat} (hx:x<n):(ord b w x).Nodup:=(mF h.1 h.2.1 hx).eu
theorem zS (h:bg n b w) {x:Nat} (hx:x<n) {j:Nat} (hj:j<n):nl (ord b w x) j<n:=(mF h.1 h.2.1 hx).lt _ (eX (by have:=kS h hx;rw [ord] at this;omega))
def eG (l:List Nat):Nat→List Nat
 |0=>List.replicate 16 0
 |k+1=>(eG l k).set (nl l k) k
theorem qH {l:List Nat} {k:Nat}:(eG l k).length=16:=by
 induction k with
 |zero=>simp [eG]
 |succ k ih=>simp [eG,ih]
theorem Ui {l:List Nat} {k i:Nat}:nl (eG l k) i≤k:=by
 induction k generalizing i with
 |zero=>simp only [eG,jD];split<;>omega
 |succ k ih=>
  rw [eG,fQ]
  split
  ·omega
  ·have:= @ih i;omega
theorem Mc {l:List Nat} (hd:l.Nodup) (hl: ∀x∈l,x<16): ∀{k j:Nat},k≤l.length→j<k→nl (eG l k) (nl l j)=j
 |0,j,_,h=>by omega
 |k+1,j,hk,hj=>by
  rw [eG,fQ,qH]
  by_cases e:j=k
  ·subst e
   rw [if_pos ⟨rfl,hl _ (eX (by omega))⟩]
  ·rw [if_neg (fun h=>e (yU hd (by omega) (by omega) h.1)),Mc hd hl (by omega) (by omega)]
def dJ (b w:List Nat) (x:Nat):List Nat:=eG (ord b w x) (ord b w x).length
theorem Ah (h:bg n b w) {x:Nat} (hx:x<n) {j:Nat} (hj:j<n):nl (dJ b w x) (nl (ord b w x) j)=j:=by
 have hn:=h.1.1
 have hl:=kS h hx
 exact Mc (UN h hx) (fun y hy=>by have:=(mF h.1 h.2.1 hx).lt y hy;omega) (Nat.le_refl _) (by omega)
theorem kV (h:bg n b w) {x:Nat} (hx:x<n) {y:Nat} (hy:y<n):nl (ord b w x) (nl (dJ b w x) y)=y∧nl (dJ b w x) y<n:=by
 obtain ⟨j,hj,rfl⟩:=jP (h.all hx hy)
 rw [kS h hx] at hj
 rw [Ah h hx hj]
 exact ⟨rfl,hj⟩
def dN (p nm:List Nat):Nat→List Nat
 |0=>List.replicate 16 0
 |k+1=>(dN p nm k).set (nl nm k) (nl nm (nl p k))
theorem jQ {p nm:List Nat} {k:Nat}:(dN p nm k).length=16:=by
 induction k with
 |zero=>simp [dN]
 |succ k ih=>simp [dN,ih]
theorem Ai {p nm:List Nat} (hd: ∀i j,i<n→j<n→nl nm i=nl nm j→i=j) (hl: ∀i,i<n→nl nm i<16): ∀{k j:Nat},k≤n→j<k→nl (dN p nm k) (nl nm j)=nl nm (nl p j)
 |0,j,_,h=>by omega
 |k+1,j,hk,hj=>by
  rw [dN,fQ,jQ]
  by_cases e:j=k
  ·subst e
   rw [if_pos ⟨rfl,hl _ (by omega)⟩]
  ·rw [if_neg (fun h=>e (hd _ _ (by omega) (by omega) h.1)),Ai hd hl (by omega) (by omega)]
theorem Aj {p nm:List Nat} {m i:Nat} (hl: ∀i,i<n→nl nm i<m) (hi:m≤i): ∀{k:Nat},k≤n→nl (dN p nm k) i=0
 |0,_=>by simp only [dN,jD];split<;>rfl
 |k+1,hk=>by
  have:=hl k (by omega)
  rw [dN,fQ,if_neg (by omega),Aj hl hi (by omega)]
def dB (b w:List Nat) (n x:Nat):List Nat×List Nat:=(dN b (dJ b w x) n,dN w (dJ b w x) n)
theorem Md (h:bg n b w) {x:Nat} (hx:x<n): ∀i j,i<n→j<n→nl (dJ b w x) i=nl (dJ b w x) j→i=j:=fun i j hi hj he=>by
 have h1:=(kV h hx hi).1
 rw [he,(kV h hx hj).1] at h1
 exact h1.symm
theorem Me (h:bg n b w) {x:Nat} (hx:x<n) {y:Nat} (hy:y<n):nl (dB b w n x).1 (nl (dJ b w x) y)=nl (dJ b w x) (nl b y):=
 Ai (Md h hx) (fun i hi=>by have:=(kV h hx hi).2;have:=h.1.1;omega) (Nat.le_refl _) hy
theorem MB (h:bg n b w) {x:Nat} (hx:x<n) {y:Nat} (hy:y<n):nl (dB b w n x).2 (nl (dJ b w x) y)=nl (dJ b w x) (nl w y):=
 Ai (Md h hx) (fun i hi=>by have:=(kV h hx hi).2;have:=h.1.1;omega) (Nat.le_refl _) hy
end
section
variable {b w b' w':List Nat} {n:Nat}
structure nU (n:Nat) (b w b' w':List Nat) (φ:Nat→Nat):Prop where
 lt: ∀y,y<n→φ y<n
 inj: ∀y z,y<n→z<n→φ y=φ z→y=z
 b: ∀y,y<n→nl b' (φ y)=φ (nl b y)
 w: ∀y,y<n→nl w' (φ y)=φ (nl w y)
structure qQ (n:Nat) (φ:Nat→Nat) (st st':BS):Prop where
 ord:st'.2=st.2.map φ
 lt: ∀y∈st.2,y<n
 met: ∀y,y<n→bl st'.1 (φ y)=bl st.1 y
 len:st.1.length=16∧st'.1.length=16
theorem qQ.visit {φ:Nat→Nat} {st st':BS} {y:Nat} (hn:n≤16) (hl: ∀y,y<n→φ y<n) (hinj: ∀y z,y<n→z<n→φ y=φ z→y=z) (h:qQ n φ st st') (hy:y<n):qQ n φ (Bm.visit st y) (Bm.visit st' (φ y)):=by
 unfold Bm.visit
 rw [h.met y hy]
 by_cases hb:bl st.1 y=true
 ·rw [if_pos hb,if_pos hb];exact h
 ·rw [if_neg hb,if_neg hb]
  refine ⟨by simp [h.ord],fun z hz=>?_,fun z hz=>?_,by simpa using h.len⟩
  ·rcases List.mem_append.1 hz with k|k
   ·exact h.lt z k
   ·rw [List.mem_singleton] at k;omega
  ·show bl (st'.1.set (φ y) true) (φ z)=bl (st.1.set y true) z
   have:=hl y hy
   rw [jM,jM,h.len.1,h.len.2,h.met z hz]
   by_cases e:z=y
   ·subst e;rw [if_pos ⟨rfl,by omega⟩,if_pos ⟨rfl,by omega⟩]
   ·rw [if_neg (fun k=>e (hinj _ _ hz hy k.1)),if_neg (fun k=>e k.1)]
theorem MC {φ:Nat→Nat} {l:List Nat} {i:Nat} (h:i<l.length):nl (l.map φ) i=φ (nl l i):=by simp [nl,List.getD,h]
theorem nU.ord {φ:Nat→Nat} (hn:n≤16) (hb:Perm b n) (hw:Perm w n) (h:nU n b w b' w' φ) {x:Nat} (hx:x<n):Bm.ord b' w' (φ x)=(Bm.ord b w x).map φ:=by
 have key: ∀i,qQ n φ (aJ [b,w] (stA x) i) (aJ [b',w'] (stA (φ x)) i):=by
  intro i
  induction i with
  |zero=>
   refine ⟨rfl,fun y hy=>?_,fun y hy=>?_,by simp [aJ,stA,nR]⟩
   ·have:y=x:=by simpa [aJ,stA] using hy
    omega
   ·show bl (jH.set (φ x) true) (φ y)=bl (jH.set x true) y
    have:=h.lt x hx
    rw [jM,jM,nR,vX,vX]
    by_cases e:y=x
    ·subst e;rw [if_pos ⟨rfl,by omega⟩,if_pos ⟨rfl,by omega⟩]
    ·rw [if_neg (fun k=>e (h.inj _ _ hy hx k.1)),if_neg (fun k=>e k.1)]
  |succ i ih=>
   simp only [aJ]
   generalize aJ [b,w] (stA x) i=st at ih⊢
   generalize aJ [b',w'] (stA (φ x)) i=st' at ih⊢
   have hle:st'.2.length=st.2.length:=by rw [ih.ord,List.length_map]
   rw [hle]
   by_cases hi:i<st.2.length
   ·rw [if_pos hi,if_pos hi]
    have e:nl st'.2 i=φ (nl st.2 i):=by rw [ih.ord,MC hi]
    rw [e]
    generalize hz:nl st.2 i=z
    have hz1:z<n:=by rw [←hz];exact ih.lt _ (eX hi)
    show qQ n φ (Bm.visit (Bm.visit st (nl b z)) (nl w z)) (Bm.visit (Bm.visit st' (nl b' (φ z))) (nl w' (φ z)))
    rw [h.b z hz1,h.w z hz1]
    exact (ih.visit hn h.lt h.inj (hb.lt hz1)).visit hn h.lt h.inj (hw.lt hz1)
   ·rw [if_neg hi,if_neg hi]
    exact ih
 exact (key 16).ord
theorem nU.dJ {φ:Nat→Nat} (hd:bg n b w) (hd':bg n b' w') (h:nU n b w b' w' φ) {x:Nat} (hx:x<n) {y:Nat} (hy:y<n):nl (Bm.dJ b' w' (φ x)) (φ y)=nl (Bm.dJ b w x) y:=by
 have hn:=hd.1.1
 obtain ⟨h1,h2⟩:=kV hd hx hy
 have h3:=h.ord (by omega) hd.1 hd.2.1 hx
 have h4:=Ah hd' (h.lt x hx) h2
 rw [h3,MC (by rw [kS hd hx];exact h2),h1] at h4
 exact h4
theorem nU.dB {φ:Nat→Nat} (hd:bg n b w) (hd':bg n b' w') (h:nU n b w b' w' φ) {x:Nat} (hx:x<n):Bm.dB b' w' n (φ x)=Bm.dB b w n x:=by
 have hn:=hd.1.1
 have hx':=h.lt x hx
 have hz: ∀{b w:List Nat},bg n b w→ ∀{x},x<n→ ∀i,n≤i→nl (Bm.dB b w n x).1 i=0∧nl (Bm.dB b w n x).2 i=0:=fun hd x hx i hi=>
  ⟨Aj (n:=n) (m:=n) (fun i hi=>(kV hd hx hi).2) hi (Nat.le_refl _),Aj (n:=n) (m:=n) (fun i hi=>(kV hd hx hi).2) hi (Nat.le_refl _)⟩
 have key: ∀i,i<16→nl (Bm.dB b' w' n (φ x)).1 i=nl (Bm.dB b w n x).1 i∧nl (Bm.dB b' w' n (φ x)).2 i=nl (Bm.dB b w n x).2 i:=by
  intro i _
  rcases Nat.lt_or_ge i n with hi|hi
  ·have hy:=zS hd hx hi
   have e:=Ah hd hx hi
   generalize jl:nl (Bm.ord b w x) i=y at hy e
   have e':=h.dJ hd hd' hx hy
   rw [e] at e'
   have f1:=Me hd' hx' (h.lt y hy)
   have f2:=MB hd' hx' (h.lt y hy)
   have g1:=Me hd hx hy
   have g2:=MB hd hx hy
   rw [e',h.b y hy,h.dJ hd hd' hx (hd.1.lt hy)] at f1
   rw [e',h.w y hy,h.dJ hd hd' hx (hd.2.1.lt hy)] at f2
   rw [e] at g1 g2
   rw [f1,f2,g1,g2]
   exact ⟨rfl,rfl⟩
  ·obtain ⟨h1,h2⟩:=hz hd hx i hi
   obtain ⟨h3,h4⟩:=hz hd' hx' i hi
   rw [h1,h2,h3,h4]
   exact ⟨rfl,rfl⟩
 refine Prod.ext ?_ ?_
 ·exact lM (by simp only [Bm.dB,jQ]) fun i hi=>(key i (by simpa only [Bm.dB,jQ] using hi)).1
 ·exact lM (by simp only [Bm.dB,jQ]) fun i hi=>(key i (by simpa only [Bm.dB,jQ] using hi)).2
end
abbrev L2:=List Nat×List Nat
def bG (x y:L2):Prop:=x.1<y.1∨(x.1=y.1∧x.2<y.2)
instance (x y:L2):Decidable (bG x y):=by unfold bG;infer_instance
theorem vU (x:L2): ¬bG x x:=fun h=>by
 rcases h with h|h
 ·exact List.lt_irrefl _ h
 ·exact List.lt_irrefl _ h.2
theorem lt2_trans {x y z:L2} (h:bG x y) (k:bG y z):bG x z:=by
 rcases h with h|⟨h1,h2⟩<;>rcases k with k|⟨k1,k2⟩
 ·exact .inl (List.lt_trans h k)
 ·exact .inl (k1▸h)
 ·exact .inl (h1▸k)
 ·exact .inr ⟨h1.trans k1,List.lt_trans h2 k2⟩
theorem KA {x y:L2} (h: ¬bG x y) (k: ¬bG y x):x=y:=by
 have e1:x.1=y.1:=List.le_antisymm (List.not_lt.1 fun e=>k (.inl e)) (List.not_lt.1 fun e=>h (.inl e))
 exact Prod.ext e1 (List.le_antisymm (List.not_lt.1 fun e=>k (.inr ⟨e1.symm,e⟩)) (List.not_lt.1 fun e=>h (.inr ⟨e1,e⟩)))
def iF (b w:List Nat) (n:Nat):Nat→L2
 |0=>dB b w n 0
 |k+1=>if bG (dB b w n (k+1)) (iF b w n k) then dB b w n (k+1) else iF b w n k
def fB (b w:List Nat) (n:Nat):L2:=iF b w n (n-1)
section
variable {b w b' w':List Nat} {n:Nat}
theorem KZ: ∀{k:Nat},∃x,x≤k∧iF b w n k=dB b w n x
 |0=>⟨0,Nat.le_refl _,rfl⟩
 |k+1=>by
  obtain ⟨x,hx,h⟩:= @KZ k
  simp only [iF]
  split
  ·exact ⟨k+1,Nat.le_refl _,rfl⟩
  ·exact ⟨x,by omega,h⟩
end
end Go.Bm
namespace Go.Bm
open Go Go.Am
section
variable {p b w:List Nat} {n:Nat}
theorem Perm.Ak (hp:Perm p n) {y:Nat} (hy:y<n): ∃x,x<n∧nl p x=y:=by
 obtain ⟨c,hc,UO⟩:=yV hp hy
 have hi:=vM hp hc
 obtain ⟨j,hj,rfl⟩:=jP UO
 by_cases e:j=0
 ·subst e
  exact ⟨_,hi.lt _ (eX (by omega)),hi.last⟩
 ·have:=hi.step (j-1) (by omega)
  rw [show j-1+1=j by omega] at this
  exact ⟨_,hi.lt _ (eX (by omega)),this⟩
theorem Ap (hp:Perm p n): ∀{k i:Nat},k≤n→i<k→nl (ji p k) (nl p i)=i
 |0,_,_,h=>by omega
 |k+1,i,hk,hi=>by
  have hn:=hp.1
  rw [ji,fQ,Rf]
  by_cases e:i=k
  ·subst e
   rw [if_pos ⟨rfl,by have:=hp.lt (show i<n by omega);omega⟩]
  ·rw [if_neg (fun h=>e (hp.inj (by omega) (by omega) h.1)),Ap hp (by omega) (by omega)]
theorem MF (hp:Perm p n) {i:Nat} (hi:n≤i): ∀{k:Nat},k≤n→nl (ji p k) i=0
 |0,_=>by simp only [ji,jD];split<;>rfl
 |k+1,hk=>by
  have:=hp.lt (show k<n by omega)
  rw [ji,fQ,if_neg (by omega),MF hp hi (by omega)]
theorem Perm.back (hp:Perm p n):Perm (ji p n) n:=by
 refine ⟨hp.1,fun i _=>⟨fun h=>MF hp (by omega) (Nat.le_refl _),fun h=>?_⟩⟩
 obtain ⟨x,hx,rfl⟩:=hp.Ak (show i<n by omega)
 rw [Ap hp (Nat.le_refl _) hx]
 refine ⟨by omega,fun j hj=>?_⟩
 obtain ⟨y,hy,rfl⟩:=hp.Ak (show j<n by omega)
 rw [Ap hp (Nat.le_refl _) hy]
 intro e
 subst e
 omega
end
end Go.Bm
namespace Go.Bm
open Go Go.Am
def gU:Nat→List Nat
 |0=>dL
 |i+1=>(gU i).set i i
theorem LJ {i:Nat}:nl dL i=0:=by rw [dL,jD];split<;>rfl
theorem vP {k:Nat}:(gU k).length=16:=by
 induction k with
 |zero=>exact fU
 |succ k ih=>rw [gU,List.length_set,ih]
theorem wJ {k i:Nat} (hk:k≤16):nl (gU k) i=if i<k then i else 0:=by
 induction k with
 |zero=>rw [gU,LJ,if_neg (by omega)]
 |succ k ih=>
  rw [gU,fQ,ih (by omega),vP]
  by_cases e:i=k
  ·subst e;rw [if_pos ⟨rfl,by omega⟩,if_pos (by omega)]
  ·rw [if_neg (by omega)]
   by_cases h:i<k
   ·rw [if_pos h,if_pos (by omega)]
   ·rw [if_neg h,if_neg (by omega)]
theorem Perm.of {p:List Nat} {n:Nat} (hn:1≤n∧n≤16) (h0: ∀i,n≤i→i<16→nl p i=0) (h1: ∀i,i<n→nl p i<n) (h2: ∀i j,i<n→j<i→nl p j≠nl p i):Perm p n:=
 ⟨by omega,fun i hi=>⟨fun h=>h0 i (by omega) hi,fun h=>⟨by have:=h1 i (by omega);omega,fun j hj=>h2 i j (by omega) hj⟩⟩⟩
theorem Perm.zero {p:List Nat} {n:Nat} (h:Perm p n) {i:Nat} (h1:n≤i) (h2:i<16):nl p i=0:=(h.2 i h2).1 (by omega)
theorem J5 {n:Nat} (hn:1≤n∧n≤16):Perm (gU n) n:= .of hn
 (fun i h1 h2=>by rw [wJ hn.2,if_neg (by omega)]) (fun i h=>by rw [wJ hn.2,if_pos h];exact h)
 (fun i j h1 h2=>by rw [wJ hn.2,wJ hn.2,if_pos h1,if_pos (by omega)];omega)
theorem mod_one {n i:Nat} (h:i<n):(i+1)%n=if i+1=n then 0 else i+1:=by
 split
 ·rename_i e;rw [e,Nat.mod_self]
 ·exact Nat.mod_eq_of_lt (by omega)
theorem Perm.swap {p:List Nat} {n:Nat} (h:Perm p n) (hl:p.length=16) {i k:Nat} (hi:i<n) (hk:k<n):Perm ((p.set i (nl p k)).set k (nl p i)) n:=by
 have hn:=h.1
 have e: ∀j,nl ((p.set i (nl p k)).set k (nl p i)) j=if j=k then nl p i else if j=i then nl p k else nl p j:=fun j=>by
  rw [fQ,fQ,List.length_set,hl]
  by_cases e1:j=k
  ·rw [if_pos ⟨e1,by omega⟩,if_pos e1]
  ·rw [if_neg (by omega),if_neg e1]
   by_cases e2:j=i
   ·rw [if_pos ⟨e2,by omega⟩,if_pos e2]
   ·rw [if_neg (by omega),if_neg e2]
 refine .of (by omega) (fun j h1 h2=>?_) (fun j hj=>?_) (fun j j' hj hj'=>?_)
 ·rw [e,if_neg (by omega),if_neg (by omega)];exact h.zero h1 h2
 ·rw [e];split
  ·exact h.lt hi
  ·split
   ·exact h.lt hk
   ·exact h.lt hj
 ·rw [e,e]
  intro he
  have key: ∀a b,a<n→b<n→nl p a=nl p b→a=b:=fun a b ha hb hab=>h.inj ha hb hab
  split at he<;>split at he<;>(try split at he)<;>(try split at he)
  all_goals first
   |(have:=key _ _ (by omega) (by omega) he;omega)
theorem SB {x:Bool} {n:Int} {H:BH} {K:Value→BH→Prop} (hn:n≤16) (hK:K (PL (gU n.toNat)) H):aA x NZ [I n] H K:=by
 have hz:=fU
 refine cO (by simp only [RH]) ?_
 refine aZ OE ?_;simp only [fD,aB]
 refine eY ?_
 refine eY ?_
 refine eY ?_
 refine bH (fun m f H'=> ∃k:Nat,k≤n.toNat∧m=n.toNat-k∧f 0=I n∧f 2=P 0 0∧f 3=P 1 0∧f 4=I k∧H'=[some (List.replicate 16 (.int .u8 0)),some ((gU k).map N8)]) (n.toNat) ?_ ?_
 ·exact ⟨_,_,Gh.refl,0,by omega,by omega,aj,aj,aj,aj,rfl⟩
 ·rintro m f H' R ⟨k,hk,rfl,g0,g2,g3,g4,rfl⟩ hN hX hR hE
  simp only [fD.l0,aB]
  have hlk:= @vP k
  refine dK (iM @g0 @g4) ?_
  refine iL ((k:Int)<n) (fun hc=>?_) fun hc=>?_
  ·have WH:k<16:=by omega
   refine lG ?_
   refine dK (uP @g3 @g4 @hlk) ?_
   refine mZ @g4 ?_
   exact hN (n.toNat-(k+1)) _ _ _ _ (by omega) Gh.refl ⟨k+1,by omega,rfl,aj,aj,aj,aj,rfl⟩
  ·refine hX _ _ ?_
   obtain rfl:k=n.toNat:=by omega
   refine dK (uP @g2 @g3 @hlk) ?_
   refine yA (iM @g2 @hlk) ?_
   exact ⟨gu (by (simp only [RH])),hK⟩
section
variable {code:List Nat} {a:Nat} {h:Int}
end
end Go.Bm
set_option linter.unusedSectionVars false
namespace Go.Bm
open Go Go.Am
def pad (pre:List Nat):List Nat:=pre++List.replicate (16-pre.length) 0
def lv (n:Nat):Nat→List Nat→List (List Nat)
 |0,pre=>[pad pre]
 |m+1,pre=>(List.range n).flatMap fun x=>if x∈pre then [] else lv n m (pre++[x])
def iT (p:List Nat) (k i:Nat):List Nat:=(p.set k (nl p i)).set i (nl p k)
def sw (n:Nat):Nat→List Nat→Nat→List (List Nat)
 |0,p,k=>[p]
 |m+1,p,k=>(List.range m.succ).flatMap fun d=>sw n m (iT p k (k+d)) (k+1)
def PQ (n:Nat) (q:List Nat):Prop:=Perm q n∧q.length=16
theorem zJ {pre:List Nat} (h:pre.length≤16):(pad pre).length=16:=by simp [pad];omega
theorem nP {pre:List Nat} {i:Nat}:nl (pad pre) i=if i<pre.length then nl pre i else 0:=by
 rw [pad,jE]
 split
 ·rfl
 ·rw [jD];split<;>rfl
theorem Aq {α β:Type} {f:α→List β}: ∀{l:List α},l.Nodup→(∀a∈l,(f a).Nodup)→(∀a∈l,∀b∈l,a≠b→ ∀y∈f a,y∉f b)→(l.flatMap f).Nodup
 |[],_,_,_=>by simp
 |a::l,hn,h1,h2=>by
  rw [List.flatMap_cons,List.nodup_append]
  rw [List.nodup_cons] at hn
  refine ⟨h1 a (by simp),Aq hn.2 (fun b hb=>h1 b (by simp [hb])) fun b hb c hc=>h2 b (by simp [hb]) c (by simp [hc]),fun x hx y hy e=>?_⟩
  subst e
  obtain ⟨b,hb,hxb⟩:=List.mem_flatMap.1 hy
  exact h2 a (by simp) b (by simp [hb]) (fun e=>hn.1 (e▸hb)) x hx hxb
section
variable {n:Nat}
structure kU (n:Nat) (pre:List Nat):Prop where
 eu:pre.Nodup
 lt: ∀x∈pre,x<n
 len:pre.length≤n
theorem l9 (hn:1≤n∧n≤16): ∀(m:Nat) {pre:List Nat},kU n pre→pre.length+m=n→ ∀q,q∈lv n m pre↔PQ n q∧q.take pre.length=pre
 |0,pre,h,hm,q=>by
  rw [lv,List.mem_singleton]
  have hl:pre.length=n:=by omega
  constructor
  ·rintro rfl
   refine ⟨⟨.of hn (fun i h1 h2=>by rw [nP,if_neg (by omega)]) (fun i hi=>?_) (fun i j hi hj e=>?_),zJ (by omega)⟩,?_⟩
   ·rw [nP,if_pos (by omega)]
    exact h.lt _ (eX (by omega))
   ·rw [nP,nP,if_pos (by omega),if_pos (by omega)] at e
    have:=yU h.eu (by omega) (by omega) e
    omega
   ·rw [pad,List.take_left]
  ·rintro ⟨⟨hp,gQ⟩,ht⟩
   refine lM (by rw [gQ,zJ (by omega)]) fun i hi=>?_
   rw [nP]
   by_cases hin:i<pre.length
   ·rw [if_pos hin,←ht]
    simp [nl,List.getD,List.getElem?_take,hin]
   ·rw [if_neg hin]
    exact hp.zero (by omega) (by omega)
 |m+1,pre,h,hm,q=>by
  rw [lv,List.mem_flatMap]
  constructor
  ·rintro ⟨x,hx,hq⟩
   split at hq
   ·simp at hq
   ·rename_i hxp
    have h':kU n (pre++[x]):=⟨by
     rw [List.nodup_append]
     exact ⟨h.eu,by simp,fun a ha b hb e=>by rw [List.mem_singleton] at hb;subst hb;subst e;exact hxp ha⟩,fun y hy=>by
     rcases List.mem_append.1 hy with hy|hy
     ·exact h.lt y hy
     ·rw [List.mem_singleton] at hy;subst hy;exact List.mem_range.1 hx,by simp;omega⟩
    obtain ⟨h1,h2⟩:=(l9 hn m h' (by simp;omega) q).1 hq
    refine ⟨h1,?_⟩
    have:=congrArg (List.take pre.length) h2
    rwa [List.take_take,List.take_left,List.length_append,Nat.min_eq_left (by omega)] at this
  ·rintro ⟨⟨hp,gQ⟩,ht⟩
   have hin:pre.length<n:=by omega
   have hxn:=hp.lt hin
   have hnot:nl q pre.length∉pre:=fun hmem=>by
    obtain ⟨j,hj,he⟩:=jP hmem
    have:nl q j=nl pre j:=by
     rw [←ht]
     simp [nl,List.getD,List.getElem?_take,hj]
    have:=hp.inj (by omega) hin (this.trans he)
    omega
   refine ⟨nl q pre.length,List.mem_range.2 hxn,?_⟩
   rw [if_neg hnot]
   have h':kU n (pre++[nl q pre.length]):=⟨by
     rw [List.nodup_append]
     exact ⟨h.eu,by simp,fun a ha b hb e=>by rw [List.mem_singleton] at hb;subst hb;subst e;exact hnot ha⟩,fun y hy=>by
     rcases List.mem_append.1 hy with hy|hy
     ·exact h.lt y hy
     ·rw [List.mem_singleton] at hy;subst hy;exact hxn,by simp;omega⟩
   refine (l9 hn m h' (by simp;omega) q).2 ⟨⟨hp,gQ⟩,?_⟩
   rw [List.length_append,List.length_singleton,List.take_add_one,ht]
   congr 1
   simp [nl,List.getD,show pre.length<q.length by omega]
theorem MG (hn:1≤n∧n≤16): ∀(m:Nat) {pre:List Nat},kU n pre→pre.length+m=n→(lv n m pre).Nodup
 |0,pre,_,_=>by simp [lv]
 |m+1,pre,h,hm=>by
  have h': ∀x,x<n→x∉pre→kU n (pre++[x]):=fun x hx hxp=>⟨by
     rw [List.nodup_append]
     exact ⟨h.eu,by simp,fun a ha b hb e=>by rw [List.mem_singleton] at hb;subst hb;subst e;exact hxp ha⟩,fun y hy=>by
     rcases List.mem_append.1 hy with hy|hy
     ·exact h.lt y hy
     ·rw [List.mem_singleton] at hy;subst hy;exact hx,by simp;omega⟩
  refine Aq List.nodup_range (fun x hx=>?_) fun x hx y hy hxy q hq hq'=>?_
  ·split
   ·exact List.nodup_nil
   ·rename_i hxp
    exact MG hn m (h' x (List.mem_range.1 hx) hxp) (by simp;omega)
  ·split at hq
   ·simp at hq
   ·rename_i hxp
    split at hq'
    ·simp at hq'
    ·rename_i hyp
     have h1:=((l9 hn m (h' x (List.mem_range.1 hx) hxp) (by simp;omega) q).1 hq).2
     have h2:=((l9 hn m (h' y (List.mem_range.1 hy) hyp) (by simp;omega) q).1 hq').2
     rw [List.length_append,List.length_singleton] at h1 h2
     rw [h1] at h2
     have:=List.append_cancel_left h2
     simp at this
     exact hxy this
theorem Ar {p:List Nat} {k i j:Nat} (hl:p.length=16) (hk:k<16) (hi:i<16):nl (iT p k i) j=if j=i then nl p k else if j=k then nl p i else nl p j:=by
 rw [iT,fQ,fQ,List.length_set,hl]
 by_cases e1:j=i
 ·rw [if_pos ⟨e1,by omega⟩,if_pos e1]
 ·rw [if_neg (by omega),if_neg e1]
  by_cases e2:j=k
  ·rw [if_pos ⟨e2,by omega⟩,if_pos e2]
  ·rw [if_neg (by omega),if_neg e2]
theorem vV {p:List Nat} {k i:Nat} (h:PQ n p) (hk:k<n) (hi:i<n):PQ n (iT p k i):=⟨h.1.swap h.2 hk hi,by rw [iT,List.length_set,List.length_set,h.2]⟩
theorem qR: ∀(m:Nat) {p:List Nat} {k:Nat},PQ n p→k+m=n→ ∀q,q∈sw n m p k↔PQ n q∧ ∀j,j<k→nl q j=nl p j
 |0,p,k,h,hm,q=>by
  rw [sw,List.mem_singleton]
  constructor
  ·rintro rfl
   exact ⟨h,fun _ _=>rfl⟩
  ·rintro ⟨hq,he⟩
   refine lM (by rw [hq.2,h.2]) fun i hi=>?_
   rcases Nat.lt_or_ge i k with h1|h1
   ·exact he i h1
   ·rw [hq.1.zero (by omega) (by have:=hq.2;omega),h.1.zero (by omega) (by have:=hq.2;omega)]
 |m+1,p,k,h,hm,q=>by
  have hn:=h.1.1
  have hl:=h.2
  rw [sw,List.mem_flatMap]
  constructor
  ·rintro ⟨d,hd,hq⟩
   have hd':d<m+1:=List.mem_range.1 hd
   obtain ⟨h1,h2⟩:=(qR m (vV h (show k<n by omega) (show k+d<n by omega)) (by omega) q).1 hq
   refine ⟨h1,fun j hj=>?_⟩
   rw [h2 j (by omega),Ar hl (by omega) (by omega),if_neg (by omega),if_neg (by omega)]
  ·rintro ⟨hq,he⟩
   obtain ⟨i,hi,hie⟩:=h.1.Ak (hq.1.lt (show k<n by omega))
   have hki:k≤i:=by
    rcases Nat.lt_or_ge i k with h1|h1
    ·have:=hq.1.inj (show i<n by omega) (show k<n by omega) ((he i h1).trans hie)
     omega
    ·exact h1
   refine ⟨i-k,List.mem_range.2 (by omega),?_⟩
   rw [show k+(i-k)=i by omega]
   refine (qR m (vV h (by omega) hi) (by omega) q).2 ⟨hq,fun j hj=>?_⟩
   rw [Ar hl (by omega) (by omega)]
   by_cases e1:j=k
   ·subst e1
    by_cases e2:j=i
    ·rw [if_pos e2,←hie,e2]
    ·rw [if_neg e2,if_pos rfl,hie]
   ·rw [if_neg (by omega),if_neg e1]
    exact he j (by omega)
theorem MH: ∀(m:Nat) {p:List Nat} {k:Nat},PQ n p→k+m=n→(sw n m p k).Nodup
 |0,p,k,_,_=>by simp [sw]
 |m+1,p,k,h,hm=>by
  have hn:=h.1.1
  have hl:=h.2
  have hs: ∀d,d<m+1→PQ n (iT p k (k+d)):=fun d hd=>vV h (by omega) (by omega)
  refine Aq List.nodup_range (fun d hd=>MH m (hs d (List.mem_range.1 hd)) (by omega)) fun d hd e he hde q hq hq'=>?_
  rw [List.mem_range] at hd he
  have h1:=((qR m (hs d hd) (by omega) q).1 hq).2 k (by omega)
  have h2:=((qR m (hs e he) (by omega) q).1 hq').2 k (by omega)
  have key: ∀d,d<m+1→nl (iT p k (k+d)) k=nl p (k+d):=fun d hd=>by
   rw [Ar hl (by omega) (by omega)]
   by_cases e:k=k+d
   ·rw [if_pos e,←e]
   ·rw [if_neg e,if_pos rfl]
  rw [key d hd] at h1
  rw [key e he] at h2
  have:=h.1.inj (show k+d<n by omega) (show k+e<n by omega) (h1.symm.trans h2)
  omega
theorem Sj (hn:1≤n∧n≤16):(lv n n []).Perm (sw n n (gU n) 0):=by
 have hid:PQ n (gU n):=⟨J5 hn,vP⟩
 refine (List.perm_ext_iff_of_nodup (MG hn n ⟨by simp,by simp,by simp⟩ (by simp)) (MH n hid (by omega))).2 fun q=>?_
 rw [l9 hn n ⟨by simp,by simp,by simp⟩ (by simp),qR n hid (by omega)]
 simp
end
end Go.Bm
namespace Go.Bm
open Go Go.Am
def gX (g:Value→Value) (H:BH):BH:=H.map (Option.map (List.map g))
theorem LC {g:Value→Value} {H:BH} {j:Nat} {cs:List Value} (h:blk (gX g H) j=some cs): ∃cs0,blk H j=some cs0∧cs=cs0.map g:=by
 unfold blk gX at h
 rw [List.getElem?_map] at h
 unfold blk
 cases h1:H[j]? with
 |none=>rw [h1] at h;cases h
 |some o=>
  rw [h1] at h
  cases o with
  |none=>cases h
  |some cs0=>exact ⟨cs0,rfl,by simpa using h.symm⟩
theorem Gh.wB {k:Nat} {f:Fr} {H:BH} {i:Nat} {cs:List Value} (hc:blk H i=some cs) (hn:aF cs):Gh k f H (fun t=>frz i cs (f t)) ((gX (frz i cs) H).set i none):=
 ⟨fun h=>by simpa [gX] using h,fun ρ Z fA HA h1 h2=>by
  obtain ⟨Z',h3,h4,h5⟩:=qg h2 hc hn
  have hi:=qj hc
  have hset: ∀j cs',blk ((gX (frz i cs) H).set i none) j=some cs'→j≠i∧ ∃cs0,blk H j=some cs0∧cs'=cs0.map (frz i cs):=fun j cs' h=>by
   rw [kK (by simpa [gX] using hi)] at h
   split at h
   ·cases h
   ·rename_i hne
    exact ⟨hne,LC h⟩
  have hold: ∀j cs0,j≠i→blk H j=some cs0→blk (H.set i none) j=some cs0:=fun j cs0 hne h=>by rw [kK hi,if_neg hne];exact h
  refine ⟨ρ,Z',fun t=>h5 _ _ (h1 t),⟨fun j cs' h=>?_,fun j j' c1 c2 b e1 e2 e3 e4=>?_,fun j cs' b e1 e2=>?_,h3.dG,fun j hj=>h2.top j (by simpa [gX] using hj)⟩,fun _ _=>rfl,⟨h4.n,h4.keep,fun j cs' b e1 e2=>?_,h4.zx,h4.zn⟩⟩
  ·obtain ⟨hne,cs0,g1,rfl⟩:=hset j cs' h
   obtain ⟨b,bk,k1,k2,k3,k4,k5⟩:=h2.bD j cs0 g1
   refine ⟨b,bk,k1,k2,k3,k4,by simpa using k5.1,fun q c d q1 q2=>?_⟩
   rw [List.getElem?_map] at q1
   obtain ⟨p,hp,rfl⟩:=map_inj q1
   exact h5 _ _ (k5.2 q p d hp q2)
  ·obtain ⟨n1,x1,g1,_⟩:=hset j c1 e1
   obtain ⟨n2,x2,g2,_⟩:=hset j' c2 e2
   exact h2.inj j j' x1 x2 b g1 g2 e3 e4
  ·obtain ⟨n1,x1,g1,_⟩:=hset j cs' e1
   exact h3.cZ j x1 b (hold j x1 n1 g1) e2
  ·obtain ⟨n1,x1,g1,_⟩:=hset j cs' e1
   exact h4.own j x1 b (hold j x1 n1 g1) e2⟩
end Go.Bm
namespace Go.Bm
open Go Go.Am
def aH:Nat→Nat→Nat→List (List Nat)
 |0,_,_=>[[]]
 |k+1,n,m=>if n=0 then [[]] else (List.range (min n m)).flatMap fun i=>(aH k (n-(i+1)) (i+1)).map fun r=>(i+1)::r
def eH (k n i:Nat):List (List Nat):=(List.range i).flatMap fun i=>(aH k (n-(i+1)) (i+1)).map fun r=>(i+1)::r
theorem qM {k n i:Nat}:eH k n (i+1)=eH k n i++(aH k (n-(i+1)) (i+1)).map fun r=>(i+1)::r:=by
 simp [eH,List.range_succ]
theorem mD {k n i:Nat}: ∀{j:Nat},i≤j→(eH k n i).length≤(eH k n j).length
 |0,h=>by
  obtain rfl:i=0:=by omega
  exact Nat.le_refl _
 |j+1,h=>by
  by_cases e:i=j+1
  ·rw [e];exact Nat.le_refl _
  ·have:=mD (k:=k) (n:=n) (i:=i) (j:=j) (by omega)
   rw [qM,List.length_append]
   omega
theorem qL {k n m:Nat} (h:n≠0):aH (k+1) n m=eH k n (min n m):=by
 rw [aH,if_neg h]
 rfl
theorem MI: ∀{k n m:Nat},n≤k→aH k n m=aH (k+1) n m
 |0,n,m,h=>by
  obtain rfl:n=0:=by omega
  rfl
 |k+1,n,m,h=>by
  by_cases e:n=0
  ·simp [aH,e]
  ·rw [qL e,qL e,eH,eH]
   congr 1
   funext i
   rw [MI (k:=k) (by omega)]
theorem UQ {k n m:Nat} (h:n≤k) (hk:k≤16):aH k n m=aH 16 n m:=by
 have key: ∀d,k+d≤16→aH k n m=aH (k+d) n m:=by
  intro d
  induction d with
  |zero=>intro _;rfl
  |succ d ih=>intro hd;rw [ih (by omega),MI (k:=k+d) (by omega)];rfl
 have:=key (16-k) (by omega)
 rwa [show k+(16-k)=16 by omega] at this
theorem MJ: ∀{k n m:Nat},∀r∈aH k n m,r.length≤n
 |0,n,m,r,h=>by
  rw [aH,List.mem_singleton] at h
  rw [h];simp
 |k+1,n,m,r,h=>by
  rw [aH] at h
  split at h
  ·rw [List.mem_singleton] at h
   rw [h];simp
  ·obtain ⟨i,hi,h⟩:=List.mem_flatMap.1 h
   obtain ⟨q,hq,rfl⟩:=List.mem_map.1 h
   have:=MJ q hq
   rw [List.mem_range] at hi
   rw [List.length_cons]
   omega
theorem UR {k n m:Nat} (h:n≤m):aH k n m=aH k n n:=by
 cases k with
 |zero=>rfl
 |succ k=>rw [aH,aH,Nat.min_eq_left h,Nat.min_self]
theorem MK: ∀n,n<17→ ∀m,m<17→(aH 16 n m).length≤300:=by decide+kernel
theorem Lr {k n m:Nat} (h:n≤k) (hk:k≤16):(aH k n m).length≤300:=by
 rw [UQ h hk]
 by_cases e:m<17
 ·exact MK n (by omega) m e
 ·rw [UR (by omega)]
  exact MK n (by omega) n (by omega)
end Go.Bm
namespace Go.Bm
open Go Go.Am
abbrev LN (ts:List (List Nat)):Value:=Fz ts.length 1 (ts.map FN)
theorem UU {k:IntKind} {x y:Int}:foldV min2 [.int k x, .int k y]=some (.int k (if y<x then y else x)):=by
 simp [foldV,min2]
theorem UW {H:BH} {b bytes cn j l:Nat} {xs:List (List Nat)} (h:(xs.length+1)*bytes≤140737488355328):app1 (some [S j 0 l 1]) (some (xs.map FN)) H b xs.length bytes cn=some (S H.length 0 (xs.length+1) 1,(H.set b none)++[some (xs.map FN++[S j 0 l 1])]):=by
 simp only [app1]
 rw [if_pos ⟨by simp,h,rfl⟩]
 simp [List.take_of_length_le]
theorem UY {i:Nat} {cs:List Value} {xs:List (List Nat)}:(xs.map FN).map (frz i cs)=xs.map FN:=by
 rw [List.map_map]
 exact List.map_congr_left fun x _=>rfl
theorem UZ: ∀(k n m:Nat),n≤k→k≤16→m≤16→aA false Cm [I n,I m] [] fun v H1=> ∃j,v=S j 0 (aH k n m).length 1∧blk H1 j=some ((aH k n m).map FN):=by
 intro k
 induction k with
 |zero=>
  intro n m hn hk hm
  obtain rfl:n=0:=by omega
  refine aZ wX ?_;simp only [bM,aB]
  refine au fun Kr hKr=>?_;simp (disch:=omega) only [RA,↓reduceIte,Nat.reduceEqDiff,Nat.reduceBEq,Nat.reduceSub,Nat.reduceAdd,Nat.reduceMul,Nat.reduceLT,Nat.reduceLeDiff,Int.reduceLE,Int.reduceLT,Int.reduceEq,Int.reduceNeg,Int.reduceToNat,Int.reduceMul,Int.reduceAdd,Int.reduceSub,Int.reduceBEq,Int.reduceBNe,reduceCtorEq,RD];refine hKr _ _ ?_;clear hKr Kr;(try simp only [RN,reduceIte]);try refine ah rfl ?_
  refine au fun Kr hKr=>?_;simp (disch:=omega) only [RA,↓reduceIte,Nat.reduceEqDiff,Nat.reduceBEq,Nat.reduceSub,Nat.reduceAdd,Nat.reduceMul,Nat.reduceLT,Nat.reduceLeDiff,Int.reduceLE,Int.reduceLT,Int.reduceEq,Int.reduceNeg,Int.reduceToNat,Int.reduceMul,Int.reduceAdd,Int.reduceSub,Int.reduceBEq,Int.reduceBNe,reduceCtorEq,RD];refine hKr _ _ ?_;clear hKr Kr;(try simp only [RN,reduceIte]);try refine ah rfl ?_
  refine aP (t:=true) (by simp (disch:=omega) only [RA,↓reduceIte,Nat.reduceEqDiff,Nat.reduceBEq,Nat.reduceSub,Nat.reduceAdd,Nat.reduceMul,Nat.reduceLT,Nat.reduceLeDiff,Int.reduceLE,Int.reduceLT,Int.reduceEq,Int.reduceNeg,Int.reduceToNat,Int.reduceMul,Int.reduceAdd,Int.reduceSub,Int.reduceBEq,Int.reduceBNe,reduceCtorEq,RD]) ?_;(try simp only [RN,reduceIte]);try refine ah rfl ?_
  refine au fun Kr hKr=>?_;simp (disch:=omega) only [RA,↓reduceIte,Nat.reduceEqDiff,Nat.reduceBEq,Nat.reduceSub,Nat.reduceAdd,Nat.reduceMul,Nat.reduceLT,Nat.reduceLeDiff,Int.reduceLE,Int.reduceLT,Int.reduceEq,Int.reduceNeg,Int.reduceToNat,Int.reduceMul,Int.reduceAdd,Int.reduceSub,Int.reduceBEq,Int.reduceBNe,reduceCtorEq,RD]
  refine hKr _ _ ?_;clear hKr Kr
  refine jg (Gh.wB (i:=0) (cs:=[]) rfl aF.nil) ?_
  (try simp only [RN,reduceIte]);try refine ah rfl ?_
  refine aS (by simp (disch:=omega) only [RA,↓reduceIte,Nat.reduceEqDiff,Nat.reduceBEq,Nat.reduceSub,Nat.reduceAdd,Nat.reduceMul,Nat.reduceLT,Nat.reduceLeDiff,Int.reduceLE,Int.reduceLT,Int.reduceEq,Int.reduceNeg,Int.reduceToNat,Int.reduceMul,Int.reduceAdd,Int.reduceSub,Int.reduceBEq,Int.reduceBNe,reduceCtorEq,RD,resAll,resOf];rfl) aG.refl ?_;simp only [tup]
  exact ⟨1,rfl,rfl⟩
 |succ k ih=>
  intro n m hn hk hm
  by_cases h0:n=0
  ·subst h0
   refine aZ wX ?_;simp only [bM,aB]
   refine au fun Kr hKr=>?_;simp (disch:=omega) only [RA,↓reduceIte,Nat.reduceEqDiff,Nat.reduceBEq,Nat.reduceSub,Nat.reduceAdd,Nat.reduceMul,Nat.reduceLT,Nat.reduceLeDiff,Int.reduceLE,Int.reduceLT,Int.reduceEq,Int.reduceNeg,Int.reduceToNat,Int.reduceMul,Int.reduceAdd,Int.reduceSub,Int.reduceBEq,Int.reduceBNe,reduceCtorEq,RD];refine hKr _ _ ?_;clear hKr Kr;(try simp only [RN,reduceIte]);try refine ah rfl ?_
   refine au fun Kr hKr=>?_;simp (disch:=omega) only [RA,↓reduceIte,Nat.reduceEqDiff,Nat.reduceBEq,Nat.reduceSub,Nat.reduceAdd,Nat.reduceMul,Nat.reduceLT,Nat.reduceLeDiff,Int.reduceLE,Int.reduceLT,Int.reduceEq,Int.reduceNeg,Int.reduceToNat,Int.reduceMul,Int.reduceAdd,Int.reduceSub,Int.reduceBEq,Int.reduceBNe,reduceCtorEq,RD];refine hKr _ _ ?_;clear hKr Kr;(try simp only [RN,reduceIte]);try refine ah rfl ?_
   refine aP (t:=true) (by simp (disch:=omega) only [RA,↓reduceIte,Nat.reduceEqDiff,Nat.reduceBEq,Nat.reduceSub,Nat.reduceAdd,Nat.reduceMul,Nat.reduceLT,Nat.reduceLeDiff,Int.reduceLE,Int.reduceLT,Int.reduceEq,Int.reduceNeg,Int.reduceToNat,Int.reduceMul,Int.reduceAdd,Int.reduceSub,Int.reduceBEq,Int.reduceBNe,reduceCtorEq,RD]) ?_;(try simp only [RN,reduceIte]);try refine ah rfl ?_
   refine au fun Kr hKr=>?_;simp (disch:=omega) only [RA,↓reduceIte,Nat.reduceEqDiff,Nat.reduceBEq,Nat.reduceSub,Nat.reduceAdd,Nat.reduceMul,Nat.reduceLT,Nat.reduceLeDiff,Int.reduceLE,Int.reduceLT,Int.reduceEq,Int.reduceNeg,Int.reduceToNat,Int.reduceMul,Int.reduceAdd,Int.reduceSub,Int.reduceBEq,Int.reduceBNe,reduceCtorEq,RD]
   refine hKr _ _ ?_;clear hKr Kr
   refine jg (Gh.wB (i:=0) (cs:=[]) rfl aF.nil) ?_
   (try simp only [RN,reduceIte]);try refine ah rfl ?_
   refine aS (by simp (disch:=omega) only [RA,↓reduceIte,Nat.reduceEqDiff,Nat.reduceBEq,Nat.reduceSub,Nat.reduceAdd,Nat.reduceMul,Nat.reduceLT,Nat.reduceLeDiff,Int.reduceLE,Int.reduceLT,Int.reduceEq,Int.reduceNeg,Int.reduceToNat,Int.reduceMul,Int.reduceAdd,Int.reduceSub,Int.reduceBEq,Int.reduceBNe,reduceCtorEq,RD,resAll,resOf];rfl) aG.refl ?_;simp only [tup]
   exact ⟨1,rfl,rfl⟩
  ·have hlt:=Lr (k:=k+1) (n:=n) (m:=m) hn hk
   rw [qL h0] at hlt⊢
   refine aZ wX ?_;simp only [bM,aB]
   refine au fun Kr hKr=>?_;simp (disch:=omega) only [RA,↓reduceIte,Nat.reduceEqDiff,Nat.reduceBEq,Nat.reduceSub,Nat.reduceAdd,Nat.reduceMul,Nat.reduceLT,Nat.reduceLeDiff,Int.reduceLE,Int.reduceLT,Int.reduceEq,Int.reduceNeg,Int.reduceToNat,Int.reduceMul,Int.reduceAdd,Int.reduceSub,Int.reduceBEq,Int.reduceBNe,reduceCtorEq,RD];refine hKr _ _ ?_;clear hKr Kr;(try simp only [RN,reduceIte]);try refine ah rfl ?_
   refine au fun Kr hKr=>?_;simp (disch:=omega) only [RA,↓reduceIte,Nat.reduceEqDiff,Nat.reduceBEq,Nat.reduceSub,Nat.reduceAdd,Nat.reduceMul,Nat.reduceLT,Nat.reduceLeDiff,Int.reduceLE,Int.reduceLT,Int.reduceEq,Int.reduceNeg,Int.reduceToNat,Int.reduceMul,Int.reduceAdd,Int.reduceSub,Int.reduceBEq,Int.reduceBNe,reduceCtorEq,RD];refine hKr _ _ ?_;clear hKr Kr;(try simp only [RN,reduceIte]);try refine ah rfl ?_
   refine aP (t:=false) (by simp (disch:=omega) only [RA,↓reduceIte,Nat.reduceEqDiff,Nat.reduceBEq,Nat.reduceSub,Nat.reduceAdd,Nat.reduceMul,Nat.reduceLT,Nat.reduceLeDiff,Int.reduceLE,Int.reduceLT,Int.reduceEq,Int.reduceNeg,Int.reduceToNat,Int.reduceMul,Int.reduceAdd,Int.reduceSub,Int.reduceBEq,Int.reduceBNe,reduceCtorEq,RD]) ?_;(try simp only [RN,reduceIte]);try refine ah rfl ?_
   refine au fun Kr hKr=>?_;simp (disch:=omega) only [RA,↓reduceIte,Nat.reduceEqDiff,Nat.reduceBEq,Nat.reduceSub,Nat.reduceAdd,Nat.reduceMul,Nat.reduceLT,Nat.reduceLeDiff,Int.reduceLE,Int.reduceLT,Int.reduceEq,Int.reduceNeg,Int.reduceToNat,Int.reduceMul,Int.reduceAdd,Int.reduceSub,Int.reduceBEq,Int.reduceBNe,reduceCtorEq,RD];refine hKr _ _ ?_;clear hKr Kr;(try simp only [RN,reduceIte]);try refine ah rfl ?_
   refine au fun Kr hKr=>?_;simp (disch:=omega) only [RA,↓reduceIte,Nat.reduceEqDiff,Nat.reduceBEq,Nat.reduceSub,Nat.reduceAdd,Nat.reduceMul,Nat.reduceLT,Nat.reduceLeDiff,Int.reduceLE,Int.reduceLT,Int.reduceEq,Int.reduceNeg,Int.reduceToNat,Int.reduceMul,Int.reduceAdd,Int.reduceSub,Int.reduceBEq,Int.reduceBNe,reduceCtorEq,RD];refine hKr _ _ ?_;clear hKr Kr;(try simp only [RN,reduceIte]);try refine ah rfl ?_
   refine bH (fun d f H'=> ∃i,i≤min n m∧d=min n m-i∧f 0=I n∧f 1=I m∧f 5=S 0 0 (eH k n i).length 1∧f 6=I ((i+1:Nat):Int)∧H'=[some ((eH k n i).map FN)]) (min n m) ?_ ?_
   ·exact ⟨_,_,Gh.refl,0,by omega,by omega,aj,aj,aj,aj,rfl⟩
   ·rintro d f H' R ⟨i,hi,rfl,g0,g1,g5,g6,rfl⟩ hN hX hR hE
    simp only [bM.l1,aB]
    have hmin:(if m<n then (m:Int) else (n:Int))=((min n m:Nat):Int):=by split<;>omega
    have hpl:=mD (k:=k) (n:=n) hi
    refine au fun Kr hKr=>?_;simp (disch:=omega) only [RA,↓reduceIte,Nat.reduceEqDiff,Nat.reduceBEq,Nat.reduceSub,Nat.reduceAdd,Nat.reduceMul,Nat.reduceLT,Nat.reduceLeDiff,Int.reduceLE,Int.reduceLT,Int.reduceEq,Int.reduceNeg,Int.reduceToNat,Int.reduceMul,Int.reduceAdd,Int.reduceSub,Int.reduceBEq,Int.reduceBNe,reduceCtorEq,RD,g0,g1,g6,UU,hmin];refine hKr _ _ ?_;clear hKr Kr;(try simp only [RN,reduceIte]);try refine ah rfl ?_
    refine bF (p:=i+1≤min n m) (by simp only [RA,↓reduceIte,Nat.reduceEqDiff,Nat.reduceBEq,Nat.reduceSub,Nat.reduceAdd,Nat.reduceMul,Nat.reduceLT,Nat.reduceLeDiff,Int.reduceLE,Int.reduceLT,Int.reduceEq,Int.reduceNeg,Int.reduceToNat,Int.reduceMul,Int.reduceAdd,Int.reduceSub,Int.reduceBEq,Int.reduceBNe,reduceCtorEq]<;>rfl) (by (try simp only [RB])<;>first|done|exact Iff.rfl|omega|simp) (fun hc=>?_) (fun hc=>?_)<;>(try simp only [RN,reduceIte])<;>(try refine ah rfl ?_)
    ·have him:i+1≤min n m:=by assumption
     have e1:(n:Int)-((i+1:Nat):Int)=((n-(i+1):Nat):Int):=by omega
     have hpl2:=mD (k:=k) (n:=n) him
     have hti:=fun r=>MJ (k:=k) (n:=n-(i+1)) (m:=i+1) r
     (first|refine bY rfl ?_|refine bZ rfl ?_);(try simp only [RN,reduceIte]);try refine ah rfl ?_
     refine au fun Kr hKr=>?_;simp (disch:=omega) only [RA,↓reduceIte,Nat.reduceEqDiff,Nat.reduceBEq,Nat.reduceSub,Nat.reduceAdd,Nat.reduceMul,Nat.reduceLT,Nat.reduceLeDiff,Int.reduceLE,Int.reduceLT,Int.reduceEq,Int.reduceNeg,Int.reduceToNat,Int.reduceMul,Int.reduceAdd,Int.reduceSub,Int.reduceBEq,Int.reduceBNe,reduceCtorEq,RD,g0,g6,e1]
     refine uV (l:=(aH k (n-(i+1)) (i+1)).length) (e:=1) (cs:=(aH k (n-(i+1)) (i+1)).map FN) (.cons .int (.cons .int .nil)) iR (by simp) (ih (n-(i+1)) (i+1) (by omega) (by omega) (by omega)) ?_
     rw [qM] at hpl2
     have hps:=qM (k:=k) (n:=n) (i:=i)
     generalize aH k (n-(i+1)) (i+1)=ts at hpl2 hti hps⊢
     have hlm: ∀j,j≤ts.length→(eH k n i++(ts.take j).map fun r=>(i+1)::r).length≤300:=fun j hj=>by
      rw [List.length_append,List.length_map,List.length_take]
      rw [List.length_append,List.length_map] at hpl2
      omega
     have hlen:ts.length≤300:=by
      rw [List.length_append,List.length_map] at hpl2
      omega
     simp (disch:=omega) only [RA,↓reduceIte,Nat.reduceEqDiff,Nat.reduceBEq,Nat.reduceSub,Nat.reduceAdd,Nat.reduceMul,Nat.reduceLT,Nat.reduceLeDiff,Int.reduceLE,Int.reduceLT,Int.reduceEq,Int.reduceNeg,Int.reduceToNat,Int.reduceMul,Int.reduceAdd,Int.reduceSub,Int.reduceBEq,Int.reduceBNe,reduceCtorEq,RD]
     refine hKr _ _ ?_;clear hKr Kr;(try simp only [aK,aO,aN]);(try simp only [RN,reduceIte]);try refine ah rfl ?_
     refine bH (fun d f H'=> ∃j L,j≤ts.length∧d=ts.length-j∧L=eH k n i++(ts.take j).map (fun r=>(i+1)::r)∧f 0=I n∧f 1=I m∧f 5=S 0 0 L.length 1∧f 6=I ((i+1:Nat):Int)∧f 25=LN ts∧f 26=I (ts.length:Nat)∧f 27=I j∧H'=[some (L.map FN)]) (ts.length) ?_ ?_
     ·exact ⟨_,_,Gh.refl,0,eH k n i,by omega,by omega,by simp,aj,aj,aj,aj,aj,aj,aj,rfl⟩
     ·clear g0 g1 g5 g6
      rintro d f H' R1 ⟨j,L,hj,rfl,hL,g0,g1,g5,g6,Au,Aw,qU,rfl⟩ hN1 hX1 hR1 hE1
      simp only [bM.l0,aB]
      have hll:=hlm j hj
      rw [←hL] at hll
      refine au fun Kr hKr=>?_;simp (disch:=omega) only [RA,↓reduceIte,Nat.reduceEqDiff,Nat.reduceBEq,Nat.reduceSub,Nat.reduceAdd,Nat.reduceMul,Nat.reduceLT,Nat.reduceLeDiff,Int.reduceLE,Int.reduceLT,Int.reduceEq,Int.reduceNeg,Int.reduceToNat,Int.reduceMul,Int.reduceAdd,Int.reduceSub,Int.reduceBEq,Int.reduceBNe,reduceCtorEq,RD,Aw,qU];refine hKr _ _ ?_;clear hKr Kr;(try simp only [RN,reduceIte]);try refine ah rfl ?_
      refine bF (p:=j<ts.length) (by simp only [RA,↓reduceIte,Nat.reduceEqDiff,Nat.reduceBEq,Nat.reduceSub,Nat.reduceAdd,Nat.reduceMul,Nat.reduceLT,Nat.reduceLeDiff,Int.reduceLE,Int.reduceLT,Int.reduceEq,Int.reduceNeg,Int.reduceToNat,Int.reduceMul,Int.reduceAdd,Int.reduceSub,Int.reduceBEq,Int.reduceBNe,reduceCtorEq]<;>rfl) (by (try simp only [RB])<;>first|done|exact Iff.rfl|omega|simp) (fun hc=>?_) (fun hc=>?_)<;>(try simp only [RN,reduceIte])<;>(try refine ah rfl ?_)
      ·have hjt:j<ts.length:=by assumption
       have hr:=hti (ts.getD j []) (by simp [List.getD,hjt])
       have hL2:eH k n i++(ts.take (j+1)).map (fun r=>(i+1)::r)=L++[(i+1)::ts.getD j []]:=by
        rw [hL,List.take_add_one,List.map_append,List.append_assoc]
        congr 2
        simp [List.getD,hjt]
       obtain ⟨r,hrd⟩: ∃r,ts.getD j []=r:=⟨_,rfl⟩
       rw [hrd] at hr hL2
       (first|refine bY rfl ?_|refine bZ rfl ?_);(try simp only [RN,reduceIte]);try refine ah rfl ?_
       refine au fun Kr hKr=>?_;simp (disch:=omega) only [RA,↓reduceIte,Nat.reduceEqDiff,Nat.reduceBEq,Nat.reduceSub,Nat.reduceAdd,Nat.reduceMul,Nat.reduceLT,Nat.reduceLeDiff,Int.reduceLE,Int.reduceLT,Int.reduceEq,Int.reduceNeg,Int.reduceToNat,Int.reduceMul,Int.reduceAdd,Int.reduceSub,Int.reduceBEq,Int.reduceBNe,reduceCtorEq,RD,Au,qU,yX,hrd];refine hKr _ _ ?_;clear hKr Kr;(try simp only [RN,reduceIte]);try refine ah rfl ?_
       have hnext: ∀f' Hx,f' 0=I n→f' 1=I m→f' 5=S 4 0 (L.length+1) 1→f' 6=I ((i+1:Nat):Int)→f' 25=LN ts→f' 26=I (ts.length:Nat)→f' 27=I j→Hx=[none,none,none,some [FN ((i+1)::r)],some ((L++[(i+1)::r]).map FN)]→T 0 bM.r11 R1 f' Hx:=by
        clear g0 g1 g5 g6 Au Aw qU
        intro f' Hx g0 g1 g5 g6 Au Aw qU U0
        subst U0
        refine bI fun Kr hKr=>?_;simp (disch:=omega) only [RA,↓reduceIte,Nat.reduceEqDiff,Nat.reduceBEq,Nat.reduceSub,Nat.reduceAdd,Nat.reduceMul,Nat.reduceLT,Nat.reduceLeDiff,Int.reduceLE,Int.reduceLT,Int.reduceEq,Int.reduceNeg,Int.reduceToNat,Int.reduceMul,Int.reduceAdd,Int.reduceSub,Int.reduceBEq,Int.reduceBNe,reduceCtorEq,RD,qU];refine hKr _ _ ?_;clear hKr Kr
        refine hN1 (ts.length-(j+1)) _ _ _ _ (by omega) (Gh.nrm [4] rfl rfl (by simp only [RH,RV])) ⟨j+1,L++[(i+1)::r],by omega,rfl,hL2.symm,aj,aj,?_,aj,aj,aj,aj,rfl⟩
        all_goals (rw [List.length_append,List.length_singleton];simp (disch:=omega) only [RA,↓reduceIte,Nat.reduceEqDiff,Nat.reduceBEq,Nat.reduceSub,Nat.reduceAdd,Nat.reduceMul,Nat.reduceLT,Nat.reduceLeDiff,Int.reduceLE,Int.reduceLT,Int.reduceEq,Int.reduceNeg,Int.reduceToNat,Int.reduceMul,Int.reduceAdd,Int.reduceSub,Int.reduceBEq,Int.reduceBNe,reduceCtorEq,RD,RE, *]<;>rfl)
       refine au fun Kr hKr=>?_;simp (disch:=omega) only [RA,↓reduceIte,Nat.reduceEqDiff,Nat.reduceBEq,Nat.reduceSub,Nat.reduceAdd,Nat.reduceMul,Nat.reduceLT,Nat.reduceLeDiff,Int.reduceLE,Int.reduceLT,Int.reduceEq,Int.reduceNeg,Int.reduceToNat,Int.reduceMul,Int.reduceAdd,Int.reduceSub,Int.reduceBEq,Int.reduceBNe,reduceCtorEq,RD,g5,g6,JJ,RP,UW]
       refine hKr _ _ ?_;clear hKr Kr
       refine jg (Gh.wB (i:=2) (cs:=((i+1)::r).map dV) rfl kP) ?_
       have hfz:(L.map FN++[S 2 0 (r.length+1) 1]).map (frz 2 (((i+1)::r).map dV))=(L++[(i+1)::r]).map FN:=by
        rw [List.map_append,UY,List.map_append,List.map_singleton,List.map_singleton,je (by simp)]
        rfl
       refine hnext _ _ lH lH lH lH lH lH lH ?_
       simp only [gX,List.map_cons,List.map_nil,Option.map_none,Option.map_some,List.set_cons_succ,List.set_cons_zero]
       rw [←hfz,je (by simp)]
       rfl
      ·refine hX1 _ _ ?_
       obtain rfl:j=ts.length:=by omega
       rw [List.take_length,←hps] at hL
       subst hL
       refine bI fun Kr hKr=>?_;simp (disch:=omega) only [RA,↓reduceIte,Nat.reduceEqDiff,Nat.reduceBEq,Nat.reduceSub,Nat.reduceAdd,Nat.reduceMul,Nat.reduceLT,Nat.reduceLeDiff,Int.reduceLE,Int.reduceLT,Int.reduceEq,Int.reduceNeg,Int.reduceToNat,Int.reduceMul,Int.reduceAdd,Int.reduceSub,Int.reduceBEq,Int.reduceBNe,reduceCtorEq,RD,g6];refine hKr _ _ ?_;clear hKr Kr
       exact hN (min n m-(i+1)) _ _ _ _ (by omega) Gh.refl ⟨i+1,by omega,rfl,aj,aj,aj,aj,rfl⟩
    ·refine hX _ _ ?_
     obtain rfl:i=min n m:=by omega
     refine au fun Kr hKr=>?_;simp (disch:=omega) only [RA,↓reduceIte,Nat.reduceEqDiff,Nat.reduceBEq,Nat.reduceSub,Nat.reduceAdd,Nat.reduceMul,Nat.reduceLT,Nat.reduceLeDiff,Int.reduceLE,Int.reduceLT,Int.reduceEq,Int.reduceNeg,Int.reduceToNat,Int.reduceMul,Int.reduceAdd,Int.reduceSub,Int.reduceBEq,Int.reduceBNe,reduceCtorEq,RD,g5];refine hKr _ _ ?_;clear hKr Kr;(try simp only [RN,reduceIte]);try refine ah rfl ?_
     refine aS (by simp (disch:=omega) only [RA,↓reduceIte,Nat.reduceEqDiff,Nat.reduceBEq,Nat.reduceSub,Nat.reduceAdd,Nat.reduceMul,Nat.reduceLT,Nat.reduceLeDiff,Int.reduceLE,Int.reduceLT,Int.reduceEq,Int.reduceNeg,Int.reduceToNat,Int.reduceMul,Int.reduceAdd,Int.reduceSub,Int.reduceBEq,Int.reduceBNe,reduceCtorEq,RD,resAll,resOf];rfl) aG.refl ?_;simp only [tup]
     exact ⟨0,rfl,rfl⟩
theorem TL {x:Bool} {n m:Nat} {H:BH} {K:Value→BH→Prop} (hn:n≤16) (hm:m≤16) (hK:K (LN (aH n n m)) H):aA x Cm [I n,I m] H K:=
 uV (.cons .int (.cons .int .nil)) iR (by simp) (UZ n n m (Nat.le_refl _) hn hm) hK
end Go.Bm
namespace Go.Bm
open Go Go.Am
def Tree (n:Nat) (b w:List Nat):Prop:=(dU (Rj b w n) n).length=1∧(dU b n).length+(dU w n).length=n+1
instance (n:Nat) (b w:List Nat):Decidable (Tree n b w):=by unfold Tree;infer_instance
def jT (p:List Nat) (n x:Nat):Nat:=(dU p n).findIdx fun c=>c.contains x
theorem qV {p:List Nat} {n x:Nat} (hp:Perm p n) (hx:x<n):jT p n x<(dU p n).length:=by
 obtain ⟨c,hc,hxc⟩:=yV hp hx
 exact List.findIdx_lt_length_of_exists ⟨c,hc,by simpa using hxc⟩
theorem ML {p:List Nat} {n x:Nat} (hp:Perm p n) (hx:x<n):x∈(dU p n)[jT p n x]'(qV hp hx):=by
 have h2:((dU p n)[jT p n x]'(qV hp hx)).contains x=true:=List.findIdx_getElem (w:=qV hp hx)
 simpa using h2
theorem U1 {p:List Nat} {n:Nat} (hp:Perm p n):(dU p n).flatten.Nodup:=(lW.all rfl hp (Nat.le_refl n)).eu
theorem MN: ∀{cs:List (List Nat)} {i j x:Nat} (hi:i<cs.length) (hj:j<cs.length),cs.flatten.Nodup→x∈cs[i]→x∈cs[j]→i=j
 |c::cs,0,0,x,_,_,_,_,_=>rfl
 |c::cs,0,j+1,x,_,hj,hn,h1,h2=>by
  rw [List.flatten_cons,List.nodup_append] at hn
  exact absurd rfl (hn.2.2 x h1 x (List.mem_flatten.2 ⟨_,List.getElem_mem (by simpa using hj),h2⟩))
 |c::cs,i+1,0,x,hi,_,hn,h1,h2=>by
  rw [List.flatten_cons,List.nodup_append] at hn
  exact absurd rfl (hn.2.2 x h2 x (List.mem_flatten.2 ⟨_,List.getElem_mem (by simpa using hi),h1⟩))
 |c::cs,i+1,j+1,x,hi,hj,hn,h1,h2=>by
  rw [List.flatten_cons,List.nodup_append] at hn
  rw [MN (cs:=cs) (by simpa using hi) (by simpa using hj) hn.2.1 h1 h2]
theorem MO {p:List Nat} {n x i:Nat} (hp:Perm p n) (hx:x<n) (hi:i<(dU p n).length) (h:x∈(dU p n)[i]):jT p n x=i:=
 MN (qV hp hx) hi (U1 hp) (ML hp hx) h
theorem MP {p:List Nat} {n x:Nat} (hp:Perm p n) (hx:x<n):jT p n (nl p x)=jT p n x:=
 MO hp (hp.lt hx) (qV hp hx) ((vM hp (List.getElem_mem _)).fwd (ML hp hx))
theorem MQ {p:List Nat} {n i:Nat} (hp:Perm p n) (hi:i<(dU p n).length): ∃x,x<n∧jT p n x=i:=by
 have hc:=vM hp (List.getElem_mem hi)
 have hm:nl (dU p n)[i] 0∈(dU p n)[i]:=eX hc.ne
 exact ⟨_,hc.lt _ hm,MO hp (hc.lt _ hm) hi hm⟩
def merge (f:Nat→Nat) (e:Nat×Nat):Nat→Nat:=fun x=>if f x=f e.1 then f e.2 else f x
def pieces (es:List (Nat×Nat)):Nat→Nat:=es.foldl merge id
theorem MR: ∀(es:List (Nat×Nat)) (f:Nat→Nat) (V m:Nat) (S:List Nat),S.Nodup→m+es.length≤S.length→(∀a∈S,∃x,x<V∧f x=a)→
  ∃S':List Nat,S'.Nodup∧m≤S'.length∧ ∀a∈S',∃x,x<V∧(es.foldl merge f) x=a
 |[],f,V,m,S,h1,h2,h3=>⟨S,h1,by simpa using h2,h3⟩
 |e::es,f,V,m,S,h1,h2,h3=>by
  have hl:=List.length_erase (a:=f e.1) (l:=S)
  refine MR es (merge f e) V m (S.erase (f e.1)) (h1.erase _) ?_ fun a ha=>?_
  ·simp only [List.length_cons] at h2
   split at hl<;>omega
  ·obtain ⟨x,hx,hxa⟩:=h3 a (List.mem_of_mem_erase ha)
   refine ⟨x,hx,?_⟩
   have hne:a≠f e.1:=fun h=>by
    subst h
    exact (List.Nodup.not_mem_erase h1) ha
   rw [merge,if_neg (by rw [hxa];exact hne),hxa]
theorem MV: ∀(es:List (Nat×Nat)) (f:Nat→Nat) (x y:Nat),f x=f y→(es.foldl merge f) x=(es.foldl merge f) y
 |[],f,x,y,h=>h
 |e::es,f,x,y,h=>MV es (merge f e) x y (by simp only [merge,h])
theorem MW: ∀(es:List (Nat×Nat)) (f:Nat→Nat) (e:Nat×Nat),e∈es→(es.foldl merge f) e.1=(es.foldl merge f) e.2
 |e'::es,f,e,h=>by
  rcases List.mem_cons.1 h with rfl|h
  ·exact MV es _ _ _ (by
    simp only [merge,if_true]
    split
    ·rfl
    ·rfl)
  ·exact MW es (merge f e') e h
section
variable {b w:List Nat} {n:Nat}
def ends (b w:List Nat) (n:Nat) (c:Bool) (x:Nat):Nat:=if c then (dU b n).length+jT w n x else jT b n x
def others (b w:List Nat) (n y:Nat):List (Nat×Nat):=((List.range n).filter fun z=>z !=y).map fun z=>(ends b w n false z,ends b w n true z)
def lab (b w:List Nat) (n y:Nat):Nat→Nat:=pieces (others b w n y)
theorem U2 {y z:Nat} (hz:z<n) (h:z≠y) (c c':Bool):lab b w n y (ends b w n c z)=lab b w n y (ends b w n c' z):=by
 have key:lab b w n y (ends b w n false z)=lab b w n y (ends b w n true z):=
  MW _ id (ends b w n false z,ends b w n true z) (List.mem_map.2 ⟨z,List.mem_filter.2 ⟨List.mem_range.2 hz,by simpa using h⟩,rfl⟩)
 cases c<;>cases c'<;>first|rfl|exact key|exact key.symm
theorem U3 {y:Nat} (hy:y<n):((List.range n).filter fun z=>z !=y).length+1=n:=by
 have h1:((List.range n).filter fun z=>z !=y)=(List.range n).erase y:=(List.Nodup.erase_eq_filter List.nodup_range y).symm
 rw [h1,List.length_erase_of_mem (List.mem_range.2 hy),List.length_range]
 omega
theorem Tree.apart (hd:bg n b w) (ht:Tree n b w) {y:Nat} (hy:y<n):lab b w n y (ends b w n false y)≠lab b w n y (ends b w n true y):=by
 intro he
 obtain ⟨hb,hw,_⟩:=id hd
 have hall: ∀z,z<n→lab b w n y (ends b w n false z)=lab b w n y (ends b w n true z):=fun z hz=>by
  by_cases e:z=y
  ·rw [e];exact he
  ·exact U2 hz e _ _
 have hone:=hd.ind (fun z=>lab b w n y (ends b w n false z)=lab b w n y (ends b w n false 0))
  (fun z hz hS=>by
   have e:ends b w n false (nl b z)=ends b w n false z:=by simp only [ends];exact MP hb hz
   rw [e];exact hS)
  (fun z hz hS=>by
   have e:ends b w n true (nl w z)=ends b w n true z:=by simp only [ends,if_true];rw [MP hw hz]
   rw [hall _ (hw.lt hz),e,←hall z hz];exact hS) rfl
 obtain ⟨S,h1,h2,h3⟩:=MR (others b w n y) id (n+1) 2 (List.range (n+1)) List.nodup_range (by
  have:=U3 hy
  rw [others,List.length_map,List.length_range]
  omega) (fun a ha=>⟨a,List.mem_range.1 ha,rfl⟩)
 have MZ: ∀v,v<n+1→lab b w n y v=lab b w n y (ends b w n false 0):=fun v hv=>by
  have ht2:=ht.2
  rcases Nat.lt_or_ge v (dU b n).length with h|h
  ·obtain ⟨x,hx,rfl⟩:=MQ hb h
   exact hone x hx
  ·obtain ⟨x,hx,hxv⟩:=MQ hw (show v-(dU b n).length<(dU w n).length by omega)
   have e:v=ends b w n true x:=by simp only [ends,if_true];omega
   rw [e,←hall x hx]
   exact hone x hx
 match S,h1,h2,h3 with
 |[],_,h2,_=>simp at h2
 |[_],_,h2,_=>simp at h2
 |a::a'::_,h1,_,h3=>
  obtain ⟨x,hx,hxa⟩:=h3 a (by simp)
  obtain ⟨x',hx',U4⟩:=h3 a' (by simp)
  have e1:lab b w n y x=a:=hxa
  have e2:lab b w n y x'=a':=U4
  have:a=a':=by rw [←e1,←e2,MZ x hx,MZ x' hx']
  simp only [List.nodup_cons,List.mem_cons] at h1
  exact h1.1 (.inl this)
def behind (b w:List Nat) (n:Nat) (c:Bool) (x:Nat):List Nat:=(List.range n).filter fun z=>z !=x&&lab b w n x (ends b w n false z)==lab b w n x (ends b w n c x)
def it (p:List Nat) (x:Nat):Nat→Nat
 |0=>nl p x
 |i+1=>nl p (it p x i)
end
def bs (l:List UInt8):ByteArray:=⟨l.toArray⟩
end Go.Bm
namespace Go.Bm
open Go Go.Am
def dep (s:List UInt8):Int:=(s.countP fun c=>c.toNat==40:Nat)-(s.countP fun c=>c.toNat==41:Nat)
def Na (s:List UInt8):Prop:=(2≤s.length∧s.length≤32)∧(∀c∈s,c.toNat=40∨c.toNat=41)∧(∀i,i≤s.length→0≤dep (s.take i))∧dep s=0
instance (s:List UInt8):Decidable (Na s):=by unfold Na;infer_instance
def ch:List Nat→List Nat→List Nat
 |p,x::y::r=>ch (p.set x y) (y::r)
 |p,_=>p
def jv (p e:List Nat):List Nat:=if e=[] then p else (ch p e).set (e.getLastD 0) (e.headD 0)
theorem Nb: ∀{e p:List Nat} {y:Nat},e≠[]→ch p (e++[y])=(ch p e).set (e.getLastD 0) y
 |[x],p,y,_=>rfl
 |x::z::r,p,y,_=>by
  have:=Nb (e:=z::r) (p:=p.set x z) (y:=y) (by simp)
  simpa [ch,List.getLastD] using this
theorem Az: ∀{e p:List Nat},(ch p e).length=p.length
 |[],p=>rfl
 |[x],p=>rfl
 |x::z::r,p=>by
  have:=Az (e:=z::r) (p:=p.set x z)
  simpa [ch] using this
theorem head_mem {e:List Nat} (h:e≠[]):e.headD 0∈e:=by
 cases e with
 |nil=>exact absurd rfl h
 |cons a l=>simp
def lvl (c:Nat):List (List Nat)→List (List Nat)
 |[]=>[]
 |e::r=>if r.length%2=c then e::lvl c r else lvl c r
theorem AA {c:Nat} {e:List Nat}: ∀{r:List (List Nat)},e∈lvl c r→e∈r
 |[],h=>h
 |a::r,h=>by
  rw [lvl] at h
  split at h
  ·rcases List.mem_cons.1 h with h|h
   ·simp [h]
   ·exact List.mem_cons_of_mem _ (AA h)
  ·exact List.mem_cons_of_mem _ (AA h)
structure MS where
 ways:List (List Nat)
 next:Nat
 b:List Nat
 w:List Nat
def ms0:MS:=⟨[[]],0,List.replicate 16 0,List.replicate 16 0⟩
structure qW (m:Nat) (s:MS):Prop where
 ne:(s.next=0∧s.ways=[[]])∨(0<s.next∧s.ways≠[]∧ ∀e∈s.ways,e≠[])
 lt: ∀e∈s.ways,∀x∈e,x<s.next
 eu: ∀c,(lvl c s.ways).flatten.Nodup
 bb:By 16 s.b
 bw:By 16 s.w
theorem By.ch {e:List Nat}: ∀{p:List Nat},By 16 p→(∀x∈e,x<256)→By 16 (ch p e):=by
 induction e with
 |nil=>intro p h _;exact h
 |cons x e ih=>
  intro p h hl
  cases e with
  |nil=>exact h
  |cons y r=>exact ih (h.set (hl y (by simp))) fun z hz=>hl z (List.mem_cons_of_mem _ hz)
theorem By.jv {p e:List Nat} (h:By 16 p) (hl: ∀x∈e,x<256):By 16 (jv p e):=by
 unfold Bm.jv
 split
 ·exact h
 ·rename_i hn
  exact (h.ch hl).set (hl _ (head_mem hn))
theorem qW.z:qW 0 ms0:=⟨.inl ⟨rfl,rfl⟩,by simp [ms0],fun c=>by
 have:(lvl c ms0.ways).flatten=[]:=by
  simp only [ms0,lvl]
  split<;>rfl
 rw [this];simp,By.rep,By.rep⟩
theorem Nc {c n:Nat} {r:List (List Nat)} (h: ∀e∈r,∀x∈e,x<n): ∀x∈(lvl c r).flatten,x<n:=by
 intro x hx
 obtain ⟨e,he,hxe⟩:=List.mem_flatten.1 hx
 exact h e (AA he) x hxe
theorem U5 {l t:List Nat} {n:Nat} (h:(l++t).Nodup) (hn:n∉l++t):((l++[n])++t).Nodup:=by
 have:((l++[n])++t).Perm (n::(l++t)):=by
  rw [List.append_assoc,List.singleton_append]
  exact List.perm_middle
 exact this.nodup_iff.2 (List.nodup_cons.2 ⟨hn,h⟩)
theorem qW.open {s:MS} {e:List Nat} {r:List (List Nat)} (h:qW 0 s) (hw:s.ways=e::r):qW 0 ⟨[s.next]::(e++[s.next])::r,s.next+1,s.b,s.w⟩:=by
 have hlt:=h.lt
 have Nh:=h.eu
 rw [hw] at hlt Nh
 refine ⟨.inr ⟨by simp,by simp,fun a ha=>?_⟩,fun a ha x hx=>?_,fun c=>?_,h.bb,h.bw⟩
 ·simp only [List.mem_cons] at ha
  rcases ha with rfl|rfl|ha
  ·simp
  ·simp
  ·have:=h.ne
   rw [hw] at this
   rcases this with ⟨_,q⟩|⟨_,_,q⟩
   ·cases q;cases ha
   ·exact q a (by simp [ha])
 ·show x<s.next+1
  simp only [List.mem_cons] at ha
  rcases ha with rfl|rfl|ha
  ·simp at hx;omega
  ·rcases List.mem_append.1 hx with hx|hx
   ·have:=hlt e (by simp) x hx;omega
   ·simp at hx;omega
  ·have:=hlt a (by simp [ha]) x hx;omega
 ·have hf:=Nc (c:=c) hlt
  have hfr:=fun x hx=>Nc (c:=c) (r:=r) (n:=s.next) (fun e he=>hlt e (by simp [he])) x hx
  have h1:=Nh c
  simp only [lvl] at h1 hf⊢
  by_cases hc:r.length%2=c
  ·rw [if_pos hc] at h1 hf
   rw [if_pos hc,List.length_cons,if_neg (by omega)]
   rw [List.flatten_cons] at h1 hf⊢
   exact U5 h1 fun q=>absurd (hf _ q) (by omega)
  ·rw [if_neg hc] at h1
   rw [if_neg hc]
   split
   ·rw [List.flatten_cons,List.singleton_append,List.nodup_cons]
    exact ⟨fun q=>absurd (hfr _ q) (by omega),h1⟩
   ·exact h1
def U6 (e:List Nat) (r:List (List Nat)):Int:=if r=[] then (if e=[] then-1 else (e.getLastD 0:Nat)) else if e.length≤1 then-1 else (e.getLastD 0:Nat)
def la:List (List Nat)→List Int
 |[]=>[]
 |e::r=>la r++[U6 e r]
end Go.Bm
namespace Go.Bm
open Go Go.Am
def iY (p e:List Nat) (k:Nat):List Nat:=if k<e.length then ch p (e.take (k+1)) else jv p e
theorem U7 {p e:List Nat}:iY p e 0=p:=by
 cases e with
 |nil=>rfl
 |cons a l=>rfl
theorem U8 {p e:List Nat} {k:Nat}:(iY p e k).length=p.length:=by
 unfold iY jv
 split
 ·exact Az
 ·split
  ·rfl
  ·rw [List.length_set,Az]
theorem U9 {e:List Nat} {k:Nat} (h:k<e.length):(e.take (k+1)).getLastD 0=nl e k:=by
 have:e.take (k+1)=e.take k++[e[k]]:=by rw [List.take_add_one,List.getElem?_eq_getElem h,Option.toList_some]
 rw [this,List.getLastD_concat]
 simp [nl,List.getD,h]
theorem Va {p e:List Nat} {k:Nat} (h:k<e.length):(iY p e k).set (nl e k) (nl e ((k+1)%e.length))=iY p e (k+1):=by
 have hl:=U9 h
 rw [iY,if_pos h]
 by_cases h1:k+1<e.length
 ·rw [iY,if_pos h1,Nat.mod_eq_of_lt h1]
  have h2:e.take (k+1+1)=e.take (k+1)++[nl e (k+1)]:=by
   rw [List.take_add_one (i:=k+1),List.getElem?_eq_getElem h1,Option.toList_some]
   simp [nl,List.getD,h1]
  rw [h2,Nb (by intro q;have:=congrArg List.length q;rw [List.length_take,List.length_nil] at this;omega),hl]
 ·have hk:k+1=e.length:=by omega
  have hn:e≠[]:=by rintro rfl;simp at h
  rw [iY,if_neg h1,hk,Nat.mod_self,jv,if_neg hn,List.take_of_length_le (Nat.le_refl _)]
  rw [hk,List.take_of_length_le (Nat.le_refl _)] at hl
  rw [hl]
  congr 1
  cases e with
  |nil=>exact absurd rfl hn
  |cons a l=>rfl
theorem Nj {p e:List Nat}:iY p e e.length=jv p e:=by rw [iY,if_neg (by omega)]
theorem Nk {e:List Nat} (hn:e.Nodup) {j k:Nat} (hj:j<e.length) (hk:k<e.length) (h:nl e j=nl e k):j=k:=by
 simp only [nl,List.getD,List.getElem?_eq_getElem hj,List.getElem?_eq_getElem hk,Option.getD_some] at h
 exact (List.getElem_inj hn).1 h
theorem AB {e:List Nat} {x:Nat} (h:x∈e): ∃k,k<e.length∧x=nl e k:=by
 obtain ⟨k,hk,rfl⟩:=List.mem_iff_getElem.1 h
 exact ⟨k,hk,by simp [nl,List.getD,hk]⟩
theorem AL {p e:List Nat} (hn:e.Nodup) (hl: ∀x∈e,x<p.length): ∀k,k≤e.length→(∀j,j<k→nl (iY p e k) (nl e j)=nl e ((j+1)%e.length))∧ ∀x,(∀j,j<k→x≠nl e j)→nl (iY p e k) x=nl p x
 |0,_=>⟨fun j h=>absurd h (by omega),fun x _=>by rw [U7]⟩
 |k+1,hk=>by
  obtain ⟨h1,h2⟩:=AL hn hl k (by omega)
  have hlt:nl e k<p.length:=hl _ (eX (by omega))
  rw [←Va (by omega)]
  refine ⟨fun j hj=>?_,fun x hx=>?_⟩
  ·rw [fQ]
   by_cases e1:j=k
   ·subst e1
    rw [if_pos ⟨rfl,by rw [U8];exact hlt⟩]
   ·rw [if_neg fun q=>e1 (Nk hn (by omega) (by omega) q.1)]
    exact h1 j (by omega)
  ·rw [fQ,if_neg fun q=>hx k (by omega) q.1]
   exact h2 x fun j hj=>hx j (by omega)
theorem AO {p e:List Nat} (hn:e.Nodup) (hl: ∀x∈e,x<p.length) {j:Nat} (hj:j<e.length):nl (jv p e) (nl e j)=nl e ((j+1)%e.length):=by
 rw [←Nj]
 exact (AL hn hl _ (Nat.le_refl _)).1 j hj
theorem qX {p e:List Nat} (hn:e.Nodup) (hl: ∀x∈e,x<p.length) {x:Nat} (hx:x∉e):nl (jv p e) x=nl p x:=by
 rw [←Nj]
 exact (AL hn hl _ (Nat.le_refl _)).2 x fun j hj q=>hx (by rw [q];exact eX hj)
theorem Perm.dU {n:Nat} {p e:List Nat} (h:Perm p n) (hl:p.length=16) (hn:e.Nodup) (h16: ∀x∈e,x<n) (hf: ∀x∈e,nl p x=x):Perm (jv p e) n:=by
 have hN:=h.1
 have hb: ∀x∈e,x<p.length:=fun x hx=>by have:=h16 x hx;omega
 have hin: ∀x∈e,nl (jv p e) x∈e:=fun x hx=>by
  obtain ⟨k,hk,rfl⟩:=AB hx
  rw [AO hn hb hk]
  exact eX (Nat.mod_lt _ (by omega))
 have hout: ∀x,x<n→x∉e→nl p x∉e:=fun x hx he hq=>he (by
  have:=h.inj hx (h16 _ hq) (hf _ hq).symm
  rw [this];exact hq)
 refine .of (by omega) (fun i h1 h2=>?_) (fun i hi=>?_) fun i j hi hj he=>?_
 ·have:i∉e:=fun q=>absurd (h16 i q) (by omega)
  rw [qX hn hb this]
  exact h.zero h1 h2
 ·by_cases he:i∈e
  ·exact h16 _ (hin i he)
  ·rw [qX hn hb he];exact h.lt hi
 ·have hj':j<n:=by omega
  by_cases h1:i∈e
  ·by_cases h2:j∈e
   ·obtain ⟨a,ha,rfl⟩:=AB h1
    obtain ⟨b,hb',rfl⟩:=AB h2
    rw [AO hn hb ha,AO hn hb hb'] at he
    have hm:=Nk hn (Nat.mod_lt _ (by omega)) (Nat.mod_lt _ (by omega)) he
    have e1:b=a:=by
     by_cases c1:a+1<e.length
     ·by_cases c2:b+1<e.length
      ·rw [Nat.mod_eq_of_lt c1,Nat.mod_eq_of_lt c2] at hm;omega
      ·have:b+1=e.length:=by omega
       rw [Nat.mod_eq_of_lt c1,this,Nat.mod_self] at hm;omega
     ·have c1':a+1=e.length:=by omega
      by_cases c2:b+1<e.length
      ·rw [Nat.mod_eq_of_lt c2,c1',Nat.mod_self] at hm;omega
      ·omega
    rw [e1] at hj
    omega
   ·have:=hin i h1
    rw [←he,qX hn hb h2] at this
    exact hout j hj' h2 this
  ·rw [qX hn hb h1] at he
   by_cases h2:j∈e
   ·have:=hin j h2
    rw [he] at this
    exact hout i hi h1 this
   ·rw [qX hn hb h2] at he
    have:=h.inj hj' hi he
    omega
end Go.Bm
namespace Go.Bm
open Go Go.Am
section
variable {code:List Nat} {a:Nat} {h:Int}
end
end Go.Bm
namespace Go.Bm
open Go Go.Am
theorem zZ {g:Nat} {args:List Value} {H:BH} {K:Value→BH→Prop} {i:Nat} {cs0:List Value} (hc0:blk H i=some cs0) (hn0:aF cs0)
  (h:aA false g (args.map (ren [i])) [some cs0] fun v H1=> ∃j l e cs,v= .slice (some ⟨j,0,none⟩) l e∧j≠0∧blk H1 j=some cs∧aF cs∧K (.slice (some ⟨H.length,0,none⟩) l e) ((H.set i none)++[some cs])):aA false g args H K:=by
 intro ρ Z as HA h1 h2
 have hi:=qj hc0
 obtain ⟨b0,Ac,r1,r2,r3,r4,r5⟩:=h2.bD i cs0 hc0
 obtain ⟨gW,qO⟩: ∃gW:Nat→Option Nat,gW=fun j=>if j=0 then some b0 else none:=⟨_,rfl⟩
 have jI:gW 0=some b0:=by rw [qO];rfl
 have hR0:Rel gW Z [some cs0] HA:=by
  refine ⟨fun j cs hj=>?_,fun j j' c1 c2 b e1 e2 _ _=>?_,fun j cs b e1 e2=>?_,h2.dG,fun j hj=>?_⟩
  ·cases j with
   |zero=>
    simp [blk] at hj;subst hj
    exact ⟨b0,Ac,jI,r2,r3,r4,(hn0.vz r5).vl⟩
   |succ j=>simp [blk] at hj
  ·cases j with
   |zero=>cases j' with
    |zero=>rfl
    |succ j'=>simp [blk] at e2
   |succ j=>simp [blk] at e1
  ·cases j with
   |zero=>
    rw [jI] at e2;cases e2
    exact h2.cZ i cs0 b0 hc0 r1
   |succ j=>simp [blk] at e1
  ·rw [qO]
   simp only [List.length_singleton] at hj
   simp only
   rw [if_neg (by omega)]
 have hargs:VL gW Z (args.map (ren [i])) as:=by
  refine ⟨by simpa using h1.1,fun q c d q1 q2=>?_⟩
  rw [List.getElem?_map] at q1
  obtain ⟨p,hp,rfl⟩:=map_inj q1
  refine nG (fun x y hxy=>?_) (h1.2 q p d hp q2)
  cases y with
  |zero=>
   simp at hxy
   subst hxy
   rw [jI,r1]
  |succ y=>simp at hxy
 obtain ⟨v',HA',h3,_,aV,Z1,v,H1,h4,h5,_,h7,h6,j,l,e,cs,rfl,hj0,hj,hn,hK⟩:=h gW Z as HA hargs hR0
 obtain ⟨bn,bk1,hb0,e2,e3,e4,e5⟩:=h5.bD j cs hj
 have jS: ∀q cs' b,blk ([some cs0]:BH) q=some cs'→gW q=some b→b=b0:=fun q cs' b e1 e2=>by
  cases q with
  |zero=>rw [jI] at e2;cases e2;rfl
  |succ q=>simp [blk] at e1
 have hge:HA.n≤bn∨bn=b0:=by
  rcases h6.own j cs bn hj hb0 with h9|⟨q,cs',h9,h10⟩
  ·exact .inl h9
  ·exact .inr (jS q cs' bn h9 h10)
 have hkeep: ∀b,b<HA.n→b≠b0→HA'.get b=HA.get b:=fun b hb hne=>h6.keep b hb fun q cs' e1 e2=>hne (jS q cs' b e1 e2)
 have hne: ∀q cs' b,q≠i→blk H q=some cs'→ρ q=some b→b≠b0:=fun q cs' b hq e1 e2 e=>hq (h2.inj q i cs' cs0 b e1 hc0 e2 (by rw [e];exact r1))
 have hold: ∀q cs',blk ((H.set i none)++[some cs]) q=some cs'→(q=H.length∧cs'=cs)∨(q<H.length∧q≠i∧blk H q=some cs'):=fun q cs' hc=>by
  rcases Nat.lt_trichotomy q H.length with hq|hq|hq
  ·right
   have hc':blk (H.set i none) q=some cs':=by
    unfold blk at hc⊢
    rwa [List.getElem?_append_left (by simpa using hq)] at hc
   rw [kK hi] at hc'
   split at hc'
   ·cases hc'
   ·exact ⟨hq,by assumption,hc'⟩
  ·left
   subst hq
   unfold blk at hc
   rw [List.getElem?_append_right (by simp)] at hc
   simp at hc
   exact ⟨rfl,hc.symm⟩
  ·unfold blk at hc
   rw [List.getElem?_eq_none (by simp;omega)] at hc
   cases hc
 have hρ: ∀q,q<H.length→put ρ H.length bn q=ρ q:=fun q hq=>by simp only [put];rw [if_neg (by omega)]
 have eF:put ρ H.length bn H.length=some bn:=by simp [put]
 have hv:VR (put ρ H.length bn) Z1 (.slice (some ⟨H.length,0,none⟩) l e) v':=by
  obtain ⟨b,hb,rfl⟩:=h4.slice_inv
  rw [hb0] at hb;cases hb
  exact .slice eF
 refine ⟨v',HA',h3,(fun h=>by cases h),put ρ H.length bn,Z1,_,_,hv,⟨fun q cs' hc=>?_,fun q q' c1 c2 b k1 k2 k3 k4=>?_,fun q cs' b k1 k2=>?_,h5.dG,fun q hq=>?_⟩,by simp,hρ,⟨h6.n,fun b hb hno=>?_,fun q cs' b k1 k2=>?_,h6.zx,fun b bk hb=>?_⟩,hK⟩
 ·rcases hold q cs' hc with ⟨rfl,rfl⟩|⟨hq,hqi,hc⟩
  ·exact ⟨bn,bk1,eF,e2,e3,e4,(hn.vz e5).vl⟩
  ·obtain ⟨b,bk,k1,k2,k3,k4,k5⟩:=h2.bD q cs' hc
   refine ⟨b,bk,by rw [hρ q hq];exact k1,Nat.lt_of_lt_of_le k2 h6.n,by rw [hkeep b k2 (hne q cs' b hqi hc k1)];exact k3,k4,k5.mono (fun p d hp=>?_) h6.zx⟩
   rcases Nat.lt_or_ge p H.length with hpl|hpl
   ·rw [hρ p hpl];exact hp
   ·rw [h2.top p hpl] at hp;cases hp
 ·rcases hold q c1 k1 with ⟨rfl,rfl⟩|⟨hq,hqi,hc⟩<;>rcases hold q' c2 k2 with ⟨rfl,_⟩|⟨hq',Ae,hc'⟩
  ·rfl
  ·rw [eF] at k3;cases k3
   rw [hρ q' hq'] at k4
   rcases hge with h|h
   ·have:=h2.lt hc' k4;omega
   ·exact absurd h (hne q' _ _ Ae hc' k4)
  ·rw [eF] at k4;cases k4
   rw [hρ q hq] at k3
   rcases hge with h|h
   ·have:=h2.lt hc k3;omega
   ·exact absurd h (hne q _ _ hqi hc k3)
  ·rw [hρ q hq] at k3;rw [hρ q' hq'] at k4
   exact h2.inj q q' c1 c2 b hc hc' k3 k4
 ·rcases hold q cs' k1 with ⟨rfl,rfl⟩|⟨hq,hqi,hc⟩
  ·rw [eF] at k2;cases k2
   exact h5.cZ j _ bn hj hb0
  ·rw [hρ q hq] at k2
   cases hz:Z1 b with
   |none=>rfl
   |some bk=>
    rcases h6.zn b bk hz with h9|h9|⟨p,cs',h9,h10⟩
    ·rw [h2.cZ q cs' b hc k2] at h9;cases h9
    ·have:=h2.lt hc k2;omega
    ·exact absurd (jS p cs' b h9 h10) (hne q _ b hqi hc k2)
 ·simp only [List.length_append,List.length_set,List.length_singleton] at hq
  simp only [put]
  rw [if_neg (by omega)]
  exact h2.top q (by omega)
 ·refine hkeep b hb fun e=>?_
  rw [e] at hno
  exact hno i cs0 hc0 r1
 ·rcases hold q cs' k1 with ⟨rfl,rfl⟩|⟨hq,hqi,hc⟩
  ·rw [eF] at k2;cases k2
   rcases hge with h|h
   ·exact .inl h
   ·rw [h];exact .inr ⟨i,cs0,hc0,r1⟩
  ·rw [hρ q hq] at k2
   exact .inr ⟨q,cs',hc,k2⟩
 ·rcases h6.zn b bk hb with h9|h9|⟨p,cs',h9,h10⟩
  ·exact .inl h9
  ·exact .inr (.inl h9)
  ·rw [jS p cs' b h9 h10]
   exact .inr (.inr ⟨i,cs0,hc0,r1⟩)
end Go.Bm
