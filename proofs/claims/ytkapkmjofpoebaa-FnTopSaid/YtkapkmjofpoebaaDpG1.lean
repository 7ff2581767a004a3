/- DpCa, DpK, DpL, DpM, DpN -/
import Derived.Test.YtkapkmjofpoebaaBmS
import Derived.Test.YtkapkmjofpoebaaDpG0
set_option linter.unusedVariables false
set_option linter.unusedSimpArgs false
namespace Go.Bm
open Go Go.Am
abbrev WS:=List Bool×List Nat×Nat
def sQ (p:List Nat) (st:WS):WS:=if bl st.1 st.2.2=true then st else (st.1.set st.2.2 true,st.2.1++[st.2.2],nl p st.2.2)
def wk (p:List Nat) (st:WS):Nat→WS
 |0=>st
 |j+1=>sQ p (wk p st j)
theorem Ju {p:List Nat} {st:WS} {i:Nat} (h:bl (wk p st i).1 (wk p st i).2.2=true): ∀j,i≤j→wk p st j=wk p st i
 |0,hj=>by
  obtain rfl:i=0:=by omega
  rfl
 |j+1,hj=>by
  rcases Nat.lt_or_ge j i with h1|h1
  ·obtain rfl:i=j+1:=by omega
   rfl
  ·have ih:=Ju h j h1
   simp only [wk]
   rw [ih,sQ,if_pos h]
def jZ (p:List Nat) (m:Nat):Nat→List Bool×List (List Nat)
 |0=>(List.replicate 16 false,[])
 |k+1=>if bl (jZ p m k).1 k=true then jZ p m k else ((wk p ((jZ p m k).1,[],k) m).1,(jZ p m k).2++[(wk p ((jZ p m k).1,[],k) m).2.1])
structure sS (p:List Nat) (n:Nat) (c:List Nat):Prop where
 ne:0<c.length
 lt: ∀x∈c,x<n
 gW:c.Nodup
 step: ∀j,j+1<c.length→nl p (nl c j)=nl c (j+1)
 last:nl p (nl c (c.length-1))=nl c 0
 least: ∀x∈c,nl c 0≤x
theorem eu {c:List Nat} {j:Nat} (h:j<c.length):nl c j∈c:=by simp [nl,List.getD,h]
theorem kZ {c:List Nat} {x:Nat} (h:x∈c): ∃j,j<c.length∧nl c j=x:=by
 obtain ⟨i,hi,rfl⟩:=List.mem_iff_getElem.1 h
 exact ⟨i,hi,by simp [nl,List.getD,hi]⟩
theorem o9 {c:List Nat} (h:c.Nodup) {i j:Nat} (hi:i<c.length) (hj:j<c.length) (he:nl c i=nl c j):i=j:=by
 have h':=List.pairwise_iff_getElem.1 h
 have e: ∀k (hk:k<c.length),nl c k=c[k]:=fun k hk=>by simp [nl,List.getD,hk]
 rcases Nat.lt_trichotomy i j with h1|h1|h1
 ·exact absurd (by rw [←e i hi,←e j hj];exact he) (h' i j hi hj h1)
 ·exact h1
 ·exact absurd (by rw [←e i hi,←e j hj];exact he.symm) (h' j i hj hi h1)
theorem Perm.inj {p:List Nat} {n:Nat} (h:Perm p n) {i j:Nat} (hi:i<n) (hj:j<n) (he:nl p i=nl p j):i=j:=by
 have h1:=h.1
 rcases Nat.lt_trichotomy i j with h2|h2|h2
 ·exact absurd he (((h.2 j (by omega)).2 (by omega)).2 i h2)
 ·exact h2
 ·exact absurd he.symm (((h.2 i (by omega)).2 (by omega)).2 j h2)
structure lS (p:List Nat) (n:Nat) (s0:List Bool) (i:Nat) (j:Nat) (st:WS):Prop where
 len:st.1.length=16
 at_:st.2.2<n
 new:bl s0 st.2.2=false
 mem: ∀x,bl st.1 x=true↔bl s0 x=true∨x∈st.2.1
 lt: ∀x∈st.2.1,x<n∧bl s0 x=false
 gW:st.2.1.Nodup
 cnt:st.1.count true=s0.count true+st.2.1.length
 step: ∀t,t+1<st.2.1.length→nl p (nl st.2.1 t)=nl st.2.1 (t+1)
 st0:st.2.1=[]→st.2.2=i
 st1:0<st.2.1.length→nl st.2.1 0=i∧nl p (nl st.2.1 (st.2.1.length-1))=st.2.2
 go:st.2.1.length=j∨bl st.1 st.2.2=true
theorem lS.wk {p:List Nat} {n:Nat} (hp:Perm p n) {s0:List Bool} {i:Nat} (hl:s0.length=16) (hi:i<n) (h0:bl s0 i=false) (hinv: ∀x,x<n→bl s0 (nl p x)=bl s0 x): ∀j,lS p n s0 i j (wk p (s0,[],i) j)
 |0=>by
  refine ⟨hl,hi,h0,fun x=>?_,?_,?_,?_,?_,?_,?_,?_⟩<;>simp [Bm.wk]
 |j+1=>by
  have ih:=lS.wk hp hl hi h0 hinv j
  have hn:=hp.1
  simp only [Bm.wk]
  generalize Bm.wk p (s0,[],i) j=st at ih⊢
  obtain ⟨s,l,k⟩:=st
  have h1:=ih.len
  have h2:=ih.at_
  have h3:=ih.new
  have h4:=ih.mem
  have h5:=ih.lt
  have h6:=ih.gW
  have h7:=ih.cnt
  have h8:=ih.step
  have h9:=ih.st0
  have h10:=ih.st1
  have h11:=ih.go
  simp only at h1 h2 h3 h4 h5 h6 h7 h8 h9 h10 h11
  unfold sQ
  by_cases hb:bl s k=true
  ·rw [if_pos hb]
   exact ⟨h1,h2,h3,h4,h5,h6,h7,h8,h9,h10, .inr hb⟩
  ·rw [if_neg hb]
   have hkl:k∉l:=fun h=>hb ((h4 k).2 (.inr h))
   have hk:(l++[k]).length=l.length+1:=by simp
   refine ⟨by simpa using h1,hp.lt h2,by rw [hinv k h2];exact h3,fun x=>?_,fun x hx=>?_,?_,?_,fun t ht=>?_,fun h=>by simp at h,fun _=>?_, .inl ?_⟩
   ·show bl (s.set k true) x=true↔bl s0 x=true∨x∈l++[k]
    rw [jh]
    by_cases e:x=k
    ·subst e
     rw [if_pos ⟨rfl,by omega⟩]
     simp
    ·rw [if_neg (fun h=>e h.1),h4 x]
     simp [e]
   ·rcases List.mem_append.1 hx with h|h
    ·exact h5 x h
    ·rw [List.mem_singleton] at h
     subst h
     exact ⟨h2,h3⟩
   ·show (l++[k]).Nodup
    rw [List.nodup_append]
    exact ⟨h6,by simp,fun a ha b hb=>by
     rw [List.mem_singleton] at hb
     subst hb
     exact fun e=>hkl (e▸ha)⟩
   ·show (s.set k true).count true=s0.count true+(l++[k]).length
    rw [rY (by omega) (by simpa using hb),h7,hk]
    omega
   ·show nl p (nl (l++[k]) t)=nl (l++[k]) (t+1)
    have ht:t+1<l.length+1:=by rw [←hk];exact ht
    rw [oW,oW,if_pos (by omega)]
    by_cases e:t+1<l.length
    ·rw [if_pos e]
     exact h8 t e
    ·rw [if_neg e,AO (by omega),show t=l.length-1 by omega]
     exact (h10 (by omega)).2
   ·show nl (l++[k]) 0=i∧nl p (nl (l++[k]) ((l++[k]).length-1))=nl p k
    rw [hk,Nat.add_sub_cancel]
    refine ⟨?_,by rw [oW,if_neg (by omega),Nat.sub_self];rfl⟩
    rw [oW]
    split
    ·rename_i h
     exact (h10 h).1
    ·rename_i h
     have:l=[]:=List.eq_nil_of_length_eq_zero (by omega)
     subst this
     exact h9 rfl
   ·show (l++[k]).length=j+1
    rw [hk]
    rcases h11 with h|h
    ·omega
    ·exact absurd h hb
theorem lS.done {p:List Nat} {n m:Nat} (hm:m=16) (hp:Perm p n) {s0:List Bool} {i:Nat} (hl:s0.length=16) (hi:i<n) (h0:bl s0 i=false) (hinv: ∀x,x<n→bl s0 (nl p x)=bl s0 x):
  bl (Bm.wk p (s0,[],i) m).1 (Bm.wk p (s0,[],i) m).2.2=true:=by
 have h16:=lS.wk hp hl hi h0 hinv m
 have h17:=lS.wk hp hl hi h0 hinv (m+1)
 rcases h16.go with h|h
 ·cases hb:bl (Bm.wk p (s0,[],i) m).1 (Bm.wk p (s0,[],i) m).2.2 with
  |true=>rfl
  |false=>
   have e:Bm.wk p (s0,[],i) (m+1)=sQ p (Bm.wk p (s0,[],i) m):=rfl
   rw [sQ,if_neg (by simp [hb])] at e
   have h1:=h17.cnt
   have h2:=List.count_le_length (a:=true) (l:=(Bm.wk p (s0,[],i) (m+1)).1)
   have h3:=h17.len
   have h4:(Bm.wk p (s0,[],i) (m+1)).2.1.length=m+1:=by rw [e];simp [h]
   omega
 ·exact h
theorem lS.aV {p:List Nat} {n m:Nat} (hm:m=16) (hp:Perm p n) {s0:List Bool} {i:Nat} (hl:s0.length=16) (hi:i<n) (h0:bl s0 i=false) (hinv: ∀x,x<n→bl s0 (nl p x)=bl s0 x) (hup: ∀x,x<i→bl s0 x=true):
  sS p n (Bm.wk p (s0,[],i) m).2.1∧nl (Bm.wk p (s0,[],i) m).2.1 0=i:=by
 have h:=lS.wk hp hl hi h0 hinv m
 have hd:=lS.done hm hp hl hi h0 hinv
 generalize Bm.wk p (s0,[],i) m=st at h hd⊢
 obtain ⟨s,l,k⟩:=st
 have hkl:k∈l:=by
  rcases (h.mem k).1 hd with h1|h1
  ·exact absurd h1 (by have:=h.new;simp only at this;simp [this])
  ·exact h1
 have hne:0<l.length:=List.length_pos_of_mem hkl
 obtain ⟨hz,hla⟩:=h.st1 hne
 simp only at hz hla
 obtain ⟨j,hj,hje⟩:=kZ hkl
 have hlt: ∀t,t<l.length→nl l t<n:=fun t ht=>(h.lt _ (eu ht)).1
 have hj0:j=0:=by
  rcases Nat.eq_zero_or_pos j with h1|h1
  ·exact h1
  ·exfalso
   have h2:=h.step (j-1) (by show j-1+1<l.length;omega)
   simp only at h2
   rw [show j-1+1=j by omega,hje,←hla] at h2
   have h3:=hp.inj (hlt _ (by omega)) (hlt _ (by omega)) h2
   have h4:=o9 h.gW (by show j-1<l.length;omega) (by show l.length-1<l.length;omega) h3
   omega
 subst hj0
 refine ⟨⟨hne,fun x hx=>(h.lt x hx).1,h.gW,h.step,by rw [hla];exact hje.symm,fun x hx=>?_⟩,hz⟩
 rw [hz]
 rcases Nat.lt_or_ge x i with h1|h1
 ·have h2:=(h.lt x hx).2
  rw [hup x h1] at h2
  cases h2
 ·exact h1
theorem sS.fwd {p:List Nat} {n:Nat} {c:List Nat} (h:sS p n c) {x:Nat} (hx:x∈c):nl p x∈c:=by
 obtain ⟨j,hj,rfl⟩:=kZ hx
 by_cases e:j+1<c.length
 ·rw [h.step j e]
  exact eu e
 ·rw [show j=c.length-1 by omega,h.last]
  exact eu h.ne
theorem sS.bwd {p:List Nat} {n:Nat} {c:List Nat} (hp:Perm p n) (h:sS p n c) {x:Nat} (hx:x<n) (hm:nl p x∈c):x∈c:=by
 obtain ⟨j,hj,hje⟩:=kZ hm
 by_cases e:j=0
 ·subst e
  rw [←h.last] at hje
  have:=hp.inj (h.lt _ (eu (by have:=h.ne;omega))) hx hje
  rw [←this]
  exact eu (by have:=h.ne;omega)
 ·have h2:=h.step (j-1) (by omega)
  rw [show j-1+1=j by omega,hje] at h2
  have:=hp.inj (h.lt _ (eu (by omega))) hx h2
  rw [←this]
  exact eu (by omega)
structure pq (p:List Nat) (n i:Nat) (sc:List Bool×List (List Nat)):Prop where
 len:sc.1.length=16
 mem: ∀x,bl sc.1 x=true↔ ∃c∈sc.2,x∈c
 inv: ∀x,x<n→bl sc.1 (nl p x)=bl sc.1 x
 aV: ∀c∈sc.2,sS p n c
 cnt:sc.1.count true=sc.2.flatten.length
 gW:sc.2.flatten.Nodup
 upto: ∀x,x<i→bl sc.1 x=true
 hd: ∀c∈sc.2,nl c 0<i
 num:sc.2.length≤i
theorem pq.all {p:List Nat} {n m:Nat} (hm:m=16) (hp:Perm p n): ∀{i:Nat},i≤n→pq p n i (jZ p m i)
 |0,_=>by
  have h0: ∀x,bl (List.replicate 16 false) x=false:=fun x=>xQ
  rw [show jZ p m 0=(List.replicate 16 false,[]) from rfl]
  have hno: ∀c:List Nat,c∉([]:List (List Nat)):=fun c=>List.not_mem_nil
  have hc0:(List.replicate 16 false).count true=0:=rfl
  exact ⟨List.length_replicate,fun x=>⟨fun h=>absurd ((h0 x).symm.trans h) Bool.false_ne_true,fun ⟨c,h,_⟩=>absurd h (hno c)⟩,fun x _=>(h0 _).trans (h0 x).symm,fun c h=>absurd h (hno c),hc0,List.nodup_nil,fun x h=>absurd h (Nat.not_lt_zero x),fun c h=>absurd h (hno c),Nat.le_refl _⟩
 |i+1,hi=>by
  have ih:=pq.all hm hp (i:=i) (by omega)
  have hn:=hp.1
  simp only [jZ]
  generalize jZ p m i=sc at ih⊢
  by_cases hb:bl sc.1 i=true
  ·rw [if_pos hb]
   exact ⟨ih.len,ih.mem,ih.inv,ih.aV,ih.cnt,ih.gW,fun x hx=>by
    by_cases e:x=i
    ·rw [e];exact hb
    ·exact ih.upto x (by omega),fun c hc=>by have:=ih.hd c hc;omega,by have:=ih.num;omega⟩
  ·rw [if_neg hb]
   have h0:bl sc.1 i=false:=by simpa using hb
   have hw:=lS.wk hp ih.len (show i<n by omega) h0 ih.inv m
   obtain ⟨hc,hz⟩:=lS.aV hm hp ih.len (show i<n by omega) h0 ih.inv ih.upto
   generalize Bm.wk p (sc.1,[],i) m=st at hw hc hz⊢
   obtain ⟨s,l,k⟩:=st
   have hm:=hw.mem
   have hlt:=hw.lt
   have hwc:=hw.cnt
   simp only at hc hz hm hlt hwc⊢
   have hil:i∈l:=by rw [←hz];exact eu hc.ne
   refine ⟨hw.len,fun x=>?_,fun x hx=>?_,fun c hc'=>?_,?_,?_,fun x hx=>?_,fun c hc'=>?_,by simp;exact ih.num⟩
   ·show bl s x=true↔_
    rw [hm x,ih.mem x]
    simp only [List.mem_append,List.mem_singleton]
    constructor
    ·rintro (⟨c,h1,h2⟩|h)
     ·exact ⟨c, .inl h1,h2⟩
     ·exact ⟨l, .inr rfl,h⟩
    ·rintro ⟨c,h1|rfl,h2⟩
     ·exact .inl ⟨c,h1,h2⟩
     ·exact .inr h2
   ·show bl s (nl p x)=bl s x
    have key:bl s (nl p x)=true↔bl s x=true:=by
     rw [hm,hm,ih.inv x hx]
     constructor
     ·rintro (h|h)
      ·exact .inl h
      ·exact .inr (hc.bwd hp hx h)
     ·rintro (h|h)
      ·exact .inl h
      ·exact .inr (hc.fwd h)
    exact Bool.eq_iff_iff.2 key
   ·rcases List.mem_append.1 hc' with h|h
    ·exact ih.aV c h
    ·rw [List.mem_singleton] at h
     subst h
     exact hc
   ·show s.count true=(sc.2++[l]).flatten.length
    rw [hwc,ih.cnt]
    simp
   ·show (sc.2++[l]).flatten.Nodup
    rw [List.flatten_append,List.nodup_append]
    refine ⟨ih.gW,by simpa using hw.gW,fun a ha b hb'=>?_⟩
    have agl:b∈l:=by simpa using hb'
    rintro rfl
    obtain ⟨c,h1,h2⟩:=List.mem_flatten.1 ha
    have h3:=(ih.mem a).2 ⟨c,h1,h2⟩
    rw [(hlt a agl).2] at h3
    cases h3
   ·show bl s x=true
    rw [hm]
    by_cases e:x=i
    ·rw [e];exact .inr hil
    ·exact .inl (ih.upto x (by omega))
   ·rcases List.mem_append.1 hc' with h|h
    ·have:=ih.hd c h;omega
    ·rw [List.mem_singleton] at h
     subst h
     omega
def aV (p:List Nat) (n:Nat):List (List Nat):=(jZ p 16 n).2
section
variable {p:List Nat} {n:Nat}
theorem rD (hp:Perm p n) {x:Nat} (hx:x<n): ∃c∈aV p n,x∈c:=((pq.all rfl hp (Nat.le_refl n)).mem x).1 ((pq.all rfl hp (Nat.le_refl n)).upto x hx)
theorem kJ (hp:Perm p n) {c:List Nat} (h:c∈aV p n):sS p n c:=(pq.all rfl hp (Nat.le_refl n)).aV c h
theorem vG (hp:Perm p n):(aV p n).length≤n:=(pq.all rfl hp (Nat.le_refl n)).num
theorem af9 (hp:Perm p n) {c:List Nat} (h:c∈aV p n):1≤c.length∧c.length≤n:=by
 have hc:=kJ hp h
 refine ⟨hc.ne,?_⟩
 have: ∀(m:Nat) (c:List Nat),c.Nodup→(∀x∈c,x<m)→c.length≤m:=by
  intro m
  induction m with
  |zero=>
   intro c _ hc
   cases c with
   |nil=>simp
   |cons a c=>exact absurd (hc a (by simp)) (by omega)
  |succ m ih=>
   intro c hn hc
   have h1:=ih (c.erase m) (hn.erase m) fun x hx=>by
    have h2:=hc x (List.mem_of_mem_erase hx)
    have h3:x≠m:=fun e=>by
     subst e
     exact (List.Nodup.not_mem_erase hn) hx
    omega
   have h4:=List.length_erase (a:=m) (l:=c)
   split at h4<;>omega
 exact this n c hc.gW hc.lt
theorem agb (hp:Perm p n):(∀c∈aV p n,c.length=2)↔ ∀x,x<n→nl p x≠x∧nl p (nl p x)=x:=by
 constructor
 ·intro h x hx
  obtain ⟨c,hc,hxc⟩:=rD hp hx
  have h2:=h c hc
  have hi:=kJ hp hc
  obtain ⟨j,hj,rfl⟩:=kZ hxc
  have e1:nl p (nl c 0)=nl c 1:=hi.step 0 (by omega)
  have e2:nl p (nl c 1)=nl c 0:=by
   have:=hi.last
   rw [h2] at this
   exact this
  have hne:nl c 0≠nl c 1:=fun e=>by
   have:=o9 hi.gW (by omega) (by omega) e
   omega
  have:j=0∨j=1:=by omega
  rcases this with rfl|rfl
  ·rw [e1,e2];exact ⟨hne.symm,rfl⟩
  ·rw [e2,e1];exact ⟨hne,rfl⟩
 ·intro h c hc
  have hi:=kJ hp hc
  have h0:=hi.ne
  obtain ⟨h1,h2⟩:=h (nl c 0) (hi.lt _ (eu h0))
  have hl:=hi.last
  rcases Nat.lt_or_ge c.length 2 with h3|h3
  ·rw [show c.length-1=0 by omega] at hl
   exact absurd hl h1
  ·have e1:=hi.step 0 (by omega)
   rcases Nat.lt_or_ge 2 c.length with h4|h4
   ·have e2:=hi.step 1 (by omega)
    rw [e1,e2] at h2
    have:=o9 hi.gW h4 h0 h2
    omega
   ·omega
end
end Go.Bm
namespace Go.Bm
open Go Go.Am
theorem V9 {p:List Int} {i j:Nat} {x:Int}:el (p.set i x) j=if j=i∧i<p.length then x else el p j:=by
 unfold el
 simp only [List.getD]
 by_cases h:i=j
 ·subst h
  by_cases hi:i<p.length
  ·simp [hi]
  ·simp [List.getElem?_eq_none (by omega:p.length≤i),hi]
 ·rw [List.getElem?_set_ne h,if_neg (fun e=>h e.1.symm)]
def swp (p:List Int) (i j:Nat):List Int:=(p.set i (el p j)).set j (el p i)
theorem Wh {p:List Int} {i j:Nat}:(swp p i j).length=p.length:=by simp [swp]
theorem lT {p:List Int} {i j k:Nat} (hi:i<p.length) (hj:j<p.length):el (swp p i j) k=if k=j then el p i else if k=i then el p j else el p k:=by
 unfold swp
 rw [V9,V9]
 by_cases h:k=j
 ·rw [if_pos ⟨h,by simpa using hj⟩,if_pos h]
 ·rw [if_neg (fun e=>h e.1),if_neg h]
  by_cases h2:k=i
  ·rw [if_pos ⟨h2,hi⟩,if_pos h2]
  ·rw [if_neg (fun e=>h2 e.1),if_neg h2]
theorem agm {p:List Int} {i j:Nat} (hi:i<p.length) (hj:j<p.length):(swp p i j).Perm p:=by
 rw [List.perm_iff_count]
 intro a
 unfold swp
 rw [List.count_set (by simpa using hj),List.count_set hi]
 have e1:p[i]=el p i:=by simp [el,List.getD,hi]
 have e2:p[j]=el p j:=by simp [el,List.getD,hj]
 have e3:(p.set i (el p j))[j]'(by simpa using hj)=el p j:=by
  rw [List.getElem_set]
  split
  ·rfl
  ·exact e2
 rw [e3,e1]
 have c1:(el p i==a)=true→0<p.count a:=fun h=>by
  rw [List.count_pos_iff,←beq_iff_eq.1 h,←e1];exact List.getElem_mem hi
 by_cases h1:(el p i==a)=true<;>by_cases h2:(el p j==a)=true<;>simp only [h1,h2,if_true,if_false,Bool.false_eq_true]<;>first|omega|(have:=c1 h1;omega)
structure Sg (a b:Nat) (p q:List Int):Prop where
 len:q.length=p.length
 out: ∀i,i<a∨b≤i→el q i=el p i
 src: ∀i,a≤i→i<b→ ∃j,a≤j∧j<b∧el q i=el p j
 perm:q.Perm p
theorem Sg.refl {a b:Nat} {p:List Int}:Sg a b p p:=⟨rfl,fun _ _=>rfl,fun i h1 h2=>⟨i,h1,h2,rfl⟩, .refl _⟩
theorem Sg.trans {a b:Nat} {p q r:List Int} (h:Sg a b p q) (k:Sg a b q r):Sg a b p r:=⟨k.len.trans h.len,fun i hi=>(k.out i hi).trans (h.out i hi),fun i h1 h2=>by
 obtain ⟨j,j1,j2,j3⟩:=k.src i h1 h2
 obtain ⟨l,l1,l2,l3⟩:=h.src j j1 j2
 exact ⟨l,l1,l2,j3.trans l3⟩,k.perm.trans h.perm⟩
theorem Sg.mono {a b a' b':Nat} {p q:List Int} (h:Sg a b p q) (ha:a'≤a) (hb:b≤b'):Sg a' b' p q:=⟨h.len,fun i hi=>h.out i (by omega),fun i h1 h2=>by
 by_cases hi:a≤i∧i<b
 ·obtain ⟨j,j1,j2,j3⟩:=h.src i hi.1 hi.2
  exact ⟨j,by omega,by omega,j3⟩
 ·exact ⟨i,h1,h2,h.out i (by omega)⟩,h.perm⟩
theorem Sg.swp {a b i j:Nat} {p:List Int} (h1:a≤i) (h2:i<b) (h3:a≤j) (h4:j<b) (hb:b≤p.length):Sg a b p (swp p i j):=⟨Wh,fun k hk=>by
 rw [lT (by omega) (by omega),if_neg (by omega),if_neg (by omega)],fun k k1 k2=>by
 rw [lT (by omega) (by omega)]
 split
 ·exact ⟨i,h1,h2,rfl⟩
 ·split
  ·exact ⟨j,h3,h4,rfl⟩
  ·exact ⟨k,k1,k2,rfl⟩,agm (by omega) (by omega)⟩
def nK (a b:Nat) (p:List Int):Prop:= ∀i j,a≤i→i≤j→j<b→el p i≤el p j
theorem nK.one {a:Nat} {p:List Int}:nK a (a+1) p:=fun i j h1 h2 h3=>by
 obtain rfl:i=j:=by omega
 exact Int.le_refl _
theorem agn {x:Bool} {a:Int} {H:BH} {K:Value→BH→Prop} (hK:K (.bool false) H):aQ x ZG [I a] H K:=by
 refine dR (by simp only [RH]) ?_
 refine bF abd ?_;simp only [uz,aI]
 refine au fun Kr hKr=>?_;simp (disch:=omega) only [RA,↓reduceIte,Nat.reduceEqDiff,RD];refine hKr _ _ ?_;clear hKr Kr;(try simp only [RN,reduceIte]);try refine ah rfl ?_
 refine au fun Kr hKr=>?_;simp (disch:=omega) only [RA,↓reduceIte,Nat.reduceEqDiff,RD];refine hKr _ _ ?_;clear hKr Kr;(try simp only [RN,reduceIte]);try refine ah rfl ?_
 refine aS (by simp (disch:=omega) only [RA,↓reduceIte,Nat.reduceEqDiff,RD,aG,aO];rfl) aC.refl ?_;simp only [aH]
 exact ⟨NN.bool,by simpa using hK⟩
theorem rH {x:Bool} {a b:Int} {H:BH} {K:Value→BH→Prop} (hK:K (.bool (decide (a<b))) H):aQ x Zz [I a,I b] H K:=by
 refine dR (by simp only [RH]) ?_
 refine bF aa5 ?_;simp only [uw,aI]
 refine au fun Kr hKr=>?_;simp (disch:=omega) only [RA,↓reduceIte,Nat.reduceEqDiff,RD];refine hKr _ _ ?_;clear hKr Kr;(try simp only [RN,reduceIte]);try refine ah rfl ?_
 refine au fun Kr hKr=>?_;simp (disch:=omega) only [RA,↓reduceIte,Nat.reduceEqDiff,RD]
 refine agn ?_
 simp (disch:=omega) only [RA,↓reduceIte,Nat.reduceEqDiff,RD]
 refine hKr _ _ ?_;clear hKr Kr;(try simp only [aK,aP,aN]);(try simp only [RN,reduceIte]);try refine ah rfl ?_
 refine aS (by simp (disch:=omega) only [RA,↓reduceIte,Nat.reduceEqDiff,RD,aG,aO];rfl) aC.refl ?_;simp only [aH]
 exact ⟨NN.bool,hK⟩
theorem Ba {k:Nat} {a:aj} {Q:Ex→Fr→BH→Prop} {f:Fr} {H:BH} (h:T k (.seq a .skip) Q f H):T k a Q f H:=by
 intro ρ Z fA HA hk h1 h2
 obtain ⟨ex,fM,HA',h3,h4⟩:=h ρ Z fA HA hk h1 h2
 refine ⟨ex,fM,HA',?_,h4⟩
 cases h3 with
 |eF ha hb=>cases hb;exact ha
 |dW ha _=>exact ha
theorem afV {p:List Int} {a b:Nat} {K:Value→BH→Prop} (hp:p.length≤1000) (hb:b≤p.length) (ha:a≤b) (hK: ∀q,Sg a b p q→nK a b q→K (.tuple ⟨[]⟩) [some (q.map I)]):
  aQ false Zu [S 0 0 p.length 1,I a,I b] [some (p.map I)] K:=by
 refine bF aa0 ?_;simp only [je,aI]
 refine au fun Kr hKr=>?_;simp (disch:=omega) only [RA,↓reduceIte,Nat.reduceEqDiff,RD];refine hKr _ _ ?_;clear hKr Kr;(try simp only [RN,reduceIte]);try refine ah rfl ?_
 refine Ba ?_
 refine bU (fun m f H'=> ∃(i:Nat) (q:List Int),a+1≤i∧(i≤b∨i=a+1)∧m=b-i∧Sg a b p q∧nK a i q∧f 0=S 0 0 p.length 1∧f 1=I a∧f 2=I b∧f 6=I i∧H'=[some (q.map I)]) (b-(a+1)) ?_ ?_
 ·refine ⟨_,_,Gh.refl,a+1,p,by omega,by omega,by omega, .refl,nK.one,?_,?_,?_,?_,rfl⟩
  any_goals (simp (disch:=omega) only [RA,↓reduceIte,Nat.reduceEqDiff,RD,RE, *]<;>rfl)
 ·rintro m f H' R ⟨i,q,hi1,hi2,rfl,hq,hs,g0,g1,g2,g6,rfl⟩ hN hX hR hE
  simp only [je.l1,aI]
  refine au fun Kr hKr=>?_;simp (disch:=omega) only [RA,↓reduceIte,Nat.reduceEqDiff,RD,g2,g6];refine hKr _ _ ?_;clear hKr Kr;(try simp only [RN,reduceIte]);try refine ah rfl ?_
  refine aX (p:=i<b) (by simp only [RA,↓reduceIte,Nat.reduceEqDiff]<;>rfl) (by (try simp only [RB])<;>first|done|exact Iff.rfl|omega|simp) (fun hc=>?_) (fun hc=>?_)<;>(try simp only [RN,reduceIte])<;>(try refine ah rfl ?_)
  ·(first|refine bP rfl ?_|refine bQ rfl ?_);(try simp only [RN,reduceIte]);try refine ah rfl ?_
   refine au fun Kr hKr=>?_;simp (disch:=omega) only [RA,↓reduceIte,Nat.reduceEqDiff,RD,g6];refine hKr _ _ ?_;clear hKr Kr;(try simp only [RN,reduceIte]);try refine ah rfl ?_
   refine bU (fun m f H'=> ∃(j:Nat) (r:List Int),a≤j∧j≤i∧j=m∧Sg a b p r∧(∀x y,a≤x→x<y→y≤i→y≠j→el r x≤el r y)∧f 0=S 0 0 p.length 1∧f 1=I a∧f 2=I b∧f 6=I i∧f 7=I j∧H'=[some (r.map I)]) (i) ?_ ?_
   ·refine ⟨_,_,Gh.refl,i,q,by omega,by omega,by omega,hq,fun x y h1 h2 h3 h4=>hs x y h1 (by omega) (by omega),?_,?_,?_,?_,?_,rfl⟩
    any_goals (simp (disch:=omega) only [RA,↓reduceIte,Nat.reduceEqDiff,RD,RE, *]<;>rfl)
   ·clear g0 g1 g2 g6
    rintro m f H' R2 ⟨j,r,hj1,hj2,rfl,hr,hall,g0,g1,g2,g6,g7,rfl⟩ gB hX2 hR2 hE2
    simp only [je.l0,aI]
    have hrl:=hr.len
    have hdone: ∀f',f' 0=S 0 0 p.length 1→f' 1=I a→f' 2=I b→f' 6=I i→(j=a∨el r (j-1)≤el r j)→T 1 je.r2 R f' [some (r.map I)]:=by
     intro f' g0 g1 g2 g6 hfin
     refine bH fun Kr hKr=>?_;simp (disch:=omega) only [RA,↓reduceIte,Nat.reduceEqDiff,RD,g6];refine hKr _ _ ?_;clear hKr Kr
     refine hN (b-(i+1)) _ _ _ _ (by omega) Gh.refl ⟨i+1,r,by omega,by omega,rfl,hr,fun x y h1 h2 h3=>?_,?_,?_,?_,?_,rfl⟩
     any_goals (simp (disch:=omega) only [RA,↓reduceIte,Nat.reduceEqDiff,RD,RE, *]<;>rfl)
     rcases Nat.lt_or_ge x y with h|h
     ·by_cases hy:y=j
      ·subst hy
       rcases hfin with hfin|hfin
       ·omega
       ·rcases Nat.lt_or_ge x (y-1) with h'|h'
        ·exact Int.le_trans (hall x (y-1) h1 h' (by omega) (by omega)) hfin
        ·obtain rfl:x=y-1:=by omega
         exact hfin
      ·exact hall x y h1 h (by omega) hy
     ·obtain rfl:x=y:=by omega
      exact Int.le_refl _
    by_cases hja:j=a
    ·refine au fun Kr hKr=>?_;simp (disch:=omega) only [RA,↓reduceIte,Nat.reduceEqDiff,RD,g1,g7,hja];refine hKr _ _ ?_;clear hKr Kr;(try simp only [RN,reduceIte]);try refine ah rfl ?_
     refine dG (t:=false) (by simp (disch:=omega) only [RA,↓reduceIte,Nat.reduceEqDiff,RD]) ?_;(try simp only [RN,reduceIte]);try refine ah rfl ?_
     refine hX2 _ _ ?_
     refine hdone _ ?_ ?_ ?_ ?_ (.inl hja)
     any_goals (simp (disch:=omega) only [RA,↓reduceIte,Nat.reduceEqDiff,RD,RE, *]<;>rfl)
    ·have hlt:a<j:=by omega
     have Jv:(j:Int)-1=((j-1:Nat):Int):=by omega
     refine au fun Kr hKr=>?_;simp (disch:=omega) only [RA,↓reduceIte,Nat.reduceEqDiff,RD,g0,g1,g7,hlt,Jv,hrl]
     refine rH ?_
     simp (disch:=omega) only [RA,↓reduceIte,Nat.reduceEqDiff,RD]
     refine hKr _ _ ?_;clear hKr Kr;(try simp only [aK,aP,aN]);(try simp only [RN,reduceIte]);try refine ah rfl ?_
     refine aX (p:=el r j<el r (j-1)) (by simp only [RA,↓reduceIte,Nat.reduceEqDiff]<;>rfl) (by (try simp only [RB])<;>first|done|exact Iff.rfl|omega|simp) (fun hc=>?_) (fun hc=>?_)<;>(try simp only [RN,reduceIte])<;>(try refine ah rfl ?_)
     ·have hrs:(r.set j (el r (j-1))).length=p.length:=by simp [hrl]
      (first|refine bP rfl ?_|refine bQ rfl ?_);(try simp only [RN,reduceIte]);try refine ah rfl ?_
      refine au fun Kr hKr=>?_;simp (disch:=omega) only [RA,↓reduceIte,Nat.reduceEqDiff,RD,g0,g7,Jv,hrl];refine hKr _ _ ?_;clear hKr Kr;(try simp only [RN,reduceIte]);try refine ah rfl ?_
      refine bH fun Kr hKr=>?_;simp (disch:=omega) only [RA,↓reduceIte,Nat.reduceEqDiff,RD,g7,Jv];refine hKr _ _ ?_;clear hKr Kr
      have hsw:(r.set j (el r (j-1))).set (j-1) (el r j)=swp r j (j-1):=rfl
      refine gB (j-1) _ _ _ _ (by omega) Gh.refl ⟨j-1,swp r j (j-1),by omega,by omega,rfl,hr.trans (.swp (by omega) (by omega) (by omega) (by omega) (by omega)),fun x y h1 h2 h3 h4=>?_,?_,?_,?_,?_,?_,rfl⟩
      any_goals (simp (disch:=omega) only [RA,↓reduceIte,Nat.reduceEqDiff,RD,RE, *]<;>rfl)
      rw [lT (by omega) (by omega),lT (by omega) (by omega)]
      by_cases hyj:y=j
      ·rw [if_neg (by omega: ¬y=j-1),if_pos hyj]
       by_cases hxj:x=j-1
       ·rw [if_pos hxj];omega
       ·rw [if_neg hxj,if_neg (by omega)]
        exact hall x (j-1) h1 (by omega) (by omega) (by omega)
      ·rw [if_neg h4,if_neg hyj]
       by_cases hxj:x=j-1
       ·rw [if_pos hxj]
        exact hall j y (by omega) (by omega) h3 hyj
       ·rw [if_neg hxj]
        by_cases Wi:x=j
        ·rw [if_pos Wi]
         exact hall (j-1) y (by omega) (by omega) h3 hyj
        ·rw [if_neg Wi]
         exact hall x y h1 h2 h3 hyj
     ·refine hX2 _ _ ?_
      refine hdone _ ?_ ?_ ?_ ?_ (.inr (by omega))
      any_goals (simp (disch:=omega) only [RA,↓reduceIte,Nat.reduceEqDiff,RD,RE, *]<;>rfl)
  ·refine hX _ _ ?_
   refine vM ?_
   refine aS (by simp (disch:=omega) only [RA,↓reduceIte,Nat.reduceEqDiff,RD,aG,aO];rfl) aC.refl ?_;simp only [aH]
   refine hK q hq fun x y h1 h2 h3=>?_
   rcases hi2 with h|h
   ·exact hs x y h1 h2 (by omega)
   ·obtain rfl:x=y:=by omega
    exact Int.le_refl _
end Go.Bm
namespace Go.Bm
open Go Go.Am
section
variable {k:Nat} {Q:Ex→Fr→BH→Prop} {f:Fr} {H:BH}
theorem wK {id:Nat} {a rest:aj} (J:Nat→Fr→BH→Prop) (P:Fr→BH→Prop) (n:Nat) (h0: ∃f1 H1,Gh k f H f1 H1∧J n f1 H1)
  (hr: ∀n f H (R:Ex→Fr→BH→Prop),J n f H→(∀m f' H' f1 H1,m<n→Gh k f' H' f1 H1→J m f1 H1→R .normal f' H')→(∀f' H',P f' H'→R (.exit id) f' H')→(∀f' H',Q .ret f' H'→R .ret f' H')→T k a R f H)
  (hp: ∀f H,P f H→T k rest Q f H):T k (.seq (.block id (.loop a)) rest) Q f H:=
 bU J n h0 fun n f H R hJ hN hX hR hE=>hr n f H R hJ hN (fun f' H' h=>hX f' H' (hp f' H' h)) hR
end
structure PI (p q:List Int) (v:Int) (a b i j:Nat):Prop where
 sg:Sg a b p q
 lo:a+1≤i
 ij:i≤j+1
 jb:j<b
 ge:a≤j
 va:el q a=v
 lt: ∀x,a<x→x<i→el q x<v
 gt: ∀x,j<x→x<b→v≤el q x
section
variable {p q:List Int} {v:Int} {a b i j:Nat}
theorem PI.up (h:PI p q v a b i j) (hij:i≤j) (hx:el q i<v):PI p q v a b (i+1) j:=⟨h.sg,by have:=h.lo;omega,by omega,h.jb,h.ge,h.va,fun x h1 h2=>by
 rcases Nat.lt_or_ge x i with h3|h3
 ·exact h.lt x h1 h3
 ·obtain rfl:x=i:=by omega
  exact hx,h.gt⟩
theorem PI.dn (h:PI p q v a b i j) (hij:i≤j) (hx: ¬el q j<v):PI p q v a b i (j-1):=⟨h.sg,h.lo,by have:=h.lo;omega,by have:=h.jb;omega,by have:=h.lo;omega,h.va,h.lt,fun x h1 h2=>by
 rcases Nat.lt_or_ge j x with h3|h3
 ·exact h.gt x h3 h2
 ·obtain rfl:x=j:=by have:=h.lo;omega
  omega⟩
theorem PI.keep (h:PI p q v a b i j) (hs:j<i∨ ¬(el q i<v)) (hij:i≤j):j-1<i∨ ¬(el q i<v):=by
 rcases hs with hs|hs
 ·omega
 ·exact .inr hs
theorem PI.ex (h:PI p q v a b i j) (hb:b≤p.length) (h1:i<j) (h2: ¬el q i<v) (h3:el q j<v):PI p (swp q i j) v a b (i+1) (j-1):=by
 have hl:=h.sg.len
 have lo:=h.lo
 have jb:=h.jb
 refine ⟨h.sg.trans (.swp (by omega) (by omega) (by omega) (by omega) (by omega)),by omega,by omega,by omega,by omega,?_,fun x x1 x2=>?_,fun x x1 x2=>?_⟩
 ·rw [lT (by omega) (by omega),if_neg (by omega),if_neg (by omega)];exact h.va
 ·rw [lT (by omega) (by omega),if_neg (by omega)]
  split
  ·exact h3
  ·exact h.lt x x1 (by omega)
 ·rw [lT (by omega) (by omega)]
  split
  ·omega
  ·rw [if_neg (by omega)]
   exact h.gt x (by omega) x2
theorem PI.fin (h:PI p q v a b i j) (hb:b≤p.length) (h1:j<i):Sg a b p (swp q j a)∧(∀x,a≤x→x<j→el (swp q j a) x≤el (swp q j a) j)∧(∀x,j<x→x<b→el (swp q j a) j≤el (swp q j a) x):=by
 have hl:=h.sg.len
 have lo:=h.lo
 have jb:=h.jb
 have ge:=h.ge
 have ij:=h.ij
 have ej:el (swp q j a) j=v:=by
  rw [lT (by omega) (by omega)]
  split
  ·rename_i e;rw [e];exact h.va
  ·rw [if_pos rfl];exact h.va
 refine ⟨h.sg.trans (.swp (by omega) (by omega) (by omega) (by omega) (by omega)),fun x x1 x2=>?_,fun x x1 x2=>?_⟩
 ·rw [ej,lT (by omega) (by omega)]
  split
  ·exact Int.le_of_lt (h.lt j (by omega) (by omega))
  ·rw [if_neg (by omega)]
   exact Int.le_of_lt (h.lt x (by omega) (by omega))
 ·rw [ej,lT (by omega) (by omega),if_neg (by omega),if_neg (by omega)]
  exact h.gt x x1 x2
end
structure kC (p q:List Int) (v:Int) (a b i j:Nat):Prop where
 sg:Sg a b p q
 lo:a+1≤i
 ij:i≤j+1
 jb:j<b
 ge:a≤j
 va:el q a=v
 lt: ∀x,a<x→x<i→el q x≤v
 gt: ∀x,j<x→x<b→v<el q x
section
variable {p q:List Int} {v:Int} {a b i j:Nat}
theorem kC.upE (h:kC p q v a b i j) (hij:i≤j) (hx: ¬v<el q i):kC p q v a b (i+1) j:=⟨h.sg,by have:=h.lo;omega,by omega,h.jb,h.ge,h.va,fun x h1 h2=>by
 rcases Nat.lt_or_ge x i with h3|h3
 ·exact h.lt x h1 h3
 ·obtain rfl:x=i:=by omega
  omega,h.gt⟩
theorem kC.dnE (h:kC p q v a b i j) (hij:i≤j) (hx:v<el q j):kC p q v a b i (j-1):=⟨h.sg,h.lo,by have:=h.lo;omega,by have:=h.jb;omega,by have:=h.lo;omega,h.va,h.lt,fun x h1 h2=>by
 rcases Nat.lt_or_ge j x with h3|h3
 ·exact h.gt x h3 h2
 ·obtain rfl:x=j:=by have:=h.lo;omega
  exact hx⟩
theorem kC.agp (h:kC p q v a b i j) (hs:j<i∨ ¬(¬v<el q i)) (hij:i≤j):j-1<i∨ ¬(¬v<el q i):=by
 rcases hs with hs|hs
 ·omega
 ·exact .inr hs
theorem kC.exE (h:kC p q v a b i j) (hb:b≤p.length) (h1:i<j) (h2:v<el q i) (h3: ¬v<el q j):kC p (swp q i j) v a b (i+1) (j-1):=by
 have hl:=h.sg.len
 have lo:=h.lo
 have jb:=h.jb
 refine ⟨h.sg.trans (.swp (by omega) (by omega) (by omega) (by omega) (by omega)),by omega,by omega,by omega,by omega,?_,fun x x1 x2=>?_,fun x x1 x2=>?_⟩
 ·rw [lT (by omega) (by omega),if_neg (by omega),if_neg (by omega)];exact h.va
 ·rw [lT (by omega) (by omega),if_neg (by omega)]
  split
  ·omega
  ·exact h.lt x x1 (by omega)
 ·rw [lT (by omega) (by omega)]
  split
  ·exact h2
  ·rw [if_neg (by omega)]
   exact h.gt x (by omega) x2
end
theorem PI.start {p:List Int} {a b t:Nat} (hb:b≤p.length) (h1:a≤t) (h2:t<b):PI p (swp p a t) (el p t) a b (a+1) (b-1):=⟨.swp (by omega) (by omega) (by omega) (by omega) hb,by omega,by omega,by omega,by omega,by
 rw [lT (by omega) (by omega)]
 split
 ·rename_i e;rw [e]
 ·rw [if_pos rfl],fun x x1 x2=>by omega,fun x x1 x2=>by omega⟩
theorem kC.start {p:List Int} {a b t:Nat} (hb:b≤p.length) (h1:a≤t) (h2:t<b):kC p (swp p a t) (el p t) a b (a+1) (b-1):=⟨.swp (by omega) (by omega) (by omega) (by omega) hb,by omega,by omega,by omega,by omega,by
 rw [lT (by omega) (by omega)]
 split
 ·rename_i e;rw [e]
 ·rw [if_pos rfl],fun x x1 x2=>by omega,fun x x1 x2=>by omega⟩
theorem af0 {p:List Int} {a b t:Nat} {K:Value→BH→Prop} (hpl:p.length≤1000) (hb:b≤p.length) (h1:a≤t) (h2:t<b)
  (hK: ∀q mid al,Sg a b p q→a≤mid→mid<b→(∀x,a≤x→x<mid→el q x≤el q mid)→(∀x,mid<x→x<b→el q mid≤el q x)→K (.tuple ⟨[I (mid:Nat), .bool al]⟩) [some (q.map I)]):
  aQ false ZB [S 0 0 p.length 1,I a,I b,I t] [some (p.map I)] K:=by
 have hp0:=PI.start hb h1 h2
 have hps:(p.set a (el p t)).length=p.length:=by simp
 have hb1:(b:Int)-1=((b-1:Nat):Int):=by omega
 have ha1:(a:Int)+1=((a+1:Nat):Int):=by omega
 refine bF aa7 ?_;simp only [bV,aI]
 refine au fun Kr hKr=>?_;simp (disch:=omega) only [RA,↓reduceIte,Nat.reduceEqDiff,RD];refine hKr _ _ ?_;clear hKr Kr;(try simp only [RN,reduceIte]);try refine ah rfl ?_
 refine au fun Kr hKr=>?_;simp (disch:=omega) only [RA,↓reduceIte,Nat.reduceEqDiff,RD,hps];refine hKr _ _ ?_;clear hKr Kr;(try simp only [RN,reduceIte]);try refine ah rfl ?_
 refine au fun Kr hKr=>?_;simp (disch:=omega) only [RA,↓reduceIte,Nat.reduceEqDiff,RD,hb1,ha1];refine hKr _ _ ?_;clear hKr Kr;(try simp only [RN,reduceIte]);try refine ah rfl ?_
 have hsw:(p.set a (el p t)).set t (el p a)=swp p a t:=rfl
 rw [hsw]
 generalize el p t=v at hp0
 generalize swp p a t=q at hp0
 clear hsw hps
 obtain ⟨i0,hi0⟩: ∃i0,i0=a+1:=⟨_,rfl⟩
 obtain ⟨j,hj⟩: ∃j,j=b-1:=⟨_,rfl⟩
 rw [←hi0,←hj] at hp0
 rw [←hi0] at ha1
 rw [←hj] at hb1
 simp only [←hi0,←hj]
 clear hi0 hj
 refine wK (fun m f H'=> ∃i,i0≤i∧PI p q v a b i j∧m=j+1-i∧f 0=S 0 0 p.length 1∧f 1=I a∧f 10=I i∧f 11=I j∧H'=[some (q.map I)]) (fun f H'=> ∃i,i0≤i∧PI p q v a b i j∧(j<i∨ ¬(el q i<v))∧f 0=S 0 0 p.length 1∧f 1=I a∧f 10=I i∧f 11=I j∧H'=[some (q.map I)]) (j+1-i0) ?_ ?_ ?_
 ·refine ⟨_,_,Gh.refl,i0,Nat.le_refl _,hp0,rfl,?_,?_,?_,?_,rfl⟩
  any_goals (simp (disch:=omega) only [RA,↓reduceIte,Nat.reduceEqDiff,RD,RE, *]<;>rfl)
 ·clear hp0 ha1 hb1
  rintro m f H' R2 ⟨i,hi0,hp,rfl,g0,g1,g10,g11,rfl⟩ gB hX2 hR2
  simp only [bV.l0,aI]
  have bW:=hp.sg.len
  have hge:=hp.ge
  have hjb:=hp.jb
  have hva:=hp.va
  have hlo:=hp.lo
  by_cases hij:i≤j
  ·refine au fun Kr hKr=>?_;simp (disch:=omega) only [RA,↓reduceIte,Nat.reduceEqDiff,RD,g0,g1,g10,g11,hij,bW,hva]
   refine rH ?_
   simp (disch:=omega) only [RA,↓reduceIte,Nat.reduceEqDiff,RD]
   refine hKr _ _ ?_;clear hKr Kr;(try simp only [aK,aP,aN]);(try simp only [RN,reduceIte]);try refine ah rfl ?_
   refine aX (p:=el q i<v) (by simp only [RA,↓reduceIte,Nat.reduceEqDiff]<;>rfl) (by (try simp only [RB])<;>first|done|exact Iff.rfl|omega|simp) (fun hc=>?_) (fun hc=>?_)<;>(try simp only [RN,reduceIte])<;>(try refine ah rfl ?_)
   ·(first|refine bP rfl ?_|refine bQ rfl ?_);(try simp only [RN,reduceIte]);try refine ah rfl ?_
    refine bH fun Kr hKr=>?_;simp (disch:=omega) only [RA,↓reduceIte,Nat.reduceEqDiff,RD,g10];refine hKr _ _ ?_;clear hKr Kr
    refine gB (j+1-(i+1)) _ _ _ _ (by omega) Gh.refl ⟨i+1,by omega,hp.up hij hc,rfl,?_,?_,?_,?_,rfl⟩
    any_goals (simp (disch:=omega) only [RA,↓reduceIte,Nat.reduceEqDiff,RD,RE, *]<;>rfl)
   ·refine hX2 _ _ ⟨i,hi0,hp, .inr (by first|exact hc|exact fun h=>h hc|exact fun h=>hc h),?_,?_,?_,?_,rfl⟩
    any_goals (simp (disch:=omega) only [RA,↓reduceIte,Nat.reduceEqDiff,RD,RE, *]<;>rfl)
  ·refine au fun Kr hKr=>?_;simp (disch:=omega) only [RA,↓reduceIte,Nat.reduceEqDiff,RD,g10,g11,hij];refine hKr _ _ ?_;clear hKr Kr;(try simp only [RN,reduceIte]);try refine ah rfl ?_
   refine dG (t:=false) (by simp (disch:=omega) only [RA,↓reduceIte,Nat.reduceEqDiff,RD]) ?_;(try simp only [RN,reduceIte]);try refine ah rfl ?_
   refine hX2 _ _ ⟨i,hi0,hp, .inl (by omega),?_,?_,?_,?_,rfl⟩
   any_goals (simp (disch:=omega) only [RA,↓reduceIte,Nat.reduceEqDiff,RD,RE, *]<;>rfl)
 ·clear hp0 ha1 hb1
  rintro f H' ⟨i,hi0,hp0,hs,g0,g1,g10,g11,rfl⟩
  clear hi0
  obtain ⟨j0,hj0⟩: ∃j0,j0=j:=⟨_,rfl⟩
  rw [←hj0] at hp0 g11 hs
  clear hj0 j
  refine wK (fun m f H'=> ∃j,j≤j0∧PI p q v a b i j∧j=m∧(j<i∨ ¬(el q i<v))∧f 0=S 0 0 p.length 1∧f 1=I a∧f 10=I i∧f 11=I j∧H'=[some (q.map I)]) (fun f H'=> ∃j,j≤j0∧PI p q v a b i j∧(j<i∨ ¬(el q i<v))∧(j<i∨ ¬(¬el q j<v))∧f 0=S 0 0 p.length 1∧f 1=I a∧f 10=I i∧f 11=I j∧H'=[some (q.map I)]) (j0) ?_ ?_ ?_
  ·refine ⟨_,_,Gh.refl,j0,Nat.le_refl _,hp0,rfl,hs,?_,?_,?_,?_,rfl⟩
   any_goals (simp (disch:=omega) only [RA,↓reduceIte,Nat.reduceEqDiff,RD,RE, *]<;>rfl)
  ·clear hp0 g0 g1 g10 g11 hs
   rintro m f H' R2 ⟨j,hj0,hp,rfl,hs,g0,g1,g10,g11,rfl⟩ gB hX2 hR2
   simp only [bV.l1,aI]
   have bW:=hp.sg.len
   have hge:=hp.ge
   have hjb:=hp.jb
   have hva:=hp.va
   have hlo:=hp.lo
   by_cases hij:i≤j
   ·refine au fun Kr hKr=>?_;simp (disch:=omega) only [RA,↓reduceIte,Nat.reduceEqDiff,RD,g0,g1,g10,g11,hij,bW,hva]
    refine rH ?_
    simp (disch:=omega) only [RA,↓reduceIte,Nat.reduceEqDiff,RD]
    refine hKr _ _ ?_;clear hKr Kr;(try simp only [aK,aP,aN]);(try simp only [RN,reduceIte]);try refine ah rfl ?_
    refine aX (p:= ¬el q j<v) (by simp only [RA,↓reduceIte,Nat.reduceEqDiff]<;>rfl) (by (try simp only [RB])<;>first|done|exact Iff.rfl|omega|simp) (fun hc=>?_) (fun hc=>?_)<;>(try simp only [RN,reduceIte])<;>(try refine ah rfl ?_)
    ·(first|refine bP rfl ?_|refine bQ rfl ?_);(try simp only [RN,reduceIte]);try refine ah rfl ?_
     have hj1:(j:Int)-1=((j-1:Nat):Int):=by omega
     refine bH fun Kr hKr=>?_;simp (disch:=omega) only [RA,↓reduceIte,Nat.reduceEqDiff,RD,g11,hj1];refine hKr _ _ ?_;clear hKr Kr
     refine gB (j-1) _ _ _ _ (by omega) Gh.refl ⟨j-1,by omega,hp.dn hij hc,rfl,hp.keep hs hij,?_,?_,?_,?_,rfl⟩
     any_goals (simp (disch:=omega) only [RA,↓reduceIte,Nat.reduceEqDiff,RD,RE, *]<;>rfl)
    ·refine hX2 _ _ ⟨j,hj0,hp,hs, .inr (by first|exact hc|exact fun h=>h hc|exact fun h=>hc h),?_,?_,?_,?_,rfl⟩
     any_goals (simp (disch:=omega) only [RA,↓reduceIte,Nat.reduceEqDiff,RD,RE, *]<;>rfl)
   ·refine au fun Kr hKr=>?_;simp (disch:=omega) only [RA,↓reduceIte,Nat.reduceEqDiff,RD,g10,g11,hij];refine hKr _ _ ?_;clear hKr Kr;(try simp only [RN,reduceIte]);try refine ah rfl ?_
    refine dG (t:=false) (by simp (disch:=omega) only [RA,↓reduceIte,Nat.reduceEqDiff,RD]) ?_;(try simp only [RN,reduceIte]);try refine ah rfl ?_
    refine hX2 _ _ ⟨j,hj0,hp,hs, .inl (by omega),?_,?_,?_,?_,rfl⟩
    any_goals (simp (disch:=omega) only [RA,↓reduceIte,Nat.reduceEqDiff,RD,RE, *]<;>rfl)
  ·clear hp0 g0 g1 g10 g11 hs
   rintro f H' ⟨j,hj0,hp,hs,hs2,g0,g1,g10,g11,rfl⟩
   have bW:=hp.sg.len
   have hge:=hp.ge
   have hjb:=hp.jb
   have hva:=hp.va
   have hlo:=hp.lo
   (try simp only [RN,reduceIte]);try refine ah rfl ?_
   refine au fun Kr hKr=>?_;simp (disch:=omega) only [RA,↓reduceIte,Nat.reduceEqDiff,RD,g10,g11];refine hKr _ _ ?_;clear hKr Kr;(try simp only [RN,reduceIte]);try refine ah rfl ?_
   refine aX (p:=j<i) (by simp only [RA,↓reduceIte,Nat.reduceEqDiff]<;>rfl) (by (try simp only [RB])<;>first|done|exact Iff.rfl|omega|simp) (fun hc=>?_) (fun hc=>?_)<;>(try simp only [RN,reduceIte])<;>(try refine ah rfl ?_)
   ·have lQ:(q.set j (el q a)).length=p.length:=by simp [bW]
    refine au fun Kr hKr=>?_;simp (disch:=omega) only [RA,↓reduceIte,Nat.reduceEqDiff,RD,g0,g1,g11,bW,lQ];refine hKr _ _ ?_;clear hKr Kr;(try simp only [RN,reduceIte]);try refine ah rfl ?_
    refine au fun Kr hKr=>?_;simp (disch:=omega) only [RA,↓reduceIte,Nat.reduceEqDiff,RD,g11];refine hKr _ _ ?_;clear hKr Kr;(try simp only [RN,reduceIte]);try refine ah rfl ?_
    refine aS (by simp (disch:=omega) only [RA,↓reduceIte,Nat.reduceEqDiff,RD,aG,aO];rfl) aC.refl ?_;simp only [aH]
    obtain ⟨r1,r2,r3⟩:=hp.fin hb hc
    exact hK (swp q j a) j true r1 (by omega) (by omega) r2 r3
   ·have hq1: ¬el q i<v:=by rcases hs with h|h;omega;exact h
    have hq2:el q j<v:=by rcases hs2 with h|h;omega;omega
    have hij:i<j:=by
     rcases Nat.lt_or_ge i j with h|h
     ·exact h
     ·have:i=j:=by omega
      subst this
      exact absurd hq2 hq1
    have lQ:(q.set i (el q j)).length=p.length:=by simp [bW]
    have hj1:(j:Int)-1=((j-1:Nat):Int):=by omega
    have hi1:(i:Int)+1=((i+1:Nat):Int):=by omega
    have hp':=hp.ex hb hij hq1 hq2
    have yG:(q.set i (el q j)).set j (el q i)=swp q i j:=rfl
    refine au fun Kr hKr=>?_;simp (disch:=omega) only [RA,↓reduceIte,Nat.reduceEqDiff,RD,g0,g10,g11,bW,lQ];refine hKr _ _ ?_;clear hKr Kr;(try simp only [RN,reduceIte]);try refine ah rfl ?_
    refine au fun Kr hKr=>?_;simp (disch:=omega) only [RA,↓reduceIte,Nat.reduceEqDiff,RD,g10,hi1];refine hKr _ _ ?_;clear hKr Kr;(try simp only [RN,reduceIte]);try refine ah rfl ?_
    refine au fun Kr hKr=>?_;simp (disch:=omega) only [RA,↓reduceIte,Nat.reduceEqDiff,RD,g11,hj1];refine hKr _ _ ?_;clear hKr Kr;(try simp only [RN,reduceIte]);try refine ah rfl ?_
    rw [yG]
    refine bU (fun m f H'=> ∃(q:List Int) (i j:Nat),PI p q v a b i j∧m=j+1-i∧f 0=S 0 0 p.length 1∧f 1=I a∧f 10=I i∧f 11=I j∧H'=[some (q.map I)]) (j-1+1-(i+1)) ?_ ?_
    ·refine ⟨_,_,Gh.refl,swp q i j,i+1,j-1,hp',rfl,?_,?_,?_,?_,rfl⟩
     any_goals (simp (disch:=omega) only [RA,↓reduceIte,Nat.reduceEqDiff,RD,RE, *]<;>rfl)
    ·clear bW hge hjb hva hlo hc hq1 hq2 hij lQ hj1 hi1 hp' yG hp hs hs2 g0 g1 g10 g11 hj0
     rintro m f H' R ⟨q,i0,j,hp0,rfl,g0,g1,g10,g11,rfl⟩ hN hX hR hE
     simp only [bV.l4,aI]
     (first|refine bP rfl ?_|refine bQ rfl ?_);(try simp only [RN,reduceIte]);try refine ah rfl ?_
     refine wK (fun m f H'=> ∃i,i0≤i∧PI p q v a b i j∧m=j+1-i∧f 0=S 0 0 p.length 1∧f 1=I a∧f 10=I i∧f 11=I j∧H'=[some (q.map I)]) (fun f H'=> ∃i,i0≤i∧PI p q v a b i j∧(j<i∨ ¬(el q i<v))∧f 0=S 0 0 p.length 1∧f 1=I a∧f 10=I i∧f 11=I j∧H'=[some (q.map I)]) (j+1-i0) ?_ ?_ ?_
     ·refine ⟨_,_,Gh.refl,i0,Nat.le_refl _,hp0,rfl,?_,?_,?_,?_,rfl⟩
      any_goals (simp (disch:=omega) only [RA,↓reduceIte,Nat.reduceEqDiff,RD,RE, *]<;>rfl)
     ·clear g0 g1 g10 g11
      rintro m f H' R2 ⟨i,hi0,hp,rfl,g0,g1,g10,g11,rfl⟩ gB hX2 hR2
      simp only [bV.l2,aI]
      have bW:=hp.sg.len
      have hge:=hp.ge
      have hjb:=hp.jb
      have hva:=hp.va
      have hlo:=hp.lo
      by_cases hij:i≤j
      ·refine au fun Kr hKr=>?_;simp (disch:=omega) only [RA,↓reduceIte,Nat.reduceEqDiff,RD,g0,g1,g10,g11,hij,bW,hva]
       refine rH ?_
       simp (disch:=omega) only [RA,↓reduceIte,Nat.reduceEqDiff,RD]
       refine hKr _ _ ?_;clear hKr Kr;(try simp only [aK,aP,aN]);(try simp only [RN,reduceIte]);try refine ah rfl ?_
       refine aX (p:=el q i<v) (by simp only [RA,↓reduceIte,Nat.reduceEqDiff]<;>rfl) (by (try simp only [RB])<;>first|done|exact Iff.rfl|omega|simp) (fun hc=>?_) (fun hc=>?_)<;>(try simp only [RN,reduceIte])<;>(try refine ah rfl ?_)
       ·(first|refine bP rfl ?_|refine bQ rfl ?_);(try simp only [RN,reduceIte]);try refine ah rfl ?_
        refine bH fun Kr hKr=>?_;simp (disch:=omega) only [RA,↓reduceIte,Nat.reduceEqDiff,RD,g10];refine hKr _ _ ?_;clear hKr Kr
        refine gB (j+1-(i+1)) _ _ _ _ (by omega) Gh.refl ⟨i+1,by omega,hp.up hij hc,rfl,?_,?_,?_,?_,rfl⟩
        any_goals (simp (disch:=omega) only [RA,↓reduceIte,Nat.reduceEqDiff,RD,RE, *]<;>rfl)
       ·refine hX2 _ _ ⟨i,hi0,hp, .inr (by first|exact hc|exact fun h=>h hc|exact fun h=>hc h),?_,?_,?_,?_,rfl⟩
        any_goals (simp (disch:=omega) only [RA,↓reduceIte,Nat.reduceEqDiff,RD,RE, *]<;>rfl)
      ·refine au fun Kr hKr=>?_;simp (disch:=omega) only [RA,↓reduceIte,Nat.reduceEqDiff,RD,g10,g11,hij];refine hKr _ _ ?_;clear hKr Kr;(try simp only [RN,reduceIte]);try refine ah rfl ?_
       refine dG (t:=false) (by simp (disch:=omega) only [RA,↓reduceIte,Nat.reduceEqDiff,RD]) ?_;(try simp only [RN,reduceIte]);try refine ah rfl ?_
       refine hX2 _ _ ⟨i,hi0,hp, .inl (by omega),?_,?_,?_,?_,rfl⟩
       any_goals (simp (disch:=omega) only [RA,↓reduceIte,Nat.reduceEqDiff,RD,RE, *]<;>rfl)
     ·clear g0 g1 g10 g11
      rintro f H' ⟨i,hi0,hp1,hs,g0,g1,g10,g11,rfl⟩
      obtain ⟨j0,wL⟩: ∃j0,j0=j:=⟨_,rfl⟩
      rw [←wL] at hp1 g11 hs
      rw [←wL] at hN
      clear hp0 wL j
      refine wK (fun m f H'=> ∃j,j≤j0∧PI p q v a b i j∧j=m∧(j<i∨ ¬(el q i<v))∧f 0=S 0 0 p.length 1∧f 1=I a∧f 10=I i∧f 11=I j∧H'=[some (q.map I)]) (fun f H'=> ∃j,j≤j0∧PI p q v a b i j∧(j<i∨ ¬(el q i<v))∧(j<i∨ ¬(¬el q j<v))∧f 0=S 0 0 p.length 1∧f 1=I a∧f 10=I i∧f 11=I j∧H'=[some (q.map I)]) (j0) ?_ ?_ ?_
      ·refine ⟨_,_,Gh.refl,j0,Nat.le_refl _,hp1,rfl,hs,?_,?_,?_,?_,rfl⟩
       any_goals (simp (disch:=omega) only [RA,↓reduceIte,Nat.reduceEqDiff,RD,RE, *]<;>rfl)
      ·clear g0 g1 g10 g11 hs
       rintro m f H' R2 ⟨j,hj0,hp,rfl,hs,g0,g1,g10,g11,rfl⟩ gB hX2 hR2
       simp only [bV.l3,aI]
       have bW:=hp.sg.len
       have hge:=hp.ge
       have hjb:=hp.jb
       have hva:=hp.va
       have hlo:=hp.lo
       by_cases hij:i≤j
       ·refine au fun Kr hKr=>?_;simp (disch:=omega) only [RA,↓reduceIte,Nat.reduceEqDiff,RD,g0,g1,g10,g11,hij,bW,hva]
        refine rH ?_
        simp (disch:=omega) only [RA,↓reduceIte,Nat.reduceEqDiff,RD]
        refine hKr _ _ ?_;clear hKr Kr;(try simp only [aK,aP,aN]);(try simp only [RN,reduceIte]);try refine ah rfl ?_
        refine aX (p:= ¬el q j<v) (by simp only [RA,↓reduceIte,Nat.reduceEqDiff]<;>rfl) (by (try simp only [RB])<;>first|done|exact Iff.rfl|omega|simp) (fun hc=>?_) (fun hc=>?_)<;>(try simp only [RN,reduceIte])<;>(try refine ah rfl ?_)
        ·(first|refine bP rfl ?_|refine bQ rfl ?_);(try simp only [RN,reduceIte]);try refine ah rfl ?_
         have hj1:(j:Int)-1=((j-1:Nat):Int):=by omega
         refine bH fun Kr hKr=>?_;simp (disch:=omega) only [RA,↓reduceIte,Nat.reduceEqDiff,RD,g11,hj1];refine hKr _ _ ?_;clear hKr Kr
         refine gB (j-1) _ _ _ _ (by omega) Gh.refl ⟨j-1,by omega,hp.dn hij hc,rfl,hp.keep hs hij,?_,?_,?_,?_,rfl⟩
         any_goals (simp (disch:=omega) only [RA,↓reduceIte,Nat.reduceEqDiff,RD,RE, *]<;>rfl)
        ·refine hX2 _ _ ⟨j,hj0,hp,hs, .inr (by first|exact hc|exact fun h=>h hc|exact fun h=>hc h),?_,?_,?_,?_,rfl⟩
         any_goals (simp (disch:=omega) only [RA,↓reduceIte,Nat.reduceEqDiff,RD,RE, *]<;>rfl)
       ·refine au fun Kr hKr=>?_;simp (disch:=omega) only [RA,↓reduceIte,Nat.reduceEqDiff,RD,g10,g11,hij];refine hKr _ _ ?_;clear hKr Kr;(try simp only [RN,reduceIte]);try refine ah rfl ?_
        refine dG (t:=false) (by simp (disch:=omega) only [RA,↓reduceIte,Nat.reduceEqDiff,RD]) ?_;(try simp only [RN,reduceIte]);try refine ah rfl ?_
        refine hX2 _ _ ⟨j,hj0,hp,hs, .inl (by omega),?_,?_,?_,?_,rfl⟩
        any_goals (simp (disch:=omega) only [RA,↓reduceIte,Nat.reduceEqDiff,RD,RE, *]<;>rfl)
      ·clear g0 g1 g10 g11 hs
       rintro f H' ⟨j,hj0,hp,hs,hs2,g0,g1,g10,g11,rfl⟩
       have bW:=hp.sg.len
       have hge:=hp.ge
       have hjb:=hp.jb
       have hva:=hp.va
       have hlo:=hp.lo
       (try simp only [RN,reduceIte]);try refine ah rfl ?_
       refine au fun Kr hKr=>?_;simp (disch:=omega) only [RA,↓reduceIte,Nat.reduceEqDiff,RD,g10,g11];refine hKr _ _ ?_;clear hKr Kr;(try simp only [RN,reduceIte]);try refine ah rfl ?_
       refine aX (p:=j<i) (by simp only [RA,↓reduceIte,Nat.reduceEqDiff]<;>rfl) (by (try simp only [RB])<;>first|done|exact Iff.rfl|omega|simp) (fun hc=>?_) (fun hc=>?_)<;>(try simp only [RN,reduceIte])<;>(try refine ah rfl ?_)
       ·refine hX _ _ ?_
        have lQ:(q.set j (el q a)).length=p.length:=by simp [bW]
        refine au fun Kr hKr=>?_;simp (disch:=omega) only [RA,↓reduceIte,Nat.reduceEqDiff,RD,g0,g1,g11,bW,lQ];refine hKr _ _ ?_;clear hKr Kr;(try simp only [RN,reduceIte]);try refine ah rfl ?_
        refine au fun Kr hKr=>?_;simp (disch:=omega) only [RA,↓reduceIte,Nat.reduceEqDiff,RD,g11];refine hKr _ _ ?_;clear hKr Kr;(try simp only [RN,reduceIte]);try refine ah rfl ?_
        refine aS (by simp (disch:=omega) only [RA,↓reduceIte,Nat.reduceEqDiff,RD,aG,aO];rfl) aC.refl ?_;simp only [aH]
        obtain ⟨r1,r2,r3⟩:=hp.fin hb hc
        exact hK (swp q j a) j false r1 (by omega) (by omega) r2 r3
       ·have hq1: ¬el q i<v:=by rcases hs with h|h;omega;exact h
        have hq2:el q j<v:=by rcases hs2 with h|h;omega;omega
        have hij:i<j:=by
         rcases Nat.lt_or_ge i j with h|h
         ·exact h
         ·have:i=j:=by omega
          subst this
          exact absurd hq2 hq1
        have lQ:(q.set i (el q j)).length=p.length:=by simp [bW]
        have hj1:(j:Int)-1=((j-1:Nat):Int):=by omega
        have hi1:(i:Int)+1=((i+1:Nat):Int):=by omega
        have hp':=hp.ex hb hij hq1 hq2
        have yG:(q.set i (el q j)).set j (el q i)=swp q i j:=rfl
        refine au fun Kr hKr=>?_;simp (disch:=omega) only [RA,↓reduceIte,Nat.reduceEqDiff,RD,g0,g10,g11,bW,lQ];refine hKr _ _ ?_;clear hKr Kr;(try simp only [RN,reduceIte]);try refine ah rfl ?_
        rw [yG]
        refine au fun Kr hKr=>?_;simp (disch:=omega) only [RA,↓reduceIte,Nat.reduceEqDiff,RD,g10,hi1];refine hKr _ _ ?_;clear hKr Kr;(try simp only [RN,reduceIte]);try refine ah rfl ?_
        refine bH fun Kr hKr=>?_;simp (disch:=omega) only [RA,↓reduceIte,Nat.reduceEqDiff,RD,g11,hj1];refine hKr _ _ ?_;clear hKr Kr
        refine hN (j-1+1-(i+1)) _ _ _ _ (by omega) Gh.refl ⟨swp q i j,i+1,j-1,hp',rfl,?_,?_,?_,?_,rfl⟩
        any_goals (simp (disch:=omega) only [RA,↓reduceIte,Nat.reduceEqDiff,RD,RE, *]<;>rfl)
end Go.Bm
namespace Go.Bm
open Go Go.Am
theorem afZ {p:List Int} {a b t:Nat} {K:Value→BH→Prop} (hpl:p.length≤1000) (hb:b≤p.length) (h1:a≤t) (h2:t<b) (hge: ∀x,a≤x→x<b→el p t≤el p x)
  (hK: ∀q mid,Sg a b p q→a<mid→mid≤b→(∀x,a≤x→x<mid→el q x=el p t)→(∀x,a≤x→x<b→el p t≤el q x)→K (I (mid:Nat)) [some (q.map I)]):
  aQ false ZA [S 0 0 p.length 1,I a,I b,I t] [some (p.map I)] K:=by
 have hp0:=kC.start hb h1 h2
 have hps:(p.set a (el p t)).length=p.length:=by simp
 have hb1:(b:Int)-1=((b-1:Nat):Int):=by omega
 have ha1:(a:Int)+1=((a+1:Nat):Int):=by omega
 have hfin: ∀q i j,kC p q (el p t) a b i j→j<i→K (I (i:Nat)) [some (q.map I)]:=by
  intro q i j hp hji
  have h3:=hp.lo
  have h4:=hp.ij
  have h5:=hp.jb
  have hall: ∀x,a≤x→x<b→el p t≤el q x:=fun x x1 x2=>by
   obtain ⟨y,y1,y2,y3⟩:=hp.sg.src x x1 x2
   rw [y3]
   exact hge y y1 y2
  refine hK q i hp.sg (by omega) (by omega) (fun x x1 x2=>?_) hall
  rcases Nat.lt_or_ge a x with h|h
  ·have:=hp.lt x h x2
   have:=hall x x1 (by omega)
   omega
  ·obtain rfl:x=a:=by omega
   exact hp.va
 refine bF aa6 ?_;simp only [fP,aI]
 refine au fun Kr hKr=>?_;simp (disch:=omega) only [RA,↓reduceIte,Nat.reduceEqDiff,RD];refine hKr _ _ ?_;clear hKr Kr;(try simp only [RN,reduceIte]);try refine ah rfl ?_
 refine au fun Kr hKr=>?_;simp (disch:=omega) only [RA,↓reduceIte,Nat.reduceEqDiff,RD,hps];refine hKr _ _ ?_;clear hKr Kr;(try simp only [RN,reduceIte]);try refine ah rfl ?_
 refine au fun Kr hKr=>?_;simp (disch:=omega) only [RA,↓reduceIte,Nat.reduceEqDiff,RD,hb1,ha1];refine hKr _ _ ?_;clear hKr Kr;(try simp only [RN,reduceIte]);try refine ah rfl ?_
 have hsw:(p.set a (el p t)).set t (el p a)=swp p a t:=rfl
 rw [hsw]
 clear hge hK
 generalize el p t=v at hp0 hfin
 generalize swp p a t=q at hp0
 clear hsw hps
 refine bU (fun m f H'=> ∃(q:List Int) (i j:Nat),kC p q v a b i j∧m=j+1-i∧f 0=S 0 0 p.length 1∧f 1=I a∧f 9=I i∧f 10=I j∧H'=[some (q.map I)]) (b-1+1-(a+1)) ?_ ?_
 ·refine ⟨_,_,Gh.refl,q,a+1,b-1,hp0,rfl,?_,?_,?_,?_,rfl⟩
  any_goals (simp (disch:=omega) only [RA,↓reduceIte,Nat.reduceEqDiff,RD,RE, *]<;>rfl)
 ·clear hp0 ha1 hb1 q
  rintro m f H' R ⟨q,i0,j,hp0,rfl,g0,g1,g9,g10,rfl⟩ hN hX hR hE
  simp only [fP.l2,aI]
  (first|refine bP rfl ?_|refine bQ rfl ?_);(try simp only [RN,reduceIte]);try refine ah rfl ?_
  refine wK (fun m f H'=> ∃i,i0≤i∧kC p q v a b i j∧m=j+1-i∧f 0=S 0 0 p.length 1∧f 1=I a∧f 9=I i∧f 10=I j∧H'=[some (q.map I)]) (fun f H'=> ∃i,i0≤i∧kC p q v a b i j∧(j<i∨ ¬(¬v<el q i))∧f 0=S 0 0 p.length 1∧f 1=I a∧f 9=I i∧f 10=I j∧H'=[some (q.map I)]) (j+1-i0) ?_ ?_ ?_
  ·refine ⟨_,_,Gh.refl,i0,Nat.le_refl _,hp0,rfl,?_,?_,?_,?_,rfl⟩
   any_goals (simp (disch:=omega) only [RA,↓reduceIte,Nat.reduceEqDiff,RD,RE, *]<;>rfl)
  ·clear g0 g1 g9 g10
   rintro m f H' R2 ⟨i,hi0,hp,rfl,g0,g1,g9,g10,rfl⟩ gB hX2 hR2
   simp only [fP.l0,aI]
   have bW:=hp.sg.len
   have hge:=hp.ge
   have hjb:=hp.jb
   have hva:=hp.va
   have hlo:=hp.lo
   by_cases hij:i≤j
   ·refine au fun Kr hKr=>?_;simp (disch:=omega) only [RA,↓reduceIte,Nat.reduceEqDiff,RD,g0,g1,g9,g10,hij,bW,hva]
    refine rH ?_
    simp (disch:=omega) only [RA,↓reduceIte,Nat.reduceEqDiff,RD]
    refine hKr _ _ ?_;clear hKr Kr;(try simp only [aK,aP,aN]);(try simp only [RN,reduceIte]);try refine ah rfl ?_
    refine aX (p:= ¬v<el q i) (by simp only [RA,↓reduceIte,Nat.reduceEqDiff]<;>rfl) (by (try simp only [RB])<;>first|done|exact Iff.rfl|omega|simp) (fun hc=>?_) (fun hc=>?_)<;>(try simp only [RN,reduceIte])<;>(try refine ah rfl ?_)
    ·(first|refine bP rfl ?_|refine bQ rfl ?_);(try simp only [RN,reduceIte]);try refine ah rfl ?_
     refine bH fun Kr hKr=>?_;simp (disch:=omega) only [RA,↓reduceIte,Nat.reduceEqDiff,RD,g9];refine hKr _ _ ?_;clear hKr Kr
     refine gB (j+1-(i+1)) _ _ _ _ (by omega) Gh.refl ⟨i+1,by omega,hp.upE hij hc,rfl,?_,?_,?_,?_,rfl⟩
     any_goals (simp (disch:=omega) only [RA,↓reduceIte,Nat.reduceEqDiff,RD,RE, *]<;>rfl)
    ·refine hX2 _ _ ⟨i,hi0,hp, .inr (by first|exact hc|exact fun h=>h hc|exact fun h=>hc h),?_,?_,?_,?_,rfl⟩
     any_goals (simp (disch:=omega) only [RA,↓reduceIte,Nat.reduceEqDiff,RD,RE, *]<;>rfl)
   ·refine au fun Kr hKr=>?_;simp (disch:=omega) only [RA,↓reduceIte,Nat.reduceEqDiff,RD,g9,g10,hij];refine hKr _ _ ?_;clear hKr Kr;(try simp only [RN,reduceIte]);try refine ah rfl ?_
    refine dG (t:=false) (by simp (disch:=omega) only [RA,↓reduceIte,Nat.reduceEqDiff,RD]) ?_;(try simp only [RN,reduceIte]);try refine ah rfl ?_
    refine hX2 _ _ ⟨i,hi0,hp, .inl (by omega),?_,?_,?_,?_,rfl⟩
    any_goals (simp (disch:=omega) only [RA,↓reduceIte,Nat.reduceEqDiff,RD,RE, *]<;>rfl)
  ·clear g0 g1 g9 g10
   rintro f H' ⟨i,hi0,hp1,hs,g0,g1,g9,g10,rfl⟩
   obtain ⟨j0,wL⟩: ∃j0,j0=j:=⟨_,rfl⟩
   rw [←wL] at hp1 g10 hs
   rw [←wL] at hN
   clear hp0 wL j
   refine wK (fun m f H'=> ∃j,j≤j0∧kC p q v a b i j∧j=m∧(j<i∨ ¬(¬v<el q i))∧f 0=S 0 0 p.length 1∧f 1=I a∧f 9=I i∧f 10=I j∧H'=[some (q.map I)]) (fun f H'=> ∃j,j≤j0∧kC p q v a b i j∧(j<i∨ ¬(¬v<el q i))∧(j<i∨ ¬(v<el q j))∧f 0=S 0 0 p.length 1∧f 1=I a∧f 9=I i∧f 10=I j∧H'=[some (q.map I)]) (j0) ?_ ?_ ?_
   ·refine ⟨_,_,Gh.refl,j0,Nat.le_refl _,hp1,rfl,hs,?_,?_,?_,?_,rfl⟩
    any_goals (simp (disch:=omega) only [RA,↓reduceIte,Nat.reduceEqDiff,RD,RE, *]<;>rfl)
   ·clear g0 g1 g9 g10 hs
    rintro m f H' R2 ⟨j,hj0,hp,rfl,hs,g0,g1,g9,g10,rfl⟩ gB hX2 hR2
    simp only [fP.l1,aI]
    have bW:=hp.sg.len
    have hge:=hp.ge
    have hjb:=hp.jb
    have hva:=hp.va
    have hlo:=hp.lo
    by_cases hij:i≤j
    ·refine au fun Kr hKr=>?_;simp (disch:=omega) only [RA,↓reduceIte,Nat.reduceEqDiff,RD,g0,g1,g9,g10,hij,bW,hva]
     refine rH ?_
     simp (disch:=omega) only [RA,↓reduceIte,Nat.reduceEqDiff,RD]
     refine hKr _ _ ?_;clear hKr Kr;(try simp only [aK,aP,aN]);(try simp only [RN,reduceIte]);try refine ah rfl ?_
     refine aX (p:=v<el q j) (by simp only [RA,↓reduceIte,Nat.reduceEqDiff]<;>rfl) (by (try simp only [RB])<;>first|done|exact Iff.rfl|omega|simp) (fun hc=>?_) (fun hc=>?_)<;>(try simp only [RN,reduceIte])<;>(try refine ah rfl ?_)
     ·(first|refine bP rfl ?_|refine bQ rfl ?_);(try simp only [RN,reduceIte]);try refine ah rfl ?_
      have hj1:(j:Int)-1=((j-1:Nat):Int):=by omega
      refine bH fun Kr hKr=>?_;simp (disch:=omega) only [RA,↓reduceIte,Nat.reduceEqDiff,RD,g10,hj1];refine hKr _ _ ?_;clear hKr Kr
      refine gB (j-1) _ _ _ _ (by omega) Gh.refl ⟨j-1,by omega,hp.dnE hij hc,rfl,hp.agp hs hij,?_,?_,?_,?_,rfl⟩
      any_goals (simp (disch:=omega) only [RA,↓reduceIte,Nat.reduceEqDiff,RD,RE, *]<;>rfl)
     ·refine hX2 _ _ ⟨j,hj0,hp,hs, .inr (by first|exact hc|exact fun h=>h hc|exact fun h=>hc h),?_,?_,?_,?_,rfl⟩
      any_goals (simp (disch:=omega) only [RA,↓reduceIte,Nat.reduceEqDiff,RD,RE, *]<;>rfl)
    ·refine au fun Kr hKr=>?_;simp (disch:=omega) only [RA,↓reduceIte,Nat.reduceEqDiff,RD,g9,g10,hij];refine hKr _ _ ?_;clear hKr Kr;(try simp only [RN,reduceIte]);try refine ah rfl ?_
     refine dG (t:=false) (by simp (disch:=omega) only [RA,↓reduceIte,Nat.reduceEqDiff,RD]) ?_;(try simp only [RN,reduceIte]);try refine ah rfl ?_
     refine hX2 _ _ ⟨j,hj0,hp,hs, .inl (by omega),?_,?_,?_,?_,rfl⟩
     any_goals (simp (disch:=omega) only [RA,↓reduceIte,Nat.reduceEqDiff,RD,RE, *]<;>rfl)
   ·clear g0 g1 g9 g10 hs
    rintro f H' ⟨j,hj0,hp,hs,hs2,g0,g1,g9,g10,rfl⟩
    have bW:=hp.sg.len
    have hge:=hp.ge
    have hjb:=hp.jb
    have hva:=hp.va
    have hlo:=hp.lo
    (try simp only [RN,reduceIte]);try refine ah rfl ?_
    refine au fun Kr hKr=>?_;simp (disch:=omega) only [RA,↓reduceIte,Nat.reduceEqDiff,RD,g9,g10];refine hKr _ _ ?_;clear hKr Kr;(try simp only [RN,reduceIte]);try refine ah rfl ?_
    refine aX (p:=j<i) (by simp only [RA,↓reduceIte,Nat.reduceEqDiff]<;>rfl) (by (try simp only [RB])<;>first|done|exact Iff.rfl|omega|simp) (fun hc=>?_) (fun hc=>?_)<;>(try simp only [RN,reduceIte])<;>(try refine ah rfl ?_)
    ·refine hX _ _ ?_
     refine au fun Kr hKr=>?_;simp (disch:=omega) only [RA,↓reduceIte,Nat.reduceEqDiff,RD,g9];refine hKr _ _ ?_;clear hKr Kr;(try simp only [RN,reduceIte]);try refine ah rfl ?_
     refine aS (by simp (disch:=omega) only [RA,↓reduceIte,Nat.reduceEqDiff,RD,aG,aO];rfl) aC.refl ?_;simp only [aH]
     exact hfin q i j hp hc
    ·have hq1:v<el q i:=by rcases hs with h|h;omega;omega
     have hq2: ¬v<el q j:=by rcases hs2 with h|h;omega;exact h
     have hij:i<j:=by
      rcases Nat.lt_or_ge i j with h|h
      ·exact h
      ·have:i=j:=by omega
       subst this
       exact absurd hq1 hq2
     have lQ:(q.set i (el q j)).length=p.length:=by simp [bW]
     have hj1:(j:Int)-1=((j-1:Nat):Int):=by omega
     have hi1:(i:Int)+1=((i+1:Nat):Int):=by omega
     have hp':=hp.exE hb hij hq1 hq2
     have yG:(q.set i (el q j)).set j (el q i)=swp q i j:=rfl
     refine au fun Kr hKr=>?_;simp (disch:=omega) only [RA,↓reduceIte,Nat.reduceEqDiff,RD,g0,g9,g10,bW,lQ];refine hKr _ _ ?_;clear hKr Kr;(try simp only [RN,reduceIte]);try refine ah rfl ?_
     rw [yG]
     refine au fun Kr hKr=>?_;simp (disch:=omega) only [RA,↓reduceIte,Nat.reduceEqDiff,RD,g9,hi1];refine hKr _ _ ?_;clear hKr Kr;(try simp only [RN,reduceIte]);try refine ah rfl ?_
     refine bH fun Kr hKr=>?_;simp (disch:=omega) only [RA,↓reduceIte,Nat.reduceEqDiff,RD,g10,hj1];refine hKr _ _ ?_;clear hKr Kr
     refine hN (j-1+1-(i+1)) _ _ _ _ (by omega) Gh.refl ⟨swp q i j,i+1,j-1,hp',rfl,?_,?_,?_,?_,rfl⟩
     any_goals (simp (disch:=omega) only [RA,↓reduceIte,Nat.reduceEqDiff,RD,RE, *]<;>rfl)
end Go.Bm
namespace Go.Bm
open Go Go.Am
theorem afX {p:List Int} {a b:Nat} {K:Value→BH→Prop} (hpl:p.length≤1000) (hb:b≤p.length) (hab:a<b) (hK: ∀q,Sg a b p q→K (.tuple ⟨[]⟩) [some (q.map I)]):
  aQ false Zx [S 0 0 p.length 1,I a,I b] [some (p.map I)] K:=by
 have hb1:(b:Int)-1=((b-1:Nat):Int):=by omega
 refine bF aa3 ?_;simp only [kF,aI]
 refine au fun Kr hKr=>?_;simp (disch:=omega) only [RA,↓reduceIte,Nat.reduceEqDiff,RD];refine hKr _ _ ?_;clear hKr Kr;(try simp only [RN,reduceIte]);try refine ah rfl ?_
 refine au fun Kr hKr=>?_;simp (disch:=omega) only [RA,↓reduceIte,Nat.reduceEqDiff,RD,hb1];refine hKr _ _ ?_;clear hKr Kr;(try simp only [RN,reduceIte]);try refine ah rfl ?_
 refine Ba ?_
 refine bU (fun m f H'=> ∃(q:List Int) (i j:Nat),Sg a b p q∧a≤i∧i≤j+1∧j<b∧m=j+1-i∧f 0=S 0 0 p.length 1∧f 6=I i∧f 7=I j∧H'=[some (q.map I)]) (b-1+1-a) ?_ ?_
 ·refine ⟨_,_,Gh.refl,p,a,b-1, .refl,by omega,by omega,by omega,rfl,?_,?_,?_,rfl⟩
  any_goals (simp (disch:=omega) only [RA,↓reduceIte,Nat.reduceEqDiff,RD,RE, *]<;>rfl)
 ·rintro m f H' R ⟨q,i,j,hq,h1,h2,h3,rfl,g0,g6,g7,rfl⟩ hN hX hR hE
  simp only [kF.l0,aI]
  have bW:=hq.len
  refine au fun Kr hKr=>?_;simp (disch:=omega) only [RA,↓reduceIte,Nat.reduceEqDiff,RD,g6,g7];refine hKr _ _ ?_;clear hKr Kr;(try simp only [RN,reduceIte]);try refine ah rfl ?_
  refine aX (p:=i<j) (by simp only [RA,↓reduceIte,Nat.reduceEqDiff]<;>rfl) (by (try simp only [RB])<;>first|done|exact Iff.rfl|omega|simp) (fun hc=>?_) (fun hc=>?_)<;>(try simp only [RN,reduceIte])<;>(try refine ah rfl ?_)
  ·have lQ:(q.set i (el q j)).length=p.length:=by simp [bW]
   have hj1:(j:Int)-1=((j-1:Nat):Int):=by omega
   have hi1:(i:Int)+1=((i+1:Nat):Int):=by omega
   have hsw:(q.set i (el q j)).set j (el q i)=swp q i j:=rfl
   (first|refine bP rfl ?_|refine bQ rfl ?_);(try simp only [RN,reduceIte]);try refine ah rfl ?_
   refine au fun Kr hKr=>?_;simp (disch:=omega) only [RA,↓reduceIte,Nat.reduceEqDiff,RD,g0,g6,g7,bW,lQ];refine hKr _ _ ?_;clear hKr Kr;(try simp only [RN,reduceIte]);try refine ah rfl ?_
   rw [hsw]
   refine au fun Kr hKr=>?_;simp (disch:=omega) only [RA,↓reduceIte,Nat.reduceEqDiff,RD,g6,hi1];refine hKr _ _ ?_;clear hKr Kr;(try simp only [RN,reduceIte]);try refine ah rfl ?_
   refine bH fun Kr hKr=>?_;simp (disch:=omega) only [RA,↓reduceIte,Nat.reduceEqDiff,RD,g7,hj1];refine hKr _ _ ?_;clear hKr Kr
   refine hN (j-1+1-(i+1)) _ _ _ _ (by omega) Gh.refl ⟨swp q i j,i+1,j-1,hq.trans (.swp (by omega) (by omega) (by omega) (by omega) (by omega)),by omega,by omega,by omega,rfl,?_,?_,?_,rfl⟩
   any_goals (simp (disch:=omega) only [RA,↓reduceIte,Nat.reduceEqDiff,RD,RE, *]<;>rfl)
  ·refine hX _ _ ?_
   refine vM ?_
   refine aS (by simp (disch:=omega) only [RA,↓reduceIte,Nat.reduceEqDiff,RD,aG,aO];rfl) aC.refl ?_;simp only [aH]
   exact hK q hq
theorem af6 {p:List Int} {K:Value→BH→Prop} (hpl:p.length≤1000) (hK:K (.tuple ⟨[]⟩) [some (p.reverse.map I)]):
  aQ false Zp [S 0 0 p.length 1] [some (p.map I)] K:=by
 refine bF aaW ?_;simp only [lX,aI]
 refine au fun Kr hKr=>?_;simp (disch:=omega) only [RA,↓reduceIte,Nat.reduceEqDiff,RD];refine hKr _ _ ?_;clear hKr Kr;(try simp only [RN,reduceIte]);try refine ah rfl ?_
 refine Ba ?_
 refine bU (fun m f H'=> ∃(q:List Int) (i:Nat) (j:Int),q.length=p.length∧j=(p.length:Int)-1-i∧2*(i:Int)≤p.length+1∧(∀x,x<p.length→el q x=if x<i∨p.length≤x+i then el p (p.length-1-x) else el p x)∧m=p.length-i∧f 0=S 0 0 p.length 1∧f 2=I i∧f 3=I j∧H'=[some (q.map I)]) (p.length) ?_ ?_
 ·refine ⟨_,_,Gh.refl,p,0,(p.length:Int)-1,rfl,by omega,by omega,fun x hx=>?_,rfl,?_,?_,?_,rfl⟩
  any_goals (simp (disch:=omega) only [RA,↓reduceIte,Nat.reduceEqDiff,RD,RE, *]<;>rfl)
  rw [if_neg (by omega)]
 ·rintro m f H' R ⟨q,i,j,bW,hj,h2,hq,rfl,g0,g2,g3,rfl⟩ hN hX hR hE
  simp only [lX.l0,aI]
  refine au fun Kr hKr=>?_;simp (disch:=omega) only [RA,↓reduceIte,Nat.reduceEqDiff,RD,g2,g3];refine hKr _ _ ?_;clear hKr Kr;(try simp only [RN,reduceIte]);try refine ah rfl ?_
  refine aX (p:=(i:Int)<j) (by simp only [RA,↓reduceIte,Nat.reduceEqDiff]<;>rfl) (by (try simp only [RB])<;>first|done|exact Iff.rfl|omega|simp) (fun hc=>?_) (fun hc=>?_)<;>(try simp only [RN,reduceIte])<;>(try refine ah rfl ?_)
  ·obtain ⟨k,rfl⟩: ∃k:Nat,j=k:=⟨j.toNat,by omega⟩
   have lQ:(q.set i (el q k)).length=p.length:=by simp [bW]
   have hsw:(q.set i (el q k)).set k (el q i)=swp q i k:=rfl
   (first|refine bP rfl ?_|refine bQ rfl ?_);(try simp only [RN,reduceIte]);try refine ah rfl ?_
   refine au fun Kr hKr=>?_;simp (disch:=omega) only [RA,↓reduceIte,Nat.reduceEqDiff,RD,g0,g2,g3,bW,lQ];refine hKr _ _ ?_;clear hKr Kr;(try simp only [RN,reduceIte]);try refine ah rfl ?_
   rw [hsw]
   refine bH fun Kr hKr=>?_;simp (disch:=omega) only [RA,↓reduceIte,Nat.reduceEqDiff,RD,g2,g3];refine hKr _ _ ?_;clear hKr Kr
   refine hN (p.length-(i+1)) _ _ _ _ (by omega) Gh.refl ⟨swp q i k,i+1,(k:Int)-1,by rw [Wh,bW],by omega,by omega,fun x hx=>?_,rfl,?_,?_,?_,rfl⟩
   any_goals (simp (disch:=omega) only [RA,↓reduceIte,Nat.reduceEqDiff,RD,RE, *]<;>rfl)
   rw [lT (by omega) (by omega)]
   split
   ·rw [hq i (by omega),if_neg (by omega),if_pos (by omega)]
    congr 1
    omega
   ·split
    ·rw [hq k (by omega),if_neg (by omega),if_pos (by omega)]
     congr 1
     omega
    ·rw [hq x hx]
     by_cases hc2:x<i∨p.length≤x+i
     ·rw [if_pos hc2,if_pos (by omega)]
     ·rw [if_neg hc2,if_neg (by omega)]
  ·refine hX _ _ ?_
   refine vM ?_
   refine aS (by simp (disch:=omega) only [RA,↓reduceIte,Nat.reduceEqDiff,RD,aG,aO];rfl) aC.refl ?_;simp only [aH]
   have:q=p.reverse:=Yr (by simp [bW]) fun x hx=>by
    have e:el p.reverse x=el p (p.length-1-x):=by
     simp only [el,List.getD]
     rw [List.getElem?_reverse (by omega)]
    rw [e,hq x (by omega)]
    split
    ·rfl
    ·congr 1
     omega
   rw [this]
   exact hK
theorem yD {v:Value}:aY none [v] 0=some v:=rfl
theorem agq {H:BH} {b:Nat} {v:Value} {k:IntKind} {n:Int}:dP (some [v]) H b 0 1 (.int k n)=some (undef,H.set b (some [.int k n])):=rfl
theorem Jw {p:List Int} {a b:Nat} {s:Nat} {K:Value→BH→Prop} (hpl:p.length≤1000) (ha:a<p.length) (hb:b<p.length) (hs:s≤1000)
  (hK: ∀(x y s':Nat),(x=a∧y=b)∨(x=b∧y=a)→s'≤s+1→K (.tuple ⟨[I x,I y]⟩) [some (p.map I),some [I s']]):
  aQ false ZH [S 0 0 p.length 1,I a,I b,P 1 0] [some (p.map I),some [I s]] K:=by
 have hs1:(s:Int)+1=((s+1:Nat):Int):=by omega
 refine bF abe ?_;simp only [mZ,aI]
 refine au fun Kr hKr=>?_;simp (disch:=omega) only [RA,↓reduceIte,Nat.reduceEqDiff,RD];refine hKr _ _ ?_;clear hKr Kr;(try simp only [RN,reduceIte]);try refine ah rfl ?_
 refine au fun Kr hKr=>?_;simp (disch:=omega) only [RA,↓reduceIte,Nat.reduceEqDiff,RD]
 refine rH ?_
 simp (disch:=omega) only [RA,↓reduceIte,Nat.reduceEqDiff,RD]
 refine hKr _ _ ?_;clear hKr Kr;(try simp only [aK,aP,aN]);(try simp only [RN,reduceIte]);try refine ah rfl ?_
 refine aX (p:=el p b<el p a) (by simp only [RA,↓reduceIte,Nat.reduceEqDiff]<;>rfl) (by (try simp only [RB])<;>first|done|exact Iff.rfl|omega|simp) (fun hc=>?_) (fun hc=>?_)<;>(try simp only [RN,reduceIte])<;>(try refine ah rfl ?_)
 ·refine au fun Kr hKr=>?_;simp (disch:=omega) only [RA,↓reduceIte,Nat.reduceEqDiff,RD,yD,agq,hs1];refine hKr _ _ ?_;clear hKr Kr;(try simp only [RN,reduceIte]);try refine ah rfl ?_
  refine au fun Kr hKr=>?_;simp (disch:=omega) only [RA,↓reduceIte,Nat.reduceEqDiff,RD];refine hKr _ _ ?_;clear hKr Kr;(try simp only [RN,reduceIte]);try refine ah rfl ?_
  refine aS (by simp (disch:=omega) only [RA,↓reduceIte,Nat.reduceEqDiff,RD,aG,aO];rfl) aC.refl ?_;simp only [aH]
  exact hK b a (s+1) (.inr ⟨rfl,rfl⟩) (by omega)
 ·refine au fun Kr hKr=>?_;simp (disch:=omega) only [RA,↓reduceIte,Nat.reduceEqDiff,RD];refine hKr _ _ ?_;clear hKr Kr;(try simp only [RN,reduceIte]);try refine ah rfl ?_
  refine aS (by simp (disch:=omega) only [RA,↓reduceIte,Nat.reduceEqDiff,RD,aG,aO];rfl) aC.refl ?_;simp only [aH]
  exact hK a b s (.inl ⟨rfl,rfl⟩) (by omega)
theorem agr {p:List Int} {a b c:Nat} {s:Nat} {K:Value→BH→Prop} (hpl:p.length≤1000) (ha:a<p.length) (hb:b<p.length) (hc:c<p.length) (hs:s≤900)
  (hK: ∀(x s':Nat),x=a∨x=b∨x=c→s'≤s+3→K (I x) [some (p.map I),some [I s']]):
  aQ false ZF [S 0 0 p.length 1,I a,I b,I c,P 1 0] [some (p.map I),some [I s]] K:=by
 refine bF abb ?_;simp only [mY,aI]
 refine au fun Kr hKr=>?_;simp (disch:=omega) only [RA,↓reduceIte,Nat.reduceEqDiff,RD];refine hKr _ _ ?_;clear hKr Kr;(try simp only [RN,reduceIte]);try refine ah rfl ?_
 refine au fun Kr hKr=>?_;simp (disch:=omega) only [RA,↓reduceIte,Nat.reduceEqDiff,RD]
 refine Jw hpl ha hb (by omega) ?_
 intro a1 b1 s1 h1 hs1
 have ha1:a1<p.length:=by omega
 have hb1:b1<p.length:=by omega
 simp (disch:=omega) only [RA,↓reduceIte,Nat.reduceEqDiff,RD]
 refine hKr _ _ ?_;clear hKr Kr;(try simp only [aK,aP,aN]);(try simp only [RN,reduceIte]);try refine ah rfl ?_
 refine au fun Kr hKr=>?_;simp (disch:=omega) only [RA,↓reduceIte,Nat.reduceEqDiff,RD]
 refine Jw hpl hb1 hc (by omega) ?_
 intro b2 c2 s2 h2 hs2
 have hb2:b2<p.length:=by omega
 simp (disch:=omega) only [RA,↓reduceIte,Nat.reduceEqDiff,RD]
 refine hKr _ _ ?_;clear hKr Kr;(try simp only [aK,aP,aN]);(try simp only [RN,reduceIte]);try refine ah rfl ?_
 refine au fun Kr hKr=>?_;simp (disch:=omega) only [RA,↓reduceIte,Nat.reduceEqDiff,RD]
 refine Jw hpl ha1 hb2 (by omega) ?_
 intro a3 b3 s3 h3 hs3
 simp (disch:=omega) only [RA,↓reduceIte,Nat.reduceEqDiff,RD]
 refine hKr _ _ ?_;clear hKr Kr;(try simp only [aK,aP,aN]);(try simp only [RN,reduceIte]);try refine ah rfl ?_
 refine au fun Kr hKr=>?_;simp (disch:=omega) only [RA,↓reduceIte,Nat.reduceEqDiff,RD];refine hKr _ _ ?_;clear hKr Kr;(try simp only [RN,reduceIte]);try refine ah rfl ?_
 refine aS (by simp (disch:=omega) only [RA,↓reduceIte,Nat.reduceEqDiff,RD,aG,aO];rfl) aC.refl ?_;simp only [aH]
 exact hK b3 s3 (by omega) (by omega)
theorem afW {p:List Int} {a b:Nat} {K:Value→BH→Prop} (hpl:p.length≤1000) (hb:b≤p.length) (h8:a+8≤b) (h50:b<a+50)
  (hK: ∀(x:Nat) (h:Int),a≤x→x<b→K (.tuple ⟨[I x,I h]⟩) [some (p.map I)]):
  aQ false Zw [S 0 0 p.length 1,I a,I b] [some (p.map I)] K:=by
 obtain ⟨l,hl⟩: ∃l,l=b-a:=⟨_,rfl⟩
 have hbl:(b:Int)-(a:Int)=(l:Int):=by omega
 have hd:(l:Int).tdiv 4=((l/4:Nat):Int):=(Int.ofNat_tdiv l 4).symm
 obtain ⟨q,hq⟩: ∃q,q=l/4:=⟨_,rfl⟩
 rw [←hq] at hd
 have e1:(a:Int)+(q:Int)*1=((a+q:Nat):Int):=by omega
 have e2:(a:Int)+(q:Int)*2=((a+q*2:Nat):Int):=by omega
 have e3:(a:Int)+(q:Int)*3=((a+q*3:Nat):Int):=by omega
 have e4:(q:Int)*1=q:=by omega
 have e5:(a:Int)+(q:Int)=((a+q:Nat):Int):=by omega
 refine bF aa2 ?_;simp only [fB,aI]
 refine au fun Kr hKr=>?_;simp (disch:=omega) only [RA,↓reduceIte,Nat.reduceEqDiff,RD];refine hKr _ _ ?_;clear hKr Kr;(try simp only [RN,reduceIte]);try refine ah rfl ?_
 refine au fun Kr hKr=>?_;simp (disch:=omega) only [RA,↓reduceIte,Nat.reduceEqDiff,RD,hbl];refine hKr _ _ ?_;clear hKr Kr;(try simp only [RN,reduceIte]);try refine ah rfl ?_
 refine au fun Kr hKr=>?_;simp (disch:=omega) only [RA,↓reduceIte,Nat.reduceEqDiff,RD];refine hKr _ _ ?_;clear hKr Kr;(try simp only [RN,reduceIte]);try refine ah rfl ?_
 refine au fun Kr hKr=>?_;simp (disch:=omega) only [RA,↓reduceIte,Nat.reduceEqDiff,Int.reduceEq,RD,hd,e1,e4,e5];refine hKr _ _ ?_;clear hKr Kr;(try simp only [RN,reduceIte]);try refine ah rfl ?_
 refine au fun Kr hKr=>?_;simp (disch:=omega) only [RA,↓reduceIte,Nat.reduceEqDiff,Int.reduceEq,RD,hd,e2];refine hKr _ _ ?_;clear hKr Kr;(try simp only [RN,reduceIte]);try refine ah rfl ?_
 refine au fun Kr hKr=>?_;simp (disch:=omega) only [RA,↓reduceIte,Nat.reduceEqDiff,Int.reduceEq,RD,hd,e3];refine hKr _ _ ?_;clear hKr Kr;(try simp only [RN,reduceIte]);try refine ah rfl ?_
 refine au fun Kr hKr=>?_;simp (disch:=omega) only [RA,↓reduceIte,Nat.reduceEqDiff,RD];refine hKr _ _ ?_;clear hKr Kr;(try simp only [RN,reduceIte]);try refine ah rfl ?_
 refine dG (t:=true) (by simp (disch:=omega) only [RA,↓reduceIte,Nat.reduceEqDiff,RD]) ?_;(try simp only [RN,reduceIte]);try refine ah rfl ?_
 refine au fun Kr hKr=>?_;simp (disch:=omega) only [RA,↓reduceIte,Nat.reduceEqDiff,RD];refine hKr _ _ ?_;clear hKr Kr;(try simp only [RN,reduceIte]);try refine ah rfl ?_
 refine dG (t:=false) (by simp (disch:=omega) only [RA,↓reduceIte,Nat.reduceEqDiff,RD]) ?_;(try simp only [RN,reduceIte]);try refine ah rfl ?_
 refine au fun Kr hKr=>?_;simp (disch:=omega) only [RA,↓reduceIte,Nat.reduceEqDiff,RD]
 refine agr (s:=0) hpl (by omega) (by omega) (by omega) (by omega) ?_
 intro x s' hx hs'
 simp (disch:=omega) only [RA,↓reduceIte,Nat.reduceEqDiff,RD]
 refine hKr _ _ ?_;clear hKr Kr;(try simp only [aK,aP,aN]);(try simp only [RN,reduceIte]);try refine ah rfl ?_
 refine au fun Kr hKr=>?_;simp (disch:=omega) only [RA,↓reduceIte,Nat.reduceEqDiff,RD,yD];refine hKr _ _ ?_;clear hKr Kr;(try simp only [RN,reduceIte]);try refine ah rfl ?_
 (first|refine bP rfl ?_|refine bQ rfl ?_);(try simp only [RN,reduceIte]);try refine ah rfl ?_
 refine au fun Kr hKr=>?_;simp (disch:=omega) only [RA,↓reduceIte,Nat.reduceEqDiff,RD];refine hKr _ _ ?_;clear hKr Kr;(try simp only [RN,reduceIte]);try refine ah rfl ?_
 refine qN (p:=s'=0) (by simp only [RA,↓reduceIte,Nat.reduceEqDiff]<;>rfl) (by (try simp only [RB])<;>first|done|exact Iff.rfl|omega|simp) (fun hc=>?_) (fun hc=>?_)<;>(try simp only [RN,reduceIte])<;>(try refine ah rfl ?_)
 ·refine au fun Kr hKr=>?_;simp (disch:=omega) only [RA,↓reduceIte,Nat.reduceEqDiff,RD];refine hKr _ _ ?_;clear hKr Kr;(try simp only [RN,reduceIte]);try refine ah rfl ?_
  refine aS (by simp (disch:=omega) only [RA,↓reduceIte,Nat.reduceEqDiff,RD,aG,aO];rfl) (aC.nrm [0] rfl rfl (by simp only [RH]) (by simp only [aH,RH])) ?_;simp only [aH]
  exact hK x 1 (by omega) (by omega)
 ·refine au fun Kr hKr=>?_;simp (disch:=omega) only [RA,↓reduceIte,Nat.reduceEqDiff,RD];refine hKr _ _ ?_;clear hKr Kr;(try simp only [RN,reduceIte]);try refine ah rfl ?_
  refine lW (t:=false) (by simp (disch:=omega) only [RA,↓reduceIte,Nat.reduceEqDiff,RD]) ?_;(try simp only [RN,reduceIte]);try refine ah rfl ?_
  refine au fun Kr hKr=>?_;simp (disch:=omega) only [RA,↓reduceIte,Nat.reduceEqDiff,RD];refine hKr _ _ ?_;clear hKr Kr;(try simp only [RN,reduceIte]);try refine ah rfl ?_
  refine aS (by simp (disch:=omega) only [RA,↓reduceIte,Nat.reduceEqDiff,RD,aG,aO];rfl) (aC.nrm [0] rfl rfl (by simp only [RH]) (by simp only [aH,RH])) ?_;simp only [aH]
  exact hK x 0 (by omega) (by omega)
theorem afY {p:List Int} {a b:Nat} {K:Value→BH→Prop} (hpl:p.length≤1000) (hb:b≤p.length) (hab:a<b) (h50:b<a+50) (hK: ∀r,(r=true→nK a b p)→K (.bool r) [some (p.map I)]):
  aQ false Zy [S 0 0 p.length 1,I a,I b] [some (p.map I)] K:=by
 have ha1:(a:Int)+1=((a+1:Nat):Int):=by omega
 have hl1:(b:Int)-(a:Int)=((b-a:Nat):Int):=by omega
 refine bF aa4 ?_;simp only [bZ,aI]
 refine au fun Kr hKr=>?_;simp (disch:=omega) only [RA,↓reduceIte,Nat.reduceEqDiff,RD];refine hKr _ _ ?_;clear hKr Kr;(try simp only [RN,reduceIte]);try refine ah rfl ?_
 refine au fun Kr hKr=>?_;simp (disch:=omega) only [RA,↓reduceIte,Nat.reduceEqDiff,RD,ha1];refine hKr _ _ ?_;clear hKr Kr;(try simp only [RN,reduceIte]);try refine ah rfl ?_
 refine au fun Kr hKr=>?_;simp (disch:=omega) only [RA,↓reduceIte,Nat.reduceEqDiff,RD];refine hKr _ _ ?_;clear hKr Kr;(try simp only [RN,reduceIte]);try refine ah rfl ?_
 refine bU (fun m f H'=>m=1∧f 0=S 0 0 p.length 1∧f 1=I a∧f 2=I b∧f 7=I (a+1:Nat)∧f 8=I 0∧H'=[some (p.map I)]) (1) ?_ ?_
 ·refine ⟨_,_,Gh.refl,rfl,?_,?_,?_,?_,?_,rfl⟩
  any_goals (simp (disch:=omega) only [RA,↓reduceIte,Nat.reduceEqDiff,RD,RE, *]<;>rfl)
 ·rintro m f H' R ⟨rfl,g0,g1,g2,g7,g8,rfl⟩ hN hX hR hE
  simp only [bZ.l3,aI]
  refine au fun Kr hKr=>?_;simp (disch:=omega) only [RA,↓reduceIte,Nat.reduceEqDiff,RD,g8];refine hKr _ _ ?_;clear hKr Kr;(try simp only [RN,reduceIte]);try refine ah rfl ?_
  refine dG (t:=true) (by simp (disch:=omega) only [RA,↓reduceIte,Nat.reduceEqDiff,RD]) ?_;(try simp only [RN,reduceIte]);try refine ah rfl ?_
  (first|refine bP rfl ?_|refine bQ rfl ?_);(try simp only [RN,reduceIte]);try refine ah rfl ?_
  refine wK (fun m f H'=> ∃i:Nat,a+1≤i∧i≤b∧nK a i p∧m=b-i∧f 0=S 0 0 p.length 1∧f 1=I a∧f 2=I b∧f 7=I i∧H'=[some (p.map I)]) (fun f H'=> ∃i:Nat,a+1≤i∧i≤b∧nK a i p∧f 0=S 0 0 p.length 1∧f 1=I a∧f 2=I b∧f 7=I i∧H'=[some (p.map I)]) (b-(a+1)) ?_ ?_ ?_
  ·refine ⟨_,_,Gh.refl,a+1,by omega,by omega, .one,rfl,?_,?_,?_,?_,rfl⟩
   any_goals (simp (disch:=omega) only [RA,↓reduceIte,Nat.reduceEqDiff,RD,RE, *]<;>rfl)
  ·clear g0 g1 g2 g7 g8
   rintro m f H' R2 ⟨i,hi1,hi2,hs,rfl,g0,g1,g2,g7,rfl⟩ gB hX2 hR2
   simp only [bZ.l0,aI]
   by_cases hib:i<b
   ·have ags:(i:Int)-1=((i-1:Nat):Int):=by omega
    have agt:(i:Int)+1=((i+1:Nat):Int):=by omega
    refine au fun Kr hKr=>?_;simp (disch:=omega) only [RA,↓reduceIte,Nat.reduceEqDiff,RD,g0,g2,g7,hib,ags]
    refine rH ?_
    simp (disch:=omega) only [RA,↓reduceIte,Nat.reduceEqDiff,RD]
    refine hKr _ _ ?_;clear hKr Kr;(try simp only [aK,aP,aN]);(try simp only [RN,reduceIte]);try refine ah rfl ?_
    refine aX (p:= ¬el p i<el p (i-1)) (by simp only [RA,↓reduceIte,Nat.reduceEqDiff]<;>rfl) (by (try simp only [RB])<;>first|done|exact Iff.rfl|omega|simp) (fun hc=>?_) (fun hc=>?_)<;>(try simp only [RN,reduceIte])<;>(try refine ah rfl ?_)
    ·(first|refine bP rfl ?_|refine bQ rfl ?_);(try simp only [RN,reduceIte]);try refine ah rfl ?_
     refine bH fun Kr hKr=>?_;simp (disch:=omega) only [RA,↓reduceIte,Nat.reduceEqDiff,RD,g7,agt];refine hKr _ _ ?_;clear hKr Kr
     refine gB (b-(i+1)) _ _ _ _ (by omega) Gh.refl ⟨i+1,by omega,by omega,fun x y h1 h2 h3=>?_,rfl,?_,?_,?_,?_,rfl⟩
     any_goals (simp (disch:=omega) only [RA,↓reduceIte,Nat.reduceEqDiff,RD,RE, *]<;>rfl)
     rcases Nat.lt_or_ge y i with h|h
     ·exact hs x y h1 h2 h
     ·obtain rfl:y=i:=by omega
      rcases Nat.lt_or_ge x y with h'|h'
      ·exact Int.le_trans (hs x (y-1) h1 (by omega) (by omega)) (by omega)
      ·obtain rfl:x=y:=by omega
       exact Int.le_refl _
    ·refine hX2 _ _ ⟨i,by omega,by omega,hs,?_,?_,?_,?_,rfl⟩
     any_goals (simp (disch:=omega) only [RA,↓reduceIte,Nat.reduceEqDiff,RD,RE, *]<;>rfl)
   ·refine au fun Kr hKr=>?_;simp (disch:=omega) only [RA,↓reduceIte,Nat.reduceEqDiff,RD,g2,g7,hib];refine hKr _ _ ?_;clear hKr Kr;(try simp only [RN,reduceIte]);try refine ah rfl ?_
    refine dG (t:=false) (by simp (disch:=omega) only [RA,↓reduceIte,Nat.reduceEqDiff,RD]) ?_;(try simp only [RN,reduceIte]);try refine ah rfl ?_
    refine hX2 _ _ ⟨i,by omega,by omega,hs,?_,?_,?_,?_,rfl⟩
    any_goals (simp (disch:=omega) only [RA,↓reduceIte,Nat.reduceEqDiff,RD,RE, *]<;>rfl)
  ·clear g0 g1 g2 g7 g8
   rintro f H' ⟨i,hi1,hi2,hs,g0,g1,g2,g7,rfl⟩
   (try simp only [RN,reduceIte]);try refine ah rfl ?_
   refine au fun Kr hKr=>?_;simp (disch:=omega) only [RA,↓reduceIte,Nat.reduceEqDiff,RD,g2,g7];refine hKr _ _ ?_;clear hKr Kr;(try simp only [RN,reduceIte]);try refine ah rfl ?_
   refine aX (p:=i=b) (by simp only [RA,↓reduceIte,Nat.reduceEqDiff]<;>rfl) (by (try simp only [RB])<;>first|done|exact Iff.rfl|omega|simp) (fun hc=>?_) (fun hc=>?_)<;>(try simp only [RN,reduceIte])<;>(try refine ah rfl ?_)
   ·refine au fun Kr hKr=>?_;simp (disch:=omega) only [RA,↓reduceIte,Nat.reduceEqDiff,RD];refine hKr _ _ ?_;clear hKr Kr;(try simp only [RN,reduceIte]);try refine ah rfl ?_
    refine hR _ _ ?_
    refine aS (by simp (disch:=omega) only [RA,↓reduceIte,Nat.reduceEqDiff,RD,aG,aO];rfl) aC.refl ?_;simp only [aH]
    subst hc
    exact hK true fun _=>hs
   ·refine au fun Kr hKr=>?_;simp (disch:=omega) only [RA,↓reduceIte,Nat.reduceEqDiff,RD,g1,g2,hl1];refine hKr _ _ ?_;clear hKr Kr;(try simp only [RN,reduceIte]);try refine ah rfl ?_
    refine dG (t:=true) (by simp (disch:=omega) only [RA,↓reduceIte,Nat.reduceEqDiff,RD]) ?_;(try simp only [RN,reduceIte]);try refine ah rfl ?_
    refine au fun Kr hKr=>?_;simp (disch:=omega) only [RA,↓reduceIte,Nat.reduceEqDiff,RD];refine hKr _ _ ?_;clear hKr Kr;(try simp only [RN,reduceIte]);try refine ah rfl ?_
    refine hR _ _ ?_
    refine aS (by simp (disch:=omega) only [RA,↓reduceIte,Nat.reduceEqDiff,RD,aG,aO];rfl) aC.refl ?_;simp only [aH]
    exact hK false fun h=>by cases h
end Go.Bm
