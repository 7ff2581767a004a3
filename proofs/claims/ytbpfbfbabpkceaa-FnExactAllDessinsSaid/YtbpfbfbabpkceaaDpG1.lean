/- DpKa, BmQ, DpDb, DpDc, DpTa, DpLa, DpLz, DpDh, BmP, BmR -/
import Derived.Test.YtbpfbfbabpkceaaBmT
import Derived.Test.YtbpfbfbabpkceaaDpG0
set_option linter.unusedVariables false
set_option linter.unusedSimpArgs false
set_option linter.unusedSectionVars false
namespace Go.Bm
open Go Go.Am
def pad (pre:List Nat):List Nat:=pre++List.replicate (16-pre.length) 0
def lv (n:Nat):Nat→List Nat→List (List Nat)
 |0,pre=>[pad pre]
 |m+1,pre=>(List.range n).flatMap fun x=>if x∈pre then [] else lv n m (pre++[x])
def iT (p:List Nat) (k i:Nat):List Nat:=(p.set k (nl p i)).set i (nl p k)
def sw (n:Nat):Nat→List Nat→Nat→List (List Nat)
 |0,p,k=>[p]
 |m+1,p,k=>(List.range m.succ).flatMap fun d=>sw n m (iT p k (k+d)) (k+1)
def PQ (n:Nat) (q:List Nat):Prop:=Perm q n∧q.length=16
theorem xP {pre:List Nat} (h:pre.length≤16):(pad pre).length=16:=by simp [pad];omega
theorem mW {pre:List Nat} {i:Nat}:nl (pad pre) i=if i<pre.length then nl pre i else 0:=by
 rw [pad,jF]
 split
 ·rfl
 ·rw [jA];split<;>rfl
theorem yU {α β:Type} {f:α→List β}: ∀{l:List α},l.Nodup→(∀a∈l,(f a).Nodup)→(∀a∈l,∀b∈l,a≠b→ ∀y∈f a,y∉f b)→(l.flatMap f).Nodup
 |[],_,_,_=>by simp
 |a::l,hn,h1,h2=>by
  rw [List.flatMap_cons,List.nodup_append]
  rw [List.nodup_cons] at hn
  refine ⟨h1 a (by simp),yU hn.2 (fun b hb=>h1 b (by simp [hb])) fun b hb c hc=>h2 b (by simp [hb]) c (by simp [hc]),fun x hx y hy e=>?_⟩
  subst e
  obtain ⟨b,hb,hxb⟩:=List.mem_flatMap.1 hy
  exact h2 a (by simp) b (by simp [hb]) (fun e=>hn.1 (e▸hb)) x hx hxb
section
variable {n:Nat}
structure kH (n:Nat) (pre:List Nat):Prop where
 eu:pre.Nodup
 lt: ∀x∈pre,x<n
 len:pre.length≤n
theorem lg (hn:1≤n∧n≤16): ∀(m:Nat) {pre:List Nat},kH n pre→pre.length+m=n→ ∀q,q∈lv n m pre↔PQ n q∧q.take pre.length=pre
 |0,pre,h,hm,q=>by
  rw [lv,List.mem_singleton]
  have hl:pre.length=n:=by omega
  constructor
  ·rintro rfl
   refine ⟨⟨.of hn (fun i h1 h2=>by rw [mW,if_neg (by omega)]) (fun i hi=>?_) (fun i j hi hj e=>?_),xP (by omega)⟩,?_⟩
   ·rw [mW,if_pos (by omega)]
    exact h.lt _ (eX (by omega))
   ·rw [mW,mW,if_pos (by omega),if_pos (by omega)] at e
    have:=yV h.eu (by omega) (by omega) e
    omega
   ·rw [pad,List.take_left]
  ·rintro ⟨⟨hp,gQ⟩,ht⟩
   refine kZ (by rw [gQ,xP (by omega)]) fun i hi=>?_
   rw [mW]
   by_cases hin:i<pre.length
   ·rw [if_pos hin,←ht]
    simp [nl,List.getD,List.getElem?_take,hin]
   ·rw [if_neg hin]
    exact hp.zero (by omega) (by omega)
 |m+1,pre,h,hm,q=>by
  rw [lv,List.mem_flatMap]
  constructor
  ·rintro ⟨x,hx,hq⟩
   split at hq
   ·simp at hq
   ·rename_i hxp
    have h':kH n (pre++[x]):=⟨by
     rw [List.nodup_append]
     exact ⟨h.eu,by simp,fun a ha b hb e=>by rw [List.mem_singleton] at hb;subst hb;subst e;exact hxp ha⟩,fun y hy=>by
     rcases List.mem_append.1 hy with hy|hy
     ·exact h.lt y hy
     ·rw [List.mem_singleton] at hy;subst hy;exact List.mem_range.1 hx,by simp;omega⟩
    obtain ⟨h1,h2⟩:=(lg hn m h' (by simp;omega) q).1 hq
    refine ⟨h1,?_⟩
    have:=congrArg (List.take pre.length) h2
    rwa [List.take_take,List.take_left,List.length_append,Nat.min_eq_left (by omega)] at this
  ·rintro ⟨⟨hp,gQ⟩,ht⟩
   have hin:pre.length<n:=by omega
   have hxn:=hp.lt hin
   have hnot:nl q pre.length∉pre:=fun hmem=>by
    obtain ⟨j,hj,he⟩:=jU hmem
    have:nl q j=nl pre j:=by
     rw [←ht]
     simp [nl,List.getD,List.getElem?_take,hj]
    have:=hp.inj (by omega) hin (this.trans he)
    omega
   refine ⟨nl q pre.length,List.mem_range.2 hxn,?_⟩
   rw [if_neg hnot]
   have h':kH n (pre++[nl q pre.length]):=⟨by
     rw [List.nodup_append]
     exact ⟨h.eu,by simp,fun a ha b hb e=>by rw [List.mem_singleton] at hb;subst hb;subst e;exact hnot ha⟩,fun y hy=>by
     rcases List.mem_append.1 hy with hy|hy
     ·exact h.lt y hy
     ·rw [List.mem_singleton] at hy;subst hy;exact hxn,by simp;omega⟩
   refine (lg hn m h' (by simp;omega) q).2 ⟨⟨hp,gQ⟩,?_⟩
   rw [List.length_append,List.length_singleton,List.take_add_one,ht]
   congr 1
   simp [nl,List.getD,show pre.length<q.length by omega]
theorem ES (hn:1≤n∧n≤16): ∀(m:Nat) {pre:List Nat},kH n pre→pre.length+m=n→(lv n m pre).Nodup
 |0,pre,_,_=>by simp [lv]
 |m+1,pre,h,hm=>by
  have h': ∀x,x<n→x∉pre→kH n (pre++[x]):=fun x hx hxp=>⟨by
     rw [List.nodup_append]
     exact ⟨h.eu,by simp,fun a ha b hb e=>by rw [List.mem_singleton] at hb;subst hb;subst e;exact hxp ha⟩,fun y hy=>by
     rcases List.mem_append.1 hy with hy|hy
     ·exact h.lt y hy
     ·rw [List.mem_singleton] at hy;subst hy;exact hx,by simp;omega⟩
  refine yU List.nodup_range (fun x hx=>?_) fun x hx y hy hxy q hq hq'=>?_
  ·split
   ·exact List.nodup_nil
   ·rename_i hxp
    exact ES hn m (h' x (List.mem_range.1 hx) hxp) (by simp;omega)
  ·split at hq
   ·simp at hq
   ·rename_i hxp
    split at hq'
    ·simp at hq'
    ·rename_i hyp
     have h1:=((lg hn m (h' x (List.mem_range.1 hx) hxp) (by simp;omega) q).1 hq).2
     have h2:=((lg hn m (h' y (List.mem_range.1 hy) hyp) (by simp;omega) q).1 hq').2
     rw [List.length_append,List.length_singleton] at h1 h2
     rw [h1] at h2
     have:=List.append_cancel_left h2
     simp at this
     exact hxy this
theorem yX {p:List Nat} {k i j:Nat} (hl:p.length=16) (hk:k<16) (hi:i<16):nl (iT p k i) j=if j=i then nl p k else if j=k then nl p i else nl p j:=by
 rw [iT,fU,fU,List.length_set,hl]
 by_cases e1:j=i
 ·rw [if_pos ⟨e1,by omega⟩,if_pos e1]
 ·rw [if_neg (by omega),if_neg e1]
  by_cases e2:j=k
  ·rw [if_pos ⟨e2,by omega⟩,if_pos e2]
  ·rw [if_neg (by omega),if_neg e2]
theorem vT {p:List Nat} {k i:Nat} (h:PQ n p) (hk:k<n) (hi:i<n):PQ n (iT p k i):=⟨h.1.swap h.2 hk hi,by rw [iT,List.length_set,List.length_set,h.2]⟩
theorem qL: ∀(m:Nat) {p:List Nat} {k:Nat},PQ n p→k+m=n→ ∀q,q∈sw n m p k↔PQ n q∧ ∀j,j<k→nl q j=nl p j
 |0,p,k,h,hm,q=>by
  rw [sw,List.mem_singleton]
  constructor
  ·rintro rfl
   exact ⟨h,fun _ _=>rfl⟩
  ·rintro ⟨hq,he⟩
   refine kZ (by rw [hq.2,h.2]) fun i hi=>?_
   rcases Nat.lt_or_ge i k with h1|h1
   ·exact he i h1
   ·rw [hq.1.zero (by omega) (by have:=hq.2;omega),h.1.zero (by omega) (by have:=hq.2;omega)]
 |m+1,p,k,h,hm,q=>by
  have hn:=h.1.1
  have hl:=h.2
  rw [sw,List.mem_flatMap]
  constructor
  ·rintro ⟨d,hd,hq⟩
   have hd':d<m+1:=List.mem_range.1 hd
   obtain ⟨h1,h2⟩:=(qL m (vT h (show k<n by omega) (show k+d<n by omega)) (by omega) q).1 hq
   refine ⟨h1,fun j hj=>?_⟩
   rw [h2 j (by omega),yX hl (by omega) (by omega),if_neg (by omega),if_neg (by omega)]
  ·rintro ⟨hq,he⟩
   obtain ⟨i,hi,hie⟩:=h.1.yY (hq.1.lt (show k<n by omega))
   have hki:k≤i:=by
    rcases Nat.lt_or_ge i k with h1|h1
    ·have:=hq.1.inj (show i<n by omega) (show k<n by omega) ((he i h1).trans hie)
     omega
    ·exact h1
   refine ⟨i-k,List.mem_range.2 (by omega),?_⟩
   rw [show k+(i-k)=i by omega]
   refine (qL m (vT h (by omega) hi) (by omega) q).2 ⟨hq,fun j hj=>?_⟩
   rw [yX hl (by omega) (by omega)]
   by_cases e1:j=k
   ·subst e1
    by_cases e2:j=i
    ·rw [if_pos e2,←hie,e2]
    ·rw [if_neg e2,if_pos rfl,hie]
   ·rw [if_neg (by omega),if_neg e1]
    exact he j (by omega)
theorem ET: ∀(m:Nat) {p:List Nat} {k:Nat},PQ n p→k+m=n→(sw n m p k).Nodup
 |0,p,k,_,_=>by simp [sw]
 |m+1,p,k,h,hm=>by
  have hn:=h.1.1
  have hl:=h.2
  have hs: ∀d,d<m+1→PQ n (iT p k (k+d)):=fun d hd=>vT h (by omega) (by omega)
  refine yU List.nodup_range (fun d hd=>ET m (hs d (List.mem_range.1 hd)) (by omega)) fun d hd e he hde q hq hq'=>?_
  rw [List.mem_range] at hd he
  have h1:=((qL m (hs d hd) (by omega) q).1 hq).2 k (by omega)
  have h2:=((qL m (hs e he) (by omega) q).1 hq').2 k (by omega)
  have key: ∀d,d<m+1→nl (iT p k (k+d)) k=nl p (k+d):=fun d hd=>by
   rw [yX hl (by omega) (by omega)]
   by_cases e:k=k+d
   ·rw [if_pos e,←e]
   ·rw [if_neg e,if_pos rfl]
  rw [key d hd] at h1
  rw [key e he] at h2
  have:=h.1.inj (show k+d<n by omega) (show k+e<n by omega) (h1.symm.trans h2)
  omega
theorem SN (hn:1≤n∧n≤16):(lv n n []).Perm (sw n n (gZ n) 0):=by
 have hid:PQ n (gZ n):=⟨EU hn,vU⟩
 refine (List.perm_ext_iff_of_nodup (ES hn n ⟨by simp,by simp,by simp⟩ (by simp)) (ET n hid (by omega))).2 fun q=>?_
 rw [lg hn n ⟨by simp,by simp,by simp⟩ (by simp),qL n hid (by omega)]
 simp
end
end Go.Bm
namespace Go.Bm
open Go Go.Am
def gY (g:Value→Value) (H:BH):BH:=H.map (Option.map (List.map g))
theorem Et {g:Value→Value} {H:BH} {j:Nat} {cs:List Value} (h:blk (gY g H) j=some cs): ∃cs0,blk H j=some cs0∧cs=cs0.map g:=by
 unfold blk gY at h
 rw [List.getElem?_map] at h
 unfold blk
 cases h1:H[j]? with
 |none=>rw [h1] at h;cases h
 |some o=>
  rw [h1] at h
  cases o with
  |none=>cases h
  |some cs0=>exact ⟨cs0,rfl,by simpa using h.symm⟩
theorem Gh.vF {k:Nat} {f:Fr} {H:BH} {i:Nat} {cs:List Value} (hc:blk H i=some cs) (hn:aF cs):Gh k f H (fun t=>frz i cs (f t)) ((gY (frz i cs) H).set i none):=
 ⟨fun h=>by simpa [gY] using h,fun ρ Z fA HA h1 h2=>by
  obtain ⟨Z',h3,h4,h5⟩:=qI h2 hc hn
  have hi:=qF hc
  have hset: ∀j cs',blk ((gY (frz i cs) H).set i none) j=some cs'→j≠i∧ ∃cs0,blk H j=some cs0∧cs'=cs0.map (frz i cs):=fun j cs' h=>by
   rw [kQ (by simpa [gY] using hi)] at h
   split at h
   ·cases h
   ·rename_i hne
    exact ⟨hne,Et h⟩
  have hold: ∀j cs0,j≠i→blk H j=some cs0→blk (H.set i none) j=some cs0:=fun j cs0 hne h=>by rw [kQ hi,if_neg hne];exact h
  refine ⟨ρ,Z',fun t=>h5 _ _ (h1 t),⟨fun j cs' h=>?_,fun j j' c1 c2 b e1 e2 e3 e4=>?_,fun j cs' b e1 e2=>?_,h3.dI,fun j hj=>h2.top j (by simpa [gY] using hj)⟩,fun _ _=>rfl,⟨h4.n,h4.keep,fun j cs' b e1 e2=>?_,h4.zx,h4.zn⟩⟩
  ·obtain ⟨hne,cs0,g1,rfl⟩:=hset j cs' h
   obtain ⟨b,bk,k1,k2,k3,k4,k5⟩:=h2.bF j cs0 g1
   refine ⟨b,bk,k1,k2,k3,k4,by simpa using k5.1,fun q c d q1 q2=>?_⟩
   rw [List.getElem?_map] at q1
   obtain ⟨p,hp,rfl⟩:=map_inj q1
   exact h5 _ _ (k5.2 q p d hp q2)
  ·obtain ⟨n1,x1,g1,_⟩:=hset j c1 e1
   obtain ⟨n2,x2,g2,_⟩:=hset j' c2 e2
   exact h2.inj j j' x1 x2 b g1 g2 e3 e4
  ·obtain ⟨n1,x1,g1,_⟩:=hset j cs' e1
   exact h3.cZ j x1 b (hold j x1 n1 g1) e2
  ·obtain ⟨n1,x1,g1,_⟩:=hset j cs' e1
   exact h4.own j x1 b (hold j x1 n1 g1) e2⟩
end Go.Bm
namespace Go.Bm
open Go Go.Am
def aH:Nat→Nat→Nat→List (List Nat)
 |0,_,_=>[[]]
 |k+1,n,m=>if n=0 then [[]] else (List.range (min n m)).flatMap fun i=>(aH k (n-(i+1)) (i+1)).map fun r=>(i+1)::r
def eG (k n i:Nat):List (List Nat):=(List.range i).flatMap fun i=>(aH k (n-(i+1)) (i+1)).map fun r=>(i+1)::r
theorem qA {k n i:Nat}:eG k n (i+1)=eG k n i++(aH k (n-(i+1)) (i+1)).map fun r=>(i+1)::r:=by
 simp [eG,List.range_succ]
theorem lG {k n i:Nat}: ∀{j:Nat},i≤j→(eG k n i).length≤(eG k n j).length
 |0,h=>by
  obtain rfl:i=0:=by omega
  exact Nat.le_refl _
 |j+1,h=>by
  by_cases e:i=j+1
  ·rw [e];exact Nat.le_refl _
  ·have:=lG (k:=k) (n:=n) (i:=i) (j:=j) (by omega)
   rw [qA,List.length_append]
   omega
theorem qy {k n m:Nat} (h:n≠0):aH (k+1) n m=eG k n (min n m):=by
 rw [aH,if_neg h]
 rfl
theorem EW: ∀{k n m:Nat},n≤k→aH k n m=aH (k+1) n m
 |0,n,m,h=>by
  obtain rfl:n=0:=by omega
  rfl
 |k+1,n,m,h=>by
  by_cases e:n=0
  ·simp [aH,e]
  ·rw [qy e,qy e,eG,eG]
   congr 1
   funext i
   rw [EW (k:=k) (by omega)]
theorem SQ {k n m:Nat} (h:n≤k) (hk:k≤16):aH k n m=aH 16 n m:=by
 have key: ∀d,k+d≤16→aH k n m=aH (k+d) n m:=by
  intro d
  induction d with
  |zero=>intro _;rfl
  |succ d ih=>intro hd;rw [ih (by omega),EW (k:=k+d) (by omega)];rfl
 have:=key (16-k) (by omega)
 rwa [show k+(16-k)=16 by omega] at this
theorem EX: ∀{k n m:Nat},∀r∈aH k n m,r.length≤n
 |0,n,m,r,h=>by
  rw [aH,List.mem_singleton] at h
  rw [h];simp
 |k+1,n,m,r,h=>by
  rw [aH] at h
  split at h
  ·rw [List.mem_singleton] at h
   rw [h];simp
  ·obtain ⟨i,hi,h⟩:=List.mem_flatMap.1 h
   obtain ⟨q,hq,rfl⟩:=List.mem_map.1 h
   have:=EX q hq
   rw [List.mem_range] at hi
   rw [List.length_cons]
   omega
theorem SS {k n m:Nat} (h:n≤m):aH k n m=aH k n n:=by
 cases k with
 |zero=>rfl
 |succ k=>rw [aH,aH,Nat.min_eq_left h,Nat.min_self]
theorem EY: ∀n,n<17→ ∀m,m<17→(aH 16 n m).length≤300:=by decide+kernel
theorem Em {k n m:Nat} (h:n≤k) (hk:k≤16):(aH k n m).length≤300:=by
 rw [SQ h hk]
 by_cases e:m<17
 ·exact EY n (by omega) m e
 ·rw [SS (by omega)]
  exact EY n (by omega) n (by omega)
end Go.Bm
namespace Go.Bm
open Go Go.Am
abbrev LN (ts:List (List Nat)):Value:=Fz ts.length 1 (ts.map FN)
theorem SV {k:IntKind} {x y:Int}:foldV min2 [.int k x, .int k y]=some (.int k (if y<x then y else x)):=by
 simp [foldV,min2]
theorem SX {H:BH} {b bytes cn j l:Nat} {xs:List (List Nat)} (h:(xs.length+1)*bytes≤140737488355328):app1 (some [S j 0 l 1]) (some (xs.map FN)) H b xs.length bytes cn=some (S H.length 0 (xs.length+1) 1,(H.set b none)++[some (xs.map FN++[S j 0 l 1])]):=by
 simp only [app1]
 rw [if_pos ⟨by simp,h,rfl⟩]
 simp [List.take_of_length_le]
theorem SY {i:Nat} {cs:List Value} {xs:List (List Nat)}:(xs.map FN).map (frz i cs)=xs.map FN:=by
 rw [List.map_map]
 exact List.map_congr_left fun x _=>rfl
theorem S9: ∀(k n m:Nat),n≤k→k≤16→m≤16→aA false CY [I n,I m] [] fun v H1=> ∃j,v=S j 0 (aH k n m).length 1∧blk H1 j=some ((aH k n m).map FN):=by
 intro k
 induction k with
 |zero=>
  intro n m hn hk hm
  obtain rfl:n=0:=by omega
  refine aZ xH ?_;simp only [bM,aB]
  refine au fun Kr hKr=>?_;simp (disch:=omega) only [RA,↓reduceIte,Nat.reduceEqDiff,Nat.reduceBEq,Nat.reduceSub,Nat.reduceAdd,Nat.reduceMul,Nat.reduceLT,Nat.reduceLeDiff,Int.reduceLE,Int.reduceLT,Int.reduceEq,Int.reduceNeg,Int.reduceToNat,Int.reduceMul,Int.reduceAdd,Int.reduceSub,Int.reduceBEq,Int.reduceBNe,reduceCtorEq,RD];refine hKr _ _ ?_;clear hKr Kr;(try simp only [RN,reduceIte]);try refine ah rfl ?_
  refine au fun Kr hKr=>?_;simp (disch:=omega) only [RA,↓reduceIte,Nat.reduceEqDiff,Nat.reduceBEq,Nat.reduceSub,Nat.reduceAdd,Nat.reduceMul,Nat.reduceLT,Nat.reduceLeDiff,Int.reduceLE,Int.reduceLT,Int.reduceEq,Int.reduceNeg,Int.reduceToNat,Int.reduceMul,Int.reduceAdd,Int.reduceSub,Int.reduceBEq,Int.reduceBNe,reduceCtorEq,RD];refine hKr _ _ ?_;clear hKr Kr;(try simp only [RN,reduceIte]);try refine ah rfl ?_
  refine aP (t:=true) (by simp (disch:=omega) only [RA,↓reduceIte,Nat.reduceEqDiff,Nat.reduceBEq,Nat.reduceSub,Nat.reduceAdd,Nat.reduceMul,Nat.reduceLT,Nat.reduceLeDiff,Int.reduceLE,Int.reduceLT,Int.reduceEq,Int.reduceNeg,Int.reduceToNat,Int.reduceMul,Int.reduceAdd,Int.reduceSub,Int.reduceBEq,Int.reduceBNe,reduceCtorEq,RD]) ?_;(try simp only [RN,reduceIte]);try refine ah rfl ?_
  refine au fun Kr hKr=>?_;simp (disch:=omega) only [RA,↓reduceIte,Nat.reduceEqDiff,Nat.reduceBEq,Nat.reduceSub,Nat.reduceAdd,Nat.reduceMul,Nat.reduceLT,Nat.reduceLeDiff,Int.reduceLE,Int.reduceLT,Int.reduceEq,Int.reduceNeg,Int.reduceToNat,Int.reduceMul,Int.reduceAdd,Int.reduceSub,Int.reduceBEq,Int.reduceBNe,reduceCtorEq,RD]
  refine hKr _ _ ?_;clear hKr Kr
  refine jg (Gh.vF (i:=0) (cs:=[]) rfl aF.nil) ?_
  (try simp only [RN,reduceIte]);try refine ah rfl ?_
  refine aS (by simp (disch:=omega) only [RA,↓reduceIte,Nat.reduceEqDiff,Nat.reduceBEq,Nat.reduceSub,Nat.reduceAdd,Nat.reduceMul,Nat.reduceLT,Nat.reduceLeDiff,Int.reduceLE,Int.reduceLT,Int.reduceEq,Int.reduceNeg,Int.reduceToNat,Int.reduceMul,Int.reduceAdd,Int.reduceSub,Int.reduceBEq,Int.reduceBNe,reduceCtorEq,RD,resAll,resOf];rfl) aG.refl ?_;simp only [tup]
  exact ⟨1,rfl,rfl⟩
 |succ k ih=>
  intro n m hn hk hm
  by_cases h0:n=0
  ·subst h0
   refine aZ xH ?_;simp only [bM,aB]
   refine au fun Kr hKr=>?_;simp (disch:=omega) only [RA,↓reduceIte,Nat.reduceEqDiff,Nat.reduceBEq,Nat.reduceSub,Nat.reduceAdd,Nat.reduceMul,Nat.reduceLT,Nat.reduceLeDiff,Int.reduceLE,Int.reduceLT,Int.reduceEq,Int.reduceNeg,Int.reduceToNat,Int.reduceMul,Int.reduceAdd,Int.reduceSub,Int.reduceBEq,Int.reduceBNe,reduceCtorEq,RD];refine hKr _ _ ?_;clear hKr Kr;(try simp only [RN,reduceIte]);try refine ah rfl ?_
   refine au fun Kr hKr=>?_;simp (disch:=omega) only [RA,↓reduceIte,Nat.reduceEqDiff,Nat.reduceBEq,Nat.reduceSub,Nat.reduceAdd,Nat.reduceMul,Nat.reduceLT,Nat.reduceLeDiff,Int.reduceLE,Int.reduceLT,Int.reduceEq,Int.reduceNeg,Int.reduceToNat,Int.reduceMul,Int.reduceAdd,Int.reduceSub,Int.reduceBEq,Int.reduceBNe,reduceCtorEq,RD];refine hKr _ _ ?_;clear hKr Kr;(try simp only [RN,reduceIte]);try refine ah rfl ?_
   refine aP (t:=true) (by simp (disch:=omega) only [RA,↓reduceIte,Nat.reduceEqDiff,Nat.reduceBEq,Nat.reduceSub,Nat.reduceAdd,Nat.reduceMul,Nat.reduceLT,Nat.reduceLeDiff,Int.reduceLE,Int.reduceLT,Int.reduceEq,Int.reduceNeg,Int.reduceToNat,Int.reduceMul,Int.reduceAdd,Int.reduceSub,Int.reduceBEq,Int.reduceBNe,reduceCtorEq,RD]) ?_;(try simp only [RN,reduceIte]);try refine ah rfl ?_
   refine au fun Kr hKr=>?_;simp (disch:=omega) only [RA,↓reduceIte,Nat.reduceEqDiff,Nat.reduceBEq,Nat.reduceSub,Nat.reduceAdd,Nat.reduceMul,Nat.reduceLT,Nat.reduceLeDiff,Int.reduceLE,Int.reduceLT,Int.reduceEq,Int.reduceNeg,Int.reduceToNat,Int.reduceMul,Int.reduceAdd,Int.reduceSub,Int.reduceBEq,Int.reduceBNe,reduceCtorEq,RD]
   refine hKr _ _ ?_;clear hKr Kr
   refine jg (Gh.vF (i:=0) (cs:=[]) rfl aF.nil) ?_
   (try simp only [RN,reduceIte]);try refine ah rfl ?_
   refine aS (by simp (disch:=omega) only [RA,↓reduceIte,Nat.reduceEqDiff,Nat.reduceBEq,Nat.reduceSub,Nat.reduceAdd,Nat.reduceMul,Nat.reduceLT,Nat.reduceLeDiff,Int.reduceLE,Int.reduceLT,Int.reduceEq,Int.reduceNeg,Int.reduceToNat,Int.reduceMul,Int.reduceAdd,Int.reduceSub,Int.reduceBEq,Int.reduceBNe,reduceCtorEq,RD,resAll,resOf];rfl) aG.refl ?_;simp only [tup]
   exact ⟨1,rfl,rfl⟩
  ·have hlt:=Em (k:=k+1) (n:=n) (m:=m) hn hk
   rw [qy h0] at hlt⊢
   refine aZ xH ?_;simp only [bM,aB]
   refine au fun Kr hKr=>?_;simp (disch:=omega) only [RA,↓reduceIte,Nat.reduceEqDiff,Nat.reduceBEq,Nat.reduceSub,Nat.reduceAdd,Nat.reduceMul,Nat.reduceLT,Nat.reduceLeDiff,Int.reduceLE,Int.reduceLT,Int.reduceEq,Int.reduceNeg,Int.reduceToNat,Int.reduceMul,Int.reduceAdd,Int.reduceSub,Int.reduceBEq,Int.reduceBNe,reduceCtorEq,RD];refine hKr _ _ ?_;clear hKr Kr;(try simp only [RN,reduceIte]);try refine ah rfl ?_
   refine au fun Kr hKr=>?_;simp (disch:=omega) only [RA,↓reduceIte,Nat.reduceEqDiff,Nat.reduceBEq,Nat.reduceSub,Nat.reduceAdd,Nat.reduceMul,Nat.reduceLT,Nat.reduceLeDiff,Int.reduceLE,Int.reduceLT,Int.reduceEq,Int.reduceNeg,Int.reduceToNat,Int.reduceMul,Int.reduceAdd,Int.reduceSub,Int.reduceBEq,Int.reduceBNe,reduceCtorEq,RD];refine hKr _ _ ?_;clear hKr Kr;(try simp only [RN,reduceIte]);try refine ah rfl ?_
   refine aP (t:=false) (by simp (disch:=omega) only [RA,↓reduceIte,Nat.reduceEqDiff,Nat.reduceBEq,Nat.reduceSub,Nat.reduceAdd,Nat.reduceMul,Nat.reduceLT,Nat.reduceLeDiff,Int.reduceLE,Int.reduceLT,Int.reduceEq,Int.reduceNeg,Int.reduceToNat,Int.reduceMul,Int.reduceAdd,Int.reduceSub,Int.reduceBEq,Int.reduceBNe,reduceCtorEq,RD]) ?_;(try simp only [RN,reduceIte]);try refine ah rfl ?_
   refine au fun Kr hKr=>?_;simp (disch:=omega) only [RA,↓reduceIte,Nat.reduceEqDiff,Nat.reduceBEq,Nat.reduceSub,Nat.reduceAdd,Nat.reduceMul,Nat.reduceLT,Nat.reduceLeDiff,Int.reduceLE,Int.reduceLT,Int.reduceEq,Int.reduceNeg,Int.reduceToNat,Int.reduceMul,Int.reduceAdd,Int.reduceSub,Int.reduceBEq,Int.reduceBNe,reduceCtorEq,RD];refine hKr _ _ ?_;clear hKr Kr;(try simp only [RN,reduceIte]);try refine ah rfl ?_
   refine au fun Kr hKr=>?_;simp (disch:=omega) only [RA,↓reduceIte,Nat.reduceEqDiff,Nat.reduceBEq,Nat.reduceSub,Nat.reduceAdd,Nat.reduceMul,Nat.reduceLT,Nat.reduceLeDiff,Int.reduceLE,Int.reduceLT,Int.reduceEq,Int.reduceNeg,Int.reduceToNat,Int.reduceMul,Int.reduceAdd,Int.reduceSub,Int.reduceBEq,Int.reduceBNe,reduceCtorEq,RD];refine hKr _ _ ?_;clear hKr Kr;(try simp only [RN,reduceIte]);try refine ah rfl ?_
   refine bH (fun d f H'=> ∃i,i≤min n m∧d=min n m-i∧f 0=I n∧f 1=I m∧f 5=S 0 0 (eG k n i).length 1∧f 6=I ((i+1:Nat):Int)∧H'=[some ((eG k n i).map FN)]) (min n m) ?_ ?_
   ·exact ⟨_,_,Gh.refl,0,by omega,by omega,aj,aj,aj,aj,rfl⟩
   ·rintro d f H' R ⟨i,hi,rfl,g0,g1,g5,g6,rfl⟩ hN hX hR hE
    simp only [bM.l1,aB]
    have hmin:(if m<n then (m:Int) else (n:Int))=((min n m:Nat):Int):=by split<;>omega
    have hpl:=lG (k:=k) (n:=n) hi
    refine au fun Kr hKr=>?_;simp (disch:=omega) only [RA,↓reduceIte,Nat.reduceEqDiff,Nat.reduceBEq,Nat.reduceSub,Nat.reduceAdd,Nat.reduceMul,Nat.reduceLT,Nat.reduceLeDiff,Int.reduceLE,Int.reduceLT,Int.reduceEq,Int.reduceNeg,Int.reduceToNat,Int.reduceMul,Int.reduceAdd,Int.reduceSub,Int.reduceBEq,Int.reduceBNe,reduceCtorEq,RD,g0,g1,g6,SV,hmin];refine hKr _ _ ?_;clear hKr Kr;(try simp only [RN,reduceIte]);try refine ah rfl ?_
    refine bG (p:=i+1≤min n m) (by simp only [RA,↓reduceIte,Nat.reduceEqDiff,Nat.reduceBEq,Nat.reduceSub,Nat.reduceAdd,Nat.reduceMul,Nat.reduceLT,Nat.reduceLeDiff,Int.reduceLE,Int.reduceLT,Int.reduceEq,Int.reduceNeg,Int.reduceToNat,Int.reduceMul,Int.reduceAdd,Int.reduceSub,Int.reduceBEq,Int.reduceBNe,reduceCtorEq]<;>rfl) (by (try simp only [RB])<;>first|done|exact Iff.rfl|omega|simp) (fun hc=>?_) (fun hc=>?_)<;>(try simp only [RN,reduceIte])<;>(try refine ah rfl ?_)
    ·have him:i+1≤min n m:=by assumption
     have e1:(n:Int)-((i+1:Nat):Int)=((n-(i+1):Nat):Int):=by omega
     have hpl2:=lG (k:=k) (n:=n) him
     have hti:=fun r=>EX (k:=k) (n:=n-(i+1)) (m:=i+1) r
     (first|refine bY rfl ?_|refine bZ rfl ?_);(try simp only [RN,reduceIte]);try refine ah rfl ?_
     refine au fun Kr hKr=>?_;simp (disch:=omega) only [RA,↓reduceIte,Nat.reduceEqDiff,Nat.reduceBEq,Nat.reduceSub,Nat.reduceAdd,Nat.reduceMul,Nat.reduceLT,Nat.reduceLeDiff,Int.reduceLE,Int.reduceLT,Int.reduceEq,Int.reduceNeg,Int.reduceToNat,Int.reduceMul,Int.reduceAdd,Int.reduceSub,Int.reduceBEq,Int.reduceBNe,reduceCtorEq,RD,g0,g6,e1]
     refine uT (l:=(aH k (n-(i+1)) (i+1)).length) (e:=1) (cs:=(aH k (n-(i+1)) (i+1)).map FN) (.cons .int (.cons .int .nil)) iQ (by simp) (ih (n-(i+1)) (i+1) (by omega) (by omega) (by omega)) ?_
     rw [qA] at hpl2
     have hps:=qA (k:=k) (n:=n) (i:=i)
     generalize aH k (n-(i+1)) (i+1)=ts at hpl2 hti hps⊢
     have hlm: ∀j,j≤ts.length→(eG k n i++(ts.take j).map fun r=>(i+1)::r).length≤300:=fun j hj=>by
      rw [List.length_append,List.length_map,List.length_take]
      rw [List.length_append,List.length_map] at hpl2
      omega
     have hlen:ts.length≤300:=by
      rw [List.length_append,List.length_map] at hpl2
      omega
     simp (disch:=omega) only [RA,↓reduceIte,Nat.reduceEqDiff,Nat.reduceBEq,Nat.reduceSub,Nat.reduceAdd,Nat.reduceMul,Nat.reduceLT,Nat.reduceLeDiff,Int.reduceLE,Int.reduceLT,Int.reduceEq,Int.reduceNeg,Int.reduceToNat,Int.reduceMul,Int.reduceAdd,Int.reduceSub,Int.reduceBEq,Int.reduceBNe,reduceCtorEq,RD]
     refine hKr _ _ ?_;clear hKr Kr;(try simp only [aK,aO,aN]);(try simp only [RN,reduceIte]);try refine ah rfl ?_
     refine bH (fun d f H'=> ∃j L,j≤ts.length∧d=ts.length-j∧L=eG k n i++(ts.take j).map (fun r=>(i+1)::r)∧f 0=I n∧f 1=I m∧f 5=S 0 0 L.length 1∧f 6=I ((i+1:Nat):Int)∧f 25=LN ts∧f 26=I (ts.length:Nat)∧f 27=I j∧H'=[some (L.map FN)]) (ts.length) ?_ ?_
     ·exact ⟨_,_,Gh.refl,0,eG k n i,by omega,by omega,by simp,aj,aj,aj,aj,aj,aj,aj,rfl⟩
     ·clear g0 g1 g5 g6
      rintro d f H' R1 ⟨j,L,hj,rfl,hL,g0,g1,g5,g6,yZ,y5,qM,rfl⟩ hN1 hX1 hR1 hE1
      simp only [bM.l0,aB]
      have hll:=hlm j hj
      rw [←hL] at hll
      refine au fun Kr hKr=>?_;simp (disch:=omega) only [RA,↓reduceIte,Nat.reduceEqDiff,Nat.reduceBEq,Nat.reduceSub,Nat.reduceAdd,Nat.reduceMul,Nat.reduceLT,Nat.reduceLeDiff,Int.reduceLE,Int.reduceLT,Int.reduceEq,Int.reduceNeg,Int.reduceToNat,Int.reduceMul,Int.reduceAdd,Int.reduceSub,Int.reduceBEq,Int.reduceBNe,reduceCtorEq,RD,y5,qM];refine hKr _ _ ?_;clear hKr Kr;(try simp only [RN,reduceIte]);try refine ah rfl ?_
      refine bG (p:=j<ts.length) (by simp only [RA,↓reduceIte,Nat.reduceEqDiff,Nat.reduceBEq,Nat.reduceSub,Nat.reduceAdd,Nat.reduceMul,Nat.reduceLT,Nat.reduceLeDiff,Int.reduceLE,Int.reduceLT,Int.reduceEq,Int.reduceNeg,Int.reduceToNat,Int.reduceMul,Int.reduceAdd,Int.reduceSub,Int.reduceBEq,Int.reduceBNe,reduceCtorEq]<;>rfl) (by (try simp only [RB])<;>first|done|exact Iff.rfl|omega|simp) (fun hc=>?_) (fun hc=>?_)<;>(try simp only [RN,reduceIte])<;>(try refine ah rfl ?_)
      ·have hjt:j<ts.length:=by assumption
       have hr:=hti (ts.getD j []) (by simp [List.getD,hjt])
       have hL2:eG k n i++(ts.take (j+1)).map (fun r=>(i+1)::r)=L++[(i+1)::ts.getD j []]:=by
        rw [hL,List.take_add_one,List.map_append,List.append_assoc]
        congr 2
        simp [List.getD,hjt]
       obtain ⟨r,hrd⟩: ∃r,ts.getD j []=r:=⟨_,rfl⟩
       rw [hrd] at hr hL2
       (first|refine bY rfl ?_|refine bZ rfl ?_);(try simp only [RN,reduceIte]);try refine ah rfl ?_
       refine au fun Kr hKr=>?_;simp (disch:=omega) only [RA,↓reduceIte,Nat.reduceEqDiff,Nat.reduceBEq,Nat.reduceSub,Nat.reduceAdd,Nat.reduceMul,Nat.reduceLT,Nat.reduceLeDiff,Int.reduceLE,Int.reduceLT,Int.reduceEq,Int.reduceNeg,Int.reduceToNat,Int.reduceMul,Int.reduceAdd,Int.reduceSub,Int.reduceBEq,Int.reduceBNe,reduceCtorEq,RD,yZ,qM,y7,hrd];refine hKr _ _ ?_;clear hKr Kr;(try simp only [RN,reduceIte]);try refine ah rfl ?_
       have hnext: ∀f' Hx,f' 0=I n→f' 1=I m→f' 5=S 4 0 (L.length+1) 1→f' 6=I ((i+1:Nat):Int)→f' 25=LN ts→f' 26=I (ts.length:Nat)→f' 27=I j→Hx=[none,none,none,some [FN ((i+1)::r)],some ((L++[(i+1)::r]).map FN)]→T 0 bM.r11 R1 f' Hx:=by
        clear g0 g1 g5 g6 yZ y5 qM
        intro f' Hx g0 g1 g5 g6 yZ y5 qM Tc
        subst Tc
        refine bI fun Kr hKr=>?_;simp (disch:=omega) only [RA,↓reduceIte,Nat.reduceEqDiff,Nat.reduceBEq,Nat.reduceSub,Nat.reduceAdd,Nat.reduceMul,Nat.reduceLT,Nat.reduceLeDiff,Int.reduceLE,Int.reduceLT,Int.reduceEq,Int.reduceNeg,Int.reduceToNat,Int.reduceMul,Int.reduceAdd,Int.reduceSub,Int.reduceBEq,Int.reduceBNe,reduceCtorEq,RD,qM];refine hKr _ _ ?_;clear hKr Kr
        refine hN1 (ts.length-(j+1)) _ _ _ _ (by omega) (Gh.nrm [4] rfl rfl (by simp only [RH,RV])) ⟨j+1,L++[(i+1)::r],by omega,rfl,hL2.symm,aj,aj,?_,aj,aj,aj,aj,rfl⟩
        all_goals (rw [List.length_append,List.length_singleton];simp (disch:=omega) only [RA,↓reduceIte,Nat.reduceEqDiff,Nat.reduceBEq,Nat.reduceSub,Nat.reduceAdd,Nat.reduceMul,Nat.reduceLT,Nat.reduceLeDiff,Int.reduceLE,Int.reduceLT,Int.reduceEq,Int.reduceNeg,Int.reduceToNat,Int.reduceMul,Int.reduceAdd,Int.reduceSub,Int.reduceBEq,Int.reduceBNe,reduceCtorEq,RD,RE, *]<;>rfl)
       refine au fun Kr hKr=>?_;simp (disch:=omega) only [RA,↓reduceIte,Nat.reduceEqDiff,Nat.reduceBEq,Nat.reduceSub,Nat.reduceAdd,Nat.reduceMul,Nat.reduceLT,Nat.reduceLeDiff,Int.reduceLE,Int.reduceLT,Int.reduceEq,Int.reduceNeg,Int.reduceToNat,Int.reduceMul,Int.reduceAdd,Int.reduceSub,Int.reduceBEq,Int.reduceBNe,reduceCtorEq,RD,g5,g6,Ej,Td,SX]
       refine hKr _ _ ?_;clear hKr Kr
       refine jg (Gh.vF (i:=2) (cs:=((i+1)::r).map dU) rfl kN) ?_
       have hfz:(L.map FN++[S 2 0 (r.length+1) 1]).map (frz 2 (((i+1)::r).map dU))=(L++[(i+1)::r]).map FN:=by
        rw [List.map_append,SY,List.map_append,List.map_singleton,List.map_singleton,ji (by simp)]
        rfl
       refine hnext _ _ lK lK lK lK lK lK lK ?_
       simp only [gY,List.map_cons,List.map_nil,Option.map_none,Option.map_some,List.set_cons_succ,List.set_cons_zero]
       rw [←hfz,ji (by simp)]
       rfl
      ·refine hX1 _ _ ?_
       obtain rfl:j=ts.length:=by omega
       rw [List.take_length,←hps] at hL
       subst hL
       refine bI fun Kr hKr=>?_;simp (disch:=omega) only [RA,↓reduceIte,Nat.reduceEqDiff,Nat.reduceBEq,Nat.reduceSub,Nat.reduceAdd,Nat.reduceMul,Nat.reduceLT,Nat.reduceLeDiff,Int.reduceLE,Int.reduceLT,Int.reduceEq,Int.reduceNeg,Int.reduceToNat,Int.reduceMul,Int.reduceAdd,Int.reduceSub,Int.reduceBEq,Int.reduceBNe,reduceCtorEq,RD,g6];refine hKr _ _ ?_;clear hKr Kr
       exact hN (min n m-(i+1)) _ _ _ _ (by omega) Gh.refl ⟨i+1,by omega,rfl,aj,aj,aj,aj,rfl⟩
    ·refine hX _ _ ?_
     obtain rfl:i=min n m:=by omega
     refine au fun Kr hKr=>?_;simp (disch:=omega) only [RA,↓reduceIte,Nat.reduceEqDiff,Nat.reduceBEq,Nat.reduceSub,Nat.reduceAdd,Nat.reduceMul,Nat.reduceLT,Nat.reduceLeDiff,Int.reduceLE,Int.reduceLT,Int.reduceEq,Int.reduceNeg,Int.reduceToNat,Int.reduceMul,Int.reduceAdd,Int.reduceSub,Int.reduceBEq,Int.reduceBNe,reduceCtorEq,RD,g5];refine hKr _ _ ?_;clear hKr Kr;(try simp only [RN,reduceIte]);try refine ah rfl ?_
     refine aS (by simp (disch:=omega) only [RA,↓reduceIte,Nat.reduceEqDiff,Nat.reduceBEq,Nat.reduceSub,Nat.reduceAdd,Nat.reduceMul,Nat.reduceLT,Nat.reduceLeDiff,Int.reduceLE,Int.reduceLT,Int.reduceEq,Int.reduceNeg,Int.reduceToNat,Int.reduceMul,Int.reduceAdd,Int.reduceSub,Int.reduceBEq,Int.reduceBNe,reduceCtorEq,RD,resAll,resOf];rfl) aG.refl ?_;simp only [tup]
     exact ⟨0,rfl,rfl⟩
theorem Tf {x:Bool} {n m:Nat} {H:BH} {K:Value→BH→Prop} (hn:n≤16) (hm:m≤16) (hK:K (LN (aH n n m)) H):aA x CY [I n,I m] H K:=
 uT (.cons .int (.cons .int .nil)) iQ (by simp) (S9 n n m (Nat.le_refl _) hn hm) hK
end Go.Bm
namespace Go.Bm
open Go Go.Am
def Tree (n:Nat) (b w:List Nat):Prop:=(dV (Ti b w n) n).length=1∧(dV b n).length+(dV w n).length=n+1
instance (n:Nat) (b w:List Nat):Decidable (Tree n b w):=by unfold Tree;infer_instance
def jV (p:List Nat) (n x:Nat):Nat:=(dV p n).findIdx fun c=>c.contains x
theorem qN {p:List Nat} {n x:Nat} (hp:Perm p n) (hx:x<n):jV p n x<(dV p n).length:=by
 obtain ⟨c,hc,hxc⟩:=y8 hp hx
 exact List.findIdx_lt_length_of_exists ⟨c,hc,by simpa using hxc⟩
theorem EZ {p:List Nat} {n x:Nat} (hp:Perm p n) (hx:x<n):x∈(dV p n)[jV p n x]'(qN hp hx):=by
 have h2:((dV p n)[jV p n x]'(qN hp hx)).contains x=true:=List.findIdx_getElem (w:=qN hp hx)
 simpa using h2
theorem Tj {p:List Nat} {n:Nat} (hp:Perm p n):(dV p n).flatten.Nodup:=(lM.all rfl hp (Nat.le_refl n)).eu
theorem E5: ∀{cs:List (List Nat)} {i j x:Nat} (hi:i<cs.length) (hj:j<cs.length),cs.flatten.Nodup→x∈cs[i]→x∈cs[j]→i=j
 |c::cs,0,0,x,_,_,_,_,_=>rfl
 |c::cs,0,j+1,x,_,hj,hn,h1,h2=>by
  rw [List.flatten_cons,List.nodup_append] at hn
  exact absurd rfl (hn.2.2 x h1 x (List.mem_flatten.2 ⟨_,List.getElem_mem (by simpa using hj),h2⟩))
 |c::cs,i+1,0,x,hi,_,hn,h1,h2=>by
  rw [List.flatten_cons,List.nodup_append] at hn
  exact absurd rfl (hn.2.2 x h2 x (List.mem_flatten.2 ⟨_,List.getElem_mem (by simpa using hi),h1⟩))
 |c::cs,i+1,j+1,x,hi,hj,hn,h1,h2=>by
  rw [List.flatten_cons,List.nodup_append] at hn
  rw [E5 (cs:=cs) (by simpa using hi) (by simpa using hj) hn.2.1 h1 h2]
theorem E8 {p:List Nat} {n x i:Nat} (hp:Perm p n) (hx:x<n) (hi:i<(dV p n).length) (h:x∈(dV p n)[i]):jV p n x=i:=
 E5 (qN hp hx) hi (Tj hp) (EZ hp hx) h
theorem E9 {p:List Nat} {n x:Nat} (hp:Perm p n) (hx:x<n):jV p n (nl p x)=jV p n x:=
 E8 hp (hp.lt hx) (qN hp hx) ((vV hp (List.getElem_mem _)).fwd (EZ hp hx))
theorem Fa {p:List Nat} {n i:Nat} (hp:Perm p n) (hi:i<(dV p n).length): ∃x,x<n∧jV p n x=i:=by
 have hc:=vV hp (List.getElem_mem hi)
 have hm:nl (dV p n)[i] 0∈(dV p n)[i]:=eX hc.ne
 exact ⟨_,hc.lt _ hm,E8 hp (hc.lt _ hm) hi hm⟩
def merge (f:Nat→Nat) (e:Nat×Nat):Nat→Nat:=fun x=>if f x=f e.1 then f e.2 else f x
def pieces (es:List (Nat×Nat)):Nat→Nat:=es.foldl merge id
theorem Fb: ∀(es:List (Nat×Nat)) (f:Nat→Nat) (V m:Nat) (S:List Nat),S.Nodup→m+es.length≤S.length→(∀a∈S,∃x,x<V∧f x=a)→
  ∃S':List Nat,S'.Nodup∧m≤S'.length∧ ∀a∈S',∃x,x<V∧(es.foldl merge f) x=a
 |[],f,V,m,S,h1,h2,h3=>⟨S,h1,by simpa using h2,h3⟩
 |e::es,f,V,m,S,h1,h2,h3=>by
  have hl:=List.length_erase (a:=f e.1) (l:=S)
  refine Fb es (merge f e) V m (S.erase (f e.1)) (h1.erase _) ?_ fun a ha=>?_
  ·simp only [List.length_cons] at h2
   split at hl<;>omega
  ·obtain ⟨x,hx,hxa⟩:=h3 a (List.mem_of_mem_erase ha)
   refine ⟨x,hx,?_⟩
   have hne:a≠f e.1:=fun h=>by
    subst h
    exact (List.Nodup.not_mem_erase h1) ha
   rw [merge,if_neg (by rw [hxa];exact hne),hxa]
theorem Fe: ∀(es:List (Nat×Nat)) (f:Nat→Nat) (x y:Nat),f x=f y→(es.foldl merge f) x=(es.foldl merge f) y
 |[],f,x,y,h=>h
 |e::es,f,x,y,h=>Fe es (merge f e) x y (by simp only [merge,h])
theorem Fg: ∀(es:List (Nat×Nat)) (f:Nat→Nat) (e:Nat×Nat),e∈es→(es.foldl merge f) e.1=(es.foldl merge f) e.2
 |e'::es,f,e,h=>by
  rcases List.mem_cons.1 h with rfl|h
  ·exact Fe es _ _ _ (by
    simp only [merge,if_true]
    split
    ·rfl
    ·rfl)
  ·exact Fg es (merge f e') e h
section
variable {b w:List Nat} {n:Nat}
def ends (b w:List Nat) (n:Nat) (c:Bool) (x:Nat):Nat:=if c then (dV b n).length+jV w n x else jV b n x
def others (b w:List Nat) (n y:Nat):List (Nat×Nat):=((List.range n).filter fun z=>z !=y).map fun z=>(ends b w n false z,ends b w n true z)
def lab (b w:List Nat) (n y:Nat):Nat→Nat:=pieces (others b w n y)
theorem Tm {y z:Nat} (hz:z<n) (h:z≠y) (c c':Bool):lab b w n y (ends b w n c z)=lab b w n y (ends b w n c' z):=by
 have key:lab b w n y (ends b w n false z)=lab b w n y (ends b w n true z):=
  Fg _ id (ends b w n false z,ends b w n true z) (List.mem_map.2 ⟨z,List.mem_filter.2 ⟨List.mem_range.2 hz,by simpa using h⟩,rfl⟩)
 cases c<;>cases c'<;>first|rfl|exact key|exact key.symm
theorem Tn {y:Nat} (hy:y<n):((List.range n).filter fun z=>z !=y).length+1=n:=by
 have h1:((List.range n).filter fun z=>z !=y)=(List.range n).erase y:=(List.Nodup.erase_eq_filter List.nodup_range y).symm
 rw [h1,List.length_erase_of_mem (List.mem_range.2 hy),List.length_range]
 omega
theorem Tree.apart (hd:bg n b w) (ht:Tree n b w) {y:Nat} (hy:y<n):lab b w n y (ends b w n false y)≠lab b w n y (ends b w n true y):=by
 intro he
 obtain ⟨hb,hw,_⟩:=id hd
 have hall: ∀z,z<n→lab b w n y (ends b w n false z)=lab b w n y (ends b w n true z):=fun z hz=>by
  by_cases e:z=y
  ·rw [e];exact he
  ·exact Tm hz e _ _
 have hone:=hd.ind (fun z=>lab b w n y (ends b w n false z)=lab b w n y (ends b w n false 0))
  (fun z hz hS=>by
   have e:ends b w n false (nl b z)=ends b w n false z:=by simp only [ends];exact E9 hb hz
   rw [e];exact hS)
  (fun z hz hS=>by
   have e:ends b w n true (nl w z)=ends b w n true z:=by simp only [ends,if_true];rw [E9 hw hz]
   rw [hall _ (hw.lt hz),e,←hall z hz];exact hS) rfl
 obtain ⟨S,h1,h2,h3⟩:=Fb (others b w n y) id (n+1) 2 (List.range (n+1)) List.nodup_range (by
  have:=Tn hy
  rw [others,List.length_map,List.length_range]
  omega) (fun a ha=>⟨a,List.mem_range.1 ha,rfl⟩)
 have Fh: ∀v,v<n+1→lab b w n y v=lab b w n y (ends b w n false 0):=fun v hv=>by
  have ht2:=ht.2
  rcases Nat.lt_or_ge v (dV b n).length with h|h
  ·obtain ⟨x,hx,rfl⟩:=Fa hb h
   exact hone x hx
  ·obtain ⟨x,hx,hxv⟩:=Fa hw (show v-(dV b n).length<(dV w n).length by omega)
   have e:v=ends b w n true x:=by simp only [ends,if_true];omega
   rw [e,←hall x hx]
   exact hone x hx
 match S,h1,h2,h3 with
 |[],_,h2,_=>simp at h2
 |[_],_,h2,_=>simp at h2
 |a::a'::_,h1,_,h3=>
  obtain ⟨x,hx,hxa⟩:=h3 a (by simp)
  obtain ⟨x',hx',Tq⟩:=h3 a' (by simp)
  have e1:lab b w n y x=a:=hxa
  have e2:lab b w n y x'=a':=Tq
  have:a=a':=by rw [←e1,←e2,Fh x hx,Fh x' hx']
  simp only [List.nodup_cons,List.mem_cons] at h1
  exact h1.1 (.inl this)
def behind (b w:List Nat) (n:Nat) (c:Bool) (x:Nat):List Nat:=(List.range n).filter fun z=>z !=x&&lab b w n x (ends b w n false z)==lab b w n x (ends b w n c x)
def it (p:List Nat) (x:Nat):Nat→Nat
 |0=>nl p x
 |i+1=>nl p (it p x i)
end
def bs (l:List UInt8):ByteArray:=⟨l.toArray⟩
end Go.Bm
namespace Go.Bm
open Go Go.Am
def dep (s:List UInt8):Int:=(s.countP fun c=>c.toNat==40:Nat)-(s.countP fun c=>c.toNat==41:Nat)
def Fj (s:List UInt8):Prop:=(2≤s.length∧s.length≤32)∧(∀c∈s,c.toNat=40∨c.toNat=41)∧(∀i,i≤s.length→0≤dep (s.take i))∧dep s=0
instance (s:List UInt8):Decidable (Fj s):=by unfold Fj;infer_instance
def ch:List Nat→List Nat→List Nat
 |p,x::y::r=>ch (p.set x y) (y::r)
 |p,_=>p
def jo (p e:List Nat):List Nat:=if e=[] then p else (ch p e).set (e.getLastD 0) (e.headD 0)
theorem Fq: ∀{e p:List Nat} {y:Nat},e≠[]→ch p (e++[y])=(ch p e).set (e.getLastD 0) y
 |[x],p,y,_=>rfl
 |x::z::r,p,y,_=>by
  have:=Fq (e:=z::r) (p:=p.set x z) (y:=y) (by simp)
  simpa [ch,List.getLastD] using this
theorem y9: ∀{e p:List Nat},(ch p e).length=p.length
 |[],p=>rfl
 |[x],p=>rfl
 |x::z::r,p=>by
  have:=y9 (e:=z::r) (p:=p.set x z)
  simpa [ch] using this
theorem head_mem {e:List Nat} (h:e≠[]):e.headD 0∈e:=by
 cases e with
 |nil=>exact absurd rfl h
 |cons a l=>simp
def lvl (c:Nat):List (List Nat)→List (List Nat)
 |[]=>[]
 |e::r=>if r.length%2=c then e::lvl c r else lvl c r
theorem zf {c:Nat} {e:List Nat}: ∀{r:List (List Nat)},e∈lvl c r→e∈r
 |[],h=>h
 |a::r,h=>by
  rw [lvl] at h
  split at h
  ·rcases List.mem_cons.1 h with h|h
   ·simp [h]
   ·exact List.mem_cons_of_mem _ (zf h)
  ·exact List.mem_cons_of_mem _ (zf h)
structure MS where
 ways:List (List Nat)
 next:Nat
 b:List Nat
 w:List Nat
def ms0:MS:=⟨[[]],0,List.replicate 16 0,List.replicate 16 0⟩
structure qO (m:Nat) (s:MS):Prop where
 ne:(s.next=0∧s.ways=[[]])∨(0<s.next∧s.ways≠[]∧ ∀e∈s.ways,e≠[])
 lt: ∀e∈s.ways,∀x∈e,x<s.next
 eu: ∀c,(lvl c s.ways).flatten.Nodup
 bb:By 16 s.b
 bw:By 16 s.w
theorem By.ch {e:List Nat}: ∀{p:List Nat},By 16 p→(∀x∈e,x<256)→By 16 (ch p e):=by
 induction e with
 |nil=>intro p h _;exact h
 |cons x e ih=>
  intro p h hl
  cases e with
  |nil=>exact h
  |cons y r=>exact ih (h.set (hl y (by simp))) fun z hz=>hl z (List.mem_cons_of_mem _ hz)
theorem By.jo {p e:List Nat} (h:By 16 p) (hl: ∀x∈e,x<256):By 16 (jo p e):=by
 unfold Bm.jo
 split
 ·exact h
 ·rename_i hn
  exact (h.ch hl).set (hl _ (head_mem hn))
theorem qO.z:qO 0 ms0:=⟨.inl ⟨rfl,rfl⟩,by simp [ms0],fun c=>by
 have:(lvl c ms0.ways).flatten=[]:=by
  simp only [ms0,lvl]
  split<;>rfl
 rw [this];simp,By.rep,By.rep⟩
theorem Fv {c n:Nat} {r:List (List Nat)} (h: ∀e∈r,∀x∈e,x<n): ∀x∈(lvl c r).flatten,x<n:=by
 intro x hx
 obtain ⟨e,he,hxe⟩:=List.mem_flatten.1 hx
 exact h e (zf he) x hxe
theorem Tt {l t:List Nat} {n:Nat} (h:(l++t).Nodup) (hn:n∉l++t):((l++[n])++t).Nodup:=by
 have:((l++[n])++t).Perm (n::(l++t)):=by
  rw [List.append_assoc,List.singleton_append]
  exact List.perm_middle
 exact this.nodup_iff.2 (List.nodup_cons.2 ⟨hn,h⟩)
theorem qO.open {s:MS} {e:List Nat} {r:List (List Nat)} (h:qO 0 s) (hw:s.ways=e::r):qO 0 ⟨[s.next]::(e++[s.next])::r,s.next+1,s.b,s.w⟩:=by
 have hlt:=h.lt
 have FC:=h.eu
 rw [hw] at hlt FC
 refine ⟨.inr ⟨by simp,by simp,fun a ha=>?_⟩,fun a ha x hx=>?_,fun c=>?_,h.bb,h.bw⟩
 ·simp only [List.mem_cons] at ha
  rcases ha with rfl|rfl|ha
  ·simp
  ·simp
  ·have:=h.ne
   rw [hw] at this
   rcases this with ⟨_,q⟩|⟨_,_,q⟩
   ·cases q;cases ha
   ·exact q a (by simp [ha])
 ·show x<s.next+1
  simp only [List.mem_cons] at ha
  rcases ha with rfl|rfl|ha
  ·simp at hx;omega
  ·rcases List.mem_append.1 hx with hx|hx
   ·have:=hlt e (by simp) x hx;omega
   ·simp at hx;omega
  ·have:=hlt a (by simp [ha]) x hx;omega
 ·have hf:=Fv (c:=c) hlt
  have hfr:=fun x hx=>Fv (c:=c) (r:=r) (n:=s.next) (fun e he=>hlt e (by simp [he])) x hx
  have h1:=FC c
  simp only [lvl] at h1 hf⊢
  by_cases hc:r.length%2=c
  ·rw [if_pos hc] at h1 hf
   rw [if_pos hc,List.length_cons,if_neg (by omega)]
   rw [List.flatten_cons] at h1 hf⊢
   exact Tt h1 fun q=>absurd (hf _ q) (by omega)
  ·rw [if_neg hc] at h1
   rw [if_neg hc]
   split
   ·rw [List.flatten_cons,List.singleton_append,List.nodup_cons]
    exact ⟨fun q=>absurd (hfr _ q) (by omega),h1⟩
   ·exact h1
def Tv (e:List Nat) (r:List (List Nat)):Int:=if r=[] then (if e=[] then-1 else (e.getLastD 0:Nat)) else if e.length≤1 then-1 else (e.getLastD 0:Nat)
def la:List (List Nat)→List Int
 |[]=>[]
 |e::r=>la r++[Tv e r]
end Go.Bm
namespace Go.Bm
open Go Go.Am
def iU (p e:List Nat) (k:Nat):List Nat:=if k<e.length then ch p (e.take (k+1)) else jo p e
theorem Tz {p e:List Nat}:iU p e 0=p:=by
 cases e with
 |nil=>rfl
 |cons a l=>rfl
theorem TA {p e:List Nat} {k:Nat}:(iU p e k).length=p.length:=by
 unfold iU jo
 split
 ·exact y9
 ·split
  ·rfl
  ·rw [List.length_set,y9]
theorem TB {e:List Nat} {k:Nat} (h:k<e.length):(e.take (k+1)).getLastD 0=nl e k:=by
 have:e.take (k+1)=e.take k++[e[k]]:=by rw [List.take_add_one,List.getElem?_eq_getElem h,Option.toList_some]
 rw [this,List.getLastD_concat]
 simp [nl,List.getD,h]
theorem TD {p e:List Nat} {k:Nat} (h:k<e.length):(iU p e k).set (nl e k) (nl e ((k+1)%e.length))=iU p e (k+1):=by
 have hl:=TB h
 rw [iU,if_pos h]
 by_cases h1:k+1<e.length
 ·rw [iU,if_pos h1,Nat.mod_eq_of_lt h1]
  have h2:e.take (k+1+1)=e.take (k+1)++[nl e (k+1)]:=by
   rw [List.take_add_one (i:=k+1),List.getElem?_eq_getElem h1,Option.toList_some]
   simp [nl,List.getD,h1]
  rw [h2,Fq (by intro q;have:=congrArg List.length q;rw [List.length_take,List.length_nil] at this;omega),hl]
 ·have hk:k+1=e.length:=by omega
  have hn:e≠[]:=by rintro rfl;simp at h
  rw [iU,if_neg h1,hk,Nat.mod_self,jo,if_neg hn,List.take_of_length_le (Nat.le_refl _)]
  rw [hk,List.take_of_length_le (Nat.le_refl _)] at hl
  rw [hl]
  congr 1
  cases e with
  |nil=>exact absurd rfl hn
  |cons a l=>rfl
theorem FD {p e:List Nat}:iU p e e.length=jo p e:=by rw [iU,if_neg (by omega)]
theorem FH {e:List Nat} (hn:e.Nodup) {j k:Nat} (hj:j<e.length) (hk:k<e.length) (h:nl e j=nl e k):j=k:=by
 simp only [nl,List.getD,List.getElem?_eq_getElem hj,List.getElem?_eq_getElem hk,Option.getD_some] at h
 exact (List.getElem_inj hn).1 h
theorem zh {e:List Nat} {x:Nat} (h:x∈e): ∃k,k<e.length∧x=nl e k:=by
 obtain ⟨k,hk,rfl⟩:=List.mem_iff_getElem.1 h
 exact ⟨k,hk,by simp [nl,List.getD,hk]⟩
theorem zi {p e:List Nat} (hn:e.Nodup) (hl: ∀x∈e,x<p.length): ∀k,k≤e.length→(∀j,j<k→nl (iU p e k) (nl e j)=nl e ((j+1)%e.length))∧ ∀x,(∀j,j<k→x≠nl e j)→nl (iU p e k) x=nl p x
 |0,_=>⟨fun j h=>absurd h (by omega),fun x _=>by rw [Tz]⟩
 |k+1,hk=>by
  obtain ⟨h1,h2⟩:=zi hn hl k (by omega)
  have hlt:nl e k<p.length:=hl _ (eX (by omega))
  rw [←TD (by omega)]
  refine ⟨fun j hj=>?_,fun x hx=>?_⟩
  ·rw [fU]
   by_cases e1:j=k
   ·subst e1
    rw [if_pos ⟨rfl,by rw [TA];exact hlt⟩]
   ·rw [if_neg fun q=>e1 (FH hn (by omega) (by omega) q.1)]
    exact h1 j (by omega)
  ·rw [fU,if_neg fun q=>hx k (by omega) q.1]
   exact h2 x fun j hj=>hx j (by omega)
theorem zk {p e:List Nat} (hn:e.Nodup) (hl: ∀x∈e,x<p.length) {j:Nat} (hj:j<e.length):nl (jo p e) (nl e j)=nl e ((j+1)%e.length):=by
 rw [←FD]
 exact (zi hn hl _ (Nat.le_refl _)).1 j hj
theorem qP {p e:List Nat} (hn:e.Nodup) (hl: ∀x∈e,x<p.length) {x:Nat} (hx:x∉e):nl (jo p e) x=nl p x:=by
 rw [←FD]
 exact (zi hn hl _ (Nat.le_refl _)).2 x fun j hj q=>hx (by rw [q];exact eX hj)
theorem Perm.dV {n:Nat} {p e:List Nat} (h:Perm p n) (hl:p.length=16) (hn:e.Nodup) (h16: ∀x∈e,x<n) (hf: ∀x∈e,nl p x=x):Perm (jo p e) n:=by
 have hN:=h.1
 have hb: ∀x∈e,x<p.length:=fun x hx=>by have:=h16 x hx;omega
 have hin: ∀x∈e,nl (jo p e) x∈e:=fun x hx=>by
  obtain ⟨k,hk,rfl⟩:=zh hx
  rw [zk hn hb hk]
  exact eX (Nat.mod_lt _ (by omega))
 have hout: ∀x,x<n→x∉e→nl p x∉e:=fun x hx he hq=>he (by
  have:=h.inj hx (h16 _ hq) (hf _ hq).symm
  rw [this];exact hq)
 refine .of (by omega) (fun i h1 h2=>?_) (fun i hi=>?_) fun i j hi hj he=>?_
 ·have:i∉e:=fun q=>absurd (h16 i q) (by omega)
  rw [qP hn hb this]
  exact h.zero h1 h2
 ·by_cases he:i∈e
  ·exact h16 _ (hin i he)
  ·rw [qP hn hb he];exact h.lt hi
 ·have hj':j<n:=by omega
  by_cases h1:i∈e
  ·by_cases h2:j∈e
   ·obtain ⟨a,ha,rfl⟩:=zh h1
    obtain ⟨b,hb',rfl⟩:=zh h2
    rw [zk hn hb ha,zk hn hb hb'] at he
    have hm:=FH hn (Nat.mod_lt _ (by omega)) (Nat.mod_lt _ (by omega)) he
    have e1:b=a:=by
     by_cases c1:a+1<e.length
     ·by_cases c2:b+1<e.length
      ·rw [Nat.mod_eq_of_lt c1,Nat.mod_eq_of_lt c2] at hm;omega
      ·have:b+1=e.length:=by omega
       rw [Nat.mod_eq_of_lt c1,this,Nat.mod_self] at hm;omega
     ·have c1':a+1=e.length:=by omega
      by_cases c2:b+1<e.length
      ·rw [Nat.mod_eq_of_lt c2,c1',Nat.mod_self] at hm;omega
      ·omega
    rw [e1] at hj
    omega
   ·have:=hin i h1
    rw [←he,qP hn hb h2] at this
    exact hout j hj' h2 this
  ·rw [qP hn hb h1] at he
   by_cases h2:j∈e
   ·have:=hin j h2
    rw [he] at this
    exact hout i hi h1 this
   ·rw [qP hn hb h2] at he
    have:=h.inj hj' hi he
    omega
end Go.Bm
namespace Go.Bm
open Go Go.Am
section
variable {code:List Nat} {a:Nat} {h:Int}
end
end Go.Bm
namespace Go.Bm
open Go Go.Am
theorem VZ.qQ {Z:Nat→Option Blk} {v u:Value} (hp:Am.plain v=true) (h:VZ Z v u):u=v:=by
 cases h with
 |junk=>simp [Am.plain] at hp
 |plain _=>rfl
 |fz _ _ _ _ _ _=>simp [Am.plain] at hp
 |fz0=>simp [Am.plain] at hp
 |fp _ _ _ _ _=>simp [Am.plain] at hp
 |agg _ _=>simp [Am.plain] at hp
 | @tuple cs ds hl _=>
  have:cs=[]:=by simpa [Am.plain] using hp
  subst this
  have:ds=[]:=List.eq_nil_of_length_eq_zero hl.symm
  rw [this]
 |func _ _=>simp [Am.plain] at hp
theorem VR.qQ {ρ:Nat→Option Nat} {Z:Nat→Option Blk} {v u:Value} (hp:Am.plain v=true) (h:VR ρ Z v u):u=v:=(NN.plain hp _ _ _ h).qQ hp
theorem VL.zl {ρ ρ':Nat→Option Nat} {Z Z':Nat→Option Blk} {cs ds:List Value} (hp:cs.all Am.plain=true) (h:VL ρ Z cs ds):VL ρ' Z' cs ds:=by
 refine ⟨h.1,fun i c d h1 h2=>?_⟩
 have hc:=List.all_eq_true.1 hp c (List.mem_of_getElem? h1)
 rw [(h.2 i c d h1 h2).qQ hc]
 exact .z (.plain hc)
inductive jW (H:BH):List Value→List Value→Prop where
 |nil:jW H [] []
 |nn {a:Value} {as as':List Value}:NN a→jW H as as'→jW H (a::as) (a::as')
 |own {i l e:Nat} {cs as as':List Value}:blk H i=some cs→l*e=cs.length→cs.all Am.plain=true→jW H as as'→jW H (.slice (some ⟨i,0,none⟩) l e::as) (Fz l e cs::as')
open Classical in
noncomputable def Zo (ρ:Nat→Option Nat) (Z:Nat→Option Blk) (H:BH) (HA:AHeap) (b:Nat):Option Blk:=
 match Z b with
 |some bk=>some bk
 |none=>if∃i cs,blk H i=some cs∧ρ i=some b then HA.get b else none
theorem jW.vl {ρ:Nat→Option Nat} {Z:Nat→Option Blk} {H:BH} {HA:AHeap} (hR:Rel ρ Z H HA) {as as':List Value} (h:jW H as as'): ∀{us:List Value},VL ρ Z as us→VL (fun _=>none) (Zo ρ Z H HA) as' us:=by
 have hzx: ∀b bk,Z b=some bk→Zo ρ Z H HA b=some bk:=fun b bk hb=>by simp only [Zo,hb]
 induction h with
 |nil=>intro us h1;rw [h1.fP];exact VL.nil
 |nn hn _ ih=>
  intro us h1
  obtain ⟨u,us,rfl,h2,h3⟩:=h1.gK
  exact VL.cons (.z ((hn _ _ _ h2).mono hzx)) (ih h3)
 | @own i l e cs as as' hb hl hp _ ih=>
  intro us h1
  obtain ⟨u,us,rfl,h2,h3⟩:=h1.gK
  refine VL.cons ?_ (ih h3)
  obtain ⟨b,hρ,rfl⟩:=h2.slice_inv
  obtain ⟨b',bk,k1,k2,k3,k4,k5⟩:=hR.bF i cs hb
  rw [hρ] at k1;cases k1
  have hz:Zo ρ Z H HA b=some bk:=by
   simp only [Zo,hR.cZ i cs b hb hρ]
   rw [if_pos ⟨i,cs,hb,hρ⟩,k3]
  have k6:VL (fun _=>none) (Zo ρ Z H HA) cs bk.cells:=k5.zl hp
  refine .z (.fz (bk:=bk) (ds:=bk.cells) hz hl.symm k5.1 (by rw [hl,k5.1];omega) (by rw [hl,k5.1,List.drop_zero,List.take_length]) fun q c d h1 h2=>?_)
  have hc:=List.all_eq_true.1 hp c (List.mem_of_getElem? h1)
  rw [(k5.2 q c d h1 h2).qQ hc]
  exact .plain hc
theorem Wh {x:Bool} {g:Nat} {args args':List Value} {H:BH} {K:Value→BH→Prop} (ha:jW H args args')
  (h:aA false g args' [] fun v H1=>(∃j l e cs k n,v= .tuple ⟨[.slice (some ⟨j,0,none⟩) l e, .int k n]⟩∧blk H1 j=some cs∧cs.all Am.plain=true∧K (.tuple ⟨[.slice (some ⟨H.length,0,none⟩) l e, .int k n]⟩) (H++[some cs]))∨
   (∃vs,v= .tuple ⟨vs⟩∧vs.all Am.plain=true∧K v H)):aA x g args H K:=by
 intro ρ Z as HA h1 h2
 have hzx: ∀b bk,Z b=some bk→Zo ρ Z H HA b=some bk:=fun b bk hb=>by simp only [Zo,hb]
 have hR0:Rel (fun _=>none) (Zo ρ Z H HA) [] HA:=by
  refine ⟨fun i cs h=>by simp [blk] at h,fun i j cs cs' b h=>by simp [blk] at h,fun i cs b h=>by simp [blk] at h,fun b bk hb=>?_,fun _ _=>rfl⟩
  cases hz:Z b with
  |some zo=>
   rw [hzx b zo hz] at hb;cases hb
   exact h2.dI b bk hz
  |none=>
   simp only [Zo,hz] at hb
   split at hb
   ·rename_i hex
    obtain ⟨i,cs,e1,e2⟩:=hex
    exact ⟨h2.lt e1 e2,hb⟩
   ·cases hb
 obtain ⟨v',HA',h3,_,aV,Z1,v,H1,h4,h5,_,_,h6,h8⟩:=h _ _ as HA (ha.vl h2 h1) hR0
 have hkeep: ∀b,b<HA.n→HA'.get b=HA.get b:=fun b hb=>h6.keep b hb fun i cs h=>by simp [blk] at h
 obtain ⟨Zf,jq⟩: ∃Zf:Nat→Option Blk,Zf=fun b=>if b<HA.n then Z b else Z1 b:=⟨_,rfl⟩
 have lN: ∀b bk,Z b=some bk→Zf b=some bk:=fun b bk hb=>by
  have:=(h2.dI b bk hb).1
  rw [jq]
  simp only
  rw [if_pos this]
  exact hb
 have hfro: ∀b bk,Zf b=some bk→b<HA'.n∧HA'.get b=some bk:=fun b bk hb=>by
  rw [jq] at hb
  simp only at hb
  split at hb
  ·rename_i hlt
   have:=(h2.dI b bk hb).2
   exact ⟨Nat.lt_of_lt_of_le hlt h6.n,by rw [hkeep b hlt];exact this⟩
  ·exact h5.dI b bk hb
 have hzn: ∀b bk,Zf b=some bk→Z b=some bk∨HA.n≤b:=fun b bk hb=>by
  rw [jq] at hb
  simp only at hb
  split at hb
  ·exact .inl hb
  ·exact .inr (by omega)
 rcases h8 with ⟨j,l,e,cs,k,n,rfl,hj,hp,hK⟩|⟨vs,rfl,hp,hK⟩
 ·obtain ⟨b0,bk1,hb0,e2,e3,e4,e5⟩:=h5.bF j cs hj
  have hge:HA.n≤b0:=by
   rcases h6.own j cs b0 hj hb0 with h9|⟨i,cs',h9,_⟩
   ·exact h9
   ·simp [blk] at h9
  have hold: ∀i cs',blk (H++[some cs]) i=some cs'→(i=H.length∧cs'=cs)∨(i<H.length∧blk H i=some cs'):=fun i cs' hc=>by
   rcases Nat.lt_trichotomy i H.length with hi|hi|hi
   ·right
    refine ⟨hi,?_⟩
    unfold blk at hc⊢
    rwa [List.getElem?_append_left hi] at hc
   ·left
    subst hi
    unfold blk at hc
    rw [List.getElem?_append_right (Nat.le_refl _)] at hc
    simp at hc
    exact ⟨rfl,hc.symm⟩
   ·unfold blk at hc
    rw [List.getElem?_eq_none (by simp;omega)] at hc
    cases hc
  have hρ: ∀i,i<H.length→put ρ H.length b0 i=ρ i:=fun i hi=>by simp only [put];rw [if_neg (by omega)]
  have eH:put ρ H.length b0 H.length=some b0:=by simp [put]
  have hv:VR (put ρ H.length b0) Zf (.tuple ⟨[.slice (some ⟨H.length,0,none⟩) l e, .int k n]⟩) v':=by
   obtain ⟨ds,rfl,hl⟩:=h4.tuple_inv
   obtain ⟨ds⟩:=ds
   obtain ⟨d1,r1,rfl,w1,hl⟩:=hl.gK
   obtain ⟨d2,r2,rfl,w2,hl⟩:=hl.gK
   obtain rfl:=hl.fP
   obtain ⟨b,hb,rfl⟩:=w1.slice_inv
   obtain rfl:=w2.int
   rw [hb0] at hb;cases hb
   exact .tuple rfl (VL.cons (.slice eH) (VL.cons (.z (.plain rfl)) VL.nil)).2
  refine ⟨_,HA',h3,fun _=>⟨h6.n,hkeep⟩,put ρ H.length b0,Zf,_,H++[some cs],hv,⟨fun i cs' hc=>?_,fun i i' cs1 cs2 b hc hc' hb hb'=>?_,fun i cs' b hc hb=>?_,hfro,fun i hi=>?_⟩,by simp,hρ,⟨h6.n,fun b hb _=>hkeep b hb,fun i cs' b hc hb=>?_,lN,fun b bk hb=>(hzn b bk hb).imp_right .inl⟩,hK⟩
  ·rcases hold i cs' hc with ⟨rfl,rfl⟩|⟨hi,hc⟩
   ·exact ⟨b0,bk1,eH,e2,e3,e4,e5.zl hp⟩
   ·obtain ⟨b,bk,k1,k2,k3,k4,k5⟩:=h2.bF i cs' hc
    refine ⟨b,bk,by rw [hρ i hi];exact k1,Nat.lt_of_lt_of_le k2 h6.n,by rw [hkeep b k2];exact k3,k4,k5.mono (fun q d hq=>?_) lN⟩
    rcases Nat.lt_or_ge q H.length with lQ|lQ
    ·rw [hρ q lQ];exact hq
    ·rw [h2.top q lQ] at hq;cases hq
  ·rcases hold i cs1 hc with ⟨rfl,rfl⟩|⟨hi,hc⟩<;>rcases hold i' cs2 hc' with ⟨rfl,_⟩|⟨hi',hc'⟩
   ·rfl
   ·rw [eH] at hb;cases hb
    rw [hρ i' hi'] at hb'
    have:=h2.lt hc' hb'
    omega
   ·rw [eH] at hb';cases hb'
    rw [hρ i hi] at hb
    have:=h2.lt hc hb
    omega
   ·rw [hρ i hi] at hb;rw [hρ i' hi'] at hb'
    exact h2.inj i i' cs1 cs2 b hc hc' hb hb'
  ·rcases hold i cs' hc with ⟨rfl,rfl⟩|⟨hi,hc⟩
   ·rw [eH] at hb;cases hb
    rw [jq]
    simp only
    rw [if_neg (by omega)]
    exact h5.cZ j _ b0 hj hb0
   ·rw [hρ i hi] at hb
    rw [jq]
    simp only
    rw [if_pos (h2.lt hc hb)]
    exact h2.cZ i cs' b hc hb
  ·simp only [List.length_append,List.length_singleton] at hi
   simp only [put]
   rw [if_neg (by omega)]
   exact h2.top i (by omega)
  ·rcases hold i cs' hc with ⟨rfl,rfl⟩|⟨hi,hc⟩
   ·rw [eH] at hb;cases hb
    exact .inl hge
   ·rw [hρ i hi] at hb
    exact .inr ⟨i,cs',hc,hb⟩
 ·have hv:VR ρ Zf (.tuple ⟨vs⟩) v':=by
   obtain ⟨ds,rfl,hl⟩:=h4.tuple_inv
   obtain ⟨ds⟩:=ds
   have:=hl.zl (ρ':=ρ) (Z':=Zf) hp
   exact .tuple this.1 this.2
  refine ⟨_,HA',h3,fun _=>⟨h6.n,hkeep⟩,ρ,Zf,_,H,hv,⟨fun i cs hc=>?_,h2.inj,fun i cs b hc hb=>?_,hfro,h2.top⟩,Nat.le_refl _,fun _ _=>rfl,⟨h6.n,fun b hb _=>hkeep b hb,fun i cs b hc hb=> .inr ⟨i,cs,hc,hb⟩,lN,fun b bk hb=>(hzn b bk hb).imp_right .inl⟩,hK⟩
  ·obtain ⟨b,bk,k1,k2,k3,k4,k5⟩:=h2.bF i cs hc
   exact ⟨b,bk,k1,Nat.lt_of_lt_of_le k2 h6.n,by rw [hkeep b k2];exact k3,k4,k5.mono (fun _ _ h=>h) lN⟩
  ·rw [jq]
   simp only
   rw [if_pos (h2.lt hc hb)]
   exact h2.cZ i cs b hc hb
end Go.Bm
namespace Go.Bm
open Go Go.Am
theorem yG {g:Nat} {args:List Value} {H:BH} {K:Value→BH→Prop} {i:Nat} {cs0:List Value} (hc0:blk H i=some cs0) (hn0:aF cs0)
  (h:aA false g (args.map (ren [i])) [some cs0] fun v H1=> ∃j l e cs,v= .slice (some ⟨j,0,none⟩) l e∧j≠0∧blk H1 j=some cs∧aF cs∧K (.slice (some ⟨H.length,0,none⟩) l e) ((H.set i none)++[some cs])):aA false g args H K:=by
 intro ρ Z as HA h1 h2
 have hi:=qF hc0
 obtain ⟨b0,yO,r1,r2,r3,r4,r5⟩:=h2.bF i cs0 hc0
 obtain ⟨gX,qG⟩: ∃gX:Nat→Option Nat,gX=fun j=>if j=0 then some b0 else none:=⟨_,rfl⟩
 have jC:gX 0=some b0:=by rw [qG];rfl
 have hR0:Rel gX Z [some cs0] HA:=by
  refine ⟨fun j cs hj=>?_,fun j j' c1 c2 b e1 e2 _ _=>?_,fun j cs b e1 e2=>?_,h2.dI,fun j hj=>?_⟩
  ·cases j with
   |zero=>
    simp [blk] at hj;subst hj
    exact ⟨b0,yO,jC,r2,r3,r4,(hn0.vz r5).vl⟩
   |succ j=>simp [blk] at hj
  ·cases j with
   |zero=>cases j' with
    |zero=>rfl
    |succ j'=>simp [blk] at e2
   |succ j=>simp [blk] at e1
  ·cases j with
   |zero=>
    rw [jC] at e2;cases e2
    exact h2.cZ i cs0 b0 hc0 r1
   |succ j=>simp [blk] at e1
  ·rw [qG]
   simp only [List.length_singleton] at hj
   simp only
   rw [if_neg (by omega)]
 have hargs:VL gX Z (args.map (ren [i])) as:=by
  refine ⟨by simpa using h1.1,fun q c d q1 q2=>?_⟩
  rw [List.getElem?_map] at q1
  obtain ⟨p,hp,rfl⟩:=map_inj q1
  refine nH (fun x y hxy=>?_) (h1.2 q p d hp q2)
  cases y with
  |zero=>
   simp at hxy
   subst hxy
   rw [jC,r1]
  |succ y=>simp at hxy
 obtain ⟨v',HA',h3,_,aV,Z1,v,H1,h4,h5,_,h7,h6,j,l,e,cs,rfl,hj0,hj,hn,hK⟩:=h gX Z as HA hargs hR0
 obtain ⟨bn,bk1,hb0,e2,e3,e4,e5⟩:=h5.bF j cs hj
 have jT: ∀q cs' b,blk ([some cs0]:BH) q=some cs'→gX q=some b→b=b0:=fun q cs' b e1 e2=>by
  cases q with
  |zero=>rw [jC] at e2;cases e2;rfl
  |succ q=>simp [blk] at e1
 have hge:HA.n≤bn∨bn=b0:=by
  rcases h6.own j cs bn hj hb0 with h9|⟨q,cs',h9,h10⟩
  ·exact .inl h9
  ·exact .inr (jT q cs' bn h9 h10)
 have hkeep: ∀b,b<HA.n→b≠b0→HA'.get b=HA.get b:=fun b hb hne=>h6.keep b hb fun q cs' e1 e2=>hne (jT q cs' b e1 e2)
 have hne: ∀q cs' b,q≠i→blk H q=some cs'→ρ q=some b→b≠b0:=fun q cs' b hq e1 e2 e=>hq (h2.inj q i cs' cs0 b e1 hc0 e2 (by rw [e];exact r1))
 have hold: ∀q cs',blk ((H.set i none)++[some cs]) q=some cs'→(q=H.length∧cs'=cs)∨(q<H.length∧q≠i∧blk H q=some cs'):=fun q cs' hc=>by
  rcases Nat.lt_trichotomy q H.length with hq|hq|hq
  ·right
   have hc':blk (H.set i none) q=some cs':=by
    unfold blk at hc⊢
    rwa [List.getElem?_append_left (by simpa using hq)] at hc
   rw [kQ hi] at hc'
   split at hc'
   ·cases hc'
   ·exact ⟨hq,by assumption,hc'⟩
  ·left
   subst hq
   unfold blk at hc
   rw [List.getElem?_append_right (by simp)] at hc
   simp at hc
   exact ⟨rfl,hc.symm⟩
  ·unfold blk at hc
   rw [List.getElem?_eq_none (by simp;omega)] at hc
   cases hc
 have hρ: ∀q,q<H.length→put ρ H.length bn q=ρ q:=fun q hq=>by simp only [put];rw [if_neg (by omega)]
 have eH:put ρ H.length bn H.length=some bn:=by simp [put]
 have hv:VR (put ρ H.length bn) Z1 (.slice (some ⟨H.length,0,none⟩) l e) v':=by
  obtain ⟨b,hb,rfl⟩:=h4.slice_inv
  rw [hb0] at hb;cases hb
  exact .slice eH
 refine ⟨v',HA',h3,(fun h=>by cases h),put ρ H.length bn,Z1,_,_,hv,⟨fun q cs' hc=>?_,fun q q' c1 c2 b k1 k2 k3 k4=>?_,fun q cs' b k1 k2=>?_,h5.dI,fun q hq=>?_⟩,by simp,hρ,⟨h6.n,fun b hb hno=>?_,fun q cs' b k1 k2=>?_,h6.zx,fun b bk hb=>?_⟩,hK⟩
 ·rcases hold q cs' hc with ⟨rfl,rfl⟩|⟨hq,hqi,hc⟩
  ·exact ⟨bn,bk1,eH,e2,e3,e4,(hn.vz e5).vl⟩
  ·obtain ⟨b,bk,k1,k2,k3,k4,k5⟩:=h2.bF q cs' hc
   refine ⟨b,bk,by rw [hρ q hq];exact k1,Nat.lt_of_lt_of_le k2 h6.n,by rw [hkeep b k2 (hne q cs' b hqi hc k1)];exact k3,k4,k5.mono (fun p d hp=>?_) h6.zx⟩
   rcases Nat.lt_or_ge p H.length with hpl|hpl
   ·rw [hρ p hpl];exact hp
   ·rw [h2.top p hpl] at hp;cases hp
 ·rcases hold q c1 k1 with ⟨rfl,rfl⟩|⟨hq,hqi,hc⟩<;>rcases hold q' c2 k2 with ⟨rfl,_⟩|⟨hq',yQ,hc'⟩
  ·rfl
  ·rw [eH] at k3;cases k3
   rw [hρ q' hq'] at k4
   rcases hge with h|h
   ·have:=h2.lt hc' k4;omega
   ·exact absurd h (hne q' _ _ yQ hc' k4)
  ·rw [eH] at k4;cases k4
   rw [hρ q hq] at k3
   rcases hge with h|h
   ·have:=h2.lt hc k3;omega
   ·exact absurd h (hne q _ _ hqi hc k3)
  ·rw [hρ q hq] at k3;rw [hρ q' hq'] at k4
   exact h2.inj q q' c1 c2 b hc hc' k3 k4
 ·rcases hold q cs' k1 with ⟨rfl,rfl⟩|⟨hq,hqi,hc⟩
  ·rw [eH] at k2;cases k2
   exact h5.cZ j _ bn hj hb0
  ·rw [hρ q hq] at k2
   cases hz:Z1 b with
   |none=>rfl
   |some bk=>
    rcases h6.zn b bk hz with h9|h9|⟨p,cs',h9,h10⟩
    ·rw [h2.cZ q cs' b hc k2] at h9;cases h9
    ·have:=h2.lt hc k2;omega
    ·exact absurd (jT p cs' b h9 h10) (hne q _ b hqi hc k2)
 ·simp only [List.length_append,List.length_set,List.length_singleton] at hq
  simp only [put]
  rw [if_neg (by omega)]
  exact h2.top q (by omega)
 ·refine hkeep b hb fun e=>?_
  rw [e] at hno
  exact hno i cs0 hc0 r1
 ·rcases hold q cs' k1 with ⟨rfl,rfl⟩|⟨hq,hqi,hc⟩
  ·rw [eH] at k2;cases k2
   rcases hge with h|h
   ·exact .inl h
   ·rw [h];exact .inr ⟨i,cs0,hc0,r1⟩
  ·rw [hρ q hq] at k2
   exact .inr ⟨q,cs',hc,k2⟩
 ·rcases h6.zn b bk hb with h9|h9|⟨p,cs',h9,h10⟩
  ·exact .inl h9
  ·exact .inr (.inl h9)
  ·rw [jT p cs' b h9 h10]
   exact .inr (.inr ⟨i,cs0,hc0,r1⟩)
end Go.Bm
