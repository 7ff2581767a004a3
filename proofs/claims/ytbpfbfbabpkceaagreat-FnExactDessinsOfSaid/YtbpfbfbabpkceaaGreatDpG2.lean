/- DpKa, BmQ, DpDb, DpDc, DpTa, DpLa, DpLz, DpDh, BmP, BmR, DpDd, DpS, DpEa -/
import Derived.Test.YtbpfbfbabpkceaaGreatBmT
import Derived.Test.YtbpfbfbabpkceaaGreatDpG0
import Derived.Test.YtbpfbfbabpkceaaGreatDpG1
set_option linter.unusedVariables false
set_option linter.unusedSimpArgs false
set_option linter.unusedSectionVars false
namespace Go.Bm
open Go Go.Am
def pad (pre:List Nat):List Nat:=pre++List.replicate (16-pre.length) 0
def lv (n:Nat):Nat→List Nat→List (List Nat)
 |0,pre=>[pad pre]
 |m+1,pre=>(List.range n).flatMap fun x=>if x∈pre then [] else lv n m (pre++[x])
def lV (p:List Nat) (k i:Nat):List Nat:=(p.set k (nl p i)).set i (nl p k)
def sw (n:Nat):Nat→List Nat→Nat→List (List Nat)
 |0,p,k=>[p]
 |m+1,p,k=>(List.range m.succ).flatMap fun d=>sw n m (lV p k (k+d)) (k+1)
def PQ (n:Nat) (q:List Nat):Prop:=Perm q n∧q.length=16
theorem Ad {pre:List Nat} (h:pre.length≤16):(pad pre).length=16:=by simp [pad];omega
theorem rC {pre:List Nat} {i:Nat}:nl (pad pre) i=if i<pre.length then nl pre i else 0:=by
 rw [pad,nG]
 split
 ·rfl
 ·rw [jZ];split<;>rfl
theorem D5 {α β:Type} {f:α→List β}: ∀{l:List α},l.Nodup→(∀a∈l,(f a).Nodup)→(∀a∈l,∀b∈l,a≠b→ ∀y∈f a,y∉f b)→(l.flatMap f).Nodup
 |[],_,_,_=>by simp
 |a::l,hn,h1,h2=>by
  rw [List.flatMap_cons,List.nodup_append]
  rw [List.nodup_cons] at hn
  refine ⟨h1 a (by simp),D5 hn.2 (fun b hb=>h1 b (by simp [hb])) fun b hb c hc=>h2 b (by simp [hb]) c (by simp [hc]),fun x hx y hy e=>?_⟩
  subst e
  obtain ⟨b,hb,hxb⟩:=List.mem_flatMap.1 hy
  exact h2 a (by simp) b (by simp [hb]) (fun e=>hn.1 (e▸hb)) x hx hxb
section
variable {n:Nat}
structure o8 (n:Nat) (pre:List Nat):Prop where
 gJ:pre.Nodup
 lt: ∀x∈pre,x<n
 len:pre.length≤n
theorem o9 (hn:1≤n∧n≤16): ∀(m:Nat) {pre:List Nat},o8 n pre→pre.length+m=n→ ∀q,q∈lv n m pre↔PQ n q∧q.take pre.length=pre
 |0,pre,h,hm,q=>by
  rw [lv,List.mem_singleton]
  have hl:pre.length=n:=by omega
  constructor
  ·rintro rfl
   refine ⟨⟨.of hn (fun i h1 h2=>by rw [rC,if_neg (by omega)]) (fun i hi=>?_) (fun i j hi hj e=>?_),Ad (by omega)⟩,?_⟩
   ·rw [rC,if_pos (by omega)]
    exact h.lt _ (iC (by omega))
   ·rw [rC,rC,if_pos (by omega),if_pos (by omega)] at e
    have:=D6 h.gJ (by omega) (by omega) e
    omega
   ·rw [pad,List.take_left]
  ·rintro ⟨⟨hp,jO⟩,ht⟩
   refine qB (by rw [jO,Ad (by omega)]) fun i hi=>?_
   rw [rC]
   by_cases hin:i<pre.length
   ·rw [if_pos hin,←ht]
    simp [nl,List.getD,List.getElem?_take,hin]
   ·rw [if_neg hin]
    exact hp.zero (by omega) (by omega)
 |m+1,pre,h,hm,q=>by
  rw [lv,List.mem_flatMap]
  constructor
  ·rintro ⟨x,hx,hq⟩
   split at hq
   ·simp at hq
   ·rename_i hxp
    have h':o8 n (pre++[x]):=⟨by
     rw [List.nodup_append]
     exact ⟨h.gJ,by simp,fun a ha b hb e=>by rw [List.mem_singleton] at hb;subst hb;subst e;exact hxp ha⟩,fun y hy=>by
     rcases List.mem_append.1 hy with hy|hy
     ·exact h.lt y hy
     ·rw [List.mem_singleton] at hy;subst hy;exact List.mem_range.1 hx,by simp;omega⟩
    obtain ⟨h1,h2⟩:=(o9 hn m h' (by simp;omega) q).1 hq
    refine ⟨h1,?_⟩
    have:=congrArg (List.take pre.length) h2
    rwa [List.take_take,List.take_left,List.length_append,Nat.min_eq_left (by omega)] at this
  ·rintro ⟨⟨hp,jO⟩,ht⟩
   have hin:pre.length<n:=by omega
   have hxn:=hp.lt hin
   have hnot:nl q pre.length∉pre:=fun hmem=>by
    obtain ⟨j,hj,he⟩:=pJ hmem
    have:nl q j=nl pre j:=by
     rw [←ht]
     simp [nl,List.getD,List.getElem?_take,hj]
    have:=hp.inj (by omega) hin (this.trans he)
    omega
   refine ⟨nl q pre.length,List.mem_range.2 hxn,?_⟩
   rw [if_neg hnot]
   have h':o8 n (pre++[nl q pre.length]):=⟨by
     rw [List.nodup_append]
     exact ⟨h.gJ,by simp,fun a ha b hb e=>by rw [List.mem_singleton] at hb;subst hb;subst e;exact hnot ha⟩,fun y hy=>by
     rcases List.mem_append.1 hy with hy|hy
     ·exact h.lt y hy
     ·rw [List.mem_singleton] at hy;subst hy;exact hxn,by simp;omega⟩
   refine (o9 hn m h' (by simp;omega) q).2 ⟨⟨hp,jO⟩,?_⟩
   rw [List.length_append,List.length_singleton,List.take_add_one,ht]
   congr 1
   simp [nl,List.getD,show pre.length<q.length by omega]
theorem JU (hn:1≤n∧n≤16): ∀(m:Nat) {pre:List Nat},o8 n pre→pre.length+m=n→(lv n m pre).Nodup
 |0,pre,_,_=>by simp [lv]
 |m+1,pre,h,hm=>by
  have h': ∀x,x<n→x∉pre→o8 n (pre++[x]):=fun x hx hxp=>⟨by
     rw [List.nodup_append]
     exact ⟨h.gJ,by simp,fun a ha b hb e=>by rw [List.mem_singleton] at hb;subst hb;subst e;exact hxp ha⟩,fun y hy=>by
     rcases List.mem_append.1 hy with hy|hy
     ·exact h.lt y hy
     ·rw [List.mem_singleton] at hy;subst hy;exact hx,by simp;omega⟩
  refine D5 List.nodup_range (fun x hx=>?_) fun x hx y hy hxy q hq hq'=>?_
  ·split
   ·exact List.nodup_nil
   ·rename_i hxp
    exact JU hn m (h' x (List.mem_range.1 hx) hxp) (by simp;omega)
  ·split at hq
   ·simp at hq
   ·rename_i hxp
    split at hq'
    ·simp at hq'
    ·rename_i hyp
     have h1:=((o9 hn m (h' x (List.mem_range.1 hx) hxp) (by simp;omega) q).1 hq).2
     have h2:=((o9 hn m (h' y (List.mem_range.1 hy) hyp) (by simp;omega) q).1 hq').2
     rw [List.length_append,List.length_singleton] at h1 h2
     rw [h1] at h2
     have:=List.append_cancel_left h2
     simp at this
     exact hxy this
theorem D7 {p:List Nat} {k i j:Nat} (hl:p.length=16) (hk:k<16) (hi:i<16):nl (lV p k i) j=if j=i then nl p k else if j=k then nl p i else nl p j:=by
 rw [lV,iR,iR,List.length_set,hl]
 by_cases e1:j=i
 ·rw [if_pos ⟨e1,by omega⟩,if_pos e1]
 ·rw [if_neg (by omega),if_neg e1]
  by_cases e2:j=k
  ·rw [if_pos ⟨e2,by omega⟩,if_pos e2]
  ·rw [if_neg (by omega),if_neg e2]
theorem AP {p:List Nat} {k i:Nat} (h:PQ n p) (hk:k<n) (hi:i<n):PQ n (lV p k i):=⟨h.1.swap h.2 hk hi,by rw [lV,List.length_set,List.length_set,h.2]⟩
theorem xG: ∀(m:Nat) {p:List Nat} {k:Nat},PQ n p→k+m=n→ ∀q,q∈sw n m p k↔PQ n q∧ ∀j,j<k→nl q j=nl p j
 |0,p,k,h,hm,q=>by
  rw [sw,List.mem_singleton]
  constructor
  ·rintro rfl
   exact ⟨h,fun _ _=>rfl⟩
  ·rintro ⟨hq,he⟩
   refine qB (by rw [hq.2,h.2]) fun i hi=>?_
   rcases Nat.lt_or_ge i k with h1|h1
   ·exact he i h1
   ·rw [hq.1.zero (by omega) (by have:=hq.2;omega),h.1.zero (by omega) (by have:=hq.2;omega)]
 |m+1,p,k,h,hm,q=>by
  have hn:=h.1.1
  have hl:=h.2
  rw [sw,List.mem_flatMap]
  constructor
  ·rintro ⟨d,hd,hq⟩
   have hd':d<m+1:=List.mem_range.1 hd
   obtain ⟨h1,h2⟩:=(xG m (AP h (show k<n by omega) (show k+d<n by omega)) (by omega) q).1 hq
   refine ⟨h1,fun j hj=>?_⟩
   rw [h2 j (by omega),D7 hl (by omega) (by omega),if_neg (by omega),if_neg (by omega)]
  ·rintro ⟨hq,he⟩
   obtain ⟨i,hi,hie⟩:=h.1.D8 (hq.1.lt (show k<n by omega))
   have hki:k≤i:=by
    rcases Nat.lt_or_ge i k with h1|h1
    ·have:=hq.1.inj (show i<n by omega) (show k<n by omega) ((he i h1).trans hie)
     omega
    ·exact h1
   refine ⟨i-k,List.mem_range.2 (by omega),?_⟩
   rw [show k+(i-k)=i by omega]
   refine (xG m (AP h (by omega) hi) (by omega) q).2 ⟨hq,fun j hj=>?_⟩
   rw [D7 hl (by omega) (by omega)]
   by_cases e1:j=k
   ·subst e1
    by_cases e2:j=i
    ·rw [if_pos e2,←hie,e2]
    ·rw [if_neg e2,if_pos rfl,hie]
   ·rw [if_neg (by omega),if_neg e1]
    exact he j (by omega)
theorem JV: ∀(m:Nat) {p:List Nat} {k:Nat},PQ n p→k+m=n→(sw n m p k).Nodup
 |0,p,k,_,_=>by simp [sw]
 |m+1,p,k,h,hm=>by
  have hn:=h.1.1
  have hl:=h.2
  have hs: ∀d,d<m+1→PQ n (lV p k (k+d)):=fun d hd=>AP h (by omega) (by omega)
  refine D5 List.nodup_range (fun d hd=>JV m (hs d (List.mem_range.1 hd)) (by omega)) fun d hd e he hde q hq hq'=>?_
  rw [List.mem_range] at hd he
  have h1:=((xG m (hs d hd) (by omega) q).1 hq).2 k (by omega)
  have h2:=((xG m (hs e he) (by omega) q).1 hq').2 k (by omega)
  have key: ∀d,d<m+1→nl (lV p k (k+d)) k=nl p (k+d):=fun d hd=>by
   rw [D7 hl (by omega) (by omega)]
   by_cases e:k=k+d
   ·rw [if_pos e,←e]
   ·rw [if_neg e,if_pos rfl]
  rw [key d hd] at h1
  rw [key e he] at h2
  have:=h.1.inj (show k+d<n by omega) (show k+e<n by omega) (h1.symm.trans h2)
  omega
theorem JW (hn:1≤n∧n≤16):(lv n n []).Perm (sw n n (lJ n) 0):=by
 have hid:PQ n (lJ n):=⟨JX hn,AQ⟩
 refine (List.perm_ext_iff_of_nodup (JU hn n ⟨by simp,by simp,by simp⟩ (by simp)) (JV n hid (by omega))).2 fun q=>?_
 rw [o9 hn n ⟨by simp,by simp,by simp⟩ (by simp),xG n hid (by omega)]
 simp
end
end Go.Bm
namespace Go.Bm
open Go Go.Am
def kZ (g:Value→Value) (H:BH):BH:=H.map (Option.map (List.map g))
theorem JG {g:Value→Value} {H:BH} {j:Nat} {cs:List Value} (h:blk (kZ g H) j=some cs): ∃cs0,blk H j=some cs0∧cs=cs0.map g:=by
 unfold blk kZ at h
 rw [List.getElem?_map] at h
 unfold blk
 cases h1:H[j]? with
 |none=>rw [h1] at h;cases h
 |some o=>
  rw [h1] at h
  cases o with
  |none=>cases h
  |some cs0=>exact ⟨cs0,rfl,by simpa using h.symm⟩
theorem Gh.fzA {k:Nat} {f:Fr} {H:BH} {i:Nat} {cs:List Value} (hc:blk H i=some cs) (hn:aP cs):Gh k f H (fun t=>frz i cs (f t)) ((kZ (frz i cs) H).set i none):=
 ⟨fun h=>by simpa [kZ] using h,fun ρ Z fA HA h1 h2=>by
  obtain ⟨Z',h3,h4,h5⟩:=xB h2 hc hn
  have hi:=xu hc
  have hset: ∀j cs',blk ((kZ (frz i cs) H).set i none) j=some cs'→j≠i∧ ∃cs0,blk H j=some cs0∧cs'=cs0.map (frz i cs):=fun j cs' h=>by
   rw [qH (by simpa [kZ] using hi)] at h
   split at h
   ·cases h
   ·rename_i hne
    exact ⟨hne,JG h⟩
  have hold: ∀j cs0,j≠i→blk H j=some cs0→blk (H.set i none) j=some cs0:=fun j cs0 hne h=>by rw [qH hi,if_neg hne];exact h
  refine ⟨ρ,Z',fun t=>h5 _ _ (h1 t),⟨fun j cs' h=>?_,fun j j' c1 c2 b e1 e2 e3 e4=>?_,fun j cs' b e1 e2=>?_,h3.fB,fun j hj=>h2.top j (by simpa [kZ] using hj)⟩,fun _ _=>rfl,⟨h4.n,h4.keep,fun j cs' b e1 e2=>?_,h4.zx,h4.zn⟩⟩
  ·obtain ⟨hne,cs0,g1,rfl⟩:=hset j cs' h
   obtain ⟨b,bk,k1,k2,k3,k4,k5⟩:=h2.bV j cs0 g1
   refine ⟨b,bk,k1,k2,k3,k4,by simpa using k5.1,fun q c d q1 q2=>?_⟩
   rw [List.getElem?_map] at q1
   obtain ⟨p,hp,rfl⟩:=map_inj q1
   exact h5 _ _ (k5.2 q p d hp q2)
  ·obtain ⟨n1,x1,g1,_⟩:=hset j c1 e1
   obtain ⟨n2,x2,g2,_⟩:=hset j' c2 e2
   exact h2.inj j j' x1 x2 b g1 g2 e3 e4
  ·obtain ⟨n1,x1,g1,_⟩:=hset j cs' e1
   exact h3.dX j x1 b (hold j x1 n1 g1) e2
  ·obtain ⟨n1,x1,g1,_⟩:=hset j cs' e1
   exact h4.own j x1 b (hold j x1 n1 g1) e2⟩
end Go.Bm
namespace Go.Bm
open Go Go.Am
end Go.Bm
namespace Go.Bm
open Go Go.Am
end Go.Bm
namespace Go.Bm
open Go Go.Am
theorem aaw {b w:List Nat} {n:Nat} (hb:Perm b n) (hw:Perm w n):Perm (jH b w n) n:=by
 have hn:=hb.1
 refine ⟨hb.1,fun i _=>⟨fun h=>by rw [xH (by omega),if_neg (by omega)],fun h=>?_⟩⟩
 have hi:i<n:=by omega
 rw [xH (by omega),if_pos hi]
 have h1:=hw.lt (hb.lt hi)
 refine ⟨by omega,fun j hj e=>?_⟩
 rw [xH (by omega),if_pos (by omega)] at e
 have:=hb.inj (by omega) hi (hw.inj (hb.lt (by omega)) (hb.lt hi) e)
 omega
theorem AU {b w:List Nat} {n:Nat} (hb:Perm b n) (hw:Perm w n):Perm (oW b w n) n:=(aaw hb hw).back
def Tree (n:Nat) (b w:List Nat):Prop:=(bg (oW b w n) n).length=1∧(bg b n).length+(bg w n).length=n+1
instance (n:Nat) (b w:List Nat):Decidable (Tree n b w):=by unfold Tree;infer_instance
def pK (p:List Nat) (n x:Nat):Nat:=(bg p n).findIdx fun c=>c.contains x
theorem xI {p:List Nat} {n x:Nat} (hp:Perm p n) (hx:x<n):pK p n x<(bg p n).length:=by
 obtain ⟨c,hc,hxc⟩:=D9 hp hx
 exact List.findIdx_lt_length_of_exists ⟨c,hc,by simpa using hxc⟩
theorem JY {p:List Nat} {n x:Nat} (hp:Perm p n) (hx:x<n):x∈(bg p n)[pK p n x]'(xI hp hx):=by
 have h2:((bg p n)[pK p n x]'(xI hp hx)).contains x=true:=List.findIdx_getElem (w:=xI hp hx)
 simpa using h2
theorem aax {p:List Nat} {n:Nat} (hp:Perm p n):(bg p n).flatten.Nodup:=(oz.all rfl hp (Nat.le_refl n)).gJ
theorem JZ: ∀{cs:List (List Nat)} {i j x:Nat} (hi:i<cs.length) (hj:j<cs.length),cs.flatten.Nodup→x∈cs[i]→x∈cs[j]→i=j
 |c::cs,0,0,x,_,_,_,_,_=>rfl
 |c::cs,0,j+1,x,_,hj,hn,h1,h2=>by
  rw [List.flatten_cons,List.nodup_append] at hn
  exact absurd rfl (hn.2.2 x h1 x (List.mem_flatten.2 ⟨_,List.getElem_mem (by simpa using hj),h2⟩))
 |c::cs,i+1,0,x,hi,_,hn,h1,h2=>by
  rw [List.flatten_cons,List.nodup_append] at hn
  exact absurd rfl (hn.2.2 x h2 x (List.mem_flatten.2 ⟨_,List.getElem_mem (by simpa using hi),h1⟩))
 |c::cs,i+1,j+1,x,hi,hj,hn,h1,h2=>by
  rw [List.flatten_cons,List.nodup_append] at hn
  rw [JZ (cs:=cs) (by simpa using hi) (by simpa using hj) hn.2.1 h1 h2]
theorem J3 {p:List Nat} {n x i:Nat} (hp:Perm p n) (hx:x<n) (hi:i<(bg p n).length) (h:x∈(bg p n)[i]):pK p n x=i:=
 JZ (xI hp hx) hi (aax hp) (JY hp hx) h
theorem J4 {p:List Nat} {n x:Nat} (hp:Perm p n) (hx:x<n):pK p n (nl p x)=pK p n x:=
 J3 hp (hp.lt hx) (xI hp hx) ((xJ hp (List.getElem_mem _)).fwd (JY hp hx))
theorem J5 {p:List Nat} {n i:Nat} (hp:Perm p n) (hi:i<(bg p n).length): ∃x,x<n∧pK p n x=i:=by
 have hc:=xJ hp (List.getElem_mem hi)
 have hm:nl (bg p n)[i] 0∈(bg p n)[i]:=iC hc.ne
 exact ⟨_,hc.lt _ hm,J3 hp (hc.lt _ hm) hi hm⟩
def merge (f:Nat→Nat) (e:Nat×Nat):Nat→Nat:=fun x=>if f x=f e.1 then f e.2 else f x
def pieces (es:List (Nat×Nat)):Nat→Nat:=es.foldl merge id
theorem J6: ∀(es:List (Nat×Nat)) (f:Nat→Nat) (V m:Nat) (S:List Nat),S.Nodup→m+es.length≤S.length→(∀a∈S,∃x,x<V∧f x=a)→
  ∃S':List Nat,S'.Nodup∧m≤S'.length∧ ∀a∈S',∃x,x<V∧(es.foldl merge f) x=a
 |[],f,V,m,S,h1,h2,h3=>⟨S,h1,by simpa using h2,h3⟩
 |e::es,f,V,m,S,h1,h2,h3=>by
  have hl:=List.length_erase (a:=f e.1) (l:=S)
  refine J6 es (merge f e) V m (S.erase (f e.1)) (h1.erase _) ?_ fun a ha=>?_
  ·simp only [List.length_cons] at h2
   split at hl<;>omega
  ·obtain ⟨x,hx,hxa⟩:=h3 a (List.mem_of_mem_erase ha)
   refine ⟨x,hx,?_⟩
   have hne:a≠f e.1:=fun h=>by
    subst h
    exact (List.Nodup.not_mem_erase h1) ha
   rw [merge,if_neg (by rw [hxa];exact hne),hxa]
theorem J7: ∀(es:List (Nat×Nat)) (f:Nat→Nat) (x y:Nat),f x=f y→(es.foldl merge f) x=(es.foldl merge f) y
 |[],f,x,y,h=>h
 |e::es,f,x,y,h=>J7 es (merge f e) x y (by simp only [merge,h])
theorem J8: ∀(es:List (Nat×Nat)) (f:Nat→Nat) (e:Nat×Nat),e∈es→(es.foldl merge f) e.1=(es.foldl merge f) e.2
 |e'::es,f,e,h=>by
  rcases List.mem_cons.1 h with rfl|h
  ·exact J7 es _ _ _ (by
    simp only [merge,if_true]
    split
    ·rfl
    ·rfl)
  ·exact J8 es (merge f e') e h
section
variable {b w:List Nat} {n:Nat}
def ends (b w:List Nat) (n:Nat) (c:Bool) (x:Nat):Nat:=if c then (bg b n).length+pK w n x else pK b n x
def others (b w:List Nat) (n y:Nat):List (Nat×Nat):=((List.range n).filter fun z=>z !=y).map fun z=>(ends b w n false z,ends b w n true z)
def lab (b w:List Nat) (n y:Nat):Nat→Nat:=pieces (others b w n y)
theorem aay {y z:Nat} (hz:z<n) (h:z≠y) (c c':Bool):lab b w n y (ends b w n c z)=lab b w n y (ends b w n c' z):=by
 have key:lab b w n y (ends b w n false z)=lab b w n y (ends b w n true z):=
  J8 _ id (ends b w n false z,ends b w n true z) (List.mem_map.2 ⟨z,List.mem_filter.2 ⟨List.mem_range.2 hz,by simpa using h⟩,rfl⟩)
 cases c<;>cases c'<;>first|rfl|exact key|exact key.symm
theorem aaz {y:Nat} (hy:y<n):((List.range n).filter fun z=>z !=y).length+1=n:=by
 have h1:((List.range n).filter fun z=>z !=y)=(List.range n).erase y:=(List.Nodup.erase_eq_filter List.nodup_range y).symm
 rw [h1,List.length_erase_of_mem (List.mem_range.2 hy),List.length_range]
 omega
theorem Tree.apart (hd:bY n b w) (ht:Tree n b w) {y:Nat} (hy:y<n):lab b w n y (ends b w n false y)≠lab b w n y (ends b w n true y):=by
 intro he
 obtain ⟨hb,hw,_⟩:=id hd
 have hall: ∀z,z<n→lab b w n y (ends b w n false z)=lab b w n y (ends b w n true z):=fun z hz=>by
  by_cases e:z=y
  ·rw [e];exact he
  ·exact aay hz e _ _
 have hone:=hd.ind (fun z=>lab b w n y (ends b w n false z)=lab b w n y (ends b w n false 0))
  (fun z hz hS=>by
   have e:ends b w n false (nl b z)=ends b w n false z:=by simp only [ends];exact J4 hb hz
   rw [e];exact hS)
  (fun z hz hS=>by
   have e:ends b w n true (nl w z)=ends b w n true z:=by simp only [ends,if_true];rw [J4 hw hz]
   rw [hall _ (hw.lt hz),e,←hall z hz];exact hS) rfl
 obtain ⟨S,h1,h2,h3⟩:=J6 (others b w n y) id (n+1) 2 (List.range (n+1)) List.nodup_range (by
  have:=aaz hy
  rw [others,List.length_map,List.length_range]
  omega) (fun a ha=>⟨a,List.mem_range.1 ha,rfl⟩)
 have J9: ∀v,v<n+1→lab b w n y v=lab b w n y (ends b w n false 0):=fun v hv=>by
  have ht2:=ht.2
  rcases Nat.lt_or_ge v (bg b n).length with h|h
  ·obtain ⟨x,hx,rfl⟩:=J5 hb h
   exact hone x hx
  ·obtain ⟨x,hx,hxv⟩:=J5 hw (show v-(bg b n).length<(bg w n).length by omega)
   have e:v=ends b w n true x:=by simp only [ends,if_true];omega
   rw [e,←hall x hx]
   exact hone x hx
 match S,h1,h2,h3 with
 |[],_,h2,_=>simp at h2
 |[_],_,h2,_=>simp at h2
 |a::a'::_,h1,_,h3=>
  obtain ⟨x,hx,hxa⟩:=h3 a (by simp)
  obtain ⟨x',hx',aaA⟩:=h3 a' (by simp)
  have e1:lab b w n y x=a:=hxa
  have e2:lab b w n y x'=a':=aaA
  have:a=a':=by rw [←e1,←e2,J9 x hx,J9 x' hx']
  simp only [List.nodup_cons,List.mem_cons] at h1
  exact h1.1 (.inl this)
def behind (b w:List Nat) (n:Nat) (c:Bool) (x:Nat):List Nat:=(List.range n).filter fun z=>z !=x&&lab b w n x (ends b w n false z)==lab b w n x (ends b w n c x)
def it (p:List Nat) (x:Nat):Nat→Nat
 |0=>nl p x
 |i+1=>nl p (it p x i)
end
def bs (l:List UInt8):ByteArray:=⟨l.toArray⟩
end Go.Bm
namespace Go.Bm
open Go Go.Am
def dep (s:List UInt8):Int:=(s.countP fun c=>c.toNat==40:Nat)-(s.countP fun c=>c.toNat==41:Nat)
def Ko (s:List UInt8):Prop:=(2≤s.length∧s.length≤32)∧(∀c∈s,c.toNat=40∨c.toNat=41)∧(∀i,i≤s.length→0≤dep (s.take i))∧dep s=0
instance (s:List UInt8):Decidable (Ko s):=by unfold Ko;infer_instance
def ch:List Nat→List Nat→List Nat
 |p,x::y::r=>ch (p.set x y) (y::r)
 |p,_=>p
def nH (p e:List Nat):List Nat:=if e=[] then p else (ch p e).set (e.getLastD 0) (e.headD 0)
theorem Kq: ∀{e p:List Nat} {y:Nat},e≠[]→ch p (e++[y])=(ch p e).set (e.getLastD 0) y
 |[x],p,y,_=>rfl
 |x::z::r,p,y,_=>by
  have:=Kq (e:=z::r) (p:=p.set x z) (y:=y) (by simp)
  simpa [ch,List.getLastD] using this
theorem Ea: ∀{e p:List Nat},(ch p e).length=p.length
 |[],p=>rfl
 |[x],p=>rfl
 |x::z::r,p=>by
  have:=Ea (e:=z::r) (p:=p.set x z)
  simpa [ch] using this
theorem head_mem {e:List Nat} (h:e≠[]):e.headD 0∈e:=by
 cases e with
 |nil=>exact absurd rfl h
 |cons a l=>simp
def lvl (c:Nat):List (List Nat)→List (List Nat)
 |[]=>[]
 |e::r=>if r.length%2=c then e::lvl c r else lvl c r
theorem Eb {c:Nat} {e:List Nat}: ∀{r:List (List Nat)},e∈lvl c r→e∈r
 |[],h=>h
 |a::r,h=>by
  rw [lvl] at h
  split at h
  ·rcases List.mem_cons.1 h with h|h
   ·simp [h]
   ·exact List.mem_cons_of_mem _ (Eb h)
  ·exact List.mem_cons_of_mem _ (Eb h)
structure MS where
 ways:List (List Nat)
 next:Nat
 b:List Nat
 w:List Nat
def ms0:MS:=⟨[[]],0,List.replicate 16 0,List.replicate 16 0⟩
structure xK (m:Nat) (s:MS):Prop where
 ne:(s.next=0∧s.ways=[[]])∨(0<s.next∧s.ways≠[]∧ ∀e∈s.ways,e≠[])
 lt: ∀e∈s.ways,∀x∈e,x<s.next
 gJ: ∀c,(lvl c s.ways).flatten.Nodup
 bb:By 16 s.b
 bw:By 16 s.w
theorem By.ch {e:List Nat}: ∀{p:List Nat},By 16 p→(∀x∈e,x<256)→By 16 (ch p e):=by
 induction e with
 |nil=>intro p h _;exact h
 |cons x e ih=>
  intro p h hl
  cases e with
  |nil=>exact h
  |cons y r=>exact ih (h.set (hl y (by simp))) fun z hz=>hl z (List.mem_cons_of_mem _ hz)
theorem By.nH {p e:List Nat} (h:By 16 p) (hl: ∀x∈e,x<256):By 16 (nH p e):=by
 unfold Bm.nH
 split
 ·exact h
 ·rename_i hn
  exact (h.ch hl).set (hl _ (head_mem hn))
theorem xK.z:xK 0 ms0:=⟨.inl ⟨rfl,rfl⟩,by simp [ms0],fun c=>by
 have:(lvl c ms0.ways).flatten=[]:=by
  simp only [ms0,lvl]
  split<;>rfl
 rw [this];simp,By.rep,By.rep⟩
theorem Kt {c n:Nat} {r:List (List Nat)} (h: ∀e∈r,∀x∈e,x<n): ∀x∈(lvl c r).flatten,x<n:=by
 intro x hx
 obtain ⟨e,he,hxe⟩:=List.mem_flatten.1 hx
 exact h e (Eb he) x hxe
theorem aaB {l t:List Nat} {n:Nat} (h:(l++t).Nodup) (hn:n∉l++t):((l++[n])++t).Nodup:=by
 have:((l++[n])++t).Perm (n::(l++t)):=by
  rw [List.append_assoc,List.singleton_append]
  exact List.perm_middle
 exact this.nodup_iff.2 (List.nodup_cons.2 ⟨hn,h⟩)
theorem xK.open {s:MS} {e:List Nat} {r:List (List Nat)} (h:xK 0 s) (hw:s.ways=e::r):xK 0 ⟨[s.next]::(e++[s.next])::r,s.next+1,s.b,s.w⟩:=by
 have hlt:=h.lt
 have Ku:=h.gJ
 rw [hw] at hlt Ku
 refine ⟨.inr ⟨by simp,by simp,fun a ha=>?_⟩,fun a ha x hx=>?_,fun c=>?_,h.bb,h.bw⟩
 ·simp only [List.mem_cons] at ha
  rcases ha with rfl|rfl|ha
  ·simp
  ·simp
  ·have:=h.ne
   rw [hw] at this
   rcases this with ⟨_,q⟩|⟨_,_,q⟩
   ·cases q;cases ha
   ·exact q a (by simp [ha])
 ·show x<s.next+1
  simp only [List.mem_cons] at ha
  rcases ha with rfl|rfl|ha
  ·simp at hx;omega
  ·rcases List.mem_append.1 hx with hx|hx
   ·have:=hlt e (by simp) x hx;omega
   ·simp at hx;omega
  ·have:=hlt a (by simp [ha]) x hx;omega
 ·have hf:=Kt (c:=c) hlt
  have hfr:=fun x hx=>Kt (c:=c) (r:=r) (n:=s.next) (fun e he=>hlt e (by simp [he])) x hx
  have h1:=Ku c
  simp only [lvl] at h1 hf⊢
  by_cases hc:r.length%2=c
  ·rw [if_pos hc] at h1 hf
   rw [if_pos hc,List.length_cons,if_neg (by omega)]
   rw [List.flatten_cons] at h1 hf⊢
   exact aaB h1 fun q=>absurd (hf _ q) (by omega)
  ·rw [if_neg hc] at h1
   rw [if_neg hc]
   split
   ·rw [List.flatten_cons,List.singleton_append,List.nodup_cons]
    exact ⟨fun q=>absurd (hfr _ q) (by omega),h1⟩
   ·exact h1
def laT (e:List Nat) (r:List (List Nat)):Int:=if r=[] then (if e=[] then-1 else (e.getLastD 0:Nat)) else if e.length≤1 then-1 else (e.getLastD 0:Nat)
def la:List (List Nat)→List Int
 |[]=>[]
 |e::r=>la r++[laT e r]
end Go.Bm
namespace Go.Bm
open Go Go.Am
def l9 (p e:List Nat) (k:Nat):List Nat:=if k<e.length then ch p (e.take (k+1)) else nH p e
theorem aaC {p e:List Nat}:l9 p e 0=p:=by
 cases e with
 |nil=>rfl
 |cons a l=>rfl
theorem aaD {p e:List Nat} {k:Nat}:(l9 p e k).length=p.length:=by
 unfold l9 nH
 split
 ·exact Ea
 ·split
  ·rfl
  ·rw [List.length_set,Ea]
theorem aaE {e:List Nat} {k:Nat} (h:k<e.length):(e.take (k+1)).getLastD 0=nl e k:=by
 have:e.take (k+1)=e.take k++[e[k]]:=by rw [List.take_add_one,List.getElem?_eq_getElem h,Option.toList_some]
 rw [this,List.getLastD_concat]
 simp [nl,List.getD,h]
theorem aaF {p e:List Nat} {k:Nat} (h:k<e.length):(l9 p e k).set (nl e k) (nl e ((k+1)%e.length))=l9 p e (k+1):=by
 have hl:=aaE h
 rw [l9,if_pos h]
 by_cases h1:k+1<e.length
 ·rw [l9,if_pos h1,Nat.mod_eq_of_lt h1]
  have h2:e.take (k+1+1)=e.take (k+1)++[nl e (k+1)]:=by
   rw [List.take_add_one (i:=k+1),List.getElem?_eq_getElem h1,Option.toList_some]
   simp [nl,List.getD,h1]
  rw [h2,Kq (by intro q;have:=congrArg List.length q;rw [List.length_take,List.length_nil] at this;omega),hl]
 ·have hk:k+1=e.length:=by omega
  have hn:e≠[]:=by rintro rfl;simp at h
  rw [l9,if_neg h1,hk,Nat.mod_self,nH,if_neg hn,List.take_of_length_le (Nat.le_refl _)]
  rw [hk,List.take_of_length_le (Nat.le_refl _)] at hl
  rw [hl]
  congr 1
  cases e with
  |nil=>exact absurd rfl hn
  |cons a l=>rfl
theorem Kv {p e:List Nat}:l9 p e e.length=nH p e:=by rw [l9,if_neg (by omega)]
theorem Kw {e:List Nat} (hn:e.Nodup) {j k:Nat} (hj:j<e.length) (hk:k<e.length) (h:nl e j=nl e k):j=k:=by
 simp only [nl,List.getD,List.getElem?_eq_getElem hj,List.getElem?_eq_getElem hk,Option.getD_some] at h
 exact (List.getElem_inj hn).1 h
theorem Ec {e:List Nat} {x:Nat} (h:x∈e): ∃k,k<e.length∧x=nl e k:=by
 obtain ⟨k,hk,rfl⟩:=List.mem_iff_getElem.1 h
 exact ⟨k,hk,by simp [nl,List.getD,hk]⟩
theorem Ed {p e:List Nat} (hn:e.Nodup) (hl: ∀x∈e,x<p.length): ∀k,k≤e.length→(∀j,j<k→nl (l9 p e k) (nl e j)=nl e ((j+1)%e.length))∧ ∀x,(∀j,j<k→x≠nl e j)→nl (l9 p e k) x=nl p x
 |0,_=>⟨fun j h=>absurd h (by omega),fun x _=>by rw [aaC]⟩
 |k+1,hk=>by
  obtain ⟨h1,h2⟩:=Ed hn hl k (by omega)
  have hlt:nl e k<p.length:=hl _ (iC (by omega))
  rw [←aaF (by omega)]
  refine ⟨fun j hj=>?_,fun x hx=>?_⟩
  ·rw [iR]
   by_cases e1:j=k
   ·subst e1
    rw [if_pos ⟨rfl,by rw [aaD];exact hlt⟩]
   ·rw [if_neg fun q=>e1 (Kw hn (by omega) (by omega) q.1)]
    exact h1 j (by omega)
  ·rw [iR,if_neg fun q=>hx k (by omega) q.1]
   exact h2 x fun j hj=>hx j (by omega)
theorem Ee {p e:List Nat} (hn:e.Nodup) (hl: ∀x∈e,x<p.length) {j:Nat} (hj:j<e.length):nl (nH p e) (nl e j)=nl e ((j+1)%e.length):=by
 rw [←Kv]
 exact (Ed hn hl _ (Nat.le_refl _)).1 j hj
theorem xM {p e:List Nat} (hn:e.Nodup) (hl: ∀x∈e,x<p.length) {x:Nat} (hx:x∉e):nl (nH p e) x=nl p x:=by
 rw [←Kv]
 exact (Ed hn hl _ (Nat.le_refl _)).2 x fun j hj q=>hx (by rw [q];exact iC hj)
theorem Perm.bg {n:Nat} {p e:List Nat} (h:Perm p n) (hl:p.length=16) (hn:e.Nodup) (h16: ∀x∈e,x<n) (hf: ∀x∈e,nl p x=x):Perm (nH p e) n:=by
 have hN:=h.1
 have hb: ∀x∈e,x<p.length:=fun x hx=>by have:=h16 x hx;omega
 have hin: ∀x∈e,nl (nH p e) x∈e:=fun x hx=>by
  obtain ⟨k,hk,rfl⟩:=Ec hx
  rw [Ee hn hb hk]
  exact iC (Nat.mod_lt _ (by omega))
 have hout: ∀x,x<n→x∉e→nl p x∉e:=fun x hx he hq=>he (by
  have:=h.inj hx (h16 _ hq) (hf _ hq).symm
  rw [this];exact hq)
 refine .of (by omega) (fun i h1 h2=>?_) (fun i hi=>?_) fun i j hi hj he=>?_
 ·have:i∉e:=fun q=>absurd (h16 i q) (by omega)
  rw [xM hn hb this]
  exact h.zero h1 h2
 ·by_cases he:i∈e
  ·exact h16 _ (hin i he)
  ·rw [xM hn hb he];exact h.lt hi
 ·have hj':j<n:=by omega
  by_cases h1:i∈e
  ·by_cases h2:j∈e
   ·obtain ⟨a,ha,rfl⟩:=Ec h1
    obtain ⟨b,hb',rfl⟩:=Ec h2
    rw [Ee hn hb ha,Ee hn hb hb'] at he
    have hm:=Kw hn (Nat.mod_lt _ (by omega)) (Nat.mod_lt _ (by omega)) he
    have e1:b=a:=by
     by_cases c1:a+1<e.length
     ·by_cases c2:b+1<e.length
      ·rw [Nat.mod_eq_of_lt c1,Nat.mod_eq_of_lt c2] at hm;omega
      ·have:b+1=e.length:=by omega
       rw [Nat.mod_eq_of_lt c1,this,Nat.mod_self] at hm;omega
     ·have c1':a+1=e.length:=by omega
      by_cases c2:b+1<e.length
      ·rw [Nat.mod_eq_of_lt c2,c1',Nat.mod_self] at hm;omega
      ·omega
    rw [e1] at hj
    omega
   ·have:=hin i h1
    rw [←he,xM hn hb h2] at this
    exact hout j hj' h2 this
  ·rw [xM hn hb h1] at he
   by_cases h2:j∈e
   ·have:=hin j h2
    rw [he] at this
    exact hout i hi h1 this
   ·rw [xM hn hb h2] at he
    have:=h.inj hj' hi he
    omega
end Go.Bm
namespace Go.Bm
open Go Go.Am
section
variable {code:List Nat} {a:Nat} {h:Int}
end
end Go.Bm
namespace Go.Bm
open Go Go.Am
theorem VZ.um {Z:Nat→Option Blk} {v u:Value} (hp:Am.plain v=true) (h:VZ Z v u):u=v:=by
 cases h with
 |junk=>simp [Am.plain] at hp
 |plain _=>rfl
 |fz _ _ _ _ _ _=>simp [Am.plain] at hp
 |fz0=>simp [Am.plain] at hp
 |fp _ _ _ _ _=>simp [Am.plain] at hp
 |agg _ _=>simp [Am.plain] at hp
 | @tuple cs ds hl _=>
  have:cs=[]:=by simpa [Am.plain] using hp
  subst this
  have:ds=[]:=List.eq_nil_of_length_eq_zero hl.symm
  rw [this]
 |func _ _=>simp [Am.plain] at hp
theorem VR.um {ρ:Nat→Option Nat} {Z:Nat→Option Blk} {v u:Value} (hp:Am.plain v=true) (h:VR ρ Z v u):u=v:=(NN.plain hp _ _ _ h).um hp
theorem VL.Ef {ρ ρ':Nat→Option Nat} {Z Z':Nat→Option Blk} {cs ds:List Value} (hp:cs.all Am.plain=true) (h:VL ρ Z cs ds):VL ρ' Z' cs ds:=by
 refine ⟨h.1,fun i c d h1 h2=>?_⟩
 have hc:=List.all_eq_true.1 hp c (List.mem_of_getElem? h1)
 rw [(h.2 i c d h1 h2).um hc]
 exact .z (.plain hc)
def hdr:Nat→List (List Value)→List Value
 | _,[]=>[]
 |k,r::rs=> .slice (some ⟨k,0,none⟩) r.length 1::hdr (k+1) rs
theorem AV: ∀{k:Nat} {rows:List (List Value)},(hdr k rows).length=rows.length
 | _,[]=>rfl
 |k,r::rs=>by simp [hdr,AV (k:=k+1) (rows:=rs)]
theorem Eh: ∀{k:Nat} {rows:List (List Value)} {j:Nat} {r:List Value},rows[j]? =some r→(hdr k rows)[j]? =some (.slice (some ⟨k+j,0,none⟩) r.length 1)
 | _,[],j,r,h=>by simp at h
 |k,r0::rs,0,r,h=>by
  simp at h
  subst h
  rfl
 |k,r0::rs,j+1,r,h=>by
  have:=Eh (k:=k+1) (rows:=rs) (j:=j) (r:=r) (by simpa using h)
  rw [hdr,List.getElem?_cons_succ,this]
  congr 4
  omega
def Ky (r:List Value):Value:=Fz r.length 1 r
inductive kC (H:BH):List Value→List Value→Prop where
 |nil:kC H [] []
 |nn {a:Value} {as as':List Value}:NN a→kC H as as'→kC H (a::as) (a::as')
 |own {i l e:Nat} {cs as as':List Value}:blk H i=some cs→l*e=cs.length→cs.all Am.plain=true→kC H as as'→kC H (.slice (some ⟨i,0,none⟩) l e::as) (Fz l e cs::as')
 |Kz {i k:Nat} {rows:List (List Value)} {as as':List Value}:blk H i=some (hdr k rows)→(∀(j:Nat) (r:List Value),rows[j]? =some r→blk H (k+j)=some r∧r.all Am.plain=true)→kC H as as'→kC H (.slice (some ⟨i,0,none⟩) rows.length 1::as) (Fz rows.length 1 (rows.map Ky)::as')
open Classical in
noncomputable def Zo (ρ:Nat→Option Nat) (Z:Nat→Option Blk) (H:BH) (HA:AHeap) (b:Nat):Option Blk:=
 match Z b with
 |some bk=>some bk
 |none=>if∃i cs,blk H i=some cs∧ρ i=some b then HA.get b else none
theorem kC.vl {ρ:Nat→Option Nat} {Z:Nat→Option Blk} {H:BH} {HA:AHeap} (hR:Rel ρ Z H HA) {as as':List Value} (h:kC H as as'): ∀{us:List Value},VL ρ Z as us→VL (fun _=>none) (Zo ρ Z H HA) as' us:=by
 have hzx: ∀b bk,Z b=some bk→Zo ρ Z H HA b=some bk:=fun b bk hb=>by simp only [Zo,hb]
 induction h with
 |nil=>intro us h1;rw [h1.jC];exact VL.nil
 |nn hn _ ih=>
  intro us h1
  obtain ⟨u,us,rfl,h2,h3⟩:=h1.jB
  exact VL.cons (.z ((hn _ _ _ h2).mono hzx)) (ih h3)
 | @own i l e cs as as' hb hl hp _ ih=>
  intro us h1
  obtain ⟨u,us,rfl,h2,h3⟩:=h1.jB
  refine VL.cons ?_ (ih h3)
  obtain ⟨b,hρ,rfl⟩:=h2.slice_inv
  obtain ⟨b',bk,k1,k2,k3,k4,k5⟩:=hR.bV i cs hb
  rw [hρ] at k1;cases k1
  have hz:Zo ρ Z H HA b=some bk:=by
   simp only [Zo,hR.dX i cs b hb hρ]
   rw [if_pos ⟨i,cs,hb,hρ⟩,k3]
  have k6:VL (fun _=>none) (Zo ρ Z H HA) cs bk.cells:=k5.Ef hp
  refine .z (.fz (bk:=bk) (ds:=bk.cells) hz hl.symm k5.1 (by rw [hl,k5.1];omega) (by rw [hl,k5.1,List.drop_zero,List.take_length]) fun q c d h1 h2=>?_)
  have hc:=List.all_eq_true.1 hp c (List.mem_of_getElem? h1)
  rw [(k5.2 q c d h1 h2).um hc]
  exact .plain hc
 | @Kz i k rows as as' hb hr _ ih=>
  intro us h1
  obtain ⟨u,us,rfl,h2,h3⟩:=h1.jB
  refine VL.cons ?_ (ih h3)
  obtain ⟨b,hρ,rfl⟩:=h2.slice_inv
  obtain ⟨b',bk,k1,k2,k3,k4,k5⟩:=hR.bV i _ hb
  rw [hρ] at k1;cases k1
  have hz:Zo ρ Z H HA b=some bk:=by
   simp only [Zo,hR.dX i _ b hb hρ]
   rw [if_pos ⟨i,_,hb,hρ⟩,k3]
  have hln:bk.cells.length=rows.length:=by rw [←k5.1,AV]
  refine .z (.fz (bk:=bk) (ds:=bk.cells) hz (by simp) (by rw [List.length_map,hln]) (by omega) (by rw [Nat.mul_one,←hln,List.drop_zero,List.take_length]) fun q c d e1 e2=>?_)
  rw [List.getElem?_map] at e1
  obtain ⟨r,e3,rfl⟩:=Option.map_eq_some_iff.1 e1
  obtain ⟨e4,e5⟩:=hr q r e3
  obtain ⟨bq,hbq,rfl⟩:=(k5.2 q _ d (Eh e3) e2).slice_inv
  obtain ⟨b2,bk2,m1,m2,m3,m4,m5⟩:=hR.bV (k+q) r e4
  rw [hbq] at m1;cases m1
  have hz2:Zo ρ Z H HA bq=some bk2:=by
   simp only [Zo,hR.dX _ _ bq e4 hbq]
   rw [if_pos ⟨_,_,e4,hbq⟩,m3]
  refine .fz (bk:=bk2) (ds:=bk2.cells) hz2 (by simp) m5.1 (by rw [Nat.zero_add,Nat.mul_one,m5.1];omega) (by rw [Nat.mul_one,m5.1,List.drop_zero,List.take_length]) fun q' c' d' h1' h2'=>?_
  have hc:=List.all_eq_true.1 e5 c' (List.mem_of_getElem? h1')
  rw [(m5.2 q' c' d' h1' h2').um hc]
  exact .plain hc
theorem KA {x:Bool} {g:Nat} {args args':List Value} {H:BH} {K:Value→BH→Prop} (ha:kC H args args')
  (h:aB false g args' [] fun v H1=>(∃j l e cs k n,v= .tuple ⟨[.slice (some ⟨j,0,none⟩) l e, .int k n]⟩∧blk H1 j=some cs∧cs.all Am.plain=true∧K (.tuple ⟨[.slice (some ⟨H.length,0,none⟩) l e, .int k n]⟩) (H++[some cs]))∨
   (∃vs,v= .tuple ⟨vs⟩∧vs.all Am.plain=true∧K v H)):aB x g args H K:=by
 intro ρ Z as HA h1 h2
 have hzx: ∀b bk,Z b=some bk→Zo ρ Z H HA b=some bk:=fun b bk hb=>by simp only [Zo,hb]
 have hR0:Rel (fun _=>none) (Zo ρ Z H HA) [] HA:=by
  refine ⟨fun i cs h=>by simp [blk] at h,fun i j cs cs' b h=>by simp [blk] at h,fun i cs b h=>by simp [blk] at h,fun b bk hb=>?_,fun _ _=>rfl⟩
  cases hz:Z b with
  |some Ei=>
   rw [hzx b Ei hz] at hb;cases hb
   exact h2.fB b bk hz
  |none=>
   simp only [Zo,hz] at hb
   split at hb
   ·rename_i hex
    obtain ⟨i,cs,e1,e2⟩:=hex
    exact ⟨h2.lt e1 e2,hb⟩
   ·cases hb
 obtain ⟨v',HA',h3,_,bI,Z1,v,H1,h4,h5,_,_,h6,h8⟩:=h _ _ as HA (ha.vl h2 h1) hR0
 have hkeep: ∀b,b<HA.n→HA'.get b=HA.get b:=fun b hb=>h6.keep b hb fun i cs h=>by simp [blk] at h
 obtain ⟨Zf,nJ⟩: ∃Zf:Nat→Option Blk,Zf=fun b=>if b<HA.n then Z b else Z1 b:=⟨_,rfl⟩
 have rO: ∀b bk,Z b=some bk→Zf b=some bk:=fun b bk hb=>by
  have:=(h2.fB b bk hb).1
  rw [nJ]
  simp only
  rw [if_pos this]
  exact hb
 have hfro: ∀b bk,Zf b=some bk→b<HA'.n∧HA'.get b=some bk:=fun b bk hb=>by
  rw [nJ] at hb
  simp only at hb
  split at hb
  ·rename_i hlt
   have:=(h2.fB b bk hb).2
   exact ⟨Nat.lt_of_lt_of_le hlt h6.n,by rw [hkeep b hlt];exact this⟩
  ·exact h5.fB b bk hb
 have hzn: ∀b bk,Zf b=some bk→Z b=some bk∨HA.n≤b:=fun b bk hb=>by
  rw [nJ] at hb
  simp only at hb
  split at hb
  ·exact .inl hb
  ·exact .inr (by omega)
 rcases h8 with ⟨j,l,e,cs,k,n,rfl,hj,hp,hK⟩|⟨vs,rfl,hp,hK⟩
 ·obtain ⟨b0,bk1,hb0,e2,e3,e4,e5⟩:=h5.bV j cs hj
  have hge:HA.n≤b0:=by
   rcases h6.own j cs b0 hj hb0 with h9|⟨i,cs',h9,_⟩
   ·exact h9
   ·simp [blk] at h9
  have hold: ∀i cs',blk (H++[some cs]) i=some cs'→(i=H.length∧cs'=cs)∨(i<H.length∧blk H i=some cs'):=fun i cs' hc=>by
   rcases Nat.lt_trichotomy i H.length with hi|hi|hi
   ·right
    refine ⟨hi,?_⟩
    unfold blk at hc⊢
    rwa [List.getElem?_append_left hi] at hc
   ·left
    subst hi
    unfold blk at hc
    rw [List.getElem?_append_right (Nat.le_refl _)] at hc
    simp at hc
    exact ⟨rfl,hc.symm⟩
   ·unfold blk at hc
    rw [List.getElem?_eq_none (by simp;omega)] at hc
    cases hc
  have hρ: ∀i,i<H.length→put ρ H.length b0 i=ρ i:=fun i hi=>by simp only [put];rw [if_neg (by omega)]
  have iH:put ρ H.length b0 H.length=some b0:=by simp [put]
  have hv:VR (put ρ H.length b0) Zf (.tuple ⟨[.slice (some ⟨H.length,0,none⟩) l e, .int k n]⟩) v':=by
   obtain ⟨ds,rfl,hl⟩:=h4.tuple_inv
   obtain ⟨ds⟩:=ds
   obtain ⟨d1,r1,rfl,w1,hl⟩:=hl.jB
   obtain ⟨d2,r2,rfl,w2,hl⟩:=hl.jB
   obtain rfl:=hl.jC
   obtain ⟨b,hb,rfl⟩:=w1.slice_inv
   obtain rfl:=w2.int
   rw [hb0] at hb;cases hb
   exact .tuple rfl (VL.cons (.slice iH) (VL.cons (.z (.plain rfl)) VL.nil)).2
  refine ⟨_,HA',h3,fun _=>⟨h6.n,hkeep⟩,put ρ H.length b0,Zf,_,H++[some cs],hv,⟨fun i cs' hc=>?_,fun i i' cs1 cs2 b hc hc' hb hb'=>?_,fun i cs' b hc hb=>?_,hfro,fun i hi=>?_⟩,by simp,hρ,⟨h6.n,fun b hb _=>hkeep b hb,fun i cs' b hc hb=>?_,rO,fun b bk hb=>(hzn b bk hb).imp_right .inl⟩,hK⟩
  ·rcases hold i cs' hc with ⟨rfl,rfl⟩|⟨hi,hc⟩
   ·exact ⟨b0,bk1,iH,e2,e3,e4,e5.Ef hp⟩
   ·obtain ⟨b,bk,k1,k2,k3,k4,k5⟩:=h2.bV i cs' hc
    refine ⟨b,bk,by rw [hρ i hi];exact k1,Nat.lt_of_lt_of_le k2 h6.n,by rw [hkeep b k2];exact k3,k4,k5.mono (fun q d hq=>?_) rO⟩
    rcases Nat.lt_or_ge q H.length with bC|bC
    ·rw [hρ q bC];exact hq
    ·rw [h2.top q bC] at hq;cases hq
  ·rcases hold i cs1 hc with ⟨rfl,rfl⟩|⟨hi,hc⟩<;>rcases hold i' cs2 hc' with ⟨rfl,_⟩|⟨hi',hc'⟩
   ·rfl
   ·rw [iH] at hb;cases hb
    rw [hρ i' hi'] at hb'
    have:=h2.lt hc' hb'
    omega
   ·rw [iH] at hb';cases hb'
    rw [hρ i hi] at hb
    have:=h2.lt hc hb
    omega
   ·rw [hρ i hi] at hb;rw [hρ i' hi'] at hb'
    exact h2.inj i i' cs1 cs2 b hc hc' hb hb'
  ·rcases hold i cs' hc with ⟨rfl,rfl⟩|⟨hi,hc⟩
   ·rw [iH] at hb;cases hb
    rw [nJ]
    simp only
    rw [if_neg (by omega)]
    exact h5.dX j _ b0 hj hb0
   ·rw [hρ i hi] at hb
    rw [nJ]
    simp only
    rw [if_pos (h2.lt hc hb)]
    exact h2.dX i cs' b hc hb
  ·simp only [List.length_append,List.length_singleton] at hi
   simp only [put]
   rw [if_neg (by omega)]
   exact h2.top i (by omega)
  ·rcases hold i cs' hc with ⟨rfl,rfl⟩|⟨hi,hc⟩
   ·rw [iH] at hb;cases hb
    exact .inl hge
   ·rw [hρ i hi] at hb
    exact .inr ⟨i,cs',hc,hb⟩
 ·have hv:VR ρ Zf (.tuple ⟨vs⟩) v':=by
   obtain ⟨ds,rfl,hl⟩:=h4.tuple_inv
   obtain ⟨ds⟩:=ds
   have:=hl.Ef (ρ':=ρ) (Z':=Zf) hp
   exact .tuple this.1 this.2
  refine ⟨_,HA',h3,fun _=>⟨h6.n,hkeep⟩,ρ,Zf,_,H,hv,⟨fun i cs hc=>?_,h2.inj,fun i cs b hc hb=>?_,hfro,h2.top⟩,Nat.le_refl _,fun _ _=>rfl,⟨h6.n,fun b hb _=>hkeep b hb,fun i cs b hc hb=> .inr ⟨i,cs,hc,hb⟩,rO,fun b bk hb=>(hzn b bk hb).imp_right .inl⟩,hK⟩
  ·obtain ⟨b,bk,k1,k2,k3,k4,k5⟩:=h2.bV i cs hc
   exact ⟨b,bk,k1,Nat.lt_of_lt_of_le k2 h6.n,by rw [hkeep b k2];exact k3,k4,k5.mono (fun _ _ h=>h) rO⟩
  ·rw [nJ]
   simp only
   rw [if_pos (h2.lt hc hb)]
   exact h2.dX i cs b hc hb
end Go.Bm
namespace Go.Bm
open Go Go.Am
theorem adK {g:Nat} {args:List Value} {H:BH} {K:Value→BH→Prop} {i:Nat} {cs0:List Value} (hc0:blk H i=some cs0) (hn0:aP cs0)
  (h:aB false g (args.map (ren [i])) [some cs0] fun v H1=> ∃j l e cs,v= .slice (some ⟨j,0,none⟩) l e∧j≠0∧blk H1 j=some cs∧aP cs∧K (.slice (some ⟨H.length,0,none⟩) l e) ((H.set i none)++[some cs])):aB false g args H K:=by
 intro ρ Z as HA h1 h2
 have hi:=xu hc0
 obtain ⟨b0,DT,r1,r2,r3,r4,r5⟩:=h2.bV i cs0 hc0
 obtain ⟨kQ,xw⟩: ∃kQ:Nat→Option Nat,kQ=fun j=>if j=0 then some b0 else none:=⟨_,rfl⟩
 have oq:kQ 0=some b0:=by rw [xw];rfl
 have hR0:Rel kQ Z [some cs0] HA:=by
  refine ⟨fun j cs hj=>?_,fun j j' c1 c2 b e1 e2 _ _=>?_,fun j cs b e1 e2=>?_,h2.fB,fun j hj=>?_⟩
  ·cases j with
   |zero=>
    simp [blk] at hj;subst hj
    exact ⟨b0,DT,oq,r2,r3,r4,(hn0.vz r5).vl⟩
   |succ j=>simp [blk] at hj
  ·cases j with
   |zero=>cases j' with
    |zero=>rfl
    |succ j'=>simp [blk] at e2
   |succ j=>simp [blk] at e1
  ·cases j with
   |zero=>
    rw [oq] at e2;cases e2
    exact h2.dX i cs0 b0 hc0 r1
   |succ j=>simp [blk] at e1
  ·rw [xw]
   simp only [List.length_singleton] at hj
   simp only
   rw [if_neg (by omega)]
 have hargs:VL kQ Z (args.map (ren [i])) as:=by
  refine ⟨by simpa using h1.1,fun q c d q1 q2=>?_⟩
  rw [List.getElem?_map] at q1
  obtain ⟨p,hp,rfl⟩:=map_inj q1
  refine ug (fun x y hxy=>?_) (h1.2 q p d hp q2)
  cases y with
  |zero=>
   simp at hxy
   subst hxy
   rw [oq,r1]
  |succ y=>simp at hxy
 obtain ⟨v',HA',h3,_,bI,Z1,v,H1,h4,h5,_,h7,h6,j,l,e,cs,rfl,hj0,hj,hn,hK⟩:=h kQ Z as HA hargs hR0
 obtain ⟨bn,bk1,hb0,e2,e3,e4,e5⟩:=h5.bV j cs hj
 have pI: ∀q cs' b,blk ([some cs0]:BH) q=some cs'→kQ q=some b→b=b0:=fun q cs' b e1 e2=>by
  cases q with
  |zero=>rw [oq] at e2;cases e2;rfl
  |succ q=>simp [blk] at e1
 have hge:HA.n≤bn∨bn=b0:=by
  rcases h6.own j cs bn hj hb0 with h9|⟨q,cs',h9,h10⟩
  ·exact .inl h9
  ·exact .inr (pI q cs' bn h9 h10)
 have hkeep: ∀b,b<HA.n→b≠b0→HA'.get b=HA.get b:=fun b hb hne=>h6.keep b hb fun q cs' e1 e2=>hne (pI q cs' b e1 e2)
 have hne: ∀q cs' b,q≠i→blk H q=some cs'→ρ q=some b→b≠b0:=fun q cs' b hq e1 e2 e=>hq (h2.inj q i cs' cs0 b e1 hc0 e2 (by rw [e];exact r1))
 have hold: ∀q cs',blk ((H.set i none)++[some cs]) q=some cs'→(q=H.length∧cs'=cs)∨(q<H.length∧q≠i∧blk H q=some cs'):=fun q cs' hc=>by
  rcases Nat.lt_trichotomy q H.length with hq|hq|hq
  ·right
   have hc':blk (H.set i none) q=some cs':=by
    unfold blk at hc⊢
    rwa [List.getElem?_append_left (by simpa using hq)] at hc
   rw [qH hi] at hc'
   split at hc'
   ·cases hc'
   ·exact ⟨hq,by assumption,hc'⟩
  ·left
   subst hq
   unfold blk at hc
   rw [List.getElem?_append_right (by simp)] at hc
   simp at hc
   exact ⟨rfl,hc.symm⟩
  ·unfold blk at hc
   rw [List.getElem?_eq_none (by simp;omega)] at hc
   cases hc
 have hρ: ∀q,q<H.length→put ρ H.length bn q=ρ q:=fun q hq=>by simp only [put];rw [if_neg (by omega)]
 have iH:put ρ H.length bn H.length=some bn:=by simp [put]
 have hv:VR (put ρ H.length bn) Z1 (.slice (some ⟨H.length,0,none⟩) l e) v':=by
  obtain ⟨b,hb,rfl⟩:=h4.slice_inv
  rw [hb0] at hb;cases hb
  exact .slice iH
 refine ⟨v',HA',h3,(fun h=>by cases h),put ρ H.length bn,Z1,_,_,hv,⟨fun q cs' hc=>?_,fun q q' c1 c2 b k1 k2 k3 k4=>?_,fun q cs' b k1 k2=>?_,h5.fB,fun q hq=>?_⟩,by simp,hρ,⟨h6.n,fun b hb hno=>?_,fun q cs' b k1 k2=>?_,h6.zx,fun b bk hb=>?_⟩,hK⟩
 ·rcases hold q cs' hc with ⟨rfl,rfl⟩|⟨hq,hqi,hc⟩
  ·exact ⟨bn,bk1,iH,e2,e3,e4,(hn.vz e5).vl⟩
  ·obtain ⟨b,bk,k1,k2,k3,k4,k5⟩:=h2.bV q cs' hc
   refine ⟨b,bk,by rw [hρ q hq];exact k1,Nat.lt_of_lt_of_le k2 h6.n,by rw [hkeep b k2 (hne q cs' b hqi hc k1)];exact k3,k4,k5.mono (fun p d hp=>?_) h6.zx⟩
   rcases Nat.lt_or_ge p H.length with hpl|hpl
   ·rw [hρ p hpl];exact hp
   ·rw [h2.top p hpl] at hp;cases hp
 ·rcases hold q c1 k1 with ⟨rfl,rfl⟩|⟨hq,hqi,hc⟩<;>rcases hold q' c2 k2 with ⟨rfl,_⟩|⟨hq',DW,hc'⟩
  ·rfl
  ·rw [iH] at k3;cases k3
   rw [hρ q' hq'] at k4
   rcases hge with h|h
   ·have:=h2.lt hc' k4;omega
   ·exact absurd h (hne q' _ _ DW hc' k4)
  ·rw [iH] at k4;cases k4
   rw [hρ q hq] at k3
   rcases hge with h|h
   ·have:=h2.lt hc k3;omega
   ·exact absurd h (hne q _ _ hqi hc k3)
  ·rw [hρ q hq] at k3;rw [hρ q' hq'] at k4
   exact h2.inj q q' c1 c2 b hc hc' k3 k4
 ·rcases hold q cs' k1 with ⟨rfl,rfl⟩|⟨hq,hqi,hc⟩
  ·rw [iH] at k2;cases k2
   exact h5.dX j _ bn hj hb0
  ·rw [hρ q hq] at k2
   cases hz:Z1 b with
   |none=>rfl
   |some bk=>
    rcases h6.zn b bk hz with h9|h9|⟨p,cs',h9,h10⟩
    ·rw [h2.dX q cs' b hc k2] at h9;cases h9
    ·have:=h2.lt hc k2;omega
    ·exact absurd (pI p cs' b h9 h10) (hne q _ b hqi hc k2)
 ·simp only [List.length_append,List.length_set,List.length_singleton] at hq
  simp only [put]
  rw [if_neg (by omega)]
  exact h2.top q (by omega)
 ·refine hkeep b hb fun e=>?_
  rw [e] at hno
  exact hno i cs0 hc0 r1
 ·rcases hold q cs' k1 with ⟨rfl,rfl⟩|⟨hq,hqi,hc⟩
  ·rw [iH] at k2;cases k2
   rcases hge with h|h
   ·exact .inl h
   ·rw [h];exact .inr ⟨i,cs0,hc0,r1⟩
  ·rw [hρ q hq] at k2
   exact .inr ⟨q,cs',hc,k2⟩
 ·rcases h6.zn b bk hb with h9|h9|⟨p,cs',h9,h10⟩
  ·exact .inl h9
  ·exact .inr (.inl h9)
  ·rw [pI p cs' b h9 h10]
   exact .inr (.inr ⟨i,cs0,hc0,r1⟩)
end Go.Bm
namespace Go.Bm
open Go Go.Am
end Go.Bm
namespace Go.Bm
open Go Go.Am
def Sl (H:BH) (v:Value) (xs:List Int):Prop:=(v= .slice none 0 0∧xs=[])∨(∃i,v=S i 0 xs.length 1∧blk H i=some (xs.map I))∨v=FI xs
theorem Sl.own {H:BH} {i:Nat} {xs:List Int} (h:blk H i=some (xs.map I)):Sl H (S i 0 xs.length 1) xs:= .inr (.inl ⟨i,rfl,h⟩)
theorem Sl.fz {H:BH} {xs:List Int}:Sl H (FI xs) xs:= .inr (.inr rfl)
theorem Sl.nil {H:BH}:Sl H (.slice none 0 0) []:= .inl ⟨rfl,rfl⟩
theorem Sl.len {H:BH} {v:Value} {xs:List Int} (h:Sl H v xs):rP v=some (I xs.length):=by
 rcases h with ⟨rfl,rfl⟩|⟨i,rfl,_⟩|rfl<;>rfl
theorem Sl.get {H:BH} {v:Value} {xs:List Int} (h:Sl H v xs) {j:Nat} (hj:j<xs.length): ∃p,rQ 1 v (I j)=some p∧uo none H p=some (I (el xs j)):=by
 rcases h with ⟨rfl,rfl⟩|⟨i,rfl,hb⟩|rfl
 ·simp at hj
 ·refine ⟨_,Ej (by omega),?_⟩
  rw [Em,hb,En,AX (by omega)]
  simp
 ·refine ⟨_,Eo (by omega),?_⟩
  rw [Ep,AX (by omega)]
  simp
theorem aaG {v u:Value} {xs ys:List Int} {H:BH} {K:Value→BH→Prop} (hv:Sl H v xs) (hu:Sl H u ys) (hl:xs.length<4611686018427387904) (hl':ys.length<4611686018427387904) (hK:K (.bool (decide (xs=ys))) H):
  aB false UN [v,u] H K:=by
 have v1:=hv.len
 have u1:=hu.len
 refine aK Wp ?_;simp only [gX,aA]
 refine au fun Kr hKr=>?_;simp (disch:=omega) only [RA,↓reduceIte,Nat.reduceEqDiff,RD];refine hKr _ _ ?_;clear hKr Kr;(try simp only [RN,reduceIte]);try refine aj rfl ?_
 refine au fun Kr hKr=>?_;simp (disch:=omega) only [RA,↓reduceIte,Nat.reduceEqDiff,RD,v1,u1];refine hKr _ _ ?_;clear hKr Kr;(try simp only [RN,reduceIte]);try refine aj rfl ?_
 refine bD (p:= ¬xs.length=ys.length) (by simp only [RA,↓reduceIte,Nat.reduceEqDiff]<;>rfl) (by (try simp only [RB])<;>first|done|exact Iff.rfl|omega|simp) (fun hc=>?_) (fun hc=>?_)<;>(try simp only [RN,reduceIte])<;>(try refine aj rfl ?_)
 ·refine au fun Kr hKr=>?_;simp (disch:=omega) only [RA,↓reduceIte,Nat.reduceEqDiff,RD];refine hKr _ _ ?_;clear hKr Kr;(try simp only [RN,reduceIte]);try refine aj rfl ?_
  refine aN (by simp (disch:=omega) only [RA,↓reduceIte,Nat.reduceEqDiff,RD,resAll,resOf];rfl) aF.refl ?_;simp only [tup]
  rw [show decide (xs=ys)=false by simp;intro e;exact hc (by rw [e])] at hK
  exact hK
 have hll:=Decidable.not_not.1 hc
 clear hc
 refine au fun Kr hKr=>?_;simp (disch:=omega) only [RA,↓reduceIte,Nat.reduceEqDiff,RD];refine hKr _ _ ?_;clear hKr Kr;(try simp only [RN,reduceIte]);try refine aj rfl ?_
 refine aS (fun m f H'=> ∃i,i≤xs.length∧m=xs.length-i∧(∀j,j<i→el xs j=el ys j)∧f 0=v∧f 1=u∧f 5=I i∧H'=H) (xs.length) ?_ ?_
 ·exact ⟨_,_,Gh.refl,0,by omega,by omega,fun j hj=>by omega,ah,ah,ah,rfl⟩
 ·rintro m f H' R ⟨i,hi,rfl,he,g0,g1,g5,rfl⟩ hN hX hR hE
  simp only [gX.l0,aA]
  refine au fun Kr hKr=>?_;simp (disch:=omega) only [RA,↓reduceIte,Nat.reduceEqDiff,RD,g0,g5,v1];refine hKr _ _ ?_;clear hKr Kr;(try simp only [RN,reduceIte]);try refine aj rfl ?_
  refine bD (p:=i<xs.length) (by simp only [RA,↓reduceIte,Nat.reduceEqDiff]<;>rfl) (by (try simp only [RB])<;>first|done|exact Iff.rfl|omega|simp) (fun hc=>?_) (fun hc=>?_)<;>(try simp only [RN,reduceIte])<;>(try refine aj rfl ?_)
  ·obtain ⟨p,p1,p2⟩:=hv.get hc
   obtain ⟨q,q1,q2⟩:=hu.get (show i<ys.length by omega)
   (first|refine cZ rfl ?_|refine dh rfl ?_);(try simp only [RN,reduceIte]);try refine aj rfl ?_
   refine au fun Kr hKr=>?_;simp (disch:=omega) only [RA,↓reduceIte,Nat.reduceEqDiff,RD,g0,g1,g5,p1,p2,q1,q2];refine hKr _ _ ?_;clear hKr Kr;(try simp only [RN,reduceIte]);try refine aj rfl ?_
   refine bD (p:= ¬el xs i=el ys i) (by simp only [RA,↓reduceIte,Nat.reduceEqDiff]<;>rfl) (by (try simp only [RB])<;>first|done|exact Iff.rfl|omega|simp) (fun hc=>?_) (fun hc=>?_)<;>(try simp only [RN,reduceIte])<;>(try refine aj rfl ?_)
   ·refine au fun Kr hKr=>?_;simp (disch:=omega) only [RA,↓reduceIte,Nat.reduceEqDiff,RD];refine hKr _ _ ?_;clear hKr Kr;(try simp only [RN,reduceIte]);try refine aj rfl ?_
    refine hR _ _ ?_
    refine aN (by simp (disch:=omega) only [RA,↓reduceIte,Nat.reduceEqDiff,RD,resAll,resOf];rfl) aF.refl ?_;simp only [tup]
    rw [show decide (xs=ys)=false by simp;intro e;exact hc (by rw [e])] at hK
    exact hK
   have hee:=Decidable.not_not.1 hc
   refine bK fun Kr hKr=>?_;simp (disch:=omega) only [RA,↓reduceIte,Nat.reduceEqDiff,RD,g5];refine hKr _ _ ?_;clear hKr Kr
   have he': ∀j,j<i+1→el xs j=el ys j:=fun j hj=>by
    by_cases e:j=i
    ·rw [e];exact hee
    ·exact he j (by omega)
   exact hN (xs.length-(i+1)) _ _ _ _ (by omega) Gh.refl ⟨i+1,by omega,rfl,he',ah,ah,ah,rfl⟩
  ·refine hX _ _ ?_
   have e:xs=ys:=by
    apply List.ext_getElem hll
    intro j h1 h2
    have:=he j (by omega)
    simpa [el,List.getD,h1,h2] using this
   rw [show decide (xs=ys)=true by simp [e]] at hK
   refine au fun Kr hKr=>?_;simp (disch:=omega) only [RA,↓reduceIte,Nat.reduceEqDiff,RD];refine hKr _ _ ?_;clear hKr Kr;(try simp only [RN,reduceIte]);try refine aj rfl ?_
   refine aN (by simp (disch:=omega) only [RA,↓reduceIte,Nat.reduceEqDiff,RD,resAll,resOf];rfl) aF.refl ?_;simp only [tup]
   exact hK
def nK (m n:Nat):List Int:=(List.range n).map fun i:Nat=>((m+i:Nat):Int)
theorem KC {m n:Nat}:(nK m n).length=n:=by simp [nK]
theorem aaH {m n i:Nat} (h:i<n):el (nK m n) i=((m+i:Nat):Int):=by simp [nK,el,List.getD,h]
def mkK (xs:List Int) (m:Nat):Nat→List Int
 |0=>xs
 |k+1=>(mkK xs m k).set k ((m+k:Nat):Int)
theorem xO {xs:List Int} {m k:Nat}:(mkK xs m k).length=xs.length:=by
 induction k with
 |zero=>rfl
 |succ k ih=>simp [mkK,ih]
theorem KE {xs:List Int} {i j:Nat} {c:Int}:el (xs.set i c) j=if j=i∧i<xs.length then c else el xs j:=by
 unfold el
 simp only [List.getD]
 rw [List.getElem?_set]
 by_cases h:i=j
 ·subst h
  by_cases h2:i<xs.length
  ·simp [h2]
  ·simp [h2]
 ·rw [if_neg h,if_neg (fun e=>h e.1.symm)]
theorem aaI {xs:List Int} {m k i:Nat} (hi:i<xs.length):el (mkK xs m k) i=if i<k then ((m+i:Nat):Int) else el xs i:=by
 induction k with
 |zero=>rfl
 |succ k ih=>
  rw [mkK,KE,xO,ih]
  by_cases e:i=k
  ·subst e
   rw [if_pos ⟨rfl,hi⟩,if_pos (by omega)]
  ·rw [if_neg (fun h=>e h.1)]
   by_cases h:i<k
   ·rw [if_pos h,if_pos (by omega)]
   ·rw [if_neg h,if_neg (by omega)]
theorem aaJ {xs:List Int} {m:Nat}:mkK xs m xs.length=nK m xs.length:=by
 apply List.ext_getElem (by rw [xO,KC])
 intro i h1 h2
 rw [xO] at h1
 have a:=aaI (xs:=xs) (m:=m) (k:=xs.length) h1
 rw [if_pos h1] at a
 have b:=aaH (m:=m) h1
 rw [←b] at a
 have e1:i<(mkK xs m xs.length).length:=by rw [xO];exact h1
 have e2:i<(nK m xs.length).length:=by rw [KC];exact h1
 simpa [el,List.getD,e1,e2] using a
theorem aaK {xs:List Int} {m:Nat} {K:Value→BH→Prop} (hl:xs.length+m<4611686018427387904) (hK:K (I ((m+xs.length:Nat):Int)) [some ((nK m xs.length).map I)]):
  aB false H8 [S 0 0 xs.length 1,I m] [some (xs.map I)] K:=by
 refine aK Wq ?_;simp only [iY,aA]
 refine au fun Kr hKr=>?_;simp (disch:=omega) only [RA,↓reduceIte,Nat.reduceEqDiff,RD];refine hKr _ _ ?_;clear hKr Kr;(try simp only [RN,reduceIte]);try refine aj rfl ?_
 refine au fun Kr hKr=>?_;simp (disch:=omega) only [RA,↓reduceIte,Nat.reduceEqDiff,RD];refine hKr _ _ ?_;clear hKr Kr;(try simp only [RN,reduceIte]);try refine aj rfl ?_
 refine aS (fun d f H'=> ∃i,i≤xs.length∧d=xs.length-i∧f 0=S 0 0 xs.length 1∧f 1=I ((m+i:Nat):Int)∧f 5=I i∧H'=[some ((mkK xs m i).map I)]) (xs.length) ?_ ?_
 ·exact ⟨_,_,Gh.refl,0,by omega,by omega,ah,ah,ah,rfl⟩
 ·rintro d f H' R ⟨i,hi,rfl,g0,g1,g5,rfl⟩ hN hX hR hE
  simp only [iY.l0,aA]
  have hml:= @xO xs m i
  refine au fun Kr hKr=>?_;simp (disch:=omega) only [RA,↓reduceIte,Nat.reduceEqDiff,RD,g0,g5];refine hKr _ _ ?_;clear hKr Kr;(try simp only [RN,reduceIte]);try refine aj rfl ?_
  refine bD (p:=i<xs.length) (by simp only [RA,↓reduceIte,Nat.reduceEqDiff]<;>rfl) (by (try simp only [RB])<;>first|done|exact Iff.rfl|omega|simp) (fun hc=>?_) (fun hc=>?_)<;>(try simp only [RN,reduceIte])<;>(try refine aj rfl ?_)
  ·have e:((m+i:Nat):Int)+1=((m+(i+1):Nat):Int):=by omega
   (first|refine cZ rfl ?_|refine dh rfl ?_);(try simp only [RN,reduceIte]);try refine aj rfl ?_
   refine au fun Kr hKr=>?_;simp (disch:=omega) only [RA,↓reduceIte,Nat.reduceEqDiff,RD,g0,g1,g5,hml];refine hKr _ _ ?_;clear hKr Kr;(try simp only [RN,reduceIte]);try refine aj rfl ?_
   refine au fun Kr hKr=>?_;simp (disch:=omega) only [RA,↓reduceIte,Nat.reduceEqDiff,RD,g1,e];refine hKr _ _ ?_;clear hKr Kr;(try simp only [RN,reduceIte]);try refine aj rfl ?_
   refine bK fun Kr hKr=>?_;simp (disch:=omega) only [RA,↓reduceIte,Nat.reduceEqDiff,RD,g5];refine hKr _ _ ?_;clear hKr Kr
   exact hN (xs.length-(i+1)) _ _ _ _ (by omega) Gh.refl ⟨i+1,by omega,rfl,ah,ah,ah,rfl⟩
  ·refine hX _ _ ?_
   obtain rfl:i=xs.length:=by omega
   rw [aaJ]
   refine au fun Kr hKr=>?_;simp (disch:=omega) only [RA,↓reduceIte,Nat.reduceEqDiff,RD,g1];refine hKr _ _ ?_;clear hKr Kr;(try simp only [RN,reduceIte]);try refine aj rfl ?_
   refine aN (by simp (disch:=omega) only [RA,↓reduceIte,Nat.reduceEqDiff,RD,resAll,resOf];rfl) aF.refl ?_;simp only [tup]
   exact hK
theorem aaL {xs:List Int} {m i:Nat} {H:BH} {K:Value→BH→Prop} (hb:blk H i=some (xs.map I)) (hl:xs.length+m<4611686018427387904) (hK:K (I ((m+xs.length:Nat):Int)) (H.set i (some ((nK m xs.length).map I)))):
  aB false H8 [S i 0 xs.length 1,I m] H K:=by
 refine Es hb (aP.map fun _=> .int) ?_
 have e:([S i 0 xs.length 1,I m]:List Value).map (ren [i])=[S 0 0 xs.length 1,I m]:=by simp [ren,oZ,nm]
 rw [e]
 refine aaK hl ⟨.int,HN.cons (aP.map fun _=> .int) HN.nil,?_⟩
 exact hK
end Go.Bm
namespace Go.Bm
open Go Go.Am
theorem pG {α:Type} {ls:List α} {d:α} {j:Nat} (h:j<ls.length):ls.getD j d∈ls:=by simp [List.getD,h]
theorem aaM {x:Bool} {xs:List Int} {a:Int} {H:BH} {K:Value→BH→Prop} (ha:0≤a∧a≤1048576) (hl:xs.length≤9223372036854775807)
  (hK:K (I (if a-xs.length<0 then-1 else a-xs.length)) H):aB x UG [FI xs,I a] H K:=by
 refine bf (.cons .fz (.cons .int .nil)) ?_
 refine aK V6 ?_;simp only [kU,aA]
 refine au fun Kr hKr=>?_;simp (disch:=omega) only [RA,↓reduceIte,Nat.reduceEqDiff,RD];refine hKr _ _ ?_;clear hKr Kr;(try simp only [RN,reduceIte]);try refine aj rfl ?_
 refine au fun Kr hKr=>?_;simp (disch:=omega) only [RA,↓reduceIte,Nat.reduceEqDiff,RD];refine hKr _ _ ?_;clear hKr Kr;(try simp only [RN,reduceIte]);try refine aj rfl ?_
 refine au fun Kr hKr=>?_;simp (disch:=omega) only [RA,↓reduceIte,Nat.reduceEqDiff,RD];refine hKr _ _ ?_;clear hKr Kr;(try simp only [RN,reduceIte]);try refine aj rfl ?_
 refine bD (p:=a-xs.length<0) (by simp only [RA,↓reduceIte,Nat.reduceEqDiff]<;>rfl) (by (try simp only [RB])<;>first|done|exact Iff.rfl|omega|simp) (fun hc=>?_) (fun hc=>?_)<;>(try simp only [RN,reduceIte])<;>(try refine aj rfl ?_)
 ·refine au fun Kr hKr=>?_;simp (disch:=omega) only [RA,↓reduceIte,Nat.reduceEqDiff,RD];refine hKr _ _ ?_;clear hKr Kr;(try simp only [RN,reduceIte]);try refine aj rfl ?_
  refine aN (by simp (disch:=omega) only [RA,↓reduceIte,Nat.reduceEqDiff,RD,resAll,resOf];rfl) aF.refl ?_;simp only [tup]
  rw [if_pos hc] at hK
  exact ⟨.int,hK⟩
 ·refine au fun Kr hKr=>?_;simp (disch:=omega) only [RA,↓reduceIte,Nat.reduceEqDiff,RD];refine hKr _ _ ?_;clear hKr Kr;(try simp only [RN,reduceIte]);try refine aj rfl ?_
  refine aN (by simp (disch:=omega) only [RA,↓reduceIte,Nat.reduceEqDiff,RD,resAll,resOf];rfl) aF.refl ?_;simp only [tup]
  rw [if_neg hc] at hK
  exact ⟨.int,hK⟩
theorem mW {xs:List (List Int)} {k:Nat} (h:k<xs.length):getN none (xs.map FI) k=some (FI (xs.getD k [])):=by
 simp [getN,h,List.getD]
theorem aaN {x:Bool} {xss:List (List Int)} {H:BH} {K:Value→BH→Prop} (hl:xss.length≤9223372036854775807) (hll: ∀xs∈xss,xs.length≤9223372036854775807)
  (hK: ∀r:Int,r≤1048576→ -1≤r→(0≤r→xss.length≤1048576∧ ∀xs∈xss,xs.length≤1048576)→K (I r) H):aB x UA [dU xss,I 1048576] H K:=by
 refine bf (.cons .fz (.cons .int .nil)) ?_
 refine aK VU ?_;simp only [fG,aA]
 refine au fun Kr hKr=>?_;simp (disch:=omega) only [RA,↓reduceIte,Nat.reduceEqDiff,RD];refine hKr _ _ ?_;clear hKr Kr;(try simp only [RN,reduceIte]);try refine aj rfl ?_
 refine au fun Kr hKr=>?_;simp (disch:=omega) only [RA,↓reduceIte,Nat.reduceEqDiff,RD];refine hKr _ _ ?_;clear hKr Kr;(try simp only [RN,reduceIte]);try refine aj rfl ?_
 refine au fun Kr hKr=>?_;simp (disch:=omega) only [RA,↓reduceIte,Nat.reduceEqDiff,RD];refine hKr _ _ ?_;clear hKr Kr;(try simp only [RN,reduceIte]);try refine aj rfl ?_
 refine bD (p:=(1048576:Int)-xss.length<0) (by simp only [RA,↓reduceIte,Nat.reduceEqDiff]<;>rfl) (by (try simp only [RB])<;>first|done|exact Iff.rfl|omega|simp) (fun hc=>?_) (fun hc=>?_)<;>(try simp only [RN,reduceIte])<;>(try refine aj rfl ?_)
 ·refine au fun Kr hKr=>?_;simp (disch:=omega) only [RA,↓reduceIte,Nat.reduceEqDiff,RD];refine hKr _ _ ?_;clear hKr Kr;(try simp only [RN,reduceIte]);try refine aj rfl ?_
  refine aN (by simp (disch:=omega) only [RA,↓reduceIte,Nat.reduceEqDiff,RD,resAll,resOf];rfl) aF.refl ?_;simp only [tup]
  exact ⟨.int,hK (-1) (by omega) (by omega) (fun h=>by omega)⟩
 have hxl:xss.length≤1048576:=by omega
 clear hc
 refine au fun Kr hKr=>?_;simp (disch:=omega) only [RA,↓reduceIte,Nat.reduceEqDiff,RD];refine hKr _ _ ?_;clear hKr Kr;(try simp only [RN,reduceIte]);try refine aj rfl ?_
 refine aS (fun m f H'=> ∃i a,i≤xss.length∧m=xss.length-i∧0≤a∧a≤1048576∧(∀j,j<i→(xss.getD j []).length≤1048576)∧f 0=dU xss∧f 1=I a∧f 5=I i∧H'=[]) (xss.length) ?_ ?_
 ·exact ⟨_,_,Gh.refl,0,1048576-(xss.length:Int),by omega,by omega,by omega,by omega,fun j hj=>by omega,ah,ah,ah,rfl⟩
 ·rintro m f H' R ⟨i,a,hi,rfl,ha0,ha1,hall,g0,g1,g5,rfl⟩ hN hX hR hE
  simp only [fG.l0,aA]
  refine au fun Kr hKr=>?_;simp (disch:=omega) only [RA,↓reduceIte,Nat.reduceEqDiff,RD,g0,g5];refine hKr _ _ ?_;clear hKr Kr;(try simp only [RN,reduceIte]);try refine aj rfl ?_
  refine bD (p:=i<xss.length) (by simp only [RA,↓reduceIte,Nat.reduceEqDiff]<;>rfl) (by (try simp only [RB])<;>first|done|exact Iff.rfl|omega|simp) (fun hc=>?_) (fun hc=>?_)<;>(try simp only [RN,reduceIte])<;>(try refine aj rfl ?_)
  ·have hxi:=hll _ (pG (d:=[]) hc)
   (first|refine cZ rfl ?_|refine dh rfl ?_);(try simp only [RN,reduceIte]);try refine aj rfl ?_
   refine au fun Kr hKr=>?_;simp (disch:=omega) only [RA,↓reduceIte,Nat.reduceEqDiff,RD,g0,g1,g5,mW]
   refine aaM ⟨ha0,ha1⟩ hxi ?_
   by_cases hneg:a-(xss.getD i []).length<0
   ·rw [if_pos hneg]
    simp (disch:=omega) only [RA,↓reduceIte,Nat.reduceEqDiff,RD]
    refine hKr _ _ ?_;clear hKr Kr;(try simp only [aH,aJ,aI]);(try simp only [RN,reduceIte]);try refine aj rfl ?_
    refine au fun Kr hKr=>?_;simp (disch:=omega) only [RA,↓reduceIte,Nat.reduceEqDiff,RD];refine hKr _ _ ?_;clear hKr Kr;(try simp only [RN,reduceIte]);try refine aj rfl ?_
    refine aQ (t:=true) (by simp (disch:=omega) only [RA,↓reduceIte,Nat.reduceEqDiff,RD]) ?_;(try simp only [RN,reduceIte]);try refine aj rfl ?_
    refine au fun Kr hKr=>?_;simp (disch:=omega) only [RA,↓reduceIte,Nat.reduceEqDiff,RD];refine hKr _ _ ?_;clear hKr Kr;(try simp only [RN,reduceIte]);try refine aj rfl ?_
    refine hR _ _ ?_
    refine aN (by simp (disch:=omega) only [RA,↓reduceIte,Nat.reduceEqDiff,RD,resAll,resOf];rfl) aF.refl ?_;simp only [tup]
    exact ⟨.int,hK (-1) (by omega) (by omega) (fun h=>by omega)⟩
   ·rw [if_neg hneg]
    have hall': ∀j,j<i+1→(xss.getD j []).length≤1048576:=fun j hj=>by
     by_cases e:j=i
     ·rw [e];omega
     ·exact hall j (by omega)
    simp (disch:=omega) only [RA,↓reduceIte,Nat.reduceEqDiff,RD]
    refine hKr _ _ ?_;clear hKr Kr;(try simp only [aH,aJ,aI]);(try simp only [RN,reduceIte]);try refine aj rfl ?_
    refine au fun Kr hKr=>?_;simp (disch:=omega) only [RA,↓reduceIte,Nat.reduceEqDiff,RD];refine hKr _ _ ?_;clear hKr Kr;(try simp only [RN,reduceIte]);try refine aj rfl ?_
    refine aQ (t:=false) (by simp (disch:=omega) only [RA,↓reduceIte,Nat.reduceEqDiff,RD]) ?_;(try simp only [RN,reduceIte]);try refine aj rfl ?_
    refine bK fun Kr hKr=>?_;simp (disch:=omega) only [RA,↓reduceIte,Nat.reduceEqDiff,RD,g5];refine hKr _ _ ?_;clear hKr Kr
    exact hN (xss.length-(i+1)) _ _ _ _ (by omega) Gh.refl ⟨i+1,a-(xss.getD i []).length,by omega,rfl,by omega,by omega,hall',ah,ah,ah,rfl⟩
  ·refine hX _ _ ?_
   refine au fun Kr hKr=>?_;simp (disch:=omega) only [RA,↓reduceIte,Nat.reduceEqDiff,RD,g1];refine hKr _ _ ?_;clear hKr Kr;(try simp only [RN,reduceIte]);try refine aj rfl ?_
   refine aN (by simp (disch:=omega) only [RA,↓reduceIte,Nat.reduceEqDiff,RD,resAll,resOf];rfl) aF.refl ?_;simp only [tup]
   refine ⟨.int,hK a ha1 (by omega) fun _=>⟨hxl,fun xs hxs=>?_⟩⟩
   obtain ⟨j,hj,rfl⟩:=List.mem_iff_getElem.1 hxs
   have:=hall j (by omega)
   simpa [List.getD,hj] using this
def pO (xs:List Int):Nat→List Int
 |0=>List.replicate xs.length 0
 |k+1=>(pO xs k).set k (el xs k)
theorem Et {xs:List Int} {k:Nat}:(pO xs k).length=xs.length:=by
 induction k with
 |zero=>simp [pO]
 |succ k ih=>simp [pO,ih]
theorem aaO {xs:List Int} {k i:Nat} (hi:i<xs.length) (hk:i<k):el (pO xs k) i=el xs i:=by
 induction k with
 |zero=>omega
 |succ k ih=>
  rw [pO,KE,Et]
  by_cases e:i=k
  ·subst e;rw [if_pos ⟨rfl,hi⟩]
  ·rw [if_neg (fun h=>e h.1),ih (by omega)]
theorem aaP {xs:List Int}:pO xs xs.length=xs:=by
 apply List.ext_getElem Et
 intro i h1 h2
 have:=aaO (k:=xs.length) h2 h2
 simpa [el,List.getD,h1,h2] using this
theorem KF {xs:List Int} (hl:xs.length≤1048576):aB false H7 [FI xs] [] fun v H1=> ∃j,v=S j 0 xs.length 1∧blk H1 j=some (xs.map I):=by
 refine aK V9 ?_;simp only [iW,aA]
 refine au fun Kr hKr=>?_;simp (disch:=omega) only [RA,↓reduceIte,Nat.reduceEqDiff,RD];refine hKr _ _ ?_;clear hKr Kr;(try simp only [RN,reduceIte]);try refine aj rfl ?_
 refine au fun Kr hKr=>?_;simp (disch:=omega) only [RA,↓reduceIte,Nat.reduceEqDiff,RD];refine hKr _ _ ?_;clear hKr Kr;(try simp only [RN,reduceIte]);try refine aj rfl ?_
 refine au fun Kr hKr=>?_;simp (disch:=omega) only [RA,↓reduceIte,Nat.reduceEqDiff,RD];refine hKr _ _ ?_;clear hKr Kr;(try simp only [RN,reduceIte]);try refine aj rfl ?_
 refine aS (fun m f H'=> ∃i,i≤xs.length∧m=xs.length-i∧f 0=FI xs∧f 3=S 0 0 xs.length 1∧f 4=I i∧H'=[some ((pO xs i).map I)]) (xs.length) ?_ ?_
 ·exact ⟨_,_,Gh.refl,0,by omega,by omega,ah,ah,ah,by simp [pO]⟩
 ·rintro m f H' R ⟨i,hi,rfl,g0,g3,g4,rfl⟩ hN hX hR hE
  simp only [iW.l0,aA]
  have hcl:= @Et xs i
  refine au fun Kr hKr=>?_;simp (disch:=omega) only [RA,↓reduceIte,Nat.reduceEqDiff,RD,g0,g4];refine hKr _ _ ?_;clear hKr Kr;(try simp only [RN,reduceIte]);try refine aj rfl ?_
  refine bD (p:=i<xs.length) (by simp only [RA,↓reduceIte,Nat.reduceEqDiff]<;>rfl) (by (try simp only [RB])<;>first|done|exact Iff.rfl|omega|simp) (fun hc=>?_) (fun hc=>?_)<;>(try simp only [RN,reduceIte])<;>(try refine aj rfl ?_)
  ·(first|refine cZ rfl ?_|refine dh rfl ?_);(try simp only [RN,reduceIte]);try refine aj rfl ?_
   refine au fun Kr hKr=>?_;simp (disch:=omega) only [RA,↓reduceIte,Nat.reduceEqDiff,RD,g0,g3,g4,hcl];refine hKr _ _ ?_;clear hKr Kr;(try simp only [RN,reduceIte]);try refine aj rfl ?_
   refine bK fun Kr hKr=>?_;simp (disch:=omega) only [RA,↓reduceIte,Nat.reduceEqDiff,RD,g4];refine hKr _ _ ?_;clear hKr Kr
   exact hN (xs.length-(i+1)) _ _ _ _ (by omega) Gh.refl ⟨i+1,by omega,rfl,ah,ah,ah,rfl⟩
  ·refine hX _ _ ?_
   obtain rfl:i=xs.length:=by omega
   refine au fun Kr hKr=>?_;simp (disch:=omega) only [RA,↓reduceIte,Nat.reduceEqDiff,RD,g3];refine hKr _ _ ?_;clear hKr Kr;(try simp only [RN,reduceIte]);try refine aj rfl ?_
   refine aN (by simp (disch:=omega) only [RA,↓reduceIte,Nat.reduceEqDiff,RD,resAll,resOf,g3];rfl) aF.refl ?_;simp only [tup]
   rw [aaP]
   exact ⟨0,rfl,rfl⟩
theorem aaQ {x:Bool} {xs:List Int} {H:BH} {K:Value→BH→Prop} (hl:xs.length≤1048576) (hK:K (FI xs) H):aB x H7 [FI xs] H K:=
 rJ (.cons .fz .nil) AY (by simp) (KF hl) hK
def lg (xss:List (List Int)) (k:Nat):List Value:=(xss.take k).map FI++List.replicate (xss.length-k) (.slice none 0 0)
theorem aaR {xss:List (List Int)} {k:Nat} (h:k≤xss.length):(lg xss k).length=xss.length:=by
 simp [lg]
 omega
theorem aaS {xss:List (List Int)} {k b:Nat} {H:BH} (h:k<xss.length):bQ (some (lg xss k)) H b k 1 (FI (xss.getD k []))=some (undef,H.set b (some (lg xss (k+1)))):=by
 rw [rU rfl rfl rfl (by rw [aaR (by omega)];exact h)]
 congr 4
 have hk:((xss.take k).map FI).length=k:=by simp;omega
 have e1:(lg xss k).take k=(xss.take k).map FI:=by
  rw [lg,List.take_append_of_le_length (by omega),List.take_of_length_le (by omega)]
 have e2:(lg xss k).drop (k+1)=List.replicate (xss.length-(k+1)) (.slice none 0 0):=by
  rw [lg,List.drop_append,List.drop_eq_nil_of_le (by omega),hk,List.drop_replicate,List.nil_append]
  congr 1
  omega
 show (lg xss k).take k++[FI (xss.getD k [])]++(lg xss k).drop (k+1)=_
 rw [e1,e2,lg,List.take_add_one,List.map_append]
 simp [List.getD,h]
theorem uq {x:Bool} {xss:List (List Int)} {H:BH} {K:Value→BH→Prop} (hl:xss.length≤1048576) (hll: ∀xs∈xss,xs.length≤1048576) (hK:K (dU xss) H):aB x Hw [dU xss] H K:=by
 refine rJ (.cons .fz .nil) Eu (by simp) ?_ hK
 refine aK Ih ?_;simp only [iI,aA]
 refine au fun Kr hKr=>?_;simp (disch:=omega) only [RA,↓reduceIte,Nat.reduceEqDiff,RD];refine hKr _ _ ?_;clear hKr Kr;(try simp only [RN,reduceIte]);try refine aj rfl ?_
 refine au fun Kr hKr=>?_;simp (disch:=omega) only [RA,↓reduceIte,Nat.reduceEqDiff,RD];refine hKr _ _ ?_;clear hKr Kr;(try simp only [RN,reduceIte]);try refine aj rfl ?_
 refine au fun Kr hKr=>?_;simp (disch:=omega) only [RA,↓reduceIte,Nat.reduceEqDiff,RD];refine hKr _ _ ?_;clear hKr Kr;(try simp only [RN,reduceIte]);try refine aj rfl ?_
 refine aS (fun m f H'=> ∃i,i≤xss.length∧m=xss.length-i∧f 0=dU xss∧f 3=S 0 0 xss.length 1∧f 4=I i∧H'=[some (lg xss i)]) (xss.length) ?_ ?_
 ·exact ⟨_,_,Gh.refl,0,by omega,by omega,ah,ah,ah,by simp [lg]⟩
 ·rintro m f H' R ⟨i,hi,rfl,g0,g3,g4,rfl⟩ hN hX hR hE
  simp only [iI.l0,aA]
  refine au fun Kr hKr=>?_;simp (disch:=omega) only [RA,↓reduceIte,Nat.reduceEqDiff,RD,g0,g4];refine hKr _ _ ?_;clear hKr Kr;(try simp only [RN,reduceIte]);try refine aj rfl ?_
  refine bD (p:=i<xss.length) (by simp only [RA,↓reduceIte,Nat.reduceEqDiff]<;>rfl) (by (try simp only [RB])<;>first|done|exact Iff.rfl|omega|simp) (fun hc=>?_) (fun hc=>?_)<;>(try simp only [RN,reduceIte])<;>(try refine aj rfl ?_)
  ·have hxi:=hll _ (pG (d:=[]) hc)
   (first|refine cZ rfl ?_|refine dh rfl ?_);(try simp only [RN,reduceIte]);try refine aj rfl ?_
   refine au fun Kr hKr=>?_;simp (disch:=omega) only [RA,↓reduceIte,Nat.reduceEqDiff,RD,g0,g3,g4,mW]
   refine aaQ hxi ?_
   simp (disch:=omega) only [RA,↓reduceIte,Nat.reduceEqDiff,RD,g3,g4,aaS]
   refine hKr _ _ ?_;clear hKr Kr;(try simp only [aH,aJ,aI]);(try simp only [RN,reduceIte]);try refine aj rfl ?_
   refine bK fun Kr hKr=>?_;simp (disch:=omega) only [RA,↓reduceIte,Nat.reduceEqDiff,RD,g4];refine hKr _ _ ?_;clear hKr Kr
   exact hN (xss.length-(i+1)) _ _ _ _ (by omega) Gh.refl ⟨i+1,by omega,rfl,ah,ah,ah,rfl⟩
  ·refine hX _ _ ?_
   obtain rfl:i=xss.length:=by omega
   refine au fun Kr hKr=>?_;simp (disch:=omega) only [RA,↓reduceIte,Nat.reduceEqDiff,RD,g3];refine hKr _ _ ?_;clear hKr Kr;(try simp only [RN,reduceIte]);try refine aj rfl ?_
   refine aN (by simp (disch:=omega) only [RA,↓reduceIte,Nat.reduceEqDiff,RD,resAll,resOf,g3];rfl) aF.refl ?_;simp only [tup]
   exact ⟨0,rfl,by simp [lg,blk]⟩
theorem KG {xss:List (List Int)} {H:BH} {K:Value→BH→Prop} (hl:xss.length≤1048576) (hll: ∀xs∈xss,xs.length≤1048576) (hK:K (.bool true) H):aB false UC [dU xss,dU xss] H K:=by
 refine bf (.cons .fz (.cons .fz .nil)) ?_
 refine aK VX ?_;simp only [gW,aA]
 refine au fun Kr hKr=>?_;simp (disch:=omega) only [RA,↓reduceIte,Nat.reduceEqDiff,RD];refine hKr _ _ ?_;clear hKr Kr;(try simp only [RN,reduceIte]);try refine aj rfl ?_
 refine au fun Kr hKr=>?_;simp (disch:=omega) only [RA,↓reduceIte,Nat.reduceEqDiff,RD];refine hKr _ _ ?_;clear hKr Kr;(try simp only [RN,reduceIte]);try refine aj rfl ?_
 refine aQ (t:=false) (by simp (disch:=omega) only [RA,↓reduceIte,Nat.reduceEqDiff,RD]) ?_;(try simp only [RN,reduceIte]);try refine aj rfl ?_
 refine au fun Kr hKr=>?_;simp (disch:=omega) only [RA,↓reduceIte,Nat.reduceEqDiff,RD];refine hKr _ _ ?_;clear hKr Kr;(try simp only [RN,reduceIte]);try refine aj rfl ?_
 refine aS (fun m f H'=> ∃i,i≤xss.length∧m=xss.length-i∧f 0=dU xss∧f 1=dU xss∧f 5=I i∧H'=[]) (xss.length) ?_ ?_
 ·exact ⟨_,_,Gh.refl,0,by omega,by omega,ah,ah,ah,rfl⟩
 ·rintro m f H' R ⟨i,hi,rfl,g0,g1,g5,rfl⟩ hN hX hR hE
  simp only [gW.l0,aA]
  refine au fun Kr hKr=>?_;simp (disch:=omega) only [RA,↓reduceIte,Nat.reduceEqDiff,RD,g0,g5];refine hKr _ _ ?_;clear hKr Kr;(try simp only [RN,reduceIte]);try refine aj rfl ?_
  refine bD (p:=i<xss.length) (by simp only [RA,↓reduceIte,Nat.reduceEqDiff]<;>rfl) (by (try simp only [RB])<;>first|done|exact Iff.rfl|omega|simp) (fun hc=>?_) (fun hc=>?_)<;>(try simp only [RN,reduceIte])<;>(try refine aj rfl ?_)
  ·have hxi:=hll _ (pG (d:=[]) hc)
   (first|refine cZ rfl ?_|refine dh rfl ?_);(try simp only [RN,reduceIte]);try refine aj rfl ?_
   refine au fun Kr hKr=>?_;simp (disch:=omega) only [RA,↓reduceIte,Nat.reduceEqDiff,RD,g0,g1,g5,mW]
   refine bf (.cons .fz (.cons .fz .nil)) ?_
   refine aaG Sl.fz Sl.fz (by omega) (by omega) ?_
   refine ⟨.bool,?_⟩
   simp (disch:=omega) only [RA,↓reduceIte,Nat.reduceEqDiff,RD]
   refine hKr _ _ ?_;clear hKr Kr;(try simp only [aH,aJ,aI]);(try simp only [RN,reduceIte]);try refine aj rfl ?_
   refine aQ (t:=false) (by simp (disch:=omega) only [RA,↓reduceIte,Nat.reduceEqDiff,RD]) ?_;(try simp only [RN,reduceIte]);try refine aj rfl ?_
   refine bK fun Kr hKr=>?_;simp (disch:=omega) only [RA,↓reduceIte,Nat.reduceEqDiff,RD,g5];refine hKr _ _ ?_;clear hKr Kr
   exact hN (xss.length-(i+1)) _ _ _ _ (by omega) Gh.refl ⟨i+1,by omega,rfl,ah,ah,ah,rfl⟩
  ·refine hX _ _ ?_
   refine au fun Kr hKr=>?_;simp (disch:=omega) only [RA,↓reduceIte,Nat.reduceEqDiff,RD];refine hKr _ _ ?_;clear hKr Kr;(try simp only [RN,reduceIte]);try refine aj rfl ?_
   refine aN (by simp (disch:=omega) only [RA,↓reduceIte,Nat.reduceEqDiff,RD,resAll,resOf];rfl) aF.refl ?_;simp only [tup]
   exact ⟨.bool,hK⟩
end Go.Bm
