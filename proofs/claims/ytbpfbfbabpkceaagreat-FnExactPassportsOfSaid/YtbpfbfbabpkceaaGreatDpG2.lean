/- DpDg, DpKa, BmQ, DpDb, DpDc, DpTa, DpLa, DpLz, DpDh, BmP, BmR -/
import Derived.Test.YtbpfbfbabpkceaaGreatBmT
import Derived.Test.YtbpfbfbabpkceaaGreatDpG1
set_option linter.unusedVariables false
set_option linter.unusedSimpArgs false
namespace Go.Bm
open Go Go.Am
def gJ:Nat→List Nat
 |0=>fQ
 |i+1=>(gJ i).set i i
theorem LV {i:Nat}:nl fQ i=0:=by rw [fQ,lG];split<;>rfl
theorem rM {k:Nat}:(gJ k).length=16:=by
 induction k with
 |zero=>exact jS
 |succ k ih=>rw [gJ,List.length_set,ih]
theorem yX {k i:Nat} (hk:k≤16):nl (gJ k) i=if i<k then i else 0:=by
 induction k with
 |zero=>rw [gJ,LV,if_neg (by omega)]
 |succ k ih=>
  rw [gJ,jq,ih (by omega),rM]
  by_cases e:i=k
  ·subst e;rw [if_pos ⟨rfl,by omega⟩,if_pos (by omega)]
  ·rw [if_neg (by omega)]
   by_cases h:i<k
   ·rw [if_pos h,if_pos (by omega)]
   ·rw [if_neg h,if_neg (by omega)]
theorem Perm.of {p:List Nat} {n:Nat} (hn:1≤n∧n≤16) (h0: ∀i,n≤i→i<16→nl p i=0) (h1: ∀i,i<n→nl p i<n) (h2: ∀i j,i<n→j<i→nl p j≠nl p i):Perm p n:=
 ⟨by omega,fun i hi=>⟨fun h=>h0 i (by omega) hi,fun h=>⟨by have:=h1 i (by omega);omega,fun j hj=>h2 i j (by omega) hj⟩⟩⟩
theorem Perm.zero {p:List Nat} {n:Nat} (h:Perm p n) {i:Nat} (h1:n≤i) (h2:i<16):nl p i=0:=(h.2 i h2).1 (by omega)
theorem yY {n:Nat} (hn:1≤n∧n≤16):Perm (gJ n) n:= .of hn
 (fun i h1 h2=>by rw [yX hn.2,if_neg (by omega)]) (fun i h=>by rw [yX hn.2,if_pos h];exact h)
 (fun i j h1 h2=>by rw [yX hn.2,yX hn.2,if_pos h1,if_pos (by omega)];omega)
theorem mod_one {n i:Nat} (h:i<n):(i+1)%n=if i+1=n then 0 else i+1:=by
 split
 ·rename_i e;rw [e,Nat.mod_self]
 ·exact Nat.mod_eq_of_lt (by omega)
theorem Perm.swap {p:List Nat} {n:Nat} (h:Perm p n) (hl:p.length=16) {i k:Nat} (hi:i<n) (hk:k<n):Perm ((p.set i (nl p k)).set k (nl p i)) n:=by
 have hn:=h.1
 have e: ∀j,nl ((p.set i (nl p k)).set k (nl p i)) j=if j=k then nl p i else if j=i then nl p k else nl p j:=fun j=>by
  rw [jq,jq,List.length_set,hl]
  by_cases e1:j=k
  ·rw [if_pos ⟨e1,by omega⟩,if_pos e1]
  ·rw [if_neg (by omega),if_neg e1]
   by_cases e2:j=i
   ·rw [if_pos ⟨e2,by omega⟩,if_pos e2]
   ·rw [if_neg (by omega),if_neg e2]
 refine .of (by omega) (fun j h1 h2=>?_) (fun j hj=>?_) (fun j j' hj hj'=>?_)
 ·rw [e,if_neg (by omega),if_neg (by omega)];exact h.zero h1 h2
 ·rw [e];split
  ·exact h.lt hi
  ·split
   ·exact h.lt hk
   ·exact h.lt hj
 ·rw [e,e]
  intro he
  have key: ∀a b,a<n→b<n→nl p a=nl p b→a=b:=fun a b ha hb hab=>h.inj ha hb hab
  split at he<;>split at he<;>(try split at he)<;>(try split at he)
  all_goals first
   |(have:=key _ _ (by omega) (by omega) he;omega)
theorem acM {x:Bool} {n:Int} {H:BH} {K:Value→BH→Prop} (hn:n≤16) (hK:K (PL (gJ n.toNat)) H):aF x Xy [I n] H K:=by
 have hz:=jS
 refine bK (by simp only [RH]) ?_
 refine aG YK ?_;simp only [jG,aB]
 refine aC ?_
 refine aC ?_
 refine aC ?_
 refine aW (fun m f H'=> ∃k:Nat,k≤n.toNat∧m=n.toNat-k∧f 0=I n∧f 2=P 0 0∧f 3=P 1 0∧f 4=I k∧H'=[some (List.replicate 16 (.int .u8 0)),some ((gJ k).map N8)]) (n.toNat) ?_ ?_
 ·exact ⟨_,_,Gh.refl,0,by omega,by omega,ah,ah,ah,ah,rfl⟩
 ·rintro m f H' R ⟨k,hk,rfl,g0,g2,g3,g4,rfl⟩ hN hX hR hE
  simp only [jG.l0,aB]
  have hlk:= @rM k
  refine aA (aH @g0 @g4) ?_
  refine bI ((k:Int)<n) (fun hc=>?_) fun hc=>?_
  ·have agB:k<16:=by omega
   refine dD ?_
   refine aA (bP @g3 @g4 @hlk) ?_
   refine bM @g4 ?_
   exact hN (n.toNat-(k+1)) _ _ _ _ (by omega) Gh.refl ⟨k+1,by omega,rfl,ah,ah,ah,ah,rfl⟩
  ·refine hX _ _ ?_
   obtain rfl:k=n.toNat:=by omega
   refine aA (bP @g2 @g3 @hlk) ?_
   refine mJ (aH @g2 @hlk) ?_
   exact ⟨jr (by (simp only [RH])),hK⟩
section
variable {code:List Nat} {a:Nat} {h:Int}
end
end Go.Bm
set_option linter.unusedSectionVars false
namespace Go.Bm
open Go Go.Am
def pad (pre:List Nat):List Nat:=pre++List.replicate (16-pre.length) 0
def lv (n:Nat):Nat→List Nat→List (List Nat)
 |0,pre=>[pad pre]
 |m+1,pre=>(List.range n).flatMap fun x=>if x∈pre then [] else lv n m (pre++[x])
def ny (p:List Nat) (k i:Nat):List Nat:=(p.set k (nl p i)).set i (nl p k)
def sw (n:Nat):Nat→List Nat→Nat→List (List Nat)
 |0,p,k=>[p]
 |m+1,p,k=>(List.range m.succ).flatMap fun d=>sw n m (ny p k (k+d)) (k+1)
def PQ (n:Nat) (q:List Nat):Prop:=Perm q n∧q.length=16
theorem Fv {pre:List Nat} (h:pre.length≤16):(pad pre).length=16:=by simp [pad];omega
theorem vk {pre:List Nat} {i:Nat}:nl (pad pre) i=if i<pre.length then nl pre i else 0:=by
 rw [pad,mO]
 split
 ·rfl
 ·rw [lG];split<;>rfl
theorem Gn {α β:Type} {f:α→List β}: ∀{l:List α},l.Nodup→(∀a∈l,(f a).Nodup)→(∀a∈l,∀b∈l,a≠b→ ∀y∈f a,y∉f b)→(l.flatMap f).Nodup
 |[],_,_,_=>by simp
 |a::l,hn,h1,h2=>by
  rw [List.flatMap_cons,List.nodup_append]
  rw [List.nodup_cons] at hn
  refine ⟨h1 a (by simp),Gn hn.2 (fun b hb=>h1 b (by simp [hb])) fun b hb c hc=>h2 b (by simp [hb]) c (by simp [hc]),fun x hx y hy e=>?_⟩
  subst e
  obtain ⟨b,hb,hxb⟩:=List.mem_flatMap.1 hy
  exact h2 a (by simp) b (by simp [hb]) (fun e=>hn.1 (e▸hb)) x hx hxb
section
variable {n:Nat}
structure rE (n:Nat) (pre:List Nat):Prop where
 fM:pre.Nodup
 lt: ∀x∈pre,x<n
 len:pre.length≤n
theorem sQ (hn:1≤n∧n≤16): ∀(m:Nat) {pre:List Nat},rE n pre→pre.length+m=n→ ∀q,q∈lv n m pre↔PQ n q∧q.take pre.length=pre
 |0,pre,h,hm,q=>by
  rw [lv,List.mem_singleton]
  have hl:pre.length=n:=by omega
  constructor
  ·rintro rfl
   refine ⟨⟨.of hn (fun i h1 h2=>by rw [vk,if_neg (by omega)]) (fun i hi=>?_) (fun i j hi hj e=>?_),Fv (by omega)⟩,?_⟩
   ·rw [vk,if_pos (by omega)]
    exact h.lt _ (dK (by omega))
   ·rw [vk,vk,if_pos (by omega),if_pos (by omega)] at e
    have:=oD h.fM (by omega) (by omega) e
    omega
   ·rw [pad,List.take_left]
  ·rintro ⟨⟨hp,kG⟩,ht⟩
   refine vg (by rw [kG,Fv (by omega)]) fun i hi=>?_
   rw [vk]
   by_cases hin:i<pre.length
   ·rw [if_pos hin,←ht]
    simp [nl,List.getD,List.getElem?_take,hin]
   ·rw [if_neg hin]
    exact hp.zero (by omega) (by omega)
 |m+1,pre,h,hm,q=>by
  rw [lv,List.mem_flatMap]
  constructor
  ·rintro ⟨x,hx,hq⟩
   split at hq
   ·simp at hq
   ·rename_i hxp
    have h':rE n (pre++[x]):=⟨by
     rw [List.nodup_append]
     exact ⟨h.fM,by simp,fun a ha b hb e=>by rw [List.mem_singleton] at hb;subst hb;subst e;exact hxp ha⟩,fun y hy=>by
     rcases List.mem_append.1 hy with hy|hy
     ·exact h.lt y hy
     ·rw [List.mem_singleton] at hy;subst hy;exact List.mem_range.1 hx,by simp;omega⟩
    obtain ⟨h1,h2⟩:=(sQ hn m h' (by simp;omega) q).1 hq
    refine ⟨h1,?_⟩
    have:=congrArg (List.take pre.length) h2
    rwa [List.take_take,List.take_left,List.length_append,Nat.min_eq_left (by omega)] at this
  ·rintro ⟨⟨hp,kG⟩,ht⟩
   have hin:pre.length<n:=by omega
   have hxn:=hp.lt hin
   have hnot:nl q pre.length∉pre:=fun hmem=>by
    obtain ⟨j,hj,he⟩:=lY hmem
    have:nl q j=nl pre j:=by
     rw [←ht]
     simp [nl,List.getD,List.getElem?_take,hj]
    have:=hp.inj (by omega) hin (this.trans he)
    omega
   refine ⟨nl q pre.length,List.mem_range.2 hxn,?_⟩
   rw [if_neg hnot]
   have h':rE n (pre++[nl q pre.length]):=⟨by
     rw [List.nodup_append]
     exact ⟨h.fM,by simp,fun a ha b hb e=>by rw [List.mem_singleton] at hb;subst hb;subst e;exact hnot ha⟩,fun y hy=>by
     rcases List.mem_append.1 hy with hy|hy
     ·exact h.lt y hy
     ·rw [List.mem_singleton] at hy;subst hy;exact hxn,by simp;omega⟩
   refine (sQ hn m h' (by simp;omega) q).2 ⟨⟨hp,kG⟩,?_⟩
   rw [List.length_append,List.length_singleton,List.take_add_one,ht]
   congr 1
   simp [nl,List.getD,show pre.length<q.length by omega]
theorem Nu (hn:1≤n∧n≤16): ∀(m:Nat) {pre:List Nat},rE n pre→pre.length+m=n→(lv n m pre).Nodup
 |0,pre,_,_=>by simp [lv]
 |m+1,pre,h,hm=>by
  have h': ∀x,x<n→x∉pre→rE n (pre++[x]):=fun x hx hxp=>⟨by
     rw [List.nodup_append]
     exact ⟨h.fM,by simp,fun a ha b hb e=>by rw [List.mem_singleton] at hb;subst hb;subst e;exact hxp ha⟩,fun y hy=>by
     rcases List.mem_append.1 hy with hy|hy
     ·exact h.lt y hy
     ·rw [List.mem_singleton] at hy;subst hy;exact hx,by simp;omega⟩
  refine Gn List.nodup_range (fun x hx=>?_) fun x hx y hy hxy q hq hq'=>?_
  ·split
   ·exact List.nodup_nil
   ·rename_i hxp
    exact Nu hn m (h' x (List.mem_range.1 hx) hxp) (by simp;omega)
  ·split at hq
   ·simp at hq
   ·rename_i hxp
    split at hq'
    ·simp at hq'
    ·rename_i hyp
     have h1:=((sQ hn m (h' x (List.mem_range.1 hx) hxp) (by simp;omega) q).1 hq).2
     have h2:=((sQ hn m (h' y (List.mem_range.1 hy) hyp) (by simp;omega) q).1 hq').2
     rw [List.length_append,List.length_singleton] at h1 h2
     rw [h1] at h2
     have:=List.append_cancel_left h2
     simp at this
     exact hxy this
theorem Gp {p:List Nat} {k i j:Nat} (hl:p.length=16) (hk:k<16) (hi:i<16):nl (ny p k i) j=if j=i then nl p k else if j=k then nl p i else nl p j:=by
 rw [ny,jq,jq,List.length_set,hl]
 by_cases e1:j=i
 ·rw [if_pos ⟨e1,by omega⟩,if_pos e1]
 ·rw [if_neg (by omega),if_neg e1]
  by_cases e2:j=k
  ·rw [if_pos ⟨e2,by omega⟩,if_pos e2]
  ·rw [if_neg (by omega),if_neg e2]
theorem CZ {p:List Nat} {k i:Nat} (h:PQ n p) (hk:k<n) (hi:i<n):PQ n (ny p k i):=⟨h.1.swap h.2 hk hi,by rw [ny,List.length_set,List.length_set,h.2]⟩
theorem yZ: ∀(m:Nat) {p:List Nat} {k:Nat},PQ n p→k+m=n→ ∀q,q∈sw n m p k↔PQ n q∧ ∀j,j<k→nl q j=nl p j
 |0,p,k,h,hm,q=>by
  rw [sw,List.mem_singleton]
  constructor
  ·rintro rfl
   exact ⟨h,fun _ _=>rfl⟩
  ·rintro ⟨hq,he⟩
   refine vg (by rw [hq.2,h.2]) fun i hi=>?_
   rcases Nat.lt_or_ge i k with h1|h1
   ·exact he i h1
   ·rw [hq.1.zero (by omega) (by have:=hq.2;omega),h.1.zero (by omega) (by have:=hq.2;omega)]
 |m+1,p,k,h,hm,q=>by
  have hn:=h.1.1
  have hl:=h.2
  rw [sw,List.mem_flatMap]
  constructor
  ·rintro ⟨d,hd,hq⟩
   have hd':d<m+1:=List.mem_range.1 hd
   obtain ⟨h1,h2⟩:=(yZ m (CZ h (show k<n by omega) (show k+d<n by omega)) (by omega) q).1 hq
   refine ⟨h1,fun j hj=>?_⟩
   rw [h2 j (by omega),Gp hl (by omega) (by omega),if_neg (by omega),if_neg (by omega)]
  ·rintro ⟨hq,he⟩
   obtain ⟨i,hi,hie⟩:=h.1.qy (hq.1.lt (show k<n by omega))
   have hki:k≤i:=by
    rcases Nat.lt_or_ge i k with h1|h1
    ·have:=hq.1.inj (show i<n by omega) (show k<n by omega) ((he i h1).trans hie)
     omega
    ·exact h1
   refine ⟨i-k,List.mem_range.2 (by omega),?_⟩
   rw [show k+(i-k)=i by omega]
   refine (yZ m (CZ h (by omega) hi) (by omega) q).2 ⟨hq,fun j hj=>?_⟩
   rw [Gp hl (by omega) (by omega)]
   by_cases e1:j=k
   ·subst e1
    by_cases e2:j=i
    ·rw [if_pos e2,←hie,e2]
    ·rw [if_neg e2,if_pos rfl,hie]
   ·rw [if_neg (by omega),if_neg e1]
    exact he j (by omega)
theorem Nv: ∀(m:Nat) {p:List Nat} {k:Nat},PQ n p→k+m=n→(sw n m p k).Nodup
 |0,p,k,_,_=>by simp [sw]
 |m+1,p,k,h,hm=>by
  have hn:=h.1.1
  have hl:=h.2
  have hs: ∀d,d<m+1→PQ n (ny p k (k+d)):=fun d hd=>CZ h (by omega) (by omega)
  refine Gn List.nodup_range (fun d hd=>Nv m (hs d (List.mem_range.1 hd)) (by omega)) fun d hd e he hde q hq hq'=>?_
  rw [List.mem_range] at hd he
  have h1:=((yZ m (hs d hd) (by omega) q).1 hq).2 k (by omega)
  have h2:=((yZ m (hs e he) (by omega) q).1 hq').2 k (by omega)
  have key: ∀d,d<m+1→nl (ny p k (k+d)) k=nl p (k+d):=fun d hd=>by
   rw [Gp hl (by omega) (by omega)]
   by_cases e:k=k+d
   ·rw [if_pos e,←e]
   ·rw [if_neg e,if_pos rfl]
  rw [key d hd] at h1
  rw [key e he] at h2
  have:=h.1.inj (show k+d<n by omega) (show k+e<n by omega) (h1.symm.trans h2)
  omega
theorem acN (hn:1≤n∧n≤16):(lv n n []).Perm (sw n n (gJ n) 0):=by
 have hid:PQ n (gJ n):=⟨yY hn,rM⟩
 refine (List.perm_ext_iff_of_nodup (Nu hn n ⟨by simp,by simp,by simp⟩ (by simp)) (Nv n hid (by omega))).2 fun q=>?_
 rw [sQ hn n ⟨by simp,by simp,by simp⟩ (by simp),yZ n hid (by omega)]
 simp
end
end Go.Bm
namespace Go.Bm
open Go Go.Am
def lK (g:Value→Value) (H:BH):BH:=H.map (Option.map (List.map g))
theorem Nr {g:Value→Value} {H:BH} {j:Nat} {cs:List Value} (h:blk (lK g H) j=some cs): ∃cs0,blk H j=some cs0∧cs=cs0.map g:=by
 unfold blk lK at h
 rw [List.getElem?_map] at h
 unfold blk
 cases h1:H[j]? with
 |none=>rw [h1] at h;cases h
 |some o=>
  rw [h1] at h
  cases o with
  |none=>cases h
  |some cs0=>exact ⟨cs0,rfl,by simpa using h.symm⟩
theorem Gh.CX {k:Nat} {f:Fr} {H:BH} {i:Nat} {cs:List Value} (hc:blk H i=some cs) (hn:aJ cs):Gh k f H (fun t=>frz i cs (f t)) ((lK (frz i cs) H).set i none):=
 ⟨fun h=>by simpa [lK] using h,fun ρ Z fA HA h1 h2=>by
  obtain ⟨Z',h3,h4,h5⟩:=yV h2 hc hn
  have hi:=oC hc
  have hset: ∀j cs',blk ((lK (frz i cs) H).set i none) j=some cs'→j≠i∧ ∃cs0,blk H j=some cs0∧cs'=cs0.map (frz i cs):=fun j cs' h=>by
   rw [kM (by simpa [lK] using hi)] at h
   split at h
   ·cases h
   ·rename_i hne
    exact ⟨hne,Nr h⟩
  have hold: ∀j cs0,j≠i→blk H j=some cs0→blk (H.set i none) j=some cs0:=fun j cs0 hne h=>by rw [kM hi,if_neg hne];exact h
  refine ⟨ρ,Z',fun t=>h5 _ _ (h1 t),⟨fun j cs' h=>?_,fun j j' c1 c2 b e1 e2 e3 e4=>?_,fun j cs' b e1 e2=>?_,h3.fH,fun j hj=>h2.top j (by simpa [lK] using hj)⟩,fun _ _=>rfl,⟨h4.n,h4.keep,fun j cs' b e1 e2=>?_,h4.zx,h4.zn⟩⟩
  ·obtain ⟨hne,cs0,g1,rfl⟩:=hset j cs' h
   obtain ⟨b,bk,k1,k2,k3,k4,k5⟩:=h2.bH j cs0 g1
   refine ⟨b,bk,k1,k2,k3,k4,by simpa using k5.1,fun q c d q1 q2=>?_⟩
   rw [List.getElem?_map] at q1
   obtain ⟨p,hp,rfl⟩:=map_inj q1
   exact h5 _ _ (k5.2 q p d hp q2)
  ·obtain ⟨n1,x1,g1,_⟩:=hset j c1 e1
   obtain ⟨n2,x2,g2,_⟩:=hset j' c2 e2
   exact h2.inj j j' x1 x2 b g1 g2 e3 e4
  ·obtain ⟨n1,x1,g1,_⟩:=hset j cs' e1
   exact h3.eF j x1 b (hold j x1 n1 g1) e2
  ·obtain ⟨n1,x1,g1,_⟩:=hset j cs' e1
   exact h4.own j x1 b (hold j x1 n1 g1) e2⟩
end Go.Bm
namespace Go.Bm
open Go Go.Am
def aU:Nat→Nat→Nat→List (List Nat)
 |0,_,_=>[[]]
 |k+1,n,m=>if n=0 then [[]] else (List.range (min n m)).flatMap fun i=>(aU k (n-(i+1)) (i+1)).map fun r=>(i+1)::r
def iW (k n i:Nat):List (List Nat):=(List.range i).flatMap fun i=>(aU k (n-(i+1)) (i+1)).map fun r=>(i+1)::r
theorem yO {k n i:Nat}:iW k n (i+1)=iW k n i++(aU k (n-(i+1)) (i+1)).map fun r=>(i+1)::r:=by
 simp [iW,List.range_succ]
theorem sV {k n i:Nat}: ∀{j:Nat},i≤j→(iW k n i).length≤(iW k n j).length
 |0,h=>by
  obtain rfl:i=0:=by omega
  exact Nat.le_refl _
 |j+1,h=>by
  by_cases e:i=j+1
  ·rw [e];exact Nat.le_refl _
  ·have:=sV (k:=k) (n:=n) (i:=i) (j:=j) (by omega)
   rw [yO,List.length_append]
   omega
theorem yN {k n m:Nat} (h:n≠0):aU (k+1) n m=iW k n (min n m):=by
 rw [aU,if_neg h]
 rfl
theorem Nw: ∀{k n m:Nat},n≤k→aU k n m=aU (k+1) n m
 |0,n,m,h=>by
  obtain rfl:n=0:=by omega
  rfl
 |k+1,n,m,h=>by
  by_cases e:n=0
  ·simp [aU,e]
  ·rw [yN e,yN e,iW,iW]
   congr 1
   funext i
   rw [Nw (k:=k) (by omega)]
theorem acO {k n m:Nat} (h:n≤k) (hk:k≤16):aU k n m=aU 16 n m:=by
 have key: ∀d,k+d≤16→aU k n m=aU (k+d) n m:=by
  intro d
  induction d with
  |zero=>intro _;rfl
  |succ d ih=>intro hd;rw [ih (by omega),Nw (k:=k+d) (by omega)];rfl
 have:=key (16-k) (by omega)
 rwa [show k+(16-k)=16 by omega] at this
theorem Ny: ∀{k n m:Nat},∀r∈aU k n m,r.length≤n
 |0,n,m,r,h=>by
  rw [aU,List.mem_singleton] at h
  rw [h];simp
 |k+1,n,m,r,h=>by
  rw [aU] at h
  split at h
  ·rw [List.mem_singleton] at h
   rw [h];simp
  ·obtain ⟨i,hi,h⟩:=List.mem_flatMap.1 h
   obtain ⟨q,hq,rfl⟩:=List.mem_map.1 h
   have:=Ny q hq
   rw [List.mem_range] at hi
   rw [List.length_cons]
   omega
theorem acP {k n m:Nat} (h:n≤m):aU k n m=aU k n n:=by
 cases k with
 |zero=>rfl
 |succ k=>rw [aU,aU,Nat.min_eq_left h,Nat.min_self]
theorem Nz: ∀n,n<17→ ∀m,m<17→(aU 16 n m).length≤300:=by decide+kernel
theorem MW {k n m:Nat} (h:n≤k) (hk:k≤16):(aU k n m).length≤300:=by
 rw [acO h hk]
 by_cases e:m<17
 ·exact Nz n (by omega) m e
 ·rw [acP (by omega)]
  exact Nz n (by omega) n (by omega)
end Go.Bm
namespace Go.Bm
open Go Go.Am
abbrev LN (ts:List (List Nat)):Value:=Fz ts.length 1 (ts.map FN)
theorem acQ {k:IntKind} {x y:Int}:foldV min2 [.int k x, .int k y]=some (.int k (if y<x then y else x)):=by
 simp [foldV,min2]
theorem acR {H:BH} {b bytes cn j l:Nat} {xs:List (List Nat)} (h:(xs.length+1)*bytes≤140737488355328):app1 (some [S j 0 l 1]) (some (xs.map FN)) H b xs.length bytes cn=some (S H.length 0 (xs.length+1) 1,(H.set b none)++[some (xs.map FN++[S j 0 l 1])]):=by
 simp only [app1]
 rw [if_pos ⟨by simp,h,rfl⟩]
 simp [List.take_of_length_le]
theorem acS {i:Nat} {cs:List Value} {xs:List (List Nat)}:(xs.map FN).map (frz i cs)=xs.map FN:=by
 rw [List.map_map]
 exact List.map_congr_left fun x _=>rfl
theorem acT: ∀(k n m:Nat),n≤k→k≤16→m≤16→aF false KA [I n,I m] [] fun v H1=> ∃j,v=S j 0 (aU k n m).length 1∧blk H1 j=some ((aU k n m).map FN):=by
 intro k
 induction k with
 |zero=>
  intro n m hn hk hm
  obtain rfl:n=0:=by omega
  refine aG ES ?_;simp only [dZ,aB]
  refine au fun Kr hKr=>?_;simp (disch:=omega) only [RA,↓reduceIte,Nat.reduceEqDiff,Nat.reduceBEq,Nat.reduceSub,Nat.reduceAdd,Nat.reduceMul,Nat.reduceLT,Nat.reduceLeDiff,Int.reduceLE,Int.reduceLT,Int.reduceEq,Int.reduceNeg,Int.reduceToNat,Int.reduceMul,Int.reduceAdd,Int.reduceSub,Int.reduceBEq,Int.reduceBNe,reduceCtorEq,RD];refine hKr _ _ ?_;clear hKr Kr;(try simp only [RN,reduceIte]);try refine aj rfl ?_
  refine au fun Kr hKr=>?_;simp (disch:=omega) only [RA,↓reduceIte,Nat.reduceEqDiff,Nat.reduceBEq,Nat.reduceSub,Nat.reduceAdd,Nat.reduceMul,Nat.reduceLT,Nat.reduceLeDiff,Int.reduceLE,Int.reduceLT,Int.reduceEq,Int.reduceNeg,Int.reduceToNat,Int.reduceMul,Int.reduceAdd,Int.reduceSub,Int.reduceBEq,Int.reduceBNe,reduceCtorEq,RD];refine hKr _ _ ?_;clear hKr Kr;(try simp only [RN,reduceIte]);try refine aj rfl ?_
  refine dY (t:=true) (by simp (disch:=omega) only [RA,↓reduceIte,Nat.reduceEqDiff,Nat.reduceBEq,Nat.reduceSub,Nat.reduceAdd,Nat.reduceMul,Nat.reduceLT,Nat.reduceLeDiff,Int.reduceLE,Int.reduceLT,Int.reduceEq,Int.reduceNeg,Int.reduceToNat,Int.reduceMul,Int.reduceAdd,Int.reduceSub,Int.reduceBEq,Int.reduceBNe,reduceCtorEq,RD]) ?_;(try simp only [RN,reduceIte]);try refine aj rfl ?_
  refine au fun Kr hKr=>?_;simp (disch:=omega) only [RA,↓reduceIte,Nat.reduceEqDiff,Nat.reduceBEq,Nat.reduceSub,Nat.reduceAdd,Nat.reduceMul,Nat.reduceLT,Nat.reduceLeDiff,Int.reduceLE,Int.reduceLT,Int.reduceEq,Int.reduceNeg,Int.reduceToNat,Int.reduceMul,Int.reduceAdd,Int.reduceSub,Int.reduceBEq,Int.reduceBNe,reduceCtorEq,RD]
  refine hKr _ _ ?_;clear hKr Kr
  refine jT (Gh.CX (i:=0) (cs:=[]) rfl aJ.nil) ?_
  (try simp only [RN,reduceIte]);try refine aj rfl ?_
  refine bZ (by simp (disch:=omega) only [RA,↓reduceIte,Nat.reduceEqDiff,Nat.reduceBEq,Nat.reduceSub,Nat.reduceAdd,Nat.reduceMul,Nat.reduceLT,Nat.reduceLeDiff,Int.reduceLE,Int.reduceLT,Int.reduceEq,Int.reduceNeg,Int.reduceToNat,Int.reduceMul,Int.reduceAdd,Int.reduceSub,Int.reduceBEq,Int.reduceBNe,reduceCtorEq,RD,resAll,resOf];rfl) aY.refl ?_;simp only [tup]
  exact ⟨1,rfl,rfl⟩
 |succ k ih=>
  intro n m hn hk hm
  by_cases h0:n=0
  ·subst h0
   refine aG ES ?_;simp only [dZ,aB]
   refine au fun Kr hKr=>?_;simp (disch:=omega) only [RA,↓reduceIte,Nat.reduceEqDiff,Nat.reduceBEq,Nat.reduceSub,Nat.reduceAdd,Nat.reduceMul,Nat.reduceLT,Nat.reduceLeDiff,Int.reduceLE,Int.reduceLT,Int.reduceEq,Int.reduceNeg,Int.reduceToNat,Int.reduceMul,Int.reduceAdd,Int.reduceSub,Int.reduceBEq,Int.reduceBNe,reduceCtorEq,RD];refine hKr _ _ ?_;clear hKr Kr;(try simp only [RN,reduceIte]);try refine aj rfl ?_
   refine au fun Kr hKr=>?_;simp (disch:=omega) only [RA,↓reduceIte,Nat.reduceEqDiff,Nat.reduceBEq,Nat.reduceSub,Nat.reduceAdd,Nat.reduceMul,Nat.reduceLT,Nat.reduceLeDiff,Int.reduceLE,Int.reduceLT,Int.reduceEq,Int.reduceNeg,Int.reduceToNat,Int.reduceMul,Int.reduceAdd,Int.reduceSub,Int.reduceBEq,Int.reduceBNe,reduceCtorEq,RD];refine hKr _ _ ?_;clear hKr Kr;(try simp only [RN,reduceIte]);try refine aj rfl ?_
   refine dY (t:=true) (by simp (disch:=omega) only [RA,↓reduceIte,Nat.reduceEqDiff,Nat.reduceBEq,Nat.reduceSub,Nat.reduceAdd,Nat.reduceMul,Nat.reduceLT,Nat.reduceLeDiff,Int.reduceLE,Int.reduceLT,Int.reduceEq,Int.reduceNeg,Int.reduceToNat,Int.reduceMul,Int.reduceAdd,Int.reduceSub,Int.reduceBEq,Int.reduceBNe,reduceCtorEq,RD]) ?_;(try simp only [RN,reduceIte]);try refine aj rfl ?_
   refine au fun Kr hKr=>?_;simp (disch:=omega) only [RA,↓reduceIte,Nat.reduceEqDiff,Nat.reduceBEq,Nat.reduceSub,Nat.reduceAdd,Nat.reduceMul,Nat.reduceLT,Nat.reduceLeDiff,Int.reduceLE,Int.reduceLT,Int.reduceEq,Int.reduceNeg,Int.reduceToNat,Int.reduceMul,Int.reduceAdd,Int.reduceSub,Int.reduceBEq,Int.reduceBNe,reduceCtorEq,RD]
   refine hKr _ _ ?_;clear hKr Kr
   refine jT (Gh.CX (i:=0) (cs:=[]) rfl aJ.nil) ?_
   (try simp only [RN,reduceIte]);try refine aj rfl ?_
   refine bZ (by simp (disch:=omega) only [RA,↓reduceIte,Nat.reduceEqDiff,Nat.reduceBEq,Nat.reduceSub,Nat.reduceAdd,Nat.reduceMul,Nat.reduceLT,Nat.reduceLeDiff,Int.reduceLE,Int.reduceLT,Int.reduceEq,Int.reduceNeg,Int.reduceToNat,Int.reduceMul,Int.reduceAdd,Int.reduceSub,Int.reduceBEq,Int.reduceBNe,reduceCtorEq,RD,resAll,resOf];rfl) aY.refl ?_;simp only [tup]
   exact ⟨1,rfl,rfl⟩
  ·have hlt:=MW (k:=k+1) (n:=n) (m:=m) hn hk
   rw [yN h0] at hlt⊢
   refine aG ES ?_;simp only [dZ,aB]
   refine au fun Kr hKr=>?_;simp (disch:=omega) only [RA,↓reduceIte,Nat.reduceEqDiff,Nat.reduceBEq,Nat.reduceSub,Nat.reduceAdd,Nat.reduceMul,Nat.reduceLT,Nat.reduceLeDiff,Int.reduceLE,Int.reduceLT,Int.reduceEq,Int.reduceNeg,Int.reduceToNat,Int.reduceMul,Int.reduceAdd,Int.reduceSub,Int.reduceBEq,Int.reduceBNe,reduceCtorEq,RD];refine hKr _ _ ?_;clear hKr Kr;(try simp only [RN,reduceIte]);try refine aj rfl ?_
   refine au fun Kr hKr=>?_;simp (disch:=omega) only [RA,↓reduceIte,Nat.reduceEqDiff,Nat.reduceBEq,Nat.reduceSub,Nat.reduceAdd,Nat.reduceMul,Nat.reduceLT,Nat.reduceLeDiff,Int.reduceLE,Int.reduceLT,Int.reduceEq,Int.reduceNeg,Int.reduceToNat,Int.reduceMul,Int.reduceAdd,Int.reduceSub,Int.reduceBEq,Int.reduceBNe,reduceCtorEq,RD];refine hKr _ _ ?_;clear hKr Kr;(try simp only [RN,reduceIte]);try refine aj rfl ?_
   refine dY (t:=false) (by simp (disch:=omega) only [RA,↓reduceIte,Nat.reduceEqDiff,Nat.reduceBEq,Nat.reduceSub,Nat.reduceAdd,Nat.reduceMul,Nat.reduceLT,Nat.reduceLeDiff,Int.reduceLE,Int.reduceLT,Int.reduceEq,Int.reduceNeg,Int.reduceToNat,Int.reduceMul,Int.reduceAdd,Int.reduceSub,Int.reduceBEq,Int.reduceBNe,reduceCtorEq,RD]) ?_;(try simp only [RN,reduceIte]);try refine aj rfl ?_
   refine au fun Kr hKr=>?_;simp (disch:=omega) only [RA,↓reduceIte,Nat.reduceEqDiff,Nat.reduceBEq,Nat.reduceSub,Nat.reduceAdd,Nat.reduceMul,Nat.reduceLT,Nat.reduceLeDiff,Int.reduceLE,Int.reduceLT,Int.reduceEq,Int.reduceNeg,Int.reduceToNat,Int.reduceMul,Int.reduceAdd,Int.reduceSub,Int.reduceBEq,Int.reduceBNe,reduceCtorEq,RD];refine hKr _ _ ?_;clear hKr Kr;(try simp only [RN,reduceIte]);try refine aj rfl ?_
   refine au fun Kr hKr=>?_;simp (disch:=omega) only [RA,↓reduceIte,Nat.reduceEqDiff,Nat.reduceBEq,Nat.reduceSub,Nat.reduceAdd,Nat.reduceMul,Nat.reduceLT,Nat.reduceLeDiff,Int.reduceLE,Int.reduceLT,Int.reduceEq,Int.reduceNeg,Int.reduceToNat,Int.reduceMul,Int.reduceAdd,Int.reduceSub,Int.reduceBEq,Int.reduceBNe,reduceCtorEq,RD];refine hKr _ _ ?_;clear hKr Kr;(try simp only [RN,reduceIte]);try refine aj rfl ?_
   refine aW (fun d f H'=> ∃i,i≤min n m∧d=min n m-i∧f 0=I n∧f 1=I m∧f 5=S 0 0 (iW k n i).length 1∧f 6=I ((i+1:Nat):Int)∧H'=[some ((iW k n i).map FN)]) (min n m) ?_ ?_
   ·exact ⟨_,_,Gh.refl,0,by omega,by omega,ah,ah,ah,ah,rfl⟩
   ·rintro d f H' R ⟨i,hi,rfl,g0,g1,g5,g6,rfl⟩ hN hX hR hE
    simp only [dZ.l1,aB]
    have hmin:(if m<n then (m:Int) else (n:Int))=((min n m:Nat):Int):=by split<;>omega
    have hpl:=sV (k:=k) (n:=n) hi
    refine au fun Kr hKr=>?_;simp (disch:=omega) only [RA,↓reduceIte,Nat.reduceEqDiff,Nat.reduceBEq,Nat.reduceSub,Nat.reduceAdd,Nat.reduceMul,Nat.reduceLT,Nat.reduceLeDiff,Int.reduceLE,Int.reduceLT,Int.reduceEq,Int.reduceNeg,Int.reduceToNat,Int.reduceMul,Int.reduceAdd,Int.reduceSub,Int.reduceBEq,Int.reduceBNe,reduceCtorEq,RD,g0,g1,g6,acQ,hmin];refine hKr _ _ ?_;clear hKr Kr;(try simp only [RN,reduceIte]);try refine aj rfl ?_
    refine eY (p:=i+1≤min n m) (by simp only [RA,↓reduceIte,Nat.reduceEqDiff,Nat.reduceBEq,Nat.reduceSub,Nat.reduceAdd,Nat.reduceMul,Nat.reduceLT,Nat.reduceLeDiff,Int.reduceLE,Int.reduceLT,Int.reduceEq,Int.reduceNeg,Int.reduceToNat,Int.reduceMul,Int.reduceAdd,Int.reduceSub,Int.reduceBEq,Int.reduceBNe,reduceCtorEq]<;>rfl) (by (try simp only [RB])<;>first|done|exact Iff.rfl|omega|simp) (fun hc=>?_) (fun hc=>?_)<;>(try simp only [RN,reduceIte])<;>(try refine aj rfl ?_)
    ·have him:i+1≤min n m:=by assumption
     have e1:(n:Int)-((i+1:Nat):Int)=((n-(i+1):Nat):Int):=by omega
     have hpl2:=sV (k:=k) (n:=n) him
     have hti:=fun r=>Ny (k:=k) (n:=n-(i+1)) (m:=i+1) r
     (first|refine fV rfl ?_|refine fZ rfl ?_);(try simp only [RN,reduceIte]);try refine aj rfl ?_
     refine au fun Kr hKr=>?_;simp (disch:=omega) only [RA,↓reduceIte,Nat.reduceEqDiff,Nat.reduceBEq,Nat.reduceSub,Nat.reduceAdd,Nat.reduceMul,Nat.reduceLT,Nat.reduceLeDiff,Int.reduceLE,Int.reduceLT,Int.reduceEq,Int.reduceNeg,Int.reduceToNat,Int.reduceMul,Int.reduceAdd,Int.reduceSub,Int.reduceBEq,Int.reduceBNe,reduceCtorEq,RD,g0,g6,e1]
     refine oz (l:=(aU k (n-(i+1)) (i+1)).length) (e:=1) (cs:=(aU k (n-(i+1)) (i+1)).map FN) (.cons .int (.cons .int .nil)) kL (by simp) (ih (n-(i+1)) (i+1) (by omega) (by omega) (by omega)) ?_
     rw [yO] at hpl2
     have hps:=yO (k:=k) (n:=n) (i:=i)
     generalize aU k (n-(i+1)) (i+1)=ts at hpl2 hti hps⊢
     have hlm: ∀j,j≤ts.length→(iW k n i++(ts.take j).map fun r=>(i+1)::r).length≤300:=fun j hj=>by
      rw [List.length_append,List.length_map,List.length_take]
      rw [List.length_append,List.length_map] at hpl2
      omega
     have hlen:ts.length≤300:=by
      rw [List.length_append,List.length_map] at hpl2
      omega
     simp (disch:=omega) only [RA,↓reduceIte,Nat.reduceEqDiff,Nat.reduceBEq,Nat.reduceSub,Nat.reduceAdd,Nat.reduceMul,Nat.reduceLT,Nat.reduceLeDiff,Int.reduceLE,Int.reduceLT,Int.reduceEq,Int.reduceNeg,Int.reduceToNat,Int.reduceMul,Int.reduceAdd,Int.reduceSub,Int.reduceBEq,Int.reduceBNe,reduceCtorEq,RD]
     refine hKr _ _ ?_;clear hKr Kr;(try simp only [bW,dH,dG]);(try simp only [RN,reduceIte]);try refine aj rfl ?_
     refine aW (fun d f H'=> ∃j L,j≤ts.length∧d=ts.length-j∧L=iW k n i++(ts.take j).map (fun r=>(i+1)::r)∧f 0=I n∧f 1=I m∧f 5=S 0 0 L.length 1∧f 6=I ((i+1:Nat):Int)∧f 25=LN ts∧f 26=I (ts.length:Nat)∧f 27=I j∧H'=[some (L.map FN)]) (ts.length) ?_ ?_
     ·exact ⟨_,_,Gh.refl,0,iW k n i,by omega,by omega,by simp,ah,ah,ah,ah,ah,ah,ah,rfl⟩
     ·clear g0 g1 g5 g6
      rintro d f H' R1 ⟨j,L,hj,rfl,hL,g0,g1,g5,g6,Gq,Gs,y5,rfl⟩ hN1 hX1 hR1 hE1
      simp only [dZ.l0,aB]
      have hll:=hlm j hj
      rw [←hL] at hll
      refine au fun Kr hKr=>?_;simp (disch:=omega) only [RA,↓reduceIte,Nat.reduceEqDiff,Nat.reduceBEq,Nat.reduceSub,Nat.reduceAdd,Nat.reduceMul,Nat.reduceLT,Nat.reduceLeDiff,Int.reduceLE,Int.reduceLT,Int.reduceEq,Int.reduceNeg,Int.reduceToNat,Int.reduceMul,Int.reduceAdd,Int.reduceSub,Int.reduceBEq,Int.reduceBNe,reduceCtorEq,RD,Gs,y5];refine hKr _ _ ?_;clear hKr Kr;(try simp only [RN,reduceIte]);try refine aj rfl ?_
      refine eY (p:=j<ts.length) (by simp only [RA,↓reduceIte,Nat.reduceEqDiff,Nat.reduceBEq,Nat.reduceSub,Nat.reduceAdd,Nat.reduceMul,Nat.reduceLT,Nat.reduceLeDiff,Int.reduceLE,Int.reduceLT,Int.reduceEq,Int.reduceNeg,Int.reduceToNat,Int.reduceMul,Int.reduceAdd,Int.reduceSub,Int.reduceBEq,Int.reduceBNe,reduceCtorEq]<;>rfl) (by (try simp only [RB])<;>first|done|exact Iff.rfl|omega|simp) (fun hc=>?_) (fun hc=>?_)<;>(try simp only [RN,reduceIte])<;>(try refine aj rfl ?_)
      ·have hjt:j<ts.length:=by assumption
       have hr:=hti (ts.getD j []) (by simp [List.getD,hjt])
       have hL2:iW k n i++(ts.take (j+1)).map (fun r=>(i+1)::r)=L++[(i+1)::ts.getD j []]:=by
        rw [hL,List.take_add_one,List.map_append,List.append_assoc]
        congr 2
        simp [List.getD,hjt]
       obtain ⟨r,hrd⟩: ∃r,ts.getD j []=r:=⟨_,rfl⟩
       rw [hrd] at hr hL2
       (first|refine fV rfl ?_|refine fZ rfl ?_);(try simp only [RN,reduceIte]);try refine aj rfl ?_
       refine au fun Kr hKr=>?_;simp (disch:=omega) only [RA,↓reduceIte,Nat.reduceEqDiff,Nat.reduceBEq,Nat.reduceSub,Nat.reduceAdd,Nat.reduceMul,Nat.reduceLT,Nat.reduceLeDiff,Int.reduceLE,Int.reduceLT,Int.reduceEq,Int.reduceNeg,Int.reduceToNat,Int.reduceMul,Int.reduceAdd,Int.reduceSub,Int.reduceBEq,Int.reduceBNe,reduceCtorEq,RD,Gq,y5,vK,hrd];refine hKr _ _ ?_;clear hKr Kr;(try simp only [RN,reduceIte]);try refine aj rfl ?_
       have hnext: ∀f' Hx,f' 0=I n→f' 1=I m→f' 5=S 4 0 (L.length+1) 1→f' 6=I ((i+1:Nat):Int)→f' 25=LN ts→f' 26=I (ts.length:Nat)→f' 27=I j→Hx=[none,none,none,some [FN ((i+1)::r)],some ((L++[(i+1)::r]).map FN)]→T 0 dZ.r11 R1 f' Hx:=by
        clear g0 g1 g5 g6 Gq Gs y5
        intro f' Hx g0 g1 g5 g6 Gq Gs y5 hHx
        subst hHx
        refine dN fun Kr hKr=>?_;simp (disch:=omega) only [RA,↓reduceIte,Nat.reduceEqDiff,Nat.reduceBEq,Nat.reduceSub,Nat.reduceAdd,Nat.reduceMul,Nat.reduceLT,Nat.reduceLeDiff,Int.reduceLE,Int.reduceLT,Int.reduceEq,Int.reduceNeg,Int.reduceToNat,Int.reduceMul,Int.reduceAdd,Int.reduceSub,Int.reduceBEq,Int.reduceBNe,reduceCtorEq,RD,y5];refine hKr _ _ ?_;clear hKr Kr
        refine hN1 (ts.length-(j+1)) _ _ _ _ (by omega) (Gh.nrm [4] rfl rfl (by simp only [RH,RV])) ⟨j+1,L++[(i+1)::r],by omega,rfl,hL2.symm,ah,ah,?_,ah,ah,ah,ah,rfl⟩
        all_goals (rw [List.length_append,List.length_singleton];simp (disch:=omega) only [RA,↓reduceIte,Nat.reduceEqDiff,Nat.reduceBEq,Nat.reduceSub,Nat.reduceAdd,Nat.reduceMul,Nat.reduceLT,Nat.reduceLeDiff,Int.reduceLE,Int.reduceLT,Int.reduceEq,Int.reduceNeg,Int.reduceToNat,Int.reduceMul,Int.reduceAdd,Int.reduceSub,Int.reduceBEq,Int.reduceBNe,reduceCtorEq,RD,RE, *]<;>rfl)
       refine au fun Kr hKr=>?_;simp (disch:=omega) only [RA,↓reduceIte,Nat.reduceEqDiff,Nat.reduceBEq,Nat.reduceSub,Nat.reduceAdd,Nat.reduceMul,Nat.reduceLT,Nat.reduceLeDiff,Int.reduceLE,Int.reduceLT,Int.reduceEq,Int.reduceNeg,Int.reduceToNat,Int.reduceMul,Int.reduceAdd,Int.reduceSub,Int.reduceBEq,Int.reduceBNe,reduceCtorEq,RD,g5,g6,MV,acU,acR]
       refine hKr _ _ ?_;clear hKr Kr
       refine jT (Gh.CX (i:=2) (cs:=((i+1)::r).map bF) rfl kU) ?_
       have hfz:(L.map FN++[S 2 0 (r.length+1) 1]).map (frz 2 (((i+1)::r).map bF))=(L++[(i+1)::r]).map FN:=by
        rw [List.map_append,acS,List.map_append,List.map_singleton,List.map_singleton,nC (by simp)]
        rfl
       refine hnext _ _ kE kE kE kE kE kE kE ?_
       simp only [lK,List.map_cons,List.map_nil,Option.map_none,Option.map_some,List.set_cons_succ,List.set_cons_zero]
       rw [←hfz,nC (by simp)]
       rfl
      ·refine hX1 _ _ ?_
       obtain rfl:j=ts.length:=by omega
       rw [List.take_length,←hps] at hL
       subst hL
       refine dN fun Kr hKr=>?_;simp (disch:=omega) only [RA,↓reduceIte,Nat.reduceEqDiff,Nat.reduceBEq,Nat.reduceSub,Nat.reduceAdd,Nat.reduceMul,Nat.reduceLT,Nat.reduceLeDiff,Int.reduceLE,Int.reduceLT,Int.reduceEq,Int.reduceNeg,Int.reduceToNat,Int.reduceMul,Int.reduceAdd,Int.reduceSub,Int.reduceBEq,Int.reduceBNe,reduceCtorEq,RD,g6];refine hKr _ _ ?_;clear hKr Kr
       exact hN (min n m-(i+1)) _ _ _ _ (by omega) Gh.refl ⟨i+1,by omega,rfl,ah,ah,ah,ah,rfl⟩
    ·refine hX _ _ ?_
     obtain rfl:i=min n m:=by omega
     refine au fun Kr hKr=>?_;simp (disch:=omega) only [RA,↓reduceIte,Nat.reduceEqDiff,Nat.reduceBEq,Nat.reduceSub,Nat.reduceAdd,Nat.reduceMul,Nat.reduceLT,Nat.reduceLeDiff,Int.reduceLE,Int.reduceLT,Int.reduceEq,Int.reduceNeg,Int.reduceToNat,Int.reduceMul,Int.reduceAdd,Int.reduceSub,Int.reduceBEq,Int.reduceBNe,reduceCtorEq,RD,g5];refine hKr _ _ ?_;clear hKr Kr;(try simp only [RN,reduceIte]);try refine aj rfl ?_
     refine bZ (by simp (disch:=omega) only [RA,↓reduceIte,Nat.reduceEqDiff,Nat.reduceBEq,Nat.reduceSub,Nat.reduceAdd,Nat.reduceMul,Nat.reduceLT,Nat.reduceLeDiff,Int.reduceLE,Int.reduceLT,Int.reduceEq,Int.reduceNeg,Int.reduceToNat,Int.reduceMul,Int.reduceAdd,Int.reduceSub,Int.reduceBEq,Int.reduceBNe,reduceCtorEq,RD,resAll,resOf];rfl) aY.refl ?_;simp only [tup]
     exact ⟨0,rfl,rfl⟩
theorem acV {x:Bool} {n m:Nat} {H:BH} {K:Value→BH→Prop} (hn:n≤16) (hm:m≤16) (hK:K (LN (aU n n m)) H):aF x KA [I n,I m] H K:=
 oz (.cons .int (.cons .int .nil)) kL (by simp) (acT n n m (Nat.le_refl _) hn hm) hK
end Go.Bm
namespace Go.Bm
open Go Go.Am
theorem NC {b w:List Nat} {n:Nat} (hb:Perm b n) (hw:Perm w n):Perm (fU b w n) n:=by
 have hn:=hb.1
 refine ⟨hb.1,fun i _=>⟨fun h=>by rw [vP (by omega),if_neg (by omega)],fun h=>?_⟩⟩
 have hi:i<n:=by omega
 rw [vP (by omega),if_pos hi]
 have h1:=hw.lt (hb.lt hi)
 refine ⟨by omega,fun j hj e=>?_⟩
 rw [vP (by omega),if_pos (by omega)] at e
 have:=hb.inj (by omega) hi (hw.inj (hb.lt (by omega)) (hb.lt hi) e)
 omega
theorem qA {b w:List Nat} {n:Nat} (hb:Perm b n) (hw:Perm w n):Perm (jR b w n) n:=(NC hb hw).back
def Tree (n:Nat) (b w:List Nat):Prop:=(aQ (jR b w n) n).length=1∧(aQ b n).length+(aQ w n).length=n+1
instance (n:Nat) (b w:List Nat):Decidable (Tree n b w):=by unfold Tree;infer_instance
def qB (p:List Nat) (n x:Nat):Nat:=(aQ p n).findIdx fun c=>c.contains x
theorem y7 {p:List Nat} {n x:Nat} (hp:Perm p n) (hx:x<n):qB p n x<(aQ p n).length:=by
 obtain ⟨c,hc,hxc⟩:=vT hp hx
 exact List.findIdx_lt_length_of_exists ⟨c,hc,by simpa using hxc⟩
theorem ND {p:List Nat} {n x:Nat} (hp:Perm p n) (hx:x<n):x∈(aQ p n)[qB p n x]'(y7 hp hx):=by
 have h2:((aQ p n)[qB p n x]'(y7 hp hx)).contains x=true:=List.findIdx_getElem (w:=y7 hp hx)
 simpa using h2
theorem acW {p:List Nat} {n:Nat} (hp:Perm p n):(aQ p n).flatten.Nodup:=(oG.all rfl hp (Nat.le_refl n)).fM
theorem NG: ∀{cs:List (List Nat)} {i j x:Nat} (hi:i<cs.length) (hj:j<cs.length),cs.flatten.Nodup→x∈cs[i]→x∈cs[j]→i=j
 |c::cs,0,0,x,_,_,_,_,_=>rfl
 |c::cs,0,j+1,x,_,hj,hn,h1,h2=>by
  rw [List.flatten_cons,List.nodup_append] at hn
  exact absurd rfl (hn.2.2 x h1 x (List.mem_flatten.2 ⟨_,List.getElem_mem (by simpa using hj),h2⟩))
 |c::cs,i+1,0,x,hi,_,hn,h1,h2=>by
  rw [List.flatten_cons,List.nodup_append] at hn
  exact absurd rfl (hn.2.2 x h2 x (List.mem_flatten.2 ⟨_,List.getElem_mem (by simpa using hi),h1⟩))
 |c::cs,i+1,j+1,x,hi,hj,hn,h1,h2=>by
  rw [List.flatten_cons,List.nodup_append] at hn
  rw [NG (cs:=cs) (by simpa using hi) (by simpa using hj) hn.2.1 h1 h2]
theorem NH {p:List Nat} {n x i:Nat} (hp:Perm p n) (hx:x<n) (hi:i<(aQ p n).length) (h:x∈(aQ p n)[i]):qB p n x=i:=
 NG (y7 hp hx) hi (acW hp) (ND hp hx) h
theorem NI {p:List Nat} {n x:Nat} (hp:Perm p n) (hx:x<n):qB p n (nl p x)=qB p n x:=
 NH hp (hp.lt hx) (y7 hp hx) ((lZ hp (List.getElem_mem _)).fwd (ND hp hx))
theorem NJ {p:List Nat} {n i:Nat} (hp:Perm p n) (hi:i<(aQ p n).length): ∃x,x<n∧qB p n x=i:=by
 have hc:=lZ hp (List.getElem_mem hi)
 have hm:nl (aQ p n)[i] 0∈(aQ p n)[i]:=dK hc.ne
 exact ⟨_,hc.lt _ hm,NH hp (hc.lt _ hm) hi hm⟩
def merge (f:Nat→Nat) (e:Nat×Nat):Nat→Nat:=fun x=>if f x=f e.1 then f e.2 else f x
def pieces (es:List (Nat×Nat)):Nat→Nat:=es.foldl merge id
theorem NK: ∀(es:List (Nat×Nat)) (f:Nat→Nat) (V m:Nat) (S:List Nat),S.Nodup→m+es.length≤S.length→(∀a∈S,∃x,x<V∧f x=a)→
  ∃S':List Nat,S'.Nodup∧m≤S'.length∧ ∀a∈S',∃x,x<V∧(es.foldl merge f) x=a
 |[],f,V,m,S,h1,h2,h3=>⟨S,h1,by simpa using h2,h3⟩
 |e::es,f,V,m,S,h1,h2,h3=>by
  have hl:=List.length_erase (a:=f e.1) (l:=S)
  refine NK es (merge f e) V m (S.erase (f e.1)) (h1.erase _) ?_ fun a ha=>?_
  ·simp only [List.length_cons] at h2
   split at hl<;>omega
  ·obtain ⟨x,hx,hxa⟩:=h3 a (List.mem_of_mem_erase ha)
   refine ⟨x,hx,?_⟩
   have hne:a≠f e.1:=fun h=>by
    subst h
    exact (List.Nodup.not_mem_erase h1) ha
   rw [merge,if_neg (by rw [hxa];exact hne),hxa]
theorem NM: ∀(es:List (Nat×Nat)) (f:Nat→Nat) (x y:Nat),f x=f y→(es.foldl merge f) x=(es.foldl merge f) y
 |[],f,x,y,h=>h
 |e::es,f,x,y,h=>NM es (merge f e) x y (by simp only [merge,h])
theorem NP: ∀(es:List (Nat×Nat)) (f:Nat→Nat) (e:Nat×Nat),e∈es→(es.foldl merge f) e.1=(es.foldl merge f) e.2
 |e'::es,f,e,h=>by
  rcases List.mem_cons.1 h with rfl|h
  ·exact NM es _ _ _ (by
    simp only [merge,if_true]
    split
    ·rfl
    ·rfl)
  ·exact NP es (merge f e') e h
section
variable {b w:List Nat} {n:Nat}
def ends (b w:List Nat) (n:Nat) (c:Bool) (x:Nat):Nat:=if c then (aQ b n).length+qB w n x else qB b n x
def others (b w:List Nat) (n y:Nat):List (Nat×Nat):=((List.range n).filter fun z=>z !=y).map fun z=>(ends b w n false z,ends b w n true z)
def lab (b w:List Nat) (n y:Nat):Nat→Nat:=pieces (others b w n y)
theorem acX {y z:Nat} (hz:z<n) (h:z≠y) (c c':Bool):lab b w n y (ends b w n c z)=lab b w n y (ends b w n c' z):=by
 have key:lab b w n y (ends b w n false z)=lab b w n y (ends b w n true z):=
  NP _ id (ends b w n false z,ends b w n true z) (List.mem_map.2 ⟨z,List.mem_filter.2 ⟨List.mem_range.2 hz,by simpa using h⟩,rfl⟩)
 cases c<;>cases c'<;>first|rfl|exact key|exact key.symm
theorem acY {y:Nat} (hy:y<n):((List.range n).filter fun z=>z !=y).length+1=n:=by
 have h1:((List.range n).filter fun z=>z !=y)=(List.range n).erase y:=(List.Nodup.erase_eq_filter List.nodup_range y).symm
 rw [h1,List.length_erase_of_mem (List.mem_range.2 hy),List.length_range]
 omega
theorem Tree.apart (hd:aX n b w) (ht:Tree n b w) {y:Nat} (hy:y<n):lab b w n y (ends b w n false y)≠lab b w n y (ends b w n true y):=by
 intro he
 obtain ⟨hb,hw,_⟩:=id hd
 have hall: ∀z,z<n→lab b w n y (ends b w n false z)=lab b w n y (ends b w n true z):=fun z hz=>by
  by_cases e:z=y
  ·rw [e];exact he
  ·exact acX hz e _ _
 have hone:=hd.ind (fun z=>lab b w n y (ends b w n false z)=lab b w n y (ends b w n false 0))
  (fun z hz hS=>by
   have e:ends b w n false (nl b z)=ends b w n false z:=by simp only [ends];exact NI hb hz
   rw [e];exact hS)
  (fun z hz hS=>by
   have e:ends b w n true (nl w z)=ends b w n true z:=by simp only [ends,if_true];rw [NI hw hz]
   rw [hall _ (hw.lt hz),e,←hall z hz];exact hS) rfl
 obtain ⟨S,h1,h2,h3⟩:=NK (others b w n y) id (n+1) 2 (List.range (n+1)) List.nodup_range (by
  have:=acY hy
  rw [others,List.length_map,List.length_range]
  omega) (fun a ha=>⟨a,List.mem_range.1 ha,rfl⟩)
 have NQ: ∀v,v<n+1→lab b w n y v=lab b w n y (ends b w n false 0):=fun v hv=>by
  have ht2:=ht.2
  rcases Nat.lt_or_ge v (aQ b n).length with h|h
  ·obtain ⟨x,hx,rfl⟩:=NJ hb h
   exact hone x hx
  ·obtain ⟨x,hx,hxv⟩:=NJ hw (show v-(aQ b n).length<(aQ w n).length by omega)
   have e:v=ends b w n true x:=by simp only [ends,if_true];omega
   rw [e,←hall x hx]
   exact hone x hx
 match S,h1,h2,h3 with
 |[],_,h2,_=>simp at h2
 |[_],_,h2,_=>simp at h2
 |a::a'::_,h1,_,h3=>
  obtain ⟨x,hx,hxa⟩:=h3 a (by simp)
  obtain ⟨x',hx',acZ⟩:=h3 a' (by simp)
  have e1:lab b w n y x=a:=hxa
  have e2:lab b w n y x'=a':=acZ
  have:a=a':=by rw [←e1,←e2,NQ x hx,NQ x' hx']
  simp only [List.nodup_cons,List.mem_cons] at h1
  exact h1.1 (.inl this)
def behind (b w:List Nat) (n:Nat) (c:Bool) (x:Nat):List Nat:=(List.range n).filter fun z=>z !=x&&lab b w n x (ends b w n false z)==lab b w n x (ends b w n c x)
def it (p:List Nat) (x:Nat):Nat→Nat
 |0=>nl p x
 |i+1=>nl p (it p x i)
end
def bs (l:List UInt8):ByteArray:=⟨l.toArray⟩
end Go.Bm
namespace Go.Bm
open Go Go.Am
def dep (s:List UInt8):Int:=(s.countP fun c=>c.toNat==40:Nat)-(s.countP fun c=>c.toNat==41:Nat)
def NR (s:List UInt8):Prop:=(2≤s.length∧s.length≤32)∧(∀c∈s,c.toNat=40∨c.toNat=41)∧(∀i,i≤s.length→0≤dep (s.take i))∧dep s=0
instance (s:List UInt8):Decidable (NR s):=by unfold NR;infer_instance
def ch:List Nat→List Nat→List Nat
 |p,x::y::r=>ch (p.set x y) (y::r)
 |p,_=>p
def oH (p e:List Nat):List Nat:=if e=[] then p else (ch p e).set (e.getLastD 0) (e.headD 0)
theorem NS: ∀{e p:List Nat} {y:Nat},e≠[]→ch p (e++[y])=(ch p e).set (e.getLastD 0) y
 |[x],p,y,_=>rfl
 |x::z::r,p,y,_=>by
  have:=NS (e:=z::r) (p:=p.set x z) (y:=y) (by simp)
  simpa [ch,List.getLastD] using this
theorem Gt: ∀{e p:List Nat},(ch p e).length=p.length
 |[],p=>rfl
 |[x],p=>rfl
 |x::z::r,p=>by
  have:=Gt (e:=z::r) (p:=p.set x z)
  simpa [ch] using this
theorem head_mem {e:List Nat} (h:e≠[]):e.headD 0∈e:=by
 cases e with
 |nil=>exact absurd rfl h
 |cons a l=>simp
def lvl (c:Nat):List (List Nat)→List (List Nat)
 |[]=>[]
 |e::r=>if r.length%2=c then e::lvl c r else lvl c r
theorem Gu {c:Nat} {e:List Nat}: ∀{r:List (List Nat)},e∈lvl c r→e∈r
 |[],h=>h
 |a::r,h=>by
  rw [lvl] at h
  split at h
  ·rcases List.mem_cons.1 h with h|h
   ·simp [h]
   ·exact List.mem_cons_of_mem _ (Gu h)
  ·exact List.mem_cons_of_mem _ (Gu h)
structure MS where
 ways:List (List Nat)
 next:Nat
 b:List Nat
 w:List Nat
def ms0:MS:=⟨[[]],0,List.replicate 16 0,List.replicate 16 0⟩
structure y8 (m:Nat) (s:MS):Prop where
 ne:(s.next=0∧s.ways=[[]])∨(0<s.next∧s.ways≠[]∧ ∀e∈s.ways,e≠[])
 lt: ∀e∈s.ways,∀x∈e,x<s.next
 fM: ∀c,(lvl c s.ways).flatten.Nodup
 bb:By 16 s.b
 bw:By 16 s.w
theorem By.ch {e:List Nat}: ∀{p:List Nat},By 16 p→(∀x∈e,x<256)→By 16 (ch p e):=by
 induction e with
 |nil=>intro p h _;exact h
 |cons x e ih=>
  intro p h hl
  cases e with
  |nil=>exact h
  |cons y r=>exact ih (h.set (hl y (by simp))) fun z hz=>hl z (List.mem_cons_of_mem _ hz)
theorem By.oH {p e:List Nat} (h:By 16 p) (hl: ∀x∈e,x<256):By 16 (oH p e):=by
 unfold Bm.oH
 split
 ·exact h
 ·rename_i hn
  exact (h.ch hl).set (hl _ (head_mem hn))
theorem y8.z:y8 0 ms0:=⟨.inl ⟨rfl,rfl⟩,by simp [ms0],fun c=>by
 have:(lvl c ms0.ways).flatten=[]:=by
  simp only [ms0,lvl]
  split<;>rfl
 rw [this];simp,By.rep,By.rep⟩
theorem NT {c n:Nat} {r:List (List Nat)} (h: ∀e∈r,∀x∈e,x<n): ∀x∈(lvl c r).flatten,x<n:=by
 intro x hx
 obtain ⟨e,he,hxe⟩:=List.mem_flatten.1 hx
 exact h e (Gu he) x hxe
theorem ac0 {l t:List Nat} {n:Nat} (h:(l++t).Nodup) (hn:n∉l++t):((l++[n])++t).Nodup:=by
 have:((l++[n])++t).Perm (n::(l++t)):=by
  rw [List.append_assoc,List.singleton_append]
  exact List.perm_middle
 exact this.nodup_iff.2 (List.nodup_cons.2 ⟨hn,h⟩)
theorem y8.open {s:MS} {e:List Nat} {r:List (List Nat)} (h:y8 0 s) (hw:s.ways=e::r):y8 0 ⟨[s.next]::(e++[s.next])::r,s.next+1,s.b,s.w⟩:=by
 have hlt:=h.lt
 have NU:=h.fM
 rw [hw] at hlt NU
 refine ⟨.inr ⟨by simp,by simp,fun a ha=>?_⟩,fun a ha x hx=>?_,fun c=>?_,h.bb,h.bw⟩
 ·simp only [List.mem_cons] at ha
  rcases ha with rfl|rfl|ha
  ·simp
  ·simp
  ·have:=h.ne
   rw [hw] at this
   rcases this with ⟨_,q⟩|⟨_,_,q⟩
   ·cases q;cases ha
   ·exact q a (by simp [ha])
 ·show x<s.next+1
  simp only [List.mem_cons] at ha
  rcases ha with rfl|rfl|ha
  ·simp at hx;omega
  ·rcases List.mem_append.1 hx with hx|hx
   ·have:=hlt e (by simp) x hx;omega
   ·simp at hx;omega
  ·have:=hlt a (by simp [ha]) x hx;omega
 ·have hf:=NT (c:=c) hlt
  have hfr:=fun x hx=>NT (c:=c) (r:=r) (n:=s.next) (fun e he=>hlt e (by simp [he])) x hx
  have h1:=NU c
  simp only [lvl] at h1 hf⊢
  by_cases hc:r.length%2=c
  ·rw [if_pos hc] at h1 hf
   rw [if_pos hc,List.length_cons,if_neg (by omega)]
   rw [List.flatten_cons] at h1 hf⊢
   exact ac0 h1 fun q=>absurd (hf _ q) (by omega)
  ·rw [if_neg hc] at h1
   rw [if_neg hc]
   split
   ·rw [List.flatten_cons,List.singleton_append,List.nodup_cons]
    exact ⟨fun q=>absurd (hfr _ q) (by omega),h1⟩
   ·exact h1
def laT (e:List Nat) (r:List (List Nat)):Int:=if r=[] then (if e=[] then-1 else (e.getLastD 0:Nat)) else if e.length≤1 then-1 else (e.getLastD 0:Nat)
def la:List (List Nat)→List Int
 |[]=>[]
 |e::r=>la r++[laT e r]
end Go.Bm
namespace Go.Bm
open Go Go.Am
def nM (p e:List Nat) (k:Nat):List Nat:=if k<e.length then ch p (e.take (k+1)) else oH p e
theorem ac1 {p e:List Nat}:nM p e 0=p:=by
 cases e with
 |nil=>rfl
 |cons a l=>rfl
theorem ac2 {p e:List Nat} {k:Nat}:(nM p e k).length=p.length:=by
 unfold nM oH
 split
 ·exact Gt
 ·split
  ·rfl
  ·rw [List.length_set,Gt]
theorem ac3 {e:List Nat} {k:Nat} (h:k<e.length):(e.take (k+1)).getLastD 0=nl e k:=by
 have:e.take (k+1)=e.take k++[e[k]]:=by rw [List.take_add_one,List.getElem?_eq_getElem h,Option.toList_some]
 rw [this,List.getLastD_concat]
 simp [nl,List.getD,h]
theorem ac4 {p e:List Nat} {k:Nat} (h:k<e.length):(nM p e k).set (nl e k) (nl e ((k+1)%e.length))=nM p e (k+1):=by
 have hl:=ac3 h
 rw [nM,if_pos h]
 by_cases h1:k+1<e.length
 ·rw [nM,if_pos h1,Nat.mod_eq_of_lt h1]
  have h2:e.take (k+1+1)=e.take (k+1)++[nl e (k+1)]:=by
   rw [List.take_add_one (i:=k+1),List.getElem?_eq_getElem h1,Option.toList_some]
   simp [nl,List.getD,h1]
  rw [h2,NS (by intro q;have:=congrArg List.length q;rw [List.length_take,List.length_nil] at this;omega),hl]
 ·have hk:k+1=e.length:=by omega
  have hn:e≠[]:=by rintro rfl;simp at h
  rw [nM,if_neg h1,hk,Nat.mod_self,oH,if_neg hn,List.take_of_length_le (Nat.le_refl _)]
  rw [hk,List.take_of_length_le (Nat.le_refl _)] at hl
  rw [hl]
  congr 1
  cases e with
  |nil=>exact absurd rfl hn
  |cons a l=>rfl
theorem NV {p e:List Nat}:nM p e e.length=oH p e:=by rw [nM,if_neg (by omega)]
theorem NW {e:List Nat} (hn:e.Nodup) {j k:Nat} (hj:j<e.length) (hk:k<e.length) (h:nl e j=nl e k):j=k:=by
 simp only [nl,List.getD,List.getElem?_eq_getElem hj,List.getElem?_eq_getElem hk,Option.getD_some] at h
 exact (List.getElem_inj hn).1 h
theorem Gv {e:List Nat} {x:Nat} (h:x∈e): ∃k,k<e.length∧x=nl e k:=by
 obtain ⟨k,hk,rfl⟩:=List.mem_iff_getElem.1 h
 exact ⟨k,hk,by simp [nl,List.getD,hk]⟩
theorem Gw {p e:List Nat} (hn:e.Nodup) (hl: ∀x∈e,x<p.length): ∀k,k≤e.length→(∀j,j<k→nl (nM p e k) (nl e j)=nl e ((j+1)%e.length))∧ ∀x,(∀j,j<k→x≠nl e j)→nl (nM p e k) x=nl p x
 |0,_=>⟨fun j h=>absurd h (by omega),fun x _=>by rw [ac1]⟩
 |k+1,hk=>by
  obtain ⟨h1,h2⟩:=Gw hn hl k (by omega)
  have hlt:nl e k<p.length:=hl _ (dK (by omega))
  rw [←ac4 (by omega)]
  refine ⟨fun j hj=>?_,fun x hx=>?_⟩
  ·rw [jq]
   by_cases e1:j=k
   ·subst e1
    rw [if_pos ⟨rfl,by rw [ac2];exact hlt⟩]
   ·rw [if_neg fun q=>e1 (NW hn (by omega) (by omega) q.1)]
    exact h1 j (by omega)
  ·rw [jq,if_neg fun q=>hx k (by omega) q.1]
   exact h2 x fun j hj=>hx j (by omega)
theorem Gx {p e:List Nat} (hn:e.Nodup) (hl: ∀x∈e,x<p.length) {j:Nat} (hj:j<e.length):nl (oH p e) (nl e j)=nl e ((j+1)%e.length):=by
 rw [←NV]
 exact (Gw hn hl _ (Nat.le_refl _)).1 j hj
theorem y9 {p e:List Nat} (hn:e.Nodup) (hl: ∀x∈e,x<p.length) {x:Nat} (hx:x∉e):nl (oH p e) x=nl p x:=by
 rw [←NV]
 exact (Gw hn hl _ (Nat.le_refl _)).2 x fun j hj q=>hx (by rw [q];exact dK hj)
theorem Perm.aQ {n:Nat} {p e:List Nat} (h:Perm p n) (hl:p.length=16) (hn:e.Nodup) (h16: ∀x∈e,x<n) (hf: ∀x∈e,nl p x=x):Perm (oH p e) n:=by
 have hN:=h.1
 have hb: ∀x∈e,x<p.length:=fun x hx=>by have:=h16 x hx;omega
 have hin: ∀x∈e,nl (oH p e) x∈e:=fun x hx=>by
  obtain ⟨k,hk,rfl⟩:=Gv hx
  rw [Gx hn hb hk]
  exact dK (Nat.mod_lt _ (by omega))
 have hout: ∀x,x<n→x∉e→nl p x∉e:=fun x hx he hq=>he (by
  have:=h.inj hx (h16 _ hq) (hf _ hq).symm
  rw [this];exact hq)
 refine .of (by omega) (fun i h1 h2=>?_) (fun i hi=>?_) fun i j hi hj he=>?_
 ·have:i∉e:=fun q=>absurd (h16 i q) (by omega)
  rw [y9 hn hb this]
  exact h.zero h1 h2
 ·by_cases he:i∈e
  ·exact h16 _ (hin i he)
  ·rw [y9 hn hb he];exact h.lt hi
 ·have hj':j<n:=by omega
  by_cases h1:i∈e
  ·by_cases h2:j∈e
   ·obtain ⟨a,ha,rfl⟩:=Gv h1
    obtain ⟨b,hb',rfl⟩:=Gv h2
    rw [Gx hn hb ha,Gx hn hb hb'] at he
    have hm:=NW hn (Nat.mod_lt _ (by omega)) (Nat.mod_lt _ (by omega)) he
    have e1:b=a:=by
     by_cases c1:a+1<e.length
     ·by_cases c2:b+1<e.length
      ·rw [Nat.mod_eq_of_lt c1,Nat.mod_eq_of_lt c2] at hm;omega
      ·have:b+1=e.length:=by omega
       rw [Nat.mod_eq_of_lt c1,this,Nat.mod_self] at hm;omega
     ·have c1':a+1=e.length:=by omega
      by_cases c2:b+1<e.length
      ·rw [Nat.mod_eq_of_lt c2,c1',Nat.mod_self] at hm;omega
      ·omega
    rw [e1] at hj
    omega
   ·have:=hin i h1
    rw [←he,y9 hn hb h2] at this
    exact hout j hj' h2 this
  ·rw [y9 hn hb h1] at he
   by_cases h2:j∈e
   ·have:=hin j h2
    rw [he] at this
    exact hout i hi h1 this
   ·rw [y9 hn hb h2] at he
    have:=h.inj hj' hi he
    omega
end Go.Bm
namespace Go.Bm
open Go Go.Am
section
variable {code:List Nat} {a:Nat} {h:Int}
end
end Go.Bm
namespace Go.Bm
open Go Go.Am
theorem VZ.rO {Z:Nat→Option Blk} {v u:Value} (hp:Am.plain v=true) (h:VZ Z v u):u=v:=by
 cases h with
 |junk=>simp [Am.plain] at hp
 |plain _=>rfl
 |fz _ _ _ _ _ _=>simp [Am.plain] at hp
 |fz0=>simp [Am.plain] at hp
 |fp _ _ _ _ _=>simp [Am.plain] at hp
 |agg _ _=>simp [Am.plain] at hp
 | @tuple cs ds hl _=>
  have:cs=[]:=by simpa [Am.plain] using hp
  subst this
  have:ds=[]:=List.eq_nil_of_length_eq_zero hl.symm
  rw [this]
 |func _ _=>simp [Am.plain] at hp
theorem VR.rO {ρ:Nat→Option Nat} {Z:Nat→Option Blk} {v u:Value} (hp:Am.plain v=true) (h:VR ρ Z v u):u=v:=(NN.plain hp _ _ _ h).rO hp
theorem VL.Gy {ρ ρ':Nat→Option Nat} {Z Z':Nat→Option Blk} {cs ds:List Value} (hp:cs.all Am.plain=true) (h:VL ρ Z cs ds):VL ρ' Z' cs ds:=by
 refine ⟨h.1,fun i c d h1 h2=>?_⟩
 have hc:=List.all_eq_true.1 hp c (List.mem_of_getElem? h1)
 rw [(h.2 i c d h1 h2).rO hc]
 exact .z (.plain hc)
def hdr:Nat→List (List Value)→List Value
 | _,[]=>[]
 |k,r::rs=> .slice (some ⟨k,0,none⟩) r.length 1::hdr (k+1) rs
theorem Gz: ∀{k:Nat} {rows:List (List Value)},(hdr k rows).length=rows.length
 | _,[]=>rfl
 |k,r::rs=>by simp [hdr,Gz (k:=k+1) (rows:=rs)]
theorem C9: ∀{k:Nat} {rows:List (List Value)} {j:Nat} {r:List Value},rows[j]? =some r→(hdr k rows)[j]? =some (.slice (some ⟨k+j,0,none⟩) r.length 1)
 | _,[],j,r,h=>by simp at h
 |k,r0::rs,0,r,h=>by
  simp at h
  subst h
  rfl
 |k,r0::rs,j+1,r,h=>by
  have:=C9 (k:=k+1) (rows:=rs) (j:=j) (r:=r) (by simpa using h)
  rw [hdr,List.getElem?_cons_succ,this]
  congr 4
  omega
def tu (r:List Value):Value:=Fz r.length 1 r
inductive kW (H:BH):List Value→List Value→Prop where
 |nil:kW H [] []
 |nn {a:Value} {as as':List Value}:NN a→kW H as as'→kW H (a::as) (a::as')
 |own {i l e:Nat} {cs as as':List Value}:blk H i=some cs→l*e=cs.length→cs.all Am.plain=true→kW H as as'→kW H (.slice (some ⟨i,0,none⟩) l e::as) (Fz l e cs::as')
 |GH {i k:Nat} {rows:List (List Value)} {as as':List Value}:blk H i=some (hdr k rows)→(∀(j:Nat) (r:List Value),rows[j]? =some r→blk H (k+j)=some r∧r.all Am.plain=true)→kW H as as'→kW H (.slice (some ⟨i,0,none⟩) rows.length 1::as) (Fz rows.length 1 (rows.map tu)::as')
open Classical in
noncomputable def Zo (ρ:Nat→Option Nat) (Z:Nat→Option Blk) (H:BH) (HA:AHeap) (b:Nat):Option Blk:=
 match Z b with
 |some bk=>some bk
 |none=>if∃i cs,blk H i=some cs∧ρ i=some b then HA.get b else none
theorem kW.vl {ρ:Nat→Option Nat} {Z:Nat→Option Blk} {H:BH} {HA:AHeap} (hR:Rel ρ Z H HA) {as as':List Value} (h:kW H as as'): ∀{us:List Value},VL ρ Z as us→VL (fun _=>none) (Zo ρ Z H HA) as' us:=by
 have hzx: ∀b bk,Z b=some bk→Zo ρ Z H HA b=some bk:=fun b bk hb=>by simp only [Zo,hb]
 induction h with
 |nil=>intro us h1;rw [h1.jo];exact VL.nil
 |nn hn _ ih=>
  intro us h1
  obtain ⟨u,us,rfl,h2,h3⟩:=h1.iV
  exact VL.cons (.z ((hn _ _ _ h2).mono hzx)) (ih h3)
 | @own i l e cs as as' hb hl hp _ ih=>
  intro us h1
  obtain ⟨u,us,rfl,h2,h3⟩:=h1.iV
  refine VL.cons ?_ (ih h3)
  obtain ⟨b,hρ,rfl⟩:=h2.slice_inv
  obtain ⟨b',bk,k1,k2,k3,k4,k5⟩:=hR.bH i cs hb
  rw [hρ] at k1;cases k1
  have hz:Zo ρ Z H HA b=some bk:=by
   simp only [Zo,hR.eF i cs b hb hρ]
   rw [if_pos ⟨i,cs,hb,hρ⟩,k3]
  have k6:VL (fun _=>none) (Zo ρ Z H HA) cs bk.cells:=k5.Gy hp
  refine .z (.fz (bk:=bk) (ds:=bk.cells) hz hl.symm k5.1 (by rw [hl,k5.1];omega) (by rw [hl,k5.1,List.drop_zero,List.take_length]) fun q c d h1 h2=>?_)
  have hc:=List.all_eq_true.1 hp c (List.mem_of_getElem? h1)
  rw [(k5.2 q c d h1 h2).rO hc]
  exact .plain hc
 | @GH i k rows as as' hb hr _ ih=>
  intro us h1
  obtain ⟨u,us,rfl,h2,h3⟩:=h1.iV
  refine VL.cons ?_ (ih h3)
  obtain ⟨b,hρ,rfl⟩:=h2.slice_inv
  obtain ⟨b',bk,k1,k2,k3,k4,k5⟩:=hR.bH i _ hb
  rw [hρ] at k1;cases k1
  have hz:Zo ρ Z H HA b=some bk:=by
   simp only [Zo,hR.eF i _ b hb hρ]
   rw [if_pos ⟨i,_,hb,hρ⟩,k3]
  have hln:bk.cells.length=rows.length:=by rw [←k5.1,Gz]
  refine .z (.fz (bk:=bk) (ds:=bk.cells) hz (by simp) (by rw [List.length_map,hln]) (by omega) (by rw [Nat.mul_one,←hln,List.drop_zero,List.take_length]) fun q c d e1 e2=>?_)
  rw [List.getElem?_map] at e1
  obtain ⟨r,e3,rfl⟩:=Option.map_eq_some_iff.1 e1
  obtain ⟨e4,e5⟩:=hr q r e3
  obtain ⟨bq,hbq,rfl⟩:=(k5.2 q _ d (C9 e3) e2).slice_inv
  obtain ⟨b2,bk2,m1,m2,m3,m4,m5⟩:=hR.bH (k+q) r e4
  rw [hbq] at m1;cases m1
  have hz2:Zo ρ Z H HA bq=some bk2:=by
   simp only [Zo,hR.eF _ _ bq e4 hbq]
   rw [if_pos ⟨_,_,e4,hbq⟩,m3]
  refine .fz (bk:=bk2) (ds:=bk2.cells) hz2 (by simp) m5.1 (by rw [Nat.zero_add,Nat.mul_one,m5.1];omega) (by rw [Nat.mul_one,m5.1,List.drop_zero,List.take_length]) fun q' c' d' h1' h2'=>?_
  have hc:=List.all_eq_true.1 e5 c' (List.mem_of_getElem? h1')
  rw [(m5.2 q' c' d' h1' h2').rO hc]
  exact .plain hc
theorem agC {x:Bool} {g:Nat} {args args':List Value} {H:BH} {K:Value→BH→Prop} (ha:kW H args args')
  (h:aF false g args' [] fun v H1=>(∃j l e cs k n,v= .tuple ⟨[.slice (some ⟨j,0,none⟩) l e, .int k n]⟩∧blk H1 j=some cs∧cs.all Am.plain=true∧K (.tuple ⟨[.slice (some ⟨H.length,0,none⟩) l e, .int k n]⟩) (H++[some cs]))∨
   (∃vs,v= .tuple ⟨vs⟩∧vs.all Am.plain=true∧K v H)):aF x g args H K:=by
 intro ρ Z as HA h1 h2
 have hzx: ∀b bk,Z b=some bk→Zo ρ Z H HA b=some bk:=fun b bk hb=>by simp only [Zo,hb]
 have hR0:Rel (fun _=>none) (Zo ρ Z H HA) [] HA:=by
  refine ⟨fun i cs h=>by simp [blk] at h,fun i j cs cs' b h=>by simp [blk] at h,fun i cs b h=>by simp [blk] at h,fun b bk hb=>?_,fun _ _=>rfl⟩
  cases hz:Z b with
  |some zf=>
   rw [hzx b zf hz] at hb;cases hb
   exact h2.fH b bk hz
  |none=>
   simp only [Zo,hz] at hb
   split at hb
   ·rename_i hex
    obtain ⟨i,cs,e1,e2⟩:=hex
    exact ⟨h2.lt e1 e2,hb⟩
   ·cases hb
 obtain ⟨v',HA',h3,_,bG,Z1,v,H1,h4,h5,_,_,h6,h8⟩:=h _ _ as HA (ha.vl h2 h1) hR0
 have hkeep: ∀b,b<HA.n→HA'.get b=HA.get b:=fun b hb=>h6.keep b hb fun i cs h=>by simp [blk] at h
 obtain ⟨Zf,oI⟩: ∃Zf:Nat→Option Blk,Zf=fun b=>if b<HA.n then Z b else Z1 b:=⟨_,rfl⟩
 have tC: ∀b bk,Z b=some bk→Zf b=some bk:=fun b bk hb=>by
  have:=(h2.fH b bk hb).1
  rw [oI]
  simp only
  rw [if_pos this]
  exact hb
 have hfro: ∀b bk,Zf b=some bk→b<HA'.n∧HA'.get b=some bk:=fun b bk hb=>by
  rw [oI] at hb
  simp only at hb
  split at hb
  ·rename_i hlt
   have:=(h2.fH b bk hb).2
   exact ⟨Nat.lt_of_lt_of_le hlt h6.n,by rw [hkeep b hlt];exact this⟩
  ·exact h5.fH b bk hb
 have hzn: ∀b bk,Zf b=some bk→Z b=some bk∨HA.n≤b:=fun b bk hb=>by
  rw [oI] at hb
  simp only at hb
  split at hb
  ·exact .inl hb
  ·exact .inr (by omega)
 rcases h8 with ⟨j,l,e,cs,k,n,rfl,hj,hp,hK⟩|⟨vs,rfl,hp,hK⟩
 ·obtain ⟨b0,bk1,hb0,e2,e3,e4,e5⟩:=h5.bH j cs hj
  have hge:HA.n≤b0:=by
   rcases h6.own j cs b0 hj hb0 with h9|⟨i,cs',h9,_⟩
   ·exact h9
   ·simp [blk] at h9
  have hold: ∀i cs',blk (H++[some cs]) i=some cs'→(i=H.length∧cs'=cs)∨(i<H.length∧blk H i=some cs'):=fun i cs' hc=>by
   rcases Nat.lt_trichotomy i H.length with hi|hi|hi
   ·right
    refine ⟨hi,?_⟩
    unfold blk at hc⊢
    rwa [List.getElem?_append_left hi] at hc
   ·left
    subst hi
    unfold blk at hc
    rw [List.getElem?_append_right (Nat.le_refl _)] at hc
    simp at hc
    exact ⟨rfl,hc.symm⟩
   ·unfold blk at hc
    rw [List.getElem?_eq_none (by simp;omega)] at hc
    cases hc
  have hρ: ∀i,i<H.length→put ρ H.length b0 i=ρ i:=fun i hi=>by simp only [put];rw [if_neg (by omega)]
  have iY:put ρ H.length b0 H.length=some b0:=by simp [put]
  have hv:VR (put ρ H.length b0) Zf (.tuple ⟨[.slice (some ⟨H.length,0,none⟩) l e, .int k n]⟩) v':=by
   obtain ⟨ds,rfl,hl⟩:=h4.tuple_inv
   obtain ⟨ds⟩:=ds
   obtain ⟨d1,r1,rfl,w1,hl⟩:=hl.iV
   obtain ⟨d2,r2,rfl,w2,hl⟩:=hl.iV
   obtain rfl:=hl.jo
   obtain ⟨b,hb,rfl⟩:=w1.slice_inv
   obtain rfl:=w2.int
   rw [hb0] at hb;cases hb
   exact .tuple rfl (VL.cons (.slice iY) (VL.cons (.z (.plain rfl)) VL.nil)).2
  refine ⟨_,HA',h3,fun _=>⟨h6.n,hkeep⟩,put ρ H.length b0,Zf,_,H++[some cs],hv,⟨fun i cs' hc=>?_,fun i i' cs1 cs2 b hc hc' hb hb'=>?_,fun i cs' b hc hb=>?_,hfro,fun i hi=>?_⟩,by simp,hρ,⟨h6.n,fun b hb _=>hkeep b hb,fun i cs' b hc hb=>?_,tC,fun b bk hb=>(hzn b bk hb).imp_right .inl⟩,hK⟩
  ·rcases hold i cs' hc with ⟨rfl,rfl⟩|⟨hi,hc⟩
   ·exact ⟨b0,bk1,iY,e2,e3,e4,e5.Gy hp⟩
   ·obtain ⟨b,bk,k1,k2,k3,k4,k5⟩:=h2.bH i cs' hc
    refine ⟨b,bk,by rw [hρ i hi];exact k1,Nat.lt_of_lt_of_le k2 h6.n,by rw [hkeep b k2];exact k3,k4,k5.mono (fun q d hq=>?_) tC⟩
    rcases Nat.lt_or_ge q H.length with bD|bD
    ·rw [hρ q bD];exact hq
    ·rw [h2.top q bD] at hq;cases hq
  ·rcases hold i cs1 hc with ⟨rfl,rfl⟩|⟨hi,hc⟩<;>rcases hold i' cs2 hc' with ⟨rfl,_⟩|⟨hi',hc'⟩
   ·rfl
   ·rw [iY] at hb;cases hb
    rw [hρ i' hi'] at hb'
    have:=h2.lt hc' hb'
    omega
   ·rw [iY] at hb';cases hb'
    rw [hρ i hi] at hb
    have:=h2.lt hc hb
    omega
   ·rw [hρ i hi] at hb;rw [hρ i' hi'] at hb'
    exact h2.inj i i' cs1 cs2 b hc hc' hb hb'
  ·rcases hold i cs' hc with ⟨rfl,rfl⟩|⟨hi,hc⟩
   ·rw [iY] at hb;cases hb
    rw [oI]
    simp only
    rw [if_neg (by omega)]
    exact h5.eF j _ b0 hj hb0
   ·rw [hρ i hi] at hb
    rw [oI]
    simp only
    rw [if_pos (h2.lt hc hb)]
    exact h2.eF i cs' b hc hb
  ·simp only [List.length_append,List.length_singleton] at hi
   simp only [put]
   rw [if_neg (by omega)]
   exact h2.top i (by omega)
  ·rcases hold i cs' hc with ⟨rfl,rfl⟩|⟨hi,hc⟩
   ·rw [iY] at hb;cases hb
    exact .inl hge
   ·rw [hρ i hi] at hb
    exact .inr ⟨i,cs',hc,hb⟩
 ·have hv:VR ρ Zf (.tuple ⟨vs⟩) v':=by
   obtain ⟨ds,rfl,hl⟩:=h4.tuple_inv
   obtain ⟨ds⟩:=ds
   have:=hl.Gy (ρ':=ρ) (Z':=Zf) hp
   exact .tuple this.1 this.2
  refine ⟨_,HA',h3,fun _=>⟨h6.n,hkeep⟩,ρ,Zf,_,H,hv,⟨fun i cs hc=>?_,h2.inj,fun i cs b hc hb=>?_,hfro,h2.top⟩,Nat.le_refl _,fun _ _=>rfl,⟨h6.n,fun b hb _=>hkeep b hb,fun i cs b hc hb=> .inr ⟨i,cs,hc,hb⟩,tC,fun b bk hb=>(hzn b bk hb).imp_right .inl⟩,hK⟩
  ·obtain ⟨b,bk,k1,k2,k3,k4,k5⟩:=h2.bH i cs hc
   exact ⟨b,bk,k1,Nat.lt_of_lt_of_le k2 h6.n,by rw [hkeep b k2];exact k3,k4,k5.mono (fun _ _ h=>h) tC⟩
  ·rw [oI]
   simp only
   rw [if_pos (h2.lt hc hb)]
   exact h2.eF i cs b hc hb
end Go.Bm
namespace Go.Bm
open Go Go.Am
theorem FV {g:Nat} {args:List Value} {H:BH} {K:Value→BH→Prop} {i:Nat} {cs0:List Value} (hc0:blk H i=some cs0) (hn0:aJ cs0)
  (h:aF false g (args.map (ren [i])) [some cs0] fun v H1=> ∃j l e cs,v= .slice (some ⟨j,0,none⟩) l e∧j≠0∧blk H1 j=some cs∧aJ cs∧K (.slice (some ⟨H.length,0,none⟩) l e) ((H.set i none)++[some cs])):aF false g args H K:=by
 intro ρ Z as HA h1 h2
 have hi:=oC hc0
 obtain ⟨b0,Gg,r1,r2,r3,r4,r5⟩:=h2.bH i cs0 hc0
 obtain ⟨lJ,yT⟩: ∃lJ:Nat→Option Nat,lJ=fun j=>if j=0 then some b0 else none:=⟨_,rfl⟩
 have oZ:lJ 0=some b0:=by rw [yT];rfl
 have hR0:Rel lJ Z [some cs0] HA:=by
  refine ⟨fun j cs hj=>?_,fun j j' c1 c2 b e1 e2 _ _=>?_,fun j cs b e1 e2=>?_,h2.fH,fun j hj=>?_⟩
  ·cases j with
   |zero=>
    simp [blk] at hj;subst hj
    exact ⟨b0,Gg,oZ,r2,r3,r4,(hn0.vz r5).vl⟩
   |succ j=>simp [blk] at hj
  ·cases j with
   |zero=>cases j' with
    |zero=>rfl
    |succ j'=>simp [blk] at e2
   |succ j=>simp [blk] at e1
  ·cases j with
   |zero=>
    rw [oZ] at e2;cases e2
    exact h2.eF i cs0 b0 hc0 r1
   |succ j=>simp [blk] at e1
  ·rw [yT]
   simp only [List.length_singleton] at hj
   simp only
   rw [if_neg (by omega)]
 have hargs:VL lJ Z (args.map (ren [i])) as:=by
  refine ⟨by simpa using h1.1,fun q c d q1 q2=>?_⟩
  rw [List.getElem?_map] at q1
  obtain ⟨p,hp,rfl⟩:=map_inj q1
  refine vO (fun x y hxy=>?_) (h1.2 q p d hp q2)
  cases y with
  |zero=>
   simp at hxy
   subst hxy
   rw [oZ,r1]
  |succ y=>simp at hxy
 obtain ⟨v',HA',h3,_,bG,Z1,v,H1,h4,h5,_,h7,h6,j,l,e,cs,rfl,hj0,hj,hn,hK⟩:=h lJ Z as HA hargs hR0
 obtain ⟨bn,bk1,hb0,e2,e3,e4,e5⟩:=h5.bH j cs hj
 have qw: ∀q cs' b,blk ([some cs0]:BH) q=some cs'→lJ q=some b→b=b0:=fun q cs' b e1 e2=>by
  cases q with
  |zero=>rw [oZ] at e2;cases e2;rfl
  |succ q=>simp [blk] at e1
 have hge:HA.n≤bn∨bn=b0:=by
  rcases h6.own j cs bn hj hb0 with h9|⟨q,cs',h9,h10⟩
  ·exact .inl h9
  ·exact .inr (qw q cs' bn h9 h10)
 have hkeep: ∀b,b<HA.n→b≠b0→HA'.get b=HA.get b:=fun b hb hne=>h6.keep b hb fun q cs' e1 e2=>hne (qw q cs' b e1 e2)
 have hne: ∀q cs' b,q≠i→blk H q=some cs'→ρ q=some b→b≠b0:=fun q cs' b hq e1 e2 e=>hq (h2.inj q i cs' cs0 b e1 hc0 e2 (by rw [e];exact r1))
 have hold: ∀q cs',blk ((H.set i none)++[some cs]) q=some cs'→(q=H.length∧cs'=cs)∨(q<H.length∧q≠i∧blk H q=some cs'):=fun q cs' hc=>by
  rcases Nat.lt_trichotomy q H.length with hq|hq|hq
  ·right
   have hc':blk (H.set i none) q=some cs':=by
    unfold blk at hc⊢
    rwa [List.getElem?_append_left (by simpa using hq)] at hc
   rw [kM hi] at hc'
   split at hc'
   ·cases hc'
   ·exact ⟨hq,by assumption,hc'⟩
  ·left
   subst hq
   unfold blk at hc
   rw [List.getElem?_append_right (by simp)] at hc
   simp at hc
   exact ⟨rfl,hc.symm⟩
  ·unfold blk at hc
   rw [List.getElem?_eq_none (by simp;omega)] at hc
   cases hc
 have hρ: ∀q,q<H.length→put ρ H.length bn q=ρ q:=fun q hq=>by simp only [put];rw [if_neg (by omega)]
 have iY:put ρ H.length bn H.length=some bn:=by simp [put]
 have hv:VR (put ρ H.length bn) Z1 (.slice (some ⟨H.length,0,none⟩) l e) v':=by
  obtain ⟨b,hb,rfl⟩:=h4.slice_inv
  rw [hb0] at hb;cases hb
  exact .slice iY
 refine ⟨v',HA',h3,(fun h=>by cases h),put ρ H.length bn,Z1,_,_,hv,⟨fun q cs' hc=>?_,fun q q' c1 c2 b k1 k2 k3 k4=>?_,fun q cs' b k1 k2=>?_,h5.fH,fun q hq=>?_⟩,by simp,hρ,⟨h6.n,fun b hb hno=>?_,fun q cs' b k1 k2=>?_,h6.zx,fun b bk hb=>?_⟩,hK⟩
 ·rcases hold q cs' hc with ⟨rfl,rfl⟩|⟨hq,hqi,hc⟩
  ·exact ⟨bn,bk1,iY,e2,e3,e4,(hn.vz e5).vl⟩
  ·obtain ⟨b,bk,k1,k2,k3,k4,k5⟩:=h2.bH q cs' hc
   refine ⟨b,bk,by rw [hρ q hq];exact k1,Nat.lt_of_lt_of_le k2 h6.n,by rw [hkeep b k2 (hne q cs' b hqi hc k1)];exact k3,k4,k5.mono (fun p d hp=>?_) h6.zx⟩
   rcases Nat.lt_or_ge p H.length with hpl|hpl
   ·rw [hρ p hpl];exact hp
   ·rw [h2.top p hpl] at hp;cases hp
 ·rcases hold q c1 k1 with ⟨rfl,rfl⟩|⟨hq,hqi,hc⟩<;>rcases hold q' c2 k2 with ⟨rfl,_⟩|⟨hq',Gj,hc'⟩
  ·rfl
  ·rw [iY] at k3;cases k3
   rw [hρ q' hq'] at k4
   rcases hge with h|h
   ·have:=h2.lt hc' k4;omega
   ·exact absurd h (hne q' _ _ Gj hc' k4)
  ·rw [iY] at k4;cases k4
   rw [hρ q hq] at k3
   rcases hge with h|h
   ·have:=h2.lt hc k3;omega
   ·exact absurd h (hne q _ _ hqi hc k3)
  ·rw [hρ q hq] at k3;rw [hρ q' hq'] at k4
   exact h2.inj q q' c1 c2 b hc hc' k3 k4
 ·rcases hold q cs' k1 with ⟨rfl,rfl⟩|⟨hq,hqi,hc⟩
  ·rw [iY] at k2;cases k2
   exact h5.eF j _ bn hj hb0
  ·rw [hρ q hq] at k2
   cases hz:Z1 b with
   |none=>rfl
   |some bk=>
    rcases h6.zn b bk hz with h9|h9|⟨p,cs',h9,h10⟩
    ·rw [h2.eF q cs' b hc k2] at h9;cases h9
    ·have:=h2.lt hc k2;omega
    ·exact absurd (qw p cs' b h9 h10) (hne q _ b hqi hc k2)
 ·simp only [List.length_append,List.length_set,List.length_singleton] at hq
  simp only [put]
  rw [if_neg (by omega)]
  exact h2.top q (by omega)
 ·refine hkeep b hb fun e=>?_
  rw [e] at hno
  exact hno i cs0 hc0 r1
 ·rcases hold q cs' k1 with ⟨rfl,rfl⟩|⟨hq,hqi,hc⟩
  ·rw [iY] at k2;cases k2
   rcases hge with h|h
   ·exact .inl h
   ·rw [h];exact .inr ⟨i,cs0,hc0,r1⟩
  ·rw [hρ q hq] at k2
   exact .inr ⟨q,cs',hc,k2⟩
 ·rcases h6.zn b bk hb with h9|h9|⟨p,cs',h9,h10⟩
  ·exact .inl h9
  ·exact .inr (.inl h9)
  ·rw [qw p cs' b h9 h10]
   exact .inr (.inr ⟨i,cs0,hc0,r1⟩)
end Go.Bm
