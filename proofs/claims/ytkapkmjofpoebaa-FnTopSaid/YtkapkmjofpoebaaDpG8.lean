/- DpDo, DpPl -/
import Derived.Test.YtkapkmjofpoebaaDpG2
import Derived.Test.YtkapkmjofpoebaaDpG3
import Derived.Test.YtkapkmjofpoebaaDpG5
import Derived.Test.YtkapkmjofpoebaaDpG6
import Derived.Test.YtkapkmjofpoebaaDpG7
set_option linter.unusedVariables false
set_option linter.unusedSimpArgs false
namespace Go.Bm
open Go Go.Am
theorem sS.XM {p:List Nat} {n:Nat} {c:List Nat} (h:sS p n c) {S:Nat→Prop} (hf: ∀z,z<n→S z→S (nl p z)) (hb: ∀z,z<n→S (nl p z)→S z) {x:Nat} (hx:x∈c) (hs:S x): ∀y∈c,S y:=by
 obtain ⟨j,hj,rfl⟩:=kZ hx
 have h0:S (nl c 0):=by
  have: ∀d,d≤j→S (nl c (j-d)):=by
   intro d
   induction d with
   |zero=>intro _;exact hs
   |succ d ih=>
    intro hd
    have h1:=ih (by omega)
    have h2:=h.step (j-(d+1)) (by omega)
    rw [show j-(d+1)+1=j-d by omega] at h2
    rw [←h2] at h1
    exact hb _ (h.lt _ (eu (by omega))) h1
  have:=this j (Nat.le_refl _)
  rwa [Nat.sub_self] at this
 intro y hy
 obtain ⟨i,hi,rfl⟩:=kZ hy
 clear hy
 induction i with
 |zero=>exact h0
 |succ i ih=>
  have h1:=ih (by omega)
  rw [←h.step i hi]
  exact hf _ (h.lt _ (eu (by omega))) h1
def cl (p:List Nat) (n x:Nat):Nat:=(((aV p n).find? (·.contains x)).getD []).length
section
variable {p q:List Nat} {n:Nat}
theorem XO {α:Type}: ∀{L:List (List α)} {c c':List α} {x:α},L.flatten.Nodup→c∈L→c'∈L→x∈c→x∈c'→c=c'
 |[],c,c',x,_,h,_,_,_=>by simp at h
 |d::L,c,c',x,hn,h,h',hx,hx'=>by
  rw [List.flatten_cons,List.nodup_append] at hn
  obtain ⟨_,h2,h3⟩:=hn
  rcases List.mem_cons.1 h with e|k<;>rcases List.mem_cons.1 h' with e'|k'
  ·rw [e,e']
  ·subst e
   exact absurd rfl (h3 x hx x (List.mem_flatten.2 ⟨c',k',hx'⟩))
  ·subst e'
   exact absurd rfl (h3 x hx' x (List.mem_flatten.2 ⟨c,k,hx⟩))
  ·exact XO h2 k k' hx hx'
theorem XP (hp:Perm p n):(aV p n).flatten.Nodup:=(pq.all rfl hp (Nat.le_refl n)).gW
theorem Ku (hp:Perm p n) {c:List Nat} (hc:c∈aV p n) {x:Nat} (hx:x∈c):cl p n x=c.length:=by
 unfold cl
 cases hf:(aV p n).find? (·.contains x) with
 |none=>
  have:=List.find?_eq_none.1 hf c hc
  simp [hx] at this
 |some d=>
  have h1:=List.mem_of_find?_eq_some hf
  have h2:=List.find?_some hf
  rw [Option.getD_some,XO (XP hp) h1 hc (by simpa using h2) hx]
theorem ahR {p':List Nat} (hp:Perm p n) (hp':Perm p' n) (hq:Perm q n) (h: ∀y,y<n→nl p' (nl q y)=nl q (nl p y)) {x:Nat} (hx:x<n):cl p' n (nl q x)=cl p n x:=by
 obtain ⟨c,hc,hxc⟩:=rD hp hx
 obtain ⟨c',hc',Kv⟩:=rD hp' (hq.lt hx)
 rw [Ku hp hc hxc,Ku hp' hc' Kv]
 have ic:=kJ hp hc
 have F6:=kJ hp' hc'
 have h1: ∀y∈c,nl q y∈c':=ic.XM (S:=fun y=>nl q y∈c') (fun z hz hs=>by rw [←h z hz];exact F6.fwd hs) (fun z hz hs=>by rw [←h z hz] at hs;exact F6.bwd hp' (hq.lt hz) hs) hxc Kv
 have h2: ∀z∈c',z∈c.map (nl q):=F6.XM (S:=fun z=>z∈c.map (nl q))
  (fun z hz hs=>by
   obtain ⟨y,hy,rfl⟩:=List.mem_map.1 hs
   rw [h y (ic.lt y hy)]
   exact List.mem_map.2 ⟨_,ic.fwd hy,rfl⟩)
  (fun z hz hs=>by
   obtain ⟨y,hy,rfl⟩:=hq.mO hz
   rw [h y hy] at hs
   obtain ⟨u,hu,he⟩:=List.mem_map.1 hs
   have:=hq.inj (ic.lt u hu) (hp.lt hy) he
   subst this
   exact List.mem_map.2 ⟨y,ic.bwd hp hy hu,rfl⟩) Kv (List.mem_map.2 ⟨x,hxc,rfl⟩)
 have ahS:(c.map (nl q)).Nodup:=by
  rw [List.nodup_iff_pairwise_ne,List.pairwise_map]
  have hcn:=ic.gW
  rw [List.nodup_iff_pairwise_ne] at hcn
  exact hcn.imp_of_mem fun ha hb hab he=>hab (hq.inj (ic.lt _ ha) (ic.lt _ hb) he)
 have l1:=List.Nodup.length_le_of_subset ahS (l₂:=c') fun z hz=>by
  obtain ⟨y,hy,rfl⟩:=List.mem_map.1 hz
  exact h1 y hy
 have l2:=List.Nodup.length_le_of_subset F6.gW (l₂:=c.map (nl q)) h2
 rw [List.length_map] at l1 l2
 omega
theorem XQ {l:List Nat} (hn:l.Nodup) (h: ∀x,x∈l↔x<n):l.Perm (List.range n):=
 (List.perm_ext_iff_of_nodup hn List.nodup_range).2 fun x=>by rw [h,List.mem_range]
theorem XR (hp:Perm p n):(aV p n).flatten.Perm (List.range n):=XQ (XP hp) fun x=>by
 rw [List.mem_flatten]
 constructor
 ·rintro ⟨c,hc,hx⟩
  exact (kJ hp hc).lt x hx
 ·intro hx
  obtain ⟨c,hc,hxc⟩:=rD hp hx
  exact ⟨c,hc,hxc⟩
theorem ahT (hq:Perm q n):((List.range n).map (nl q)).Perm (List.range n):=XQ (by
  rw [List.nodup_iff_pairwise_ne,List.pairwise_map]
  have hr:=List.nodup_range (n:=n)
  rw [List.nodup_iff_pairwise_ne] at hr
  exact hr.imp_of_mem fun ha hb hab he=>hab (hq.inj (List.mem_range.1 ha) (List.mem_range.1 hb) he)) fun x=>by
 rw [List.mem_map]
 constructor
 ·rintro ⟨y,hy,rfl⟩
  exact hq.lt (List.mem_range.1 hy)
 ·intro hx
  obtain ⟨y,hy,rfl⟩:=hq.mO hx
  exact ⟨y,List.mem_range.2 hy,rfl⟩
theorem XT (hp:Perm p n):(aV p n).flatten.map (cl p n)=(aV p n).flatMap fun c=>List.replicate c.length c.length:=by
 have key: ∀L:List (List Nat),(∀c∈L,c∈aV p n)→L.flatten.map (cl p n)=L.flatMap fun c=>List.replicate c.length c.length:=by
  intro L
  induction L with
  |nil=>intro _;rfl
  |cons c L ih=>
   intro h
   rw [List.flatten_cons,List.map_append,List.flatMap_cons,ih fun d hd=>h d (by simp [hd])]
   congr 1
   have hc:=h c (by simp)
   rw [List.eq_replicate_iff]
   refine ⟨by rw [List.length_map],fun z hz=>?_⟩
   obtain ⟨x,hx,rfl⟩:=List.mem_map.1 hz
   exact Ku hp hc hx
 exact key _ fun _ h=>h
theorem Kw {k:Nat}: ∀{L:List (List Nat)},(L.flatMap fun c=>List.replicate c.length c.length).count k=k*(L.map List.length).count k
 |[]=>by simp
 |c::L=>by
  rw [List.flatMap_cons,List.count_append,Kw,List.map_cons,List.count_cons,List.count_replicate]
  by_cases h:c.length=k
  ·simp [h,Nat.mul_add];omega
  ·simp [h]
theorem ahU {p':List Nat} (hp:Perm p n) (hp':Perm p' n) (hq:Perm q n) (h: ∀y,y<n→nl p' (nl q y)=nl q (nl p y)):(lens p' n).Perm (lens p n):=by
 have h1:((aV p' n).flatMap fun c=>List.replicate c.length c.length).Perm ((aV p n).flatMap fun c=>List.replicate c.length c.length):=by
  rw [←XT hp,←XT hp']
  refine ((XR hp').map _).trans (List.Perm.trans ?_ ((XR hp).map _).symm)
  refine (((ahT hq).map (cl p' n)).symm).trans ?_
  rw [List.map_map]
  exact List.Perm.of_eq (List.map_congr_left fun x hx=>ahR hp hp' hq h (List.mem_range.1 hx))
 rw [List.perm_iff_count]
 intro k
 rcases Nat.eq_zero_or_pos k with rfl|hk
 ·rw [List.count_eq_zero.2 fun hm=>by have:=Fe hp' 0 hm;omega,List.count_eq_zero.2 fun hm=>by have:=Fe hp 0 hm;omega]
 ·have:=h1.count_eq k
  rw [Kw,Kw] at this
  exact Nat.eq_of_mul_eq_mul_left hk this
theorem ahV {zs zs':List Nat} (h:zs.Perm zs'):sO zs n=sO zs' n:=by
 have e:kP zs zs.length=kP zs' zs'.length:=IV (by rw [Bj,Bj]) fun i hi=>by
  rw [Bj] at hi
  rw [Bl (Nat.le_refl _) hi,Bl (Nat.le_refl _) hi,List.take_length,List.take_length,h.count_eq]
 rw [sO,sO,e]
theorem Ky {p':List Nat} (hp:Perm p n) (hp':Perm p' n) (hq:Perm q n) (h: ∀y,y<n→nl p' (nl q y)=nl q (nl p y)):typ p' n=typ p n:=ahV (ahU hp hp' hq h)
theorem rM (hp:Perm p n) (hq:Perm q n) {y:Nat} (hy:y<n):nl (dJ p q n) (nl q y)=nl q (nl p y):=
 EW (n:=n) (fun i j hi hj he=>hq.inj hi hj he) (fun i hi=>by have:=hq.lt hi;have:=hq.1;omega) (Nat.le_refl _) hy
theorem Kz (hp:Perm p n) (hq:Perm q n):Perm (dJ p q n) n:=by
 have hn:=hq.1
 refine .of (by omega) (fun i h1 h2=>EX (n:=n) (m:=n) (fun i hi=>hq.lt hi) h1 (Nat.le_refl _)) (fun i hi=>?_) (fun i j hi hj=>?_)
 ·obtain ⟨y,hy,rfl⟩:=hq.mO hi
  rw [rM hp hq hy]
  exact hq.lt (hp.lt hy)
 ·obtain ⟨y,hy,rfl⟩:=hq.mO hi
  obtain ⟨z,hz,rfl⟩:=hq.mO (show j<n by omega)
  rw [rM hp hq hy,rM hp hq hz]
  intro he
  have:=hp.inj hz hy (hq.inj (hp.lt hz) (hp.lt hy) he)
  subst this
  omega
end
section
variable {b w q:List Nat} {n:Nat}
theorem XU (hd:aZ n b w) (hq:Perm q n):vC n b w (dJ b q n) (dJ w q n) (nl q):=
 ⟨fun y hy=>hq.lt hy,fun y z hy hz he=>hq.inj hy hz he,fun y hy=>rM hd.1 hq hy,fun y hy=>rM hd.2.1 hq hy⟩
theorem EM (hd:aZ n b w) (hq:Perm q n):aZ n (dJ b q n) (dJ w q n):=by
 have hn:=hq.1
 have h1:=Kz hd.1 hq
 have h2:=Kz hd.2.1 hq
 refine ⟨h1,h2,?_⟩
 obtain ⟨x,hx,h0⟩:=hq.mO (y:=0) (by omega)
 have h3:=(XU hd hq).ord (by omega) hd.1 hd.2.1 hx
 rw [h0] at h3
 have h4:=rE hd hx
 have h5:(ord (dJ b q n) (dJ w q n) 0).length=n:=by rw [h3,List.length_map,h4]
 show ((Bm.reach (dJ b q n) (dJ w q n)).2.length:Int)=n
 have e:(Bm.reach (dJ b q n) (dJ w q n)).2.length=n:=h5
 omega
theorem ae3 (hd:aZ n b w) (hq:Perm q n):jX (dJ b q n) (dJ w q n) n=jX b w n:=by
 have hn:=hq.1
 refine ((Vk hd (EM hd hq)).2 ⟨nl q 0,hq.lt (by omega),?_⟩).symm
 exact (XU hd hq).fC hd (EM hd hq) (by omega)
theorem KA (hd:aZ n b w) {y:Nat} (hy:y<n):nl (eH b w n) (nl w (nl b y))=y:=by
 have hn:=hd.1.1
 have ht:=Fa hd.1 hd.2.1
 have h1:nl (bG b w n) y=nl w (nl b y):=by rw [uU (by omega),if_pos hy]
 rw [eH,←h1,nZ ht (Nat.le_refl _) hy]
theorem ae2 (hd:aZ n b w) (hq:Perm q n):pass (dJ b q n) (dJ w q n) n=pass b w n:=by
 have hd':=EM hd hq
 have h1:=Ky hd.1 hd'.1 hq fun y hy=>rM hd.1 hq hy
 have h2:=Ky hd.2.1 hd'.2.1 hq fun y hy=>rM hd.2.1 hq hy
 have h3:=Ky (qX hd.1 hd.2.1) (qX hd'.1 hd'.2.1) hq fun y hy=>by
  obtain ⟨z,hz,rfl⟩:=(Fa hd.1 hd.2.1).mO hy
  have hn:=hd.1.1
  have e1:nl (bG b w n) z=nl w (nl b z):=by rw [uU (by omega),if_pos hz]
  rw [e1,KA hd hz]
  have e2:nl q (nl w (nl b z))=nl (dJ w q n) (nl (dJ b q n) (nl q z)):=by
   rw [rM hd.1 hq hz,rM hd.2.1 hq (hd.1.lt hz)]
  rw [e2,KA hd' (hq.lt hz)]
 rw [pass,pass,h1,h2,h3]
end
end Go.Bm
set_option linter.unusedSectionVars false
namespace Go.Bm
open Go Go.Am
section
variable {n:Nat} {b w p:List Nat}
theorem XV (hb:PN n b) (hp:PN n p):dJ b p n=iG n p b:=by
 have h1:PN n (dJ b p n):=⟨Kz hb.perm hp.perm,o8⟩
 refine h1.ext (wI hp hb) fun i hi=>?_
 obtain ⟨z,hz,rfl⟩:=hp.perm.mO hi
 rw [rM hb.perm hp.perm hz,iG,jJ (hp.inv.mul hb) (hp.perm.lt hz),jJ hp.inv (hp.perm.lt hz),nZ hp.perm (Nat.le_refl _) hz]
theorem ae4 {N M:Nat} (hb:PN n b) (hw:PN n w) (hp:PN n p) (h:lq n b w N) (k:lq n (dJ b p n) (dJ w p n) M):N=M:=by
 rw [XV hb hp,XV hw hp] at k
 exact h.conj hb hw hp k
theorem ahW (hb:PN n b) (hw:PN n w):eH w (eH b w n) n=b:=by
 have hf:PN n (eH b w n):=(hb.mul hw).inv
 have hq:=hw.mul hf
 refine PN.ext (n:=n) hq.inv hb fun i hi=>?_
 obtain ⟨z,hz,rfl⟩:=hq.perm.mO hi
 rw [eH,nZ hq.perm (Nat.le_refl _) hz,jJ hw hz]
 obtain ⟨y,hy,rfl⟩:=hb.perm.mO hz
 have e:nl (eH b w n) (nl w (nl b y))=y:=by
  rw [eH,←jJ hb hy,nZ (hb.mul hw).perm (Nat.le_refl _) hy]
 rw [e]
theorem ae7 (hd:aZ n b w) (hb:PN n b) (hw:PN n w):aZ n w (eH b w n):=by
 refine XW hw.perm (qX hd.1 hd.2.1) fun S h1 h2 h0=>aZ.ind hd S (fun z hz h=>?_) (fun z hz h=>(h1 z hz).1 h) h0
 have hbz:=hd.1.lt hz
 have hwz:=hd.2.1.lt hbz
 have e:=h2 _ hwz
 rw [KA hd hz] at e
 exact (h1 _ hbz).2 (e.2 h)
theorem ae8 (hb:PN n b) (hw:PN n w):pass w (eH b w n) n=[typ w n,typ (eH b w n) n,typ b n]:=by
 rw [pass,ahW hb hw]
theorem afb (hd:aZ n b w) (hb:PN n b) (hw:PN n w) {e:Int} (he:e=((typ b n).length:Int)+((typ w n).length:Int)+((typ (eH b w n) n).length:Int)-n):
  ((aV b n).length:Int)+(aV w n).length+(aV (eH b w n) n).length-n=e∧2-2*(1-e.tdiv 2)=e∧ -16≤e∧e≤48:=by
 have h:=ahl hb hw
 have c1:=vG hd.1
 have c2:=vG hd.2.1
 have c3:=vG (qX hd.1 hd.2.1)
 have hn:=hb.n16
 rw [Bq hd.1,Bq hd.2.1,Bq (qX hd.1 hd.2.1)] at he
 refine ⟨he.symm,?_,by omega,by omega⟩
 obtain ⟨k,hk⟩: ∃k:Int,e=2*k:=⟨e/2,by omega⟩
 rw [hk,Int.mul_tdiv_cancel_left _ (by omega)]
 omega
end
end Go.Bm
