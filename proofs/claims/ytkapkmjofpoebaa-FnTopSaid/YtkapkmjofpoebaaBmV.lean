/- Blocks renamed where other blocks name them; results frozen inside others. -/
import Derived.Test.YtkapkmjofpoebaaBmQ
set_option linter.unusedVariables false
set_option linter.unusedSimpArgs false
namespace Go.Bm
open Go Go.Am
def yP (ns:List Nat) (H:BH):BH:=ns.map fun i=>(blk H i).map (List.map (ren ns))
theorem BM {ns:List Nat} {H:BH} {j:Nat} {cs:List Value} (h:blk (yP ns H) j=some cs): ∃i cs0,ns[j]? =some i∧blk H i=some cs0∧cs=cs0.map (ren ns):=by
 unfold blk yP at h
 rw [List.getElem?_map] at h
 cases h1:ns[j]? with
 |none=>rw [h1] at h;cases h
 |some i=>
  rw [h1] at h
  simp only [Option.map_some,Option.getD_some] at h
  change (blk H i).map _=some cs at h
  cases h2:blk H i with
  |none=>rw [h2] at h;cases h
  |some cs0=>rw [h2] at h;exact ⟨i,cs0,rfl,h2,by simpa using h.symm⟩
theorem Gh.Kq {k:Nat} {f:Fr} {H:BH} (ns:List Nat) (hd:ns.Nodup) (hk: ∀j,j<k→ns[j]? =some j):Gh k f H (fun t=>ren ns (f t)) (yP ns H):=by
 refine ⟨fun _=>?_,fun ρ Z fA HA h1 h2=>?_⟩
 ·rcases Nat.lt_or_ge ns.length k with h|h
  ·have:=hk ns.length h
   simp at this
  ·simpa [yP] using h
 ·have hr: ∀(i j:Nat),ns[j]? =some i→(match ns[j]? with|some i=>ρ i|none=>none)=ρ i:=fun i j h=>by rw [h]
  refine ⟨fun j=>match ns[j]? with|some i=>ρ i|none=>none,Z,fun t=>xO hr (h1 t),⟨fun j cs hc=>?_,fun j j' cs cs' b hc hc' hb hb'=>?_,fun j cs b hc hb=>?_,h2.iQ,fun j hj=>?_⟩,fun j hj=>?_,⟨Nat.le_refl _,fun _ _ _=>rfl,fun j cs b hc hb=>?_,fun _ _ h=>h,fun _ _ h=> .inl h⟩⟩
  ·obtain ⟨i,cs0,hi,hc',rfl⟩:=BM hc
   obtain ⟨b,bk,e1,e2,e3,e4,e5⟩:=h2.fO i cs0 hc'
   refine ⟨b,bk,by rw [hi];exact e1,e2,e3,e4,by simpa using e5.1,fun q c d q1 q2=>?_⟩
   rw [List.getElem?_map] at q1
   obtain ⟨p,hp,rfl⟩:=map_inj q1
   exact xO hr (e5.2 q p d hp q2)
  ·obtain ⟨i,c0,hi,hci,_⟩:=BM hc
   obtain ⟨i',c0',hi',nV,_⟩:=BM hc'
   rw [hi] at hb;rw [hi'] at hb'
   have:=h2.inj i i' c0 c0' b hci nV hb hb'
   subst this
   obtain ⟨e1,e2⟩:=List.getElem?_eq_some_iff.1 hi
   obtain ⟨e3,e4⟩:=List.getElem?_eq_some_iff.1 hi'
   have hp:=List.pairwise_iff_getElem.1 hd
   rcases Nat.lt_trichotomy j j' with hl|hl|hl
   ·exact absurd (e2.trans e4.symm) (hp j j' e1 e3 hl)
   ·exact hl
   ·exact absurd (e4.trans e2.symm) (hp j' j e3 e1 hl)
  ·obtain ⟨i,c0,hi,hci,_⟩:=BM hc
   rw [hi] at hb
   exact h2.gU i c0 b hci hb
  ·have:ns[j]? =none:=List.getElem?_eq_none (by simpa [yP] using hj)
   rw [this]
  ·exact hr j j (hk j hj)
  ·obtain ⟨i,c0,hi,hci,_⟩:=BM hc
   rw [hi] at hb
   exact .inr ⟨i,c0,hci,hb⟩
theorem aC.Kq {k:Nat} {v:Value} {H:BH} (ns:List Nat) (hd:ns.Nodup) (hk: ∀j,j<k→ns[j]? =some j) (hv:NN v):aC k v H v (yP ns H):=
 ⟨(Gh.Kq (f:=fun _=>v) ns hd hk).1,fun ρ Z u HA h1 h2=>by
  obtain ⟨ρ',Z',h3,h4,h5,h6⟩:=(Gh.Kq (f:=fun _=>v) ns hd hk).2 ρ Z (fun _=>u) HA (fun _=>h1) h2
  refine ⟨ρ',Z',?_,h4,h5,h6⟩
  exact (hv ρ Z u h1).mono h6.zx|> .z⟩
theorem ahQ {ρ:Nat→Option Nat} {Z:Nat→Option bY} {HA:aA} {H:BH} {i:Nat} {cs:List Value} (h2:Rel ρ Z H HA) (hc:blk H i=some cs) (hn:aW cs):
  ∃Z',Rel ρ Z' ((nN (iR i cs) H).set i none) HA∧iq ρ Z H HA ρ Z' ((nN (iR i cs) H).set i none) HA∧ ∀v u,VR ρ Z v u→VR ρ Z' (iR i cs v) u:=by
 obtain ⟨Z',h3,h4,h5⟩:=Aw h2 hc hn
 have hi:=Az hc
 have hset: ∀j cs',blk ((nN (iR i cs) H).set i none) j=some cs'→j≠i∧ ∃cs0,blk H j=some cs0∧cs'=cs0.map (iR i cs):=fun j cs' h=>by
  rw [uP (by simpa [nN] using hi)] at h
  split at h
  ·cases h
  ·rename_i hne
   exact ⟨hne,Xb h⟩
 have hold: ∀j cs0,j≠i→blk H j=some cs0→blk (H.set i none) j=some cs0:=fun j cs0 hne h=>by rw [uP hi,if_neg hne];exact h
 refine ⟨Z',⟨fun j cs' h=>?_,fun j j' c1 c2 b e1 e2 e3 e4=>?_,fun j cs' b e1 e2=>?_,h3.iQ,fun j hj=>h2.top j (by simpa [nN] using hj)⟩,⟨h4.n,h4.keep,fun j cs' b e1 e2=>?_,h4.zx,h4.zn⟩,h5⟩
 ·obtain ⟨hne,cs0,g1,rfl⟩:=hset j cs' h
  obtain ⟨b,bk,k1,k2,k3,k4,k5⟩:=h2.fO j cs0 g1
  refine ⟨b,bk,k1,k2,k3,k4,by simpa using k5.1,fun q c d q1 q2=>?_⟩
  rw [List.getElem?_map] at q1
  obtain ⟨p,hp,rfl⟩:=map_inj q1
  exact h5 _ _ (k5.2 q p d hp q2)
 ·obtain ⟨n1,x1,g1,_⟩:=hset j c1 e1
  obtain ⟨n2,x2,g2,_⟩:=hset j' c2 e2
  exact h2.inj j j' x1 x2 b g1 g2 e3 e4
 ·obtain ⟨n1,x1,g1,_⟩:=hset j cs' e1
  exact h3.gU j x1 b (hold j x1 n1 g1) e2
 ·obtain ⟨n1,x1,g1,_⟩:=hset j cs' e1
  exact h4.own j x1 b (hold j x1 n1 g1) e2
theorem aC.fzA {k:Nat} {v:Value} {H:BH} {i:Nat} {cs:List Value} (hc:blk H i=some cs) (hn:aW cs):aC k v H (wz i cs v) ((nN (iR i cs) H).set i none):=
 ⟨fun h=>by simpa [nN] using h,fun ρ Z u HA h1 h2=>by
  obtain ⟨Z',h3,h4,h5⟩:=ahQ h2 hc hn
  refine ⟨ρ,Z',?_,h3,fun _ _=>rfl,h4⟩
  unfold wz
  split
  ·rename_i vs
   obtain ⟨ds,rfl,hl⟩:=h1.qm
   obtain ⟨ds⟩:=ds
   refine .tuple (by simpa using hl.1) fun i c d k1 k2=>?_
   rw [List.getElem?_map] at k1
   obtain ⟨q,hq,rfl⟩:=map_inj k1
   exact h5 _ _ (hl.2 i q d hq k2)
  ·exact h5 _ _ h1⟩
end Go.Bm
