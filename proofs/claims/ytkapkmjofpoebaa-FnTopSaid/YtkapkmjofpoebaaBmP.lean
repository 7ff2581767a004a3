/- Calls that are handed slices of one's own which they only read: one keeps them. -/
import Derived.Test.YtkapkmjofpoebaaBmT
set_option linter.unusedVariables false
set_option linter.unusedSimpArgs false
namespace Go.Bm
open Go Go.Am
theorem VZ.FK {Z:Nat→Option bY} {v u:Value} (hp:Am.plain v=true) (h:VZ Z v u):u=v:=by
 cases h with
 |junk=>simp [Am.plain] at hp
 |plain _=>rfl
 |fz _ _ _ _ _ _=>simp [Am.plain] at hp
 |fz0=>simp [Am.plain] at hp
 |fp _ _ _ _ _=>simp [Am.plain] at hp
 |agg _ _=>simp [Am.plain] at hp
 | @tuple cs ds hl _=>
  have:cs=[]:=by simpa [Am.plain] using hp
  subst this
  have:ds=[]:=List.eq_nil_of_length_eq_zero hl.symm
  rw [this]
 |func _ _=>simp [Am.plain] at hp
theorem VR.FK {ρ:Nat→Option Nat} {Z:Nat→Option bY} {v u:Value} (hp:Am.plain v=true) (h:VR ρ Z v u):u=v:=(NN.plain hp _ _ _ h).FK hp
theorem VL.JO {ρ ρ':Nat→Option Nat} {Z Z':Nat→Option bY} {cs ds:List Value} (hp:cs.all Am.plain=true) (h:VL ρ Z cs ds):VL ρ' Z' cs ds:=by
 refine ⟨h.1,fun i c d h1 h2=>?_⟩
 have hc:=List.all_eq_true.1 hp c (List.mem_of_getElem? h1)
 rw [(h.2 i c d h1 h2).FK hc]
 exact .z (.plain hc)
inductive vI (H:BH):List Value→List Value→Prop where
 |nil:vI H [] []
 |nn {a:Value} {as as':List Value}:NN a→vI H as as'→vI H (a::as) (a::as')
 |own {i l e:Nat} {cs as as':List Value}:blk H i=some cs→l*e=cs.length→cs.all Am.plain=true→vI H as as'→vI H (.slice (some ⟨i,0,none⟩) l e::as) (Fz l e cs::as')
open Classical in
noncomputable def Zo (ρ:Nat→Option Nat) (Z:Nat→Option bY) (H:BH) (HA:aA) (b:Nat):Option bY:=
 match Z b with
 |some bk=>some bk
 |none=>if∃i cs,blk H i=some cs∧ρ i=some b then HA.get b else none
theorem vI.vl {ρ:Nat→Option Nat} {Z:Nat→Option bY} {H:BH} {HA:aA} (hR:Rel ρ Z H HA) {as as':List Value} (h:vI H as as'): ∀{us:List Value},VL ρ Z as us→VL (fun _=>none) (Zo ρ Z H HA) as' us:=by
 have hzx: ∀b bk,Z b=some bk→Zo ρ Z H HA b=some bk:=fun b bk hb=>by simp only [Zo,hb]
 induction h with
 |nil=>intro us h1;rw [h1.nH];exact VL.nil
 |nn hn _ ih=>
  intro us h1
  obtain ⟨u,us,rfl,h2,h3⟩:=h1.nJ
  exact VL.cons (.z ((hn _ _ _ h2).mono hzx)) (ih h3)
 | @own i l e cs as as' hb hl hp _ ih=>
  intro us h1
  obtain ⟨u,us,rfl,h2,h3⟩:=h1.nJ
  refine VL.cons ?_ (ih h3)
  obtain ⟨b,hρ,rfl⟩:=h2.jC
  obtain ⟨b',bk,k1,k2,k3,k4,k5⟩:=hR.fO i cs hb
  rw [hρ] at k1;cases k1
  have hz:Zo ρ Z H HA b=some bk:=by
   simp only [Zo,hR.gU i cs b hb hρ]
   rw [if_pos ⟨i,cs,hb,hρ⟩,k3]
  have k6:VL (fun _=>none) (Zo ρ Z H HA) cs bk.cells:=k5.JO hp
  refine .z (.fz (bk:=bk) (ds:=bk.cells) hz hl.symm k5.1 (by rw [hl,k5.1];omega) (by rw [hl,k5.1,List.drop_zero,List.take_length]) fun q c d h1 h2=>?_)
  have hc:=List.all_eq_true.1 hp c (List.mem_of_getElem? h1)
  rw [(k5.2 q c d h1 h2).FK hc]
  exact .plain hc
theorem ai2 {x:Bool} {g:Nat} {args args':List Value} {H:BH} {K:Value→BH→Prop} (ha:vI H args args')
  (h:aQ false g args' [] fun v H1=>(∃j l e cs k n,v= .tuple ⟨[.slice (some ⟨j,0,none⟩) l e, .int k n]⟩∧blk H1 j=some cs∧cs.all Am.plain=true∧K (.tuple ⟨[.slice (some ⟨H.length,0,none⟩) l e, .int k n]⟩) (H++[some cs]))∨
   (∃vs,v= .tuple ⟨vs⟩∧vs.all Am.plain=true∧K v H)):aQ x g args H K:=by
 intro ρ Z as HA h1 h2
 have hzx: ∀b bk,Z b=some bk→Zo ρ Z H HA b=some bk:=fun b bk hb=>by simp only [Zo,hb]
 have hR0:Rel (fun _=>none) (Zo ρ Z H HA) [] HA:=by
  refine ⟨fun i cs h=>by simp [blk] at h,fun i j cs cs' b h=>by simp [blk] at h,fun i cs b h=>by simp [blk] at h,fun b bk hb=>?_,fun _ _=>rfl⟩
  cases hz:Z b with
  |some bk'=>
   rw [hzx b bk' hz] at hb;cases hb
   exact h2.iQ b bk hz
  |none=>
   simp only [Zo,hz] at hb
   split at hb
   ·rename_i hex
    obtain ⟨i,cs,e1,e2⟩:=hex
    exact ⟨h2.lt e1 e2,hb⟩
   ·cases hb
 obtain ⟨v',HA',h3,_,dM,Z1,v,H1,h4,h5,_,_,h6,h8⟩:=h _ _ as HA (ha.vl h2 h1) hR0
 have hkeep: ∀b,b<HA.n→HA'.get b=HA.get b:=fun b hb=>h6.keep b hb fun i cs h=>by simp [blk] at h
 obtain ⟨Zf,yL⟩: ∃Zf:Nat→Option bY,Zf=fun b=>if b<HA.n then Z b else Z1 b:=⟨_,rfl⟩
 have FM: ∀b bk,Z b=some bk→Zf b=some bk:=fun b bk hb=>by
  have:=(h2.iQ b bk hb).1
  rw [yL]
  simp only
  rw [if_pos this]
  exact hb
 have hfro: ∀b bk,Zf b=some bk→b<HA'.n∧HA'.get b=some bk:=fun b bk hb=>by
  rw [yL] at hb
  simp only at hb
  split at hb
  ·rename_i hlt
   have:=(h2.iQ b bk hb).2
   exact ⟨Nat.lt_of_lt_of_le hlt h6.n,by rw [hkeep b hlt];exact this⟩
  ·exact h5.iQ b bk hb
 have hzn: ∀b bk,Zf b=some bk→Z b=some bk∨HA.n≤b:=fun b bk hb=>by
  rw [yL] at hb
  simp only at hb
  split at hb
  ·exact .inl hb
  ·exact .inr (by omega)
 rcases h8 with ⟨j,l,e,cs,k,n,rfl,hj,hp,hK⟩|⟨vs,rfl,hp,hK⟩
 ·obtain ⟨b0,bk1,hb0,e2,e3,e4,e5⟩:=h5.fO j cs hj
  have hge:HA.n≤b0:=by
   rcases h6.own j cs b0 hj hb0 with h9|⟨i,cs',h9,_⟩
   ·exact h9
   ·simp [blk] at h9
  have hold: ∀i cs',blk (H++[some cs]) i=some cs'→(i=H.length∧cs'=cs)∨(i<H.length∧blk H i=some cs'):=fun i cs' hc=>by
   rcases Nat.lt_trichotomy i H.length with hi|hi|hi
   ·right
    refine ⟨hi,?_⟩
    unfold blk at hc⊢
    rwa [List.getElem?_append_left hi] at hc
   ·left
    subst hi
    unfold blk at hc
    rw [List.getElem?_append_right (Nat.le_refl _)] at hc
    simp at hc
    exact ⟨rfl,hc.symm⟩
   ·unfold blk at hc
    rw [List.getElem?_eq_none (by simp;omega)] at hc
    cases hc
  have hρ: ∀i,i<H.length→put ρ H.length b0 i=ρ i:=fun i hi=>by simp only [put];rw [if_neg (by omega)]
  have jg:put ρ H.length b0 H.length=some b0:=by simp [put]
  have hv:VR (put ρ H.length b0) Zf (.tuple ⟨[.slice (some ⟨H.length,0,none⟩) l e, .int k n]⟩) v':=by
   obtain ⟨ds,rfl,hl⟩:=h4.qm
   obtain ⟨ds⟩:=ds
   obtain ⟨d1,r1,rfl,w1,hl⟩:=hl.nJ
   obtain ⟨d2,r2,rfl,w2,hl⟩:=hl.nJ
   obtain rfl:=hl.nH
   obtain ⟨b,hb,rfl⟩:=w1.jC
   obtain rfl:=w2.int
   rw [hb0] at hb;cases hb
   exact .tuple rfl (VL.cons (.slice jg) (VL.cons (.z (.plain rfl)) VL.nil)).2
  refine ⟨_,HA',h3,fun _=>⟨h6.n,hkeep⟩,put ρ H.length b0,Zf,_,H++[some cs],hv,⟨fun i cs' hc=>?_,fun i i' cs1 cs2 b hc hc' hb hb'=>?_,fun i cs' b hc hb=>?_,hfro,fun i hi=>?_⟩,by simp,hρ,⟨h6.n,fun b hb _=>hkeep b hb,fun i cs' b hc hb=>?_,FM,fun b bk hb=>(hzn b bk hb).imp_right .inl⟩,hK⟩
  ·rcases hold i cs' hc with ⟨rfl,rfl⟩|⟨hi,hc⟩
   ·exact ⟨b0,bk1,jg,e2,e3,e4,e5.JO hp⟩
   ·obtain ⟨b,bk,k1,k2,k3,k4,k5⟩:=h2.fO i cs' hc
    refine ⟨b,bk,by rw [hρ i hi];exact k1,Nat.lt_of_lt_of_le k2 h6.n,by rw [hkeep b k2];exact k3,k4,k5.mono (fun q d hq=>?_) FM⟩
    rcases Nat.lt_or_ge q H.length with bW|bW
    ·rw [hρ q bW];exact hq
    ·rw [h2.top q bW] at hq;cases hq
  ·rcases hold i cs1 hc with ⟨rfl,rfl⟩|⟨hi,hc⟩<;>rcases hold i' cs2 hc' with ⟨rfl,_⟩|⟨hi',hc'⟩
   ·rfl
   ·rw [jg] at hb;cases hb
    rw [hρ i' hi'] at hb'
    have:=h2.lt hc' hb'
    omega
   ·rw [jg] at hb';cases hb'
    rw [hρ i hi] at hb
    have:=h2.lt hc hb
    omega
   ·rw [hρ i hi] at hb;rw [hρ i' hi'] at hb'
    exact h2.inj i i' cs1 cs2 b hc hc' hb hb'
  ·rcases hold i cs' hc with ⟨rfl,rfl⟩|⟨hi,hc⟩
   ·rw [jg] at hb;cases hb
    rw [yL]
    simp only
    rw [if_neg (by omega)]
    exact h5.gU j _ b0 hj hb0
   ·rw [hρ i hi] at hb
    rw [yL]
    simp only
    rw [if_pos (h2.lt hc hb)]
    exact h2.gU i cs' b hc hb
  ·simp only [List.length_append,List.length_singleton] at hi
   simp only [put]
   rw [if_neg (by omega)]
   exact h2.top i (by omega)
  ·rcases hold i cs' hc with ⟨rfl,rfl⟩|⟨hi,hc⟩
   ·rw [jg] at hb;cases hb
    exact .inl hge
   ·rw [hρ i hi] at hb
    exact .inr ⟨i,cs',hc,hb⟩
 ·have hv:VR ρ Zf (.tuple ⟨vs⟩) v':=by
   obtain ⟨ds,rfl,hl⟩:=h4.qm
   obtain ⟨ds⟩:=ds
   have:=hl.JO (ρ':=ρ) (Z':=Zf) hp
   exact .tuple this.1 this.2
  refine ⟨_,HA',h3,fun _=>⟨h6.n,hkeep⟩,ρ,Zf,_,H,hv,⟨fun i cs hc=>?_,h2.inj,fun i cs b hc hb=>?_,hfro,h2.top⟩,Nat.le_refl _,fun _ _=>rfl,⟨h6.n,fun b hb _=>hkeep b hb,fun i cs b hc hb=> .inr ⟨i,cs,hc,hb⟩,FM,fun b bk hb=>(hzn b bk hb).imp_right .inl⟩,hK⟩
  ·obtain ⟨b,bk,k1,k2,k3,k4,k5⟩:=h2.fO i cs hc
   exact ⟨b,bk,k1,Nat.lt_of_lt_of_le k2 h6.n,by rw [hkeep b k2];exact k3,k4,k5.mono (fun _ _ h=>h) FM⟩
  ·rw [yL]
   simp only
   rw [if_pos (h2.lt hc hb)]
   exact h2.gU i cs b hc hb
end Go.Bm
