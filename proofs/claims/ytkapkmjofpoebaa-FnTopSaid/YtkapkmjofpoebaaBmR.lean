/- A function that is handed nothing of one's own but one block, and hands back a new block for it. -/
import Derived.Test.YtkapkmjofpoebaaBmP
set_option linter.unusedVariables false
set_option linter.unusedSimpArgs false
namespace Go.Bm
open Go Go.Am
theorem ai1 {g:Nat} {args:List Value} {H:BH} {K:Value→BH→Prop} {i:Nat} {cs0:List Value} (hc0:blk H i=some cs0) (hn0:aW cs0)
  (h:aQ false g (args.map (ren [i])) [some cs0] fun v H1=> ∃j l e cs,v= .slice (some ⟨j,0,none⟩) l e∧j≠0∧blk H1 j=some cs∧aW cs∧K (.slice (some ⟨H.length,0,none⟩) l e) ((H.set i none)++[some cs])):aQ false g args H K:=by
 intro ρ Z as HA h1 h2
 have hi:=Az hc0
 obtain ⟨b0,JL,r1,r2,r3,r4,r5⟩:=h2.fO i cs0 hc0
 obtain ⟨mP,BI⟩: ∃mP:Nat→Option Nat,mP=fun j=>if j=0 then some b0 else none:=⟨_,rfl⟩
 have rJ:mP 0=some b0:=by rw [BI];rfl
 have hR0:Rel mP Z [some cs0] HA:=by
  refine ⟨fun j cs hj=>?_,fun j j' c1 c2 b e1 e2 _ _=>?_,fun j cs b e1 e2=>?_,h2.iQ,fun j hj=>?_⟩
  ·cases j with
   |zero=>
    simp [blk] at hj;subst hj
    exact ⟨b0,JL,rJ,r2,r3,r4,(hn0.vz r5).vl⟩
   |succ j=>simp [blk] at hj
  ·cases j with
   |zero=>cases j' with
    |zero=>rfl
    |succ j'=>simp [blk] at e2
   |succ j=>simp [blk] at e1
  ·cases j with
   |zero=>
    rw [rJ] at e2;cases e2
    exact h2.gU i cs0 b0 hc0 r1
   |succ j=>simp [blk] at e1
  ·rw [BI]
   simp only [List.length_singleton] at hj
   simp only
   rw [if_neg (by omega)]
 have hargs:VL mP Z (args.map (ren [i])) as:=by
  refine ⟨by simpa using h1.1,fun q c d q1 q2=>?_⟩
  rw [List.getElem?_map] at q1
  obtain ⟨p,hp,rfl⟩:=map_inj q1
  refine xO (fun x y hxy=>?_) (h1.2 q p d hp q2)
  cases y with
  |zero=>
   simp at hxy
   subst hxy
   rw [rJ,r1]
  |succ y=>simp at hxy
 obtain ⟨v',HA',h3,_,dM,Z1,v,H1,h4,h5,_,h7,h6,j,l,e,cs,rfl,hj0,hj,hn,hK⟩:=h mP Z as HA hargs hR0
 obtain ⟨bn,bk1,hb0,e2,e3,e4,e5⟩:=h5.fO j cs hj
 have sV: ∀q cs' b,blk ([some cs0]:BH) q=some cs'→mP q=some b→b=b0:=fun q cs' b e1 e2=>by
  cases q with
  |zero=>rw [rJ] at e2;cases e2;rfl
  |succ q=>simp [blk] at e1
 have hge:HA.n≤bn∨bn=b0:=by
  rcases h6.own j cs bn hj hb0 with h9|⟨q,cs',h9,h10⟩
  ·exact .inl h9
  ·exact .inr (sV q cs' bn h9 h10)
 have hkeep: ∀b,b<HA.n→b≠b0→HA'.get b=HA.get b:=fun b hb hne=>h6.keep b hb fun q cs' e1 e2=>hne (sV q cs' b e1 e2)
 have hne: ∀q cs' b,q≠i→blk H q=some cs'→ρ q=some b→b≠b0:=fun q cs' b hq e1 e2 e=>hq (h2.inj q i cs' cs0 b e1 hc0 e2 (by rw [e];exact r1))
 have hold: ∀q cs',blk ((H.set i none)++[some cs]) q=some cs'→(q=H.length∧cs'=cs)∨(q<H.length∧q≠i∧blk H q=some cs'):=fun q cs' hc=>by
  rcases Nat.lt_trichotomy q H.length with hq|hq|hq
  ·right
   have hc':blk (H.set i none) q=some cs':=by
    unfold blk at hc⊢
    rwa [List.getElem?_append_left (by simpa using hq)] at hc
   rw [uP hi] at hc'
   split at hc'
   ·cases hc'
   ·exact ⟨hq,by assumption,hc'⟩
  ·left
   subst hq
   unfold blk at hc
   rw [List.getElem?_append_right (by simp)] at hc
   simp at hc
   exact ⟨rfl,hc.symm⟩
  ·unfold blk at hc
   rw [List.getElem?_eq_none (by simp;omega)] at hc
   cases hc
 have hρ: ∀q,q<H.length→put ρ H.length bn q=ρ q:=fun q hq=>by simp only [put];rw [if_neg (by omega)]
 have jg:put ρ H.length bn H.length=some bn:=by simp [put]
 have hv:VR (put ρ H.length bn) Z1 (.slice (some ⟨H.length,0,none⟩) l e) v':=by
  obtain ⟨b,hb,rfl⟩:=h4.jC
  rw [hb0] at hb;cases hb
  exact .slice jg
 refine ⟨v',HA',h3,(fun h=>by cases h),put ρ H.length bn,Z1,_,_,hv,⟨fun q cs' hc=>?_,fun q q' c1 c2 b k1 k2 k3 k4=>?_,fun q cs' b k1 k2=>?_,h5.iQ,fun q hq=>?_⟩,by simp,hρ,⟨h6.n,fun b hb hno=>?_,fun q cs' b k1 k2=>?_,h6.zx,fun b bk hb=>?_⟩,hK⟩
 ·rcases hold q cs' hc with ⟨rfl,rfl⟩|⟨hq,hqi,hc⟩
  ·exact ⟨bn,bk1,jg,e2,e3,e4,(hn.vz e5).vl⟩
  ·obtain ⟨b,bk,k1,k2,k3,k4,k5⟩:=h2.fO q cs' hc
   refine ⟨b,bk,by rw [hρ q hq];exact k1,Nat.lt_of_lt_of_le k2 h6.n,by rw [hkeep b k2 (hne q cs' b hqi hc k1)];exact k3,k4,k5.mono (fun p d hp=>?_) h6.zx⟩
   rcases Nat.lt_or_ge p H.length with hpl|hpl
   ·rw [hρ p hpl];exact hp
   ·rw [h2.top p hpl] at hp;cases hp
 ·rcases hold q c1 k1 with ⟨rfl,rfl⟩|⟨hq,hqi,hc⟩<;>rcases hold q' c2 k2 with ⟨rfl,_⟩|⟨hq',JM,hc'⟩
  ·rfl
  ·rw [jg] at k3;cases k3
   rw [hρ q' hq'] at k4
   rcases hge with h|h
   ·have:=h2.lt hc' k4;omega
   ·exact absurd h (hne q' _ _ JM hc' k4)
  ·rw [jg] at k4;cases k4
   rw [hρ q hq] at k3
   rcases hge with h|h
   ·have:=h2.lt hc k3;omega
   ·exact absurd h (hne q _ _ hqi hc k3)
  ·rw [hρ q hq] at k3;rw [hρ q' hq'] at k4
   exact h2.inj q q' c1 c2 b hc hc' k3 k4
 ·rcases hold q cs' k1 with ⟨rfl,rfl⟩|⟨hq,hqi,hc⟩
  ·rw [jg] at k2;cases k2
   exact h5.gU j _ bn hj hb0
  ·rw [hρ q hq] at k2
   cases hz:Z1 b with
   |none=>rfl
   |some bk=>
    rcases h6.zn b bk hz with h9|h9|⟨p,cs',h9,h10⟩
    ·rw [h2.gU q cs' b hc k2] at h9;cases h9
    ·have:=h2.lt hc k2;omega
    ·exact absurd (sV p cs' b h9 h10) (hne q _ b hqi hc k2)
 ·simp only [List.length_append,List.length_set,List.length_singleton] at hq
  simp only [put]
  rw [if_neg (by omega)]
  exact h2.top q (by omega)
 ·refine hkeep b hb fun e=>?_
  rw [e] at hno
  exact hno i cs0 hc0 r1
 ·rcases hold q cs' k1 with ⟨rfl,rfl⟩|⟨hq,hqi,hc⟩
  ·rw [jg] at k2;cases k2
   rcases hge with h|h
   ·exact .inl h
   ·rw [h];exact .inr ⟨i,cs0,hc0,r1⟩
  ·rw [hρ q hq] at k2
   exact .inr ⟨q,cs',hc,k2⟩
 ·rcases h6.zn b bk hb with h9|h9|⟨p,cs',h9,h10⟩
  ·exact .inl h9
  ·exact .inr (.inl h9)
  ·rw [sV p cs' b h9 h10]
   exact .inr (.inr ⟨i,cs0,hc0,r1⟩)
end Go.Bm
