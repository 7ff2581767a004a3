/- A function that is handed one block of one's own, writes it, and hands back a new block too. -/
import Derived.Test.YtkapkmjofpoebaaBmP
set_option linter.unusedVariables false
set_option linter.unusedSimpArgs false
namespace Go.Bm
open Go Go.Am
theorem ai3 {g:Nat} {args:List Value} {H:BH} {K:Value→BH→Prop} {i:Nat} {cs0:List Value} (hc0:blk H i=some cs0) (hn0:aW cs0)
  (h:aQ false g (args.map (ren [i])) [some cs0] fun v H1=> ∃j l e cs,v= .slice (some ⟨j,0,none⟩) l e∧j≠0∧blk H1 j=some cs∧aW cs∧ ∃cu,blk H1 0=some cu∧aW cu∧K (.slice (some ⟨H.length,0,none⟩) l e) ((H.set i (some cu))++[some cs])):aQ false g args H K:=by
 intro ρ Z as HA h1 h2
 have hi:=Az hc0
 obtain ⟨b0,JL,r1,r2,r3,r4,r5⟩:=h2.fO i cs0 hc0
 obtain ⟨mP,BI⟩: ∃mP:Nat→Option Nat,mP=fun j=>if j=0 then some b0 else none:=⟨_,rfl⟩
 have rJ:mP 0=some b0:=by rw [BI];rfl
 have hR0:Rel mP Z [some cs0] HA:=by
  refine ⟨fun j cs hj=>?_,fun j j' c1 c2 b e1 e2 _ _=>?_,fun j cs b e1 e2=>?_,h2.iQ,fun j hj=>?_⟩
  ·cases j with
   |zero=>
    simp [blk] at hj;subst hj
    exact ⟨b0,JL,rJ,r2,r3,r4,(hn0.vz r5).vl⟩
   |succ j=>simp [blk] at hj
  ·cases j with
   |zero=>cases j' with
    |zero=>rfl
    |succ j'=>simp [blk] at e2
   |succ j=>simp [blk] at e1
  ·cases j with
   |zero=>
    rw [rJ] at e2;cases e2
    exact h2.gU i cs0 b0 hc0 r1
   |succ j=>simp [blk] at e1
  ·rw [BI]
   simp only [List.length_singleton] at hj
   simp only
   rw [if_neg (by omega)]
 have hargs:VL mP Z (args.map (ren [i])) as:=by
  refine ⟨by simpa using h1.1,fun q c d q1 q2=>?_⟩
  rw [List.getElem?_map] at q1
  obtain ⟨p,hp,rfl⟩:=map_inj q1
  refine xO (fun x y hxy=>?_) (h1.2 q p d hp q2)
  cases y with
  |zero=>
   simp at hxy
   subst hxy
   rw [rJ,r1]
  |succ y=>simp at hxy
 obtain ⟨v',HA',h3,_,dM,Z1,v,H1,h4,h5,_,h7,h6,j,l,e,cs,rfl,hj0,hj,hn,cu,hu,hnu,hK⟩:=h mP Z as HA hargs hR0
 obtain ⟨bn,bk1,hb0,e2,e3,e4,e5⟩:=h5.fO j cs hj
 have sV: ∀q cs' b,blk ([some cs0]:BH) q=some cs'→mP q=some b→b=b0:=fun q cs' b e1 e2=>by
  cases q with
  |zero=>rw [rJ] at e2;cases e2;rfl
  |succ q=>simp [blk] at e1
 obtain ⟨bu,bku,hbu,u2,u3,u4,u5⟩:=h5.fO 0 cu hu
 obtain rfl:bu=b0:=by
  have:=h7 0 (by simp)
  rw [hbu,rJ] at this
  injection this
 have Kt:bn≠bu:=fun e=>hj0 (h5.inj j 0 cs cu bn hj hu hb0 (by rw [e];exact hbu))
 have hge:HA.n≤bn:=by
  rcases h6.own j cs bn hj hb0 with h9|⟨q,cs',h9,h10⟩
  ·exact h9
  ·exact absurd (sV q cs' bn h9 h10) Kt
 have hkeep: ∀b,b<HA.n→b≠bu→HA'.get b=HA.get b:=fun b hb hne=>h6.keep b hb fun q cs' e1 e2=>hne (sV q cs' b e1 e2)
 have hne: ∀q cs' b,q≠i→blk H q=some cs'→ρ q=some b→b≠bu:=fun q cs' b hq e1 e2 e=>hq (h2.inj q i cs' cs0 b e1 hc0 e2 (by rw [e];exact r1))
 have hold: ∀q cs',blk ((H.set i (some cu))++[some cs]) q=some cs'→(q=H.length∧cs'=cs)∨(q<H.length∧q≠i∧blk H q=some cs')∨(q<H.length∧q=i∧cs'=cu):=fun q cs' hc=>by
  rcases Nat.lt_trichotomy q H.length with hq|hq|hq
  ·right
   have hc':blk (H.set i (some cu)) q=some cs':=by
    unfold blk at hc⊢
    rwa [List.getElem?_append_left (by simpa using hq)] at hc
   rw [uP hi] at hc'
   split at hc'
   ·rename_i e
    injection hc' with hc'
    exact .inr ⟨hq,e,hc'.symm⟩
   ·exact .inl ⟨hq,by assumption,hc'⟩
  ·left
   subst hq
   unfold blk at hc
   rw [List.getElem?_append_right (by simp)] at hc
   simp at hc
   exact ⟨rfl,hc.symm⟩
  ·unfold blk at hc
   rw [List.getElem?_eq_none (by simp;omega)] at hc
   cases hc
 have hρ: ∀q,q<H.length→put ρ H.length bn q=ρ q:=fun q hq=>by simp only [put];rw [if_neg (by omega)]
 have jg:put ρ H.length bn H.length=some bn:=by simp [put]
 have hv:VR (put ρ H.length bn) Z1 (.slice (some ⟨H.length,0,none⟩) l e) v':=by
  obtain ⟨b,hb,rfl⟩:=h4.jC
  rw [hb0] at hb;cases hb
  exact .slice jg
 have hat: ∀q cs' b,blk ((H.set i (some cu))++[some cs]) q=some cs'→put ρ H.length bn q=some b→(q=H.length∧b=bn)∨(q≠i∧q<H.length∧ρ q=some b∧blk H q=some cs')∨(q=i∧b=bu):=fun q cs' b hc hb=>by
  rcases hold q cs' hc with ⟨rfl,rfl⟩|⟨hq,hqi,hc⟩|⟨hq,rfl,rfl⟩
  ·rw [jg] at hb;cases hb
   exact .inl ⟨rfl,rfl⟩
  ·rw [hρ q hq] at hb
   exact .inr (.inl ⟨hqi,hq,hb,hc⟩)
  ·rw [hρ q hq,r1] at hb
   cases hb
   exact .inr (.inr ⟨rfl,rfl⟩)
 refine ⟨v',HA',h3,(fun h=>by cases h),put ρ H.length bn,Z1,_,_,hv,⟨fun q cs' hc=>?_,fun q q' c1 c2 b k1 k2 k3 k4=>?_,fun q cs' b k1 k2=>?_,h5.iQ,fun q hq=>?_⟩,by simp,hρ,⟨h6.n,fun b hb hno=>?_,fun q cs' b k1 k2=>?_,h6.zx,fun b bk hb=>?_⟩,hK⟩
 ·rcases hold q cs' hc with ⟨rfl,rfl⟩|⟨hq,hqi,hc⟩|⟨hq,rfl,rfl⟩
  ·exact ⟨bn,bk1,jg,e2,e3,e4,(hn.vz e5).vl⟩
  ·obtain ⟨b,bk,k1,k2,k3,k4,k5⟩:=h2.fO q cs' hc
   refine ⟨b,bk,by rw [hρ q hq];exact k1,Nat.lt_of_lt_of_le k2 h6.n,by rw [hkeep b k2 (hne q cs' b hqi hc k1)];exact k3,k4,k5.mono (fun p d hp=>?_) h6.zx⟩
   rcases Nat.lt_or_ge p H.length with hpl|hpl
   ·rw [hρ p hpl];exact hp
   ·rw [h2.top p hpl] at hp;cases hp
  ·exact ⟨bu,bku,by rw [hρ q hq];exact r1,u2,u3,u4,(hnu.vz u5).vl⟩
 ·rcases hat q c1 b k1 k3 with ⟨rfl,rfl⟩|⟨hqi,hq,k3,hc⟩|⟨rfl,rfl⟩<;>rcases hat q' c2 _ k2 k4 with ⟨rfl,e⟩|⟨JM,hq',k4,hc'⟩|⟨rfl,e⟩
  ·rfl
  ·have:=h2.lt hc' k4;omega
  ·exact absurd e Kt
  ·have:=h2.lt hc k3;omega
  ·exact h2.inj q q' c1 c2 b hc hc' k3 k4
  ·exact absurd e (hne q _ b hqi hc k3)
  ·exact absurd e.symm Kt
  ·exact absurd rfl (hne q' _ _ JM hc' k4)
  ·rfl
 ·rcases hat q cs' b k1 k2 with ⟨rfl,rfl⟩|⟨hqi,hq,k2,hc⟩|⟨rfl,rfl⟩
  ·exact h5.gU j _ b hj hb0
  ·cases hz:Z1 b with
   |none=>rfl
   |some bk=>
    rcases h6.zn b bk hz with h9|h9|⟨p,cs',h9,h10⟩
    ·rw [h2.gU q _ b hc k2] at h9;cases h9
    ·have:=h2.lt hc k2;omega
    ·exact absurd (sV p cs' b h9 h10) (hne q _ b hqi hc k2)
  ·exact h5.gU 0 cu b hu hbu
 ·simp only [List.length_append,List.length_set,List.length_singleton] at hq
  simp only [put]
  rw [if_neg (by omega)]
  exact h2.top q (by omega)
 ·refine hkeep b hb fun e=>?_
  rw [e] at hno
  exact hno i cs0 hc0 r1
 ·rcases hat q cs' b k1 k2 with ⟨rfl,rfl⟩|⟨hqi,hq,k2,hc⟩|⟨rfl,rfl⟩
  ·exact .inl hge
  ·exact .inr ⟨q,cs',hc,k2⟩
  ·exact .inr ⟨q,cs0,hc0,r1⟩
 ·rcases h6.zn b bk hb with h9|h9|⟨p,cs',h9,h10⟩
  ·exact .inl h9
  ·exact .inr (.inl h9)
  ·rw [sV p cs' b h9 h10]
   exact .inr (.inr ⟨i,cs0,hc0,r1⟩)
end Go.Bm
