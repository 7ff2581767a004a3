/- What a function from outside leaves: one new block; blocks that lie outside the relation. -/
import Derived.Test.YtbpfbfbabpkceaaGreatAmSound
import Derived.Maps.RangeRun
set_option linter.unusedVariables false
set_option linter.unusedSimpArgs false
namespace Go.Am
open Go
open Go.ChangeMaps (setBlock)
section
variable {φ:Fun} {β:Ren} {H:AHeap} {w:World}
theorem Good.fresh (h:Rel φ β H w) (hn:β H.n=none) {cs:List Value} {c:Array Value} {t:TypeId} {g:Nat} {w':World} (hg:w.heap.size≤g) (hw:w'.heap[g]? =some (.cells c t)) (hold: ∀r,r<w.heap.size→w'.heap[r]? =w.heap[r]?)
  (hos:w'.os=w.os) (htp:w'.tape=w.tape) (hout:w'.output=w.output∧w.drawn≤w'.drawn) (hsz:w.heap.size≤w'.heap.size) (hc:cs.length≤c.size) (hv: ∀(i:Nat) (v:Value),cs[i]? =some v→ ∃u,c[i]? =some u∧VR φ β v u):
  Good φ β H w (Ren.put β H.n ⟨g,0,c.size⟩) (H.alloc cs) w':=by
 have hext: ∀b L,β b=some L→Ren.put β H.n ⟨g,0,c.size⟩ b=some L:=fun b L hb=>by
  unfold Ren.put
  split
  ·rename_i e;subst e;rw [hn] at hb;cases hb
  ·exact hb
 refine ⟨⟨?_,?_,?_,?_,h.mapn_put (Nat.zero_le _)⟩,⟨hos,htp,hout,hsz,fun r hr _=>hold r hr,?_,hext,?_,by simp [AHeap.alloc],fun b L hb h0=>?_⟩⟩
 ·intro b blk L hb hL hle
  simp only [AHeap.alloc] at hb
  simp only [Ren.put] at hL
  by_cases e:b=H.n
  ·subst e
   simp only [if_true,Option.some.injEq] at hb hL
   subst hb;subst hL
   refine ⟨c,t,(0,0),hw,rfl,by simpa using hc,fun _=>⟨rfl,rfl⟩,fun i v hi=>?_⟩
   obtain ⟨u,hu,hr⟩:=hv i v hi
   exact ⟨u,by simpa using hu,hr.mono hext⟩
  ·simp only [if_neg e] at hb hL
   obtain ⟨c',t',fr,h1,h2,h3,h4,h5⟩:=h.cells b blk L hb hL hle
   refine ⟨c',t',fr,by rw [hold _ (h.lt hb hL)];exact h1,h2,h3,h4,fun i v hi=>?_⟩
   obtain ⟨u,hu,hr⟩:=h5 i v hi
   exact ⟨u,hu,hr.mono hext⟩
 ·intro b b' blk blk' L L' hb hrw hb' hL hL' he
  simp only [AHeap.alloc] at hb hb'
  simp only [Ren.put] at hL hL'
  by_cases e:b=H.n<;>by_cases e':b'=H.n
  ·rw [e,e']
  ·rw [if_pos e] at hL
   rw [if_neg e'] at hb' hL'
   cases hL
   have:=h.lt hb' hL'
   simp at he
   omega
  ·rw [if_pos e'] at hL'
   rw [if_neg e] at hb hL
   cases hL'
   have:=h.lt hb hL
   simp at he
   omega
  ·rw [if_neg e] at hb hL
   rw [if_neg e'] at hb' hL'
   exact h.inj b b' blk blk' L L' hb hrw hb' hL hL' he
 ·intro b hb
  simp only [AHeap.alloc] at hb⊢
  rw [if_neg (by omega)]
  exact h.fin b (by omega)
 ·have hne: ∀b L,Ren.put β H.n ⟨g,0,c.size⟩ b=some L→L.size<L.base→b≠H.n∧β b=some L:=fun b L hb hlt=>by
   simp only [Ren.put] at hb
   split at hb
   ·cases hb;simp at hlt
   ·rename_i e
    exact ⟨e,hb⟩
  refine h.maps_keep (fun b L hb hlt=>(hne b L hb hlt).2) (fun b blk L hb hlt hg=>?_) (fun b gh hl hg h0 _=>?_) (by simp [AHeap.alloc]) fun g es ck hg=>?_
  ·simp only [AHeap.alloc] at hg
   rwa [if_neg (hne b L hb hlt).1] at hg
  ·simp only [AHeap.alloc] at hg
   simp only [Ren.put] at h0
   rw [if_neg (by omega)] at hg h0
   exact ⟨hg,h0⟩
  ·rw [hold _ (Array.getElem?_eq_some_iff.1 hg).1];exact hg
 ·intro b blk L hb hrw hL
  simp only [AHeap.alloc] at hb
  simp only [Ren.put] at hL
  by_cases e:b=H.n
  ·rw [if_pos e] at hL
   cases hL
   exact .inl hg
  ·rw [if_neg e] at hb hL
   exact .inr ⟨b,blk,L,hb,hrw,hL,rfl⟩
 ·intro b L hb
  simp only [Ren.put] at hb
  by_cases e:b=H.n
  ·exact .inr (by simp [AHeap.alloc,e])
  ·rw [if_neg e] at hb
   exact .inl hb
 ·simp only [Ren.put] at hb
  by_cases e:b=H.n
  ·rw [if_pos e] at hb
   cases hb
   exact .inl hg
  ·rw [if_neg e,h0] at hb
   cases hb
theorem Rel.aside (h:Rel φ β H w) {w':World} {r:Nat} (hr: ∀b blk L,H.get b=some blk→β b=some L→L.g≠r) (hw: ∀x,x≠r→w'.heap[x]? =w.heap[x]?):Rel φ β H w':=by
 refine ⟨fun b blk L hb hL hle=>?_,h.inj,h.fin,fun b L blk hL hlt hb=>?_,h.mapn⟩
 ·obtain ⟨c,t,fr,h1,h2⟩:=h.cells b blk L hb hL hle
  exact ⟨c,t,fr,by rw [hw _ (hr b blk L hb hL)];exact h1,h2⟩
 ·obtain ⟨h1,h2,es,ck,h3,h4⟩:=h.maps b L blk hL hlt hb
  exact ⟨h1,h2,es,ck,by rw [hw _ (hr b blk L hb hL)];exact h3,h4⟩
theorem Frm.aside {β':Ren} {H':AHeap} {w1 w2:World} {r:Nat} (h:Frm β H w β' H' w1) (hr:w.heap.size≤r) (hw: ∀x,x≠r→w2.heap[x]? =w1.heap[x]?) (hs:w2.heap.size=w1.heap.size) (hos:w2.os=w1.os) (htp:w2.tape=w1.tape) (hout:w2.output=w1.output∧w1.drawn≤w2.drawn):Frm β H w β' H' w2 where
 os:=hos.trans h.os
 tape:=htp.trans h.tape
 output:=⟨hout.1.trans h.output.1,Nat.le_trans h.output.2 hout.2⟩
 size:=by rw [hs];exact h.size
 frame:=fun x hx hn=>by rw [hw x (by omega)];exact h.frame x hx hn
 own:=h.own
 ext:=h.ext
 new:=h.new
 n:=h.n
 newg:=h.newg
def HM:AHeap:=⟨2,fun _=>none⟩
def βM (g:Nat):Ren:=fun b=>if b=0 then some ⟨g,1,0⟩ else none
theorem Rel.hm (g:Nat) (w:World):Rel φ (βM g) HM w where
 cells:=fun b blk L h=>by cases h
 inj:=fun b b' blk blk' L L' h=>by cases h
 fin:=fun _ _=>rfl
 maps:=fun b L blk _ _ h=>by cases h
 mapn:=fun b L hb _ _=>by
  unfold βM at hb⊢
  split at hb
  ·rename_i e
   subst e
   exact ⟨by show 0+1<2;omega,rfl⟩
  ·cases hb
end
def opIn (G:Nat→Bool):AOp→Bool
 | .call g _| .callF g _ _=>G g
 | .callv .. =>false
 | _=>true
def codeIn (G:Nat→Bool):ACode→Bool
 | .region _ ops=>ops.all fun o=>opIn G o.op
 | .seq a b| .cond _ a b=>codeIn G a&&codeIn G b
 | .block _ a| .loop a=>codeIn G a
 | _=>true
theorem Cal.less {Γ:Env} {X X':Outer} {G:Nat→Bool} (hG: ∀g fn,G g=true→Γ g=some fn→codeIn G fn.body=true) (hX: ∀g args H v H',G g=true→X g args H v H'→X' g args H v H')
  {g:Nat} {args:List Value} {H:AHeap} {v:Value} {H':AHeap} (h:Cal Γ X g args H v H'):G g=true→Cal Γ X' g args H v H':=by
 refine Cal.rec (motive_1:=fun c f H ex f' H' _=>codeIn G c=true→Big Γ X' c f H ex f' H') (motive_2:=fun d ops f H f' H' _=>(ops.all fun o=>opIn G o.op)=true→Ops Γ X' d ops f H f' H') (motive_3:=fun o f H f' H' _=>opIn G o.op=true→One Γ X' o f H f' H')
  (motive_4:=fun g args H v H' _=>G g=true→Cal Γ X' g args H v H') ?_ ?_ ?_ ?_ ?_ ?_ ?_ ?_ ?_ ?_ ?_ ?_ ?_ ?_ ?_ ?_ ?_ ?_ ?_ ?_ h
 ·intro f H _;exact .skip
 ·intro d ops f H f' H' _ ih hc;exact .region (ih hc)
 ·intro a b f H f1 H1 ex f' H' _ _ ih1 ih2 hc
  simp only [codeIn,Bool.and_eq_true] at hc
  exact .seqN (ih1 hc.1) (ih2 hc.2)
 ·intro a b f H ex f' H' _ hne ih hc
  simp only [codeIn,Bool.and_eq_true] at hc
  exact .seqX (ih hc.1) hne
 ·intro c a b f H t ex f' H' hcv _ ih hc
  simp only [codeIn,Bool.and_eq_true] at hc
  refine .cond hcv (ih ?_)
  cases t
  ·exact hc.2
  ·exact hc.1
 ·intro id a f H ex f' H' _ hne ih hc;exact .block (ih hc) hne
 ·intro id a f H f' H' _ ih hc;exact .blockX (ih hc)
 ·intro a f H f1 H1 ex f' H' _ _ ih1 ih2 hc;exact .loopN (ih1 hc) (ih2 hc)
 ·intro a f H ex f' H' _ hne ih hc;exact .loopX (ih hc) hne
 ·intro id f H _;exact .exit
 ·intro f H _;exact .ret
 ·intro d f H _;exact .nil
 ·intro d o rest f H f1 H1 f' H' _ hx _ ih1 ih2 hc
  simp only [List.all_cons,Bool.and_eq_true] at hc
  exact .cons (ih1 hc.1) hx (ih2 hc.2)
 ·intro o f H hw _;exact .skip hw
 ·intro o f H v H' hw ha _;exact .op hw ha
 ·intro o f H g args v H' hw ho _ ih hc
  rw [ho] at hc
  exact .call hw ho (ih hc)
 ·intro o f H g cap caps args v H' hw ho hgv _ ih hc
  rw [ho] at hc
  cases hc
 ·intro o f H g args fl v H' hw ho _ hs ih hc
  rw [ho] at hc
  exact .callF hw ho (ih hc) hs
 ·intro g fn args H ex f' vs H' hg _ hex hres ih hc
  exact .body hg (ih (hG g fn hc hg)) hex hres
 ·intro g args H v H' hx hc;exact .outer (hX g args H v H' hc hx)
end Go.Am
