/- Arguments that are slices of slices of whole numbers. -/
import Derived.Test.YtbpfbfbabpkceaaGreatBmB0
import Derived.ChangeSlices
set_option linter.unusedVariables false
set_option linter.unusedSimpArgs false
namespace Go.Am
open Go Go.RowKit Go.ChangeShapes
theorem acs {φ:Fun} {β:Ren} {H:AHeap} {w:World} {x:Addr} {len cap:Nat} {vs:List Value} (hs:Start φ β H w) (hle:len≤cap) (hz:vs.length=cap)
  (hc: ∀i v,vs[i]? =some v→ ∃u,w.cell? (x.add i)=some u∧VR φ β v u):
  ∃β' H' v,Start φ β' H' w∧Ext H H'∧(∀b L,β b=some L→β' b=some L)∧VR φ β' v (.slice (some x) len cap)∧
   ∃b blk,v=S b 0 len 1∧b<H'.n∧H'.get b=some blk∧blk.cells=vs:=by
 by_cases hcap:cap=0
 ·subst hcap
  obtain rfl:len=0:=by omega
  obtain rfl:vs=[]:=List.eq_nil_of_length_eq_zero hz
  refine ⟨β,H.ro [],S H.n 0 0 1,⟨⟨fun b blk L hb hL=>?_,fun b b' blk blk' L L' hb hrw=>?_,fun b hb=>?_,fun b L blk hL hlt=>absurd (hs.le b L hL) (by omega),fun b L hL hlt=>absurd (hs.le b L hL) (by omega)⟩,fun b blk hb=>?_,fun b hb=>?_,hs.le⟩,Ext.ro _ _,fun _ _ h=>h, .slice0,H.n,⟨[],false⟩,rfl,Nat.lt_succ_self _,by simp [AHeap.ro],rfl⟩
  ·by_cases e:b=H.n
   ·subst e;rw [hs.new _ (Nat.le_refl _)] at hL;cases hL
   ·simp only [AHeap.ro,e,if_false] at hb
    exact hs.rel.cells b blk L hb hL
  ·by_cases e:b=H.n
   ·subst e;simp only [AHeap.ro,if_true,Option.some.injEq] at hb;subst hb;cases hrw
   ·simp only [AHeap.ro,e,if_false] at hb;rw [hs.ro _ _ hb] at hrw;cases hrw
  ·have hb':H.n+1≤b:=hb
   simp only [AHeap.ro]
   rw [if_neg (by omega)]
   exact hs.rel.fin b (by omega)
  ·by_cases e:b=H.n
   ·subst e;simp only [AHeap.ro,if_true,Option.some.injEq] at hb;subst hb;rfl
   ·simp only [AHeap.ro,e,if_false] at hb;exact hs.ro _ _ hb
  ·have hb':H.n+1≤b:=hb
   exact hs.new b (by omega)
 ·obtain ⟨xb,xo,xs⟩:=x
  obtain ⟨u0,h0,_⟩:=hc 0 _ (List.getElem?_eq_getElem (show 0<vs.length by omega))
  simp only [World.cell?,Addr.add,if_true] at h0
  split at h0
  ·rename_i c t fr hh
   split at h0
   ·cases h0
   ·rename_i hsp
    obtain rfl:xs=none:=by cases xs<;>simp_all
    have hcell: ∀i v,vs[i]? =some v→ ∃u,c[xo+i]? =some u∧VR φ β v u:=by
     intro i v hi
     obtain ⟨u,hu,hr⟩:=hc i v hi
     refine ⟨u,?_,hr⟩
     simp only [World.cell?,Addr.add] at hu
     by_cases hi0:i=0
     ·subst hi0;simpa [hh] using hu
     ·simpa [hi0,hh] using hu
    have hsize:xo+cap≤c.size:=by
     obtain ⟨u,hu,_⟩:=hcell (cap-1) _ (List.getElem?_eq_getElem (show cap-1<vs.length by omega))
     have h2:=(Array.getElem?_eq_some_iff.1 hu).1
     omega
    have hmono: ∀b L,β b=some L→(fun b=>if b=H.n then some (⟨xb,xo,c.size⟩:Loc) else β b) b=some L:=fun b L hL=>by
     have:b≠H.n:=fun h=>by subst h;rw [hs.new _ (Nat.le_refl _)] at hL;cases hL
     simpa [this] using hL
    have hle2: ∀b L,(if b=H.n then some ⟨xb,xo,c.size⟩ else β b)=some L→L.base≤L.size:=fun b L hb=>by
     split at hb
     ·cases hb;show xo≤c.size;omega
     ·exact hs.le b L hb
    refine ⟨fun b=>if b=H.n then some ⟨xb,xo,c.size⟩ else β b,H.ro vs,S H.n 0 len 1,⟨⟨fun b blk L hb hL _=>?_,fun b b' blk blk' L L' hb hrw=>?_,fun b hb=>?_,fun b L blk hL hlt=>absurd (hle2 b L hL) (by omega),fun b L hL hlt=>absurd (hle2 b L hL) (by omega)⟩,fun b blk hb=>?_,fun b hb=>?_,hle2⟩,Ext.ro _ _,hmono,?_,H.n,⟨vs,false⟩,rfl,Nat.lt_succ_self _,by simp [AHeap.ro],rfl⟩
    ·by_cases e:b=H.n
     ·subst e
      simp only [AHeap.ro,if_true,Option.some.injEq] at hb hL
      subst hb hL
      refine ⟨c,t,fr,hh,rfl,by simp;omega,fun h=>(by cases h),fun i v hi=>?_⟩
      obtain ⟨u,hu,hr⟩:=hcell i v hi
      exact ⟨u,hu,hr.mono hmono⟩
     ·simp only [AHeap.ro,e,if_false] at hb hL
      obtain ⟨c',t',fr',h1,h2,h3,h4,h5⟩:=hs.rel.cells b blk L hb hL (hs.le b L hL)
      refine ⟨c',t',fr',h1,h2,h3,h4,fun i v hi=>?_⟩
      obtain ⟨u,hu,hv⟩:=h5 i v hi
      exact ⟨u,hu,hv.mono hmono⟩
    ·by_cases e:b=H.n
     ·subst e;simp only [AHeap.ro,if_true,Option.some.injEq] at hb;subst hb;cases hrw
     ·simp only [AHeap.ro,e,if_false] at hb;rw [hs.ro _ _ hb] at hrw;cases hrw
    ·have hb':H.n+1≤b:=hb
     simp only [AHeap.ro]
     rw [if_neg (by omega)]
     exact hs.rel.fin b (by omega)
    ·by_cases e:b=H.n
     ·subst e;simp only [AHeap.ro,if_true,Option.some.injEq] at hb;subst hb;rfl
     ·simp only [AHeap.ro,e,if_false] at hb;exact hs.ro _ _ hb
    ·have hb':H.n+1≤b:=hb
     show (if b=H.n then _ else _)=_
     rw [if_neg (by omega)]
     exact hs.new b (by omega)
    ·exact VR.slice (base:=xo) (o:=0) (N:=c.size) (by simp) hle (by omega)
  ·cases h0
theorem Sj {φ:Fun} {w:World}: ∀(rs:List (Option Addr×Nat×Nat×List Int)) {β:Ren} {H:AHeap},Start φ β H w→(∀r∈rs,uS w r.1 r.2.1 r.2.2.1 r.2.2.2)→
  ∃(β':Ren) (H':AHeap) (vs:List Value),Start φ β' H' w∧Ext H H'∧(∀b L,β b=some L→β' b=some L)∧vs.length=rs.length∧
   ∀(i:Nat) (r:Option Addr×Nat×Nat×List Int),rs[i]? =some r→ ∃v,vs[i]? =some v∧VR φ β' v (.slice r.1 r.2.1 r.2.2.1)∧kJ H' v (r.2.2.2.take r.2.1)
 |[],β,H,hs,_=>⟨β,H,[],hs,Ext.refl' _,fun _ _ h=>h,rfl,fun i r h=>by simp at h⟩
 |r::rs,β,H,hs,h=>by
  obtain ⟨β1,H1,v,h1,h2,h3,h4,h5⟩:=addRow hs (h r (by simp))
  obtain ⟨β2,H2,vs,k1,k2,k3,k4,k5⟩:=Sj rs h1 fun r' hr'=>h r' (by simp [hr'])
  refine ⟨β2,H2,v::vs,k1,h2.trans' k2,fun b L hL=>k3 b L (h3 b L hL),by simp [k4],fun i r' hi=>?_⟩
  cases i with
  |zero=>
   cases hi
   exact ⟨v,rfl,h4.mono k3,h5.ext k2⟩
  |succ i=>
   rw [List.getElem?_cons_succ] at hi⊢
   exact k5 i r' hi
def BO (w:World) (a:Option Addr) (len cap:Nat) (xss:List (List Int)):Prop:=
 (a=none∧len=0∧cap=0∧xss=[])∨
 ∃(x:Addr) (rs:List (Option Addr×Nat×Nat×List Int)),a=some x∧len≤cap∧rs.length=cap∧xss=(rs.take len).map (fun r=>r.2.2.2.take r.2.1)∧(∀r∈rs,uS w r.1 r.2.1 r.2.2.1 r.2.2.2)∧
  ∀(i:Nat) (r:Option Addr×Nat×Nat×List Int),rs[i]? =some r→w.cell? (x.add i)=some (.slice r.1 r.2.1 r.2.2.1)
def Sm (H:AHeap) (v:Value) (xss:List (List Int)):Prop:=
 (v= .slice none 0 0∧xss=[])∨ ∃b blk,v=S b 0 xss.length 1∧b<H.n∧H.get b=some blk∧xss.length≤blk.cells.length∧ ∀(i:Nat) (xs:List Int),xss[i]? =some xs→ ∃u,blk.cells[i]? =some u∧kJ H u xs
theorem TY {φ:Fun} {β:Ren} {H:AHeap} {w:World} {a:Option Addr} {len cap:Nat} {xss:List (List Int)} (hs:Start φ β H w) (h:BO w a len cap xss):
  ∃β' H' v,Start φ β' H' w∧Ext H H'∧(∀b L,β b=some L→β' b=some L)∧VR φ β' v (.slice a len cap)∧Sm H' v xss:=by
 rcases h with ⟨rfl,rfl,rfl,rfl⟩|⟨x,rs,rfl,hle,hz,rfl,hr,hc⟩
 ·exact ⟨β,H, .slice none 0 0,hs,Ext.refl' _,fun _ _ h=>h, .plain rfl, .inl ⟨rfl,rfl⟩⟩
 ·obtain ⟨β1,H1,vs,h1,h2,h3,h4,h5⟩:=Sj rs hs hr
  obtain ⟨β2,H2,v,k1,k2,k3,k4,b,blk,rfl,k5,k6,k7⟩:=acs (x:=x) (len:=len) (cap:=cap) (vs:=vs) h1 hle (by omega) fun i u hu=>by
   have hi:=(List.getElem?_eq_some_iff.1 hu).1
   obtain ⟨u',e1,e2,_⟩:=h5 i _ (List.getElem?_eq_getElem (by omega))
   rw [hu] at e1
   cases e1
   exact ⟨_,hc i _ (List.getElem?_eq_getElem (by omega)),e2⟩
  have hlen:((rs.take len).map fun r=>r.2.2.2.take r.2.1).length=len:=by
   rw [List.length_map,List.length_take]
   omega
  refine ⟨β2,H2,S b 0 len 1,k1,h2.trans' k2,fun b L hL=>k3 b L (h3 b L hL),k4, .inr ⟨b,blk,by rw [hlen],k5,k6,by rw [hlen,k7];omega,fun i xs hi=>?_⟩⟩
  rw [List.getElem?_map,Option.map_eq_some_iff] at hi
  obtain ⟨r,hi,rfl⟩:=hi
  rw [List.getElem?_take] at hi
  split at hi
  ·obtain ⟨u,e1,_,e3⟩:=h5 i r hi
   exact ⟨u,by rw [k7];exact e1,e3.ext k2⟩
  ·cases hi
section
variable {H:Type} {enc:TypeId×Value→H} {P:Program} {w:World} {base:Nat} {held:Bool}
theorem TW {t e e':TypeId} {fuel:Nat} {cs:List Value} {x:DataW H×List MemPlace} (ht:P.underlying t=some (.slice e)) (hc:P.cellsOf e=1) (he:P.underlying e=some (.slice e')) (he':P.underlying e'=some (.int .i64)) (hc':P.cellsOf e'=1)
  (h:DataW.trod enc P w base (fun _=>true) held fuel t cs=some x) {a:Option Addr} {len cap:Nat} (hcs:cs=[.slice a len cap]): ∃xss,BO w a len cap xss∧xss.length≤9223372036854775807∧ ∀xs∈xss,xs.length≤9223372036854775807:=by
 have hmx:maxLen=9223372036854775807:=by decide
 rcases DataW.trod_slice ht h with h0|⟨x0,len',cap',elems,rest,n,_,h1,rfl,hb,hl,hm,hlen,hel,hsp,hns⟩
 ·obtain ⟨h0,_⟩:=h0
  rw [h0] at hcs
  cases hcs
  exact ⟨[], .inl ⟨rfl,rfl,rfl,rfl⟩,by simp,by simp⟩
 ·rw [h1] at hcs
  cases hcs
  obtain ⟨hrl,hr⟩:=hsp rfl
  have each: ∀i,i<cap→ ∃r:Option Addr×Nat×Nat×List Int,w.cell? (x0.add i)=some (.slice r.1 r.2.1 r.2.2.1)∧uS w r.1 r.2.1 r.2.2.1 r.2.2.2∧r.2.1≤maxLen:=by
   intro i hi
   have hb': ∃y,(w.cells? base (x0.add (i*P.cellsOf e)) (P.cellsOf e)).bind (DataW.trod enc P w base (fun _=>true) held n e)=some y:=by
    by_cases hil:i<len
    ·exact ⟨_,(hel i hil).trans (List.getElem?_eq_getElem (by omega))⟩
    ·have:=hr (i-len) (by omega)
     rw [show len+(i-len)=i by omega] at this
     exact ⟨_,this.trans (List.getElem?_eq_getElem (by omega))⟩
   obtain ⟨y,hy⟩:=hb'
   rw [hc,Nat.mul_one,Option.bind_eq_some_iff] at hy
   obtain ⟨cs',hcs',hy'⟩:=hy
   rcases open_ints he he' hc' hy' with ⟨rfl,_⟩|⟨x',l',c',zs,rfl,_,hl',hm',hz',_,hcell,_⟩
   ·exact ⟨(none,0,0,[]),cell_of_cells?_one hcs', .inl ⟨rfl,rfl,rfl,rfl⟩,Nat.zero_le _⟩
   ·exact ⟨(some x',l',c',zs),cell_of_cells?_one hcs', .inr ⟨x',rfl,hl',by simpa using hz',hcell⟩,Nat.le_trans hl' hm'⟩
  have hlist: ∀m,m≤cap→ ∃rs:List (Option Addr×Nat×Nat×List Int),rs.length=m∧(∀r∈rs,uS w r.1 r.2.1 r.2.2.1 r.2.2.2∧r.2.1≤maxLen)∧ ∀(i:Nat) (r:Option Addr×Nat×Nat×List Int),rs[i]? =some r→w.cell? (x0.add i)=some (.slice r.1 r.2.1 r.2.2.1):=by
   intro m
   induction m with
   |zero=>intro _;exact ⟨[],rfl,by simp,by simp⟩
   |succ m ih=>
    intro hm
    obtain ⟨rs,g1,g2,g3⟩:=ih (by omega)
    obtain ⟨r,k1,k2⟩:=each m (by omega)
    refine ⟨rs++[r],by simp [g1],fun r' hr'=>?_,fun i r' hi=>?_⟩
    ·rcases List.mem_append.1 hr' with h|h
     ·exact g2 r' h
     ·rw [List.mem_singleton] at h;subst h;exact k2
    ·by_cases hlt:i<rs.length
     ·rw [List.getElem?_append_left hlt] at hi
      exact g3 i r' hi
     ·rw [List.getElem?_append_right (by omega)] at hi
      have:i-rs.length=0:=by
       have:=(List.getElem?_eq_some_iff.1 hi).1
       simp at this
       omega
      rw [this] at hi
      cases hi
      rw [show i=m by omega]
      exact k1
  obtain ⟨rs,g1,g2,g3⟩:=hlist cap (Nat.le_refl _)
  refine ⟨_, .inr ⟨x0,rs,rfl,hl,g1,rfl,fun r hr=>(g2 r hr).1,g3⟩,?_,fun xs hxs=>?_⟩
  ·rw [List.length_map,List.length_take]
   omega
  ·obtain ⟨r,hr,rfl⟩:=List.mem_map.1 hxs
   have:=(g2 r (List.mem_of_mem_take hr)).2
   rw [List.length_take]
   omega
end
end Go.Am
namespace Go.Bm
open Go Go.Am
theorem acu {HA:AHeap} {v:Value} {xs:List Int} (h:kJ HA v xs):VZ (pV HA) (FI xs) v:=by
 have:=vr_ints h
 exact NN.fz _ _ _ this
theorem Uc {HA:AHeap} {v:Value} {xss:List (List Int)} (h:Sm HA v xss):VR (fun _=>none) (pV HA) (dU xss) v:=by
 rcases h with ⟨rfl,rfl⟩|⟨b,bk,rfl,hb,hg,hl,hc⟩
 ·exact .z .fz0
 ·refine .z (.fz (bk:=bk) (ds:=(bk.cells.drop 0).take (xss.length*1)) (by simp [pV,hb,hg]) (by simp) (by simp;omega) (by omega) rfl fun i c d h1 h2=>?_)
  rw [Nat.mul_one,List.drop_zero,List.getElem?_take] at h2
  split at h2
  ·rw [List.getElem?_map,Option.map_eq_some_iff] at h1
   obtain ⟨xs,hxs,rfl⟩:=h1
   obtain ⟨u,hu,hi⟩:=hc i xs hxs
   rw [hu] at h2
   cases h2
   exact acu hi
  ·cases h2
end Go.Bm
