/- Arguments that are slices of slices of whole numbers. -/
import Derived.Test.YtkapkmjofpoebaaGreatBmB0
import Derived.ChangeSlices
set_option linter.unusedVariables false
set_option linter.unusedSimpArgs false
namespace Go.Am
open Go Go.RowKit Go.ChangeShapes
theorem akV {φ:iO} {β:Ren} {H:aA} {w:World} {x:Addr} {len cap:Nat} {vs:List Value} (hs:Start φ β H w) (hle:len≤cap) (hz:vs.length=cap)
  (hc: ∀i v,vs[i]? =some v→ ∃u,w.cell? (x.add i)=some u∧VR φ β v u):
  ∃β' H' v,Start φ β' H' w∧Ext H H'∧(∀b L,β b=some L→β' b=some L)∧VR φ β' v (.slice (some x) len cap)∧
   ∃b blk,v=S b 0 len 1∧b<H'.n∧H'.get b=some blk∧blk.cells=vs:=by
 by_cases hcap:cap=0
 ·subst hcap
  obtain rfl:len=0:=by omega
  obtain rfl:vs=[]:=List.eq_nil_of_length_eq_zero hz
  refine ⟨β,H.ro [],S H.n 0 0 1,⟨⟨fun b blk L hb hL=>?_,fun b b' blk kH L L' hb hrw=>?_,fun b hb=>?_⟩,fun b blk hb=>?_,fun b hb=>?_⟩,Ext.ro _ _,fun _ _ h=>h, .pG,H.n,⟨[],false⟩,rfl,Nat.lt_succ_self _,by simp [aA.ro],rfl⟩
  ·by_cases e:b=H.n
   ·subst e;rw [hs.new _ (Nat.le_refl _)] at hL;cases hL
   ·simp only [aA.ro,e,if_false] at hb
    exact hs.rel.cells b blk L hb hL
  ·by_cases e:b=H.n
   ·subst e;simp only [aA.ro,if_true,Option.some.injEq] at hb;subst hb;cases hrw
   ·simp only [aA.ro,e,if_false] at hb;rw [hs.ro _ _ hb] at hrw;cases hrw
  ·have hb':H.n+1≤b:=hb
   simp only [aA.ro]
   rw [if_neg (by omega)]
   exact hs.rel.fin b (by omega)
  ·by_cases e:b=H.n
   ·subst e;simp only [aA.ro,if_true,Option.some.injEq] at hb;subst hb;rfl
   ·simp only [aA.ro,e,if_false] at hb;exact hs.ro _ _ hb
  ·have hb':H.n+1≤b:=hb
   exact hs.new b (by omega)
 ·obtain ⟨xb,xo,xs⟩:=x
  obtain ⟨u0,h0,_⟩:=hc 0 _ (List.getElem?_eq_getElem (show 0<vs.length by omega))
  simp only [World.cell?,Addr.add,if_true] at h0
  split at h0
  ·rename_i c t fr hh
   split at h0
   ·cases h0
   ·rename_i hsp
    obtain rfl:xs=none:=by cases xs<;>simp_all
    have hcell: ∀i v,vs[i]? =some v→ ∃u,c[xo+i]? =some u∧VR φ β v u:=by
     intro i v hi
     obtain ⟨u,hu,hr⟩:=hc i v hi
     refine ⟨u,?_,hr⟩
     simp only [World.cell?,Addr.add] at hu
     by_cases hi0:i=0
     ·subst hi0;simpa [hh] using hu
     ·simpa [hi0,hh] using hu
    have hsize:xo+cap≤c.size:=by
     obtain ⟨u,hu,_⟩:=hcell (cap-1) _ (List.getElem?_eq_getElem (show cap-1<vs.length by omega))
     have h2:=(Array.getElem?_eq_some_iff.1 hu).1
     omega
    have hmono: ∀b L,β b=some L→(fun b=>if b=H.n then some (⟨xb,xo,c.size⟩:Loc) else β b) b=some L:=fun b L hL=>by
     have:b≠H.n:=fun h=>by subst h;rw [hs.new _ (Nat.le_refl _)] at hL;cases hL
     simpa [this] using hL
    refine ⟨fun b=>if b=H.n then some ⟨xb,xo,c.size⟩ else β b,H.ro vs,S H.n 0 len 1,⟨⟨fun b blk L hb hL=>?_,fun b b' blk kH L L' hb hrw=>?_,fun b hb=>?_⟩,fun b blk hb=>?_,fun b hb=>?_⟩,Ext.ro _ _,hmono,?_,H.n,⟨vs,false⟩,rfl,Nat.lt_succ_self _,by simp [aA.ro],rfl⟩
    ·by_cases e:b=H.n
     ·subst e
      simp only [aA.ro,if_true,Option.some.injEq] at hb hL
      subst hb hL
      refine ⟨c,t,fr,hh,rfl,by simp;omega,fun h=>(by cases h),fun i v hi=>?_⟩
      obtain ⟨u,hu,hr⟩:=hcell i v hi
      exact ⟨u,hu,hr.mono hmono⟩
     ·simp only [aA.ro,e,if_false] at hb hL
      obtain ⟨c',t',fr',h1,h2,h3,h4,h5⟩:=hs.rel.cells b blk L hb hL
      refine ⟨c',t',fr',h1,h2,h3,h4,fun i v hi=>?_⟩
      obtain ⟨u,hu,hv⟩:=h5 i v hi
      exact ⟨u,hu,hv.mono hmono⟩
    ·by_cases e:b=H.n
     ·subst e;simp only [aA.ro,if_true,Option.some.injEq] at hb;subst hb;cases hrw
     ·simp only [aA.ro,e,if_false] at hb;rw [hs.ro _ _ hb] at hrw;cases hrw
    ·have hb':H.n+1≤b:=hb
     simp only [aA.ro]
     rw [if_neg (by omega)]
     exact hs.rel.fin b (by omega)
    ·by_cases e:b=H.n
     ·subst e;simp only [aA.ro,if_true,Option.some.injEq] at hb;subst hb;rfl
     ·simp only [aA.ro,e,if_false] at hb;exact hs.ro _ _ hb
    ·have hb':H.n+1≤b:=hb
     show (if b=H.n then _ else _)=_
     rw [if_neg (by omega)]
     exact hs.new b (by omega)
    ·exact VR.slice (base:=xo) (o:=0) (N:=c.size) (by simp) hle (by omega)
  ·cases h0
section
variable {H:Type} {enc:TypeId×Value→H} {P:Program} {w:World} {base:Nat} {held:Bool}
end
end Go.Am
namespace Go.Bm
open Go Go.Am
end Go.Bm
