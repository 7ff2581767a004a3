/- A law that is shown in the small machine is a call of the model. -/
import Derived.Test.YtbpfbfbabpkceaaGreatAmXm
import Derived.Test.YtbpfbfbabpkceaaGreatAmChk
import Derived.Test.YtbpfbfbabpkceaaGreatAmS
import Derived.Below
set_option linter.unusedVariables false
namespace Go.Am
open Go Go.RowKit
def WT (w:World) (a:Option Addr) (len cap:Nat) (zs:List Int):Prop:=
 (a=none∧len=0∧cap=0∧zs=[])∨
 ∃x,a=some x∧len≤cap∧zs.length=cap∧ ∀i,i<zs.length→w.cell? (x.add i)=some (.int .i64 (zs.getD i 0))
structure Start (φ:Fun) (β:Ren) (H:AHeap) (w:World):Prop where
 rel:Rel φ β H w
 ro: ∀b blk,H.get b=some blk→blk.rw=false
 new: ∀b,H.n≤b→β b=none
 le: ∀b L,β b=some L→L.base≤L.size
def H0:AHeap:=⟨0,fun _=>none⟩
def β0:Ren:=fun _=>none
theorem WI (φ:Fun) (w:World):Start φ β0 H0 w:=
 ⟨⟨fun b blk L h=>(by cases h),fun b b' blk blk' L L' h=>(by cases h),fun b _=>rfl,fun b L blk h=>(by cases h),fun b L h=>(by cases h)⟩,fun b blk h=>(by cases h),fun b _=>rfl,fun b L h=>(by cases h)⟩
def AHeap.ro (H:AHeap) (cs:List Value):AHeap:=⟨H.n+1,fun b=>if b=H.n then some ⟨cs,false⟩ else H.get b⟩
theorem Ext.ro (H:AHeap) (cs:List Value):Ext H (H.ro cs):=⟨Nat.le_succ _,fun b hb=>by
 show (if b=H.n then _ else _)=_
 rw [if_neg (by omega)]⟩
theorem addRow {φ:Fun} {β:Ren} {H:AHeap} {w:World} {a:Option Addr} {len cap:Nat} {zs:List Int} (hs:Start φ β H w) (h:WT w a len cap zs):
  ∃β' H' v,Start φ β' H' w∧Ext H H'∧(∀b L,β b=some L→β' b=some L)∧VR φ β' v (.slice a len cap)∧mV H' v (zs.take len):=by
 rcases h with ⟨rfl,rfl,rfl,rfl⟩|⟨x,rfl,hle,hz,hc⟩
 ·exact ⟨β,H, .slice none 0 0,hs,Ext.refl' _,fun _ _ h=>h, .plain rfl, .inl ⟨rfl,rfl⟩⟩
 ·by_cases hcap:cap=0
  ·subst hcap
   obtain rfl:len=0:=by omega
   obtain rfl:zs=[]:=List.eq_nil_of_length_eq_zero hz
   refine ⟨β,H.ro [],S H.n 0 0 1,⟨⟨fun b blk L hb hL=>?_,fun b b' blk blk' L L' hb hrw=>?_,fun b hb=>?_,fun b L blk hL hlt=>absurd (hs.le b L hL) (by omega),fun b L hL hlt=>absurd (hs.le b L hL) (by omega)⟩,fun b blk hb=>?_,fun b hb=>?_,hs.le⟩,Ext.ro _ _,fun _ _ h=>h, .slice0, .inr ⟨H.n,0,⟨[],false⟩,rfl,Nat.lt_succ_self _,by simp [AHeap.ro],by simp,by simp⟩⟩
   ·by_cases e:b=H.n
    ·subst e;rw [hs.new _ (Nat.le_refl _)] at hL;cases hL
    ·simp only [AHeap.ro,e,if_false] at hb
     exact hs.rel.cells b blk L hb hL
   ·by_cases e:b=H.n
    ·subst e;simp only [AHeap.ro,if_true,Option.some.injEq] at hb;subst hb;cases hrw
    ·simp only [AHeap.ro,e,if_false] at hb;rw [hs.ro _ _ hb] at hrw;cases hrw
   ·have hb':H.n+1≤b:=hb
    simp only [AHeap.ro]
    rw [if_neg (by omega)]
    exact hs.rel.fin b (by omega)
   ·by_cases e:b=H.n
    ·subst e;simp only [AHeap.ro,if_true,Option.some.injEq] at hb;subst hb;rfl
    ·simp only [AHeap.ro,e,if_false] at hb;exact hs.ro _ _ hb
   ·have hb':H.n+1≤b:=hb
    exact hs.new b (by omega)
  ·obtain ⟨xb,xo,xs⟩:=x
   have h0:=hc 0 (by omega)
   simp only [World.cell?,Addr.add,if_true] at h0
   split at h0
   ·rename_i c t fr hh
    split at h0
    ·cases h0
    ·rename_i hsp
     obtain rfl:xs=none:=by cases xs<;>simp_all
     have hcell: ∀i,i<zs.length→c[xo+i]? =some (I (zs.getD i 0)):=by
      intro i hi
      have:=hc i hi
      simp only [World.cell?,Addr.add] at this
      by_cases hi0:i=0
      ·subst hi0;simpa [hh] using this
      ·simpa [hi0,hh] using this
     have hsize:xo+cap≤c.size:=by
      have:=hcell (cap-1) (by omega)
      have h2:=(Array.getElem?_eq_some_iff.1 this).1
      omega
     have hle2: ∀b L,(if b=H.n then some ⟨xb,xo,c.size⟩ else β b)=some L→L.base≤L.size:=fun b L hb=>by
      split at hb
      ·cases hb;show xo≤c.size;omega
      ·exact hs.le b L hb
     refine ⟨fun b=>if b=H.n then some ⟨xb,xo,c.size⟩ else β b,H.ro (zs.map I),S H.n 0 len 1,⟨⟨fun b blk L hb hL _=>?_,fun b b' blk blk' L L' hb hrw=>?_,fun b hb=>?_,fun b L blk hL hlt=>absurd (hle2 b L hL) (by omega),fun b L hL hlt=>absurd (hle2 b L hL) (by omega)⟩,fun b blk hb=>?_,fun b hb=>?_,hle2⟩,Ext.ro _ _,fun b L hb=>?_,?_, .inr ⟨H.n,0,⟨zs.map I,false⟩,?_,Nat.lt_succ_self _,by simp [AHeap.ro],by simp;omega,fun i hi=>?_⟩⟩
     ·by_cases e:b=H.n
      ·subst e
       simp only [AHeap.ro,if_true,Option.some.injEq] at hb hL
       subst hb hL
       refine ⟨c,t,fr,hh,rfl,by simp;omega,fun h=>(by cases h),fun i v hi=>?_⟩
       simp only [List.getElem?_map,Option.map_eq_some_iff] at hi
       obtain ⟨n,hn,rfl⟩:=hi
       obtain ⟨hlt,hn⟩:=List.getElem?_eq_some_iff.1 hn
       refine ⟨_,hcell i hlt,?_⟩
       simp only [List.getD,hlt,List.getElem?_eq_getElem,Option.getD_some,hn]
       exact .plain rfl
      ·simp only [AHeap.ro,e,if_false] at hb hL
       obtain ⟨c',t',fr',h1,h2,h3,h4,h5⟩:=hs.rel.cells b blk L hb hL (hs.le b L hL)
       refine ⟨c',t',fr',h1,h2,h3,h4,fun i v hi=>?_⟩
       obtain ⟨u,hu,hv⟩:=h5 i v hi
       refine ⟨u,hu,hv.mono fun b L hL=>?_⟩
       have:b≠H.n:=fun h=>by subst h;rw [hs.new _ (Nat.le_refl _)] at hL;cases hL
       simpa [this] using hL
     ·by_cases e:b=H.n
      ·subst e;simp only [AHeap.ro,if_true,Option.some.injEq] at hb;subst hb;cases hrw
      ·simp only [AHeap.ro,e,if_false] at hb;rw [hs.ro _ _ hb] at hrw;cases hrw
     ·have hb':H.n+1≤b:=hb
      simp only [AHeap.ro]
      rw [if_neg (by omega)]
      exact hs.rel.fin b (by omega)
     ·by_cases e:b=H.n
      ·subst e;simp only [AHeap.ro,if_true,Option.some.injEq] at hb;subst hb;rfl
      ·simp only [AHeap.ro,e,if_false] at hb;exact hs.ro _ _ hb
     ·have hb':H.n+1≤b:=hb
      show (if b=H.n then _ else _)=_
      rw [if_neg (by omega)]
      exact hs.new b (by omega)
     ·have:b≠H.n:=fun h=>by subst h;rw [hs.new _ (Nat.le_refl _)] at hb;cases hb
      simpa [this] using hb
     ·exact VR.slice (base:=xo) (o:=0) (N:=c.size) (by simp) hle (by omega)
     ·rw [List.length_take,Nat.min_eq_left (by omega)]
     ·have hi':i<zs.length:=by rw [List.length_take] at hi;omega
      have hi2:i<len:=by rw [List.length_take] at hi;omega
      simp [el,List.getD,hi',hi2]
   ·cases h0
theorem run {g:Nat} {q:FuncId} {args vs:List Value} {β:Ren} {H:AHeap} {w:World} (hs:Start φ β H w) (hq:φ g=some q) (hv:VRL φ β args vs)
  (h:mW g args H fun r _=>r= .bool true):Calls Go.Proofs.Tryz.prog q ⟨vs⟩ w fun e w'=>e= .returned (.bool true)∧Below w.heap.size w w':=by
 obtain ⟨v,H',hc,rfl⟩:=h
 have hsim:=sound (Pr:=Go.Proofs.Tryz.prog) (μ:=μ) (φ:=φ) hΓ WU hc
 obtain ⟨hn,_,hsim⟩:=hsim
 refine Calls.mono ((hsim q hq).2 β vs w hs.rel hv fun b hb _=>hs.new b hb) fun e w' hR=>?_
 obtain ⟨β',v',rfl,uJ,_,hf⟩:=hR
 exact ⟨by rw [uJ.bool],⟨hf.os,hf.tape,hf.output.1,hf.size,fun k hk=>hf.frame k hk fun b blk L hb hrw=>by rw [hs.ro _ _ hb] at hrw;cases hrw⟩⟩
theorem wf64 {n:Int} (h:(Lit.int .i64 n).wf=true): -9223372036854775808≤n∧n<9223372036854775808:=by
 have h1:IntKind.i64.min= -9223372036854775808:=by decide
 have h2:IntKind.i64.max=9223372036854775807:=by decide
 simp only [Lit.wf,Bool.and_eq_true,decide_eq_true_eq,h1,h2] at h
 omega
end Go.Am
