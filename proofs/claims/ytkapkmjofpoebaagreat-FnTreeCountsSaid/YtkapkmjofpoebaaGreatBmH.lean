/- Arguments that are slices of bytes. -/
import Derived.Test.YtkapkmjofpoebaaGreatBmG
import Derived.Test.YtkapkmjofpoebaaGreatBmB
set_option linter.unusedVariables false
set_option linter.unusedSimpArgs false
namespace Go.Am
open Go Go.RowKit Go.ChangeShapes
def MR (w:World) (a:Option Addr) (len cap:Nat) (code:List Nat):Prop:=
 (a=none∧len=0∧cap=0∧code=[])∨
 ∃(x:Addr) (bs:List Nat),a=some x∧len≤cap∧bs.length=cap∧code=bs.take len∧ ∀i v,(bs.map fun b:Nat=>Value.int .u8 (b:Int))[i]? =some v→w.cell? (x.add i)=some v
def Fv (H:aA) (v:Value) (code:List Nat):Prop:=
 (v= .slice none 0 0∧code=[])∨ ∃b blk,v=S b 0 code.length 1∧b<H.n∧H.get b=some blk∧code.length≤blk.cells.length∧ ∀(i n:Nat),code[i]? =some n→blk.cells[i]? =some (Value.int .u8 (n:Int))
theorem Fv.ext {H H':aA} {v:Value} {code:List Nat} (h:Fv H v code) (he:Ext H H'):Fv H' v code:=by
 rcases h with h|⟨b,blk,h1,h2,h3,h4⟩
 ·exact .inl h
 ·exact .inr ⟨b,blk,h1,Nat.lt_of_lt_of_le h2 he.1,by rw [he.2 b h2];exact h3,h4⟩
theorem adO {φ:iO} {β:Ren} {H:aA} {w:World} {a:Option Addr} {len cap:Nat} {code:List Nat} (hs:Start φ β H w) (h:MR w a len cap code):
  ∃β' H' v,Start φ β' H' w∧Ext H H'∧(∀b L,β b=some L→β' b=some L)∧VR φ β' v (.slice a len cap)∧Fv H' v code:=by
 rcases h with ⟨rfl,rfl,rfl,rfl⟩|⟨x,bs,rfl,hle,hz,rfl,hc⟩
 ·exact ⟨β,H, .slice none 0 0,hs,Ext.refl' _,fun _ _ h=>h, .plain rfl, .inl ⟨rfl,rfl⟩⟩
 ·obtain ⟨rQ,H2,v,k1,k2,k3,k4,b,blk,rfl,k5,k6,k7⟩:=akV (x:=x) (len:=len) (cap:=cap) (vs:=bs.map fun b:Nat=>Value.int .u8 (b:Int)) hs hle (by simpa using hz) fun i u hu=>by
   refine ⟨u,hc i u hu,?_⟩
   rw [List.getElem?_map,Option.map_eq_some_iff] at hu
   obtain ⟨n,_,rfl⟩:=hu
   exact .plain rfl
  have hlen:(bs.take len).length=len:=by rw [List.length_take];omega
  refine ⟨rQ,H2,S b 0 len 1,k1,k2,k3,k4, .inr ⟨b,blk,by rw [hlen],k5,k6,by rw [hlen,k7,List.length_map];omega,fun i n hi=>?_⟩⟩
  rw [List.getElem?_take] at hi
  split at hi
  ·rw [k7,List.getElem?_map,hi];rfl
  ·cases hi
section
variable {H:Type} {enc:TypeId×Value→H} {P:Program} {w:World} {base:Nat} {held:Bool}
theorem open_bytes {t e:TypeId} {fuel:Nat} {cs:List Value} {x:DataW H×List MemPlace} (ht:P.underlying t=some (.slice e)) (he:P.underlying e=some (.int .u8)) (hc:P.cellsOf e=1)
  (h:DataW.trod enc P w base (fun _=>true) held fuel t cs=some x) {a:Option Addr} {len cap:Nat} (hcs:cs=[.slice a len cap]): ∃code,MR w a len cap code∧code.length≤9223372036854775807∧ ∀i,Bm.nl code i<256:=by
 have hmx:maxLen=9223372036854775807:=by decide
 rcases open_ints ht he hc h with ⟨h0,_⟩|⟨x',l',c',zs,h0,_,hl',hm',hz',_,hcell,hwf⟩
 ·rw [h0] at hcs
  cases hcs
  exact ⟨[], .inl ⟨rfl,rfl,rfl,rfl⟩,by simp,fun i=>by simp [Bm.nl]⟩
 ·rw [h0] at hcs
  cases hcs
  have hb: ∀z∈zs,0≤z∧z≤255:=fun z hz=>by
   have h1:=hwf z hz
   simp only [Lit.wf,Bool.and_eq_true,decide_eq_true_eq] at h1
   exact Bm.Oe h1
  simp only [if_true] at hz'
  refine ⟨(zs.map Int.toNat).take len, .inr ⟨x',zs.map Int.toNat,rfl,hl',by simpa using hz',rfl,fun i v hv=>?_⟩,?_,fun i=>?_⟩
  ·rw [List.map_map,List.getElem?_map,Option.map_eq_some_iff] at hv
   obtain ⟨z,hz,rfl⟩:=hv
   obtain ⟨hi,e⟩:=List.getElem?_eq_some_iff.1 hz
   have:=hcell i hi
   rw [this]
   have e2:zs.getD i 0=z:=by simp [List.getD,hi,e]
   have:=hb z (by rw [←e];exact List.getElem_mem hi)
   rw [e2]
   simp only [Function.comp,Int.toNat_of_nonneg this.1]
  ·rw [List.length_take];omega
  ·unfold Bm.nl List.getD
   cases hx:(List.take len (zs.map Int.toNat))[i]? with
   |none=>simp
   |some y=>
    have hm:y∈zs.map Int.toNat:=List.mem_of_mem_take (List.mem_of_getElem? hx)
    obtain ⟨z,hz,rfl⟩:=List.mem_map.1 hm
    have:=hb z hz
    simp only [Option.getD_some]
    omega
end
end Go.Am
namespace Go.Bm
open Go Go.Am
theorem adR {HA:aA} {v:Value} {code:List Nat} (h:Fv HA v code):VR (fun _=>none) (yS HA) (FB code) v:=by
 rcases h with ⟨rfl,rfl⟩|⟨b,bk,rfl,hb,hg,hl,hc⟩
 ·exact .z .fz0
 ·refine .z (.fz (bk:=bk) (ds:=(bk.cells.drop 0).take (code.length*1)) (by simp [yS,hb,hg]) (by simp) (by simp;omega) (by omega) rfl fun i c d h1 h2=>?_)
  rw [Nat.mul_one,List.getElem?_take,List.drop_zero] at h2
  split at h2
  ·rename_i hi
   rw [hc i _ (List.getElem?_eq_getElem hi)] at h2
   cases h2
   rw [List.getElem?_map,List.getElem?_eq_getElem hi] at h1
   cases h1
   exact .plain rfl
  ·cases h2
end Go.Bm
