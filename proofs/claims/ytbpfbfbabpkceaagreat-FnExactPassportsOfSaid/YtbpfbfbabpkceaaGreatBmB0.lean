/- From the second machine to the small machine. -/
import Derived.Test.YtbpfbfbabpkceaaGreatBmS
import Derived.Test.YtbpfbfbabpkceaaGreatAmB
set_option linter.unusedVariables false
set_option linter.unusedSimpArgs false
namespace Go.Bm
open Go Go.Am
def wK (HA:AHeap):Nat→Option Blk:=fun b=>if b<HA.n then HA.get b else none
theorem zof {HA:AHeap} {b:Nat} {bk:Blk} (h:wK HA b=some bk):b<HA.n∧HA.get b=some bk:=by
 unfold wK at h
 split at h
 ·exact ⟨by assumption,h⟩
 ·cases h
theorem aer (HA:AHeap):Rel (fun _=>none) (wK HA) [] HA:=
 ⟨fun i cs h=>by simp [blk] at h,fun i j cs cs' b h=>by simp [blk] at h,fun i cs b h=>by simp [blk] at h,fun b bk h=>zof h,fun _ _=>rfl⟩
theorem WJ {g:Nat} {args vs:List Value} {HA:AHeap} (h:aF false g args [] fun v _=>v= .bool true) (hv:VL (fun _=>none) (wK HA) args vs):mW g vs HA fun r _=>r= .bool true:=by
 obtain ⟨v',HA',h1,_,ρ',Z',v,H',h2,_,_,_,_,rfl⟩:=h _ _ vs HA hv (aer HA)
 exact ⟨v',HA',h1,h2.bool⟩
theorem ag1 {ρ:Nat→Option Nat} {Z:Nat→Option Blk} {cs:List Value} (h:cs.all Am.plain=true):VR ρ Z (aggL cs) (aggL cs):=by
 have:=VL.plain (ρ:=ρ) (Z:=Z) h
 exact .agg this.1 this.2
theorem ag2 {φ:Fun} {β:Ren} {cs:List Value} (h:cs.all Am.plain=true):Am.VR φ β (aggL cs) (aggL cs):=by
 have:=VRL.plain (φ:=φ) (β:=β) (cs:=cs) fun c hc=>List.all_eq_true.1 h c hc
 exact .agg this.1 this.2
theorem vr_ints {HA:AHeap} {v:Value} {xs:List Int} (h:mV HA v xs):VR (fun _=>none) (wK HA) (FI xs) v:=by
 rcases h with ⟨rfl,rfl⟩|⟨b,o,bk,rfl,hb,hg,hl,hc⟩
 ·exact .z .fz0
 ·refine .z (.fz (bk:=bk) (ds:=(bk.cells.drop o).take (xs.length*1)) (by simp [wK,hb,hg]) (by simp) (by simp;omega) (by omega) rfl fun i c d h1 h2=>?_)
  rw [Nat.mul_one,List.getElem?_take] at h2
  split at h2
  ·rename_i hi
   rw [List.getElem?_drop,hc i hi] at h2
   cases h2
   rw [List.getElem?_map,List.getElem?_eq_getElem hi] at h1
   cases h1
   have:xs[i]=el xs i:=by simp [el,List.getD,hi]
   rw [this]
   exact .plain rfl
  ·cases h2
end Go.Bm
