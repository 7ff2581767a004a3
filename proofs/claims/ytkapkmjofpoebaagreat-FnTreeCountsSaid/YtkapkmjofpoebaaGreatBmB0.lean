/- From the second machine to the small machine. -/
import Derived.Test.YtkapkmjofpoebaaGreatBmS
import Derived.Test.YtkapkmjofpoebaaGreatAmB
set_option linter.unusedVariables false
set_option linter.unusedSimpArgs false
namespace Go.Bm
open Go Go.Am
def yS (HA:aA):Nat→Option dh:=fun b=>if b<HA.n then HA.get b else none
theorem zof {HA:aA} {b:Nat} {bk:dh} (h:yS HA b=some bk):b<HA.n∧HA.get b=some bk:=by
 unfold yS at h
 split at h
 ·exact ⟨by assumption,h⟩
 ·cases h
theorem akY (HA:aA):Rel (fun _=>none) (yS HA) [] HA:=
 ⟨fun i cs h=>by simp [blk] at h,fun i j cs cs' b h=>by simp [blk] at h,fun i cs b h=>by simp [blk] at h,fun b bk h=>zof h,fun _ _=>rfl⟩
theorem adP {g:Nat} {args vs:List Value} {HA:aA} (h:aJ false g args [] fun v _=>v= .bool true) (hv:VL (fun _=>none) (yS HA) args vs):kP g vs HA fun r _=>r= .bool true:=by
 obtain ⟨v',HA',h1,_,ρ',Z',v,H',h2,_,_,_,_,rfl⟩:=h _ _ vs HA hv (akY HA)
 exact ⟨v',HA',h1,h2.bool⟩
theorem apU {ρ:Nat→Option Nat} {Z:Nat→Option dh} {cs:List Value} (h:cs.all Am.plain=true):VR ρ Z (eY cs) (eY cs):=by
 have:=VL.plain (ρ:=ρ) (Z:=Z) h
 exact .agg this.1 this.2
theorem apV {φ:iO} {β:Ren} {cs:List Value} (h:cs.all Am.plain=true):Am.VR φ β (eY cs) (eY cs):=by
 have:=bZ.plain (φ:=φ) (β:=β) (cs:=cs) fun c hc=>List.all_eq_true.1 h c hc
 exact .agg this.1 this.2
theorem apW {HA:aA} {v:Value} {xs:List Int} (h:jQ HA v xs):VR (fun _=>none) (yS HA) (FI xs) v:=by
 rcases h with ⟨rfl,rfl⟩|⟨b,o,bk,rfl,hb,hg,hl,hc⟩
 ·exact .z .fz0
 ·refine .z (.fz (bk:=bk) (ds:=(bk.cells.drop o).take (xs.length*1)) (by simp [yS,hb,hg]) (by simp) (by simp;omega) (by omega) rfl fun i c d h1 h2=>?_)
  rw [Nat.mul_one,List.getElem?_take] at h2
  split at h2
  ·rename_i hi
   rw [List.getElem?_drop,hc i hi] at h2
   cases h2
   rw [List.getElem?_map,List.getElem?_eq_getElem hi] at h1
   cases h1
   have:xs[i]=el xs i:=by simp [el,List.getD,hi]
   rw [this]
   exact .plain rfl
  ·cases h2
end Go.Bm
