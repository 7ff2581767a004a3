/- Maps: rules of their operations. -/
import Derived.Test.YtbpfbfbabpkceaaGreatBmS
set_option linter.unusedVariables false
set_option linter.unusedSimpArgs false
set_option linter.unusedSectionVars false
namespace Go.Bm
open Go Go.Am
section
variable {d t:Option Nat} {r:List AOper} {K:Fr→BH→Prop} {f:Fr} {H:BH}
theorem aeh:opsT d (⟨t, .makeMap,none⟩::r) K f H=opsT (dn d) r K (updO f t (.map (some H.length))) ((H++[some []])++[some []]):=by
 rw [jW rfl (by simp) (by simp)];rfl
theorem abE {qs:List IntKind} {x k:Opd}:opsT d (⟨t, .mapPut qs x k,none⟩::r) K f H=(gX d=false∧fO (wH qs (ev f x) (ev f k) H) (iE d t r K f)):=by
 rw [wo rfl];rfl
theorem agW {qs:List IntKind} {x:Opd}:opsT d (⟨t, .lenMap qs x,none⟩::r) K f H=fO (wJ qs (ev f x) H) (iE d t r K f):=by
 rw [jW rfl (by simp) (by simp)];rfl
theorem agX {qs:List IntKind} {i:Nat} {ks:List Value} (h1:blk H i=some []) (h2:blk H (i+1)=some ks) (h4:ks.all (keyV qs)=true):wJ qs (.map (some i)) H=some (.int .i64 (cntI (ks.map keyI)),H):=by
 simp only [wJ,h1,h2,h4,if_true]
theorem abG {qs:List IntKind} {i:Nat} {k:Value} {ks:List Value} (h1:blk H i=some []) (h2:blk H (i+1)=some ks) (h3:keyV qs k=true) (h4:ks.all (keyV qs)=true):wH qs (.map (some i)) k H=some (undef,H.set (i+1) (some (ks++[k]))):=by
 simp only [wH,h1,h2,h3,h4,Bool.and_true,if_true]
end
end Go.Bm
