/- Maps: rules of their operations. -/
import Derived.Test.YtbpfbfbabpkceaaBmS
set_option linter.unusedVariables false
set_option linter.unusedSimpArgs false
set_option linter.unusedSectionVars false
namespace Go.Bm
open Go Go.Am
section
variable {d t:Option Nat} {r:List AOper} {K:Fr→BH→Prop} {f:Fr} {H:BH}
theorem TK:opsT d (⟨t, .makeMap,none⟩::r) K f H=opsT (dn d) r K (updO f t (.map (some H.length))) ((H++[some []])++[some []]):=by
 rw [fM rfl (by simp) (by simp)];rfl
theorem Uu {qs:List IntKind} {x k:Opd}:opsT d (⟨t, .mapPut qs x k,none⟩::r) K f H=(dP d=false∧dh (ni qs (ev f x) (ev f k) H) (dW d t r K f)):=by
 rw [pO rfl];rfl
theorem WI {qs:List IntKind} {x:Opd}:opsT d (⟨t, .lenMap qs x,none⟩::r) K f H=dh (ny qs (ev f x) H) (dW d t r K f):=by
 rw [fM rfl (by simp) (by simp)];rfl
theorem WJ {qs:List IntKind} {i:Nat} {ks:List Value} (h1:blk H i=some []) (h2:blk H (i+1)=some ks) (h4:ks.all (keyV qs)=true):ny qs (.map (some i)) H=some (.int .i64 (cntI (ks.map keyI)),H):=by
 simp only [ny,h1,h2,h4,if_true]
theorem Uw {qs:List IntKind} {i:Nat} {k:Value} {ks:List Value} (h1:blk H i=some []) (h2:blk H (i+1)=some ks) (h3:keyV qs k=true) (h4:ks.all (keyV qs)=true):ni qs (.map (some i)) k H=some (undef,H.set (i+1) (some (ks++[k]))):=by
 simp only [ni,h1,h2,h3,h4,Bool.and_true,if_true]
end
end Go.Bm
