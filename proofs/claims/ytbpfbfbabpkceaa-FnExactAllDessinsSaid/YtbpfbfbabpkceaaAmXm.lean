/- What is taken from outside is so in the program: inOrder. -/
import Derived.Test.YtbpfbfbabpkceaaAmXs
import Derived.Test.YtbpfbfbabpkceaaDpG4
import Derived.Test.YtbpfbfbabpkceaaAmSh
set_option linter.unusedVariables false
set_option linter.unusedSimpArgs false
set_option maxRecDepth 100000
namespace Go.Am
open Go Go.Proofs Go.Bm
theorem N7: ∀g args H v H',X g args H v H'→SimCal Try.prog φ g args H v H':=by
 rintro g args H v H' (h|h)
 ·exact Dq g args H v H' h
 ·have hC:φ pV=some 33:=by kernel_rfl
  have hent: ∀args w,(callFunc 33 args).run Try.prog w= .ok (.enter 33 args) w:=enters_of Try.func33 (by kernel_rfl) rfl
  have QF: ∀args w,(callFunc 34 args).run Try.prog w= .ok (.enter 34 args) w:=enters_of Try.func34 (by kernel_rfl) rfl
  refine QG (q:=23) (by kernel_rfl) ⟨_,Try.func23,by kernel_rfl,by kernel_rfl⟩ (fun {n gm ck es w0} h1 h2 h3 h4=>?_) g args H v H' h
  exact inOrder_walk (z:= .int .i64 0::List.replicate 32 (.int .u8 0)) (byt:=40) (kt:=34) (et:=4) (tS:=22) (tE:=34) (tM:=41) (qS:=34) (qC:=33) (μ:=μ) (φ:=φ) xK mQ (fun x c hc=>by obtain ⟨k,m,rfl⟩:=mQ x c hc;rfl) (fun x c hc=>by obtain ⟨k,m,rfl⟩:=mQ x c hc;rfl) rfl (by omega) h1 h2 h3 h4
   Try.func23 rfl rfl rfl (by kernel_rfl) ⟨rfl,rfl,rfl⟩ ⟨rfl,rfl,rfl⟩ Try.underlying22 (by kernel_rfl) ⟨rfl,rfl,rfl⟩ ⟨rfl,rfl,rfl⟩ Try.underlying41 ⟨rfl,rfl,rfl⟩ ⟨rfl,rfl,rfl⟩ ⟨rfl,rfl,rfl⟩ (by kernel_rfl) (by kernel_rfl) ⟨rfl,rfl,rfl⟩ ⟨rfl,rfl,rfl⟩ ⟨rfl,rfl,rfl⟩ ⟨rfl,rfl,rfl⟩ QF
   (sort_at Try.sortD 33 Try.isAgg34 Try.sizeOf34 (fG n) xK (fun x c hc=>by obtain ⟨k,m,rfl⟩:=mQ x c hc;rfl) cfD swoD 33 hent (QH hΓ Dq hC n))
end Go.Am
