/- What is taken from outside is so in the program: inOrder. -/
import Derived.Test.YtbpfbfbabpkceaaGreatAmXs
import Derived.Test.YtbpfbfbabpkceaaGreatAmIr
import Derived.Test.YtbpfbfbabpkceaaGreatDpG6
import Derived.Test.YtbpfbfbabpkceaaGreatAmSh
set_option linter.unusedVariables false
set_option linter.unusedSimpArgs false
set_option maxRecDepth 100000
namespace Go.Am
open Go Go.Proofs Go.Bm
theorem WU: ∀g args H v H',X g args H v H'→SimCal Tryz.prog φ g args H v H':=by
 rintro g args H v H' (h|h|h)
 ·exact EX g args H v H' h
 ·have hC:φ yx=some 112:=by kernel_rfl
  have hent: ∀args w,(callFunc 112 args).run Tryz.prog w= .ok (.enter 112 args) w:=enters_of Tryz.func112 (by kernel_rfl) rfl
  have abo: ∀args w,(callFunc 113 args).run Tryz.prog w= .ok (.enter 113 args) w:=enters_of Tryz.func113 (by kernel_rfl) rfl
  refine abp (q:=60) (by kernel_rfl) ⟨_,Tryz.func60,by kernel_rfl,by kernel_rfl⟩ (fun {n gm ck es w0} h1 h2 h3 h4=>?_) g args H v H' h
  exact inOrder_walk (z:= .int .i64 0::List.replicate 32 (.int .u8 0)) (byt:=40) (kt:=50) (et:=4) (tS:=30) (tE:=50) (tM:=76) (qS:=113) (qC:=112) (μ:=μ) (φ:=φ) EY uQ (fun x c hc=>by obtain ⟨k,m,rfl⟩:=uQ x c hc;rfl) (fun x c hc=>by obtain ⟨k,m,rfl⟩:=uQ x c hc;rfl) rfl (by omega) h1 h2 h3 h4
   Tryz.func60 rfl rfl rfl (by kernel_rfl) ⟨rfl,rfl,rfl⟩ ⟨rfl,rfl,rfl⟩ Tryz.underlying30 (by kernel_rfl) ⟨rfl,rfl,rfl⟩ ⟨rfl,rfl,rfl⟩ Tryz.underlying76 ⟨rfl,rfl,rfl⟩ ⟨rfl,rfl,rfl⟩ ⟨rfl,rfl,rfl⟩ (by kernel_rfl) (by kernel_rfl) ⟨rfl,rfl,rfl⟩ ⟨rfl,rfl,rfl⟩ ⟨rfl,rfl,rfl⟩ ⟨rfl,rfl,rfl⟩ abo
   (sort_at Tryz.sortD 33 Tryz.isAgg50 Tryz.sizeOf50 (jL n) EY (fun x c hc=>by obtain ⟨k,m,rfl⟩:=uQ x c hc;rfl) cfD swoD 112 hent (abq hΓ EX hC n))
 ·have hent: ∀args w,(callFunc 47 args).run Tryz.prog w= .ok (.enter 47 args) w:=enters_of Tryz.func47 (by kernel_rfl) rfl
  exact abr hΓ EX Tryz.sortP (by kernel_rfl) (qC:=47) (by kernel_rfl) ⟨_,Tryz.func46,by kernel_rfl,by kernel_rfl⟩ hent g args H v H' h
end Go.Am
