/-
  DERIVED: THE SHELF's CONTRACTS AT THIS DUMP, IN PLAIN WORDS (tools/lay-plain.mjs out of 'YtbpfbfbabpkceaaShelf.lean', which tools/lay-shelf.mjs wrote): THE SAME DECLARATIONS UNDER THE SAME NAMES: 'import', 'namespace', 'open', 'def', 'theorem' AND NOTHING ELSE: no command of the shelf's: FOR A HAND-IN. Each laying: the table of numbers ('.._ren') and one theorem, a field a fact of the dump's own or the kernel's comparison; each contract: ONE APPLICATION.
-/
import Derived.Shelf.SlSortCmp.WholeK
import Derived.Ground.SlsfProg
import Derived.Test.YtbpfbfbabpkceaaProg
namespace Go.Proofs
open Go.Shelf
def Try.sortD_ren:Go.Shelf.Ren:=⟨fun|6=>34|15=>43|14=>42|28=>54|29=>55|20=>46|21=>47|22=>48|23=>49|24=>50|25=>51|26=>52|27=>53|46=>57|47=>58|48=>59|49=>60|50=>61|57=>62|n=>n,fun|22=>22|24=>34|25=>56|3=>3|39=>66|0=>0|53=>77|55=>79|4=>4|46=>70|45=>69|50=>74|5=>5|9=>9|66=>80|70=>84|76=>86|77=>87|n=>n,fun|n=>n⟩
theorem Try.sortD:Go.Proofs.SlLaysF0.n6 Try.prog Try.sortD_ren:={
 mixed:=by kernel_rfl
 f6:=⟨Try.f34.name,by decide,Try.func34.trans (congrArg some (by kernel_rfl))⟩
 f14:=⟨Try.f42.name,by decide,Try.func42.trans (congrArg some (by kernel_rfl))⟩
 f15:=Try.func43.trans (congrArg some (by kernel_rfl))
 f20:=⟨Try.f46.name,by decide,Try.func46.trans (congrArg some (by kernel_rfl))⟩
 f21:=⟨Try.f47.name,by decide,Try.func47.trans (congrArg some (by kernel_rfl))⟩
 f22:=⟨Try.f48.name,by decide,Try.func48.trans (congrArg some (by kernel_rfl))⟩
 f23:=⟨Try.f49.name,by decide,Try.func49.trans (congrArg some (by kernel_rfl))⟩
 f24:=⟨Try.f50.name,by decide,Try.func50.trans (congrArg some (by kernel_rfl))⟩
 f25:=⟨Try.f51.name,by decide,Try.func51.trans (congrArg some (by kernel_rfl))⟩
 f26:=⟨Try.f52.name,by decide,Try.func52.trans (congrArg some (by kernel_rfl))⟩
 f27:=⟨Try.f53.name,by decide,Try.func53.trans (congrArg some (by kernel_rfl))⟩
 f28:=Try.func54.trans (congrArg some (by kernel_rfl))
 f29:=Try.func55.trans (congrArg some (by kernel_rfl))
 f46:=⟨Try.f57.name,by decide,Try.func57.trans (congrArg some (by kernel_rfl))⟩
 f47:=Try.func58.trans (congrArg some (by kernel_rfl))
 f48:=Try.func59.trans (congrArg some (by kernel_rfl))
 f49:=⟨Try.f60.name,by decide,Try.func60.trans (congrArg some (by kernel_rfl))⟩
 f50:=⟨Try.f61.name,by decide,Try.func61.trans (congrArg some (by kernel_rfl))⟩
 f57:=⟨Try.f62.name,by decide,Try.func62.trans (congrArg some (by kernel_rfl))⟩
 t0:=Try.underlying0
 a0:=Try.isAgg0
 z0:=Try.sizeOf0
 v0:=Try.zeroValue0
 t3:=Try.underlying3
 a3:=Try.isAgg3
 z3:=Try.sizeOf3
 v3:=Try.zeroValue3
 t4:=Try.underlying4
 a4:=Try.isAgg4
 z4:=Try.sizeOf4
 v4:=Try.zeroValue4
 t5:=Try.underlying5
 a5:=Try.isAgg5
 z5:=Try.sizeOf5
 v5:=Try.zeroValue5
 t9:=Try.underlying9
 a9:=Try.isAgg9
 z9:=Try.sizeOf9
 v9:=Try.zeroValue9
 t22:=Try.underlying22
 a22:=Try.isAgg22
 z22:=Try.sizeOf22
 v22:=Try.zeroValue22
 t25:=Try.underlying56
 a25:=Try.isAgg56
 z25:=Try.sizeOf56
 v25:=Try.zeroValue56
 t39:=Try.underlying66
 a39:=Try.isAgg66
 z39:=Try.sizeOf66
 v39:=Try.zeroValue66
 t45:=Try.underlying69
 a45:=Try.isAgg69
 z45:=Try.sizeOf69
 v45:=Try.zeroValue69
 t46:=Try.underlying70
 a46:=Try.isAgg70
 z46:=Try.sizeOf70
 v46:=Try.zeroValue70
 t50:=Try.underlying74
 a50:=Try.isAgg74
 z50:=Try.sizeOf74
 v50:=Try.zeroValue74
 t53:=Try.underlying77
 a53:=Try.isAgg77
 z53:=Try.sizeOf77
 v53:=Try.zeroValue77
 t55:=Try.underlying79
 a55:=Try.isAgg79
 z55:=Try.sizeOf79
 v55:=Try.zeroValue79
 t66:=Try.underlying80
 a66:=Try.isAgg80
 z66:=Try.sizeOf80
 v66:=Try.zeroValue80
 t70:=Try.underlying84
 a70:=Try.isAgg84
 z70:=Try.sizeOf84
 v70:=Try.zeroValue84
 t76:=Try.underlying86
 a76:=Try.isAgg86
 z76:=Try.sizeOf86
 v76:=Try.zeroValue86
 t77:=Try.underlying87
 a77:=Try.isAgg87
 z77:=Try.sizeOf87
 v77:=Try.zeroValue87}
end Go.Proofs
