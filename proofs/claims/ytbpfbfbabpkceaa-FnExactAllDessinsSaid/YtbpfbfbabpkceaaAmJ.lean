/- Facts of the whole program that each row asks for. -/
import Derived.Test.YtbpfbfbabpkceaaAmB
import Derived.WalkKit
import Derived.ProofKit
import Derived.OpenShut
namespace Go.Am
open Go Go.RowKit
theorem j1:(laidOutB Go.Proofs.Try.prog)=true:=by kernel_rfl
theorem j2:(mapsRowed Go.Proofs.Try.prog)=true:=by kernel_rfl
theorem j6:(Go.Proofs.Try.prog.stops==[])=true:=by kernel_rfl
theorem j8:(Go.Proofs.Try.prog.stopKnobs==[])=true:=by kernel_rfl
theorem j24:(Go.Proofs.Try.prog.stopsHeard)=true:=by kernel_rfl
theorem rH (b:List Char): ∀a:List Char,(a.all fun c=> !(c==Char.ofNat 32))=true→wordsSigns (a++Char.ofNat 32::b)=a::wordsSigns b
 |[],_=>by
  show wordsSigns (Char.ofNat 32::b)=_
  rw [wordsSigns]
 |c::a,h=>by
  simp only [List.all_cons,Bool.and_eq_true] at h
  have ih:=rH b a h.2
  have hc:c≠Char.ofNat 32:=fun e=>by rw [e] at h;simp at h
  show wordsSigns (c::(a++Char.ofNat 32::b))=_
  rw [wordsSigns]
  ·rw [ih]
  ·exact hc
theorem NT {P:Program} {s r cs:List Char} (h0:P.initOrder=String.ofList cs) (h:cs= "harness".toList++Char.ofNat 32::(s++Char.ofNat 32::("cut".toList++Char.ofNat 32::r))) (hs:isSumSigns s=true) (hns:(s.all fun c=> !(c==Char.ofNat 32))=true):
  behindMainWord (wordsSigns P.initOrder.toList)= "cut".toList::wordsSigns r:=by
 have e:wordsSigns P.initOrder.toList= "harness".toList::s:: "cut".toList::wordsSigns r:=by
  rw [h0,String.toList_ofList,h,rH _ _ (by decide),rH _ _ hns,rH _ _ (by decide)]
 rw [e]
 simp [behindMainWord,hs]
theorem Bo (w:List (List Char)):stripLifts liftWords ("cut".toList::w)=([], "cut".toList::w):=by simp [stripLifts,liftWords]
theorem NU {P:Program} {r:List Char} (h:behindMainWord (wordsSigns P.initOrder.toList)= "cut".toList::wordsSigns r) (h1:P.laysLater=false) (h2:P.bearsReflect=false) (h3:P.doorRows=[]):P.mayEnter=true:=by
 unfold Program.mayEnter
 rw [h]
 simp only [Bo]
 simp [h1,h2,Program.doorFits,h3]
theorem NV {P:Program} {r:List Char} (h:behindMainWord (wordsSigns P.initOrder.toList)= "cut".toList::wordsSigns r):P.liftsFinal=false:=by
 unfold Program.liftsFinal Program.headLifts
 rw [h]
 simp only [Bo]
 simp
theorem NW {P:Program} {r:List Char} (h:behindMainWord (wordsSigns P.initOrder.toList)= "cut".toList::wordsSigns r):P.make=some .cut:=by
 unfold Program.make
 rw [h]
 simp
def wZ:List Char:=[104,97,114,110,101,115,115,32,53,55,56,53,101,49,55,53,57,97,55,51,51,54,55,99,97,100,52,54,97,54,101,102,100,52,57,49,102,101,54,54,57,52,53,53,55,57,57,49,102,57,55,56,52,55,100,97,100,49,49,102,102,98,97,50,56,55,102,55,102,48,53,99,32,99,117,116,32,97,116,32,108,111,111,112,46,101,120,97,109,112,108,101,47,103,48,49,50,48,48,47,108,97,119,115,46,70,110,69,120,97,99,116,65,108,108,68,101,115,115,105,110,115].map Char.ofNat
theorem NY:Go.Proofs.Try.prog.initOrder=String.ofList wZ:=by kernel_rfl
theorem xg:behindMainWord (wordsSigns Go.Proofs.Try.prog.initOrder.toList)= "cut".toList::wordsSigns (wZ.drop 77):=NT (s:=(wZ.drop 8).take 64) NY (by kernel_rfl) (by kernel_rfl) (by kernel_rfl)
theorem j25:(Go.Proofs.Try.prog.mayEnter)=true:=NU xg (by kernel_rfl) (by kernel_rfl) (by kernel_rfl)
theorem j26:Go.Proofs.Try.prog.liftsFinal=false:=NV xg
theorem j27:Go.Proofs.Try.prog.make=some .cut:=NW xg
end Go.Am
