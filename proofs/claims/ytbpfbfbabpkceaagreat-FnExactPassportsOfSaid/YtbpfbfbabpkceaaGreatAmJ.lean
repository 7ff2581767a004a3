/- Facts of the whole program that each row asks for. -/
import Derived.Test.YtbpfbfbabpkceaaGreatAmB
import Derived.WalkKit
import Derived.ProofKit
import Derived.OpenShut
namespace Go.Am
open Go Go.RowKit
theorem j1:(laidOutB Go.Proofs.Tryz.prog)=true:=by kernel_rfl
theorem j2:(mapsRowed Go.Proofs.Tryz.prog)=true:=by kernel_rfl
theorem j6:(Go.Proofs.Tryz.prog.stops==[])=true:=by kernel_rfl
theorem j8:(Go.Proofs.Tryz.prog.stopKnobs==[])=true:=by kernel_rfl
theorem j24:(Go.Proofs.Tryz.prog.stopsHeard)=true:=by kernel_rfl
theorem zX (b:List Char): ∀a:List Char,(a.all fun c=> !(c==Char.ofNat 32))=true→wordsSigns (a++Char.ofNat 32::b)=a::wordsSigns b
 |[],_=>by
  show wordsSigns (Char.ofNat 32::b)=_
  rw [wordsSigns]
 |c::a,h=>by
  simp only [List.all_cons,Bool.and_eq_true] at h
  have ih:=zX b a h.2
  have hc:c≠Char.ofNat 32:=fun e=>by rw [e] at h;simp at h
  show wordsSigns (c::(a++Char.ofNat 32::b))=_
  rw [wordsSigns]
  ·rw [ih]
  ·exact hc
theorem WL {P:Program} {s r cs:List Char} (h0:P.initOrder=String.ofList cs) (h:cs= "harness".toList++Char.ofNat 32::(s++Char.ofNat 32::("cut".toList++Char.ofNat 32::r))) (hs:isSumSigns s=true) (hns:(s.all fun c=> !(c==Char.ofNat 32))=true):
  behindMainWord (wordsSigns P.initOrder.toList)= "cut".toList::wordsSigns r:=by
 have e:wordsSigns P.initOrder.toList= "harness".toList::s:: "cut".toList::wordsSigns r:=by
  rw [h0,String.toList_ofList,h,zX _ _ (by decide),zX _ _ hns,zX _ _ (by decide)]
 rw [e]
 simp [behindMainWord,hs]
theorem Jy (w:List (List Char)):stripLifts liftWords ("cut".toList::w)=([], "cut".toList::w):=by simp [stripLifts,liftWords]
theorem WM {P:Program} {r:List Char} (h:behindMainWord (wordsSigns P.initOrder.toList)= "cut".toList::wordsSigns r) (h1:P.laysLater=false) (h2:P.bearsReflect=false) (h3:P.doorRows=[]):P.mayEnter=true:=by
 unfold Program.mayEnter
 rw [h]
 simp only [Jy]
 simp [h1,h2,Program.doorFits,h3]
theorem WO {P:Program} {r:List Char} (h:behindMainWord (wordsSigns P.initOrder.toList)= "cut".toList::wordsSigns r):P.liftsFinal=false:=by
 unfold Program.liftsFinal Program.headLifts
 rw [h]
 simp only [Jy]
 simp
theorem WQ {P:Program} {r:List Char} (h:behindMainWord (wordsSigns P.initOrder.toList)= "cut".toList::wordsSigns r):P.make=some .cut:=by
 unfold Program.make
 rw [h]
 simp
def Eu:List Char:=[104,97,114,110,101,115,115,32,97,52,54,55,52,50,54,100,100,52,56,99,55,97,52,53,102,55,52,97,48,97,48,102,99,55,49,56,57,50,49,102,98,49,57,99,50,54,54,57,54,99,100,49,101,52,51,101,99,55,55,55,99,100,51,101,51,98,99,53,98,57,56,56,32,99,117,116,32,97,116,32,108,111,111,112,46,101,120,97,109,112,108,101,47,103,48,49,50,48,48,47,108,97,119,115,46,70,110,69,120,97,99,116,80,97,115,115,112,111,114,116,115,79,102,32,108,111,111,112,46,101,120,97,109,112,108,101,47,103,48,49,50,48,48,47,108,97,119,115,46,70,110,69,120,97,99,116,68,101,115,115,105,110,115,79,102,32,108,111,111,112,46,101,120,97,109,112,108,101,47,103,48,49,50,48,48,47,108,97,119,115,46,70,110,68,101,115,115,105,110,76,105,115,116,115].map Char.ofNat
theorem WR:Go.Proofs.Tryz.prog.initOrder=String.ofList Eu:=by kernel_rfl
theorem Ew:behindMainWord (wordsSigns Go.Proofs.Tryz.prog.initOrder.toList)= "cut".toList::wordsSigns (Eu.drop 77):=WL (s:=(Eu.drop 8).take 64) WR (by kernel_rfl) (by kernel_rfl) (by kernel_rfl)
theorem j25:(Go.Proofs.Tryz.prog.mayEnter)=true:=WM Ew (by kernel_rfl) (by kernel_rfl) (by kernel_rfl)
theorem j26:Go.Proofs.Tryz.prog.liftsFinal=false:=WO Ew
theorem j27:Go.Proofs.Tryz.prog.make=some .cut:=WQ Ew
end Go.Am
