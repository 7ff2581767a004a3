/- Facts of the whole program that each row asks for. -/
import Derived.Test.YtkapkmjofpoebaaGreatAmB
import Derived.WalkKit
import Derived.ProofKit
import Derived.OpenShut
namespace Go.Am
open Go Go.RowKit
theorem j1:(laidOutB Go.Proofs.Tryz.prog)=true:=by kernel_rfl
theorem j2:(mapsRowed Go.Proofs.Tryz.prog)=true:=by kernel_rfl
theorem j6:(Go.Proofs.Tryz.prog.stops==[])=true:=by kernel_rfl
theorem j8:(Go.Proofs.Tryz.prog.stopKnobs==[])=true:=by kernel_rfl
theorem j24:(Go.Proofs.Tryz.prog.stopsHeard)=true:=by kernel_rfl
theorem Ib (b:List Char): ∀a:List Char,(a.all fun c=> !(c==Char.ofNat 32))=true→wordsSigns (a++Char.ofNat 32::b)=a::wordsSigns b
 |[],_=>by
  show wordsSigns (Char.ofNat 32::b)=_
  rw [wordsSigns]
 |c::a,h=>by
  simp only [List.all_cons,Bool.and_eq_true] at h
  have ih:=Ib b a h.2
  have hc:c≠Char.ofNat 32:=fun e=>by rw [e] at h;simp at h
  show wordsSigns (c::(a++Char.ofNat 32::b))=_
  rw [wordsSigns]
  ·rw [ih]
  ·exact hc
theorem adS {P:Program} {s r cs:List Char} (h0:P.initOrder=String.ofList cs) (h:cs= "harness".toList++Char.ofNat 32::(s++Char.ofNat 32::("cut".toList++Char.ofNat 32::r))) (hs:isSumSigns s=true) (hns:(s.all fun c=> !(c==Char.ofNat 32))=true):
  behindMainWord (wordsSigns P.initOrder.toList)= "cut".toList::wordsSigns r:=by
 have e:wordsSigns P.initOrder.toList= "harness".toList::s:: "cut".toList::wordsSigns r:=by
  rw [h0,String.toList_ofList,h,Ib _ _ (by decide),Ib _ _ hns,Ib _ _ (by decide)]
 rw [e]
 simp [behindMainWord,hs]
theorem SK (w:List (List Char)):stripLifts liftWords ("cut".toList::w)=([], "cut".toList::w):=by simp [stripLifts,liftWords]
theorem adT {P:Program} {r:List Char} (h:behindMainWord (wordsSigns P.initOrder.toList)= "cut".toList::wordsSigns r) (h1:P.laysLater=false) (h2:P.bearsReflect=false) (h3:P.doorRows=[]):P.mayEnter=true:=by
 unfold Program.mayEnter
 rw [h]
 simp only [SK]
 simp [h1,h2,Program.doorFits,h3]
theorem adU {P:Program} {r:List Char} (h:behindMainWord (wordsSigns P.initOrder.toList)= "cut".toList::wordsSigns r):P.liftsFinal=false:=by
 unfold Program.liftsFinal Program.headLifts
 rw [h]
 simp only [SK]
 simp
theorem adV {P:Program} {r:List Char} (h:behindMainWord (wordsSigns P.initOrder.toList)= "cut".toList::wordsSigns r):P.make=some .cut:=by
 unfold Program.make
 rw [h]
 simp
def MV:List Char:=[104,97,114,110,101,115,115,32,53,97,51,51,102,53,49,55,51,102,55,57,98,52,51,55,97,99,102,52,48,97,97,100,102,99,56,101,102,99,98,98,53,50,102,48,52,53,49,98,98,99,54,56,98,57,51,101,102,53,48,98,102,55,53,99,52,97,101,56,55,98,53,57,32,99,117,116,32,97,116,32,108,111,111,112,46,101,120,97,109,112,108,101,47,103,48,49,50,48,48,47,108,97,119,115,46,70,110,84,114,101,101,67,111,117,110,116,115].map Char.ofNat
theorem adW:Go.Proofs.Tryz.prog.initOrder=String.ofList MV:=by kernel_rfl
theorem MW:behindMainWord (wordsSigns Go.Proofs.Tryz.prog.initOrder.toList)= "cut".toList::wordsSigns (MV.drop 77):=adS (s:=(MV.drop 8).take 64) adW (by kernel_rfl) (by kernel_rfl) (by kernel_rfl)
theorem j25:(Go.Proofs.Tryz.prog.mayEnter)=true:=adT MW (by kernel_rfl) (by kernel_rfl) (by kernel_rfl)
theorem j26:Go.Proofs.Tryz.prog.liftsFinal=false:=adU MW
theorem j27:Go.Proofs.Tryz.prog.make=some .cut:=adV MW
end Go.Am
