/- FnExactAllDessins: the law returns true for every input and leaves its arguments as they were. No conditions. -/
import Derived.Test.YtbpfbfbabpkceaaRows
import Derived.Test.YtbpfbfbabpkceaaDwAllDessins
import Derived.Test.YtbpfbfbabpkceaaAmB
import Derived.Test.YtbpfbfbabpkceaaBmB
import Derived.Test.YtbpfbfbabpkceaaAmJ
import Derived.WalkKit
import Derived.ProofKit
import Derived.OpenShut
import Derived.ShutString
import Derived.ChangeOld
import Derived.Below
import Derived.SizedLaws
import Derived.ChangeSlices
namespace Go.Proofs.Ytbpfbfbabpkceaa.Bl
open Go.ChangeShapes Go.WideShapes Go.ChangeAt Go.RowKit
set_option linter.unusedVariables false
theorem own:ownKnob Try.prog.godebug=none:=by kernel_rfl
theorem laidOut:laidOutB Try.prog=true:=Am.j1
set_option maxRecDepth 100000 in
theorem lifted (os:Os) (started:os.Started) (H:Type) (enc:TypeId×Value→H):
  ReturnsInHanded {} Try.checked os 3 .any (Rows.fnExactAllDessinsSpec.pre6 enc Try.prog Try.f3 Rows.fnExactAllDessinsRow.domain false) (Rows.fnExactAllDessinsSpec.post enc Try.prog Try.f3 false true false false):=by
 refine returnsInHanded_of_change_sized (C:=Try.checked) own started (by kernel_rfl) Try.func3
  (ChangeSpec.witness6 (enc:=enc) (C:=Try.checked) false ⟨#[], #[.int .i64 0],[]⟩ 8 (by kernel_rfl) (by kernel_rfl) (by kernel_rfl) (by kernel_rfl)) ?_
 intro W base args ds gs before hval0 hW hcnd hsz0 _
 have hval: ∀(j:Nat) t v,Try.f3.params[j]? =some t→args[j]? =some v→Value.okWide Try.prog W .any base t v:=hval0
 have hW':=hW
 obtain ⟨p,q,hA0,hV,rfl,hfz,hnd⟩:=hW
 have hA:DataW.TrodAll enc Try.prog W 0 (fun _=>true) true Try.f3.params.toList args.toList ds p:=hA0
 rw [Try.params3] at hA hval
 obtain ⟨v0,VD,d0,ds0,p0,q0,hargs,rfl,rfl,h0,r0⟩:=trodAll_cons hA
 obtain ⟨rfl,rfl,rfl⟩:=trodAll_nil r0
 obtain rfl:args= #[v0]:=by cases args;simp_all
 obtain ⟨rfl,rfl⟩:=trodVars_none hV
 have wW:=Am.NR Am.φ W
 obtain ⟨a0,rfl,rfl,rfl,w0⟩:=open_int Try.underlying2 (hval 0 2 v0 rfl rfl) h0
 have b0:=Am.wf64 w0
 refine (Am.run (args:=[Am.I a0]) wW (by kernel_rfl:Am.φ Am.wX=some 3) (Am.VRL.cons (.plain rfl) Am.VRL.nil) (Bm.NS (Bm.wY b0) (Bm.VL.cons (.z (.plain rfl)) Bm.VL.nil))).mono fun e W' ⟨he,bel⟩=>?_
 subst he
 exact ⟨_,rfl,_,_,_,[],_,[],hW',trodAll_mk1 (shut_bool Try.underlying4 _),(trodAll_mk1 (shut_int Try.underlying2 w0)),rfl,bel.frame _,fun h=>by cases h⟩
theorem k0:(Rows.fnExactAllDessinsRow.wf (OpenSpec.ofChange Rows.fnExactAllDessinsSpec))=true:=by kernel_rfl
theorem k3:(Try.f3.params.all (Try.prog.readableRec ·))=true:=by kernel_rfl
theorem k4:(namedTie Try.prog Rows.fnExactAllDessinsRow.named Rows.fnExactAllDessinsSpec.vars)=true:=by kernel_rfl
theorem k5:((Rows.fnExactAllDessinsRow.stops==[]))=true:=by kernel_rfl
theorem k7:((Rows.fnExactAllDessinsRow.knobs==[]))=true:=by kernel_rfl
theorem k9:((Rows.fnExactAllDessinsRow.inPlace==Try.prog.inPlace 3))=true:=by kernel_rfl
theorem k10:((Rows.fnExactAllDessinsRow.unfollowed==Try.prog.unfollowed 3))=true:=by kernel_rfl
theorem k11:((Rows.fnExactAllDessinsRow.recurses==Try.prog.recurses 3))=true:=by kernel_rfl
theorem k12:((Rows.fnExactAllDessinsRow.named==Try.prog.varsNamed 3))=true:=by kernel_rfl
theorem k13:((Rows.fnExactAllDessinsRow.maps==(Try.f3.params.toList++Rows.fnExactAllDessinsSpec.plain.varTypes Try.prog).any (Try.prog.mapsRec ·)))=true:=by kernel_rfl
theorem k14:((Rows.fnExactAllDessinsRow.ifaces==(Try.f3.params.toList++Rows.fnExactAllDessinsSpec.plain.varTypes Try.prog).any (Try.prog.ifacesRec ·)))=true:=by kernel_rfl
theorem k15:((Rows.fnExactAllDessinsRow.mapsOut==Try.prog.mapsAmong Try.f3.resultTypes.toList))=true:=by kernel_rfl
theorem k16:((Rows.fnExactAllDessinsRow.loops==(Try.f3.params.toList++Rows.fnExactAllDessinsSpec.plain.varTypes Try.prog).any (Try.prog.loopsFrom ·)))=true:=by kernel_rfl
theorem k17:((Rows.fnExactAllDessinsRow.wideKeys==(Try.f3.params.toList++Rows.fnExactAllDessinsSpec.plain.varTypes Try.prog++Try.f3.resultTypes.toList).any (Try.prog.wideKeysFrom ·)))=true:=by kernel_rfl
theorem k18:(Rows.fnExactAllDessinsSpec.vars.all (Try.prog.varReadable ·))=true:=by kernel_rfl
theorem k19:(Try.f3.resultTypes.all (fun t=>Try.prog.readableRec t&&decide (t<Try.prog.types.size)))=true:=by kernel_rfl
theorem k20:((Rows.fnExactAllDessinsRow.ifacesOut==Try.f3.resultTypes.toList.any (Try.prog.ifacesRec ·)))=true:=by kernel_rfl
theorem k21:((Rows.fnExactAllDessinsRow.loopsOut==Try.f3.resultTypes.toList.any (Try.prog.loopsFrom ·)))=true:=by kernel_rfl
theorem k22:((Rows.fnExactAllDessinsRow.plainKeys==Try.prog.plainKeys))=true:=by kernel_rfl
theorem k23:(Rows.fnExactAllDessinsRow.shortTexts.isNone)=true:=by kernel_rfl
theorem k26:((Rows.fnExactAllDessinsRow.lifted==Try.prog.liftsFinal))=true:=by rw [Am.j26];rfl
theorem k27:((Try.prog.make==some Rows.fnExactAllDessinsRow.make))=true:=by rw [Am.j27];rfl
theorem k28:((Rows.fnExactAllDessinsRow.kinds==(if Rows.fnExactAllDessinsRow.domain.isEmpty then [] else Try.f3.params.toList.map fun t=>match Try.prog.underlying t with|some (.int k)=>some k| _=>none)))=true:=by kernel_rfl
theorem k29:((Rows.fnExactAllDessinsRow.pinned==Rows.fnExactAllDessinsRow.pinnedBy))=true:=by kernel_rfl
theorem k30:((Rows.fnExactAllDessinsRow.veiled==(Try.f3.params.toList++Rows.fnExactAllDessinsSpec.plain.varTypes Try.prog++Try.f3.resultTypes.toList).any (Try.prog.veiledRec ·)))=true:=by kernel_rfl
theorem k31:(Rows.fnExactAllDessinsRow.veiledFits Try.prog Try.f3.params.toList (Try.f3.params.toList++Rows.fnExactAllDessinsSpec.plain.varTypes Try.prog++Try.f3.resultTypes.toList))=true:=by kernel_rfl
set_option maxRecDepth 100000 in
theorem closed:joinedFacts Try.prog 3 Try.f3 Rows.fnExactAllDessinsSpec Rows.fnExactAllDessinsRow=true:=by
 unfold joinedFacts
 simp only [Bool.and_eq_true]
 exact ⟨⟨⟨⟨⟨⟨⟨⟨⟨⟨⟨⟨⟨⟨⟨⟨⟨⟨⟨⟨⟨⟨⟨⟨⟨⟨⟨⟨⟨⟨⟨k0,Am.j1⟩,Am.j2⟩,k3⟩,k4⟩,k5⟩,Am.j6⟩,k7⟩,Am.j8⟩,k9⟩,k10⟩,k11⟩,k12⟩,k13⟩,k14⟩,k15⟩,k16⟩,k17⟩,k18⟩,k19⟩,k20⟩,k21⟩,k22⟩,k23⟩,Am.j24⟩,Am.j25⟩,k26⟩,k27⟩,k28⟩,k29⟩,k30⟩,k31⟩
theorem named:Try.prog.funcNamed Rows.fnExactAllDessinsRow.func=some 3:=by kernel_rfl
theorem inst:Try.f3.isInstance Try.prog Rows.fnExactAllDessinsRow.origin Rows.fnExactAllDessinsRow.targs:=of_decide_eq_true (by kernel_rfl)
theorem wrap:Try.f3.isWrapper Try.prog Rows.fnExactAllDessinsRow.wrapper Rows.fnExactAllDessinsRow.mainSum:=by
 unfold Func.isWrapper
 first|(rw [if_pos (by decide+kernel)];kernel_rfl)|(rw [if_neg (by decide+kernel)];exact ⟨rfl,rfl⟩)
theorem over:Rows.fnExactAllDessinsRow.holds Try.pinned (OpenSpec.ofChange Rows.fnExactAllDessinsSpec):=
 OpenClaim.holds_of_wide 3 Try.f3 rfl rfl rfl rfl rfl rfl rfl ⟨rfl,rfl,rfl,rfl,rfl⟩ rfl rfl rfl rfl rfl named Try.func3 closed inst wrap (fun os started H enc _=>lifted os started H enc)
end Go.Proofs.Ytbpfbfbabpkceaa.Bl
namespace Go.Proofs.Ytbpfbfbabpkceaa
theorem fnExactAllDessins_holds:Rows.FnExactAllDessinsSaid:=Bl.over
#print axioms fnExactAllDessins_holds
end Go.Proofs.Ytbpfbfbabpkceaa
