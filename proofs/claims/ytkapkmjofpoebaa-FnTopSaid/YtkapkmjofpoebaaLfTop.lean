/- FnTop: the law returns true for every input and leaves its arguments as they were. No conditions. -/
import Derived.Test.YtkapkmjofpoebaaRows
import Derived.Test.YtkapkmjofpoebaaDwTop
import Derived.Test.YtkapkmjofpoebaaAmB
import Derived.Test.YtkapkmjofpoebaaBmB
import Derived.Test.YtkapkmjofpoebaaBmH
import Derived.Test.YtkapkmjofpoebaaAmJ
import Derived.WalkKit
import Derived.ProofKit
import Derived.OpenShut
import Derived.ShutString
import Derived.ChangeOld
import Derived.Below
import Derived.SizedLaws
import Derived.ChangeSlices
namespace Go.Proofs.Ytkapkmjofpoebaa.KN
open Go.ChangeShapes Go.WideShapes Go.ChangeAt Go.RowKit
set_option linter.unusedVariables false
theorem own:ownKnob Try.prog.godebug=none:=by kernel_rfl
theorem laidOut:laidOutB Try.prog=true:=Am.j1
set_option maxRecDepth 100000 in
theorem lifted (os:Os) (started:os.Started) (H:Type) (enc:TypeId×Value→H):
  ReturnsInHanded {} Try.checked os 3 .any (Rows.fnTopSpec.pre6 enc Try.prog Try.f3 Rows.fnTopRow.domain false) (Rows.fnTopSpec.post enc Try.prog Try.f3 false true false false):=by
 refine returnsInHanded_of_change_sized (C:=Try.checked) own started (by kernel_rfl) Try.func3
  (ChangeSpec.witness6 (enc:=enc) (C:=Try.checked) false ⟨#[], #[.slice none 0 0],[]⟩ 8 (by kernel_rfl) (by kernel_rfl) (by kernel_rfl) (by kernel_rfl)) ?_
 intro W base args ds gs before hval0 hW hcnd hsz0 _
 have hval: ∀(j:Nat) t v,Try.f3.params[j]? =some t→args[j]? =some v→Value.okWide Try.prog W .any base t v:=hval0
 have hW':=hW
 obtain ⟨p,q,hA0,hV,rfl,hfz,hnd⟩:=hW
 have hA:DataW.TrodAll enc Try.prog W 0 (fun _=>true) true Try.f3.params.toList args.toList ds p:=hA0
 rw [Try.params3] at hA hval
 obtain ⟨v0,vs0,d0,ds0,p0,q0,hargs,rfl,rfl,h0,r0⟩:=trodAll_cons hA
 obtain ⟨rfl,rfl,rfl⟩:=trodAll_nil r0
 obtain rfl:args= #[v0]:=by cases args;simp_all
 obtain ⟨rfl,rfl⟩:=trodVars_none hV
 have X9:=Am.Ya Am.φ W
 obtain ⟨a0,len0,cap0,rfl⟩:=okWide_slice Try.underlying22 (hval 0 22 v0 rfl rfl)
 have k0:=h0
 have Yb: ∀x∈p0,x.block<W.heap.size:=by obtain ⟨m,hm⟩:=k0;exact DataW.trod_lt m _ _ _ hm
 obtain ⟨z0,w0,bl0,Yc⟩: ∃code,Am.Gj W a0 len0 cap0 code∧code.length≤9223372036854775807∧ ∀i,Bm.nl code i<256:=by
  obtain ⟨fuel,hf⟩:=h0
  exact Am.open_bytes Try.underlying22 Try.underlying5 (by kernel_rfl) hf (by simp [Value.cells])
 obtain ⟨mQ,M0,u0,hst1,he0,hb0,hu0,hx0⟩:=Am.Yd X9 w0
 refine (Am.run (args:=[u0]) hst1 (by kernel_rfl:Am.φ Am.KO=some 3) (Am.bI.cons hu0 Am.bI.nil) (Bm.Ye (Bm.Yf Yc) (Bm.VL.cons (Bm.Yg hx0) Bm.VL.nil))).mono fun e W' ⟨he,bel⟩=>?_
 subst he
 exact ⟨_,rfl,_,_,_,[],_,[],hW',trodAll_mk1 (shut_bool Try.underlying4 _),(trodAll_mk1 (Below.trod laidOut (by kernel_rfl) (of_decide_eq_true (by kernel_rfl)) k0 bel Yb)),rfl,bel.frame _,fun h=>by cases h⟩
theorem k0:(Rows.fnTopRow.wf (OpenSpec.ofChange Rows.fnTopSpec))=true:=by kernel_rfl
theorem k3:(Try.f3.params.all (Try.prog.readableRec ·))=true:=by kernel_rfl
theorem k4:(namedTie Try.prog Rows.fnTopRow.named Rows.fnTopSpec.vars)=true:=by kernel_rfl
theorem k5:((Rows.fnTopRow.stops==[]))=true:=by kernel_rfl
theorem k7:((Rows.fnTopRow.knobs==[]))=true:=by kernel_rfl
theorem k9:((Rows.fnTopRow.inPlace==Try.prog.inPlace 3))=true:=by kernel_rfl
theorem k10:((Rows.fnTopRow.unfollowed==Try.prog.unfollowed 3))=true:=by kernel_rfl
theorem k11:((Rows.fnTopRow.recurses==Try.prog.recurses 3))=true:=by kernel_rfl
theorem k12:((Rows.fnTopRow.named==Try.prog.varsNamed 3))=true:=by kernel_rfl
theorem k13:((Rows.fnTopRow.maps==(Try.f3.params.toList++Rows.fnTopSpec.plain.varTypes Try.prog).any (Try.prog.mapsRec ·)))=true:=by kernel_rfl
theorem k14:((Rows.fnTopRow.ifaces==(Try.f3.params.toList++Rows.fnTopSpec.plain.varTypes Try.prog).any (Try.prog.ifacesRec ·)))=true:=by kernel_rfl
theorem k15:((Rows.fnTopRow.mapsOut==Try.prog.mapsAmong Try.f3.resultTypes.toList))=true:=by kernel_rfl
theorem k16:((Rows.fnTopRow.loops==(Try.f3.params.toList++Rows.fnTopSpec.plain.varTypes Try.prog).any (Try.prog.loopsFrom ·)))=true:=by kernel_rfl
theorem k17:((Rows.fnTopRow.wideKeys==(Try.f3.params.toList++Rows.fnTopSpec.plain.varTypes Try.prog++Try.f3.resultTypes.toList).any (Try.prog.wideKeysFrom ·)))=true:=by kernel_rfl
theorem k18:(Rows.fnTopSpec.vars.all (Try.prog.varReadable ·))=true:=by kernel_rfl
theorem k19:(Try.f3.resultTypes.all (fun t=>Try.prog.readableRec t&&decide (t<Try.prog.types.size)))=true:=by kernel_rfl
theorem k20:((Rows.fnTopRow.ifacesOut==Try.f3.resultTypes.toList.any (Try.prog.ifacesRec ·)))=true:=by kernel_rfl
theorem k21:((Rows.fnTopRow.loopsOut==Try.f3.resultTypes.toList.any (Try.prog.loopsFrom ·)))=true:=by kernel_rfl
theorem k22:((Rows.fnTopRow.plainKeys==Try.prog.plainKeys))=true:=by kernel_rfl
theorem k23:(Rows.fnTopRow.shortTexts.isNone)=true:=by kernel_rfl
theorem k26:((Rows.fnTopRow.lifted==Try.prog.liftsFinal))=true:=by rw [Am.j26];rfl
theorem k27:((Try.prog.make==some Rows.fnTopRow.make))=true:=by rw [Am.j27];rfl
theorem k28:((Rows.fnTopRow.kinds==(if Rows.fnTopRow.domain.isEmpty then [] else Try.f3.params.toList.map fun t=>match Try.prog.underlying t with|some (.int k)=>some k| _=>none)))=true:=by kernel_rfl
theorem k29:((Rows.fnTopRow.pinned==Rows.fnTopRow.pinnedBy))=true:=by kernel_rfl
theorem k30:((Rows.fnTopRow.veiled==(Try.f3.params.toList++Rows.fnTopSpec.plain.varTypes Try.prog++Try.f3.resultTypes.toList).any (Try.prog.veiledRec ·)))=true:=by kernel_rfl
theorem k31:(Rows.fnTopRow.veiledFits Try.prog Try.f3.params.toList (Try.f3.params.toList++Rows.fnTopSpec.plain.varTypes Try.prog++Try.f3.resultTypes.toList))=true:=by kernel_rfl
set_option maxRecDepth 100000 in
theorem closed:joinedFacts Try.prog 3 Try.f3 Rows.fnTopSpec Rows.fnTopRow=true:=by
 unfold joinedFacts
 simp only [Bool.and_eq_true]
 exact ⟨⟨⟨⟨⟨⟨⟨⟨⟨⟨⟨⟨⟨⟨⟨⟨⟨⟨⟨⟨⟨⟨⟨⟨⟨⟨⟨⟨⟨⟨⟨k0,Am.j1⟩,Am.j2⟩,k3⟩,k4⟩,k5⟩,Am.j6⟩,k7⟩,Am.j8⟩,k9⟩,k10⟩,k11⟩,k12⟩,k13⟩,k14⟩,k15⟩,k16⟩,k17⟩,k18⟩,k19⟩,k20⟩,k21⟩,k22⟩,k23⟩,Am.j24⟩,Am.j25⟩,k26⟩,k27⟩,k28⟩,k29⟩,k30⟩,k31⟩
theorem named:Try.prog.funcNamed Rows.fnTopRow.func=some 3:=by kernel_rfl
theorem inst:Try.f3.isInstance Try.prog Rows.fnTopRow.origin Rows.fnTopRow.targs:=of_decide_eq_true (by kernel_rfl)
theorem wrap:Try.f3.isWrapper Try.prog Rows.fnTopRow.wrapper Rows.fnTopRow.mainSum:=by
 unfold Func.isWrapper
 first|(rw [if_pos (by decide+kernel)];kernel_rfl)|(rw [if_neg (by decide+kernel)];exact ⟨rfl,rfl⟩)
theorem over:Rows.fnTopRow.holds Try.pinned (OpenSpec.ofChange Rows.fnTopSpec):=
 OpenClaim.holds_of_wide 3 Try.f3 rfl rfl rfl rfl rfl rfl rfl ⟨rfl,rfl,rfl,rfl,rfl⟩ rfl rfl rfl rfl rfl named Try.func3 closed inst wrap (fun os started H enc _=>lifted os started H enc)
end Go.Proofs.Ytkapkmjofpoebaa.KN
namespace Go.Proofs.Ytkapkmjofpoebaa
theorem fnTop_holds:Rows.FnTopSaid:=KN.over
#print axioms fnTop_holds
end Go.Proofs.Ytkapkmjofpoebaa
