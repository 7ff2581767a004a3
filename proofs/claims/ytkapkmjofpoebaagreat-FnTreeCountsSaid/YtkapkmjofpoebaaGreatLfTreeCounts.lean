/- FnTreeCounts: the law returns true for every input and leaves its arguments as they were. No conditions. -/
import Derived.Test.YtkapkmjofpoebaaGreatRows
import Derived.Test.YtkapkmjofpoebaaGreatDwTreeCounts
import Derived.Test.YtkapkmjofpoebaaGreatAmB
import Derived.Test.YtkapkmjofpoebaaGreatBmB
import Derived.Test.YtkapkmjofpoebaaGreatBmH
import Derived.Test.YtkapkmjofpoebaaGreatAmJ
import Derived.WalkKit
import Derived.ProofKit
import Derived.OpenShut
import Derived.ShutString
import Derived.ChangeOld
import Derived.Below
import Derived.SizedLaws
import Derived.ChangeSlices
namespace Go.Proofs.YtkapkmjofpoebaaGreat.SH
open Go.ChangeShapes Go.WideShapes Go.ChangeAt Go.RowKit
set_option linter.unusedVariables false
theorem own:ownKnob Tryz.prog.godebug=none:=by kernel_rfl
theorem laidOut:laidOutB Tryz.prog=true:=Am.j1
set_option maxRecDepth 100000 in
theorem lifted (os:Os) (started:os.Started) (H:Type) (enc:TypeId×Value→H):
  ReturnsInHanded {} Tryz.checked os 3 .any (Rows.fnTreeCountsSpec.pre6 enc Tryz.prog Tryz.f3 Rows.fnTreeCountsRow.domain false) (Rows.fnTreeCountsSpec.post enc Tryz.prog Tryz.f3 false true false false):=by
 refine returnsInHanded_of_change_sized (C:=Tryz.checked) own started (by kernel_rfl) Tryz.func3
  (ChangeSpec.witness6 (enc:=enc) (C:=Tryz.checked) false ⟨#[], #[.slice none 0 0],[]⟩ 8 (by kernel_rfl) (by kernel_rfl) (by kernel_rfl) (by kernel_rfl)) ?_
 intro W base args ds gs before hval0 hW hcnd hsz0 _
 have hval: ∀(j:Nat) t v,Tryz.f3.params[j]? =some t→args[j]? =some v→Value.okWide Tryz.prog W .any base t v:=hval0
 have hW':=hW
 obtain ⟨p,q,hA0,hV,rfl,hfz,hnd⟩:=hW
 have hA:DataW.TrodAll enc Tryz.prog W 0 (fun _=>true) true Tryz.f3.params.toList args.toList ds p:=hA0
 rw [Tryz.params3] at hA hval
 obtain ⟨v0,vs0,d0,ds0,p0,q0,hargs,rfl,rfl,h0,r0⟩:=trodAll_cons hA
 obtain ⟨rfl,rfl,rfl⟩:=trodAll_nil r0
 obtain rfl:args= #[v0]:=by cases args;simp_all
 obtain ⟨rfl,rfl⟩:=trodVars_none hV
 have MQ:=Am.adN Am.φ W
 obtain ⟨a0,len0,cap0,rfl⟩:=okWide_slice Tryz.underlying22 (hval 0 22 v0 rfl rfl)
 have k0:=h0
 have lt0: ∀x∈p0,x.block<W.heap.size:=by obtain ⟨m,hm⟩:=k0;exact DataW.trod_lt m _ _ _ hm
 obtain ⟨z0,w0,bl0,bm0⟩: ∃code,Am.MR W a0 len0 cap0 code∧code.length≤9223372036854775807∧ ∀i,Bm.nl code i<256:=by
  obtain ⟨fuel,hf⟩:=h0
  exact Am.open_bytes Tryz.underlying22 Tryz.underlying5 (by kernel_rfl) hf (by simp [Value.cells])
 obtain ⟨qW,M0,u0,hst1,he0,hb0,hu0,hx0⟩:=Am.adO MQ w0
 refine (Am.run (args:=[u0]) hst1 (by kernel_rfl:Am.φ Am.SI=some 3) (Am.bZ.cons hu0 Am.bZ.nil) (Bm.adP (Bm.adQ bm0) (Bm.VL.cons (Bm.adR hx0) Bm.VL.nil))).mono fun e W' ⟨he,bel⟩=>?_
 subst he
 exact ⟨_,rfl,_,_,_,[],_,[],hW',trodAll_mk1 (shut_bool Tryz.underlying4 _),(trodAll_mk1 (Below.trod laidOut (by kernel_rfl) (of_decide_eq_true (by kernel_rfl)) k0 bel lt0)),rfl,bel.frame _,fun h=>by cases h⟩
theorem k0:(Rows.fnTreeCountsRow.wf (OpenSpec.ofChange Rows.fnTreeCountsSpec))=true:=by kernel_rfl
theorem k3:(Tryz.f3.params.all (Tryz.prog.readableRec ·))=true:=by kernel_rfl
theorem k4:(namedTie Tryz.prog Rows.fnTreeCountsRow.named Rows.fnTreeCountsSpec.vars)=true:=by kernel_rfl
theorem k5:((Rows.fnTreeCountsRow.stops==[]))=true:=by kernel_rfl
theorem k7:((Rows.fnTreeCountsRow.knobs==[]))=true:=by kernel_rfl
theorem k9:((Rows.fnTreeCountsRow.inPlace==Tryz.prog.inPlace 3))=true:=by kernel_rfl
theorem k10:((Rows.fnTreeCountsRow.unfollowed==Tryz.prog.unfollowed 3))=true:=by kernel_rfl
theorem k11:((Rows.fnTreeCountsRow.recurses==Tryz.prog.recurses 3))=true:=by kernel_rfl
theorem k12:((Rows.fnTreeCountsRow.named==Tryz.prog.varsNamed 3))=true:=by kernel_rfl
theorem k13:((Rows.fnTreeCountsRow.maps==(Tryz.f3.params.toList++Rows.fnTreeCountsSpec.plain.varTypes Tryz.prog).any (Tryz.prog.mapsRec ·)))=true:=by kernel_rfl
theorem k14:((Rows.fnTreeCountsRow.ifaces==(Tryz.f3.params.toList++Rows.fnTreeCountsSpec.plain.varTypes Tryz.prog).any (Tryz.prog.ifacesRec ·)))=true:=by kernel_rfl
theorem k15:((Rows.fnTreeCountsRow.mapsOut==Tryz.prog.mapsAmong Tryz.f3.resultTypes.toList))=true:=by kernel_rfl
theorem k16:((Rows.fnTreeCountsRow.loops==(Tryz.f3.params.toList++Rows.fnTreeCountsSpec.plain.varTypes Tryz.prog).any (Tryz.prog.loopsFrom ·)))=true:=by kernel_rfl
theorem k17:((Rows.fnTreeCountsRow.wideKeys==(Tryz.f3.params.toList++Rows.fnTreeCountsSpec.plain.varTypes Tryz.prog++Tryz.f3.resultTypes.toList).any (Tryz.prog.wideKeysFrom ·)))=true:=by kernel_rfl
theorem k18:(Rows.fnTreeCountsSpec.vars.all (Tryz.prog.varReadable ·))=true:=by kernel_rfl
theorem k19:(Tryz.f3.resultTypes.all (fun t=>Tryz.prog.readableRec t&&decide (t<Tryz.prog.types.size)))=true:=by kernel_rfl
theorem k20:((Rows.fnTreeCountsRow.ifacesOut==Tryz.f3.resultTypes.toList.any (Tryz.prog.ifacesRec ·)))=true:=by kernel_rfl
theorem k21:((Rows.fnTreeCountsRow.loopsOut==Tryz.f3.resultTypes.toList.any (Tryz.prog.loopsFrom ·)))=true:=by kernel_rfl
theorem k22:((Rows.fnTreeCountsRow.plainKeys==Tryz.prog.plainKeys))=true:=by kernel_rfl
theorem k23:(Rows.fnTreeCountsRow.shortTexts.isNone)=true:=by kernel_rfl
theorem k26:((Rows.fnTreeCountsRow.lifted==Tryz.prog.liftsFinal))=true:=by rw [Am.j26];rfl
theorem k27:((Tryz.prog.make==some Rows.fnTreeCountsRow.make))=true:=by rw [Am.j27];rfl
theorem k28:((Rows.fnTreeCountsRow.kinds==(if Rows.fnTreeCountsRow.domain.isEmpty then [] else Tryz.f3.params.toList.map fun t=>match Tryz.prog.underlying t with|some (.int k)=>some k| _=>none)))=true:=by kernel_rfl
theorem k29:((Rows.fnTreeCountsRow.pinned==Rows.fnTreeCountsRow.pinnedBy))=true:=by kernel_rfl
theorem k30:((Rows.fnTreeCountsRow.veiled==(Tryz.f3.params.toList++Rows.fnTreeCountsSpec.plain.varTypes Tryz.prog++Tryz.f3.resultTypes.toList).any (Tryz.prog.veiledRec ·)))=true:=by kernel_rfl
theorem k31:(Rows.fnTreeCountsRow.veiledFits Tryz.prog Tryz.f3.params.toList (Tryz.f3.params.toList++Rows.fnTreeCountsSpec.plain.varTypes Tryz.prog++Tryz.f3.resultTypes.toList))=true:=by kernel_rfl
set_option maxRecDepth 100000 in
theorem closed:joinedFacts Tryz.prog 3 Tryz.f3 Rows.fnTreeCountsSpec Rows.fnTreeCountsRow=true:=by
 unfold joinedFacts
 simp only [Bool.and_eq_true]
 exact ⟨⟨⟨⟨⟨⟨⟨⟨⟨⟨⟨⟨⟨⟨⟨⟨⟨⟨⟨⟨⟨⟨⟨⟨⟨⟨⟨⟨⟨⟨⟨k0,Am.j1⟩,Am.j2⟩,k3⟩,k4⟩,k5⟩,Am.j6⟩,k7⟩,Am.j8⟩,k9⟩,k10⟩,k11⟩,k12⟩,k13⟩,k14⟩,k15⟩,k16⟩,k17⟩,k18⟩,k19⟩,k20⟩,k21⟩,k22⟩,k23⟩,Am.j24⟩,Am.j25⟩,k26⟩,k27⟩,k28⟩,k29⟩,k30⟩,k31⟩
theorem named:Tryz.prog.funcNamed Rows.fnTreeCountsRow.func=some 3:=by kernel_rfl
theorem inst:Tryz.f3.isInstance Tryz.prog Rows.fnTreeCountsRow.origin Rows.fnTreeCountsRow.targs:=of_decide_eq_true (by kernel_rfl)
theorem wrap:Tryz.f3.isWrapper Tryz.prog Rows.fnTreeCountsRow.wrapper Rows.fnTreeCountsRow.mainSum:=by
 unfold Func.isWrapper
 first|(rw [if_pos (by decide+kernel)];kernel_rfl)|(rw [if_neg (by decide+kernel)];exact ⟨rfl,rfl⟩)
theorem over:Rows.fnTreeCountsRow.holds Tryz.pinned (OpenSpec.ofChange Rows.fnTreeCountsSpec):=
 OpenClaim.holds_of_wide 3 Tryz.f3 rfl rfl rfl rfl rfl rfl rfl ⟨rfl,rfl,rfl,rfl,rfl⟩ rfl rfl rfl rfl rfl named Tryz.func3 closed inst wrap (fun os started H enc _=>lifted os started H enc)
end Go.Proofs.YtkapkmjofpoebaaGreat.SH
namespace Go.Proofs.YtkapkmjofpoebaaGreat
theorem fnTreeCounts_holds:Rows.FnTreeCountsSaid:=SH.over
#print axioms fnTreeCounts_holds
end Go.Proofs.YtkapkmjofpoebaaGreat
