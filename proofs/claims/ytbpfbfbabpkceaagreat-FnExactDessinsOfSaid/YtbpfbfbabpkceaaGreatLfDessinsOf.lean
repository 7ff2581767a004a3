/- FnExactDessinsOf: the law returns true for every input and leaves its arguments as they were. No conditions. -/
import Derived.Test.YtbpfbfbabpkceaaGreatRows
import Derived.Test.YtbpfbfbabpkceaaGreatDwDessinsOf
import Derived.Test.YtbpfbfbabpkceaaGreatAmB
import Derived.Test.YtbpfbfbabpkceaaGreatBmB
import Derived.Test.YtbpfbfbabpkceaaGreatBmG
import Derived.Test.YtbpfbfbabpkceaaGreatAmJ
import Derived.WalkKit
import Derived.ProofKit
import Derived.OpenShut
import Derived.ShutString
import Derived.ChangeOld
import Derived.Below
import Derived.SizedLaws
import Derived.ChangeSlices
namespace Go.Proofs.YtbpfbfbabpkceaaGreat.Gq
open Go.ChangeShapes Go.WideShapes Go.ChangeAt Go.RowKit
set_option linter.unusedVariables false
theorem own:ownKnob Tryz.prog.godebug=none:=by kernel_rfl
theorem laidOut:laidOutB Tryz.prog=true:=Am.j1
set_option maxRecDepth 100000 in
theorem lifted (os:Os) (started:os.Started) (H:Type) (enc:TypeId×Value→H):
  ReturnsInHanded {} Tryz.checked os 4 .any (Rows.fnExactDessinsOfSpec.pre6 enc Tryz.prog Tryz.f4 Rows.fnExactDessinsOfRow.domain false) (Rows.fnExactDessinsOfSpec.post enc Tryz.prog Tryz.f4 false true false false):=by
 refine returnsInHanded_of_change_sized (C:=Tryz.checked) own started (by kernel_rfl) Tryz.func4
  (ChangeSpec.witness6 (enc:=enc) (C:=Tryz.checked) false ⟨#[], #[.slice none 0 0],[]⟩ 8 (by kernel_rfl) (by kernel_rfl) (by kernel_rfl) (by kernel_rfl)) ?_
 intro W base args ds gs before hval0 hW hcnd hsz0 _
 have hval: ∀(j:Nat) t v,Tryz.f4.params[j]? =some t→args[j]? =some v→Value.okWide Tryz.prog W .any base t v:=hval0
 have hW':=hW
 obtain ⟨p,q,hA0,hV,rfl,hfz,hnd⟩:=hW
 have hA:DataW.TrodAll enc Tryz.prog W 0 (fun _=>true) true Tryz.f4.params.toList args.toList ds p:=hA0
 rw [Tryz.params4] at hA hval
 obtain ⟨v0,vs0,d0,ds0,p0,q0,hargs,rfl,rfl,h0,r0⟩:=trodAll_cons hA
 obtain ⟨rfl,rfl,rfl⟩:=trodAll_nil r0
 obtain rfl:args= #[v0]:=by cases args;simp_all
 obtain ⟨rfl,rfl⟩:=trodVars_none hV
 have BN:=Am.TS Am.φ W
 obtain ⟨a0,len0,cap0,rfl⟩:=okWide_slice Tryz.underlying28 (hval 0 28 v0 rfl rfl)
 have k0:=h0
 have TT: ∀x∈p0,x.block<W.heap.size:=by obtain ⟨m,hm⟩:=k0;exact DataW.trod_lt m _ _ _ hm
 obtain ⟨z0,w0,TU,TV⟩: ∃xss,Am.BO W a0 len0 cap0 xss∧xss.length≤9223372036854775807∧ ∀xs∈xss,xs.length≤9223372036854775807:=by
  obtain ⟨fuel,hf⟩:=h0
  exact Am.TW Tryz.underlying28 (by kernel_rfl) Tryz.underlying44 Tryz.underlying2 (by kernel_rfl) hf (by simp [Value.cells])
 obtain ⟨β0,M0,u0,hst1,he0,hb0,hu0,hx0⟩:=Am.TY BN w0
 refine (Am.run (args:=[u0]) hst1 (by kernel_rfl:Am.φ Am.Gs=some 4) (Am.VRL.cons hu0 Am.VRL.nil) (Bm.Ua (Bm.Ub TU TV) (Bm.VL.cons (Bm.Uc hx0) Bm.VL.nil))).mono fun e W' ⟨he,bel⟩=>?_
 subst he
 exact ⟨_,rfl,_,_,_,[],_,[],hW',trodAll_mk1 (shut_bool Tryz.underlying4 _),(trodAll_mk1 (Below.trod laidOut (by kernel_rfl) (of_decide_eq_true (by kernel_rfl)) k0 bel TT)),rfl,bel.frame _,fun h=>by cases h⟩
theorem k0:(Rows.fnExactDessinsOfRow.wf (OpenSpec.ofChange Rows.fnExactDessinsOfSpec))=true:=by kernel_rfl
theorem k3:(Tryz.f4.params.all (Tryz.prog.readableRec ·))=true:=by kernel_rfl
theorem k4:(namedTie Tryz.prog Rows.fnExactDessinsOfRow.named Rows.fnExactDessinsOfSpec.vars)=true:=by kernel_rfl
theorem k5:((Rows.fnExactDessinsOfRow.stops==[]))=true:=by kernel_rfl
theorem k7:((Rows.fnExactDessinsOfRow.knobs==[]))=true:=by kernel_rfl
theorem k9:((Rows.fnExactDessinsOfRow.inPlace==Tryz.prog.inPlace 4))=true:=by kernel_rfl
theorem k10:((Rows.fnExactDessinsOfRow.unfollowed==Tryz.prog.unfollowed 4))=true:=by kernel_rfl
theorem k11:((Rows.fnExactDessinsOfRow.recurses==Tryz.prog.recurses 4))=true:=by kernel_rfl
theorem k12:((Rows.fnExactDessinsOfRow.named==Tryz.prog.varsNamed 4))=true:=by kernel_rfl
theorem k13:((Rows.fnExactDessinsOfRow.maps==(Tryz.f4.params.toList++Rows.fnExactDessinsOfSpec.plain.varTypes Tryz.prog).any (Tryz.prog.mapsRec ·)))=true:=by kernel_rfl
theorem k14:((Rows.fnExactDessinsOfRow.ifaces==(Tryz.f4.params.toList++Rows.fnExactDessinsOfSpec.plain.varTypes Tryz.prog).any (Tryz.prog.ifacesRec ·)))=true:=by kernel_rfl
theorem k15:((Rows.fnExactDessinsOfRow.mapsOut==Tryz.prog.mapsAmong Tryz.f4.resultTypes.toList))=true:=by kernel_rfl
theorem k16:((Rows.fnExactDessinsOfRow.loops==(Tryz.f4.params.toList++Rows.fnExactDessinsOfSpec.plain.varTypes Tryz.prog).any (Tryz.prog.loopsFrom ·)))=true:=by kernel_rfl
theorem k17:((Rows.fnExactDessinsOfRow.wideKeys==(Tryz.f4.params.toList++Rows.fnExactDessinsOfSpec.plain.varTypes Tryz.prog++Tryz.f4.resultTypes.toList).any (Tryz.prog.wideKeysFrom ·)))=true:=by kernel_rfl
theorem k18:(Rows.fnExactDessinsOfSpec.vars.all (Tryz.prog.varReadable ·))=true:=by kernel_rfl
theorem k19:(Tryz.f4.resultTypes.all (fun t=>Tryz.prog.readableRec t&&decide (t<Tryz.prog.types.size)))=true:=by kernel_rfl
theorem k20:((Rows.fnExactDessinsOfRow.ifacesOut==Tryz.f4.resultTypes.toList.any (Tryz.prog.ifacesRec ·)))=true:=by kernel_rfl
theorem k21:((Rows.fnExactDessinsOfRow.loopsOut==Tryz.f4.resultTypes.toList.any (Tryz.prog.loopsFrom ·)))=true:=by kernel_rfl
theorem k22:((Rows.fnExactDessinsOfRow.plainKeys==Tryz.prog.plainKeys))=true:=by kernel_rfl
theorem k23:(Rows.fnExactDessinsOfRow.shortTexts.isNone)=true:=by kernel_rfl
theorem k26:((Rows.fnExactDessinsOfRow.lifted==Tryz.prog.liftsFinal))=true:=by rw [Am.j26];rfl
theorem k27:((Tryz.prog.make==some Rows.fnExactDessinsOfRow.make))=true:=by rw [Am.j27];rfl
theorem k28:((Rows.fnExactDessinsOfRow.kinds==(if Rows.fnExactDessinsOfRow.domain.isEmpty then [] else Tryz.f4.params.toList.map fun t=>match Tryz.prog.underlying t with|some (.int k)=>some k| _=>none)))=true:=by kernel_rfl
theorem k29:((Rows.fnExactDessinsOfRow.pinned==Rows.fnExactDessinsOfRow.pinnedBy))=true:=by kernel_rfl
theorem k30:((Rows.fnExactDessinsOfRow.veiled==(Tryz.f4.params.toList++Rows.fnExactDessinsOfSpec.plain.varTypes Tryz.prog++Tryz.f4.resultTypes.toList).any (Tryz.prog.veiledRec ·)))=true:=by kernel_rfl
theorem k31:(Rows.fnExactDessinsOfRow.veiledFits Tryz.prog Tryz.f4.params.toList (Tryz.f4.params.toList++Rows.fnExactDessinsOfSpec.plain.varTypes Tryz.prog++Tryz.f4.resultTypes.toList))=true:=by kernel_rfl
set_option maxRecDepth 100000 in
theorem closed:joinedFacts Tryz.prog 4 Tryz.f4 Rows.fnExactDessinsOfSpec Rows.fnExactDessinsOfRow=true:=by
 unfold joinedFacts
 simp only [Bool.and_eq_true]
 exact ⟨⟨⟨⟨⟨⟨⟨⟨⟨⟨⟨⟨⟨⟨⟨⟨⟨⟨⟨⟨⟨⟨⟨⟨⟨⟨⟨⟨⟨⟨⟨k0,Am.j1⟩,Am.j2⟩,k3⟩,k4⟩,k5⟩,Am.j6⟩,k7⟩,Am.j8⟩,k9⟩,k10⟩,k11⟩,k12⟩,k13⟩,k14⟩,k15⟩,k16⟩,k17⟩,k18⟩,k19⟩,k20⟩,k21⟩,k22⟩,k23⟩,Am.j24⟩,Am.j25⟩,k26⟩,k27⟩,k28⟩,k29⟩,k30⟩,k31⟩
theorem named:Tryz.prog.funcNamed Rows.fnExactDessinsOfRow.func=some 4:=by kernel_rfl
theorem inst:Tryz.f4.isInstance Tryz.prog Rows.fnExactDessinsOfRow.origin Rows.fnExactDessinsOfRow.targs:=of_decide_eq_true (by kernel_rfl)
theorem wrap:Tryz.f4.isWrapper Tryz.prog Rows.fnExactDessinsOfRow.wrapper Rows.fnExactDessinsOfRow.mainSum:=by
 unfold Func.isWrapper
 first|(rw [if_pos (by decide+kernel)];kernel_rfl)|(rw [if_neg (by decide+kernel)];exact ⟨rfl,rfl⟩)
theorem over:Rows.fnExactDessinsOfRow.holds Tryz.pinned (OpenSpec.ofChange Rows.fnExactDessinsOfSpec):=
 OpenClaim.holds_of_wide 4 Tryz.f4 rfl rfl rfl rfl rfl rfl rfl ⟨rfl,rfl,rfl,rfl,rfl⟩ rfl rfl rfl rfl rfl named Tryz.func4 closed inst wrap (fun os started H enc _=>lifted os started H enc)
end Go.Proofs.YtbpfbfbabpkceaaGreat.Gq
namespace Go.Proofs.YtbpfbfbabpkceaaGreat
theorem fnExactDessinsOf_holds:Rows.FnExactDessinsOfSaid:=Gq.over
#print axioms fnExactDessinsOf_holds
end Go.Proofs.YtbpfbfbabpkceaaGreat
