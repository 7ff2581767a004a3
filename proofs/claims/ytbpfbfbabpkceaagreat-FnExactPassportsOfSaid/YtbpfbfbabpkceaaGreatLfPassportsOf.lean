/- FnExactPassportsOf: the law returns true for every input and leaves its arguments as they were. No conditions. -/
import Derived.Test.YtbpfbfbabpkceaaGreatRows
import Derived.Test.YtbpfbfbabpkceaaGreatDwPassportsOf
import Derived.Test.YtbpfbfbabpkceaaGreatAmB
import Derived.Test.YtbpfbfbabpkceaaGreatBmB
import Derived.Test.YtbpfbfbabpkceaaGreatAmJ
import Derived.WalkKit
import Derived.ProofKit
import Derived.OpenShut
import Derived.ShutString
import Derived.ChangeOld
import Derived.Below
import Derived.SizedLaws
import Derived.ChangeSlices
namespace Go.Proofs.YtbpfbfbabpkceaaGreat.Jw
open Go.ChangeShapes Go.WideShapes Go.ChangeAt Go.RowKit
set_option linter.unusedVariables false
theorem own:ownKnob Tryz.prog.godebug=none:=by kernel_rfl
theorem laidOut:laidOutB Tryz.prog=true:=Am.j1
set_option maxRecDepth 100000 in
theorem lifted (os:Os) (started:os.Started) (H:Type) (enc:TypeId×Value→H):
  ReturnsInHanded {} Tryz.checked os 3 .any (Rows.fnExactPassportsOfSpec.pre6 enc Tryz.prog Tryz.f3 Rows.fnExactPassportsOfRow.domain false) (Rows.fnExactPassportsOfSpec.post enc Tryz.prog Tryz.f3 false true false false):=by
 refine returnsInHanded_of_change_sized (C:=Tryz.checked) own started (by kernel_rfl) Tryz.func3
  (ChangeSpec.witness6 (enc:=enc) (C:=Tryz.checked) false ⟨#[], #[.int .i64 0, .int .i64 0],[]⟩ 8 (by kernel_rfl) (by kernel_rfl) (by kernel_rfl) (by kernel_rfl)) ?_
 intro W base args ds gs before hval0 hW hcnd hsz0 _
 have hval: ∀(j:Nat) t v,Tryz.f3.params[j]? =some t→args[j]? =some v→Value.okWide Tryz.prog W .any base t v:=hval0
 have hW':=hW
 obtain ⟨p,q,hA0,hV,rfl,hfz,hnd⟩:=hW
 have hA:DataW.TrodAll enc Tryz.prog W 0 (fun _=>true) true Tryz.f3.params.toList args.toList ds p:=hA0
 rw [Tryz.params3] at hA hval
 obtain ⟨v0,vs0,d0,ds0,p0,q0,hargs,rfl,rfl,h0,r0⟩:=trodAll_cons hA
 obtain ⟨v1,vs1,d1,ds1,p1,q1,rfl,rfl,rfl,h1,r1⟩:=trodAll_cons r0
 obtain ⟨rfl,rfl,rfl⟩:=trodAll_nil r1
 obtain rfl:args= #[v0,v1]:=by cases args;simp_all
 obtain ⟨rfl,rfl⟩:=trodVars_none hV
 have WH:=Am.WI Am.φ W
 obtain ⟨a0,rfl,rfl,rfl,w0⟩:=open_int Tryz.underlying2 (hval 0 2 v0 rfl rfl) h0
 have b0:=Am.wf64 w0
 obtain ⟨a1,rfl,rfl,rfl,w1⟩:=open_int Tryz.underlying2 (hval 1 2 v1 rfl rfl) h1
 have b1:=Am.wf64 w1
 refine (Am.run (args:=[Am.I a0,Am.I a1]) WH (by kernel_rfl:Am.φ Am.Es=some 3) (Am.VRL.cons (.plain rfl) (Am.VRL.cons (.plain rfl) Am.VRL.nil)) (Bm.WJ (Bm.Et b0 b1) (Bm.VL.cons (.z (.plain rfl)) (Bm.VL.cons (.z (.plain rfl)) Bm.VL.nil)))).mono fun e W' ⟨he,bel⟩=>?_
 subst he
 exact ⟨_,rfl,_,_,_,[],_,[],hW',trodAll_mk1 (shut_bool Tryz.underlying4 _),(trodAll_cons_mk (shut_int Tryz.underlying2 w0) (trodAll_cons_mk (shut_int Tryz.underlying2 w1) trodAll_mk0)),rfl,bel.frame _,fun h=>by cases h⟩
theorem k0:(Rows.fnExactPassportsOfRow.wf (OpenSpec.ofChange Rows.fnExactPassportsOfSpec))=true:=by kernel_rfl
theorem k3:(Tryz.f3.params.all (Tryz.prog.readableRec ·))=true:=by kernel_rfl
theorem k4:(namedTie Tryz.prog Rows.fnExactPassportsOfRow.named Rows.fnExactPassportsOfSpec.vars)=true:=by kernel_rfl
theorem k5:((Rows.fnExactPassportsOfRow.stops==[]))=true:=by kernel_rfl
theorem k7:((Rows.fnExactPassportsOfRow.knobs==[]))=true:=by kernel_rfl
theorem k9:((Rows.fnExactPassportsOfRow.inPlace==Tryz.prog.inPlace 3))=true:=by kernel_rfl
theorem k10:((Rows.fnExactPassportsOfRow.unfollowed==Tryz.prog.unfollowed 3))=true:=by kernel_rfl
theorem k11:((Rows.fnExactPassportsOfRow.recurses==Tryz.prog.recurses 3))=true:=by kernel_rfl
theorem k12:((Rows.fnExactPassportsOfRow.named==Tryz.prog.varsNamed 3))=true:=by kernel_rfl
theorem k13:((Rows.fnExactPassportsOfRow.maps==(Tryz.f3.params.toList++Rows.fnExactPassportsOfSpec.plain.varTypes Tryz.prog).any (Tryz.prog.mapsRec ·)))=true:=by kernel_rfl
theorem k14:((Rows.fnExactPassportsOfRow.ifaces==(Tryz.f3.params.toList++Rows.fnExactPassportsOfSpec.plain.varTypes Tryz.prog).any (Tryz.prog.ifacesRec ·)))=true:=by kernel_rfl
theorem k15:((Rows.fnExactPassportsOfRow.mapsOut==Tryz.prog.mapsAmong Tryz.f3.resultTypes.toList))=true:=by kernel_rfl
theorem k16:((Rows.fnExactPassportsOfRow.loops==(Tryz.f3.params.toList++Rows.fnExactPassportsOfSpec.plain.varTypes Tryz.prog).any (Tryz.prog.loopsFrom ·)))=true:=by kernel_rfl
theorem k17:((Rows.fnExactPassportsOfRow.wideKeys==(Tryz.f3.params.toList++Rows.fnExactPassportsOfSpec.plain.varTypes Tryz.prog++Tryz.f3.resultTypes.toList).any (Tryz.prog.wideKeysFrom ·)))=true:=by kernel_rfl
theorem k18:(Rows.fnExactPassportsOfSpec.vars.all (Tryz.prog.varReadable ·))=true:=by kernel_rfl
theorem k19:(Tryz.f3.resultTypes.all (fun t=>Tryz.prog.readableRec t&&decide (t<Tryz.prog.types.size)))=true:=by kernel_rfl
theorem k20:((Rows.fnExactPassportsOfRow.ifacesOut==Tryz.f3.resultTypes.toList.any (Tryz.prog.ifacesRec ·)))=true:=by kernel_rfl
theorem k21:((Rows.fnExactPassportsOfRow.loopsOut==Tryz.f3.resultTypes.toList.any (Tryz.prog.loopsFrom ·)))=true:=by kernel_rfl
theorem k22:((Rows.fnExactPassportsOfRow.plainKeys==Tryz.prog.plainKeys))=true:=by kernel_rfl
theorem k23:(Rows.fnExactPassportsOfRow.shortTexts.isNone)=true:=by kernel_rfl
theorem k26:((Rows.fnExactPassportsOfRow.lifted==Tryz.prog.liftsFinal))=true:=by rw [Am.j26];rfl
theorem k27:((Tryz.prog.make==some Rows.fnExactPassportsOfRow.make))=true:=by rw [Am.j27];rfl
theorem k28:((Rows.fnExactPassportsOfRow.kinds==(if Rows.fnExactPassportsOfRow.domain.isEmpty then [] else Tryz.f3.params.toList.map fun t=>match Tryz.prog.underlying t with|some (.int k)=>some k| _=>none)))=true:=by kernel_rfl
theorem k29:((Rows.fnExactPassportsOfRow.pinned==Rows.fnExactPassportsOfRow.pinnedBy))=true:=by kernel_rfl
theorem k30:((Rows.fnExactPassportsOfRow.veiled==(Tryz.f3.params.toList++Rows.fnExactPassportsOfSpec.plain.varTypes Tryz.prog++Tryz.f3.resultTypes.toList).any (Tryz.prog.veiledRec ·)))=true:=by kernel_rfl
theorem k31:(Rows.fnExactPassportsOfRow.veiledFits Tryz.prog Tryz.f3.params.toList (Tryz.f3.params.toList++Rows.fnExactPassportsOfSpec.plain.varTypes Tryz.prog++Tryz.f3.resultTypes.toList))=true:=by kernel_rfl
set_option maxRecDepth 100000 in
theorem closed:joinedFacts Tryz.prog 3 Tryz.f3 Rows.fnExactPassportsOfSpec Rows.fnExactPassportsOfRow=true:=by
 unfold joinedFacts
 simp only [Bool.and_eq_true]
 exact ⟨⟨⟨⟨⟨⟨⟨⟨⟨⟨⟨⟨⟨⟨⟨⟨⟨⟨⟨⟨⟨⟨⟨⟨⟨⟨⟨⟨⟨⟨⟨k0,Am.j1⟩,Am.j2⟩,k3⟩,k4⟩,k5⟩,Am.j6⟩,k7⟩,Am.j8⟩,k9⟩,k10⟩,k11⟩,k12⟩,k13⟩,k14⟩,k15⟩,k16⟩,k17⟩,k18⟩,k19⟩,k20⟩,k21⟩,k22⟩,k23⟩,Am.j24⟩,Am.j25⟩,k26⟩,k27⟩,k28⟩,k29⟩,k30⟩,k31⟩
theorem named:Tryz.prog.funcNamed Rows.fnExactPassportsOfRow.func=some 3:=by kernel_rfl
theorem inst:Tryz.f3.isInstance Tryz.prog Rows.fnExactPassportsOfRow.origin Rows.fnExactPassportsOfRow.targs:=of_decide_eq_true (by kernel_rfl)
theorem wrap:Tryz.f3.isWrapper Tryz.prog Rows.fnExactPassportsOfRow.wrapper Rows.fnExactPassportsOfRow.mainSum:=by
 unfold Func.isWrapper
 first|(rw [if_pos (by decide+kernel)];kernel_rfl)|(rw [if_neg (by decide+kernel)];exact ⟨rfl,rfl⟩)
theorem over:Rows.fnExactPassportsOfRow.holds Tryz.pinned (OpenSpec.ofChange Rows.fnExactPassportsOfSpec):=
 OpenClaim.holds_of_wide 3 Tryz.f3 rfl rfl rfl rfl rfl rfl rfl ⟨rfl,rfl,rfl,rfl,rfl⟩ rfl rfl rfl rfl rfl named Tryz.func3 closed inst wrap (fun os started H enc _=>lifted os started H enc)
end Go.Proofs.YtbpfbfbabpkceaaGreat.Jw
namespace Go.Proofs.YtbpfbfbabpkceaaGreat
theorem fnExactPassportsOf_holds:Rows.FnExactPassportsOfSaid:=Jw.over
#print axioms fnExactPassportsOf_holds
end Go.Proofs.YtbpfbfbabpkceaaGreat
