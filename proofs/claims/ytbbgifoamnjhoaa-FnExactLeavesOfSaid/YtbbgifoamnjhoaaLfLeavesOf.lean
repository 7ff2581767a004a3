/- FnExactLeavesOf: the law returns true for every input and leaves its arguments as they were. No conditions. -/
import Derived.Test.YtbbgifoamnjhoaaRows
import Derived.Test.YtbbgifoamnjhoaaDwLeavesOf
import Derived.Test.YtbbgifoamnjhoaaAmB
import Derived.Test.YtbbgifoamnjhoaaBmB
import Derived.Test.YtbbgifoamnjhoaaAmJ
import Derived.WalkKit
import Derived.ProofKit
import Derived.OpenShut
import Derived.ShutString
import Derived.ChangeOld
import Derived.Below
import Derived.SizedLaws
import Derived.ChangeSlices
namespace Go.Proofs.Ytbbgifoamnjhoaa.lawFnExactLeavesOf
open Go.ChangeShapes Go.WideShapes Go.ChangeAt Go.RowKit
set_option linter.unusedVariables false
theorem own : ownKnob Try.prog.godebug = none := by kernel_rfl
theorem laidOut : laidOutB Try.prog = true := Am.j1
set_option maxRecDepth 100000 in
theorem lifted (os : Os) (started : os.Started) (H : Type) (enc : TypeId × Value → H) :
    ReturnsInHanded {} Try.checked os 14 .any (Rows.fnExactLeavesOfSpec.pre6 enc Try.prog Try.f14 Rows.fnExactLeavesOfRow.domain false) (Rows.fnExactLeavesOfSpec.post enc Try.prog Try.f14 false true false false) := by
  refine returnsInHanded_of_change_sized (C := Try.checked) own started (by kernel_rfl) Try.func14
    (ChangeSpec.witness6 (enc := enc) (C := Try.checked) false ⟨#[], #[.agg ⟨(.int .i64 0) :: List.replicate 32 (.int .u8 0)⟩], []⟩ 8 (by kernel_rfl) (by kernel_rfl) (by kernel_rfl) (by kernel_rfl)) ?_
  intro W base args ds gs before hval0 hW hcnd hsz0 _
  have hval : ∀ (j : Nat) t v, Try.f14.params[j]? = some t → args[j]? = some v → Value.okWide Try.prog W .any base t v := hval0
  have hW' := hW
  obtain ⟨p, q, hA0, hV, rfl, hfz, hnd⟩ := hW
  have hA : DataW.TrodAll enc Try.prog W 0 (fun _ => true) true Try.f14.params.toList args.toList ds p := hA0
  rw [Try.params14] at hA hval
  obtain ⟨v0, vs0, d0, ds0, p0, q0, hargs, rfl, rfl, h0, r0⟩ := trodAll_cons hA
  obtain ⟨rfl, rfl, rfl⟩ := trodAll_nil r0
  obtain rfl : args = #[v0] := by cases args; simp_all
  obtain ⟨rfl, rfl⟩ := trodVars_none hV
  have hst0 := Am.start0 Am.φ W
  obtain ⟨n0, b0, w0, rfl, hb0, hw0, hn0⟩ := Bm.open_D (t64 := 2) (t8 := 5) ⟨_, Try.underlying38, rfl⟩ (by kernel_rfl) (by kernel_rfl) Try.underlying2 Try.underlying5 (hval 0 38 v0 rfl rfl)
  have k0 := h0
  have lt0 : ∀ x ∈ p0, x.block < W.heap.size := by obtain ⟨m, hm⟩ := k0; exact DataW.trod_lt m _ _ _ hm
  refine (Am.run (args := [Bm.DV n0 b0 w0]) hst0 (by kernel_rfl : Am.φ Am.F_laws_FnExactLeavesOf = some 14) (Am.VRL.cons (Bm.am_same Bm.plain_D) Am.VRL.nil) (Bm.toAm (Bm.FnExactLeavesOf_small hb0 hw0) (Bm.VL.cons (Bm.vr_same Bm.plain_D) Bm.VL.nil))).mono fun e W' ⟨he, bel⟩ => ?_
  subst he
  exact ⟨_, rfl, _, _, _, [], _, [], hW', trodAll_mk1 (shut_bool Try.underlying4 _), (trodAll_mk1 (Below.trod laidOut (by kernel_rfl) (of_decide_eq_true (by kernel_rfl)) k0 bel lt0)), rfl, bel.frame _, fun h => by cases h⟩
theorem k0 : (Rows.fnExactLeavesOfRow.wf (OpenSpec.ofChange Rows.fnExactLeavesOfSpec)) = true := by kernel_rfl
theorem k3 : (Try.f14.params.all (Try.prog.readableRec ·)) = true := by kernel_rfl
theorem k4 : (namedTie Try.prog Rows.fnExactLeavesOfRow.named Rows.fnExactLeavesOfSpec.vars) = true := by kernel_rfl
theorem k5 : ((Rows.fnExactLeavesOfRow.stops == [])) = true := by kernel_rfl
theorem k7 : ((Rows.fnExactLeavesOfRow.knobs == [])) = true := by kernel_rfl
theorem k9 : ((Rows.fnExactLeavesOfRow.inPlace == Try.prog.inPlace  14)) = true := by kernel_rfl
theorem k10 : ((Rows.fnExactLeavesOfRow.unfollowed == Try.prog.unfollowed  14)) = true := by kernel_rfl
theorem k11 : ((Rows.fnExactLeavesOfRow.recurses == Try.prog.recurses  14)) = true := by kernel_rfl
theorem k12 : ((Rows.fnExactLeavesOfRow.named == Try.prog.varsNamed  14)) = true := by kernel_rfl
theorem k13 : ((Rows.fnExactLeavesOfRow.maps == (Try.f14.params.toList ++ Rows.fnExactLeavesOfSpec.plain.varTypes Try.prog).any (Try.prog.mapsRec ·))) = true := by kernel_rfl
theorem k14 : ((Rows.fnExactLeavesOfRow.ifaces == (Try.f14.params.toList ++ Rows.fnExactLeavesOfSpec.plain.varTypes Try.prog).any (Try.prog.ifacesRec ·))) = true := by kernel_rfl
theorem k15 : ((Rows.fnExactLeavesOfRow.mapsOut == Try.prog.mapsAmong Try.f14.resultTypes.toList)) = true := by kernel_rfl
theorem k16 : ((Rows.fnExactLeavesOfRow.loops == (Try.f14.params.toList ++ Rows.fnExactLeavesOfSpec.plain.varTypes Try.prog).any (Try.prog.loopsFrom ·))) = true := by kernel_rfl
theorem k17 : ((Rows.fnExactLeavesOfRow.wideKeys == (Try.f14.params.toList ++ Rows.fnExactLeavesOfSpec.plain.varTypes Try.prog ++ Try.f14.resultTypes.toList).any (Try.prog.wideKeysFrom ·))) = true := by kernel_rfl
theorem k18 : (Rows.fnExactLeavesOfSpec.vars.all (Try.prog.varReadable ·)) = true := by kernel_rfl
theorem k19 : (Try.f14.resultTypes.all (fun t => Try.prog.readableRec t && decide (t < Try.prog.types.size))) = true := by kernel_rfl
theorem k20 : ((Rows.fnExactLeavesOfRow.ifacesOut == Try.f14.resultTypes.toList.any (Try.prog.ifacesRec ·))) = true := by kernel_rfl
theorem k21 : ((Rows.fnExactLeavesOfRow.loopsOut == Try.f14.resultTypes.toList.any (Try.prog.loopsFrom ·))) = true := by kernel_rfl
theorem k22 : ((Rows.fnExactLeavesOfRow.plainKeys == Try.prog.plainKeys)) = true := by kernel_rfl
theorem k23 : (Rows.fnExactLeavesOfRow.shortTexts.isNone) = true := by kernel_rfl
theorem k26 : ((Rows.fnExactLeavesOfRow.lifted == Try.prog.liftsFinal)) = true := by rw [Am.j26]; rfl
theorem k27 : ((Try.prog.make == some Rows.fnExactLeavesOfRow.make)) = true := by rw [Am.j27]; rfl
theorem k28 : ((Rows.fnExactLeavesOfRow.kinds == (if Rows.fnExactLeavesOfRow.domain.isEmpty then [] else Try.f14.params.toList.map fun t => match Try.prog.underlying t with | some (.int k) => some k | _ => none))) = true := by kernel_rfl
theorem k29 : ((Rows.fnExactLeavesOfRow.pinned == Rows.fnExactLeavesOfRow.pinnedBy)) = true := by kernel_rfl
theorem k30 : ((Rows.fnExactLeavesOfRow.veiled == (Try.f14.params.toList ++ Rows.fnExactLeavesOfSpec.plain.varTypes Try.prog ++ Try.f14.resultTypes.toList).any (Try.prog.veiledRec ·))) = true := by kernel_rfl
theorem k31 : (Rows.fnExactLeavesOfRow.veiledFits Try.prog Try.f14.params.toList (Try.f14.params.toList ++ Rows.fnExactLeavesOfSpec.plain.varTypes Try.prog ++ Try.f14.resultTypes.toList)) = true := by kernel_rfl
set_option maxRecDepth 100000 in
theorem closed : joinedFacts Try.prog 14 Try.f14 Rows.fnExactLeavesOfSpec Rows.fnExactLeavesOfRow = true := by
  unfold joinedFacts
  simp only [Bool.and_eq_true]
  exact ⟨⟨⟨⟨⟨⟨⟨⟨⟨⟨⟨⟨⟨⟨⟨⟨⟨⟨⟨⟨⟨⟨⟨⟨⟨⟨⟨⟨⟨⟨⟨k0, Am.j1⟩, Am.j2⟩, k3⟩, k4⟩, k5⟩, Am.j6⟩, k7⟩, Am.j8⟩, k9⟩, k10⟩, k11⟩, k12⟩, k13⟩, k14⟩, k15⟩, k16⟩, k17⟩, k18⟩, k19⟩, k20⟩, k21⟩, k22⟩, k23⟩, Am.j24⟩, Am.j25⟩, k26⟩, k27⟩, k28⟩, k29⟩, k30⟩, k31⟩
theorem named : Try.prog.funcNamed Rows.fnExactLeavesOfRow.func = some 14 := by kernel_rfl
theorem inst : Try.f14.isInstance Try.prog Rows.fnExactLeavesOfRow.origin Rows.fnExactLeavesOfRow.targs := of_decide_eq_true (by kernel_rfl)
theorem wrap : Try.f14.isWrapper Try.prog Rows.fnExactLeavesOfRow.wrapper Rows.fnExactLeavesOfRow.mainSum := by
  unfold Func.isWrapper
  first | (rw [if_pos (by decide +kernel)]; kernel_rfl) | (rw [if_neg (by decide +kernel)]; exact ⟨rfl, rfl⟩)
theorem over : Rows.fnExactLeavesOfRow.holds Try.pinned (OpenSpec.ofChange Rows.fnExactLeavesOfSpec) :=
  OpenClaim.holds_of_wide 14 Try.f14 rfl rfl rfl rfl rfl rfl rfl ⟨rfl, rfl, rfl, rfl, rfl⟩ rfl rfl rfl rfl rfl named Try.func14 closed inst wrap (fun os started H enc _ => lifted os started H enc)
end Go.Proofs.Ytbbgifoamnjhoaa.lawFnExactLeavesOf
namespace Go.Proofs.Ytbbgifoamnjhoaa
/-- The row, under a short name, for the claim. -/
theorem fnExactLeavesOf_holds : Rows.FnExactLeavesOfSaid := lawFnExactLeavesOf.over
#print axioms fnExactLeavesOf_holds
end Go.Proofs.Ytbbgifoamnjhoaa
