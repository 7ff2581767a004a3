/- FnExactSymmetryOf: the law returns true for every input and leaves its arguments as they were. No conditions. -/
import Derived.Test.YtbbgifoamnjhoaaRows
import Derived.Test.YtbbgifoamnjhoaaDwSymmetryOf
import Derived.Test.YtbbgifoamnjhoaaAmB
import Derived.Test.YtbbgifoamnjhoaaBmB
import Derived.Test.YtbbgifoamnjhoaaAmJ
import Derived.WalkKit
import Derived.ProofKit
import Derived.OpenShut
import Derived.ShutString
import Derived.ChangeOld
import Derived.Below
import Derived.SizedLaws
import Derived.ChangeSlices
namespace Go.Proofs.Ytbbgifoamnjhoaa.lawFnExactSymmetryOf
open Go.ChangeShapes Go.WideShapes Go.ChangeAt Go.RowKit
set_option linter.unusedVariables false
theorem own : ownKnob Try.prog.godebug = none := by kernel_rfl
theorem laidOut : laidOutB Try.prog = true := Am.j1
set_option maxRecDepth 100000 in
theorem lifted (os : Os) (started : os.Started) (H : Type) (enc : TypeId × Value → H) :
    ReturnsInHanded {} Try.checked os 16 .any (Rows.fnExactSymmetryOfSpec.pre6 enc Try.prog Try.f16 Rows.fnExactSymmetryOfRow.domain false) (Rows.fnExactSymmetryOfSpec.post enc Try.prog Try.f16 false true false false) := by
  refine returnsInHanded_of_change_sized (C := Try.checked) own started (by kernel_rfl) Try.func16
    (ChangeSpec.witness6 (enc := enc) (C := Try.checked) false ⟨#[], #[.agg ⟨(.int .i64 0) :: List.replicate 32 (.int .u8 0)⟩], []⟩ 8 (by kernel_rfl) (by kernel_rfl) (by kernel_rfl) (by kernel_rfl)) ?_
  intro W base args ds gs before hval0 hW hcnd hsz0 _
  have hval : ∀ (j : Nat) t v, Try.f16.params[j]? = some t → args[j]? = some v → Value.okWide Try.prog W .any base t v := hval0
  have hW' := hW
  obtain ⟨p, q, hA0, hV, rfl, hfz, hnd⟩ := hW
  have hA : DataW.TrodAll enc Try.prog W 0 (fun _ => true) true Try.f16.params.toList args.toList ds p := hA0
  rw [Try.params16] at hA hval
  obtain ⟨v0, vs0, d0, ds0, p0, q0, hargs, rfl, rfl, h0, r0⟩ := trodAll_cons hA
  obtain ⟨rfl, rfl, rfl⟩ := trodAll_nil r0
  obtain rfl : args = #[v0] := by cases args; simp_all
  obtain ⟨rfl, rfl⟩ := trodVars_none hV
  have hst0 := Am.start0 Am.φ W
  obtain ⟨n0, b0, w0, rfl, hb0, hw0, hn0⟩ := Bm.open_D (t64 := 2) (t8 := 5) ⟨_, Try.underlying38, rfl⟩ (by kernel_rfl) (by kernel_rfl) Try.underlying2 Try.underlying5 (hval 0 38 v0 rfl rfl)
  have k0 := h0
  have lt0 : ∀ x ∈ p0, x.block < W.heap.size := by obtain ⟨m, hm⟩ := k0; exact DataW.trod_lt m _ _ _ hm
  refine (Am.run (args := [Bm.DV n0 b0 w0]) hst0 (by kernel_rfl : Am.φ Am.F_laws_FnExactSymmetryOf = some 16) (Am.VRL.cons (Bm.am_same Bm.plain_D) Am.VRL.nil) (Bm.toAm (Bm.FnExactSymmetryOf_small hb0 hw0) (Bm.VL.cons (Bm.vr_same Bm.plain_D) Bm.VL.nil))).mono fun e W' ⟨he, bel⟩ => ?_
  subst he
  exact ⟨_, rfl, _, _, _, [], _, [], hW', trodAll_mk1 (shut_bool Try.underlying4 _), (trodAll_mk1 (Below.trod laidOut (by kernel_rfl) (of_decide_eq_true (by kernel_rfl)) k0 bel lt0)), rfl, bel.frame _, fun h => by cases h⟩
theorem k0 : (Rows.fnExactSymmetryOfRow.wf (OpenSpec.ofChange Rows.fnExactSymmetryOfSpec)) = true := by kernel_rfl
theorem k3 : (Try.f16.params.all (Try.prog.readableRec ·)) = true := by kernel_rfl
theorem k4 : (namedTie Try.prog Rows.fnExactSymmetryOfRow.named Rows.fnExactSymmetryOfSpec.vars) = true := by kernel_rfl
theorem k5 : ((Rows.fnExactSymmetryOfRow.stops == [])) = true := by kernel_rfl
theorem k7 : ((Rows.fnExactSymmetryOfRow.knobs == [])) = true := by kernel_rfl
theorem k9 : ((Rows.fnExactSymmetryOfRow.inPlace == Try.prog.inPlace  16)) = true := by kernel_rfl
theorem k10 : ((Rows.fnExactSymmetryOfRow.unfollowed == Try.prog.unfollowed  16)) = true := by kernel_rfl
theorem k11 : ((Rows.fnExactSymmetryOfRow.recurses == Try.prog.recurses  16)) = true := by kernel_rfl
theorem k12 : ((Rows.fnExactSymmetryOfRow.named == Try.prog.varsNamed  16)) = true := by kernel_rfl
theorem k13 : ((Rows.fnExactSymmetryOfRow.maps == (Try.f16.params.toList ++ Rows.fnExactSymmetryOfSpec.plain.varTypes Try.prog).any (Try.prog.mapsRec ·))) = true := by kernel_rfl
theorem k14 : ((Rows.fnExactSymmetryOfRow.ifaces == (Try.f16.params.toList ++ Rows.fnExactSymmetryOfSpec.plain.varTypes Try.prog).any (Try.prog.ifacesRec ·))) = true := by kernel_rfl
theorem k15 : ((Rows.fnExactSymmetryOfRow.mapsOut == Try.prog.mapsAmong Try.f16.resultTypes.toList)) = true := by kernel_rfl
theorem k16 : ((Rows.fnExactSymmetryOfRow.loops == (Try.f16.params.toList ++ Rows.fnExactSymmetryOfSpec.plain.varTypes Try.prog).any (Try.prog.loopsFrom ·))) = true := by kernel_rfl
theorem k17 : ((Rows.fnExactSymmetryOfRow.wideKeys == (Try.f16.params.toList ++ Rows.fnExactSymmetryOfSpec.plain.varTypes Try.prog ++ Try.f16.resultTypes.toList).any (Try.prog.wideKeysFrom ·))) = true := by kernel_rfl
theorem k18 : (Rows.fnExactSymmetryOfSpec.vars.all (Try.prog.varReadable ·)) = true := by kernel_rfl
theorem k19 : (Try.f16.resultTypes.all (fun t => Try.prog.readableRec t && decide (t < Try.prog.types.size))) = true := by kernel_rfl
theorem k20 : ((Rows.fnExactSymmetryOfRow.ifacesOut == Try.f16.resultTypes.toList.any (Try.prog.ifacesRec ·))) = true := by kernel_rfl
theorem k21 : ((Rows.fnExactSymmetryOfRow.loopsOut == Try.f16.resultTypes.toList.any (Try.prog.loopsFrom ·))) = true := by kernel_rfl
theorem k22 : ((Rows.fnExactSymmetryOfRow.plainKeys == Try.prog.plainKeys)) = true := by kernel_rfl
theorem k23 : (Rows.fnExactSymmetryOfRow.shortTexts.isNone) = true := by kernel_rfl
theorem k26 : ((Rows.fnExactSymmetryOfRow.lifted == Try.prog.liftsFinal)) = true := by rw [Am.j26]; rfl
theorem k27 : ((Try.prog.make == some Rows.fnExactSymmetryOfRow.make)) = true := by rw [Am.j27]; rfl
theorem k28 : ((Rows.fnExactSymmetryOfRow.kinds == (if Rows.fnExactSymmetryOfRow.domain.isEmpty then [] else Try.f16.params.toList.map fun t => match Try.prog.underlying t with | some (.int k) => some k | _ => none))) = true := by kernel_rfl
theorem k29 : ((Rows.fnExactSymmetryOfRow.pinned == Rows.fnExactSymmetryOfRow.pinnedBy)) = true := by kernel_rfl
theorem k30 : ((Rows.fnExactSymmetryOfRow.veiled == (Try.f16.params.toList ++ Rows.fnExactSymmetryOfSpec.plain.varTypes Try.prog ++ Try.f16.resultTypes.toList).any (Try.prog.veiledRec ·))) = true := by kernel_rfl
theorem k31 : (Rows.fnExactSymmetryOfRow.veiledFits Try.prog Try.f16.params.toList (Try.f16.params.toList ++ Rows.fnExactSymmetryOfSpec.plain.varTypes Try.prog ++ Try.f16.resultTypes.toList)) = true := by kernel_rfl
set_option maxRecDepth 100000 in
theorem closed : joinedFacts Try.prog 16 Try.f16 Rows.fnExactSymmetryOfSpec Rows.fnExactSymmetryOfRow = true := by
  unfold joinedFacts
  simp only [Bool.and_eq_true]
  exact ⟨⟨⟨⟨⟨⟨⟨⟨⟨⟨⟨⟨⟨⟨⟨⟨⟨⟨⟨⟨⟨⟨⟨⟨⟨⟨⟨⟨⟨⟨⟨k0, Am.j1⟩, Am.j2⟩, k3⟩, k4⟩, k5⟩, Am.j6⟩, k7⟩, Am.j8⟩, k9⟩, k10⟩, k11⟩, k12⟩, k13⟩, k14⟩, k15⟩, k16⟩, k17⟩, k18⟩, k19⟩, k20⟩, k21⟩, k22⟩, k23⟩, Am.j24⟩, Am.j25⟩, k26⟩, k27⟩, k28⟩, k29⟩, k30⟩, k31⟩
theorem named : Try.prog.funcNamed Rows.fnExactSymmetryOfRow.func = some 16 := by kernel_rfl
theorem inst : Try.f16.isInstance Try.prog Rows.fnExactSymmetryOfRow.origin Rows.fnExactSymmetryOfRow.targs := of_decide_eq_true (by kernel_rfl)
theorem wrap : Try.f16.isWrapper Try.prog Rows.fnExactSymmetryOfRow.wrapper Rows.fnExactSymmetryOfRow.mainSum := by
  unfold Func.isWrapper
  first | (rw [if_pos (by decide +kernel)]; kernel_rfl) | (rw [if_neg (by decide +kernel)]; exact ⟨rfl, rfl⟩)
theorem over : Rows.fnExactSymmetryOfRow.holds Try.pinned (OpenSpec.ofChange Rows.fnExactSymmetryOfSpec) :=
  OpenClaim.holds_of_wide 16 Try.f16 rfl rfl rfl rfl rfl rfl rfl ⟨rfl, rfl, rfl, rfl, rfl⟩ rfl rfl rfl rfl rfl named Try.func16 closed inst wrap (fun os started H enc _ => lifted os started H enc)
end Go.Proofs.Ytbbgifoamnjhoaa.lawFnExactSymmetryOf
namespace Go.Proofs.Ytbbgifoamnjhoaa
/-- The row, under a short name, for the claim. -/
theorem fnExactSymmetryOf_holds : Rows.FnExactSymmetryOfSaid := lawFnExactSymmetryOf.over
#print axioms fnExactSymmetryOf_holds
end Go.Proofs.Ytbbgifoamnjhoaa
