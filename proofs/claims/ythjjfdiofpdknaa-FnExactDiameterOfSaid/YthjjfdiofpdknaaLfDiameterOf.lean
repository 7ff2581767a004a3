/- FnExactDiameterOf: the law returns true for every input and leaves its arguments as they were. No conditions. -/
import Derived.Test.YthjjfdiofpdknaaRows
import Derived.Test.YthjjfdiofpdknaaDwDiameterOf
import Derived.Test.YthjjfdiofpdknaaAmB
import Derived.Test.YthjjfdiofpdknaaBmB
import Derived.Test.YthjjfdiofpdknaaAmJ
import Derived.WalkKit
import Derived.ProofKit
import Derived.OpenShut
import Derived.ShutString
import Derived.ChangeOld
import Derived.Below
import Derived.SizedLaws
import Derived.ChangeSlices
namespace Go.Proofs.Ythjjfdiofpdknaa.lawFnExactDiameterOf
open Go.ChangeShapes Go.WideShapes Go.ChangeAt Go.RowKit
set_option linter.unusedVariables false
theorem own : ownKnob Try.prog.godebug = none := by kernel_rfl
theorem laidOut : laidOutB Try.prog = true := Am.j1
set_option maxRecDepth 100000 in
theorem lifted (os : Os) (started : os.Started) (H : Type) (enc : TypeId × Value → H) :
    ReturnsInHanded {} Try.checked os 3 .any (Rows.fnExactDiameterOfSpec.pre6 enc Try.prog Try.f3 Rows.fnExactDiameterOfRow.domain false) (Rows.fnExactDiameterOfSpec.post enc Try.prog Try.f3 false true false false) := by
  refine returnsInHanded_of_change_sized (C := Try.checked) own started (by kernel_rfl) Try.func3
    (ChangeSpec.witness6 (enc := enc) (C := Try.checked) false ⟨#[], #[.agg ⟨(.int .i64 0) :: List.replicate 32 (.int .u8 0)⟩], []⟩ 8 (by kernel_rfl) (by kernel_rfl) (by kernel_rfl) (by kernel_rfl)) ?_
  intro W base args ds gs before hval0 hW hcnd hsz0 _
  have hval : ∀ (j : Nat) t v, Try.f3.params[j]? = some t → args[j]? = some v → Value.okWide Try.prog W .any base t v := hval0
  have hW' := hW
  obtain ⟨p, q, hA0, hV, rfl, hfz, hnd⟩ := hW
  have hA : DataW.TrodAll enc Try.prog W 0 (fun _ => true) true Try.f3.params.toList args.toList ds p := hA0
  rw [Try.params3] at hA hval
  obtain ⟨v0, vs0, d0, ds0, p0, q0, hargs, rfl, rfl, h0, r0⟩ := trodAll_cons hA
  obtain ⟨rfl, rfl, rfl⟩ := trodAll_nil r0
  obtain rfl : args = #[v0] := by cases args; simp_all
  obtain ⟨rfl, rfl⟩ := trodVars_none hV
  have hst0 := Am.start0 Am.φ W
  obtain ⟨n0, b0, w0, rfl, hb0, hw0, hn0⟩ := Bm.open_D (t64 := 2) (t8 := 5) ⟨_, Try.underlying24, rfl⟩ (by kernel_rfl) (by kernel_rfl) Try.underlying2 Try.underlying5 (hval 0 24 v0 rfl rfl)
  have k0 := h0
  have lt0 : ∀ x ∈ p0, x.block < W.heap.size := by obtain ⟨m, hm⟩ := k0; exact DataW.trod_lt m _ _ _ hm
  refine (Am.run (args := [Bm.DV n0 b0 w0]) hst0 (by kernel_rfl : Am.φ Am.F_laws_FnExactDiameterOf = some 3) (Am.VRL.cons (Bm.am_same Bm.plain_D) Am.VRL.nil) (Bm.toAm (Bm.FnExactDiameterOf_small hb0 hw0) (Bm.VL.cons (Bm.vr_same Bm.plain_D) Bm.VL.nil))).mono fun e W' ⟨he, bel⟩ => ?_
  subst he
  exact ⟨_, rfl, _, _, _, [], _, [], hW', trodAll_mk1 (shut_bool Try.underlying4 _), (trodAll_mk1 (Below.trod laidOut (by kernel_rfl) (of_decide_eq_true (by kernel_rfl)) k0 bel lt0)), rfl, bel.frame _, fun h => by cases h⟩
theorem k0 : (Rows.fnExactDiameterOfRow.wf (OpenSpec.ofChange Rows.fnExactDiameterOfSpec)) = true := by kernel_rfl
theorem k3 : (Try.f3.params.all (Try.prog.readableRec ·)) = true := by kernel_rfl
theorem k4 : (namedTie Try.prog Rows.fnExactDiameterOfRow.named Rows.fnExactDiameterOfSpec.vars) = true := by kernel_rfl
theorem k5 : ((Rows.fnExactDiameterOfRow.stops == [])) = true := by kernel_rfl
theorem k7 : ((Rows.fnExactDiameterOfRow.knobs == [])) = true := by kernel_rfl
theorem k9 : ((Rows.fnExactDiameterOfRow.inPlace == Try.prog.inPlace  3)) = true := by kernel_rfl
theorem k10 : ((Rows.fnExactDiameterOfRow.unfollowed == Try.prog.unfollowed  3)) = true := by kernel_rfl
theorem k11 : ((Rows.fnExactDiameterOfRow.recurses == Try.prog.recurses  3)) = true := by kernel_rfl
theorem k12 : ((Rows.fnExactDiameterOfRow.named == Try.prog.varsNamed  3)) = true := by kernel_rfl
theorem k13 : ((Rows.fnExactDiameterOfRow.maps == (Try.f3.params.toList ++ Rows.fnExactDiameterOfSpec.plain.varTypes Try.prog).any (Try.prog.mapsRec ·))) = true := by kernel_rfl
theorem k14 : ((Rows.fnExactDiameterOfRow.ifaces == (Try.f3.params.toList ++ Rows.fnExactDiameterOfSpec.plain.varTypes Try.prog).any (Try.prog.ifacesRec ·))) = true := by kernel_rfl
theorem k15 : ((Rows.fnExactDiameterOfRow.mapsOut == Try.prog.mapsAmong Try.f3.resultTypes.toList)) = true := by kernel_rfl
theorem k16 : ((Rows.fnExactDiameterOfRow.loops == (Try.f3.params.toList ++ Rows.fnExactDiameterOfSpec.plain.varTypes Try.prog).any (Try.prog.loopsFrom ·))) = true := by kernel_rfl
theorem k17 : ((Rows.fnExactDiameterOfRow.wideKeys == (Try.f3.params.toList ++ Rows.fnExactDiameterOfSpec.plain.varTypes Try.prog ++ Try.f3.resultTypes.toList).any (Try.prog.wideKeysFrom ·))) = true := by kernel_rfl
theorem k18 : (Rows.fnExactDiameterOfSpec.vars.all (Try.prog.varReadable ·)) = true := by kernel_rfl
theorem k19 : (Try.f3.resultTypes.all (fun t => Try.prog.readableRec t && decide (t < Try.prog.types.size))) = true := by kernel_rfl
theorem k20 : ((Rows.fnExactDiameterOfRow.ifacesOut == Try.f3.resultTypes.toList.any (Try.prog.ifacesRec ·))) = true := by kernel_rfl
theorem k21 : ((Rows.fnExactDiameterOfRow.loopsOut == Try.f3.resultTypes.toList.any (Try.prog.loopsFrom ·))) = true := by kernel_rfl
theorem k22 : ((Rows.fnExactDiameterOfRow.plainKeys == Try.prog.plainKeys)) = true := by kernel_rfl
theorem k23 : (Rows.fnExactDiameterOfRow.shortTexts.isNone) = true := by kernel_rfl
theorem k26 : ((Rows.fnExactDiameterOfRow.lifted == Try.prog.liftsFinal)) = true := by rw [Am.j26]; rfl
theorem k27 : ((Try.prog.make == some Rows.fnExactDiameterOfRow.make)) = true := by rw [Am.j27]; rfl
theorem k28 : ((Rows.fnExactDiameterOfRow.kinds == (if Rows.fnExactDiameterOfRow.domain.isEmpty then [] else Try.f3.params.toList.map fun t => match Try.prog.underlying t with | some (.int k) => some k | _ => none))) = true := by kernel_rfl
theorem k29 : ((Rows.fnExactDiameterOfRow.pinned == Rows.fnExactDiameterOfRow.pinnedBy)) = true := by kernel_rfl
theorem k30 : ((Rows.fnExactDiameterOfRow.veiled == (Try.f3.params.toList ++ Rows.fnExactDiameterOfSpec.plain.varTypes Try.prog ++ Try.f3.resultTypes.toList).any (Try.prog.veiledRec ·))) = true := by kernel_rfl
theorem k31 : (Rows.fnExactDiameterOfRow.veiledFits Try.prog Try.f3.params.toList (Try.f3.params.toList ++ Rows.fnExactDiameterOfSpec.plain.varTypes Try.prog ++ Try.f3.resultTypes.toList)) = true := by kernel_rfl
set_option maxRecDepth 100000 in
theorem closed : joinedFacts Try.prog 3 Try.f3 Rows.fnExactDiameterOfSpec Rows.fnExactDiameterOfRow = true := by
  unfold joinedFacts
  simp only [Bool.and_eq_true]
  exact ⟨⟨⟨⟨⟨⟨⟨⟨⟨⟨⟨⟨⟨⟨⟨⟨⟨⟨⟨⟨⟨⟨⟨⟨⟨⟨⟨⟨⟨⟨⟨k0, Am.j1⟩, Am.j2⟩, k3⟩, k4⟩, k5⟩, Am.j6⟩, k7⟩, Am.j8⟩, k9⟩, k10⟩, k11⟩, k12⟩, k13⟩, k14⟩, k15⟩, k16⟩, k17⟩, k18⟩, k19⟩, k20⟩, k21⟩, k22⟩, k23⟩, Am.j24⟩, Am.j25⟩, k26⟩, k27⟩, k28⟩, k29⟩, k30⟩, k31⟩
theorem named : Try.prog.funcNamed Rows.fnExactDiameterOfRow.func = some 3 := by kernel_rfl
theorem inst : Try.f3.isInstance Try.prog Rows.fnExactDiameterOfRow.origin Rows.fnExactDiameterOfRow.targs := of_decide_eq_true (by kernel_rfl)
theorem wrap : Try.f3.isWrapper Try.prog Rows.fnExactDiameterOfRow.wrapper Rows.fnExactDiameterOfRow.mainSum := by
  unfold Func.isWrapper
  first | (rw [if_pos (by decide +kernel)]; kernel_rfl) | (rw [if_neg (by decide +kernel)]; exact ⟨rfl, rfl⟩)
theorem over : Rows.fnExactDiameterOfRow.holds Try.pinned (OpenSpec.ofChange Rows.fnExactDiameterOfSpec) :=
  OpenClaim.holds_of_wide 3 Try.f3 rfl rfl rfl rfl rfl rfl rfl ⟨rfl, rfl, rfl, rfl, rfl⟩ rfl rfl rfl rfl rfl named Try.func3 closed inst wrap (fun os started H enc _ => lifted os started H enc)
end Go.Proofs.Ythjjfdiofpdknaa.lawFnExactDiameterOf
namespace Go.Proofs.Ythjjfdiofpdknaa
/-- The row, under a short name, for the claim. -/
theorem fnExactDiameterOf_holds : Rows.FnExactDiameterOfSaid := lawFnExactDiameterOf.over
#print axioms fnExactDiameterOf_holds
end Go.Proofs.Ythjjfdiofpdknaa
