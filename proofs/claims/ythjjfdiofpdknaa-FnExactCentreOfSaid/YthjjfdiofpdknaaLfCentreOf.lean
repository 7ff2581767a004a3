/- FnExactCentreOf: the law returns true for every input and leaves its arguments as they were. No conditions. -/
import Derived.Test.YthjjfdiofpdknaaRows
import Derived.Test.YthjjfdiofpdknaaDwCentreOf
import Derived.Test.YthjjfdiofpdknaaAmB
import Derived.Test.YthjjfdiofpdknaaBmB
import Derived.Test.YthjjfdiofpdknaaAmJ
import Derived.WalkKit
import Derived.ProofKit
import Derived.OpenShut
import Derived.ShutString
import Derived.ChangeOld
import Derived.Below
import Derived.SizedLaws
import Derived.ChangeSlices
namespace Go.Proofs.Ythjjfdiofpdknaa.lawFnExactCentreOf
open Go.ChangeShapes Go.WideShapes Go.ChangeAt Go.RowKit
set_option linter.unusedVariables false
theorem own : ownKnob Try.prog.godebug = none := by kernel_rfl
theorem laidOut : laidOutB Try.prog = true := Am.j1
set_option maxRecDepth 100000 in
theorem lifted (os : Os) (started : os.Started) (H : Type) (enc : TypeId × Value → H) :
    ReturnsInHanded {} Try.checked os 4 .any (Rows.fnExactCentreOfSpec.pre6 enc Try.prog Try.f4 Rows.fnExactCentreOfRow.domain false) (Rows.fnExactCentreOfSpec.post enc Try.prog Try.f4 false true false false) := by
  refine returnsInHanded_of_change_sized (C := Try.checked) own started (by kernel_rfl) Try.func4
    (ChangeSpec.witness6 (enc := enc) (C := Try.checked) false ⟨#[], #[.agg ⟨(.int .i64 0) :: List.replicate 32 (.int .u8 0)⟩], []⟩ 8 (by kernel_rfl) (by kernel_rfl) (by kernel_rfl) (by kernel_rfl)) ?_
  intro W base args ds gs before hval0 hW hcnd hsz0 _
  have hval : ∀ (j : Nat) t v, Try.f4.params[j]? = some t → args[j]? = some v → Value.okWide Try.prog W .any base t v := hval0
  have hW' := hW
  obtain ⟨p, q, hA0, hV, rfl, hfz, hnd⟩ := hW
  have hA : DataW.TrodAll enc Try.prog W 0 (fun _ => true) true Try.f4.params.toList args.toList ds p := hA0
  rw [Try.params4] at hA hval
  obtain ⟨v0, vs0, d0, ds0, p0, q0, hargs, rfl, rfl, h0, r0⟩ := trodAll_cons hA
  obtain ⟨rfl, rfl, rfl⟩ := trodAll_nil r0
  obtain rfl : args = #[v0] := by cases args; simp_all
  obtain ⟨rfl, rfl⟩ := trodVars_none hV
  have hst0 := Am.start0 Am.φ W
  obtain ⟨n0, b0, w0, rfl, hb0, hw0, hn0⟩ := Bm.open_D (t64 := 2) (t8 := 5) ⟨_, Try.underlying24, rfl⟩ (by kernel_rfl) (by kernel_rfl) Try.underlying2 Try.underlying5 (hval 0 24 v0 rfl rfl)
  have k0 := h0
  have lt0 : ∀ x ∈ p0, x.block < W.heap.size := by obtain ⟨m, hm⟩ := k0; exact DataW.trod_lt m _ _ _ hm
  refine (Am.run (args := [Bm.DV n0 b0 w0]) hst0 (by kernel_rfl : Am.φ Am.F_laws_FnExactCentreOf = some 4) (Am.VRL.cons (Bm.am_same Bm.plain_D) Am.VRL.nil) (Bm.toAm (Bm.FnExactCentreOf_small hb0 hw0) (Bm.VL.cons (Bm.vr_same Bm.plain_D) Bm.VL.nil))).mono fun e W' ⟨he, bel⟩ => ?_
  subst he
  exact ⟨_, rfl, _, _, _, [], _, [], hW', trodAll_mk1 (shut_bool Try.underlying4 _), (trodAll_mk1 (Below.trod laidOut (by kernel_rfl) (of_decide_eq_true (by kernel_rfl)) k0 bel lt0)), rfl, bel.frame _, fun h => by cases h⟩
theorem k0 : (Rows.fnExactCentreOfRow.wf (OpenSpec.ofChange Rows.fnExactCentreOfSpec)) = true := by kernel_rfl
theorem k3 : (Try.f4.params.all (Try.prog.readableRec ·)) = true := by kernel_rfl
theorem k4 : (namedTie Try.prog Rows.fnExactCentreOfRow.named Rows.fnExactCentreOfSpec.vars) = true := by kernel_rfl
theorem k5 : ((Rows.fnExactCentreOfRow.stops == [])) = true := by kernel_rfl
theorem k7 : ((Rows.fnExactCentreOfRow.knobs == [])) = true := by kernel_rfl
theorem k9 : ((Rows.fnExactCentreOfRow.inPlace == Try.prog.inPlace  4)) = true := by kernel_rfl
theorem k10 : ((Rows.fnExactCentreOfRow.unfollowed == Try.prog.unfollowed  4)) = true := by kernel_rfl
theorem k11 : ((Rows.fnExactCentreOfRow.recurses == Try.prog.recurses  4)) = true := by kernel_rfl
theorem k12 : ((Rows.fnExactCentreOfRow.named == Try.prog.varsNamed  4)) = true := by kernel_rfl
theorem k13 : ((Rows.fnExactCentreOfRow.maps == (Try.f4.params.toList ++ Rows.fnExactCentreOfSpec.plain.varTypes Try.prog).any (Try.prog.mapsRec ·))) = true := by kernel_rfl
theorem k14 : ((Rows.fnExactCentreOfRow.ifaces == (Try.f4.params.toList ++ Rows.fnExactCentreOfSpec.plain.varTypes Try.prog).any (Try.prog.ifacesRec ·))) = true := by kernel_rfl
theorem k15 : ((Rows.fnExactCentreOfRow.mapsOut == Try.prog.mapsAmong Try.f4.resultTypes.toList)) = true := by kernel_rfl
theorem k16 : ((Rows.fnExactCentreOfRow.loops == (Try.f4.params.toList ++ Rows.fnExactCentreOfSpec.plain.varTypes Try.prog).any (Try.prog.loopsFrom ·))) = true := by kernel_rfl
theorem k17 : ((Rows.fnExactCentreOfRow.wideKeys == (Try.f4.params.toList ++ Rows.fnExactCentreOfSpec.plain.varTypes Try.prog ++ Try.f4.resultTypes.toList).any (Try.prog.wideKeysFrom ·))) = true := by kernel_rfl
theorem k18 : (Rows.fnExactCentreOfSpec.vars.all (Try.prog.varReadable ·)) = true := by kernel_rfl
theorem k19 : (Try.f4.resultTypes.all (fun t => Try.prog.readableRec t && decide (t < Try.prog.types.size))) = true := by kernel_rfl
theorem k20 : ((Rows.fnExactCentreOfRow.ifacesOut == Try.f4.resultTypes.toList.any (Try.prog.ifacesRec ·))) = true := by kernel_rfl
theorem k21 : ((Rows.fnExactCentreOfRow.loopsOut == Try.f4.resultTypes.toList.any (Try.prog.loopsFrom ·))) = true := by kernel_rfl
theorem k22 : ((Rows.fnExactCentreOfRow.plainKeys == Try.prog.plainKeys)) = true := by kernel_rfl
theorem k23 : (Rows.fnExactCentreOfRow.shortTexts.isNone) = true := by kernel_rfl
theorem k26 : ((Rows.fnExactCentreOfRow.lifted == Try.prog.liftsFinal)) = true := by rw [Am.j26]; rfl
theorem k27 : ((Try.prog.make == some Rows.fnExactCentreOfRow.make)) = true := by rw [Am.j27]; rfl
theorem k28 : ((Rows.fnExactCentreOfRow.kinds == (if Rows.fnExactCentreOfRow.domain.isEmpty then [] else Try.f4.params.toList.map fun t => match Try.prog.underlying t with | some (.int k) => some k | _ => none))) = true := by kernel_rfl
theorem k29 : ((Rows.fnExactCentreOfRow.pinned == Rows.fnExactCentreOfRow.pinnedBy)) = true := by kernel_rfl
theorem k30 : ((Rows.fnExactCentreOfRow.veiled == (Try.f4.params.toList ++ Rows.fnExactCentreOfSpec.plain.varTypes Try.prog ++ Try.f4.resultTypes.toList).any (Try.prog.veiledRec ·))) = true := by kernel_rfl
theorem k31 : (Rows.fnExactCentreOfRow.veiledFits Try.prog Try.f4.params.toList (Try.f4.params.toList ++ Rows.fnExactCentreOfSpec.plain.varTypes Try.prog ++ Try.f4.resultTypes.toList)) = true := by kernel_rfl
set_option maxRecDepth 100000 in
theorem closed : joinedFacts Try.prog 4 Try.f4 Rows.fnExactCentreOfSpec Rows.fnExactCentreOfRow = true := by
  unfold joinedFacts
  simp only [Bool.and_eq_true]
  exact ⟨⟨⟨⟨⟨⟨⟨⟨⟨⟨⟨⟨⟨⟨⟨⟨⟨⟨⟨⟨⟨⟨⟨⟨⟨⟨⟨⟨⟨⟨⟨k0, Am.j1⟩, Am.j2⟩, k3⟩, k4⟩, k5⟩, Am.j6⟩, k7⟩, Am.j8⟩, k9⟩, k10⟩, k11⟩, k12⟩, k13⟩, k14⟩, k15⟩, k16⟩, k17⟩, k18⟩, k19⟩, k20⟩, k21⟩, k22⟩, k23⟩, Am.j24⟩, Am.j25⟩, k26⟩, k27⟩, k28⟩, k29⟩, k30⟩, k31⟩
theorem named : Try.prog.funcNamed Rows.fnExactCentreOfRow.func = some 4 := by kernel_rfl
theorem inst : Try.f4.isInstance Try.prog Rows.fnExactCentreOfRow.origin Rows.fnExactCentreOfRow.targs := of_decide_eq_true (by kernel_rfl)
theorem wrap : Try.f4.isWrapper Try.prog Rows.fnExactCentreOfRow.wrapper Rows.fnExactCentreOfRow.mainSum := by
  unfold Func.isWrapper
  first | (rw [if_pos (by decide +kernel)]; kernel_rfl) | (rw [if_neg (by decide +kernel)]; exact ⟨rfl, rfl⟩)
theorem over : Rows.fnExactCentreOfRow.holds Try.pinned (OpenSpec.ofChange Rows.fnExactCentreOfSpec) :=
  OpenClaim.holds_of_wide 4 Try.f4 rfl rfl rfl rfl rfl rfl rfl ⟨rfl, rfl, rfl, rfl, rfl⟩ rfl rfl rfl rfl rfl named Try.func4 closed inst wrap (fun os started H enc _ => lifted os started H enc)
end Go.Proofs.Ythjjfdiofpdknaa.lawFnExactCentreOf
namespace Go.Proofs.Ythjjfdiofpdknaa
/-- The row, under a short name, for the claim. -/
theorem fnExactCentreOf_holds : Rows.FnExactCentreOfSaid := lawFnExactCentreOf.over
#print axioms fnExactCentreOf_holds
end Go.Proofs.Ythjjfdiofpdknaa
