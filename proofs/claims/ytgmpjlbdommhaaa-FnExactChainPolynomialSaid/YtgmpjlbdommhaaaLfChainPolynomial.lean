/- FnExactChainPolynomial: the law returns true for every input and leaves its arguments as they were. No conditions. -/
import Derived.Test.YtgmpjlbdommhaaaRows
import Derived.Test.YtgmpjlbdommhaaaLwChainPolynomial
import Derived.Test.YtgmpjlbdommhaaaAmB
import Derived.Test.YtgmpjlbdommhaaaAmJ
import Derived.WalkKit
import Derived.ProofKit
import Derived.OpenShut
import Derived.ShutString
import Derived.ChangeOld
import Derived.Below
import Derived.SizedLaws
import Derived.ChangeSlices
namespace Go.Proofs.Ytgmpjlbdommhaaa.lawFnExactChainPolynomial
open Go.ChangeShapes Go.WideShapes Go.ChangeAt Go.RowKit
set_option linter.unusedVariables false
theorem own : ownKnob Try.prog.godebug = none := by kernel_rfl
theorem laidOut : laidOutB Try.prog = true := Am.j1
set_option maxRecDepth 100000 in
theorem lifted (os : Os) (started : os.Started) (H : Type) (enc : TypeId × Value → H) :
    ReturnsInHanded {} Try.checked os 10 .any (Rows.fnExactChainPolynomialSpec.pre6 enc Try.prog Try.f10 Rows.fnExactChainPolynomialRow.domain false) (Rows.fnExactChainPolynomialSpec.post enc Try.prog Try.f10 false true false false) := by
  refine returnsInHanded_of_change_sized (C := Try.checked) own started (by kernel_rfl) Try.func10
    (ChangeSpec.witness6 (enc := enc) (C := Try.checked) false ⟨#[], #[.int .i64 0], []⟩ 8 (by kernel_rfl) (by kernel_rfl) (by kernel_rfl) (by kernel_rfl)) ?_
  intro W base args ds gs before hval0 hW hcnd hsz0 _
  have hval : ∀ (j : Nat) t v, Try.f10.params[j]? = some t → args[j]? = some v → Value.okWide Try.prog W .any base t v := hval0
  have hW' := hW
  obtain ⟨p, q, hA0, hV, rfl, hfz, hnd⟩ := hW
  have hA : DataW.TrodAll enc Try.prog W 0 (fun _ => true) true Try.f10.params.toList args.toList ds p := hA0
  rw [Try.params10] at hA hval
  obtain ⟨v0, vs0, d0, ds0, p0, q0, hargs, rfl, rfl, h0, r0⟩ := trodAll_cons hA
  obtain ⟨rfl, rfl, rfl⟩ := trodAll_nil r0
  obtain rfl : args = #[v0] := by cases args; simp_all
  obtain ⟨rfl, rfl⟩ := trodVars_none hV
  have hst0 := Am.start0 Am.φ W
  obtain ⟨a0, rfl, rfl, rfl, w0⟩ := open_int Try.underlying2 (hval 0 2 v0 rfl rfl) h0
  have b0 := Am.wf64 w0
  refine (Am.run (args := [Am.I a0]) hst0 (by kernel_rfl : Am.φ Am.F_laws_FnExactChainPolynomial = some 10) (Am.VRL.cons (.plain rfl) Am.VRL.nil) (Am.FnExactChainPolynomial_small b0 fun _ _ => rfl)).mono fun e W' ⟨he, bel⟩ => ?_
  subst he
  exact ⟨_, rfl, _, _, _, [], _, [], hW', trodAll_mk1 (shut_bool Try.underlying4 _), (trodAll_mk1 (shut_int Try.underlying2 w0)), rfl, bel.frame _, fun h => by cases h⟩
theorem k0 : (Rows.fnExactChainPolynomialRow.wf (OpenSpec.ofChange Rows.fnExactChainPolynomialSpec)) = true := by kernel_rfl
theorem k3 : (Try.f10.params.all (Try.prog.readableRec ·)) = true := by kernel_rfl
theorem k4 : (namedTie Try.prog Rows.fnExactChainPolynomialRow.named Rows.fnExactChainPolynomialSpec.vars) = true := by kernel_rfl
theorem k5 : ((Rows.fnExactChainPolynomialRow.stops == [])) = true := by kernel_rfl
theorem k7 : ((Rows.fnExactChainPolynomialRow.knobs == [])) = true := by kernel_rfl
theorem k9 : ((Rows.fnExactChainPolynomialRow.inPlace == Try.prog.inPlace  10)) = true := by kernel_rfl
theorem k10 : ((Rows.fnExactChainPolynomialRow.unfollowed == Try.prog.unfollowed  10)) = true := by kernel_rfl
theorem k11 : ((Rows.fnExactChainPolynomialRow.recurses == Try.prog.recurses  10)) = true := by kernel_rfl
theorem k12 : ((Rows.fnExactChainPolynomialRow.named == Try.prog.varsNamed  10)) = true := by kernel_rfl
theorem k13 : ((Rows.fnExactChainPolynomialRow.maps == (Try.f10.params.toList ++ Rows.fnExactChainPolynomialSpec.plain.varTypes Try.prog).any (Try.prog.mapsRec ·))) = true := by kernel_rfl
theorem k14 : ((Rows.fnExactChainPolynomialRow.ifaces == (Try.f10.params.toList ++ Rows.fnExactChainPolynomialSpec.plain.varTypes Try.prog).any (Try.prog.ifacesRec ·))) = true := by kernel_rfl
theorem k15 : ((Rows.fnExactChainPolynomialRow.mapsOut == Try.prog.mapsAmong Try.f10.resultTypes.toList)) = true := by kernel_rfl
theorem k16 : ((Rows.fnExactChainPolynomialRow.loops == (Try.f10.params.toList ++ Rows.fnExactChainPolynomialSpec.plain.varTypes Try.prog).any (Try.prog.loopsFrom ·))) = true := by kernel_rfl
theorem k17 : ((Rows.fnExactChainPolynomialRow.wideKeys == (Try.f10.params.toList ++ Rows.fnExactChainPolynomialSpec.plain.varTypes Try.prog ++ Try.f10.resultTypes.toList).any (Try.prog.wideKeysFrom ·))) = true := by kernel_rfl
theorem k18 : (Rows.fnExactChainPolynomialSpec.vars.all (Try.prog.varReadable ·)) = true := by kernel_rfl
theorem k19 : (Try.f10.resultTypes.all (fun t => Try.prog.readableRec t && decide (t < Try.prog.types.size))) = true := by kernel_rfl
theorem k20 : ((Rows.fnExactChainPolynomialRow.ifacesOut == Try.f10.resultTypes.toList.any (Try.prog.ifacesRec ·))) = true := by kernel_rfl
theorem k21 : ((Rows.fnExactChainPolynomialRow.loopsOut == Try.f10.resultTypes.toList.any (Try.prog.loopsFrom ·))) = true := by kernel_rfl
theorem k22 : ((Rows.fnExactChainPolynomialRow.plainKeys == Try.prog.plainKeys)) = true := by kernel_rfl
theorem k23 : (Rows.fnExactChainPolynomialRow.shortTexts.isNone) = true := by kernel_rfl
theorem k26 : ((Rows.fnExactChainPolynomialRow.lifted == Try.prog.liftsFinal)) = true := by rw [Am.j26]; rfl
theorem k27 : ((Try.prog.make == some Rows.fnExactChainPolynomialRow.make)) = true := by rw [Am.j27]; rfl
theorem k28 : ((Rows.fnExactChainPolynomialRow.kinds == (if Rows.fnExactChainPolynomialRow.domain.isEmpty then [] else Try.f10.params.toList.map fun t => match Try.prog.underlying t with | some (.int k) => some k | _ => none))) = true := by kernel_rfl
theorem k29 : ((Rows.fnExactChainPolynomialRow.pinned == Rows.fnExactChainPolynomialRow.pinnedBy)) = true := by kernel_rfl
theorem k30 : ((Rows.fnExactChainPolynomialRow.veiled == (Try.f10.params.toList ++ Rows.fnExactChainPolynomialSpec.plain.varTypes Try.prog ++ Try.f10.resultTypes.toList).any (Try.prog.veiledRec ·))) = true := by kernel_rfl
theorem k31 : (Rows.fnExactChainPolynomialRow.veiledFits Try.prog Try.f10.params.toList (Try.f10.params.toList ++ Rows.fnExactChainPolynomialSpec.plain.varTypes Try.prog ++ Try.f10.resultTypes.toList)) = true := by kernel_rfl
theorem closed : joinedFacts Try.prog 10 Try.f10 Rows.fnExactChainPolynomialSpec Rows.fnExactChainPolynomialRow = true := by
  unfold joinedFacts
  simp only [Bool.and_eq_true]
  exact ⟨⟨⟨⟨⟨⟨⟨⟨⟨⟨⟨⟨⟨⟨⟨⟨⟨⟨⟨⟨⟨⟨⟨⟨⟨⟨⟨⟨⟨⟨⟨k0, Am.j1⟩, Am.j2⟩, k3⟩, k4⟩, k5⟩, Am.j6⟩, k7⟩, Am.j8⟩, k9⟩, k10⟩, k11⟩, k12⟩, k13⟩, k14⟩, k15⟩, k16⟩, k17⟩, k18⟩, k19⟩, k20⟩, k21⟩, k22⟩, k23⟩, Am.j24⟩, Am.j25⟩, k26⟩, k27⟩, k28⟩, k29⟩, k30⟩, k31⟩
theorem named : Try.prog.funcNamed Rows.fnExactChainPolynomialRow.func = some 10 := by kernel_rfl
theorem inst : Try.f10.isInstance Try.prog Rows.fnExactChainPolynomialRow.origin Rows.fnExactChainPolynomialRow.targs := of_decide_eq_true (by kernel_rfl)
theorem wrap : Try.f10.isWrapper Try.prog Rows.fnExactChainPolynomialRow.wrapper Rows.fnExactChainPolynomialRow.mainSum := by
  unfold Func.isWrapper
  first | (rw [if_pos (by decide +kernel)]; kernel_rfl) | (rw [if_neg (by decide +kernel)]; exact ⟨rfl, rfl⟩)
theorem over : Rows.fnExactChainPolynomialRow.holds Try.pinned (OpenSpec.ofChange Rows.fnExactChainPolynomialSpec) :=
  OpenClaim.holds_of_wide 10 Try.f10 rfl rfl rfl rfl rfl rfl rfl ⟨rfl, rfl, rfl, rfl, rfl⟩ rfl rfl rfl rfl rfl named Try.func10 closed inst wrap (fun os started H enc _ => lifted os started H enc)
end Go.Proofs.Ytgmpjlbdommhaaa.lawFnExactChainPolynomial
namespace Go.Proofs.Ytgmpjlbdommhaaa
/-- The row, under a short name, for the claim. -/
theorem fnExactChainPolynomial_holds : Rows.FnExactChainPolynomialSaid := lawFnExactChainPolynomial.over
#print axioms fnExactChainPolynomial_holds
end Go.Proofs.Ytgmpjlbdommhaaa
