/- FnExactCountConnected: the law returns true for every input and leaves its arguments as they were. No conditions. -/
import Derived.Test.YtbfhlajbjfahiaaRows
import Derived.Test.YtbfhlajbjfahiaaDwCountConnected
import Derived.Test.YtbfhlajbjfahiaaAmB
import Derived.Test.YtbfhlajbjfahiaaBmB
import Derived.Test.YtbfhlajbjfahiaaBmG
import Derived.Test.YtbfhlajbjfahiaaAmJ
import Derived.WalkKit
import Derived.ProofKit
import Derived.OpenShut
import Derived.ShutString
import Derived.ChangeOld
import Derived.Below
import Derived.SizedLaws
import Derived.ChangeSlices
namespace Go.Proofs.Ytbfhlajbjfahiaa.lawFnExactCountConnected
open Go.ChangeShapes Go.WideShapes Go.ChangeAt Go.RowKit
set_option linter.unusedVariables false
theorem own : ownKnob Try.prog.godebug = none := by kernel_rfl
theorem laidOut : laidOutB Try.prog = true := Am.j1
set_option maxRecDepth 100000 in
theorem lifted (os : Os) (started : os.Started) (H : Type) (enc : TypeId × Value → H) :
    ReturnsInHanded {} Try.checked os 12 .any (Rows.fnExactCountConnectedSpec.pre6 enc Try.prog Try.f12 Rows.fnExactCountConnectedRow.domain false) (Rows.fnExactCountConnectedSpec.post enc Try.prog Try.f12 false true false false) := by
  refine returnsInHanded_of_change_sized (C := Try.checked) own started (by kernel_rfl) Try.func12
    (ChangeSpec.witness6 (enc := enc) (C := Try.checked) false ⟨#[], #[.slice none 0 0], []⟩ 8 (by kernel_rfl) (by kernel_rfl) (by kernel_rfl) (by kernel_rfl)) ?_
  intro W base args ds gs before hval0 hW hcnd hsz0 _
  have hval : ∀ (j : Nat) t v, Try.f12.params[j]? = some t → args[j]? = some v → Value.okWide Try.prog W .any base t v := hval0
  have hW' := hW
  obtain ⟨p, q, hA0, hV, rfl, hfz, hnd⟩ := hW
  have hA : DataW.TrodAll enc Try.prog W 0 (fun _ => true) true Try.f12.params.toList args.toList ds p := hA0
  rw [Try.params12] at hA hval
  obtain ⟨v0, vs0, d0, ds0, p0, q0, hargs, rfl, rfl, h0, r0⟩ := trodAll_cons hA
  obtain ⟨rfl, rfl, rfl⟩ := trodAll_nil r0
  obtain rfl : args = #[v0] := by cases args; simp_all
  obtain ⟨rfl, rfl⟩ := trodVars_none hV
  have hst0 := Am.start0 Am.φ W
  obtain ⟨a0, len0, cap0, rfl⟩ := okWide_slice Try.underlying29 (hval 0 29 v0 rfl rfl)
  have k0 := h0
  have lt0 : ∀ x ∈ p0, x.block < W.heap.size := by obtain ⟨m, hm⟩ := k0; exact DataW.trod_lt m _ _ _ hm
  obtain ⟨z0, w0, bl0, bm0⟩ : ∃ xss, Am.RowII W a0 len0 cap0 xss ∧ xss.length ≤ 9223372036854775807 ∧ ∀ xs ∈ xss, xs.length ≤ 9223372036854775807 := by
    obtain ⟨fuel, hf⟩ := h0
    exact Am.open_intss Try.underlying29 (by kernel_rfl) Try.underlying45 Try.underlying2 (by kernel_rfl) hf (by simp [Value.cells])
  obtain ⟨β0, M0, u0, hst1, he0, hb0, hu0, hx0⟩ := Am.addRowII hst0 w0
  refine (Am.run (args := [u0]) hst1 (by kernel_rfl : Am.φ Am.F_laws_FnExactCountConnected = some 12) (Am.VRL.cons hu0 Am.VRL.nil) (Bm.toAm (Bm.FnExactCountConnected_small bl0 bm0) (Bm.VL.cons (Bm.vr_intss hx0) Bm.VL.nil))).mono fun e W' ⟨he, bel⟩ => ?_
  subst he
  exact ⟨_, rfl, _, _, _, [], _, [], hW', trodAll_mk1 (shut_bool Try.underlying4 _), (trodAll_mk1 (Below.trod laidOut (by kernel_rfl) (of_decide_eq_true (by kernel_rfl)) k0 bel lt0)), rfl, bel.frame _, fun h => by cases h⟩
theorem k0 : (Rows.fnExactCountConnectedRow.wf (OpenSpec.ofChange Rows.fnExactCountConnectedSpec)) = true := by kernel_rfl
theorem k3 : (Try.f12.params.all (Try.prog.readableRec ·)) = true := by kernel_rfl
theorem k4 : (namedTie Try.prog Rows.fnExactCountConnectedRow.named Rows.fnExactCountConnectedSpec.vars) = true := by kernel_rfl
theorem k5 : ((Rows.fnExactCountConnectedRow.stops == [])) = true := by kernel_rfl
theorem k7 : ((Rows.fnExactCountConnectedRow.knobs == [])) = true := by kernel_rfl
theorem k9 : ((Rows.fnExactCountConnectedRow.inPlace == Try.prog.inPlace  12)) = true := by kernel_rfl
theorem k10 : ((Rows.fnExactCountConnectedRow.unfollowed == Try.prog.unfollowed  12)) = true := by kernel_rfl
theorem k11 : ((Rows.fnExactCountConnectedRow.recurses == Try.prog.recurses  12)) = true := by kernel_rfl
theorem k12 : ((Rows.fnExactCountConnectedRow.named == Try.prog.varsNamed  12)) = true := by kernel_rfl
theorem k13 : ((Rows.fnExactCountConnectedRow.maps == (Try.f12.params.toList ++ Rows.fnExactCountConnectedSpec.plain.varTypes Try.prog).any (Try.prog.mapsRec ·))) = true := by kernel_rfl
theorem k14 : ((Rows.fnExactCountConnectedRow.ifaces == (Try.f12.params.toList ++ Rows.fnExactCountConnectedSpec.plain.varTypes Try.prog).any (Try.prog.ifacesRec ·))) = true := by kernel_rfl
theorem k15 : ((Rows.fnExactCountConnectedRow.mapsOut == Try.prog.mapsAmong Try.f12.resultTypes.toList)) = true := by kernel_rfl
theorem k16 : ((Rows.fnExactCountConnectedRow.loops == (Try.f12.params.toList ++ Rows.fnExactCountConnectedSpec.plain.varTypes Try.prog).any (Try.prog.loopsFrom ·))) = true := by kernel_rfl
theorem k17 : ((Rows.fnExactCountConnectedRow.wideKeys == (Try.f12.params.toList ++ Rows.fnExactCountConnectedSpec.plain.varTypes Try.prog ++ Try.f12.resultTypes.toList).any (Try.prog.wideKeysFrom ·))) = true := by kernel_rfl
theorem k18 : (Rows.fnExactCountConnectedSpec.vars.all (Try.prog.varReadable ·)) = true := by kernel_rfl
theorem k19 : (Try.f12.resultTypes.all (fun t => Try.prog.readableRec t && decide (t < Try.prog.types.size))) = true := by kernel_rfl
theorem k20 : ((Rows.fnExactCountConnectedRow.ifacesOut == Try.f12.resultTypes.toList.any (Try.prog.ifacesRec ·))) = true := by kernel_rfl
theorem k21 : ((Rows.fnExactCountConnectedRow.loopsOut == Try.f12.resultTypes.toList.any (Try.prog.loopsFrom ·))) = true := by kernel_rfl
theorem k22 : ((Rows.fnExactCountConnectedRow.plainKeys == Try.prog.plainKeys)) = true := by kernel_rfl
theorem k23 : (Rows.fnExactCountConnectedRow.shortTexts.isNone) = true := by kernel_rfl
theorem k26 : ((Rows.fnExactCountConnectedRow.lifted == Try.prog.liftsFinal)) = true := by rw [Am.j26]; rfl
theorem k27 : ((Try.prog.make == some Rows.fnExactCountConnectedRow.make)) = true := by rw [Am.j27]; rfl
theorem k28 : ((Rows.fnExactCountConnectedRow.kinds == (if Rows.fnExactCountConnectedRow.domain.isEmpty then [] else Try.f12.params.toList.map fun t => match Try.prog.underlying t with | some (.int k) => some k | _ => none))) = true := by kernel_rfl
theorem k29 : ((Rows.fnExactCountConnectedRow.pinned == Rows.fnExactCountConnectedRow.pinnedBy)) = true := by kernel_rfl
theorem k30 : ((Rows.fnExactCountConnectedRow.veiled == (Try.f12.params.toList ++ Rows.fnExactCountConnectedSpec.plain.varTypes Try.prog ++ Try.f12.resultTypes.toList).any (Try.prog.veiledRec ·))) = true := by kernel_rfl
theorem k31 : (Rows.fnExactCountConnectedRow.veiledFits Try.prog Try.f12.params.toList (Try.f12.params.toList ++ Rows.fnExactCountConnectedSpec.plain.varTypes Try.prog ++ Try.f12.resultTypes.toList)) = true := by kernel_rfl
set_option maxRecDepth 100000 in
theorem closed : joinedFacts Try.prog 12 Try.f12 Rows.fnExactCountConnectedSpec Rows.fnExactCountConnectedRow = true := by
  unfold joinedFacts
  simp only [Bool.and_eq_true]
  exact ⟨⟨⟨⟨⟨⟨⟨⟨⟨⟨⟨⟨⟨⟨⟨⟨⟨⟨⟨⟨⟨⟨⟨⟨⟨⟨⟨⟨⟨⟨⟨k0, Am.j1⟩, Am.j2⟩, k3⟩, k4⟩, k5⟩, Am.j6⟩, k7⟩, Am.j8⟩, k9⟩, k10⟩, k11⟩, k12⟩, k13⟩, k14⟩, k15⟩, k16⟩, k17⟩, k18⟩, k19⟩, k20⟩, k21⟩, k22⟩, k23⟩, Am.j24⟩, Am.j25⟩, k26⟩, k27⟩, k28⟩, k29⟩, k30⟩, k31⟩
theorem named : Try.prog.funcNamed Rows.fnExactCountConnectedRow.func = some 12 := by kernel_rfl
theorem inst : Try.f12.isInstance Try.prog Rows.fnExactCountConnectedRow.origin Rows.fnExactCountConnectedRow.targs := of_decide_eq_true (by kernel_rfl)
theorem wrap : Try.f12.isWrapper Try.prog Rows.fnExactCountConnectedRow.wrapper Rows.fnExactCountConnectedRow.mainSum := by
  unfold Func.isWrapper
  first | (rw [if_pos (by decide +kernel)]; kernel_rfl) | (rw [if_neg (by decide +kernel)]; exact ⟨rfl, rfl⟩)
theorem over : Rows.fnExactCountConnectedRow.holds Try.pinned (OpenSpec.ofChange Rows.fnExactCountConnectedSpec) :=
  OpenClaim.holds_of_wide 12 Try.f12 rfl rfl rfl rfl rfl rfl rfl ⟨rfl, rfl, rfl, rfl, rfl⟩ rfl rfl rfl rfl rfl named Try.func12 closed inst wrap (fun os started H enc _ => lifted os started H enc)
end Go.Proofs.Ytbfhlajbjfahiaa.lawFnExactCountConnected
namespace Go.Proofs.Ytbfhlajbjfahiaa
/-- The row, under a short name, for the claim. -/
theorem fnExactCountConnected_holds : Rows.FnExactCountConnectedSaid := lawFnExactCountConnected.over
#print axioms fnExactCountConnected_holds
end Go.Proofs.Ytbfhlajbjfahiaa
