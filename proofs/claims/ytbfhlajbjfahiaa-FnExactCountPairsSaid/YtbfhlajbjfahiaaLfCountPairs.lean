/- FnExactCountPairs: the law returns true for every input and leaves its arguments as they were. No conditions. -/
import Derived.Test.YtbfhlajbjfahiaaRows
import Derived.Test.YtbfhlajbjfahiaaDwCountPairs
import Derived.Test.YtbfhlajbjfahiaaAmB
import Derived.Test.YtbfhlajbjfahiaaBmB
import Derived.Test.YtbfhlajbjfahiaaBmG
import Derived.Test.YtbfhlajbjfahiaaAmJ
import Derived.WalkKit
import Derived.ProofKit
import Derived.OpenShut
import Derived.ShutString
import Derived.ChangeOld
import Derived.Below
import Derived.SizedLaws
import Derived.ChangeSlices
namespace Go.Proofs.Ytbfhlajbjfahiaa.lawFnExactCountPairs
open Go.ChangeShapes Go.WideShapes Go.ChangeAt Go.RowKit
set_option linter.unusedVariables false
theorem own : ownKnob Try.prog.godebug = none := by kernel_rfl
theorem laidOut : laidOutB Try.prog = true := Am.j1
set_option maxRecDepth 100000 in
theorem lifted (os : Os) (started : os.Started) (H : Type) (enc : TypeId × Value → H) :
    ReturnsInHanded {} Try.checked os 11 .any (Rows.fnExactCountPairsSpec.pre6 enc Try.prog Try.f11 Rows.fnExactCountPairsRow.domain false) (Rows.fnExactCountPairsSpec.post enc Try.prog Try.f11 false true false false) := by
  refine returnsInHanded_of_change_sized (C := Try.checked) own started (by kernel_rfl) Try.func11
    (ChangeSpec.witness6 (enc := enc) (C := Try.checked) false ⟨#[], #[.slice none 0 0], []⟩ 8 (by kernel_rfl) (by kernel_rfl) (by kernel_rfl) (by kernel_rfl)) ?_
  intro W base args ds gs before hval0 hW hcnd hsz0 _
  have hval : ∀ (j : Nat) t v, Try.f11.params[j]? = some t → args[j]? = some v → Value.okWide Try.prog W .any base t v := hval0
  have hW' := hW
  obtain ⟨p, q, hA0, hV, rfl, hfz, hnd⟩ := hW
  have hA : DataW.TrodAll enc Try.prog W 0 (fun _ => true) true Try.f11.params.toList args.toList ds p := hA0
  rw [Try.params11] at hA hval
  obtain ⟨v0, vs0, d0, ds0, p0, q0, hargs, rfl, rfl, h0, r0⟩ := trodAll_cons hA
  obtain ⟨rfl, rfl, rfl⟩ := trodAll_nil r0
  obtain rfl : args = #[v0] := by cases args; simp_all
  obtain ⟨rfl, rfl⟩ := trodVars_none hV
  have hst0 := Am.start0 Am.φ W
  obtain ⟨a0, len0, cap0, rfl⟩ := okWide_slice Try.underlying29 (hval 0 29 v0 rfl rfl)
  have k0 := h0
  have lt0 : ∀ x ∈ p0, x.block < W.heap.size := by obtain ⟨m, hm⟩ := k0; exact DataW.trod_lt m _ _ _ hm
  obtain ⟨z0, w0, bl0, bm0⟩ : ∃ xss, Am.RowII W a0 len0 cap0 xss ∧ xss.length ≤ 9223372036854775807 ∧ ∀ xs ∈ xss, xs.length ≤ 9223372036854775807 := by
    obtain ⟨fuel, hf⟩ := h0
    exact Am.open_intss Try.underlying29 (by kernel_rfl) Try.underlying45 Try.underlying2 (by kernel_rfl) hf (by simp [Value.cells])
  obtain ⟨β0, M0, u0, hst1, he0, hb0, hu0, hx0⟩ := Am.addRowII hst0 w0
  refine (Am.run (args := [u0]) hst1 (by kernel_rfl : Am.φ Am.F_laws_FnExactCountPairs = some 11) (Am.VRL.cons hu0 Am.VRL.nil) (Bm.toAm (Bm.FnExactCountPairs_small bl0 bm0) (Bm.VL.cons (Bm.vr_intss hx0) Bm.VL.nil))).mono fun e W' ⟨he, bel⟩ => ?_
  subst he
  exact ⟨_, rfl, _, _, _, [], _, [], hW', trodAll_mk1 (shut_bool Try.underlying4 _), (trodAll_mk1 (Below.trod laidOut (by kernel_rfl) (of_decide_eq_true (by kernel_rfl)) k0 bel lt0)), rfl, bel.frame _, fun h => by cases h⟩
theorem k0 : (Rows.fnExactCountPairsRow.wf (OpenSpec.ofChange Rows.fnExactCountPairsSpec)) = true := by kernel_rfl
theorem k3 : (Try.f11.params.all (Try.prog.readableRec ·)) = true := by kernel_rfl
theorem k4 : (namedTie Try.prog Rows.fnExactCountPairsRow.named Rows.fnExactCountPairsSpec.vars) = true := by kernel_rfl
theorem k5 : ((Rows.fnExactCountPairsRow.stops == [])) = true := by kernel_rfl
theorem k7 : ((Rows.fnExactCountPairsRow.knobs == [])) = true := by kernel_rfl
theorem k9 : ((Rows.fnExactCountPairsRow.inPlace == Try.prog.inPlace  11)) = true := by kernel_rfl
theorem k10 : ((Rows.fnExactCountPairsRow.unfollowed == Try.prog.unfollowed  11)) = true := by kernel_rfl
theorem k11 : ((Rows.fnExactCountPairsRow.recurses == Try.prog.recurses  11)) = true := by kernel_rfl
theorem k12 : ((Rows.fnExactCountPairsRow.named == Try.prog.varsNamed  11)) = true := by kernel_rfl
theorem k13 : ((Rows.fnExactCountPairsRow.maps == (Try.f11.params.toList ++ Rows.fnExactCountPairsSpec.plain.varTypes Try.prog).any (Try.prog.mapsRec ·))) = true := by kernel_rfl
theorem k14 : ((Rows.fnExactCountPairsRow.ifaces == (Try.f11.params.toList ++ Rows.fnExactCountPairsSpec.plain.varTypes Try.prog).any (Try.prog.ifacesRec ·))) = true := by kernel_rfl
theorem k15 : ((Rows.fnExactCountPairsRow.mapsOut == Try.prog.mapsAmong Try.f11.resultTypes.toList)) = true := by kernel_rfl
theorem k16 : ((Rows.fnExactCountPairsRow.loops == (Try.f11.params.toList ++ Rows.fnExactCountPairsSpec.plain.varTypes Try.prog).any (Try.prog.loopsFrom ·))) = true := by kernel_rfl
theorem k17 : ((Rows.fnExactCountPairsRow.wideKeys == (Try.f11.params.toList ++ Rows.fnExactCountPairsSpec.plain.varTypes Try.prog ++ Try.f11.resultTypes.toList).any (Try.prog.wideKeysFrom ·))) = true := by kernel_rfl
theorem k18 : (Rows.fnExactCountPairsSpec.vars.all (Try.prog.varReadable ·)) = true := by kernel_rfl
theorem k19 : (Try.f11.resultTypes.all (fun t => Try.prog.readableRec t && decide (t < Try.prog.types.size))) = true := by kernel_rfl
theorem k20 : ((Rows.fnExactCountPairsRow.ifacesOut == Try.f11.resultTypes.toList.any (Try.prog.ifacesRec ·))) = true := by kernel_rfl
theorem k21 : ((Rows.fnExactCountPairsRow.loopsOut == Try.f11.resultTypes.toList.any (Try.prog.loopsFrom ·))) = true := by kernel_rfl
theorem k22 : ((Rows.fnExactCountPairsRow.plainKeys == Try.prog.plainKeys)) = true := by kernel_rfl
theorem k23 : (Rows.fnExactCountPairsRow.shortTexts.isNone) = true := by kernel_rfl
theorem k26 : ((Rows.fnExactCountPairsRow.lifted == Try.prog.liftsFinal)) = true := by rw [Am.j26]; rfl
theorem k27 : ((Try.prog.make == some Rows.fnExactCountPairsRow.make)) = true := by rw [Am.j27]; rfl
theorem k28 : ((Rows.fnExactCountPairsRow.kinds == (if Rows.fnExactCountPairsRow.domain.isEmpty then [] else Try.f11.params.toList.map fun t => match Try.prog.underlying t with | some (.int k) => some k | _ => none))) = true := by kernel_rfl
theorem k29 : ((Rows.fnExactCountPairsRow.pinned == Rows.fnExactCountPairsRow.pinnedBy)) = true := by kernel_rfl
theorem k30 : ((Rows.fnExactCountPairsRow.veiled == (Try.f11.params.toList ++ Rows.fnExactCountPairsSpec.plain.varTypes Try.prog ++ Try.f11.resultTypes.toList).any (Try.prog.veiledRec ·))) = true := by kernel_rfl
theorem k31 : (Rows.fnExactCountPairsRow.veiledFits Try.prog Try.f11.params.toList (Try.f11.params.toList ++ Rows.fnExactCountPairsSpec.plain.varTypes Try.prog ++ Try.f11.resultTypes.toList)) = true := by kernel_rfl
set_option maxRecDepth 100000 in
theorem closed : joinedFacts Try.prog 11 Try.f11 Rows.fnExactCountPairsSpec Rows.fnExactCountPairsRow = true := by
  unfold joinedFacts
  simp only [Bool.and_eq_true]
  exact ⟨⟨⟨⟨⟨⟨⟨⟨⟨⟨⟨⟨⟨⟨⟨⟨⟨⟨⟨⟨⟨⟨⟨⟨⟨⟨⟨⟨⟨⟨⟨k0, Am.j1⟩, Am.j2⟩, k3⟩, k4⟩, k5⟩, Am.j6⟩, k7⟩, Am.j8⟩, k9⟩, k10⟩, k11⟩, k12⟩, k13⟩, k14⟩, k15⟩, k16⟩, k17⟩, k18⟩, k19⟩, k20⟩, k21⟩, k22⟩, k23⟩, Am.j24⟩, Am.j25⟩, k26⟩, k27⟩, k28⟩, k29⟩, k30⟩, k31⟩
theorem named : Try.prog.funcNamed Rows.fnExactCountPairsRow.func = some 11 := by kernel_rfl
theorem inst : Try.f11.isInstance Try.prog Rows.fnExactCountPairsRow.origin Rows.fnExactCountPairsRow.targs := of_decide_eq_true (by kernel_rfl)
theorem wrap : Try.f11.isWrapper Try.prog Rows.fnExactCountPairsRow.wrapper Rows.fnExactCountPairsRow.mainSum := by
  unfold Func.isWrapper
  first | (rw [if_pos (by decide +kernel)]; kernel_rfl) | (rw [if_neg (by decide +kernel)]; exact ⟨rfl, rfl⟩)
theorem over : Rows.fnExactCountPairsRow.holds Try.pinned (OpenSpec.ofChange Rows.fnExactCountPairsSpec) :=
  OpenClaim.holds_of_wide 11 Try.f11 rfl rfl rfl rfl rfl rfl rfl ⟨rfl, rfl, rfl, rfl, rfl⟩ rfl rfl rfl rfl rfl named Try.func11 closed inst wrap (fun os started H enc _ => lifted os started H enc)
end Go.Proofs.Ytbfhlajbjfahiaa.lawFnExactCountPairs
namespace Go.Proofs.Ytbfhlajbjfahiaa
/-- The row, under a short name, for the claim. -/
theorem fnExactCountPairs_holds : Rows.FnExactCountPairsSaid := lawFnExactCountPairs.over
#print axioms fnExactCountPairs_holds
end Go.Proofs.Ytbfhlajbjfahiaa
