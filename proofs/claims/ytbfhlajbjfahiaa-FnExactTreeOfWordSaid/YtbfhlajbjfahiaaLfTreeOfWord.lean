/- FnExactTreeOfWord: the law returns true for every input and leaves its arguments as they were. No conditions. -/
import Derived.Test.YtbfhlajbjfahiaaRows
import Derived.Test.YtbfhlajbjfahiaaDwTreeOfWord
import Derived.Test.YtbfhlajbjfahiaaAmB
import Derived.Test.YtbfhlajbjfahiaaBmB
import Derived.Test.YtbfhlajbjfahiaaAmJ
import Derived.WalkKit
import Derived.ProofKit
import Derived.OpenShut
import Derived.ShutString
import Derived.ChangeOld
import Derived.Below
import Derived.SizedLaws
import Derived.ChangeSlices
namespace Go.Proofs.Ytbfhlajbjfahiaa.lawFnExactTreeOfWord
open Go.ChangeShapes Go.WideShapes Go.ChangeAt Go.RowKit
set_option linter.unusedVariables false
theorem own : ownKnob Try.prog.godebug = none := by kernel_rfl
theorem laidOut : laidOutB Try.prog = true := Am.j1
set_option maxRecDepth 100000 in
theorem lifted (os : Os) (started : os.Started) (H : Type) (enc : TypeId × Value → H) :
    ReturnsInHanded {} Try.checked os 4 .any (Rows.fnExactTreeOfWordSpec.pre6 enc Try.prog Try.f4 Rows.fnExactTreeOfWordRow.domain false) (Rows.fnExactTreeOfWordSpec.post enc Try.prog Try.f4 false true false false) := by
  refine returnsInHanded_of_change_sized (C := Try.checked) own started (by kernel_rfl) Try.func4
    (ChangeSpec.witness6 (enc := enc) (C := Try.checked) false ⟨#[], #[.string ⟨#[]⟩], []⟩ 8 (by kernel_rfl) (by kernel_rfl) (by kernel_rfl) (by kernel_rfl)) ?_
  intro W base args ds gs before hval0 hW hcnd hsz0 _
  have hval : ∀ (j : Nat) t v, Try.f4.params[j]? = some t → args[j]? = some v → Value.okWide Try.prog W .any base t v := hval0
  have hW' := hW
  obtain ⟨p, q, hA0, hV, rfl, hfz, hnd⟩ := hW
  have hA : DataW.TrodAll enc Try.prog W 0 (fun _ => true) true Try.f4.params.toList args.toList ds p := hA0
  rw [Try.params4] at hA hval
  obtain ⟨v0, vs0, d0, ds0, p0, q0, hargs, rfl, rfl, h0, r0⟩ := trodAll_cons hA
  obtain ⟨rfl, rfl, rfl⟩ := trodAll_nil r0
  obtain rfl : args = #[v0] := by cases args; simp_all
  obtain ⟨rfl, rfl⟩ := trodVars_none hV
  have hst0 := Am.start0 Am.φ W
  obtain ⟨a0, rfl, rfl, rfl, w0⟩ := Go.ChangeMaps.open_string Try.underlying9 (hval 0 9 v0 rfl rfl) h0
  refine (Am.run (args := [.string a0]) hst0 (by kernel_rfl : Am.φ Am.F_laws_FnExactTreeOfWord = some 4) (Am.VRL.cons (.plain rfl) Am.VRL.nil) (Bm.toAm (Bm.FnExactTreeOfWord_small ) (Bm.VL.cons (.z (.plain rfl)) Bm.VL.nil))).mono fun e W' ⟨he, bel⟩ => ?_
  subst he
  exact ⟨_, rfl, _, _, _, [], _, [], hW', trodAll_mk1 (shut_bool Try.underlying4 _), (trodAll_mk1 (Go.ChangeMaps.shut_string Try.underlying9 w0)), rfl, bel.frame _, fun h => by cases h⟩
theorem k0 : (Rows.fnExactTreeOfWordRow.wf (OpenSpec.ofChange Rows.fnExactTreeOfWordSpec)) = true := by kernel_rfl
theorem k3 : (Try.f4.params.all (Try.prog.readableRec ·)) = true := by kernel_rfl
theorem k4 : (namedTie Try.prog Rows.fnExactTreeOfWordRow.named Rows.fnExactTreeOfWordSpec.vars) = true := by kernel_rfl
theorem k5 : ((Rows.fnExactTreeOfWordRow.stops == [])) = true := by kernel_rfl
theorem k7 : ((Rows.fnExactTreeOfWordRow.knobs == [])) = true := by kernel_rfl
theorem k9 : ((Rows.fnExactTreeOfWordRow.inPlace == Try.prog.inPlace  4)) = true := by kernel_rfl
theorem k10 : ((Rows.fnExactTreeOfWordRow.unfollowed == Try.prog.unfollowed  4)) = true := by kernel_rfl
theorem k11 : ((Rows.fnExactTreeOfWordRow.recurses == Try.prog.recurses  4)) = true := by kernel_rfl
theorem k12 : ((Rows.fnExactTreeOfWordRow.named == Try.prog.varsNamed  4)) = true := by kernel_rfl
theorem k13 : ((Rows.fnExactTreeOfWordRow.maps == (Try.f4.params.toList ++ Rows.fnExactTreeOfWordSpec.plain.varTypes Try.prog).any (Try.prog.mapsRec ·))) = true := by kernel_rfl
theorem k14 : ((Rows.fnExactTreeOfWordRow.ifaces == (Try.f4.params.toList ++ Rows.fnExactTreeOfWordSpec.plain.varTypes Try.prog).any (Try.prog.ifacesRec ·))) = true := by kernel_rfl
theorem k15 : ((Rows.fnExactTreeOfWordRow.mapsOut == Try.prog.mapsAmong Try.f4.resultTypes.toList)) = true := by kernel_rfl
theorem k16 : ((Rows.fnExactTreeOfWordRow.loops == (Try.f4.params.toList ++ Rows.fnExactTreeOfWordSpec.plain.varTypes Try.prog).any (Try.prog.loopsFrom ·))) = true := by kernel_rfl
theorem k17 : ((Rows.fnExactTreeOfWordRow.wideKeys == (Try.f4.params.toList ++ Rows.fnExactTreeOfWordSpec.plain.varTypes Try.prog ++ Try.f4.resultTypes.toList).any (Try.prog.wideKeysFrom ·))) = true := by kernel_rfl
theorem k18 : (Rows.fnExactTreeOfWordSpec.vars.all (Try.prog.varReadable ·)) = true := by kernel_rfl
theorem k19 : (Try.f4.resultTypes.all (fun t => Try.prog.readableRec t && decide (t < Try.prog.types.size))) = true := by kernel_rfl
theorem k20 : ((Rows.fnExactTreeOfWordRow.ifacesOut == Try.f4.resultTypes.toList.any (Try.prog.ifacesRec ·))) = true := by kernel_rfl
theorem k21 : ((Rows.fnExactTreeOfWordRow.loopsOut == Try.f4.resultTypes.toList.any (Try.prog.loopsFrom ·))) = true := by kernel_rfl
theorem k22 : ((Rows.fnExactTreeOfWordRow.plainKeys == Try.prog.plainKeys)) = true := by kernel_rfl
theorem k23 : (Rows.fnExactTreeOfWordRow.shortTexts.isNone) = true := by kernel_rfl
theorem k26 : ((Rows.fnExactTreeOfWordRow.lifted == Try.prog.liftsFinal)) = true := by rw [Am.j26]; rfl
theorem k27 : ((Try.prog.make == some Rows.fnExactTreeOfWordRow.make)) = true := by rw [Am.j27]; rfl
theorem k28 : ((Rows.fnExactTreeOfWordRow.kinds == (if Rows.fnExactTreeOfWordRow.domain.isEmpty then [] else Try.f4.params.toList.map fun t => match Try.prog.underlying t with | some (.int k) => some k | _ => none))) = true := by kernel_rfl
theorem k29 : ((Rows.fnExactTreeOfWordRow.pinned == Rows.fnExactTreeOfWordRow.pinnedBy)) = true := by kernel_rfl
theorem k30 : ((Rows.fnExactTreeOfWordRow.veiled == (Try.f4.params.toList ++ Rows.fnExactTreeOfWordSpec.plain.varTypes Try.prog ++ Try.f4.resultTypes.toList).any (Try.prog.veiledRec ·))) = true := by kernel_rfl
theorem k31 : (Rows.fnExactTreeOfWordRow.veiledFits Try.prog Try.f4.params.toList (Try.f4.params.toList ++ Rows.fnExactTreeOfWordSpec.plain.varTypes Try.prog ++ Try.f4.resultTypes.toList)) = true := by kernel_rfl
set_option maxRecDepth 100000 in
theorem closed : joinedFacts Try.prog 4 Try.f4 Rows.fnExactTreeOfWordSpec Rows.fnExactTreeOfWordRow = true := by
  unfold joinedFacts
  simp only [Bool.and_eq_true]
  exact ⟨⟨⟨⟨⟨⟨⟨⟨⟨⟨⟨⟨⟨⟨⟨⟨⟨⟨⟨⟨⟨⟨⟨⟨⟨⟨⟨⟨⟨⟨⟨k0, Am.j1⟩, Am.j2⟩, k3⟩, k4⟩, k5⟩, Am.j6⟩, k7⟩, Am.j8⟩, k9⟩, k10⟩, k11⟩, k12⟩, k13⟩, k14⟩, k15⟩, k16⟩, k17⟩, k18⟩, k19⟩, k20⟩, k21⟩, k22⟩, k23⟩, Am.j24⟩, Am.j25⟩, k26⟩, k27⟩, k28⟩, k29⟩, k30⟩, k31⟩
theorem named : Try.prog.funcNamed Rows.fnExactTreeOfWordRow.func = some 4 := by kernel_rfl
theorem inst : Try.f4.isInstance Try.prog Rows.fnExactTreeOfWordRow.origin Rows.fnExactTreeOfWordRow.targs := of_decide_eq_true (by kernel_rfl)
theorem wrap : Try.f4.isWrapper Try.prog Rows.fnExactTreeOfWordRow.wrapper Rows.fnExactTreeOfWordRow.mainSum := by
  unfold Func.isWrapper
  first | (rw [if_pos (by decide +kernel)]; kernel_rfl) | (rw [if_neg (by decide +kernel)]; exact ⟨rfl, rfl⟩)
theorem over : Rows.fnExactTreeOfWordRow.holds Try.pinned (OpenSpec.ofChange Rows.fnExactTreeOfWordSpec) :=
  OpenClaim.holds_of_wide 4 Try.f4 rfl rfl rfl rfl rfl rfl rfl ⟨rfl, rfl, rfl, rfl, rfl⟩ rfl rfl rfl rfl rfl named Try.func4 closed inst wrap (fun os started H enc _ => lifted os started H enc)
end Go.Proofs.Ytbfhlajbjfahiaa.lawFnExactTreeOfWord
namespace Go.Proofs.Ytbfhlajbjfahiaa
/-- The row, under a short name, for the claim. -/
theorem fnExactTreeOfWord_holds : Rows.FnExactTreeOfWordSaid := lawFnExactTreeOfWord.over
#print axioms fnExactTreeOfWord_holds
end Go.Proofs.Ytbfhlajbjfahiaa
