/- FnExactAreAlike: the law returns true for every input and leaves its arguments as they were. No conditions. -/
import Derived.Test.YtbbgifoamnjhoaaRows
import Derived.Test.YtbbgifoamnjhoaaDwAreAlike
import Derived.Test.YtbbgifoamnjhoaaAmB
import Derived.Test.YtbbgifoamnjhoaaBmB
import Derived.Test.YtbbgifoamnjhoaaAmJ
import Derived.WalkKit
import Derived.ProofKit
import Derived.OpenShut
import Derived.ShutString
import Derived.ChangeOld
import Derived.Below
import Derived.SizedLaws
import Derived.ChangeSlices
namespace Go.Proofs.Ytbbgifoamnjhoaa.lawFnExactAreAlike
open Go.ChangeShapes Go.WideShapes Go.ChangeAt Go.RowKit
set_option linter.unusedVariables false
theorem own : ownKnob Try.prog.godebug = none := by kernel_rfl
theorem laidOut : laidOutB Try.prog = true := Am.j1
set_option maxRecDepth 100000 in
theorem lifted (os : Os) (started : os.Started) (H : Type) (enc : TypeId × Value → H) :
    ReturnsInHanded {} Try.checked os 5 .any (Rows.fnExactAreAlikeSpec.pre6 enc Try.prog Try.f5 Rows.fnExactAreAlikeRow.domain false) (Rows.fnExactAreAlikeSpec.post enc Try.prog Try.f5 false true false false) := by
  refine returnsInHanded_of_change_sized (C := Try.checked) own started (by kernel_rfl) Try.func5
    (ChangeSpec.witness6 (enc := enc) (C := Try.checked) false ⟨#[], #[.agg ⟨(.int .i64 0) :: List.replicate 32 (.int .u8 0)⟩, .agg ⟨(.int .i64 0) :: List.replicate 32 (.int .u8 0)⟩], []⟩ 8 (by kernel_rfl) (by kernel_rfl) (by kernel_rfl) (by kernel_rfl)) ?_
  intro W base args ds gs before hval0 hW hcnd hsz0 _
  have hval : ∀ (j : Nat) t v, Try.f5.params[j]? = some t → args[j]? = some v → Value.okWide Try.prog W .any base t v := hval0
  have hW' := hW
  obtain ⟨p, q, hA0, hV, rfl, hfz, hnd⟩ := hW
  have hA : DataW.TrodAll enc Try.prog W 0 (fun _ => true) true Try.f5.params.toList args.toList ds p := hA0
  rw [Try.params5] at hA hval
  obtain ⟨v0, vs0, d0, ds0, p0, q0, hargs, rfl, rfl, h0, r0⟩ := trodAll_cons hA
  obtain ⟨v1, vs1, d1, ds1, p1, q1, rfl, rfl, rfl, h1, r1⟩ := trodAll_cons r0
  obtain ⟨rfl, rfl, rfl⟩ := trodAll_nil r1
  obtain rfl : args = #[v0, v1] := by cases args; simp_all
  obtain ⟨rfl, rfl⟩ := trodVars_none hV
  have hst0 := Am.start0 Am.φ W
  obtain ⟨n0, b0, w0, rfl, hb0, hw0, hn0⟩ := Bm.open_D (t64 := 2) (t8 := 5) ⟨_, Try.underlying38, rfl⟩ (by kernel_rfl) (by kernel_rfl) Try.underlying2 Try.underlying5 (hval 0 38 v0 rfl rfl)
  have k0 := h0
  have lt0 : ∀ x ∈ p0, x.block < W.heap.size := by obtain ⟨m, hm⟩ := k0; exact DataW.trod_lt m _ _ _ hm
  obtain ⟨n1, b1, w1, rfl, hb1, hw1, hn1⟩ := Bm.open_D (t64 := 2) (t8 := 5) ⟨_, Try.underlying38, rfl⟩ (by kernel_rfl) (by kernel_rfl) Try.underlying2 Try.underlying5 (hval 1 38 v1 rfl rfl)
  have k1 := h1
  have lt1 : ∀ x ∈ p1, x.block < W.heap.size := by obtain ⟨m, hm⟩ := k1; exact DataW.trod_lt m _ _ _ hm
  refine (Am.run (args := [Bm.DV n0 b0 w0, Bm.DV n1 b1 w1]) hst0 (by kernel_rfl : Am.φ Am.F_laws_FnExactAreAlike = some 5) (Am.VRL.cons (Bm.am_same Bm.plain_D) (Am.VRL.cons (Bm.am_same Bm.plain_D) Am.VRL.nil)) (Bm.toAm (Bm.FnExactAreAlike_small hb0 hw0 hb1 hw1) (Bm.VL.cons (Bm.vr_same Bm.plain_D) (Bm.VL.cons (Bm.vr_same Bm.plain_D) Bm.VL.nil)))).mono fun e W' ⟨he, bel⟩ => ?_
  subst he
  exact ⟨_, rfl, _, _, _, [], _, [], hW', trodAll_mk1 (shut_bool Try.underlying4 _), (trodAll_cons_mk (Below.trod laidOut (by kernel_rfl) (of_decide_eq_true (by kernel_rfl)) k0 bel lt0) (trodAll_cons_mk (Below.trod laidOut (by kernel_rfl) (of_decide_eq_true (by kernel_rfl)) k1 bel lt1) trodAll_mk0)), rfl, bel.frame _, fun h => by cases h⟩
theorem k0 : (Rows.fnExactAreAlikeRow.wf (OpenSpec.ofChange Rows.fnExactAreAlikeSpec)) = true := by kernel_rfl
theorem k3 : (Try.f5.params.all (Try.prog.readableRec ·)) = true := by kernel_rfl
theorem k4 : (namedTie Try.prog Rows.fnExactAreAlikeRow.named Rows.fnExactAreAlikeSpec.vars) = true := by kernel_rfl
theorem k5 : ((Rows.fnExactAreAlikeRow.stops == [])) = true := by kernel_rfl
theorem k7 : ((Rows.fnExactAreAlikeRow.knobs == [])) = true := by kernel_rfl
theorem k9 : ((Rows.fnExactAreAlikeRow.inPlace == Try.prog.inPlace  5)) = true := by kernel_rfl
theorem k10 : ((Rows.fnExactAreAlikeRow.unfollowed == Try.prog.unfollowed  5)) = true := by kernel_rfl
theorem k11 : ((Rows.fnExactAreAlikeRow.recurses == Try.prog.recurses  5)) = true := by kernel_rfl
theorem k12 : ((Rows.fnExactAreAlikeRow.named == Try.prog.varsNamed  5)) = true := by kernel_rfl
theorem k13 : ((Rows.fnExactAreAlikeRow.maps == (Try.f5.params.toList ++ Rows.fnExactAreAlikeSpec.plain.varTypes Try.prog).any (Try.prog.mapsRec ·))) = true := by kernel_rfl
theorem k14 : ((Rows.fnExactAreAlikeRow.ifaces == (Try.f5.params.toList ++ Rows.fnExactAreAlikeSpec.plain.varTypes Try.prog).any (Try.prog.ifacesRec ·))) = true := by kernel_rfl
theorem k15 : ((Rows.fnExactAreAlikeRow.mapsOut == Try.prog.mapsAmong Try.f5.resultTypes.toList)) = true := by kernel_rfl
theorem k16 : ((Rows.fnExactAreAlikeRow.loops == (Try.f5.params.toList ++ Rows.fnExactAreAlikeSpec.plain.varTypes Try.prog).any (Try.prog.loopsFrom ·))) = true := by kernel_rfl
theorem k17 : ((Rows.fnExactAreAlikeRow.wideKeys == (Try.f5.params.toList ++ Rows.fnExactAreAlikeSpec.plain.varTypes Try.prog ++ Try.f5.resultTypes.toList).any (Try.prog.wideKeysFrom ·))) = true := by kernel_rfl
theorem k18 : (Rows.fnExactAreAlikeSpec.vars.all (Try.prog.varReadable ·)) = true := by kernel_rfl
theorem k19 : (Try.f5.resultTypes.all (fun t => Try.prog.readableRec t && decide (t < Try.prog.types.size))) = true := by kernel_rfl
theorem k20 : ((Rows.fnExactAreAlikeRow.ifacesOut == Try.f5.resultTypes.toList.any (Try.prog.ifacesRec ·))) = true := by kernel_rfl
theorem k21 : ((Rows.fnExactAreAlikeRow.loopsOut == Try.f5.resultTypes.toList.any (Try.prog.loopsFrom ·))) = true := by kernel_rfl
theorem k22 : ((Rows.fnExactAreAlikeRow.plainKeys == Try.prog.plainKeys)) = true := by kernel_rfl
theorem k23 : (Rows.fnExactAreAlikeRow.shortTexts.isNone) = true := by kernel_rfl
theorem k26 : ((Rows.fnExactAreAlikeRow.lifted == Try.prog.liftsFinal)) = true := by rw [Am.j26]; rfl
theorem k27 : ((Try.prog.make == some Rows.fnExactAreAlikeRow.make)) = true := by rw [Am.j27]; rfl
theorem k28 : ((Rows.fnExactAreAlikeRow.kinds == (if Rows.fnExactAreAlikeRow.domain.isEmpty then [] else Try.f5.params.toList.map fun t => match Try.prog.underlying t with | some (.int k) => some k | _ => none))) = true := by kernel_rfl
theorem k29 : ((Rows.fnExactAreAlikeRow.pinned == Rows.fnExactAreAlikeRow.pinnedBy)) = true := by kernel_rfl
theorem k30 : ((Rows.fnExactAreAlikeRow.veiled == (Try.f5.params.toList ++ Rows.fnExactAreAlikeSpec.plain.varTypes Try.prog ++ Try.f5.resultTypes.toList).any (Try.prog.veiledRec ·))) = true := by kernel_rfl
theorem k31 : (Rows.fnExactAreAlikeRow.veiledFits Try.prog Try.f5.params.toList (Try.f5.params.toList ++ Rows.fnExactAreAlikeSpec.plain.varTypes Try.prog ++ Try.f5.resultTypes.toList)) = true := by kernel_rfl
set_option maxRecDepth 100000 in
theorem closed : joinedFacts Try.prog 5 Try.f5 Rows.fnExactAreAlikeSpec Rows.fnExactAreAlikeRow = true := by
  unfold joinedFacts
  simp only [Bool.and_eq_true]
  exact ⟨⟨⟨⟨⟨⟨⟨⟨⟨⟨⟨⟨⟨⟨⟨⟨⟨⟨⟨⟨⟨⟨⟨⟨⟨⟨⟨⟨⟨⟨⟨k0, Am.j1⟩, Am.j2⟩, k3⟩, k4⟩, k5⟩, Am.j6⟩, k7⟩, Am.j8⟩, k9⟩, k10⟩, k11⟩, k12⟩, k13⟩, k14⟩, k15⟩, k16⟩, k17⟩, k18⟩, k19⟩, k20⟩, k21⟩, k22⟩, k23⟩, Am.j24⟩, Am.j25⟩, k26⟩, k27⟩, k28⟩, k29⟩, k30⟩, k31⟩
theorem named : Try.prog.funcNamed Rows.fnExactAreAlikeRow.func = some 5 := by kernel_rfl
theorem inst : Try.f5.isInstance Try.prog Rows.fnExactAreAlikeRow.origin Rows.fnExactAreAlikeRow.targs := of_decide_eq_true (by kernel_rfl)
theorem wrap : Try.f5.isWrapper Try.prog Rows.fnExactAreAlikeRow.wrapper Rows.fnExactAreAlikeRow.mainSum := by
  unfold Func.isWrapper
  first | (rw [if_pos (by decide +kernel)]; kernel_rfl) | (rw [if_neg (by decide +kernel)]; exact ⟨rfl, rfl⟩)
theorem over : Rows.fnExactAreAlikeRow.holds Try.pinned (OpenSpec.ofChange Rows.fnExactAreAlikeSpec) :=
  OpenClaim.holds_of_wide 5 Try.f5 rfl rfl rfl rfl rfl rfl rfl ⟨rfl, rfl, rfl, rfl, rfl⟩ rfl rfl rfl rfl rfl named Try.func5 closed inst wrap (fun os started H enc _ => lifted os started H enc)
end Go.Proofs.Ytbbgifoamnjhoaa.lawFnExactAreAlike
namespace Go.Proofs.Ytbbgifoamnjhoaa
/-- The row, under a short name, for the claim. -/
theorem fnExactAreAlike_holds : Rows.FnExactAreAlikeSaid := lawFnExactAreAlike.over
#print axioms fnExactAreAlike_holds
end Go.Proofs.Ytbbgifoamnjhoaa
