/- FnExactTreesOfTypes: the law returns true for every input and leaves its arguments as they were. No conditions. -/
import Derived.Test.YteklchkdgpoedaaRows
import Derived.Test.YteklchkdgpoedaaDwTreesOfTypes
import Derived.Test.YteklchkdgpoedaaAmB
import Derived.Test.YteklchkdgpoedaaBmB
import Derived.Test.YteklchkdgpoedaaAmJ
import Derived.WalkKit
import Derived.ProofKit
import Derived.OpenShut
import Derived.ShutString
import Derived.ChangeOld
import Derived.Below
import Derived.SizedLaws
import Derived.ChangeSlices
namespace Go.Proofs.Yteklchkdgpoedaa.lawFnExactTreesOfTypes
open Go.ChangeShapes Go.WideShapes Go.ChangeAt Go.RowKit
set_option linter.unusedVariables false
theorem own : ownKnob Try.prog.godebug = none := by kernel_rfl
theorem laidOut : laidOutB Try.prog = true := Am.j1
set_option maxRecDepth 100000 in
theorem lifted (os : Os) (started : os.Started) (H : Type) (enc : TypeId × Value → H) :
    ReturnsInHanded {} Try.checked os 6 .any (Rows.fnExactTreesOfTypesSpec.pre6 enc Try.prog Try.f6 Rows.fnExactTreesOfTypesRow.domain false) (Rows.fnExactTreesOfTypesSpec.post enc Try.prog Try.f6 false true false false) := by
  refine returnsInHanded_of_change_sized (C := Try.checked) own started (by kernel_rfl) Try.func6
    (ChangeSpec.witness6 (enc := enc) (C := Try.checked) false ⟨#[], #[.slice none 0 0, .slice none 0 0], []⟩ 8 (by kernel_rfl) (by kernel_rfl) (by kernel_rfl) (by kernel_rfl)) ?_
  intro W base args ds gs before hval0 hW hcnd hsz0 _
  have hval : ∀ (j : Nat) t v, Try.f6.params[j]? = some t → args[j]? = some v → Value.okWide Try.prog W .any base t v := hval0
  have hW' := hW
  obtain ⟨p, q, hA0, hV, rfl, hfz, hnd⟩ := hW
  have hA : DataW.TrodAll enc Try.prog W 0 (fun _ => true) true Try.f6.params.toList args.toList ds p := hA0
  rw [Try.params6] at hA hval
  obtain ⟨v0, vs0, d0, ds0, p0, q0, hargs, rfl, rfl, h0, r0⟩ := trodAll_cons hA
  obtain ⟨v1, vs1, d1, ds1, p1, q1, rfl, rfl, rfl, h1, r1⟩ := trodAll_cons r0
  obtain ⟨rfl, rfl, rfl⟩ := trodAll_nil r1
  obtain rfl : args = #[v0, v1] := by cases args; simp_all
  obtain ⟨rfl, rfl⟩ := trodVars_none hV
  have hst0 := Am.start0 Am.φ W
  obtain ⟨a0, len0, cap0, rfl⟩ := okWide_slice Try.underlying45 (hval 0 45 v0 rfl rfl)
  have k0 := h0
  have lt0 : ∀ x ∈ p0, x.block < W.heap.size := by obtain ⟨m, hm⟩ := k0; exact DataW.trod_lt m _ _ _ hm
  obtain ⟨z0, w0⟩ : ∃ zs, Am.RowI W a0 len0 cap0 zs := by
    obtain ⟨fuel, hf⟩ := h0
    rcases open_ints Try.underlying45 Try.underlying2 (by kernel_rfl) hf with ⟨hcs, _⟩ | ⟨x, l, c, zs, hcs, _, hl, hm, hz, _, hcell, hwz⟩
    · simp [Value.cells] at hcs
      obtain ⟨rfl, rfl, rfl⟩ := hcs
      exact ⟨[], .inl ⟨rfl, rfl, rfl, rfl⟩⟩
    · simp [Value.cells] at hcs
      obtain ⟨rfl, rfl, rfl⟩ := hcs
      exact ⟨zs, .inr ⟨_, rfl, hl, by simpa using hz, hcell⟩⟩
  obtain ⟨a1, len1, cap1, rfl⟩ := okWide_slice Try.underlying45 (hval 1 45 v1 rfl rfl)
  have k1 := h1
  have lt1 : ∀ x ∈ p1, x.block < W.heap.size := by obtain ⟨m, hm⟩ := k1; exact DataW.trod_lt m _ _ _ hm
  obtain ⟨z1, w1⟩ : ∃ zs, Am.RowI W a1 len1 cap1 zs := by
    obtain ⟨fuel, hf⟩ := h1
    rcases open_ints Try.underlying45 Try.underlying2 (by kernel_rfl) hf with ⟨hcs, _⟩ | ⟨x, l, c, zs, hcs, _, hl, hm, hz, _, hcell, hwz⟩
    · simp [Value.cells] at hcs
      obtain ⟨rfl, rfl, rfl⟩ := hcs
      exact ⟨[], .inl ⟨rfl, rfl, rfl, rfl⟩⟩
    · simp [Value.cells] at hcs
      obtain ⟨rfl, rfl, rfl⟩ := hcs
      exact ⟨zs, .inr ⟨_, rfl, hl, by simpa using hz, hcell⟩⟩
  obtain ⟨β0, M0, u0, hst1, he0, hb0, hu0, hx0⟩ := Am.addRow hst0 w0
  obtain ⟨β1, M1, u1, hst2, he1, hb1, hu1, hx1⟩ := Am.addRow hst1 w1
  refine (Am.run (args := [u0, u1]) hst2 (by kernel_rfl : Am.φ Am.F_laws_FnExactTreesOfTypes = some 6) (Am.VRL.cons (hu0.mono hb1) (Am.VRL.cons hu1 Am.VRL.nil)) (Bm.toAm (Bm.FnExactTreesOfTypes_small  ) (Bm.VL.cons (Bm.vr_ints (hx0.ext he1)) (Bm.VL.cons (Bm.vr_ints hx1) Bm.VL.nil)))).mono fun e W' ⟨he, bel⟩ => ?_
  subst he
  exact ⟨_, rfl, _, _, _, [], _, [], hW', trodAll_mk1 (shut_bool Try.underlying4 _), (trodAll_cons_mk (Below.trod laidOut (by kernel_rfl) (of_decide_eq_true (by kernel_rfl)) k0 bel lt0) (trodAll_cons_mk (Below.trod laidOut (by kernel_rfl) (of_decide_eq_true (by kernel_rfl)) k1 bel lt1) trodAll_mk0)), rfl, bel.frame _, fun h => by cases h⟩
theorem k0 : (Rows.fnExactTreesOfTypesRow.wf (OpenSpec.ofChange Rows.fnExactTreesOfTypesSpec)) = true := by kernel_rfl
theorem k3 : (Try.f6.params.all (Try.prog.readableRec ·)) = true := by kernel_rfl
theorem k4 : (namedTie Try.prog Rows.fnExactTreesOfTypesRow.named Rows.fnExactTreesOfTypesSpec.vars) = true := by kernel_rfl
theorem k5 : ((Rows.fnExactTreesOfTypesRow.stops == [])) = true := by kernel_rfl
theorem k7 : ((Rows.fnExactTreesOfTypesRow.knobs == [])) = true := by kernel_rfl
theorem k9 : ((Rows.fnExactTreesOfTypesRow.inPlace == Try.prog.inPlace  6)) = true := by kernel_rfl
theorem k10 : ((Rows.fnExactTreesOfTypesRow.unfollowed == Try.prog.unfollowed  6)) = true := by kernel_rfl
theorem k11 : ((Rows.fnExactTreesOfTypesRow.recurses == Try.prog.recurses  6)) = true := by kernel_rfl
theorem k12 : ((Rows.fnExactTreesOfTypesRow.named == Try.prog.varsNamed  6)) = true := by kernel_rfl
theorem k13 : ((Rows.fnExactTreesOfTypesRow.maps == (Try.f6.params.toList ++ Rows.fnExactTreesOfTypesSpec.plain.varTypes Try.prog).any (Try.prog.mapsRec ·))) = true := by kernel_rfl
theorem k14 : ((Rows.fnExactTreesOfTypesRow.ifaces == (Try.f6.params.toList ++ Rows.fnExactTreesOfTypesSpec.plain.varTypes Try.prog).any (Try.prog.ifacesRec ·))) = true := by kernel_rfl
theorem k15 : ((Rows.fnExactTreesOfTypesRow.mapsOut == Try.prog.mapsAmong Try.f6.resultTypes.toList)) = true := by kernel_rfl
theorem k16 : ((Rows.fnExactTreesOfTypesRow.loops == (Try.f6.params.toList ++ Rows.fnExactTreesOfTypesSpec.plain.varTypes Try.prog).any (Try.prog.loopsFrom ·))) = true := by kernel_rfl
theorem k17 : ((Rows.fnExactTreesOfTypesRow.wideKeys == (Try.f6.params.toList ++ Rows.fnExactTreesOfTypesSpec.plain.varTypes Try.prog ++ Try.f6.resultTypes.toList).any (Try.prog.wideKeysFrom ·))) = true := by kernel_rfl
theorem k18 : (Rows.fnExactTreesOfTypesSpec.vars.all (Try.prog.varReadable ·)) = true := by kernel_rfl
theorem k19 : (Try.f6.resultTypes.all (fun t => Try.prog.readableRec t && decide (t < Try.prog.types.size))) = true := by kernel_rfl
theorem k20 : ((Rows.fnExactTreesOfTypesRow.ifacesOut == Try.f6.resultTypes.toList.any (Try.prog.ifacesRec ·))) = true := by kernel_rfl
theorem k21 : ((Rows.fnExactTreesOfTypesRow.loopsOut == Try.f6.resultTypes.toList.any (Try.prog.loopsFrom ·))) = true := by kernel_rfl
theorem k22 : ((Rows.fnExactTreesOfTypesRow.plainKeys == Try.prog.plainKeys)) = true := by kernel_rfl
theorem k23 : (Rows.fnExactTreesOfTypesRow.shortTexts.isNone) = true := by kernel_rfl
theorem k26 : ((Rows.fnExactTreesOfTypesRow.lifted == Try.prog.liftsFinal)) = true := by rw [Am.j26]; rfl
theorem k27 : ((Try.prog.make == some Rows.fnExactTreesOfTypesRow.make)) = true := by rw [Am.j27]; rfl
theorem k28 : ((Rows.fnExactTreesOfTypesRow.kinds == (if Rows.fnExactTreesOfTypesRow.domain.isEmpty then [] else Try.f6.params.toList.map fun t => match Try.prog.underlying t with | some (.int k) => some k | _ => none))) = true := by kernel_rfl
theorem k29 : ((Rows.fnExactTreesOfTypesRow.pinned == Rows.fnExactTreesOfTypesRow.pinnedBy)) = true := by kernel_rfl
theorem k30 : ((Rows.fnExactTreesOfTypesRow.veiled == (Try.f6.params.toList ++ Rows.fnExactTreesOfTypesSpec.plain.varTypes Try.prog ++ Try.f6.resultTypes.toList).any (Try.prog.veiledRec ·))) = true := by kernel_rfl
theorem k31 : (Rows.fnExactTreesOfTypesRow.veiledFits Try.prog Try.f6.params.toList (Try.f6.params.toList ++ Rows.fnExactTreesOfTypesSpec.plain.varTypes Try.prog ++ Try.f6.resultTypes.toList)) = true := by kernel_rfl
set_option maxRecDepth 100000 in
theorem closed : joinedFacts Try.prog 6 Try.f6 Rows.fnExactTreesOfTypesSpec Rows.fnExactTreesOfTypesRow = true := by
  unfold joinedFacts
  simp only [Bool.and_eq_true]
  exact ⟨⟨⟨⟨⟨⟨⟨⟨⟨⟨⟨⟨⟨⟨⟨⟨⟨⟨⟨⟨⟨⟨⟨⟨⟨⟨⟨⟨⟨⟨⟨k0, Am.j1⟩, Am.j2⟩, k3⟩, k4⟩, k5⟩, Am.j6⟩, k7⟩, Am.j8⟩, k9⟩, k10⟩, k11⟩, k12⟩, k13⟩, k14⟩, k15⟩, k16⟩, k17⟩, k18⟩, k19⟩, k20⟩, k21⟩, k22⟩, k23⟩, Am.j24⟩, Am.j25⟩, k26⟩, k27⟩, k28⟩, k29⟩, k30⟩, k31⟩
theorem named : Try.prog.funcNamed Rows.fnExactTreesOfTypesRow.func = some 6 := by kernel_rfl
theorem inst : Try.f6.isInstance Try.prog Rows.fnExactTreesOfTypesRow.origin Rows.fnExactTreesOfTypesRow.targs := of_decide_eq_true (by kernel_rfl)
theorem wrap : Try.f6.isWrapper Try.prog Rows.fnExactTreesOfTypesRow.wrapper Rows.fnExactTreesOfTypesRow.mainSum := by
  unfold Func.isWrapper
  first | (rw [if_pos (by decide +kernel)]; kernel_rfl) | (rw [if_neg (by decide +kernel)]; exact ⟨rfl, rfl⟩)
theorem over : Rows.fnExactTreesOfTypesRow.holds Try.pinned (OpenSpec.ofChange Rows.fnExactTreesOfTypesSpec) :=
  OpenClaim.holds_of_wide 6 Try.f6 rfl rfl rfl rfl rfl rfl rfl ⟨rfl, rfl, rfl, rfl, rfl⟩ rfl rfl rfl rfl rfl named Try.func6 closed inst wrap (fun os started H enc _ => lifted os started H enc)
end Go.Proofs.Yteklchkdgpoedaa.lawFnExactTreesOfTypes
namespace Go.Proofs.Yteklchkdgpoedaa
/-- The row, under a short name, for the claim. -/
theorem fnExactTreesOfTypes_holds : Rows.FnExactTreesOfTypesSaid := lawFnExactTreesOfTypes.over
#print axioms fnExactTreesOfTypes_holds
end Go.Proofs.Yteklchkdgpoedaa
