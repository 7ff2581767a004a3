/- FnExactMultiplicitiesOf: the law returns true for every input and leaves its arguments as they were. No conditions. -/
import Derived.Test.YtgmpjlbdommhaaaRows
import Derived.Test.YtgmpjlbdommhaaaLwMultiplicitiesOf
import Derived.Test.YtgmpjlbdommhaaaAmB
import Derived.Test.YtgmpjlbdommhaaaAmJ
import Derived.WalkKit
import Derived.ProofKit
import Derived.OpenShut
import Derived.ShutString
import Derived.ChangeOld
import Derived.Below
import Derived.SizedLaws
import Derived.ChangeSlices
namespace Go.Proofs.Ytgmpjlbdommhaaa.lawFnExactMultiplicitiesOf
open Go.ChangeShapes Go.WideShapes Go.ChangeAt Go.RowKit
set_option linter.unusedVariables false
theorem own : ownKnob Try.prog.godebug = none := by kernel_rfl
theorem laidOut : laidOutB Try.prog = true := Am.j1
set_option maxRecDepth 100000 in
theorem lifted (os : Os) (started : os.Started) (H : Type) (enc : TypeId × Value → H) :
    ReturnsInHanded {} Try.checked os 16 .any (Rows.fnExactMultiplicitiesOfSpec.pre6 enc Try.prog Try.f16 Rows.fnExactMultiplicitiesOfRow.domain false) (Rows.fnExactMultiplicitiesOfSpec.post enc Try.prog Try.f16 false true false false) := by
  refine returnsInHanded_of_change_sized (C := Try.checked) own started (by kernel_rfl) Try.func16
    (ChangeSpec.witness6 (enc := enc) (C := Try.checked) false ⟨#[], #[.slice none 0 0, .int .i64 0], []⟩ 8 (by kernel_rfl) (by kernel_rfl) (by kernel_rfl) (by kernel_rfl)) ?_
  intro W base args ds gs before hval0 hW hcnd hsz0 _
  have hval : ∀ (j : Nat) t v, Try.f16.params[j]? = some t → args[j]? = some v → Value.okWide Try.prog W .any base t v := hval0
  have hW' := hW
  obtain ⟨p, q, hA0, hV, rfl, hfz, hnd⟩ := hW
  have hA : DataW.TrodAll enc Try.prog W 0 (fun _ => true) true Try.f16.params.toList args.toList ds p := hA0
  rw [Try.params16] at hA hval
  obtain ⟨v0, vs0, d0, ds0, p0, q0, hargs, rfl, rfl, h0, r0⟩ := trodAll_cons hA
  obtain ⟨v1, vs1, d1, ds1, p1, q1, rfl, rfl, rfl, h1, r1⟩ := trodAll_cons r0
  obtain ⟨rfl, rfl, rfl⟩ := trodAll_nil r1
  obtain rfl : args = #[v0, v1] := by cases args; simp_all
  obtain ⟨rfl, rfl⟩ := trodVars_none hV
  have hst0 := Am.start0 Am.φ W
  obtain ⟨a0, len0, cap0, rfl⟩ := okWide_slice Try.underlying22 (hval 0 22 v0 rfl rfl)
  have k0 := h0
  have lt0 : ∀ x ∈ p0, x.block < W.heap.size := by obtain ⟨m, hm⟩ := k0; exact DataW.trod_lt m _ _ _ hm
  obtain ⟨z0, w0⟩ : ∃ zs, Am.RowI W a0 len0 cap0 zs := by
    obtain ⟨fuel, hf⟩ := h0
    rcases open_ints Try.underlying22 Try.underlying2 (by kernel_rfl) hf with ⟨hcs, _⟩ | ⟨x, l, c, zs, hcs, _, hl, hm, hz, _, hcell, hwz⟩
    · simp [Value.cells] at hcs
      obtain ⟨rfl, rfl, rfl⟩ := hcs
      exact ⟨[], .inl ⟨rfl, rfl, rfl, rfl⟩⟩
    · simp [Value.cells] at hcs
      obtain ⟨rfl, rfl, rfl⟩ := hcs
      exact ⟨zs, .inr ⟨_, rfl, hl, by simpa using hz, hcell⟩⟩
  obtain ⟨a1, rfl, rfl, rfl, w1⟩ := open_int Try.underlying2 (hval 1 2 v1 rfl rfl) h1
  have b1 := Am.wf64 w1
  obtain ⟨β0, M0, u0, hst1, he0, hb0, hu0, hx0⟩ := Am.addRow hst0 w0
  refine (Am.run (args := [u0, Am.I a1]) hst1 (by kernel_rfl : Am.φ Am.F_laws_FnExactMultiplicitiesOf = some 16) (Am.VRL.cons hu0 (Am.VRL.cons (.plain rfl) Am.VRL.nil)) (Am.FnExactMultiplicitiesOf_small hx0 b1 fun _ _ => rfl)).mono fun e W' ⟨he, bel⟩ => ?_
  subst he
  exact ⟨_, rfl, _, _, _, [], _, [], hW', trodAll_mk1 (shut_bool Try.underlying4 _), (trodAll_cons_mk (Below.trod laidOut (by kernel_rfl) (of_decide_eq_true (by kernel_rfl)) k0 bel lt0) (trodAll_cons_mk (shut_int Try.underlying2 w1) trodAll_mk0)), rfl, bel.frame _, fun h => by cases h⟩
theorem k0 : (Rows.fnExactMultiplicitiesOfRow.wf (OpenSpec.ofChange Rows.fnExactMultiplicitiesOfSpec)) = true := by kernel_rfl
theorem k3 : (Try.f16.params.all (Try.prog.readableRec ·)) = true := by kernel_rfl
theorem k4 : (namedTie Try.prog Rows.fnExactMultiplicitiesOfRow.named Rows.fnExactMultiplicitiesOfSpec.vars) = true := by kernel_rfl
theorem k5 : ((Rows.fnExactMultiplicitiesOfRow.stops == [])) = true := by kernel_rfl
theorem k7 : ((Rows.fnExactMultiplicitiesOfRow.knobs == [])) = true := by kernel_rfl
theorem k9 : ((Rows.fnExactMultiplicitiesOfRow.inPlace == Try.prog.inPlace  16)) = true := by kernel_rfl
theorem k10 : ((Rows.fnExactMultiplicitiesOfRow.unfollowed == Try.prog.unfollowed  16)) = true := by kernel_rfl
theorem k11 : ((Rows.fnExactMultiplicitiesOfRow.recurses == Try.prog.recurses  16)) = true := by kernel_rfl
theorem k12 : ((Rows.fnExactMultiplicitiesOfRow.named == Try.prog.varsNamed  16)) = true := by kernel_rfl
theorem k13 : ((Rows.fnExactMultiplicitiesOfRow.maps == (Try.f16.params.toList ++ Rows.fnExactMultiplicitiesOfSpec.plain.varTypes Try.prog).any (Try.prog.mapsRec ·))) = true := by kernel_rfl
theorem k14 : ((Rows.fnExactMultiplicitiesOfRow.ifaces == (Try.f16.params.toList ++ Rows.fnExactMultiplicitiesOfSpec.plain.varTypes Try.prog).any (Try.prog.ifacesRec ·))) = true := by kernel_rfl
theorem k15 : ((Rows.fnExactMultiplicitiesOfRow.mapsOut == Try.prog.mapsAmong Try.f16.resultTypes.toList)) = true := by kernel_rfl
theorem k16 : ((Rows.fnExactMultiplicitiesOfRow.loops == (Try.f16.params.toList ++ Rows.fnExactMultiplicitiesOfSpec.plain.varTypes Try.prog).any (Try.prog.loopsFrom ·))) = true := by kernel_rfl
theorem k17 : ((Rows.fnExactMultiplicitiesOfRow.wideKeys == (Try.f16.params.toList ++ Rows.fnExactMultiplicitiesOfSpec.plain.varTypes Try.prog ++ Try.f16.resultTypes.toList).any (Try.prog.wideKeysFrom ·))) = true := by kernel_rfl
theorem k18 : (Rows.fnExactMultiplicitiesOfSpec.vars.all (Try.prog.varReadable ·)) = true := by kernel_rfl
theorem k19 : (Try.f16.resultTypes.all (fun t => Try.prog.readableRec t && decide (t < Try.prog.types.size))) = true := by kernel_rfl
theorem k20 : ((Rows.fnExactMultiplicitiesOfRow.ifacesOut == Try.f16.resultTypes.toList.any (Try.prog.ifacesRec ·))) = true := by kernel_rfl
theorem k21 : ((Rows.fnExactMultiplicitiesOfRow.loopsOut == Try.f16.resultTypes.toList.any (Try.prog.loopsFrom ·))) = true := by kernel_rfl
theorem k22 : ((Rows.fnExactMultiplicitiesOfRow.plainKeys == Try.prog.plainKeys)) = true := by kernel_rfl
theorem k23 : (Rows.fnExactMultiplicitiesOfRow.shortTexts.isNone) = true := by kernel_rfl
theorem k26 : ((Rows.fnExactMultiplicitiesOfRow.lifted == Try.prog.liftsFinal)) = true := by rw [Am.j26]; rfl
theorem k27 : ((Try.prog.make == some Rows.fnExactMultiplicitiesOfRow.make)) = true := by rw [Am.j27]; rfl
theorem k28 : ((Rows.fnExactMultiplicitiesOfRow.kinds == (if Rows.fnExactMultiplicitiesOfRow.domain.isEmpty then [] else Try.f16.params.toList.map fun t => match Try.prog.underlying t with | some (.int k) => some k | _ => none))) = true := by kernel_rfl
theorem k29 : ((Rows.fnExactMultiplicitiesOfRow.pinned == Rows.fnExactMultiplicitiesOfRow.pinnedBy)) = true := by kernel_rfl
theorem k30 : ((Rows.fnExactMultiplicitiesOfRow.veiled == (Try.f16.params.toList ++ Rows.fnExactMultiplicitiesOfSpec.plain.varTypes Try.prog ++ Try.f16.resultTypes.toList).any (Try.prog.veiledRec ·))) = true := by kernel_rfl
theorem k31 : (Rows.fnExactMultiplicitiesOfRow.veiledFits Try.prog Try.f16.params.toList (Try.f16.params.toList ++ Rows.fnExactMultiplicitiesOfSpec.plain.varTypes Try.prog ++ Try.f16.resultTypes.toList)) = true := by kernel_rfl
theorem closed : joinedFacts Try.prog 16 Try.f16 Rows.fnExactMultiplicitiesOfSpec Rows.fnExactMultiplicitiesOfRow = true := by
  unfold joinedFacts
  simp only [Bool.and_eq_true]
  exact ⟨⟨⟨⟨⟨⟨⟨⟨⟨⟨⟨⟨⟨⟨⟨⟨⟨⟨⟨⟨⟨⟨⟨⟨⟨⟨⟨⟨⟨⟨⟨k0, Am.j1⟩, Am.j2⟩, k3⟩, k4⟩, k5⟩, Am.j6⟩, k7⟩, Am.j8⟩, k9⟩, k10⟩, k11⟩, k12⟩, k13⟩, k14⟩, k15⟩, k16⟩, k17⟩, k18⟩, k19⟩, k20⟩, k21⟩, k22⟩, k23⟩, Am.j24⟩, Am.j25⟩, k26⟩, k27⟩, k28⟩, k29⟩, k30⟩, k31⟩
theorem named : Try.prog.funcNamed Rows.fnExactMultiplicitiesOfRow.func = some 16 := by kernel_rfl
theorem inst : Try.f16.isInstance Try.prog Rows.fnExactMultiplicitiesOfRow.origin Rows.fnExactMultiplicitiesOfRow.targs := of_decide_eq_true (by kernel_rfl)
theorem wrap : Try.f16.isWrapper Try.prog Rows.fnExactMultiplicitiesOfRow.wrapper Rows.fnExactMultiplicitiesOfRow.mainSum := by
  unfold Func.isWrapper
  first | (rw [if_pos (by decide +kernel)]; kernel_rfl) | (rw [if_neg (by decide +kernel)]; exact ⟨rfl, rfl⟩)
theorem over : Rows.fnExactMultiplicitiesOfRow.holds Try.pinned (OpenSpec.ofChange Rows.fnExactMultiplicitiesOfSpec) :=
  OpenClaim.holds_of_wide 16 Try.f16 rfl rfl rfl rfl rfl rfl rfl ⟨rfl, rfl, rfl, rfl, rfl⟩ rfl rfl rfl rfl rfl named Try.func16 closed inst wrap (fun os started H enc _ => lifted os started H enc)
end Go.Proofs.Ytgmpjlbdommhaaa.lawFnExactMultiplicitiesOf
namespace Go.Proofs.Ytgmpjlbdommhaaa
/-- The row, under a short name, for the claim. -/
theorem fnExactMultiplicitiesOf_holds : Rows.FnExactMultiplicitiesOfSaid := lawFnExactMultiplicitiesOf.over
#print axioms fnExactMultiplicitiesOf_holds
end Go.Proofs.Ytgmpjlbdommhaaa
