/- FnExactPassportOfShabat: the law returns true for every input and leaves its arguments as they were. No conditions. -/
import Derived.Test.YtgmpjlbdommhaaaRows
import Derived.Test.YtgmpjlbdommhaaaLwPassportOfShabat
import Derived.Test.YtgmpjlbdommhaaaAmB
import Derived.Test.YtgmpjlbdommhaaaAmJ
import Derived.WalkKit
import Derived.ProofKit
import Derived.OpenShut
import Derived.ShutString
import Derived.ChangeOld
import Derived.Below
import Derived.SizedLaws
import Derived.ChangeSlices
namespace Go.Proofs.Ytgmpjlbdommhaaa.lawFnExactPassportOfShabat
open Go.ChangeShapes Go.WideShapes Go.ChangeAt Go.RowKit
set_option linter.unusedVariables false
theorem own : ownKnob Try.prog.godebug = none := by kernel_rfl
theorem laidOut : laidOutB Try.prog = true := Am.j1
set_option maxRecDepth 100000 in
theorem lifted (os : Os) (started : os.Started) (H : Type) (enc : TypeId × Value → H) :
    ReturnsInHanded {} Try.checked os 18 .any (Rows.fnExactPassportOfShabatSpec.pre6 enc Try.prog Try.f18 Rows.fnExactPassportOfShabatRow.domain false) (Rows.fnExactPassportOfShabatSpec.post enc Try.prog Try.f18 false true false false) := by
  refine returnsInHanded_of_change_sized (C := Try.checked) own started (by kernel_rfl) Try.func18
    (ChangeSpec.witness6 (enc := enc) (C := Try.checked) false ⟨#[], #[.slice none 0 0, .int .i64 0, .int .i64 0], []⟩ 8 (by kernel_rfl) (by kernel_rfl) (by kernel_rfl) (by kernel_rfl)) ?_
  intro W base args ds gs before hval0 hW hcnd hsz0 _
  have hval : ∀ (j : Nat) t v, Try.f18.params[j]? = some t → args[j]? = some v → Value.okWide Try.prog W .any base t v := hval0
  have hW' := hW
  obtain ⟨p, q, hA0, hV, rfl, hfz, hnd⟩ := hW
  have hA : DataW.TrodAll enc Try.prog W 0 (fun _ => true) true Try.f18.params.toList args.toList ds p := hA0
  rw [Try.params18] at hA hval
  obtain ⟨v0, vs0, d0, ds0, p0, q0, hargs, rfl, rfl, h0, r0⟩ := trodAll_cons hA
  obtain ⟨v1, vs1, d1, ds1, p1, q1, rfl, rfl, rfl, h1, r1⟩ := trodAll_cons r0
  obtain ⟨v2, vs2, d2, ds2, p2, q2, rfl, rfl, rfl, h2, r2⟩ := trodAll_cons r1
  obtain ⟨rfl, rfl, rfl⟩ := trodAll_nil r2
  obtain rfl : args = #[v0, v1, v2] := by cases args; simp_all
  obtain ⟨rfl, rfl⟩ := trodVars_none hV
  have hst0 := Am.start0 Am.φ W
  obtain ⟨a0, len0, cap0, rfl⟩ := okWide_slice Try.underlying22 (hval 0 22 v0 rfl rfl)
  have k0 := h0
  have lt0 : ∀ x ∈ p0, x.block < W.heap.size := by obtain ⟨m, hm⟩ := k0; exact DataW.trod_lt m _ _ _ hm
  obtain ⟨z0, w0⟩ : ∃ zs, Am.RowI W a0 len0 cap0 zs := by
    obtain ⟨fuel, hf⟩ := h0
    rcases open_ints Try.underlying22 Try.underlying2 (by kernel_rfl) hf with ⟨hcs, _⟩ | ⟨x, l, c, zs, hcs, _, hl, hm, hz, _, hcell, hwz⟩
    · simp [Value.cells] at hcs
      obtain ⟨rfl, rfl, rfl⟩ := hcs
      exact ⟨[], .inl ⟨rfl, rfl, rfl, rfl⟩⟩
    · simp [Value.cells] at hcs
      obtain ⟨rfl, rfl, rfl⟩ := hcs
      exact ⟨zs, .inr ⟨_, rfl, hl, by simpa using hz, hcell⟩⟩
  obtain ⟨a1, rfl, rfl, rfl, w1⟩ := open_int Try.underlying2 (hval 1 2 v1 rfl rfl) h1
  have b1 := Am.wf64 w1
  obtain ⟨a2, rfl, rfl, rfl, w2⟩ := open_int Try.underlying2 (hval 2 2 v2 rfl rfl) h2
  have b2 := Am.wf64 w2
  obtain ⟨β0, M0, u0, hst1, he0, hb0, hu0, hx0⟩ := Am.addRow hst0 w0
  refine (Am.run (args := [u0, Am.I a1, Am.I a2]) hst1 (by kernel_rfl : Am.φ Am.F_laws_FnExactPassportOfShabat = some 18) (Am.VRL.cons hu0 (Am.VRL.cons (.plain rfl) (Am.VRL.cons (.plain rfl) Am.VRL.nil))) (Am.FnExactPassportOfShabat_small hx0 b1 b2 fun _ _ => rfl)).mono fun e W' ⟨he, bel⟩ => ?_
  subst he
  exact ⟨_, rfl, _, _, _, [], _, [], hW', trodAll_mk1 (shut_bool Try.underlying4 _), (trodAll_cons_mk (Below.trod laidOut (by kernel_rfl) (of_decide_eq_true (by kernel_rfl)) k0 bel lt0) (trodAll_cons_mk (shut_int Try.underlying2 w1) (trodAll_cons_mk (shut_int Try.underlying2 w2) trodAll_mk0))), rfl, bel.frame _, fun h => by cases h⟩
theorem k0 : (Rows.fnExactPassportOfShabatRow.wf (OpenSpec.ofChange Rows.fnExactPassportOfShabatSpec)) = true := by kernel_rfl
theorem k3 : (Try.f18.params.all (Try.prog.readableRec ·)) = true := by kernel_rfl
theorem k4 : (namedTie Try.prog Rows.fnExactPassportOfShabatRow.named Rows.fnExactPassportOfShabatSpec.vars) = true := by kernel_rfl
theorem k5 : ((Rows.fnExactPassportOfShabatRow.stops == [])) = true := by kernel_rfl
theorem k7 : ((Rows.fnExactPassportOfShabatRow.knobs == [])) = true := by kernel_rfl
theorem k9 : ((Rows.fnExactPassportOfShabatRow.inPlace == Try.prog.inPlace  18)) = true := by kernel_rfl
theorem k10 : ((Rows.fnExactPassportOfShabatRow.unfollowed == Try.prog.unfollowed  18)) = true := by kernel_rfl
theorem k11 : ((Rows.fnExactPassportOfShabatRow.recurses == Try.prog.recurses  18)) = true := by kernel_rfl
theorem k12 : ((Rows.fnExactPassportOfShabatRow.named == Try.prog.varsNamed  18)) = true := by kernel_rfl
theorem k13 : ((Rows.fnExactPassportOfShabatRow.maps == (Try.f18.params.toList ++ Rows.fnExactPassportOfShabatSpec.plain.varTypes Try.prog).any (Try.prog.mapsRec ·))) = true := by kernel_rfl
theorem k14 : ((Rows.fnExactPassportOfShabatRow.ifaces == (Try.f18.params.toList ++ Rows.fnExactPassportOfShabatSpec.plain.varTypes Try.prog).any (Try.prog.ifacesRec ·))) = true := by kernel_rfl
theorem k15 : ((Rows.fnExactPassportOfShabatRow.mapsOut == Try.prog.mapsAmong Try.f18.resultTypes.toList)) = true := by kernel_rfl
theorem k16 : ((Rows.fnExactPassportOfShabatRow.loops == (Try.f18.params.toList ++ Rows.fnExactPassportOfShabatSpec.plain.varTypes Try.prog).any (Try.prog.loopsFrom ·))) = true := by kernel_rfl
theorem k17 : ((Rows.fnExactPassportOfShabatRow.wideKeys == (Try.f18.params.toList ++ Rows.fnExactPassportOfShabatSpec.plain.varTypes Try.prog ++ Try.f18.resultTypes.toList).any (Try.prog.wideKeysFrom ·))) = true := by kernel_rfl
theorem k18 : (Rows.fnExactPassportOfShabatSpec.vars.all (Try.prog.varReadable ·)) = true := by kernel_rfl
theorem k19 : (Try.f18.resultTypes.all (fun t => Try.prog.readableRec t && decide (t < Try.prog.types.size))) = true := by kernel_rfl
theorem k20 : ((Rows.fnExactPassportOfShabatRow.ifacesOut == Try.f18.resultTypes.toList.any (Try.prog.ifacesRec ·))) = true := by kernel_rfl
theorem k21 : ((Rows.fnExactPassportOfShabatRow.loopsOut == Try.f18.resultTypes.toList.any (Try.prog.loopsFrom ·))) = true := by kernel_rfl
theorem k22 : ((Rows.fnExactPassportOfShabatRow.plainKeys == Try.prog.plainKeys)) = true := by kernel_rfl
theorem k23 : (Rows.fnExactPassportOfShabatRow.shortTexts.isNone) = true := by kernel_rfl
theorem k26 : ((Rows.fnExactPassportOfShabatRow.lifted == Try.prog.liftsFinal)) = true := by rw [Am.j26]; rfl
theorem k27 : ((Try.prog.make == some Rows.fnExactPassportOfShabatRow.make)) = true := by rw [Am.j27]; rfl
theorem k28 : ((Rows.fnExactPassportOfShabatRow.kinds == (if Rows.fnExactPassportOfShabatRow.domain.isEmpty then [] else Try.f18.params.toList.map fun t => match Try.prog.underlying t with | some (.int k) => some k | _ => none))) = true := by kernel_rfl
theorem k29 : ((Rows.fnExactPassportOfShabatRow.pinned == Rows.fnExactPassportOfShabatRow.pinnedBy)) = true := by kernel_rfl
theorem k30 : ((Rows.fnExactPassportOfShabatRow.veiled == (Try.f18.params.toList ++ Rows.fnExactPassportOfShabatSpec.plain.varTypes Try.prog ++ Try.f18.resultTypes.toList).any (Try.prog.veiledRec ·))) = true := by kernel_rfl
theorem k31 : (Rows.fnExactPassportOfShabatRow.veiledFits Try.prog Try.f18.params.toList (Try.f18.params.toList ++ Rows.fnExactPassportOfShabatSpec.plain.varTypes Try.prog ++ Try.f18.resultTypes.toList)) = true := by kernel_rfl
theorem closed : joinedFacts Try.prog 18 Try.f18 Rows.fnExactPassportOfShabatSpec Rows.fnExactPassportOfShabatRow = true := by
  unfold joinedFacts
  simp only [Bool.and_eq_true]
  exact ⟨⟨⟨⟨⟨⟨⟨⟨⟨⟨⟨⟨⟨⟨⟨⟨⟨⟨⟨⟨⟨⟨⟨⟨⟨⟨⟨⟨⟨⟨⟨k0, Am.j1⟩, Am.j2⟩, k3⟩, k4⟩, k5⟩, Am.j6⟩, k7⟩, Am.j8⟩, k9⟩, k10⟩, k11⟩, k12⟩, k13⟩, k14⟩, k15⟩, k16⟩, k17⟩, k18⟩, k19⟩, k20⟩, k21⟩, k22⟩, k23⟩, Am.j24⟩, Am.j25⟩, k26⟩, k27⟩, k28⟩, k29⟩, k30⟩, k31⟩
theorem named : Try.prog.funcNamed Rows.fnExactPassportOfShabatRow.func = some 18 := by kernel_rfl
theorem inst : Try.f18.isInstance Try.prog Rows.fnExactPassportOfShabatRow.origin Rows.fnExactPassportOfShabatRow.targs := of_decide_eq_true (by kernel_rfl)
theorem wrap : Try.f18.isWrapper Try.prog Rows.fnExactPassportOfShabatRow.wrapper Rows.fnExactPassportOfShabatRow.mainSum := by
  unfold Func.isWrapper
  first | (rw [if_pos (by decide +kernel)]; kernel_rfl) | (rw [if_neg (by decide +kernel)]; exact ⟨rfl, rfl⟩)
theorem over : Rows.fnExactPassportOfShabatRow.holds Try.pinned (OpenSpec.ofChange Rows.fnExactPassportOfShabatSpec) :=
  OpenClaim.holds_of_wide 18 Try.f18 rfl rfl rfl rfl rfl rfl rfl ⟨rfl, rfl, rfl, rfl, rfl⟩ rfl rfl rfl rfl rfl named Try.func18 closed inst wrap (fun os started H enc _ => lifted os started H enc)
end Go.Proofs.Ytgmpjlbdommhaaa.lawFnExactPassportOfShabat
namespace Go.Proofs.Ytgmpjlbdommhaaa
/-- The row, under a short name, for the claim. -/
theorem fnExactPassportOfShabat_holds : Rows.FnExactPassportOfShabatSaid := lawFnExactPassportOfShabat.over
#print axioms fnExactPassportOfShabat_holds
end Go.Proofs.Ytgmpjlbdommhaaa
