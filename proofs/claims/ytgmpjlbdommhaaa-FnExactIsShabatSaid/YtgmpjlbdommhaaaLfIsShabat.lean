/- FnExactIsShabat: the law returns true for every input and leaves its arguments as they were. No conditions. -/
import Derived.Test.YtgmpjlbdommhaaaRows
import Derived.Test.YtgmpjlbdommhaaaLwIsShabat
import Derived.Test.YtgmpjlbdommhaaaAmB
import Derived.Test.YtgmpjlbdommhaaaAmJ
import Derived.WalkKit
import Derived.ProofKit
import Derived.OpenShut
import Derived.ShutString
import Derived.ChangeOld
import Derived.Below
import Derived.SizedLaws
import Derived.ChangeSlices
namespace Go.Proofs.Ytgmpjlbdommhaaa.lawFnExactIsShabat
open Go.ChangeShapes Go.WideShapes Go.ChangeAt Go.RowKit
set_option linter.unusedVariables false
theorem own : ownKnob Try.prog.godebug = none := by kernel_rfl
theorem laidOut : laidOutB Try.prog = true := Am.j1
set_option maxRecDepth 100000 in
theorem lifted (os : Os) (started : os.Started) (H : Type) (enc : TypeId × Value → H) :
    ReturnsInHanded {} Try.checked os 17 .any (Rows.fnExactIsShabatSpec.pre6 enc Try.prog Try.f17 Rows.fnExactIsShabatRow.domain false) (Rows.fnExactIsShabatSpec.post enc Try.prog Try.f17 false true false false) := by
  refine returnsInHanded_of_change_sized (C := Try.checked) own started (by kernel_rfl) Try.func17
    (ChangeSpec.witness6 (enc := enc) (C := Try.checked) false ⟨#[], #[.slice none 0 0, .int .i64 0, .int .i64 0], []⟩ 8 (by kernel_rfl) (by kernel_rfl) (by kernel_rfl) (by kernel_rfl)) ?_
  intro W base args ds gs before hval0 hW hcnd hsz0 _
  have hval : ∀ (j : Nat) t v, Try.f17.params[j]? = some t → args[j]? = some v → Value.okWide Try.prog W .any base t v := hval0
  have hW' := hW
  obtain ⟨p, q, hA0, hV, rfl, hfz, hnd⟩ := hW
  have hA : DataW.TrodAll enc Try.prog W 0 (fun _ => true) true Try.f17.params.toList args.toList ds p := hA0
  rw [Try.params17] at hA hval
  obtain ⟨v0, vs0, d0, ds0, p0, q0, hargs, rfl, rfl, h0, r0⟩ := trodAll_cons hA
  obtain ⟨v1, vs1, d1, ds1, p1, q1, rfl, rfl, rfl, h1, r1⟩ := trodAll_cons r0
  obtain ⟨v2, vs2, d2, ds2, p2, q2, rfl, rfl, rfl, h2, r2⟩ := trodAll_cons r1
  obtain ⟨rfl, rfl, rfl⟩ := trodAll_nil r2
  obtain rfl : args = #[v0, v1, v2] := by cases args; simp_all
  obtain ⟨rfl, rfl⟩ := trodVars_none hV
  have hst0 := Am.start0 Am.φ W
  obtain ⟨a0, len0, cap0, rfl⟩ := okWide_slice Try.underlying22 (hval 0 22 v0 rfl rfl)
  have k0 := h0
  have lt0 : ∀ x ∈ p0, x.block < W.heap.size := by obtain ⟨m, hm⟩ := k0; exact DataW.trod_lt m _ _ _ hm
  obtain ⟨z0, w0⟩ : ∃ zs, Am.RowI W a0 len0 cap0 zs := by
    obtain ⟨fuel, hf⟩ := h0
    rcases open_ints Try.underlying22 Try.underlying2 (by kernel_rfl) hf with ⟨hcs, _⟩ | ⟨x, l, c, zs, hcs, _, hl, hm, hz, _, hcell, hwz⟩
    · simp [Value.cells] at hcs
      obtain ⟨rfl, rfl, rfl⟩ := hcs
      exact ⟨[], .inl ⟨rfl, rfl, rfl, rfl⟩⟩
    · simp [Value.cells] at hcs
      obtain ⟨rfl, rfl, rfl⟩ := hcs
      exact ⟨zs, .inr ⟨_, rfl, hl, by simpa using hz, hcell⟩⟩
  obtain ⟨a1, rfl, rfl, rfl, w1⟩ := open_int Try.underlying2 (hval 1 2 v1 rfl rfl) h1
  have b1 := Am.wf64 w1
  obtain ⟨a2, rfl, rfl, rfl, w2⟩ := open_int Try.underlying2 (hval 2 2 v2 rfl rfl) h2
  have b2 := Am.wf64 w2
  obtain ⟨β0, M0, u0, hst1, he0, hb0, hu0, hx0⟩ := Am.addRow hst0 w0
  refine (Am.run (args := [u0, Am.I a1, Am.I a2]) hst1 (by kernel_rfl : Am.φ Am.F_laws_FnExactIsShabat = some 17) (Am.VRL.cons hu0 (Am.VRL.cons (.plain rfl) (Am.VRL.cons (.plain rfl) Am.VRL.nil))) (Am.FnExactIsShabat_small hx0 b1 b2 fun _ _ => rfl)).mono fun e W' ⟨he, bel⟩ => ?_
  subst he
  exact ⟨_, rfl, _, _, _, [], _, [], hW', trodAll_mk1 (shut_bool Try.underlying4 _), (trodAll_cons_mk (Below.trod laidOut (by kernel_rfl) (of_decide_eq_true (by kernel_rfl)) k0 bel lt0) (trodAll_cons_mk (shut_int Try.underlying2 w1) (trodAll_cons_mk (shut_int Try.underlying2 w2) trodAll_mk0))), rfl, bel.frame _, fun h => by cases h⟩
theorem k0 : (Rows.fnExactIsShabatRow.wf (OpenSpec.ofChange Rows.fnExactIsShabatSpec)) = true := by kernel_rfl
theorem k3 : (Try.f17.params.all (Try.prog.readableRec ·)) = true := by kernel_rfl
theorem k4 : (namedTie Try.prog Rows.fnExactIsShabatRow.named Rows.fnExactIsShabatSpec.vars) = true := by kernel_rfl
theorem k5 : ((Rows.fnExactIsShabatRow.stops == [])) = true := by kernel_rfl
theorem k7 : ((Rows.fnExactIsShabatRow.knobs == [])) = true := by kernel_rfl
theorem k9 : ((Rows.fnExactIsShabatRow.inPlace == Try.prog.inPlace  17)) = true := by kernel_rfl
theorem k10 : ((Rows.fnExactIsShabatRow.unfollowed == Try.prog.unfollowed  17)) = true := by kernel_rfl
theorem k11 : ((Rows.fnExactIsShabatRow.recurses == Try.prog.recurses  17)) = true := by kernel_rfl
theorem k12 : ((Rows.fnExactIsShabatRow.named == Try.prog.varsNamed  17)) = true := by kernel_rfl
theorem k13 : ((Rows.fnExactIsShabatRow.maps == (Try.f17.params.toList ++ Rows.fnExactIsShabatSpec.plain.varTypes Try.prog).any (Try.prog.mapsRec ·))) = true := by kernel_rfl
theorem k14 : ((Rows.fnExactIsShabatRow.ifaces == (Try.f17.params.toList ++ Rows.fnExactIsShabatSpec.plain.varTypes Try.prog).any (Try.prog.ifacesRec ·))) = true := by kernel_rfl
theorem k15 : ((Rows.fnExactIsShabatRow.mapsOut == Try.prog.mapsAmong Try.f17.resultTypes.toList)) = true := by kernel_rfl
theorem k16 : ((Rows.fnExactIsShabatRow.loops == (Try.f17.params.toList ++ Rows.fnExactIsShabatSpec.plain.varTypes Try.prog).any (Try.prog.loopsFrom ·))) = true := by kernel_rfl
theorem k17 : ((Rows.fnExactIsShabatRow.wideKeys == (Try.f17.params.toList ++ Rows.fnExactIsShabatSpec.plain.varTypes Try.prog ++ Try.f17.resultTypes.toList).any (Try.prog.wideKeysFrom ·))) = true := by kernel_rfl
theorem k18 : (Rows.fnExactIsShabatSpec.vars.all (Try.prog.varReadable ·)) = true := by kernel_rfl
theorem k19 : (Try.f17.resultTypes.all (fun t => Try.prog.readableRec t && decide (t < Try.prog.types.size))) = true := by kernel_rfl
theorem k20 : ((Rows.fnExactIsShabatRow.ifacesOut == Try.f17.resultTypes.toList.any (Try.prog.ifacesRec ·))) = true := by kernel_rfl
theorem k21 : ((Rows.fnExactIsShabatRow.loopsOut == Try.f17.resultTypes.toList.any (Try.prog.loopsFrom ·))) = true := by kernel_rfl
theorem k22 : ((Rows.fnExactIsShabatRow.plainKeys == Try.prog.plainKeys)) = true := by kernel_rfl
theorem k23 : (Rows.fnExactIsShabatRow.shortTexts.isNone) = true := by kernel_rfl
theorem k26 : ((Rows.fnExactIsShabatRow.lifted == Try.prog.liftsFinal)) = true := by rw [Am.j26]; rfl
theorem k27 : ((Try.prog.make == some Rows.fnExactIsShabatRow.make)) = true := by rw [Am.j27]; rfl
theorem k28 : ((Rows.fnExactIsShabatRow.kinds == (if Rows.fnExactIsShabatRow.domain.isEmpty then [] else Try.f17.params.toList.map fun t => match Try.prog.underlying t with | some (.int k) => some k | _ => none))) = true := by kernel_rfl
theorem k29 : ((Rows.fnExactIsShabatRow.pinned == Rows.fnExactIsShabatRow.pinnedBy)) = true := by kernel_rfl
theorem k30 : ((Rows.fnExactIsShabatRow.veiled == (Try.f17.params.toList ++ Rows.fnExactIsShabatSpec.plain.varTypes Try.prog ++ Try.f17.resultTypes.toList).any (Try.prog.veiledRec ·))) = true := by kernel_rfl
theorem k31 : (Rows.fnExactIsShabatRow.veiledFits Try.prog Try.f17.params.toList (Try.f17.params.toList ++ Rows.fnExactIsShabatSpec.plain.varTypes Try.prog ++ Try.f17.resultTypes.toList)) = true := by kernel_rfl
theorem closed : joinedFacts Try.prog 17 Try.f17 Rows.fnExactIsShabatSpec Rows.fnExactIsShabatRow = true := by
  unfold joinedFacts
  simp only [Bool.and_eq_true]
  exact ⟨⟨⟨⟨⟨⟨⟨⟨⟨⟨⟨⟨⟨⟨⟨⟨⟨⟨⟨⟨⟨⟨⟨⟨⟨⟨⟨⟨⟨⟨⟨k0, Am.j1⟩, Am.j2⟩, k3⟩, k4⟩, k5⟩, Am.j6⟩, k7⟩, Am.j8⟩, k9⟩, k10⟩, k11⟩, k12⟩, k13⟩, k14⟩, k15⟩, k16⟩, k17⟩, k18⟩, k19⟩, k20⟩, k21⟩, k22⟩, k23⟩, Am.j24⟩, Am.j25⟩, k26⟩, k27⟩, k28⟩, k29⟩, k30⟩, k31⟩
theorem named : Try.prog.funcNamed Rows.fnExactIsShabatRow.func = some 17 := by kernel_rfl
theorem inst : Try.f17.isInstance Try.prog Rows.fnExactIsShabatRow.origin Rows.fnExactIsShabatRow.targs := of_decide_eq_true (by kernel_rfl)
theorem wrap : Try.f17.isWrapper Try.prog Rows.fnExactIsShabatRow.wrapper Rows.fnExactIsShabatRow.mainSum := by
  unfold Func.isWrapper
  first | (rw [if_pos (by decide +kernel)]; kernel_rfl) | (rw [if_neg (by decide +kernel)]; exact ⟨rfl, rfl⟩)
theorem over : Rows.fnExactIsShabatRow.holds Try.pinned (OpenSpec.ofChange Rows.fnExactIsShabatSpec) :=
  OpenClaim.holds_of_wide 17 Try.f17 rfl rfl rfl rfl rfl rfl rfl ⟨rfl, rfl, rfl, rfl, rfl⟩ rfl rfl rfl rfl rfl named Try.func17 closed inst wrap (fun os started H enc _ => lifted os started H enc)
end Go.Proofs.Ytgmpjlbdommhaaa.lawFnExactIsShabat
namespace Go.Proofs.Ytgmpjlbdommhaaa
/-- The row, under a short name, for the claim. -/
theorem fnExactIsShabat_holds : Rows.FnExactIsShabatSaid := lawFnExactIsShabat.over
#print axioms fnExactIsShabat_holds
end Go.Proofs.Ytgmpjlbdommhaaa
