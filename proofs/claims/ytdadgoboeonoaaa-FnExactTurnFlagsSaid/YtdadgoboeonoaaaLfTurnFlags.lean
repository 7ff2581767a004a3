/- FnExactTurnFlags: the law returns true for every input and leaves its arguments as they were. No conditions. -/
import Derived.Test.YtdadgoboeonoaaaRows
import Derived.Test.YtdadgoboeonoaaaDwTurnFlags
import Derived.Test.YtdadgoboeonoaaaAmB
import Derived.Test.YtdadgoboeonoaaaBmB
import Derived.Test.YtdadgoboeonoaaaBmF
import Derived.Test.YtdadgoboeonoaaaAmJ
import Derived.WalkKit
import Derived.ProofKit
import Derived.OpenShut
import Derived.ShutString
import Derived.ChangeOld
import Derived.Below
import Derived.SizedLaws
import Derived.ChangeSlices
namespace Go.Proofs.Ytdadgoboeonoaaa.lawFnExactTurnFlags
open Go.ChangeShapes Go.WideShapes Go.ChangeAt Go.RowKit
set_option linter.unusedVariables false
theorem own : ownKnob Try.prog.godebug = none := by kernel_rfl
theorem laidOut : laidOutB Try.prog = true := Am.j1
set_option maxRecDepth 100000 in
theorem lifted (os : Os) (started : os.Started) (H : Type) (enc : TypeId × Value → H) :
    ReturnsInHanded {} Try.checked os 9 .any (Rows.fnExactTurnFlagsSpec.pre6 enc Try.prog Try.f9 Rows.fnExactTurnFlagsRow.domain false) (Rows.fnExactTurnFlagsSpec.post enc Try.prog Try.f9 false true false false) := by
  refine returnsInHanded_of_change_sized (C := Try.checked) own started (by kernel_rfl) Try.func9
    (ChangeSpec.witness6 (enc := enc) (C := Try.checked) false ⟨#[], #[.agg ⟨(.int .i64 0) :: List.replicate 96 (.int .u8 0)⟩, .int .i64 0], []⟩ 8 (by kernel_rfl) (by kernel_rfl) (by kernel_rfl) (by kernel_rfl)) ?_
  intro W base args ds gs before hval0 hW hcnd hsz0 _
  have hval : ∀ (j : Nat) t v, Try.f9.params[j]? = some t → args[j]? = some v → Value.okWide Try.prog W .any base t v := hval0
  have hW' := hW
  obtain ⟨p, q, hA0, hV, rfl, hfz, hnd⟩ := hW
  have hA : DataW.TrodAll enc Try.prog W 0 (fun _ => true) true Try.f9.params.toList args.toList ds p := hA0
  rw [Try.params9] at hA hval
  obtain ⟨v0, vs0, d0, ds0, p0, q0, hargs, rfl, rfl, h0, r0⟩ := trodAll_cons hA
  obtain ⟨v1, vs1, d1, ds1, p1, q1, rfl, rfl, rfl, h1, r1⟩ := trodAll_cons r0
  obtain ⟨rfl, rfl, rfl⟩ := trodAll_nil r1
  obtain rfl : args = #[v0, v1] := by cases args; simp_all
  obtain ⟨rfl, rfl⟩ := trodVars_none hV
  have hst0 := Am.start0 Am.φ W
  obtain ⟨n0, c0, t0, s0, rfl, hc0, ht0, hs0, hn0⟩ := Bm.open_F (t64 := 2) (t8 := 5) ⟨_, Try.underlying24, rfl⟩ (by kernel_rfl) (by kernel_rfl) Try.underlying2 Try.underlying5 (hval 0 24 v0 rfl rfl)
  have k0 := h0
  have lt0 : ∀ x ∈ p0, x.block < W.heap.size := by obtain ⟨m, hm⟩ := k0; exact DataW.trod_lt m _ _ _ hm
  obtain ⟨a1, rfl, rfl, rfl, w1⟩ := open_int Try.underlying2 (hval 1 2 v1 rfl rfl) h1
  have b1 := Am.wf64 w1
  refine (Am.run (args := [Bm.FV n0 c0 t0 s0, Am.I a1]) hst0 (by kernel_rfl : Am.φ Am.F_laws_FnExactTurnFlags = some 9) (Am.VRL.cons (Bm.am_same Bm.plain_F) (Am.VRL.cons (.plain rfl) Am.VRL.nil)) (Bm.toAm (Bm.FnExactTurnFlags_small hc0 ht0 hs0 b1) (Bm.VL.cons (Bm.vr_same Bm.plain_F) (Bm.VL.cons (.z (.plain rfl)) Bm.VL.nil)))).mono fun e W' ⟨he, bel⟩ => ?_
  subst he
  exact ⟨_, rfl, _, _, _, [], _, [], hW', trodAll_mk1 (shut_bool Try.underlying4 _), (trodAll_cons_mk (Below.trod laidOut (by kernel_rfl) (of_decide_eq_true (by kernel_rfl)) k0 bel lt0) (trodAll_cons_mk (shut_int Try.underlying2 w1) trodAll_mk0)), rfl, bel.frame _, fun h => by cases h⟩
theorem k0 : (Rows.fnExactTurnFlagsRow.wf (OpenSpec.ofChange Rows.fnExactTurnFlagsSpec)) = true := by kernel_rfl
theorem k3 : (Try.f9.params.all (Try.prog.readableRec ·)) = true := by kernel_rfl
theorem k4 : (namedTie Try.prog Rows.fnExactTurnFlagsRow.named Rows.fnExactTurnFlagsSpec.vars) = true := by kernel_rfl
theorem k5 : ((Rows.fnExactTurnFlagsRow.stops == [])) = true := by kernel_rfl
theorem k7 : ((Rows.fnExactTurnFlagsRow.knobs == [])) = true := by kernel_rfl
theorem k9 : ((Rows.fnExactTurnFlagsRow.inPlace == Try.prog.inPlace  9)) = true := by kernel_rfl
theorem k10 : ((Rows.fnExactTurnFlagsRow.unfollowed == Try.prog.unfollowed  9)) = true := by kernel_rfl
theorem k11 : ((Rows.fnExactTurnFlagsRow.recurses == Try.prog.recurses  9)) = true := by kernel_rfl
theorem k12 : ((Rows.fnExactTurnFlagsRow.named == Try.prog.varsNamed  9)) = true := by kernel_rfl
theorem k13 : ((Rows.fnExactTurnFlagsRow.maps == (Try.f9.params.toList ++ Rows.fnExactTurnFlagsSpec.plain.varTypes Try.prog).any (Try.prog.mapsRec ·))) = true := by kernel_rfl
theorem k14 : ((Rows.fnExactTurnFlagsRow.ifaces == (Try.f9.params.toList ++ Rows.fnExactTurnFlagsSpec.plain.varTypes Try.prog).any (Try.prog.ifacesRec ·))) = true := by kernel_rfl
theorem k15 : ((Rows.fnExactTurnFlagsRow.mapsOut == Try.prog.mapsAmong Try.f9.resultTypes.toList)) = true := by kernel_rfl
theorem k16 : ((Rows.fnExactTurnFlagsRow.loops == (Try.f9.params.toList ++ Rows.fnExactTurnFlagsSpec.plain.varTypes Try.prog).any (Try.prog.loopsFrom ·))) = true := by kernel_rfl
theorem k17 : ((Rows.fnExactTurnFlagsRow.wideKeys == (Try.f9.params.toList ++ Rows.fnExactTurnFlagsSpec.plain.varTypes Try.prog ++ Try.f9.resultTypes.toList).any (Try.prog.wideKeysFrom ·))) = true := by kernel_rfl
theorem k18 : (Rows.fnExactTurnFlagsSpec.vars.all (Try.prog.varReadable ·)) = true := by kernel_rfl
theorem k19 : (Try.f9.resultTypes.all (fun t => Try.prog.readableRec t && decide (t < Try.prog.types.size))) = true := by kernel_rfl
theorem k20 : ((Rows.fnExactTurnFlagsRow.ifacesOut == Try.f9.resultTypes.toList.any (Try.prog.ifacesRec ·))) = true := by kernel_rfl
theorem k21 : ((Rows.fnExactTurnFlagsRow.loopsOut == Try.f9.resultTypes.toList.any (Try.prog.loopsFrom ·))) = true := by kernel_rfl
theorem k22 : ((Rows.fnExactTurnFlagsRow.plainKeys == Try.prog.plainKeys)) = true := by kernel_rfl
theorem k23 : (Rows.fnExactTurnFlagsRow.shortTexts.isNone) = true := by kernel_rfl
theorem k26 : ((Rows.fnExactTurnFlagsRow.lifted == Try.prog.liftsFinal)) = true := by rw [Am.j26]; rfl
theorem k27 : ((Try.prog.make == some Rows.fnExactTurnFlagsRow.make)) = true := by rw [Am.j27]; rfl
theorem k28 : ((Rows.fnExactTurnFlagsRow.kinds == (if Rows.fnExactTurnFlagsRow.domain.isEmpty then [] else Try.f9.params.toList.map fun t => match Try.prog.underlying t with | some (.int k) => some k | _ => none))) = true := by kernel_rfl
theorem k29 : ((Rows.fnExactTurnFlagsRow.pinned == Rows.fnExactTurnFlagsRow.pinnedBy)) = true := by kernel_rfl
theorem k30 : ((Rows.fnExactTurnFlagsRow.veiled == (Try.f9.params.toList ++ Rows.fnExactTurnFlagsSpec.plain.varTypes Try.prog ++ Try.f9.resultTypes.toList).any (Try.prog.veiledRec ·))) = true := by kernel_rfl
theorem k31 : (Rows.fnExactTurnFlagsRow.veiledFits Try.prog Try.f9.params.toList (Try.f9.params.toList ++ Rows.fnExactTurnFlagsSpec.plain.varTypes Try.prog ++ Try.f9.resultTypes.toList)) = true := by kernel_rfl
set_option maxRecDepth 100000 in
theorem closed : joinedFacts Try.prog 9 Try.f9 Rows.fnExactTurnFlagsSpec Rows.fnExactTurnFlagsRow = true := by
  unfold joinedFacts
  simp only [Bool.and_eq_true]
  exact ⟨⟨⟨⟨⟨⟨⟨⟨⟨⟨⟨⟨⟨⟨⟨⟨⟨⟨⟨⟨⟨⟨⟨⟨⟨⟨⟨⟨⟨⟨⟨k0, Am.j1⟩, Am.j2⟩, k3⟩, k4⟩, k5⟩, Am.j6⟩, k7⟩, Am.j8⟩, k9⟩, k10⟩, k11⟩, k12⟩, k13⟩, k14⟩, k15⟩, k16⟩, k17⟩, k18⟩, k19⟩, k20⟩, k21⟩, k22⟩, k23⟩, Am.j24⟩, Am.j25⟩, k26⟩, k27⟩, k28⟩, k29⟩, k30⟩, k31⟩
theorem named : Try.prog.funcNamed Rows.fnExactTurnFlagsRow.func = some 9 := by kernel_rfl
theorem inst : Try.f9.isInstance Try.prog Rows.fnExactTurnFlagsRow.origin Rows.fnExactTurnFlagsRow.targs := of_decide_eq_true (by kernel_rfl)
theorem wrap : Try.f9.isWrapper Try.prog Rows.fnExactTurnFlagsRow.wrapper Rows.fnExactTurnFlagsRow.mainSum := by
  unfold Func.isWrapper
  first | (rw [if_pos (by decide +kernel)]; kernel_rfl) | (rw [if_neg (by decide +kernel)]; exact ⟨rfl, rfl⟩)
theorem over : Rows.fnExactTurnFlagsRow.holds Try.pinned (OpenSpec.ofChange Rows.fnExactTurnFlagsSpec) :=
  OpenClaim.holds_of_wide 9 Try.f9 rfl rfl rfl rfl rfl rfl rfl ⟨rfl, rfl, rfl, rfl, rfl⟩ rfl rfl rfl rfl rfl named Try.func9 closed inst wrap (fun os started H enc _ => lifted os started H enc)
end Go.Proofs.Ytdadgoboeonoaaa.lawFnExactTurnFlags
namespace Go.Proofs.Ytdadgoboeonoaaa
/-- The row, under a short name, for the claim. -/
theorem fnExactTurnFlags_holds : Rows.FnExactTurnFlagsSaid := lawFnExactTurnFlags.over
#print axioms fnExactTurnFlags_holds
end Go.Proofs.Ytdadgoboeonoaaa
