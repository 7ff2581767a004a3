/- FnExactWeightsOf: the law returns true for every input and leaves its arguments as they were. No conditions. -/
import Derived.Test.YthjjfdiofpdknaaRows
import Derived.Test.YthjjfdiofpdknaaDwWeightsOf
import Derived.Test.YthjjfdiofpdknaaAmB
import Derived.Test.YthjjfdiofpdknaaBmB
import Derived.Test.YthjjfdiofpdknaaAmJ
import Derived.WalkKit
import Derived.ProofKit
import Derived.OpenShut
import Derived.ShutString
import Derived.ChangeOld
import Derived.Below
import Derived.SizedLaws
import Derived.ChangeSlices
namespace Go.Proofs.Ythjjfdiofpdknaa.lawFnExactWeightsOf
open Go.ChangeShapes Go.WideShapes Go.ChangeAt Go.RowKit
set_option linter.unusedVariables false
theorem own : ownKnob Try.prog.godebug = none := by kernel_rfl
theorem laidOut : laidOutB Try.prog = true := Am.j1
set_option maxRecDepth 100000 in
theorem lifted (os : Os) (started : os.Started) (H : Type) (enc : TypeId × Value → H) :
    ReturnsInHanded {} Try.checked os 5 .any (Rows.fnExactWeightsOfSpec.pre6 enc Try.prog Try.f5 Rows.fnExactWeightsOfRow.domain false) (Rows.fnExactWeightsOfSpec.post enc Try.prog Try.f5 false true false false) := by
  refine returnsInHanded_of_change_sized (C := Try.checked) own started (by kernel_rfl) Try.func5
    (ChangeSpec.witness6 (enc := enc) (C := Try.checked) false ⟨#[], #[.agg ⟨(.int .i64 0) :: List.replicate 32 (.int .u8 0)⟩, .slice none 0 0, .slice none 0 0], []⟩ 8 (by kernel_rfl) (by kernel_rfl) (by kernel_rfl) (by kernel_rfl)) ?_
  intro W base args ds gs before hval0 hW hcnd hsz0 _
  have hval : ∀ (j : Nat) t v, Try.f5.params[j]? = some t → args[j]? = some v → Value.okWide Try.prog W .any base t v := hval0
  have hW' := hW
  obtain ⟨p, q, hA0, hV, rfl, hfz, hnd⟩ := hW
  have hA : DataW.TrodAll enc Try.prog W 0 (fun _ => true) true Try.f5.params.toList args.toList ds p := hA0
  rw [Try.params5] at hA hval
  obtain ⟨v0, vs0, d0, ds0, p0, q0, hargs, rfl, rfl, h0, r0⟩ := trodAll_cons hA
  obtain ⟨v1, vs1, d1, ds1, p1, q1, rfl, rfl, rfl, h1, r1⟩ := trodAll_cons r0
  obtain ⟨v2, vs2, d2, ds2, p2, q2, rfl, rfl, rfl, h2, r2⟩ := trodAll_cons r1
  obtain ⟨rfl, rfl, rfl⟩ := trodAll_nil r2
  obtain rfl : args = #[v0, v1, v2] := by cases args; simp_all
  obtain ⟨rfl, rfl⟩ := trodVars_none hV
  have hst0 := Am.start0 Am.φ W
  obtain ⟨n0, b0, w0, rfl, hb0, hw0, hn0⟩ := Bm.open_D (t64 := 2) (t8 := 5) ⟨_, Try.underlying24, rfl⟩ (by kernel_rfl) (by kernel_rfl) Try.underlying2 Try.underlying5 (hval 0 24 v0 rfl rfl)
  have k0 := h0
  have lt0 : ∀ x ∈ p0, x.block < W.heap.size := by obtain ⟨m, hm⟩ := k0; exact DataW.trod_lt m _ _ _ hm
  obtain ⟨a1, len1, cap1, rfl⟩ := okWide_slice Try.underlying32 (hval 1 32 v1 rfl rfl)
  have k1 := h1
  have lt1 : ∀ x ∈ p1, x.block < W.heap.size := by obtain ⟨m, hm⟩ := k1; exact DataW.trod_lt m _ _ _ hm
  obtain ⟨z1, w1⟩ : ∃ zs, Am.RowI W a1 len1 cap1 zs := by
    obtain ⟨fuel, hf⟩ := h1
    rcases open_ints Try.underlying32 Try.underlying2 (by kernel_rfl) hf with ⟨hcs, _⟩ | ⟨x, l, c, zs, hcs, _, hl, hm, hz, _, hcell, hwz⟩
    · simp [Value.cells] at hcs
      obtain ⟨rfl, rfl, rfl⟩ := hcs
      exact ⟨[], .inl ⟨rfl, rfl, rfl, rfl⟩⟩
    · simp [Value.cells] at hcs
      obtain ⟨rfl, rfl, rfl⟩ := hcs
      exact ⟨zs, .inr ⟨_, rfl, hl, by simpa using hz, hcell⟩⟩
  obtain ⟨a2, len2, cap2, rfl⟩ := okWide_slice Try.underlying32 (hval 2 32 v2 rfl rfl)
  have k2 := h2
  have lt2 : ∀ x ∈ p2, x.block < W.heap.size := by obtain ⟨m, hm⟩ := k2; exact DataW.trod_lt m _ _ _ hm
  obtain ⟨z2, w2⟩ : ∃ zs, Am.RowI W a2 len2 cap2 zs := by
    obtain ⟨fuel, hf⟩ := h2
    rcases open_ints Try.underlying32 Try.underlying2 (by kernel_rfl) hf with ⟨hcs, _⟩ | ⟨x, l, c, zs, hcs, _, hl, hm, hz, _, hcell, hwz⟩
    · simp [Value.cells] at hcs
      obtain ⟨rfl, rfl, rfl⟩ := hcs
      exact ⟨[], .inl ⟨rfl, rfl, rfl, rfl⟩⟩
    · simp [Value.cells] at hcs
      obtain ⟨rfl, rfl, rfl⟩ := hcs
      exact ⟨zs, .inr ⟨_, rfl, hl, by simpa using hz, hcell⟩⟩
  obtain ⟨β1, M1, u1, hst2, he1, hb1, hu1, hx1⟩ := Am.addRow hst0 w1
  obtain ⟨β2, M2, u2, hst3, he2, hb2, hu2, hx2⟩ := Am.addRow hst2 w2
  refine (Am.run (args := [Bm.DV n0 b0 w0, u1, u2]) hst3 (by kernel_rfl : Am.φ Am.F_laws_FnExactWeightsOf = some 5) (Am.VRL.cons (Bm.am_same Bm.plain_D) (Am.VRL.cons (hu1.mono hb2) (Am.VRL.cons hu2 Am.VRL.nil))) (Bm.toAm (Bm.FnExactWeightsOf_small hb0 hw0  ) (Bm.VL.cons (Bm.vr_same Bm.plain_D) (Bm.VL.cons (Bm.vr_ints (hx1.ext he2)) (Bm.VL.cons (Bm.vr_ints hx2) Bm.VL.nil))))).mono fun e W' ⟨he, bel⟩ => ?_
  subst he
  exact ⟨_, rfl, _, _, _, [], _, [], hW', trodAll_mk1 (shut_bool Try.underlying4 _), (trodAll_cons_mk (Below.trod laidOut (by kernel_rfl) (of_decide_eq_true (by kernel_rfl)) k0 bel lt0) (trodAll_cons_mk (Below.trod laidOut (by kernel_rfl) (of_decide_eq_true (by kernel_rfl)) k1 bel lt1) (trodAll_cons_mk (Below.trod laidOut (by kernel_rfl) (of_decide_eq_true (by kernel_rfl)) k2 bel lt2) trodAll_mk0))), rfl, bel.frame _, fun h => by cases h⟩
theorem k0 : (Rows.fnExactWeightsOfRow.wf (OpenSpec.ofChange Rows.fnExactWeightsOfSpec)) = true := by kernel_rfl
theorem k3 : (Try.f5.params.all (Try.prog.readableRec ·)) = true := by kernel_rfl
theorem k4 : (namedTie Try.prog Rows.fnExactWeightsOfRow.named Rows.fnExactWeightsOfSpec.vars) = true := by kernel_rfl
theorem k5 : ((Rows.fnExactWeightsOfRow.stops == [])) = true := by kernel_rfl
theorem k7 : ((Rows.fnExactWeightsOfRow.knobs == [])) = true := by kernel_rfl
theorem k9 : ((Rows.fnExactWeightsOfRow.inPlace == Try.prog.inPlace  5)) = true := by kernel_rfl
theorem k10 : ((Rows.fnExactWeightsOfRow.unfollowed == Try.prog.unfollowed  5)) = true := by kernel_rfl
theorem k11 : ((Rows.fnExactWeightsOfRow.recurses == Try.prog.recurses  5)) = true := by kernel_rfl
theorem k12 : ((Rows.fnExactWeightsOfRow.named == Try.prog.varsNamed  5)) = true := by kernel_rfl
theorem k13 : ((Rows.fnExactWeightsOfRow.maps == (Try.f5.params.toList ++ Rows.fnExactWeightsOfSpec.plain.varTypes Try.prog).any (Try.prog.mapsRec ·))) = true := by kernel_rfl
theorem k14 : ((Rows.fnExactWeightsOfRow.ifaces == (Try.f5.params.toList ++ Rows.fnExactWeightsOfSpec.plain.varTypes Try.prog).any (Try.prog.ifacesRec ·))) = true := by kernel_rfl
theorem k15 : ((Rows.fnExactWeightsOfRow.mapsOut == Try.prog.mapsAmong Try.f5.resultTypes.toList)) = true := by kernel_rfl
theorem k16 : ((Rows.fnExactWeightsOfRow.loops == (Try.f5.params.toList ++ Rows.fnExactWeightsOfSpec.plain.varTypes Try.prog).any (Try.prog.loopsFrom ·))) = true := by kernel_rfl
theorem k17 : ((Rows.fnExactWeightsOfRow.wideKeys == (Try.f5.params.toList ++ Rows.fnExactWeightsOfSpec.plain.varTypes Try.prog ++ Try.f5.resultTypes.toList).any (Try.prog.wideKeysFrom ·))) = true := by kernel_rfl
theorem k18 : (Rows.fnExactWeightsOfSpec.vars.all (Try.prog.varReadable ·)) = true := by kernel_rfl
theorem k19 : (Try.f5.resultTypes.all (fun t => Try.prog.readableRec t && decide (t < Try.prog.types.size))) = true := by kernel_rfl
theorem k20 : ((Rows.fnExactWeightsOfRow.ifacesOut == Try.f5.resultTypes.toList.any (Try.prog.ifacesRec ·))) = true := by kernel_rfl
theorem k21 : ((Rows.fnExactWeightsOfRow.loopsOut == Try.f5.resultTypes.toList.any (Try.prog.loopsFrom ·))) = true := by kernel_rfl
theorem k22 : ((Rows.fnExactWeightsOfRow.plainKeys == Try.prog.plainKeys)) = true := by kernel_rfl
theorem k23 : (Rows.fnExactWeightsOfRow.shortTexts.isNone) = true := by kernel_rfl
theorem k26 : ((Rows.fnExactWeightsOfRow.lifted == Try.prog.liftsFinal)) = true := by rw [Am.j26]; rfl
theorem k27 : ((Try.prog.make == some Rows.fnExactWeightsOfRow.make)) = true := by rw [Am.j27]; rfl
theorem k28 : ((Rows.fnExactWeightsOfRow.kinds == (if Rows.fnExactWeightsOfRow.domain.isEmpty then [] else Try.f5.params.toList.map fun t => match Try.prog.underlying t with | some (.int k) => some k | _ => none))) = true := by kernel_rfl
theorem k29 : ((Rows.fnExactWeightsOfRow.pinned == Rows.fnExactWeightsOfRow.pinnedBy)) = true := by kernel_rfl
theorem k30 : ((Rows.fnExactWeightsOfRow.veiled == (Try.f5.params.toList ++ Rows.fnExactWeightsOfSpec.plain.varTypes Try.prog ++ Try.f5.resultTypes.toList).any (Try.prog.veiledRec ·))) = true := by kernel_rfl
theorem k31 : (Rows.fnExactWeightsOfRow.veiledFits Try.prog Try.f5.params.toList (Try.f5.params.toList ++ Rows.fnExactWeightsOfSpec.plain.varTypes Try.prog ++ Try.f5.resultTypes.toList)) = true := by kernel_rfl
set_option maxRecDepth 100000 in
theorem closed : joinedFacts Try.prog 5 Try.f5 Rows.fnExactWeightsOfSpec Rows.fnExactWeightsOfRow = true := by
  unfold joinedFacts
  simp only [Bool.and_eq_true]
  exact ⟨⟨⟨⟨⟨⟨⟨⟨⟨⟨⟨⟨⟨⟨⟨⟨⟨⟨⟨⟨⟨⟨⟨⟨⟨⟨⟨⟨⟨⟨⟨k0, Am.j1⟩, Am.j2⟩, k3⟩, k4⟩, k5⟩, Am.j6⟩, k7⟩, Am.j8⟩, k9⟩, k10⟩, k11⟩, k12⟩, k13⟩, k14⟩, k15⟩, k16⟩, k17⟩, k18⟩, k19⟩, k20⟩, k21⟩, k22⟩, k23⟩, Am.j24⟩, Am.j25⟩, k26⟩, k27⟩, k28⟩, k29⟩, k30⟩, k31⟩
theorem named : Try.prog.funcNamed Rows.fnExactWeightsOfRow.func = some 5 := by kernel_rfl
theorem inst : Try.f5.isInstance Try.prog Rows.fnExactWeightsOfRow.origin Rows.fnExactWeightsOfRow.targs := of_decide_eq_true (by kernel_rfl)
theorem wrap : Try.f5.isWrapper Try.prog Rows.fnExactWeightsOfRow.wrapper Rows.fnExactWeightsOfRow.mainSum := by
  unfold Func.isWrapper
  first | (rw [if_pos (by decide +kernel)]; kernel_rfl) | (rw [if_neg (by decide +kernel)]; exact ⟨rfl, rfl⟩)
theorem over : Rows.fnExactWeightsOfRow.holds Try.pinned (OpenSpec.ofChange Rows.fnExactWeightsOfSpec) :=
  OpenClaim.holds_of_wide 5 Try.f5 rfl rfl rfl rfl rfl rfl rfl ⟨rfl, rfl, rfl, rfl, rfl⟩ rfl rfl rfl rfl rfl named Try.func5 closed inst wrap (fun os started H enc _ => lifted os started H enc)
end Go.Proofs.Ythjjfdiofpdknaa.lawFnExactWeightsOf
namespace Go.Proofs.Ythjjfdiofpdknaa
/-- The row, under a short name, for the claim. -/
theorem fnExactWeightsOf_holds : Rows.FnExactWeightsOfSaid := lawFnExactWeightsOf.over
#print axioms fnExactWeightsOf_holds
end Go.Proofs.Ythjjfdiofpdknaa
