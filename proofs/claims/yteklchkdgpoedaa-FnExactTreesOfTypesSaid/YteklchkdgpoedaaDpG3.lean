/- DpW, DpTb, DpTh, DpTi, DpTc, DpTd, DpTm, DpTn, DpTo, DpEa, DpTp, DpLa -/
import Derived.Test.YteklchkdgpoedaaBmP
import Derived.Test.YteklchkdgpoedaaDpG0
import Derived.Test.YteklchkdgpoedaaDpG1
import Derived.Test.YteklchkdgpoedaaDpG2
/- Types of permutations, and what is clean. -/
set_option linter.unusedVariables false
set_option linter.unusedSimpArgs false
namespace Go.Bm
open Go Go.Am

theorem lens_nl {p : List Nat} {n i : Nat} (h : i < (cyc p n).length) : nl (lens p n) i = ((cyc p n).getD i []).length := by
  simp [nl, lens, List.getD, h]
theorem typeOf_run {p : List Nat} {n : Nat} (hb : By 16 p) (hp : Perm p n) :
    CallX false F_impl_typeOf [PL p, I n] [] fun v H1 => ∃ j, v = S j 0 (typ p n).length 1 ∧ blk H1 j = some ((typ p n).map N64) := by
  have hlen := hb.len
  have hnum := cyc_num hp
  have hn := hp.1
  have hll : (lens p n).length = (cyc p n).length := by rw [lens, List.length_map]
  refine CallX_body Γ_impl_typeOf ?_; simp only [A_impl_typeOf, T_aiff]
  refine T_rseq fun Kr hKr => ?_; simp (disch := omega) only [RA, ↓reduceIte, Nat.reduceEqDiff, Nat.reduceLeDiff, RD]; refine hKr _ _ ?_; clear hKr Kr; (try simp only [RN, reduceIte]); try refine T_e rfl ?_
  refine T_rseq fun Kr hKr => ?_; simp (disch := omega) only [RA, ↓reduceIte, Nat.reduceEqDiff, Nat.reduceLeDiff, RD]; refine hKr _ _ ?_; clear hKr Kr; (try simp only [RN, reduceIte]); try refine T_e rfl ?_
  refine T_rseq fun Kr hKr => ?_; simp (disch := omega) only [RA, ↓reduceIte, Nat.reduceEqDiff, RD]
  refine cycles_spec hb hp ?_
  simp (disch := omega) only [RA, ↓reduceIte, Nat.reduceEqDiff, RD]
  refine hKr _ _ ?_; clear hKr Kr; (try simp only [blkQ, thenQ, loopQ]); (try simp only [RN, reduceIte]); try refine T_e rfl ?_
  refine T_wloop (fun m f H' => ∃ i out, i ≤ (cyc p n).length ∧ m = (cyc p n).length - i ∧ out = (lens p n).take i ∧ f 5 = S 1 0 out.length 1 ∧ f 11 = Fz (cyc p n).length 1 ((cyc p n).map FN) ∧ f 12 = I (cyc p n).length ∧ f 13 = I i ∧ H' = [some (p.map N8), some (out.map N64)]) ((cyc p n).length) ?_ ?_
  · refine ⟨_, _, Gh.refl, 0, [], by omega, by omega, by simp, ?_, ?_, ?_, ?_, by simp⟩
    any_goals (simp (disch := omega) only [RA, ↓reduceIte, Nat.reduceEqDiff, RD, RE, *] <;> rfl)
  · rintro m f H' R ⟨i, out, hi, rfl, hout, g5, g11, g12, g13, rfl⟩ hN hX hR hE
    simp only [A_impl_typeOf.l0, T_aiff]
    refine T_rseq fun Kr hKr => ?_; simp (disch := omega) only [RA, ↓reduceIte, Nat.reduceEqDiff, RD, g12, g13]; refine hKr _ _ ?_; clear hKr Kr; (try simp only [RN, reduceIte]); try refine T_e rfl ?_
    refine T_csplit (p := i < (cyc p n).length) (by simp only [RA, ↓reduceIte, Nat.reduceEqDiff] <;> rfl) (by (try simp only [RB]) <;> first | done | exact Iff.rfl | omega | simp) (fun hc => ?_) (fun hc => ?_) <;> (try simp only [RN, reduceIte]) <;> (try refine T_e rfl ?_)
    · have hol : out.length ≤ 16 := by rw [hout, List.length_take]; omega
      have hci := lens_nl hc
      (first | refine T_bfree rfl ?_ | refine T_bfree' rfl ?_); (try simp only [RN, reduceIte]); try refine T_e rfl ?_
      refine T_rseq fun Kr hKr => ?_; simp (disch := omega) only [RA, ↓reduceIte, Nat.reduceEqDiff, RD, g11, g13, getN_FN]; refine hKr _ _ ?_; clear hKr Kr; (try simp only [RN, reduceIte]); try refine T_e rfl ?_
      refine T_rseq fun Kr hKr => ?_; simp (disch := omega) only [RA, ↓reduceIte, Nat.reduceEqDiff, Nat.reduceAdd, Nat.reduceLeDiff, RD, g5, ← hci, app1_64]; refine hKr _ _ ?_; clear hKr Kr; (try simp only [RN, reduceIte]); try refine T_e rfl ?_
      refine T_reg_k fun Kr hKr => ?_; simp (disch := omega) only [RA, ↓reduceIte, Nat.reduceEqDiff, RD, g13]; refine hKr _ _ ?_; clear hKr Kr
      refine hN ((cyc p n).length - (i + 1)) _ _ _ _ (by omega) (Gh.nrm [0, 3] rfl rfl (by simp only [RH, RV])) ⟨i + 1, out ++ [nl (lens p n) i], by omega, rfl, by rw [take_succ_nl' (by omega), hout], ?_, ?_, ?_, ?_, rfl⟩
      any_goals (simp (disch := omega) only [RA, ↓reduceIte, Nat.reduceEqDiff, RD, RE, *] <;> rfl)
    · refine hX _ _ ?_
      obtain rfl : i = (cyc p n).length := by omega
      have hout' : out = lens p n := by rw [hout, ← hll, List.take_length]
      subst hout'
      have hpl : (ofN (lens p n)).length = (lens p n).length := ofN_len
      have hpm : (ofN (typ p n)).Perm (ofN (lens p n)) := (typ_perm hp).map _
      have htl : (typ p n).length = (lens p n).length := (typ_perm hp).length_eq
      have hl16 := lens_len hp
      refine T_rseq fun Kr hKr => ?_; simp (disch := omega) only [RA, ↓reduceIte, Nat.reduceEqDiff, RD, g5]
      refine call1S (i := 1) rfl NNL_64 ?_
      have e : ([S 1 0 (lens p n).length 1] : List Value).map (ren [1]) = [S 0 0 (ofN (lens p n)).length 1] := by rw [hpl]; simp [ren, ren1, nm]
      rw [e, map_N64]
      refine descending_spec (r := ofN (typ p n)) (by omega) typL_dsc hpm ?_
      refine ⟨0, _, _, rfl, HN.cons (NNL.map fun _ => .int) HN.nil, ?_⟩
      rw [hpl]
      simp (disch := omega) only [RA, ↓reduceIte, Nat.reduceEqDiff, RD]
      refine hKr _ _ ?_; clear hKr Kr; (try simp only [blkQ, thenQ, loopQ]); (try simp only [RN, reduceIte]); try refine T_e rfl ?_
      refine bodyQ_ret (by simp (disch := omega) only [RA, ↓reduceIte, Nat.reduceEqDiff, RD, resAll, resOf]; rfl) GhV.refl ?_; simp only [tup]
      exact ⟨1, by rw [htl], by rw [map_N64]; rfl⟩
theorem typeOf_spec {x : Bool} {p : List Nat} {n : Nat} {H : BH} {K : Value → BH → Prop} (hb : By 16 p) (hp : Perm p n) (hK : K (FN (typ p n)) H) : CallX x F_impl_typeOf [PL p, I n] H K :=
  callRZ (by (simp only [RH])) NNL_64 (by simp) (typeOf_run hb hp) hK
theorem st17_0 {H : BH} {b : Nat} : stO (some (List.replicate 17 (.int .i64 0))) H b 0 17 (aggL (List.replicate 17 (.int .i64 0))) = some (undef, H.set b (some ((List.replicate 17 0).map N64))) := by
  rw [st_ri]; rfl
theorem st64 {H : BH} {b o : Nat} {s : List Nat} {c : Nat} (h : o < s.length) : stO (some (s.map N64)) H b o 1 (.int .i64 (c : Int)) = some (undef, H.set b (some ((s.set o c).map N64))) := by
  rw [stO_int (by simpa using h)]
  rw [splice_1 (g := N64) h]
theorem l01Type_run {p : List Nat} {n : Nat} (hb : By 16 p) (hp : Perm p n) :
    CallX false F_spec_l01Type [PL p, I n] [] fun v H1 => ∃ j, v = S j 0 (typ p n).length 1 ∧ blk H1 j = some ((typ p n).map N64) := by
  have hlen := hb.len
  have hnum := cyc_num hp
  have hn := hp.1
  have hll : (lens p n).length = (cyc p n).length := by rw [lens, List.length_map]
  have hlo := lens_ok hp
  have hl16 := lens_len hp
  refine CallX_body Γ_spec_l01Type ?_; simp only [A_spec_l01Type, T_aiff]
  refine T_rseq fun Kr hKr => ?_; simp (disch := omega) only [RA, ↓reduceIte, Nat.reduceEqDiff, RD]; refine hKr _ _ ?_; clear hKr Kr; (try simp only [RN, reduceIte]); try refine T_e rfl ?_
  refine T_rseq fun Kr hKr => ?_; simp (disch := omega) only [RA, ↓reduceIte, Nat.reduceEqDiff, RD]
  refine l01Cycles_spec hb hp ?_
  simp (disch := omega) only [RA, ↓reduceIte, Nat.reduceEqDiff, Nat.reduceAdd, Nat.reduceLeDiff, RD, st17_0]
  refine hKr _ _ ?_; clear hKr Kr; (try simp only [blkQ, thenQ, loopQ]); (try simp only [RN, reduceIte]); try refine T_e rfl ?_
  refine T_rseq fun Kr hKr => ?_; simp (disch := omega) only [RA, ↓reduceIte, Nat.reduceEqDiff, RD]; refine hKr _ _ ?_; clear hKr Kr; (try simp only [RN, reduceIte]); try refine T_e rfl ?_
  refine T_wloop (fun m f H' => ∃ i cn, i ≤ (cyc p n).length ∧ m = (cyc p n).length - i ∧ cn = cntT (lens p n) i ∧ f 1 = I n ∧ f 5 = P 2 0 ∧ f 6 = Fz (cyc p n).length 1 ((cyc p n).map FN) ∧ f 7 = S 1 0 0 1 ∧ f 8 = I i ∧ H' = [some (p.map N8), some (([] : List Nat).map N64), some (cn.map N64)]) ((cyc p n).length) ?_ ?_
  · refine ⟨_, _, Gh.refl, 0, List.replicate 17 0, by omega, by omega, rfl, ?_, ?_, ?_, ?_, ?_, rfl⟩
    any_goals (simp (disch := omega) only [RA, ↓reduceIte, Nat.reduceEqDiff, RD, RE, *] <;> rfl)
  · rintro m f H' R ⟨i, cn, hi, rfl, hcn, g1, g5, g6, g7, g8, rfl⟩ hN hX hR hE
    simp only [A_spec_l01Type.l0, T_aiff]
    have hcl : cn.length = 17 := by rw [hcn]; exact cntT_len
    refine T_rseq fun Kr hKr => ?_; simp (disch := omega) only [RA, ↓reduceIte, Nat.reduceEqDiff, RD, g6, g8]; refine hKr _ _ ?_; clear hKr Kr; (try simp only [RN, reduceIte]); try refine T_e rfl ?_
    refine T_csplit (p := i < (cyc p n).length) (by simp only [RA, ↓reduceIte, Nat.reduceEqDiff] <;> rfl) (by (try simp only [RB]) <;> first | done | exact Iff.rfl | omega | simp) (fun hc => ?_) (fun hc => ?_) <;> (try simp only [RN, reduceIte]) <;> (try refine T_e rfl ?_)
    · have hci := lens_nl hc
      have hz := hlo _ (nl_mem (show i < (lens p n).length by omega))
      have hle : nl cn (nl (lens p n) i) ≤ 16 := by
        rw [hcn, cntT_nl (by omega) (by omega)]
        have := List.count_le_length (a := nl (lens p n) i) (l := (lens p n).take i)
        rw [List.length_take] at this
        omega
      have e1 : (nl cn (nl (lens p n) i) : Int) + 1 = ((nl cn (nl (lens p n) i) + 1 : Nat) : Int) := by omega
      (first | refine T_bfree rfl ?_ | refine T_bfree' rfl ?_); (try simp only [RN, reduceIte]); try refine T_e rfl ?_
      refine T_rseq fun Kr hKr => ?_; simp (disch := omega) only [RA, ↓reduceIte, Nat.reduceEqDiff, RD, g5, g6, g8, getN_FN, ← hci, getN_64, hcl, e1, st64]; refine hKr _ _ ?_; clear hKr Kr; (try simp only [RN, reduceIte]); try refine T_e rfl ?_
      refine T_reg_k fun Kr hKr => ?_; simp (disch := omega) only [RA, ↓reduceIte, Nat.reduceEqDiff, RD, g8]; refine hKr _ _ ?_; clear hKr Kr
      refine hN ((cyc p n).length - (i + 1)) _ _ _ _ (by omega) Gh.refl ⟨i + 1, cn.set (nl (lens p n) i) (nl cn (nl (lens p n) i) + 1), by omega, rfl, by rw [cntT, hcn], ?_, ?_, ?_, ?_, ?_, rfl⟩
      any_goals (simp (disch := omega) only [RA, ↓reduceIte, Nat.reduceEqDiff, RD, RE, *] <;> rfl)
    · refine hX _ _ ?_
      obtain rfl : i = (cyc p n).length := by omega
      rw [← hll] at hcn
      have hd16 : ∀ k, k ≤ n → (typK cn n k).length ≤ 16 := fun k hk => by
        rw [hcn]
        have := typK_le (show n ≤ 16 by omega) hk hlo
        omega
      have hcv : ∀ v, v < 17 → nl cn v ≤ 16 := fun v hv => by
        rw [hcn, cntT_nl (Nat.le_refl _) hv]
        have := List.count_le_length (a := v) (l := (lens p n).take (lens p n).length)
        rw [List.length_take] at this
        omega
      have hdl : typ p n = typK cn n n := by rw [hcn]; rfl
      rw [hdl] at hX
      clear g6 g8 hc hN hX hR hE
      (try simp only [RN, reduceIte]); try refine T_e rfl ?_
      refine T_rseq fun Kr hKr => ?_; simp (disch := omega) only [RA, ↓reduceIte, Nat.reduceEqDiff, RD, g1]; refine hKr _ _ ?_; clear hKr Kr; (try simp only [RN, reduceIte]); try refine T_e rfl ?_
      rw [hdl]
      refine T_wloop (fun m f H' => ∃ v out, v ≤ n ∧ v = m ∧ out = typK cn n (n - v) ∧ f 5 = P 1 0 ∧ f 7 = S 0 0 out.length 1 ∧ f 9 = I v ∧ H' = [some (out.map N64), some (cn.map N64)]) (n) ?_ ?_
      · refine ⟨_, _, (Gh.nrm [1, 2] rfl rfl (by simp only [RH, RV])), n, [], by omega, by omega, by simp [typK], ?_, ?_, ?_, rfl⟩
        any_goals (simp (disch := omega) only [RA, ↓reduceIte, Nat.reduceEqDiff, RD, RE, *] <;> rfl)
      · clear g1 g5 g7
        rintro m f H' R2 ⟨v, out, hv, rfl, hout, g5, g7, g9, rfl⟩ hN2 hX2 hR2 hE2
        simp only [A_spec_l01Type.l2, T_aiff]
        refine T_rseq fun Kr hKr => ?_; simp (disch := omega) only [RA, ↓reduceIte, Nat.reduceEqDiff, RD, g9]; refine hKr _ _ ?_; clear hKr Kr; (try simp only [RN, reduceIte]); try refine T_e rfl ?_
        refine T_csplit (p := 0 < v) (by simp only [RA, ↓reduceIte, Nat.reduceEqDiff] <;> rfl) (by (try simp only [RB]) <;> first | done | exact Iff.rfl | omega | simp) (fun hc => ?_) (fun hc => ?_) <;> (try simp only [RN, reduceIte]) <;> (try refine T_e rfl ?_)
        · have hq := hcv v (by omega)
          have hstep : typK cn n (n - (v - 1)) = typK cn n (n - v) ++ List.replicate (nl cn v) v := by
            rw [show n - (v - 1) = (n - v) + 1 by omega, typK, show n - (n - v) = v by omega]
          have hdn := hd16 (n - (v - 1)) (by omega)
          rw [hstep, ← hout, List.length_append, List.length_replicate] at hdn
          rw [← hout] at hstep
          (first | refine T_bfree rfl ?_ | refine T_bfree' rfl ?_); (try simp only [RN, reduceIte]); try refine T_e rfl ?_
          refine T_rseq fun Kr hKr => ?_; simp (disch := omega) only [RA, ↓reduceIte, Nat.reduceEqDiff, RD, g5, g9, getN_64, hcl]; refine hKr _ _ ?_; clear hKr Kr; (try simp only [RN, reduceIte]); try refine T_e rfl ?_
          obtain ⟨q, hqe⟩ : ∃ q, nl cn v = q := ⟨_, rfl⟩
          rw [hqe] at hq hstep hdn
          simp only [hqe]
          refine T_wloop (fun m f H' => ∃ j o, j ≤ q ∧ j = m ∧ o = out ++ List.replicate (q - j) v ∧ f 5 = P 1 0 ∧ f 7 = S 0 0 o.length 1 ∧ f 9 = I v ∧ f 10 = I j ∧ H' = [some (o.map N64), some (cn.map N64)]) (q) ?_ ?_
          · refine ⟨_, _, Gh.refl, q, out, by omega, by omega, by simp, ?_, ?_, ?_, ?_, rfl⟩
            any_goals (simp (disch := omega) only [RA, ↓reduceIte, Nat.reduceEqDiff, RD, RE, *] <;> rfl)
          · clear g5 g7 g9
            rintro m f H' R3 ⟨j, o, hj, rfl, ho, g5, g7, g9, g10, rfl⟩ hN3 hX3 hR3 hE3
            simp only [A_spec_l01Type.l1, T_aiff]
            have hol : o.length ≤ 16 := by rw [ho, List.length_append, List.length_replicate]; omega
            refine T_rseq fun Kr hKr => ?_; simp (disch := omega) only [RA, ↓reduceIte, Nat.reduceEqDiff, RD, g10]; refine hKr _ _ ?_; clear hKr Kr; (try simp only [RN, reduceIte]); try refine T_e rfl ?_
            refine T_csplit (p := 0 < j) (by simp only [RA, ↓reduceIte, Nat.reduceEqDiff] <;> rfl) (by (try simp only [RB]) <;> first | done | exact Iff.rfl | omega | simp) (fun hc => ?_) (fun hc => ?_) <;> (try simp only [RN, reduceIte]) <;> (try refine T_e rfl ?_)
            · have hj1 : (j : Int) - 1 = ((j - 1 : Nat) : Int) := by omega
              (first | refine T_bfree rfl ?_ | refine T_bfree' rfl ?_); (try simp only [RN, reduceIte]); try refine T_e rfl ?_
              refine T_rseq fun Kr hKr => ?_; simp (disch := omega) only [RA, ↓reduceIte, Nat.reduceEqDiff, Nat.reduceAdd, Nat.reduceLeDiff, RD, g7, g9, app1_64]; refine hKr _ _ ?_; clear hKr Kr; (try simp only [RN, reduceIte]); try refine T_e rfl ?_
              refine T_reg_k fun Kr hKr => ?_; simp (disch := omega) only [RA, ↓reduceIte, Nat.reduceEqDiff, RD, g10, hj1]; refine hKr _ _ ?_; clear hKr Kr
              refine hN3 (j - 1) _ _ _ _ (by omega) (Gh.nrm [3, 1] rfl rfl (by simp only [RH, RV])) ⟨j - 1, o ++ [v], by omega, rfl, ?_, ?_, ?_, ?_, ?_, rfl⟩
              any_goals (simp (disch := omega) only [RA, ↓reduceIte, Nat.reduceEqDiff, RD, RE, *] <;> rfl)
              rw [ho, List.append_assoc, show q - (j - 1) = (q - j) + 1 by omega, List.replicate_succ']
            · refine hX3 _ _ ?_
              obtain rfl : j = 0 := by omega
              have hv1 : (v : Int) - 1 = ((v - 1 : Nat) : Int) := by omega
              refine T_reg_k fun Kr hKr => ?_; simp (disch := omega) only [RA, ↓reduceIte, Nat.reduceEqDiff, RD, g9, hv1]; refine hKr _ _ ?_; clear hKr Kr
              refine hN2 (v - 1) _ _ _ _ (by omega) Gh.refl ⟨v - 1, o, by omega, rfl, by rw [hstep, ho]; rfl, ?_, ?_, ?_, rfl⟩
              any_goals (simp (disch := omega) only [RA, ↓reduceIte, Nat.reduceEqDiff, RD, RE, *] <;> rfl)
        · refine hX2 _ _ ?_
          obtain rfl : v = 0 := by omega
          refine T_rseq fun Kr hKr => ?_; simp (disch := omega) only [RA, ↓reduceIte, Nat.reduceEqDiff, RD, g7]; refine hKr _ _ ?_; clear hKr Kr; (try simp only [RN, reduceIte]); try refine T_e rfl ?_
          refine bodyQ_ret (by simp (disch := omega) only [RA, ↓reduceIte, Nat.reduceEqDiff, RD, resAll, resOf, g7]; rfl) GhV.refl ?_; simp only [tup]
          rw [hout]
          exact ⟨0, rfl, rfl⟩
theorem l01Type_spec {x : Bool} {p : List Nat} {n : Nat} {H : BH} {K : Value → BH → Prop} (hb : By 16 p) (hp : Perm p n) (hK : K (FN (typ p n)) H) : CallX x F_spec_l01Type [PL p, I n] H K :=
  callRZ (by (simp only [RH])) NNL_64 (by simp) (l01Type_run hb hp) hK

/-! ### Clean -/
def Clean (w : List Nat) (n : Nat) : Prop := ∀ x, x < n → nl w x ≠ x ∧ nl w (nl w x) = x
instance (w : List Nat) (n : Nat) : Decidable (Clean w n) := by unfold Clean; infer_instance
end Go.Bm

/- Trees: passports, what is a tree, codes. -/
set_option linter.unusedVariables false
set_option linter.unusedSimpArgs false
namespace Go.Bm
open Go Go.Am

theorem face_by {b w : List Nat} {n : Nat} (hn : n ≤ 16) : By 16 (faceP b w n) := backK_by hn
def pass (b w : List Nat) (n : Nat) : List (List Nat) := [typ b n, typ w n, typ (faceP b w n) n]
abbrev FNN (xs : List (List Nat)) : Value := Fz xs.length 1 (xs.map FN)
theorem passport_spec {x : Bool} {n : Nat} {b w : List Nat} {H : BH} {K : Value → BH → Prop} (hb : By 16 b) (hw : By 16 w) (hd : Des n b w)
    (hK : K (FNN (pass b w n)) H) : CallX x F_impl_passport [DV n b w] H K := by
  have hlb := hb.len
  have hlw := hw.len
  have hn := hd.1.1
  have hb16 := fun i => hd.1.lt16 hlb i
  have hw16 := fun i => hd.2.1.lt16 hlw i
  refine callRZ (l := 3) (e := 1) (cs := (pass b w n).map FN) (.cons nn_D .nil) NNL_FN (by simp [pass]) ?_ hK
  refine CallX_body Γ_impl_passport ?_; simp only [A_impl_passport, T_aiff]
  refine T_rseq fun Kr hKr => ?_; simp (disch := omega) only [RA, ↓reduceIte, Nat.reduceEqDiff, RD, RDS]; refine hKr _ _ ?_; clear hKr Kr; (try simp only [RN, reduceIte]); try refine T_e rfl ?_
  refine T_rseq fun Kr hKr => ?_; simp (disch := omega) only [RA, ↓reduceIte, Nat.reduceEqDiff, RD, RDS, RDD]
  refine typeOf_spec hb hd.1 ?_
  simp (disch := omega) only [RA, ↓reduceIte, Nat.reduceEqDiff, Nat.reduceBEq, Nat.reduceSub, Nat.reduceAdd, Nat.reduceMul, Nat.reduceLT, Nat.reduceLeDiff, Int.reduceLE, Int.reduceLT, Int.reduceEq, Int.reduceNeg, Int.reduceToNat, Int.reduceMul, Int.reduceAdd, Int.reduceSub, Int.reduceBEq, Int.reduceBNe, reduceCtorEq, RD, RDS, RDD]
  refine typeOf_spec hw hd.2.1 ?_
  simp (disch := omega) only [RA, ↓reduceIte, Nat.reduceEqDiff, Nat.reduceBEq, Nat.reduceSub, Nat.reduceAdd, Nat.reduceMul, Nat.reduceLT, Nat.reduceLeDiff, Int.reduceLE, Int.reduceLT, Int.reduceEq, Int.reduceNeg, Int.reduceToNat, Int.reduceMul, Int.reduceAdd, Int.reduceSub, Int.reduceBEq, Int.reduceBNe, reduceCtorEq, RD, RDS, RDD]
  refine face_spec hb hw (by omega) hb16 hw16 ?_
  simp (disch := omega) only [RA, ↓reduceIte, Nat.reduceEqDiff, Nat.reduceBEq, Nat.reduceSub, Nat.reduceAdd, Nat.reduceMul, Nat.reduceLT, Nat.reduceLeDiff, Int.reduceLE, Int.reduceLT, Int.reduceEq, Int.reduceNeg, Int.reduceToNat, Int.reduceMul, Int.reduceAdd, Int.reduceSub, Int.reduceBEq, Int.reduceBNe, reduceCtorEq, RD, RDS, RDD]
  refine typeOf_spec (face_by (by omega)) (face_perm hd.1 hd.2.1) ?_
  simp (disch := omega) only [RA, ↓reduceIte, Nat.reduceEqDiff, Nat.reduceBEq, Nat.reduceSub, Nat.reduceAdd, Nat.reduceMul, Nat.reduceLT, Nat.reduceLeDiff, Int.reduceLE, Int.reduceLT, Int.reduceEq, Int.reduceNeg, Int.reduceToNat, Int.reduceMul, Int.reduceAdd, Int.reduceSub, Int.reduceBEq, Int.reduceBNe, reduceCtorEq, RD]
  refine hKr _ _ ?_; clear hKr Kr; (try simp only [blkQ, thenQ, loopQ]); (try simp only [RN, reduceIte]); try refine T_e rfl ?_
  refine bodyQ_ret (by simp (disch := omega) only [RA, ↓reduceIte, Nat.reduceEqDiff, RD, resAll, resOf]; rfl) GhV.refl ?_; simp only [tup]
  exact ⟨1, rfl, rfl⟩
/-! ### Codes -/
end Go.Bm

/- The vertices of a tree in memory. -/
set_option linter.unusedVariables false
set_option linter.unusedSimpArgs false
namespace Go.Bm
open Go Go.Am

section
variable {n : Nat} {b w : List Nat}
/-- The numbers of the two vertices of each edge, one behind the other. -/
def endl (b w : List Nat) (n : Nat) : List Nat := (List.range (n * 2)).map fun k => ends b w n (k % 2 == 1) (k / 2)
theorem endl_len : (endl b w n).length = n * 2 := by simp [endl]
theorem endl_at {k : Nat} (h : k < n * 2) : nl (endl b w n) k = ends b w n (k % 2 == 1) (k / 2) := by simp [endl, nl, List.getD, h]
def ct (c : Bool) : Nat := if c then 1 else 0
theorem endl_ext {E : List Nat} (hl : E.length = n * 2) (h : ∀ c x, x < n → nl E (x * 2 + ct c) = ends b w n c x) : E = endl b w n := by
  refine List.ext_getElem (by rw [hl, endl_len]) fun i h1 h2 => ?_
  have e : ∀ (l : List Nat) (hk : i < l.length), l[i] = nl l i := fun l hk => by simp [nl, List.getD, hk]
  rw [e E h1, e _ h2, endl_at (by omega)]
  have := h (i % 2 == 1) (i / 2) (by omega)
  rw [← this]
  congr 1
  rcases Nat.mod_two_eq_zero_or_one i with h3 | h3 <;> simp [ct, h3] <;> omega
def vl (b w : List Nat) (n i : Nat) : List Nat := (verts b w n).getD i []
theorem vl_eq {i : Nat} (h : i < (verts b w n).length) : vl b w n i = (verts b w n)[i] := by simp [vl, List.getD, h]
theorem vl_len (hd : Des n b w) {i : Nat} (h : i < (verts b w n).length) : (vl b w n i).length ≤ n ∧ (vl b w n i).Nodup ∧ ∀ x ∈ vl b w n i, x < n := by
  rw [vl_eq h]
  exact ⟨nodup_le (verts_nod hd h) fun x hx => verts_lt hd h hx, verts_nod hd h, fun x hx => verts_lt hd h hx⟩
/-- What has been written of the ends. -/
def EOk (b w : List Nat) (n i j : Nat) (E : List Nat) : Prop :=
  E.length = n * 2 ∧ ∀ c x, x < n → (ends b w n c x < i ∨ (ends b w n c x = i ∧ x ∈ (vl b w n i).take j)) → nl E (x * 2 + ct c) = ends b w n c x
theorem EOk.zero : EOk b w n 0 0 (List.replicate (n * 2) 0) := ⟨by simp, fun c x hx h => by simp at h⟩
theorem EOk.next {i : Nat} {E : List Nat} (h : EOk b w n i (vl b w n i).length E) (hd : Des n b w) (hi : i < (verts b w n).length) : EOk b w n (i + 1) 0 E := by
  refine ⟨h.1, fun c x hx hh => h.2 c x hx ?_⟩
  rcases hh with hh | hh
  · rcases Nat.lt_or_ge (ends b w n c x) i with h1 | h1
    · exact .inl h1
    · have e : ends b w n c x = i := by omega
      refine .inr ⟨e, ?_⟩
      rw [List.take_length, vl_eq hi]
      have := (mem_verts hd (c := c) hx hx).2 rfl
      simp only [e] at this
      exact this
  · simp at hh
theorem EOk.step {i j : Nat} {E : List Nat} (h : EOk b w n i j E) (hd : Des n b w) (hi : i < (verts b w n).length) (hj : j < (vl b w n i).length) :
    EOk b w n i (j + 1) (E.set (nl (vl b w n i) j * 2 + ct (decide ((cyc b n).length ≤ i))) i) := by
  have hx0 := (vl_len hd hi).2.2 _ (nl_mem hj)
  have hct : ∀ c : Bool, ct c ≤ 1 := fun c => by cases c <;> simp [ct]
  refine ⟨by rw [List.length_set]; exact h.1, fun c x hx hh => ?_⟩
  rw [nl_set, h.1]
  by_cases e : x * 2 + ct c = nl (vl b w n i) j * 2 + ct (decide ((cyc b n).length ≤ i))
  · rw [if_pos ⟨e, by have := hct (decide ((cyc b n).length ≤ i)); omega⟩]
    have h1 := hct c
    have h2 := hct (decide ((cyc b n).length ≤ i))
    have e1 : x = nl (vl b w n i) j := by omega
    have hm : x ∈ (verts b w n)[i] := by rw [← vl_eq hi, e1]; exact nl_mem hj
    have e2 : c = decide ((cyc b n).length ≤ i) := by
      have : ct c = ct (decide ((cyc b n).length ≤ i)) := by omega
      revert this
      cases c <;> cases (decide ((cyc b n).length ≤ i)) <;> simp [ct]
    obtain ⟨c', ⟨y, hy, hyv⟩, hall⟩ := verts_at hd hi
    have h3 := (hall x hx).1 hm
    have : c = c' := by
      rw [e2]
      have hb := hd.1
      cases c'
      · simp only [ends, Bool.false_eq_true, if_false] at hyv
        have := vix_lt hb hy
        simp; omega
      · simp only [ends, if_true] at hyv
        simp; omega
    rw [this, h3]
  · rw [if_neg (fun k => e k.1)]
    refine h.2 c x hx ?_
    rcases hh with hh | ⟨h1, h2⟩
    · exact .inl hh
    · refine .inr ⟨h1, ?_⟩
      rw [take_succ_nl' hj] at h2
      rcases List.mem_append.1 h2 with h3 | h3
      · exact h3
      · exfalso
        rw [List.mem_singleton] at h3
        refine e ?_
        rw [h3]
        congr 1
        have hb := hd.1
        cases c
        · simp only [ends, Bool.false_eq_true, if_false] at h1
          have := vix_lt hb hx
          simp [ct]; omega
        · simp only [ends, if_true] at h1
          simp [ct]; omega
theorem EOk.done {E : List Nat} (hd : Des n b w) (h : EOk b w n (verts b w n).length 0 E) : E = endl b w n :=
  endl_ext h.1 fun c x hx => h.2 c x hx (.inl (ends_lt hd hx))
end
end Go.Bm

/- The farthest vertex: the program's walk. -/
set_option linter.unusedVariables false
set_option linter.unusedSimpArgs false
namespace Go.Bm
open Go Go.Am

section
variable {n : Nat} {b w : List Nat}
/-- The best path so far: edges, vertices. -/
def BP (b w : List Nat) (n : Nat) (c : Bool) (cm : Int) (v : Nat) (L e s : List Nat) : Prop :=
  (e = [] ∧ s = [v] ∧ ∀ y ∈ L, (y : Int) = cm) ∨
  (∃ y l, e = y :: l ∧ s = v :: sn b w n (!c) y l ∧ y ∈ L ∧ (y : Int) ≠ cm ∧ Lg b w n (!c) y l ∧ ∀ z ∈ L, (z : Int) ≠ cm → hgt b w n (!c) z ≤ hgt b w n (!c) y)
theorem BP.skip {c : Bool} {cm : Int} {v y : Nat} {L e s : List Nat} (h : BP b w n c cm v L e s) (hy : (y : Int) = cm) : BP b w n c cm v (L ++ [y]) e s := by
  rcases h with ⟨h1, h2, h3⟩ | ⟨y', l, h1, h2, h3, h4, h5, h6⟩
  · refine .inl ⟨h1, h2, fun z hz => ?_⟩
    rcases List.mem_append.1 hz with h | h
    · exact h3 z h
    · rw [List.mem_singleton.1 h]; exact hy
  · refine .inr ⟨y', l, h1, h2, by simp [h3], h4, h5, fun z hz hne => ?_⟩
    rcases List.mem_append.1 hz with h | h
    · exact h6 z h hne
    · rw [List.mem_singleton.1 h] at hne; exact absurd hy hne
theorem BP.len {c : Bool} {cm : Int} {v : Nat} {L e s : List Nat} (h : BP b w n c cm v L e s) : s.length = e.length + 1 ∧ (e = [] ∨ ∃ y ∈ L, e.length = hgt b w n (!c) y + 1) := by
  rcases h with ⟨h1, h2, h3⟩ | ⟨y', l, h1, h2, h3, h4, h5, h6⟩
  · subst h1; subst h2; exact ⟨rfl, .inl rfl⟩
  · subst h1; subst h2
    exact ⟨by rw [List.length_cons, sn_len, List.length_cons], .inr ⟨y', h3, by rw [List.length_cons, h5.len]⟩⟩
theorem Lg.lt : ∀ {c : Bool} {x : Nat} {l : List Nat}, x < n → Lg b w n c x l → ∀ y ∈ x :: l, y < n
  | c, x, [], hx, h, y, hy => by rw [List.mem_singleton.1 hy]; exact hx
  | c, x, z :: l, hx, h, y, hy => by
    rcases List.mem_cons.1 hy with rfl | hy
    · exact hx
    · rw [Lg] at h
      exact Lg.lt h.1.1 h.2.2 y hy
end
end Go.Bm

/- Words of trees: the reference's and the program's. -/
set_option linter.unusedVariables false
set_option linter.unusedSimpArgs false
namespace Go.Bm
open Go Go.Am

theorem NNs {l : List UInt8} : NN (.string (bs l)) := NN.string
theorem sum1 {d t : List UInt8} (h : d.length + t.length + 2 ≤ 9223372036854775807) :
    aSbin .add (.string (bs d)) (.string ⟨#[40]⟩) = some (.string (bs (d ++ [40]))) ∧ aSbin .add (.string (bs (d ++ [40]))) (.string (bs t)) = some (.string (bs (d ++ [40] ++ t))) ∧
    aSbin .add (.string (bs (d ++ [40] ++ t))) (.string ⟨#[41]⟩) = some (.string (bs (d ++ (40 :: (t ++ [41]))))) := by
  refine ⟨by rw [bs40]; exact sbin_add (by simp; omega), sbin_add (by simp; omega), ?_⟩
  rw [bs41, sbin_add (by simp; omega)]
  simp
theorem sum2 {d t : List UInt8} (h : d.length + t.length + 2 ≤ 9223372036854775807) :
    aSbin .add (.string ⟨#[40]⟩) (.string (bs t)) = some (.string (bs (40 :: t))) ∧ aSbin .add (.string (bs (40 :: t))) (.string ⟨#[41]⟩) = some (.string (bs (40 :: (t ++ [41])))) ∧
    aSbin .add (.string (bs d)) (.string (bs (40 :: (t ++ [41])))) = some (.string (bs (d ++ (40 :: (t ++ [41]))))) := by
  refine ⟨by rw [bs40]; exact sbin_add (by simp; omega), ?_, sbin_add (by simp; omega)⟩
  rw [bs41, sbin_add (by simp; omega)]
  simp
theorem mapM_cons_inv {α β : Type} {f : α → Option β} {a : α} {l : List α} {ts : List β} (h : (a :: l).mapM f = some ts) : ∃ t r, f a = some t ∧ l.mapM f = some r ∧ ts = t :: r := by
  rw [List.mapM_cons] at h
  simp only [Option.pure_def, Option.bind_eq_bind, Option.bind_eq_some_iff, Option.some.injEq] at h
  obtain ⟨s, hs, ts', hts, rfl⟩ := h
  exact ⟨s, ts', hs, hts, rfl⟩
theorem rng_step {p : List Nat} {x y k : Nat} (h : y ≠ x) (hk : 0 < k) : rng p x k y = y :: rng p x (k - 1) (nl p y) := by
  obtain ⟨k, rfl⟩ : ∃ j, k = j + 1 := ⟨k - 1, by omega⟩
  rw [rng, if_neg h, Nat.add_sub_cancel]
theorem rng_end {p : List Nat} {x k : Nat} : rng p x k x = [] := by
  cases k with
  | zero => rfl
  | succ k => rw [rng, if_pos rfl]
theorem st_NN {H : BH} {i : Nat} {b w : List Nat} (hb : b.length = 16) (hw : w.length = 16) : stO (some (b.map N8)) H i 0 16 (PL w) = some (undef, H.set i (some (w.map N8))) := by
  rw [st_N (by simpa using hw) (by simp [hb]), splice_full (by simp [hb, hw])]
section
variable {b w : List Nat} {n : Nat}
theorem pc_by (hb : By 16 b) (hw : By 16 w) (c : Bool) : By 16 (pc b w c) := by cases c; exact hb; exact hw
theorem pc_perm (hd : Des n b w) (c : Bool) : Perm (pc b w c) n := by cases c; exact hd.1; exact hd.2.1
theorem l05Below_spec (hb : By 16 b) (hw : By 16 w) (hd : Des n b w) : ∀ (k : Nat) {x0 : Bool} {c : Bool} {x : Nat} {s : List UInt8} {H : BH} {K : Value → BH → Prop}, x < n → wrd b w k c x = some s → s.length ≤ 9000000000000000000 →
    K (.string (bs s)) H → CallX x0 F_spec_l05Below [DV n b w, I x, .bool c] H K := by
  have hlb := hb.len
  have hlw := hw.len
  have hn := hd.1.1
  intro k
  induction k with
  | zero => intro x0 c x s H K hx hs; simp [wrd] at hs
  | succ k ih =>
    intro x0 c x s H K hx hs hsl hK
    rw [wrd, Option.map_eq_some_iff] at hs
    obtain ⟨ts, hts, rfl⟩ := hs
    have hp := pc_perm hd c
    have hpl := (pc_by hb hw c).len
    obtain ⟨P0, hP, hPx⟩ := it_back hp hx
    refine callP (.cons nn_D (.cons .int (.cons .bool .nil))) ?_
    refine CallX_body Γ_spec_l05Below ?_; simp only [A_spec_l05Below, T_aiff]
    refine T_rseq fun Kr hKr => ?_; simp (disch := omega) only [RA, ↓reduceIte, Nat.reduceEqDiff, RD, RDS]; refine hKr _ _ ?_; clear hKr Kr; (try simp only [RN, reduceIte]); try refine T_e rfl ?_
    refine T_rseq fun Kr hKr => ?_; simp (disch := omega) only [RA, ↓reduceIte, Nat.reduceEqDiff, RD]; refine hKr _ _ ?_; clear hKr Kr; (try simp only [RN, reduceIte]); try refine T_e rfl ?_
    refine T_rseq fun Kr hKr => ?_; simp (disch := omega) only [RA, ↓reduceIte, Nat.reduceEqDiff, RD, RDS, RDD]; refine hKr _ _ ?_; clear hKr Kr; (try simp only [RN, reduceIte]); try refine T_e rfl ?_
    have hmain : ∀ f', f' 1 = I x → f' 2 = .bool c → f' 3 = P 0 0 → f' 7 = .string (bs []) → f' 8 = P 1 0 →
        T 0 (.seq A_spec_l05Below.r5 (.seq (.block 0 (.loop A_spec_l05Below.l0)) (.seq A_spec_l05Below.r9 .ret))) (bodyQ 0 [.tmp 6] fun v _ => NN v ∧ K v H) f' [some (DC n b w), some ((pc b w c).map N8)] := by
      intro f' g1 g2 g3 g7 g8
      have hpx := hp.lt hx
      refine T_rseq fun Kr hKr => ?_; simp (disch := omega) only [RA, ↓reduceIte, Nat.reduceEqDiff, RD, g1, g8, hpl]; refine hKr _ _ ?_; clear hKr Kr; (try simp only [RN, reduceIte]); try refine T_e rfl ?_
      refine T_wloop (fun m f H' => ∃ i y d rm, i ≤ P0 ∧ m = P0 - i ∧ y = it (pc b w c) x i ∧ (rng (pc b w c) x (16 - i) y).mapM (wrd b w k (!c)) = some rm ∧ ts = d ++ rm ∧ f 1 = I x ∧ f 2 = .bool c ∧ f 3 = P 0 0 ∧ f 7 = .string (bs (catB d)) ∧ f 8 = P 1 0 ∧ f 9 = I y ∧ H' = [some (DC n b w), some ((pc b w c).map N8)]) (P0) ?_ ?_
      · refine ⟨_, _, Gh.refl, 0, nl (pc b w c) x, [], ts, by omega, by omega, rfl, hts, rfl, ?_, ?_, ?_, ?_, ?_, ?_, rfl⟩
        any_goals (simp (disch := omega) only [RA, ↓reduceIte, Nat.reduceEqDiff, RD, RE, *] <;> rfl)
      · clear g1 g2 g3 g7 g8
        rintro m f H' R ⟨i, y, d, rm, hi, rfl, hy, hrm, hd', g1, g2, g3, g7, g8, g9, rfl⟩ hN hX hR hE
        simp only [A_spec_l05Below.l0, T_aiff]
        have hyn : y < n := by rw [hy]; exact it_lt hp hx i
        have hpy := hp.lt hyn
        refine T_rseq fun Kr hKr => ?_; simp (disch := omega) only [RA, ↓reduceIte, Nat.reduceEqDiff, RD, g1, g9]; refine hKr _ _ ?_; clear hKr Kr; (try simp only [RN, reduceIte]); try refine T_e rfl ?_
        refine T_csplit (p := ¬ y = x) (by simp only [RA, ↓reduceIte, Nat.reduceEqDiff] <;> rfl) (by (try simp only [RB]) <;> first | done | exact Iff.rfl | omega | simp) (fun hc => ?_) (fun hc => ?_) <;> (try simp only [RN, reduceIte]) <;> (try refine T_e rfl ?_)
        · have hiP : i < P0 := by
            rcases Nat.lt_or_ge i P0 with h | h
            · exact h
            · exact absurd (by rw [hy, show i = P0 by omega, hPx]) hc
          rw [rng_step hc (by omega)] at hrm
          obtain ⟨t, r, ht, hr, rfl⟩ := mapM_cons_inv hrm
          have hle := @catB_le d r t
          rw [← hd'] at hle
          obtain ⟨e1, e2, e3⟩ := sum1 (d := catB d) (t := t) (by omega)
          (first | refine T_bfree rfl ?_ | refine T_bfree' rfl ?_); (try simp only [RN, reduceIte]); try refine T_e rfl ?_
          refine T_rseq fun Kr hKr => ?_; simp (disch := omega) only [RA, ↓reduceIte, Nat.reduceEqDiff, RD, g2, g3, g7, g9, e1, RDS, RDD]
          refine ih hyn ht (by omega) ?_
          simp (disch := omega) only [RA, ↓reduceIte, Nat.reduceEqDiff, RD, e2, e3]
          refine hKr _ _ ?_; clear hKr Kr; (try simp only [blkQ, thenQ, loopQ]); (try simp only [RN, reduceIte]); try refine T_e rfl ?_
          refine T_reg_k fun Kr hKr => ?_; simp (disch := omega) only [RA, ↓reduceIte, Nat.reduceEqDiff, RD, g8, g9, hpl]; refine hKr _ _ ?_; clear hKr Kr
          refine hN (P0 - (i + 1)) _ _ _ _ (by omega) Gh.refl ⟨i + 1, nl (pc b w c) y, d ++ [t], r, by omega, rfl, by rw [it, hy], by rw [show 16 - (i + 1) = 16 - i - 1 by omega]; exact hr, by rw [hd']; simp, ?_, ?_, ?_, ?_, ?_, ?_, rfl⟩
          any_goals (simp (disch := omega) only [RA, ↓reduceIte, Nat.reduceEqDiff, RD, RE, *] <;> rfl)
          rw [catB_snoc]
          simp [RA, ↓reduceIte, Nat.reduceEqDiff]
        · refine hX _ _ ?_
          have hyx : y = x := Decidable.not_not.1 hc
          rw [hyx, rng_end] at hrm
          have : rm = [] := by simpa using hrm.symm
          subst this
          rw [List.append_nil] at hd'
          rw [hd'] at hK
          refine T_rseq fun Kr hKr => ?_; simp (disch := omega) only [RA, ↓reduceIte, Nat.reduceEqDiff, RD, g7]; refine hKr _ _ ?_; clear hKr Kr; (try simp only [RN, reduceIte]); try refine T_e rfl ?_
          refine bodyQ_ret (by simp (disch := omega) only [RA, ↓reduceIte, Nat.reduceEqDiff, RD, resAll, resOf]; rfl) GhV.refl ?_; simp only [tup]
          exact ⟨NNs, hK⟩
    cases c with
    | false =>
      refine T_rseq fun Kr hKr => ?_; simp (disch := omega) only [RA, ↓reduceIte, Nat.reduceEqDiff, RD]; refine hKr _ _ ?_; clear hKr Kr; (try simp only [RN, reduceIte]); try refine T_e rfl ?_
      refine T_cseq (t := false) (by simp (disch := omega) only [RA, ↓reduceIte, Nat.reduceEqDiff, RD]) ?_; (try simp only [RN, reduceIte]); try refine T_e rfl ?_
      refine hmain _ ?_ ?_ ?_ ?_ ?_
      any_goals (simp (disch := omega) only [RA, ↓reduceIte, Nat.reduceEqDiff, RD, RE, *] <;> rfl)
    | true =>
      refine T_rseq fun Kr hKr => ?_; simp (disch := omega) only [RA, ↓reduceIte, Nat.reduceEqDiff, RD]; refine hKr _ _ ?_; clear hKr Kr; (try simp only [RN, reduceIte]); try refine T_e rfl ?_
      refine T_cseq (t := true) (by simp (disch := omega) only [RA, ↓reduceIte, Nat.reduceEqDiff, RD]) ?_; (try simp only [RN, reduceIte]); try refine T_e rfl ?_
      refine T_rseq fun Kr hKr => ?_; simp (disch := omega) only [RA, ↓reduceIte, Nat.reduceEqDiff, RD, RDS, RDD, st_NN]; refine hKr _ _ ?_; clear hKr Kr; (try simp only [RN, reduceIte]); try refine T_e rfl ?_
      refine hmain _ ?_ ?_ ?_ ?_ ?_
      any_goals (simp (disch := omega) only [RA, ↓reduceIte, Nat.reduceEqDiff, RD, RE, *] <;> rfl)
theorem l05At_spec (hb : By 16 b) (hw : By 16 w) (hd : Des n b w) {x0 : Bool} {x : Nat} {s : List UInt8} {H : BH} {K : Value → BH → Prop} (hx : x < n) (hs : wordAt b w x = some s) (hsl : s.length ≤ 9000000000000000000)
    (hK : K (.string (bs s)) H) : CallX x0 F_spec_l05At [DV n b w, I x] H K := by
  have hlb := hb.len
  have hlw := hw.len
  have hn := hd.1.1
  rw [wordAt, Option.map_eq_some_iff] at hs
  obtain ⟨ts, hts, rfl⟩ := hs
  obtain ⟨t0, r0, ht0, hr0, hts0⟩ := mapM_cons_inv hts
  obtain ⟨P0, hP, hPx⟩ := it_back hd.1 hx
  have hpx := hd.1.lt hx
  have hle0 := @catB_le [] r0 t0
  rw [List.nil_append, ← hts0] at hle0
  have hnil : (catB []).length = 0 := rfl
  have hcat : catB [t0] = 40 :: (t0 ++ [41]) := by simp [catB]
  obtain ⟨e1, e2, e3⟩ := sum2 (d := []) (t := t0) (by simp; omega)
  refine callP (.cons nn_D (.cons .int .nil)) ?_
  refine CallX_body Γ_spec_l05At ?_; simp only [A_spec_l05At, T_aiff]
  refine T_rseq fun Kr hKr => ?_; simp (disch := omega) only [RA, ↓reduceIte, Nat.reduceEqDiff, RD, RDS]; refine hKr _ _ ?_; clear hKr Kr; (try simp only [RN, reduceIte]); try refine T_e rfl ?_
  refine T_rseq fun Kr hKr => ?_; simp (disch := omega) only [RA, ↓reduceIte, Nat.reduceEqDiff, RD, RDS, RDD]
  refine l05Below_spec hb hw hd 17 hx ht0 (by omega) ?_
  simp (disch := omega) only [RA, ↓reduceIte, Nat.reduceEqDiff, RD, e1, e2]
  refine hKr _ _ ?_; clear hKr Kr; (try simp only [blkQ, thenQ, loopQ]); (try simp only [RN, reduceIte]); try refine T_e rfl ?_
  refine T_rseq fun Kr hKr => ?_; simp (disch := omega) only [RA, ↓reduceIte, Nat.reduceEqDiff, RD, RDS, RDD]; refine hKr _ _ ?_; clear hKr Kr; (try simp only [RN, reduceIte]); try refine T_e rfl ?_
  refine T_wloop (fun m f H' => ∃ i y d rm, i ≤ P0 ∧ m = P0 - i ∧ y = it b x i ∧ (rng b x (16 - i) y).mapM (wrd b w 17 true) = some rm ∧ ts = d ++ rm ∧ f 1 = I x ∧ f 2 = P 0 0 ∧ f 5 = .string (bs (catB d)) ∧ f 6 = I y ∧ H' = [some (DC n b w)]) (P0) ?_ ?_
  · refine ⟨_, _, Gh.refl, 0, nl b x, [t0], r0, by omega, by omega, rfl, hr0, hts0, ?_, ?_, ?_, ?_, rfl⟩
    any_goals (simp (disch := omega) only [RA, ↓reduceIte, Nat.reduceEqDiff, RD, RE, *] <;> rfl)
  · rintro m f H' R ⟨i, y, d, rm, hi, rfl, hy, hrm, hd', g1, g2, g5, g6, rfl⟩ hN hX hR hE
    simp only [A_spec_l05At.l0, T_aiff]
    have hyn : y < n := by rw [hy]; exact it_lt hd.1 hx i
    have hpy := hd.1.lt hyn
    refine T_rseq fun Kr hKr => ?_; simp (disch := omega) only [RA, ↓reduceIte, Nat.reduceEqDiff, RD, g1, g6]; refine hKr _ _ ?_; clear hKr Kr; (try simp only [RN, reduceIte]); try refine T_e rfl ?_
    refine T_csplit (p := ¬ y = x) (by simp only [RA, ↓reduceIte, Nat.reduceEqDiff] <;> rfl) (by (try simp only [RB]) <;> first | done | exact Iff.rfl | omega | simp) (fun hc => ?_) (fun hc => ?_) <;> (try simp only [RN, reduceIte]) <;> (try refine T_e rfl ?_)
    · have hiP : i < P0 := by
        rcases Nat.lt_or_ge i P0 with h | h
        · exact h
        · exact absurd (by rw [hy, show i = P0 by omega, hPx]) hc
      rw [rng_step hc (by omega)] at hrm
      obtain ⟨t, r, ht, hr, rfl⟩ := mapM_cons_inv hrm
      have hle := @catB_le d r t
      rw [← hd'] at hle
      obtain ⟨e1, e2, e3⟩ := sum1 (d := catB d) (t := t) (by omega)
      (first | refine T_bfree rfl ?_ | refine T_bfree' rfl ?_); (try simp only [RN, reduceIte]); try refine T_e rfl ?_
      refine T_rseq fun Kr hKr => ?_; simp (disch := omega) only [RA, ↓reduceIte, Nat.reduceEqDiff, RD, g2, g5, g6, e1, RDS, RDD]
      refine l05Below_spec hb hw hd 17 hyn ht (by omega) ?_
      simp (disch := omega) only [RA, ↓reduceIte, Nat.reduceEqDiff, RD, e2, e3]
      refine hKr _ _ ?_; clear hKr Kr; (try simp only [blkQ, thenQ, loopQ]); (try simp only [RN, reduceIte]); try refine T_e rfl ?_
      refine T_reg_k fun Kr hKr => ?_; simp (disch := omega) only [RA, ↓reduceIte, Nat.reduceEqDiff, RD, g2, g6, RDS, RDD]; refine hKr _ _ ?_; clear hKr Kr
      refine hN (P0 - (i + 1)) _ _ _ _ (by omega) Gh.refl ⟨i + 1, nl b y, d ++ [t], r, by omega, rfl, by rw [it, hy], by rw [show 16 - (i + 1) = 16 - i - 1 by omega]; exact hr, by rw [hd']; simp, ?_, ?_, ?_, ?_, rfl⟩
      any_goals (simp (disch := omega) only [RA, ↓reduceIte, Nat.reduceEqDiff, RD, RE, *] <;> rfl)
      rw [catB_snoc]
      simp [RA, ↓reduceIte, Nat.reduceEqDiff]
    · refine hX _ _ ?_
      have hyx : y = x := Decidable.not_not.1 hc
      rw [hyx, rng_end] at hrm
      have : rm = [] := by simpa using hrm.symm
      subst this
      rw [List.append_nil] at hd'
      rw [hd'] at hK
      refine T_rseq fun Kr hKr => ?_; simp (disch := omega) only [RA, ↓reduceIte, Nat.reduceEqDiff, RD, g5]; refine hKr _ _ ?_; clear hKr Kr; (try simp only [RN, reduceIte]); try refine T_e rfl ?_
      refine bodyQ_ret (by simp (disch := omega) only [RA, ↓reduceIte, Nat.reduceEqDiff, RD, resAll, resOf]; rfl) GhV.refl ?_; simp only [tup]
      exact ⟨NNs, hK⟩
/-- The program's words: of what lies behind a dart. -/
theorem wordAt_spec (hb : By 16 b) (hw : By 16 w) (hd : Des n b w) : ∀ (k : Nat) {x0 : Bool} {c : Bool} {x : Nat} {s : List UInt8} {H : BH} {K : Value → BH → Prop}, x < n → wrd b w k c x = some s → s.length ≤ 9000000000000000000 →
    K (.string (bs s)) H → CallX x0 F_impl_wordAt [PL (pc b w c), PL (pc b w (!c)), I x, .bool false] H K := by
  have hn := hd.1.1
  intro k
  induction k with
  | zero => intro x0 c x s H K hx hs; simp [wrd] at hs
  | succ k ih =>
    intro x0 c x s H K hx hs hsl hK
    rw [wrd, Option.map_eq_some_iff] at hs
    obtain ⟨ts, hts, rfl⟩ := hs
    have hp := pc_perm hd c
    have hpl := (pc_by hb hw c).len
    have hpl' := (pc_by hb hw (!c)).len
    obtain ⟨P0, hP, hPx⟩ := it_back hp hx
    have hpx := hp.lt hx
    have ih' := fun {x0 : Bool} => @ih x0 (!c)
    rw [Bool.not_not] at ih'
    rw [ring] at hts
    generalize pc b w c = p at hts hp hpl hPx hpx ih'
    generalize pc b w (!c) = q at hpl' ih'
    refine callP (.cons (NN_agg NNL_F8) (.cons (NN_agg NNL_F8) (.cons .int (.cons .bool .nil)))) ?_
    refine CallX_body Γ_impl_wordAt ?_; simp only [A_impl_wordAt, T_aiff]
    refine T_rseq fun Kr hKr => ?_; simp (disch := omega) only [RA, ↓reduceIte, Nat.reduceEqDiff, RD]; refine hKr _ _ ?_; clear hKr Kr; (try simp only [RN, reduceIte]); try refine T_e rfl ?_
    refine T_rseq fun Kr hKr => ?_; simp (disch := omega) only [RA, ↓reduceIte, Nat.reduceEqDiff, RD]; refine hKr _ _ ?_; clear hKr Kr; (try simp only [RN, reduceIte]); try refine T_e rfl ?_
    refine T_rseq fun Kr hKr => ?_; simp (disch := omega) only [RA, ↓reduceIte, Nat.reduceEqDiff, RD]; refine hKr _ _ ?_; clear hKr Kr; (try simp only [RN, reduceIte]); try refine T_e rfl ?_
    refine T_rseq fun Kr hKr => ?_; simp (disch := omega) only [RA, ↓reduceIte, Nat.reduceEqDiff, RD]; refine hKr _ _ ?_; clear hKr Kr; (try simp only [RN, reduceIte]); try refine T_e rfl ?_
    refine T_cseq (t := true) (by simp (disch := omega) only [RA, ↓reduceIte, Nat.reduceEqDiff, RD]) ?_; (try simp only [RN, reduceIte]); try refine T_e rfl ?_
    refine T_rseq fun Kr hKr => ?_; simp (disch := omega) only [RA, ↓reduceIte, Nat.reduceEqDiff, RD, hpl]; refine hKr _ _ ?_; clear hKr Kr; (try simp only [RN, reduceIte]); try refine T_e rfl ?_
    refine T_rseq fun Kr hKr => ?_; simp (disch := omega) only [RA, ↓reduceIte, Nat.reduceEqDiff, RD]; refine hKr _ _ ?_; clear hKr Kr; (try simp only [RN, reduceIte]); try refine T_e rfl ?_
    refine T_wloop (fun m f H' => ∃ i y d rm fb, i ≤ P0 ∧ m = P0 - i ∧ y = it p x i ∧ (rng p x (16 - i) y).mapM (wrd b w k (!c)) = some rm ∧ ts = d ++ rm ∧ f 2 = I x ∧ f 3 = .bool false ∧ f 4 = P 0 0 ∧ f 5 = P 1 0 ∧ f 9 = .string (bs (catB d)) ∧ f 10 = I y ∧ f 11 = .bool fb ∧ H' = [some (p.map N8), some (q.map N8)]) (P0) ?_ ?_
    · refine ⟨_, _, Gh.refl, 0, nl p x, [], ts, true, by omega, by omega, rfl, hts, rfl, ?_, ?_, ?_, ?_, ?_, ?_, ?_, rfl⟩
      any_goals (simp (disch := omega) only [RA, ↓reduceIte, Nat.reduceEqDiff, RD, RE, *] <;> rfl)
    · rintro m f H' R ⟨i, y, d, rm, fb, hi, rfl, hy, hrm, hd', g2, g3, g4, g5, g9, g10, g11, rfl⟩ hN hX hR hE
      simp only [A_impl_wordAt.l0, T_aiff]
      have hyn : y < n := by rw [hy]; exact it_lt hp hx i
      have hpy := hp.lt hyn
      by_cases hc : y = x
      · have hend : ∀ f', f' 9 = .string (bs (catB d)) → R (.exit 0) f' [some (p.map N8), some (q.map N8)] := by
          intro f' g9
          refine hX _ _ ?_
          rw [hc, rng_end] at hrm
          have : rm = [] := by simpa using hrm.symm
          subst this
          rw [List.append_nil] at hd'
          rw [hd'] at hK
          refine T_rseq fun Kr hKr => ?_; simp (disch := omega) only [RA, ↓reduceIte, Nat.reduceEqDiff, RD, g9]; refine hKr _ _ ?_; clear hKr Kr; (try simp only [RN, reduceIte]); try refine T_e rfl ?_
          refine bodyQ_ret (by simp (disch := omega) only [RA, ↓reduceIte, Nat.reduceEqDiff, RD, resAll, resOf]; rfl) GhV.refl ?_; simp only [tup]
          exact ⟨NNs, hK⟩
        cases fb with
        | false =>
          refine T_rseq fun Kr hKr => ?_; simp (disch := omega) only [RA, ↓reduceIte, Nat.reduceEqDiff, RD, g2, g3, g10, g11]; refine hKr _ _ ?_; clear hKr Kr; (try simp only [RN, reduceIte]); try refine T_e rfl ?_
          refine T_cseq (t := false) (by simp (disch := omega) only [RA, ↓reduceIte, Nat.reduceEqDiff, RD]) ?_; (try simp only [RN, reduceIte]); try refine T_e rfl ?_
          exact hend _ (by simp (disch := omega) only [RA, ↓reduceIte, Nat.reduceEqDiff, RD, RE, *] <;> rfl)
        | true =>
          refine T_rseq fun Kr hKr => ?_; simp (disch := omega) only [RA, ↓reduceIte, Nat.reduceEqDiff, RD, g2, g3, g10, g11]; refine hKr _ _ ?_; clear hKr Kr; (try simp only [RN, reduceIte]); try refine T_e rfl ?_
          refine T_cseq (t := false) (by simp (disch := omega) only [RA, ↓reduceIte, Nat.reduceEqDiff, RD]) ?_; (try simp only [RN, reduceIte]); try refine T_e rfl ?_
          exact hend _ (by simp (disch := omega) only [RA, ↓reduceIte, Nat.reduceEqDiff, RD, RE, *] <;> rfl)
      · have hiP : i < P0 := by
          rcases Nat.lt_or_ge i P0 with h | h
          · exact h
          · exact absurd (by rw [hy, show i = P0 by omega, hPx]) hc
        rw [rng_step hc (by omega)] at hrm
        obtain ⟨t, r, ht, hr, rfl⟩ := mapM_cons_inv hrm
        have hle := @catB_le d r t
        rw [← hd'] at hle
        obtain ⟨e1, e2, e3⟩ := sum2 (d := catB d) (t := t) (by omega)
        have hgo : ∀ f', f' 2 = I x → f' 3 = .bool false → f' 4 = P 0 0 → f' 5 = P 1 0 → f' 9 = .string (bs (catB d)) → f' 10 = I y →
            T 0 (.seq A_impl_wordAt.r8 (.seq A_impl_wordAt.r9 A_impl_wordAt.r7)) R f' [some (p.map N8), some (q.map N8)] := by
          clear g2 g3 g4 g5 g9 g10 g11
          intro f' g2 g3 g4 g5 g9 g10
          refine T_rseq fun Kr hKr => ?_; simp (disch := omega) only [RA, ↓reduceIte, Nat.reduceEqDiff, RD, g4, g5, g9, g10, hpl, hpl']
          refine ih' hyn ht (by omega) ?_
          simp (disch := omega) only [RA, ↓reduceIte, Nat.reduceEqDiff, RD, e1, e2, e3]
          refine hKr _ _ ?_; clear hKr Kr; (try simp only [blkQ, thenQ, loopQ]); (try simp only [RN, reduceIte]); try refine T_e rfl ?_
          refine T_rseq fun Kr hKr => ?_; simp (disch := omega) only [RA, ↓reduceIte, Nat.reduceEqDiff, RD, g4, g10, hpl]; refine hKr _ _ ?_; clear hKr Kr; (try simp only [RN, reduceIte]); try refine T_e rfl ?_
          refine T_reg_k fun Kr hKr => ?_; simp (disch := omega) only [RA, ↓reduceIte, Nat.reduceEqDiff, RD]; refine hKr _ _ ?_; clear hKr Kr
          refine hN (P0 - (i + 1)) _ _ _ _ (by omega) Gh.refl ⟨i + 1, nl p y, d ++ [t], r, false, by omega, rfl, by rw [it, hy], by rw [show 16 - (i + 1) = 16 - i - 1 by omega]; exact hr, by rw [hd']; simp, ?_, ?_, ?_, ?_, ?_, ?_, ?_, rfl⟩
          any_goals (simp (disch := omega) only [RA, ↓reduceIte, Nat.reduceEqDiff, RD, RE, *] <;> rfl)
          rw [catB_snoc]
          simp [RA, ↓reduceIte, Nat.reduceEqDiff]
        cases fb with
        | false =>
          refine T_rseq fun Kr hKr => ?_; simp (disch := omega) only [RA, ↓reduceIte, Nat.reduceEqDiff, RD, g2, g3, g10, g11]; refine hKr _ _ ?_; clear hKr Kr; (try simp only [RN, reduceIte]); try refine T_e rfl ?_
          refine T_cseq (t := true) (by simp (disch := omega) only [RA, ↓reduceIte, Nat.reduceEqDiff, RD]) ?_; (try simp only [RN, reduceIte]); try refine T_e rfl ?_
          (first | refine T_bfree rfl ?_ | refine T_bfree' rfl ?_); (try simp only [RN, reduceIte]); try refine T_e rfl ?_
          refine hgo _ ?_ ?_ ?_ ?_ ?_ ?_
          any_goals (simp (disch := omega) only [RA, ↓reduceIte, Nat.reduceEqDiff, RD, RE, *] <;> rfl)
        | true =>
          refine T_rseq fun Kr hKr => ?_; simp (disch := omega) only [RA, ↓reduceIte, Nat.reduceEqDiff, RD, g2, g3, g10, g11]; refine hKr _ _ ?_; clear hKr Kr; (try simp only [RN, reduceIte]); try refine T_e rfl ?_
          refine T_cseq (t := true) (by simp (disch := omega) only [RA, ↓reduceIte, Nat.reduceEqDiff, RD]) ?_; (try simp only [RN, reduceIte]); try refine T_e rfl ?_
          (first | refine T_bfree rfl ?_ | refine T_bfree' rfl ?_); (try simp only [RN, reduceIte]); try refine T_e rfl ?_
          refine hgo _ ?_ ?_ ?_ ?_ ?_ ?_
          any_goals (simp (disch := omega) only [RA, ↓reduceIte, Nat.reduceEqDiff, RD, RE, *] <;> rfl)
theorem wordAt_top (hb : By 16 b) (hw : By 16 w) (hd : Des n b w) {x0 : Bool} {x : Nat} {s : List UInt8} {H : BH} {K : Value → BH → Prop} (hx : x < n) (hs : wordAt b w x = some s) (hsl : s.length ≤ 9000000000000000000)
    (hK : K (.string (bs s)) H) : CallX x0 F_impl_wordAt [PL b, PL w, I x, .bool true] H K := by
  have hpl := hb.len
  have hpl' := hw.len
  have hn := hd.1.1
  have hp := hd.1
  rw [wordAt, Option.map_eq_some_iff] at hs
  obtain ⟨ts, hts, rfl⟩ := hs
  obtain ⟨P0, hP, hPx⟩ := it_back hd.1 hx
  have ih' := fun {x0 : Bool} {y : Nat} {s : List UInt8} {H : BH} {K : Value → BH → Prop} => @wordAt_spec b w n hb hw hd 17 x0 true y s H K
  have e0 : pc b w true = w := rfl
  have e1 : pc b w (!true) = b := rfl
  rw [e0, e1] at ih'
  refine callP (.cons (NN_agg NNL_F8) (.cons (NN_agg NNL_F8) (.cons .int (.cons .bool .nil)))) ?_
  refine CallX_body Γ_impl_wordAt ?_; simp only [A_impl_wordAt, T_aiff]
  refine T_rseq fun Kr hKr => ?_; simp (disch := omega) only [RA, ↓reduceIte, Nat.reduceEqDiff, RD]; refine hKr _ _ ?_; clear hKr Kr; (try simp only [RN, reduceIte]); try refine T_e rfl ?_
  refine T_rseq fun Kr hKr => ?_; simp (disch := omega) only [RA, ↓reduceIte, Nat.reduceEqDiff, RD]; refine hKr _ _ ?_; clear hKr Kr; (try simp only [RN, reduceIte]); try refine T_e rfl ?_
  refine T_rseq fun Kr hKr => ?_; simp (disch := omega) only [RA, ↓reduceIte, Nat.reduceEqDiff, RD]; refine hKr _ _ ?_; clear hKr Kr; (try simp only [RN, reduceIte]); try refine T_e rfl ?_
  refine T_rseq fun Kr hKr => ?_; simp (disch := omega) only [RA, ↓reduceIte, Nat.reduceEqDiff, RD]; refine hKr _ _ ?_; clear hKr Kr; (try simp only [RN, reduceIte]); try refine T_e rfl ?_
  refine T_cseq (t := false) (by simp (disch := omega) only [RA, ↓reduceIte, Nat.reduceEqDiff, RD]) ?_; (try simp only [RN, reduceIte]); try refine T_e rfl ?_
  refine T_rseq fun Kr hKr => ?_; simp (disch := omega) only [RA, ↓reduceIte, Nat.reduceEqDiff, RD]; refine hKr _ _ ?_; clear hKr Kr; (try simp only [RN, reduceIte]); try refine T_e rfl ?_
  refine T_wloop (fun m f H' => ∃ i y d rm fb, (fb = true ∧ y = x ∧ m = 17 ∧ d = [] ∧ rm = ts ∧ i = 0 ∨ fb = false ∧ i ≤ P0 ∧ m = P0 - i ∧ y = it b x i ∧ (rng b x (16 - i) y).mapM (wrd b w 17 true) = some rm ∧ ts = d ++ rm) ∧ f 2 = I x ∧ f 3 = .bool true ∧ f 4 = P 0 0 ∧ f 5 = P 1 0 ∧ f 9 = .string (bs (catB d)) ∧ f 10 = I y ∧ f 11 = .bool fb ∧ H' = [some (b.map N8), some (w.map N8)]) (17) ?_ ?_
  · refine ⟨_, _, Gh.refl, 0, x, [], ts, true, .inl ⟨rfl, rfl, rfl, rfl, rfl, rfl⟩, ?_, ?_, ?_, ?_, ?_, ?_, ?_, rfl⟩
    any_goals (simp (disch := omega) only [RA, ↓reduceIte, Nat.reduceEqDiff, RD, RE, *] <;> rfl)
  · rintro m f H' R ⟨i, y, d, rm, fb, hcase, g2, g3, g4, g5, g9, g10, g11, rfl⟩ hN hX hR hE
    simp only [A_impl_wordAt.l0, T_aiff]
    have hgo : ∀ t r i', i' ≤ P0 → P0 - i' < m → y < n → wrd b w 17 true y = some t → (rng b x (16 - i') (nl b y)).mapM (wrd b w 17 true) = some r → nl b y = it b x i' → ts = d ++ t :: r →
        ∀ f', f' 2 = I x → f' 3 = .bool true → f' 4 = P 0 0 → f' 5 = P 1 0 → f' 9 = .string (bs (catB d)) → f' 10 = I y →
        T 0 (.seq A_impl_wordAt.r8 (.seq A_impl_wordAt.r9 A_impl_wordAt.r7)) R f' [some (b.map N8), some (w.map N8)] := by
      clear g2 g3 g4 g5 g9 g10 g11
      intro t r i' hi' hm hyn ht hr hit hd' f' g2 g3 g4 g5 g9 g10
      have hle := @catB_le d r t
      rw [← hd'] at hle
      have hpy := hp.lt hyn
      obtain ⟨e1, e2, e3⟩ := sum2 (d := catB d) (t := t) (by omega)
      refine T_rseq fun Kr hKr => ?_; simp (disch := omega) only [RA, ↓reduceIte, Nat.reduceEqDiff, RD, g4, g5, g9, g10, hpl, hpl']
      refine ih' hyn ht (by omega) ?_
      simp (disch := omega) only [RA, ↓reduceIte, Nat.reduceEqDiff, RD, e1, e2, e3]
      refine hKr _ _ ?_; clear hKr Kr; (try simp only [blkQ, thenQ, loopQ]); (try simp only [RN, reduceIte]); try refine T_e rfl ?_
      refine T_rseq fun Kr hKr => ?_; simp (disch := omega) only [RA, ↓reduceIte, Nat.reduceEqDiff, RD, g4, g10, hpl]; refine hKr _ _ ?_; clear hKr Kr; (try simp only [RN, reduceIte]); try refine T_e rfl ?_
      refine T_reg_k fun Kr hKr => ?_; simp (disch := omega) only [RA, ↓reduceIte, Nat.reduceEqDiff, RD]; refine hKr _ _ ?_; clear hKr Kr
      refine hN (P0 - i') _ _ _ _ hm Gh.refl ⟨i', nl b y, d ++ [t], r, false, .inr ⟨rfl, hi', rfl, hit, hr, by rw [hd']; simp⟩, ?_, ?_, ?_, ?_, ?_, ?_, ?_, rfl⟩
      any_goals (simp (disch := omega) only [RA, ↓reduceIte, Nat.reduceEqDiff, RD, RE, *] <;> rfl)
      rw [catB_snoc]
      simp [RA, ↓reduceIte, Nat.reduceEqDiff]
    rcases hcase with ⟨rfl, rfl, rfl, rfl, rfl, rfl⟩ | ⟨rfl, hi, rfl, hy, hrm, hd'⟩
    · obtain ⟨t, r, ht, hr, hd'⟩ := mapM_cons_inv hts
      refine T_rseq fun Kr hKr => ?_; simp (disch := omega) only [RA, ↓reduceIte, Nat.reduceEqDiff, RD, g2, g3, g10, g11]; refine hKr _ _ ?_; clear hKr Kr; (try simp only [RN, reduceIte]); try refine T_e rfl ?_
      refine T_cseq (t := true) (by simp (disch := omega) only [RA, ↓reduceIte, Nat.reduceEqDiff, RD]) ?_; (try simp only [RN, reduceIte]); try refine T_e rfl ?_
      (first | refine T_bfree rfl ?_ | refine T_bfree' rfl ?_); (try simp only [RN, reduceIte]); try refine T_e rfl ?_
      refine hgo t r 0 (by omega) (by omega) hx ht hr rfl (by rw [hd']; rfl) _ ?_ ?_ ?_ ?_ ?_ ?_
      any_goals (simp (disch := omega) only [RA, ↓reduceIte, Nat.reduceEqDiff, RD, RE, *] <;> rfl)
    · have hyn : y < n := by rw [hy]; exact it_lt hp hx i
      by_cases hc : y = x
      · refine T_rseq fun Kr hKr => ?_; simp (disch := omega) only [RA, ↓reduceIte, Nat.reduceEqDiff, RD, g2, g3, g10, g11]; refine hKr _ _ ?_; clear hKr Kr; (try simp only [RN, reduceIte]); try refine T_e rfl ?_
        refine T_cseq (t := false) (by simp (disch := omega) only [RA, ↓reduceIte, Nat.reduceEqDiff, RD]) ?_; (try simp only [RN, reduceIte]); try refine T_e rfl ?_
        refine hX _ _ ?_
        rw [hc, rng_end] at hrm
        have : rm = [] := by simpa using hrm.symm
        subst this
        rw [List.append_nil] at hd'
        rw [hd'] at hK
        refine T_rseq fun Kr hKr => ?_; simp (disch := omega) only [RA, ↓reduceIte, Nat.reduceEqDiff, RD, g9]; refine hKr _ _ ?_; clear hKr Kr; (try simp only [RN, reduceIte]); try refine T_e rfl ?_
        refine bodyQ_ret (by simp (disch := omega) only [RA, ↓reduceIte, Nat.reduceEqDiff, RD, resAll, resOf]; rfl) GhV.refl ?_; simp only [tup]
        exact ⟨NNs, hK⟩
      · have hiP : i < P0 := by
          rcases Nat.lt_or_ge i P0 with h | h
          · exact h
          · exact absurd (by rw [hy, show i = P0 by omega, hPx]) hc
        rw [rng_step hc (by omega)] at hrm
        obtain ⟨t, r, ht, hr, rfl⟩ := mapM_cons_inv hrm
        refine T_rseq fun Kr hKr => ?_; simp (disch := omega) only [RA, ↓reduceIte, Nat.reduceEqDiff, RD, g2, g3, g10, g11]; refine hKr _ _ ?_; clear hKr Kr; (try simp only [RN, reduceIte]); try refine T_e rfl ?_
        refine T_cseq (t := true) (by simp (disch := omega) only [RA, ↓reduceIte, Nat.reduceEqDiff, RD]) ?_; (try simp only [RN, reduceIte]); try refine T_e rfl ?_
        (first | refine T_bfree rfl ?_ | refine T_bfree' rfl ?_); (try simp only [RN, reduceIte]); try refine T_e rfl ?_
        refine hgo t r (i + 1) (by omega) (by omega) hyn ht (by rw [show 16 - (i + 1) = 16 - i - 1 by omega]; exact hr) (by rw [it, hy]) hd' _ ?_ ?_ ?_ ?_ ?_ ?_
        any_goals (simp (disch := omega) only [RA, ↓reduceIte, Nat.reduceEqDiff, RD, RE, *] <;> rfl)
theorem wordOfTree_spec (hb : By 16 b) (hw : By 16 w) (hd : Des n b w) {x0 : Bool} {x : Nat} {s : List UInt8} {H : BH} {K : Value → BH → Prop} (hx : x < n) (hs : wordAt b w x = some s) (hsl : s.length ≤ 9000000000000000000)
    (hK : K (.string (bs s)) H) : CallX x0 F_impl_wordOfTree [DV n b w, I x] H K := by
  have hlb := hb.len
  have hlw := hw.len
  refine callP (.cons nn_D (.cons .int .nil)) ?_
  refine CallX_body Γ_impl_wordOfTree ?_; simp only [A_impl_wordOfTree, T_aiff]
  refine T_rseq fun Kr hKr => ?_; simp (disch := omega) only [RA, ↓reduceIte, Nat.reduceEqDiff, RD, RDS]; refine hKr _ _ ?_; clear hKr Kr; (try simp only [RN, reduceIte]); try refine T_e rfl ?_
  refine T_rseq fun Kr hKr => ?_; simp (disch := omega) only [RA, ↓reduceIte, Nat.reduceEqDiff, RD, RDS, RDD]
  refine wordAt_top hb hw hd hx hs hsl ?_
  simp (disch := omega) only [RA, ↓reduceIte, Nat.reduceEqDiff, RD]
  refine hKr _ _ ?_; clear hKr Kr; (try simp only [blkQ, thenQ, loopQ]); (try simp only [RN, reduceIte]); try refine T_e rfl ?_
  refine bodyQ_ret (by simp (disch := omega) only [RA, ↓reduceIte, Nat.reduceEqDiff, RD, resAll, resOf]; rfl) GhV.refl ?_; simp only [tup]
  exact ⟨NNs, hK⟩
end
/-! ### The word at an edge -/
def wd (b w : List Nat) (x : Nat) : List UInt8 := (wordAt b w x).getD []
theorem wd_some {n : Nat} {b w : List Nat} (hd : Des n b w) (ht : Tree n b w) {x : Nat} (hx : x < n) : wordAt b w x = some (wd b w x) := by
  obtain ⟨s, hs⟩ := wordAt_some hd ht hx
  rw [wd, hs]; rfl
theorem wd_len {n : Nat} {b w : List Nat} (hd : Des n b w) (ht : Tree n b w) {x : Nat} (hx : x < n) : (wd b w x).length ≤ 9000000000000000000 := wordAt_len hd ht hx (wd_some hd ht hx)
theorem nn_SI {l : List UInt8} {a : Int} : NN (.tuple ⟨[.string (bs l), I a]⟩) := NN.tuple (NNL.cons NN.string (NNL.cons NN.int NNL.nil))
end Go.Bm

/- The least word, the symmetry, the leaves. -/
set_option linter.unusedVariables false
set_option linter.unusedSimpArgs false
namespace Go.Bm
open Go Go.Am

def ltS (a b : List UInt8) : Bool := Op.bytesLess (bs a).toList (bs b).toList
def eqS (a b : List UInt8) : Bool := (bs a).toList == (bs b).toList
theorem less_irr : ∀ l : List UInt8, Op.bytesLess l l = false
  | [] => rfl
  | a :: l => by simp [Op.bytesLess, less_irr l]
theorem lt_not_eq {a b : List UInt8} (h : ltS a b = true) : eqS a b = false := by
  cases he : eqS a b with
  | false => rfl
  | true =>
    have e : (bs a).toList = (bs b).toList := by simpa [eqS] using he
    rw [ltS, e, less_irr] at h
    cases h
theorem ltS_self (a : List UInt8) : ltS a a = false := less_irr _
theorem eqS_self (a : List UInt8) : eqS a a = true := by simp [eqS]
theorem sbin_lt {a b : List UInt8} : aSbin .lss (.string (bs a)) (.string (bs b)) = some (.bool (ltS a b)) := rfl
theorem sbin_eq {a b : List UInt8} : aSbin .eql (.string (bs a)) (.string (bs b)) = some (.bool (eqS a b)) := rfl
/-- The least of the words of the edges 0..k, and how often it comes. -/
def lwK (b w : List Nat) : Nat → List UInt8 × Nat
  | 0 => (wd b w 0, 1)
  | k + 1 => if eqS (wd b w (k + 1)) (lwK b w k).1 then ((lwK b w k).1, (lwK b w k).2 + 1) else if ltS (wd b w (k + 1)) (lwK b w k).1 then (wd b w (k + 1), 1) else lwK b w k
theorem lwK_le {b w : List Nat} : ∀ {k : Nat}, (lwK b w k).2 ≤ k + 1
  | 0 => Nat.le_refl _
  | k + 1 => by
    have := @lwK_le b w k
    simp only [lwK]
    split
    · simp; omega
    · split
      · simp
      · omega
theorem l05Canonical_spec {x : Bool} {n : Nat} {b w : List Nat} {H : BH} {K : Value → BH → Prop} (hb : By 16 b) (hw : By 16 w) (hd : Des n b w) (ht : Tree n b w)
    (hK : K (.tuple ⟨[.string (bs (lwK b w (n - 1)).1), I (lwK b w (n - 1)).2]⟩) H) : CallX x F_spec_l05Canonical [DV n b w] H K := by
  have hlb := hb.len
  have hlw := hw.len
  have hn := hd.1.1
  refine callP (.cons nn_D .nil) ?_
  refine CallX_body Γ_spec_l05Canonical ?_; simp only [A_spec_l05Canonical, T_aiff]
  refine T_rseq fun Kr hKr => ?_; simp (disch := omega) only [RA, ↓reduceIte, Nat.reduceEqDiff, RD, RDS]; refine hKr _ _ ?_; clear hKr Kr; (try simp only [RN, reduceIte]); try refine T_e rfl ?_
  refine T_rseq fun Kr hKr => ?_; simp (disch := omega) only [RA, ↓reduceIte, Nat.reduceEqDiff, RD, RDS, RDD]
  refine l05At_spec (x := 0) hb hw hd (by omega) (wd_some hd ht (by omega)) (wd_len hd ht (by omega)) ?_
  simp (disch := omega) only [RA, ↓reduceIte, Nat.reduceEqDiff, RD]
  refine hKr _ _ ?_; clear hKr Kr; (try simp only [blkQ, thenQ, loopQ]); (try simp only [RN, reduceIte]); try refine T_e rfl ?_
  refine T_rseq fun Kr hKr => ?_; simp (disch := omega) only [RA, ↓reduceIte, Nat.reduceEqDiff, RD]; refine hKr _ _ ?_; clear hKr Kr; (try simp only [RN, reduceIte]); try refine T_e rfl ?_
  refine T_wloop (fun m f H' => ∃ k r, k + 1 ≤ n ∧ m = n - (k + 1) ∧ r = lwK b w k ∧ f 1 = P 0 0 ∧ f 4 = .string (bs r.1) ∧ f 5 = I r.2 ∧ f 6 = I ((k + 1 : Nat) : Int) ∧ H' = [some (DC n b w)]) (n - 1) ?_ ?_
  · refine ⟨_, _, Gh.refl, 0, (wd b w 0, 1), by omega, by omega, rfl, ?_, ?_, ?_, ?_, rfl⟩
    any_goals (simp (disch := omega) only [RA, ↓reduceIte, Nat.reduceEqDiff, RD, RE, *] <;> rfl)
  · rintro m f H' R ⟨k, r, hk, rfl, hr, g1, g4, g5, g6, rfl⟩ hN hX hR hE
    simp only [A_spec_l05Canonical.l0, T_aiff]
    have hr2 := @lwK_le b w k
    rw [← hr] at hr2
    refine T_rseq fun Kr hKr => ?_; simp (disch := omega) only [RA, ↓reduceIte, Nat.reduceEqDiff, RD, g1, g6, RDS]; refine hKr _ _ ?_; clear hKr Kr; (try simp only [RN, reduceIte]); try refine T_e rfl ?_
    refine T_csplit (p := k + 1 < n) (by simp only [RA, ↓reduceIte, Nat.reduceEqDiff] <;> rfl) (by (try simp only [RB]) <;> first | done | exact Iff.rfl | omega | simp) (fun hc => ?_) (fun hc => ?_) <;> (try simp only [RN, reduceIte]) <;> (try refine T_e rfl ?_)
    · have e1 : ((k + 1 : Nat) : Int) + 1 = ((k + 1 + 1 : Nat) : Int) := by omega
      have e2 : (r.2 : Int) + 1 = ((r.2 + 1 : Nat) : Int) := by omega
      have hnext : ∀ f' r', f' 1 = P 0 0 → f' 4 = .string (bs r'.1) → f' 5 = I r'.2 → f' 6 = I ((k + 1 : Nat) : Int) → r' = lwK b w (k + 1) → T 0 A_spec_l05Canonical.r4 R f' [some (DC n b w)] := by
        intro f' r' g1 g4 g5 g6 hr'
        refine T_reg_k fun Kr hKr => ?_; simp (disch := omega) only [RA, ↓reduceIte, Nat.reduceEqDiff, RD, g6, e1]; refine hKr _ _ ?_; clear hKr Kr
        refine hN (n - (k + 1 + 1)) _ _ _ _ (by omega) Gh.refl ⟨k + 1, r', by omega, rfl, hr', ?_, ?_, ?_, ?_, rfl⟩
        any_goals (simp (disch := omega) only [RA, ↓reduceIte, Nat.reduceEqDiff, RD, RE, *] <;> rfl)
      (first | refine T_bfree rfl ?_ | refine T_bfree' rfl ?_); (try simp only [RN, reduceIte]); try refine T_e rfl ?_
      refine T_rseq fun Kr hKr => ?_; simp (disch := omega) only [RA, ↓reduceIte, Nat.reduceEqDiff, RD, g1, g6, RDS, RDD]
      refine l05At_spec hb hw hd hc (wd_some hd ht hc) (wd_len hd ht hc) ?_
      simp (disch := omega) only [RA, ↓reduceIte, Nat.reduceEqDiff, RD]
      refine hKr _ _ ?_; clear hKr Kr; (try simp only [blkQ, thenQ, loopQ]); (try simp only [RN, reduceIte]); try refine T_e rfl ?_
      (first | refine T_bfree rfl ?_ | refine T_bfree' rfl ?_); (try simp only [RN, reduceIte]); try refine T_e rfl ?_
      refine T_rseq fun Kr hKr => ?_; simp (disch := omega) only [RA, ↓reduceIte, Nat.reduceEqDiff, RD, g4, sbin_eq]; refine hKr _ _ ?_; clear hKr Kr; (try simp only [RN, reduceIte]); try refine T_e rfl ?_
      cases he : eqS (wd b w (k + 1)) r.1 with
      | true =>
        refine T_cseq (t := true) (by simp (disch := omega) only [RA, ↓reduceIte, Nat.reduceEqDiff, RD, he]) ?_; (try simp only [RN, reduceIte]); try refine T_e rfl ?_
        refine T_rseq fun Kr hKr => ?_; simp (disch := omega) only [RA, ↓reduceIte, Nat.reduceEqDiff, RD, g5, e2]; refine hKr _ _ ?_; clear hKr Kr; (try simp only [RN, reduceIte]); try refine T_e rfl ?_
        refine hnext _ (r.1, r.2 + 1) ?_ ?_ ?_ ?_ ?_
        any_goals (simp (disch := omega) only [RA, ↓reduceIte, Nat.reduceEqDiff, RD, RE, *] <;> rfl)
        rw [lwK, ← hr, if_pos he]
      | false =>
        refine T_cseq (t := false) (by simp (disch := omega) only [RA, ↓reduceIte, Nat.reduceEqDiff, RD, he]) ?_; (try simp only [RN, reduceIte]); try refine T_e rfl ?_
        refine T_rseq fun Kr hKr => ?_; simp (disch := omega) only [RA, ↓reduceIte, Nat.reduceEqDiff, RD, g4, sbin_lt]; refine hKr _ _ ?_; clear hKr Kr; (try simp only [RN, reduceIte]); try refine T_e rfl ?_
        cases hl : ltS (wd b w (k + 1)) r.1 with
        | true =>
          refine T_cseq (t := true) (by simp (disch := omega) only [RA, ↓reduceIte, Nat.reduceEqDiff, RD, hl]) ?_; (try simp only [RN, reduceIte]); try refine T_e rfl ?_
          refine T_rseq fun Kr hKr => ?_; simp (disch := omega) only [RA, ↓reduceIte, Nat.reduceEqDiff, RD]; refine hKr _ _ ?_; clear hKr Kr; (try simp only [RN, reduceIte]); try refine T_e rfl ?_
          refine T_rseq fun Kr hKr => ?_; simp (disch := omega) only [RA, ↓reduceIte, Nat.reduceEqDiff, RD]; refine hKr _ _ ?_; clear hKr Kr; (try simp only [RN, reduceIte]); try refine T_e rfl ?_
          refine hnext _ (wd b w (k + 1), 1) ?_ ?_ ?_ ?_ ?_
          any_goals (simp (disch := omega) only [RA, ↓reduceIte, Nat.reduceEqDiff, RD, RE, *] <;> rfl)
          rw [lwK, ← hr, if_neg (by simp [he]), if_pos hl]
        | false =>
          refine T_cseq (t := false) (by simp (disch := omega) only [RA, ↓reduceIte, Nat.reduceEqDiff, RD, hl]) ?_; (try simp only [RN, reduceIte]); try refine T_e rfl ?_
          refine hnext _ r ?_ ?_ ?_ ?_ ?_
          any_goals (simp (disch := omega) only [RA, ↓reduceIte, Nat.reduceEqDiff, RD, RE, *] <;> rfl)
          rw [lwK, ← hr, if_neg (by simp [he]), if_neg (by simp [hl])]
    · refine hX _ _ ?_
      obtain rfl : k = n - 1 := by omega
      rw [← hr] at hK
      refine T_rseq fun Kr hKr => ?_; simp (disch := omega) only [RA, ↓reduceIte, Nat.reduceEqDiff, RD, g4, g5]; refine hKr _ _ ?_; clear hKr Kr; (try simp only [RN, reduceIte]); try refine T_e rfl ?_
      refine bodyQ_ret (by simp (disch := omega) only [RA, ↓reduceIte, Nat.reduceEqDiff, RD, resAll, resOf]; rfl) GhV.refl ?_; simp only [tup]
      exact ⟨nn_SI, hK⟩
theorem leastWord_spec {x : Bool} {n : Nat} {b w : List Nat} {H : BH} {K : Value → BH → Prop} (hb : By 16 b) (hw : By 16 w) (hd : Des n b w) (ht : Tree n b w)
    (hK : K (.tuple ⟨[.string (bs (lwK b w (n - 1)).1), I (lwK b w (n - 1)).2]⟩) H) : CallX x F_impl_leastWord [DV n b w] H K := by
  have hlb := hb.len
  have hlw := hw.len
  have hn := hd.1.1
  refine callP (.cons nn_D .nil) ?_
  refine CallX_body Γ_impl_leastWord ?_; simp only [A_impl_leastWord, T_aiff]
  refine T_rseq fun Kr hKr => ?_; simp (disch := omega) only [RA, ↓reduceIte, Nat.reduceEqDiff, RD, RDS]; refine hKr _ _ ?_; clear hKr Kr; (try simp only [RN, reduceIte]); try refine T_e rfl ?_
  refine T_rseq fun Kr hKr => ?_; simp (disch := omega) only [RA, ↓reduceIte, Nat.reduceEqDiff, RD, RDS, RDD]
  refine wordOfTree_spec (x := 0) hb hw hd (by omega) (wd_some hd ht (by omega)) (wd_len hd ht (by omega)) ?_
  simp (disch := omega) only [RA, ↓reduceIte, Nat.reduceEqDiff, RD]
  refine hKr _ _ ?_; clear hKr Kr; (try simp only [blkQ, thenQ, loopQ]); (try simp only [RN, reduceIte]); try refine T_e rfl ?_
  refine T_rseq fun Kr hKr => ?_; simp (disch := omega) only [RA, ↓reduceIte, Nat.reduceEqDiff, RD, RDS]; refine hKr _ _ ?_; clear hKr Kr; (try simp only [RN, reduceIte]); try refine T_e rfl ?_
  refine T_wloop (fun m f H' => ∃ k r, k ≤ n ∧ m = n - k ∧ (k = 0 ∧ r = (wd b w 0, 0) ∨ 0 < k ∧ r = lwK b w (k - 1)) ∧ f 1 = P 0 0 ∧ f 4 = .string (bs r.1) ∧ f 5 = I r.2 ∧ f 11 = I n ∧ f 12 = I k ∧ H' = [some (DC n b w)]) (n) ?_ ?_
  · refine ⟨_, _, Gh.refl, 0, (wd b w 0, 0), by omega, by omega, .inl ⟨rfl, rfl⟩, ?_, ?_, ?_, ?_, ?_, rfl⟩
    any_goals (simp (disch := omega) only [RA, ↓reduceIte, Nat.reduceEqDiff, RD, RE, *] <;> rfl)
  · rintro m f H' R ⟨k, r, hk, rfl, hr, g1, g4, g5, g11, g12, rfl⟩ hN hX hR hE
    simp only [A_impl_leastWord.l0, T_aiff]
    have hr2 : r.2 ≤ k := by
      rcases hr with ⟨rfl, rfl⟩ | ⟨h, rfl⟩
      · exact Nat.le_refl _
      · have := @lwK_le b w (k - 1)
        omega
    refine T_rseq fun Kr hKr => ?_; simp (disch := omega) only [RA, ↓reduceIte, Nat.reduceEqDiff, RD, g11, g12]; refine hKr _ _ ?_; clear hKr Kr; (try simp only [RN, reduceIte]); try refine T_e rfl ?_
    refine T_csplit (p := k < n) (by simp only [RA, ↓reduceIte, Nat.reduceEqDiff] <;> rfl) (by (try simp only [RB]) <;> first | done | exact Iff.rfl | omega | simp) (fun hc => ?_) (fun hc => ?_) <;> (try simp only [RN, reduceIte]) <;> (try refine T_e rfl ?_)
    · have e2 : (r.2 : Int) + 1 = ((r.2 + 1 : Nat) : Int) := by omega
      have hnext : ∀ f' r', f' 1 = P 0 0 → f' 4 = .string (bs r'.1) → f' 5 = I r'.2 → f' 11 = I n → f' 12 = I k → r' = lwK b w k → T 0 A_impl_leastWord.r10 R f' [some (DC n b w)] := by
        intro f' r' g1 g4 g5 g11 g12 hr'
        refine T_reg_k fun Kr hKr => ?_; simp (disch := omega) only [RA, ↓reduceIte, Nat.reduceEqDiff, RD, g12]; refine hKr _ _ ?_; clear hKr Kr
        refine hN (n - (k + 1)) _ _ _ _ (by omega) Gh.refl ⟨k + 1, r', by omega, rfl, .inr ⟨by omega, by rw [Nat.add_sub_cancel]; exact hr'⟩, ?_, ?_, ?_, ?_, ?_, rfl⟩
        any_goals (simp (disch := omega) only [RA, ↓reduceIte, Nat.reduceEqDiff, RD, RE, *] <;> rfl)
      have hstep : lwK b w k = if eqS (wd b w k) r.1 then (r.1, r.2 + 1) else if ltS (wd b w k) r.1 then (wd b w k, 1) else r := by
        rcases hr with ⟨rfl, rfl⟩ | ⟨h, rfl⟩
        · rw [if_pos (eqS_self _)]; rfl
        · obtain ⟨j, rfl⟩ : ∃ j, k = j + 1 := ⟨k - 1, by omega⟩
          rfl
      (first | refine T_bfree rfl ?_ | refine T_bfree' rfl ?_); (try simp only [RN, reduceIte]); try refine T_e rfl ?_
      refine T_rseq fun Kr hKr => ?_; simp (disch := omega) only [RA, ↓reduceIte, Nat.reduceEqDiff, RD, g12]; refine hKr _ _ ?_; clear hKr Kr; (try simp only [RN, reduceIte]); try refine T_e rfl ?_
      refine T_rseq fun Kr hKr => ?_; simp (disch := omega) only [RA, ↓reduceIte, Nat.reduceEqDiff, RD, g1, RDS, RDD]
      refine wordOfTree_spec hb hw hd hc (wd_some hd ht hc) (wd_len hd ht hc) ?_
      simp (disch := omega) only [RA, ↓reduceIte, Nat.reduceEqDiff, RD]
      refine hKr _ _ ?_; clear hKr Kr; (try simp only [blkQ, thenQ, loopQ]); (try simp only [RN, reduceIte]); try refine T_e rfl ?_
      (first | refine T_bfree rfl ?_ | refine T_bfree' rfl ?_); (try simp only [RN, reduceIte]); try refine T_e rfl ?_
      refine T_rseq fun Kr hKr => ?_; simp (disch := omega) only [RA, ↓reduceIte, Nat.reduceEqDiff, RD, g4, sbin_lt]; refine hKr _ _ ?_; clear hKr Kr; (try simp only [RN, reduceIte]); try refine T_e rfl ?_
      cases hl : ltS (wd b w k) r.1 with
      | true =>
        refine T_cseq (t := true) (by simp (disch := omega) only [RA, ↓reduceIte, Nat.reduceEqDiff, RD, hl]) ?_; (try simp only [RN, reduceIte]); try refine T_e rfl ?_
        refine T_rseq fun Kr hKr => ?_; simp (disch := omega) only [RA, ↓reduceIte, Nat.reduceEqDiff, RD]; refine hKr _ _ ?_; clear hKr Kr; (try simp only [RN, reduceIte]); try refine T_e rfl ?_
        refine hnext _ (wd b w k, 1) ?_ ?_ ?_ ?_ ?_ ?_
        any_goals (simp (disch := omega) only [RA, ↓reduceIte, Nat.reduceEqDiff, RD, RE, *] <;> rfl)
        rw [hstep, if_neg (by simp [lt_not_eq hl]), if_pos hl]
      | false =>
        refine T_cseq (t := false) (by simp (disch := omega) only [RA, ↓reduceIte, Nat.reduceEqDiff, RD, hl]) ?_; (try simp only [RN, reduceIte]); try refine T_e rfl ?_
        refine T_rseq fun Kr hKr => ?_; simp (disch := omega) only [RA, ↓reduceIte, Nat.reduceEqDiff, RD, g4, sbin_eq]; refine hKr _ _ ?_; clear hKr Kr; (try simp only [RN, reduceIte]); try refine T_e rfl ?_
        cases he : eqS (wd b w k) r.1 with
        | true =>
          refine T_cseq (t := true) (by simp (disch := omega) only [RA, ↓reduceIte, Nat.reduceEqDiff, RD, he]) ?_; (try simp only [RN, reduceIte]); try refine T_e rfl ?_
          refine T_rseq fun Kr hKr => ?_; simp (disch := omega) only [RA, ↓reduceIte, Nat.reduceEqDiff, RD, g5, e2]; refine hKr _ _ ?_; clear hKr Kr; (try simp only [RN, reduceIte]); try refine T_e rfl ?_
          refine hnext _ (r.1, r.2 + 1) ?_ ?_ ?_ ?_ ?_ ?_
          any_goals (simp (disch := omega) only [RA, ↓reduceIte, Nat.reduceEqDiff, RD, RE, *] <;> rfl)
          all_goals rw [hstep, if_pos he]
        | false =>
          refine T_cseq (t := false) (by simp (disch := omega) only [RA, ↓reduceIte, Nat.reduceEqDiff, RD, he]) ?_; (try simp only [RN, reduceIte]); try refine T_e rfl ?_
          refine hnext _ r ?_ ?_ ?_ ?_ ?_ ?_
          any_goals (simp (disch := omega) only [RA, ↓reduceIte, Nat.reduceEqDiff, RD, RE, *] <;> rfl)
          all_goals rw [hstep, if_neg (by simp [he]), if_neg (by simp [hl])]
    · refine hX _ _ ?_
      obtain rfl : k = n := by omega
      have hr' : r = lwK b w (k - 1) := by
        rcases hr with ⟨h, _⟩ | ⟨_, h⟩
        · omega
        · exact h
      rw [← hr'] at hK
      refine T_rseq fun Kr hKr => ?_; simp (disch := omega) only [RA, ↓reduceIte, Nat.reduceEqDiff, RD, g4, g5]; refine hKr _ _ ?_; clear hKr Kr; (try simp only [RN, reduceIte]); try refine T_e rfl ?_
      refine bodyQ_ret (by simp (disch := omega) only [RA, ↓reduceIte, Nat.reduceEqDiff, RD, resAll, resOf]; rfl) GhV.refl ?_; simp only [tup]
      exact ⟨nn_SI, hK⟩
end Go.Bm

/- Weights of trees: what both functions return; the sums that are left. -/
set_option linter.unusedVariables false
set_option linter.unusedSimpArgs false
namespace Go.Bm
open Go Go.Am

section
variable {n : Nat} {b w : List Nat}
def WOk (n : Nat) (b w : List Nat) (bl wh : List Int) : Prop :=
  (bl.length = (cyc b n).length ∧ wh.length = (cyc w n).length) ∧ (∀ i, i < bl.length → 1 ≤ el bl i ∧ el bl i ≤ 1000000000) ∧ (∀ i, i < wh.length → 1 ≤ el wh i ∧ el wh i ≤ 1000000000)
theorem at_app {a c : List Int} {i : Nat} : el (a ++ c) i = if i < a.length then el a i else el c (i - a.length) := by
  simp only [el, List.getD]
  split
  · rename_i h; rw [List.getElem?_append_left h]
  · rename_i h; rw [List.getElem?_append_right (by omega)]
theorem WOk.all {bl wh : List Int} (h : WOk n b w bl wh) : (bl ++ wh).length = (verts b w n).length ∧ ∀ v, v < (verts b w n).length → 1 ≤ el (bl ++ wh) v ∧ el (bl ++ wh) v ≤ 1000000000 := by
  obtain ⟨⟨h1, h2⟩, h3, h4⟩ := h
  have hl : (bl ++ wh).length = (verts b w n).length := by rw [verts, List.length_append, List.length_append, h1, h2]
  refine ⟨hl, fun v hv => ?_⟩
  rw [at_app]
  rw [List.length_append] at hl
  split
  · exact h3 v (by assumption)
  · exact h4 _ (by omega)
/-- What is left of the sums. -/
def lf (b w : List Nat) (n : Nat) (s o : List Int) : List Int := (List.range (verts b w n).length).map fun v => el s v - vsum o (vl b w n v)
theorem lf_at {s o : List Int} {v : Nat} (hv : v < (verts b w n).length) : el (lf b w n s o) v = el s v - vsum o (vl b w n v) := by
  simp [lf, el, List.getD, hv]
theorem el_rep {k i : Nat} : el (List.replicate k (0 : Int)) i = 0 := by
  simp only [el, List.getD, List.getElem?_replicate]
  split <;> rfl
theorem vsum_hi (hd : Des n b w) {s o : List Int} (hp : Part b w n s o) (M : Int) (hM : ∀ x, x < n → el o x ≤ M) {l : List Nat} (hl : ∀ x ∈ l, x < n) : vsum o l ≤ M * l.length := by
  induction l with
  | nil => simp [vsum]
  | cons a l ih =>
    have h1 := hM a (hl a (by simp))
    have h2 := ih fun x hx => hl x (by simp [hx])
    simp only [vsum, List.map_cons, List.sum_cons, List.length_cons] at h2 ⊢
    have e : M * ((l.length + 1 : Nat) : Int) = M * (l.length : Int) + M := by
      rw [Int.natCast_add, Int.mul_add]; simp
    rw [e]
    omega
theorem vsum_le (hd : Des n b w) {s o : List Int} (hp : Part b w n s o) {l : List Nat} (hl : ∀ x ∈ l, x < n) : 0 ≤ vsum o l := by
  induction l with
  | nil => simp [vsum]
  | cons a l ih =>
    have h1 := hp.nn a (hl a (by simp))
    have h2 := ih fun x hx => hl x (by simp [hx])
    simp only [vsum, List.map_cons, List.sum_cons] at h2 ⊢
    omega
/-- .. and none is too large. -/
def PM (b w : List Nat) (n : Nat) (s o : List Int) : Prop := Part b w n s o ∧ ∀ x, x < n → el o x ≤ 1000000000
theorem PM.zero {s : List Int} : PM b w n s (List.replicate n 0) := ⟨Part.zero, fun x _ => by rw [el_rep]; decide⟩
theorem PM.bd (hd : Des n b w) {s o : List Int} (h : PM b w n s o) (hs : ∀ v, v < (verts b w n).length → 1 ≤ el s v ∧ el s v ≤ 1000000000) {v : Nat} (hv : v < (verts b w n).length) :
    -16000000000 ≤ el (lf b w n s o) v ∧ el (lf b w n s o) v ≤ 1000000000 := by
  obtain ⟨h1, h2, h3⟩ := vl_len hd hv
  have hn := hd.1.1
  have h4 := vsum_le hd h.1 h3
  have h5 := vsum_hi hd h.1 1000000000 h.2 h3
  have h6 := hs v hv
  rw [lf_at hv]
  have : (1000000000 : Int) * ((vl b w n v).length : Int) ≤ 1000000000 * 16 := Int.mul_le_mul_of_nonneg_left (by omega) (by decide)
  omega
theorem PM.set (hd : Des n b w) {s o : List Int} (h : PM b w n s o) (hs : ∀ v, v < (verts b w n).length → 1 ≤ el s v ∧ el s v ≤ 1000000000) {v x : Nat} (hv : v < (verts b w n).length) (hx : opens o (vl b w n v) = [x])
    (hr : 1 ≤ el (lf b w n s o) v) : PM b w n s (o.set x (el (lf b w n s o) v)) ∧ left (o.set x (el (lf b w n s o) v)) n < left o n := by
  have hb := (h.bd hd hs hv).2
  have hxo := mem_opens.1 (show x ∈ opens o (vl b w n v) by rw [hx]; simp)
  have hxn := (vl_len hd hv).2.2 x hxo.1
  rw [lf_at hv] at hr hb ⊢
  rw [vl_eq hv] at hx hr hb ⊢
  refine ⟨⟨h.1.set hd hv hx hr, fun y hy => ?_⟩, ?_⟩
  · rw [at_set (by rw [h.1.len]; exact hxn)]
    split
    · exact hb
    · exact h.2 y hy
  · have := left_set (r := el s v - vsum o (verts b w n)[v]) h.1.len hxn hxo.2 (by omega)
    omega
end
end Go.Bm

/- Weights of trees: the program's walk. -/
set_option linter.unusedVariables false
set_option linter.unusedSimpArgs false
namespace Go.Bm
open Go Go.Am

section
variable {n : Nat} {b w : List Nat}
end
end Go.Bm

/- Weights of trees: the reference's walk. -/
set_option linter.unusedVariables false
set_option linter.unusedSimpArgs false
namespace Go.Bm
open Go Go.Am

def NumsP (xs : List Int) (k : Nat) : Prop := (∀ i, i < xs.length → 1 ≤ el xs i ∧ el xs i ≤ 1000000000) ∧ xs.length = k
instance (xs : List Int) (k : Nat) : Decidable (NumsP xs k) := by unfold NumsP; infer_instance
section
variable {n : Nat} {b w : List Nat}
end
end Go.Bm

/- Slices of slices in laws; sums and types of lists; passports. -/
set_option linter.unusedVariables false
set_option linter.unusedSimpArgs false
namespace Go.Bm
open Go Go.Am

def cpI (xs : List Int) : Nat → List Int
  | 0 => List.replicate xs.length 0
  | k + 1 => (cpI xs k).set k (el xs k)
theorem cpI_len {xs : List Int} {k : Nat} : (cpI xs k).length = xs.length := by
  induction k with
  | zero => simp [cpI]
  | succ k ih => simp [cpI, ih]
theorem cpI_el {xs : List Int} {k i : Nat} (hi : i < xs.length) (hk : i < k) : el (cpI xs k) i = el xs i := by
  induction k with
  | zero => omega
  | succ k ih =>
    rw [cpI, el_set, cpI_len]
    by_cases e : i = k
    · subst e; rw [if_pos ⟨rfl, hi⟩]
    · rw [if_neg (fun h => e h.1), ih (by omega)]
theorem cpI_all {xs : List Int} : cpI xs xs.length = xs := by
  apply List.ext_getElem cpI_len
  intro i h1 h2
  have := cpI_el (k := xs.length) h2 h2
  simpa [el, List.getD, h1, h2] using this
theorem toInt64S_run {xs : List Int} (hl : xs.length ≤ 1048576) : CallX false F_laws_toInt64S [FI xs] [] fun v H1 => ∃ j, v = S j 0 xs.length 1 ∧ blk H1 j = some (xs.map I) := by
  refine CallX_body Γ_laws_toInt64S ?_; simp only [A_laws_toInt64S, T_aiff]
  refine T_rseq fun Kr hKr => ?_; simp (disch := omega) only [RA, ↓reduceIte, Nat.reduceEqDiff, RD]; refine hKr _ _ ?_; clear hKr Kr; (try simp only [RN, reduceIte]); try refine T_e rfl ?_
  refine T_rseq fun Kr hKr => ?_; simp (disch := omega) only [RA, ↓reduceIte, Nat.reduceEqDiff, RD]; refine hKr _ _ ?_; clear hKr Kr; (try simp only [RN, reduceIte]); try refine T_e rfl ?_
  refine T_rseq fun Kr hKr => ?_; simp (disch := omega) only [RA, ↓reduceIte, Nat.reduceEqDiff, RD]; refine hKr _ _ ?_; clear hKr Kr; (try simp only [RN, reduceIte]); try refine T_e rfl ?_
  refine T_wloop (fun m f H' => ∃ i, i ≤ xs.length ∧ m = xs.length - i ∧ f 0 = FI xs ∧ f 3 = S 0 0 xs.length 1 ∧ f 4 = I i ∧ H' = [some ((cpI xs i).map I)]) (xs.length) ?_ ?_
  · refine ⟨_, _, Gh.refl, 0, by omega, by omega, ?_, ?_, ?_, by simp [cpI]⟩
    any_goals (simp (disch := omega) only [RA, ↓reduceIte, Nat.reduceEqDiff, RD, RE, *] <;> rfl)
  · rintro m f H' R ⟨i, hi, rfl, g0, g3, g4, rfl⟩ hN hX hR hE
    simp only [A_laws_toInt64S.l0, T_aiff]
    have hcl := @cpI_len xs i
    refine T_rseq fun Kr hKr => ?_; simp (disch := omega) only [RA, ↓reduceIte, Nat.reduceEqDiff, RD, g0, g4]; refine hKr _ _ ?_; clear hKr Kr; (try simp only [RN, reduceIte]); try refine T_e rfl ?_
    refine T_csplit (p := i < xs.length) (by simp only [RA, ↓reduceIte, Nat.reduceEqDiff] <;> rfl) (by (try simp only [RB]) <;> first | done | exact Iff.rfl | omega | simp) (fun hc => ?_) (fun hc => ?_) <;> (try simp only [RN, reduceIte]) <;> (try refine T_e rfl ?_)
    · (first | refine T_bfree rfl ?_ | refine T_bfree' rfl ?_); (try simp only [RN, reduceIte]); try refine T_e rfl ?_
      refine T_rseq fun Kr hKr => ?_; simp (disch := omega) only [RA, ↓reduceIte, Nat.reduceEqDiff, RD, g0, g3, g4, hcl]; refine hKr _ _ ?_; clear hKr Kr; (try simp only [RN, reduceIte]); try refine T_e rfl ?_
      refine T_reg_k fun Kr hKr => ?_; simp (disch := omega) only [RA, ↓reduceIte, Nat.reduceEqDiff, RD, g4]; refine hKr _ _ ?_; clear hKr Kr
      refine hN (xs.length - (i + 1)) _ _ _ _ (by omega) Gh.refl ⟨i + 1, by omega, rfl, ?_, ?_, ?_, rfl⟩
      any_goals (simp (disch := omega) only [RA, ↓reduceIte, Nat.reduceEqDiff, RD, RE, *] <;> rfl)
    · refine hX _ _ ?_
      obtain rfl : i = xs.length := by omega
      refine T_rseq fun Kr hKr => ?_; simp (disch := omega) only [RA, ↓reduceIte, Nat.reduceEqDiff, RD, g3]; refine hKr _ _ ?_; clear hKr Kr; (try simp only [RN, reduceIte]); try refine T_e rfl ?_
      refine bodyQ_ret (by simp (disch := omega) only [RA, ↓reduceIte, Nat.reduceEqDiff, RD, resAll, resOf, g3]; rfl) GhV.refl ?_; simp only [tup]
      rw [cpI_all]
      exact ⟨0, rfl, rfl⟩
theorem toInt64S_spec {x : Bool} {xs : List Int} {H : BH} {K : Value → BH → Prop} (hl : xs.length ≤ 1048576) (hK : K (FI xs) H) : CallX x F_laws_toInt64S [FI xs] H K :=
  callRZ (.cons .fz .nil) NNL_I (by simp) (toInt64S_run hl) hK
end Go.Bm

/- Weights of trees: the calls of both functions. -/
set_option linter.unusedVariables false
set_option linter.unusedSimpArgs false
namespace Go.Bm
open Go Go.Am

theorem allI {xs : List Int} : (xs.map I).all Am.plain = true := by simp [Am.plain]
theorem toInt64S_own {x : Bool} {xs : List Int} {H : BH} {K : Value → BH → Prop} (hl : xs.length ≤ 1048576) (hK : K (S H.length 0 xs.length 1) (H ++ [some (xs.map I)])) : CallX x F_laws_toInt64S [FI xs] H K :=
  callRO (.cons .fz .nil) NNL_I (toInt64S_run hl) hK
end Go.Bm

/- Trees from words (plain). -/
set_option linter.unusedVariables false
set_option linter.unusedSimpArgs false
set_option linter.unusedSectionVars false
namespace Go.Bm
open Go Go.Am

/-! ### Words of brackets -/
def dep (s : List UInt8) : Int := (s.countP fun c => c.toNat == 40 : Nat) - (s.countP fun c => c.toNat == 41 : Nat)
def WdP (s : List UInt8) : Prop := (2 ≤ s.length ∧ s.length ≤ 32) ∧ (∀ c ∈ s, c.toNat = 40 ∨ c.toNat = 41) ∧ (∀ i, i ≤ s.length → 0 ≤ dep (s.take i)) ∧ dep s = 0
instance (s : List UInt8) : Decidable (WdP s) := by unfold WdP; infer_instance
theorem dep_snoc {s : List UInt8} {c : UInt8} : dep (s ++ [c]) = dep s + (if c.toNat = 40 then 1 else if c.toNat = 41 then -1 else 0) := by
  simp only [dep, List.countP_append, List.countP_singleton, beq_iff_eq]
  split
  · rename_i h; rw [if_neg (by omega)]; omega
  · split <;> omega
theorem dep_take {s : List UInt8} {i : Nat} (h : i < s.length) : dep (s.take (i + 1)) = dep (s.take i) + (if s[i].toNat = 40 then 1 else if s[i].toNat = 41 then -1 else 0) := by
  rw [List.take_add_one, List.getElem?_eq_getElem h, Option.toList_some, dep_snoc]
/-! ### Vertices on the way -/
def ch : List Nat → List Nat → List Nat
  | p, x :: y :: r => ch (p.set x y) (y :: r)
  | p, _ => p
def cycL (p e : List Nat) : List Nat := if e = [] then p else (ch p e).set (e.getLastD 0) (e.headD 0)
theorem ch_snoc : ∀ {e p : List Nat} {y : Nat}, e ≠ [] → ch p (e ++ [y]) = (ch p e).set (e.getLastD 0) y
  | [x], p, y, _ => rfl
  | x :: z :: r, p, y, _ => by
    have := ch_snoc (e := z :: r) (p := p.set x z) (y := y) (by simp)
    simpa [ch, List.getLastD] using this
theorem ch_len : ∀ {e p : List Nat}, (ch p e).length = p.length
  | [], p => rfl
  | [x], p => rfl
  | x :: z :: r, p => by
    have := ch_len (e := z :: r) (p := p.set x z)
    simpa [ch] using this
theorem ch_set {i a : Nat} : ∀ {e p : List Nat}, i ∉ e → ch (p.set i a) e = (ch p e).set i a
  | [], p, _ => rfl
  | [x], p, _ => rfl
  | x :: z :: r, p, h => by
    simp only [List.mem_cons, not_or] at h
    rw [ch, ch, List.set_comm _ _ h.1, ch_set (by simp only [List.mem_cons, not_or]; exact h.2)]
def chs (p : List Nat) : List (List Nat) → List Nat
  | [] => p
  | e :: es => ch (chs p es) e
theorem chs_len {p : List Nat} : ∀ {es : List (List Nat)}, (chs p es).length = p.length
  | [] => rfl
  | e :: es => by rw [chs, ch_len, chs_len]
theorem chs_set {i a : Nat} {p : List Nat} : ∀ {es : List (List Nat)}, i ∉ es.flatten → chs (p.set i a) es = (chs p es).set i a
  | [], _ => rfl
  | e :: es, h => by
    rw [List.flatten_cons, List.mem_append, not_or] at h
    rw [chs, chs_set h.2, ch_set h.1, chs]
theorem chs_ch {es : List (List Nat)} : ∀ {e p : List Nat}, (∀ x ∈ e, x ∉ es.flatten) → chs (ch p e) es = ch (chs p es) e
  | [], p, _ => rfl
  | [x], p, _ => rfl
  | x :: z :: r, p, h => by
    rw [ch, ch, chs_ch (e := z :: r) fun y hy => h y (by simp [List.mem_cons.1 hy]), chs_set (h x (by simp))]
theorem last_mem {e : List Nat} (h : e ≠ []) : e.getLastD 0 ∈ e := by
  rw [List.getLastD_eq_getLast?, List.getLast?_eq_some_getLast h]
  exact List.getLast_mem h
theorem head_mem {e : List Nat} (h : e ≠ []) : e.headD 0 ∈ e := by
  cases e with
  | nil => exact absurd rfl h
  | cons a l => simp
theorem chs_cyc {es : List (List Nat)} {e p : List Nat} (hn : e ≠ []) (h : ∀ x ∈ e, x ∉ es.flatten) : chs (cycL p e) es = (ch (chs p es) e).set (e.getLastD 0) (e.headD 0) := by
  rw [cycL, if_neg hn, chs_set (h _ (last_mem hn)), chs_ch h]
/-- The lists of one colour. -/
def lvl (c : Nat) : List (List Nat) → List (List Nat)
  | [] => []
  | e :: r => if r.length % 2 = c then e :: lvl c r else lvl c r
theorem lvl_mem {c : Nat} {e : List Nat} : ∀ {r : List (List Nat)}, e ∈ lvl c r → e ∈ r
  | [], h => h
  | a :: r, h => by
    rw [lvl] at h
    split at h
    · rcases List.mem_cons.1 h with h | h
      · simp [h]
      · exact List.mem_cons_of_mem _ (lvl_mem h)
    · exact List.mem_cons_of_mem _ (lvl_mem h)
structure MS where
  ways : List (List Nat)
  next : Nat
  b : List Nat
  w : List Nat
def ms0 : MS := ⟨[[]], 0, List.replicate 16 0, List.replicate 16 0⟩
def stp (s : MS) (c : UInt8) : MS :=
  match s.ways with
  | [] => s
  | e :: r => if c.toNat = 40 then ⟨[s.next] :: (e ++ [s.next]) :: r, s.next + 1, s.b, s.w⟩
    else if r.length % 2 = 1 then ⟨r, s.next, s.b, cycL s.w e⟩ else ⟨r, s.next, cycL s.b e, s.w⟩
def runW (s : List UInt8) : MS := s.foldl stp ms0
theorem runW_take {s : List UInt8} {i : Nat} (h : i < s.length) : runW (s.take (i + 1)) = stp (runW (s.take i)) s[i] := by
  rw [List.take_add_one, List.getElem?_eq_getElem h, Option.toList_some, runW, List.foldl_append]
  rfl
structure MOk (m : Nat) (s : MS) : Prop where
  ne : (s.next = 0 ∧ s.ways = [[]]) ∨ (0 < s.next ∧ s.ways ≠ [] ∧ ∀ e ∈ s.ways, e ≠ [])
  lt : ∀ e ∈ s.ways, ∀ x ∈ e, x < s.next
  nod : ∀ c, (lvl c s.ways).flatten.Nodup
  bb : By 16 s.b
  bw : By 16 s.w
theorem By.ch {e : List Nat} : ∀ {p : List Nat}, By 16 p → (∀ x ∈ e, x < 256) → By 16 (ch p e) := by
  induction e with
  | nil => intro p h _; exact h
  | cons x e ih =>
    intro p h hl
    cases e with
    | nil => exact h
    | cons y r => exact ih (h.set (hl y (by simp))) fun z hz => hl z (List.mem_cons_of_mem _ hz)
theorem By.cycL {p e : List Nat} (h : By 16 p) (hl : ∀ x ∈ e, x < 256) : By 16 (cycL p e) := by
  unfold Bm.cycL
  split
  · exact h
  · rename_i hn
    exact (h.ch hl).set (hl _ (head_mem hn))
theorem MOk.z : MOk 0 ms0 := ⟨.inl ⟨rfl, rfl⟩, by simp [ms0], fun c => by
  have : (lvl c ms0.ways).flatten = [] := by
    simp only [ms0, lvl]
    split <;> rfl
  rw [this]; simp, By.rep, By.rep⟩
theorem lvl_lt {c n : Nat} {r : List (List Nat)} (h : ∀ e ∈ r, ∀ x ∈ e, x < n) : ∀ x ∈ (lvl c r).flatten, x < n := by
  intro x hx
  obtain ⟨e, he, hxe⟩ := List.mem_flatten.1 hx
  exact h e (lvl_mem he) x hxe
theorem nod_snoc {l t : List Nat} {n : Nat} (h : (l ++ t).Nodup) (hn : n ∉ l ++ t) : ((l ++ [n]) ++ t).Nodup := by
  have : ((l ++ [n]) ++ t).Perm (n :: (l ++ t)) := by
    rw [List.append_assoc, List.singleton_append]
    exact List.perm_middle
  exact this.nodup_iff.2 (List.nodup_cons.2 ⟨hn, h⟩)
theorem MOk.open {s : MS} {e : List Nat} {r : List (List Nat)} (h : MOk 0 s) (hw : s.ways = e :: r) : MOk 0 ⟨[s.next] :: (e ++ [s.next]) :: r, s.next + 1, s.b, s.w⟩ := by
  have hlt := h.lt
  have hnod := h.nod
  rw [hw] at hlt hnod
  refine ⟨.inr ⟨by simp, by simp, fun a ha => ?_⟩, fun a ha x hx => ?_, fun c => ?_, h.bb, h.bw⟩
  · simp only [List.mem_cons] at ha
    rcases ha with rfl | rfl | ha
    · simp
    · simp
    · have := h.ne
      rw [hw] at this
      rcases this with ⟨_, q⟩ | ⟨_, _, q⟩
      · cases q; cases ha
      · exact q a (by simp [ha])
  · show x < s.next + 1
    simp only [List.mem_cons] at ha
    rcases ha with rfl | rfl | ha
    · simp at hx; omega
    · rcases List.mem_append.1 hx with hx | hx
      · have := hlt e (by simp) x hx; omega
      · simp at hx; omega
    · have := hlt a (by simp [ha]) x hx; omega
  · have hf := lvl_lt (c := c) hlt
    have hfr := fun x hx => lvl_lt (c := c) (r := r) (n := s.next) (fun e he => hlt e (by simp [he])) x hx
    have h1 := hnod c
    simp only [lvl] at h1 hf ⊢
    by_cases hc : r.length % 2 = c
    · rw [if_pos hc] at h1 hf
      rw [if_pos hc, List.length_cons, if_neg (by omega)]
      rw [List.flatten_cons] at h1 hf ⊢
      exact nod_snoc h1 fun q => absurd (hf _ q) (by omega)
    · rw [if_neg hc] at h1
      rw [if_neg hc]
      split
      · rw [List.flatten_cons, List.singleton_append, List.nodup_cons]
        exact ⟨fun q => absurd (hfr _ q) (by omega), h1⟩
      · exact h1
theorem lvl_tail {c : Nat} {e : List Nat} {r : List (List Nat)} (h : (lvl c (e :: r)).flatten.Nodup) : (lvl c r).flatten.Nodup ∧ (r.length % 2 = c → ∀ x ∈ e, x ∉ (lvl c r).flatten) := by
  rw [lvl] at h
  split at h
  · rw [List.flatten_cons, List.nodup_append] at h
    exact ⟨h.2.1, fun _ x hx hy => h.2.2 x hx x hy rfl⟩
  · rename_i hc
    exact ⟨h, fun q => absurd q hc⟩
theorem MOk.close {s : MS} {e : List Nat} {r : List (List Nat)} {b w : List Nat} (h : MOk 0 s) (hw : s.ways = e :: r) (hr : r ≠ []) (hb : By 16 b) (hw' : By 16 w) : MOk 0 ⟨r, s.next, b, w⟩ := by
  have hlt := h.lt
  have hnod := h.nod
  rw [hw] at hlt hnod
  refine ⟨?_, fun a ha => hlt a (by simp [ha]), fun c => (lvl_tail (hnod c)).1, hb, hw'⟩
  have := h.ne
  rw [hw] at this
  rcases this with ⟨_, q⟩ | ⟨q1, _, q⟩
  · cases q; exact absurd rfl hr
  · exact .inr ⟨q1, hr, fun a ha => q a (by simp [ha])⟩
/-- All states of a word. -/
theorem runW_ok {s : List UInt8} (h : WdP s) : ∀ i, i ≤ s.length → MOk 0 (runW (s.take i)) ∧ ((runW (s.take i)).ways.length : Int) = dep (s.take i) + 1 ∧ (runW (s.take i)).next = (s.take i).countP (fun c => c.toNat == 40)
  | 0, _ => ⟨MOk.z, rfl, rfl⟩
  | i + 1, hi => by
    obtain ⟨h1, h2, h3⟩ := runW_ok h i (by omega)
    have hd := h.2.2.1 (i + 1) hi
    rw [dep_take (by omega)] at hd ⊢
    have hn : (s.take (i + 1)).countP (fun c => c.toNat == 40) = (s.take i).countP (fun c => c.toNat == 40) + (if s[i].toNat = 40 then 1 else 0) := by
      rw [List.take_add_one, List.getElem?_eq_getElem (by omega), Option.toList_some, List.countP_append, List.countP_singleton]
      simp only [beq_iff_eq]
    rw [hn, runW_take (by omega), stp]
    cases hw : (runW (s.take i)).ways with
    | nil =>
      have := h.2.2.1 i (by omega)
      rw [hw] at h2
      simp at h2
      omega
    | cons e r =>
      rw [hw, List.length_cons] at h2
      simp only
      by_cases hc : s[i].toNat = 40
      · simp only [if_pos hc] at hd ⊢
        refine ⟨h1.open hw, ?_, ?_⟩
        · simp only [List.length_cons]; omega
        · omega
      · have hc' : s[i].toNat = 41 := (h.2.1 _ (List.getElem_mem _)).resolve_left hc
        simp only [if_neg hc, if_pos hc'] at hd ⊢
        have hr : r ≠ [] := by
          rintro rfl
          simp at h2
          omega
        have hlt := h1.lt
        rw [hw] at hlt
        have hn16 : (runW (s.take i)).next ≤ 32 := by
          rw [h3]
          have := List.countP_le_length (p := fun c : UInt8 => c.toNat == 40) (l := s.take i)
          rw [List.length_take] at this
          have := h.1.2
          omega
        have he : ∀ x ∈ e, x < 256 := fun x hx => by have := hlt e (by simp) x hx; omega
        split
        · exact ⟨h1.close hw hr h1.bb (h1.bw.cycL he), by show (r.length : Int) = _; omega, by omega⟩
        · exact ⟨h1.close hw hr (h1.bb.cycL he) h1.bw, by show (r.length : Int) = _; omega, by omega⟩
theorem next_le {s : List UInt8} (h : WdP s) (i : Nat) (hi : i ≤ s.length) : (runW (s.take i)).next ≤ s.length / 2 := by
  rw [(runW_ok h i hi).2.2]
  have h1 := h.2.2.2
  have h2 : s.countP (fun c => c.toNat == 40) + s.countP (fun c => c.toNat == 41) ≤ s.length := by
    clear h1 h hi
    induction s with
    | nil => simp
    | cons a l ih =>
      simp only [List.countP_cons, List.length_cons, beq_iff_eq]
      split <;> split <;> omega
  have h3 : (s.take i).countP (fun c => c.toNat == 40) ≤ s.countP (fun c => c.toNat == 40) := (List.take_sublist i s).countP_le
  unfold dep at h1
  omega
/-! ### The reference's stacks -/
def skT (e : List Nat) (r : List (List Nat)) : Int := if r = [] then -1 else (e.headD 0 : Nat)
def laT (e : List Nat) (r : List (List Nat)) : Int := if r = [] then (if e = [] then -1 else (e.getLastD 0 : Nat)) else if e.length ≤ 1 then -1 else (e.getLastD 0 : Nat)
def sk : List (List Nat) → List Int
  | [] => []
  | e :: r => sk r ++ [skT e r]
def la : List (List Nat) → List Int
  | [] => []
  | e :: r => la r ++ [laT e r]
theorem sk_len : ∀ {r : List (List Nat)}, (sk r).length = r.length
  | [] => rfl
  | e :: r => by rw [sk, List.length_append, sk_len]; rfl
theorem la_len : ∀ {r : List (List Nat)}, (la r).length = r.length
  | [] => rfl
  | e :: r => by rw [la, List.length_append, la_len]; rfl
theorem chs_open {c n : Nat} {p e : List Nat} {r : List (List Nat)} : chs p (lvl c ([n] :: (e ++ [n]) :: r)) = if r.length % 2 = c ∧ e ≠ [] then (chs p (lvl c (e :: r))).set (e.getLastD 0) n else chs p (lvl c (e :: r)) := by
  have h1 : ∀ q : List Nat, ch q [n] = q := fun q => rfl
  by_cases hc : r.length % 2 = c
  · have e1 : lvl c ([n] :: (e ++ [n]) :: r) = (e ++ [n]) :: lvl c r := by rw [lvl, List.length_cons, if_neg (by omega), lvl, if_pos hc]
    have e2 : lvl c (e :: r) = e :: lvl c r := by rw [lvl, if_pos hc]
    rw [e1, e2, chs, chs]
    by_cases he : e = []
    · subst he
      rw [if_neg (by simp)]
      rfl
    · rw [if_pos ⟨hc, he⟩, ch_snoc he]
  · have e2 : lvl c (e :: r) = lvl c r := by rw [lvl, if_neg hc]
    rw [if_neg (fun h => hc h.1), e2, lvl, List.length_cons, lvl, if_neg hc]
    split
    · rw [chs, h1]
    · rfl
theorem chs_close {c : Nat} {p e : List Nat} {r : List (List Nat)} (hn : (lvl c (e :: r)).flatten.Nodup) (he : e ≠ []) :
    chs (if r.length % 2 = c then cycL p e else p) (lvl c r) = if r.length % 2 = c then (chs p (lvl c (e :: r))).set (e.getLastD 0) (e.headD 0) else chs p (lvl c (e :: r)) := by
  obtain ⟨_, h2⟩ := lvl_tail hn
  by_cases hc : r.length % 2 = c
  · rw [if_pos hc, if_pos hc, chs_cyc he (h2 hc), lvl, if_pos hc, chs]
  · rw [if_neg hc, if_neg hc, lvl, if_neg hc]
theorem sk_open {n : Nat} {e : List Nat} {r : List (List Nat)} (h : r ≠ [] → e ≠ []) : sk ([n] :: (e ++ [n]) :: r) = sk (e :: r) ++ [(n : Int)] := by
  have : skT (e ++ [n]) r = skT e r := by
    unfold skT
    split
    · rfl
    · rename_i hr
      cases e with
      | nil => exact absurd rfl (h hr)
      | cons a l => rfl
  rw [sk, sk, this, sk]
  rfl
theorem la_open {n : Nat} {e : List Nat} {r : List (List Nat)} (h : r ≠ [] → e ≠ []) : la ([n] :: (e ++ [n]) :: r) = (la (e :: r)).set r.length (n : Int) ++ [-1] := by
  have h1 : laT (e ++ [n]) r = n := by
    have hl : (e ++ [n]).getLastD 0 = n := by simp [List.getLastD_eq_getLast?]
    unfold laT
    rw [hl]
    split
    · rw [if_neg (by simp)]
    · rename_i hr
      have := List.length_pos_iff.2 (h hr)
      rw [if_neg (by rw [List.length_append, List.length_singleton]; omega)]
  have h2 : laT [n] ((e ++ [n]) :: r) = -1 := by simp [laT]
  rw [la, la, h1, h2, la, List.set_append_right _ _ (by rw [la_len]; omega), la_len, Nat.sub_self]
  rfl
theorem la_top {e : List Nat} {r : List (List Nat)} : (la (e :: r))[r.length]? = some (laT e r) ∧ (sk (e :: r))[r.length]? = some (skT e r) := by
  rw [la, sk, List.getElem?_append_right (by rw [la_len]; omega), List.getElem?_append_right (by rw [sk_len]; omega), la_len, sk_len, Nat.sub_self]
  exact ⟨rfl, rfl⟩
theorem from_eq {e : List Nat} {r : List (List Nat)} (h : r ≠ [] → e ≠ []) : (if laT e r < 0 then skT e r else laT e r) = if e = [] then (-1 : Int) else ((e.getLastD 0 : Nat) : Int) := by
  unfold laT skT
  by_cases hr : r = []
  · rw [if_pos hr, if_pos hr]
    split <;> split <;> omega
  · have he := h hr
    rw [if_neg hr, if_neg hr, if_neg he]
    split
    · rename_i hl
      rw [if_pos (by omega)]
      match e, he, hl with
      | [a], _, _ => rfl
    · rw [if_neg (by omega)]
theorem skT_close {e : List Nat} {r : List (List Nat)} (hr : r ≠ []) : skT e r = (e.headD 0 : Nat) := by rw [skT, if_neg hr]
end Go.Bm

