/- DpTj, DpTd, DpTk, DpTe, DpTl -/
import Derived.Test.YthjjfdiofpdknaaDpG4
/- The farthest vertex: the reference's walk. -/
set_option linter.unusedVariables false
set_option linter.unusedSimpArgs false
namespace Go.Bm
open Go Go.Am

section
variable {n : Nat} {b w : List Nat}
/-- One comes back within n steps. -/
theorem it_back2 {p : List Nat} (hp : Perm p n) {x : Nat} (hx : x < n) : ∃ P, P < n ∧ it p x P = x := by
  obtain ⟨c, hc, hxc⟩ := cyc_at hp hx
  have hi := cyc_is hp hc
  have hl := nodup_le hi.nod hi.lt
  obtain ⟨j, hj, rfl⟩ := mem_nl hxc
  refine ⟨c.length - 1, by omega, ?_⟩
  rw [it_cyc hi hj, show j + 1 + (c.length - 1) = j + c.length by omega, Nat.add_mod_right, Nat.mod_eq_of_lt hj]
theorem it_all {p : List Nat} (hp : Perm p n) {x z : Nat} (hx : x < n) (hz : z < n) (h : vix p n z = vix p n x) : ∃ i, it p x i = z := by
  have hi := cyc_is hp (List.getElem_mem (vix_lt hp hx))
  have h1 := vix_mem hp hx
  have h2 := vix_mem hp hz
  simp only [h] at h2
  obtain ⟨j, hj, e1⟩ := mem_nl h1
  obtain ⟨m, hm, e2⟩ := mem_nl h2
  generalize (cyc p n)[vix p n x]'(vix_lt hp hx) = c at *
  refine ⟨m + c.length - (j + 1), ?_⟩
  rw [← e1, it_cyc hi hj, show j + 1 + (m + c.length - (j + 1)) = m + c.length by omega, Nat.add_mod_right, Nat.mod_eq_of_lt hm, e2]
theorem it_per {p : List Nat} {x P : Nat} (h : it p x P = x) : ∀ i, ∃ j, j ≤ P ∧ it p x i = it p x j
  | 0 => ⟨0, by omega, rfl⟩
  | i + 1 => by
    obtain ⟨j, hj, e⟩ := it_per h i
    by_cases hjP : j = P
    · refine ⟨0, by omega, ?_⟩
      show nl p (it p x i) = nl p x
      rw [e, hjP, h]
    · exact ⟨j + 1, by omega, by rw [it, e]; rfl⟩
theorem it_vix {p : List Nat} (hp : Perm p n) {x : Nat} (hx : x < n) : ∀ i, vix p n (it p x i) = vix p n x
  | 0 => vix_step hp hx
  | i + 1 => by rw [it, vix_step hp (it_lt hp hx i), it_vix hp hx i]
def its (p : List Nat) (x k : Nat) : List Nat := (List.range k).map (it p x)
theorem its_succ {p : List Nat} {x k : Nat} : its p x (k + 1) = its p x k ++ [it p x k] := by simp [its, List.range_succ]
theorem mem_its {p : List Nat} {x k z : Nat} : z ∈ its p x k ↔ ∃ i, i < k ∧ it p x i = z := by simp [its]
theorem ends_pc (hd : Des n b w) {c : Bool} {x y : Nat} : ends b w n c x = ends b w n c y ↔ vix (pc b w c) n x = vix (pc b w c) n y := by
  cases c <;> simp [ends, pc]
/-- All that has been seen when one is back. -/
theorem its_done (hd : Des n b w) {c : Bool} {x k : Nat} (hx : x < n) (h : it (pc b w c) x k = x) {y : Nat} (hy : y ∈ vl b w n (ends b w n c x)) : y ∈ its (pc b w c) x (k + 1) := by
  have hp : Perm (pc b w c) n := by cases c; exact hd.1; exact hd.2.1
  obtain ⟨h1, h2⟩ := (vl_ends hd hx).1 hy
  obtain ⟨i, hi⟩ := it_all hp hx h1 ((ends_pc hd).1 h2)
  obtain ⟨j, hj, e⟩ := it_per h i
  exact mem_its.2 ⟨j, by omega, by rw [← e, hi]⟩
theorem BP.sub {c : Bool} {cm : Int} {v : Nat} {L L' e s : List Nat} (h : BP b w n c cm v L e s) (h1 : ∀ y ∈ L, y ∈ L') (h2 : ∀ y ∈ L', y ∈ L ∨ (y : Int) = cm) : BP b w n c cm v L' e s := by
  rcases h with ⟨k1, k2, k3⟩ | ⟨y', l', k1, k2, k3, k4, k5, k6⟩
  · refine .inl ⟨k1, k2, fun y hy => ?_⟩
    rcases h2 y hy with h | h
    · exact k3 y h
    · exact h
  · refine .inr ⟨y', l', k1, k2, h1 _ k3, k4, k5, fun z hz hne => ?_⟩
    rcases h2 z hz with h | h
    · exact k6 z h hne
    · exact absurd h hne
theorem far_body {x0 : Bool} {H : BH} {K : Value → BH → Prop} (hb : By 16 b) (hw : By 16 w) (hd : Des n b w) (ht : Tree n b w) {c all : Bool} {x : Nat} (hx : x < n)
    (hrec : ∀ y ∈ vl b w n (ends b w n c x), ((y : Int) ≠ if all then -1 else (x : Int)) → ∀ (x0 : Bool) (H : BH) (K : Value → BH → Prop), (∀ l, Lg b w n (!c) y l → K (Fz l.length 1 (l.map N64)) H) →
      CallX x0 F_spec_l05Far [DV n b w, I y, .bool (!c), .bool false] H K)
    (hK : ∀ e s, BP b w n c (if all then -1 else (x : Int)) (ends b w n c x) (vl b w n (ends b w n c x)) e s → K (Fz e.length 1 (e.map N64)) H) :
    CallX x0 F_spec_l05Far [DV n b w, I x, .bool c, .bool all] H K := by
  have hlb := hb.len
  have hlw := hw.len
  have hn := hd.1.1
  have hp : Perm (pc b w c) n := by cases c; exact hd.1; exact hd.2.1
  have hpl : (pc b w c).length = 16 := by cases c; exact hlb; exact hlw
  obtain ⟨P0, hP, hPx⟩ := it_back2 hp hx
  generalize hcm : (if all then (-1 : Int) else (x : Int)) = cm at hrec hK
  have hpx := hp.lt hx
  refine callP (.cons nn_D (.cons .int (.cons .bool (.cons .bool .nil)))) ?_
  refine CallX_body Γ_spec_l05Far ?_
  simp only [A_spec_l05Far, T_aiff]
  refine T_rseq fun Kr hKr => ?_
  simp (disch := omega) only [RA, ↓reduceIte, Nat.reduceEqDiff, Nat.reduceBEq, Nat.reduceSub, Nat.reduceAdd, Nat.reduceMul, Nat.reduceLT, Nat.reduceLeDiff, Int.reduceLE, Int.reduceLT, Int.reduceEq, Int.reduceNeg, Int.reduceToNat, Int.reduceMul, Int.reduceAdd, Int.reduceSub, Int.reduceBEq, Int.reduceBNe, reduceCtorEq, RD, RDS]
  refine hKr _ _ ?_
  clear hKr Kr
  try simp only [RN, reduceIte]
  try refine T_e rfl ?_
  refine T_rseq fun Kr hKr => ?_
  simp (disch := omega) only [RA, ↓reduceIte, Nat.reduceEqDiff, Nat.reduceBEq, Nat.reduceSub, Nat.reduceAdd, Nat.reduceMul, Nat.reduceLT, Nat.reduceLeDiff, Int.reduceLE, Int.reduceLT, Int.reduceEq, Int.reduceNeg, Int.reduceToNat, Int.reduceMul, Int.reduceAdd, Int.reduceSub, Int.reduceBEq, Int.reduceBNe, reduceCtorEq, RD, RDS, RDD, st_NN]
  refine hKr _ _ ?_
  clear hKr Kr
  try simp only [RN, reduceIte]
  try refine T_e rfl ?_
  have hmain : ∀ f', f' 1 = I x → f' 2 = .bool c → f' 3 = .bool all → f' 4 = P 0 0 → f' 9 = P 2 0 → f' 10 = S 1 0 0 1 →
      T 0 (.seq A_spec_l05Far.r4 (.seq (.seq A_spec_l05Far.r5 (.block 0 (.loop A_spec_l05Far.l0))) (.seq A_spec_l05Far.r16 .ret))) (bodyQ 0 [.tmp 8] fun v _ => NN v ∧ K v H) f' [some (DC n b w), some [], some ((pc b w c).map N8)] := by
    intro f' g1 g2 g3 g4 g9 g10
    refine T_rseq fun Kr hKr => ?_
    simp (disch := omega) only [RA, ↓reduceIte, Nat.reduceEqDiff, Nat.reduceBEq, Nat.reduceSub, Nat.reduceAdd, Nat.reduceMul, Nat.reduceLT, Nat.reduceLeDiff, Int.reduceLE, Int.reduceLT, Int.reduceEq, Int.reduceNeg, Int.reduceToNat, Int.reduceMul, Int.reduceAdd, Int.reduceSub, Int.reduceBEq, Int.reduceBNe, reduceCtorEq, RD, g1, g9, hpl]
    refine hKr _ _ ?_
    clear hKr Kr
    try simp only [RN, reduceIte]
    try refine T_e rfl ?_
    refine T_rseq fun Kr hKr => ?_
    simp (disch := omega) only [RA, ↓reduceIte, Nat.reduceEqDiff, Nat.reduceBEq, Nat.reduceSub, Nat.reduceAdd, Nat.reduceMul, Nat.reduceLT, Nat.reduceLeDiff, Int.reduceLE, Int.reduceLT, Int.reduceEq, Int.reduceNeg, Int.reduceToNat, Int.reduceMul, Int.reduceAdd, Int.reduceSub, Int.reduceBEq, Int.reduceBNe, reduceCtorEq, RD]
    refine hKr _ _ ?_
    clear hKr Kr
    try simp only [RN, reduceIte]
    try refine T_e rfl ?_
    refine T_wloop (fun m f H' => ∃ i y e s, i ≤ P0 ∧ m = P0 - i ∧ y = it (pc b w c) x i ∧ BP b w n c cm (ends b w n c x) (its (pc b w c) x i) e s ∧ f 1 = I x ∧ f 2 = .bool c ∧ f 3 = .bool all ∧ f 4 = P 0 0 ∧ f 9 = P 2 0 ∧ f 10 = S 1 0 e.length 1 ∧ f 11 = I y ∧ f 12 = I i ∧ H' = [some (DC n b w), some (e.map N64), some ((pc b w c).map N8)]) (P0) ?_ ?_
    · refine ⟨_, _, Gh.refl, 0, nl (pc b w c) x, [], [ends b w n c x], by omega, by omega, rfl, .inl ⟨rfl, rfl, by simp [its]⟩, ?_, ?_, ?_, ?_, ?_, ?_, ?_, ?_, rfl⟩
      any_goals (simp (disch := omega) only [RA, ↓reduceIte, Nat.reduceEqDiff, Nat.reduceBEq, Nat.reduceSub, Nat.reduceAdd, Nat.reduceMul, Nat.reduceLT, Nat.reduceLeDiff, Int.reduceLE, Int.reduceLT, Int.reduceEq, Int.reduceNeg, Int.reduceToNat, Int.reduceMul, Int.reduceAdd, Int.reduceSub, Int.reduceBEq, Int.reduceBNe, reduceCtorEq, RD, RE, *] <;> rfl)
    · clear g1 g2 g3 g4 g9 g10
      rintro m f H' R ⟨i, y, e, s, hi, rfl, hy, hbp, g1, g2, g3, g4, g9, g10, g11, g12, rfl⟩ hN hX hR hE
      simp only [A_spec_l05Far.l0, T_aiff]
      have hyn : y < n := by rw [hy]; exact it_lt hp hx i
      have hpy := hp.lt hyn
      have hyv : y ∈ vl b w n (ends b w n c x) := (vl_ends hd hx).2 ⟨hyn, (ends_pc hd).2 (by rw [hy, it_vix hp hx])⟩
      have hsub : ∀ k, ∀ z ∈ its (pc b w c) x k, z ∈ vl b w n (ends b w n c x) := fun k z hz => by
        obtain ⟨j, hj, e⟩ := mem_its.1 hz
        exact (vl_ends hd hx).2 ⟨by rw [← e]; exact it_lt hp hx j, (ends_pc hd).2 (by rw [← e, it_vix hp hx])⟩
      have hel : e.length ≤ 17 := by
        rcases hbp.len.2 with h | ⟨z, hz, h⟩
        · rw [h]; simp
        · have := hgt_le hd ht (c := !c) (((vl_ends hd hx).1 (hsub _ z hz)).1)
          omega
      refine T_rseq fun Kr hKr => ?_
      simp (disch := omega) only [RA, ↓reduceIte, Nat.reduceEqDiff, Nat.reduceBEq, Nat.reduceSub, Nat.reduceAdd, Nat.reduceMul, Nat.reduceLT, Nat.reduceLeDiff, Int.reduceLE, Int.reduceLT, Int.reduceEq, Int.reduceNeg, Int.reduceToNat, Int.reduceMul, Int.reduceAdd, Int.reduceSub, Int.reduceBEq, Int.reduceBNe, reduceCtorEq, RD, g4, g12, RDS, RDD]
      refine hKr _ _ ?_
      clear hKr Kr
      try simp only [RN, reduceIte]
      try refine T_e rfl ?_
      refine T_cseq (t := true) (by simp (disch := omega) only [RA, ↓reduceIte, Nat.reduceEqDiff, Nat.reduceBEq, Nat.reduceSub, Nat.reduceAdd, Nat.reduceMul, Nat.reduceLT, Nat.reduceLeDiff, Int.reduceLE, Int.reduceLT, Int.reduceEq, Int.reduceNeg, Int.reduceToNat, Int.reduceMul, Int.reduceAdd, Int.reduceSub, Int.reduceBEq, Int.reduceBNe, reduceCtorEq, RD]) ?_
      try simp only [RN, reduceIte]
      try refine T_e rfl ?_
      have hgo : ∀ f', (y : Int) ≠ cm → f' 1 = I x → f' 2 = .bool c → f' 3 = .bool all → f' 4 = P 0 0 → f' 9 = P 2 0 → f' 10 = S 1 0 e.length 1 → f' 11 = I y → f' 12 = I i →
          T 0 (.seq A_spec_l05Far.r10 (.seq (.seq (.seq A_spec_l05Far.r11 (.cond (.t 50) A_spec_l05Far.r12 .skip)) (.seq (.seq A_spec_l05Far.r13 (.cond (.t 54) (.seq A_spec_l05Far.r14 .ret) .skip)) A_spec_l05Far.r15)) A_spec_l05Far.r7)) R f' [some (DC n b w), some (e.map N64), some ((pc b w c).map N8)] := by
        clear g1 g2 g3 g4 g9 g10 g11 g12
        intro f' hne g1 g2 g3 g4 g9 g10 g11 g12
        have hlast : ∀ f' e' s', BP b w n c cm (ends b w n c x) (its (pc b w c) x (i + 1)) e' s' → f' 1 = I x → f' 2 = .bool c → f' 3 = .bool all → f' 4 = P 0 0 → f' 9 = P 2 0 → f' 10 = S 1 0 e'.length 1 → f' 11 = I y → f' 12 = I i →
            T 0 (.seq A_spec_l05Far.r13 (.seq (.cond (.t 54) (.seq A_spec_l05Far.r14 .ret) .skip) (.seq A_spec_l05Far.r15 A_spec_l05Far.r7))) R f' [some (DC n b w), some (e'.map N64), some ((pc b w c).map N8)] := by
          clear g1 g2 g3 g4 g9 g10 g11 g12
          intro f' e' s' hb' g1 g2 g3 g4 g9 g10 g11 g12
          refine T_rseq fun Kr hKr => ?_
          simp (disch := omega) only [RA, ↓reduceIte, Nat.reduceEqDiff, Nat.reduceBEq, Nat.reduceSub, Nat.reduceAdd, Nat.reduceMul, Nat.reduceLT, Nat.reduceLeDiff, Int.reduceLE, Int.reduceLT, Int.reduceEq, Int.reduceNeg, Int.reduceToNat, Int.reduceMul, Int.reduceAdd, Int.reduceSub, Int.reduceBEq, Int.reduceBNe, reduceCtorEq, RD, g1, g11]
          refine hKr _ _ ?_
          clear hKr Kr
          try simp only [RN, reduceIte]
          try refine T_e rfl ?_
          refine T_csplit (p := y = x) (by simp only [RA, ↓reduceIte, Nat.reduceEqDiff, Nat.reduceBEq, Nat.reduceSub, Nat.reduceAdd, Nat.reduceMul, Nat.reduceLT, Nat.reduceLeDiff, Int.reduceLE, Int.reduceLT, Int.reduceEq, Int.reduceNeg, Int.reduceToNat, Int.reduceMul, Int.reduceAdd, Int.reduceSub, Int.reduceBEq, Int.reduceBNe, reduceCtorEq] <;> rfl) (by (try simp only [RB]) <;> first | done | exact Iff.rfl | omega | simp) (fun hc => ?_) (fun hc => ?_) <;> (try simp only [RN, reduceIte]) <;> (try refine T_e rfl ?_)
          · have hb2 := hb'.sub (L' := vl b w n (ends b w n c x)) (hsub _) (fun z hz => .inl (its_done hd hx (by rw [← hy]; exact hc) hz))
            refine T_rseq fun Kr hKr => ?_
            simp (disch := omega) only [RA, ↓reduceIte, Nat.reduceEqDiff, Nat.reduceBEq, Nat.reduceSub, Nat.reduceAdd, Nat.reduceMul, Nat.reduceLT, Nat.reduceLeDiff, Int.reduceLE, Int.reduceLT, Int.reduceEq, Int.reduceNeg, Int.reduceToNat, Int.reduceMul, Int.reduceAdd, Int.reduceSub, Int.reduceBEq, Int.reduceBNe, reduceCtorEq, RD, g10]
            refine hKr _ _ ?_
            clear hKr Kr
            try simp only [RN, reduceIte]
            try refine T_e rfl ?_
            refine hR _ _ ?_
            refine bodyQ_ret (by simp (disch := omega) only [RA, ↓reduceIte, Nat.reduceEqDiff, Nat.reduceBEq, Nat.reduceSub, Nat.reduceAdd, Nat.reduceMul, Nat.reduceLT, Nat.reduceLeDiff, Int.reduceLE, Int.reduceLT, Int.reduceEq, Int.reduceNeg, Int.reduceToNat, Int.reduceMul, Int.reduceAdd, Int.reduceSub, Int.reduceBEq, Int.reduceBNe, reduceCtorEq, RD, resAll, resOf]; rfl) (GhV.fz (i := 1) (by simp (disch := omega) only [RA, ↓reduceIte, Nat.reduceEqDiff, Nat.reduceBEq, Nat.reduceSub, Nat.reduceAdd, Nat.reduceMul, Nat.reduceLT, Nat.reduceLeDiff, Int.reduceLE, Int.reduceLT, Int.reduceEq, Int.reduceNeg, Int.reduceToNat, Int.reduceMul, Int.reduceAdd, Int.reduceSub, Int.reduceBEq, Int.reduceBNe, reduceCtorEq, RD]; rfl) (by simp only [RH])) ?_
            simp only [tup, frzT]
            rw [frz_all (by simp)]
            exact ⟨.fz, hK _ _ hb2⟩
          · have hiP : i < P0 := by
              rcases Nat.lt_or_ge i P0 with h | h
              · exact h
              · exact absurd (by rw [hy, show i = P0 by omega, hPx]) hc
            refine T_rseq fun Kr hKr => ?_
            simp (disch := omega) only [RA, ↓reduceIte, Nat.reduceEqDiff, Nat.reduceBEq, Nat.reduceSub, Nat.reduceAdd, Nat.reduceMul, Nat.reduceLT, Nat.reduceLeDiff, Int.reduceLE, Int.reduceLT, Int.reduceEq, Int.reduceNeg, Int.reduceToNat, Int.reduceMul, Int.reduceAdd, Int.reduceSub, Int.reduceBEq, Int.reduceBNe, reduceCtorEq, RD, g9, g11, hpl]
            refine hKr _ _ ?_
            clear hKr Kr
            try simp only [RN, reduceIte]
            try refine T_e rfl ?_
            refine T_reg_k fun Kr hKr => ?_
            simp (disch := omega) only [RA, ↓reduceIte, Nat.reduceEqDiff, Nat.reduceBEq, Nat.reduceSub, Nat.reduceAdd, Nat.reduceMul, Nat.reduceLT, Nat.reduceLeDiff, Int.reduceLE, Int.reduceLT, Int.reduceEq, Int.reduceNeg, Int.reduceToNat, Int.reduceMul, Int.reduceAdd, Int.reduceSub, Int.reduceBEq, Int.reduceBNe, reduceCtorEq, RD, g12]
            refine hKr _ _ ?_
            clear hKr Kr
            refine hN (P0 - (i + 1)) _ _ _ _ (by omega) Gh.refl ⟨i + 1, nl (pc b w c) y, e', s', by omega, rfl, by rw [it, hy], hb', ?_, ?_, ?_, ?_, ?_, ?_, ?_, ?_, rfl⟩
            any_goals (simp (disch := omega) only [RA, ↓reduceIte, Nat.reduceEqDiff, Nat.reduceBEq, Nat.reduceSub, Nat.reduceAdd, Nat.reduceMul, Nat.reduceLT, Nat.reduceLeDiff, Int.reduceLE, Int.reduceLT, Int.reduceEq, Int.reduceNeg, Int.reduceToNat, Int.reduceMul, Int.reduceAdd, Int.reduceSub, Int.reduceBEq, Int.reduceBNe, reduceCtorEq, RD, RE, *] <;> rfl)
        refine T_rseq fun Kr hKr => ?_
        simp (disch := omega) only [RA, ↓reduceIte, Nat.reduceEqDiff, Nat.reduceBEq, Nat.reduceSub, Nat.reduceAdd, Nat.reduceMul, Nat.reduceLT, Nat.reduceLeDiff, Int.reduceLE, Int.reduceLT, Int.reduceEq, Int.reduceNeg, Int.reduceToNat, Int.reduceMul, Int.reduceAdd, Int.reduceSub, Int.reduceBEq, Int.reduceBNe, reduceCtorEq, RD, g2, g4, g11, RDS, RDD]
        refine hrec y hyv hne _ _ _ fun l hl => ?_
        have hll : l.length ≤ 16 := by
          have := hgt_le hd ht (c := !c) hyn
          have := hl.len
          omega
        simp (disch := omega) only [RA, ↓reduceIte, Nat.reduceEqDiff, Nat.reduceBEq, Nat.reduceSub, Nat.reduceAdd, Nat.reduceMul, Nat.reduceLT, Nat.reduceLeDiff, Int.reduceLE, Int.reduceLT, Int.reduceEq, Int.reduceNeg, Int.reduceToNat, Int.reduceMul, Int.reduceAdd, Int.reduceSub, Int.reduceBEq, Int.reduceBNe, reduceCtorEq, RD, bApp_z, appz_64c]
        refine hKr _ _ ?_
        clear hKr Kr
        try simp only [blkQ, thenQ, loopQ]
        try simp only [RN, reduceIte]
        try refine T_e rfl ?_
        refine T_rseq fun Kr hKr => ?_
        simp (disch := omega) only [RA, ↓reduceIte, Nat.reduceEqDiff, Nat.reduceBEq, Nat.reduceSub, Nat.reduceAdd, Nat.reduceMul, Nat.reduceLT, Nat.reduceLeDiff, Int.reduceLE, Int.reduceLT, Int.reduceEq, Int.reduceNeg, Int.reduceToNat, Int.reduceMul, Int.reduceAdd, Int.reduceSub, Int.reduceBEq, Int.reduceBNe, reduceCtorEq, RD, g10]
        refine hKr _ _ ?_
        clear hKr Kr
        try simp only [RN, reduceIte]
        try refine T_e rfl ?_
        refine T_csplit (p := e.length < l.length + 1) (by simp only [RA, ↓reduceIte, Nat.reduceEqDiff, Nat.reduceBEq, Nat.reduceSub, Nat.reduceAdd, Nat.reduceMul, Nat.reduceLT, Nat.reduceLeDiff, Int.reduceLE, Int.reduceLT, Int.reduceEq, Int.reduceNeg, Int.reduceToNat, Int.reduceMul, Int.reduceAdd, Int.reduceSub, Int.reduceBEq, Int.reduceBNe, reduceCtorEq] <;> rfl) (by (try simp only [RB]) <;> first | done | exact Iff.rfl | omega | simp) (fun hc => ?_) (fun hc => ?_) <;> (try simp only [RN, reduceIte]) <;> (try refine T_e rfl ?_)
        · have hbet := hbp.better hne hl (by omega)
          rw [hy, ← its_succ] at hbet
          refine T_rseq fun Kr hKr => ?_
          simp (disch := omega) only [RA, ↓reduceIte, Nat.reduceEqDiff, Nat.reduceBEq, Nat.reduceSub, Nat.reduceAdd, Nat.reduceMul, Nat.reduceLT, Nat.reduceLeDiff, Int.reduceLE, Int.reduceLT, Int.reduceEq, Int.reduceNeg, Int.reduceToNat, Int.reduceMul, Int.reduceAdd, Int.reduceSub, Int.reduceBEq, Int.reduceBNe, reduceCtorEq, RD]
          refine hKr _ _ ?_
          clear hKr Kr
          try simp only [RN, reduceIte]
          try refine T_e rfl ?_
          refine T_gh (Gh.nrm [0, 4, 2] rfl rfl (by simp only [RH, RV])) ?_
          refine hlast _ (y :: l) _ (by rw [hy]; exact hbet) ?_ ?_ ?_ ?_ ?_ ?_ ?_ ?_
          any_goals (simp (disch := omega) only [RA, ↓reduceIte, Nat.reduceEqDiff, Nat.reduceBEq, Nat.reduceSub, Nat.reduceAdd, Nat.reduceMul, Nat.reduceLT, Nat.reduceLeDiff, Int.reduceLE, Int.reduceLT, Int.reduceEq, Int.reduceNeg, Int.reduceToNat, Int.reduceMul, Int.reduceAdd, Int.reduceSub, Int.reduceBEq, Int.reduceBNe, reduceCtorEq, RD, RE, *] <;> rfl)
        · have hwo := hbp.worse hl (by omega)
          rw [hy, ← its_succ] at hwo
          refine T_gh (Gh.nrm [0, 1, 2] rfl rfl (by simp only [RH, RV])) ?_
          refine hlast _ e s hwo ?_ ?_ ?_ ?_ ?_ ?_ ?_ ?_
          any_goals (simp (disch := omega) only [RA, ↓reduceIte, Nat.reduceEqDiff, Nat.reduceBEq, Nat.reduceSub, Nat.reduceAdd, Nat.reduceMul, Nat.reduceLT, Nat.reduceLeDiff, Int.reduceLE, Int.reduceLT, Int.reduceEq, Int.reduceNeg, Int.reduceToNat, Int.reduceMul, Int.reduceAdd, Int.reduceSub, Int.reduceBEq, Int.reduceBNe, reduceCtorEq, RD, RE, *] <;> rfl)
      by_cases hyx : y = x
      · cases all with
        | false =>
          have hb2 := hbp.sub (L' := vl b w n (ends b w n c x)) (hsub _) (fun z hz => by
            have h1 := its_done hd hx (by rw [← hy]; exact hyx) hz
            rw [its_succ] at h1
            rcases List.mem_append.1 h1 with h | h
            · exact .inl h
            · rw [List.mem_singleton.1 h, ← hy, hyx, ← hcm]; exact .inr rfl)
          first | refine T_bfree rfl ?_ | refine T_bfree' rfl ?_
          try simp only [RN, reduceIte]
          try refine T_e rfl ?_
          refine T_rseq fun Kr hKr => ?_
          simp (disch := omega) only [RA, ↓reduceIte, Nat.reduceEqDiff, Nat.reduceBEq, Nat.reduceSub, Nat.reduceAdd, Nat.reduceMul, Nat.reduceLT, Nat.reduceLeDiff, Int.reduceLE, Int.reduceLT, Int.reduceEq, Int.reduceNeg, Int.reduceToNat, Int.reduceMul, Int.reduceAdd, Int.reduceSub, Int.reduceBEq, Int.reduceBNe, reduceCtorEq, RD, g1, g3, g11]
          refine hKr _ _ ?_
          clear hKr Kr
          try simp only [RN, reduceIte]
          try refine T_e rfl ?_
          refine T_cseq (t := true) (by simp (disch := omega) only [RA, ↓reduceIte, Nat.reduceEqDiff, Nat.reduceBEq, Nat.reduceSub, Nat.reduceAdd, Nat.reduceMul, Nat.reduceLT, Nat.reduceLeDiff, Int.reduceLE, Int.reduceLT, Int.reduceEq, Int.reduceNeg, Int.reduceToNat, Int.reduceMul, Int.reduceAdd, Int.reduceSub, Int.reduceBEq, Int.reduceBNe, reduceCtorEq, RD]) ?_
          try simp only [RN, reduceIte]
          try refine T_e rfl ?_
          refine T_rseq fun Kr hKr => ?_
          simp (disch := omega) only [RA, ↓reduceIte, Nat.reduceEqDiff, Nat.reduceBEq, Nat.reduceSub, Nat.reduceAdd, Nat.reduceMul, Nat.reduceLT, Nat.reduceLeDiff, Int.reduceLE, Int.reduceLT, Int.reduceEq, Int.reduceNeg, Int.reduceToNat, Int.reduceMul, Int.reduceAdd, Int.reduceSub, Int.reduceBEq, Int.reduceBNe, reduceCtorEq, RD, g10]
          refine hKr _ _ ?_
          clear hKr Kr
          try simp only [RN, reduceIte]
          try refine T_e rfl ?_
          refine hR _ _ ?_
          refine bodyQ_ret (by simp (disch := omega) only [RA, ↓reduceIte, Nat.reduceEqDiff, Nat.reduceBEq, Nat.reduceSub, Nat.reduceAdd, Nat.reduceMul, Nat.reduceLT, Nat.reduceLeDiff, Int.reduceLE, Int.reduceLT, Int.reduceEq, Int.reduceNeg, Int.reduceToNat, Int.reduceMul, Int.reduceAdd, Int.reduceSub, Int.reduceBEq, Int.reduceBNe, reduceCtorEq, RD, resAll, resOf]; rfl) (GhV.fz (i := 1) (by simp (disch := omega) only [RA, ↓reduceIte, Nat.reduceEqDiff, Nat.reduceBEq, Nat.reduceSub, Nat.reduceAdd, Nat.reduceMul, Nat.reduceLT, Nat.reduceLeDiff, Int.reduceLE, Int.reduceLT, Int.reduceEq, Int.reduceNeg, Int.reduceToNat, Int.reduceMul, Int.reduceAdd, Int.reduceSub, Int.reduceBEq, Int.reduceBNe, reduceCtorEq, RD]; rfl) (by simp only [RH])) ?_
          simp only [tup, frzT]
          rw [frz_all (by simp)]
          exact ⟨.fz, hK _ _ hb2⟩
        | true =>
          first | refine T_bfree rfl ?_ | refine T_bfree' rfl ?_
          try simp only [RN, reduceIte]
          try refine T_e rfl ?_
          refine T_rseq fun Kr hKr => ?_
          simp (disch := omega) only [RA, ↓reduceIte, Nat.reduceEqDiff, Nat.reduceBEq, Nat.reduceSub, Nat.reduceAdd, Nat.reduceMul, Nat.reduceLT, Nat.reduceLeDiff, Int.reduceLE, Int.reduceLT, Int.reduceEq, Int.reduceNeg, Int.reduceToNat, Int.reduceMul, Int.reduceAdd, Int.reduceSub, Int.reduceBEq, Int.reduceBNe, reduceCtorEq, RD, g1, g3, g11]
          refine hKr _ _ ?_
          clear hKr Kr
          try simp only [RN, reduceIte]
          try refine T_e rfl ?_
          refine T_cseq (t := false) (by simp (disch := omega) only [RA, ↓reduceIte, Nat.reduceEqDiff, Nat.reduceBEq, Nat.reduceSub, Nat.reduceAdd, Nat.reduceMul, Nat.reduceLT, Nat.reduceLeDiff, Int.reduceLE, Int.reduceLT, Int.reduceEq, Int.reduceNeg, Int.reduceToNat, Int.reduceMul, Int.reduceAdd, Int.reduceSub, Int.reduceBEq, Int.reduceBNe, reduceCtorEq, RD]) ?_
          try simp only [RN, reduceIte]
          try refine T_e rfl ?_
          refine hgo _ (by rw [← hcm]; simp) ?_ ?_ ?_ ?_ ?_ ?_ ?_ ?_
          any_goals (simp (disch := omega) only [RA, ↓reduceIte, Nat.reduceEqDiff, Nat.reduceBEq, Nat.reduceSub, Nat.reduceAdd, Nat.reduceMul, Nat.reduceLT, Nat.reduceLeDiff, Int.reduceLE, Int.reduceLT, Int.reduceEq, Int.reduceNeg, Int.reduceToNat, Int.reduceMul, Int.reduceAdd, Int.reduceSub, Int.reduceBEq, Int.reduceBNe, reduceCtorEq, RD, RE, *] <;> rfl)
      · first | refine T_bfree rfl ?_ | refine T_bfree' rfl ?_
        try simp only [RN, reduceIte]
        try refine T_e rfl ?_
        refine T_rseq fun Kr hKr => ?_
        simp (disch := omega) only [RA, ↓reduceIte, Nat.reduceEqDiff, Nat.reduceBEq, Nat.reduceSub, Nat.reduceAdd, Nat.reduceMul, Nat.reduceLT, Nat.reduceLeDiff, Int.reduceLE, Int.reduceLT, Int.reduceEq, Int.reduceNeg, Int.reduceToNat, Int.reduceMul, Int.reduceAdd, Int.reduceSub, Int.reduceBEq, Int.reduceBNe, reduceCtorEq, RD, g1, g3, g11]
        refine hKr _ _ ?_
        clear hKr Kr
        try simp only [RN, reduceIte]
        try refine T_e rfl ?_
        refine T_cseq (t := false) (by simp (disch := omega) only [RA, ↓reduceIte, Nat.reduceEqDiff, Nat.reduceBEq, Nat.reduceSub, Nat.reduceAdd, Nat.reduceMul, Nat.reduceLT, Nat.reduceLeDiff, Int.reduceLE, Int.reduceLT, Int.reduceEq, Int.reduceNeg, Int.reduceToNat, Int.reduceMul, Int.reduceAdd, Int.reduceSub, Int.reduceBEq, Int.reduceBNe, reduceCtorEq, RD]) ?_
        try simp only [RN, reduceIte]
        try refine T_e rfl ?_
        refine hgo _ (by rw [← hcm]; cases all <;> simp <;> omega) ?_ ?_ ?_ ?_ ?_ ?_ ?_ ?_
        any_goals (simp (disch := omega) only [RA, ↓reduceIte, Nat.reduceEqDiff, Nat.reduceBEq, Nat.reduceSub, Nat.reduceAdd, Nat.reduceMul, Nat.reduceLT, Nat.reduceLeDiff, Int.reduceLE, Int.reduceLT, Int.reduceEq, Int.reduceNeg, Int.reduceToNat, Int.reduceMul, Int.reduceAdd, Int.reduceSub, Int.reduceBEq, Int.reduceBNe, reduceCtorEq, RD, RE, *] <;> rfl)
  cases c with
  | false =>
    refine T_rseq fun Kr hKr => ?_
    simp (disch := omega) only [RA, ↓reduceIte, Nat.reduceEqDiff, Nat.reduceBEq, Nat.reduceSub, Nat.reduceAdd, Nat.reduceMul, Nat.reduceLT, Nat.reduceLeDiff, Int.reduceLE, Int.reduceLT, Int.reduceEq, Int.reduceNeg, Int.reduceToNat, Int.reduceMul, Int.reduceAdd, Int.reduceSub, Int.reduceBEq, Int.reduceBNe, reduceCtorEq, RD]
    refine hKr _ _ ?_
    clear hKr Kr
    try simp only [RN, reduceIte]
    try refine T_e rfl ?_
    refine T_cseq (t := false) (by simp (disch := omega) only [RA, ↓reduceIte, Nat.reduceEqDiff, Nat.reduceBEq, Nat.reduceSub, Nat.reduceAdd, Nat.reduceMul, Nat.reduceLT, Nat.reduceLeDiff, Int.reduceLE, Int.reduceLT, Int.reduceEq, Int.reduceNeg, Int.reduceToNat, Int.reduceMul, Int.reduceAdd, Int.reduceSub, Int.reduceBEq, Int.reduceBNe, reduceCtorEq, RD]) ?_
    try simp only [RN, reduceIte]
    try refine T_e rfl ?_
    refine hmain _ ?_ ?_ ?_ ?_ ?_ ?_
    any_goals (simp (disch := omega) only [RA, ↓reduceIte, Nat.reduceEqDiff, Nat.reduceBEq, Nat.reduceSub, Nat.reduceAdd, Nat.reduceMul, Nat.reduceLT, Nat.reduceLeDiff, Int.reduceLE, Int.reduceLT, Int.reduceEq, Int.reduceNeg, Int.reduceToNat, Int.reduceMul, Int.reduceAdd, Int.reduceSub, Int.reduceBEq, Int.reduceBNe, reduceCtorEq, RD, RE, *] <;> rfl)
  | true =>
    refine T_rseq fun Kr hKr => ?_
    simp (disch := omega) only [RA, ↓reduceIte, Nat.reduceEqDiff, Nat.reduceBEq, Nat.reduceSub, Nat.reduceAdd, Nat.reduceMul, Nat.reduceLT, Nat.reduceLeDiff, Int.reduceLE, Int.reduceLT, Int.reduceEq, Int.reduceNeg, Int.reduceToNat, Int.reduceMul, Int.reduceAdd, Int.reduceSub, Int.reduceBEq, Int.reduceBNe, reduceCtorEq, RD]
    refine hKr _ _ ?_
    clear hKr Kr
    try simp only [RN, reduceIte]
    try refine T_e rfl ?_
    refine T_cseq (t := true) (by simp (disch := omega) only [RA, ↓reduceIte, Nat.reduceEqDiff, Nat.reduceBEq, Nat.reduceSub, Nat.reduceAdd, Nat.reduceMul, Nat.reduceLT, Nat.reduceLeDiff, Int.reduceLE, Int.reduceLT, Int.reduceEq, Int.reduceNeg, Int.reduceToNat, Int.reduceMul, Int.reduceAdd, Int.reduceSub, Int.reduceBEq, Int.reduceBNe, reduceCtorEq, RD]) ?_
    try simp only [RN, reduceIte]
    try refine T_e rfl ?_
    refine T_rseq fun Kr hKr => ?_
    simp (disch := omega) only [RA, ↓reduceIte, Nat.reduceEqDiff, Nat.reduceBEq, Nat.reduceSub, Nat.reduceAdd, Nat.reduceMul, Nat.reduceLT, Nat.reduceLeDiff, Int.reduceLE, Int.reduceLT, Int.reduceEq, Int.reduceNeg, Int.reduceToNat, Int.reduceMul, Int.reduceAdd, Int.reduceSub, Int.reduceBEq, Int.reduceBNe, reduceCtorEq, RD, RDS, RDD, st_NN]
    refine hKr _ _ ?_
    clear hKr Kr
    try simp only [RN, reduceIte]
    try refine T_e rfl ?_
    refine hmain _ ?_ ?_ ?_ ?_ ?_ ?_
    any_goals (simp (disch := omega) only [RA, ↓reduceIte, Nat.reduceEqDiff, Nat.reduceBEq, Nat.reduceSub, Nat.reduceAdd, Nat.reduceMul, Nat.reduceLT, Nat.reduceLeDiff, Int.reduceLE, Int.reduceLT, Int.reduceEq, Int.reduceNeg, Int.reduceToNat, Int.reduceMul, Int.reduceAdd, Int.reduceSub, Int.reduceBEq, Int.reduceBNe, reduceCtorEq, RD, RE, *] <;> rfl)
theorem l05Far_spec (hb : By 16 b) (hw : By 16 w) (hd : Des n b w) (ht : Tree n b w) : ∀ (r : Nat) (c : Bool) (y : Nat), y < n → (behind b w n c y).length ≤ r → ∀ (x : Bool) (H : BH) (K : Value → BH → Prop),
    (∀ l, Lg b w n c y l → K (Fz l.length 1 (l.map N64)) H) → CallX x F_spec_l05Far [DV n b w, I y, .bool c, .bool false] H K := by
  intro r
  induction r with
  | zero =>
    intro c y hy hr x H K hK
    refine far_body hb hw hd ht (c := c) (all := false) hy (fun z hz hne => ?_) (fun e s h => hK e (h.lg hd ht hy).1)
    obtain ⟨h1, h2⟩ := (vl_ends hd hy).1 hz
    have := behind_less hd ht hy h1 (fun e => hne (by rw [e]; rfl)) h2
    omega
  | succ r ih =>
    intro c y hy hr x H K hK
    refine far_body hb hw hd ht (c := c) (all := false) hy (fun z hz hne => ?_) (fun e s h => hK e (h.lg hd ht hy).1)
    obtain ⟨h1, h2⟩ := (vl_ends hd hy).1 hz
    have := behind_less hd ht hy h1 (fun e => hne (by rw [e]; rfl)) h2
    exact ih (!c) z h1 (by omega)
theorem l05Far_top (hb : By 16 b) (hw : By 16 w) (hd : Des n b w) (ht : Tree n b w) {c : Bool} {y0 : Nat} (hy0 : y0 < n) {x : Bool} {H : BH} {K : Value → BH → Prop}
    (hK : ∀ y l, VLg b w n c (ends b w n c y0) (y :: l) → K (Fz (y :: l).length 1 ((y :: l).map N64)) H) : CallX x F_spec_l05Far [DV n b w, I y0, .bool c, .bool true] H K := by
  refine far_body hb hw hd ht (c := c) (all := true) hy0 (fun z hz hne => l05Far_spec hb hw hd ht _ (!c) z ((vl_ends hd hy0).1 hz).1 (Nat.le_refl _)) (fun e s h => ?_)
  rcases h with ⟨h1, h2, h3⟩ | ⟨y, l, h1, h2, h3, h4, h5, h6⟩
  · have : (y0 : Int) = -1 := h3 y0 ((vl_ends hd hy0).2 ⟨hy0, rfl⟩)
    omega
  · subst h1
    obtain ⟨k1, k2⟩ := (vl_ends hd hy0).1 h3
    exact hK y l ⟨k1, k2, h5, fun z hz hz2 => h6 z ((vl_ends hd hy0).2 ⟨hz, hz2⟩) (by simp)⟩
/-- What the reference knows of a longest path: its edges, and the colour of its beginning. -/
def LQ (b w : List Nat) (n : Nat) (e : List Nat) (cu : Bool) : Prop :=
  ∃ pre x l, e = pre ++ x :: l ∧ Mid b w n (!(cu ^^ decide (pre.length % 2 = 1))) x e.length ∧ (l.length = pre.length ∨ l.length = pre.length + 1) ∧
    (∀ y l', l = y :: l' → y < n ∧ ends b w n (!(cu ^^ decide (pre.length % 2 = 1))) y = ends b w n (!(cu ^^ decide (pre.length % 2 = 1))) x)
theorem Lg.adj {x y : Nat} {l' : List Nat} : ∀ {pre l : List Nat} {c : Bool} {z : Nat}, Lg b w n c z l → z :: l = pre ++ x :: y :: l' → Nb b w n (c ^^ decide (pre.length % 2 = 1)) x y
  | [], l, c, z, h, e => by
    rw [List.nil_append, List.cons.injEq] at e
    obtain ⟨rfl, rfl⟩ := e
    rw [Lg] at h
    simpa using h.1
  | a :: pre, [], c, z, h, e => by simp at e
  | a :: pre, z' :: l, c, z, h, e => by
    rw [List.cons_append, List.cons.injEq] at e
    rw [Lg] at h
    have ih := Lg.adj h.2.2 e.2
    have e2 : ((!c) ^^ decide (pre.length % 2 = 1)) = (c ^^ decide ((a :: pre).length % 2 = 1)) := by
      rw [List.length_cons]
      rcases Nat.mod_two_eq_zero_or_one pre.length with e | e <;> cases c <;> simp [e] <;> omega
    rw [← e2]
    exact ih
theorem l05Long_spec {x : Bool} {H : BH} {K : Value → BH → Prop} (hb : By 16 b) (hw : By 16 w) (hd : Des n b w) (ht : Tree n b w)
    (hK : ∀ e cu, LQ b w n e cu → e.length ≤ 17 → K (.tuple ⟨[Fz e.length 1 (e.map N64), .bool cu]⟩) H) : CallX x F_spec_l05Long [DV n b w] H K := by
  have hlb := hb.len
  have hlw := hw.len
  have hn := hd.1.1
  have hn0 : 0 < n := by omega
  refine callP (.cons nn_D .nil) ?_
  refine CallX_body Γ_spec_l05Long ?_
  simp only [A_spec_l05Long, T_aiff]
  refine T_rseq fun Kr hKr => ?_
  simp (disch := omega) only [RA, ↓reduceIte, Nat.reduceEqDiff, Nat.reduceBEq, Nat.reduceSub, Nat.reduceAdd, Nat.reduceMul, Nat.reduceLT, Nat.reduceLeDiff, Int.reduceLE, Int.reduceLT, Int.reduceEq, Int.reduceNeg, Int.reduceToNat, Int.reduceMul, Int.reduceAdd, Int.reduceSub, Int.reduceBEq, Int.reduceBNe, reduceCtorEq, RD, RDS]
  refine hKr _ _ ?_
  clear hKr Kr
  try simp only [RN, reduceIte]
  try refine T_e rfl ?_
  refine T_rseq fun Kr hKr => ?_
  simp (disch := omega) only [RA, ↓reduceIte, Nat.reduceEqDiff, Nat.reduceBEq, Nat.reduceSub, Nat.reduceAdd, Nat.reduceMul, Nat.reduceLT, Nat.reduceLeDiff, Int.reduceLE, Int.reduceLT, Int.reduceEq, Int.reduceNeg, Int.reduceToNat, Int.reduceMul, Int.reduceAdd, Int.reduceSub, Int.reduceBEq, Int.reduceBNe, reduceCtorEq, RD, RDS, RDD]
  refine l05Far_top (y0 := 0) hb hw hd ht hn0 fun f0 f hf => ?_
  have hfl : f.length ≤ 16 := by
    have := hf.2.2.1.len
    have := hgt_le hd ht (c := !false) hf.1
    omega
  have hcu : ((!false) ^^ decide (f.length % 2 = 1)) = decide ((f.length + 1) % 2 = 1) := by
    rcases Nat.mod_two_eq_zero_or_one f.length with e | e <;> simp [e] <;> omega
  have hsn := sn_at (b := b) (w := w) (n := n) (c := !false) (x := f0) (l := f) (Nat.le_refl _)
  have hly : nl (f0 :: f) f.length < n := Lg.lt hf.1 hf.2.2.1 _ (nl_mem (by simp))
  have hsl : (f0 :: f).length = f.length + 1 := rfl
  generalize hlast : nl (f0 :: f) f.length = last at hsn hly
  rw [hcu] at hsn
  generalize hf0 : f0 :: f = e0 at hsl hlast ⊢
  simp (disch := omega) only [RA, ↓reduceIte, Nat.reduceEqDiff, Nat.reduceBEq, Nat.reduceSub, Nat.reduceAdd, Nat.reduceMul, Nat.reduceLT, Nat.reduceLeDiff, Int.reduceLE, Int.reduceLT, Int.reduceEq, Int.reduceNeg, Int.reduceToNat, Int.reduceMul, Int.reduceAdd, Int.reduceSub, Int.reduceBEq, Int.reduceBNe, reduceCtorEq, RD]
  refine hKr _ _ ?_
  clear hKr Kr
  try simp only [blkQ, thenQ, loopQ]
  try simp only [RN, reduceIte]
  try refine T_e rfl ?_
  have e1 : ((e0.length : Nat) : Int) - 1 = (f.length : Nat) := by omega
  have e2 : decide ((e0.length : Int).tmod 2 = 1) = decide ((f.length + 1) % 2 = 1) := by
    rw [show (2 : Int) = ((2 : Nat) : Int) from rfl, ← Int.ofNat_tmod]
    exact decide_eq_decide.2 (by omega)
  refine T_rseq fun Kr hKr => ?_
  simp (disch := omega) only [RA, ↓reduceIte, Nat.reduceEqDiff, Nat.reduceBEq, Nat.reduceSub, Nat.reduceAdd, Nat.reduceMul, Nat.reduceLT, Nat.reduceLeDiff, Int.reduceLE, Int.reduceLT, Int.reduceEq, Int.reduceNeg, Int.reduceToNat, Int.reduceMul, Int.reduceAdd, Int.reduceSub, Int.reduceBEq, Int.reduceBNe, reduceCtorEq, RD, e2]
  refine hKr _ _ ?_
  clear hKr Kr
  try simp only [RN, reduceIte]
  try refine T_e rfl ?_
  refine T_rseq fun Kr hKr => ?_
  simp (disch := omega) only [RA, ↓reduceIte, Nat.reduceEqDiff, Nat.reduceBEq, Nat.reduceSub, Nat.reduceAdd, Nat.reduceMul, Nat.reduceLT, Nat.reduceLeDiff, Int.reduceLE, Int.reduceLT, Int.reduceEq, Int.reduceNeg, Int.reduceToNat, Int.reduceMul, Int.reduceAdd, Int.reduceSub, Int.reduceBEq, Int.reduceBNe, reduceCtorEq, RD, e1, getN_64, hlast]
  refine hKr _ _ ?_
  clear hKr Kr
  try simp only [RN, reduceIte]
  try refine T_e rfl ?_
  generalize hw1 : decide ((f.length + 1) % 2 = 1) = cu at hcu hsn e2
  refine T_rseq fun Kr hKr => ?_
  simp (disch := omega) only [RA, ↓reduceIte, Nat.reduceEqDiff, Nat.reduceBEq, Nat.reduceSub, Nat.reduceAdd, Nat.reduceMul, Nat.reduceLT, Nat.reduceLeDiff, Int.reduceLE, Int.reduceLT, Int.reduceEq, Int.reduceNeg, Int.reduceToNat, Int.reduceMul, Int.reduceAdd, Int.reduceSub, Int.reduceBEq, Int.reduceBNe, reduceCtorEq, RD, RDS, RDD]
  refine l05Far_top (c := cu) (y0 := last) hb hw hd ht hly fun y l he => ?_
  obtain ⟨pre, x, l', c, k1, k2, k3, k4⟩ := sweep hd ht hf hcu.symm hsn.symm he
  have hel : (y :: l).length ≤ 17 := by
    have := he.2.2.1.len
    have := hgt_le hd ht (c := !cu) he.1
    rw [List.length_cons]
    omega
  have hLQ : LQ b w n (y :: l) cu := by
    refine ⟨pre, x, l', k1, by rw [← k2]; exact k3, k4, fun z l2 hz => ?_⟩
    rw [hz] at k1
    have h1 := he.2.2.1.adj k1
    have e3 : ((!cu) ^^ decide (pre.length % 2 = 1)) = !(cu ^^ decide (pre.length % 2 = 1)) := by cases cu <;> simp
    rw [e3] at h1
    exact ⟨h1.1, h1.2.2⟩
  have hKK := hK _ _ hLQ hel
  generalize y :: l = e at hKK ⊢
  simp (disch := omega) only [RA, ↓reduceIte, Nat.reduceEqDiff, Nat.reduceBEq, Nat.reduceSub, Nat.reduceAdd, Nat.reduceMul, Nat.reduceLT, Nat.reduceLeDiff, Int.reduceLE, Int.reduceLT, Int.reduceEq, Int.reduceNeg, Int.reduceToNat, Int.reduceMul, Int.reduceAdd, Int.reduceSub, Int.reduceBEq, Int.reduceBNe, reduceCtorEq, RD]
  refine hKr _ _ ?_
  clear hKr Kr
  try simp only [blkQ, thenQ, loopQ]
  try simp only [RN, reduceIte]
  try refine T_e rfl ?_
  refine bodyQ_ret (by simp (disch := omega) only [RA, ↓reduceIte, Nat.reduceEqDiff, Nat.reduceBEq, Nat.reduceSub, Nat.reduceAdd, Nat.reduceMul, Nat.reduceLT, Nat.reduceLeDiff, Int.reduceLE, Int.reduceLT, Int.reduceEq, Int.reduceNeg, Int.reduceToNat, Int.reduceMul, Int.reduceAdd, Int.reduceSub, Int.reduceBEq, Int.reduceBNe, reduceCtorEq, RD, resAll, resOf]; rfl) GhV.refl ?_
  simp only [tup]
  refine ⟨NN.tuple fun c hc => ?_, hKK⟩
  rcases List.mem_cons.1 hc with rfl | hc
  · exact .fz
  · rw [List.mem_singleton.1 hc]
    exact .bool
end
end Go.Bm

/- The least word, the symmetry, the leaves. -/
set_option linter.unusedVariables false
set_option linter.unusedSimpArgs false
namespace Go.Bm
open Go Go.Am

theorem tcode_0 {n : Int} {b w : List Nat} (h : tcode n b w [] = 0) : Des n b w ∧ Tree n.toNat b w := by
  unfold tcode at h
  split at h
  · cases h
  · rename_i g1
    split at h
    · cases h
    · split at h
      · cases h
      · rename_i g3
        exact ⟨Decidable.not_not.1 g1, Decidable.not_not.1 g3⟩
end Go.Bm

/- Diameter and centre of a tree. -/
set_option linter.unusedVariables false
set_option linter.unusedSimpArgs false
namespace Go.Bm
open Go Go.Am

section
variable {n : Nat} {b w : List Nat}
def Cen (b w : List Nat) (n : Nat) (k : Nat) (r : List Nat) : Prop :=
  ∃ c x, Mid b w n c x k ∧ ((k % 2 = 1 ∧ r = [2, x]) ∨ (k % 2 = 0 ∧ r = [ct c, nl (vl b w n (ends b w n c x)) 0]))
theorem Cen.uniq (hd : Des n b w) (ht : Tree n b w) {k k' : Nat} {r r' : List Nat} (h : Cen b w n k r) (h' : Cen b w n k' r') : k = k' ∧ r = r' := by
  obtain ⟨c, x, h1, h2⟩ := h
  obtain ⟨c', x', h1', h2'⟩ := h'
  obtain ⟨rfl, e2, e3⟩ := h1.uniq hd ht h1'
  refine ⟨rfl, ?_⟩
  rcases h2 with ⟨h2, rfl⟩ | ⟨h2, rfl⟩ <;> rcases h2' with ⟨h2', rfl⟩ | ⟨h2', rfl⟩
  · rw [e2 h2]
  · omega
  · omega
  · rw [(e3 h2).1, (e3 h2).2]
open Classical in
noncomputable def resDi (n : Int) (b w : List Nat) : Nat := if h : ∃ k r, Cen b w n.toNat k r then h.choose else 0
open Classical in
noncomputable def resCe (n : Int) (b w : List Nat) : List Nat := if h : ∃ k r, Cen b w n.toNat k r then h.choose_spec.choose else []
theorem Cen.res (hd : Des n b w) (ht : Tree n b w) {k : Nat} {r : List Nat} (h : Cen b w n k r) : resDi n b w = k ∧ resCe n b w = r := by
  have hex : ∃ k r, Cen b w (n : Int).toNat k r := ⟨k, r, by rw [Int.toNat_natCast]; exact h⟩
  have h2 : Cen b w n hex.choose hex.choose_spec.choose := hex.choose_spec.choose_spec
  obtain ⟨e1, e2⟩ := h2.uniq hd ht h
  rw [resDi, dif_pos hex, resCe, dif_pos hex]
  exact ⟨e1, e2⟩
/-- The program's longest path tells the centre. -/
theorem LP.cen {e s : List Nat} (h : LP b w n e s) : (e.length % 2 = 1 ∧ Cen b w n e.length [2, nl e (e.length / 2)] ∧ e.length / 2 < e.length) ∨
    (e.length % 2 = 0 ∧ e.length / 2 < s.length ∧ ∃ c x, x < n ∧ nl s (e.length / 2) = ends b w n c x ∧ Cen b w n e.length [ct c, nl (vl b w n (ends b w n c x)) 0]) := by
  obtain ⟨cu, pre, x, l, h1, h2, h3, h4, h5⟩ := h
  have hel : e.length = pre.length + (l.length + 1) := by rw [h1]; simp
  rcases h4 with h4 | h4
  · refine .inl ⟨by omega, ?_, by omega⟩
    have e1 : e.length / 2 = pre.length := by omega
    have e2 : nl e pre.length = x := by rw [h1]; exact nl_app
    rw [e1, e2]
    exact ⟨_, x, h3, .inl ⟨by omega, rfl⟩⟩
  · refine .inr ⟨by omega, by omega, _, x, h3.1, by rw [show e.length / 2 = pre.length + 1 by omega]; exact h5, _, x, h3, .inr ⟨by omega, rfl⟩⟩
/-- The reference's longest path tells the centre. -/
theorem LQ.cen {e : List Nat} {cu : Bool} (h : LQ b w n e cu) : (e.length % 2 = 1 ∧ Cen b w n e.length [2, nl e (e.length / 2)] ∧ e.length / 2 < e.length) ∨
    (e.length % 2 = 0 ∧ e.length / 2 < e.length ∧ ∃ c y, c = (cu != decide (e.length / 2 % 2 = 1)) ∧ y < n ∧ nl e (e.length / 2) = y ∧ Cen b w n e.length [ct c, nl (vl b w n (ends b w n c y)) 0]) := by
  obtain ⟨pre, x, l, h1, h3, h4, h5⟩ := h
  have hel : e.length = pre.length + (l.length + 1) := by rw [h1]; simp
  rcases h4 with h4 | h4
  · refine .inl ⟨by omega, ?_, by omega⟩
    have e1 : e.length / 2 = pre.length := by omega
    have e2 : nl e pre.length = x := by rw [h1]; exact nl_app
    rw [e1, e2]
    exact ⟨_, x, h3, .inl ⟨by omega, rfl⟩⟩
  · match l, h4, h5 with
    | y :: l', h4, h5 =>
      obtain ⟨k1, k2⟩ := h5 y l' rfl
      have e1 : e.length / 2 = pre.length + 1 := by rw [List.length_cons] at h4 hel; omega
      have e2 : nl e (pre.length + 1) = y := by
        rw [h1]
        simp [nl, List.getD]
      have e3 : (!(cu ^^ decide (pre.length % 2 = 1))) = (cu != decide ((pre.length + 1) % 2 = 1)) := by
        rcases Nat.mod_two_eq_zero_or_one pre.length with e | e <;> cases cu <;> simp [e] <;> omega
      rw [List.length_cons] at h4 hel
      refine .inr ⟨by omega, by omega, _, y, rfl, k1, by rw [e1, e2], ?_⟩
      rw [e1, ← e3, k2]
      exact ⟨_, x, h3, .inr ⟨by omega, rfl⟩⟩
end
end Go.Bm

/- Leaves. -/
set_option linter.unusedVariables false
set_option linter.unusedSimpArgs false
namespace Go.Bm
open Go Go.Am

end Go.Bm

/- The centre of a tree: the walks. -/
set_option linter.unusedVariables false
set_option linter.unusedSimpArgs false
namespace Go.Bm
open Go Go.Am

theorem half_q {k : Nat} : (k : Int).tdiv 2 = ((k / 2 : Nat) : Int) := by
  rw [show (2 : Int) = ((2 : Nat) : Int) from rfl, ← Int.ofNat_tdiv]
theorem odd_q {k : Nat} : decide ((k : Int).tmod 2 = 1) = decide (k % 2 = 1) := by
  rw [show (2 : Int) = ((2 : Nat) : Int) from rfl, ← Int.ofNat_tmod]
  exact decide_eq_decide.2 (by omega)
theorem impl_CentreOf_nil {x : Bool} {n : Int} {b w : List Nat} {H : BH} {K : Value → BH → Prop} (hb : By 16 b) (hw : By 16 w) (hd : ¬ tcode n b w [] = 0)
    (hK : K (.tuple ⟨[.slice none 0 0, I (tcode n b w [])]⟩) H) : CallX x F_impl_CentreOf [DV n b w] H K := by
  have hlb := hb.len
  have hlw := hw.len
  refine callP (.cons nn_D .nil) ?_
  refine CallX_body Γ_impl_CentreOf ?_
  simp only [A_impl_CentreOf, T_aiff]
  refine T_rseq fun Kr hKr => ?_
  simp (disch := omega) only [RA, ↓reduceIte, Nat.reduceEqDiff, Nat.reduceBEq, Nat.reduceSub, Nat.reduceAdd, Nat.reduceMul, Nat.reduceLT, Nat.reduceLeDiff, Int.reduceLE, Int.reduceLT, Int.reduceEq, Int.reduceNeg, Int.reduceToNat, Int.reduceMul, Int.reduceAdd, Int.reduceSub, Int.reduceBEq, Int.reduceBNe, reduceCtorEq, RD, RDS]
  refine hKr _ _ ?_
  clear hKr Kr
  try simp only [RN, reduceIte]
  try refine T_e rfl ?_
  refine T_rseq fun Kr hKr => ?_
  simp (disch := omega) only [RA, ↓reduceIte, Nat.reduceEqDiff, Nat.reduceBEq, Nat.reduceSub, Nat.reduceAdd, Nat.reduceMul, Nat.reduceLT, Nat.reduceLeDiff, Int.reduceLE, Int.reduceLT, Int.reduceEq, Int.reduceNeg, Int.reduceToNat, Int.reduceMul, Int.reduceAdd, Int.reduceSub, Int.reduceBEq, Int.reduceBNe, reduceCtorEq, RD, RDS, RDD]
  refine callNil 1 ?_
  simp only [List.map_cons, List.map_nil, unnil]
  refine treeCode_spec (xs := []) hb hw (by simp) ?_
  simp (disch := omega) only [RA, ↓reduceIte, Nat.reduceEqDiff, Nat.reduceBEq, Nat.reduceSub, Nat.reduceAdd, Nat.reduceMul, Nat.reduceLT, Nat.reduceLeDiff, Int.reduceLE, Int.reduceLT, Int.reduceEq, Int.reduceNeg, Int.reduceToNat, Int.reduceMul, Int.reduceAdd, Int.reduceSub, Int.reduceBEq, Int.reduceBNe, reduceCtorEq, RD]
  refine hKr _ _ ?_
  clear hKr Kr
  try simp only [blkQ, thenQ, loopQ]
  try simp only [RN, reduceIte]
  try refine T_e rfl ?_
  refine T_rseq fun Kr hKr => ?_
  simp (disch := omega) only [RA, ↓reduceIte, Nat.reduceEqDiff, Nat.reduceBEq, Nat.reduceSub, Nat.reduceAdd, Nat.reduceMul, Nat.reduceLT, Nat.reduceLeDiff, Int.reduceLE, Int.reduceLT, Int.reduceEq, Int.reduceNeg, Int.reduceToNat, Int.reduceMul, Int.reduceAdd, Int.reduceSub, Int.reduceBEq, Int.reduceBNe, reduceCtorEq, RD]
  refine hKr _ _ ?_
  clear hKr Kr
  try simp only [RN, reduceIte]
  try refine T_e rfl ?_
  refine T_cseq (t := true) (by simp (disch := omega) only [RA, ↓reduceIte, Nat.reduceEqDiff, Nat.reduceBEq, Nat.reduceSub, Nat.reduceAdd, Nat.reduceMul, Nat.reduceLT, Nat.reduceLeDiff, Int.reduceLE, Int.reduceLT, Int.reduceEq, Int.reduceNeg, Int.reduceToNat, Int.reduceMul, Int.reduceAdd, Int.reduceSub, Int.reduceBEq, Int.reduceBNe, reduceCtorEq, RD]) ?_
  try simp only [RN, reduceIte]
  try refine T_e rfl ?_
  refine T_rseq fun Kr hKr => ?_
  simp (disch := omega) only [RA, ↓reduceIte, Nat.reduceEqDiff, Nat.reduceBEq, Nat.reduceSub, Nat.reduceAdd, Nat.reduceMul, Nat.reduceLT, Nat.reduceLeDiff, Int.reduceLE, Int.reduceLT, Int.reduceEq, Int.reduceNeg, Int.reduceToNat, Int.reduceMul, Int.reduceAdd, Int.reduceSub, Int.reduceBEq, Int.reduceBNe, reduceCtorEq, RD]
  refine hKr _ _ ?_
  clear hKr Kr
  try simp only [RN, reduceIte]
  try refine T_e rfl ?_
  refine bodyQ_ret (by simp (disch := omega) only [RA, ↓reduceIte, Nat.reduceEqDiff, Nat.reduceBEq, Nat.reduceSub, Nat.reduceAdd, Nat.reduceMul, Nat.reduceLT, Nat.reduceLeDiff, Int.reduceLE, Int.reduceLT, Int.reduceEq, Int.reduceNeg, Int.reduceToNat, Int.reduceMul, Int.reduceAdd, Int.reduceSub, Int.reduceBEq, Int.reduceBNe, reduceCtorEq, RD, resAll, resOf]; rfl) GhV.refl ?_
  simp only [tup]
  exact ⟨NN.tuple (NNL.cons NN.nil (NNL.cons NN.int NNL.nil)), hK⟩
theorem spec_CentreOf_nil {x : Bool} {n : Int} {b w : List Nat} {H : BH} {K : Value → BH → Prop} (hb : By 16 b) (hw : By 16 w) (hd : ¬ tcode n b w [] = 0)
    (hK : K (.tuple ⟨[.slice none 0 0, I (tcode n b w [])]⟩) H) : CallX x F_spec_CentreOf [DV n b w] H K := by
  have hlb := hb.len
  have hlw := hw.len
  refine callP (.cons nn_D .nil) ?_
  refine CallX_body Γ_spec_CentreOf ?_
  simp only [A_spec_CentreOf, T_aiff]
  refine T_rseq fun Kr hKr => ?_
  simp (disch := omega) only [RA, ↓reduceIte, Nat.reduceEqDiff, Nat.reduceBEq, Nat.reduceSub, Nat.reduceAdd, Nat.reduceMul, Nat.reduceLT, Nat.reduceLeDiff, Int.reduceLE, Int.reduceLT, Int.reduceEq, Int.reduceNeg, Int.reduceToNat, Int.reduceMul, Int.reduceAdd, Int.reduceSub, Int.reduceBEq, Int.reduceBNe, reduceCtorEq, RD, RDS]
  refine hKr _ _ ?_
  clear hKr Kr
  try simp only [RN, reduceIte]
  try refine T_e rfl ?_
  refine T_rseq fun Kr hKr => ?_
  simp (disch := omega) only [RA, ↓reduceIte, Nat.reduceEqDiff, Nat.reduceBEq, Nat.reduceSub, Nat.reduceAdd, Nat.reduceMul, Nat.reduceLT, Nat.reduceLeDiff, Int.reduceLE, Int.reduceLT, Int.reduceEq, Int.reduceNeg, Int.reduceToNat, Int.reduceMul, Int.reduceAdd, Int.reduceSub, Int.reduceBEq, Int.reduceBNe, reduceCtorEq, RD, RDS, RDD]
  refine l05Code_spec hb hw ?_
  simp (disch := omega) only [RA, ↓reduceIte, Nat.reduceEqDiff, Nat.reduceBEq, Nat.reduceSub, Nat.reduceAdd, Nat.reduceMul, Nat.reduceLT, Nat.reduceLeDiff, Int.reduceLE, Int.reduceLT, Int.reduceEq, Int.reduceNeg, Int.reduceToNat, Int.reduceMul, Int.reduceAdd, Int.reduceSub, Int.reduceBEq, Int.reduceBNe, reduceCtorEq, RD]
  refine hKr _ _ ?_
  clear hKr Kr
  try simp only [blkQ, thenQ, loopQ]
  try simp only [RN, reduceIte]
  try refine T_e rfl ?_
  refine T_rseq fun Kr hKr => ?_
  simp (disch := omega) only [RA, ↓reduceIte, Nat.reduceEqDiff, Nat.reduceBEq, Nat.reduceSub, Nat.reduceAdd, Nat.reduceMul, Nat.reduceLT, Nat.reduceLeDiff, Int.reduceLE, Int.reduceLT, Int.reduceEq, Int.reduceNeg, Int.reduceToNat, Int.reduceMul, Int.reduceAdd, Int.reduceSub, Int.reduceBEq, Int.reduceBNe, reduceCtorEq, RD]
  refine hKr _ _ ?_
  clear hKr Kr
  try simp only [RN, reduceIte]
  try refine T_e rfl ?_
  refine T_cseq (t := true) (by simp (disch := omega) only [RA, ↓reduceIte, Nat.reduceEqDiff, Nat.reduceBEq, Nat.reduceSub, Nat.reduceAdd, Nat.reduceMul, Nat.reduceLT, Nat.reduceLeDiff, Int.reduceLE, Int.reduceLT, Int.reduceEq, Int.reduceNeg, Int.reduceToNat, Int.reduceMul, Int.reduceAdd, Int.reduceSub, Int.reduceBEq, Int.reduceBNe, reduceCtorEq, RD]) ?_
  try simp only [RN, reduceIte]
  try refine T_e rfl ?_
  refine T_rseq fun Kr hKr => ?_
  simp (disch := omega) only [RA, ↓reduceIte, Nat.reduceEqDiff, Nat.reduceBEq, Nat.reduceSub, Nat.reduceAdd, Nat.reduceMul, Nat.reduceLT, Nat.reduceLeDiff, Int.reduceLE, Int.reduceLT, Int.reduceEq, Int.reduceNeg, Int.reduceToNat, Int.reduceMul, Int.reduceAdd, Int.reduceSub, Int.reduceBEq, Int.reduceBNe, reduceCtorEq, RD]
  refine hKr _ _ ?_
  clear hKr Kr
  try simp only [RN, reduceIte]
  try refine T_e rfl ?_
  refine bodyQ_ret (by simp (disch := omega) only [RA, ↓reduceIte, Nat.reduceEqDiff, Nat.reduceBEq, Nat.reduceSub, Nat.reduceAdd, Nat.reduceMul, Nat.reduceLT, Nat.reduceLeDiff, Int.reduceLE, Int.reduceLT, Int.reduceEq, Int.reduceNeg, Int.reduceToNat, Int.reduceMul, Int.reduceAdd, Int.reduceSub, Int.reduceBEq, Int.reduceBNe, reduceCtorEq, RD, resAll, resOf]; rfl) GhV.refl ?_
  simp only [tup]
  exact ⟨NN.tuple (NNL.cons NN.nil (NNL.cons NN.int NNL.nil)), hK⟩
theorem impl_CentreOf_own {x : Bool} {n : Int} {b w : List Nat} {H : BH} {K : Value → BH → Prop} (hb : By 16 b) (hw : By 16 w) (hd : tcode n b w [] = 0)
    (hK : K (.tuple ⟨[S H.length 0 (resCe n b w).length 1, I 0]⟩) (H ++ [some ((resCe n b w).map N64)])) : CallX x F_impl_CentreOf [DV n b w] H K := by
  have hlb := hb.len
  have hlw := hw.len
  obtain ⟨h1, ht⟩ := tcode_0 hd
  obtain ⟨m, rfl, hm1, hm2⟩ := h1.n0
  rw [Int.toNat_natCast] at ht
  refine callRI (.cons nn_D .nil) (CallX.mono (K := fun v H1 => ∃ j, v = .tuple ⟨[S j 0 (resCe m b w).length 1, I 0]⟩ ∧ blk H1 j = some ((resCe m b w).map N64)) ?_ fun v H1 ⟨j, h1, h2⟩ => ⟨j, _, _, _, _, _, h1, h2, NNL_64, hK⟩)
  refine CallX_body Γ_impl_CentreOf ?_
  simp only [A_impl_CentreOf, T_aiff]
  refine T_rseq fun Kr hKr => ?_
  simp (disch := omega) only [RA, ↓reduceIte, Nat.reduceEqDiff, Nat.reduceBEq, Nat.reduceSub, Nat.reduceAdd, Nat.reduceMul, Nat.reduceLT, Nat.reduceLeDiff, Int.reduceLE, Int.reduceLT, Int.reduceEq, Int.reduceNeg, Int.reduceToNat, Int.reduceMul, Int.reduceAdd, Int.reduceSub, Int.reduceBEq, Int.reduceBNe, reduceCtorEq, RD, RDS]
  refine hKr _ _ ?_
  clear hKr Kr
  try simp only [RN, reduceIte]
  try refine T_e rfl ?_
  refine T_rseq fun Kr hKr => ?_
  simp (disch := omega) only [RA, ↓reduceIte, Nat.reduceEqDiff, Nat.reduceBEq, Nat.reduceSub, Nat.reduceAdd, Nat.reduceMul, Nat.reduceLT, Nat.reduceLeDiff, Int.reduceLE, Int.reduceLT, Int.reduceEq, Int.reduceNeg, Int.reduceToNat, Int.reduceMul, Int.reduceAdd, Int.reduceSub, Int.reduceBEq, Int.reduceBNe, reduceCtorEq, RD, RDS, RDD]
  refine callNil 1 ?_
  simp only [List.map_cons, List.map_nil, unnil]
  refine treeCode_spec (xs := []) hb hw (by simp) ?_
  rw [hd]
  simp (disch := omega) only [RA, ↓reduceIte, Nat.reduceEqDiff, Nat.reduceBEq, Nat.reduceSub, Nat.reduceAdd, Nat.reduceMul, Nat.reduceLT, Nat.reduceLeDiff, Int.reduceLE, Int.reduceLT, Int.reduceEq, Int.reduceNeg, Int.reduceToNat, Int.reduceMul, Int.reduceAdd, Int.reduceSub, Int.reduceBEq, Int.reduceBNe, reduceCtorEq, RD]
  refine hKr _ _ ?_
  clear hKr Kr
  try simp only [blkQ, thenQ, loopQ]
  try simp only [RN, reduceIte]
  try refine T_e rfl ?_
  refine T_rseq fun Kr hKr => ?_
  simp (disch := omega) only [RA, ↓reduceIte, Nat.reduceEqDiff, Nat.reduceBEq, Nat.reduceSub, Nat.reduceAdd, Nat.reduceMul, Nat.reduceLT, Nat.reduceLeDiff, Int.reduceLE, Int.reduceLT, Int.reduceEq, Int.reduceNeg, Int.reduceToNat, Int.reduceMul, Int.reduceAdd, Int.reduceSub, Int.reduceBEq, Int.reduceBNe, reduceCtorEq, RD]
  refine hKr _ _ ?_
  clear hKr Kr
  try simp only [RN, reduceIte]
  try refine T_e rfl ?_
  refine T_cseq (t := false) (by simp (disch := omega) only [RA, ↓reduceIte, Nat.reduceEqDiff, Nat.reduceBEq, Nat.reduceSub, Nat.reduceAdd, Nat.reduceMul, Nat.reduceLT, Nat.reduceLeDiff, Int.reduceLE, Int.reduceLT, Int.reduceEq, Int.reduceNeg, Int.reduceToNat, Int.reduceMul, Int.reduceAdd, Int.reduceSub, Int.reduceBEq, Int.reduceBNe, reduceCtorEq, RD]) ?_
  try simp only [RN, reduceIte]
  try refine T_e rfl ?_
  refine T_rseq fun Kr hKr => ?_
  simp (disch := omega) only [RA, ↓reduceIte, Nat.reduceEqDiff, Nat.reduceBEq, Nat.reduceSub, Nat.reduceAdd, Nat.reduceMul, Nat.reduceLT, Nat.reduceLeDiff, Int.reduceLE, Int.reduceLT, Int.reduceEq, Int.reduceNeg, Int.reduceToNat, Int.reduceMul, Int.reduceAdd, Int.reduceSub, Int.reduceBEq, Int.reduceBNe, reduceCtorEq, RD, RDS, RDD]
  refine longest_spec hb hw h1 ht fun e s he hel => ?_
  have hq := @half_q e.length
  simp (disch := omega) only [RA, ↓reduceIte, Nat.reduceEqDiff, Nat.reduceBEq, Nat.reduceSub, Nat.reduceAdd, Nat.reduceMul, Nat.reduceLT, Nat.reduceLeDiff, Int.reduceLE, Int.reduceLT, Int.reduceEq, Int.reduceNeg, Int.reduceToNat, Int.reduceMul, Int.reduceAdd, Int.reduceSub, Int.reduceBEq, Int.reduceBNe, reduceCtorEq, RD]
  refine hKr _ _ ?_
  clear hKr Kr
  try simp only [blkQ, thenQ, loopQ]
  try simp only [RN, reduceIte]
  try refine T_e rfl ?_
  refine T_rseq fun Kr hKr => ?_
  simp (disch := omega) only [RA, ↓reduceIte, Nat.reduceEqDiff, Nat.reduceBEq, Nat.reduceSub, Nat.reduceAdd, Nat.reduceMul, Nat.reduceLT, Nat.reduceLeDiff, Int.reduceLE, Int.reduceLT, Int.reduceEq, Int.reduceNeg, Int.reduceToNat, Int.reduceMul, Int.reduceAdd, Int.reduceSub, Int.reduceBEq, Int.reduceBNe, reduceCtorEq, RD, hq]
  refine hKr _ _ ?_
  clear hKr Kr
  try simp only [RN, reduceIte]
  try refine T_e rfl ?_
  rcases he.cen with ⟨k1, k2, k3⟩ | ⟨k1, k3, c, x, hx, k4, k2⟩
  · have hr := (k2.res h1 ht).2
    have ho : decide ((e.length : Int).tmod 2 = 1) = true := by rw [odd_q]; simp [k1]
    refine T_rseq fun Kr hKr => ?_
    simp (disch := omega) only [RA, ↓reduceIte, Nat.reduceEqDiff, Nat.reduceBEq, Nat.reduceSub, Nat.reduceAdd, Nat.reduceMul, Nat.reduceLT, Nat.reduceLeDiff, Int.reduceLE, Int.reduceLT, Int.reduceEq, Int.reduceNeg, Int.reduceToNat, Int.reduceMul, Int.reduceAdd, Int.reduceSub, Int.reduceBEq, Int.reduceBNe, reduceCtorEq, RD, ho]
    refine hKr _ _ ?_
    clear hKr Kr
    try simp only [RN, reduceIte]
    try refine T_e rfl ?_
    refine T_cseq (t := true) (by simp (disch := omega) only [RA, ↓reduceIte, Nat.reduceEqDiff, Nat.reduceBEq, Nat.reduceSub, Nat.reduceAdd, Nat.reduceMul, Nat.reduceLT, Nat.reduceLeDiff, Int.reduceLE, Int.reduceLT, Int.reduceEq, Int.reduceNeg, Int.reduceToNat, Int.reduceMul, Int.reduceAdd, Int.reduceSub, Int.reduceBEq, Int.reduceBNe, reduceCtorEq, RD]) ?_
    try simp only [RN, reduceIte]
    try refine T_e rfl ?_
    refine T_rseq fun Kr hKr => ?_
    simp (disch := omega) only [RA, ↓reduceIte, Nat.reduceEqDiff, Nat.reduceBEq, Nat.reduceSub, Nat.reduceAdd, Nat.reduceMul, Nat.reduceLT, Nat.reduceLeDiff, Int.reduceLE, Int.reduceLT, Int.reduceEq, Int.reduceNeg, Int.reduceToNat, Int.reduceMul, Int.reduceAdd, Int.reduceSub, Int.reduceBEq, Int.reduceBNe, reduceCtorEq, RD, getN_64]
    refine hKr _ _ ?_
    clear hKr Kr
    try simp only [RN, reduceIte]
    try refine T_e rfl ?_
    refine bodyQ_ret (by simp (disch := omega) only [RA, ↓reduceIte, Nat.reduceEqDiff, Nat.reduceBEq, Nat.reduceSub, Nat.reduceAdd, Nat.reduceMul, Nat.reduceLT, Nat.reduceLeDiff, Int.reduceLE, Int.reduceLT, Int.reduceEq, Int.reduceNeg, Int.reduceToNat, Int.reduceMul, Int.reduceAdd, Int.reduceSub, Int.reduceBEq, Int.reduceBNe, reduceCtorEq, RD, resAll, resOf]; rfl) GhV.refl ?_
    simp only [tup]
    rw [hr]
    exact ⟨_, rfl, rfl⟩
  · have hr := (k2.res h1 ht).2
    have ho : decide ((e.length : Int).tmod 2 = 1) = false := by rw [odd_q]; simp [k1]
    have hv := ends_lt h1 (c := c) hx
    have hvl := vl_len h1 hv
    have hvi : (verts b w m).getD (ends b w m c x) [] = vl b w m (ends b w m c x) := rfl
    have hv0 : 0 < (vl b w m (ends b w m c x)).length := List.length_pos_of_mem ((vl_ends h1 hx).2 ⟨hx, rfl⟩)
    have hvc := verts_le h1
    refine T_rseq fun Kr hKr => ?_
    simp (disch := omega) only [RA, ↓reduceIte, Nat.reduceEqDiff, Nat.reduceBEq, Nat.reduceSub, Nat.reduceAdd, Nat.reduceMul, Nat.reduceLT, Nat.reduceLeDiff, Int.reduceLE, Int.reduceLT, Int.reduceEq, Int.reduceNeg, Int.reduceToNat, Int.reduceMul, Int.reduceAdd, Int.reduceSub, Int.reduceBEq, Int.reduceBNe, reduceCtorEq, RD, ho]
    refine hKr _ _ ?_
    clear hKr Kr
    try simp only [RN, reduceIte]
    try refine T_e rfl ?_
    refine T_cseq (t := false) (by simp (disch := omega) only [RA, ↓reduceIte, Nat.reduceEqDiff, Nat.reduceBEq, Nat.reduceSub, Nat.reduceAdd, Nat.reduceMul, Nat.reduceLT, Nat.reduceLeDiff, Int.reduceLE, Int.reduceLT, Int.reduceEq, Int.reduceNeg, Int.reduceToNat, Int.reduceMul, Int.reduceAdd, Int.reduceSub, Int.reduceBEq, Int.reduceBNe, reduceCtorEq, RD]) ?_
    try simp only [RN, reduceIte]
    try refine T_e rfl ?_
    refine T_rseq fun Kr hKr => ?_
    simp (disch := omega) only [RA, ↓reduceIte, Nat.reduceEqDiff, Nat.reduceBEq, Nat.reduceSub, Nat.reduceAdd, Nat.reduceMul, Nat.reduceLT, Nat.reduceLeDiff, Int.reduceLE, Int.reduceLT, Int.reduceEq, Int.reduceNeg, Int.reduceToNat, Int.reduceMul, Int.reduceAdd, Int.reduceSub, Int.reduceBEq, Int.reduceBNe, reduceCtorEq, RD, RDS, RDD]
    refine vertices_spec hb hw h1 ?_
    simp (disch := omega) only [RA, ↓reduceIte, Nat.reduceEqDiff, Nat.reduceBEq, Nat.reduceSub, Nat.reduceAdd, Nat.reduceMul, Nat.reduceLT, Nat.reduceLeDiff, Int.reduceLE, Int.reduceLT, Int.reduceEq, Int.reduceNeg, Int.reduceToNat, Int.reduceMul, Int.reduceAdd, Int.reduceSub, Int.reduceBEq, Int.reduceBNe, reduceCtorEq, RD]
    refine hKr _ _ ?_
    clear hKr Kr
    try simp only [blkQ, thenQ, loopQ]
    try simp only [RN, reduceIte]
    try refine T_e rfl ?_
    refine T_rseq fun Kr hKr => ?_
    simp (disch := omega) only [RA, ↓reduceIte, Nat.reduceEqDiff, Nat.reduceBEq, Nat.reduceSub, Nat.reduceAdd, Nat.reduceMul, Nat.reduceLT, Nat.reduceLeDiff, Int.reduceLE, Int.reduceLT, Int.reduceEq, Int.reduceNeg, Int.reduceToNat, Int.reduceMul, Int.reduceAdd, Int.reduceSub, Int.reduceBEq, Int.reduceBNe, reduceCtorEq, RD]
    refine hKr _ _ ?_
    clear hKr Kr
    try simp only [RN, reduceIte]
    try refine T_e rfl ?_
    refine T_rseq fun Kr hKr => ?_
    simp (disch := omega) only [RA, ↓reduceIte, Nat.reduceEqDiff, Nat.reduceBEq, Nat.reduceSub, Nat.reduceAdd, Nat.reduceMul, Nat.reduceLT, Nat.reduceLeDiff, Int.reduceLE, Int.reduceLT, Int.reduceEq, Int.reduceNeg, Int.reduceToNat, Int.reduceMul, Int.reduceAdd, Int.reduceSub, Int.reduceBEq, Int.reduceBNe, reduceCtorEq, RD, RDS, RDD, getN_64, k4]
    refine cycles_spec hb h1.1 ?_
    simp (disch := omega) only [RA, ↓reduceIte, Nat.reduceEqDiff, Nat.reduceBEq, Nat.reduceSub, Nat.reduceAdd, Nat.reduceMul, Nat.reduceLT, Nat.reduceLeDiff, Int.reduceLE, Int.reduceLT, Int.reduceEq, Int.reduceNeg, Int.reduceToNat, Int.reduceMul, Int.reduceAdd, Int.reduceSub, Int.reduceBEq, Int.reduceBNe, reduceCtorEq, RD]
    refine hKr _ _ ?_
    clear hKr Kr
    try simp only [blkQ, thenQ, loopQ]
    try simp only [RN, reduceIte]
    try refine T_e rfl ?_
    have hcl : c = decide ((cyc b m).length ≤ ends b w m c x) := by
      cases c
      · have := vix_lt h1.1 hx
        simp only [ends, Bool.false_eq_true, if_false]
        simp; omega
      · simp [ends]
    cases c with
    | false =>
      have hcl2 : ¬ (cyc b m).length ≤ ends b w m false x := by simpa using hcl.symm
      refine T_cseq (t := false) (by simp (disch := omega) only [RA, ↓reduceIte, Nat.reduceEqDiff, Nat.reduceBEq, Nat.reduceSub, Nat.reduceAdd, Nat.reduceMul, Nat.reduceLT, Nat.reduceLeDiff, Int.reduceLE, Int.reduceLT, Int.reduceEq, Int.reduceNeg, Int.reduceToNat, Int.reduceMul, Int.reduceAdd, Int.reduceSub, Int.reduceBEq, Int.reduceBNe, reduceCtorEq, RD]) ?_
      try simp only [RN, reduceIte]
      try refine T_e rfl ?_
      refine T_rseq fun Kr hKr => ?_
      simp (disch := omega) only [RA, ↓reduceIte, Nat.reduceEqDiff, Nat.reduceBEq, Nat.reduceSub, Nat.reduceAdd, Nat.reduceMul, Nat.reduceLT, Nat.reduceLeDiff, Int.reduceLE, Int.reduceLT, Int.reduceEq, Int.reduceNeg, Int.reduceToNat, Int.reduceMul, Int.reduceAdd, Int.reduceSub, Int.reduceBEq, Int.reduceBNe, reduceCtorEq, RD, getN_64, k4, getN_FN, hvi]
      refine hKr _ _ ?_
      clear hKr Kr
      try simp only [RN, reduceIte]
      try refine T_e rfl ?_
      refine bodyQ_ret (by simp (disch := omega) only [RA, ↓reduceIte, Nat.reduceEqDiff, Nat.reduceBEq, Nat.reduceSub, Nat.reduceAdd, Nat.reduceMul, Nat.reduceLT, Nat.reduceLeDiff, Int.reduceLE, Int.reduceLT, Int.reduceEq, Int.reduceNeg, Int.reduceToNat, Int.reduceMul, Int.reduceAdd, Int.reduceSub, Int.reduceBEq, Int.reduceBNe, reduceCtorEq, RD, resAll, resOf]; rfl) GhV.refl ?_
      simp only [tup]
      rw [hr]
      exact ⟨_, rfl, rfl⟩
    | true =>
      have hcl2 : (cyc b m).length ≤ ends b w m true x := by simpa using hcl.symm
      refine T_cseq (t := true) (by simp (disch := omega) only [RA, ↓reduceIte, Nat.reduceEqDiff, Nat.reduceBEq, Nat.reduceSub, Nat.reduceAdd, Nat.reduceMul, Nat.reduceLT, Nat.reduceLeDiff, Int.reduceLE, Int.reduceLT, Int.reduceEq, Int.reduceNeg, Int.reduceToNat, Int.reduceMul, Int.reduceAdd, Int.reduceSub, Int.reduceBEq, Int.reduceBNe, reduceCtorEq, RD]) ?_
      try simp only [RN, reduceIte]
      try refine T_e rfl ?_
      refine T_rseq fun Kr hKr => ?_
      simp (disch := omega) only [RA, ↓reduceIte, Nat.reduceEqDiff, Nat.reduceBEq, Nat.reduceSub, Nat.reduceAdd, Nat.reduceMul, Nat.reduceLT, Nat.reduceLeDiff, Int.reduceLE, Int.reduceLT, Int.reduceEq, Int.reduceNeg, Int.reduceToNat, Int.reduceMul, Int.reduceAdd, Int.reduceSub, Int.reduceBEq, Int.reduceBNe, reduceCtorEq, RD]
      refine hKr _ _ ?_
      clear hKr Kr
      try simp only [RN, reduceIte]
      try refine T_e rfl ?_
      refine T_rseq fun Kr hKr => ?_
      simp (disch := omega) only [RA, ↓reduceIte, Nat.reduceEqDiff, Nat.reduceBEq, Nat.reduceSub, Nat.reduceAdd, Nat.reduceMul, Nat.reduceLT, Nat.reduceLeDiff, Int.reduceLE, Int.reduceLT, Int.reduceEq, Int.reduceNeg, Int.reduceToNat, Int.reduceMul, Int.reduceAdd, Int.reduceSub, Int.reduceBEq, Int.reduceBNe, reduceCtorEq, RD, getN_64, k4, getN_FN, hvi]
      refine hKr _ _ ?_
      clear hKr Kr
      try simp only [RN, reduceIte]
      try refine T_e rfl ?_
      refine bodyQ_ret (by simp (disch := omega) only [RA, ↓reduceIte, Nat.reduceEqDiff, Nat.reduceBEq, Nat.reduceSub, Nat.reduceAdd, Nat.reduceMul, Nat.reduceLT, Nat.reduceLeDiff, Int.reduceLE, Int.reduceLT, Int.reduceEq, Int.reduceNeg, Int.reduceToNat, Int.reduceMul, Int.reduceAdd, Int.reduceSub, Int.reduceBEq, Int.reduceBNe, reduceCtorEq, RD, resAll, resOf]; rfl) GhV.refl ?_
      simp only [tup]
      rw [hr]
      exact ⟨_, rfl, rfl⟩
theorem min_ii {k : IntKind} {x y : Int} : foldV min2 [.int k x, .int k y] = some (.int k (if y < x then y else x)) := by
  simp [foldV, min2]
theorem vl_least {n : Nat} {b w : List Nat} (hd : Des n b w) {v : Nat} (hv : v < (verts b w n).length) : ∀ x ∈ vl b w n v, nl (vl b w n v) 0 ≤ x := by
  rw [vl_eq hv]
  have : (verts b w n)[v] ∈ cyc b n ++ cyc w n := List.getElem_mem hv
  rcases List.mem_append.1 this with h1 | h1
  · exact (cyc_is hd.1 h1).least
  · exact (cyc_is hd.2.1 h1).least
theorem spec_CentreOf_own {x : Bool} {n : Int} {b w : List Nat} {H : BH} {K : Value → BH → Prop} (hb : By 16 b) (hw : By 16 w) (hd : tcode n b w [] = 0)
    (hK : K (.tuple ⟨[S H.length 0 (resCe n b w).length 1, I 0]⟩) (H ++ [some ((resCe n b w).map N64)])) : CallX x F_spec_CentreOf [DV n b w] H K := by
  have hlb := hb.len
  have hlw := hw.len
  obtain ⟨h1, ht⟩ := tcode_0 hd
  obtain ⟨m, rfl, hm1, hm2⟩ := h1.n0
  rw [Int.toNat_natCast] at ht
  refine callRI (.cons nn_D .nil) (CallX.mono (K := fun v H1 => ∃ j, v = .tuple ⟨[S j 0 (resCe m b w).length 1, I 0]⟩ ∧ blk H1 j = some ((resCe m b w).map N64)) ?_ fun v H1 ⟨j, h1, h2⟩ => ⟨j, _, _, _, _, _, h1, h2, NNL_64, hK⟩)
  refine CallX_body Γ_spec_CentreOf ?_
  simp only [A_spec_CentreOf, T_aiff]
  refine T_rseq fun Kr hKr => ?_
  simp (disch := omega) only [RA, ↓reduceIte, Nat.reduceEqDiff, Nat.reduceBEq, Nat.reduceSub, Nat.reduceAdd, Nat.reduceMul, Nat.reduceLT, Nat.reduceLeDiff, Int.reduceLE, Int.reduceLT, Int.reduceEq, Int.reduceNeg, Int.reduceToNat, Int.reduceMul, Int.reduceAdd, Int.reduceSub, Int.reduceBEq, Int.reduceBNe, reduceCtorEq, RD, RDS]
  refine hKr _ _ ?_
  clear hKr Kr
  try simp only [RN, reduceIte]
  try refine T_e rfl ?_
  refine T_rseq fun Kr hKr => ?_
  simp (disch := omega) only [RA, ↓reduceIte, Nat.reduceEqDiff, Nat.reduceBEq, Nat.reduceSub, Nat.reduceAdd, Nat.reduceMul, Nat.reduceLT, Nat.reduceLeDiff, Int.reduceLE, Int.reduceLT, Int.reduceEq, Int.reduceNeg, Int.reduceToNat, Int.reduceMul, Int.reduceAdd, Int.reduceSub, Int.reduceBEq, Int.reduceBNe, reduceCtorEq, RD, RDS, RDD]
  refine l05Code_spec hb hw ?_
  rw [hd]
  simp (disch := omega) only [RA, ↓reduceIte, Nat.reduceEqDiff, Nat.reduceBEq, Nat.reduceSub, Nat.reduceAdd, Nat.reduceMul, Nat.reduceLT, Nat.reduceLeDiff, Int.reduceLE, Int.reduceLT, Int.reduceEq, Int.reduceNeg, Int.reduceToNat, Int.reduceMul, Int.reduceAdd, Int.reduceSub, Int.reduceBEq, Int.reduceBNe, reduceCtorEq, RD]
  refine hKr _ _ ?_
  clear hKr Kr
  try simp only [blkQ, thenQ, loopQ]
  try simp only [RN, reduceIte]
  try refine T_e rfl ?_
  refine T_rseq fun Kr hKr => ?_
  simp (disch := omega) only [RA, ↓reduceIte, Nat.reduceEqDiff, Nat.reduceBEq, Nat.reduceSub, Nat.reduceAdd, Nat.reduceMul, Nat.reduceLT, Nat.reduceLeDiff, Int.reduceLE, Int.reduceLT, Int.reduceEq, Int.reduceNeg, Int.reduceToNat, Int.reduceMul, Int.reduceAdd, Int.reduceSub, Int.reduceBEq, Int.reduceBNe, reduceCtorEq, RD]
  refine hKr _ _ ?_
  clear hKr Kr
  try simp only [RN, reduceIte]
  try refine T_e rfl ?_
  refine T_cseq (t := false) (by simp (disch := omega) only [RA, ↓reduceIte, Nat.reduceEqDiff, Nat.reduceBEq, Nat.reduceSub, Nat.reduceAdd, Nat.reduceMul, Nat.reduceLT, Nat.reduceLeDiff, Int.reduceLE, Int.reduceLT, Int.reduceEq, Int.reduceNeg, Int.reduceToNat, Int.reduceMul, Int.reduceAdd, Int.reduceSub, Int.reduceBEq, Int.reduceBNe, reduceCtorEq, RD]) ?_
  try simp only [RN, reduceIte]
  try refine T_e rfl ?_
  refine T_rseq fun Kr hKr => ?_
  simp (disch := omega) only [RA, ↓reduceIte, Nat.reduceEqDiff, Nat.reduceBEq, Nat.reduceSub, Nat.reduceAdd, Nat.reduceMul, Nat.reduceLT, Nat.reduceLeDiff, Int.reduceLE, Int.reduceLT, Int.reduceEq, Int.reduceNeg, Int.reduceToNat, Int.reduceMul, Int.reduceAdd, Int.reduceSub, Int.reduceBEq, Int.reduceBNe, reduceCtorEq, RD, RDS, RDD]
  refine l05Long_spec hb hw h1 ht fun e cu he hel => ?_
  have hq := @half_q e.length
  simp (disch := omega) only [RA, ↓reduceIte, Nat.reduceEqDiff, Nat.reduceBEq, Nat.reduceSub, Nat.reduceAdd, Nat.reduceMul, Nat.reduceLT, Nat.reduceLeDiff, Int.reduceLE, Int.reduceLT, Int.reduceEq, Int.reduceNeg, Int.reduceToNat, Int.reduceMul, Int.reduceAdd, Int.reduceSub, Int.reduceBEq, Int.reduceBNe, reduceCtorEq, RD]
  refine hKr _ _ ?_
  clear hKr Kr
  try simp only [blkQ, thenQ, loopQ]
  try simp only [RN, reduceIte]
  try refine T_e rfl ?_
  refine T_rseq fun Kr hKr => ?_
  simp (disch := omega) only [RA, ↓reduceIte, Nat.reduceEqDiff, Nat.reduceBEq, Nat.reduceSub, Nat.reduceAdd, Nat.reduceMul, Nat.reduceLT, Nat.reduceLeDiff, Int.reduceLE, Int.reduceLT, Int.reduceEq, Int.reduceNeg, Int.reduceToNat, Int.reduceMul, Int.reduceAdd, Int.reduceSub, Int.reduceBEq, Int.reduceBNe, reduceCtorEq, RD, hq]
  refine hKr _ _ ?_
  clear hKr Kr
  try simp only [RN, reduceIte]
  try refine T_e rfl ?_
  rcases he.cen with ⟨k1, k2, k3⟩ | ⟨k1, k3, c, y, hc, hy, k4, k2⟩
  · have hr := (k2.res h1 ht).2
    have ho : decide ((e.length : Int).tmod 2 = 1) = true := by rw [odd_q]; simp [k1]
    refine T_rseq fun Kr hKr => ?_
    simp (disch := omega) only [RA, ↓reduceIte, Nat.reduceEqDiff, Nat.reduceBEq, Nat.reduceSub, Nat.reduceAdd, Nat.reduceMul, Nat.reduceLT, Nat.reduceLeDiff, Int.reduceLE, Int.reduceLT, Int.reduceEq, Int.reduceNeg, Int.reduceToNat, Int.reduceMul, Int.reduceAdd, Int.reduceSub, Int.reduceBEq, Int.reduceBNe, reduceCtorEq, RD, ho]
    refine hKr _ _ ?_
    clear hKr Kr
    try simp only [RN, reduceIte]
    try refine T_e rfl ?_
    refine T_cseq (t := true) (by simp (disch := omega) only [RA, ↓reduceIte, Nat.reduceEqDiff, Nat.reduceBEq, Nat.reduceSub, Nat.reduceAdd, Nat.reduceMul, Nat.reduceLT, Nat.reduceLeDiff, Int.reduceLE, Int.reduceLT, Int.reduceEq, Int.reduceNeg, Int.reduceToNat, Int.reduceMul, Int.reduceAdd, Int.reduceSub, Int.reduceBEq, Int.reduceBNe, reduceCtorEq, RD]) ?_
    try simp only [RN, reduceIte]
    try refine T_e rfl ?_
    refine T_rseq fun Kr hKr => ?_
    simp (disch := omega) only [RA, ↓reduceIte, Nat.reduceEqDiff, Nat.reduceBEq, Nat.reduceSub, Nat.reduceAdd, Nat.reduceMul, Nat.reduceLT, Nat.reduceLeDiff, Int.reduceLE, Int.reduceLT, Int.reduceEq, Int.reduceNeg, Int.reduceToNat, Int.reduceMul, Int.reduceAdd, Int.reduceSub, Int.reduceBEq, Int.reduceBNe, reduceCtorEq, RD, getN_64]
    refine hKr _ _ ?_
    clear hKr Kr
    try simp only [RN, reduceIte]
    try refine T_e rfl ?_
    refine bodyQ_ret (by simp (disch := omega) only [RA, ↓reduceIte, Nat.reduceEqDiff, Nat.reduceBEq, Nat.reduceSub, Nat.reduceAdd, Nat.reduceMul, Nat.reduceLT, Nat.reduceLeDiff, Int.reduceLE, Int.reduceLT, Int.reduceEq, Int.reduceNeg, Int.reduceToNat, Int.reduceMul, Int.reduceAdd, Int.reduceSub, Int.reduceBEq, Int.reduceBNe, reduceCtorEq, RD, resAll, resOf]; rfl) GhV.refl ?_
    simp only [tup]
    rw [hr]
    exact ⟨_, rfl, rfl⟩
  · have hr := (k2.res h1 ht).2
    have ho : decide ((e.length : Int).tmod 2 = 1) = false := by rw [odd_q]; simp [k1]
    have hp : Perm (pc b w c) m := by cases c; exact h1.1; exact h1.2.1
    have hpl : (pc b w c).length = 16 := by cases c; exact hlb; exact hlw
    have hv := ends_lt h1 (c := c) hy
    have hyv := (vl_ends h1 (c := c) hy).2 ⟨hy, rfl⟩
    have hpy := hp.lt hy
    obtain ⟨P0, hP, hPx⟩ := it_back2 hp hy
    refine T_rseq fun Kr hKr => ?_
    simp (disch := omega) only [RA, ↓reduceIte, Nat.reduceEqDiff, Nat.reduceBEq, Nat.reduceSub, Nat.reduceAdd, Nat.reduceMul, Nat.reduceLT, Nat.reduceLeDiff, Int.reduceLE, Int.reduceLT, Int.reduceEq, Int.reduceNeg, Int.reduceToNat, Int.reduceMul, Int.reduceAdd, Int.reduceSub, Int.reduceBEq, Int.reduceBNe, reduceCtorEq, RD, ho]
    refine hKr _ _ ?_
    clear hKr Kr
    try simp only [RN, reduceIte]
    try refine T_e rfl ?_
    refine T_cseq (t := false) (by simp (disch := omega) only [RA, ↓reduceIte, Nat.reduceEqDiff, Nat.reduceBEq, Nat.reduceSub, Nat.reduceAdd, Nat.reduceMul, Nat.reduceLT, Nat.reduceLeDiff, Int.reduceLE, Int.reduceLT, Int.reduceEq, Int.reduceNeg, Int.reduceToNat, Int.reduceMul, Int.reduceAdd, Int.reduceSub, Int.reduceBEq, Int.reduceBNe, reduceCtorEq, RD]) ?_
    try simp only [RN, reduceIte]
    try refine T_e rfl ?_
    refine T_rseq fun Kr hKr => ?_
    simp (disch := omega) only [RA, ↓reduceIte, Nat.reduceEqDiff, Nat.reduceBEq, Nat.reduceSub, Nat.reduceAdd, Nat.reduceMul, Nat.reduceLT, Nat.reduceLeDiff, Int.reduceLE, Int.reduceLT, Int.reduceEq, Int.reduceNeg, Int.reduceToNat, Int.reduceMul, Int.reduceAdd, Int.reduceSub, Int.reduceBEq, Int.reduceBNe, reduceCtorEq, RD, RDS, RDD, st_NN]
    refine hKr _ _ ?_
    clear hKr Kr
    try simp only [RN, reduceIte]
    try refine T_e rfl ?_
    have h2 := @odd_q (e.length / 2)
    refine T_rseq fun Kr hKr => ?_
    simp (disch := omega) only [RA, ↓reduceIte, Nat.reduceEqDiff, Nat.reduceBEq, Nat.reduceSub, Nat.reduceAdd, Nat.reduceMul, Nat.reduceLT, Nat.reduceLeDiff, Int.reduceLE, Int.reduceLT, Int.reduceEq, Int.reduceNeg, Int.reduceToNat, Int.reduceMul, Int.reduceAdd, Int.reduceSub, Int.reduceBEq, Int.reduceBNe, reduceCtorEq, RD, h2]
    refine hKr _ _ ?_
    clear hKr Kr
    try simp only [RN, reduceIte]
    try refine T_e rfl ?_
    have hmain : ∀ f', f' 5 = Fz e.length 1 (e.map N64) → f' 7 = I ((e.length / 2 : Nat) : Int) → f' 8 = I (ct c : Nat) → f' 9 = P 1 0 →
        T 0 (.seq A_spec_CentreOf.r12 (.seq (.seq A_spec_CentreOf.r13 (.block 0 (.loop A_spec_CentreOf.l0))) (.seq A_spec_CentreOf.r17 .ret))) (bodyQ 0 [.tmp 2, .tmp 3] fun v H1 => ∃ j, v = .tuple ⟨[S j 0 (resCe m b w).length 1, I 0]⟩ ∧ blk H1 j = some ((resCe m b w).map N64)) f' [some (DC m b w), some ((pc b w c).map N8)] := by
      intro f' g5 g7 g8 g9
      refine T_rseq fun Kr hKr => ?_
      simp (disch := omega) only [RA, ↓reduceIte, Nat.reduceEqDiff, Nat.reduceBEq, Nat.reduceSub, Nat.reduceAdd, Nat.reduceMul, Nat.reduceLT, Nat.reduceLeDiff, Int.reduceLE, Int.reduceLT, Int.reduceEq, Int.reduceNeg, Int.reduceToNat, Int.reduceMul, Int.reduceAdd, Int.reduceSub, Int.reduceBEq, Int.reduceBNe, reduceCtorEq, RD, g5, g7, getN_64, k4]
      refine hKr _ _ ?_
      clear hKr Kr
      try simp only [RN, reduceIte]
      try refine T_e rfl ?_
      refine T_rseq fun Kr hKr => ?_
      simp (disch := omega) only [RA, ↓reduceIte, Nat.reduceEqDiff, Nat.reduceBEq, Nat.reduceSub, Nat.reduceAdd, Nat.reduceMul, Nat.reduceLT, Nat.reduceLeDiff, Int.reduceLE, Int.reduceLT, Int.reduceEq, Int.reduceNeg, Int.reduceToNat, Int.reduceMul, Int.reduceAdd, Int.reduceSub, Int.reduceBEq, Int.reduceBNe, reduceCtorEq, RD, g5, g7, g9, getN_64, k4, hpl]
      refine hKr _ _ ?_
      clear hKr Kr
      try simp only [RN, reduceIte]
      try refine T_e rfl ?_
      refine T_wloop (fun d f H' => ∃ i z lm, i ≤ P0 ∧ d = P0 - i ∧ z = it (pc b w c) y i ∧ lm ∈ vl b w m (ends b w m c y) ∧ lm ≤ y ∧ (∀ q ∈ its (pc b w c) y i, lm ≤ q) ∧ f 5 = Fz e.length 1 (e.map N64) ∧ f 7 = I ((e.length / 2 : Nat) : Int) ∧ f 8 = I (ct c : Nat) ∧ f 9 = P 1 0 ∧ f 10 = I lm ∧ f 11 = I z ∧ H' = [some (DC m b w), some ((pc b w c).map N8)]) (P0) ?_ ?_
      · refine ⟨_, _, Gh.refl, 0, nl (pc b w c) y, y, by omega, by omega, rfl, hyv, Nat.le_refl _, by simp [its], ?_, ?_, ?_, ?_, ?_, ?_, rfl⟩
        any_goals (simp (disch := omega) only [RA, ↓reduceIte, Nat.reduceEqDiff, Nat.reduceBEq, Nat.reduceSub, Nat.reduceAdd, Nat.reduceMul, Nat.reduceLT, Nat.reduceLeDiff, Int.reduceLE, Int.reduceLT, Int.reduceEq, Int.reduceNeg, Int.reduceToNat, Int.reduceMul, Int.reduceAdd, Int.reduceSub, Int.reduceBEq, Int.reduceBNe, reduceCtorEq, RD, RE, *] <;> rfl)
      · clear g5 g7 g8 g9
        rintro d f H' R ⟨i, z, lm, hi, rfl, hz, hl1, hl2, hl3, g5, g7, g8, g9, g10, g11, rfl⟩ hN hX hR hE
        simp only [A_spec_CentreOf.l0, T_aiff]
        have hzn : z < m := by rw [hz]; exact it_lt hp hy i
        have hpz := hp.lt hzn
        have hlm := ((vl_ends h1 hy).1 hl1).1
        refine T_rseq fun Kr hKr => ?_
        simp (disch := omega) only [RA, ↓reduceIte, Nat.reduceEqDiff, Nat.reduceBEq, Nat.reduceSub, Nat.reduceAdd, Nat.reduceMul, Nat.reduceLT, Nat.reduceLeDiff, Int.reduceLE, Int.reduceLT, Int.reduceEq, Int.reduceNeg, Int.reduceToNat, Int.reduceMul, Int.reduceAdd, Int.reduceSub, Int.reduceBEq, Int.reduceBNe, reduceCtorEq, RD, g5, g7, g11, getN_64, k4]
        refine hKr _ _ ?_
        clear hKr Kr
        try simp only [RN, reduceIte]
        try refine T_e rfl ?_
        refine T_csplit (p := ¬ z = y) (by simp only [RA, ↓reduceIte, Nat.reduceEqDiff, Nat.reduceBEq, Nat.reduceSub, Nat.reduceAdd, Nat.reduceMul, Nat.reduceLT, Nat.reduceLeDiff, Int.reduceLE, Int.reduceLT, Int.reduceEq, Int.reduceNeg, Int.reduceToNat, Int.reduceMul, Int.reduceAdd, Int.reduceSub, Int.reduceBEq, Int.reduceBNe, reduceCtorEq] <;> rfl) (by (try simp only [RB]) <;> first | done | exact Iff.rfl | omega | simp) (fun hc => ?_) (fun hc => ?_) <;> (try simp only [RN, reduceIte]) <;> (try refine T_e rfl ?_)
        · have hiP : i < P0 := by
            rcases Nat.lt_or_ge i P0 with h | h
            · exact h
            · exact absurd (by rw [hz, show i = P0 by omega, hPx]) hc
          obtain ⟨l2, hmin, m1, m2, m3⟩ : ∃ l2 : Nat, (if z < lm then (z : Int) else (lm : Int)) = (l2 : Int) ∧ l2 ≤ lm ∧ l2 ≤ z ∧ (l2 = lm ∨ l2 = z) := by
            by_cases h : z < lm
            · exact ⟨z, by rw [if_pos h], by omega, by omega, .inr rfl⟩
            · exact ⟨lm, by rw [if_neg h], by omega, by omega, .inl rfl⟩
          first | refine T_bfree rfl ?_ | refine T_bfree' rfl ?_
          try simp only [RN, reduceIte]
          try refine T_e rfl ?_
          refine T_rseq fun Kr hKr => ?_
          simp (disch := omega) only [RA, ↓reduceIte, Nat.reduceEqDiff, Nat.reduceBEq, Nat.reduceSub, Nat.reduceAdd, Nat.reduceMul, Nat.reduceLT, Nat.reduceLeDiff, Int.reduceLE, Int.reduceLT, Int.reduceEq, Int.reduceNeg, Int.reduceToNat, Int.reduceMul, Int.reduceAdd, Int.reduceSub, Int.reduceBEq, Int.reduceBNe, reduceCtorEq, RD, g10, g11, min_ii, hmin]
          refine hKr _ _ ?_
          clear hKr Kr
          try simp only [RN, reduceIte]
          try refine T_e rfl ?_
          refine T_reg_k fun Kr hKr => ?_
          simp (disch := omega) only [RA, ↓reduceIte, Nat.reduceEqDiff, Nat.reduceBEq, Nat.reduceSub, Nat.reduceAdd, Nat.reduceMul, Nat.reduceLT, Nat.reduceLeDiff, Int.reduceLE, Int.reduceLT, Int.reduceEq, Int.reduceNeg, Int.reduceToNat, Int.reduceMul, Int.reduceAdd, Int.reduceSub, Int.reduceBEq, Int.reduceBNe, reduceCtorEq, RD, g9, g11, hpl]
          refine hKr _ _ ?_
          clear hKr Kr
          refine hN (P0 - (i + 1)) _ _ _ _ (by omega) Gh.refl ⟨i + 1, nl (pc b w c) z, l2, by omega, rfl, by rw [it, hz], ?_, by omega, fun q hq => ?_, ?_, ?_, ?_, ?_, ?_, ?_, rfl⟩
          any_goals (simp (disch := omega) only [RA, ↓reduceIte, Nat.reduceEqDiff, Nat.reduceBEq, Nat.reduceSub, Nat.reduceAdd, Nat.reduceMul, Nat.reduceLT, Nat.reduceLeDiff, Int.reduceLE, Int.reduceLT, Int.reduceEq, Int.reduceNeg, Int.reduceToNat, Int.reduceMul, Int.reduceAdd, Int.reduceSub, Int.reduceBEq, Int.reduceBNe, reduceCtorEq, RD, RE, *] <;> rfl)
          · rcases m3 with h | h
            · rw [h]; exact hl1
            · rw [h]
              exact (vl_ends h1 hy).2 ⟨hzn, (ends_pc h1).2 (by rw [hz, it_vix hp hy])⟩
          · rw [its_succ] at hq
            rcases List.mem_append.1 hq with h | h
            · have := hl3 q h
              omega
            · rw [List.mem_singleton.1 h, ← hz]
              omega
        · refine hX _ _ ?_
          have hzy : z = y := Decidable.not_not.1 hc
          have hle : lm = nl (vl b w m (ends b w m c y)) 0 := by
            have h3 := vl_least h1 hv lm hl1
            have h4 := its_done h1 hy (by rw [← hz]; exact hzy) (nl_mem (c := vl b w m (ends b w m c y)) (j := 0) (List.length_pos_of_mem hyv))
            rw [its_succ] at h4
            rcases List.mem_append.1 h4 with h | h
            · have := hl3 _ h
              omega
            · rw [List.mem_singleton] at h
              rw [h, ← hz, hzy] at h3 ⊢
              omega
          refine T_rseq fun Kr hKr => ?_
          simp (disch := omega) only [RA, ↓reduceIte, Nat.reduceEqDiff, Nat.reduceBEq, Nat.reduceSub, Nat.reduceAdd, Nat.reduceMul, Nat.reduceLT, Nat.reduceLeDiff, Int.reduceLE, Int.reduceLT, Int.reduceEq, Int.reduceNeg, Int.reduceToNat, Int.reduceMul, Int.reduceAdd, Int.reduceSub, Int.reduceBEq, Int.reduceBNe, reduceCtorEq, RD, g8, g10]
          refine hKr _ _ ?_
          clear hKr Kr
          try simp only [RN, reduceIte]
          try refine T_e rfl ?_
          refine bodyQ_ret (by simp (disch := omega) only [RA, ↓reduceIte, Nat.reduceEqDiff, Nat.reduceBEq, Nat.reduceSub, Nat.reduceAdd, Nat.reduceMul, Nat.reduceLT, Nat.reduceLeDiff, Int.reduceLE, Int.reduceLT, Int.reduceEq, Int.reduceNeg, Int.reduceToNat, Int.reduceMul, Int.reduceAdd, Int.reduceSub, Int.reduceBEq, Int.reduceBNe, reduceCtorEq, RD, resAll, resOf]; rfl) GhV.refl ?_
          simp only [tup]
          rw [hr, ← hle]
          exact ⟨_, rfl, rfl⟩
    cases c with
    | false =>
      have hcc : (!(cu == decide (e.length / 2 % 2 = 1))) = false := hc.symm
      refine T_cseq (t := false) (by simp (disch := omega) only [RA, ↓reduceIte, Nat.reduceEqDiff, Nat.reduceBEq, Nat.reduceSub, Nat.reduceAdd, Nat.reduceMul, Nat.reduceLT, Nat.reduceLeDiff, Int.reduceLE, Int.reduceLT, Int.reduceEq, Int.reduceNeg, Int.reduceToNat, Int.reduceMul, Int.reduceAdd, Int.reduceSub, Int.reduceBEq, Int.reduceBNe, reduceCtorEq, RD, hcc]) ?_
      try simp only [RN, reduceIte]
      try refine T_e rfl ?_
      clear hc hcc
      refine hmain _ ?_ ?_ ?_ ?_
      any_goals (simp (disch := omega) only [RA, ↓reduceIte, Nat.reduceEqDiff, Nat.reduceBEq, Nat.reduceSub, Nat.reduceAdd, Nat.reduceMul, Nat.reduceLT, Nat.reduceLeDiff, Int.reduceLE, Int.reduceLT, Int.reduceEq, Int.reduceNeg, Int.reduceToNat, Int.reduceMul, Int.reduceAdd, Int.reduceSub, Int.reduceBEq, Int.reduceBNe, reduceCtorEq, RD, RE, *] <;> rfl)
    | true =>
      have hcc : (!(cu == decide (e.length / 2 % 2 = 1))) = true := hc.symm
      refine T_cseq (t := true) (by simp (disch := omega) only [RA, ↓reduceIte, Nat.reduceEqDiff, Nat.reduceBEq, Nat.reduceSub, Nat.reduceAdd, Nat.reduceMul, Nat.reduceLT, Nat.reduceLeDiff, Int.reduceLE, Int.reduceLT, Int.reduceEq, Int.reduceNeg, Int.reduceToNat, Int.reduceMul, Int.reduceAdd, Int.reduceSub, Int.reduceBEq, Int.reduceBNe, reduceCtorEq, RD, hcc]) ?_
      try simp only [RN, reduceIte]
      try refine T_e rfl ?_
      clear hc hcc
      refine T_rseq fun Kr hKr => ?_
      simp (disch := omega) only [RA, ↓reduceIte, Nat.reduceEqDiff, Nat.reduceBEq, Nat.reduceSub, Nat.reduceAdd, Nat.reduceMul, Nat.reduceLT, Nat.reduceLeDiff, Int.reduceLE, Int.reduceLT, Int.reduceEq, Int.reduceNeg, Int.reduceToNat, Int.reduceMul, Int.reduceAdd, Int.reduceSub, Int.reduceBEq, Int.reduceBNe, reduceCtorEq, RD]
      refine hKr _ _ ?_
      clear hKr Kr
      try simp only [RN, reduceIte]
      try refine T_e rfl ?_
      refine T_rseq fun Kr hKr => ?_
      simp (disch := omega) only [RA, ↓reduceIte, Nat.reduceEqDiff, Nat.reduceBEq, Nat.reduceSub, Nat.reduceAdd, Nat.reduceMul, Nat.reduceLT, Nat.reduceLeDiff, Int.reduceLE, Int.reduceLT, Int.reduceEq, Int.reduceNeg, Int.reduceToNat, Int.reduceMul, Int.reduceAdd, Int.reduceSub, Int.reduceBEq, Int.reduceBNe, reduceCtorEq, RD, RDS, RDD, st_NN]
      refine hKr _ _ ?_
      clear hKr Kr
      try simp only [RN, reduceIte]
      try refine T_e rfl ?_
      refine hmain _ ?_ ?_ ?_ ?_
      any_goals (simp (disch := omega) only [RA, ↓reduceIte, Nat.reduceEqDiff, Nat.reduceBEq, Nat.reduceSub, Nat.reduceAdd, Nat.reduceMul, Nat.reduceLT, Nat.reduceLeDiff, Int.reduceLE, Int.reduceLT, Int.reduceEq, Int.reduceNeg, Int.reduceToNat, Int.reduceMul, Int.reduceAdd, Int.reduceSub, Int.reduceBEq, Int.reduceBNe, reduceCtorEq, RD, RE, *] <;> rfl)
theorem resCentreOf_len {n : Int} {b w : List Nat} (hb : By 16 b) (hw : By 16 w) (hd : tcode n b w [] = 0) : (resCe n b w).length < 1000 := by
  rw [resCe]
  split
  · rename_i h
    obtain ⟨c, x, h1, h2⟩ := h.choose_spec.choose_spec
    rcases h2 with ⟨_, h2⟩ | ⟨_, h2⟩ <;> rw [h2] <;> simp
  · simp
end Go.Bm

