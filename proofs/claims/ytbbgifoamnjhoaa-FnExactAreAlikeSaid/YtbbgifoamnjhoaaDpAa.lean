/- What is alike, what is chiral. -/
import Derived.Test.YtbbgifoamnjhoaaDpZ
set_option linter.unusedVariables false
set_option linter.unusedSimpArgs false
namespace Go.Bm
open Go Go.Am

/-! ### Mirror images are dessins -/
section
variable {p b w : List Nat} {n : Nat}
theorem Perm.surj (hp : Perm p n) {y : Nat} (hy : y < n) : ∃ x, x < n ∧ nl p x = y := by
  obtain ⟨c, hc, hyc⟩ := cyc_at hp hy
  have hi := cyc_is hp hc
  obtain ⟨j, hj, rfl⟩ := mem_nl hyc
  by_cases e : j = 0
  · subst e
    exact ⟨_, hi.lt _ (nl_mem (by omega)), hi.last⟩
  · have := hi.step (j - 1) (by omega)
    rw [show j - 1 + 1 = j by omega] at this
    exact ⟨_, hi.lt _ (nl_mem (by omega)), this⟩
theorem back_at (hp : Perm p n) : ∀ {k i : Nat}, k ≤ n → i < k → nl (backK p k) (nl p i) = i
  | 0, _, _, h => by omega
  | k + 1, i, hk, hi => by
    have hn := hp.1
    rw [backK, nl_set, backK_len]
    by_cases e : i = k
    · subst e
      rw [if_pos ⟨rfl, by have := hp.lt (show i < n by omega); omega⟩]
    · rw [if_neg (fun h => e (hp.inj (by omega) (by omega) h.1)), back_at hp (by omega) (by omega)]
theorem back_out (hp : Perm p n) {i : Nat} (hi : n ≤ i) : ∀ {k : Nat}, k ≤ n → nl (backK p k) i = 0
  | 0, _ => by simp only [backK, nl_rep]; split <;> rfl
  | k + 1, hk => by
    have := hp.lt (show k < n by omega)
    rw [backK, nl_set, if_neg (by omega), back_out hp hi (by omega)]
theorem Perm.back (hp : Perm p n) : Perm (backK p n) n := by
  refine ⟨hp.1, fun i _ => ⟨fun h => back_out hp (by omega) (Nat.le_refl _), fun h => ?_⟩⟩
  obtain ⟨x, hx, rfl⟩ := hp.surj (show i < n by omega)
  rw [back_at hp (Nat.le_refl _) hx]
  refine ⟨by omega, fun j hj => ?_⟩
  obtain ⟨y, hy, rfl⟩ := hp.surj (show j < n by omega)
  rw [back_at hp (Nat.le_refl _) hy]
  intro e
  subst e
  omega
theorem back_back (hp : Perm p n) {x : Nat} (hx : x < n) : nl p (nl (backK p n) x) = x := by
  obtain ⟨y, hy, rfl⟩ := hp.surj hx
  rw [back_at hp (Nat.le_refl _) hy]
theorem Des.mirr (h : Des n b w) : Des n (mirr b n) (mirr w n) := by
  obtain ⟨hb, hw, hr⟩ := id h
  have hn := hb.1
  refine ⟨hb.back, hw.back, ?_⟩
  have h0 := ord_bf hb.back hw.back (x := 0) (by omega)
  have hcl := ord_cl hb.back hw.back (x := 0) (by omega)
  have hin : 0 ∈ ord (backK b n) (backK w n) 0 := by
    obtain ⟨r, hr⟩ := h0.pre
    rw [ord, hr]
    simp
  have hall := h.ind (fun z => z ∈ ord (backK b n) (backK w n) 0)
    (fun z hz hS => closed_bwd hb.back (S := fun z => z ∈ ord (backK b n) (backK w n) 0) (fun y _ hy => (hcl y hy).1) (hb.lt hz) (by rw [back_at hb (Nat.le_refl _) hz]; exact hS))
    (fun z hz hS => closed_bwd hw.back (S := fun z => z ∈ ord (backK b n) (backK w n) 0) (fun y _ hy => (hcl y hy).2) (hw.lt hz) (by rw [back_at hw (Nat.le_refl _) hz]; exact hS)) hin
  have h1 := nodup_le h0.nod h0.lt
  have h2 := List.Nodup.length_le_of_subset (List.nodup_range (n := n)) (l₂ := ord (backK b n) (backK w n) 0) fun y hy => hall y (List.mem_range.1 hy)
  rw [List.length_range] at h2
  have e : (Bm.reach (backK b n) (backK w n)).2.length = n := Nat.le_antisymm h1 h2
  show ((Bm.reach (backK b n) (backK w n)).2.length : Int) = n
  omega
end
def alk (n : Nat) (b w b' w' : List Nat) : Bool := (List.range n).any fun x => decide (ren2 b' w' n x = ren2 b w n 0)
theorem alk_iff {n : Nat} {b w b' w' : List Nat} : alk n b w b' w' = true ↔ ∃ x, x < n ∧ ren2 b' w' n x = ren2 b w n 0 := by
  simp [alk, List.any_eq_true]
theorem alk_can {n : Nat} {b w b' w' : List Nat} (hd : Des n b w) (hd' : Des n b' w') : alk n b w b' w' = decide (canD b w n = canD b' w' n) := by
  rw [Bool.eq_iff_iff, alk_iff, decide_eq_true_eq]
  exact (can_iff hd hd').symm
theorem l07Alike_spec {x0 : Bool} {n m : Nat} {b w b' w' : List Nat} {H : BH} {K : Value → BH → Prop} (hb : By 16 b) (hw : By 16 w) (hb' : By 16 b') (hw' : By 16 w') (hd : Des n b w) (hd' : Des m b' w')
    (hK : K (.bool (decide (n = m) && alk n b w b' w')) H) : CallX x0 F_spec_l07Alike [DV n b w, DV m b' w'] H K := by
  have hlb := hb.len
  have hlw := hw.len
  have hlb' := hb'.len
  have hlw' := hw'.len
  have hn := hd.1.1
  have hz := z16_len
  refine callP (by exact .cons nn_D (.cons nn_D .nil)) ?_
  refine CallX_body Γ_spec_l07Alike ?_
  simp only [A_spec_l07Alike, T_aiff]
  refine T_rseq fun Kr hKr => ?_
  simp (disch := omega) only [RA, ↓reduceIte, Nat.reduceEqDiff, RD, RDS]
  refine hKr _ _ ?_
  clear hKr Kr
  try simp only [RN, reduceIte]
  try refine T_e rfl ?_
  refine T_rseq fun Kr hKr => ?_
  simp (disch := omega) only [RA, ↓reduceIte, Nat.reduceEqDiff, RD, RDS]
  refine hKr _ _ ?_
  clear hKr Kr
  try simp only [RN, reduceIte]
  try refine T_e rfl ?_
  refine T_csplit (p := ¬ n = m) (by simp only [RA, ↓reduceIte, Nat.reduceEqDiff] <;> rfl) (by (try simp only [RB]) <;> first | done | exact Iff.rfl | omega | simp) (fun hc => ?_) (fun hc => ?_) <;> (try simp only [RN, reduceIte]) <;> (try refine T_e rfl ?_)
  · refine T_rseq fun Kr hKr => ?_
    simp (disch := omega) only [RA, ↓reduceIte, Nat.reduceEqDiff, RD]
    refine hKr _ _ ?_
    clear hKr Kr
    try simp only [RN, reduceIte]
    try refine T_e rfl ?_
    refine bodyQ_ret (by simp (disch := omega) only [RA, ↓reduceIte, Nat.reduceEqDiff, Nat.reduceAdd, Nat.reduceMul, Int.reduceToNat, Nat.reduceLT, reduceCtorEq, RD, resAll, resOf]; rfl) GhV.refl ?_
    simp only [tup]
    rw [decide_eq_false hc] at hK
    exact ⟨.bool, hK⟩
  obtain rfl := Decidable.not_not.1 hc
  rw [decide_eq_true rfl, Bool.true_and] at hK
  clear hc
  have hq0 := ren2_by (x := 0) hd (by omega)
  have l1 := hq0.1.len
  have l2 := hq0.2.len
  refine T_rseq fun Kr hKr => ?_
  simp (disch := omega) only [RA, ↓reduceIte, Nat.reduceEqDiff, Nat.reduceAdd, Nat.reduceMul, Int.reduceToNat, Nat.reduceLT, reduceCtorEq, RD, RDS, RDD]
  refine l07From_spec (x := 0) hb hw hd (by omega) ?_
  generalize hr0 : ren2 b w n 0 = r0 at l1 l2
  simp (disch := omega) only [RA, ↓reduceIte, Nat.reduceEqDiff, Nat.reduceAdd, Nat.reduceMul, Int.reduceToNat, Nat.reduceLT, reduceCtorEq, RD, RDS, RDD]
  refine hKr _ _ ?_
  clear hKr Kr
  try simp only [blkQ, thenQ, loopQ]
  try simp only [RN, reduceIte]
  try refine T_e rfl ?_
  refine T_rseq fun Kr hKr => ?_
  simp (disch := omega) only [RA, ↓reduceIte, Nat.reduceEqDiff, RD]
  refine hKr _ _ ?_
  clear hKr Kr
  try simp only [RN, reduceIte]
  try refine T_e rfl ?_
  refine T_wloop (fun d f H' => ∃ k, k ≤ n ∧ d = n - k ∧ (∀ x, x < k → ren2 b' w' n x ≠ r0) ∧ f 3 = P 1 0 ∧ f 5 = P 2 0 ∧ f 6 = I k ∧ H' = [some (DC n b w), some (DC n b' w'), some (DC n r0.1 r0.2)]) (n) ?_ ?_
  · refine ⟨_, _, Gh.refl, 0, by omega, by omega, fun x hx => by omega, ?_, ?_, ?_, rfl⟩
    any_goals (simp (disch := omega) only [RA, ↓reduceIte, Nat.reduceEqDiff, RD, RE, *] <;> rfl)
  · rintro d f H' R ⟨k, hk, rfl, hall, g3, g5, g6, rfl⟩ hN hX hR hE
    simp only [A_spec_l07Alike.l0, T_aiff]
    refine T_rseq fun Kr hKr => ?_
    simp (disch := omega) only [RA, ↓reduceIte, Nat.reduceEqDiff, RD, g3, g6, RDS]
    refine hKr _ _ ?_
    clear hKr Kr
    try simp only [RN, reduceIte]
    try refine T_e rfl ?_
    refine T_csplit (p := k < n) (by simp only [RA, ↓reduceIte, Nat.reduceEqDiff] <;> rfl) (by (try simp only [RB]) <;> first | done | exact Iff.rfl | omega | simp) (fun hc => ?_) (fun hc => ?_) <;> (try simp only [RN, reduceIte]) <;> (try refine T_e rfl ?_)
    · have hq := ren2_by hd' hc
      have l3 := hq.1.len
      have l4 := hq.2.len
      have hkn : k < n := by assumption
      first | refine T_bfree rfl ?_ | refine T_bfree' rfl ?_
      try simp only [RN, reduceIte]
      try refine T_e rfl ?_
      refine T_rseq fun Kr hKr => ?_
      simp (disch := omega) only [RA, ↓reduceIte, Nat.reduceEqDiff, RD, g3, g6, RDS, RDD]
      refine l07From_spec hb' hw' hd' hc ?_
      generalize hrk : ren2 b' w' n k = rk at l3 l4
      simp (disch := omega) only [RA, ↓reduceIte, Nat.reduceEqDiff, RD, g5, RDS, RDD, eqaV_D]
      refine hKr _ _ ?_
      clear hKr Kr
      try simp only [blkQ, thenQ, loopQ]
      try simp only [RN, reduceIte]
      try refine T_e rfl ?_
      refine T_csplit (p := rk = r0) (by simp only [RA, ↓reduceIte, Nat.reduceEqDiff] <;> rfl) (by (try simp only [RB]) <;> first | done | exact Iff.rfl | omega | simp) (fun hc => ?_) (fun hc => ?_) <;> (try simp only [RN, reduceIte]) <;> (try refine T_e rfl ?_)
      · refine T_rseq fun Kr hKr => ?_
        simp (disch := omega) only [RA, ↓reduceIte, Nat.reduceEqDiff, RD]
        refine hKr _ _ ?_
        clear hKr Kr
        try simp only [RN, reduceIte]
        try refine T_e rfl ?_
        refine hR _ _ ?_
        refine bodyQ_ret (by simp (disch := omega) only [RA, ↓reduceIte, Nat.reduceEqDiff, Nat.reduceAdd, Nat.reduceMul, Int.reduceToNat, Nat.reduceLT, reduceCtorEq, RD, resAll, resOf]; rfl) GhV.refl ?_
        simp only [tup]
        rw [alk_iff.2 ⟨k, hkn, by rw [hrk, hr0]; exact hc⟩] at hK
        exact ⟨.bool, hK⟩
      · have hall' : ∀ x, x < k + 1 → ren2 b' w' n x ≠ r0 := fun x hx => by
          by_cases e : x = k
          · rw [e, hrk]; exact hc
          · exact hall x (by omega)
        refine T_reg_k fun Kr hKr => ?_
        simp (disch := omega) only [RA, ↓reduceIte, Nat.reduceEqDiff, RD, g6]
        refine hKr _ _ ?_
        clear hKr Kr
        refine hN (n - (k + 1)) _ _ _ _ (by omega) Gh.refl ⟨k + 1, by omega, rfl, hall', ?_, ?_, ?_, rfl⟩
        any_goals (simp (disch := omega) only [RA, ↓reduceIte, Nat.reduceEqDiff, RD, RE, *] <;> rfl)
    · refine hX _ _ ?_
      refine T_rseq fun Kr hKr => ?_
      simp (disch := omega) only [RA, ↓reduceIte, Nat.reduceEqDiff, RD]
      refine hKr _ _ ?_
      clear hKr Kr
      try simp only [RN, reduceIte]
      try refine T_e rfl ?_
      refine bodyQ_ret (by simp (disch := omega) only [RA, ↓reduceIte, Nat.reduceEqDiff, Nat.reduceAdd, Nat.reduceMul, Int.reduceToNat, Nat.reduceLT, reduceCtorEq, RD, resAll, resOf]; rfl) GhV.refl ?_
      simp only [tup]
      rw [show alk n b w b' w' = false by
        rw [← Bool.not_eq_true, alk_iff]
        rintro ⟨x, hx, h⟩
        exact hall x (by omega) (h.trans hr0)] at hK
      exact ⟨.bool, hK⟩
def resAl (n : Int) (b w : List Nat) (m : Int) (b' w' : List Nat) : Bool × Int :=
  if Des n b w ∧ Des m b' w' then (decide (n = m) && alk n.toNat b w b' w', 0) else (false, 1)
theorem spec_AreAlike_spec {x : Bool} {n : Int} {b w : List Nat} {m : Int} {b' w' : List Nat} {H : BH} {K : Value → BH → Prop} (hb : By 16 b) (hw : By 16 w) (hb' : By 16 b') (hw' : By 16 w')
    (hK : K (.tuple ⟨[.bool (resAl n b w m b' w').1, I (resAl n b w m b' w').2]⟩) H) : CallX x F_spec_AreAlike [DV n b w, DV m b' w'] H K := by
  have hlb := hb.len
  have hlw := hw.len
  have hlb' := hb'.len
  have hlw' := hw'.len
  refine callP (by exact .cons nn_D (.cons nn_D .nil)) ?_
  refine CallX_body Γ_spec_AreAlike ?_
  simp only [A_spec_AreAlike, T_aiff]
  refine T_rseq fun Kr hKr => ?_
  simp (disch := omega) only [RA, ↓reduceIte, Nat.reduceEqDiff, RD, RDS]
  refine hKr _ _ ?_
  clear hKr Kr
  try simp only [RN, reduceIte]
  try refine T_e rfl ?_
  by_cases h1 : Des n b w
  · by_cases h2 : Des m b' w'
    · rw [resAl, if_pos ⟨h1, h2⟩] at hK
      obtain ⟨n, rfl, _, _⟩ := h1.n0
      obtain ⟨m, rfl, _, _⟩ := h2.n0
      rw [Int.toNat_natCast] at hK
      refine T_rseq fun Kr hKr => ?_
      simp (disch := omega) only [RA, ↓reduceIte, Nat.reduceEqDiff, RD, RDS, RDD]
      refine l01Is_spec hb hw ?_
      rw [decide_eq_true h1]
      simp (disch := omega) only [RA, ↓reduceIte, Nat.reduceEqDiff, RD, RDS, RDD]
      refine l01Is_spec hb' hw' ?_
      rw [decide_eq_true h2]
      simp (disch := omega) only [RA, ↓reduceIte, Nat.reduceEqDiff, RD]
      refine hKr _ _ ?_
      clear hKr Kr
      try simp only [blkQ, thenQ, loopQ]
      try simp only [RN, reduceIte]
      try refine T_e rfl ?_
      refine T_cseq (t := false) (by simp (disch := omega) only [RA, ↓reduceIte, Nat.reduceEqDiff, RD]) ?_
      try simp only [RN, reduceIte]
      try refine T_e rfl ?_
      refine T_rseq fun Kr hKr => ?_
      simp (disch := omega) only [RA, ↓reduceIte, Nat.reduceEqDiff, RD, RDS, RDD]
      refine l07Alike_spec hb hw hb' hw' h1 h2 ?_
      simp (disch := omega) only [RA, ↓reduceIte, Nat.reduceEqDiff, RD]
      refine hKr _ _ ?_
      clear hKr Kr
      try simp only [blkQ, thenQ, loopQ]
      try simp only [RN, reduceIte]
      try refine T_e rfl ?_
      refine bodyQ_ret (by simp (disch := omega) only [RA, ↓reduceIte, Nat.reduceEqDiff, RD, resAll, resOf]; rfl) GhV.refl ?_
      simp only [tup]
      rw [show decide ((n : Int) = (m : Int)) = decide (n = m) by simp only [Int.ofNat_inj]] at hK
      exact ⟨nn_BI, hK⟩
    · rw [resAl, if_neg (fun h => h2 h.2)] at hK
      refine T_rseq fun Kr hKr => ?_
      simp (disch := omega) only [RA, ↓reduceIte, Nat.reduceEqDiff, RD, RDS, RDD]
      refine l01Is_spec hb hw ?_
      rw [decide_eq_true h1]
      simp (disch := omega) only [RA, ↓reduceIte, Nat.reduceEqDiff, RD, RDS, RDD]
      refine l01Is_spec hb' hw' ?_
      rw [decide_eq_false h2]
      simp (disch := omega) only [RA, ↓reduceIte, Nat.reduceEqDiff, RD]
      refine hKr _ _ ?_
      clear hKr Kr
      try simp only [blkQ, thenQ, loopQ]
      try simp only [RN, reduceIte]
      try refine T_e rfl ?_
      refine T_cseq (t := true) (by simp (disch := omega) only [RA, ↓reduceIte, Nat.reduceEqDiff, RD]) ?_
      try simp only [RN, reduceIte]
      try refine T_e rfl ?_
      refine T_rseq fun Kr hKr => ?_
      simp (disch := omega) only [RA, ↓reduceIte, Nat.reduceEqDiff, RD]
      refine hKr _ _ ?_
      clear hKr Kr
      try simp only [RN, reduceIte]
      try refine T_e rfl ?_
      refine bodyQ_ret (by simp (disch := omega) only [RA, ↓reduceIte, Nat.reduceEqDiff, RD, resAll, resOf]; rfl) GhV.refl ?_
      simp only [tup]
      exact ⟨nn_BI, hK⟩
  · rw [resAl, if_neg (fun h => h1 h.1)] at hK
    refine T_rseq fun Kr hKr => ?_
    simp (disch := omega) only [RA, ↓reduceIte, Nat.reduceEqDiff, RD, RDS, RDD]
    refine l01Is_spec hb hw ?_
    rw [decide_eq_false h1]
    simp (disch := omega) only [RA, ↓reduceIte, Nat.reduceEqDiff, RD]
    refine hKr _ _ ?_
    clear hKr Kr
    try simp only [blkQ, thenQ, loopQ]
    try simp only [RN, reduceIte]
    try refine T_e rfl ?_
    refine T_cseq (t := true) (by simp (disch := omega) only [RA, ↓reduceIte, Nat.reduceEqDiff, RD]) ?_
    try simp only [RN, reduceIte]
    try refine T_e rfl ?_
    refine T_rseq fun Kr hKr => ?_
    simp (disch := omega) only [RA, ↓reduceIte, Nat.reduceEqDiff, RD]
    refine hKr _ _ ?_
    clear hKr Kr
    try simp only [RN, reduceIte]
    try refine T_e rfl ?_
    refine bodyQ_ret (by simp (disch := omega) only [RA, ↓reduceIte, Nat.reduceEqDiff, RD, resAll, resOf]; rfl) GhV.refl ?_
    simp only [tup]
    exact ⟨nn_BI, hK⟩
theorem impl_AreAlike_spec {x : Bool} {n : Int} {b w : List Nat} {m : Int} {b' w' : List Nat} {H : BH} {K : Value → BH → Prop} (hb : By 16 b) (hw : By 16 w) (hb' : By 16 b') (hw' : By 16 w')
    (hK : K (.tuple ⟨[.bool (resAl n b w m b' w').1, I (resAl n b w m b' w').2]⟩) H) : CallX x F_impl_AreAlike [DV n b w, DV m b' w'] H K := by
  have hlb := hb.len
  have hlw := hw.len
  have hlb' := hb'.len
  have hlw' := hw'.len
  refine callP (by exact .cons nn_D (.cons nn_D .nil)) ?_
  refine CallX_body Γ_impl_AreAlike ?_
  simp only [A_impl_AreAlike, T_aiff]
  refine T_rseq fun Kr hKr => ?_
  simp (disch := omega) only [RA, ↓reduceIte, Nat.reduceEqDiff, RD, RDS]
  refine hKr _ _ ?_
  clear hKr Kr
  try simp only [RN, reduceIte]
  try refine T_e rfl ?_
  by_cases h1 : Des n b w
  · by_cases h2 : Des m b' w'
    · rw [resAl, if_pos ⟨h1, h2⟩] at hK
      obtain ⟨n, rfl, hn1, hn2⟩ := h1.n0
      obtain ⟨m, rfl, _, _⟩ := h2.n0
      rw [Int.toNat_natCast] at hK
      refine T_rseq fun Kr hKr => ?_
      simp (disch := omega) only [RA, ↓reduceIte, Nat.reduceEqDiff, RD, RDS, RDD]
      refine IsDessin_spec hb hw ?_
      rw [decide_eq_true h1]
      simp (disch := omega) only [RA, ↓reduceIte, Nat.reduceEqDiff, RD, RDS, RDD]
      refine IsDessin_spec hb' hw' ?_
      rw [decide_eq_true h2]
      simp (disch := omega) only [RA, ↓reduceIte, Nat.reduceEqDiff, RD]
      refine hKr _ _ ?_
      clear hKr Kr
      try simp only [blkQ, thenQ, loopQ]
      try simp only [RN, reduceIte]
      try refine T_e rfl ?_
      refine T_cseq (t := false) (by simp (disch := omega) only [RA, ↓reduceIte, Nat.reduceEqDiff, RD]) ?_
      try simp only [RN, reduceIte]
      try refine T_e rfl ?_
      by_cases hnm : n = m
      · subst hnm
        have c1 := canK_by h1 (show n - 1 < n by omega)
        have c2 := canK_by h2 (show n - 1 < n by omega)
        have l1 := c1.1.len
        have l2 := c1.2.len
        have l3 := c2.1.len
        have l4 := c2.2.len
        rw [decide_eq_true (rfl : (n : Int) = n), Bool.true_and, alk_can h1 h2] at hK
        have e1 : canD b w n = canK b w n (n - 1) := rfl
        have e2 : canD b' w' n = canK b' w' n (n - 1) := rfl
        refine T_rseq fun Kr hKr => ?_
        simp (disch := omega) only [RA, ↓reduceIte, Nat.reduceEqDiff, RD, RDS, RDD]
        refine canonical_spec hb hw h1 ?_
        rw [e1] at hK ⊢
        generalize canK b w n (n - 1) = r1 at l1 l2 hK ⊢
        simp (disch := omega) only [RA, ↓reduceIte, Nat.reduceEqDiff, RD, RDS, RDD]
        refine canonical_spec hb' hw' h2 ?_
        rw [e2] at hK ⊢
        generalize canK b' w' n (n - 1) = r2 at l3 l4 hK ⊢
        simp (disch := omega) only [RA, ↓reduceIte, Nat.reduceEqDiff, RD, RDS, RDD, eqaV_D]
        refine hKr _ _ ?_
        clear hKr Kr
        try simp only [blkQ, thenQ, loopQ]
        try simp only [RN, reduceIte]
        try refine T_e rfl ?_
        refine bodyQ_ret (by simp (disch := omega) only [RA, ↓reduceIte, Nat.reduceEqDiff, RD, resAll, resOf]; rfl) GhV.refl ?_
        simp only [tup]
        exact ⟨nn_BI, hK⟩
      · rw [decide_eq_false (show ¬ (n : Int) = m by omega), Bool.false_and] at hK
        refine T_rseq fun Kr hKr => ?_
        simp (disch := omega) only [RA, ↓reduceIte, Nat.reduceEqDiff, RD, RDS, RDD]
        refine hKr _ _ ?_
        clear hKr Kr
        try simp only [RN, reduceIte]
        try refine T_e rfl ?_
        refine bodyQ_ret (by simp (disch := omega) only [RA, ↓reduceIte, Nat.reduceEqDiff, RD, resAll, resOf]; rfl) GhV.refl ?_
        simp only [tup]
        exact ⟨nn_BI, hK⟩
    · rw [resAl, if_neg (fun h => h2 h.2)] at hK
      refine T_rseq fun Kr hKr => ?_
      simp (disch := omega) only [RA, ↓reduceIte, Nat.reduceEqDiff, RD, RDS, RDD]
      refine IsDessin_spec hb hw ?_
      rw [decide_eq_true h1]
      simp (disch := omega) only [RA, ↓reduceIte, Nat.reduceEqDiff, RD, RDS, RDD]
      refine IsDessin_spec hb' hw' ?_
      rw [decide_eq_false h2]
      simp (disch := omega) only [RA, ↓reduceIte, Nat.reduceEqDiff, RD]
      refine hKr _ _ ?_
      clear hKr Kr
      try simp only [blkQ, thenQ, loopQ]
      try simp only [RN, reduceIte]
      try refine T_e rfl ?_
      refine T_cseq (t := true) (by simp (disch := omega) only [RA, ↓reduceIte, Nat.reduceEqDiff, RD]) ?_
      try simp only [RN, reduceIte]
      try refine T_e rfl ?_
      refine T_rseq fun Kr hKr => ?_
      simp (disch := omega) only [RA, ↓reduceIte, Nat.reduceEqDiff, RD]
      refine hKr _ _ ?_
      clear hKr Kr
      try simp only [RN, reduceIte]
      try refine T_e rfl ?_
      refine bodyQ_ret (by simp (disch := omega) only [RA, ↓reduceIte, Nat.reduceEqDiff, RD, resAll, resOf]; rfl) GhV.refl ?_
      simp only [tup]
      exact ⟨nn_BI, hK⟩
  · rw [resAl, if_neg (fun h => h1 h.1)] at hK
    refine T_rseq fun Kr hKr => ?_
    simp (disch := omega) only [RA, ↓reduceIte, Nat.reduceEqDiff, RD, RDS, RDD]
    refine IsDessin_spec hb hw ?_
    rw [decide_eq_false h1]
    simp (disch := omega) only [RA, ↓reduceIte, Nat.reduceEqDiff, RD]
    refine hKr _ _ ?_
    clear hKr Kr
    try simp only [blkQ, thenQ, loopQ]
    try simp only [RN, reduceIte]
    try refine T_e rfl ?_
    refine T_cseq (t := true) (by simp (disch := omega) only [RA, ↓reduceIte, Nat.reduceEqDiff, RD]) ?_
    try simp only [RN, reduceIte]
    try refine T_e rfl ?_
    refine T_rseq fun Kr hKr => ?_
    simp (disch := omega) only [RA, ↓reduceIte, Nat.reduceEqDiff, RD]
    refine hKr _ _ ?_
    clear hKr Kr
    try simp only [RN, reduceIte]
    try refine T_e rfl ?_
    refine bodyQ_ret (by simp (disch := omega) only [RA, ↓reduceIte, Nat.reduceEqDiff, RD, resAll, resOf]; rfl) GhV.refl ?_
    simp only [tup]
    exact ⟨nn_BI, hK⟩
def resCh (n : Int) (b w : List Nat) : Bool × Int :=
  if Des n b w then (!alk n.toNat b w (mirr b n.toNat) (mirr w n.toNat), 0) else (false, 1)
theorem mirr_by {b : List Nat} {n : Nat} (hn : n ≤ 16) : By 16 (mirr b n) := backK_by hn
theorem spec_IsChiral_spec {x : Bool} {n : Int} {b w : List Nat} {H : BH} {K : Value → BH → Prop} (hb : By 16 b) (hw : By 16 w)
    (hK : K (.tuple ⟨[.bool (resCh n b w).1, I (resCh n b w).2]⟩) H) : CallX x F_spec_IsChiral [DV n b w] H K := by
  have hlb := hb.len
  have hlw := hw.len
  refine callP (by exact .cons nn_D .nil) ?_
  refine CallX_body Γ_spec_IsChiral ?_
  simp only [A_spec_IsChiral, T_aiff]
  refine T_rseq fun Kr hKr => ?_
  simp (disch := omega) only [RA, ↓reduceIte, Nat.reduceEqDiff, RD, RDS]
  refine hKr _ _ ?_
  clear hKr Kr
  try simp only [RN, reduceIte]
  try refine T_e rfl ?_
  by_cases h1 : Des n b w
  · rw [resCh, if_pos h1] at hK
    obtain ⟨n, rfl, hn1, hn2⟩ := h1.n0
    rw [Int.toNat_natCast] at hK
    have h2 := h1.mirr
    have hb' : By 16 (mirr b n) := mirr_by hn2
    have hw' : By 16 (mirr w n) := mirr_by hn2
    refine T_rseq fun Kr hKr => ?_
    simp (disch := omega) only [RA, ↓reduceIte, Nat.reduceEqDiff, RD, RDS, RDD]
    refine l01Is_spec hb hw ?_
    rw [decide_eq_true h1]
    simp (disch := omega) only [RA, ↓reduceIte, Nat.reduceEqDiff, RD, RDS, RDD]
    refine hKr _ _ ?_
    clear hKr Kr
    try simp only [blkQ, thenQ, loopQ]
    try simp only [RN, reduceIte]
    try refine T_e rfl ?_
    refine T_cseq (t := false) (by simp (disch := omega) only [RA, ↓reduceIte, Nat.reduceEqDiff, RD]) ?_
    try simp only [RN, reduceIte]
    try refine T_e rfl ?_
    refine T_rseq fun Kr hKr => ?_
    simp (disch := omega) only [RA, ↓reduceIte, Nat.reduceEqDiff, RD, RDS, RDD]
    refine l07Mirror_spec hb hw h1 ?_
    simp (disch := omega) only [RA, ↓reduceIte, Nat.reduceEqDiff, RD, RDS, RDD]
    refine l07Alike_spec hb hw hb' hw' h1 h2 ?_
    rw [decide_eq_true (rfl : n = n), Bool.true_and]
    simp (disch := omega) only [RA, ↓reduceIte, Nat.reduceEqDiff, RD]
    refine hKr _ _ ?_
    clear hKr Kr
    try simp only [blkQ, thenQ, loopQ]
    try simp only [RN, reduceIte]
    try refine T_e rfl ?_
    refine bodyQ_ret (by simp (disch := omega) only [RA, ↓reduceIte, Nat.reduceEqDiff, RD, resAll, resOf]; rfl) GhV.refl ?_
    simp only [tup]
    exact ⟨nn_BI, hK⟩
  · rw [resCh, if_neg h1] at hK
    refine T_rseq fun Kr hKr => ?_
    simp (disch := omega) only [RA, ↓reduceIte, Nat.reduceEqDiff, RD, RDS, RDD]
    refine l01Is_spec hb hw ?_
    rw [decide_eq_false h1]
    simp (disch := omega) only [RA, ↓reduceIte, Nat.reduceEqDiff, RD]
    refine hKr _ _ ?_
    clear hKr Kr
    try simp only [blkQ, thenQ, loopQ]
    try simp only [RN, reduceIte]
    try refine T_e rfl ?_
    refine T_cseq (t := true) (by simp (disch := omega) only [RA, ↓reduceIte, Nat.reduceEqDiff, RD]) ?_
    try simp only [RN, reduceIte]
    try refine T_e rfl ?_
    refine T_rseq fun Kr hKr => ?_
    simp (disch := omega) only [RA, ↓reduceIte, Nat.reduceEqDiff, RD]
    refine hKr _ _ ?_
    clear hKr Kr
    try simp only [RN, reduceIte]
    try refine T_e rfl ?_
    refine bodyQ_ret (by simp (disch := omega) only [RA, ↓reduceIte, Nat.reduceEqDiff, RD, resAll, resOf]; rfl) GhV.refl ?_
    simp only [tup]
    exact ⟨nn_BI, hK⟩
theorem impl_IsChiral_spec {x : Bool} {n : Int} {b w : List Nat} {H : BH} {K : Value → BH → Prop} (hb : By 16 b) (hw : By 16 w)
    (hK : K (.tuple ⟨[.bool (resCh n b w).1, I (resCh n b w).2]⟩) H) : CallX x F_impl_IsChiral [DV n b w] H K := by
  have hlb := hb.len
  have hlw := hw.len
  refine callP (by exact .cons nn_D .nil) ?_
  refine CallX_body Γ_impl_IsChiral ?_
  simp only [A_impl_IsChiral, T_aiff]
  refine T_rseq fun Kr hKr => ?_
  simp (disch := omega) only [RA, ↓reduceIte, Nat.reduceEqDiff, RD, RDS]
  refine hKr _ _ ?_
  clear hKr Kr
  try simp only [RN, reduceIte]
  try refine T_e rfl ?_
  by_cases h1 : Des n b w
  · rw [resCh, if_pos h1] at hK
    obtain ⟨n, rfl, hn1, hn2⟩ := h1.n0
    rw [Int.toNat_natCast] at hK
    have h2 := h1.mirr
    have hb' : By 16 (mirr b n) := mirr_by hn2
    have hw' : By 16 (mirr w n) := mirr_by hn2
    have c1 := canK_by h1 (show n - 1 < n by omega)
    have c2 := canK_by h2 (show n - 1 < n by omega)
    have l1 := c1.1.len
    have l2 := c1.2.len
    have l3 := c2.1.len
    have l4 := c2.2.len
    rw [alk_can h1 h2] at hK
    have e1 : canD b w n = canK b w n (n - 1) := rfl
    have e2 : canD (mirr b n) (mirr w n) n = canK (mirr b n) (mirr w n) n (n - 1) := rfl
    refine T_rseq fun Kr hKr => ?_
    simp (disch := omega) only [RA, ↓reduceIte, Nat.reduceEqDiff, RD, RDS, RDD]
    refine IsDessin_spec hb hw ?_
    rw [decide_eq_true h1]
    simp (disch := omega) only [RA, ↓reduceIte, Nat.reduceEqDiff, RD, RDS, RDD]
    refine hKr _ _ ?_
    clear hKr Kr
    try simp only [blkQ, thenQ, loopQ]
    try simp only [RN, reduceIte]
    try refine T_e rfl ?_
    refine T_cseq (t := false) (by simp (disch := omega) only [RA, ↓reduceIte, Nat.reduceEqDiff, RD]) ?_
    try simp only [RN, reduceIte]
    try refine T_e rfl ?_
    refine T_rseq fun Kr hKr => ?_
    simp (disch := omega) only [RA, ↓reduceIte, Nat.reduceEqDiff, RD, RDS, RDD]
    refine canonical_spec hb hw h1 ?_
    rw [e1] at hK ⊢
    generalize canK b w n (n - 1) = r1 at l1 l2 hK ⊢
    simp (disch := omega) only [RA, ↓reduceIte, Nat.reduceEqDiff, RD, RDS, RDD]
    refine mirror_spec hb hw h1 ?_
    simp (disch := omega) only [RA, ↓reduceIte, Nat.reduceEqDiff, RD, RDS, RDD]
    refine canonical_spec hb' hw' h2 ?_
    rw [e2] at hK ⊢
    generalize canK (mirr b n) (mirr w n) n (n - 1) = r2 at l3 l4 hK ⊢
    simp (disch := omega) only [RA, ↓reduceIte, Nat.reduceEqDiff, RD, RDS, RDD, eqaV_D]
    refine hKr _ _ ?_
    clear hKr Kr
    try simp only [blkQ, thenQ, loopQ]
    try simp only [RN, reduceIte]
    try refine T_e rfl ?_
    refine bodyQ_ret (by simp (disch := omega) only [RA, ↓reduceIte, Nat.reduceEqDiff, RD, resAll, resOf]; rfl) GhV.refl ?_
    simp only [tup]
    exact ⟨nn_BI, hK⟩
  · rw [resCh, if_neg h1] at hK
    refine T_rseq fun Kr hKr => ?_
    simp (disch := omega) only [RA, ↓reduceIte, Nat.reduceEqDiff, RD, RDS, RDD]
    refine IsDessin_spec hb hw ?_
    rw [decide_eq_false h1]
    simp (disch := omega) only [RA, ↓reduceIte, Nat.reduceEqDiff, RD]
    refine hKr _ _ ?_
    clear hKr Kr
    try simp only [blkQ, thenQ, loopQ]
    try simp only [RN, reduceIte]
    try refine T_e rfl ?_
    refine T_cseq (t := true) (by simp (disch := omega) only [RA, ↓reduceIte, Nat.reduceEqDiff, RD]) ?_
    try simp only [RN, reduceIte]
    try refine T_e rfl ?_
    refine T_rseq fun Kr hKr => ?_
    simp (disch := omega) only [RA, ↓reduceIte, Nat.reduceEqDiff, RD]
    refine hKr _ _ ?_
    clear hKr Kr
    try simp only [RN, reduceIte]
    try refine T_e rfl ?_
    refine bodyQ_ret (by simp (disch := omega) only [RA, ↓reduceIte, Nat.reduceEqDiff, RD, resAll, resOf]; rfl) GhV.refl ?_
    simp only [tup]
    exact ⟨nn_BI, hK⟩
end Go.Bm
