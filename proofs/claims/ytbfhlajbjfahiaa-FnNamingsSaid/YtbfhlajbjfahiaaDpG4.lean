/- DpCd, DpTa, DpTb, DpAa, Dp5, DpDp, DpVa, DpDa -/
import Derived.Test.YtbfhlajbjfahiaaDpG0
import Derived.Test.YtbfhlajbjfahiaaDpG1
import Derived.Test.YtbfhlajbjfahiaaDpG3
/- Mirror images are dessins: the plain law. -/
set_option linter.unusedVariables false
set_option linter.unusedSimpArgs false
namespace Go.Bm
open Go Go.Am

/-! ### Mirror images are dessins -/
section
variable {p b w : List Nat} {n : Nat}
theorem Perm.surj (hp : Perm p n) {y : Nat} (hy : y < n) : ∃ x, x < n ∧ nl p x = y := by
  obtain ⟨c, hc, hyc⟩ := cyc_at hp hy
  have hi := cyc_is hp hc
  obtain ⟨j, hj, rfl⟩ := mem_nl hyc
  by_cases e : j = 0
  · subst e
    exact ⟨_, hi.lt _ (nl_mem (by omega)), hi.last⟩
  · have := hi.step (j - 1) (by omega)
    rw [show j - 1 + 1 = j by omega] at this
    exact ⟨_, hi.lt _ (nl_mem (by omega)), this⟩
theorem back_at (hp : Perm p n) : ∀ {k i : Nat}, k ≤ n → i < k → nl (backK p k) (nl p i) = i
  | 0, _, _, h => by omega
  | k + 1, i, hk, hi => by
    have hn := hp.1
    rw [backK, nl_set, backK_len]
    by_cases e : i = k
    · subst e
      rw [if_pos ⟨rfl, by have := hp.lt (show i < n by omega); omega⟩]
    · rw [if_neg (fun h => e (hp.inj (by omega) (by omega) h.1)), back_at hp (by omega) (by omega)]
theorem back_out (hp : Perm p n) {i : Nat} (hi : n ≤ i) : ∀ {k : Nat}, k ≤ n → nl (backK p k) i = 0
  | 0, _ => by simp only [backK, nl_rep]; split <;> rfl
  | k + 1, hk => by
    have := hp.lt (show k < n by omega)
    rw [backK, nl_set, if_neg (by omega), back_out hp hi (by omega)]
theorem Perm.back (hp : Perm p n) : Perm (backK p n) n := by
  refine ⟨hp.1, fun i _ => ⟨fun h => back_out hp (by omega) (Nat.le_refl _), fun h => ?_⟩⟩
  obtain ⟨x, hx, rfl⟩ := hp.surj (show i < n by omega)
  rw [back_at hp (Nat.le_refl _) hx]
  refine ⟨by omega, fun j hj => ?_⟩
  obtain ⟨y, hy, rfl⟩ := hp.surj (show j < n by omega)
  rw [back_at hp (Nat.le_refl _) hy]
  intro e
  subst e
  omega
end
end Go.Bm

/- Trees: the plain law. Without any one dart a tree falls apart; what lies behind a dart is less and less. -/
set_option linter.unusedVariables false
set_option linter.unusedSimpArgs false
namespace Go.Bm
open Go Go.Am

theorem then_perm {b w : List Nat} {n : Nat} (hb : Perm b n) (hw : Perm w n) : Perm (thenK b w n) n := by
  have hn := hb.1
  refine ⟨hb.1, fun i _ => ⟨fun h => by rw [thenK_nl (by omega), if_neg (by omega)], fun h => ?_⟩⟩
  have hi : i < n := by omega
  rw [thenK_nl (by omega), if_pos hi]
  have h1 := hw.lt (hb.lt hi)
  refine ⟨by omega, fun j hj e => ?_⟩
  rw [thenK_nl (by omega), if_pos (by omega)] at e
  have := hb.inj (by omega) hi (hw.inj (hb.lt (by omega)) (hb.lt hi) e)
  omega
theorem face_perm {b w : List Nat} {n : Nat} (hb : Perm b n) (hw : Perm w n) : Perm (faceP b w n) n := (then_perm hb hw).back
/-- A tree: one face, and one vertex more than edges. -/
def Tree (n : Nat) (b w : List Nat) : Prop := (cyc (faceP b w n) n).length = 1 ∧ (cyc b n).length + (cyc w n).length = n + 1
instance (n : Nat) (b w : List Nat) : Decidable (Tree n b w) := by unfold Tree; infer_instance

/-! ### Vertices by number -/
def vix (p : List Nat) (n x : Nat) : Nat := (cyc p n).findIdx fun c => c.contains x
theorem vix_lt {p : List Nat} {n x : Nat} (hp : Perm p n) (hx : x < n) : vix p n x < (cyc p n).length := by
  obtain ⟨c, hc, hxc⟩ := cyc_at hp hx
  exact List.findIdx_lt_length_of_exists ⟨c, hc, by simpa using hxc⟩
theorem vix_mem {p : List Nat} {n x : Nat} (hp : Perm p n) (hx : x < n) : x ∈ (cyc p n)[vix p n x]'(vix_lt hp hx) := by
  have h2 : ((cyc p n)[vix p n x]'(vix_lt hp hx)).contains x = true := List.findIdx_getElem (w := vix_lt hp hx)
  simpa using h2
theorem cyc_nod {p : List Nat} {n : Nat} (hp : Perm p n) : (cyc p n).flatten.Nodup := (CycOk.all rfl hp (Nat.le_refl n)).nod
/-- A number is in one cycle only. -/
theorem flat_uniq : ∀ {cs : List (List Nat)} {i j x : Nat} (hi : i < cs.length) (hj : j < cs.length), cs.flatten.Nodup → x ∈ cs[i] → x ∈ cs[j] → i = j
  | c :: cs, 0, 0, x, _, _, _, _, _ => rfl
  | c :: cs, 0, j + 1, x, _, hj, hn, h1, h2 => by
    rw [List.flatten_cons, List.nodup_append] at hn
    exact absurd rfl (hn.2.2 x h1 x (List.mem_flatten.2 ⟨_, List.getElem_mem (by simpa using hj), h2⟩))
  | c :: cs, i + 1, 0, x, hi, _, hn, h1, h2 => by
    rw [List.flatten_cons, List.nodup_append] at hn
    exact absurd rfl (hn.2.2 x h2 x (List.mem_flatten.2 ⟨_, List.getElem_mem (by simpa using hi), h1⟩))
  | c :: cs, i + 1, j + 1, x, hi, hj, hn, h1, h2 => by
    rw [List.flatten_cons, List.nodup_append] at hn
    rw [flat_uniq (cs := cs) (by simpa using hi) (by simpa using hj) hn.2.1 h1 h2]
theorem vix_of {p : List Nat} {n x i : Nat} (hp : Perm p n) (hx : x < n) (hi : i < (cyc p n).length) (h : x ∈ (cyc p n)[i]) : vix p n x = i :=
  flat_uniq (vix_lt hp hx) hi (cyc_nod hp) (vix_mem hp hx) h
theorem vix_step {p : List Nat} {n x : Nat} (hp : Perm p n) (hx : x < n) : vix p n (nl p x) = vix p n x :=
  vix_of hp (hp.lt hx) (vix_lt hp hx) ((cyc_is hp (List.getElem_mem _)).fwd (vix_mem hp hx))
theorem vix_surj {p : List Nat} {n i : Nat} (hp : Perm p n) (hi : i < (cyc p n).length) : ∃ x, x < n ∧ vix p n x = i := by
  have hc := cyc_is hp (List.getElem_mem hi)
  have hm : nl (cyc p n)[i] 0 ∈ (cyc p n)[i] := nl_mem hc.ne
  exact ⟨_, hc.lt _ hm, vix_of hp (hc.lt _ hm) hi hm⟩

/-! ### Pieces: numbers of vertices that stay connected, edge by edge -/
def merge (f : Nat → Nat) (e : Nat × Nat) : Nat → Nat := fun x => if f x = f e.1 then f e.2 else f x
def pieces (es : List (Nat × Nat)) : Nat → Nat := es.foldl merge id
theorem pieces_two : ∀ (es : List (Nat × Nat)) (f : Nat → Nat) (V m : Nat) (S : List Nat), S.Nodup → m + es.length ≤ S.length → (∀ a ∈ S, ∃ x, x < V ∧ f x = a) →
    ∃ S' : List Nat, S'.Nodup ∧ m ≤ S'.length ∧ ∀ a ∈ S', ∃ x, x < V ∧ (es.foldl merge f) x = a
  | [], f, V, m, S, h1, h2, h3 => ⟨S, h1, by simpa using h2, h3⟩
  | e :: es, f, V, m, S, h1, h2, h3 => by
    have hl := List.length_erase (a := f e.1) (l := S)
    refine pieces_two es (merge f e) V m (S.erase (f e.1)) (h1.erase _) ?_ fun a ha => ?_
    · simp only [List.length_cons] at h2
      split at hl <;> omega
    · obtain ⟨x, hx, hxa⟩ := h3 a (List.mem_of_mem_erase ha)
      refine ⟨x, hx, ?_⟩
      have hne : a ≠ f e.1 := fun h => by
        subst h
        exact (List.Nodup.not_mem_erase h1) ha
      rw [merge, if_neg (by rw [hxa]; exact hne), hxa]
theorem pieces_mono : ∀ (es : List (Nat × Nat)) (f : Nat → Nat) (x y : Nat), f x = f y → (es.foldl merge f) x = (es.foldl merge f) y
  | [], f, x, y, h => h
  | e :: es, f, x, y, h => pieces_mono es (merge f e) x y (by simp only [merge, h])
theorem pieces_edge : ∀ (es : List (Nat × Nat)) (f : Nat → Nat) (e : Nat × Nat), e ∈ es → (es.foldl merge f) e.1 = (es.foldl merge f) e.2
  | e' :: es, f, e, h => by
    rcases List.mem_cons.1 h with rfl | h
    · exact pieces_mono es _ _ _ (by
        simp only [merge, if_true]
        split
        · rfl
        · rfl)
    · exact pieces_edge es (merge f e') e h
section
variable {b w : List Nat} {n : Nat}
/-- The vertices of a dart; those of w behind those of b. -/
def ends (b w : List Nat) (n : Nat) (c : Bool) (x : Nat) : Nat := if c then (cyc b n).length + vix w n x else vix b n x
def others (b w : List Nat) (n y : Nat) : List (Nat × Nat) := ((List.range n).filter fun z => z != y).map fun z => (ends b w n false z, ends b w n true z)
/-- The piece of each vertex when one dart is taken out. -/
def lab (b w : List Nat) (n y : Nat) : Nat → Nat := pieces (others b w n y)
theorem lab_edge {y z : Nat} (hz : z < n) (h : z ≠ y) (c c' : Bool) : lab b w n y (ends b w n c z) = lab b w n y (ends b w n c' z) := by
  have key : lab b w n y (ends b w n false z) = lab b w n y (ends b w n true z) :=
    pieces_edge _ id (ends b w n false z, ends b w n true z) (List.mem_map.2 ⟨z, List.mem_filter.2 ⟨List.mem_range.2 hz, by simpa using h⟩, rfl⟩)
  cases c <;> cases c' <;> first | rfl | exact key | exact key.symm
theorem filter_ne_len {y : Nat} (hy : y < n) : ((List.range n).filter fun z => z != y).length + 1 = n := by
  have h1 : ((List.range n).filter fun z => z != y) = (List.range n).erase y := (List.Nodup.erase_eq_filter List.nodup_range y).symm
  rw [h1, List.length_erase_of_mem (List.mem_range.2 hy), List.length_range]
  omega
/-- A tree falls apart without any one dart. -/
theorem Tree.apart (hd : Des n b w) (ht : Tree n b w) {y : Nat} (hy : y < n) : lab b w n y (ends b w n false y) ≠ lab b w n y (ends b w n true y) := by
  intro he
  obtain ⟨hb, hw, _⟩ := id hd
  have hall : ∀ z, z < n → lab b w n y (ends b w n false z) = lab b w n y (ends b w n true z) := fun z hz => by
    by_cases e : z = y
    · rw [e]; exact he
    · exact lab_edge hz e _ _
  have hone := hd.ind (fun z => lab b w n y (ends b w n false z) = lab b w n y (ends b w n false 0))
    (fun z hz hS => by
      have e : ends b w n false (nl b z) = ends b w n false z := by simp only [ends]; exact vix_step hb hz
      rw [e]; exact hS)
    (fun z hz hS => by
      have e : ends b w n true (nl w z) = ends b w n true z := by simp only [ends, if_true]; rw [vix_step hw hz]
      rw [hall _ (hw.lt hz), e, ← hall z hz]; exact hS) rfl
  obtain ⟨S, h1, h2, h3⟩ := pieces_two (others b w n y) id (n + 1) 2 (List.range (n + 1)) List.nodup_range (by
    have := filter_ne_len hy
    rw [others, List.length_map, List.length_range]
    omega) (fun a ha => ⟨a, List.mem_range.1 ha, rfl⟩)
  have hvert : ∀ v, v < n + 1 → lab b w n y v = lab b w n y (ends b w n false 0) := fun v hv => by
    have ht2 := ht.2
    rcases Nat.lt_or_ge v (cyc b n).length with h | h
    · obtain ⟨x, hx, rfl⟩ := vix_surj hb h
      exact hone x hx
    · obtain ⟨x, hx, hxv⟩ := vix_surj hw (show v - (cyc b n).length < (cyc w n).length by omega)
      have e : v = ends b w n true x := by simp only [ends, if_true]; omega
      rw [e, ← hall x hx]
      exact hone x hx
  match S, h1, h2, h3 with
  | [], _, h2, _ => simp at h2
  | [_], _, h2, _ => simp at h2
  | a :: a' :: _, h1, _, h3 =>
    obtain ⟨x, hx, hxa⟩ := h3 a (by simp)
    obtain ⟨x', hx', hxa'⟩ := h3 a' (by simp)
    have e1 : lab b w n y x = a := hxa
    have e2 : lab b w n y x' = a' := hxa'
    have : a = a' := by rw [← e1, ← e2, hvert x hx, hvert x' hx']
    simp only [List.nodup_cons, List.mem_cons] at h1
    exact h1.1 (.inl this)
/-- The darts behind a dart at its vertex of one colour. -/
def behind (b w : List Nat) (n : Nat) (c : Bool) (x : Nat) : List Nat := (List.range n).filter fun z => z != x && lab b w n x (ends b w n false z) == lab b w n x (ends b w n c x)
/-! ### Words -/
/-! ### Round a vertex -/
def it (p : List Nat) (x : Nat) : Nat → Nat
  | 0 => nl p x
  | i + 1 => nl p (it p x i)
end
/-- Bytes as a string. -/
def bs (l : List UInt8) : ByteArray := ⟨l.toArray⟩
end Go.Bm

/- Trees: passports, what is a tree, codes. -/
set_option linter.unusedVariables false
set_option linter.unusedSimpArgs false
namespace Go.Bm
open Go Go.Am

theorem face_by {b w : List Nat} {n : Nat} (hn : n ≤ 16) : By 16 (faceP b w n) := backK_by hn
def pass (b w : List Nat) (n : Nat) : List (List Nat) := [typ b n, typ w n, typ (faceP b w n) n]
abbrev FNN (xs : List (List Nat)) : Value := Fz xs.length 1 (xs.map FN)
theorem passport_spec {x : Bool} {n : Nat} {b w : List Nat} {H : BH} {K : Value → BH → Prop} (hb : By 16 b) (hw : By 16 w) (hd : Des n b w)
    (hK : K (FNN (pass b w n)) H) : CallX x F_impl_passport [DV n b w] H K := by
  have hlb := hb.len
  have hlw := hw.len
  have hn := hd.1.1
  have hb16 := fun i => hd.1.lt16 hlb i
  have hw16 := fun i => hd.2.1.lt16 hlw i
  refine callRZ (l := 3) (e := 1) (cs := (pass b w n).map FN) (.cons nn_D .nil) NNL_FN (by simp [pass]) ?_ hK
  refine CallX_body Γ_impl_passport ?_
  simp only [A_impl_passport, T_aiff]
  refine T_rseq fun Kr hKr => ?_
  simp (disch := omega) only [RA, ↓reduceIte, Nat.reduceEqDiff, RD, RDS]
  refine hKr _ _ ?_
  clear hKr Kr
  try simp only [RN, reduceIte]
  try refine T_e rfl ?_
  refine T_rseq fun Kr hKr => ?_
  simp (disch := omega) only [RA, ↓reduceIte, Nat.reduceEqDiff, RD, RDS, RDD]
  refine typeOf_spec hb hd.1 ?_
  simp (disch := omega) only [RA, ↓reduceIte, Nat.reduceEqDiff, Nat.reduceBEq, Nat.reduceSub, Nat.reduceAdd, Nat.reduceMul, Nat.reduceLT, Nat.reduceLeDiff, Int.reduceLE, Int.reduceLT, Int.reduceEq, Int.reduceNeg, Int.reduceToNat, Int.reduceMul, Int.reduceAdd, Int.reduceSub, Int.reduceBEq, Int.reduceBNe, reduceCtorEq, RD, RDS, RDD]
  refine typeOf_spec hw hd.2.1 ?_
  simp (disch := omega) only [RA, ↓reduceIte, Nat.reduceEqDiff, Nat.reduceBEq, Nat.reduceSub, Nat.reduceAdd, Nat.reduceMul, Nat.reduceLT, Nat.reduceLeDiff, Int.reduceLE, Int.reduceLT, Int.reduceEq, Int.reduceNeg, Int.reduceToNat, Int.reduceMul, Int.reduceAdd, Int.reduceSub, Int.reduceBEq, Int.reduceBNe, reduceCtorEq, RD, RDS, RDD]
  refine face_spec hb hw (by omega) hb16 hw16 ?_
  simp (disch := omega) only [RA, ↓reduceIte, Nat.reduceEqDiff, Nat.reduceBEq, Nat.reduceSub, Nat.reduceAdd, Nat.reduceMul, Nat.reduceLT, Nat.reduceLeDiff, Int.reduceLE, Int.reduceLT, Int.reduceEq, Int.reduceNeg, Int.reduceToNat, Int.reduceMul, Int.reduceAdd, Int.reduceSub, Int.reduceBEq, Int.reduceBNe, reduceCtorEq, RD, RDS, RDD]
  refine typeOf_spec (face_by (by omega)) (face_perm hd.1 hd.2.1) ?_
  simp (disch := omega) only [RA, ↓reduceIte, Nat.reduceEqDiff, Nat.reduceBEq, Nat.reduceSub, Nat.reduceAdd, Nat.reduceMul, Nat.reduceLT, Nat.reduceLeDiff, Int.reduceLE, Int.reduceLT, Int.reduceEq, Int.reduceNeg, Int.reduceToNat, Int.reduceMul, Int.reduceAdd, Int.reduceSub, Int.reduceBEq, Int.reduceBNe, reduceCtorEq, RD]
  refine hKr _ _ ?_
  clear hKr Kr
  try simp only [blkQ, thenQ, loopQ]
  try simp only [RN, reduceIte]
  try refine T_e rfl ?_
  refine bodyQ_ret (by simp (disch := omega) only [RA, ↓reduceIte, Nat.reduceEqDiff, RD, resAll, resOf]; rfl) GhV.refl ?_
  simp only [tup]
  exact ⟨1, rfl, rfl⟩
/-! ### Codes -/
theorem isDart_spec {x : Bool} {n : Int} {b w : List Nat} {xs : List Int} {H : BH} {K : Value → BH → Prop} (hb : By 16 b) (hw : By 16 w) (hl : xs.length ≤ 1000)
    (hK : K (.bool (decide (∀ y ∈ xs, 0 ≤ y ∧ y < n))) H) : CallX x F_impl_isDart [DV n b w, FI xs] H K := by
  have hlb := hb.len
  have hlw := hw.len
  refine callP (.cons nn_D (.cons .fz .nil)) ?_
  refine CallX_body Γ_impl_isDart ?_
  simp only [A_impl_isDart, T_aiff]
  refine T_rseq fun Kr hKr => ?_
  simp (disch := omega) only [RA, ↓reduceIte, Nat.reduceEqDiff, RD, RDS]
  refine hKr _ _ ?_
  clear hKr Kr
  try simp only [RN, reduceIte]
  try refine T_e rfl ?_
  refine T_rseq fun Kr hKr => ?_
  simp (disch := omega) only [RA, ↓reduceIte, Nat.reduceEqDiff, RD]
  refine hKr _ _ ?_
  clear hKr Kr
  try simp only [RN, reduceIte]
  try refine T_e rfl ?_
  refine T_wloop (fun m f H' => ∃ i, i ≤ xs.length ∧ m = xs.length - i ∧ (∀ j, j < i → 0 ≤ el xs j ∧ el xs j < n) ∧ f 2 = P 0 0 ∧ f 7 = FI xs ∧ f 8 = I xs.length ∧ f 9 = I i ∧ H' = [some (DC n b w)]) (xs.length) ?_ ?_
  · refine ⟨_, _, Gh.refl, 0, by omega, by omega, fun j hj => by omega, ?_, ?_, ?_, ?_, rfl⟩
    any_goals (simp (disch := omega) only [RA, ↓reduceIte, Nat.reduceEqDiff, RD, RE, *] <;> rfl)
  · rintro m f H' R ⟨i, hi, rfl, hall, g2, g7, g8, g9, rfl⟩ hN hX hR hE
    simp only [A_impl_isDart.l0, T_aiff]
    refine T_rseq fun Kr hKr => ?_
    simp (disch := omega) only [RA, ↓reduceIte, Nat.reduceEqDiff, RD, g8, g9]
    refine hKr _ _ ?_
    clear hKr Kr
    try simp only [RN, reduceIte]
    try refine T_e rfl ?_
    refine T_csplit (p := i < xs.length) (by simp only [RA, ↓reduceIte, Nat.reduceEqDiff] <;> rfl) (by (try simp only [RB]) <;> first | done | exact Iff.rfl | omega | simp) (fun hc => ?_) (fun hc => ?_) <;> (try simp only [RN, reduceIte]) <;> (try refine T_e rfl ?_)
    · have hil : i < xs.length := by assumption
      have hno : ¬ (0 ≤ el xs i ∧ el xs i < n) → decide (∀ y ∈ xs, 0 ≤ y ∧ y < n) = false := fun h => by
        rw [decide_eq_false_iff_not]
        intro h2
        refine h (h2 _ ?_)
        simp [el, List.getD, hil]
      first | refine T_bfree rfl ?_ | refine T_bfree' rfl ?_
      try simp only [RN, reduceIte]
      try refine T_e rfl ?_
      refine T_rseq fun Kr hKr => ?_
      simp (disch := omega) only [RA, ↓reduceIte, Nat.reduceEqDiff, RD, g7, g9]
      refine hKr _ _ ?_
      clear hKr Kr
      try simp only [RN, reduceIte]
      try refine T_e rfl ?_
      by_cases h0 : el xs i < 0
      · refine T_rseq fun Kr hKr => ?_
        simp (disch := omega) only [RA, ↓reduceIte, Nat.reduceEqDiff, RD]
        refine hKr _ _ ?_
        clear hKr Kr
        try simp only [RN, reduceIte]
        try refine T_e rfl ?_
        refine T_cseq (t := true) (by simp (disch := omega) only [RA, ↓reduceIte, Nat.reduceEqDiff, RD]) ?_
        try simp only [RN, reduceIte]
        try refine T_e rfl ?_
        refine T_rseq fun Kr hKr => ?_
        simp (disch := omega) only [RA, ↓reduceIte, Nat.reduceEqDiff, RD]
        refine hKr _ _ ?_
        clear hKr Kr
        try simp only [RN, reduceIte]
        try refine T_e rfl ?_
        refine hR _ _ ?_
        refine bodyQ_ret (by simp (disch := omega) only [RA, ↓reduceIte, Nat.reduceEqDiff, RD, resAll, resOf]; rfl) GhV.refl ?_
        simp only [tup]
        rw [hno (by omega)] at hK
        exact ⟨.bool, hK⟩
      · refine T_rseq fun Kr hKr => ?_
        simp (disch := omega) only [RA, ↓reduceIte, Nat.reduceEqDiff, RD, g2, RDS]
        refine hKr _ _ ?_
        clear hKr Kr
        try simp only [RN, reduceIte]
        try refine T_e rfl ?_
        refine T_csplit (p := n ≤ el xs i) (by simp only [RA, ↓reduceIte, Nat.reduceEqDiff] <;> rfl) (by (try simp only [RB]) <;> first | done | exact Iff.rfl | omega | simp) (fun hc => ?_) (fun hc => ?_) <;> (try simp only [RN, reduceIte]) <;> (try refine T_e rfl ?_)
        · refine T_rseq fun Kr hKr => ?_
          simp (disch := omega) only [RA, ↓reduceIte, Nat.reduceEqDiff, RD]
          refine hKr _ _ ?_
          clear hKr Kr
          try simp only [RN, reduceIte]
          try refine T_e rfl ?_
          refine hR _ _ ?_
          refine bodyQ_ret (by simp (disch := omega) only [RA, ↓reduceIte, Nat.reduceEqDiff, RD, resAll, resOf]; rfl) GhV.refl ?_
          simp only [tup]
          rw [hno (by omega)] at hK
          exact ⟨.bool, hK⟩
        · have hall' : ∀ j, j < i + 1 → 0 ≤ el xs j ∧ el xs j < n := fun j hj => by
            by_cases e : j = i
            · rw [e]; omega
            · exact hall j (by omega)
          refine T_reg_k fun Kr hKr => ?_
          simp (disch := omega) only [RA, ↓reduceIte, Nat.reduceEqDiff, RD, g9]
          refine hKr _ _ ?_
          clear hKr Kr
          refine hN (xs.length - (i + 1)) _ _ _ _ (by omega) Gh.refl ⟨i + 1, by omega, rfl, hall', ?_, ?_, ?_, ?_, rfl⟩
          any_goals (simp (disch := omega) only [RA, ↓reduceIte, Nat.reduceEqDiff, RD, RE, *] <;> rfl)
    · refine hX _ _ ?_
      refine T_rseq fun Kr hKr => ?_
      simp (disch := omega) only [RA, ↓reduceIte, Nat.reduceEqDiff, RD]
      refine hKr _ _ ?_
      clear hKr Kr
      try simp only [RN, reduceIte]
      try refine T_e rfl ?_
      refine bodyQ_ret (by simp (disch := omega) only [RA, ↓reduceIte, Nat.reduceEqDiff, RD, resAll, resOf]; rfl) GhV.refl ?_
      simp only [tup]
      rw [show decide (∀ y ∈ xs, 0 ≤ y ∧ y < n) = true by
        rw [decide_eq_true_eq]
        intro y hy
        obtain ⟨j, hj, rfl⟩ := List.mem_iff_getElem.1 hy
        have := hall j (by omega)
        simpa [el, List.getD, hj] using this] at hK
      exact ⟨.bool, hK⟩
end Go.Bm

/- What is alike, what is chiral. -/
set_option linter.unusedVariables false
set_option linter.unusedSimpArgs false
namespace Go.Bm
open Go Go.Am

def alk (n : Nat) (b w b' w' : List Nat) : Bool := (List.range n).any fun x => decide (ren2 b' w' n x = ren2 b w n 0)
theorem alk_iff {n : Nat} {b w b' w' : List Nat} : alk n b w b' w' = true ↔ ∃ x, x < n ∧ ren2 b' w' n x = ren2 b w n 0 := by
  simp [alk, List.any_eq_true]
theorem alk_can {n : Nat} {b w b' w' : List Nat} (hd : Des n b w) (hd' : Des n b' w') : alk n b w b' w' = decide (canD b w n = canD b' w' n) := by
  rw [Bool.eq_iff_iff, alk_iff, decide_eq_true_eq]
  exact (can_iff hd hd').symm
def resAl (n : Int) (b w : List Nat) (m : Int) (b' w' : List Nat) : Bool × Int :=
  if Des n b w ∧ Des m b' w' then (decide (n = m) && alk n.toNat b w b' w', 0) else (false, 1)
theorem impl_AreAlike_spec {x : Bool} {n : Int} {b w : List Nat} {m : Int} {b' w' : List Nat} {H : BH} {K : Value → BH → Prop} (hb : By 16 b) (hw : By 16 w) (hb' : By 16 b') (hw' : By 16 w')
    (hK : K (.tuple ⟨[.bool (resAl n b w m b' w').1, I (resAl n b w m b' w').2]⟩) H) : CallX x F_impl_AreAlike [DV n b w, DV m b' w'] H K := by
  have hlb := hb.len
  have hlw := hw.len
  have hlb' := hb'.len
  have hlw' := hw'.len
  refine callP (by exact .cons nn_D (.cons nn_D .nil)) ?_
  refine CallX_body Γ_impl_AreAlike ?_
  simp only [A_impl_AreAlike, T_aiff]
  refine T_rseq fun Kr hKr => ?_
  simp (disch := omega) only [RA, ↓reduceIte, Nat.reduceEqDiff, RD, RDS]
  refine hKr _ _ ?_
  clear hKr Kr
  try simp only [RN, reduceIte]
  try refine T_e rfl ?_
  by_cases h1 : Des n b w
  · by_cases h2 : Des m b' w'
    · rw [resAl, if_pos ⟨h1, h2⟩] at hK
      obtain ⟨n, rfl, hn1, hn2⟩ := h1.n0
      obtain ⟨m, rfl, _, _⟩ := h2.n0
      rw [Int.toNat_natCast] at hK
      refine T_rseq fun Kr hKr => ?_
      simp (disch := omega) only [RA, ↓reduceIte, Nat.reduceEqDiff, RD, RDS, RDD]
      refine IsDessin_spec hb hw ?_
      rw [decide_eq_true h1]
      simp (disch := omega) only [RA, ↓reduceIte, Nat.reduceEqDiff, RD, RDS, RDD]
      refine IsDessin_spec hb' hw' ?_
      rw [decide_eq_true h2]
      simp (disch := omega) only [RA, ↓reduceIte, Nat.reduceEqDiff, RD]
      refine hKr _ _ ?_
      clear hKr Kr
      try simp only [blkQ, thenQ, loopQ]
      try simp only [RN, reduceIte]
      try refine T_e rfl ?_
      refine T_cseq (t := false) (by simp (disch := omega) only [RA, ↓reduceIte, Nat.reduceEqDiff, RD]) ?_
      try simp only [RN, reduceIte]
      try refine T_e rfl ?_
      by_cases hnm : n = m
      · subst hnm
        have c1 := canK_by h1 (show n - 1 < n by omega)
        have c2 := canK_by h2 (show n - 1 < n by omega)
        have l1 := c1.1.len
        have l2 := c1.2.len
        have l3 := c2.1.len
        have l4 := c2.2.len
        rw [decide_eq_true (rfl : (n : Int) = n), Bool.true_and, alk_can h1 h2] at hK
        have e1 : canD b w n = canK b w n (n - 1) := rfl
        have e2 : canD b' w' n = canK b' w' n (n - 1) := rfl
        refine T_rseq fun Kr hKr => ?_
        simp (disch := omega) only [RA, ↓reduceIte, Nat.reduceEqDiff, RD, RDS, RDD]
        refine canonical_spec hb hw h1 ?_
        rw [e1] at hK ⊢
        generalize canK b w n (n - 1) = r1 at l1 l2 hK ⊢
        simp (disch := omega) only [RA, ↓reduceIte, Nat.reduceEqDiff, RD, RDS, RDD]
        refine canonical_spec hb' hw' h2 ?_
        rw [e2] at hK ⊢
        generalize canK b' w' n (n - 1) = r2 at l3 l4 hK ⊢
        simp (disch := omega) only [RA, ↓reduceIte, Nat.reduceEqDiff, RD, RDS, RDD, eqaV_D]
        refine hKr _ _ ?_
        clear hKr Kr
        try simp only [blkQ, thenQ, loopQ]
        try simp only [RN, reduceIte]
        try refine T_e rfl ?_
        refine bodyQ_ret (by simp (disch := omega) only [RA, ↓reduceIte, Nat.reduceEqDiff, RD, resAll, resOf]; rfl) GhV.refl ?_
        simp only [tup]
        exact ⟨nn_BI, hK⟩
      · rw [decide_eq_false (show ¬ (n : Int) = m by omega), Bool.false_and] at hK
        refine T_rseq fun Kr hKr => ?_
        simp (disch := omega) only [RA, ↓reduceIte, Nat.reduceEqDiff, RD, RDS, RDD]
        refine hKr _ _ ?_
        clear hKr Kr
        try simp only [RN, reduceIte]
        try refine T_e rfl ?_
        refine bodyQ_ret (by simp (disch := omega) only [RA, ↓reduceIte, Nat.reduceEqDiff, RD, resAll, resOf]; rfl) GhV.refl ?_
        simp only [tup]
        exact ⟨nn_BI, hK⟩
    · rw [resAl, if_neg (fun h => h2 h.2)] at hK
      refine T_rseq fun Kr hKr => ?_
      simp (disch := omega) only [RA, ↓reduceIte, Nat.reduceEqDiff, RD, RDS, RDD]
      refine IsDessin_spec hb hw ?_
      rw [decide_eq_true h1]
      simp (disch := omega) only [RA, ↓reduceIte, Nat.reduceEqDiff, RD, RDS, RDD]
      refine IsDessin_spec hb' hw' ?_
      rw [decide_eq_false h2]
      simp (disch := omega) only [RA, ↓reduceIte, Nat.reduceEqDiff, RD]
      refine hKr _ _ ?_
      clear hKr Kr
      try simp only [blkQ, thenQ, loopQ]
      try simp only [RN, reduceIte]
      try refine T_e rfl ?_
      refine T_cseq (t := true) (by simp (disch := omega) only [RA, ↓reduceIte, Nat.reduceEqDiff, RD]) ?_
      try simp only [RN, reduceIte]
      try refine T_e rfl ?_
      refine T_rseq fun Kr hKr => ?_
      simp (disch := omega) only [RA, ↓reduceIte, Nat.reduceEqDiff, RD]
      refine hKr _ _ ?_
      clear hKr Kr
      try simp only [RN, reduceIte]
      try refine T_e rfl ?_
      refine bodyQ_ret (by simp (disch := omega) only [RA, ↓reduceIte, Nat.reduceEqDiff, RD, resAll, resOf]; rfl) GhV.refl ?_
      simp only [tup]
      exact ⟨nn_BI, hK⟩
  · rw [resAl, if_neg (fun h => h1 h.1)] at hK
    refine T_rseq fun Kr hKr => ?_
    simp (disch := omega) only [RA, ↓reduceIte, Nat.reduceEqDiff, RD, RDS, RDD]
    refine IsDessin_spec hb hw ?_
    rw [decide_eq_false h1]
    simp (disch := omega) only [RA, ↓reduceIte, Nat.reduceEqDiff, RD]
    refine hKr _ _ ?_
    clear hKr Kr
    try simp only [blkQ, thenQ, loopQ]
    try simp only [RN, reduceIte]
    try refine T_e rfl ?_
    refine T_cseq (t := true) (by simp (disch := omega) only [RA, ↓reduceIte, Nat.reduceEqDiff, RD]) ?_
    try simp only [RN, reduceIte]
    try refine T_e rfl ?_
    refine T_rseq fun Kr hKr => ?_
    simp (disch := omega) only [RA, ↓reduceIte, Nat.reduceEqDiff, RD]
    refine hKr _ _ ?_
    clear hKr Kr
    try simp only [RN, reduceIte]
    try refine T_e rfl ?_
    refine bodyQ_ret (by simp (disch := omega) only [RA, ↓reduceIte, Nat.reduceEqDiff, RD, resAll, resOf]; rfl) GhV.refl ?_
    simp only [tup]
    exact ⟨nn_BI, hK⟩
end Go.Bm

/- The laws' copies and comparisons of dessins. -/
set_option linter.unusedVariables false
set_option linter.unusedSimpArgs false
namespace Go.Bm
open Go Go.Am

/-- Two dessins are equal. -/
def EqD (n : Int) (b w : List Nat) (n' : Int) (b' w' : List Nat) : Prop := n = n' ∧ b = b' ∧ w = w'
instance (n : Int) (b w : List Nat) (n' : Int) (b' w' : List Nat) : Decidable (EqD n b w n' b' w') := by unfold EqD; infer_instance
theorem nn_DI {n : Int} {b w : List Nat} {k : IntKind} {c : Int} : NN (.tuple ⟨[aggL (DC n b w), .int k c]⟩) := NN.tuple (NNL.cons nn_D (NNL.cons NN.int NNL.nil))
end Go.Bm

/- Renamed dessins, namings, canonical dessins, passports: what is returned. -/
set_option linter.unusedVariables false
set_option linter.unusedSimpArgs false
namespace Go.Bm
open Go Go.Am

section
variable {x : Bool} {n : Int} {b w p : List Nat} {H : BH} {K : Value → BH → Prop}
def resRn (n : Int) (b w p : List Nat) : (Int × List Nat × List Nat) × Int := if Des n b w ∧ Perm p n then ((n, rnK b p n.toNat, rnK w p n.toNat), 0) else ((0, z16, z16), 1)
theorem spec_RenameDessin_spec (hb : By 16 b) (hw : By 16 w) (hp : By 16 p) (hK : K (.tuple ⟨[DV (resRn n b w p).1.1 (resRn n b w p).1.2.1 (resRn n b w p).1.2.2, I (resRn n b w p).2]⟩) H) :
    CallX x F_spec_RenameDessin [DV n b w, PL p] H K := by
  have hlb := hb.len
  have hlw := hw.len
  have hlp := hp.len
  have hz := z16_len
  refine callP (by exact .cons nn_D (.cons (NN_agg NNL_F8) .nil)) ?_
  refine CallX_body Γ_spec_RenameDessin ?_
  simp only [A_spec_RenameDessin, T_aiff]
  refine T_rseq fun Kr hKr => ?_
  simp (disch := omega) only [RA, ↓reduceIte, Nat.reduceEqDiff, RD, RDS]
  refine hKr _ _ ?_
  clear hKr Kr
  try simp only [RN, reduceIte]
  try refine T_e rfl ?_
  refine T_rseq fun Kr hKr => ?_
  simp (disch := omega) only [RA, ↓reduceIte, Nat.reduceEqDiff, RD, RDS, RDD]
  refine l01Is_spec hb hw ?_
  by_cases hd : Des n b w
  · obtain ⟨m, rfl, hm1, hm2⟩ := hd.n0
    rw [decide_eq_true hd]
    simp (disch := omega) only [RA, ↓reduceIte, Nat.reduceEqDiff, RD, RDS, RDD, hlp]
    refine l01Perm_spec hp ?_
    simp (disch := omega) only [RA, ↓reduceIte, Nat.reduceEqDiff, Nat.reduceAdd, Nat.reduceMul, Int.reduceToNat, Nat.reduceLT, reduceCtorEq, RD]
    refine hKr _ _ ?_
    clear hKr Kr
    try simp only [blkQ, thenQ, loopQ]
    try simp only [RN, reduceIte]
    try refine T_e rfl ?_
    by_cases hpp : Perm p m
    · have hb16 := fun i => hd.1.lt16 hlb i
      have hw16 := fun i => hd.2.1.lt16 hlw i
      have hp16 := fun i => hpp.lt16 hlp i
      have r1 := rnK_by (p := b) (nm := p) (fun i => Nat.lt_trans (hp16 i) (by omega)) (k := m)
      have r2 := rnK_by (p := w) (nm := p) (fun i => Nat.lt_trans (hp16 i) (by omega)) (k := m)
      have l1 := r1.len
      have l2 := r2.len
      rw [resRn, if_pos ⟨hd, hpp⟩] at hK
      refine T_cseq (t := false) (by simp (disch := omega) only [RA, ↓reduceIte, Nat.reduceEqDiff, Nat.reduceAdd, Nat.reduceMul, Int.reduceToNat, Nat.reduceLT, reduceCtorEq, RD, decide_eq_true hpp]) ?_
      try simp only [RN, reduceIte]
      try refine T_e rfl ?_
      refine T_rseq fun Kr hKr => ?_
      simp (disch := omega) only [RA, ↓reduceIte, Nat.reduceEqDiff, Nat.reduceAdd, Nat.reduceMul, Int.reduceToNat, Nat.reduceLT, reduceCtorEq, RD, RDS, RDD, hlp]
      refine l02Rename_spec hb hw (by omega) hb16 hw16 hp hp16 ?_
      simp (disch := omega) only [RA, ↓reduceIte, Nat.reduceEqDiff, Nat.reduceAdd, Nat.reduceMul, Int.reduceToNat, Nat.reduceLT, reduceCtorEq, RD, RDS, RDD]
      refine hKr _ _ ?_
      clear hKr Kr
      try simp only [blkQ, thenQ, loopQ]
      try simp only [RN, reduceIte]
      try refine T_e rfl ?_
      refine bodyQ_ret (by simp (disch := omega) only [RA, ↓reduceIte, Nat.reduceEqDiff, Nat.reduceAdd, Nat.reduceMul, Int.reduceToNat, Nat.reduceLT, reduceCtorEq, RD, resAll, resOf, RDS, RDD]; rfl) GhV.refl ?_
      simp only [tup]
      exact ⟨nn_DI, hK⟩
    · rw [resRn, if_neg (fun h => hpp h.2)] at hK
      refine T_cseq (t := true) (by simp (disch := omega) only [RA, ↓reduceIte, Nat.reduceEqDiff, Nat.reduceAdd, Nat.reduceMul, Int.reduceToNat, Nat.reduceLT, reduceCtorEq, RD, decide_eq_false hpp]) ?_
      try simp only [RN, reduceIte]
      try refine T_e rfl ?_
      refine T_rseq fun Kr hKr => ?_
      simp (disch := omega) only [RA, ↓reduceIte, Nat.reduceEqDiff, Nat.reduceAdd, Nat.reduceMul, Int.reduceToNat, Nat.reduceLT, reduceCtorEq, RD, RDS, RDD]
      refine hKr _ _ ?_
      clear hKr Kr
      try simp only [RN, reduceIte]
      try refine T_e rfl ?_
      refine bodyQ_ret (by simp (disch := omega) only [RA, ↓reduceIte, Nat.reduceEqDiff, Nat.reduceAdd, Nat.reduceMul, Int.reduceToNat, Nat.reduceLT, reduceCtorEq, RD, resAll, resOf, RDS, RDD]; rfl) GhV.refl ?_
      simp only [tup]
      exact ⟨nn_DI, hK⟩
  · rw [decide_eq_false hd]
    rw [resRn, if_neg (fun h => hd h.1)] at hK
    simp (disch := omega) only [RA, ↓reduceIte, Nat.reduceEqDiff, Nat.reduceAdd, Nat.reduceMul, Int.reduceToNat, Nat.reduceLT, reduceCtorEq, RD]
    refine hKr _ _ ?_
    clear hKr Kr
    try simp only [blkQ, thenQ, loopQ]
    try simp only [RN, reduceIte]
    try refine T_e rfl ?_
    refine T_cseq (t := true) (by simp (disch := omega) only [RA, ↓reduceIte, Nat.reduceEqDiff, Nat.reduceAdd, Nat.reduceMul, Int.reduceToNat, Nat.reduceLT, reduceCtorEq, RD]) ?_
    try simp only [RN, reduceIte]
    try refine T_e rfl ?_
    refine T_rseq fun Kr hKr => ?_
    simp (disch := omega) only [RA, ↓reduceIte, Nat.reduceEqDiff, Nat.reduceAdd, Nat.reduceMul, Int.reduceToNat, Nat.reduceLT, reduceCtorEq, RD, RDS, RDD]
    refine hKr _ _ ?_
    clear hKr Kr
    try simp only [RN, reduceIte]
    try refine T_e rfl ?_
    refine bodyQ_ret (by simp (disch := omega) only [RA, ↓reduceIte, Nat.reduceEqDiff, Nat.reduceAdd, Nat.reduceMul, Int.reduceToNat, Nat.reduceLT, reduceCtorEq, RD, resAll, resOf, RDS, RDD]; rfl) GhV.refl ?_
    simp only [tup]
    exact ⟨nn_DI, hK⟩
theorem impl_RenameDessin_spec (hb : By 16 b) (hw : By 16 w) (hp : By 16 p) (hK : K (.tuple ⟨[DV (resRn n b w p).1.1 (resRn n b w p).1.2.1 (resRn n b w p).1.2.2, I (resRn n b w p).2]⟩) H) :
    CallX x F_impl_RenameDessin [DV n b w, PL p] H K := by
  have hlb := hb.len
  have hlw := hw.len
  have hlp := hp.len
  have hz := z16_len
  refine callP (by exact .cons nn_D (.cons (NN_agg NNL_F8) .nil)) ?_
  refine CallX_body Γ_impl_RenameDessin ?_
  simp only [A_impl_RenameDessin, T_aiff]
  refine T_rseq fun Kr hKr => ?_
  simp (disch := omega) only [RA, ↓reduceIte, Nat.reduceEqDiff, RD, RDS]
  refine hKr _ _ ?_
  clear hKr Kr
  try simp only [RN, reduceIte]
  try refine T_e rfl ?_
  refine T_rseq fun Kr hKr => ?_
  simp (disch := omega) only [RA, ↓reduceIte, Nat.reduceEqDiff, RD, RDS, RDD]
  refine IsDessin_spec hb hw ?_
  by_cases hd : Des n b w
  · obtain ⟨m, rfl, hm1, hm2⟩ := hd.n0
    rw [decide_eq_true hd]
    simp (disch := omega) only [RA, ↓reduceIte, Nat.reduceEqDiff, RD, RDS, RDD, hlp]
    refine IsPermutation_spec hp ?_
    simp (disch := omega) only [RA, ↓reduceIte, Nat.reduceEqDiff, Nat.reduceAdd, Nat.reduceMul, Int.reduceToNat, Nat.reduceLT, reduceCtorEq, RD]
    refine hKr _ _ ?_
    clear hKr Kr
    try simp only [blkQ, thenQ, loopQ]
    try simp only [RN, reduceIte]
    try refine T_e rfl ?_
    by_cases hpp : Perm p m
    · have hp16 := fun i => hpp.lt16 hlp i
      have r1 := rnK_by (p := b) (nm := p) (fun i => Nat.lt_trans (hp16 i) (by omega)) (k := m)
      have r2 := rnK_by (p := w) (nm := p) (fun i => Nat.lt_trans (hp16 i) (by omega)) (k := m)
      have l1 := r1.len
      have l2 := r2.len
      rw [resRn, if_pos ⟨hd, hpp⟩] at hK
      refine T_cseq (t := false) (by simp (disch := omega) only [RA, ↓reduceIte, Nat.reduceEqDiff, Nat.reduceAdd, Nat.reduceMul, Int.reduceToNat, Nat.reduceLT, reduceCtorEq, RD, decide_eq_true hpp]) ?_
      try simp only [RN, reduceIte]
      try refine T_e rfl ?_
      refine T_rseq fun Kr hKr => ?_
      simp (disch := omega) only [RA, ↓reduceIte, Nat.reduceEqDiff, Nat.reduceAdd, Nat.reduceMul, Int.reduceToNat, Nat.reduceLT, reduceCtorEq, RD, RDS, RDD, hlp]
      refine rename_spec hb hw hd hp hp16 ?_
      simp (disch := omega) only [RA, ↓reduceIte, Nat.reduceEqDiff, Nat.reduceAdd, Nat.reduceMul, Int.reduceToNat, Nat.reduceLT, reduceCtorEq, RD, RDS, RDD]
      refine hKr _ _ ?_
      clear hKr Kr
      try simp only [blkQ, thenQ, loopQ]
      try simp only [RN, reduceIte]
      try refine T_e rfl ?_
      refine bodyQ_ret (by simp (disch := omega) only [RA, ↓reduceIte, Nat.reduceEqDiff, Nat.reduceAdd, Nat.reduceMul, Int.reduceToNat, Nat.reduceLT, reduceCtorEq, RD, resAll, resOf, RDS, RDD]; rfl) GhV.refl ?_
      simp only [tup]
      exact ⟨nn_DI, hK⟩
    · rw [resRn, if_neg (fun h => hpp h.2)] at hK
      refine T_cseq (t := true) (by simp (disch := omega) only [RA, ↓reduceIte, Nat.reduceEqDiff, Nat.reduceAdd, Nat.reduceMul, Int.reduceToNat, Nat.reduceLT, reduceCtorEq, RD, decide_eq_false hpp]) ?_
      try simp only [RN, reduceIte]
      try refine T_e rfl ?_
      refine T_rseq fun Kr hKr => ?_
      simp (disch := omega) only [RA, ↓reduceIte, Nat.reduceEqDiff, Nat.reduceAdd, Nat.reduceMul, Int.reduceToNat, Nat.reduceLT, reduceCtorEq, RD, RDS, RDD]
      refine hKr _ _ ?_
      clear hKr Kr
      try simp only [RN, reduceIte]
      try refine T_e rfl ?_
      refine bodyQ_ret (by simp (disch := omega) only [RA, ↓reduceIte, Nat.reduceEqDiff, Nat.reduceAdd, Nat.reduceMul, Int.reduceToNat, Nat.reduceLT, reduceCtorEq, RD, resAll, resOf, RDS, RDD]; rfl) GhV.refl ?_
      simp only [tup]
      exact ⟨nn_DI, hK⟩
  · rw [decide_eq_false hd]
    rw [resRn, if_neg (fun h => hd h.1)] at hK
    simp (disch := omega) only [RA, ↓reduceIte, Nat.reduceEqDiff, Nat.reduceAdd, Nat.reduceMul, Int.reduceToNat, Nat.reduceLT, reduceCtorEq, RD]
    refine hKr _ _ ?_
    clear hKr Kr
    try simp only [blkQ, thenQ, loopQ]
    try simp only [RN, reduceIte]
    try refine T_e rfl ?_
    refine T_cseq (t := true) (by simp (disch := omega) only [RA, ↓reduceIte, Nat.reduceEqDiff, Nat.reduceAdd, Nat.reduceMul, Int.reduceToNat, Nat.reduceLT, reduceCtorEq, RD]) ?_
    try simp only [RN, reduceIte]
    try refine T_e rfl ?_
    refine T_rseq fun Kr hKr => ?_
    simp (disch := omega) only [RA, ↓reduceIte, Nat.reduceEqDiff, Nat.reduceAdd, Nat.reduceMul, Int.reduceToNat, Nat.reduceLT, reduceCtorEq, RD, RDS, RDD]
    refine hKr _ _ ?_
    clear hKr Kr
    try simp only [RN, reduceIte]
    try refine T_e rfl ?_
    refine bodyQ_ret (by simp (disch := omega) only [RA, ↓reduceIte, Nat.reduceEqDiff, Nat.reduceAdd, Nat.reduceMul, Int.reduceToNat, Nat.reduceLT, reduceCtorEq, RD, resAll, resOf, RDS, RDD]; rfl) GhV.refl ?_
    simp only [tup]
    exact ⟨nn_DI, hK⟩
def resCa (n : Int) (b w : List Nat) : (Int × List Nat × List Nat) × Int := if Des n b w then ((n, (canD b w n.toNat).1, (canD b w n.toNat).2), 0) else ((0, z16, z16), 1)
theorem spec_CanonicalDessin_spec (hb : By 16 b) (hw : By 16 w) (hK : K (.tuple ⟨[DV (resCa n b w).1.1 (resCa n b w).1.2.1 (resCa n b w).1.2.2, I (resCa n b w).2]⟩) H) :
    CallX x F_spec_CanonicalDessin [DV n b w] H K := by
  have hlb := hb.len
  have hlw := hw.len
  have hz := z16_len
  refine callP (by exact .cons nn_D .nil) ?_
  refine CallX_body Γ_spec_CanonicalDessin ?_
  simp only [A_spec_CanonicalDessin, T_aiff]
  refine T_rseq fun Kr hKr => ?_
  simp (disch := omega) only [RA, ↓reduceIte, Nat.reduceEqDiff, RD, RDS]
  refine hKr _ _ ?_
  clear hKr Kr
  try simp only [RN, reduceIte]
  try refine T_e rfl ?_
  refine T_rseq fun Kr hKr => ?_
  simp (disch := omega) only [RA, ↓reduceIte, Nat.reduceEqDiff, RD, RDS, RDD]
  refine l01Is_spec hb hw ?_
  simp (disch := omega) only [RA, ↓reduceIte, Nat.reduceEqDiff, RD]
  refine hKr _ _ ?_
  clear hKr Kr
  try simp only [blkQ, thenQ, loopQ]
  try simp only [RN, reduceIte]
  try refine T_e rfl ?_
  refine T_csplit (p := ¬ Des n b w) (by simp only [RA, ↓reduceIte, Nat.reduceEqDiff] <;> rfl) (by (try simp only [RB]) <;> first | done | exact Iff.rfl | omega | simp) (fun hc => ?_) (fun hc => ?_) <;> (try simp only [RN, reduceIte]) <;> (try refine T_e rfl ?_)
  · refine T_rseq fun Kr hKr => ?_
    simp (disch := omega) only [RA, ↓reduceIte, Nat.reduceEqDiff, RD, RDS, RDD]
    refine hKr _ _ ?_
    clear hKr Kr
    try simp only [RN, reduceIte]
    try refine T_e rfl ?_
    refine bodyQ_ret (by simp (disch := omega) only [RA, ↓reduceIte, Nat.reduceEqDiff, RD, resAll, resOf, RDS, RDD]; rfl) GhV.refl ?_
    simp only [tup]
    rw [resCa, if_neg hc] at hK
    exact ⟨nn_DI, hK⟩
  have hd := Decidable.not_not.1 hc
  obtain ⟨m, rfl, hm1, hm2⟩ := hd.n0
  have c1 := canK_by hd (show m - 1 < m by omega)
  have l1 : (canD b w m).1.length = 16 := c1.1.len
  have l2 : (canD b w m).2.length = 16 := c1.2.len
  refine T_rseq fun Kr hKr => ?_
  simp (disch := omega) only [RA, ↓reduceIte, Nat.reduceEqDiff, RD, RDS, RDD]
  refine l02Canonical_spec hb hw hd ?_
  simp (disch := omega) only [RA, ↓reduceIte, Nat.reduceEqDiff, RD, RDS, RDD]
  refine hKr _ _ ?_
  clear hKr Kr
  try simp only [blkQ, thenQ, loopQ]
  try simp only [RN, reduceIte]
  try refine T_e rfl ?_
  refine bodyQ_ret (by simp (disch := omega) only [RA, ↓reduceIte, Nat.reduceEqDiff, RD, resAll, resOf, RDS, RDD]; rfl) GhV.refl ?_
  simp only [tup]
  rw [resCa, if_pos hd] at hK
  exact ⟨nn_DI, hK⟩
theorem impl_CanonicalDessin_spec (hb : By 16 b) (hw : By 16 w) (hK : K (.tuple ⟨[DV (resCa n b w).1.1 (resCa n b w).1.2.1 (resCa n b w).1.2.2, I (resCa n b w).2]⟩) H) :
    CallX x F_impl_CanonicalDessin [DV n b w] H K := by
  have hlb := hb.len
  have hlw := hw.len
  have hz := z16_len
  refine callP (by exact .cons nn_D .nil) ?_
  refine CallX_body Γ_impl_CanonicalDessin ?_
  simp only [A_impl_CanonicalDessin, T_aiff]
  refine T_rseq fun Kr hKr => ?_
  simp (disch := omega) only [RA, ↓reduceIte, Nat.reduceEqDiff, RD, RDS]
  refine hKr _ _ ?_
  clear hKr Kr
  try simp only [RN, reduceIte]
  try refine T_e rfl ?_
  refine T_rseq fun Kr hKr => ?_
  simp (disch := omega) only [RA, ↓reduceIte, Nat.reduceEqDiff, RD, RDS, RDD]
  refine IsDessin_spec hb hw ?_
  simp (disch := omega) only [RA, ↓reduceIte, Nat.reduceEqDiff, RD]
  refine hKr _ _ ?_
  clear hKr Kr
  try simp only [blkQ, thenQ, loopQ]
  try simp only [RN, reduceIte]
  try refine T_e rfl ?_
  refine T_csplit (p := ¬ Des n b w) (by simp only [RA, ↓reduceIte, Nat.reduceEqDiff] <;> rfl) (by (try simp only [RB]) <;> first | done | exact Iff.rfl | omega | simp) (fun hc => ?_) (fun hc => ?_) <;> (try simp only [RN, reduceIte]) <;> (try refine T_e rfl ?_)
  · refine T_rseq fun Kr hKr => ?_
    simp (disch := omega) only [RA, ↓reduceIte, Nat.reduceEqDiff, RD, RDS, RDD]
    refine hKr _ _ ?_
    clear hKr Kr
    try simp only [RN, reduceIte]
    try refine T_e rfl ?_
    refine bodyQ_ret (by simp (disch := omega) only [RA, ↓reduceIte, Nat.reduceEqDiff, RD, resAll, resOf, RDS, RDD]; rfl) GhV.refl ?_
    simp only [tup]
    rw [resCa, if_neg hc] at hK
    exact ⟨nn_DI, hK⟩
  have hd := Decidable.not_not.1 hc
  obtain ⟨m, rfl, hm1, hm2⟩ := hd.n0
  have c1 := canK_by hd (show m - 1 < m by omega)
  have l1 : (canD b w m).1.length = 16 := c1.1.len
  have l2 : (canD b w m).2.length = 16 := c1.2.len
  refine T_rseq fun Kr hKr => ?_
  simp (disch := omega) only [RA, ↓reduceIte, Nat.reduceEqDiff, RD, RDS, RDD]
  refine canonical_spec hb hw hd ?_
  simp (disch := omega) only [RA, ↓reduceIte, Nat.reduceEqDiff, RD, RDS, RDD]
  refine hKr _ _ ?_
  clear hKr Kr
  try simp only [blkQ, thenQ, loopQ]
  try simp only [RN, reduceIte]
  try refine T_e rfl ?_
  refine bodyQ_ret (by simp (disch := omega) only [RA, ↓reduceIte, Nat.reduceEqDiff, RD, resAll, resOf, RDS, RDD]; rfl) GhV.refl ?_
  simp only [tup]
  rw [resCa, if_pos hd] at hK
  exact ⟨nn_DI, hK⟩
theorem resCa_by (hb : By 16 b) (hw : By 16 w) : By 16 (resCa n b w).1.2.1 ∧ By 16 (resCa n b w).1.2.2 := by
  unfold resCa
  split
  · rename_i hd
    obtain ⟨m, rfl, hm1, hm2⟩ := hd.n0
    exact canK_by hd (show m - 1 < m by omega)
  · exact ⟨z16_by, z16_by⟩
theorem resRn_by (hp : By 16 p) : By 16 (resRn n b w p).1.2.1 ∧ By 16 (resRn n b w p).1.2.2 := by
  unfold resRn
  split
  · exact ⟨rnK_by hp.lt, rnK_by hp.lt⟩
  · exact ⟨z16_by, z16_by⟩
def resNa (n : Int) (b w : List Nat) (k : Int) : List Nat × Int := if Des n b w then if 0 ≤ k ∧ k < n then (nam b w k.toNat, 0) else (z16, 2) else (z16, 1)
theorem nn_PI {p : List Nat} {k : Int} : NN (.tuple ⟨[PL p, I k]⟩) := NN.tuple (NNL.cons (NN_agg NNL_F8) (NNL.cons .int .nil))
theorem spec_NamingFrom_spec {k : Int} (hb : By 16 b) (hw : By 16 w) (hn : n < 4611686018427387904) (hK : K (.tuple ⟨[PL (resNa n b w k).1, I (resNa n b w k).2]⟩) H) :
    CallX x F_spec_NamingFrom [DV n b w, I k] H K := by
  have hlb := hb.len
  have hlw := hw.len
  have hz := z16_len
  refine callP (by exact .cons nn_D (.cons .int .nil)) ?_
  refine CallX_body Γ_spec_NamingFrom ?_
  simp only [A_spec_NamingFrom, T_aiff]
  refine T_rseq fun Kr hKr => ?_
  simp (disch := omega) only [RA, ↓reduceIte, Nat.reduceEqDiff, RD, RDS]
  refine hKr _ _ ?_
  clear hKr Kr
  try simp only [RN, reduceIte]
  try refine T_e rfl ?_
  first | refine T_bfree rfl ?_ | refine T_bfree' rfl ?_
  try simp only [RN, reduceIte]
  try refine T_e rfl ?_
  refine T_rseq fun Kr hKr => ?_
  simp (disch := omega) only [RA, ↓reduceIte, Nat.reduceEqDiff, RD, RDS, RDD]
  refine l01Is_spec hb hw ?_
  simp (disch := omega) only [RA, ↓reduceIte, Nat.reduceEqDiff, RD]
  refine hKr _ _ ?_
  clear hKr Kr
  try simp only [blkQ, thenQ, loopQ]
  try simp only [RN, reduceIte]
  try refine T_e rfl ?_
  by_cases hd : Des n b w
  · obtain ⟨m, rfl, hm1, hm2⟩ := hd.n0
    refine T_cseq (t := false) (by simp (disch := omega) only [RA, ↓reduceIte, Nat.reduceEqDiff, RD, decide_eq_true hd]) ?_
    try simp only [RN, reduceIte]
    try refine T_e rfl ?_
    refine T_rseq fun Kr hKr => ?_
    simp (disch := omega) only [RA, ↓reduceIte, Nat.reduceEqDiff, RD, RDS, RDD]
    refine l01In_spec ?_
    simp (disch := omega) only [RA, ↓reduceIte, Nat.reduceEqDiff, RD]
    refine hKr _ _ ?_
    clear hKr Kr
    try simp only [blkQ, thenQ, loopQ]
    try simp only [RN, reduceIte]
    try refine T_e rfl ?_
    by_cases hk : 0 ≤ k ∧ k < m
    · obtain ⟨j, rfl⟩ : ∃ j : Nat, k = j := ⟨k.toNat, by omega⟩
      have hj : j < m := by omega
      have l1 := (nam_by hd hj).len
      rw [resNa, if_pos hd, if_pos hk, Int.toNat_natCast] at hK
      have e : decide (0 ≤ (j : Int) ∧ (j : Int) ≤ (m : Int) - 1) = true := decide_eq_true (by omega)
      refine T_cseq (t := false) (by simp (disch := omega) only [RA, ↓reduceIte, Nat.reduceEqDiff, RD, e]) ?_
      try simp only [RN, reduceIte]
      try refine T_e rfl ?_
      refine T_rseq fun Kr hKr => ?_
      simp (disch := omega) only [RA, ↓reduceIte, Nat.reduceEqDiff, RD, RDS, RDD]
      refine l02Naming_spec hb hw hd hj ?_
      simp (disch := omega) only [RA, ↓reduceIte, Nat.reduceEqDiff, RD, l1]
      refine hKr _ _ ?_
      clear hKr Kr
      try simp only [blkQ, thenQ, loopQ]
      try simp only [RN, reduceIte]
      try refine T_e rfl ?_
      refine bodyQ_ret (by simp (disch := omega) only [RA, ↓reduceIte, Nat.reduceEqDiff, RD, resAll, resOf, l1]; rfl) GhV.refl ?_
      simp only [tup]
      dsimp only at hK
      exact ⟨nn_PI, hK⟩
    · rw [resNa, if_pos hd, if_neg hk] at hK
      have e : decide (0 ≤ k ∧ k ≤ (m : Int) - 1) = false := decide_eq_false (by omega)
      refine T_cseq (t := true) (by simp (disch := omega) only [RA, ↓reduceIte, Nat.reduceEqDiff, RD, e]) ?_
      try simp only [RN, reduceIte]
      try refine T_e rfl ?_
      refine T_rseq fun Kr hKr => ?_
      simp (disch := omega) only [RA, ↓reduceIte, Nat.reduceEqDiff, RD]
      refine hKr _ _ ?_
      clear hKr Kr
      try simp only [RN, reduceIte]
      try refine T_e rfl ?_
      refine bodyQ_ret (by simp (disch := omega) only [RA, ↓reduceIte, Nat.reduceEqDiff, RD, resAll, resOf]; rfl) GhV.refl ?_
      simp only [tup]
      exact ⟨nn_PI (p := z16) (k := 2), hK⟩
  · rw [resNa, if_neg hd] at hK
    refine T_cseq (t := true) (by simp (disch := omega) only [RA, ↓reduceIte, Nat.reduceEqDiff, RD, decide_eq_false hd]) ?_
    try simp only [RN, reduceIte]
    try refine T_e rfl ?_
    refine T_rseq fun Kr hKr => ?_
    simp (disch := omega) only [RA, ↓reduceIte, Nat.reduceEqDiff, RD]
    refine hKr _ _ ?_
    clear hKr Kr
    try simp only [RN, reduceIte]
    try refine T_e rfl ?_
    refine bodyQ_ret (by simp (disch := omega) only [RA, ↓reduceIte, Nat.reduceEqDiff, RD, resAll, resOf]; rfl) GhV.refl ?_
    simp only [tup]
    exact ⟨nn_PI (p := z16) (k := 1), hK⟩
theorem isDart1_spec {k : Int} (hb : By 16 b) (hw : By 16 w) (hK : K (.bool (decide (0 ≤ k ∧ k < n))) H) : CallX x F_impl_isDart [DV n b w, FI [k]] H K := by
  have e : decide (∀ y ∈ [k], 0 ≤ y ∧ y < n) = decide (0 ≤ k ∧ k < n) := by simp
  refine isDart_spec (xs := [k]) hb hw (by simp) ?_
  rw [e]
  exact hK
theorem impl_NamingFrom_spec {k : Int} (hb : By 16 b) (hw : By 16 w) (hn : n < 4611686018427387904) (hK : K (.tuple ⟨[PL (resNa n b w k).1, I (resNa n b w k).2]⟩) H) :
    CallX x F_impl_NamingFrom [DV n b w, I k] H K := by
  have hlb := hb.len
  have hlw := hw.len
  have hz := z16_len
  refine callP (by exact .cons nn_D (.cons .int .nil)) ?_
  refine CallX_body Γ_impl_NamingFrom ?_
  simp only [A_impl_NamingFrom, T_aiff]
  refine T_rseq fun Kr hKr => ?_
  simp (disch := omega) only [RA, ↓reduceIte, Nat.reduceEqDiff, RD, RDS]
  refine hKr _ _ ?_
  clear hKr Kr
  try simp only [RN, reduceIte]
  try refine T_e rfl ?_
  first | refine T_bfree rfl ?_ | refine T_bfree' rfl ?_
  try simp only [RN, reduceIte]
  try refine T_e rfl ?_
  refine T_rseq fun Kr hKr => ?_
  simp (disch := omega) only [RA, ↓reduceIte, Nat.reduceEqDiff, Nat.reduceBEq, Nat.reduceSub, Nat.reduceAdd, Nat.reduceMul, Nat.reduceLT, Nat.reduceLeDiff, Int.reduceLE, Int.reduceLT, Int.reduceEq, Int.reduceNeg, Int.reduceToNat, Int.reduceMul, Int.reduceAdd, Int.reduceSub, Int.reduceBEq, Int.reduceBNe, reduceCtorEq, RD, RDS, RDD]
  refine IsDessin_spec hb hw ?_
  simp (disch := omega) only [RA, ↓reduceIte, Nat.reduceEqDiff, Nat.reduceBEq, Nat.reduceSub, Nat.reduceAdd, Nat.reduceMul, Nat.reduceLT, Nat.reduceLeDiff, Int.reduceLE, Int.reduceLT, Int.reduceEq, Int.reduceNeg, Int.reduceToNat, Int.reduceMul, Int.reduceAdd, Int.reduceSub, Int.reduceBEq, Int.reduceBNe, reduceCtorEq, RD]
  refine hKr _ _ ?_
  clear hKr Kr
  try simp only [blkQ, thenQ, loopQ]
  try simp only [RN, reduceIte]
  try refine T_e rfl ?_
  by_cases hd : Des n b w
  · obtain ⟨m, rfl, hm1, hm2⟩ := hd.n0
    refine T_cseq (t := false) (by simp (disch := omega) only [RA, ↓reduceIte, Nat.reduceEqDiff, Nat.reduceBEq, Nat.reduceSub, Nat.reduceAdd, Nat.reduceMul, Nat.reduceLT, Nat.reduceLeDiff, Int.reduceLE, Int.reduceLT, Int.reduceEq, Int.reduceNeg, Int.reduceToNat, Int.reduceMul, Int.reduceAdd, Int.reduceSub, Int.reduceBEq, Int.reduceBNe, reduceCtorEq, RD, decide_eq_true hd]) ?_
    try simp only [RN, reduceIte]
    try refine T_e rfl ?_
    refine T_rseq fun Kr hKr => ?_
    simp (disch := omega) only [RA, ↓reduceIte, Nat.reduceEqDiff, Nat.reduceBEq, Nat.reduceSub, Nat.reduceAdd, Nat.reduceMul, Nat.reduceLT, Nat.reduceLeDiff, Int.reduceLE, Int.reduceLT, Int.reduceEq, Int.reduceNeg, Int.reduceToNat, Int.reduceMul, Int.reduceAdd, Int.reduceSub, Int.reduceBEq, Int.reduceBNe, reduceCtorEq, RD, RDS, RDD]
    refine callFz 2 rfl (by simp only [RH]) ?_
    simp only [RZ, frz_all ]
    refine isDart1_spec hb hw ?_
    simp (disch := omega) only [RA, ↓reduceIte, Nat.reduceEqDiff, Nat.reduceBEq, Nat.reduceSub, Nat.reduceAdd, Nat.reduceMul, Nat.reduceLT, Nat.reduceLeDiff, Int.reduceLE, Int.reduceLT, Int.reduceEq, Int.reduceNeg, Int.reduceToNat, Int.reduceMul, Int.reduceAdd, Int.reduceSub, Int.reduceBEq, Int.reduceBNe, reduceCtorEq, RD]
    refine hKr _ _ ?_
    clear hKr Kr
    try simp only [blkQ, thenQ, loopQ]
    try simp only [RN, reduceIte]
    try refine T_e rfl ?_
    by_cases hk : 0 ≤ k ∧ k < m
    · obtain ⟨j, rfl⟩ : ∃ j : Nat, k = j := ⟨k.toNat, by omega⟩
      have hj : j < m := by omega
      have l1 := (nam_by hd hj).len
      rw [resNa, if_pos hd, if_pos hk, Int.toNat_natCast] at hK
      refine T_cseq (t := false) (by simp (disch := omega) only [RA, ↓reduceIte, Nat.reduceEqDiff, RD, decide_eq_true hk]) ?_
      try simp only [RN, reduceIte]
      try refine T_e rfl ?_
      refine T_rseq fun Kr hKr => ?_
      simp (disch := omega) only [RA, ↓reduceIte, Nat.reduceEqDiff, Nat.reduceBEq, Nat.reduceSub, Nat.reduceAdd, Nat.reduceMul, Nat.reduceLT, Nat.reduceLeDiff, Int.reduceLE, Int.reduceLT, Int.reduceEq, Int.reduceNeg, Int.reduceToNat, Int.reduceMul, Int.reduceAdd, Int.reduceSub, Int.reduceBEq, Int.reduceBNe, reduceCtorEq, RD, RDS, RDD]
      refine naming_spec hb hw hd hj ?_
      simp (disch := omega) only [RA, ↓reduceIte, Nat.reduceEqDiff, RD, l1]
      refine hKr _ _ ?_
      clear hKr Kr
      try simp only [blkQ, thenQ, loopQ]
      try simp only [RN, reduceIte]
      try refine T_e rfl ?_
      refine bodyQ_ret (by simp (disch := omega) only [RA, ↓reduceIte, Nat.reduceEqDiff, RD, resAll, resOf, l1]; rfl) GhV.refl ?_
      simp only [tup]
      dsimp only at hK
      exact ⟨nn_PI, hK⟩
    · rw [resNa, if_pos hd, if_neg hk] at hK
      refine T_cseq (t := true) (by simp (disch := omega) only [RA, ↓reduceIte, Nat.reduceEqDiff, RD, decide_eq_false hk]) ?_
      try simp only [RN, reduceIte]
      try refine T_e rfl ?_
      refine T_rseq fun Kr hKr => ?_
      simp (disch := omega) only [RA, ↓reduceIte, Nat.reduceEqDiff, RD]
      refine hKr _ _ ?_
      clear hKr Kr
      try simp only [RN, reduceIte]
      try refine T_e rfl ?_
      refine bodyQ_ret (by simp (disch := omega) only [RA, ↓reduceIte, Nat.reduceEqDiff, RD, resAll, resOf]; rfl) GhV.refl ?_
      simp only [tup]
      exact ⟨nn_PI (p := z16) (k := 2), hK⟩
  · rw [resNa, if_neg hd] at hK
    refine T_cseq (t := true) (by simp (disch := omega) only [RA, ↓reduceIte, Nat.reduceEqDiff, RD, decide_eq_false hd]) ?_
    try simp only [RN, reduceIte]
    try refine T_e rfl ?_
    refine T_rseq fun Kr hKr => ?_
    simp (disch := omega) only [RA, ↓reduceIte, Nat.reduceEqDiff, RD]
    refine hKr _ _ ?_
    clear hKr Kr
    try simp only [RN, reduceIte]
    try refine T_e rfl ?_
    refine bodyQ_ret (by simp (disch := omega) only [RA, ↓reduceIte, Nat.reduceEqDiff, RD, resAll, resOf]; rfl) GhV.refl ?_
    simp only [tup]
    exact ⟨nn_PI (p := z16) (k := 1), hK⟩
theorem resNa_by {k : Int} : By 16 (resNa n b w k).1 := by
  by_cases hd : Des n b w
  · by_cases hk : 0 ≤ k ∧ k < n
    · rw [resNa, if_pos hd, if_pos hk]
      obtain ⟨m, rfl, hm1, hm2⟩ := hd.n0
      dsimp only
      exact nam_by hd (by omega)
    · rw [resNa, if_pos hd, if_neg hk]
      exact z16_by
  · rw [resNa, if_neg hd]
    exact z16_by
def paR (n : Int) (b w : List Nat) : List (List Nat) := if Des n b w then pass b w n.toNat else []
def paC (n : Int) (b w : List Nat) : Int := if Des n b w then 0 else 1
theorem NN_FNI {t : List (List Nat)} {c : Int} : NN (.tuple ⟨[FNN t, I c]⟩) := NN.tuple (NNL.cons .fz (NNL.cons .int .nil))
theorem impl_PassportOf_spec (hb : By 16 b) (hw : By 16 w) (hK : K (.tuple ⟨[FNN (paR n b w), I (paC n b w)]⟩) H) : CallX x F_impl_PassportOf [DV n b w] H K := by
  have hlb := hb.len
  have hlw := hw.len
  refine callP (by exact .cons nn_D .nil) ?_
  refine CallX_body Γ_impl_PassportOf ?_
  simp only [A_impl_PassportOf, T_aiff]
  refine T_rseq fun Kr hKr => ?_
  simp (disch := omega) only [RA, ↓reduceIte, Nat.reduceEqDiff, RD, RDS]
  refine hKr _ _ ?_
  clear hKr Kr
  try simp only [RN, reduceIte]
  try refine T_e rfl ?_
  refine T_rseq fun Kr hKr => ?_
  simp (disch := omega) only [RA, ↓reduceIte, Nat.reduceEqDiff, RD, RDS, RDD]
  refine IsDessin_spec hb hw ?_
  simp (disch := omega) only [RA, ↓reduceIte, Nat.reduceEqDiff, RD]
  refine hKr _ _ ?_
  clear hKr Kr
  try simp only [blkQ, thenQ, loopQ]
  try simp only [RN, reduceIte]
  try refine T_e rfl ?_
  by_cases hd : Des n b w
  · obtain ⟨m, rfl, hm1, hm2⟩ := hd.n0
    rw [paR, paC, if_pos hd, if_pos hd, Int.toNat_natCast] at hK
    refine T_cseq (t := false) (by simp (disch := omega) only [RA, ↓reduceIte, Nat.reduceEqDiff, RD, decide_eq_true hd]) ?_
    try simp only [RN, reduceIte]
    try refine T_e rfl ?_
    refine T_rseq fun Kr hKr => ?_
    simp (disch := omega) only [RA, ↓reduceIte, Nat.reduceEqDiff, RD, RDS, RDD]
    refine passport_spec hb hw hd ?_
    simp (disch := omega) only [RA, ↓reduceIte, Nat.reduceEqDiff, RD]
    refine hKr _ _ ?_
    clear hKr Kr
    try simp only [blkQ, thenQ, loopQ]
    try simp only [RN, reduceIte]
    try refine T_e rfl ?_
    refine bodyQ_ret (by simp (disch := omega) only [RA, ↓reduceIte, Nat.reduceEqDiff, RD, resAll, resOf]; rfl) GhV.refl ?_
    simp only [tup]
    exact ⟨NN_FNI (t := pass b w m) (c := 0), hK⟩
  · rw [paR, paC, if_neg hd, if_neg hd] at hK
    refine T_cseq (t := true) (by simp (disch := omega) only [RA, ↓reduceIte, Nat.reduceEqDiff, RD, decide_eq_false hd]) ?_
    try simp only [RN, reduceIte]
    try refine T_e rfl ?_
    refine T_rseq fun Kr hKr => ?_
    simp (disch := omega) only [RA, ↓reduceIte, Nat.reduceEqDiff, RD]
    refine hKr _ _ ?_
    clear hKr Kr
    try simp only [RN, reduceIte]
    try refine T_e rfl ?_
    refine bodyQ_ret (by simp (disch := omega) only [RA, ↓reduceIte, Nat.reduceEqDiff, resAll, resOf] <;> rfl) (GhV.nil 1) ?_
    exact ⟨NN_FNI (t := []) (c := 1), hK⟩
end
end Go.Bm

/- Lists put behind lists. -/
set_option linter.unusedVariables false
set_option linter.unusedSimpArgs false
namespace Go.Bm
open Go Go.Am

section
variable {H : BH} {b bytes : Nat}
end
end Go.Bm

/- Draws: a source of numbers. What it draws is not followed, but its range. -/
set_option linter.unusedVariables false
set_option linter.unusedSimpArgs false
namespace Go.Bm
open Go Go.Am

abbrev U64 (h : Int) : Value := .int .u64 h
def SC (code : List Nat) (a : Nat) (h : Int) : List Value := [Fz code.length 1 (code.map N8), I a, U64 h]
section
variable {code : List Nat} {a b : Nat} {h : Int} {H : BH}
theorem sc_0 : getN none (SC code a h) 0 = some (Fz code.length 1 (code.map N8)) := rfl
theorem sc_1 : getN none (SC code a h) 1 = some (I a) := rfl
theorem sc_2 : getN none (SC code a h) 2 = some (U64 h) := rfl
theorem sc_s1 {x : Nat} : stO (some (SC code a h)) H b 1 1 (.int .i64 (x : Int)) = some (undef, H.set b (some (SC code x h))) := by
  rw [stO_1 rfl rfl rfl (by simp [SC])]
  rfl
theorem sc_s2 {x : Int} : stO (some (SC code a h)) H b 2 1 (.int .u64 x) = some (undef, H.set b (some (SC code a x))) := by
  rw [stO_1 rfl rfl rfl (by simp [SC])]
  rfl
theorem sc_f {x : Int} : fillL [.slice none 0 0, .int .i64 0, .int .u64 0] [(0, 1, Fz code.length 1 (code.map N8)), (2, 1, .int .u64 x)] = some (SC code 0 x) := by
  simp [fillL, cellsL, SC, splice, Fz]
theorem NN_SC : NNL (SC code a h) := NNL.cons .fz (NNL.cons .int (NNL.cons .int NNL.nil))
theorem and24 {x : Int} : 0 ≤ IntKind.u64.wrap ((BitVec.ofInt IntKind.u64.bits x &&& BitVec.ofInt IntKind.u64.bits 16777215).toNat : Int) ∧ IntKind.u64.wrap ((BitVec.ofInt IntKind.u64.bits x &&& BitVec.ofInt IntKind.u64.bits 16777215).toNat : Int) ≤ 16777215 := by
  have h1 : (BitVec.ofInt IntKind.u64.bits x &&& BitVec.ofInt IntKind.u64.bits 16777215).toNat ≤ 16777215 := by
    rw [BitVec.toNat_and]
    exact Nat.le_trans Nat.and_le_right (by decide)
  have h2 : IntKind.u64.wrap ((BitVec.ofInt IntKind.u64.bits x &&& BitVec.ofInt IntKind.u64.bits 16777215).toNat : Int) = ((BitVec.ofInt IntKind.u64.bits x &&& BitVec.ofInt IntKind.u64.bits 16777215).toNat : Int) := by
    generalize (BitVec.ofInt IntKind.u64.bits x &&& BitVec.ofInt IntKind.u64.bits 16777215).toNat = k at h1
    exact wu64 (by omega) (by omega)
  rw [h2]
  omega
theorem l01Next_one {n : Int} {K : Value → BH → Prop} (ha : a ≤ code.length) (hl : code.length ≤ 1048576) (hcd : ∀ i, nl code i < 256) (hn : n < 4611686018427387904)
    (hK : ∀ v a' h', a' ≤ code.length → 0 ≤ v → v ≤ 16777470 → (0 < n → v < n) → (n < 1 → v = 0) → K (I v) [some (SC code a' h')]) : CallX false F_spec_l01Next [P 0 0, I n] [some (SC code a h)] K := by
  refine CallX_body Γ_spec_l01Next ?_
  simp only [A_spec_l01Next, T_aiff]
  refine T_rseq fun Kr hKr => ?_
  simp (disch := omega) only [RA, ↓reduceIte, Nat.reduceEqDiff, Nat.reduceBEq, Nat.reduceSub, Nat.reduceAdd, Nat.reduceMul, Nat.reduceLT, Nat.reduceLeDiff, Int.reduceLE, Int.reduceLT, Int.reduceEq, Int.reduceNeg, Int.reduceToNat, Int.reduceMul, Int.reduceAdd, Int.reduceSub, Int.reduceBEq, Int.reduceBNe, reduceCtorEq, RD]
  refine hKr _ _ ?_
  clear hKr Kr
  try simp only [RN, reduceIte]
  try refine T_e rfl ?_
  refine T_rseq fun Kr hKr => ?_
  simp (disch := omega) only [RA, ↓reduceIte, Nat.reduceEqDiff, Nat.reduceBEq, Nat.reduceSub, Nat.reduceAdd, Nat.reduceMul, Nat.reduceLT, Nat.reduceLeDiff, Int.reduceLE, Int.reduceLT, Int.reduceEq, Int.reduceNeg, Int.reduceToNat, Int.reduceMul, Int.reduceAdd, Int.reduceSub, Int.reduceBEq, Int.reduceBNe, reduceCtorEq, RD]
  refine hKr _ _ ?_
  clear hKr Kr
  try simp only [RN, reduceIte]
  try refine T_e rfl ?_
  refine T_csplit (p := n < 1) (by simp only [RA, ↓reduceIte, Nat.reduceEqDiff, Nat.reduceBEq, Nat.reduceSub, Nat.reduceAdd, Nat.reduceMul, Nat.reduceLT, Nat.reduceLeDiff, Int.reduceLE, Int.reduceLT, Int.reduceEq, Int.reduceNeg, Int.reduceToNat, Int.reduceMul, Int.reduceAdd, Int.reduceSub, Int.reduceBEq, Int.reduceBNe, reduceCtorEq] <;> rfl) (by (try simp only [RB]) <;> first | done | exact Iff.rfl | omega | simp) (fun hc => ?_) (fun hc => ?_) <;> (try simp only [RN, reduceIte]) <;> (try refine T_e rfl ?_)
  · refine T_rseq fun Kr hKr => ?_
    simp (disch := omega) only [RA, ↓reduceIte, Nat.reduceEqDiff, Nat.reduceBEq, Nat.reduceSub, Nat.reduceAdd, Nat.reduceMul, Nat.reduceLT, Nat.reduceLeDiff, Int.reduceLE, Int.reduceLT, Int.reduceEq, Int.reduceNeg, Int.reduceToNat, Int.reduceMul, Int.reduceAdd, Int.reduceSub, Int.reduceBEq, Int.reduceBNe, reduceCtorEq, RD]
    refine hKr _ _ ?_
    clear hKr Kr
    try simp only [RN, reduceIte]
    try refine T_e rfl ?_
    refine bodyQ_ret (by simp (disch := omega) only [RA, ↓reduceIte, Nat.reduceEqDiff, Nat.reduceBEq, Nat.reduceSub, Nat.reduceAdd, Nat.reduceMul, Nat.reduceLT, Nat.reduceLeDiff, Int.reduceLE, Int.reduceLT, Int.reduceEq, Int.reduceNeg, Int.reduceToNat, Int.reduceMul, Int.reduceAdd, Int.reduceSub, Int.reduceBEq, Int.reduceBNe, reduceCtorEq, RD, resAll, resOf]; rfl) GhV.refl ?_
    simp only [tup]
    exact hK 0 a h ha (by omega) (by omega) (fun h => by omega) (fun _ => rfl)
  · refine T_rseq fun Kr hKr => ?_
    simp (disch := omega) only [RA, ↓reduceIte, Nat.reduceEqDiff, Nat.reduceBEq, Nat.reduceSub, Nat.reduceAdd, Nat.reduceMul, Nat.reduceLT, Nat.reduceLeDiff, Int.reduceLE, Int.reduceLT, Int.reduceEq, Int.reduceNeg, Int.reduceToNat, Int.reduceMul, Int.reduceAdd, Int.reduceSub, Int.reduceBEq, Int.reduceBNe, reduceCtorEq, RD, sc_2, sc_s2]
    refine hKr _ _ ?_
    clear hKr Kr
    try simp only [RN, reduceIte]
    try refine T_e rfl ?_
    generalize IntKind.u64.wrap (IntKind.u64.wrap (h * 6364136223846793005) + 1442695040888963407) = h2
    refine T_rseq fun Kr hKr => ?_
    simp (disch := omega) only [RA, ↓reduceIte, Nat.reduceEqDiff, Nat.reduceBEq, Nat.reduceSub, Nat.reduceAdd, Nat.reduceMul, Nat.reduceLT, Nat.reduceLeDiff, Int.reduceLE, Int.reduceLT, Int.reduceEq, Int.reduceNeg, Int.reduceToNat, Int.reduceMul, Int.reduceAdd, Int.reduceSub, Int.reduceBEq, Int.reduceBNe, reduceCtorEq, RD, sc_2, sc_s2]
    refine hKr _ _ ?_
    clear hKr Kr
    try simp only [RN, reduceIte]
    try refine T_e rfl ?_
    obtain ⟨y, hy, hy0, hy1⟩ : ∃ y, IntKind.u64.wrap ((BitVec.ofInt IntKind.u64.bits (h2.fdiv (2 ^ min 33 IntKind.u64.bits)) &&& BitVec.ofInt IntKind.u64.bits 16777215).toNat : Int) = y ∧ 0 ≤ y ∧ y ≤ 16777215 := ⟨_, rfl, and24.1, and24.2⟩
    rw [hy]
    have hyw : IntKind.i64.wrap y = y := w64 (by omega) (by omega)
    rw [hyw]
    have hend : ∀ f' y' a', 0 ≤ y' → y' ≤ 16777470 → a' ≤ code.length → f' 1 = I n → f' 5 = I y' → T 1 (.seq A_spec_l01Next.r8 .ret) (bodyQ 1 [.tmp 4] K) f' [some (SC code a' h2)] := by
      intro f' y' a' k1 k2 k3 g1 g5
      have hn0 : n ≠ 0 := by omega
      refine T_rseq fun Kr hKr => ?_
      simp (disch := omega) only [RA, ↓reduceIte, Nat.reduceEqDiff, Nat.reduceBEq, Nat.reduceSub, Nat.reduceAdd, Nat.reduceMul, Nat.reduceLT, Nat.reduceLeDiff, Int.reduceLE, Int.reduceLT, Int.reduceEq, Int.reduceNeg, Int.reduceToNat, Int.reduceMul, Int.reduceAdd, Int.reduceSub, Int.reduceBEq, Int.reduceBNe, reduceCtorEq, RD, g1, g5, hn0]
      refine hKr _ _ ?_
      clear hKr Kr
      try simp only [RN, reduceIte]
      try refine T_e rfl ?_
      refine bodyQ_ret (by simp (disch := omega) only [RA, ↓reduceIte, Nat.reduceEqDiff, Nat.reduceBEq, Nat.reduceSub, Nat.reduceAdd, Nat.reduceMul, Nat.reduceLT, Nat.reduceLeDiff, Int.reduceLE, Int.reduceLT, Int.reduceEq, Int.reduceNeg, Int.reduceToNat, Int.reduceMul, Int.reduceAdd, Int.reduceSub, Int.reduceBEq, Int.reduceBNe, reduceCtorEq, RD, resAll, resOf]; rfl) GhV.refl ?_
      simp only [tup]
      have t1 := Int.tmod_nonneg n k1
      have t2 := Int.tmod_lt_of_pos y' (show 0 < n by omega)
      have t3 : y'.tmod n ≤ y' := by
        rw [Int.tmod_eq_emod_of_nonneg k1]
        have q := Int.mul_ediv_add_emod y' n
        have q2 := Int.mul_nonneg (show 0 ≤ n by omega) (Int.ediv_nonneg k1 (show 0 ≤ n by omega))
        omega
      exact hK _ a' h2 k3 t1 (by omega) (fun _ => t2) (fun h => by omega)
    refine T_rseq fun Kr hKr => ?_
    simp (disch := omega) only [RA, ↓reduceIte, Nat.reduceEqDiff, Nat.reduceBEq, Nat.reduceSub, Nat.reduceAdd, Nat.reduceMul, Nat.reduceLT, Nat.reduceLeDiff, Int.reduceLE, Int.reduceLT, Int.reduceEq, Int.reduceNeg, Int.reduceToNat, Int.reduceMul, Int.reduceAdd, Int.reduceSub, Int.reduceBEq, Int.reduceBNe, reduceCtorEq, RD, sc_1, sc_0]
    refine hKr _ _ ?_
    clear hKr Kr
    try simp only [RN, reduceIte]
    try refine T_e rfl ?_
    refine T_csplit (p := a < code.length) (by simp only [RA, ↓reduceIte, Nat.reduceEqDiff, Nat.reduceBEq, Nat.reduceSub, Nat.reduceAdd, Nat.reduceMul, Nat.reduceLT, Nat.reduceLeDiff, Int.reduceLE, Int.reduceLT, Int.reduceEq, Int.reduceNeg, Int.reduceToNat, Int.reduceMul, Int.reduceAdd, Int.reduceSub, Int.reduceBEq, Int.reduceBNe, reduceCtorEq] <;> rfl) (by (try simp only [RB]) <;> first | done | exact Iff.rfl | omega | simp) (fun hc => ?_) (fun hc => ?_) <;> (try simp only [RN, reduceIte]) <;> (try refine T_e rfl ?_)
    · have hcc := hcd a
      refine T_rseq fun Kr hKr => ?_
      simp (disch := omega) only [RA, ↓reduceIte, Nat.reduceEqDiff, Nat.reduceBEq, Nat.reduceSub, Nat.reduceAdd, Nat.reduceMul, Nat.reduceLT, Nat.reduceLeDiff, Int.reduceLE, Int.reduceLT, Int.reduceEq, Int.reduceNeg, Int.reduceToNat, Int.reduceMul, Int.reduceAdd, Int.reduceSub, Int.reduceBEq, Int.reduceBNe, reduceCtorEq, RD, sc_1, sc_0]
      refine hKr _ _ ?_
      clear hKr Kr
      try simp only [RN, reduceIte]
      try refine T_e rfl ?_
      have e1 : ((a : Nat) : Int) + 1 = ((a + 1 : Nat) : Int) := by omega
      refine T_rseq fun Kr hKr => ?_
      simp (disch := omega) only [RA, ↓reduceIte, Nat.reduceEqDiff, Nat.reduceBEq, Nat.reduceSub, Nat.reduceAdd, Nat.reduceMul, Nat.reduceLT, Nat.reduceLeDiff, Int.reduceLE, Int.reduceLT, Int.reduceEq, Int.reduceNeg, Int.reduceToNat, Int.reduceMul, Int.reduceAdd, Int.reduceSub, Int.reduceBEq, Int.reduceBNe, reduceCtorEq, RD, sc_1, e1, sc_s1]
      refine hKr _ _ ?_
      clear hKr Kr
      try simp only [RN, reduceIte]
      try refine T_e rfl ?_
      refine hend _ (y + nl code a) (a + 1) (by omega) (by omega) (by omega) ?_ ?_
      any_goals (simp (disch := omega) only [RA, ↓reduceIte, Nat.reduceEqDiff, Nat.reduceBEq, Nat.reduceSub, Nat.reduceAdd, Nat.reduceMul, Nat.reduceLT, Nat.reduceLeDiff, Int.reduceLE, Int.reduceLT, Int.reduceEq, Int.reduceNeg, Int.reduceToNat, Int.reduceMul, Int.reduceAdd, Int.reduceSub, Int.reduceBEq, Int.reduceBNe, reduceCtorEq, RD, RE, *] <;> rfl)
    · refine hend _ y a (by omega) (by omega) ha ?_ ?_
      any_goals (simp (disch := omega) only [RA, ↓reduceIte, Nat.reduceEqDiff, Nat.reduceBEq, Nat.reduceSub, Nat.reduceAdd, Nat.reduceMul, Nat.reduceLT, Nat.reduceLeDiff, Int.reduceLE, Int.reduceLT, Int.reduceEq, Int.reduceNeg, Int.reduceToNat, Int.reduceMul, Int.reduceAdd, Int.reduceSub, Int.reduceBEq, Int.reduceBNe, reduceCtorEq, RD, RE, *] <;> rfl)
theorem l01Next_spec {n : Int} {i : Nat} {K : Value → BH → Prop} (hb : blk H i = some (SC code a h)) (ha : a ≤ code.length) (hl : code.length ≤ 1048576) (hcd : ∀ i, nl code i < 256) (hn : n < 4611686018427387904)
    (hK : ∀ v a' h', a' ≤ code.length → 0 ≤ v → v ≤ 16777470 → (0 < n → v < n) → (n < 1 → v = 0) → K (I v) (H.set i (some (SC code a' h')))) : CallX false F_spec_l01Next [P i 0, I n] H K := by
  refine call1 hb NN_SC ?_
  have e : ([P i 0, I n] : List Value).map (ren [i]) = [P 0 0, I n] := by simp [ren, ren1, nm]
  rw [e]
  exact l01Next_one ha hl hcd hn fun v a' h' k1 k2 k3 k4 k5 => ⟨.int, HN.cons NN_SC HN.nil, hK v a' h' k1 k2 k3 k4 k5⟩
theorem l01From_run (hl : code.length ≤ 1048576) (hcd : ∀ i, nl code i < 256) : CallX false F_spec_l01From [Fz code.length 1 (code.map N8)] [] fun v H1 => ∃ j h, v = P j 0 ∧ blk H1 j = some (SC code 0 h) := by
  refine CallX_body Γ_spec_l01From ?_
  simp only [A_spec_l01From, T_aiff]
  refine T_rseq fun Kr hKr => ?_
  simp (disch := omega) only [RA, ↓reduceIte, Nat.reduceEqDiff, Nat.reduceBEq, Nat.reduceSub, Nat.reduceAdd, Nat.reduceMul, Nat.reduceLT, Nat.reduceLeDiff, Int.reduceLE, Int.reduceLT, Int.reduceEq, Int.reduceNeg, Int.reduceToNat, Int.reduceMul, Int.reduceAdd, Int.reduceSub, Int.reduceBEq, Int.reduceBNe, reduceCtorEq, RD]
  refine hKr _ _ ?_
  clear hKr Kr
  try simp only [RN, reduceIte]
  try refine T_e rfl ?_
  refine T_rseq fun Kr hKr => ?_
  simp (disch := omega) only [RA, ↓reduceIte, Nat.reduceEqDiff, Nat.reduceBEq, Nat.reduceSub, Nat.reduceAdd, Nat.reduceMul, Nat.reduceLT, Nat.reduceLeDiff, Int.reduceLE, Int.reduceLT, Int.reduceEq, Int.reduceNeg, Int.reduceToNat, Int.reduceMul, Int.reduceAdd, Int.reduceSub, Int.reduceBEq, Int.reduceBNe, reduceCtorEq, RD, sc_f]
  refine hKr _ _ ?_
  clear hKr Kr
  try simp only [RN, reduceIte]
  try refine T_e rfl ?_
  refine T_rseq fun Kr hKr => ?_
  simp (disch := omega) only [RA, ↓reduceIte, Nat.reduceEqDiff, Nat.reduceBEq, Nat.reduceSub, Nat.reduceAdd, Nat.reduceMul, Nat.reduceLT, Nat.reduceLeDiff, Int.reduceLE, Int.reduceLT, Int.reduceEq, Int.reduceNeg, Int.reduceToNat, Int.reduceMul, Int.reduceAdd, Int.reduceSub, Int.reduceBEq, Int.reduceBNe, reduceCtorEq, RD]
  refine hKr _ _ ?_
  clear hKr Kr
  try simp only [RN, reduceIte]
  try refine T_e rfl ?_
  refine T_wloop (fun d f H' => ∃ i h, i ≤ code.length ∧ d = code.length - i ∧ f 0 = Fz code.length 1 (code.map N8) ∧ f 3 = P 0 0 ∧ f 4 = I i ∧ H' = [some (SC code 0 h)]) (code.length) ?_ ?_
  · refine ⟨_, _, Gh.refl, 0, _, by omega, by omega, ?_, ?_, ?_, rfl⟩
    any_goals (simp (disch := omega) only [RA, ↓reduceIte, Nat.reduceEqDiff, Nat.reduceBEq, Nat.reduceSub, Nat.reduceAdd, Nat.reduceMul, Nat.reduceLT, Nat.reduceLeDiff, Int.reduceLE, Int.reduceLT, Int.reduceEq, Int.reduceNeg, Int.reduceToNat, Int.reduceMul, Int.reduceAdd, Int.reduceSub, Int.reduceBEq, Int.reduceBNe, reduceCtorEq, RD, RE, *] <;> rfl)
  · rintro d f H' R ⟨i, h, hi, rfl, g0, g3, g4, rfl⟩ hN hX hR hE
    simp only [A_spec_l01From.l0, T_aiff]
    by_cases h1 : i < code.length
    · by_cases h2 : i < 4096
      · have hcc := hcd i
        refine T_rseq fun Kr hKr => ?_
        simp (disch := omega) only [RA, ↓reduceIte, Nat.reduceEqDiff, Nat.reduceBEq, Nat.reduceSub, Nat.reduceAdd, Nat.reduceMul, Nat.reduceLT, Nat.reduceLeDiff, Int.reduceLE, Int.reduceLT, Int.reduceEq, Int.reduceNeg, Int.reduceToNat, Int.reduceMul, Int.reduceAdd, Int.reduceSub, Int.reduceBEq, Int.reduceBNe, reduceCtorEq, RD, g0, g4]
        refine hKr _ _ ?_
        clear hKr Kr
        try simp only [RN, reduceIte]
        try refine T_e rfl ?_
        refine T_cseq (t := true) (by simp (disch := omega) only [RA, ↓reduceIte, Nat.reduceEqDiff, Nat.reduceBEq, Nat.reduceSub, Nat.reduceAdd, Nat.reduceMul, Nat.reduceLT, Nat.reduceLeDiff, Int.reduceLE, Int.reduceLT, Int.reduceEq, Int.reduceNeg, Int.reduceToNat, Int.reduceMul, Int.reduceAdd, Int.reduceSub, Int.reduceBEq, Int.reduceBNe, reduceCtorEq, RD]) ?_
        try simp only [RN, reduceIte]
        try refine T_e rfl ?_
        first | refine T_bfree rfl ?_ | refine T_bfree' rfl ?_
        try simp only [RN, reduceIte]
        try refine T_e rfl ?_
        refine T_rseq fun Kr hKr => ?_
        simp (disch := omega) only [RA, ↓reduceIte, Nat.reduceEqDiff, Nat.reduceBEq, Nat.reduceSub, Nat.reduceAdd, Nat.reduceMul, Nat.reduceLT, Nat.reduceLeDiff, Int.reduceLE, Int.reduceLT, Int.reduceEq, Int.reduceNeg, Int.reduceToNat, Int.reduceMul, Int.reduceAdd, Int.reduceSub, Int.reduceBEq, Int.reduceBNe, reduceCtorEq, RD, g0, g3, g4, sc_2, sc_s2]
        refine hKr _ _ ?_
        clear hKr Kr
        try simp only [RN, reduceIte]
        try refine T_e rfl ?_
        refine T_reg_k fun Kr hKr => ?_
        simp (disch := omega) only [RA, ↓reduceIte, Nat.reduceEqDiff, Nat.reduceBEq, Nat.reduceSub, Nat.reduceAdd, Nat.reduceMul, Nat.reduceLT, Nat.reduceLeDiff, Int.reduceLE, Int.reduceLT, Int.reduceEq, Int.reduceNeg, Int.reduceToNat, Int.reduceMul, Int.reduceAdd, Int.reduceSub, Int.reduceBEq, Int.reduceBNe, reduceCtorEq, RD, g4]
        refine hKr _ _ ?_
        clear hKr Kr
        refine hN (code.length - (i + 1)) _ _ _ _ (by omega) Gh.refl ⟨i + 1, _, by omega, rfl, ?_, ?_, ?_, rfl⟩
        any_goals (simp (disch := omega) only [RA, ↓reduceIte, Nat.reduceEqDiff, Nat.reduceBEq, Nat.reduceSub, Nat.reduceAdd, Nat.reduceMul, Nat.reduceLT, Nat.reduceLeDiff, Int.reduceLE, Int.reduceLT, Int.reduceEq, Int.reduceNeg, Int.reduceToNat, Int.reduceMul, Int.reduceAdd, Int.reduceSub, Int.reduceBEq, Int.reduceBNe, reduceCtorEq, RD, RE, *] <;> rfl)
      · refine T_rseq fun Kr hKr => ?_
        simp (disch := omega) only [RA, ↓reduceIte, Nat.reduceEqDiff, Nat.reduceBEq, Nat.reduceSub, Nat.reduceAdd, Nat.reduceMul, Nat.reduceLT, Nat.reduceLeDiff, Int.reduceLE, Int.reduceLT, Int.reduceEq, Int.reduceNeg, Int.reduceToNat, Int.reduceMul, Int.reduceAdd, Int.reduceSub, Int.reduceBEq, Int.reduceBNe, reduceCtorEq, RD, g0, g4]
        refine hKr _ _ ?_
        clear hKr Kr
        try simp only [RN, reduceIte]
        try refine T_e rfl ?_
        refine T_cseq (t := false) (by simp (disch := omega) only [RA, ↓reduceIte, Nat.reduceEqDiff, Nat.reduceBEq, Nat.reduceSub, Nat.reduceAdd, Nat.reduceMul, Nat.reduceLT, Nat.reduceLeDiff, Int.reduceLE, Int.reduceLT, Int.reduceEq, Int.reduceNeg, Int.reduceToNat, Int.reduceMul, Int.reduceAdd, Int.reduceSub, Int.reduceBEq, Int.reduceBNe, reduceCtorEq, RD]) ?_
        try simp only [RN, reduceIte]
        try refine T_e rfl ?_
        refine hX _ _ ?_
        refine T_rseq fun Kr hKr => ?_
        simp (disch := omega) only [RA, ↓reduceIte, Nat.reduceEqDiff, Nat.reduceBEq, Nat.reduceSub, Nat.reduceAdd, Nat.reduceMul, Nat.reduceLT, Nat.reduceLeDiff, Int.reduceLE, Int.reduceLT, Int.reduceEq, Int.reduceNeg, Int.reduceToNat, Int.reduceMul, Int.reduceAdd, Int.reduceSub, Int.reduceBEq, Int.reduceBNe, reduceCtorEq, RD, g3]
        refine hKr _ _ ?_
        clear hKr Kr
        try simp only [RN, reduceIte]
        try refine T_e rfl ?_
        refine bodyQ_ret (by simp (disch := omega) only [RA, ↓reduceIte, Nat.reduceEqDiff, Nat.reduceBEq, Nat.reduceSub, Nat.reduceAdd, Nat.reduceMul, Nat.reduceLT, Nat.reduceLeDiff, Int.reduceLE, Int.reduceLT, Int.reduceEq, Int.reduceNeg, Int.reduceToNat, Int.reduceMul, Int.reduceAdd, Int.reduceSub, Int.reduceBEq, Int.reduceBNe, reduceCtorEq, RD, resAll, resOf]; rfl) GhV.refl ?_
        simp only [tup]
        exact ⟨0, h, rfl, rfl⟩
    · refine T_rseq fun Kr hKr => ?_
      simp (disch := omega) only [RA, ↓reduceIte, Nat.reduceEqDiff, Nat.reduceBEq, Nat.reduceSub, Nat.reduceAdd, Nat.reduceMul, Nat.reduceLT, Nat.reduceLeDiff, Int.reduceLE, Int.reduceLT, Int.reduceEq, Int.reduceNeg, Int.reduceToNat, Int.reduceMul, Int.reduceAdd, Int.reduceSub, Int.reduceBEq, Int.reduceBNe, reduceCtorEq, RD, g0, g4]
      refine hKr _ _ ?_
      clear hKr Kr
      try simp only [RN, reduceIte]
      try refine T_e rfl ?_
      refine T_cseq (t := false) (by simp (disch := omega) only [RA, ↓reduceIte, Nat.reduceEqDiff, Nat.reduceBEq, Nat.reduceSub, Nat.reduceAdd, Nat.reduceMul, Nat.reduceLT, Nat.reduceLeDiff, Int.reduceLE, Int.reduceLT, Int.reduceEq, Int.reduceNeg, Int.reduceToNat, Int.reduceMul, Int.reduceAdd, Int.reduceSub, Int.reduceBEq, Int.reduceBNe, reduceCtorEq, RD]) ?_
      try simp only [RN, reduceIte]
      try refine T_e rfl ?_
      refine hX _ _ ?_
      refine T_rseq fun Kr hKr => ?_
      simp (disch := omega) only [RA, ↓reduceIte, Nat.reduceEqDiff, Nat.reduceBEq, Nat.reduceSub, Nat.reduceAdd, Nat.reduceMul, Nat.reduceLT, Nat.reduceLeDiff, Int.reduceLE, Int.reduceLT, Int.reduceEq, Int.reduceNeg, Int.reduceToNat, Int.reduceMul, Int.reduceAdd, Int.reduceSub, Int.reduceBEq, Int.reduceBNe, reduceCtorEq, RD, g3]
      refine hKr _ _ ?_
      clear hKr Kr
      try simp only [RN, reduceIte]
      try refine T_e rfl ?_
      refine bodyQ_ret (by simp (disch := omega) only [RA, ↓reduceIte, Nat.reduceEqDiff, Nat.reduceBEq, Nat.reduceSub, Nat.reduceAdd, Nat.reduceMul, Nat.reduceLT, Nat.reduceLeDiff, Int.reduceLE, Int.reduceLT, Int.reduceEq, Int.reduceNeg, Int.reduceToNat, Int.reduceMul, Int.reduceAdd, Int.reduceSub, Int.reduceBEq, Int.reduceBNe, reduceCtorEq, RD, resAll, resOf]; rfl) GhV.refl ?_
      simp only [tup]
      exact ⟨0, h, rfl, rfl⟩
theorem l01From_spec {x : Bool} {K : Value → BH → Prop} (hl : code.length ≤ 1048576) (hcd : ∀ i, nl code i < 256) (hK : ∀ h, K (P H.length 0) (H ++ [some (SC code 0 h)])) :
    CallX x F_spec_l01From [Fz code.length 1 (code.map N8)] H K :=
  callR2 (.cons .fz .nil) ((l01From_run hl hcd).mono fun v H1 ⟨j, h, h1, h2⟩ => ⟨j, _, _, fun ρ ρ' Z u hr hv => by
    rw [h1] at hv
    obtain ⟨b, hb, rfl⟩ := hv.ptr_inv
    exact .ptr (by rw [hr]; exact hb), h2, NN_SC, hK h⟩)
theorem l01Pick_spec {xs : List Int} {i : Nat} {K : Value → BH → Prop} (hb : blk H i = some (SC code a h)) (ha : a ≤ code.length) (hl : code.length ≤ 1048576) (hcd : ∀ i, nl code i < 256) (h0 : 0 < xs.length) (hx : xs.length ≤ 1000)
    (hK : ∀ k a' h', k < xs.length → a' ≤ code.length → K (I (el xs k)) (H.set i (some (SC code a' h')))) : CallX false F_spec_l01Pick [P i 0, Fz xs.length 1 (xs.map I)] H K := by
  refine call1 hb NN_SC ?_
  have e : ([P i 0, Fz xs.length 1 (xs.map I)] : List Value).map (ren [i]) = [P 0 0, Fz xs.length 1 (xs.map I)] := by simp [ren, ren1, nm, Fz]
  rw [e]
  refine CallX_body Γ_spec_l01Pick ?_
  simp only [A_spec_l01Pick, T_aiff]
  refine T_rseq fun Kr hKr => ?_
  simp (disch := omega) only [RA, ↓reduceIte, Nat.reduceEqDiff, Nat.reduceBEq, Nat.reduceSub, Nat.reduceAdd, Nat.reduceMul, Nat.reduceLT, Nat.reduceLeDiff, Int.reduceLE, Int.reduceLT, Int.reduceEq, Int.reduceNeg, Int.reduceToNat, Int.reduceMul, Int.reduceAdd, Int.reduceSub, Int.reduceBEq, Int.reduceBNe, reduceCtorEq, RD]
  refine hKr _ _ ?_
  clear hKr Kr
  try simp only [RN, reduceIte]
  try refine T_e rfl ?_
  refine T_rseq fun Kr hKr => ?_
  simp (disch := omega) only [RA, ↓reduceIte, Nat.reduceEqDiff, Nat.reduceBEq, Nat.reduceSub, Nat.reduceAdd, Nat.reduceMul, Nat.reduceLT, Nat.reduceLeDiff, Int.reduceLE, Int.reduceLT, Int.reduceEq, Int.reduceNeg, Int.reduceToNat, Int.reduceMul, Int.reduceAdd, Int.reduceSub, Int.reduceBEq, Int.reduceBNe, reduceCtorEq, RD]
  refine l01Next_spec (i := 0) rfl ha hl hcd (by omega) fun v a' h' k1 k2 k3 k4 k5 => ?_
  have hv := k4 (by omega)
  obtain ⟨k, rfl⟩ : ∃ k : Nat, v = k := ⟨v.toNat, by omega⟩
  simp (disch := omega) only [RA, ↓reduceIte, Nat.reduceEqDiff, Nat.reduceBEq, Nat.reduceSub, Nat.reduceAdd, Nat.reduceMul, Nat.reduceLT, Nat.reduceLeDiff, Int.reduceLE, Int.reduceLT, Int.reduceEq, Int.reduceNeg, Int.reduceToNat, Int.reduceMul, Int.reduceAdd, Int.reduceSub, Int.reduceBEq, Int.reduceBNe, reduceCtorEq, RD]
  refine hKr _ _ ?_
  clear hKr Kr
  try simp only [blkQ, thenQ, loopQ]
  try simp only [RN, reduceIte]
  try refine T_e rfl ?_
  refine bodyQ_ret (by simp (disch := omega) only [RA, ↓reduceIte, Nat.reduceEqDiff, Nat.reduceBEq, Nat.reduceSub, Nat.reduceAdd, Nat.reduceMul, Nat.reduceLT, Nat.reduceLeDiff, Int.reduceLE, Int.reduceLT, Int.reduceEq, Int.reduceNeg, Int.reduceToNat, Int.reduceMul, Int.reduceAdd, Int.reduceSub, Int.reduceBEq, Int.reduceBNe, reduceCtorEq, RD, resAll, resOf]; rfl) GhV.refl ?_
  simp only [tup]
  exact ⟨.int, HN.cons NN_SC HN.nil, hK k a' h' (by omega) k1⟩
end
end Go.Bm

