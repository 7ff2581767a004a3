/- Flags. -/
import Derived.Test.YtbbgifoamnjhoaaDp4
set_option linter.unusedVariables false
set_option linter.unusedSimpArgs false
namespace Go.Bm
open Go Go.Am

abbrev FC (n : Int) (c t s : List Nat) : List Value := I n :: (c.map N8 ++ (t.map N8 ++ s.map N8))
abbrev FV (n : Int) (c t s : List Nat) : Value := aggL (FC n c t s)
def z32 : List Nat := List.replicate 32 0
theorem z32_by : By 32 z32 := By.rep
theorem z32_len : z32.length = 32 := by simp [z32]
theorem fz96 : (Value.int .i64 0 :: List.replicate 96 (Value.int .u8 0)) = FC 0 z32 z32 z32 := by rfl
theorem plain_3 {b w p : List Nat} : (b.map N8 ++ (w.map N8 ++ p.map N8)).all Am.plain = true := by rw [List.all_append, List.all_append, plain_N, plain_N, plain_N]; rfl
theorem plain_F {n : Int} {c t s : List Nat} : (FC n c t s).all Am.plain = true := by
  rw [FC, List.all_cons, plain_3]; rfl
theorem ones_F {n : Int} {c t s : List Nat} : (FC n c t s).all one2 = true := by
  simp only [FC, List.all_cons, List.all_append, Bool.and_eq_true]
  exact ⟨rfl, ones_N, ones_N, ones_N⟩
theorem NN_F {n : Int} {c t s : List Nat} : NNL (FC n c t s) := .cons .int (.append (.map fun _ => .int) (.append (.map fun _ => .int) (.map fun _ => .int)))
theorem nn_F {n : Int} {c t s : List Nat} : NN (aggL (FC n c t s)) := NN.agg NN_F
section
variable {H : BH} {i : Nat} {n m : Int} {c t s p c' t' s' : List Nat}
theorem len_F (hc : c.length = 32) (ht : t.length = 32) (hs : s.length = 32) : (FC n c t s).length = 97 := by simp [hc, ht, hs]
theorem getN_F0 : getN none (FC n c t s) 0 = some (I n) := rfl
theorem getN_F1 (hc : c.length = 32) : getN (some 32) (FC n c t s) 1 = some (PL c) := by
  have := getN_mid (g := N8) (x := c) (pre := [I n]) (post := t.map N8 ++ s.map N8)
  rw [hc] at this
  exact this
theorem getN_F2 (hc : c.length = 32) (ht : t.length = 32) : getN (some 32) (FC n c t s) 33 = some (PL t) := by
  have := getN_mid (g := N8) (x := t) (pre := I n :: c.map N8) (post := s.map N8)
  rw [ht] at this
  simpa [hc] using this
theorem getN_F3 (hc : c.length = 32) (ht : t.length = 32) (hs : s.length = 32) : getN (some 32) (FC n c t s) 65 = some (PL s) := by
  have := getN_mid (g := N8) (x := s) (pre := I n :: (c.map N8 ++ t.map N8)) (post := [])
  rw [hs] at this
  simpa [hc, ht] using this
theorem getN_Fc {k : Nat} (h : k < c.length) : getN none (FC n c t s) (1 + k) = some (N8 (nl c k)) := getN_mid1 (g := N8) (x := c) (k := k) (d := 0) (pre := [I n]) (post := t.map N8 ++ s.map N8) h
theorem getN_Ft {k : Nat} (hc : c.length = 32) (h : k < t.length) : getN none (FC n c t s) (33 + k) = some (N8 (nl t k)) := by
  have := getN_mid1 (g := N8) (x := t) (k := k) (d := 0) (pre := I n :: c.map N8) (post := s.map N8) h
  simp only [List.length_cons, List.length_map, hc, List.cons_append] at this
  exact this
theorem getN_Fs {k : Nat} (hc : c.length = 32) (ht : t.length = 32) (h : k < s.length) : getN none (FC n c t s) (65 + k) = some (N8 (nl s k)) := by
  have := getN_mid1 (g := N8) (x := s) (k := k) (d := 0) (pre := I n :: (c.map N8 ++ t.map N8)) (post := []) h
  simp only [List.length_cons, List.length_append, List.length_map, hc, ht, List.cons_append, List.append_nil, List.append_assoc] at this
  exact this
theorem getN_fv (hc : c.length = 32) (ht : t.length = 32) (hs : s.length = 32) : getN (some 97) (FC n c t s) 0 = some (aggL (FC n c t s)) := getN_all (len_F hc ht hs)
theorem st_F (hc : c.length = 32) (ht : t.length = 32) (hs : s.length = 32) (hc' : c'.length = 32) (ht' : t'.length = 32) (hs' : s'.length = 32) : stO (some (FC n c t s)) H i 0 97 (aggL (FC m c' t' s')) = some (undef, H.set i (some (FC m c' t' s'))) := by
  rw [stO_agg (len_F hc' ht' hs') ones_F (by rw [len_F hc ht hs]; omega), splice_full (by rw [len_F hc ht hs, len_F hc' ht' hs'])]
theorem st_F0 : stO (some (FC n c t s)) H i 0 1 (.int .i64 m) = some (undef, H.set i (some (FC m c t s))) := by
  rw [stO_int (by simp), splice_0]
theorem st_F1 (hc : c.length = 32) (hp : p.length = 32) : stO (some (FC n c t s)) H i 1 32 (aggL (p.map N8)) = some (undef, H.set i (some (FC n p t s))) := by
  rw [stO_agg (by simpa using hp) ones_N (by simp [hc])]
  have : splice (FC n c t s) 1 (p.map N8) = FC n p t s := splice_mid (g := N8) (x := c) (y := p) (pre := [I n]) (post := t.map N8 ++ s.map N8) (by omega)
  rw [this]
theorem st_F2 (hc : c.length = 32) (ht : t.length = 32) (hp : p.length = 32) : stO (some (FC n c t s)) H i 33 32 (aggL (p.map N8)) = some (undef, H.set i (some (FC n c p s))) := by
  rw [stO_agg (by simpa using hp) ones_N (by simp [hc, ht]; omega)]
  have := splice_mid (g := N8) (x := t) (y := p) (pre := I n :: c.map N8) (post := s.map N8) (by omega)
  simp only [List.length_cons, List.length_map, hc, List.cons_append] at this
  rw [show splice (FC n c t s) 33 (p.map N8) = FC n c p s from this]
theorem st_F3 (hc : c.length = 32) (ht : t.length = 32) (hs : s.length = 32) (hp : p.length = 32) : stO (some (FC n c t s)) H i 65 32 (aggL (p.map N8)) = some (undef, H.set i (some (FC n c t p))) := by
  rw [stO_agg (by simpa using hp) ones_N (by simp [hc, ht, hs])]
  have := splice_mid (g := N8) (x := s) (y := p) (pre := I n :: (c.map N8 ++ t.map N8)) (post := []) (by omega)
  simp only [List.length_cons, List.length_append, List.length_map, hc, ht, List.cons_append, List.append_nil, List.append_assoc] at this
  rw [show splice (FC n c t s) 65 (p.map N8) = FC n c t p from this]
theorem st_Fc {k x : Nat} (h : k < c.length) : stO (some (FC n c t s)) H i (1 + k) 1 (.int .u8 (x : Int)) = some (undef, H.set i (some (FC n (c.set k x) t s))) := by
  rw [stO_int (by simp; omega)]
  have : splice (FC n c t s) (1 + k) [N8 x] = FC n (c.set k x) t s := splice_mid1 (g := N8) (x := c) (y := x) (k := k) (pre := [I n]) (post := t.map N8 ++ s.map N8) h
  rw [this]
theorem st_Ft {k x : Nat} (hc : c.length = 32) (h : k < t.length) : stO (some (FC n c t s)) H i (33 + k) 1 (.int .u8 (x : Int)) = some (undef, H.set i (some (FC n c (t.set k x) s))) := by
  rw [stO_int (by simp; omega)]
  have := splice_mid1 (g := N8) (x := t) (y := x) (k := k) (pre := I n :: c.map N8) (post := s.map N8) h
  simp only [List.length_cons, List.length_map, hc, List.cons_append] at this
  rw [show splice (FC n c t s) (33 + k) [N8 x] = FC n c (t.set k x) s from this]
theorem st_Fs {k x : Nat} (hc : c.length = 32) (ht : t.length = 32) (h : k < s.length) : stO (some (FC n c t s)) H i (65 + k) 1 (.int .u8 (x : Int)) = some (undef, H.set i (some (FC n c t (s.set k x)))) := by
  rw [stO_int (by simp; omega)]
  have := splice_mid1 (g := N8) (x := s) (y := x) (k := k) (pre := I n :: (c.map N8 ++ t.map N8)) (post := []) h
  simp only [List.length_cons, List.length_append, List.length_map, hc, ht, List.cons_append, List.append_nil, List.append_assoc] at this
  rw [show splice (FC n c t s) (65 + k) [N8 x] = FC n c t (s.set k x) from this]
theorem fill_F0 : fillL (FC n c t s) [(0, 1, .int .i64 m)] = some (FC m c t s) := by
  simp [fillL, cellsL, splice]
end
theorem RFS : (type_of% @fz96) ∧ (type_of% @plain_3) ∧ (type_of% @plain_N) ∧ (type_of% @z32_len) ∧ (type_of% @st_F0) ∧ (type_of% @getN_F0) ∧ (type_of% @fill_F0) := ⟨@fz96, @plain_3, @plain_N, @z32_len, @st_F0, @getN_F0, @fill_F0⟩
theorem RFD : (type_of% @st_F) ∧ (type_of% @st_F1) ∧ (type_of% @st_F2) ∧ (type_of% @st_F3) ∧ (type_of% @st_Fc) ∧ (type_of% @st_Ft) ∧ (type_of% @st_Fs) ∧ (type_of% @getN_F1) ∧ (type_of% @getN_F2) ∧ (type_of% @getN_F3) ∧ (type_of% @getN_Fc) ∧ (type_of% @getN_Ft) ∧ (type_of% @getN_Fs) ∧ (type_of% @getN_fv) := ⟨@st_F, @st_F1, @st_F2, @st_F3, @st_Fc, @st_Ft, @st_Fs, @getN_F1, @getN_F2, @getN_F3, @getN_Fc, @getN_Ft, @getN_Fs, @getN_fv⟩

/-! ### Pairs -/
def PairAt (l : List Nat) (n : Int) (x : Nat) : Prop := (n ≤ (x : Int) → nl l x = 0) ∧ ((x : Int) < n → (nl l x : Int) < n ∧ nl l x ≠ x ∧ nl l (nl l x) = x)
instance (l : List Nat) (n : Int) (x : Nat) : Decidable (PairAt l n x) := by unfold PairAt; infer_instance
def Pairs (l : List Nat) (n : Int) : Prop := ∀ x, x < 32 → PairAt l n x
instance (l : List Nat) (n : Int) : Decidable (Pairs l n) := by unfold Pairs; infer_instance
theorem l07Pairs_spec {x : Bool} {l : List Nat} {n : Int} {H : BH} {K : Value → BH → Prop} (hl : By 32 l) (hn : n ≤ 32) (hK : K (.bool (decide (Pairs l n))) H) : CallX x F_spec_l07Pairs [PL l, I n] H K := by
  have hlen := hl.len
  refine callP (by simp only [RH]) ?_
  refine CallX_body Γ_spec_l07Pairs ?_
  simp only [A_spec_l07Pairs, T_aiff]
  refine T_rseq fun Kr hKr => ?_
  simp (disch := omega) only [RA, ↓reduceIte, Nat.reduceEqDiff, RD]
  refine hKr _ _ ?_
  clear hKr Kr
  try simp only [RN, reduceIte]
  try refine T_e rfl ?_
  refine T_rseq fun Kr hKr => ?_
  simp (disch := omega) only [RA, ↓reduceIte, Nat.reduceEqDiff, RD]
  refine hKr _ _ ?_
  clear hKr Kr
  try simp only [RN, reduceIte]
  try refine T_e rfl ?_
  refine T_wloop (fun m f H' => ∃ k, k ≤ 32 ∧ m = 32 - k ∧ (∀ i, i < k → PairAt l n i) ∧ f 1 = I n ∧ f 2 = P 0 0 ∧ f 5 = I k ∧ H' = [some (l.map N8)]) (32) ?_ ?_
  · refine ⟨_, _, Gh.refl, 0, by omega, by omega, by omega, ?_, ?_, ?_, rfl⟩
    any_goals (simp (disch := omega) only [RA, ↓reduceIte, Nat.reduceEqDiff, RD, RE, *] <;> rfl)
  · rintro m f H' R ⟨k, hk, rfl, hat, h1, h2, h5, rfl⟩ hN hX hR hE
    simp only [A_spec_l07Pairs.l0, T_aiff]
    refine T_rseq fun Kr hKr => ?_
    simp (disch := omega) only [RA, ↓reduceIte, Nat.reduceEqDiff, RD, h5]
    refine hKr _ _ ?_
    clear hKr Kr
    try simp only [RN, reduceIte]
    try refine T_e rfl ?_
    refine T_csplit (p := k < 32) (by simp only [RA, ↓reduceIte, Nat.reduceEqDiff] <;> rfl) (by (try simp only [RB]) <;> first | done | exact Iff.rfl | omega | simp) (fun hc => ?_) (fun hc => ?_) <;> (try simp only [RN, reduceIte]) <;> (try refine T_e rfl ?_)
    · have hlt := hl.lt k
      have hnext : ∀ f', f' 1 = I n → f' 2 = P 0 0 → f' 5 = I k → PairAt l n k → T 0 A_spec_l07Pairs.r3 R f' [some (l.map N8)] := by
        intro f' h1 h2 h5 hat'
        refine T_reg_k fun Kr hKr => ?_
        simp (disch := omega) only [RA, ↓reduceIte, Nat.reduceEqDiff, RD, h5]
        refine hKr _ _ ?_
        clear hKr Kr
        refine hN (32 - (k + 1)) _ _ _ _ (by omega) Gh.refl ⟨k + 1, by omega, rfl, fun i hi => ?_, ?_, ?_, ?_, rfl⟩
        any_goals (simp (disch := omega) only [RA, ↓reduceIte, Nat.reduceEqDiff, RD, RE, *] <;> rfl)
        rcases Nat.lt_or_ge i k with h | h
        · exact hat i h
        · obtain rfl : i = k := by omega
          exact hat'
      have hbad : ∀ (c : ACode) f', ¬ PairAt l n k → T 0 (.seq A_spec_l07Pairs.r7 (.seq .ret c)) R f' [some (l.map N8)] := by
        intro c f' hno
        refine T_rseq fun Kr hKr => ?_
        simp (disch := omega) only [RA, ↓reduceIte, Nat.reduceEqDiff, RD]
        refine hKr _ _ ?_
        clear hKr Kr
        try simp only [RN, reduceIte]
        try refine T_e rfl ?_
        refine hR _ _ ?_
        refine bodyQ_ret (by simp (disch := omega) only [RA, ↓reduceIte, Nat.reduceEqDiff, RD, resAll, resOf]; rfl) GhV.refl ?_
        simp only [tup]
        refine ⟨NN.bool, ?_⟩
        have : ¬ Pairs l n := fun h => hno (h k (by omega))
        simpa [this] using hK
      first | refine T_bfree rfl ?_ | refine T_bfree' rfl ?_
      try simp only [RN, reduceIte]
      try refine T_e rfl ?_
      refine T_rseq fun Kr hKr => ?_
      simp (disch := omega) only [RA, ↓reduceIte, Nat.reduceEqDiff, RD, h2, h5, hlen]
      refine hKr _ _ ?_
      clear hKr Kr
      try simp only [RN, reduceIte]
      try refine T_e rfl ?_
      first | refine T_bfree rfl ?_ | refine T_bfree' rfl ?_
      try simp only [RN, reduceIte]
      try refine T_e rfl ?_
      refine T_rseq fun Kr hKr => ?_
      simp (disch := omega) only [RA, ↓reduceIte, Nat.reduceEqDiff, RD, h1, h5]
      refine hKr _ _ ?_
      clear hKr Kr
      try simp only [RN, reduceIte]
      try refine T_e rfl ?_
      refine T_csplit (p := n ≤ k) (by simp only [RA, ↓reduceIte, Nat.reduceEqDiff] <;> rfl) (by (try simp only [RB]) <;> first | done | exact Iff.rfl | omega | simp) (fun hc => ?_) (fun hc => ?_) <;> (try simp only [RN, reduceIte]) <;> (try refine T_e rfl ?_)
      · refine T_rseq fun Kr hKr => ?_
        simp (disch := omega) only [RA, ↓reduceIte, Nat.reduceEqDiff, RD]
        refine hKr _ _ ?_
        clear hKr Kr
        try simp only [RN, reduceIte]
        try refine T_e rfl ?_
        refine T_csplit (p := nl l k ≠ 0) (by simp only [RA, ↓reduceIte, Nat.reduceEqDiff] <;> rfl) (by (try simp only [RB]) <;> first | done | exact Iff.rfl | omega | simp) (fun hc => ?_) (fun hc => ?_) <;> (try simp only [RN, reduceIte]) <;> (try refine T_e rfl ?_)
        · exact hbad _ _ fun h => hc (h.1 (by omega))
        · try simp only [RN, reduceIte]
          try refine T_e rfl ?_
          refine hnext _ ?_ ?_ ?_ ⟨fun _ => by omega, fun h => by omega⟩
          any_goals (simp (disch := omega) only [RA, ↓reduceIte, Nat.reduceEqDiff, RD, RE, *] <;> rfl)
      · by_cases c1 : n ≤ nl l k
        · refine T_rseq fun Kr hKr => ?_
          simp (disch := omega) only [RA, ↓reduceIte, Nat.reduceEqDiff, RD, h1, h2, h5, c1]
          refine hKr _ _ ?_
          clear hKr Kr
          try simp only [RN, reduceIte]
          try refine T_e rfl ?_
          refine T_cseq (t := true) (by simp (disch := omega) only [RA, ↓reduceIte, Nat.reduceEqDiff, RD]) ?_
          try simp only [RN, reduceIte]
          try refine T_e rfl ?_
          exact hbad _ _ fun h => by have := (h.2 (by omega)).1; omega
        · by_cases c2 : nl l k = k
          · refine T_rseq fun Kr hKr => ?_
            simp (disch := omega) only [RA, ↓reduceIte, Nat.reduceEqDiff, RD, h1, h2, h5, c1, c2]
            refine hKr _ _ ?_
            clear hKr Kr
            try simp only [RN, reduceIte]
            try refine T_e rfl ?_
            refine T_cseq (t := true) (by simp (disch := omega) only [RA, ↓reduceIte, Nat.reduceEqDiff, RD]) ?_
            try simp only [RN, reduceIte]
            try refine T_e rfl ?_
            exact hbad _ _ fun h => (h.2 (by omega)).2.1 c2
          · have hlt2 := hl.lt (nl l k)
            refine T_rseq fun Kr hKr => ?_
            simp (disch := omega) only [RA, ↓reduceIte, Nat.reduceEqDiff, RD, h1, h2, h5, c1, c2, hlen]
            refine hKr _ _ ?_
            clear hKr Kr
            try simp only [RN, reduceIte]
            try refine T_e rfl ?_
            refine T_csplit (p := nl l (nl l k) ≠ k) (by simp only [RA, ↓reduceIte, Nat.reduceEqDiff] <;> rfl) (by (try simp only [RB]) <;> first | done | exact Iff.rfl | omega | simp) (fun hc => ?_) (fun hc => ?_) <;> (try simp only [RN, reduceIte]) <;> (try refine T_e rfl ?_)
            · exact hbad _ _ fun h => hc (h.2 (by omega)).2.2
            · try simp only [RN, reduceIte]
              try refine T_e rfl ?_
              refine hnext _ ?_ ?_ ?_ ⟨fun h => by omega, fun _ => ⟨by omega, c2, Decidable.not_not.1 hc⟩⟩
              any_goals (simp (disch := omega) only [RA, ↓reduceIte, Nat.reduceEqDiff, RD, RE, *] <;> rfl)
    · refine hX _ _ ?_
      refine T_rseq fun Kr hKr => ?_
      simp (disch := omega) only [RA, ↓reduceIte, Nat.reduceEqDiff, RD]
      refine hKr _ _ ?_
      clear hKr Kr
      try simp only [RN, reduceIte]
      try refine T_e rfl ?_
      refine bodyQ_ret (by simp (disch := omega) only [RA, ↓reduceIte, Nat.reduceEqDiff, RD, resAll, resOf]; rfl) GhV.refl ?_
      simp only [tup]
      refine ⟨NN.bool, ?_⟩
      have : Pairs l n := fun i hi => hat i (by omega)
      simpa [this] using hK
end Go.Bm
