/- DpNa, DpLb, DpLc -/
import Derived.Laws.Strings
import Derived.Test.YteklchkdgpoedaaDpG3
/- Words of brackets in order (plain). -/
set_option linter.unusedVariables false
set_option linter.unusedSimpArgs false
namespace Go.Bm
open Go Go.Am

theorem bs_list (l : List UInt8) : (bs l).toList = l := ByteArray.toList_mk l
theorem eqS_is (a b : List UInt8) : eqS a b = decide (a = b) := by
  rw [eqS, bs_list, bs_list]
  by_cases h : a = b <;> simp [h]
theorem ltS_is (a b : List UInt8) : ltS a b = Op.bytesLess a b := by rw [ltS, bs_list, bs_list]
theorem ltS_cons {c : UInt8} {a b : List UInt8} : ltS (c :: a) (c :: b) = ltS a b := by
  rw [ltS_is, ltS_is, Op.bytesLess]
  simp
theorem ltS_4041 {a b : List UInt8} : ltS (40 :: a) (41 :: b) = true := by
  rw [ltS_is, Op.bytesLess]
  rfl
/-- All words with k letters, o brackets open and l to open, in order. -/
def wlF : Nat → Nat → Nat → List (List UInt8)
  | 0, _, _ => [[]]
  | k + 1, o, l => (if 0 < l then (wlF k (o + 1) (l - 1)).map (40 :: ·) else []) ++ (if 0 < o then (wlF k (o - 1) l).map (41 :: ·) else [])
theorem wlF_sorted : ∀ k o l, (wlF k o l).Pairwise fun a b => ltS a b = true
  | 0, _, _ => by simp [wlF]
  | k + 1, o, l => by
    have h1 := wlF_sorted k (o + 1) (l - 1)
    have h2 := wlF_sorted k (o - 1) l
    rw [wlF]
    refine List.pairwise_append.2 ⟨?_, ?_, fun a ha b hb => ?_⟩
    · split
      · exact List.pairwise_map.2 (h1.imp fun h => by rw [ltS_cons]; exact h)
      · exact .nil
    · split
      · exact List.pairwise_map.2 (h2.imp fun h => by rw [ltS_cons]; exact h)
      · exact .nil
    · split at ha
      · split at hb
        · obtain ⟨x, _, rfl⟩ := List.mem_map.1 ha
          obtain ⟨y, _, rfl⟩ := List.mem_map.1 hb
          exact ltS_4041
        · simp at hb
      · simp at ha
theorem dep_40 {s : List UInt8} : dep (40 :: s) = dep s + 1 := by
  simp [dep, List.countP_cons]
  omega
theorem dep_41 {s : List UInt8} : dep (41 :: s) = dep s - 1 := by
  simp [dep, List.countP_cons]
  omega
theorem dep_nil : dep [] = 0 := rfl
theorem wlF_ok : ∀ k o l, k = o + 2 * l → ∀ s ∈ wlF k o l, s.length = k ∧ (∀ c ∈ s, c.toNat = 40 ∨ c.toNat = 41) ∧ (∀ i, i ≤ s.length → 0 ≤ (o : Int) + dep (s.take i)) ∧ (o : Int) + dep s = 0
  | 0, o, l, h, s, hs => by
    simp [wlF] at hs
    subst hs
    exact ⟨rfl, by simp, fun i _ => by rw [List.take_nil, dep_nil]; omega, by rw [dep_nil]; omega⟩
  | k + 1, o, l, h, s, hs => by
    rw [wlF] at hs
    rcases List.mem_append.1 hs with hs | hs
    · split at hs
      · obtain ⟨t, ht, rfl⟩ := List.mem_map.1 hs
        obtain ⟨h1, h2, h3, h4⟩ := wlF_ok k (o + 1) (l - 1) (by omega) t ht
        refine ⟨by simp [h1], fun c hc => ?_, fun i hi => ?_, by rw [dep_40]; omega⟩
        · rcases List.mem_cons.1 hc with rfl | hc
          · exact .inl rfl
          · exact h2 c hc
        · cases i with
          | zero => rw [List.take_zero, dep_nil]; omega
          | succ i =>
            have := h3 i (by simpa using hi)
            rw [List.take_succ_cons, dep_40]
            omega
      · simp at hs
    · split at hs
      · obtain ⟨t, ht, rfl⟩ := List.mem_map.1 hs
        obtain ⟨h1, h2, h3, h4⟩ := wlF_ok k (o - 1) l (by omega) t ht
        refine ⟨by simp [h1], fun c hc => ?_, fun i hi => ?_, by rw [dep_41]; omega⟩
        · rcases List.mem_cons.1 hc with rfl | hc
          · exact .inr rfl
          · exact h2 c hc
        · cases i with
          | zero => rw [List.take_zero, dep_nil]; omega
          | succ i =>
            have := h3 i (by simpa using hi)
            rw [List.take_succ_cons, dep_41]
            omega
      · simp at hs
theorem wlF_len : ∀ k o l, (wlF k o l).length ≤ 2 ^ k
  | 0, _, _ => by simp [wlF]
  | k + 1, o, l => by
    have h1 := wlF_len k (o + 1) (l - 1)
    have h2 := wlF_len k (o - 1) l
    rw [wlF, List.length_append, Nat.pow_succ]
    split <;> split <;> simp <;> omega
/-- The words of n pairs. -/
def wl (n : Nat) : List (List UInt8) := wlF (2 * n) 0 n
theorem wl_wd {n : Nat} (h1 : 1 ≤ n) (h8 : n ≤ 8) {s : List UInt8} (hs : s ∈ wl n) : WdP s ∧ s.length = 2 * n := by
  obtain ⟨a, b, c, d⟩ := wlF_ok (2 * n) 0 n (by omega) s hs
  exact ⟨⟨by omega, b, fun i hi => by have := c i hi; omega, by omega⟩, a⟩
end Go.Bm

/- Words of brackets. -/
set_option linter.unusedVariables false
set_option linter.unusedSimpArgs false
set_option linter.unusedSectionVars false
namespace Go.Bm
open Go Go.Am
abbrev U8 (c : UInt8) : Value := .int .u8 (c.toNat : Int)
theorem ixS_bs {l : List UInt8} {i : Nat} (h : i < l.length) : ixS (.string (bs l)) (I i) = some (U8 l[i]) := by
  have : (bs l)[i]? = some l[i] := by
    have h2 : i < (bs l).size := by rw [bs_size]; exact h
    rw [getElem?_pos (bs l) i h2]
    rfl
  show (if 0 ≤ (i : Int) then ((bs l)[((i : Int)).toNat]?).map fun b => Value.int .u8 b.toNat else none) = _
  rw [if_pos (by omega), Int.toNat_natCast, this]
  rfl
section
variable {x : Bool} {s : List UInt8} {H : BH} {K : Value → BH → Prop}
theorem dep_ge {i : Nat} (hi : i ≤ s.length) : -(i : Int) ≤ dep (s.take i) ∧ dep (s.take i) ≤ i := by
  have h1 := List.countP_le_length (p := fun c : UInt8 => c.toNat == 40) (l := s.take i)
  have h2 := List.countP_le_length (p := fun c : UInt8 => c.toNat == 41) (l := s.take i)
  rw [List.length_take] at h1 h2
  unfold dep
  omega
end
end Go.Bm

/- The reference's tree of a word. -/
set_option linter.unusedVariables false
set_option linter.unusedSimpArgs false
set_option linter.unusedSectionVars false
namespace Go.Bm
open Go Go.Am

def madeB (s : List UInt8) : List Nat := cycL (runW s).b ((runW s).ways.headD [])
def madeW (s : List UInt8) : List Nat := (runW s).w
theorem app1_It {H : BH} {b bytes cn l : Nat} {xs : List Int} {y : Int} (hl : l ≤ xs.length) (h : (l + 1) * bytes ≤ 140737488355328) : app1 (some [.int .i64 y]) (some (xs.map I)) H b l bytes cn = some (S H.length 0 (l + 1) 1, (H.set b none) ++ [some ((xs.take l ++ [y]).map I)]) := by
  simp only [app1]
  rw [if_pos ⟨by rw [List.length_map]; exact hl, h, rfl⟩]
  simp [List.map_take]
theorem sl_top {b L : Nat} : sliceW 1 (S b 0 (L + 1) 1) none (some (I (L : Nat))) = some (S b 0 L 1) := by
  rw [sliceW_s (l := 0) (h := L) (cutC_hi (by omega))]
  simp
theorem bot_cons {a : List Nat} {r : List (List Nat)} (hr : r ≠ []) : (a :: r).getLastD [] = r.getLastD [] := by
  cases r with
  | nil => exact absurd rfl hr
  | cons b l => rfl
theorem cnt_all : ∀ {s : List UInt8}, (∀ c ∈ s, c.toNat = 40 ∨ c.toNat = 41) → s.countP (fun c => c.toNat == 40) + s.countP (fun c => c.toNat == 41) = s.length
  | [], _ => rfl
  | a :: l, h => by
    have h1 := h a (by simp)
    have h2 := cnt_all (s := l) fun c hc => h c (by simp [hc])
    simp only [List.countP_cons, List.length_cons, beq_iff_eq]
    split <;> split <;> omega
section
variable {s : List UInt8} {H : BH} {K : Value → BH → Prop} {x : Bool}
set_option maxHeartbeats 2000000 in
theorem l05Made_spec (hw : WdP s) (hK : K (DV (s.length / 2 : Nat) (madeB s) (madeW s)) H) : CallX x F_spec_l05Made [.string (bs s)] H K := by
  refine callP (.cons NNs .nil) ?_
  have hsz := bs_size (l := s)
  have hq : (s.length : Int).tdiv 2 = ((s.length / 2 : Nat) : Int) := rfl
  obtain ⟨n, hn⟩ : ∃ n, s.length / 2 = n := ⟨_, rfl⟩
  rw [hn] at hK hq
  have hlen := hw.1
  have hzl := z16_len
  refine CallX_body Γ_spec_l05Made ?_; simp only [A_spec_l05Made, T_aiff]
  refine T_rseq fun Kr hKr => ?_; simp (disch := omega) only [RA, ↓reduceIte, Nat.reduceEqDiff, RD, RDS]; refine hKr _ _ ?_; clear hKr Kr; (try simp only [RN, reduceIte]); try refine T_e rfl ?_
  refine T_rseq fun Kr hKr => ?_; simp (disch := omega) only [RA, ↓reduceIte, Nat.reduceEqDiff, Nat.reduceAdd, Nat.reduceLeDiff, Int.reduceNeg, RD]; refine hKr _ _ ?_; clear hKr Kr; (try simp only [RN, reduceIte]); try refine T_e rfl ?_
  refine T_rseq fun Kr hKr => ?_; simp (disch := omega) only [RA, ↓reduceIte, Nat.reduceEqDiff, Nat.reduceAdd, Nat.reduceLeDiff, Int.reduceNeg, RD]; refine hKr _ _ ?_; clear hKr Kr; (try simp only [RN, reduceIte]); try refine T_e rfl ?_
  refine T_rseq fun Kr hKr => ?_; simp (disch := omega) only [RA, ↓reduceIte, Nat.reduceEqDiff, Nat.reduceAdd, Int.reduceEq, Int.reduceNeg, reduceCtorEq, RD, RDS, hsz, hq]; refine hKr _ _ ?_; clear hKr Kr; (try simp only [RN, reduceIte]); try refine T_e rfl ?_
  refine T_rseq fun Kr hKr => ?_; simp (disch := omega) only [RA, ↓reduceIte, Nat.reduceEqDiff, Nat.reduceAdd, Nat.reduceLeDiff, Int.reduceNeg, RD]; refine hKr _ _ ?_; clear hKr Kr; (try simp only [RN, reduceIte]); try refine T_e rfl ?_
  refine T_wloop (fun mm f H' => ∃ i ja jb, i ≤ s.length ∧ mm = s.length - i ∧ f 0 = .string (bs s) ∧ f 2 = P 0 0 ∧ f 3 = S 1 0 (runW (s.take i)).ways.length 1 ∧ f 4 = S 2 0 (runW (s.take i)).ways.length 1 ∧ f 5 = I (runW (s.take i)).next ∧ f 6 = I 0 ∧ f 7 = P 3 0 ∧ f 8 = I i ∧ ((runW (s.take i)).ways.getLastD []).headD 0 = 0 ∧ H' = [some (DC 0 z16 z16), some ((sk (runW (s.take i)).ways ++ ja).map I), some ((la (runW (s.take i)).ways ++ jb).map I), some (DC n (chs (runW (s.take i)).b (lvl 0 (runW (s.take i)).ways)) (chs (runW (s.take i)).w (lvl 1 (runW (s.take i)).ways)))]) (s.length) ?_ ?_
  · refine ⟨_, _, Gh.refl, 0, [], [], by omega, by omega, ?_, ?_, ?_, ?_, ?_, ?_, ?_, ?_, rfl, rfl⟩
    any_goals (simp (disch := omega) only [RA, ↓reduceIte, Nat.reduceEqDiff, RD, RE, *] <;> rfl)
  · rintro mm f H' R ⟨i, ja, jb, hi, rfl, g0, g2, g3, g4, g5, g6, g7, g8, hbot, rfl⟩ hN hX hR hE
    simp only [A_spec_l05Made.l0, T_aiff]
    refine T_rseq fun Kr hKr => ?_; simp (disch := omega) only [RA, ↓reduceIte, Nat.reduceEqDiff, RD, g0, g8, hsz]; refine hKr _ _ ?_; clear hKr Kr; (try simp only [RN, reduceIte]); try refine T_e rfl ?_
    obtain ⟨hok, hlw, hnx⟩ := runW_ok hw i hi
    have hnl := next_le hw i hi
    have hdp := hw.2.2.1 i hi
    obtain ⟨st, hst⟩ : ∃ st, runW (s.take i) = st := ⟨_, rfl⟩
    rw [hst] at g3 g4 g5 hok hlw hnx hnl hbot ⊢
    obtain ⟨W, m, b, w⟩ := st
    simp only at g3 g4 g5 hok hlw hnx hnl hbot ⊢
    cases W with
    | nil => simp at hlw; omega
    | cons e r =>
    obtain ⟨L, hL⟩ : ∃ L, r.length = L := ⟨_, rfl⟩
    rw [List.length_cons, hL] at g3 g4 hlw
    have hdg := dep_ge (s := s) (i := i) hi
    have hLb : L ≤ 32 := by omega
    have ht1 : ((L + 1 : Nat) : Int) - 1 = (L : Nat) := by omega
    have hre : r ≠ [] → e ≠ [] := fun hr => by
      rcases hok.ne with ⟨_, q⟩ | ⟨_, _, q⟩
      · cases q; exact absurd rfl hr
      · exact q e (by simp)
    have helt : ∀ y ∈ e, y < m := fun y hy => hok.lt e (by simp) y hy
    have hlb := (chs_len (p := b) (es := lvl 0 (e :: r))).trans hok.bb.len
    have hlw2 := (chs_len (p := w) (es := lvl 1 (e :: r))).trans hok.bw.len
    obtain ⟨B1, hB1⟩ : ∃ B1, chs b (lvl 0 (e :: r)) = B1 := ⟨_, rfl⟩
    obtain ⟨W1, hW1⟩ : ∃ W1, chs w (lvl 1 (e :: r)) = W1 := ⟨_, rfl⟩
    rw [hB1] at hlb
    rw [hW1] at hlw2
    rw [hB1, hW1]
    obtain ⟨hgla, hgsk⟩ := la_top (e := e) (r := r)
    rw [hL] at hgla hgsk
    have hlal := la_len (r := e :: r)
    have hskl := sk_len (r := e :: r)
    rw [List.length_cons, hL] at hlal hskl
    obtain ⟨lA, hlA⟩ : ∃ lA, la (e :: r) = lA := ⟨_, rfl⟩
    obtain ⟨sK, hsK⟩ : ∃ sK, sk (e :: r) = sK := ⟨_, rfl⟩
    rw [hlA] at hgla hlal
    rw [hsK] at hgsk hskl
    rw [hlA, hsK]
    have gI : ∀ (xs ys : List Int) (v : Int), xs.length = L + 1 → xs[L]? = some v → getN none ((xs ++ ys).map I) L = some (I v) := fun xs ys v h1 h2 => by
      show ((xs ++ ys).map I)[L]? = some (I v)
      rw [List.getElem?_map, List.getElem?_append_left (by omega), h2]
      rfl
    have ga : getN none ((lA ++ jb).map I) L = some (I (laT e r)) := gI _ _ _ hlal hgla
    have gs : getN none ((sK ++ ja).map I) L = some (I (skT e r)) := gI _ _ _ hskl hgsk
    have hcl : (lA ++ jb).length = L + 1 + jb.length ∧ (sK ++ ja).length = L + 1 + ja.length := by simp [hlal, hskl]
    refine T_csplit (p := i < s.length) (by simp only [RA, ↓reduceIte, Nat.reduceEqDiff] <;> rfl) (by (try simp only [RB]) <;> first | done | exact Iff.rfl | omega | simp) (fun hc => ?_) (fun hc => ?_) <;> (try simp only [RN, reduceIte]) <;> (try refine T_e rfl ?_)
    · have hin : i < s.length := by assumption
      obtain ⟨c, hc⟩ : ∃ c, s[i] = c := ⟨_, rfl⟩
      have hix := ixS_bs hin
      rw [hc] at hix
      have hrt := runW_take hin
      rw [hst, hc, stp] at hrt
      simp only at hrt
      have hm16 : m < 16 ∨ c.toNat ≠ 40 := by
        have := next_le hw (i + 1) (by omega)
        rw [hrt] at this
        by_cases h40 : c.toNat = 40
        · rw [if_pos h40] at this
          simp only at this
          omega
        · exact .inr h40
      refine T_seq (T_block ?_); (try simp only [RN, reduceIte]); try refine T_e rfl ?_
      refine T_rseq fun Kr hKr => ?_; simp (disch := omega) only [RA, ↓reduceIte, Nat.reduceEqDiff, RD, g3, ht1]; refine hKr _ _ ?_; clear hKr Kr; (try simp only [RN, reduceIte]); try refine T_e rfl ?_
      refine T_rseq fun Kr hKr => ?_; simp (disch := omega) only [RA, ↓reduceIte, Nat.reduceEqDiff, RD, g0, g8, hix]; refine hKr _ _ ?_; clear hKr Kr; (try simp only [RN, reduceIte]); try refine T_e rfl ?_
      by_cases h40 : c.toNat = 40
      · rw [if_pos h40] at hrt
        have hm : m < 16 := by omega
        have e40 : decide ((c.toNat : Int) = 40) = true := decide_eq_true (by omega)
        have hta : (sK ++ ja).take (L + 1) = sK := by rw [List.take_append_of_le_length (by omega), List.take_of_length_le (by omega)]
        have htb : ((lA ++ jb).set L (m : Int)).take (L + 1) = lA.set L m := by rw [List.set_append_left _ _ (by omega), List.take_append_of_le_length (by rw [List.length_set]; omega), List.take_of_length_le (by rw [List.length_set]; omega)]
        have hcs : ((lA ++ jb).set L (m : Int)).length = L + 1 + jb.length := by rw [List.length_set, hcl.1]
        have hnext : ∀ f'' B2 W2, B2 = chs b (lvl 0 ([m] :: (e ++ [m]) :: r)) → W2 = chs w (lvl 1 ([m] :: (e ++ [m]) :: r)) → f'' 0 = .string (bs s) → f'' 2 = P 0 0 → f'' 3 = S 1 0 (L + 2) 1 → f'' 4 = S 2 0 (L + 2) 1 → f'' 5 = I ((m + 1 : Nat) : Int) → f'' 6 = I 0 → f'' 7 = P 3 0 → f'' 8 = I i →
            T 0 A_spec_l05Made.r6 R f'' [some (DC 0 z16 z16), some ((sK ++ [(m : Int)]).map I), some ((lA.set L (m : Int) ++ [-1]).map I), some (DC n B2 W2)] := by
          clear g0 g2 g3 g4 g5 g6 g7 g8
          intro f'' B2 W2 hB2 hW2 g0 g2 g3 g4 g5 g6 g7 g8
          have hso := sk_open (n := m) hre
          have hlo := la_open (n := m) hre
          rw [hsK] at hso
          rw [hlA, hL] at hlo
          have q3 : f'' 3 = S 1 0 (runW (s.take (i + 1))).ways.length 1 := by rw [hrt]; simp only [List.length_cons, hL]; exact g3
          have q4 : f'' 4 = S 2 0 (runW (s.take (i + 1))).ways.length 1 := by rw [hrt]; simp only [List.length_cons, hL]; exact g4
          have q5 : f'' 5 = I (runW (s.take (i + 1))).next := by rw [hrt]; exact g5
          have qb : ((runW (s.take (i + 1))).ways.getLastD []).headD 0 = 0 := by
            rw [hrt]
            simp only
            rw [bot_cons (by simp)]
            by_cases hr : r = []
            · subst hr
              cases e with
              | nil =>
                rcases hok.ne with ⟨q, _⟩ | ⟨_, _, q⟩
                · exact q
                · exact absurd rfl (q [] (by simp))
              | cons a l => exact hbot
            · rw [bot_cons hr] at hbot ⊢
              exact hbot
          have qH : [some (DC 0 z16 z16), some ((sK ++ [(m : Int)]).map I), some ((lA.set L (m : Int) ++ [-1]).map I), some (DC n B2 W2)] = [some (DC 0 z16 z16), some ((sk (runW (s.take (i + 1))).ways ++ []).map I), some ((la (runW (s.take (i + 1))).ways ++ []).map I), some (DC n (chs (runW (s.take (i + 1))).b (lvl 0 (runW (s.take (i + 1))).ways)) (chs (runW (s.take (i + 1))).w (lvl 1 (runW (s.take (i + 1))).ways)))] := by
            rw [hrt]
            simp only
            rw [hso, hlo, hB2, hW2, List.append_nil, List.append_nil]
          rw [qH]
          refine T_reg_k fun Kr hKr => ?_; simp (disch := omega) only [RA, ↓reduceIte, Nat.reduceEqDiff, RD, g8]; refine hKr _ _ ?_; clear hKr Kr
          refine hN (s.length - (i + 1)) _ _ _ _ (by omega) Gh.refl ⟨i + 1, [], [], by omega, rfl, ?_, ?_, ?_, ?_, ?_, ?_, ?_, ?_, qb, rfl⟩
          any_goals (simp (disch := omega) only [RA, ↓reduceIte, Nat.reduceEqDiff, reduceCtorEq, RD, RE, *] <;> rfl)
        have hcont : ∀ (Q : Ex → Fr → BH → Prop) f' (fr : Int) (rest : ACode), (∀ f'' H'', T 0 A_spec_l05Made.r6 R f'' H'' → Q (.exit 1) f'' H'') → fr = (if e = [] then (-1 : Int) else ((e.getLastD 0 : Nat) : Int)) → f' 0 = .string (bs s) → f' 2 = P 0 0 → f' 3 = S 1 0 (L + 1) 1 → f' 4 = S 2 0 (L + 1) 1 → f' 5 = I ((m + 1 : Nat) : Int) → f' 6 = I 0 → f' 7 = P 3 0 → f' 8 = I i → f' 9 = I L → f' 10 = I m → f' 11 = I fr →
            T 0 (.seq A_spec_l05Made.r14 (.seq (.cond (.t 46) A_spec_l05Made.r15 (.seq A_spec_l05Made.r16 (.cond (.t 50) A_spec_l05Made.r17 A_spec_l05Made.r18))) (.seq (.seq A_spec_l05Made.r19 (.seq A_spec_l05Made.r20 (.seq A_spec_l05Made.r21 (.exit 1)))) rest))) Q f' [some (DC 0 z16 z16), some ((sK ++ ja).map I), some ((lA ++ jb).map I), some (DC n B1 W1)] := by
          clear g0 g2 g3 g4 g5 g6 g7 g8
          intro Q f' fr rest hq hfr g0 g2 g3 g4 g5 g6 g7 g8 g9 g10 g11
          have hmore : ∀ f' B2 W2, B2 = chs b (lvl 0 ([m] :: (e ++ [m]) :: r)) → W2 = chs w (lvl 1 ([m] :: (e ++ [m]) :: r)) → f' 0 = .string (bs s) → f' 2 = P 0 0 → f' 3 = S 1 0 (L + 1) 1 → f' 4 = S 2 0 (L + 1) 1 → f' 5 = I ((m + 1 : Nat) : Int) → f' 6 = I 0 → f' 7 = P 3 0 → f' 8 = I i → f' 9 = I L → f' 10 = I m →
              T 0 (.seq A_spec_l05Made.r19 (.seq (.seq A_spec_l05Made.r20 (.seq A_spec_l05Made.r21 (.exit 1))) rest)) Q f' [some (DC 0 z16 z16), some ((sK ++ ja).map I), some ((lA ++ jb).map I), some (DC n B2 W2)] := by
            clear g0 g2 g3 g4 g5 g6 g7 g8 g9 g10 g11
            intro f' B2 W2 hB2 hW2 g0 g2 g3 g4 g5 g6 g7 g8 g9 g10
            refine T_rseq fun Kr hKr => ?_; simp (disch := omega) only [RA, ↓reduceIte, Nat.reduceEqDiff, RD, g4, g9, g10]; refine hKr _ _ ?_; clear hKr Kr; (try simp only [RN, reduceIte]); try refine T_e rfl ?_
            refine T_rseq fun Kr hKr => ?_; simp (disch := omega) only [RA, ↓reduceIte, Nat.reduceEqDiff, Nat.reduceAdd, Nat.reduceLeDiff, RD, g3, g10, app1_It, hta, hcl]; refine hKr _ _ ?_; clear hKr Kr; (try simp only [RN, reduceIte]); try refine T_e rfl ?_
            refine T_rseq fun Kr hKr => ?_; simp (disch := omega) only [RA, ↓reduceIte, Nat.reduceEqDiff, Nat.reduceAdd, Nat.reduceLeDiff, Int.reduceNeg, RD, g4, app1_It, htb, hcs]; refine hKr _ _ ?_; clear hKr Kr; (try simp only [RN, reduceIte]); try refine T_e rfl ?_
            refine hq _ _ (T_gh (Gh.nrm [0, 5, 7, 3] rfl rfl (by simp only [RH])) ?_)
            refine hnext _ B2 W2 hB2 hW2 ?_ ?_ ?_ ?_ ?_ ?_ ?_ ?_
            any_goals (simp (disch := omega) only [RA, ↓reduceIte, Nat.reduceEqDiff, RD, RE, *] <;> rfl)
          have hco0 := chs_open (c := 0) (n := m) (p := b) (e := e) (r := r)
          have hco1 := chs_open (c := 1) (n := m) (p := w) (e := e) (r := r)
          rw [hL, hB1] at hco0
          rw [hL, hW1] at hco1
          by_cases he : e = []
          · rw [if_pos he] at hfr
            rw [if_neg (fun q => q.2 he)] at hco0 hco1
            have e1 : decide (fr < 0) = true := decide_eq_true (by omega)
            refine T_rseq fun Kr hKr => ?_; simp (disch := omega) only [RA, ↓reduceIte, Nat.reduceEqDiff, RD, g11]; refine hKr _ _ ?_; clear hKr Kr; (try simp only [RN, reduceIte]); try refine T_e rfl ?_
            refine T_cseq (t := true) (by simp (disch := omega) only [RA, ↓reduceIte, Nat.reduceEqDiff, RD, e1]) ?_; (try simp only [RN, reduceIte]); try refine T_e rfl ?_
            refine T_rseq fun Kr hKr => ?_; simp (disch := omega) only [RA, ↓reduceIte, Nat.reduceEqDiff, RD, g10]; refine hKr _ _ ?_; clear hKr Kr; (try simp only [RN, reduceIte]); try refine T_e rfl ?_
            have hm0 : m = 0 := by
              rcases hok.ne with ⟨q, _⟩ | ⟨_, _, q⟩
              · exact q
              · exact absurd he (q e (by simp))
            refine hmore _ B1 W1 hco0.symm hco1.symm ?_ ?_ ?_ ?_ ?_ ?_ ?_ ?_ ?_ ?_
            any_goals (simp (disch := omega) only [RA, ↓reduceIte, Nat.reduceEqDiff, RD, RE, *] <;> rfl)
            rw [show (0 : Int) = (m : Int) by omega]
            exact (by simp (disch := omega) only [RA, ↓reduceIte, Nat.reduceEqDiff, Int.reduceNeg, RD, RE, *] <;> rfl)
          · rw [if_neg he] at hfr
            obtain ⟨la1, hla1⟩ : ∃ la1, e.getLastD 0 = la1 := ⟨_, rfl⟩
            have hla16 : la1 < 16 := by have := helt _ (last_mem he); omega
            rw [hla1] at hfr hco0 hco1
            subst hfr
            have e1 : decide ((la1 : Int) < 0) = false := decide_eq_false (by omega)
            refine T_rseq fun Kr hKr => ?_; simp (disch := omega) only [RA, ↓reduceIte, Nat.reduceEqDiff, RD, g11]; refine hKr _ _ ?_; clear hKr Kr; (try simp only [RN, reduceIte]); try refine T_e rfl ?_
            refine T_cseq (t := false) (by simp (disch := omega) only [RA, ↓reduceIte, Nat.reduceEqDiff, RD, e1]) ?_; (try simp only [RN, reduceIte]); try refine T_e rfl ?_
            have hmod : (L : Int).tmod 2 = ((L % 2 : Nat) : Int) := rfl
            refine T_rseq fun Kr hKr => ?_; simp (disch := omega) only [RA, ↓reduceIte, Nat.reduceEqDiff, Int.reduceEq, RD, g9, hmod]; refine hKr _ _ ?_; clear hKr Kr; (try simp only [RN, reduceIte]); try refine T_e rfl ?_
            by_cases h2 : L % 2 = 0
            · rw [if_pos ⟨h2, he⟩] at hco0
              rw [if_neg (by omega)] at hco1
              have e2 : decide (((L % 2 : Nat) : Int) = 0) = true := decide_eq_true (by omega)
              refine T_cseq (t := true) (by simp (disch := omega) only [RA, ↓reduceIte, Nat.reduceEqDiff, RD, e2]) ?_; (try simp only [RN, reduceIte]); try refine T_e rfl ?_
              refine T_rseq fun Kr hKr => ?_; simp (disch := omega) only [RA, ↓reduceIte, Nat.reduceEqDiff, RD, RDS, RDD, g7, g10, g11]; refine hKr _ _ ?_; clear hKr Kr; (try simp only [RN, reduceIte]); try refine T_e rfl ?_
              refine hmore _ _ W1 hco0.symm hco1.symm ?_ ?_ ?_ ?_ ?_ ?_ ?_ ?_ ?_ ?_
              any_goals (simp (disch := omega) only [RA, ↓reduceIte, Nat.reduceEqDiff, RD, RE, *] <;> rfl)
            · rw [if_neg (fun q => h2 q.1)] at hco0
              rw [if_pos ⟨by omega, he⟩] at hco1
              have e2 : decide (((L % 2 : Nat) : Int) = 0) = false := decide_eq_false (by omega)
              refine T_cseq (t := false) (by simp (disch := omega) only [RA, ↓reduceIte, Nat.reduceEqDiff, RD, e2]) ?_; (try simp only [RN, reduceIte]); try refine T_e rfl ?_
              refine T_rseq fun Kr hKr => ?_; simp (disch := omega) only [RA, ↓reduceIte, Nat.reduceEqDiff, RD, RDS, RDD, g7, g10, g11]; refine hKr _ _ ?_; clear hKr Kr; (try simp only [RN, reduceIte]); try refine T_e rfl ?_
              refine hmore _ B1 _ hco0.symm hco1.symm ?_ ?_ ?_ ?_ ?_ ?_ ?_ ?_ ?_ ?_
              any_goals (simp (disch := omega) only [RA, ↓reduceIte, Nat.reduceEqDiff, RD, RE, *] <;> rfl)
        have hfe := from_eq hre
        refine T_cseq (t := true) (by simp (disch := omega) only [RA, ↓reduceIte, Nat.reduceEqDiff, RD, e40]) ?_; (try simp only [RN, reduceIte]); try refine T_e rfl ?_
        refine T_rseq fun Kr hKr => ?_; simp (disch := omega) only [RA, ↓reduceIte, Nat.reduceEqDiff, RD, g5]; refine hKr _ _ ?_; clear hKr Kr; (try simp only [RN, reduceIte]); try refine T_e rfl ?_
        refine T_rseq fun Kr hKr => ?_; simp (disch := omega) only [RA, ↓reduceIte, Nat.reduceEqDiff, RD, g5]; refine hKr _ _ ?_; clear hKr Kr; (try simp only [RN, reduceIte]); try refine T_e rfl ?_
        refine T_rseq fun Kr hKr => ?_; simp (disch := omega) only [RA, ↓reduceIte, Nat.reduceEqDiff, RD, g4, ga]; refine hKr _ _ ?_; clear hKr Kr; (try simp only [RN, reduceIte]); try refine T_e rfl ?_
        refine T_rseq fun Kr hKr => ?_; simp (disch := omega) only [RA, ↓reduceIte, Nat.reduceEqDiff, Nat.reduceAdd, Nat.reduceLeDiff, Int.reduceNeg, RD]; refine hKr _ _ ?_; clear hKr Kr; (try simp only [RN, reduceIte]); try refine T_e rfl ?_
        by_cases hlt : laT e r < 0
        · rw [if_pos hlt] at hfe
          refine T_cseq (t := true) (by simp (disch := omega) only [RA, ↓reduceIte, Nat.reduceEqDiff, RD, decide_eq_true hlt]) ?_; (try simp only [RN, reduceIte]); try refine T_e rfl ?_
          refine T_rseq fun Kr hKr => ?_; simp (disch := omega) only [RA, ↓reduceIte, Nat.reduceEqDiff, RD, g3, gs]; refine hKr _ _ ?_; clear hKr Kr; (try simp only [RN, reduceIte]); try refine T_e rfl ?_
          refine hcont _ _ _ _ (fun f'' H'' h => ?_) hfe ?_ ?_ ?_ ?_ ?_ ?_ ?_ ?_ ?_ ?_ ?_
          any_goals (simp (disch := omega) only [RA, ↓reduceIte, Nat.reduceEqDiff, Int.reduceNeg, reduceCtorEq, RD, RE, *] <;> rfl)
          simp only [blkQ, thenQ, loopQ, if_true]
          exact h
        · rw [if_neg hlt] at hfe
          refine T_cseq (t := false) (by simp (disch := omega) only [RA, ↓reduceIte, Nat.reduceEqDiff, RD, decide_eq_false hlt]) ?_; (try simp only [RN, reduceIte]); try refine T_e rfl ?_
          refine hcont _ _ _ _ (fun f'' H'' h => ?_) hfe ?_ ?_ ?_ ?_ ?_ ?_ ?_ ?_ ?_ ?_ ?_
          any_goals (simp (disch := omega) only [RA, ↓reduceIte, Nat.reduceEqDiff, Int.reduceNeg, reduceCtorEq, RD, RE, *] <;> rfl)
          simp only [blkQ, thenQ, loopQ, if_true]
          exact h
      · have h41 : c.toNat = 41 := (hc ▸ hw.2.1 _ (List.getElem_mem hin)).resolve_left h40
        have e40 : decide ((c.toNat : Int) = 40) = false := decide_eq_false (by omega)
        rw [if_neg h40] at hrt
        have hdn := hw.2.2.1 (i + 1) (by omega)
        rw [dep_take hin, hc, if_neg h40, if_pos h41] at hdn
        have hr : r ≠ [] := by
          rintro rfl
          simp at hL
          omega
        have he := hre hr
        have hfe := from_eq hre
        rw [if_neg he] at hfe
        have hsT := skT_close (e := e) hr
        rw [hsT] at gs hfe
        obtain ⟨la1, hla1⟩ : ∃ la1, e.getLastD 0 = la1 := ⟨_, rfl⟩
        obtain ⟨hd1, hhd1⟩ : ∃ hd1, e.headD 0 = hd1 := ⟨_, rfl⟩
        have hla16 : la1 < 16 := by have := helt _ (last_mem he); omega
        have hhd16 : hd1 < 16 := by have := helt _ (head_mem he); omega
        have hc0 := chs_close (p := b) (hok.nod 0) he
        have hc1 := chs_close (p := w) (hok.nod 1) he
        rw [hL, hB1, hla1, hhd1] at hc0
        rw [hL, hW1, hla1, hhd1] at hc1
        rw [hhd1] at gs hfe
        rw [hla1] at hfe
        have hsr : sK ++ ja = sk r ++ ([skT e r] ++ ja) := by rw [← hsK, sk, List.append_assoc]
        have hlr : lA ++ jb = la r ++ ([laT e r] ++ jb) := by rw [← hlA, la, List.append_assoc]
        have hnext : ∀ f'' B2 W2, B2 = (if L % 2 = 0 then B1.set la1 hd1 else B1) → W2 = (if L % 2 = 1 then W1.set la1 hd1 else W1) → f'' 0 = .string (bs s) → f'' 2 = P 0 0 → f'' 3 = S 1 0 L 1 → f'' 4 = S 2 0 L 1 → f'' 5 = I (m : Nat) → f'' 6 = I 0 → f'' 7 = P 3 0 → f'' 8 = I i →
            T 0 A_spec_l05Made.r6 R f'' [some (DC 0 z16 z16), some ((sK ++ ja).map I), some ((lA ++ jb).map I), some (DC n B2 W2)] := by
          clear g0 g2 g3 g4 g5 g6 g7 g8
          intro f'' B2 W2 hB2 hW2 g0 g2 g3 g4 g5 g6 g7 g8
          have hways : (runW (s.take (i + 1))).ways = r := by rw [hrt]; split <;> rfl
          have hnxt : (runW (s.take (i + 1))).next = m := by rw [hrt]; split <;> rfl
          have hbb : (runW (s.take (i + 1))).b = if L % 2 = 0 then cycL b e else b := by
            rw [hrt, hL]
            split
            · rw [if_neg (by omega)]
            · rw [if_pos (by omega)]
          have hww : (runW (s.take (i + 1))).w = if L % 2 = 1 then cycL w e else w := by
            rw [hrt, hL]
            split
            · rfl
            · rfl
          have q3 : f'' 3 = S 1 0 (runW (s.take (i + 1))).ways.length 1 := by rw [hways, hL]; exact g3
          have q4 : f'' 4 = S 2 0 (runW (s.take (i + 1))).ways.length 1 := by rw [hways, hL]; exact g4
          have q5 : f'' 5 = I (runW (s.take (i + 1))).next := by rw [hnxt]; exact g5
          have qb : ((runW (s.take (i + 1))).ways.getLastD []).headD 0 = 0 := by
            rw [hways]
            rw [bot_cons hr] at hbot
            exact hbot
          have qH : [some (DC 0 z16 z16), some ((sK ++ ja).map I), some ((lA ++ jb).map I), some (DC n B2 W2)] = [some (DC 0 z16 z16), some ((sk (runW (s.take (i + 1))).ways ++ ([skT e r] ++ ja)).map I), some ((la (runW (s.take (i + 1))).ways ++ ([laT e r] ++ jb)).map I), some (DC n (chs (runW (s.take (i + 1))).b (lvl 0 (runW (s.take (i + 1))).ways)) (chs (runW (s.take (i + 1))).w (lvl 1 (runW (s.take (i + 1))).ways)))] := by
            rw [hways, hbb, hww, hc0, hc1, hsr, hlr, hB2, hW2]
          clear g3 g4 g5
          rw [qH]
          refine T_reg_k fun Kr hKr => ?_; simp (disch := omega) only [RA, ↓reduceIte, Nat.reduceEqDiff, RD, g8]; refine hKr _ _ ?_; clear hKr Kr
          refine hN (s.length - (i + 1)) _ _ _ _ (by omega) Gh.refl ⟨i + 1, [skT e r] ++ ja, [laT e r] ++ jb, by omega, rfl, ?_, ?_, ?_, ?_, ?_, ?_, ?_, ?_, qb, rfl⟩
          any_goals (simp (disch := omega) only [RA, ↓reduceIte, Nat.reduceEqDiff, reduceCtorEq, RD, RE, *] <;> rfl)
        have hcont : ∀ (Q : Ex → Fr → BH → Prop) f' (fr : Int), (∀ f'' H'', T 0 A_spec_l05Made.r6 R f'' H'' → Q .normal f'' H'') → fr = (la1 : Int) → f' 0 = .string (bs s) → f' 2 = P 0 0 → f' 3 = S 1 0 (L + 1) 1 → f' 4 = S 2 0 (L + 1) 1 → f' 5 = I (m : Nat) → f' 6 = I 0 → f' 7 = P 3 0 → f' 8 = I i → f' 9 = I L → f' 12 = I fr →
            T 0 (.seq A_spec_l05Made.r25 (.seq (.cond (.t 84) A_spec_l05Made.r26 A_spec_l05Made.r27) (.seq A_spec_l05Made.r28 A_spec_l05Made.r29))) Q f' [some (DC 0 z16 z16), some ((sK ++ ja).map I), some ((lA ++ jb).map I), some (DC n B1 W1)] := by
          clear g0 g2 g3 g4 g5 g6 g7 g8
          intro Q f' fr hq hfr g0 g2 g3 g4 g5 g6 g7 g8 g9 g12
          subst hfr
          have hmod : (L : Int).tmod 2 = ((L % 2 : Nat) : Int) := rfl
          refine T_rseq fun Kr hKr => ?_; simp (disch := omega) only [RA, ↓reduceIte, Nat.reduceEqDiff, Int.reduceEq, RD, g9, hmod]; refine hKr _ _ ?_; clear hKr Kr; (try simp only [RN, reduceIte]); try refine T_e rfl ?_
          by_cases h2 : L % 2 = 0
          · have e2 : decide (((L % 2 : Nat) : Int) = 0) = true := decide_eq_true (by omega)
            refine T_cseq (t := true) (by simp (disch := omega) only [RA, ↓reduceIte, Nat.reduceEqDiff, RD, e2]) ?_; (try simp only [RN, reduceIte]); try refine T_e rfl ?_
            refine T_rseq fun Kr hKr => ?_; simp (disch := omega) only [RA, ↓reduceIte, Nat.reduceEqDiff, RD, RDS, RDD, g3, g7, g9, g12, gs]; refine hKr _ _ ?_; clear hKr Kr; (try simp only [RN, reduceIte]); try refine T_e rfl ?_
            refine T_rseq fun Kr hKr => ?_; simp (disch := omega) only [RA, ↓reduceIte, Nat.reduceEqDiff, RD, g3, g9, sl_top]; refine hKr _ _ ?_; clear hKr Kr; (try simp only [RN, reduceIte]); try refine T_e rfl ?_
            refine T_reg_k fun Kr hKr => ?_; simp (disch := omega) only [RA, ↓reduceIte, Nat.reduceEqDiff, RD, g4, g9, sl_top]; refine hKr _ _ ?_; clear hKr Kr
            refine hq _ _ ?_
            refine hnext _ _ W1 (by rw [if_pos h2]) (by rw [if_neg (by omega)]) ?_ ?_ ?_ ?_ ?_ ?_ ?_ ?_
            any_goals (simp (disch := omega) only [RA, ↓reduceIte, Nat.reduceEqDiff, RD, RE, *] <;> rfl)
          · have e2 : decide (((L % 2 : Nat) : Int) = 0) = false := decide_eq_false (by omega)
            refine T_cseq (t := false) (by simp (disch := omega) only [RA, ↓reduceIte, Nat.reduceEqDiff, RD, e2]) ?_; (try simp only [RN, reduceIte]); try refine T_e rfl ?_
            refine T_rseq fun Kr hKr => ?_; simp (disch := omega) only [RA, ↓reduceIte, Nat.reduceEqDiff, RD, RDS, RDD, g3, g7, g9, g12, gs]; refine hKr _ _ ?_; clear hKr Kr; (try simp only [RN, reduceIte]); try refine T_e rfl ?_
            refine T_rseq fun Kr hKr => ?_; simp (disch := omega) only [RA, ↓reduceIte, Nat.reduceEqDiff, RD, g3, g9, sl_top]; refine hKr _ _ ?_; clear hKr Kr; (try simp only [RN, reduceIte]); try refine T_e rfl ?_
            refine T_reg_k fun Kr hKr => ?_; simp (disch := omega) only [RA, ↓reduceIte, Nat.reduceEqDiff, RD, g4, g9, sl_top]; refine hKr _ _ ?_; clear hKr Kr
            refine hq _ _ ?_
            refine hnext _ B1 _ (by rw [if_neg h2]) (by rw [if_pos (by omega)]) ?_ ?_ ?_ ?_ ?_ ?_ ?_ ?_
            any_goals (simp (disch := omega) only [RA, ↓reduceIte, Nat.reduceEqDiff, RD, RE, *] <;> rfl)
        refine T_cseq (t := false) (by simp (disch := omega) only [RA, ↓reduceIte, Nat.reduceEqDiff, RD, e40]) ?_; (try simp only [RN, reduceIte]); try refine T_e rfl ?_
        refine T_rseq fun Kr hKr => ?_; simp (disch := omega) only [RA, ↓reduceIte, Nat.reduceEqDiff, RD, g4, ga]; refine hKr _ _ ?_; clear hKr Kr; (try simp only [RN, reduceIte]); try refine T_e rfl ?_
        refine T_rseq fun Kr hKr => ?_; simp (disch := omega) only [RA, ↓reduceIte, Nat.reduceEqDiff, Nat.reduceAdd, Nat.reduceLeDiff, Int.reduceNeg, RD]; refine hKr _ _ ?_; clear hKr Kr; (try simp only [RN, reduceIte]); try refine T_e rfl ?_
        by_cases hlt : laT e r < 0
        · rw [if_pos hlt] at hfe
          refine T_cseq (t := true) (by simp (disch := omega) only [RA, ↓reduceIte, Nat.reduceEqDiff, RD, decide_eq_true hlt]) ?_; (try simp only [RN, reduceIte]); try refine T_e rfl ?_
          refine T_rseq fun Kr hKr => ?_; simp (disch := omega) only [RA, ↓reduceIte, Nat.reduceEqDiff, RD, g3, gs]; refine hKr _ _ ?_; clear hKr Kr; (try simp only [RN, reduceIte]); try refine T_e rfl ?_
          refine hcont _ _ _ (fun f'' H'' h => ?_) hfe ?_ ?_ ?_ ?_ ?_ ?_ ?_ ?_ ?_ ?_
          any_goals (simp (disch := omega) only [RA, ↓reduceIte, Nat.reduceEqDiff, RD, RE, *] <;> rfl)
          simp only [blkQ, thenQ, loopQ, if_true]
          exact h
        · rw [if_neg hlt] at hfe
          refine T_cseq (t := false) (by simp (disch := omega) only [RA, ↓reduceIte, Nat.reduceEqDiff, RD, decide_eq_false hlt]) ?_; (try simp only [RN, reduceIte]); try refine T_e rfl ?_
          refine hcont _ _ _ (fun f'' H'' h => ?_) hfe ?_ ?_ ?_ ?_ ?_ ?_ ?_ ?_ ?_ ?_
          any_goals (simp (disch := omega) only [RA, ↓reduceIte, Nat.reduceEqDiff, RD, RE, *] <;> rfl)
          simp only [blkQ, thenQ, loopQ, if_true]
          exact h
    · refine hX _ _ ?_
      obtain rfl : i = s.length := by omega
      have hd0 := hw.2.2.2
      rw [List.take_length] at hlw hst hnx
      have hL0 : L = 0 := by omega
      subst hL0
      have hr0 : r = [] := List.eq_nil_of_length_eq_zero hL
      subst hr0
      have hm1 : 0 < m := by
        have : (s.countP fun c => c.toNat == 41) ≤ s.countP fun c => c.toNat == 40 := by unfold dep at hd0; omega
        have h2 := cnt_all hw.2.1
        omega
      have he : e ≠ [] := by
        rcases hok.ne with ⟨q, _⟩ | ⟨_, _, q⟩
        · simp only at q; omega
        · exact q e (by simp)
      obtain ⟨la1, hla1⟩ : ∃ la1, e.getLastD 0 = la1 := ⟨_, rfl⟩
      have hla16 : la1 < 16 := by have := helt _ (last_mem he); omega
      have hlT : laT e [] = (la1 : Int) := by rw [laT, if_pos rfl, if_neg he, hla1]
      rw [hlT] at ga
      have hh0 : e.headD 0 = 0 := hbot
      have hmb : B1.set la1 0 = madeB s := by
        rw [madeB, hst]
        simp only [List.headD_cons]
        rw [cycL, if_neg he, hla1, hh0, ← hB1]
        rfl
      have hmw : W1 = madeW s := by
        rw [madeW, hst, ← hW1]
        rfl
      have hst0 : ∀ H', stO (some (DC n B1 W1)) H' 3 (1 + la1) 1 (.int .u8 0) = some (undef, H'.set 3 (some (DC n (B1.set la1 0) W1))) := fun H' => st_Db (x := 0) (by omega)
      refine T_rseq fun Kr hKr => ?_; simp (disch := omega) only [RA, ↓reduceIte, Nat.reduceEqDiff, RD, RDS, RDD, g4, g6, g7, ga, hst0]; refine hKr _ _ ?_; clear hKr Kr; (try simp only [RN, reduceIte]); try refine T_e rfl ?_
      have hls : (B1.set la1 0).length = 16 := by rw [List.length_set, hlb]
      refine T_rseq fun Kr hKr => ?_; simp (disch := omega) only [RA, ↓reduceIte, Nat.reduceEqDiff, RD, RDS, RDD, g2, g7, hls, hlw2]; refine hKr _ _ ?_; clear hKr Kr; (try simp only [RN, reduceIte]); try refine T_e rfl ?_
      refine bodyQ_ret (by simp (disch := omega) only [RA, ↓reduceIte, Nat.reduceEqDiff, RD, resAll, resOf, RDS, RDD, g2, hls, hlw2]; rfl) GhV.refl ?_; simp only [tup]
      rw [hmb, hmw]
      exact ⟨nn_D, hK⟩
end
end Go.Bm

