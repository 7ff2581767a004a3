/- DpKe, DpKf -/
import Derived.Test.YtbfhlajbjfahiaaBmV
import Derived.Test.YtbfhlajbjfahiaaDpG6
/- The program's search for pairs: closures in a memory of ten blocks. -/
set_option linter.unusedVariables false
set_option linter.unusedSimpArgs false
set_option linter.unusedSectionVars false
namespace Go.Bm
open Go Go.Am

/-! ### Calls of closures -/
theorem T_sk {Q : Ex → Fr → BH → Prop} {f : Fr} {H : BH} {k : Nat} {c : ACode} (h : T k (.seq c .skip) Q f H) : T k c Q f H := T_big (fun _ _ _ _ _ h => by
  cases h with
  | seqN ha hb => cases hb; exact ha
  | seqX ha hne => exact ha) h
def clW (v : Value) (k : Nat → Array Value → Prop) : Prop :=
  match v with
  | .func (.func cap) ⟨[]⟩ caps => k cap caps
  | _ => False
theorem clW_f {m : Nat} {caps : Array Value} {k : Nat → Array Value → Prop} : clW (.func (.func m) #[] caps) k = k m caps := rfl
theorem opsT_callvW {d t : Option Nat} {r : List AOper} {K : Fr → BH → Prop} {f : Fr} {H : BH} {g : Opd} {as : List Opd} :
    opsT d (⟨t, .callv g as, none⟩ :: r) K f H = clW (ev f g) fun cap caps => CallX (needExt d) cap (as.map (ev f) ++ caps.toList) H (contS d t r K f) := by
  rw [opsT]
  simp only [guardV]
  generalize ev f g = v
  cases v <;> try rfl
  rename_i fid first caps
  cases fid <;> try rfl
  obtain ⟨first⟩ := first
  cases first with
  | nil => simp [clW]; rfl
  | cons a l => simp [clW]
abbrev clo (g : Nat) (caps : List Value) : Value := .func (.func g) #[] ⟨caps⟩
def clo1 (g1 : Nat) : Value := clo g1 [P 0 0]
def clo2 : Value := clo F_impl_eachPair_1 [P 3 0, P 4 0, P 1 0, P 2 0]
def clo3 : Value := clo F_impl_each_1 [P 5 0, P 6 0, P 7 0, P 8 0, P 9 0]
/-- The memory of the search. -/
def MM (g1 : Nat) (xss : List (List Int)) (n : Nat) (black : List Nat) (many : Nat) (p : List Nat) (used : List Bool) : BH :=
  [some [I many], some [FII xss], some [clo1 g1], some [I n], some (black.map N8), some [I n], some [clo2], some (p.map N8), some (used.map B), some [clo3]]
theorem ren_N8 {ns : List Nat} {xs : List Nat} : (xs.map N8).map (ren ns) = xs.map N8 := by
  rw [List.map_map]
  exact List.map_congr_left fun x _ => rfl
theorem ren_Bs {ns : List Nat} {xs : List Bool} : (xs.map B).map (ren ns) = xs.map B := by
  rw [List.map_map]
  exact List.map_congr_left fun x _ => rfl
theorem ren_clo {ns : List Nat} {g : Nat} {caps : List Value} : ren ns (clo g caps) = clo g (caps.map (ren1 ns)) := by
  show Value.func (.func g) #[] ((⟨caps⟩ : Array Value).map (ren1 ns)) = _
  rw [List.map_toArray]
theorem ren_clo1 {g1 k : Nat} (hk : 0 < k) : Option.map (List.map (ren (List.range (k + 1)))) (some [clo1 g1]) = some [clo1 g1] := by
  rw [Option.map_some, List.map_cons, List.map_nil, clo1, ren_clo]
  have : ren1 (List.range (k + 1)) (P 0 0) = P 0 0 := by simp [ren1, nm, List.range_succ_eq_map, List.findIdx?_cons]
  rw [List.map_cons, List.map_nil, this]
theorem range_at {k j : Nat} (h : j < k) : (List.range k)[j]? = some j := by rw [List.getElem?_range h]
section
variable {g1 n many : Nat} {xss : List (List Int)} {black p : List Nat} {used : List Bool}
theorem MM_cut {ex : BH} : renC (List.range 10) (MM g1 xss n black many p used ++ ex) = MM g1 xss n black many p used := by
  show [_, _, _, _, _, _, _, _, _, _] = _
  unfold MM
  have e1 : Option.map (List.map (ren (List.range 10))) (some (black.map N8)) = some (black.map N8) := by rw [Option.map_some, ren_N8]
  have e2 : Option.map (List.map (ren (List.range 10))) (some (p.map N8)) = some (p.map N8) := by rw [Option.map_some, ren_N8]
  have e3 : Option.map (List.map (ren (List.range 10))) (some (used.map B)) = some (used.map B) := by rw [Option.map_some, ren_Bs]
  have c1 := ren_clo1 (g1 := g1) (k := 9) (by omega)
  have c2 : Option.map (List.map (ren (List.range 10))) (some [clo2]) = some [clo2] := by
    rw [Option.map_some, List.map_cons, List.map_nil, clo2, ren_clo]
    rfl
  have c3 : Option.map (List.map (ren (List.range 10))) (some [clo3]) = some [clo3] := by
    rw [Option.map_some, List.map_cons, List.map_nil, clo3, ren_clo]
    rfl
  refine congr (congrArg List.cons rfl) (congr (congrArg List.cons rfl) (congr (congrArg List.cons c1) (congr (congrArg List.cons rfl) (congr (congrArg List.cons e1) (congr (congrArg List.cons rfl) (congr (congrArg List.cons c2) (congr (congrArg List.cons e2) (congr (congrArg List.cons e3) (congr (congrArg List.cons c3) rfl)))))))))
/-- The memory of the pairs. -/
def M5 (g1 : Nat) (xss : List (List Int)) (n : Nat) (black : List Nat) (many : Nat) : BH := [some [I many], some [FII xss], some [clo1 g1], some [I n], some (black.map N8)]
theorem M5_cut : renC (List.range 5) (MM g1 xss n black many p used) = M5 g1 xss n black many := by
  show [_, _, _, _, _] = _
  unfold M5
  have e1 : Option.map (List.map (ren (List.range 5))) (some (black.map N8)) = some (black.map N8) := by rw [Option.map_some, ren_N8]
  have c1 := ren_clo1 (g1 := g1) (k := 4) (by omega)
  exact congr (congrArg List.cons rfl) (congr (congrArg List.cons rfl) (congr (congrArg List.cons c1) (congr (congrArg List.cons rfl) (congr (congrArg List.cons e1) rfl))))
end
section
variable {g1 n : Nat} {xss : List (List Int)} {black : List Nat} {d1 : List Nat → Bool}
/-- What is done with a pair: it is counted, if it is one of those. -/
def DoOk (g1 n : Nat) (black : List Nat) (d1 : List Nat → Bool) : Prop :=
  ∀ (many : Nat) (w : List Nat) (H : BH) (K : Value → BH → Prop), PQ n w → many < 1000000000 → blk H 0 = some [I many] → (∀ ex, K (.tuple ⟨[]⟩) (H.set 0 (some [I ((many + if d1 w then 1 else 0 : Nat) : Int)]) ++ ex)) → CallX false g1 [DV n black w, P 0 0] H K
theorem cap_l {l : List Value} : (⟨l⟩ : Array Value).toList = l := rfl
variable (hdo : DoOk g1 n black d1) (hb : By 16 black) (hbp : Perm black n) (h3 : xss.length = 3) (hll : ∀ xs ∈ xss, xs.length ≤ 1048576)
include hdo hb hbp h3 hll
theorem eachPair_1_spec {many : Nat} {p w : List Nat} {used : List Bool} {K : Value → BH → Prop} (hw : PQ n w) (hm : many < 1000000000)
    (hK : K (.tuple ⟨[]⟩) (MM g1 xss n black (many + if prB (at3 xss 1) (at3 xss 2) black n w && d1 w then 1 else 0) p used)) :
    CallX false F_impl_eachPair_1 [PL w, P 3 0, P 4 0, P 1 0, P 2 0] (MM g1 xss n black many p used) K := by
  have hlb := hb.len
  have hlw := hw.2
  have hwb : By 16 w := ⟨hw.2, fun i => by have := hw.1.lt16 hw.2 i; omega⟩
  have hn := hbp.1
  have hb16 := fun i => hbp.lt16 hlb i
  have hw16 := fun i => hw.1.lt16 hlw i
  have hz := z16_len
  have hg : ∀ i, i < 3 → getN none (xss.map FI) i = some (FI (at3 xss i)) := fun i hi => getN_FI (by omega)
  have hg1 := hg 1 (by omega)
  have hg2 := hg 2 (by omega)
  have hm' : ∀ i, i < 3 → (at3 xss i).length ≤ 1048576 := fun i hi => hll _ (getD_mem' (by omega))
  have hm1 := hm' 1 (by omega)
  have hm2 := hm' 2 (by omega)
  have t1 := typ_len16 hw.1
  have t2 := typ_len16 (face_perm hbp hw.1)
  have gone : ∀ {v : Value}, getN none [v] 0 = some v := rfl
  unfold prB at hK
  have hfin : ∀ (f' : Fr) (many' : Nat) (ex : BH), K (.tuple ⟨[]⟩) (MM g1 xss n black many' p used) → bodyQ 10 [] K .normal f' (MM g1 xss n black many' p used ++ ex) := by
    intro f' many' ex hk
    refine bodyQ_norm (vs := []) rfl (GhV.normC (List.range 10) List.nodup_range (fun j hj => range_at hj) .undef) ?_
    rw [MM_cut]
    exact hk
  refine CallX_body Γ_impl_eachPair_1 ?_
  simp only [A_impl_eachPair_1, T_aiff]
  unfold MM
  refine T_rseq fun Kr hKr => ?_
  simp (disch := omega) only [RA, ↓reduceIte, Nat.reduceEqDiff, Nat.reduceBEq, Nat.reduceSub, Nat.reduceAdd, Nat.reduceMul, Nat.reduceLT, Nat.reduceLeDiff, Int.reduceLE, Int.reduceLT, Int.reduceEq, Int.reduceNeg, Int.reduceToNat, Int.reduceMul, Int.reduceAdd, Int.reduceSub, Int.reduceBEq, Int.reduceBNe, reduceCtorEq, RD, RDS, RDD, R4]
  refine hKr _ _ ?_
  clear hKr Kr
  try simp only [RN, reduceIte]
  try refine T_e rfl ?_
  refine T_rseq fun Kr hKr => ?_
  simp (disch := omega) only [RA, ↓reduceIte, Nat.reduceEqDiff, Nat.reduceBEq, Nat.reduceSub, Nat.reduceAdd, Nat.reduceMul, Nat.reduceLT, Nat.reduceLeDiff, Int.reduceLE, Int.reduceLT, Int.reduceEq, Int.reduceNeg, Int.reduceToNat, Int.reduceMul, Int.reduceAdd, Int.reduceSub, Int.reduceBEq, Int.reduceBNe, reduceCtorEq, RD, RDS, RDD, R4, gone]
  refine hKr _ _ ?_
  clear hKr Kr
  try simp only [RN, reduceIte]
  try refine T_e rfl ?_
  refine T_rseq fun Kr hKr => ?_
  simp (disch := omega) only [RA, ↓reduceIte, Nat.reduceEqDiff, Nat.reduceBEq, Nat.reduceSub, Nat.reduceAdd, Nat.reduceMul, Nat.reduceLT, Nat.reduceLeDiff, Int.reduceLE, Int.reduceLT, Int.reduceEq, Int.reduceNeg, Int.reduceToNat, Int.reduceMul, Int.reduceAdd, Int.reduceSub, Int.reduceBEq, Int.reduceBNe, reduceCtorEq, RD, RDS, RDD, R4, gone]
  refine typeOf_spec hwb hw.1 ?_
  simp (disch := omega) only [RA, ↓reduceIte, Nat.reduceEqDiff, Nat.reduceBEq, Nat.reduceSub, Nat.reduceAdd, Nat.reduceMul, Nat.reduceLT, Nat.reduceLeDiff, Int.reduceLE, Int.reduceLT, Int.reduceEq, Int.reduceNeg, Int.reduceToNat, Int.reduceMul, Int.reduceAdd, Int.reduceSub, Int.reduceBEq, Int.reduceBNe, reduceCtorEq, RD, RDS, RDD, R4, gone, hg1, FN_toI]
  refine Equal_spec (xs := toI (typ w n)) (ys := at3 xss 1) (by rw [toI_len]; omega) (by omega) ?_
  by_cases e1 : toI (typ w n) = at3 xss 1
  · rw [decide_eq_true e1] at hK ⊢
    simp (disch := omega) only [RA, ↓reduceIte, Nat.reduceEqDiff, Nat.reduceBEq, Nat.reduceSub, Nat.reduceAdd, Nat.reduceMul, Nat.reduceLT, Nat.reduceLeDiff, Int.reduceLE, Int.reduceLT, Int.reduceEq, Int.reduceNeg, Int.reduceToNat, Int.reduceMul, Int.reduceAdd, Int.reduceSub, Int.reduceBEq, Int.reduceBNe, reduceCtorEq, RD, RDS, RDD, R4, gone]
    refine face_spec hb hwb (by omega) hb16 hw16 ?_
    simp (disch := omega) only [RA, ↓reduceIte, Nat.reduceEqDiff, Nat.reduceBEq, Nat.reduceSub, Nat.reduceAdd, Nat.reduceMul, Nat.reduceLT, Nat.reduceLeDiff, Int.reduceLE, Int.reduceLT, Int.reduceEq, Int.reduceNeg, Int.reduceToNat, Int.reduceMul, Int.reduceAdd, Int.reduceSub, Int.reduceBEq, Int.reduceBNe, reduceCtorEq, RD, RDS, RDD, R4, gone]
    refine typeOf_spec (backK_by (by omega)) (face_perm hbp hw.1) ?_
    simp (disch := omega) only [RA, ↓reduceIte, Nat.reduceEqDiff, Nat.reduceBEq, Nat.reduceSub, Nat.reduceAdd, Nat.reduceMul, Nat.reduceLT, Nat.reduceLeDiff, Int.reduceLE, Int.reduceLT, Int.reduceEq, Int.reduceNeg, Int.reduceToNat, Int.reduceMul, Int.reduceAdd, Int.reduceSub, Int.reduceBEq, Int.reduceBNe, reduceCtorEq, RD, RDS, RDD, R4, gone, hg2, FN_toI]
    refine Equal_spec (xs := toI (typ (faceP black w n) n)) (ys := at3 xss 2) (by rw [toI_len]; omega) (by omega) ?_
    by_cases e2 : toI (typ (faceP black w n) n) = at3 xss 2
    · rw [decide_eq_true e2] at hK ⊢
      simp (disch := omega) only [RA, ↓reduceIte, Nat.reduceEqDiff, Nat.reduceBEq, Nat.reduceSub, Nat.reduceAdd, Nat.reduceMul, Nat.reduceLT, Nat.reduceLeDiff, Int.reduceLE, Int.reduceLT, Int.reduceEq, Int.reduceNeg, Int.reduceToNat, Int.reduceMul, Int.reduceAdd, Int.reduceSub, Int.reduceBEq, Int.reduceBNe, reduceCtorEq, RD]
      refine hKr _ _ ?_
      clear hKr Kr
      try simp only [blkQ, thenQ, loopQ]
      try simp only [RN, reduceIte]
      try refine T_e rfl ?_
      refine T_cond (t := true) (by simp (disch := omega) only [RA, ↓reduceIte, Nat.reduceEqDiff, Nat.reduceBEq, Nat.reduceSub, Nat.reduceAdd, Nat.reduceMul, Nat.reduceLT, Nat.reduceLeDiff, Int.reduceLE, Int.reduceLT, Int.reduceEq, Int.reduceNeg, Int.reduceToNat, Int.reduceMul, Int.reduceAdd, Int.reduceSub, Int.reduceBEq, Int.reduceBNe, reduceCtorEq, RD]) ?_
      try simp only [RN, reduceIte]
      try refine T_e rfl ?_
      refine T_reg_k fun Kr hKr => ?_
      simp (disch := omega) only [RA, ↓reduceIte, Nat.reduceEqDiff, Nat.reduceBEq, Nat.reduceSub, Nat.reduceAdd, Nat.reduceMul, Nat.reduceLT, Nat.reduceLeDiff, Int.reduceLE, Int.reduceLT, Int.reduceEq, Int.reduceNeg, Int.reduceToNat, Int.reduceMul, Int.reduceAdd, Int.reduceSub, Int.reduceBEq, Int.reduceBNe, reduceCtorEq, RD, RDS, RDD, R4, gone, opsT_callvW, clo1, clW_f, cap_l]
      refine hdo many w _ _ hw hm rfl fun ex => ?_
      simp (disch := omega) only [RA, ↓reduceIte, Nat.reduceEqDiff, Nat.reduceBEq, Nat.reduceSub, Nat.reduceAdd, Nat.reduceMul, Nat.reduceLT, Nat.reduceLeDiff, Int.reduceLE, Int.reduceLT, Int.reduceEq, Int.reduceNeg, Int.reduceToNat, Int.reduceMul, Int.reduceAdd, Int.reduceSub, Int.reduceBEq, Int.reduceBNe, reduceCtorEq, RD]
      refine hKr _ _ ?_
      clear hKr Kr
      try simp only [blkQ, thenQ, loopQ]
      try simp only [RN, reduceIte]
      try refine T_e rfl ?_
      exact hfin _ (many + if d1 w then 1 else 0) ([some (w.map N8), some (DC n black w)] ++ ex) (by simpa using hK)
    · rw [decide_eq_false e2] at hK ⊢
      simp (disch := omega) only [RA, ↓reduceIte, Nat.reduceEqDiff, Nat.reduceBEq, Nat.reduceSub, Nat.reduceAdd, Nat.reduceMul, Nat.reduceLT, Nat.reduceLeDiff, Int.reduceLE, Int.reduceLT, Int.reduceEq, Int.reduceNeg, Int.reduceToNat, Int.reduceMul, Int.reduceAdd, Int.reduceSub, Int.reduceBEq, Int.reduceBNe, reduceCtorEq, RD]
      refine hKr _ _ ?_
      clear hKr Kr
      try simp only [blkQ, thenQ, loopQ]
      try simp only [RN, reduceIte]
      try refine T_e rfl ?_
      refine T_cond (t := false) (by simp (disch := omega) only [RA, ↓reduceIte, Nat.reduceEqDiff, Nat.reduceBEq, Nat.reduceSub, Nat.reduceAdd, Nat.reduceMul, Nat.reduceLT, Nat.reduceLeDiff, Int.reduceLE, Int.reduceLT, Int.reduceEq, Int.reduceNeg, Int.reduceToNat, Int.reduceMul, Int.reduceAdd, Int.reduceSub, Int.reduceBEq, Int.reduceBNe, reduceCtorEq, RD]) ?_
      try simp only [RN, reduceIte]
      try refine T_e rfl ?_
      exact hfin _ many [some (w.map N8), some (DC n black w)] (by simpa using hK)
  · rw [decide_eq_false e1] at hK ⊢
    simp (disch := omega) only [RA, ↓reduceIte, Nat.reduceEqDiff, Nat.reduceBEq, Nat.reduceSub, Nat.reduceAdd, Nat.reduceMul, Nat.reduceLT, Nat.reduceLeDiff, Int.reduceLE, Int.reduceLT, Int.reduceEq, Int.reduceNeg, Int.reduceToNat, Int.reduceMul, Int.reduceAdd, Int.reduceSub, Int.reduceBEq, Int.reduceBNe, reduceCtorEq, RD]
    refine hKr _ _ ?_
    clear hKr Kr
    try simp only [blkQ, thenQ, loopQ]
    try simp only [RN, reduceIte]
    try refine T_e rfl ?_
    refine T_cond (t := false) (by simp (disch := omega) only [RA, ↓reduceIte, Nat.reduceEqDiff, Nat.reduceBEq, Nat.reduceSub, Nat.reduceAdd, Nat.reduceMul, Nat.reduceLT, Nat.reduceLeDiff, Int.reduceLE, Int.reduceLT, Int.reduceEq, Int.reduceNeg, Int.reduceToNat, Int.reduceMul, Int.reduceAdd, Int.reduceSub, Int.reduceBEq, Int.reduceBNe, reduceCtorEq, RD]) ?_
    try simp only [RN, reduceIte]
    try refine T_e rfl ?_
    exact hfin _ many [some (w.map N8), some (DC n black w)] (by simpa using hK)
/-- Both tests of a permutation. -/
def dB (t1 t2 : List Int) (black : List Nat) (n : Nat) (d1 : List Nat → Bool) (w : List Nat) : Bool := prB t1 t2 black n w && d1 w
omit hdo hb hbp h3 hll in
theorem lv_len {n : Nat} : ∀ (m : Nat) {pre : List Nat}, 1 ≤ n ∧ n ≤ 16 → Pfx n pre → pre.length + m = n → (lv n m pre).length ≤ n ^ m
  | 0, pre, _, _, _ => by simp [lv]
  | m + 1, pre, hn, h, hm => by
    have key : ∀ l : List Nat, (∀ x ∈ l, x < n) → (l.flatMap fun x => if x ∈ pre then [] else lv n m (pre ++ [x])).length ≤ l.length * n ^ m := by
      intro l
      induction l with
      | nil => intro _; simp
      | cons x l ih =>
        intro hx
        rw [List.flatMap_cons, List.length_append, List.length_cons, Nat.add_mul]
        have h1 := ih fun y hy => hx y (by simp [hy])
        have h2 : (if x ∈ pre then [] else lv n m (pre ++ [x])).length ≤ n ^ m := by
          split
          · simp
          · rename_i hxp
            exact lv_len m hn ⟨by
              rw [List.nodup_append]
              exact ⟨h.nod, by simp, fun a ha b hb e => by rw [List.mem_singleton] at hb; subst hb; subst e; exact hxp ha⟩, fun y hy => by
              rcases List.mem_append.1 hy with hy | hy
              · exact h.lt y hy
              · rw [List.mem_singleton] at hy; subst hy; exact hx y (by simp), by simp; omega⟩ (by simp; omega)
        omega
    have := key (List.range n) fun x hx => List.mem_range.1 hx
    rw [List.length_range] at this
    rw [lv, Nat.pow_succ, Nat.mul_comm]
    exact this
omit hdo hb hbp h3 hll in
theorem set_back {used : List Bool} {y : Nat} (h : bl used y = false) : (used.set y true).set y false = used := by
  apply List.ext_getElem? 
  intro i
  rw [List.set_set, List.getElem?_set]
  by_cases e : y = i
  · subst e
    rw [if_pos rfl]
    by_cases hl : y < used.length
    · rw [if_pos hl, List.getElem?_eq_getElem hl]
      simp only [bl, List.getD, List.getElem?_eq_getElem hl, Option.getD_some] at h
      rw [h]
    · rw [if_neg hl, List.getElem?_eq_none (by omega)]
  · rw [if_neg e]
theorem each_1_spec (hn8 : n ≤ 8) : ∀ (m : Nat) {i : Nat} {pre p : List Nat} {used : List Bool} {many : Nat} {K : Value → BH → Prop}, i = pre.length → i + m = n → Pfx n pre → p.length = 16 → p.take i = pre → (∀ j, n ≤ j → nl p j = 0) → (∀ j, nl p j < 256) →
    used.length = 16 → (∀ y, y < n → bl used y = decide (y ∈ pre)) → many + n ^ m ≤ 500000000 →
    (∀ p', p'.length = 16 → p'.take i = pre → (∀ j, n ≤ j → nl p' j = 0) → (∀ j, nl p' j < 256) → K (.tuple ⟨[]⟩) (MM g1 xss n black (many + (lv n m pre).countP (dB (at3 xss 1) (at3 xss 2) black n d1)) p' used)) →
    CallX false F_impl_each_1 [I i, P 5 0, P 6 0, P 7 0, P 8 0, P 9 0] (MM g1 xss n black many p used) K := by
  have hn := hbp.1
  have gone : ∀ {v : Value}, getN none [v] 0 = some v := rfl
  intro m
  induction m with
  | zero =>
    intro i pre p used many K hi him hpre hlp htk hz hlt hlu hus hmany hK
    obtain rfl : i = n := by omega
    have hpq : PQ i p := by
      have : p ∈ lv i 0 pre := by
        rw [lv, List.mem_singleton]
        refine nl_ext (by rw [hlp, pad_len (by omega)]) fun j hj => ?_
        rw [pad_nl]
        by_cases hjn : j < pre.length
        · rw [if_pos hjn, ← htk]
          simp [nl, List.getD, List.getElem?_take, show j < i by omega]
        · rw [if_neg hjn]
          exact hz j (by omega)
      exact ((lv_mem (by omega) 0 hpre (by omega) p).1 this).1
    have hpad : lv i 0 pre = [p] := by
      have : p ∈ lv i 0 pre := (lv_mem (by omega) 0 hpre (by omega) p).2 ⟨hpq, by rw [← hi]; exact htk⟩
      rw [lv, List.mem_singleton] at this
      rw [lv, this]
    have hKp := hK p hlp htk hz hlt
    rw [hpad, List.countP_singleton] at hKp
    refine CallX_body Γ_impl_each_1 ?_
    simp only [A_impl_each_1, T_aiff]
    unfold MM
    refine T_rseq fun Kr hKr => ?_
    simp (disch := omega) only [RA, ↓reduceIte, Nat.reduceEqDiff, Nat.reduceBEq, Nat.reduceSub, Nat.reduceAdd, Nat.reduceMul, Nat.reduceLT, Nat.reduceLeDiff, Int.reduceLE, Int.reduceLT, Int.reduceEq, Int.reduceNeg, Int.reduceToNat, Int.reduceMul, Int.reduceAdd, Int.reduceSub, Int.reduceBEq, Int.reduceBNe, reduceCtorEq, RD, R4, gone]
    refine hKr _ _ ?_
    clear hKr Kr
    try simp only [RN, reduceIte]
    try refine T_e rfl ?_
    refine T_cseq (t := true) (by simp (disch := omega) only [RA, ↓reduceIte, Nat.reduceEqDiff, Nat.reduceBEq, Nat.reduceSub, Nat.reduceAdd, Nat.reduceMul, Nat.reduceLT, Nat.reduceLeDiff, Int.reduceLE, Int.reduceLT, Int.reduceEq, Int.reduceNeg, Int.reduceToNat, Int.reduceMul, Int.reduceAdd, Int.reduceSub, Int.reduceBEq, Int.reduceBNe, reduceCtorEq, RD]) ?_
    try simp only [RN, reduceIte]
    try refine T_e rfl ?_
    refine T_rseq fun Kr hKr => ?_
    simp (disch := omega) only [RA, ↓reduceIte, Nat.reduceEqDiff, Nat.reduceBEq, Nat.reduceSub, Nat.reduceAdd, Nat.reduceMul, Nat.reduceLT, Nat.reduceLeDiff, Int.reduceLE, Int.reduceLT, Int.reduceEq, Int.reduceNeg, Int.reduceToNat, Int.reduceMul, Int.reduceAdd, Int.reduceSub, Int.reduceBEq, Int.reduceBNe, reduceCtorEq, RD, R4, gone, hlp, opsT_callvW, clo2, clW_f, cap_l]
    refine eachPair_1_spec hdo hb hbp h3 hll (many := many) (p := p) (used := used) hpq (by omega) ?_
    simp (disch := omega) only [RA, ↓reduceIte, Nat.reduceEqDiff, Nat.reduceBEq, Nat.reduceSub, Nat.reduceAdd, Nat.reduceMul, Nat.reduceLT, Nat.reduceLeDiff, Int.reduceLE, Int.reduceLT, Int.reduceEq, Int.reduceNeg, Int.reduceToNat, Int.reduceMul, Int.reduceAdd, Int.reduceSub, Int.reduceBEq, Int.reduceBNe, reduceCtorEq, RD]
    refine hKr _ _ ?_
    clear hKr Kr
    try simp only [blkQ, thenQ, loopQ]
    try simp only [RN, reduceIte]
    try refine T_e rfl ?_
    refine bodyQ_ret (by simp (disch := omega) only [RA, ↓reduceIte, Nat.reduceEqDiff, Nat.reduceBEq, Nat.reduceSub, Nat.reduceAdd, Nat.reduceMul, Nat.reduceLT, Nat.reduceLeDiff, Int.reduceLE, Int.reduceLT, Int.reduceEq, Int.reduceNeg, Int.reduceToNat, Int.reduceMul, Int.reduceAdd, Int.reduceSub, Int.reduceBEq, Int.reduceBNe, reduceCtorEq, RD, resAll, resOf]; rfl) GhV.refl ?_
    simp only [tup]
    exact hKp
  | succ m ih =>
    intro i pre p used many K hi him hpre hlp htk hz hlt hlu hus hmany hK
    have hin : i < n := by omega
    have h16n : n ≤ 16 := by omega
    obtain ⟨g, hg⟩ : ∃ g : Nat → List (List Nat), g = fun y => if y ∈ pre then [] else lv n m (pre ++ [y]) := ⟨_, rfl⟩
    obtain ⟨A, hA⟩ : ∃ A : Nat → Nat, A = fun y => many + ((List.range y).flatMap g).countP (dB (at3 xss 1) (at3 xss 2) black n d1) := ⟨_, rfl⟩
    have hAs : ∀ y, A (y + 1) = A y + (g y).countP (dB (at3 xss 1) (at3 xss 2) black n d1) := fun y => by
      rw [hA]
      simp only [List.range_succ, List.flatMap_append, List.countP_append, List.flatMap_cons, List.flatMap_nil, List.append_nil]
      omega
    have hpre' : ∀ y, y < n → y ∉ pre → Pfx n (pre ++ [y]) := fun y hy hyp => ⟨by
      rw [List.nodup_append]
      exact ⟨hpre.nod, by simp, fun a ha b hb e => by rw [List.mem_singleton] at hb; subst hb; subst e; exact hyp ha⟩, fun z hz => by
      rcases List.mem_append.1 hz with hz | hz
      · exact hpre.lt z hz
      · rw [List.mem_singleton] at hz; subst hz; exact hy, by simp; omega⟩
    have hgl : ∀ y, y < n → (g y).length ≤ n ^ m := fun y hy => by
      rw [hg]
      simp only
      split
      · simp
      · rename_i hyp
        exact lv_len m (by omega) (hpre' y hy hyp) (by simp; omega)
    have hAb : ∀ y, y ≤ n → A y ≤ many + y * n ^ m := by
      intro y
      induction y with
      | zero => intro _; rw [hA]; simp
      | succ y ih2 =>
        intro hy
        have q1 := List.countP_le_length (p := dB (at3 xss 1) (at3 xss 2) black n d1) (l := g y)
        have q2 := hgl y (by omega)
        have q3 := ih2 (by omega)
        rw [hAs, Nat.add_mul]
        omega
    have hA0 : A 0 = many := by rw [hA]; rfl
    have hAe : A n = many + (lv n (m + 1) pre).countP (dB (at3 xss 1) (at3 xss 2) black n d1) := by rw [hA, hg]; rfl
    refine CallX_body Γ_impl_each_1 ?_
    simp only [A_impl_each_1, T_aiff]
    unfold MM
    have hne : ¬ (i : Int) = n := by omega
    refine T_rseq fun Kr hKr => ?_
    simp (disch := omega) only [RA, ↓reduceIte, Nat.reduceEqDiff, Nat.reduceBEq, Nat.reduceSub, Nat.reduceAdd, Nat.reduceMul, Nat.reduceLT, Nat.reduceLeDiff, Int.reduceLE, Int.reduceLT, Int.reduceEq, Int.reduceNeg, Int.reduceToNat, Int.reduceMul, Int.reduceAdd, Int.reduceSub, Int.reduceBEq, Int.reduceBNe, reduceCtorEq, RD, R4, gone, hne]
    refine hKr _ _ ?_
    clear hKr Kr
    try simp only [RN, reduceIte]
    try refine T_e rfl ?_
    refine T_cseq (t := false) (by simp (disch := omega) only [RA, ↓reduceIte, Nat.reduceEqDiff, Nat.reduceBEq, Nat.reduceSub, Nat.reduceAdd, Nat.reduceMul, Nat.reduceLT, Nat.reduceLeDiff, Int.reduceLE, Int.reduceLT, Int.reduceEq, Int.reduceNeg, Int.reduceToNat, Int.reduceMul, Int.reduceAdd, Int.reduceSub, Int.reduceBEq, Int.reduceBNe, reduceCtorEq, RD]) ?_
    try simp only [RN, reduceIte]
    try refine T_e rfl ?_
    refine T_rseq fun Kr hKr => ?_
    simp (disch := omega) only [RA, ↓reduceIte, Nat.reduceEqDiff, Nat.reduceBEq, Nat.reduceSub, Nat.reduceAdd, Nat.reduceMul, Nat.reduceLT, Nat.reduceLeDiff, Int.reduceLE, Int.reduceLT, Int.reduceEq, Int.reduceNeg, Int.reduceToNat, Int.reduceMul, Int.reduceAdd, Int.reduceSub, Int.reduceBEq, Int.reduceBNe, reduceCtorEq, RD, gone]
    refine hKr _ _ ?_
    clear hKr Kr
    try simp only [RN, reduceIte]
    try refine T_e rfl ?_
    refine T_sk ?_
    refine T_wloop (fun mm f H' => ∃ y p', y ≤ n ∧ mm = n - y ∧ p'.length = 16 ∧ p'.take i = pre ∧ (∀ j, n ≤ j → nl p' j = 0) ∧ (∀ j, nl p' j < 256) ∧ f 0 = I i ∧ f 1 = P 5 0 ∧ f 2 = P 6 0 ∧ f 3 = P 7 0 ∧ f 4 = P 8 0 ∧ f 5 = P 9 0 ∧ f 14 = I n ∧ f 15 = I y ∧ H' = MM g1 xss n black (A y) p' used) (n) ?_ ?_
    · refine ⟨_, _, Gh.refl, 0, p, by omega, by omega, hlp, htk, hz, hlt, ?_, ?_, ?_, ?_, ?_, ?_, ?_, ?_, by rw [hA0]; rfl⟩
      all_goals (simp (disch := omega) only [RA, ↓reduceIte, Nat.reduceEqDiff, Nat.reduceBEq, Nat.reduceSub, Nat.reduceAdd, Nat.reduceMul, Nat.reduceLT, Nat.reduceLeDiff, Int.reduceLE, Int.reduceLT, Int.reduceEq, Int.reduceNeg, Int.reduceToNat, Int.reduceMul, Int.reduceAdd, Int.reduceSub, Int.reduceBEq, Int.reduceBNe, reduceCtorEq, R4, RD, RE] <;> rfl)
    · rintro mm f H' R ⟨y, p', hy, rfl, hlp', htk', hz', hlt', g0, g1', g2, g3, g4, g5, g14, g15, rfl⟩ hN hX hR hE
      simp only [A_impl_each_1.l0, T_aiff]
      refine T_rseq fun Kr hKr => ?_
      simp (disch := omega) only [RA, ↓reduceIte, Nat.reduceEqDiff, Nat.reduceBEq, Nat.reduceSub, Nat.reduceAdd, Nat.reduceMul, Nat.reduceLT, Nat.reduceLeDiff, Int.reduceLE, Int.reduceLT, Int.reduceEq, Int.reduceNeg, Int.reduceToNat, Int.reduceMul, Int.reduceAdd, Int.reduceSub, Int.reduceBEq, Int.reduceBNe, reduceCtorEq, RD, g14, g15]
      refine hKr _ _ ?_
      clear hKr Kr
      try simp only [RN, reduceIte]
      try refine T_e rfl ?_
      refine T_csplit (p := y < n) (by simp only [RA, ↓reduceIte, Nat.reduceEqDiff, Nat.reduceBEq, Nat.reduceSub, Nat.reduceAdd, Nat.reduceMul, Nat.reduceLT, Nat.reduceLeDiff, Int.reduceLE, Int.reduceLT, Int.reduceEq, Int.reduceNeg, Int.reduceToNat, Int.reduceMul, Int.reduceAdd, Int.reduceSub, Int.reduceBEq, Int.reduceBNe, reduceCtorEq] <;> rfl) (by (try simp only [RB]) <;> first | done | exact Iff.rfl | omega | simp) (fun hc => ?_) (fun hc => ?_) <;> (try simp only [RN, reduceIte]) <;> (try refine T_e rfl ?_)
      · have hyn : y < n := by assumption
        have hy16 : y < 16 := by omega
        have hAy := hAb y hy
        have hmul : y * n ^ m + n ^ m ≤ n ^ (m + 1) := by
          have : (y + 1) * n ^ m ≤ n * n ^ m := Nat.mul_le_mul_right _ (by omega)
          rw [Nat.add_mul, Nat.one_mul] at this
          rw [Nat.pow_succ, Nat.mul_comm (n ^ m) n]
          exact this
        have hnext : ∀ f' p2, p2.length = 16 → p2.take i = pre → (∀ j, n ≤ j → nl p2 j = 0) → (∀ j, nl p2 j < 256) → f' 0 = I i → f' 1 = P 5 0 → f' 2 = P 6 0 → f' 3 = P 7 0 → f' 4 = P 8 0 → f' 5 = P 9 0 → f' 14 = I n → f' 15 = I y → T 10 A_impl_each_1.r10 R f' (MM g1 xss n black (A (y + 1)) p2 used) := by
          clear g0 g1' g2 g3 g4 g5 g14 g15
          intro f' p2 q1 q2 q3 q4 g0 g1' g2 g3 g4 g5 g14 g15
          refine T_reg_k fun Kr hKr => ?_
          simp (disch := omega) only [RA, ↓reduceIte, Nat.reduceEqDiff, Nat.reduceBEq, Nat.reduceSub, Nat.reduceAdd, Nat.reduceMul, Nat.reduceLT, Nat.reduceLeDiff, Int.reduceLE, Int.reduceLT, Int.reduceEq, Int.reduceNeg, Int.reduceToNat, Int.reduceMul, Int.reduceAdd, Int.reduceSub, Int.reduceBEq, Int.reduceBNe, reduceCtorEq, RD, g15]
          refine hKr _ _ ?_
          clear hKr Kr
          refine hN (n - (y + 1)) _ _ _ _ (by omega) Gh.refl ⟨y + 1, p2, by omega, rfl, q1, q2, q3, q4, ?_, ?_, ?_, ?_, ?_, ?_, ?_, ?_, rfl⟩
          all_goals (simp (disch := omega) only [RA, ↓reduceIte, Nat.reduceEqDiff, Nat.reduceBEq, Nat.reduceSub, Nat.reduceAdd, Nat.reduceMul, Nat.reduceLT, Nat.reduceLeDiff, Int.reduceLE, Int.reduceLT, Int.reduceEq, Int.reduceNeg, Int.reduceToNat, Int.reduceMul, Int.reduceAdd, Int.reduceSub, Int.reduceBEq, Int.reduceBNe, reduceCtorEq, RD, RE, *] <;> rfl)
        first | refine T_bfree rfl ?_ | refine T_bfree' rfl ?_
        try simp only [RN, reduceIte]
        try refine T_e rfl ?_
        refine T_rseq fun Kr hKr => ?_
        simp (disch := omega) only [RA, ↓reduceIte, Nat.reduceEqDiff, Nat.reduceBEq, Nat.reduceSub, Nat.reduceAdd, Nat.reduceMul, Nat.reduceLT, Nat.reduceLeDiff, Int.reduceLE, Int.reduceLT, Int.reduceEq, Int.reduceNeg, Int.reduceToNat, Int.reduceMul, Int.reduceAdd, Int.reduceSub, Int.reduceBEq, Int.reduceBNe, reduceCtorEq, RD, g15]
        refine hKr _ _ ?_
        clear hKr Kr
        try simp only [RN, reduceIte]
        try refine T_e rfl ?_
        unfold MM
        refine T_rseq fun Kr hKr => ?_
        simp (disch := omega) only [RA, ↓reduceIte, Nat.reduceEqDiff, Nat.reduceBEq, Nat.reduceSub, Nat.reduceAdd, Nat.reduceMul, Nat.reduceLT, Nat.reduceLeDiff, Int.reduceLE, Int.reduceLT, Int.reduceEq, Int.reduceNeg, Int.reduceToNat, Int.reduceMul, Int.reduceAdd, Int.reduceSub, Int.reduceBEq, Int.reduceBNe, reduceCtorEq, RD, g4, hlu]
        refine hKr _ _ ?_
        clear hKr Kr
        try simp only [RN, reduceIte]
        try refine T_e rfl ?_
        by_cases hyp : y ∈ pre
        · have hb1 : bl used y = true := by rw [hus y hyn, decide_eq_true hyp]
          have hgy : g y = [] := by rw [hg]; simp [hyp]
          have hAy1 : A (y + 1) = A y := by rw [hAs, hgy]; simp
          refine T_cseq (t := false) (by simp (disch := omega) only [RA, ↓reduceIte, Nat.reduceEqDiff, Nat.reduceBEq, Nat.reduceSub, Nat.reduceAdd, Nat.reduceMul, Nat.reduceLT, Nat.reduceLeDiff, Int.reduceLE, Int.reduceLT, Int.reduceEq, Int.reduceNeg, Int.reduceToNat, Int.reduceMul, Int.reduceAdd, Int.reduceSub, Int.reduceBEq, Int.reduceBNe, reduceCtorEq, RD, hb1]) ?_
          try simp only [RN, reduceIte]
          try refine T_e rfl ?_
          rw [← hAy1]
          refine hnext _ p' hlp' htk' hz' hlt' ?_ ?_ ?_ ?_ ?_ ?_ ?_ ?_
          any_goals (simp (disch := omega) only [RA, ↓reduceIte, Nat.reduceEqDiff, Nat.reduceBEq, Nat.reduceSub, Nat.reduceAdd, Nat.reduceMul, Nat.reduceLT, Nat.reduceLeDiff, Int.reduceLE, Int.reduceLT, Int.reduceEq, Int.reduceNeg, Int.reduceToNat, Int.reduceMul, Int.reduceAdd, Int.reduceSub, Int.reduceBEq, Int.reduceBNe, reduceCtorEq, RD, RE, *] <;> rfl)
        · have hb1 : bl used y = false := by rw [hus y hyn, decide_eq_false hyp]
          have hgy : g y = lv n m (pre ++ [y]) := by rw [hg]; simp [hyp]
          have hlu1 : (used.set y true).length = 16 := by rw [List.length_set, hlu]
          have a1 : ((i : Nat) : Int) + 1 = ((i + 1 : Nat) : Int) := by omega
          refine T_cseq (t := true) (by simp (disch := omega) only [RA, ↓reduceIte, Nat.reduceEqDiff, Nat.reduceBEq, Nat.reduceSub, Nat.reduceAdd, Nat.reduceMul, Nat.reduceLT, Nat.reduceLeDiff, Int.reduceLE, Int.reduceLT, Int.reduceEq, Int.reduceNeg, Int.reduceToNat, Int.reduceMul, Int.reduceAdd, Int.reduceSub, Int.reduceBEq, Int.reduceBNe, reduceCtorEq, RD, hb1]) ?_
          try simp only [RN, reduceIte]
          try refine T_e rfl ?_
          refine T_rseq fun Kr hKr => ?_
          simp (disch := omega) only [RA, ↓reduceIte, Nat.reduceEqDiff, Nat.reduceBEq, Nat.reduceSub, Nat.reduceAdd, Nat.reduceMul, Nat.reduceLT, Nat.reduceLeDiff, Int.reduceLE, Int.reduceLT, Int.reduceEq, Int.reduceNeg, Int.reduceToNat, Int.reduceMul, Int.reduceAdd, Int.reduceSub, Int.reduceBEq, Int.reduceBNe, reduceCtorEq, RD, g4, hlu]
          refine hKr _ _ ?_
          clear hKr Kr
          try simp only [RN, reduceIte]
          try refine T_e rfl ?_
          refine T_rseq fun Kr hKr => ?_
          simp (disch := omega) only [RA, ↓reduceIte, Nat.reduceEqDiff, Nat.reduceBEq, Nat.reduceSub, Nat.reduceAdd, Nat.reduceMul, Nat.reduceLT, Nat.reduceLeDiff, Int.reduceLE, Int.reduceLT, Int.reduceEq, Int.reduceNeg, Int.reduceToNat, Int.reduceMul, Int.reduceAdd, Int.reduceSub, Int.reduceBEq, Int.reduceBNe, reduceCtorEq, RD, g0, g3, hlp']
          refine hKr _ _ ?_
          clear hKr Kr
          try simp only [RN, reduceIte]
          try refine T_e rfl ?_
          refine T_rseq fun Kr hKr => ?_
          simp (disch := omega) only [RA, ↓reduceIte, Nat.reduceEqDiff, Nat.reduceBEq, Nat.reduceSub, Nat.reduceAdd, Nat.reduceMul, Nat.reduceLT, Nat.reduceLeDiff, Int.reduceLE, Int.reduceLT, Int.reduceEq, Int.reduceNeg, Int.reduceToNat, Int.reduceMul, Int.reduceAdd, Int.reduceSub, Int.reduceBEq, Int.reduceBNe, reduceCtorEq, RD, g0, g5, gone, a1, opsT_callvW, clo3, clW_f, cap_l]
          refine ih (i := i + 1) (pre := pre ++ [y]) (p := p'.set i y) (used := used.set y true) (many := A y) (by simp; omega) (by omega) (hpre' y hyn hyp) (by rw [List.length_set, hlp']) ?_ (fun j hj => by rw [nl_set, if_neg (by omega)]; exact hz' j hj) (fun j => by rw [nl_set]; split; omega; exact hlt' j) hlu1 (fun z hzn => ?_) (by omega) fun p2 q1 q2 q3 q4 => ?_
          · rw [List.take_set, List.take_add_one, htk', List.getElem?_eq_getElem (show i < p'.length by omega), Option.toList_some, List.set_append, if_neg (by omega)]
            simp [hi]
          · rw [bl_set, hlu]
            by_cases e : z = y
            · rw [if_pos ⟨e, by omega⟩, e]; simp
            · rw [if_neg (by omega), hus z hzn]
              simp [e]
          · rw [← hgy, ← hAs]
            unfold MM
            simp (disch := omega) only [RA, ↓reduceIte, Nat.reduceEqDiff, Nat.reduceBEq, Nat.reduceSub, Nat.reduceAdd, Nat.reduceMul, Nat.reduceLT, Nat.reduceLeDiff, Int.reduceLE, Int.reduceLT, Int.reduceEq, Int.reduceNeg, Int.reduceToNat, Int.reduceMul, Int.reduceAdd, Int.reduceSub, Int.reduceBEq, Int.reduceBNe, reduceCtorEq, RD]
            refine hKr _ _ ?_
            clear hKr Kr
            try simp only [blkQ, thenQ, loopQ]
            try simp only [RN, reduceIte]
            try refine T_e rfl ?_
            refine T_rseq fun Kr hKr => ?_
            simp (disch := omega) only [RA, ↓reduceIte, Nat.reduceEqDiff, Nat.reduceBEq, Nat.reduceSub, Nat.reduceAdd, Nat.reduceMul, Nat.reduceLT, Nat.reduceLeDiff, Int.reduceLE, Int.reduceLT, Int.reduceEq, Int.reduceNeg, Int.reduceToNat, Int.reduceMul, Int.reduceAdd, Int.reduceSub, Int.reduceBEq, Int.reduceBNe, reduceCtorEq, RD, g4, hlu1]
            refine hKr _ _ ?_
            clear hKr Kr
            try simp only [RN, reduceIte]
            try refine T_e rfl ?_
            rw [set_back hb1]
            refine hnext _ p2 q1 ?_ q3 q4 ?_ ?_ ?_ ?_ ?_ ?_ ?_ ?_
            any_goals (simp (disch := omega) only [RA, ↓reduceIte, Nat.reduceEqDiff, Nat.reduceBEq, Nat.reduceSub, Nat.reduceAdd, Nat.reduceMul, Nat.reduceLT, Nat.reduceLeDiff, Int.reduceLE, Int.reduceLT, Int.reduceEq, Int.reduceNeg, Int.reduceToNat, Int.reduceMul, Int.reduceAdd, Int.reduceSub, Int.reduceBEq, Int.reduceBNe, reduceCtorEq, RD, RE, *] <;> rfl)
            have q5 := congrArg (List.take i) q2
            rw [List.take_take, Nat.min_eq_left (by omega), List.take_append_of_le_length (by omega), List.take_of_length_le (l := pre) (by omega)] at q5
            exact q5
      · refine hX _ _ ?_
        obtain rfl : y = n := by omega
        rw [hAe]
        exact T_skip (bodyQ_norm (vs := []) rfl GhV.refl (hK p' hlp' htk' hz' hlt'))
end
end Go.Bm

/- The program's numbers of pairs. -/
set_option linter.unusedVariables false
set_option linter.unusedSimpArgs false
set_option linter.unusedSectionVars false
namespace Go.Bm
open Go Go.Am

theorem isConnected_spec {x : Bool} {n : Int} {b w : List Nat} {H : BH} {K : Value → BH → Prop} (hb : By 16 b) (hw : By 16 w) (h1 : Perm b n) (h2 : Perm w n) (hK : K (.bool (decide (Des n b w))) H) : CallX x F_impl_isConnected [DV n b w] H K := by
  have hlb := hb.len
  have hlw := hw.len
  refine callP (by simp only [RH]) ?_
  refine CallX_body Γ_impl_isConnected ?_
  simp only [A_impl_isConnected, T_aiff]
  refine T_rseq fun Kr hKr => ?_
  simp (disch := omega) only [RA, ↓reduceIte, Nat.reduceEqDiff, Nat.reduceBEq, Nat.reduceSub, Nat.reduceAdd, Nat.reduceMul, Nat.reduceLT, Nat.reduceLeDiff, Int.reduceLE, Int.reduceLT, Int.reduceEq, Int.reduceNeg, Int.reduceToNat, Int.reduceMul, Int.reduceAdd, Int.reduceSub, Int.reduceBEq, Int.reduceBNe, reduceCtorEq, RD]
  refine hKr _ _ ?_
  clear hKr Kr
  try simp only [RN, reduceIte]
  try refine T_e rfl ?_
  refine T_rseq fun Kr hKr => ?_
  simp (disch := omega) only [RA, ↓reduceIte, Nat.reduceEqDiff, Nat.reduceBEq, Nat.reduceSub, Nat.reduceAdd, Nat.reduceMul, Nat.reduceLT, Nat.reduceLeDiff, Int.reduceLE, Int.reduceLT, Int.reduceEq, Int.reduceNeg, Int.reduceToNat, Int.reduceMul, Int.reduceAdd, Int.reduceSub, Int.reduceBEq, Int.reduceBNe, reduceCtorEq, RD, getN_D, getN_wh, getN_bk, fill2P hlb hlw]
  have h32 : 2 * 16 = (b.map N8 ++ w.map N8).length := by simp [hlb, hlw]
  refine callFz 1 rfl (by simp only [RH]) ?_
  simp only [RZ, frz_all h32]
  rw [FPs2]
  refine reached_spec (by simp) (by simp [hlb, hlw]) (by simp; exact ⟨h1.lt16' hb.len, h2.lt16' hw.len⟩) ?_
  simp (disch := omega) only [RA, ↓reduceIte, Nat.reduceEqDiff, Nat.reduceBEq, Nat.reduceSub, Nat.reduceAdd, Nat.reduceMul, Nat.reduceLT, Nat.reduceLeDiff, Int.reduceLE, Int.reduceLT, Int.reduceEq, Int.reduceNeg, Int.reduceToNat, Int.reduceMul, Int.reduceAdd, Int.reduceSub, Int.reduceBEq, Int.reduceBNe, reduceCtorEq, RD, getN_D]
  refine hKr _ _ ?_
  clear hKr Kr
  try simp only [blkQ, thenQ, loopQ]
  try simp only [RN, reduceIte]
  try refine T_e rfl ?_
  refine bodyQ_ret (by simp (disch := omega) only [RA, ↓reduceIte, Nat.reduceEqDiff, Nat.reduceBEq, Nat.reduceSub, Nat.reduceAdd, Nat.reduceMul, Nat.reduceLT, Nat.reduceLeDiff, Int.reduceLE, Int.reduceLT, Int.reduceEq, Int.reduceNeg, Int.reduceToNat, Int.reduceMul, Int.reduceAdd, Int.reduceSub, Int.reduceBEq, Int.reduceBNe, reduceCtorEq, RD, resAll, resOf]; rfl) GhV.refl ?_
  simp only [tup]
  exact ⟨NN.bool, by simpa [Des, h1, h2, reach] using hK⟩
theorem blk_b {H : BH} {c : Option (List Value)} : blk (H ++ [c]) H.length = c := by rw [blk_append, if_pos rfl]
section
variable {n : Nat} {black : List Nat}
theorem CountConnected_1_do (hb : By 16 black) (hbp : Perm black n) : DoOk F_impl_CountConnected_1 n black fun w => decide (Des n black w) := by
  intro many w H K hw hm hb0 hk
  have hwb : By 16 w := ⟨hw.2, fun i => by have := hw.1.lt16 hw.2 i; omega⟩
  have hb1 : blk (H ++ [some (DC n black w)]) 0 = some [I many] := by
    have := blk_some hb0
    rw [blk_append, if_neg (by omega), hb0]
  have hb2 : blk (H ++ [some (DC n black w)]) H.length = some (DC n black w) := blk_b
  have hl := blk_some hb0
  have gone : ∀ {v : Value}, getN none [v] 0 = some v := rfl
  refine CallX_body Γ_impl_CountConnected_1 ?_
  simp only [A_impl_CountConnected_1, T_aiff]
  refine T_rseq fun Kr hKr => ?_
  simp (disch := omega) only [RA, ↓reduceIte, Nat.reduceEqDiff, Nat.reduceBEq, Nat.reduceSub, Nat.reduceAdd, Nat.reduceMul, Nat.reduceLT, Nat.reduceLeDiff, Int.reduceLE, Int.reduceLT, Int.reduceEq, Int.reduceNeg, Int.reduceToNat, Int.reduceMul, Int.reduceAdd, Int.reduceSub, Int.reduceBEq, Int.reduceBNe, reduceCtorEq, RD]
  refine hKr _ _ ?_
  clear hKr Kr
  try simp only [RN, reduceIte]
  try refine T_e rfl ?_
  refine T_rseq fun Kr hKr => ?_
  simp (disch := omega) only [RA, ↓reduceIte, Nat.reduceEqDiff, Nat.reduceBEq, Nat.reduceSub, Nat.reduceAdd, Nat.reduceMul, Nat.reduceLT, Nat.reduceLeDiff, Int.reduceLE, Int.reduceLT, Int.reduceEq, Int.reduceNeg, Int.reduceToNat, Int.reduceMul, Int.reduceAdd, Int.reduceSub, Int.reduceBEq, Int.reduceBNe, reduceCtorEq, RD, hb1, hb2, getN_DV hb.len hw.2]
  refine isConnected_spec hb hwb hbp hw.1 ?_
  simp (disch := omega) only [RA, ↓reduceIte, Nat.reduceEqDiff, Nat.reduceBEq, Nat.reduceSub, Nat.reduceAdd, Nat.reduceMul, Nat.reduceLT, Nat.reduceLeDiff, Int.reduceLE, Int.reduceLT, Int.reduceEq, Int.reduceNeg, Int.reduceToNat, Int.reduceMul, Int.reduceAdd, Int.reduceSub, Int.reduceBEq, Int.reduceBNe, reduceCtorEq, RD]
  refine hKr _ _ ?_
  clear hKr Kr
  try simp only [blkQ, thenQ, loopQ]
  try simp only [RN, reduceIte]
  try refine T_e rfl ?_
  have h := hk [some (DC n black w)]
  by_cases hd : Des n black w
  · rw [if_pos (decide_eq_true hd)] at h
    refine T_cond (t := true) (by simp (disch := omega) only [RA, ↓reduceIte, Nat.reduceEqDiff, Nat.reduceBEq, Nat.reduceSub, Nat.reduceAdd, Nat.reduceMul, Nat.reduceLT, Nat.reduceLeDiff, Int.reduceLE, Int.reduceLT, Int.reduceEq, Int.reduceNeg, Int.reduceToNat, Int.reduceMul, Int.reduceAdd, Int.reduceSub, Int.reduceBEq, Int.reduceBNe, reduceCtorEq, RD, decide_eq_true hd]) ?_
    try simp only [RN, reduceIte]
    try refine T_e rfl ?_
    refine T_reg_k fun Kr hKr => ?_
    simp (disch := omega) only [RA, ↓reduceIte, Nat.reduceEqDiff, Nat.reduceBEq, Nat.reduceSub, Nat.reduceAdd, Nat.reduceMul, Nat.reduceLT, Nat.reduceLeDiff, Int.reduceLE, Int.reduceLT, Int.reduceEq, Int.reduceNeg, Int.reduceToNat, Int.reduceMul, Int.reduceAdd, Int.reduceSub, Int.reduceBEq, Int.reduceBNe, reduceCtorEq, RD, hb1, gone]
    refine hKr _ _ ?_
    clear hKr Kr
    refine bodyQ_norm (vs := []) rfl GhV.refl ?_
    rw [List.set_append_left _ _ hl]
    exact h
  · rw [if_neg (by simpa using hd)] at h
    refine T_cond (t := false) (by simp (disch := omega) only [RA, ↓reduceIte, Nat.reduceEqDiff, Nat.reduceBEq, Nat.reduceSub, Nat.reduceAdd, Nat.reduceMul, Nat.reduceLT, Nat.reduceLeDiff, Int.reduceLE, Int.reduceLT, Int.reduceEq, Int.reduceNeg, Int.reduceToNat, Int.reduceMul, Int.reduceAdd, Int.reduceSub, Int.reduceBEq, Int.reduceBNe, reduceCtorEq, RD, decide_eq_false hd]) ?_
    try simp only [RN, reduceIte]
    try refine T_e rfl ?_
    refine bodyQ_norm (vs := []) rfl GhV.refl ?_
    have e : H.set 0 (some [I ((many + 0 : Nat) : Int)]) = H := by
      apply List.ext_getElem?
      intro i
      rw [List.getElem?_set]
      by_cases hi : 0 = i
      · subst hi
        rw [if_pos rfl, if_pos hl]
        unfold blk at hb0
        cases h0 : H[0]? with
        | none => rw [h0] at hb0; cases hb0
        | some c => rw [h0] at hb0; exact congrArg some hb0.symm
      · rw [if_neg hi]
    rw [e] at h
    exact h
end
section
variable {g1 n : Nat} {xss : List (List Int)} {black : List Nat} {d1 : List Nat → Bool}
variable (hdo : DoOk g1 n black d1) (hb : By 16 black) (hbp : Perm black n) (h3 : xss.length = 3) (hll : ∀ xs ∈ xss, xs.length ≤ 1048576)
include hdo hb hbp h3 hll
theorem each_spec (hn8 : n ≤ 8) {K : Value → BH → Prop} (hK : K (.tuple ⟨[]⟩) (M5 g1 xss n black ((lv n n []).countP (dB (at3 xss 1) (at3 xss 2) black n d1)))) :
    CallX false F_impl_each [I n, clo2] (M5 g1 xss n black 0) K := by
  have gone : ∀ {v : Value}, getN none [v] 0 = some v := rfl
  refine CallX_body Γ_impl_each ?_
  simp only [A_impl_each, T_aiff]
  unfold M5
  refine T_rseq fun Kr hKr => ?_
  simp (disch := omega) only [RA, ↓reduceIte, Nat.reduceEqDiff, Nat.reduceBEq, Nat.reduceSub, Nat.reduceAdd, Nat.reduceMul, Nat.reduceLT, Nat.reduceLeDiff, Int.reduceLE, Int.reduceLT, Int.reduceEq, Int.reduceNeg, Int.reduceToNat, Int.reduceMul, Int.reduceAdd, Int.reduceSub, Int.reduceBEq, Int.reduceBNe, reduceCtorEq, RD]
  refine hKr _ _ ?_
  clear hKr Kr
  try simp only [RN, reduceIte]
  try refine T_e rfl ?_
  refine T_rseq fun Kr hKr => ?_
  simp (disch := omega) only [RA, ↓reduceIte, Nat.reduceEqDiff, Nat.reduceBEq, Nat.reduceSub, Nat.reduceAdd, Nat.reduceMul, Nat.reduceLT, Nat.reduceLeDiff, Int.reduceLE, Int.reduceLT, Int.reduceEq, Int.reduceNeg, Int.reduceToNat, Int.reduceMul, Int.reduceAdd, Int.reduceSub, Int.reduceBEq, Int.reduceBNe, reduceCtorEq, RD]
  refine hKr _ _ ?_
  clear hKr Kr
  try simp only [RN, reduceIte]
  try refine T_e rfl ?_
  refine T_rseq fun Kr hKr => ?_
  simp (disch := omega) only [RA, ↓reduceIte, Nat.reduceEqDiff, Nat.reduceBEq, Nat.reduceSub, Nat.reduceAdd, Nat.reduceMul, Nat.reduceLT, Nat.reduceLeDiff, Int.reduceLE, Int.reduceLT, Int.reduceEq, Int.reduceNeg, Int.reduceToNat, Int.reduceMul, Int.reduceAdd, Int.reduceSub, Int.reduceBEq, Int.reduceBNe, reduceCtorEq, RD]
  refine hKr _ _ ?_
  clear hKr Kr
  try simp only [RN, reduceIte]
  try refine T_e rfl ?_
  refine T_rseq fun Kr hKr => ?_
  simp (disch := omega) only [RA, ↓reduceIte, Nat.reduceEqDiff, Nat.reduceBEq, Nat.reduceSub, Nat.reduceAdd, Nat.reduceMul, Nat.reduceLT, Nat.reduceLeDiff, Int.reduceLE, Int.reduceLT, Int.reduceEq, Int.reduceNeg, Int.reduceToNat, Int.reduceMul, Int.reduceAdd, Int.reduceSub, Int.reduceBEq, Int.reduceBNe, reduceCtorEq, RD]
  refine hKr _ _ ?_
  clear hKr Kr
  try simp only [RN, reduceIte]
  try refine T_e rfl ?_
  refine T_rseq fun Kr hKr => ?_
  simp (disch := omega) only [RA, ↓reduceIte, Nat.reduceEqDiff, Nat.reduceBEq, Nat.reduceSub, Nat.reduceAdd, Nat.reduceMul, Nat.reduceLT, Nat.reduceLeDiff, Int.reduceLE, Int.reduceLT, Int.reduceEq, Int.reduceNeg, Int.reduceToNat, Int.reduceMul, Int.reduceAdd, Int.reduceSub, Int.reduceBEq, Int.reduceBNe, reduceCtorEq, RD]
  refine hKr _ _ ?_
  clear hKr Kr
  try simp only [RN, reduceIte]
  try refine T_e rfl ?_
  refine T_reg_k fun Kr hKr => ?_
  simp (disch := omega) only [RA, ↓reduceIte, Nat.reduceEqDiff, Nat.reduceBEq, Nat.reduceSub, Nat.reduceAdd, Nat.reduceMul, Nat.reduceLT, Nat.reduceLeDiff, Int.reduceLE, Int.reduceLT, Int.reduceEq, Int.reduceNeg, Int.reduceToNat, Int.reduceMul, Int.reduceAdd, Int.reduceSub, Int.reduceBEq, Int.reduceBNe, reduceCtorEq, RD, gone, opsT_callvW, clo3, clW_f, cap_l]
  have hn := hbp.1
  have hpw : n ^ n ≤ 8 ^ 8 := Nat.le_trans (Nat.pow_le_pow_left hn8 n) (Nat.pow_le_pow_right (by omega) hn8)
  refine each_1_spec hdo hb hbp h3 hll hn8 n (i := 0) (pre := []) (p := List.replicate 16 0) (used := List.replicate 16 false) (many := 0) rfl (by omega) ⟨by simp, by simp, by simp⟩ rfl rfl (fun j _ => by rw [nl_rep]; split <;> rfl) (fun j => by rw [nl_rep]; split <;> omega) rfl (fun y _ => ?_) (by omega) fun p' q1 q2 q3 q4 => ?_
  · have : bl (List.replicate 16 false) y = false := by
      rw [bl, List.getD_eq_getElem?_getD, List.getElem?_replicate]
      split <;> rfl
    rw [this]; simp
  · rw [Nat.zero_add]
    simp (disch := omega) only [RA, ↓reduceIte, Nat.reduceEqDiff, Nat.reduceBEq, Nat.reduceSub, Nat.reduceAdd, Nat.reduceMul, Nat.reduceLT, Nat.reduceLeDiff, Int.reduceLE, Int.reduceLT, Int.reduceEq, Int.reduceNeg, Int.reduceToNat, Int.reduceMul, Int.reduceAdd, Int.reduceSub, Int.reduceBEq, Int.reduceBNe, reduceCtorEq, RD]
    refine hKr _ _ ?_
    clear hKr Kr
    try simp only [blkQ, thenQ, loopQ]
    try simp only [RN, reduceIte]
    try refine T_e rfl ?_
    refine bodyQ_norm (vs := []) rfl (GhV.normC (List.range 5) List.nodup_range (fun j hj => range_at hj) .undef) ?_
    rw [M5_cut]
    exact hK
end
section
variable {g1 : Nat} {xss : List (List Int)} {d1 : List Nat → Bool}
theorem eachPair_spec (hp : PassP xss) (h8 : nP xss ≤ 8) (hll : ∀ xs ∈ xss, xs.length ≤ 1048576) (hdo : DoOk g1 (nP xss) (std (at3 xss 0)) d1) {K : Value → BH → Prop}
    (hK : K (I (shareP xss)) [some [I ((lv (nP xss) (nP xss) []).countP (dB (at3 xss 1) (at3 xss 2) (std (at3 xss 0)) (nP xss) d1) : Nat)]]) :
    CallX false F_impl_eachPair [FII xss, clo1 g1] [some [I 0]] K := by
  have gone : ∀ {v : Value}, getN none [v] 0 = some v := rfl
  obtain ⟨e1, e2, e3⟩ := nP_cast hp
  obtain ⟨q1, q2⟩ := std_P hp
  have h3 := hp.1
  have t0 := (hp.2 0 (by omega)).1
  have hg0 : getN none (xss.map FI) 0 = some (FI (at3 xss 0)) := getN_FI (by omega)
  have hps : passSum xss = (nP xss : Int) := by rw [passSum, if_pos hp, e1]
  have hlb := q2.len
  have hcp := cenI_pos t0
  have hc0 : cenI (at3 xss 0) ≠ 0 := by omega
  have hsh : (facI (nP xss)).tdiv (cenI (at3 xss 0)) = shareP xss := rfl
  have hs := share_le hp h8
  refine CallX_body Γ_impl_eachPair ?_
  simp only [A_impl_eachPair, T_aiff]
  refine T_rseq fun Kr hKr => ?_
  simp (disch := omega) only [RA, ↓reduceIte, Nat.reduceEqDiff, Nat.reduceBEq, Nat.reduceSub, Nat.reduceAdd, Nat.reduceMul, Nat.reduceLT, Nat.reduceLeDiff, Int.reduceLE, Int.reduceLT, Int.reduceEq, Int.reduceNeg, Int.reduceToNat, Int.reduceMul, Int.reduceAdd, Int.reduceSub, Int.reduceBEq, Int.reduceBNe, reduceCtorEq, RD, clo1]
  refine hKr _ _ ?_
  clear hKr Kr
  try simp only [RN, reduceIte]
  try refine T_e rfl ?_
  refine T_rseq fun Kr hKr => ?_
  simp (disch := omega) only [RA, ↓reduceIte, Nat.reduceEqDiff, Nat.reduceBEq, Nat.reduceSub, Nat.reduceAdd, Nat.reduceMul, Nat.reduceLT, Nat.reduceLeDiff, Int.reduceLE, Int.reduceLT, Int.reduceEq, Int.reduceNeg, Int.reduceToNat, Int.reduceMul, Int.reduceAdd, Int.reduceSub, Int.reduceBEq, Int.reduceBNe, reduceCtorEq, RD, gone]
  refine sumOfPassport_spec (by omega) hll ?_
  simp (disch := omega) only [RA, ↓reduceIte, Nat.reduceEqDiff, Nat.reduceBEq, Nat.reduceSub, Nat.reduceAdd, Nat.reduceMul, Nat.reduceLT, Nat.reduceLeDiff, Int.reduceLE, Int.reduceLT, Int.reduceEq, Int.reduceNeg, Int.reduceToNat, Int.reduceMul, Int.reduceAdd, Int.reduceSub, Int.reduceBEq, Int.reduceBNe, reduceCtorEq, RD, hps]
  refine hKr _ _ ?_
  clear hKr Kr
  try simp only [blkQ, thenQ, loopQ]
  try simp only [RN, reduceIte]
  try refine T_e rfl ?_
  refine T_rseq fun Kr hKr => ?_
  simp (disch := omega) only [RA, ↓reduceIte, Nat.reduceEqDiff, Nat.reduceBEq, Nat.reduceSub, Nat.reduceAdd, Nat.reduceMul, Nat.reduceLT, Nat.reduceLeDiff, Int.reduceLE, Int.reduceLT, Int.reduceEq, Int.reduceNeg, Int.reduceToNat, Int.reduceMul, Int.reduceAdd, Int.reduceSub, Int.reduceBEq, Int.reduceBNe, reduceCtorEq, RD, R4, gone, hg0]
  refine ofType_spec t0 ?_
  simp (disch := omega) only [RA, ↓reduceIte, Nat.reduceEqDiff, Nat.reduceBEq, Nat.reduceSub, Nat.reduceAdd, Nat.reduceMul, Nat.reduceLT, Nat.reduceLeDiff, Int.reduceLE, Int.reduceLT, Int.reduceEq, Int.reduceNeg, Int.reduceToNat, Int.reduceMul, Int.reduceAdd, Int.reduceSub, Int.reduceBEq, Int.reduceBNe, reduceCtorEq, RD, R4, hlb]
  refine hKr _ _ ?_
  clear hKr Kr
  try simp only [blkQ, thenQ, loopQ]
  try simp only [RN, reduceIte]
  try refine T_e rfl ?_
  refine T_rseq fun Kr hKr => ?_
  simp (disch := omega) only [RA, ↓reduceIte, Nat.reduceEqDiff, Nat.reduceBEq, Nat.reduceSub, Nat.reduceAdd, Nat.reduceMul, Nat.reduceLT, Nat.reduceLeDiff, Int.reduceLE, Int.reduceLT, Int.reduceEq, Int.reduceNeg, Int.reduceToNat, Int.reduceMul, Int.reduceAdd, Int.reduceSub, Int.reduceBEq, Int.reduceBNe, reduceCtorEq, RD, gone]
  refine each_spec hdo q2 q1 h3 hll h8 ?_
  simp (disch := omega) only [RA, ↓reduceIte, Nat.reduceEqDiff, Nat.reduceBEq, Nat.reduceSub, Nat.reduceAdd, Nat.reduceMul, Nat.reduceLT, Nat.reduceLeDiff, Int.reduceLE, Int.reduceLT, Int.reduceEq, Int.reduceNeg, Int.reduceToNat, Int.reduceMul, Int.reduceAdd, Int.reduceSub, Int.reduceBEq, Int.reduceBNe, reduceCtorEq, RD]
  refine hKr _ _ ?_
  clear hKr Kr
  try simp only [blkQ, thenQ, loopQ]
  try simp only [RN, reduceIte]
  try refine T_e rfl ?_
  unfold M5
  refine T_rseq fun Kr hKr => ?_
  simp (disch := omega) only [RA, ↓reduceIte, Nat.reduceEqDiff, Nat.reduceBEq, Nat.reduceSub, Nat.reduceAdd, Nat.reduceMul, Nat.reduceLT, Nat.reduceLeDiff, Int.reduceLE, Int.reduceLT, Int.reduceEq, Int.reduceNeg, Int.reduceToNat, Int.reduceMul, Int.reduceAdd, Int.reduceSub, Int.reduceBEq, Int.reduceBNe, reduceCtorEq, RD, gone]
  refine factorial_spec e2 e3 ?_
  simp (disch := omega) only [RA, ↓reduceIte, Nat.reduceEqDiff, Nat.reduceBEq, Nat.reduceSub, Nat.reduceAdd, Nat.reduceMul, Nat.reduceLT, Nat.reduceLeDiff, Int.reduceLE, Int.reduceLT, Int.reduceEq, Int.reduceNeg, Int.reduceToNat, Int.reduceMul, Int.reduceAdd, Int.reduceSub, Int.reduceBEq, Int.reduceBNe, reduceCtorEq, RD, gone, hg0]
  refine centraliser_spec t0 ?_
  simp (disch := omega) only [RA, ↓reduceIte, Nat.reduceEqDiff, Nat.reduceBEq, Nat.reduceSub, Nat.reduceAdd, Nat.reduceMul, Nat.reduceLT, Nat.reduceLeDiff, Int.reduceLE, Int.reduceLT, Int.reduceEq, Int.reduceNeg, Int.reduceToNat, Int.reduceMul, Int.reduceAdd, Int.reduceSub, Int.reduceBEq, Int.reduceBNe, reduceCtorEq, RD, hc0, hsh]
  refine hKr _ _ ?_
  clear hKr Kr
  try simp only [blkQ, thenQ, loopQ]
  try simp only [RN, reduceIte]
  try refine T_e rfl ?_
  refine bodyQ_ret (vs := [I (shareP xss)]) ?_ (GhV.normC (List.range 1) List.nodup_range (fun j hj => range_at hj) .int) ?_
  · simp (disch := omega) only [RA, ↓reduceIte, Nat.reduceEqDiff, Nat.reduceBEq, Nat.reduceSub, Nat.reduceAdd, Nat.reduceMul, Nat.reduceLT, Nat.reduceLeDiff, Int.reduceLE, Int.reduceLT, Int.reduceEq, Int.reduceNeg, Int.reduceToNat, Int.reduceMul, Int.reduceAdd, Int.reduceSub, Int.reduceBEq, Int.reduceBNe, reduceCtorEq, resAll, resOf]
  · exact hK
end
section
variable {xss : List (List Int)} {H : BH} {K : Value → BH → Prop} {x : Bool}
theorem searchCode_spec (hl : xss.length ≤ 1048576) (hll : ∀ xs ∈ xss, xs.length ≤ 1048576) (hK : K (I (if PassP xss then if nP xss ≤ 8 then 0 else 2 else 1)) H) : CallX x F_impl_searchCode [FII xss] H K := by
  refine callP (.cons .fz .nil) ?_
  refine CallX_body Γ_impl_searchCode ?_
  simp only [A_impl_searchCode, T_aiff]
  refine T_rseq fun Kr hKr => ?_
  simp (disch := omega) only [RA, ↓reduceIte, Nat.reduceEqDiff, Nat.reduceBEq, Nat.reduceSub, Nat.reduceAdd, Nat.reduceMul, Nat.reduceLT, Nat.reduceLeDiff, Int.reduceLE, Int.reduceLT, Int.reduceEq, Int.reduceNeg, Int.reduceToNat, Int.reduceMul, Int.reduceAdd, Int.reduceSub, Int.reduceBEq, Int.reduceBNe, reduceCtorEq, RD]
  refine hKr _ _ ?_
  clear hKr Kr
  try simp only [RN, reduceIte]
  try refine T_e rfl ?_
  refine T_rseq fun Kr hKr => ?_
  simp (disch := omega) only [RA, ↓reduceIte, Nat.reduceEqDiff, Nat.reduceBEq, Nat.reduceSub, Nat.reduceAdd, Nat.reduceMul, Nat.reduceLT, Nat.reduceLeDiff, Int.reduceLE, Int.reduceLT, Int.reduceEq, Int.reduceNeg, Int.reduceToNat, Int.reduceMul, Int.reduceAdd, Int.reduceSub, Int.reduceBEq, Int.reduceBNe, reduceCtorEq, RD]
  refine sumOfPassport_spec hl hll ?_
  simp (disch := omega) only [RA, ↓reduceIte, Nat.reduceEqDiff, Nat.reduceBEq, Nat.reduceSub, Nat.reduceAdd, Nat.reduceMul, Nat.reduceLT, Nat.reduceLeDiff, Int.reduceLE, Int.reduceLT, Int.reduceEq, Int.reduceNeg, Int.reduceToNat, Int.reduceMul, Int.reduceAdd, Int.reduceSub, Int.reduceBEq, Int.reduceBNe, reduceCtorEq, RD]
  refine hKr _ _ ?_
  clear hKr Kr
  try simp only [blkQ, thenQ, loopQ]
  try simp only [RN, reduceIte]
  try refine T_e rfl ?_
  first | refine T_bfree rfl ?_ | refine T_bfree' rfl ?_
  try simp only [RN, reduceIte]
  try refine T_e rfl ?_
  by_cases hp : PassP xss
  · obtain ⟨e1, e2, e3⟩ := nP_cast hp
    have hps : passSum xss = (nP xss : Int) := by rw [passSum, if_pos hp, e1]
    have hne : ¬ (nP xss : Int) = 0 := by omega
    rw [if_pos hp] at hK
    refine T_rseq fun Kr hKr => ?_
    simp (disch := omega) only [RA, ↓reduceIte, Nat.reduceEqDiff, Nat.reduceBEq, Nat.reduceSub, Nat.reduceAdd, Nat.reduceMul, Nat.reduceLT, Nat.reduceLeDiff, Int.reduceLE, Int.reduceLT, Int.reduceEq, Int.reduceNeg, Int.reduceToNat, Int.reduceMul, Int.reduceAdd, Int.reduceSub, Int.reduceBEq, Int.reduceBNe, reduceCtorEq, RD, hps, hne]
    refine hKr _ _ ?_
    clear hKr Kr
    try simp only [RN, reduceIte]
    try refine T_e rfl ?_
    refine T_cseq (t := false) (by simp (disch := omega) only [RA, ↓reduceIte, Nat.reduceEqDiff, Nat.reduceBEq, Nat.reduceSub, Nat.reduceAdd, Nat.reduceMul, Nat.reduceLT, Nat.reduceLeDiff, Int.reduceLE, Int.reduceLT, Int.reduceEq, Int.reduceNeg, Int.reduceToNat, Int.reduceMul, Int.reduceAdd, Int.reduceSub, Int.reduceBEq, Int.reduceBNe, reduceCtorEq, RD]) ?_
    try simp only [RN, reduceIte]
    try refine T_e rfl ?_
    by_cases h8 : nP xss ≤ 8
    · rw [if_pos h8] at hK
      have e : decide ((8 : Int) < (nP xss : Int)) = false := decide_eq_false (by omega)
      refine T_rseq fun Kr hKr => ?_
      simp (disch := omega) only [RA, ↓reduceIte, Nat.reduceEqDiff, Nat.reduceBEq, Nat.reduceSub, Nat.reduceAdd, Nat.reduceMul, Nat.reduceLT, Nat.reduceLeDiff, Int.reduceLE, Int.reduceLT, Int.reduceEq, Int.reduceNeg, Int.reduceToNat, Int.reduceMul, Int.reduceAdd, Int.reduceSub, Int.reduceBEq, Int.reduceBNe, reduceCtorEq, RD, hps]
      refine hKr _ _ ?_
      clear hKr Kr
      try simp only [RN, reduceIte]
      try refine T_e rfl ?_
      refine T_cseq (t := false) (by simp (disch := omega) only [RA, ↓reduceIte, Nat.reduceEqDiff, Nat.reduceBEq, Nat.reduceSub, Nat.reduceAdd, Nat.reduceMul, Nat.reduceLT, Nat.reduceLeDiff, Int.reduceLE, Int.reduceLT, Int.reduceEq, Int.reduceNeg, Int.reduceToNat, Int.reduceMul, Int.reduceAdd, Int.reduceSub, Int.reduceBEq, Int.reduceBNe, reduceCtorEq, RD, e]) ?_
      try simp only [RN, reduceIte]
      try refine T_e rfl ?_
      refine T_rseq fun Kr hKr => ?_
      simp (disch := omega) only [RA, ↓reduceIte, Nat.reduceEqDiff, Nat.reduceBEq, Nat.reduceSub, Nat.reduceAdd, Nat.reduceMul, Nat.reduceLT, Nat.reduceLeDiff, Int.reduceLE, Int.reduceLT, Int.reduceEq, Int.reduceNeg, Int.reduceToNat, Int.reduceMul, Int.reduceAdd, Int.reduceSub, Int.reduceBEq, Int.reduceBNe, reduceCtorEq, RD]
      refine hKr _ _ ?_
      clear hKr Kr
      try simp only [RN, reduceIte]
      try refine T_e rfl ?_
      refine bodyQ_ret (by simp (disch := omega) only [RA, ↓reduceIte, Nat.reduceEqDiff, Nat.reduceBEq, Nat.reduceSub, Nat.reduceAdd, Nat.reduceMul, Nat.reduceLT, Nat.reduceLeDiff, Int.reduceLE, Int.reduceLT, Int.reduceEq, Int.reduceNeg, Int.reduceToNat, Int.reduceMul, Int.reduceAdd, Int.reduceSub, Int.reduceBEq, Int.reduceBNe, reduceCtorEq, RD, resAll, resOf]; rfl) GhV.refl ?_
      simp only [tup]
      exact ⟨.int, hK⟩
    · rw [if_neg h8] at hK
      have e : decide ((8 : Int) < (nP xss : Int)) = true := decide_eq_true (by omega)
      refine T_rseq fun Kr hKr => ?_
      simp (disch := omega) only [RA, ↓reduceIte, Nat.reduceEqDiff, Nat.reduceBEq, Nat.reduceSub, Nat.reduceAdd, Nat.reduceMul, Nat.reduceLT, Nat.reduceLeDiff, Int.reduceLE, Int.reduceLT, Int.reduceEq, Int.reduceNeg, Int.reduceToNat, Int.reduceMul, Int.reduceAdd, Int.reduceSub, Int.reduceBEq, Int.reduceBNe, reduceCtorEq, RD, hps]
      refine hKr _ _ ?_
      clear hKr Kr
      try simp only [RN, reduceIte]
      try refine T_e rfl ?_
      refine T_cseq (t := true) (by simp (disch := omega) only [RA, ↓reduceIte, Nat.reduceEqDiff, Nat.reduceBEq, Nat.reduceSub, Nat.reduceAdd, Nat.reduceMul, Nat.reduceLT, Nat.reduceLeDiff, Int.reduceLE, Int.reduceLT, Int.reduceEq, Int.reduceNeg, Int.reduceToNat, Int.reduceMul, Int.reduceAdd, Int.reduceSub, Int.reduceBEq, Int.reduceBNe, reduceCtorEq, RD, e]) ?_
      try simp only [RN, reduceIte]
      try refine T_e rfl ?_
      refine T_rseq fun Kr hKr => ?_
      simp (disch := omega) only [RA, ↓reduceIte, Nat.reduceEqDiff, Nat.reduceBEq, Nat.reduceSub, Nat.reduceAdd, Nat.reduceMul, Nat.reduceLT, Nat.reduceLeDiff, Int.reduceLE, Int.reduceLT, Int.reduceEq, Int.reduceNeg, Int.reduceToNat, Int.reduceMul, Int.reduceAdd, Int.reduceSub, Int.reduceBEq, Int.reduceBNe, reduceCtorEq, RD]
      refine hKr _ _ ?_
      clear hKr Kr
      try simp only [RN, reduceIte]
      try refine T_e rfl ?_
      refine bodyQ_ret (by simp (disch := omega) only [RA, ↓reduceIte, Nat.reduceEqDiff, Nat.reduceBEq, Nat.reduceSub, Nat.reduceAdd, Nat.reduceMul, Nat.reduceLT, Nat.reduceLeDiff, Int.reduceLE, Int.reduceLT, Int.reduceEq, Int.reduceNeg, Int.reduceToNat, Int.reduceMul, Int.reduceAdd, Int.reduceSub, Int.reduceBEq, Int.reduceBNe, reduceCtorEq, RD, resAll, resOf]; rfl) GhV.refl ?_
      simp only [tup]
      exact ⟨.int, hK⟩
  · have hps : passSum xss = 0 := by rw [passSum, if_neg hp]
    rw [if_neg hp] at hK
    refine T_rseq fun Kr hKr => ?_
    simp (disch := omega) only [RA, ↓reduceIte, Nat.reduceEqDiff, Nat.reduceBEq, Nat.reduceSub, Nat.reduceAdd, Nat.reduceMul, Nat.reduceLT, Nat.reduceLeDiff, Int.reduceLE, Int.reduceLT, Int.reduceEq, Int.reduceNeg, Int.reduceToNat, Int.reduceMul, Int.reduceAdd, Int.reduceSub, Int.reduceBEq, Int.reduceBNe, reduceCtorEq, RD, hps]
    refine hKr _ _ ?_
    clear hKr Kr
    try simp only [RN, reduceIte]
    try refine T_e rfl ?_
    refine T_cseq (t := true) (by simp (disch := omega) only [RA, ↓reduceIte, Nat.reduceEqDiff, Nat.reduceBEq, Nat.reduceSub, Nat.reduceAdd, Nat.reduceMul, Nat.reduceLT, Nat.reduceLeDiff, Int.reduceLE, Int.reduceLT, Int.reduceEq, Int.reduceNeg, Int.reduceToNat, Int.reduceMul, Int.reduceAdd, Int.reduceSub, Int.reduceBEq, Int.reduceBNe, reduceCtorEq, RD]) ?_
    try simp only [RN, reduceIte]
    try refine T_e rfl ?_
    refine T_rseq fun Kr hKr => ?_
    simp (disch := omega) only [RA, ↓reduceIte, Nat.reduceEqDiff, Nat.reduceBEq, Nat.reduceSub, Nat.reduceAdd, Nat.reduceMul, Nat.reduceLT, Nat.reduceLeDiff, Int.reduceLE, Int.reduceLT, Int.reduceEq, Int.reduceNeg, Int.reduceToNat, Int.reduceMul, Int.reduceAdd, Int.reduceSub, Int.reduceBEq, Int.reduceBNe, reduceCtorEq, RD]
    refine hKr _ _ ?_
    clear hKr Kr
    try simp only [RN, reduceIte]
    try refine T_e rfl ?_
    refine bodyQ_ret (by simp (disch := omega) only [RA, ↓reduceIte, Nat.reduceEqDiff, Nat.reduceBEq, Nat.reduceSub, Nat.reduceAdd, Nat.reduceMul, Nat.reduceLT, Nat.reduceLeDiff, Int.reduceLE, Int.reduceLT, Int.reduceEq, Int.reduceNeg, Int.reduceToNat, Int.reduceMul, Int.reduceAdd, Int.reduceSub, Int.reduceBEq, Int.reduceBNe, reduceCtorEq, RD, resAll, resOf]; rfl) GhV.refl ?_
    simp only [tup]
    exact ⟨.int, hK⟩
theorem count_eq (hp : PassP xss) : (lv (nP xss) (nP xss) []).countP (dB (at3 xss 1) (at3 xss 2) (std (at3 xss 0)) (nP xss) fun _ => true) = numP false xss ∧
    (lv (nP xss) (nP xss) []).countP (dB (at3 xss 1) (at3 xss 2) (std (at3 xss 0)) (nP xss) fun w => decide (Des (nP xss) (std (at3 xss 0)) w)) = numP true xss := by
  obtain ⟨e1, e2, e3⟩ := nP_cast hp
  constructor
  · rw [(lv_sw ⟨e2, e3⟩).countP_eq, numP]
    congr 1
    funext w
    simp [dB, prX]
  · rw [(lv_sw ⟨e2, e3⟩).countP_eq]
    rfl
theorem impl_CountConnected_spec (hl : xss.length ≤ 1048576) (hll : ∀ xs ∈ xss, xs.length ≤ 1048576) (hK : K (.tuple ⟨[I (resP true xss).1, I (resP true xss).2]⟩) H) : CallX x F_impl_CountConnected [FII xss] H K := by
  refine callP (.cons .fz .nil) ?_
  refine CallX_body Γ_impl_CountConnected ?_
  simp only [A_impl_CountConnected, T_aiff]
  refine T_rseq fun Kr hKr => ?_
  simp (disch := omega) only [RA, ↓reduceIte, Nat.reduceEqDiff, Nat.reduceBEq, Nat.reduceSub, Nat.reduceAdd, Nat.reduceMul, Nat.reduceLT, Nat.reduceLeDiff, Int.reduceLE, Int.reduceLT, Int.reduceEq, Int.reduceNeg, Int.reduceToNat, Int.reduceMul, Int.reduceAdd, Int.reduceSub, Int.reduceBEq, Int.reduceBNe, reduceCtorEq, RD]
  refine hKr _ _ ?_
  clear hKr Kr
  try simp only [RN, reduceIte]
  try refine T_e rfl ?_
  refine T_rseq fun Kr hKr => ?_
  simp (disch := omega) only [RA, ↓reduceIte, Nat.reduceEqDiff, Nat.reduceBEq, Nat.reduceSub, Nat.reduceAdd, Nat.reduceMul, Nat.reduceLT, Nat.reduceLeDiff, Int.reduceLE, Int.reduceLT, Int.reduceEq, Int.reduceNeg, Int.reduceToNat, Int.reduceMul, Int.reduceAdd, Int.reduceSub, Int.reduceBEq, Int.reduceBNe, reduceCtorEq, RD]
  refine searchCode_spec hl hll ?_
  simp (disch := omega) only [RA, ↓reduceIte, Nat.reduceEqDiff, Nat.reduceBEq, Nat.reduceSub, Nat.reduceAdd, Nat.reduceMul, Nat.reduceLT, Nat.reduceLeDiff, Int.reduceLE, Int.reduceLT, Int.reduceEq, Int.reduceNeg, Int.reduceToNat, Int.reduceMul, Int.reduceAdd, Int.reduceSub, Int.reduceBEq, Int.reduceBNe, reduceCtorEq, RD]
  refine hKr _ _ ?_
  clear hKr Kr
  try simp only [blkQ, thenQ, loopQ]
  try simp only [RN, reduceIte]
  try refine T_e rfl ?_
  by_cases hp : PassP xss
  · by_cases h8 : nP xss ≤ 8
    · rw [resP, if_pos hp, if_pos h8] at hK
      have gone : ∀ {v : Value}, getN none [v] 0 = some v := rfl
      have hs := share_le hp h8
      have hn := numP_le hp h8 true
      have hpr := prod_le hp h8 true
      obtain ⟨q1, q2⟩ := std_P hp
      have hc := (count_eq hp).2
      rw [if_pos hp, if_pos h8]
      refine T_rseq fun Kr hKr => ?_
      simp (disch := omega) only [RA, ↓reduceIte, Nat.reduceEqDiff, Nat.reduceBEq, Nat.reduceSub, Nat.reduceAdd, Nat.reduceMul, Nat.reduceLT, Nat.reduceLeDiff, Int.reduceLE, Int.reduceLT, Int.reduceEq, Int.reduceNeg, Int.reduceToNat, Int.reduceMul, Int.reduceAdd, Int.reduceSub, Int.reduceBEq, Int.reduceBNe, reduceCtorEq, RD]
      refine hKr _ _ ?_
      clear hKr Kr
      try simp only [RN, reduceIte]
      try refine T_e rfl ?_
      refine T_cseq (t := false) (by simp (disch := omega) only [RA, ↓reduceIte, Nat.reduceEqDiff, Nat.reduceBEq, Nat.reduceSub, Nat.reduceAdd, Nat.reduceMul, Nat.reduceLT, Nat.reduceLeDiff, Int.reduceLE, Int.reduceLT, Int.reduceEq, Int.reduceNeg, Int.reduceToNat, Int.reduceMul, Int.reduceAdd, Int.reduceSub, Int.reduceBEq, Int.reduceBNe, reduceCtorEq, RD]) ?_
      try simp only [RN, reduceIte]
      try refine T_e rfl ?_
      refine T_rseq fun Kr hKr => ?_
      simp (disch := omega) only [RA, ↓reduceIte, Nat.reduceEqDiff, Nat.reduceBEq, Nat.reduceSub, Nat.reduceAdd, Nat.reduceMul, Nat.reduceLT, Nat.reduceLeDiff, Int.reduceLE, Int.reduceLT, Int.reduceEq, Int.reduceNeg, Int.reduceToNat, Int.reduceMul, Int.reduceAdd, Int.reduceSub, Int.reduceBEq, Int.reduceBNe, reduceCtorEq, RD]
      refine hKr _ _ ?_
      clear hKr Kr
      try simp only [RN, reduceIte]
      try refine T_e rfl ?_
      refine T_rseq fun Kr hKr => ?_
      simp (disch := omega) only [RA, ↓reduceIte, Nat.reduceEqDiff, Nat.reduceBEq, Nat.reduceSub, Nat.reduceAdd, Nat.reduceMul, Nat.reduceLT, Nat.reduceLeDiff, Int.reduceLE, Int.reduceLT, Int.reduceEq, Int.reduceNeg, Int.reduceToNat, Int.reduceMul, Int.reduceAdd, Int.reduceSub, Int.reduceBEq, Int.reduceBNe, reduceCtorEq, RD]
      refine eachPair_spec hp h8 hll (CountConnected_1_do q2 q1) ?_
      rw [hc]
      simp (disch := omega) only [RA, ↓reduceIte, Nat.reduceEqDiff, Nat.reduceBEq, Nat.reduceSub, Nat.reduceAdd, Nat.reduceMul, Nat.reduceLT, Nat.reduceLeDiff, Int.reduceLE, Int.reduceLT, Int.reduceEq, Int.reduceNeg, Int.reduceToNat, Int.reduceMul, Int.reduceAdd, Int.reduceSub, Int.reduceBEq, Int.reduceBNe, reduceCtorEq, RD]
      refine hKr _ _ ?_
      clear hKr Kr
      try simp only [blkQ, thenQ, loopQ]
      try simp only [RN, reduceIte]
      try refine T_e rfl ?_
      refine T_rseq fun Kr hKr => ?_
      simp (disch := omega) only [RA, ↓reduceIte, Nat.reduceEqDiff, Nat.reduceBEq, Nat.reduceSub, Nat.reduceAdd, Nat.reduceMul, Nat.reduceLT, Nat.reduceLeDiff, Int.reduceLE, Int.reduceLT, Int.reduceEq, Int.reduceNeg, Int.reduceToNat, Int.reduceMul, Int.reduceAdd, Int.reduceSub, Int.reduceBEq, Int.reduceBNe, reduceCtorEq, RD, gone]
      refine hKr _ _ ?_
      clear hKr Kr
      try simp only [RN, reduceIte]
      try refine T_e rfl ?_
      refine bodyQ_ret (by simp (disch := omega) only [RA, ↓reduceIte, Nat.reduceEqDiff, Nat.reduceBEq, Nat.reduceSub, Nat.reduceAdd, Nat.reduceMul, Nat.reduceLT, Nat.reduceLeDiff, Int.reduceLE, Int.reduceLT, Int.reduceEq, Int.reduceNeg, Int.reduceToNat, Int.reduceMul, Int.reduceAdd, Int.reduceSub, Int.reduceBEq, Int.reduceBNe, reduceCtorEq, RD, resAll, resOf]; rfl) GhV.refl ?_
      simp only [tup]
      exact ⟨nn_I2, hK⟩
    · rw [resP, if_pos hp, if_neg h8] at hK
      rw [if_pos hp, if_neg h8]
      refine T_rseq fun Kr hKr => ?_
      simp (disch := omega) only [RA, ↓reduceIte, Nat.reduceEqDiff, Nat.reduceBEq, Nat.reduceSub, Nat.reduceAdd, Nat.reduceMul, Nat.reduceLT, Nat.reduceLeDiff, Int.reduceLE, Int.reduceLT, Int.reduceEq, Int.reduceNeg, Int.reduceToNat, Int.reduceMul, Int.reduceAdd, Int.reduceSub, Int.reduceBEq, Int.reduceBNe, reduceCtorEq, RD]
      refine hKr _ _ ?_
      clear hKr Kr
      try simp only [RN, reduceIte]
      try refine T_e rfl ?_
      refine T_cseq (t := true) (by simp (disch := omega) only [RA, ↓reduceIte, Nat.reduceEqDiff, Nat.reduceBEq, Nat.reduceSub, Nat.reduceAdd, Nat.reduceMul, Nat.reduceLT, Nat.reduceLeDiff, Int.reduceLE, Int.reduceLT, Int.reduceEq, Int.reduceNeg, Int.reduceToNat, Int.reduceMul, Int.reduceAdd, Int.reduceSub, Int.reduceBEq, Int.reduceBNe, reduceCtorEq, RD]) ?_
      try simp only [RN, reduceIte]
      try refine T_e rfl ?_
      refine T_rseq fun Kr hKr => ?_
      simp (disch := omega) only [RA, ↓reduceIte, Nat.reduceEqDiff, Nat.reduceBEq, Nat.reduceSub, Nat.reduceAdd, Nat.reduceMul, Nat.reduceLT, Nat.reduceLeDiff, Int.reduceLE, Int.reduceLT, Int.reduceEq, Int.reduceNeg, Int.reduceToNat, Int.reduceMul, Int.reduceAdd, Int.reduceSub, Int.reduceBEq, Int.reduceBNe, reduceCtorEq, RD]
      refine hKr _ _ ?_
      clear hKr Kr
      try simp only [RN, reduceIte]
      try refine T_e rfl ?_
      refine bodyQ_ret (by simp (disch := omega) only [RA, ↓reduceIte, Nat.reduceEqDiff, Nat.reduceBEq, Nat.reduceSub, Nat.reduceAdd, Nat.reduceMul, Nat.reduceLT, Nat.reduceLeDiff, Int.reduceLE, Int.reduceLT, Int.reduceEq, Int.reduceNeg, Int.reduceToNat, Int.reduceMul, Int.reduceAdd, Int.reduceSub, Int.reduceBEq, Int.reduceBNe, reduceCtorEq, RD, resAll, resOf]; rfl) GhV.refl ?_
      simp only [tup]
      exact ⟨nn_I2, hK⟩
  · rw [resP, if_neg hp] at hK
    rw [if_neg hp]
    refine T_rseq fun Kr hKr => ?_
    simp (disch := omega) only [RA, ↓reduceIte, Nat.reduceEqDiff, Nat.reduceBEq, Nat.reduceSub, Nat.reduceAdd, Nat.reduceMul, Nat.reduceLT, Nat.reduceLeDiff, Int.reduceLE, Int.reduceLT, Int.reduceEq, Int.reduceNeg, Int.reduceToNat, Int.reduceMul, Int.reduceAdd, Int.reduceSub, Int.reduceBEq, Int.reduceBNe, reduceCtorEq, RD]
    refine hKr _ _ ?_
    clear hKr Kr
    try simp only [RN, reduceIte]
    try refine T_e rfl ?_
    refine T_cseq (t := true) (by simp (disch := omega) only [RA, ↓reduceIte, Nat.reduceEqDiff, Nat.reduceBEq, Nat.reduceSub, Nat.reduceAdd, Nat.reduceMul, Nat.reduceLT, Nat.reduceLeDiff, Int.reduceLE, Int.reduceLT, Int.reduceEq, Int.reduceNeg, Int.reduceToNat, Int.reduceMul, Int.reduceAdd, Int.reduceSub, Int.reduceBEq, Int.reduceBNe, reduceCtorEq, RD]) ?_
    try simp only [RN, reduceIte]
    try refine T_e rfl ?_
    refine T_rseq fun Kr hKr => ?_
    simp (disch := omega) only [RA, ↓reduceIte, Nat.reduceEqDiff, Nat.reduceBEq, Nat.reduceSub, Nat.reduceAdd, Nat.reduceMul, Nat.reduceLT, Nat.reduceLeDiff, Int.reduceLE, Int.reduceLT, Int.reduceEq, Int.reduceNeg, Int.reduceToNat, Int.reduceMul, Int.reduceAdd, Int.reduceSub, Int.reduceBEq, Int.reduceBNe, reduceCtorEq, RD]
    refine hKr _ _ ?_
    clear hKr Kr
    try simp only [RN, reduceIte]
    try refine T_e rfl ?_
    refine bodyQ_ret (by simp (disch := omega) only [RA, ↓reduceIte, Nat.reduceEqDiff, Nat.reduceBEq, Nat.reduceSub, Nat.reduceAdd, Nat.reduceMul, Nat.reduceLT, Nat.reduceLeDiff, Int.reduceLE, Int.reduceLT, Int.reduceEq, Int.reduceNeg, Int.reduceToNat, Int.reduceMul, Int.reduceAdd, Int.reduceSub, Int.reduceBEq, Int.reduceBNe, reduceCtorEq, RD, resAll, resOf]; rfl) GhV.refl ?_
    simp only [tup]
    exact ⟨nn_I2, hK⟩
end
end Go.Bm

