/- Dessins in memory; the laws' helpers for them. -/
import Derived.Test.YtbbgifoamnjhoaaDp3
set_option linter.unusedVariables false
set_option linter.unusedSimpArgs false
namespace Go.Bm
open Go Go.Am

def z16 : List Nat := List.replicate 16 0
theorem z16_by : By 16 z16 := By.rep
theorem z16_len : z16.length = 16 := by simp [z16]
theorem dz : (Value.int .i64 0 :: List.replicate 32 (Value.int .u8 0)) = DC 0 z16 z16 := by rfl
theorem plain_D {n : Int} {b w : List Nat} : (DC n b w).all Am.plain = true := by
  simp only [DC, List.all_cons, List.all_append, Bool.and_eq_true]
  exact ⟨rfl, all_map fun _ => rfl, all_map fun _ => rfl⟩
theorem plain_N {b : List Nat} : (b.map N8).all Am.plain = true := all_map fun _ => rfl
theorem ones_D {n : Int} {b w : List Nat} : (DC n b w).all one2 = true := by
  simp only [DC, List.all_cons, List.all_append, Bool.and_eq_true]
  exact ⟨rfl, ones_N, ones_N⟩
theorem len_D {n : Int} {b w : List Nat} (hb : b.length = 16) (hw : w.length = 16) : (DC n b w).length = 33 := by simp [hb, hw]
theorem NN_D {n : Int} {b w : List Nat} : NNL (DC n b w) := .cons .int (.append (.map fun _ => .int) (.map fun _ => .int))
section
variable {H : BH} {i : Nat} {n m : Int} {b w b' w' p : List Nat}
theorem st_D (hb : b.length = 16) (hw : w.length = 16) (hb' : b'.length = 16) (hw' : w'.length = 16) : stO (some (DC n b w)) H i 0 33 (aggL (DC m b' w')) = some (undef, H.set i (some (DC m b' w'))) := by
  rw [stO_agg (len_D hb' hw') ones_D (by rw [len_D hb hw]; omega), splice_full (by rw [len_D hb hw, len_D hb' hw'])]
theorem st_D0 : stO (some (DC n b w)) H i 0 1 (.int .i64 m) = some (undef, H.set i (some (DC m b w))) := by
  rw [stO_int (by simp), splice_0]
theorem splice_mid {α : Type} {g : α → Value} {x y : List α} {pre post : List Value} (h : x.length = y.length) : splice (pre ++ (x.map g ++ post)) pre.length (y.map g) = pre ++ (y.map g ++ post) := by
  simp only [splice]
  rw [List.take_append_of_le_length (by omega), List.take_of_length_le (by omega)]
  rw [List.drop_append, List.drop_eq_nil_of_le (by omega), List.nil_append]
  rw [show pre.length + (List.map g y).length - pre.length = (List.map g x).length by simp [h]]
  rw [List.drop_append, List.drop_eq_nil_of_le (by omega)]
  simp
theorem splice_mid1 {α : Type} {g : α → Value} {x : List α} {y : α} {k : Nat} {pre post : List Value} (h : k < x.length) : splice (pre ++ (x.map g ++ post)) (pre.length + k) [g y] = pre ++ ((x.set k y).map g ++ post) := by
  simp only [splice, List.length_singleton]
  rw [List.take_append, List.take_of_length_le (l := pre) (by omega), show pre.length + k - pre.length = k by omega, List.take_append_of_le_length (by simp; omega)]
  rw [List.drop_append, List.drop_eq_nil_of_le (as := pre) (by omega), show pre.length + k + 1 - pre.length = k + 1 by omega, List.drop_append_of_le_length (by simp; omega)]
  rw [List.set_eq_take_append_cons_drop]
  simp [h, List.map_take, List.map_drop]
theorem getN_mid {α : Type} {g : α → Value} {x : List α} {pre post : List Value} : getN (some x.length) (pre ++ (x.map g ++ post)) pre.length = some (aggL (x.map g)) := by
  rw [getN_agg (by simp), List.drop_append, List.drop_eq_nil_of_le (as := pre) (by omega)]
  simp
theorem getN_mid1 {α : Type} {g : α → Value} {x : List α} {k : Nat} {d : α} {pre post : List Value} (h : k < x.length) : getN none (pre ++ (x.map g ++ post)) (pre.length + k) = some (g (x.getD k d)) := by
  simp only [getN]
  rw [List.getElem?_append_right (by omega), show pre.length + k - pre.length = k by omega, List.getElem?_append_left (by simpa using h)]
  simp [List.getD, h]
theorem st_D1 (hb : b.length = 16) (hp : p.length = 16) : stO (some (DC n b w)) H i 1 16 (aggL (p.map N8)) = some (undef, H.set i (some (DC n p w))) := by
  rw [stO_agg (by simpa using hp) ones_N (by simp [hb])]
  have := splice_mid (g := N8) (x := b) (y := p) (pre := [I n]) (post := w.map N8) (by omega)
  simp only [List.length_cons, List.length_nil, List.length_map, List.cons_append, List.nil_append, List.append_nil, Nat.zero_add] at this
  rw [show splice (DC n b w) 1 (p.map N8) = DC n p w from this]
theorem st_D2 (hb : b.length = 16) (hw : w.length = 16) (hp : p.length = 16) : stO (some (DC n b w)) H i 17 16 (aggL (p.map N8)) = some (undef, H.set i (some (DC n b p))) := by
  rw [stO_agg (by simpa using hp) ones_N (by simp [hb, hw])]
  have := splice_mid (g := N8) (x := w) (y := p) (pre := I n :: b.map N8) (post := []) (by omega)
  simp only [List.length_cons, List.length_nil, List.length_map, List.cons_append, List.nil_append, List.append_nil, Nat.zero_add, hb] at this
  rw [show splice (DC n b w) 17 (p.map N8) = DC n b p from this]
theorem st_Db {k x : Nat} (h : k < b.length) : stO (some (DC n b w)) H i (1 + k) 1 (.int .u8 (x : Int)) = some (undef, H.set i (some (DC n (b.set k x) w))) := by
  rw [stO_int (by simp; omega)]
  have := splice_mid1 (g := N8) (x := b) (y := x) (k := k) (pre := [I n]) (post := w.map N8) h
  simp only [List.length_cons, List.length_nil, List.length_map, List.cons_append, List.nil_append, List.append_nil, Nat.zero_add] at this
  rw [show splice (DC n b w) (1 + k) [N8 x] = DC n (b.set k x) w from this]
theorem st_Dw {k x : Nat} (hb : b.length = 16) (h : k < w.length) : stO (some (DC n b w)) H i (17 + k) 1 (.int .u8 (x : Int)) = some (undef, H.set i (some (DC n b (w.set k x)))) := by
  rw [stO_int (by simp; omega)]
  have := splice_mid1 (g := N8) (x := w) (y := x) (k := k) (pre := I n :: b.map N8) (post := []) h
  simp only [List.length_cons, List.length_nil, List.length_map, List.cons_append, List.nil_append, List.append_nil, Nat.zero_add, hb] at this
  rw [show splice (DC n b w) (17 + k) [N8 x] = DC n b (w.set k x) from this]
theorem getN_b1 {k : Nat} (h : k < b.length) : getN none (DC n b w) (1 + k) = some (N8 (nl b k)) := by
  have := getN_mid1 (g := N8) (x := b) (k := k) (d := 0) (pre := [I n]) (post := w.map N8) h
  simp only [List.length_cons, List.length_nil, List.length_map, List.cons_append, List.nil_append, List.append_nil, Nat.zero_add] at this
  exact this
theorem getN_w1 {k : Nat} (hb : b.length = 16) (h : k < w.length) : getN none (DC n b w) (17 + k) = some (N8 (nl w k)) := by
  have := getN_mid1 (g := N8) (x := w) (k := k) (d := 0) (pre := I n :: b.map N8) (post := []) h
  simp only [List.length_cons, List.length_nil, List.length_map, List.cons_append, List.nil_append, List.append_nil, Nat.zero_add, hb] at this
  exact this
theorem fill_D0 : fillL (DC n b w) [(0, 1, .int .i64 m)] = some (DC m b w) := by
  simp [fillL, cellsL, splice]
theorem fill_D {b' w' : List Nat} (hb : b.length = 16) (hw : w.length = 16) (hb' : b'.length = 16) (hw' : w'.length = 16) : fillL (DC n b w) [(0, 1, .int .i64 m), (1, 16, PL b'), (17, 16, PL w')] = some (DC m b' w') := by
  simp only [fillL, cellsL_i, cellsL_a, List.length_singleton, List.length_map]
  rw [if_pos ⟨trivial, by simp⟩, splice_0, if_pos ⟨hb', by simp [hb]⟩]
  have h1 := splice_mid (g := N8) (x := b) (y := b') (pre := [I m]) (post := w.map N8) (by omega)
  simp only [List.length_singleton, List.cons_append, List.nil_append] at h1
  rw [h1, if_pos ⟨hw', by simp [hb', hw]⟩]
  have h2 := splice_mid (g := N8) (x := w) (y := w') (pre := I m :: b'.map N8) (post := []) (by omega)
  simp only [List.length_cons, List.length_map, hb', List.append_nil, List.cons_append] at h2
  rw [h2]
theorem fill_Dw (hb : b.length = 16) (hw : w.length = 16) (hw' : w'.length = 16) : fillL (DC n b w) [(0, 1, .int .i64 m), (17, 16, PL w')] = some (DC m b w') := by
  simp only [fillL, cellsL_i, cellsL_a, List.length_singleton, List.length_map]
  rw [if_pos ⟨trivial, by simp⟩, splice_0, if_pos ⟨hw', by simp [hb, hw]⟩]
  have h2 := splice_mid (g := N8) (x := w) (y := w') (pre := I m :: b.map N8) (post := []) (by omega)
  simp only [List.length_cons, List.length_map, hb, List.append_nil, List.cons_append] at h2
  rw [h2]
theorem getN_dv (hb : b.length = 16) (hw : w.length = 16) : getN (some 33) (DC n b w) 0 = some (aggL (DC n b w)) := getN_DV hb hw
theorem box_D : boxW (aggL (DC n b w)) H = some (P H.length 0, H ++ [some (DC n b w)]) := rfl
theorem nn_D : NN (aggL (DC n b w)) := NN.agg NN_D
end
theorem plain_NN {b w : List Nat} : (b.map N8 ++ w.map N8).all Am.plain = true := by rw [List.all_append, plain_N, plain_N]; rfl
theorem RDS : (type_of% @dz) ∧ (type_of% @plain_NN) ∧ (type_of% @plain_N) ∧ (type_of% @z16_len) ∧ (type_of% @st_D0) ∧ (type_of% @getN_D) ∧ (type_of% @fill_D0) := ⟨@dz, @plain_NN, @plain_N, @z16_len, @st_D0, @getN_D, @fill_D0⟩
theorem RDD : (type_of% @st_D) ∧ (type_of% @st_D1) ∧ (type_of% @st_D2) ∧ (type_of% @st_Db) ∧ (type_of% @st_Dw) ∧ (type_of% @getN_bk) ∧ (type_of% @getN_wh) ∧ (type_of% @getN_b1) ∧ (type_of% @getN_w1) ∧ (type_of% @fill_D) ∧ (type_of% @fill_Dw) ∧ (type_of% @getN_dv) := ⟨@st_D, @st_D1, @st_D2, @st_Db, @st_Dw, @getN_bk, @getN_wh, @getN_b1, @getN_w1, @fill_D, @fill_Dw, @getN_dv⟩

def mirr (b : List Nat) (n : Nat) : List Nat := backK b n
theorem Des.n0 {n : Int} {b w : List Nat} (h : Des n b w) : ∃ m : Nat, n = m ∧ 1 ≤ m ∧ m ≤ 16 := by
  have := h.1.1
  exact ⟨n.toNat, by omega, by omega, by omega⟩
theorem l07Mirror_spec {x : Bool} {n : Nat} {b w : List Nat} {H : BH} {K : Value → BH → Prop} (hb : By 16 b) (hw : By 16 w) (hd : Des n b w) (hK : K (DV n (mirr b n) (mirr w n)) H) : CallX x F_spec_l07Mirror [DV n b w] H K := by
  have hlb := hb.len
  have hlw := hw.len
  obtain ⟨_, rfl', h1, h2⟩ := hd.n0
  obtain rfl : n = _ := by exact_mod_cast rfl'
  have h3 := @backK_len b n
  have h4 := @backK_len w n
  have hz := z16_len
  refine callP (by exact .cons nn_D .nil) ?_
  refine CallX_body Γ_spec_l07Mirror ?_
  simp only [A_spec_l07Mirror, T_aiff]
  refine T_rseq fun Kr hKr => ?_
  simp (disch := omega) only [RA, ↓reduceIte, Nat.reduceEqDiff, RD, RDS]
  refine hKr _ _ ?_
  clear hKr Kr
  try simp only [RN, reduceIte]
  try refine T_e rfl ?_
  refine T_rseq fun Kr hKr => ?_
  simp (disch := omega) only [RA, ↓reduceIte, Nat.reduceEqDiff, RD, RDS, RDD]
  refine l01Back_spec hb (by omega) (hd.1.lt16 hlb) ?_
  simp (disch := omega) only [RA, ↓reduceIte, Nat.reduceEqDiff, RD, RDS, RDD]
  refine l01Back_spec hw (by omega) (hd.2.1.lt16 hlw) ?_
  simp (disch := omega) only [RA, ↓reduceIte, Nat.reduceEqDiff, RD, RDS, RDD]
  refine hKr _ _ ?_
  clear hKr Kr
  try simp only [blkQ, thenQ, loopQ]
  try simp only [RN, reduceIte]
  try refine T_e rfl ?_
  refine bodyQ_ret (by simp (disch := omega) only [RA, ↓reduceIte, Nat.reduceEqDiff, RD, resAll, resOf, RDS, RDD]; rfl) GhV.refl ?_
  simp only [tup]
  exact ⟨nn_D, hK⟩
theorem mirror_spec {x : Bool} {n : Nat} {b w : List Nat} {H : BH} {K : Value → BH → Prop} (hb : By 16 b) (hw : By 16 w) (hd : Des n b w) (hK : K (DV n (mirr b n) (mirr w n)) H) : CallX x F_impl_mirror [DV n b w] H K := by
  have hlb := hb.len
  have hlw := hw.len
  obtain ⟨_, rfl', h1, h2⟩ := hd.n0
  obtain rfl : n = _ := by exact_mod_cast rfl'
  have h3 := @backK_len b n
  have h4 := @backK_len w n
  have hz := z16_len
  refine callP (by exact .cons nn_D .nil) ?_
  refine CallX_body Γ_impl_mirror ?_
  simp only [A_impl_mirror, T_aiff]
  refine T_rseq fun Kr hKr => ?_
  simp (disch := omega) only [RA, ↓reduceIte, Nat.reduceEqDiff, RD, RDS]
  refine hKr _ _ ?_
  clear hKr Kr
  try simp only [RN, reduceIte]
  try refine T_e rfl ?_
  refine T_rseq fun Kr hKr => ?_
  simp (disch := omega) only [RA, ↓reduceIte, Nat.reduceEqDiff, RD, RDS, RDD]
  refine back_spec hb (by omega) (hd.1.lt16 hlb) ?_
  simp (disch := omega) only [RA, ↓reduceIte, Nat.reduceEqDiff, RD, RDS, RDD]
  refine back_spec hw (by omega) (hd.2.1.lt16 hlw) ?_
  simp (disch := omega) only [RA, ↓reduceIte, Nat.reduceEqDiff, RD, RDS, RDD]
  refine hKr _ _ ?_
  clear hKr Kr
  try simp only [blkQ, thenQ, loopQ]
  try simp only [RN, reduceIte]
  try refine T_e rfl ?_
  refine bodyQ_ret (by simp (disch := omega) only [RA, ↓reduceIte, Nat.reduceEqDiff, RD, resAll, resOf, RDS, RDD]; rfl) GhV.refl ?_
  simp only [tup]
  exact ⟨nn_D, hK⟩
end Go.Bm
