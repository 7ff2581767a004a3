/- Lists of pairs of lists as cells. -/
import Derived.Test.YtdadgoboeonoaaaDp5
set_option linter.unusedVariables false
set_option linter.unusedSimpArgs false
namespace Go.Bm
open Go Go.Am

def prt (e : Nat) : Nat → List (List Value) → List (Nat × Nat × Value)
  | _, [] => []
  | o, x :: xs => (o, e, aggL x) :: prt e (o + e) xs
theorem fillG {e : Nat} : ∀ (X : List (List Value)) (pre post : List Value), (∀ x ∈ X, x.length = e) → post.length = X.length * e → fillL (pre ++ post) (prt e pre.length X) = some (pre ++ X.flatten)
  | [], pre, post, _, hp => by
    have : post = [] := List.eq_nil_of_length_eq_zero (by simpa using hp)
    simp [prt, fillL, this]
  | x :: X, pre, post, hx, hp => by
    have h1 := hx x (by simp)
    simp only [List.length_cons, Nat.add_mul, Nat.one_mul] at hp
    simp only [prt]
    rw [fill_c ⟨by simpa [cellsL] using h1, by simp; omega⟩]
    have e1 : splice (pre ++ post) pre.length (cellsL (aggL x)) = (pre ++ x) ++ post.drop e := by
      simp only [splice, cellsL]
      rw [List.take_append_of_le_length (Nat.le_refl _), List.take_of_length_le (Nat.le_refl _)]
      rw [List.drop_append, List.drop_eq_nil_of_le (by omega), List.nil_append, h1]
      simp
    rw [e1]
    have := fillG X (pre ++ x) (post.drop e) (fun y hy => hx y (by simp [hy])) (by simp; omega)
    rw [List.length_append, h1] at this
    rw [this]
    simp
theorem getG {e : Nat} : ∀ (X : List (List Value)) (k : Nat) (x : List Value), (∀ x ∈ X, x.length = e) → X[k]? = some x → getN (some e) X.flatten (k * e) = some (aggL x)
  | [], k, x, _, hk => by simp at hk
  | y :: X, 0, x, hX, hk => by
    simp only [List.getElem?_cons_zero, Option.some.injEq] at hk
    subst hk
    have h1 := hX y (by simp)
    rw [Nat.zero_mul, getN_agg (by simp; omega)]
    simp [List.take_append_of_le_length, h1]
  | y :: X, k + 1, x, hX, hk => by
    have h1 := hX y (by simp)
    have ih := getG X k x (fun z hz => hX z (by simp [hz])) (by simpa using hk)
    have hlen : (y :: X).flatten.length = e + X.flatten.length := by simp [h1]
    simp only [getN] at ih ⊢
    split at ih
    · rename_i hle
      rw [if_pos (by rw [hlen, Nat.add_mul, Nat.one_mul]; omega)]
      rw [← ih]
      congr 3
      simp only [List.flatten_cons]
      rw [List.drop_append, List.drop_eq_nil_of_le (by rw [h1, Nat.add_mul]; omega), List.nil_append, h1, Nat.add_mul, Nat.one_mul]
      congr 1
      omega
    · cases ih
/-- Two lists beside each other. -/
abbrev PC (a b : List Nat) : List Value := a.map N8 ++ b.map N8
theorem PC_len {m : Nat} {a b : List Nat} (ha : a.length = m) (hb : b.length = m) : (PC a b).length = m + m := by simp [ha, hb]
theorem getN_P1 {m : Nat} {a b : List Nat} (ha : a.length = m) : getN (some m) (PC a b) 0 = some (PL a) := by
  have := getN_mid (g := N8) (x := a) (pre := []) (post := b.map N8)
  rw [ha] at this
  exact this
theorem getN_P2 {m : Nat} {a b : List Nat} (ha : a.length = m) (hb : b.length = m) : getN (some m) (PC a b) m = some (PL b) := by
  have := getN_mid (g := N8) (x := b) (pre := a.map N8) (post := [])
  rw [hb] at this
  simpa [ha] using this
theorem ones_P {a b : List Nat} : (PC a b).all one2 = true := by rw [List.all_append, ones_N, ones_N]; rfl
theorem st_P {m : Nat} {H : BH} {i : Nat} {v : Value} {a b : List Nat} (ha : a.length = m) (hb : b.length = m) : stO (some (List.replicate (m + m) v)) H i 0 (m + m) (aggL (PC a b)) = some (undef, H.set i (some (PC a b))) := by
  rw [stO_agg (PC_len ha hb) ones_P (by simp), splice_full (by rw [PC_len ha hb]; simp)]
theorem fill_P {m : Nat} {v : Value} {a b : List Nat} (ha : a.length = m) (hb : b.length = m) : fillL (List.replicate (m + m) v) [(0, m, PL a), (m, m, PL b)] = some (PC a b) := by
  have := fillG (e := m) [a.map N8, b.map N8] [] (List.replicate (m + m) v) (by simp [ha, hb]) (by simp; omega)
  simpa [prt] using this
theorem fill_3 {m : Nat} {v : Value} {a b c : List Nat} (ha : a.length = m) (hb : b.length = m) (hc : c.length = m) : fillL (List.replicate (m + m + m) v) [(0, m, PL a), (m, m, PL b), (m + m, m, PL c)] = some ([a.map N8, b.map N8, c.map N8].flatten) := by
  have := fillG (e := m) [a.map N8, b.map N8, c.map N8] [] (List.replicate (m + m + m) v) (by simp [ha, hb, hc]) (by simp; omega)
  simpa [prt] using this
theorem repl_rep {m n : Nat} {v : Value} : repl (List.replicate m v) n = List.replicate (n * m) v := by simp [repl]
/-- Six pairs of lists. -/
def sixX (a0 b0 a1 b1 a2 b2 a3 b3 a4 b4 a5 b5 : List Nat) : List (List Value) := [PC a0 b0, PC a1 b1, PC a2 b2, PC a3 b3, PC a4 b4, PC a5 b5]
section
variable {m : Nat} {a b c : List Nat}
/-- The six pairs of three lists. -/
def ex1 (a b c : List Nat) (k : Nat) : List Nat := match k with | 0 => a | 1 => b | 2 => b | 3 => c | 4 => a | _ => c
def ex2 (a b c : List Nat) (k : Nat) : List Nat := match k with | 0 => b | 1 => a | 2 => c | 3 => a | 4 => c | _ => b
def sixE (a b c : List Nat) : List (List Value) := sixX a b b a b c c a a c c b
theorem six_len (ha : a.length = m) (hb : b.length = m) (hc : c.length = m) : ∀ x ∈ sixE a b c, x.length = m + m := by simp [sixE, sixX, ha, hb, hc]
theorem six_get {k : Nat} (h : k < 6) : (sixE a b c)[k]? = some (PC (ex1 a b c k) (ex2 a b c k)) := by
  match k, h with
  | 0, _ => rfl
  | 1, _ => rfl
  | 2, _ => rfl
  | 3, _ => rfl
  | 4, _ => rfl
  | 5, _ => rfl
theorem ex1_len (ha : a.length = m) (hb : b.length = m) (hc : c.length = m) {k : Nat} : (ex1 a b c k).length = m := by unfold ex1; split <;> assumption
theorem ex2_len (ha : a.length = m) (hb : b.length = m) (hc : c.length = m) {k : Nat} : (ex2 a b c k).length = m := by unfold ex2; split <;> assumption
theorem ex1_by (ha : By m a) (hb : By m b) (hc : By m c) {k : Nat} : By m (ex1 a b c k) := by unfold ex1; split <;> assumption
theorem ex2_by (ha : By m a) (hb : By m b) (hc : By m c) {k : Nat} : By m (ex2 a b c k) := by unfold ex2; split <;> assumption
def sel (a b c : List Nat) (i : Nat) : List Nat := match i with | 0 => a | 1 => b | _ => c
theorem sel_get (ha : a.length = m) (hb : b.length = m) (hc : c.length = m) {i : Nat} (h : i < 3) : getN (some m) [a.map N8, b.map N8, c.map N8].flatten (i * m) = some (PL (sel a b c i)) :=
  getG _ _ _ (by simp [ha, hb, hc]) (by
    match i, h with
    | 0, _ => rfl
    | 1, _ => rfl
    | 2, _ => rfl)
end
end Go.Bm
