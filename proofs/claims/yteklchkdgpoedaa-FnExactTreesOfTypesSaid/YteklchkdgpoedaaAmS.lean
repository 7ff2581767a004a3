/- Slices of whole numbers in the small machine's memory, and more rules. -/
import Derived.Test.YteklchkdgpoedaaAmT
set_option linter.unusedVariables false
set_option linter.unusedSimpArgs false
namespace Go.Am
open Go

theorem frame0_nil (t : Nat) : frame0 [] t = undef := by simp [frame0]
theorem frame0_0 (a : Value) (as : List Value) : frame0 (a :: as) 0 = a := rfl
theorem frame0_1 (a b : Value) (as : List Value) : frame0 (a :: b :: as) 1 = b := rfl
theorem frame0_2 (a b c : Value) (as : List Value) : frame0 (a :: b :: c :: as) 2 = c := rfl
theorem frame0_3 (a b c d : Value) (as : List Value) : frame0 (a :: b :: c :: d :: as) 3 = d := rfl
theorem w64 {n : Int} (h0 : -9223372036854775808 ≤ n) (h1 : n < 9223372036854775808) : IntKind.i64.wrap n = n := by
  have hb : (2 : Int) ^ (64 : Nat) = 18446744073709551616 := by decide
  have hb' : (2 : Int) ^ (63 : Nat) = 9223372036854775808 := by decide
  simp only [IntKind.wrap, IntKind.bits, IntKind.signed, hb, hb']
  simp only [Bool.true_and, decide_eq_true_eq]
  omega
theorem T_aiff {a b c : ACode} {Q : Ex → Fr → AHeap → Prop} {f : Fr} {H : AHeap} : T (.seq (.seq a b) c) Q f H = T (.seq a (.seq b c)) Q f H := by
  refine propext ⟨fun h => ?_, T_assoc⟩
  obtain ⟨ex, f', H', h1, h2⟩ := h
  cases h1 with
  | seqN hab hc =>
    cases hab with
    | seqN ha hb => exact ⟨_, _, _, .seqN ha (.seqN hb hc), h2⟩
    | seqX ha hne => exact absurd rfl hne
  | seqX hab hne =>
    cases hab with
    | seqN ha hb => exact ⟨_, _, _, .seqN ha (.seqX hb hne), h2⟩
    | seqX ha hne => exact ⟨_, _, _, .seqX ha hne, h2⟩
theorem T_skiff {b : ACode} {Q : Ex → Fr → AHeap → Prop} {f : Fr} {H : AHeap} : T (.seq .skip b) Q f H = T b Q f H := by
  refine propext ⟨fun h => ?_, T_skseq⟩
  obtain ⟨ex, f', H', h1, h2⟩ := h
  cases h1 with
  | seqN ha hb => cases ha; exact ⟨_, _, _, hb, h2⟩
  | seqX ha hne => cases ha; exact absurd rfl hne
theorem T_retiff {b : ACode} {Q : Ex → Fr → AHeap → Prop} {f : Fr} {H : AHeap} : T (.seq .ret b) Q f H = T .ret Q f H := by
  refine propext ⟨fun h => ?_, fun h => ?_⟩
  · obtain ⟨ex, f', H', h1, h2⟩ := h
    cases h1 with
    | seqN ha hb => cases ha
    | seqX ha hne => exact ⟨_, _, _, ha, h2⟩
  · obtain ⟨ex, f', H', h1, h2⟩ := h
    cases h1
    exact ⟨_, _, _, .seqX .ret (by simp), h2⟩
theorem T_exiff {i : Nat} {b : ACode} {Q : Ex → Fr → AHeap → Prop} {f : Fr} {H : AHeap} : T (.seq (.exit i) b) Q f H = Q (.exit i) f H := by
  refine propext ⟨fun h => ?_, fun h => ⟨_, _, _, .seqX .exit (by simp), h⟩⟩
  obtain ⟨ex, f', H', h1, h2⟩ := h
  cases h1 with
  | seqN ha hb => cases ha
  | seqX ha hne => cases ha; exact h2
theorem T_retiff' {Q : Ex → Fr → AHeap → Prop} {f : Fr} {H : AHeap} : T .ret Q f H = Q .ret f H := by
  refine propext ⟨fun h => ?_, fun h => ⟨_, _, _, .ret, h⟩⟩
  obtain ⟨ex, f', H', h1, h2⟩ := h
  cases h1; exact h2
theorem T_exiff' {i : Nat} {Q : Ex → Fr → AHeap → Prop} {f : Fr} {H : AHeap} : T (.exit i) Q f H = Q (.exit i) f H := by
  refine propext ⟨fun h => ?_, fun h => ⟨_, _, _, .exit, h⟩⟩
  obtain ⟨ex, f', H', h1, h2⟩ := h
  cases h1; exact h2
theorem T_skiff' {Q : Ex → Fr → AHeap → Prop} {f : Fr} {H : AHeap} : T .skip Q f H = Q .normal f H := by
  refine propext ⟨fun h => ?_, fun h => ⟨_, _, _, .skip, h⟩⟩
  obtain ⟨ex, f', H', h1, h2⟩ := h
  cases h1; exact h2
/-- A loop with what comes behind it; what follows the body is named. -/
theorem T_wloop {id : Nat} {a rest : ACode} {Q : Ex → Fr → AHeap → Prop} {f : Fr} {H : AHeap} (J : Nat → Fr → AHeap → Prop) (n : Nat) (h0 : J n f H)
    (hr : ∀ n f H (R : Ex → Fr → AHeap → Prop), J n f H → (∀ m f' H', m < n → J m f' H' → R .normal f' H') → (∀ f' H', T rest Q f' H' → R (.exit id) f' H') → (∀ f' H', Q .ret f' H' → R .ret f' H') → T a R f H) :
    T (.seq (.block id (.loop a)) rest) Q f H := by
  refine T_seq (T_block (T_loop J n h0 fun n f H hJ => hr n f H _ hJ (fun m f' H' hm h => ⟨m, hm, h⟩) (fun f' H' h => ?_) (fun f' H' h => h)))
  simp only [loopQ, blkQ, if_true]
  exact h
def noExit (id : Nat) : ACode → Bool
  | .exit i => !(i == id)
  | .seq a b => noExit id a && noExit id b
  | .cond _ a b => noExit id a && noExit id b
  | .block i a => i == id || noExit id a
  | .loop a => noExit id a
  | _ => true
theorem noExit_big {id : Nat} : ∀ (a : ACode) {f : Fr} {H : AHeap} {ex : Ex} {f' : Fr} {H' : AHeap}, Big Γ X a f H ex f' H' → noExit id a = true → ex ≠ .exit id
  | .skip, _, _, _, _, _, h, _ => by cases h; simp
  | .region _ _, _, _, _, _, _, h, _ => by cases h; simp
  | .ret, _, _, _, _, _, h, _ => by cases h; simp
  | .exit i, _, _, _, _, _, h, hn => by
    cases h
    simp only [noExit, Bool.not_eq_true', beq_eq_false_iff_ne] at hn
    intro he
    cases he
    exact hn rfl
  | .seq a b, _, _, _, _, _, h, hn => by
    simp only [noExit, Bool.and_eq_true] at hn
    cases h with
    | seqN _ hb => exact noExit_big b hb hn.2
    | seqX ha _ => exact noExit_big a ha hn.1
  | .cond c a b, _, _, _, _, _, h, hn => by
    simp only [noExit, Bool.and_eq_true] at hn
    cases h with
    | @cond _ _ _ _ _ t _ _ _ hc hb =>
      cases t with
      | true => exact noExit_big a hb hn.1
      | false => exact noExit_big b hb hn.2
  | .block i a, _, _, _, _, _, h, hn => by
    simp only [noExit, Bool.or_eq_true, beq_iff_eq] at hn
    cases h with
    | block hb hne =>
      rcases hn with rfl | hn
      · exact hne
      · exact noExit_big a hb hn
    | blockX _ => simp
  | .loop a, f, H, ex, f', H', h, hn => by
    simp only [noExit] at hn
    have ih := fun {f H ex f' H'} (hb : Big Γ X a f H ex f' H') => noExit_big (id := id) a hb hn
    generalize hl : ACode.loop a = l at h
    clear hn
    revert ih hl
    refine Big.rec (motive_1 := fun l f H ex f' H' _ => (∀ {f H ex f' H'}, Big Γ X a f H ex f' H' → ex ≠ .exit id) → ACode.loop a = l → ex ≠ .exit id) (motive_2 := fun _ _ _ _ _ _ _ => True) (motive_3 := fun _ _ _ _ _ _ => True) (motive_4 := fun _ _ _ _ _ _ => True)
      ?_ ?_ ?_ ?_ ?_ ?_ ?_ ?_ ?_ ?_ ?_ ?_ ?_ ?_ ?_ ?_ ?_ ?_ ?_ ?_ h
    case refine_8 => intro a' _ _ _ _ _ _ _ _ _ _ h2 ih hl; exact h2 ih hl
    case refine_9 => intro a' _ _ _ _ _ h1 _ _ ih hl; cases hl; exact ih h1
    all_goals intros; first | trivial | contradiction
/-- A block that is not left early is no block. -/
theorem T_bfree {id : Nat} {a b : ACode} {Q : Ex → Fr → AHeap → Prop} {f : Fr} {H : AHeap} (hn : noExit id a = true) (h : T (.seq a b) Q f H) : T (.seq (.block id a) b) Q f H := by
  obtain ⟨ex, f', H', h1, h2⟩ := h
  cases h1 with
  | seqN ha hb => exact ⟨_, _, _, .seqN (.block ha (by simp)) hb, h2⟩
  | seqX ha hne => exact ⟨_, _, _, .seqX (.block ha (noExit_big a ha hn)) hne, h2⟩
theorem T_bfree' {id : Nat} {a : ACode} {Q : Ex → Fr → AHeap → Prop} {f : Fr} {H : AHeap} (hn : noExit id a = true) (h : T a Q f H) : T (.block id a) Q f H := by
  obtain ⟨ex, f', H', h1, h2⟩ := h
  exact ⟨_, _, _, .block h1 (noExit_big a h1 hn), h2⟩
theorem CallT_cg {g : Nat} {as as' : List Value} {H H' : AHeap} {K : Value → AHeap → Prop} (h1 : as = as') (h2 : H = H') : CallT g as H K = CallT g as' H' K := by rw [h1, h2]

def el (xs : List Int) (k : Nat) : Int := xs.getD k 0
/-- The slice reads as these numbers. -/
def IsI (H : AHeap) (v : Value) (xs : List Int) : Prop :=
  (v = .slice none 0 0 ∧ xs = []) ∨ ∃ b o blk, v = S b o xs.length 1 ∧ b < H.n ∧ H.get b = some blk ∧ o + xs.length ≤ blk.cells.length ∧ ∀ i, i < xs.length → blk.cells[o + i]? = some (I (el xs i))
/-- The slice is one's own, of the blocks lo to hi, and reads as these numbers. -/
def OwnI (lo hi : Nat) (H : AHeap) (v : Value) (xs : List Int) : Prop :=
  (v = .slice none 0 0 ∧ xs = []) ∨ ∃ b rest, v = S b 0 xs.length 1 ∧ lo ≤ b ∧ b < hi ∧ b < H.n ∧ H.get b = some ⟨xs.map I ++ rest, true⟩
section
variable {H H' : AHeap} {v : Value} {xs : List Int} {lo hi : Nat}
theorem IsI.len (h : IsI H v xs) : ∃ a e, v = .slice a xs.length e := by
  rcases h with ⟨rfl, rfl⟩ | ⟨b, o, blk, rfl, _⟩
  · exact ⟨_, _, rfl⟩
  · exact ⟨_, _, rfl⟩
theorem IsI.pos (h : IsI H v xs) (hp : 0 < xs.length) : ∃ b o blk, v = S b o xs.length 1 ∧ b < H.n ∧ H.get b = some blk ∧ o + xs.length ≤ blk.cells.length ∧ ∀ i, i < xs.length → blk.cells[o + i]? = some (I (el xs i)) := by
  rcases h with ⟨rfl, rfl⟩ | h
  · simp at hp
  · exact h
theorem IsI.ext (h : IsI H v xs) (he : Ext H H') : IsI H' v xs := by
  rcases h with h | ⟨b, o, blk, h1, h2, h3, h4, h5⟩
  · exact .inl h
  · exact .inr ⟨b, o, blk, h1, Nat.lt_of_lt_of_le h2 he.n, by rw [he.get b h2]; exact h3, h4, h5⟩
theorem OwnI.is (h : OwnI lo hi H v xs) : IsI H v xs := by
  rcases h with h | ⟨b, rest, h1, h2, h3, h4, h5⟩
  · exact .inl h
  · refine .inr ⟨b, 0, _, h1, h4, h5, by simp, fun i hi => ?_⟩
    simp [List.getElem?_append_left, hi, List.getD, el]
theorem OwnI.len (h : OwnI lo hi H v xs) : ∃ a e, v = .slice a xs.length e := h.is.len
theorem OwnI.ext (h : OwnI lo hi H v xs) (he : Ext H H') : OwnI lo hi H' v xs := by
  rcases h with h | ⟨b, rest, h1, h2, h3, h4, h5⟩
  · exact .inl h
  · exact .inr ⟨b, rest, h1, h2, h3, Nat.lt_of_lt_of_le h4 he.n, by rw [he.get b h4]; exact h5⟩
theorem OwnI.weak (h : OwnI lo hi H v xs) {lo' hi' : Nat} (hn : lo' ≤ lo) (hh : hi ≤ hi') : OwnI lo' hi' H v xs := by
  rcases h with h | ⟨b, rest, h1, h2, h3, h4, h5⟩
  · exact .inl h
  · exact .inr ⟨b, rest, h1, Nat.le_trans hn h2, Nat.lt_of_lt_of_le h3 hh, h4, h5⟩
theorem OwnI.nil : OwnI lo hi H (.slice none 0 0) [] := .inl ⟨rfl, rfl⟩
/-- What lies outside some blocks is as it was. -/
structure Out (lo hi : Nat) (H H' : AHeap) : Prop where
  n : H.n ≤ H'.n
  get : ∀ b, b < H.n → b < lo ∨ hi ≤ b → H'.get b = H.get b
theorem Out.refl : Out lo hi H H := ⟨Nat.le_refl _, fun _ _ _ => rfl⟩
theorem Out.ext (h : Out lo hi H H') (hl : H.n ≤ lo) : Ext H H' := ⟨h.n, fun b hb => h.get b hb (.inl (by omega))⟩
theorem OwnI.out {lo' hi' : Nat} (h : OwnI lo hi H v xs) (he : Out lo' hi' H H') (hd : hi ≤ lo' ∨ hi' ≤ lo) : OwnI lo hi H' v xs := by
  rcases h with h | ⟨b, rest, h1, h2, h3, h4, h5⟩
  · exact .inl h
  · exact .inr ⟨b, rest, h1, h2, h3, Nat.lt_of_lt_of_le h4 he.n, by rw [he.get b h4 (by omega)]; exact h5⟩
end

theorem el_ext {xs ys : List Int} (hl : xs.length = ys.length) (h : ∀ i, i < xs.length → el xs i = el ys i) : xs = ys := by
  apply List.ext_getElem hl
  intro i h1 h2
  have := h i h1
  simpa [el, List.getD, h1, h2] using this
/-- n numbers from k on. -/
def marks (k : Int) (n : Nat) : List Int := (List.range n).map fun (i : Nat) => k + (i : Int)
theorem IsI.nil {H : AHeap} : IsI H (.slice none 0 0) [] := .inl ⟨rfl, rfl⟩
theorem decT {p : Prop} [Decidable p] (h : p) : decide p = true := decide_eq_true h
theorem decF {p : Prop} [Decidable p] (h : ¬ p) : decide p = false := decide_eq_false h
theorem ifand {p q : Prop} [Decidable p] [Decidable q] {α : Type} {a b : α} (h : p ∧ q) : (if p ∧ q then a else b) = a := if_pos h
theorem ifle {p q : Int} {α : Type} {a b : α} (h : p ≤ q) : (if p ≤ q then a else b) = a := if_pos h
theorem iflt {p q : Int} {α : Type} {a b : α} (h : p < q) : (if p < q then a else b) = a := if_pos h
theorem iflt' {p q : Int} {α : Type} {a b : α} (h : ¬ p < q) : (if p < q then a else b) = b := if_neg h
theorem ifleN {p q : Nat} {α : Type} {a b : α} (h : p ≤ q) : (if p ≤ q then a else b) = a := if_pos h
theorem ifltN {p q : Nat} {α : Type} {a b : α} (h : p < q) : (if p < q then a else b) = a := if_pos h
theorem OwnI.pos {lo hi : Nat} {H : AHeap} {v : Value} {xs : List Int} (h : OwnI lo hi H v xs) (hp : 0 < xs.length) : ∃ b rest, v = S b 0 xs.length 1 ∧ lo ≤ b ∧ b < hi ∧ b < H.n ∧ H.get b = some ⟨xs.map I ++ rest, true⟩ := by
  rcases h with ⟨rfl, rfl⟩ | h
  · simp at hp
  · exact h
theorem repl_one (v : Value) (n : Nat) : repl [v] n = List.replicate n v := by
  simp only [repl]
  induction n with
  | zero => rfl
  | succ n ih => simp [List.replicate_succ, ih]
theorem own_make (H : AHeap) (n : Nat) : OwnI H.n (H.n + 1) (H.alloc (repl [.int .i64 0] n)) (S H.n 0 n 1) (List.replicate n 0) := by
  refine .inr ⟨H.n, [], by simp, Nat.le_refl _, Nat.lt_succ_self _, Nat.lt_succ_self _, ?_⟩
  rw [get_alloc_same, repl_one]
  simp
theorem splice_set {xs : List Int} {rest : List Value} {k : Nat} {y : Int} (h : k < xs.length) : splice (xs.map I ++ rest) k [I y] = (xs.set k y).map I ++ rest := by
  simp only [splice, List.length_singleton]
  rw [List.take_append_of_le_length (by simp; omega), List.drop_append_of_le_length (by simp; omega), List.set_eq_take_append_cons_drop]
  simp [h, List.map_take, List.map_drop]
theorem get_own {xs : List Int} {rest : List Value} {k : Nat} (h : k < xs.length) : (xs.map I ++ rest)[k]? = some (I (el xs k)) := by
  simp [List.getElem?_append_left, h, el, List.getD]

theorem el_set_same {xs : List Int} {k : Nat} {y : Int} (h : k < xs.length) : el (xs.set k y) k = y := by simp [el, List.getD, h]
theorem el_set_ne {xs : List Int} {k i : Nat} {y : Int} (h : k ≠ i) : el (xs.set k y) i = el xs i := by simp [el, List.getD, h]
theorem Out.set {lo hi : Nat} {H H' : AHeap} (h : Out lo hi H H') {b : Nat} (hb : lo ≤ b ∧ b < hi) (cs : List Value) : Out lo hi H (H'.set b cs) := ⟨h.n, fun x hx ho => by rw [get_set_ne _ _ _ _ (by omega)]; exact h.get x hx ho⟩
theorem fill0 {v : Value} : fillL (repl [v] 0) [] = some [] := rfl
theorem fill1 {v : Value} {k : IntKind} {n : Int} : fillL (repl [v] 1) [(0, 1, .int k n)] = some [.int k n] := rfl
theorem beqI {a b : Int} : (a == b) = decide (a = b) := by rw [Bool.eq_iff_iff]; simp
theorem bneI {a b : Int} : (a != b) = decide (¬ a = b) := by rw [Bool.eq_iff_iff]; simp
/-! ### Steps of a region -/
def onS (o : Option (Value × AHeap)) (k : Value → AHeap → Prop) : Prop :=
  match o with
  | some (v, H) => k v H
  | none => False
theorem onS_some {v : Value} {H : AHeap} {k : Value → AHeap → Prop} : onS (some (v, H)) k = k v H := rfl
theorem onS_cg {o o' : Option (Value × AHeap)} {k : Value → AHeap → Prop} (h : o = o') : onS o k = onS o' k := by rw [h]
def onV (o : Option Value) (k : Value → Prop) : Prop :=
  match o with
  | some v => k v
  | none => False
theorem onV_some {v : Value} {k : Value → Prop} : onV (some v) k = k v := rfl
theorem onV_cg {o o' : Option Value} {k : Value → Prop} (h : o = o') : onV o k = onV o' k := by rw [h]
theorem onS_map {o : Option Value} {H : AHeap} {k : Value → AHeap → Prop} : onS (o.map fun v => (v, H)) k = onV o fun v => k v H := by cases o <;> rfl
def dn (d : Option Nat) : Option Nat := d.map (· - 1)
theorem dn_none : dn none = none := rfl
theorem dn_some {n : Nat} : dn (some n) = some (n - 1) := rfl
def contV (d t : Option Nat) (r : List AOper) (K : Fr → AHeap → Prop) (f : Fr) (H : AHeap) : Value → Prop := fun v => opsT (dn d) r K (updO f t v) H
def contS (d t : Option Nat) (r : List AOper) (K : Fr → AHeap → Prop) (f : Fr) : Value → AHeap → Prop := fun v H => opsT (dn d) r K (updO f t v) H
def contC (d t : Option Nat) (r : List AOper) (K : Fr → AHeap → Prop) (f : Fr) (H : AHeap) : Value → AHeap → Prop := fun v H' => (needExt d = true → Ext H H') ∧ opsT (dn d) r K (updO f t v) H'
theorem onV_cont {d t : Option Nat} {r : List AOper} {K : Fr → AHeap → Prop} {f : Fr} {H : AHeap} {v : Value} : onV (some v) (contV d t r K f H) = opsT (dn d) r K (updO f t v) H := rfl
theorem onS_cont {d t : Option Nat} {r : List AOper} {K : Fr → AHeap → Prop} {f : Fr} {H : AHeap} {v : Value} : onS (some (v, H)) (contS d t r K f) = opsT (dn d) r K (updO f t v) H := rfl
theorem contC_ap {d t : Option Nat} {r : List AOper} {K : Fr → AHeap → Prop} {f : Fr} {H H' : AHeap} {v : Value} : contC d t r K f H v H' = ((needExt d = true → Ext H H') ∧ opsT (dn d) r K (updO f t v) H') := rfl
theorem ne_none : needExt none = false := rfl
theorem ne_some {n : Nat} : needExt (some n) = decide (0 < n) := rfl
theorem ev_t {f : Fr} {n : Nat} : ev f (.t n) = f n := rfl
theorem ev_c {f : Fr} {v : Value} : ev f (.c v) = v := rfl
theorem ev_f {f : Fr} {n : Nat} : ev f (.f n) = .func (.func n) #[] #[] := rfl
theorem updO_some {f : Fr} {n : Nat} {v : Value} : updO f (some n) v = upd f n v := rfl
theorem updO_none {f : Fr} {v : Value} : updO f none v = f := rfl
def isB (b : Bool) : Value → Bool
  | .bool x => x == b
  | _ => false
theorem isB_t {x : Bool} : isB true (.bool x) = x := by cases x <;> rfl
theorem isB_f {x : Bool} : isB false (.bool x) = !x := by cases x <;> rfl
theorem isB_u {b : Bool} : isB b undef = false := rfl
def pickV : Value → Value → Value → Option Value
  | .bool t, a, b => some (if t then a else b)
  | _, _, _ => none
theorem pickV_t {a b : Value} : pickV (.bool true) a b = some a := rfl
theorem pickV_f {a b : Value} : pickV (.bool false) a b = some b := rfl
theorem pickV_b {t x y : Bool} : pickV (.bool t) (.bool x) (.bool y) = some (.bool ((t && x) || (!t && y))) := by cases t <;> cases x <;> cases y <;> rfl
def notV : Value → Option Value
  | .bool b => some (.bool !b)
  | _ => none
theorem notV_b {b : Bool} : notV (.bool b) = some (.bool !b) := rfl
def negV : Value → Option Value
  | .int k n => some (.int k (k.wrap (0 - n)))
  | _ => none
theorem negV_i {k : IntKind} {n : Int} : negV (.int k n) = some (.int k (k.wrap (0 - n))) := rfl
def convV (k : IntKind) : Value → Option Value
  | .int _ n => some (.int k (k.wrap n))
  | _ => none
theorem convV_i {k k' : IntKind} {n : Int} : convV k (.int k' n) = some (.int k (k.wrap n)) := rfl
def eqbV (neg : Bool) : Value → Value → Option Value
  | .bool a, .bool b => some (.bool (if neg then !(a == b) else (a == b)))
  | _, _ => none
theorem eqbV_f {a b : Bool} : eqbV false (.bool a) (.bool b) = some (.bool (a == b)) := rfl
theorem eqbV_t {a b : Bool} : eqbV true (.bool a) (.bool b) = some (.bool !(a == b)) := rfl
def lenV : Value → Option Value
  | .slice _ n _ => some (.int .i64 n)
  | _ => none
theorem lenV_s {a : Option Addr} {n e : Nat} : lenV (.slice a n e) = some (.int .i64 n) := rfl
def extV (j : Nat) : Value → Option Value
  | .tuple vs => vs[j]?
  | _ => none
theorem extV_t {j : Nat} {vs : List Value} : extV j (.tuple ⟨vs⟩) = vs[j]? := by simp [extV]
theorem ext0 {a : Value} {l : List Value} : extV 0 (.tuple ⟨a :: l⟩) = some a := by simp [extV]
theorem ext1 {a b : Value} {l : List Value} : extV 1 (.tuple ⟨a :: b :: l⟩) = some b := by simp [extV]
def idxV (e : Nat) : Value → Value → Option Value
  | .slice (some ⟨b, o, none⟩) len e', .int _ i => if 0 ≤ i ∧ i < len ∧ e' = e then some (P b (o + i.toNat * e)) else none
  | _, _ => none
theorem idxV_s {b o len e : Nat} {k : IntKind} {i : Int} : idxV e (S b o len e) (.int k i) = if 0 ≤ i ∧ i < len then some (P b (o + i.toNat * e)) else none := by simp [idxV]
def loadV (n : Option Nat) (H : AHeap) : Value → Option Value
  | .pointer (some ⟨b, o, none⟩) => (match H.get b with | some blk => getN n blk.cells o | none => none)
  | _ => none
def cellO (blk : Option Blk) (o : Nat) : Option Value :=
  match blk with
  | some blk => blk.cells[o]?
  | none => none
theorem loadV_p {H : AHeap} {b o : Nat} : loadV none H (P b o) = cellO (H.get b) o := by simp only [loadV, cellO]; cases H.get b <;> rfl
theorem cellO_some {blk : Blk} {o : Nat} : cellO (some blk) o = blk.cells[o]? := rfl
def sliceV (e : Nat) (x : Value) (lo hi : Option Value) : Option Value :=
  match x with
  | .slice (some ⟨b, o, none⟩) len e' => if e' = e then (cutOf (fun | .c v => v | _ => undef) len (lo.map .c) (hi.map .c)).map fun (l, h) => S b (o + l * e) (h - l) e else none
  | .slice none 0 0 => (cutOf (fun | .c v => v | _ => undef) 0 (lo.map .c) (hi.map .c)).map fun _ => .slice none 0 0
  | _ => none
theorem cutOf_c {f : Fr} {len : Nat} {lo hi : Option Opd} : cutOf (fun | .c v => v | _ => undef) len ((lo.map (ev f)).map .c) ((hi.map (ev f)).map .c) = cutOf (ev f) len lo hi := by
  cases lo <;> cases hi <;> rfl
theorem sliceV_hi {b o len e : Nat} {k : IntKind} {h : Int} : sliceV e (S b o len e) none (some (.int k h)) = if 0 ≤ h ∧ h ≤ len then some (S b o h.toNat e) else none := by
  simp only [sliceV, if_true, Option.map_none, Option.map_some, cutOf, intOf]
  by_cases hh : 0 ≤ h ∧ h ≤ len
  · simp [hh]
  · rw [if_neg hh, if_neg (by omega)]; rfl
theorem sliceV_nil {e : Nat} {k : IntKind} : sliceV e (.slice none 0 0) none (some (.int k 0)) = some (.slice none 0 0) := rfl
def bsV (e n : Nat) (z : List Value) (parts : List (Nat × Nat × Value)) (H : AHeap) : Option (Value × AHeap) :=
  if n * e ≤ 16777216 then (fillL (repl z n) parts).map fun cs => (S H.n 0 n e, H.alloc cs) else none
theorem bsV_0 {z : Value} {H : AHeap} : bsV 1 0 [z] [] H = some (S H.n 0 0 1, H.alloc []) := rfl
theorem bsV_1 {z : Value} {H : AHeap} {k : IntKind} {n : Int} : bsV 1 1 [z] [(0, 1, .int k n)] H = some (S H.n 0 1 1, H.alloc [.int k n]) := rfl
theorem bsV_2 {z : Value} {H : AHeap} {k k' : IntKind} {n m : Int} : bsV 1 2 [z] [(0, 1, .int k n), (1, 1, .int k' m)] H = some (S H.n 0 2 1, H.alloc [.int k n, .int k' m]) := rfl
def mkV (e bytes : Nat) (z : List Value) (l c : Value) (H : AHeap) : Option (Value × AHeap) :=
  match l, c with
  | .int _ l, .int _ c => if 0 ≤ l ∧ l ≤ c ∧ c * bytes ≤ 140737488355328 ∧ c ≤ 9223372036854775807 then some (S H.n 0 l.toNat e, H.alloc (repl z c.toNat)) else none
  | _, _ => none
theorem mkV_i {e : Nat} {z : List Value} {k : IntKind} {n : Int} {H : AHeap} (h : 0 ≤ n ∧ n ≤ 1000000000000) : mkV e 8 z (.int k n) (.int k n) H = some (S H.n 0 n.toNat e, H.alloc (repl z n.toNat)) := by
  simp only [mkV]
  rw [if_pos (by omega)]
def storeV (n : Nat) (a v : Value) (H : AHeap) : Option (Value × AHeap) :=
  match a with
  | .pointer (some ⟨b, o, none⟩) =>
    (match H.get b with
    | some blk =>
      if blk.rw = true ∧ (cellsL v).length = n ∧ o + n ≤ blk.cells.length ∧ (cellsL v).all (·.oneCell') = true
      then some (undef, H.set b (splice blk.cells o (cellsL v))) else none
    | none => none)
  | _ => none
def stB (blk : Option Blk) (H : AHeap) (b o n : Nat) (v : Value) : Option (Value × AHeap) :=
  match blk with
  | some blk =>
    if blk.rw = true ∧ (cellsL v).length = n ∧ o + n ≤ blk.cells.length ∧ (cellsL v).all (·.oneCell') = true
    then some (undef, H.set b (splice blk.cells o (cellsL v))) else none
  | none => none
theorem storeV_p {H : AHeap} {b o n : Nat} {v : Value} : storeV n (P b o) v H = stB (H.get b) H b o n v := by simp only [storeV, stB]
theorem stB_own {H : AHeap} {b o : Nat} {xs : List Int} {rest : List Value} {n : Int} (hl : o < xs.length) : stB (some ⟨xs.map I ++ rest, true⟩) H b o 1 (I n) = some (undef, H.set b ((xs.set o n).map I ++ rest)) := by
  simp only [stB, cellsL, List.length_singleton]
  rw [if_pos ⟨trivial, trivial, by simp; omega, rfl⟩, splice_set hl]
theorem foldV_2 {a b : Value} : foldV max2 [a, b] = max2 a b := by
  simp only [foldV]
  cases max2 a b <;> simp [foldV]
theorem max2_i {k : IntKind} {x y : Int} : max2 (.int k x) (.int k y) = some (.int k (if y > x then y else x)) := by simp [max2]
section
variable {k : IntKind} {a b : Int}
theorem aBin_add : aBin .add (.int k a) (.int k b) = some (.int k (k.wrap (a + b))) := by simp [aBin]
theorem aBin_sub : aBin .sub (.int k a) (.int k b) = some (.int k (k.wrap (a - b))) := by simp [aBin]
theorem aBin_mul : aBin .mul (.int k a) (.int k b) = some (.int k (k.wrap (a * b))) := by simp [aBin]
theorem aBin_quo : aBin .quo (.int k a) (.int k b) = if b = 0 then none else some (.int k (k.wrap (a.tdiv b))) := by simp [aBin]
theorem aBin_rem : aBin .rem (.int k a) (.int k b) = if b = 0 then none else some (.int k (a.tmod b)) := by simp [aBin]
theorem aBin_eql : aBin .eql (.int k a) (.int k b) = some (.bool (decide (a = b))) := by simp [aBin, beqI]
theorem aBin_neq : aBin .neq (.int k a) (.int k b) = some (.bool (decide (¬ a = b))) := by simp [aBin, bneI]
theorem aBin_lss : aBin .lss (.int k a) (.int k b) = some (.bool (decide (a < b))) := by simp [aBin]
theorem aBin_leq : aBin .leq (.int k a) (.int k b) = some (.bool (decide (a ≤ b))) := by simp [aBin]
theorem aBin_gtr : aBin .gtr (.int k a) (.int k b) = some (.bool (decide (b < a))) := by simp [aBin]
theorem aBin_geq : aBin .geq (.int k a) (.int k b) = some (.bool (decide (b ≤ a))) := by simp [aBin]
theorem aBin_and : aBin .and (.int k a) (.int k b) = some (.int k (k.wrap ((BitVec.ofInt k.bits a &&& BitVec.ofInt k.bits b).toNat : Int))) := by simp [aBin]
theorem aBin_xor : aBin .xor (.int k a) (.int k b) = some (.int k (k.wrap ((BitVec.ofInt k.bits a ^^^ BitVec.ofInt k.bits b).toNat : Int))) := by simp [aBin]
theorem aBin_shl {k' : IntKind} (h : ¬ b < 0) : aBin .shl (.int k a) (.int k' b) = some (.int k (k.wrap (a * 2 ^ (min b.toNat k.bits)))) := by
  simp only [aBin, aSh, if_neg h, ite_self]
theorem aBin_shr {k' : IntKind} (h : ¬ b < 0) : aBin .shr (.int k a) (.int k' b) = some (.int k (a.fdiv (2 ^ (min b.toNat k.bits)))) := by
  simp only [aBin, aSh, if_neg h, ite_self]
end
section
variable {d : Option Nat} {t : Option Nat} {r : List AOper} {K : Fr → AHeap → Prop} {f : Fr} {H : AHeap}
theorem opsT_nil : opsT d [] K f H = K f H := rfl
theorem opsT_guard {o : AOp} {g : Nat} {b : Bool} : opsT d (⟨t, o, some (g, b)⟩ :: r) K f H = (if isB b (f g) = true then opsT d (⟨t, o, none⟩ :: r) K f H else opsT (dn d) r K (updO f t undef) H) := by
  have hw : wantedA (some (g, b)) f = isB b (f g) := by simp only [wantedA]; cases f g <;> rfl
  rw [opsT]
  simp only [hw]
  split
  · conv => rhs; rw [opsT]
    simp [wantedA]
  · rfl
theorem opsT_call {g : Nat} {as : List Opd} : opsT d (⟨t, .call g as, none⟩ :: r) K f H = CallT g (as.map (ev f)) H (contC d t r K f H) := by
  rw [opsT]
  simp [wantedA, dn, contC]
  rfl
theorem opsT_gen {o : AOp} (h1 : ∀ n a v, o ≠ .store n a v) (h2 : ∀ e b s x, o ≠ .append e b s x) (h3 : ∀ g as, o ≠ .call g as) (h4 : ∀ g as, o ≠ .callv g as) (h5 : (∀ n a v fl, o ≠ .storeF n a v fl) ∧ ∀ e b s x fl, o ≠ .appendF e b s x fl) : opsT d (⟨t, o, none⟩ :: r) K f H = onS (aOp o (ev f) H) (contS d t r K f) := by
  rw [opsT]
  simp only [wantedA, if_true]
  cases o <;> first | rfl | exact absurd rfl (h1 _ _ _) | exact absurd rfl (h2 _ _ _ _) | exact absurd rfl (h3 _ _) | exact absurd rfl (h4 _ _) | exact absurd rfl (h5.1 _ _ _ _) | exact absurd rfl (h5.2 _ _ _ _ _)
theorem opsT_store {n : Nat} {a v : Opd} : opsT d (⟨t, .store n a v, none⟩ :: r) K f H = (needExt d = false ∧ onS (storeV n (ev f a) (ev f v) H) (contS d t r K f)) := by
  have h : aOp (.store n a v) (ev f) H = storeV n (ev f a) (ev f v) H := by simp only [aOp, storeV]; rfl
  rw [opsT]
  simp only [wantedA, if_true, onS, h]
  cases storeV n (ev f a) (ev f v) H <;> simp [dn, contS]
theorem opsT_append {e b : Nat} {s x : Opd} : opsT d (⟨t, .append e b s x, none⟩ :: r) K f H = (needExt d = false ∧ onS (aAppend e b (ev f s) (ev f x) H) (contS d t r K f)) := by
  have h : aOp (.append e b s x) (ev f) H = aAppend e b (ev f s) (ev f x) H := by simp only [aOp]
  rw [opsT]
  simp only [wantedA, if_true, onS, h]
  cases aAppend e b (ev f s) (ev f x) H <;> simp [dn, contS]
theorem opsT_move {x : Opd} : opsT d (⟨t, .move x, none⟩ :: r) K f H = opsT (dn d) r K (updO f t (ev f x)) H := by
  rw [opsT_gen (by simp) (by simp) (by simp) (by simp) (by simp)]; rfl
theorem viaV {o : AOp} {w : Option Value} (h1 : ∀ n a v, o ≠ .store n a v) (h2 : ∀ e b s x, o ≠ .append e b s x) (h3 : ∀ g as, o ≠ .call g as) (h4 : ∀ g as, o ≠ .callv g as) (h5 : (∀ n a v fl, o ≠ .storeF n a v fl) ∧ ∀ e b s x fl, o ≠ .appendF e b s x fl) (h : aOp o (ev f) H = w.map fun v => (v, H)) : opsT d (⟨t, o, none⟩ :: r) K f H = onV w (contV d t r K f H) := by
  rw [opsT_gen h1 h2 h3 h4 h5, h]
  show onS _ _ = _
  rw [onS_map]
  rfl
theorem opsT_pick {c a b : Opd} : opsT d (⟨t, .pick c a b, none⟩ :: r) K f H = onV (pickV (ev f c) (ev f a) (ev f b)) (contV d t r K f H) :=
  viaV (by simp) (by simp) (by simp) (by simp) (by simp) (by simp only [aOp]; cases ev f c <;> rfl)
theorem opsT_bin {op : BinOp} {x y : Opd} : opsT d (⟨t, .bin op x y, none⟩ :: r) K f H = onV (aBin op (ev f x) (ev f y)) (contV d t r K f H) :=
  viaV (by simp) (by simp) (by simp) (by simp) (by simp) (by rfl)
theorem opsT_not {x : Opd} : opsT d (⟨t, .not x, none⟩ :: r) K f H = onV (notV (ev f x)) (contV d t r K f H) :=
  viaV (by simp) (by simp) (by simp) (by simp) (by simp) (by simp only [aOp]; cases ev f x <;> rfl)
theorem opsT_neg {x : Opd} : opsT d (⟨t, .neg x, none⟩ :: r) K f H = onV (negV (ev f x)) (contV d t r K f H) :=
  viaV (by simp) (by simp) (by simp) (by simp) (by simp) (by simp only [aOp]; cases ev f x <;> rfl)
theorem opsT_conv {k : IntKind} {x : Opd} : opsT d (⟨t, .conv k x, none⟩ :: r) K f H = onV (convV k (ev f x)) (contV d t r K f H) :=
  viaV (by simp) (by simp) (by simp) (by simp) (by simp) (by simp only [aOp]; cases ev f x <;> rfl)
theorem opsT_eqb {n : Bool} {x y : Opd} : opsT d (⟨t, .eqb n x y, none⟩ :: r) K f H = onV (eqbV n (ev f x) (ev f y)) (contV d t r K f H) :=
  viaV (by simp) (by simp) (by simp) (by simp) (by simp) (by simp only [aOp]; cases ev f x <;> cases ev f y <;> rfl)
theorem opsT_len {x : Opd} : opsT d (⟨t, .len x, none⟩ :: r) K f H = onV (lenV (ev f x)) (contV d t r K f H) :=
  viaV (by simp) (by simp) (by simp) (by simp) (by simp) (by simp only [aOp]; cases ev f x <;> rfl)
theorem opsT_extract {x : Opd} {j : Nat} : opsT d (⟨t, .extract x j, none⟩ :: r) K f H = onV (extV j (ev f x)) (contV d t r K f H) :=
  viaV (by simp) (by simp) (by simp) (by simp) (by simp) (by simp only [aOp]; cases ev f x <;> rfl)
theorem opsT_max {xs : List Opd} : opsT d (⟨t, .max xs, none⟩ :: r) K f H = onV (foldV max2 (xs.map (ev f))) (contV d t r K f H) :=
  viaV (by simp) (by simp) (by simp) (by simp) (by simp) (by rfl)
theorem opsT_min {xs : List Opd} : opsT d (⟨t, .min xs, none⟩ :: r) K f H = onV (foldV min2 (xs.map (ev f))) (contV d t r K f H) :=
  viaV (by simp) (by simp) (by simp) (by simp) (by simp) (by rfl)
def eqnV (neg : Bool) : Value → Option Value
  | .slice a _ _ => some (.bool (if neg then !a.isNone else a.isNone))
  | _ => none
theorem eqnV_nil {n e : Nat} : eqnV false (.slice none n e) = some (.bool true) := rfl
theorem eqnV_some {b o n e : Nat} : eqnV false (S b o n e) = some (.bool false) := rfl
theorem opsT_eqn {n : Bool} {x : Opd} : opsT d (⟨t, .eqn n x, none⟩ :: r) K f H = onV (eqnV n (ev f x)) (contV d t r K f H) :=
  viaV (by simp) (by simp) (by simp) (by simp) (by simp) (by simp only [aOp]; cases ev f x <;> rfl)
theorem opsT_indexAddr {e : Nat} {x i : Opd} : opsT d (⟨t, .indexAddr none e x i, none⟩ :: r) K f H = onV (idxV e (ev f x) (ev f i)) (contV d t r K f H) :=
  viaV (by simp) (by simp) (by simp) (by simp) (by simp) (by
    simp only [aOp]
    generalize ev f x = vx
    generalize ev f i = vi
    cases vx <;> try rfl
    rename_i a n e'
    cases a <;> try rfl
    rename_i a
    obtain ⟨b, o, sp⟩ := a
    cases sp <;> cases vi <;> try rfl
    simp only [intOf, idxV]
    split <;> rfl)
theorem opsT_load {n : Option Nat} {a : Opd} : opsT d (⟨t, .load n a, none⟩ :: r) K f H = onV (loadV n H (ev f a)) (contV d t r K f H) :=
  viaV (by simp) (by simp) (by simp) (by simp) (by simp) (by
    simp only [aOp, loadV]
    repeat' split
    all_goals simp_all)
theorem opsT_slice {e : Nat} {x : Opd} {lo hi : Option Opd} : opsT d (⟨t, .slice e x lo hi, none⟩ :: r) K f H = onV (sliceV e (ev f x) (lo.map (ev f)) (hi.map (ev f))) (contV d t r K f H) :=
  viaV (by simp) (by simp) (by simp) (by simp) (by simp) (by
    have hc := fun len => cutOf_c (f := f) (len := len) (lo := lo) (hi := hi)
    simp only [aOp]
    generalize ev f x = vx
    cases vx <;> try rfl
    rename_i a n e'
    cases a with
    | none =>
      cases n <;> cases e' <;> try rfl
      simp only [sliceV, hc]
      rw [Option.map_map]
      rfl
    | some a =>
      obtain ⟨b, o, sp⟩ := a
      cases sp <;> try rfl
      simp only [sliceV, hc]
      split <;> simp [Option.map_map, Function.comp_def])
theorem opsT_buildSlice {e n : Nat} {z : List Value} {p : List (Nat × Nat × Opd)} : opsT d (⟨t, .buildSlice e n z p, none⟩ :: r) K f H = onS (bsV e n z (p.map fun p => (p.1, p.2.1, ev f p.2.2)) H) (contS d t r K f) := by
  rw [opsT_gen (by simp) (by simp) (by simp) (by simp) (by simp)]; rfl
theorem opsT_makeSlice {e b : Nat} {z : List Value} {l c : Opd} : opsT d (⟨t, .makeSlice e b z l c, none⟩ :: r) K f H = onS (mkV e b z (ev f l) (ev f c) H) (contS d t r K f) := by
  rw [opsT_gen (by simp) (by simp) (by simp) (by simp) (by simp)]
  simp only [aOp, mkV]
  rfl
end
theorem Ext.out {lo hi : Nat} {H0 H H' : AHeap} (h : Ext H0 H) (ho : Out lo hi H H') (hl : H0.n ≤ lo) : Ext H0 H' := ⟨Nat.le_trans h.n ho.n, fun b hb => (ho.get b (Nat.lt_of_lt_of_le hb h.n) (.inl (by omega))).trans (h.get b hb)⟩
/-! ### The rules, bound together -/
theorem RF : (type_of% @upd_apply) ∧ (type_of% @frame0_0) ∧ (type_of% @frame0_1) ∧ (type_of% @frame0_2) ∧ (type_of% @frame0_3) ∧ (type_of% @frame0_nil) := ⟨@upd_apply, @frame0_0, @frame0_1, @frame0_2, @frame0_3, @frame0_nil⟩
theorem RO : (type_of% @opsT_nil) ∧ (type_of% @opsT_guard) ∧ (type_of% @opsT_call) ∧ (type_of% @opsT_store) ∧ (type_of% @opsT_append) ∧ (type_of% @opsT_move) ∧ (type_of% @opsT_pick) ∧ (type_of% @opsT_bin) ∧ (type_of% @opsT_not) ∧ (type_of% @opsT_neg) ∧ (type_of% @opsT_conv) ∧ (type_of% @opsT_eqb) ∧ (type_of% @opsT_eqn) ∧ (type_of% @eqnV_nil) ∧ (type_of% @eqnV_some) ∧ (type_of% @opsT_len) ∧ (type_of% @opsT_extract) ∧ (type_of% @opsT_max) ∧ (type_of% @opsT_min) ∧ (type_of% @opsT_indexAddr) ∧ (type_of% @opsT_load) ∧ (type_of% @opsT_slice) ∧ (type_of% @opsT_buildSlice) ∧ (type_of% @opsT_makeSlice) ∧ (type_of% @onS_cont) ∧ (type_of% @onV_cont) ∧ (type_of% @contC_ap) ∧ (type_of% @dn_none) ∧ (type_of% @dn_some) ∧ (type_of% @ne_none) ∧ (type_of% @ne_some) ∧ (type_of% @ev_t) ∧ (type_of% @ev_c) ∧ (type_of% @ev_f) ∧ (type_of% @updO_some) ∧ (type_of% @updO_none) ∧ (type_of% @isB_t) ∧ (type_of% @isB_f) ∧ (type_of% @isB_u) ∧ (type_of% @pickV_t) ∧ (type_of% @pickV_f) ∧ (type_of% @notV_b) ∧ (type_of% @negV_i) ∧ (type_of% @convV_i) ∧ (type_of% @eqbV_f) ∧ (type_of% @eqbV_t) ∧ (type_of% @lenV_s) ∧ (type_of% @ext0) ∧ (type_of% @ext1) ∧ (type_of% @idxV_s) ∧ (type_of% @loadV_p) ∧ (type_of% @cellO_some) ∧ (type_of% @sliceV_hi) ∧ (type_of% @sliceV_nil) ∧ (type_of% @bsV_0) ∧ (type_of% @bsV_1) ∧ (type_of% @bsV_2) ∧ (type_of% @storeV_p) ∧ (type_of% @foldV_2) ∧ (type_of% @max2_i) ∧ (type_of% @aBin_add) ∧ (type_of% @aBin_sub) ∧ (type_of% @aBin_mul) ∧ (type_of% @aBin_quo) ∧ (type_of% @aBin_rem) ∧ (type_of% @aBin_eql) ∧ (type_of% @aBin_neq) ∧ (type_of% @aBin_lss) ∧ (type_of% @aBin_leq) ∧ (type_of% @aBin_gtr) ∧ (type_of% @aBin_geq) := ⟨@opsT_nil, @opsT_guard, @opsT_call, @opsT_store, @opsT_append, @opsT_move, @opsT_pick, @opsT_bin, @opsT_not, @opsT_neg, @opsT_conv, @opsT_eqb, @opsT_eqn, @eqnV_nil, @eqnV_some, @opsT_len, @opsT_extract, @opsT_max, @opsT_min, @opsT_indexAddr, @opsT_load, @opsT_slice, @opsT_buildSlice, @opsT_makeSlice, @onS_cont, @onV_cont, @contC_ap, @dn_none, @dn_some, @ne_none, @ne_some, @ev_t, @ev_c, @ev_f, @updO_some, @updO_none, @isB_t, @isB_f, @isB_u, @pickV_t, @pickV_f, @notV_b, @negV_i, @convV_i, @eqbV_f, @eqbV_t, @lenV_s, @ext0, @ext1, @idxV_s, @loadV_p, @cellO_some, @sliceV_hi, @sliceV_nil, @bsV_0, @bsV_1, @bsV_2, @storeV_p, @foldV_2, @max2_i, @aBin_add, @aBin_sub, @aBin_mul, @aBin_quo, @aBin_rem, @aBin_eql, @aBin_neq, @aBin_lss, @aBin_leq, @aBin_gtr, @aBin_geq⟩
theorem RC : (type_of% @List.map_cons.{0,0}) ∧ (type_of% @List.map_nil.{0,0}) ∧ (type_of% @Option.map_some.{0,0}) ∧ (type_of% @Option.map_none.{0,0}) ∧ (type_of% @ge_iff_le.{0}) ∧ (type_of% @gt_iff_lt.{0}) ∧ (type_of% @decide_eq_true_eq) ∧ (type_of% @beq_self_eq_true.{0}) ∧ (type_of% @bne_self_eq_false.{0}) ∧ (type_of% @decide_true) ∧ (type_of% @decide_false) ∧ (type_of% @Bool.not_true) ∧ (type_of% @Bool.not_false) ∧ (type_of% @and_true) ∧ (type_of% @true_and) ∧ (type_of% @and_self) ∧ (type_of% @Bool.false_eq_true) ∧ (type_of% @beq_iff_eq.{0}) ∧ (type_of% @Int.natCast_nonneg) ∧ (type_of% @Int.ofNat_lt) ∧ (type_of% @Int.ofNat_le) ∧ (type_of% @Int.ofNat_inj) ∧ (type_of% @Int.toNat_natCast) ∧ (type_of% @Nat.mul_one) ∧ (type_of% @Nat.one_mul) ∧ (type_of% @Nat.zero_add) ∧ (type_of% @Nat.add_zero) ∧ (type_of% @Nat.sub_zero) ∧ (type_of% @List.length_append.{0}) ∧ (type_of% @List.length_map.{0,0}) ∧ (type_of% @List.length_cons.{0}) ∧ (type_of% @List.length_nil.{0}) ∧ (type_of% @List.all_cons.{0}) ∧ (type_of% @List.all_nil.{0}) ∧ (type_of% @Bool.and_true) ∧ (type_of% @Bool.true_and) ∧ (type_of% @Bool.not_eq_true) ∧ (type_of% @beq_true) ∧ (type_of% @beq_false) ∧ (type_of% @true_implies) ∧ (type_of% @false_implies) ∧ (type_of% @decide_eq_false_iff_not) ∧ (type_of% @bne_iff_ne.{0}) ∧ (type_of% @ne_eq.{1}) ∧ (type_of% @not_true_eq_false) ∧ (type_of% @not_false_eq_true) ∧ (type_of% @Int.natCast_zero) ∧ (type_of% @Int.toNat_zero) := ⟨@List.map_cons.{0,0}, @List.map_nil.{0,0}, @Option.map_some.{0,0}, @Option.map_none.{0,0}, @ge_iff_le.{0}, @gt_iff_lt.{0}, @decide_eq_true_eq, @beq_self_eq_true.{0}, @bne_self_eq_false.{0}, @decide_true, @decide_false, @Bool.not_true, @Bool.not_false, @and_true, @true_and, @and_self, @Bool.false_eq_true, @beq_iff_eq.{0}, @Int.natCast_nonneg, @Int.ofNat_lt, @Int.ofNat_le, @Int.ofNat_inj, @Int.toNat_natCast, @Nat.mul_one, @Nat.one_mul, @Nat.zero_add, @Nat.add_zero, @Nat.sub_zero, @List.length_append.{0}, @List.length_map.{0,0}, @List.length_cons.{0}, @List.length_nil.{0}, @List.all_cons.{0}, @List.all_nil.{0}, @Bool.and_true, @Bool.true_and, @Bool.not_eq_true, @beq_true, @beq_false, @true_implies, @false_implies, @decide_eq_false_iff_not, @bne_iff_ne.{0}, @ne_eq.{1}, @not_true_eq_false, @not_false_eq_true, @Int.natCast_zero, @Int.toNat_zero⟩
theorem RD : (type_of% @decT) ∧ (type_of% @decF) ∧ (type_of% @stB_own) ∧ (type_of% @mkV_i) ∧ (type_of% @w64) ∧ (type_of% @ifand) ∧ (type_of% @ifle) ∧ (type_of% @iflt) ∧ (type_of% @iflt') ∧ (type_of% @ifleN) ∧ (type_of% @ifltN) ∧ (type_of% @splice_set) ∧ (type_of% @get_own) := ⟨@decT, @decF, @stB_own, @mkV_i, @w64, @ifand, @ifle, @iflt, @iflt', @ifleN, @ifltN, @splice_set, @get_own⟩
theorem RN : (type_of% @T_aiff) ∧ (type_of% @T_skiff) ∧ (type_of% @T_retiff) ∧ (type_of% @T_exiff) ∧ (type_of% @T_retiff') ∧ (type_of% @T_exiff') ∧ (type_of% @T_skiff') := ⟨@T_aiff, @T_skiff, @T_retiff, @T_exiff, @T_retiff', @T_exiff', @T_skiff'⟩
end Go.Am
