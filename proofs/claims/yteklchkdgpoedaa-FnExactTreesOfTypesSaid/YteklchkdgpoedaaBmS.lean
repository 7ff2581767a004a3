/- Rules by which a run of the second machine is gone through, operation by operation. -/
import Derived.Test.YteklchkdgpoedaaBmT
import Derived.Test.YteklchkdgpoedaaAmS2
set_option linter.unusedVariables false
set_option linter.unusedSimpArgs false
namespace Go.Bm
open Go Go.Am

/-! ### Values -/
/-- Bytes. -/
abbrev N8 (n : Nat) : Value := .int .u8 (n : Int)
abbrev PL (p : List Nat) : Value := aggL (p.map N8)
abbrev FI (xs : List Int) : Value := Fz xs.length 1 (xs.map I)
abbrev FB (xs : List Nat) : Value := Fz xs.length 1 (xs.map N8)
abbrev FII (xss : List (List Int)) : Value := Fz xss.length 1 (xss.map FI)
def nl (p : List Nat) (i : Nat) : Nat := p.getD i 0

/-! ### Steps of a region -/
section
def onS (o : Option (Value × BH)) (k : Value → BH → Prop) : Prop :=
  match o with
  | some (v, H) => k v H
  | none => False
theorem onS_some {v : Value} {H : BH} {k : Value → BH → Prop} : onS (some (v, H)) k = k v H := rfl
def contV (d t : Option Nat) (r : List AOper) (K : Fr → BH → Prop) (f : Fr) (H : BH) : Value → Prop := fun v => opsT (dn d) r K (updO f t v) H
def contS (d t : Option Nat) (r : List AOper) (K : Fr → BH → Prop) (f : Fr) : Value → BH → Prop := fun v H => opsT (dn d) r K (updO f t v) H
variable {d : Option Nat} {t : Option Nat} {r : List AOper} {K : Fr → BH → Prop} {f : Fr} {H : BH}
theorem onV_cont {v : Value} : onV (some v) (contV d t r K f H) = opsT (dn d) r K (updO f t v) H := rfl
theorem onS_cont {v : Value} : onS (some (v, H)) (contS d t r K f) = opsT (dn d) r K (updO f t v) H := rfl
theorem contS_ap {v : Value} : contS d t r K f v H = opsT (dn d) r K (updO f t v) H := rfl
theorem ev_t {n : Nat} : ev f (.t n) = f n := rfl
theorem ev_int {k : IntKind} {n : Int} : ev f (.c (.int k n)) = .int k n := rfl
theorem ev_bool {b : Bool} : ev f (.c (.bool b)) = .bool b := rfl
theorem ev_str {b : ByteArray} : ev f (.c (.string b)) = .string b := rfl
theorem ev_nil : ev f (.c (.slice none 0 0)) = .slice none 0 0 := rfl
theorem ev_nilFunc : ev f (.c .nilFunc) = .nilFunc := rfl
theorem ev_nilp : ev f (.c (.pointer none)) = .pointer none := rfl
theorem ev_f {n : Nat} : ev f (.f n) = .func (.func n) #[] #[] := rfl
theorem opsT_nil : opsT d [] K f H = K f H := rfl
def gV (b : Bool) : Value → Option Bool
  | .bool x => some (x == b)
  | .tuple ⟨[]⟩ => some false
  | _ => none
def onG (o : Option Bool) (p q : Prop) : Prop :=
  match o with
  | some true => p
  | some false => q
  | none => False
theorem gV_t {x : Bool} : gV true (.bool x) = some x := by cases x <;> rfl
theorem gV_f {x : Bool} : gV false (.bool x) = some (!x) := by cases x <;> rfl
theorem gV_u {b : Bool} : gV b undef = some false := rfl
theorem onG_t {p q : Prop} : onG (some true) p q = p := rfl
theorem onG_f {p q : Prop} : onG (some false) p q = q := rfl
theorem opsT_guard {o : AOp} {g : Nat} {b : Bool} : opsT d (⟨t, o, some (g, b)⟩ :: r) K f H = onG (gV b (f g)) (opsT d (⟨t, o, none⟩ :: r) K f H) (opsT (dn d) r K (updO f t undef) H) := by
  have e : guardV (some (g, b)) f = gV b (f g) := rfl
  rw [opsT]
  simp only [e]
  generalize gV b (f g) = q
  match q with
  | some true =>
    show _ = opsT d (⟨t, o, none⟩ :: r) K f H
    conv => rhs; rw [opsT]
    rfl
  | some false => rfl
  | none => rfl
theorem opsT_call {g : Nat} {as : List Opd} : opsT d (⟨t, .call g as, none⟩ :: r) K f H = CallX (needExt d) g (as.map (ev f)) H (contS d t r K f) := by rw [opsT]; rfl
theorem opsT_callv {g : Opd} {as : List Opd} {cap : Nat} {caps : Array Value} (hg : ev f g = .func (.func cap) #[] caps) : opsT d (⟨t, .callv g as, none⟩ :: r) K f H = CallX (needExt d) cap (as.map (ev f) ++ caps.toList) H (contS d t r K f) := by
  rw [opsT]
  simp only [guardV, hg, true_and]
  rfl
theorem opsT_gen {o : AOp} (h2 : wrA o = false) (h3 : ∀ g as, o ≠ .call g as) (h4 : (∀ g as, o ≠ .callv g as) ∧ ∀ g as fl, o ≠ .callF g as fl) : opsT d (⟨t, o, none⟩ :: r) K f H = onS (bOp o (ev f) H) (contS d t r K f) := by
  rw [opsT]
  simp only [guardV]
  cases o <;> first | exact absurd rfl (h3 _ _) | exact absurd rfl (h4.1 _ _) | exact absurd rfl (h4.2 _ _ _) | (simp only [h2, Bool.false_eq_true, false_implies, true_and]; rfl)
theorem opsT_genw {o : AOp} (h2 : wrA o = true) : opsT d (⟨t, o, none⟩ :: r) K f H = (needExt d = false ∧ onS (bOp o (ev f) H) (contS d t r K f)) := by
  rw [opsT]
  simp only [guardV]
  cases o <;> first | (simp [wrA] at h2; done) | skip
  all_goals
    simp only [wrA, true_implies]
    generalize bOp _ (ev f) H = q
    match q with
    | some (v, H') => rfl
    | none => simp [onS]
theorem viaV {o : AOp} {w : Option Value} (h2 : wrA o = false) (h3 : ∀ g as, o ≠ .call g as) (h4 : (∀ g as, o ≠ .callv g as) ∧ ∀ g as fl, o ≠ .callF g as fl) (h : bOp o (ev f) H = w.map fun v => (v, H)) : opsT d (⟨t, o, none⟩ :: r) K f H = onV w (contV d t r K f H) := by
  rw [opsT_gen h2 h3 h4, h]
  cases w <;> rfl
theorem opsT_move {x : Opd} : opsT d (⟨t, .move x, none⟩ :: r) K f H = opsT (dn d) r K (updO f t (ev f x)) H := by
  rw [opsT_gen rfl (by simp) (by simp)]; rfl
theorem opsT_pick {c a b : Opd} : opsT d (⟨t, .pick c a b, none⟩ :: r) K f H = onV (pickV (ev f c) (ev f a) (ev f b)) (contV d t r K f H) :=
  viaV rfl (by simp) (by simp) (by simp only [bOp]; cases ev f c <;> rfl)
theorem opsT_bin {op : BinOp} {x y : Opd} : opsT d (⟨t, .bin op x y, none⟩ :: r) K f H = onV (aBin op (ev f x) (ev f y)) (contV d t r K f H) :=
  viaV rfl (by simp) (by simp) (by rfl)
theorem opsT_sbin {op : BinOp} {x y : Opd} : opsT d (⟨t, .sbin op x y, none⟩ :: r) K f H = onV (aSbin op (ev f x) (ev f y)) (contV d t r K f H) :=
  viaV rfl (by simp) (by simp) (by rfl)
theorem opsT_not {x : Opd} : opsT d (⟨t, .not x, none⟩ :: r) K f H = onV (notV (ev f x)) (contV d t r K f H) :=
  viaV rfl (by simp) (by simp) (by simp only [bOp]; cases ev f x <;> rfl)
theorem opsT_neg {x : Opd} : opsT d (⟨t, .neg x, none⟩ :: r) K f H = onV (negV (ev f x)) (contV d t r K f H) :=
  viaV rfl (by simp) (by simp) (by simp only [bOp]; cases ev f x <;> rfl)
theorem opsT_conv {k : IntKind} {x : Opd} : opsT d (⟨t, .conv k x, none⟩ :: r) K f H = onV (convV k (ev f x)) (contV d t r K f H) :=
  viaV rfl (by simp) (by simp) (by simp only [bOp]; cases ev f x <;> rfl)
theorem opsT_eqb {n : Bool} {x y : Opd} : opsT d (⟨t, .eqb n x y, none⟩ :: r) K f H = onV (eqbV n (ev f x) (ev f y)) (contV d t r K f H) :=
  viaV rfl (by simp) (by simp) (by simp only [bOp]; cases ev f x <;> cases ev f y <;> rfl)
def eqaV (neg : Bool) (n : Nat) (x y : Value) : Option Value := (aEqa n x y).map fun r => .bool (if neg then !r else r)
theorem opsT_eqa {neg : Bool} {n : Nat} {x y : Opd} : opsT d (⟨t, .eqa neg n x y, none⟩ :: r) K f H = onV (eqaV neg n (ev f x) (ev f y)) (contV d t r K f H) :=
  viaV rfl (by simp) (by simp) (by simp only [bOp, eqaV, Option.map_map]; rfl)
def eqnW (neg : Bool) : Value → Option Value
  | .slice a _ _ => some (.bool (if neg then !a.isNone else a.isNone))
  | .iface (_ + 1) (.iface _ (.tuple _)) => some (.bool neg)
  | _ => none
theorem eqnW_nil {neg : Bool} {n e : Nat} : eqnW neg (.slice none n e) = some (.bool !neg) := by cases neg <;> rfl
theorem eqnW_some {neg : Bool} {b o n e : Nat} : eqnW neg (S b o n e) = some (.bool neg) := by cases neg <;> rfl
theorem eqnW_fz {neg : Bool} {l e : Nat} {cs : List Value} (h : 0 < l) : eqnW neg (Fz l e cs) = some (.bool neg) := by
  obtain ⟨n, rfl⟩ : ∃ n, l = n + 1 := ⟨l - 1, by omega⟩
  rfl
theorem opsT_eqn {n : Bool} {x : Opd} : opsT d (⟨t, .eqn n x, none⟩ :: r) K f H = onV (eqnW n (ev f x)) (contV d t r K f H) :=
  viaV rfl (by simp) (by simp) (by
    simp only [bOp, eqnW]
    repeat' split
    all_goals first | rfl | simp_all)
def lenW : Value → Option Value
  | .slice _ n _ => some (.int .i64 n)
  | .iface n (.iface _ (.tuple _)) => some (.int .i64 n)
  | _ => none
theorem lenW_s {a : Option Addr} {n e : Nat} : lenW (.slice a n e) = some (.int .i64 n) := rfl
theorem lenW_fz {n e : Nat} {cs : List Value} : lenW (Fz n e cs) = some (.int .i64 n) := rfl
theorem opsT_len {x : Opd} : opsT d (⟨t, .len x, none⟩ :: r) K f H = onV (lenW (ev f x)) (contV d t r K f H) :=
  viaV rfl (by simp) (by simp) (by
    simp only [bOp, lenW]
    repeat' split
    all_goals first | rfl | simp_all)
def lenStrW : Value → Option Value
  | .string s => some (.int .i64 s.size)
  | _ => none
theorem lenStrW_s {s : ByteArray} : lenStrW (.string s) = some (.int .i64 s.size) := rfl
theorem opsT_lenStr {x : Opd} : opsT d (⟨t, .lenStr x, none⟩ :: r) K f H = onV (lenStrW (ev f x)) (contV d t r K f H) :=
  viaV rfl (by simp) (by simp) (by simp only [bOp]; cases ev f x <;> rfl)
theorem opsT_lenConst {n : Nat} : opsT d (⟨t, .lenConst n, none⟩ :: r) K f H = opsT (dn d) r K (updO f t (.int .i64 n)) H := by
  rw [opsT_gen rfl (by simp) (by simp)]; rfl
theorem opsT_extract {x : Opd} {j : Nat} : opsT d (⟨t, .extract x j, none⟩ :: r) K f H = onV (extV j (ev f x)) (contV d t r K f H) :=
  viaV rfl (by simp) (by simp) (by simp only [bOp]; cases ev f x <;> rfl)
theorem opsT_max {xs : List Opd} : opsT d (⟨t, .max xs, none⟩ :: r) K f H = onV (foldV max2 (xs.map (ev f))) (contV d t r K f H) :=
  viaV rfl (by simp) (by simp) (by rfl)
theorem opsT_min {xs : List Opd} : opsT d (⟨t, .min xs, none⟩ :: r) K f H = onV (foldV min2 (xs.map (ev f))) (contV d t r K f H) :=
  viaV rfl (by simp) (by simp) (by rfl)
def idxW (e : Nat) (x i : Value) : Option Value :=
  match x, intOf i with
  | .slice (some ⟨b, o, none⟩) len e', some i => if 0 ≤ i ∧ i < len ∧ e' = e then some (P b (o + i.toNat * e)) else none
  | .iface len (.iface e' (.tuple ⟨cs⟩)), some i => if 0 ≤ i ∧ i < len ∧ e' = e then some (Fp (i.toNat * e) cs) else none
  | _, _ => none
theorem idxW_s {b o len e : Nat} {k : IntKind} {i : Int} (h : 0 ≤ i ∧ i < len) : idxW e (S b o len e) (.int k i) = some (P b (o + i.toNat * e)) := by simp [idxW, intOf, h]
theorem idxW_fz {len e : Nat} {cs : List Value} {k : IntKind} {i : Int} (h : 0 ≤ i ∧ i < len) : idxW e (Fz len e cs) (.int k i) = some (Fp (i.toNat * e) cs) := by simp [idxW, Fz, intOf, h]
theorem opsT_indexAddr {e : Nat} {x i : Opd} : opsT d (⟨t, .indexAddr none e x i, none⟩ :: r) K f H = onV (idxW e (ev f x) (ev f i)) (contV d t r K f H) :=
  viaV rfl (by simp) (by simp) (by
    simp only [bOp, idxW]
    generalize intOf (ev f i) = q
    generalize ev f x = vx
    cases vx <;> try rfl
    case slice a n e' =>
      cases a <;> try rfl
      rename_i a
      obtain ⟨b, o, sp⟩ := a
      cases sp <;> cases q <;> try rfl
      simp only
      split <;> rfl
    case iface l w =>
      cases w <;> try rfl
      rename_i l w
      cases w <;> try rfl
      cases q <;> try rfl
      simp only
      split <;> rfl)
def idxB (n e : Nat) (x i : Value) : Option Value :=
  match x, intOf i with
  | .pointer (some ⟨b, o, none⟩), some i => if 0 ≤ i ∧ i < n then some (P b (o + i.toNat * e)) else none
  | .iface o (.tuple ⟨cs⟩), some i => if 0 ≤ i ∧ i < n then some (Fp (o + i.toNat * e) cs) else none
  | _, _ => none
theorem idxB_p {n e b o : Nat} {k : IntKind} {i : Int} (h : 0 ≤ i ∧ i < n) : idxB n e (P b o) (.int k i) = some (P b (o + i.toNat * e)) := by simp [idxB, intOf, h]
theorem idxB_fp {n e o : Nat} {cs : List Value} {k : IntKind} {i : Int} (h : 0 ≤ i ∧ i < n) : idxB n e (Fp o cs) (.int k i) = some (Fp (o + i.toNat * e) cs) := by simp [idxB, Fp, intOf, h]
theorem opsT_indexAddrA {n e : Nat} {x i : Opd} : opsT d (⟨t, .indexAddr (some n) e x i, none⟩ :: r) K f H = onV (idxB n e (ev f x) (ev f i)) (contV d t r K f H) :=
  viaV rfl (by simp) (by simp) (by
    simp only [bOp, idxB]
    generalize intOf (ev f i) = q
    generalize ev f x = vx
    cases vx <;> try rfl
    case pointer a =>
      cases a <;> try rfl
      rename_i a
      obtain ⟨b, o, sp⟩ := a
      cases sp <;> cases q <;> try rfl
      simp only
      split <;> rfl
    case iface l w =>
      cases w <;> try rfl
      cases q <;> try rfl
      simp only
      split <;> rfl)
def loadW (n : Option Nat) (H : BH) : Value → Option Value
  | .pointer (some ⟨b, o, none⟩) => (match blk H b with | some cs => getN n cs o | none => none)
  | .iface o (.tuple ⟨cs⟩) => getN n cs o
  | _ => none
def getO (n : Option Nat) (c : Option (List Value)) (o : Nat) : Option Value :=
  match c with
  | some cs => getN n cs o
  | none => none
theorem getO_some {n : Option Nat} {cs : List Value} {o : Nat} : getO n (some cs) o = getN n cs o := rfl
theorem loadW_p {n : Option Nat} {b o : Nat} : loadW n H (P b o) = getO n (blk H b) o := by simp only [loadW, getO]
theorem loadW_fp {n : Option Nat} {o : Nat} {cs : List Value} : loadW n H (Fp o cs) = getN n cs o := rfl
theorem opsT_load {n : Option Nat} {a : Opd} : opsT d (⟨t, .load n a, none⟩ :: r) K f H = onV (loadW n H (ev f a)) (contV d t r K f H) :=
  viaV rfl (by simp) (by simp) (by
    simp only [bOp, loadW]
    repeat' split
    all_goals simp_all)
def storeW (n : Nat) (a v : Value) (H : BH) : Option (Value × BH) :=
  match a with
  | .pointer (some ⟨b, o, none⟩) =>
    (match blk H b with
    | some cs =>
      (match cells2 v with
      | some vs => if vs.length = n ∧ o + n ≤ cs.length ∧ vs.all one2 = true then some (undef, H.set b (some (splice cs o vs))) else none
      | none => none)
    | none => none)
  | _ => none
def stO (c : Option (List Value)) (H : BH) (b o n : Nat) (v : Value) : Option (Value × BH) :=
  match c, cells2 v with
  | some cs, some vs => if vs.length = n ∧ o + n ≤ cs.length ∧ vs.all one2 = true then some (undef, H.set b (some (splice cs o vs))) else none
  | _, _ => none
theorem storeW_p {b o n : Nat} {v : Value} : storeW n (P b o) v H = stO (blk H b) H b o n v := by
  simp only [storeW, stO]
  cases blk H b <;> cases cells2 v <;> rfl
theorem opsT_store {n : Nat} {a v : Opd} : opsT d (⟨t, .store n a v, none⟩ :: r) K f H = (needExt d = false ∧ onS (storeW n (ev f a) (ev f v) H) (contS d t r K f)) := by
  rw [opsT_genw rfl]
  have : bOp (.store n a v) (ev f) H = storeW n (ev f a) (ev f v) H := rfl
  rw [this]
def flkW (H : BH) (a : Value) : List Value → Bool
  | [] => true
  | x :: xs => flkB H a x && flkW H a xs
theorem flkW_nil {a : Value} : flkW H a [] = true := rfl
theorem flkW_cons {a x : Value} {xs : List Value} : flkW H a (x :: xs) = (flkB H a x && flkW H a xs) := rfl
theorem flkB_p {i o j q : Nat} : flkB H (P i o) (P j q) = (!(j == i) && (blk H j).isSome) := rfl
theorem flkB_s {i o j q n e : Nat} : flkB H (P i o) (S j q n e) = (!(j == i) && (blk H j).isSome) := rfl
theorem flkB_nil {i o : Nat} : flkB H (P i o) (.slice none 0 0) = true := rfl
theorem flkB_i {i o : Nat} {k : IntKind} {n : Int} : flkB H (P i o) (.int k n) = true := rfl
theorem flkB_b {i o : Nat} {b : Bool} : flkB H (P i o) (.bool b) = true := rfl
theorem flkB_fz {i o l e : Nat} {cs : List Value} : flkB H (P i o) (Fz l e cs) = true := rfl
theorem flkB_fp {i o l : Nat} {cs : List Value} : flkB H (P i o) (Fp l cs) = true := rfl
theorem flkB_a {i o : Nat} {cs : List Value} : flkB H (P i o) (aggL cs) = true := rfl
theorem isSome_s {cs : List Value} : (some cs).isSome = true := rfl
theorem opsT_storeF {n : Nat} {a v : Opd} {fl : List Opd} : opsT d (⟨t, .storeF n a v fl, none⟩ :: r) K f H = (flkW H (ev f a) (fl.map (ev f)) = true ∧ needExt d = false ∧ onS (storeW n (ev f a) (ev f v) H) (contS d t r K f)) := by
  rw [opsT_genw rfl]
  have e : (fl.all fun x => flkB H (ev f a) (ev f x)) = flkW H (ev f a) (fl.map (ev f)) := by
    induction fl with
    | nil => rfl
    | cons x xs ih => simp only [List.all_cons, List.map_cons, flkW_cons, ih]
  have : bOp (.storeF n a v fl) (ev f) H = if flkW H (ev f a) (fl.map (ev f)) = true then storeW n (ev f a) (ev f v) H else none := by
    rw [← e]; rfl
  rw [this]
  by_cases h : flkW H (ev f a) (fl.map (ev f)) = true
  · rw [if_pos h]; simp [h]
  · rw [if_neg h]; simp [h, onS]
theorem opsT_append {e b : Nat} {s x : Opd} : opsT d (⟨t, .append e b s x, none⟩ :: r) K f H = (needExt d = false ∧ onS (bAppend e b (ev f s) (ev f x) H) (contS d t r K f)) := by
  rw [opsT_genw rfl]; rfl
def contF (d t : Option Nat) (r : List AOper) (K : Fr → BH → Prop) (f : Fr) (H : BH) (l : List Value) : Value → BH → Prop := fun v H' => keepW H H' l ∧ opsT (dn d) r K (updO f t v) H'
theorem contF_ap {l : List Value} {v : Value} {H1 : BH} : contF d t r K f H l v H1 = (keepW H H1 l ∧ opsT (dn d) r K (updO f t v) H1) := rfl
theorem opsT_callF {g : Nat} {as fl : List Opd} : opsT d (⟨t, .callF g as fl, none⟩ :: r) K f H = (needExt d = false ∧ CallX false g (as.map (ev f)) H (contF d t r K f H (fl.map (ev f)))) := by rw [opsT]; rfl
theorem keepW_nil {H1 : BH} : keepW H H1 [] = True := rfl
theorem keepW_cons {H1 : BH} {x : Value} {xs : List Value} : keepW H H1 (x :: xs) = (keepP H H1 x ∧ keepW H H1 xs) := rfl
theorem keepP_p {H1 : BH} {j o : Nat} : keepP H H1 (P j o) = keepO (blk H j) (blk H1 j) := rfl
theorem keepP_s {H1 : BH} {j o l e : Nat} : keepP H H1 (S j o l e) = keepO (blk H j) (blk H1 j) := rfl
theorem keepP_i {H1 : BH} {k : IntKind} {n : Int} : keepP H H1 (.int k n) = True := rfl
theorem keepO_s {cs : List Value} (h : cs.all Am.plain = true) : keepO (some cs) (some cs) = True := eq_true ⟨rfl, h⟩
def flkX (H : BH) (a : Value) : List Value → Bool
  | [] => true
  | x :: xs => flkA H a x && flkX H a xs
theorem flkX_nil {a : Value} : flkX H a [] = true := rfl
theorem flkX_cons {a x : Value} {xs : List Value} : flkX H a (x :: xs) = (flkA H a x && flkX H a xs) := rfl
theorem flkA_s {i o l e : Nat} {x : Value} : flkA H (S i o l e) x = flkB H (P i 0) x := rfl
theorem flkA_n {x : Value} : flkA H (.slice none 0 0) x = true := rfl
theorem opsT_appendF {e_1 b : Nat} {s x : Opd} {fl : List Opd} : opsT d (⟨t, .appendF e_1 b s x fl, none⟩ :: r) K f H = (flkX H (ev f s) (fl.map (ev f)) = true ∧ needExt d = false ∧ onS (bAppend e_1 b (ev f s) (ev f x) H) (contS d t r K f)) := by
  rw [opsT_genw rfl]
  have e : (fl.all fun y => flkA H (ev f s) (ev f y)) = flkX H (ev f s) (fl.map (ev f)) := by
    induction fl with
    | nil => rfl
    | cons x xs ih => simp only [List.all_cons, List.map_cons, flkX_cons, ih]
  have : bOp (.appendF e_1 b s x fl) (ev f) H = if flkX H (ev f s) (fl.map (ev f)) = true then bAppend e_1 b (ev f s) (ev f x) H else none := by
    rw [← e]; rfl
  rw [this]
  by_cases h : flkX H (ev f s) (fl.map (ev f)) = true
  · rw [if_pos h]; simp [h]
  · rw [if_neg h]; simp [h, onS]
theorem opsT_alloc {z : List Value} : opsT d (⟨t, .alloc z, none⟩ :: r) K f H = (z.all Am.plain = true ∧ opsT (dn d) r K (updO f t (P H.length 0)) (H ++ [some z])) := by
  rw [opsT_gen rfl (by simp) (by simp)]
  simp only [bOp]
  split
  · rename_i h; simp only [h, true_and]; rfl
  · rename_i h; simp only [h]; simp [onS]
def boxW (v : Value) (H : BH) : Option (Value × BH) :=
  match cells2 v with
  | some cs => some (P H.length 0, H ++ [some cs])
  | none => none
theorem opsT_box {x : Opd} : opsT d (⟨t, .box x, none⟩ :: r) K f H = onS (boxW (ev f x) H) (contS d t r K f) := by
  rw [opsT_gen rfl (by simp) (by simp)]; rfl
theorem boxW_agg {cs : List Value} : boxW (aggL cs) H = some (P H.length 0, H ++ [some cs]) := rfl
theorem boxW_int {k : IntKind} {n : Int} : boxW (.int k n) H = some (P H.length 0, H ++ [some [.int k n]]) := rfl
theorem boxW_bool {b : Bool} : boxW (.bool b) H = some (P H.length 0, H ++ [some [.bool b]]) := rfl
theorem boxW_str {s : ByteArray} : boxW (.string s) H = some (P H.length 0, H ++ [some [.string s]]) := rfl
theorem boxW_s {a : Option Addr} {l e : Nat} : boxW (.slice a l e) H = some (P H.length 0, H ++ [some [.slice a l e]]) := rfl
theorem boxW_fz {l e : Nat} {cs : List Value} : boxW (Fz l e cs) H = some (P H.length 0, H ++ [some [Fz l e cs]]) := rfl
theorem boxW_p {b o : Nat} : boxW (P b o) H = some (P H.length 0, H ++ [some [P b o]]) := rfl
theorem boxW_func {g : Fn} {a b : Array Value} : boxW (.func g a b) H = some (P H.length 0, H ++ [some [.func g a b]]) := rfl
theorem opsT_build {z : List Value} {p : List (Nat × Nat × Opd)} : opsT d (⟨t, .build z p, none⟩ :: r) K f H = (z.all Am.plain = true ∧ (p.map fun p => nj (ev f p.2.2)).all id = true ∧ onV ((fillL z (p.map fun p => (p.1, p.2.1, ev f p.2.2))).map aggL) (contV d t r K f H)) := by
  rw [opsT_gen rfl (by simp) (by simp)]
  simp only [bOp, List.all_map, Function.id_comp]
  by_cases h : z.all Am.plain = true ∧ (p.all fun p => nj (ev f p.2.2)) = true
  · rw [if_pos h, ← and_assoc]
    simp only [h.1, h.2, and_self, true_and]
    cases fillL z _ <;> rfl
  · rw [if_neg h, ← and_assoc]
    simp only [h, false_and]
    rfl
theorem opsT_buildSlice {e n : Nat} {z : List Value} {p : List (Nat × Nat × Opd)} : opsT d (⟨t, .buildSlice e n z p, none⟩ :: r) K f H = (n * e ≤ 16777216 ∧ z.all Am.plain = true ∧ (p.map fun p => nj (ev f p.2.2)).all id = true ∧
    onS ((fillL (repl z n) (p.map fun p => (p.1, p.2.1, ev f p.2.2))).map fun cs => (S H.length 0 n e, H ++ [some cs])) (contS d t r K f)) := by
  rw [opsT_gen rfl (by simp) (by simp)]
  simp only [bOp, List.all_map, Function.id_comp]
  by_cases h : n * e ≤ 16777216 ∧ z.all Am.plain = true ∧ (p.all fun p => nj (ev f p.2.2)) = true
  · rw [if_pos h]
    simp only [h.1, h.2.1, h.2.2, true_and]
  · rw [if_neg h, ← and_assoc, ← and_assoc, and_assoc (a := n * e ≤ 16777216)]
    simp only [h, false_and]
    rfl
def mkW (e : Nat) (bytes : Nat) (z : List Value) (l c : Value) (H : BH) : Option (Value × BH) :=
  match l, c with
  | .int _ l, .int _ c => if 0 ≤ l ∧ l ≤ c ∧ c * bytes ≤ 140737488355328 ∧ c ≤ 9223372036854775807 then some (S H.length 0 l.toNat e, H ++ [some (repl z c.toNat)]) else none
  | _, _ => none
theorem mkW_i {e b : Nat} {z : List Value} {k : IntKind} {n : Int} {H : BH} (h : 0 ≤ n ∧ n * b ≤ 140737488355328 ∧ n ≤ 9223372036854775807) : mkW e b z (.int k n) (.int k n) H = some (S H.length 0 n.toNat e, H ++ [some (repl z n.toNat)]) := by
  simp only [mkW]
  rw [if_pos (by omega)]
theorem opsT_makeSlice {e b : Nat} {z : List Value} {l c : Opd} : opsT d (⟨t, .makeSlice e b z l c, none⟩ :: r) K f H = (z.all Am.plain = true ∧ onS (mkW e b z (ev f l) (ev f c) H) (contS d t r K f)) := by
  rw [opsT_gen rfl (by simp) (by simp)]
  simp only [bOp, mkW]
  generalize ev f l = vl
  generalize ev f c = vc
  by_cases hz : z.all Am.plain = true
  · simp only [hz, true_and]
    cases vl <;> cases vc <;> rfl
  · simp only [hz, Bool.false_eq_true, false_and, if_false]
    cases vl <;> cases vc <;> simp [onS]
def fadW (off : Nat) : Value → Option Value
  | .pointer (some ⟨b, o, none⟩) => some (P b (o + off))
  | .iface o (.tuple ⟨cs⟩) => some (Fp (o + off) cs)
  | _ => none
theorem fadW_p {off b o : Nat} : fadW off (P b o) = some (P b (o + off)) := rfl
theorem fadW_fp {off o : Nat} {cs : List Value} : fadW off (Fp o cs) = some (Fp (o + off) cs) := rfl
theorem opsT_fieldAddr {o : Nat} {x : Opd} : opsT d (⟨t, .fieldAddr o x, none⟩ :: r) K f H = onV (fadW o (ev f x)) (contV d t r K f H) :=
  viaV rfl (by simp) (by simp) (by
    simp only [bOp, fadW]
    repeat' split
    all_goals first | rfl | simp_all)
theorem opsT_field {n : Option Nat} {o : Nat} {x : Opd} : opsT d (⟨t, .field n o x, none⟩ :: r) K f H = onV (fldV n o (ev f x)) (contV d t r K f H) :=
  viaV rfl (by simp) (by simp) (by simp only [bOp]; cases ev f x <;> rfl)
theorem opsT_index {l e : Nat} {n : Option Nat} {x i : Opd} : opsT d (⟨t, .index l e n x i, none⟩ :: r) K f H = onV (ixV l e n (ev f x) (ev f i)) (contV d t r K f H) :=
  viaV rfl (by simp) (by simp) (by
    simp only [bOp]
    generalize ev f x = vx
    generalize ev f i = vi
    cases vx <;> cases vi <;> try rfl
    simp only [intOf, ixV]
    split <;> rfl)
def ixS : Value → Value → Option Value
  | .string s, .int _ i => if 0 ≤ i then (s[i.toNat]?).map fun b => .int .u8 b.toNat else none
  | _, _ => none
theorem opsT_indexStr {x i : Opd} : opsT d (⟨t, .indexStr x i, none⟩ :: r) K f H = onV (ixS (ev f x) (ev f i)) (contV d t r K f H) :=
  viaV rfl (by simp) (by simp) (by
    simp only [bOp]
    generalize ev f x = vx
    generalize ev f i = vi
    cases vx <;> cases vi <;> try rfl
    simp only [intOf, ixS]
    split
    · rw [Option.map_map]; rfl
    · rfl)
def nilW : Value → Option Value
  | .pointer (some ⟨b, o, none⟩) => some (P b o)
  | .iface o (.tuple ⟨cs⟩) => some (Fp o cs)
  | _ => none
theorem nilW_p {b o : Nat} : nilW (P b o) = some (P b o) := rfl
theorem nilW_fp {o : Nat} {cs : List Value} : nilW (Fp o cs) = some (Fp o cs) := rfl
theorem opsT_nilCheck {x : Opd} : opsT d (⟨t, .nilCheck x, none⟩ :: r) K f H = onV (nilW (ev f x)) (contV d t r K f H) :=
  viaV rfl (by simp) (by simp) (by
    simp only [bOp, nilW]
    repeat' split
    all_goals first | rfl | simp_all)
theorem opsT_makeFunc {g : Nat} {cs : List Opd} : opsT d (⟨t, .makeFunc g cs, none⟩ :: r) K f H = opsT (dn d) r K (updO f t (.func (.func g) #[] ⟨cs.map (ev f)⟩)) H := by
  rw [opsT_gen rfl (by simp) (by simp)]; rfl
def cutC (len : Nat) (lo hi : Option Value) : Option (Nat × Nat) := cutOf (fun | .c v => v | _ => undef) len (lo.map .c) (hi.map .c)
theorem cutC_ev {len : Nat} {lo hi : Option Opd} : cutC len (lo.map (ev f)) (hi.map (ev f)) = cutOf (ev f) len lo hi := by cases lo <;> cases hi <;> rfl
theorem cutC_hi {len : Nat} {k : IntKind} {h : Int} (hh : 0 ≤ h ∧ h ≤ len) : cutC len none (some (.int k h)) = some (0, h.toNat) := by
  simp only [cutC, Option.map_none, Option.map_some, cutOf, intOf]
  rw [if_pos (by omega)]; rfl
theorem cutC_lo {len : Nat} {k : IntKind} {l : Int} (hh : 0 ≤ l ∧ l ≤ len) : cutC len (some (.int k l)) none = some (l.toNat, len) := by
  simp only [cutC, Option.map_none, Option.map_some, cutOf, intOf]
  rw [if_pos (by omega)]; simp
theorem cutC_lohi {len : Nat} {k k' : IntKind} {l h : Int} (hh : 0 ≤ l ∧ l ≤ h ∧ h ≤ len) : cutC len (some (.int k l)) (some (.int k' h)) = some (l.toNat, h.toNat) := by
  simp only [cutC, Option.map_some, cutOf, intOf]
  rw [if_pos (by omega)]
theorem cutC_no {len : Nat} : cutC len none none = some (0, len) := by
  simp [cutC, cutOf]
def sliceW (e : Nat) (x : Value) (lo hi : Option Value) : Option Value :=
  match x with
  | .slice (some ⟨b, o, none⟩) len e' => if e' = e then (cutC len lo hi).map fun (l, h) => S b (o + l * e) (h - l) e else none
  | .slice none 0 0 => (cutC 0 lo hi).map fun _ => .slice none 0 0
  | .iface len (.iface e' (.tuple ⟨cs⟩)) => if e' = e then (cutC len lo hi).map fun (l, h) => Fz (h - l) e ((cs.drop (l * e)).take ((h - l) * e)) else none
  | _ => none
theorem sliceW_s {e b o len l h : Nat} {lo hi : Option Value} (hc : cutC len lo hi = some (l, h)) : sliceW e (S b o len e) lo hi = some (S b (o + l * e) (h - l) e) := by simp [sliceW, hc]
theorem sliceW_fz {e len l h : Nat} {cs : List Value} {lo hi : Option Value} (hc : cutC len lo hi = some (l, h)) : sliceW e (Fz len e cs) lo hi = some (Fz (h - l) e ((cs.drop (l * e)).take ((h - l) * e))) := by simp [sliceW, Fz, hc]
theorem opsT_slice {e : Nat} {x : Opd} {lo hi : Option Opd} : opsT d (⟨t, .slice e x lo hi, none⟩ :: r) K f H = onV (sliceW e (ev f x) (lo.map (ev f)) (hi.map (ev f))) (contV d t r K f H) :=
  viaV rfl (by simp) (by simp) (by
    simp only [bOp, sliceW, cutC_ev]
    generalize ev f x = vx
    cases vx <;> try rfl
    case slice a n e' =>
      cases a with
      | none =>
        cases n <;> cases e' <;> try rfl
        simp only
        rw [Option.map_map]; rfl
      | some a =>
        obtain ⟨b, o, sp⟩ := a
        cases sp <;> try rfl
        simp only
        split
        · rw [Option.map_map]; rfl
        · rfl
    case iface l w =>
      cases w <;> try rfl
      rename_i l w
      cases w <;> try rfl
      simp only
      split
      · rw [Option.map_map]; rfl
      · rfl)
def sliceStrW (x : Value) (lo hi : Option Value) : Option Value :=
  match x with
  | .string s => (cutC s.size lo hi).map fun (l, h) => .string (s.extract l h)
  | _ => none
theorem opsT_sliceStr {x : Opd} {lo hi : Option Opd} : opsT d (⟨t, .sliceStr x lo hi, none⟩ :: r) K f H = onV (sliceStrW (ev f x) (lo.map (ev f)) (hi.map (ev f))) (contV d t r K f H) :=
  viaV rfl (by simp) (by simp) (by
    simp only [bOp, sliceStrW, cutC_ev]
    generalize ev f x = vx
    cases vx <;> try rfl
    simp only
    rw [Option.map_map]; rfl)
def sliceArrW (len e : Nat) (H : BH) (x : Value) (lo hi : Option Value) : Option Value :=
  match x with
  | .pointer (some ⟨b, o, none⟩) => (match blk H b with | some cs => if o + len * e ≤ cs.length then (cutC len lo hi).map fun (l, h) => S b (o + l * e) (h - l) e else none | none => none)
  | _ => none
theorem opsT_sliceArr {len e : Nat} {x : Opd} {lo hi : Option Opd} : opsT d (⟨t, .sliceArr len e x lo hi, none⟩ :: r) K f H = onV (sliceArrW len e H (ev f x) (lo.map (ev f)) (hi.map (ev f))) (contV d t r K f H) :=
  viaV rfl (by simp) (by simp) (by
    simp only [bOp, sliceArrW, cutC_ev]
    generalize ev f x = vx
    cases vx <;> try rfl
    case pointer a =>
      cases a <;> try rfl
      rename_i a
      obtain ⟨b, o, sp⟩ := a
      cases sp <;> try rfl
      simp only
      cases blk H b with
      | none => rfl
      | some cs =>
        simp only
        split
        · rw [Option.map_map]; rfl
        · rfl)
end

/-! ### Cells -/
section
variable {H : BH}
theorem blk_0 {a : Option (List Value)} {l : BH} : blk (a :: l) 0 = a := rfl
theorem blk_1 {a b : Option (List Value)} {l : BH} : blk (a :: b :: l) 1 = b := rfl
theorem blk_2 {a b c : Option (List Value)} {l : BH} : blk (a :: b :: c :: l) 2 = c := rfl
theorem blk_3 {a b c e : Option (List Value)} {l : BH} : blk (a :: b :: c :: e :: l) 3 = e := rfl
theorem blk_4 {a b c e g : Option (List Value)} {l : BH} : blk (a :: b :: c :: e :: g :: l) 4 = g := rfl
theorem blk_5 {a b c e g h : Option (List Value)} {l : BH} : blk (a :: b :: c :: e :: g :: h :: l) 5 = h := rfl
theorem blk_6 {a b c e g h i : Option (List Value)} {l : BH} : blk (a :: b :: c :: e :: g :: h :: i :: l) 6 = i := rfl
theorem blk_7 {a b c e g h i j : Option (List Value)} {l : BH} : blk (a :: b :: c :: e :: g :: h :: i :: j :: l) 7 = j := rfl
theorem blk_8 {x0 x1 x2 x3 x4 x5 x6 x7 x8 : Option (List Value)} {l : BH} : blk (x0 :: x1 :: x2 :: x3 :: x4 :: x5 :: x6 :: x7 :: x8 :: l) 8 = x8 := rfl
theorem blk_9 {x0 x1 x2 x3 x4 x5 x6 x7 x8 x9 : Option (List Value)} {l : BH} : blk (x0 :: x1 :: x2 :: x3 :: x4 :: x5 :: x6 :: x7 :: x8 :: x9 :: l) 9 = x9 := rfl
theorem blk_10 {x0 x1 x2 x3 x4 x5 x6 x7 x8 x9 x10 : Option (List Value)} {l : BH} : blk (x0 :: x1 :: x2 :: x3 :: x4 :: x5 :: x6 :: x7 :: x8 :: x9 :: x10 :: l) 10 = x10 := rfl
theorem blk_11 {x0 x1 x2 x3 x4 x5 x6 x7 x8 x9 x10 x11 : Option (List Value)} {l : BH} : blk (x0 :: x1 :: x2 :: x3 :: x4 :: x5 :: x6 :: x7 :: x8 :: x9 :: x10 :: x11 :: l) 11 = x11 := rfl
theorem blk_12 {x0 x1 x2 x3 x4 x5 x6 x7 x8 x9 x10 x11 x12 : Option (List Value)} {l : BH} : blk (x0 :: x1 :: x2 :: x3 :: x4 :: x5 :: x6 :: x7 :: x8 :: x9 :: x10 :: x11 :: x12 :: l) 12 = x12 := rfl
theorem blk_13 {x0 x1 x2 x3 x4 x5 x6 x7 x8 x9 x10 x11 x12 x13 : Option (List Value)} {l : BH} : blk (x0 :: x1 :: x2 :: x3 :: x4 :: x5 :: x6 :: x7 :: x8 :: x9 :: x10 :: x11 :: x12 :: x13 :: l) 13 = x13 := rfl
/-- One cell of a row. -/
theorem getN_I {xs : List Int} {rest : List Value} {k : Nat} (h : k < xs.length) : getN none (xs.map I ++ rest) k = some (I (el xs k)) := by
  simp [getN, List.getElem?_append_left, h, el, List.getD]
theorem getN_I0 {xs : List Int} {k : Nat} (h : k < xs.length) : getN none (xs.map I) k = some (I (el xs k)) := by
  simp [getN, h, el, List.getD]
theorem getN_Y {p : List Nat} {k : Nat} (h : k < p.length) : getN none (p.map N8) k = some (N8 (nl p k)) := by
  simp [getN, h, nl, List.getD]
def bl (p : List Bool) (i : Nat) : Bool := p.getD i false
theorem getN_B {p : List Bool} {k : Nat} (h : k < p.length) : getN none (p.map B) k = some (.bool (bl p k)) := by
  simp [getN, h, bl, List.getD]
theorem getN_agg {n o : Nat} {cs : List Value} (h : o + n ≤ cs.length) : getN (some n) cs o = some (aggL ((cs.drop o).take n)) := by simp [getN, h]
theorem splice_1 {α : Type} {g : α → Value} {xs : List α} {k : Nat} {y : α} (h : k < xs.length) : splice (xs.map g) k [g y] = (xs.set k y).map g := by
  simp only [splice, List.length_singleton]
  rw [List.set_eq_take_append_cons_drop]
  simp [h, List.map_take, List.map_drop]
theorem splice_I {xs : List Int} {k : Nat} {y : Int} (h : k < xs.length) : splice (xs.map I) k [I y] = (xs.set k y).map I := splice_1 h
theorem splice_N {xs : List Nat} {k y : Nat} (h : k < xs.length) : splice (xs.map N8) k [N8 y] = (xs.set k y).map N8 := splice_1 h
theorem splice_B {xs : List Bool} {k : Nat} {y : Bool} (h : k < xs.length) : splice (xs.map B) k [.bool y] = (xs.set k y).map B := splice_1 h
theorem stO_1 {cs : List Value} {b o : Nat} {v : Value} {vs : List Value} (hv : cells2 v = some vs) (h1 : vs.length = 1) (h2 : vs.all one2 = true) (h : o < cs.length) : stO (some cs) H b o 1 v = some (undef, H.set b (some (splice cs o vs))) := by
  simp only [stO, hv]
  rw [if_pos ⟨h1, by omega, h2⟩]
theorem stO_int {cs : List Value} {b o : Nat} {k : IntKind} {n : Int} (h : o < cs.length) : stO (some cs) H b o 1 (.int k n) = some (undef, H.set b (some (splice cs o [.int k n]))) := stO_1 rfl rfl rfl h
theorem stO_bool {cs : List Value} {b o : Nat} {t : Bool} (h : o < cs.length) : stO (some cs) H b o 1 (.bool t) = some (undef, H.set b (some (splice cs o [.bool t]))) := stO_1 rfl rfl rfl h
theorem stO_agg {cs vs : List Value} {b o n : Nat} (h1 : vs.length = n) (h2 : vs.all one2 = true) (h : o + n ≤ cs.length) : stO (some cs) H b o n (aggL vs) = some (undef, H.set b (some (splice cs o vs))) := by
  simp only [stO, cells2]
  rw [if_pos ⟨h1, h, h2⟩]
theorem all_map {α : Type} {g : α → Value} {p : Value → Bool} {xs : List α} (h : ∀ a, p (g a) = true) : (xs.map g).all p = true := by
  simp [List.all_map, Function.comp_def, h]
theorem ones_N {p : List Nat} : (p.map N8).all one2 = true := all_map fun _ => rfl
theorem ones_I {p : List Int} : (p.map I).all one2 = true := all_map fun _ => rfl
theorem ones_B {p : List Bool} : (p.map B).all one2 = true := all_map fun _ => rfl
theorem plain_rb {n : Nat} {b : Bool} : (List.replicate n (Value.bool b)).all Am.plain = true := by simp [List.all_replicate, Am.plain]
theorem plain_ri {n : Nat} {k : IntKind} {m : Int} : (List.replicate n (Value.int k m)).all Am.plain = true := by simp [List.all_replicate, Am.plain]
theorem plain_b {b : Bool} : Am.plain (.bool b) = true := rfl
theorem plain_i {k : IntKind} {m : Int} : Am.plain (.int k m) = true := rfl
theorem plain_s {s : ByteArray} : Am.plain (.string s) = true := rfl
theorem plain_nil : Am.plain (.slice none 0 0) = true := rfl
theorem plain_nf : Am.plain .nilFunc = true := rfl
theorem w8 {n : Int} (h0 : 0 ≤ n) (h1 : n < 256) : IntKind.u8.wrap n = n := by
  have hb : (2 : Int) ^ (8 : Nat) = 256 := by decide
  have hb' : (2 : Int) ^ (7 : Nat) = 128 := by decide
  simp only [IntKind.wrap, IntKind.bits, IntKind.signed, hb, hb']
  simp only [Bool.false_and, Bool.false_eq_true, if_false]
  omega
theorem ixV_Y {len : Nat} {p : List Nat} {k : IntKind} {i : Int} (h : 0 ≤ i ∧ i < len) (hl : p.length = len) : ixV len 1 none (PL p) (.int k i) = some (N8 (nl p i.toNat)) := by
  rw [ixV_a, if_pos h, Nat.mul_one, getN_Y (by omega)]
theorem fill_0 {z : List Value} : fillL z [] = some z := rfl
theorem fill_c {z : List Value} {o n : Nat} {v : Value} {r : List (Nat × Nat × Value)} (h : (cellsL v).length = n ∧ o + n ≤ z.length) : fillL z ((o, n, v) :: r) = fillL (splice z o (cellsL v)) r := by
  simp only [fillL]; rw [if_pos h]
theorem fl1_i {v : Value} {k0 : IntKind} {n0 : Int} : fillL (List.replicate 1 v) [(0, 1, .int k0 n0)] = some [.int k0 n0] := rfl
theorem fl2_i {v : Value} {k0 : IntKind} {n0 : Int} {k1 : IntKind} {n1 : Int} : fillL (List.replicate 2 v) [(0, 1, .int k0 n0), (1, 1, .int k1 n1)] = some [.int k0 n0, .int k1 n1] := rfl
theorem fl3_i {v : Value} {k0 : IntKind} {n0 : Int} {k1 : IntKind} {n1 : Int} {k2 : IntKind} {n2 : Int} : fillL (List.replicate 3 v) [(0, 1, .int k0 n0), (1, 1, .int k1 n1), (2, 1, .int k2 n2)] = some [.int k0 n0, .int k1 n1, .int k2 n2] := rfl
theorem fl4_i {v : Value} {k0 : IntKind} {n0 : Int} {k1 : IntKind} {n1 : Int} {k2 : IntKind} {n2 : Int} {k3 : IntKind} {n3 : Int} : fillL (List.replicate 4 v) [(0, 1, .int k0 n0), (1, 1, .int k1 n1), (2, 1, .int k2 n2), (3, 1, .int k3 n3)] = some [.int k0 n0, .int k1 n1, .int k2 n2, .int k3 n3] := rfl
theorem fl5_i {v : Value} {k0 : IntKind} {n0 : Int} {k1 : IntKind} {n1 : Int} {k2 : IntKind} {n2 : Int} {k3 : IntKind} {n3 : Int} {k4 : IntKind} {n4 : Int} : fillL (List.replicate 5 v) [(0, 1, .int k0 n0), (1, 1, .int k1 n1), (2, 1, .int k2 n2), (3, 1, .int k3 n3), (4, 1, .int k4 n4)] = some [.int k0 n0, .int k1 n1, .int k2 n2, .int k3 n3, .int k4 n4] := rfl
theorem fl6_i {v : Value} {k0 : IntKind} {n0 : Int} {k1 : IntKind} {n1 : Int} {k2 : IntKind} {n2 : Int} {k3 : IntKind} {n3 : Int} {k4 : IntKind} {n4 : Int} {k5 : IntKind} {n5 : Int} : fillL (List.replicate 6 v) [(0, 1, .int k0 n0), (1, 1, .int k1 n1), (2, 1, .int k2 n2), (3, 1, .int k3 n3), (4, 1, .int k4 n4), (5, 1, .int k5 n5)] = some [.int k0 n0, .int k1 n1, .int k2 n2, .int k3 n3, .int k4 n4, .int k5 n5] := rfl
theorem fl7_i {v : Value} {k0 : IntKind} {n0 : Int} {k1 : IntKind} {n1 : Int} {k2 : IntKind} {n2 : Int} {k3 : IntKind} {n3 : Int} {k4 : IntKind} {n4 : Int} {k5 : IntKind} {n5 : Int} {k6 : IntKind} {n6 : Int} : fillL (List.replicate 7 v) [(0, 1, .int k0 n0), (1, 1, .int k1 n1), (2, 1, .int k2 n2), (3, 1, .int k3 n3), (4, 1, .int k4 n4), (5, 1, .int k5 n5), (6, 1, .int k6 n6)] = some [.int k0 n0, .int k1 n1, .int k2 n2, .int k3 n3, .int k4 n4, .int k5 n5, .int k6 n6] := rfl
theorem fl1_z {v : Value} {l0 e0 : Nat} {c0 : List Value} : fillL (List.replicate 1 v) [(0, 1, Fz l0 e0 c0)] = some [Fz l0 e0 c0] := rfl
theorem fl2_z {v : Value} {l0 e0 : Nat} {c0 : List Value} {l1 e1 : Nat} {c1 : List Value} : fillL (List.replicate 2 v) [(0, 1, Fz l0 e0 c0), (1, 1, Fz l1 e1 c1)] = some [Fz l0 e0 c0, Fz l1 e1 c1] := rfl
theorem fl3_z {v : Value} {l0 e0 : Nat} {c0 : List Value} {l1 e1 : Nat} {c1 : List Value} {l2 e2 : Nat} {c2 : List Value} : fillL (List.replicate 3 v) [(0, 1, Fz l0 e0 c0), (1, 1, Fz l1 e1 c1), (2, 1, Fz l2 e2 c2)] = some [Fz l0 e0 c0, Fz l1 e1 c1, Fz l2 e2 c2] := rfl
theorem fl1_s {v : Value} {s0 : ByteArray} : fillL (List.replicate 1 v) [(0, 1, .string s0)] = some [.string s0] := rfl
theorem fl2_s {v : Value} {s0 : ByteArray} {s1 : ByteArray} : fillL (List.replicate 2 v) [(0, 1, .string s0), (1, 1, .string s1)] = some [.string s0, .string s1] := rfl
theorem fl3_s {v : Value} {s0 : ByteArray} {s1 : ByteArray} {s2 : ByteArray} : fillL (List.replicate 3 v) [(0, 1, .string s0), (1, 1, .string s1), (2, 1, .string s2)] = some [.string s0, .string s1, .string s2] := rfl
theorem fl1_l {v : Value} {a0 : Option Addr} {l0 e0 : Nat} : fillL (List.replicate 1 v) [(0, 1, .slice a0 l0 e0)] = some [.slice a0 l0 e0] := rfl
theorem fl2_l {v : Value} {a0 : Option Addr} {l0 e0 : Nat} {a1 : Option Addr} {l1 e1 : Nat} : fillL (List.replicate 2 v) [(0, 1, .slice a0 l0 e0), (1, 1, .slice a1 l1 e1)] = some [.slice a0 l0 e0, .slice a1 l1 e1] := rfl
theorem fl3_l {v : Value} {a0 : Option Addr} {l0 e0 : Nat} {a1 : Option Addr} {l1 e1 : Nat} {a2 : Option Addr} {l2 e2 : Nat} : fillL (List.replicate 3 v) [(0, 1, .slice a0 l0 e0), (1, 1, .slice a1 l1 e1), (2, 1, .slice a2 l2 e2)] = some [.slice a0 l0 e0, .slice a1 l1 e1, .slice a2 l2 e2] := rfl
theorem fl1_b {v : Value} {b0 : Bool} : fillL (List.replicate 1 v) [(0, 1, .bool b0)] = some [.bool b0] := rfl
theorem fl2_b {v : Value} {b0 : Bool} {b1 : Bool} : fillL (List.replicate 2 v) [(0, 1, .bool b0), (1, 1, .bool b1)] = some [.bool b0, .bool b1] := rfl
theorem fl3_b {v : Value} {b0 : Bool} {b1 : Bool} {b2 : Bool} : fillL (List.replicate 3 v) [(0, 1, .bool b0), (1, 1, .bool b1), (2, 1, .bool b2)] = some [.bool b0, .bool b1, .bool b2] := rfl
theorem repl1 {v : Value} {n : Nat} : repl [v] n = List.replicate n v := repl_one v n
theorem splice_0 {a b : Value} {l : List Value} : splice (a :: l) 0 [b] = b :: l := rfl
theorem splice_s {a b : Value} {l : List Value} {n : Nat} : splice (a :: l) (n + 1) [b] = a :: splice l n [b] := rfl
theorem splice_full {cs vs : List Value} (h : vs.length = cs.length) : splice cs 0 vs = vs := by
  simp [splice, h]
theorem cellsL_i {k : IntKind} {n : Int} : cellsL (.int k n) = [.int k n] := rfl
theorem cellsL_b {b : Bool} : cellsL (.bool b) = [.bool b] := rfl
theorem cellsL_s {b : ByteArray} : cellsL (.string b) = [.string b] := rfl
theorem cellsL_fz {l e : Nat} {cs : List Value} : cellsL (Fz l e cs) = [Fz l e cs] := rfl
theorem cellsL_a {cs : List Value} : cellsL (aggL cs) = cs := rfl
theorem cellsL_sl {a : Option Addr} {l e : Nat} : cellsL (.slice a l e) = [.slice a l e] := rfl
theorem nj_i {k : IntKind} {n : Int} : nj (.int k n) = true := rfl
theorem nj_b {b : Bool} : nj (.bool b) = true := rfl
theorem nj_s {b : ByteArray} : nj (.string b) = true := rfl
theorem nj_fz {l e : Nat} {cs : List Value} : nj (Fz l e cs) = true := rfl
theorem nj_a {cs : List Value} : nj (aggL cs) = true := rfl
theorem nj_sl {a : Option Addr} {l e : Nat} : nj (.slice a l e) = true := rfl
theorem st_repB {cs : List Value} {b o n : Nat} {c : Bool} (h : o + n ≤ cs.length) : stO (some cs) H b o n (aggL (List.replicate n (.bool c))) = some (undef, H.set b (some (splice cs o (List.replicate n (.bool c))))) := stO_agg (by simp) (by simp [one2]) h
theorem st_repI {cs : List Value} {b o n : Nat} {k : IntKind} {c : Int} (h : o + n ≤ cs.length) : stO (some cs) H b o n (aggL (List.replicate n (.int k c))) = some (undef, H.set b (some (splice cs o (List.replicate n (.int k c))))) := stO_agg (by simp) (by simp [one2]) h
theorem st_N {cs : List Value} {b o n : Nat} {p : List Nat} (hp : p.length = n) (h : o + n ≤ cs.length) : stO (some cs) H b o n (aggL (p.map N8)) = some (undef, H.set b (some (splice cs o (p.map N8)))) := stO_agg (by simpa using hp) ones_N h
theorem st_I {cs : List Value} {b o n : Nat} {p : List Int} (hp : p.length = n) (h : o + n ≤ cs.length) : stO (some cs) H b o n (aggL (p.map I)) = some (undef, H.set b (some (splice cs o (p.map I)))) := stO_agg (by simpa using hp) ones_I h
theorem st_B {cs : List Value} {b o n : Nat} {p : List Bool} (hp : p.length = n) (h : o + n ≤ cs.length) : stO (some cs) H b o n (aggL (p.map B)) = some (undef, H.set b (some (splice cs o (p.map B)))) := stO_agg (by simpa using hp) ones_B h
theorem getN_N {n : Nat} {p : List Nat} (hp : p.length = n) : getN (some n) (p.map N8) 0 = some (PL p) := by
  rw [getN_agg (by simp [hp]), List.drop_zero, List.take_of_length_le (by simp [hp])]
theorem getN_Bs {n : Nat} {p : List Bool} (hp : p.length = n) : getN (some n) (p.map B) 0 = some (aggL (p.map B)) := by
  rw [getN_agg (by simp [hp]), List.drop_zero, List.take_of_length_le (by simp [hp])]
theorem getN_Is {n : Nat} {p : List Int} (hp : p.length = n) : getN (some n) (p.map I) 0 = some (aggL (p.map I)) := by
  rw [getN_agg (by simp [hp]), List.drop_zero, List.take_of_length_le (by simp [hp])]
theorem st1_B {s : List Bool} {b o : Nat} {c : Bool} (h : o < s.length) : stO (some (s.map B)) H b o 1 (.bool c) = some (undef, H.set b (some ((s.set o c).map B))) := by
  rw [stO_bool (by simpa using h), splice_B h]
theorem st1_N {s : List Nat} {b o c : Nat} (h : o < s.length) : stO (some (s.map N8)) H b o 1 (.int .u8 (c : Int)) = some (undef, H.set b (some ((s.set o c).map N8))) := by
  rw [stO_int (by simpa using h), splice_N h]
theorem st1_I {s : List Int} {b o : Nat} {c : Int} (h : o < s.length) : stO (some (s.map I)) H b o 1 (.int .i64 c) = some (undef, H.set b (some ((s.set o c).map I))) := by
  rw [stO_int (by simpa using h), splice_I h]
theorem st_r {v : Value} {b n : Nat} {vs : List Value} (hp : vs.length = n) (h1 : vs.all one2 = true) : stO (some (List.replicate n v)) H b 0 n (aggL vs) = some (undef, H.set b (some vs)) := by
  rw [stO_agg hp h1 (by simp), splice_full (by simpa using hp)]
theorem st_rN {v : Value} {b n : Nat} {p : List Nat} (hp : p.length = n) : stO (some (List.replicate n v)) H b 0 n (aggL (p.map N8)) = some (undef, H.set b (some (p.map N8))) := st_r (by simpa using hp) ones_N
theorem st_rI {v : Value} {b n : Nat} {p : List Int} (hp : p.length = n) : stO (some (List.replicate n v)) H b 0 n (aggL (p.map I)) = some (undef, H.set b (some (p.map I))) := st_r (by simpa using hp) ones_I
theorem st_rB {v : Value} {b n : Nat} {p : List Bool} (hp : p.length = n) : stO (some (List.replicate n v)) H b 0 n (aggL (p.map B)) = some (undef, H.set b (some (p.map B))) := st_r (by simpa using hp) ones_B
theorem st_rr {v : Value} {b n : Nat} {c : Bool} : stO (some (List.replicate n v)) H b 0 n (aggL (List.replicate n (.bool c))) = some (undef, H.set b (some (List.replicate n (.bool c)))) := st_r (by simp) (by simp [one2])
theorem st_ri {v : Value} {b n : Nat} {k : IntKind} {c : Int} : stO (some (List.replicate n v)) H b 0 n (aggL (List.replicate n (.int k c))) = some (undef, H.set b (some (List.replicate n (.int k c)))) := st_r (by simp) (by simp [one2])
theorem fl_b0 {n : Nat} {c : Bool} (h : 0 < n) : fillL (List.replicate n (.bool false)) [(0, 1, .bool c)] = some (((List.replicate n false).set 0 c).map B) := by
  simp only [fillL, cellsL, List.length_singleton, List.length_replicate]
  rw [if_pos ⟨trivial, by omega⟩, show List.replicate n (Value.bool false) = (List.replicate n false).map B by simp, splice_B (by simpa using h)]
theorem fl_n0 {n : Nat} {c : Nat} (h : 0 < n) : fillL (List.replicate n (.int .u8 0)) [(0, 1, .int .u8 (c : Int))] = some (((List.replicate n 0).set 0 c).map N8) := by
  simp only [fillL, cellsL, List.length_singleton, List.length_replicate]
  rw [if_pos ⟨trivial, by omega⟩, show List.replicate n (Value.int .u8 0) = (List.replicate n 0).map N8 by simp, splice_N (by simpa using h)]
theorem fl_n1 {n : Nat} (h : 0 < n) : fillL (List.replicate n (.int .u8 0)) [(0, 1, .int .u8 1)] = some (((List.replicate n 0).set 0 1).map N8) := fl_n0 (c := 1) h
theorem st_b0 {v : Value} {b n : Nat} {c : Bool} : stO (some (List.replicate n v)) H b 0 n (aggL (((List.replicate n false).set 0 c).map B)) = some (undef, H.set b (some (((List.replicate n false).set 0 c).map B))) := st_r (by simp) ones_B
theorem st_n0 {v : Value} {b n c : Nat} : stO (some (List.replicate n v)) H b 0 n (aggL (((List.replicate n 0).set 0 c).map N8)) = some (undef, H.set b (some (((List.replicate n 0).set 0 c).map N8))) := st_r (by simp) ones_N
theorem repB {n : Nat} {b : Bool} : List.replicate n (Value.bool b) = (List.replicate n b).map B := by simp
theorem repN {n m : Nat} : List.replicate n (Value.int .u8 (m : Int)) = (List.replicate n m).map N8 := by simp
theorem repI {n : Nat} {m : Int} : List.replicate n (Value.int .i64 m) = (List.replicate n m).map I := by simp
end
/-- One more element. -/
def app1 (y : Option (List Value)) (c : Option (List Value)) (H : BH) (b l bytes cn : Nat) : Option (Value × BH) :=
  match c, y with
  | some cs, some [v] => if l ≤ cs.length ∧ (l + 1) * bytes ≤ 140737488355328 ∧ one2 v = true then some (S H.length 0 (l + 1) 1, (H.set b none) ++ [some (cs.take l ++ [v])]) else none
  | _, _ => bAppend 1 bytes (S b 0 l 1) (S cn 0 1 1) H
theorem bApp_1 {H : BH} {b c l bytes : Nat} : bAppend 1 bytes (S b 0 l 1) (S c 0 1 1) H = app1 (blk H c) (blk H b) H b l bytes c := by
  unfold app1
  split
  · rename_i cs v hb hc
    simp [bAppend, newC, hb, hc]
  · rfl
section
variable {H : BH} {b bytes cn : Nat}
theorem app1_g {α : Type} {g : α → Value} {xs : List α} {y : α} (ho : one2 (g y) = true) (h : (xs.length + 1) * bytes ≤ 140737488355328) : app1 (some [g y]) (some (xs.map g)) H b xs.length bytes cn = some (S H.length 0 (xs.length + 1) 1, (H.set b none) ++ [some ((xs ++ [y]).map g)]) := by
  simp only [app1]
  rw [if_pos ⟨by simp, h, ho⟩]
  simp [List.take_of_length_le]
theorem app1_N {xs : List Nat} {y : Nat} (h : (xs.length + 1) * bytes ≤ 140737488355328) : app1 (some [.int .u8 (y : Int)]) (some (xs.map N8)) H b xs.length bytes cn = some (S H.length 0 (xs.length + 1) 1, (H.set b none) ++ [some ((xs ++ [y]).map N8)]) := app1_g (g := N8) rfl h
theorem app1_I {xs : List Int} {y : Int} (h : (xs.length + 1) * bytes ≤ 140737488355328) : app1 (some [.int .i64 y]) (some (xs.map I)) H b xs.length bytes cn = some (S H.length 0 (xs.length + 1) 1, (H.set b none) ++ [some ((xs ++ [y]).map I)]) := app1_g (g := I) rfl h
theorem app1_Z {xs : List (List Int)} {y : List Int} (h : (xs.length + 1) * bytes ≤ 140737488355328) : app1 (some [Fz y.length 1 (y.map I)]) (some (xs.map FI)) H b xs.length bytes cn = some (S H.length 0 (xs.length + 1) 1, (H.set b none) ++ [some ((xs ++ [y]).map FI)]) := app1_g (g := FI) rfl h
theorem app1_0 {v : Value} (ho : one2 v = true) (h : bytes ≤ 140737488355328) : app1 (some [v]) (some []) H b 0 bytes cn = some (S H.length 0 1 1, (H.set b none) ++ [some [v]]) := by
  simp only [app1]
  rw [if_pos ⟨by simp, by omega, ho⟩]; rfl
end
theorem ren_map {α : Type} {g : α → Value} {ns : List Nat} {xs : List α} (h : ∀ a, pl1 (g a) = true) : ren ns (aggL (xs.map g)) = aggL (xs.map g) := by
  simp only [ren]
  rw [if_pos (all_map h)]
theorem ren_PL {ns : List Nat} {p : List Nat} : ren ns (PL p) = PL p := ren_map fun _ => rfl
theorem ren_AB {ns : List Nat} {p : List Bool} : ren ns (aggL (p.map B)) = aggL (p.map B) := ren_map fun _ => rfl
theorem ren_AI {ns : List Nat} {p : List Int} : ren ns (aggL (p.map I)) = aggL (p.map I) := ren_map fun _ => rfl
theorem bodyQ_ret {k : Nat} {rs : List ARes} {K : Value → BH → Prop} {f : Fr} {H : BH} {vs : List Value} {v1 : Value} {H1 : BH} (h : resAll f H rs = some vs) (g : GhV k (tup vs) H v1 H1) (hK : K v1 H1) : bodyQ k rs K .ret f H := ⟨vs, h, v1, H1, g, hK⟩
theorem bodyQ_norm {k : Nat} {rs : List ARes} {K : Value → BH → Prop} {f : Fr} {H : BH} {vs : List Value} {v1 : Value} {H1 : BH} (h : resAll f H rs = some vs) (g : GhV k (tup vs) H v1 H1) (hK : K v1 H1) : bodyQ k rs K .normal f H := ⟨vs, h, v1, H1, g, hK⟩
theorem T_csplit {k : Nat} {Q : Ex → Fr → BH → Prop} {f : Fr} {H : BH} {c : Opd} {a b r : ACode} {p : Prop} {t : Bool} (hc : ev f c = .bool t) (hp : t = true ↔ p) (h1 : p → T k (.seq a r) Q f H) (h2 : ¬ p → T k (.seq b r) Q f H) : T k (.seq (.cond c a b) r) Q f H := by
  refine T_cseq hc ?_
  cases t
  · exact h2 fun h => by simpa using hp.2 h
  · exact h1 (hp.1 rfl)
theorem T_csplit1 {k : Nat} {Q : Ex → Fr → BH → Prop} {f : Fr} {H : BH} {c : Opd} {a b : ACode} {p : Prop} {t : Bool} (hc : ev f c = .bool t) (hp : t = true ↔ p) (h1 : p → T k a Q f H) (h2 : ¬ p → T k b Q f H) : T k (.cond c a b) Q f H := by
  refine T_cond hc ?_
  cases t
  · exact h2 fun h => by simpa using hp.2 h
  · exact h1 (hp.1 rfl)
/-- How a piece of code ends that is but an end. -/
def endX : ACode → Option Ex
  | .exit i => some (.exit i)
  | .ret => some .ret
  | .skip => some .normal
  | _ => none
theorem T_e {k : Nat} {Q : Ex → Fr → BH → Prop} {f : Fr} {H : BH} {c : ACode} {ex : Ex} (h : endX c = some ex) (hq : Q ex f H) : T k c Q f H := by
  cases c <;> simp only [endX, Option.some.injEq, reduceCtorEq] at h <;> subst h
  · exact T_skip hq
  · exact T_exit hq
  · exact T_ret hq
def nodB : List Nat → Bool
  | [] => true
  | a :: l => !l.contains a && nodB l
theorem nodB_nodup : ∀ {l : List Nat}, nodB l = true → l.Nodup
  | [], _ => List.nodup_nil
  | a :: l, h => by
    simp only [nodB, Bool.and_eq_true, Bool.not_eq_true', List.contains_eq_mem, decide_eq_false_iff_not] at h
    exact List.nodup_cons.2 ⟨h.1, nodB_nodup h.2⟩
def chkB : Nat → Nat → List Nat → Bool
  | _, 0, _ => true
  | j, k + 1, a :: ns => Nat.beq a j && chkB (j + 1) k ns
  | _, _ + 1, [] => false
theorem chkB_get : ∀ {j k : Nat} {ns : List Nat}, chkB j k ns = true → ∀ i, i < k → ns[i]? = some (j + i)
  | _, 0, _, _, i, hi => absurd hi (Nat.not_lt_zero i)
  | j, k + 1, [], h, _, _ => by simp [chkB] at h
  | j, k + 1, a :: ns, h, i, hi => by
    simp only [chkB, Bool.and_eq_true] at h
    cases i with
    | zero => simp [Nat.eq_of_beq_eq_true h.1]
    | succ i =>
      rw [List.getElem?_cons_succ, chkB_get h.2 i (by omega)]
      simp
      omega
theorem Gh.nrm {k : Nat} {f : Fr} {H : BH} (ns : List Nat) (h1 : nodB ns = true) (h2 : chkB 0 k ns = true) (hn : HN H) : Gh k f H (fun t => ren ns (f t)) (ns.map (blk H)) :=
  Gh.norm ns (nodB_nodup h1) (fun j hj => by rw [chkB_get h2 j hj, Nat.zero_add]) hn
theorem GhV.nrm {k : Nat} {v : Value} {H : BH} (ns : List Nat) (h1 : nodB ns = true) (h2 : chkB 0 k ns = true) (hn : HN H) (hv : NN v) : GhV k v H v (ns.map (blk H)) :=
  GhV.norm ns (nodB_nodup h1) (fun j hj => by rw [chkB_get h2 j hj, Nat.zero_add]) hn hv
theorem NNL_nil : NNL [] = True := eq_true NNL.nil
theorem NNL_cons {c : Value} {cs : List Value} : NNL (c :: cs) = (NN c ∧ NNL cs) := propext ⟨fun h => ⟨h c (by simp), fun x hx => h x (by simp [hx])⟩, fun h => NNL.cons h.1 h.2⟩
theorem HN_nil : HN [] = True := eq_true HN.nil
theorem HN_none {H : BH} : HN (none :: H) = HN H := propext ⟨fun h i cs hc => h (i + 1) cs (by simpa [blk] using hc), HN.none⟩
theorem HN_some {H : BH} {c : List Value} : HN (some c :: H) = (NNL c ∧ HN H) := propext ⟨fun h => ⟨h 0 c rfl, fun i cs hc => h (i + 1) cs (by simpa [blk] using hc)⟩, fun h => HN.cons h.1 h.2⟩
theorem NN_agg {cs : List Value} (h : NNL cs) : NN (.agg ⟨cs⟩) := NN.agg h
theorem NN_tuple {cs : List Value} (h : NNL cs) : NN (.tuple ⟨cs⟩) := NN.tuple h
theorem NN_func {m : Nat} {cs : List Value} (h : NNL cs) : NN (.func (.func m) #[] ⟨cs⟩) := NN.func h
theorem NNL_app {as bs : List Value} (h : NNL as) (k : NNL bs) : NNL (as ++ bs) := NNL.append h k
theorem NNL_rep {n : Nat} {v : Value} (h : NN v) : NNL (List.replicate n v) := NNL.replicate h
theorem NNL_N {p : List Nat} : NNL (p.map N8) := NNL.map fun _ => NN.int
theorem NNL_I {p : List Int} : NNL (p.map I) := NNL.map fun _ => NN.int
theorem NNL_B {p : List Bool} : NNL (p.map B) := NNL.map fun _ => NN.bool
theorem NNL_FI {p : List (List Int)} : NNL (p.map FI) := NNL.map fun _ => NN.fz
theorem NNL_i {k : IntKind} {α : Type} {g : α → Int} {p : List α} : NNL (p.map fun x => Value.int k (g x)) := NNL.map fun _ => NN.int
theorem NNL_s {α : Type} {g : α → ByteArray} {p : List α} : NNL (p.map fun x => Value.string (g x)) := NNL.map fun _ => NN.string
theorem RF : (type_of% @upd_apply) ∧ (type_of% @frame0_0) ∧ (type_of% @frame0_1) ∧ (type_of% @frame0_2) ∧ (type_of% @frame0_3) ∧ (type_of% @frame0_nil) := ⟨@upd_apply, @frame0_0, @frame0_1, @frame0_2, @frame0_3, @frame0_nil⟩
theorem RO : (type_of% @opsT_nil) ∧ (type_of% @opsT_guard) ∧ (type_of% @opsT_call) ∧ (type_of% @opsT_store) ∧ (type_of% @opsT_storeF) ∧ (type_of% @flkW_nil) ∧ (type_of% @flkW_cons) ∧ (type_of% @flkB_p) ∧ (type_of% @flkB_s) ∧ (type_of% @flkB_nil) ∧ (type_of% @flkB_i) ∧ (type_of% @flkB_b) ∧ (type_of% @flkB_fz) ∧ (type_of% @flkB_fp) ∧ (type_of% @flkB_a) ∧ (type_of% @isSome_s) ∧ (type_of% @Bool.true_and) ∧ (type_of% @Bool.and_true) ∧ (type_of% @Bool.not_false) ∧ (type_of% @Bool.and_self) ∧ (type_of% @opsT_append) ∧ (type_of% @opsT_move) ∧ (type_of% @opsT_pick) ∧ (type_of% @opsT_bin) ∧ (type_of% @opsT_sbin) ∧ (type_of% @opsT_not) ∧ (type_of% @opsT_neg) ∧ (type_of% @opsT_conv) ∧ (type_of% @opsT_eqb) ∧ (type_of% @opsT_eqa) ∧ (type_of% @opsT_eqn) ∧ (type_of% @opsT_len) ∧ (type_of% @opsT_lenStr) ∧ (type_of% @opsT_lenConst) ∧ (type_of% @opsT_extract) ∧ (type_of% @opsT_max) ∧ (type_of% @opsT_min) ∧ (type_of% @opsT_indexAddr) ∧ (type_of% @opsT_indexAddrA) ∧ (type_of% @opsT_load) ∧ (type_of% @opsT_alloc) ∧ (type_of% @opsT_box) ∧ (type_of% @opsT_build) ∧ (type_of% @opsT_buildSlice) ∧ (type_of% @opsT_makeSlice) ∧ (type_of% @opsT_fieldAddr) ∧ (type_of% @opsT_field) ∧ (type_of% @opsT_index) ∧ (type_of% @opsT_indexStr) ∧ (type_of% @opsT_nilCheck) ∧ (type_of% @opsT_makeFunc) ∧ (type_of% @opsT_slice) ∧ (type_of% @opsT_sliceStr) ∧ (type_of% @opsT_sliceArr) ∧ (type_of% @onV_cont) ∧ (type_of% @onS_cont) ∧ (type_of% @contS_ap) ∧ (type_of% @dn_none) ∧ (type_of% @dn_some) ∧ (type_of% @ne_none) ∧ (type_of% @ne_some) ∧ (type_of% @ev_t) ∧ (type_of% @ev_int) ∧ (type_of% @ev_bool) ∧ (type_of% @ev_str) ∧ (type_of% @ev_nil) ∧ (type_of% @ev_nilFunc) ∧ (type_of% @ev_nilp) ∧ (type_of% @ev_f) ∧ (type_of% @updO_some) ∧ (type_of% @updO_none) ∧ (type_of% @gV_t) ∧ (type_of% @gV_f) ∧ (type_of% @gV_u) ∧ (type_of% @onG_t) ∧ (type_of% @onG_f) ∧ (type_of% @pickV_t) ∧ (type_of% @pickV_f) ∧ (type_of% @notV_b) ∧ (type_of% @negV_i) ∧ (type_of% @convV_i) ∧ (type_of% @eqbV_f) ∧ (type_of% @eqbV_t) ∧ (type_of% @eqnW_nil) ∧ (type_of% @eqnW_some) ∧ (type_of% @lenW_s) ∧ (type_of% @lenW_fz) ∧ (type_of% @lenStrW_s) ∧ (type_of% @ext0) ∧ (type_of% @ext1) ∧ (type_of% @loadW_p) ∧ (type_of% @loadW_fp) ∧ (type_of% @getO_some) ∧ (type_of% @storeW_p) ∧ (type_of% @boxW_agg) ∧ (type_of% @boxW_int) ∧ (type_of% @boxW_bool) ∧ (type_of% @boxW_str) ∧ (type_of% @boxW_s) ∧ (type_of% @boxW_fz) ∧ (type_of% @boxW_p) ∧ (type_of% @boxW_func) ∧ (type_of% @fadW_p) ∧ (type_of% @fadW_fp) ∧ (type_of% @fldV_a) ∧ (type_of% @nilW_p) ∧ (type_of% @nilW_fp) ∧ (type_of% @foldV_2) ∧ (type_of% @max2_i) ∧ (type_of% @aBin_add) ∧ (type_of% @aBin_sub) ∧ (type_of% @aBin_mul) ∧ (type_of% @aBin_quo) ∧ (type_of% @aBin_rem) ∧ (type_of% @aBin_eql) ∧ (type_of% @aBin_neq) ∧ (type_of% @aBin_lss) ∧ (type_of% @aBin_leq) ∧ (type_of% @aBin_gtr) ∧ (type_of% @aBin_geq) ∧ (type_of% @aBin_and) ∧ (type_of% @aBin_xor) ∧ (type_of% @aBin_shl) ∧ (type_of% @aBin_shr) ∧ (type_of% @blk_0) ∧ (type_of% @blk_1) ∧ (type_of% @blk_2) ∧ (type_of% @blk_3) ∧ (type_of% @blk_4) ∧ (type_of% @blk_5) ∧ (type_of% @blk_6) ∧ (type_of% @blk_7) ∧ (type_of% @blk_8) ∧ (type_of% @blk_9) ∧ (type_of% @blk_10) ∧ (type_of% @blk_11) ∧ (type_of% @blk_12) ∧ (type_of% @blk_13) ∧ (type_of% @bApp_1) ∧ (type_of% @plain_rb) ∧ (type_of% @plain_ri) ∧ (type_of% @plain_b) ∧ (type_of% @plain_i) ∧ (type_of% @plain_s) ∧ (type_of% @plain_nil) ∧ (type_of% @plain_nf) ∧ (type_of% @fill_0) ∧ (type_of% @repl1) ∧ (type_of% @fl1_i) ∧ (type_of% @fl2_i) ∧ (type_of% @fl3_i) ∧ (type_of% @fl4_i) ∧ (type_of% @fl5_i) ∧ (type_of% @fl6_i) ∧ (type_of% @fl7_i) ∧ (type_of% @fl1_z) ∧ (type_of% @fl2_z) ∧ (type_of% @fl3_z) ∧ (type_of% @fl1_s) ∧ (type_of% @fl2_s) ∧ (type_of% @fl3_s) ∧ (type_of% @fl1_l) ∧ (type_of% @fl2_l) ∧ (type_of% @fl3_l) ∧ (type_of% @fl1_b) ∧ (type_of% @fl2_b) ∧ (type_of% @fl3_b) ∧ (type_of% @cellsL_i) ∧ (type_of% @cellsL_b) ∧ (type_of% @cellsL_s) ∧ (type_of% @cellsL_fz) ∧ (type_of% @cellsL_a) ∧ (type_of% @cellsL_sl) ∧ (type_of% @nj_i) ∧ (type_of% @nj_b) ∧ (type_of% @nj_s) ∧ (type_of% @nj_fz) ∧ (type_of% @nj_a) ∧ (type_of% @nj_sl) ∧ (type_of% @splice_0) ∧ (type_of% @splice_s) ∧ (type_of% @List.replicate_zero.{0}) ∧ (type_of% @id_eq.{1}) := ⟨@opsT_nil, @opsT_guard, @opsT_call, @opsT_store, @opsT_storeF, @flkW_nil, @flkW_cons, @flkB_p, @flkB_s, @flkB_nil, @flkB_i, @flkB_b, @flkB_fz, @flkB_fp, @flkB_a, @isSome_s, @Bool.true_and, @Bool.and_true, @Bool.not_false, @Bool.and_self, @opsT_append, @opsT_move, @opsT_pick, @opsT_bin, @opsT_sbin, @opsT_not, @opsT_neg, @opsT_conv, @opsT_eqb, @opsT_eqa, @opsT_eqn, @opsT_len, @opsT_lenStr, @opsT_lenConst, @opsT_extract, @opsT_max, @opsT_min, @opsT_indexAddr, @opsT_indexAddrA, @opsT_load, @opsT_alloc, @opsT_box, @opsT_build, @opsT_buildSlice, @opsT_makeSlice, @opsT_fieldAddr, @opsT_field, @opsT_index, @opsT_indexStr, @opsT_nilCheck, @opsT_makeFunc, @opsT_slice, @opsT_sliceStr, @opsT_sliceArr, @onV_cont, @onS_cont, @contS_ap, @dn_none, @dn_some, @ne_none, @ne_some, @ev_t, @ev_int, @ev_bool, @ev_str, @ev_nil, @ev_nilFunc, @ev_nilp, @ev_f, @updO_some, @updO_none, @gV_t, @gV_f, @gV_u, @onG_t, @onG_f, @pickV_t, @pickV_f, @notV_b, @negV_i, @convV_i, @eqbV_f, @eqbV_t, @eqnW_nil, @eqnW_some, @lenW_s, @lenW_fz, @lenStrW_s, @ext0, @ext1, @loadW_p, @loadW_fp, @getO_some, @storeW_p, @boxW_agg, @boxW_int, @boxW_bool, @boxW_str, @boxW_s, @boxW_fz, @boxW_p, @boxW_func, @fadW_p, @fadW_fp, @fldV_a, @nilW_p, @nilW_fp, @foldV_2, @max2_i, @aBin_add, @aBin_sub, @aBin_mul, @aBin_quo, @aBin_rem, @aBin_eql, @aBin_neq, @aBin_lss, @aBin_leq, @aBin_gtr, @aBin_geq, @aBin_and, @aBin_xor, @aBin_shl, @aBin_shr, @blk_0, @blk_1, @blk_2, @blk_3, @blk_4, @blk_5, @blk_6, @blk_7, @blk_8, @blk_9, @blk_10, @blk_11, @blk_12, @blk_13, @bApp_1, @plain_rb, @plain_ri, @plain_b, @plain_i, @plain_s, @plain_nil, @plain_nf, @fill_0, @repl1, @fl1_i, @fl2_i, @fl3_i, @fl4_i, @fl5_i, @fl6_i, @fl7_i, @fl1_z, @fl2_z, @fl3_z, @fl1_s, @fl2_s, @fl3_s, @fl1_l, @fl2_l, @fl3_l, @fl1_b, @fl2_b, @fl3_b, @cellsL_i, @cellsL_b, @cellsL_s, @cellsL_fz, @cellsL_a, @cellsL_sl, @nj_i, @nj_b, @nj_s, @nj_fz, @nj_a, @nj_sl, @splice_0, @splice_s, @List.replicate_zero.{0}, @id_eq.{1}⟩
theorem RC : (type_of% @List.map_cons.{0,0}) ∧ (type_of% @List.map_nil.{0,0}) ∧ (type_of% @Option.map_some.{0,0}) ∧ (type_of% @Option.map_none.{0,0}) ∧ (type_of% @ge_iff_le.{0}) ∧ (type_of% @gt_iff_lt.{0}) ∧ (type_of% @decide_eq_true_eq) ∧ (type_of% @beq_self_eq_true.{0}) ∧ (type_of% @bne_self_eq_false.{0}) ∧ (type_of% @decide_true) ∧ (type_of% @decide_false) ∧ (type_of% @Bool.not_true) ∧ (type_of% @Bool.not_false) ∧ (type_of% @and_true) ∧ (type_of% @true_and) ∧ (type_of% @and_self) ∧ (type_of% @Bool.false_eq_true) ∧ (type_of% @beq_iff_eq.{0}) ∧ (type_of% @Int.natCast_nonneg) ∧ (type_of% @Int.ofNat_lt) ∧ (type_of% @Int.ofNat_le) ∧ (type_of% @Int.ofNat_inj) ∧ (type_of% @Int.toNat_natCast) ∧ (type_of% @Nat.mul_one) ∧ (type_of% @Nat.one_mul) ∧ (type_of% @Nat.zero_add) ∧ (type_of% @Nat.add_zero) ∧ (type_of% @Nat.sub_zero) ∧ (type_of% @List.length_append.{0}) ∧ (type_of% @List.length_map.{0,0}) ∧ (type_of% @List.length_cons.{0}) ∧ (type_of% @List.length_nil.{0}) ∧ (type_of% @List.length_set.{0}) ∧ (type_of% @List.length_replicate.{0}) ∧ (type_of% @List.all_cons.{0}) ∧ (type_of% @List.all_nil.{0}) ∧ (type_of% @Bool.and_true) ∧ (type_of% @Bool.true_and) ∧ (type_of% @Bool.not_eq_true) ∧ (type_of% @beq_true) ∧ (type_of% @beq_false) ∧ (type_of% @true_implies) ∧ (type_of% @false_implies) ∧ (type_of% @decide_eq_false_iff_not) ∧ (type_of% @bne_iff_ne.{0}) ∧ (type_of% @ne_eq.{1}) ∧ (type_of% @not_true_eq_false) ∧ (type_of% @not_false_eq_true) ∧ (type_of% @Int.natCast_zero) ∧ (type_of% @Int.toNat_zero) ∧ (type_of% @List.cons_append.{0}) ∧ (type_of% @List.nil_append.{0}) ∧ (type_of% @List.set_cons_zero.{0}) ∧ (type_of% @List.set_cons_succ.{0}) := ⟨@List.map_cons.{0,0}, @List.map_nil.{0,0}, @Option.map_some.{0,0}, @Option.map_none.{0,0}, @ge_iff_le.{0}, @gt_iff_lt.{0}, @decide_eq_true_eq, @beq_self_eq_true.{0}, @bne_self_eq_false.{0}, @decide_true, @decide_false, @Bool.not_true, @Bool.not_false, @and_true, @true_and, @and_self, @Bool.false_eq_true, @beq_iff_eq.{0}, @Int.natCast_nonneg, @Int.ofNat_lt, @Int.ofNat_le, @Int.ofNat_inj, @Int.toNat_natCast, @Nat.mul_one, @Nat.one_mul, @Nat.zero_add, @Nat.add_zero, @Nat.sub_zero, @List.length_append.{0}, @List.length_map.{0,0}, @List.length_cons.{0}, @List.length_nil.{0}, @List.length_set.{0}, @List.length_replicate.{0}, @List.all_cons.{0}, @List.all_nil.{0}, @Bool.and_true, @Bool.true_and, @Bool.not_eq_true, @beq_true, @beq_false, @true_implies, @false_implies, @decide_eq_false_iff_not, @bne_iff_ne.{0}, @ne_eq.{1}, @not_true_eq_false, @not_false_eq_true, @Int.natCast_zero, @Int.toNat_zero, @List.cons_append.{0}, @List.nil_append.{0}, @List.set_cons_zero.{0}, @List.set_cons_succ.{0}⟩
theorem RD : (type_of% @decT) ∧ (type_of% @decF) ∧ (type_of% @w64) ∧ (type_of% @w8) ∧ (type_of% @ifand) ∧ (type_of% @ifle) ∧ (type_of% @iflt) ∧ (type_of% @iflt') ∧ (type_of% @ifleN) ∧ (type_of% @ifltN) ∧ (type_of% @idxW_s) ∧ (type_of% @idxW_fz) ∧ (type_of% @idxB_p) ∧ (type_of% @idxB_fp) ∧ (type_of% @getN_I) ∧ (type_of% @getN_I0) ∧ (type_of% @getN_Y) ∧ (type_of% @getN_B) ∧ (type_of% @st1_B) ∧ (type_of% @st1_N) ∧ (type_of% @st1_I) ∧ (type_of% @ixV_Y) ∧ (type_of% @mkW_i) ∧ (type_of% @app1_N) ∧ (type_of% @app1_I) ∧ (type_of% @app1_Z) ∧ (type_of% @fl_b0) ∧ (type_of% @fl_n1) ∧ (type_of% @st_b0) ∧ (type_of% @st_n0) ∧ (type_of% @splice_full) ∧ (type_of% @st_rr) ∧ (type_of% @st_ri) ∧ (type_of% @st_rN) ∧ (type_of% @st_rI) ∧ (type_of% @st_rB) ∧ (type_of% @st_repB) ∧ (type_of% @st_repI) ∧ (type_of% @st_N) ∧ (type_of% @st_I) ∧ (type_of% @st_B) ∧ (type_of% @getN_N) ∧ (type_of% @getN_Bs) ∧ (type_of% @getN_Is) ∧ (type_of% @cutC_hi) ∧ (type_of% @cutC_lo) ∧ (type_of% @cutC_lohi) := ⟨@decT, @decF, @w64, @w8, @ifand, @ifle, @iflt, @iflt', @ifleN, @ifltN, @idxW_s, @idxW_fz, @idxB_p, @idxB_fp, @getN_I, @getN_I0, @getN_Y, @getN_B, @st1_B, @st1_N, @st1_I, @ixV_Y, @mkW_i, @app1_N, @app1_I, @app1_Z, @fl_b0, @fl_n1, @st_b0, @st_n0, @splice_full, @st_rr, @st_ri, @st_rN, @st_rI, @st_rB, @st_repB, @st_repI, @st_N, @st_I, @st_B, @getN_N, @getN_Bs, @getN_Is, @cutC_hi, @cutC_lo, @cutC_lohi⟩
theorem RK : (type_of% @opsT_callF) ∧ (type_of% @contF_ap) ∧ (type_of% @keepW_nil) ∧ (type_of% @keepW_cons) ∧ (type_of% @keepP_p) ∧ (type_of% @keepP_s) ∧ (type_of% @keepP_i) ∧ (type_of% @opsT_appendF) ∧ (type_of% @flkX_nil) ∧ (type_of% @flkX_cons) ∧ (type_of% @flkA_s) ∧ (type_of% @flkA_n) := ⟨@opsT_callF, @contF_ap, @keepW_nil, @keepW_cons, @keepP_p, @keepP_s, @keepP_i, @opsT_appendF, @flkX_nil, @flkX_cons, @flkA_s, @flkA_n⟩
theorem RZ : (type_of% @frz_i) ∧ (type_of% @frz_b) ∧ (type_of% @frz_s) ∧ (type_of% @frz_a) ∧ (type_of% @frz_z) ∧ (type_of% @frz_n) ∧ (type_of% @frz_p) ∧ (type_of% @List.map_cons.{0,0}) ∧ (type_of% @List.map_nil.{0,0}) ∧ (type_of% @List.set_cons_zero.{0}) ∧ (type_of% @List.set_cons_succ.{0}) := ⟨@frz_i, @frz_b, @frz_s, @frz_a, @frz_z, @frz_n, @frz_p, @List.map_cons.{0,0}, @List.map_nil.{0,0}, @List.set_cons_zero.{0}, @List.set_cons_succ.{0}⟩
theorem RN : (type_of% @T_aiff) ∧ (type_of% @T_skiff) ∧ (type_of% @T_retiff) ∧ (type_of% @T_exiff) ∧ (type_of% @if_true.{1}) ∧ (type_of% @if_false.{1}) ∧ (type_of% @Bool.false_eq_true) := ⟨@T_aiff, @T_skiff, @T_retiff, @T_exiff, @if_true.{1}, @if_false.{1}, @Bool.false_eq_true⟩
theorem RA : (type_of% @RF) ∧ (type_of% @RO) ∧ (type_of% @RC) := ⟨@RF, @RO, @RC⟩
theorem RB : (type_of% @decide_eq_true_eq) ∧ (type_of% @Bool.or_eq_true) ∧ (type_of% @Bool.and_eq_true) ∧ (type_of% @Bool.not_eq_true') ∧ (type_of% @decide_eq_false_iff_not) ∧ (type_of% @Bool.not_eq_eq_eq_not) ∧ (type_of% @Bool.not_true) ∧ (type_of% @Bool.not_false) ∧ (type_of% @beq_iff_eq.{0}) ∧ (type_of% @Bool.false_eq_true) := ⟨@decide_eq_true_eq, @Bool.or_eq_true, @Bool.and_eq_true, @Bool.not_eq_true', @decide_eq_false_iff_not, @Bool.not_eq_eq_eq_not, @Bool.not_true, @Bool.not_false, @beq_iff_eq.{0}, @Bool.false_eq_true⟩
theorem RE : (type_of% @ren_PL) ∧ (type_of% @ren_AB) ∧ (type_of% @ren_AI) := ⟨@ren_PL, @ren_AB, @ren_AI⟩
theorem RH : (type_of% @NNL_nil) ∧ (type_of% @NNL_cons) ∧ (type_of% @HN_nil) ∧ (type_of% @HN_none) ∧ (type_of% @HN_some) ∧ (type_of% @NN_agg) ∧ (type_of% @NN_tuple) ∧ (type_of% @NN_func) ∧ (type_of% @NNL_app) ∧ (type_of% @NNL_rep) ∧ (type_of% @NNL_N) ∧ (type_of% @NNL_I) ∧ (type_of% @NNL_B) ∧ (type_of% @NNL_FI) ∧ (type_of% @NNL_i) ∧ (type_of% @NNL_s) ∧ (type_of% @NN.int) ∧ (type_of% @NN.bool) ∧ (type_of% @NN.string) ∧ (type_of% @NN.nil) ∧ (type_of% @NN.undef) ∧ (type_of% @NN.fz) ∧ (type_of% @and_true) ∧ (type_of% @true_and) ∧ (type_of% @and_self) := ⟨@NNL_nil, @NNL_cons, @HN_nil, @HN_none, @HN_some, @NN_agg, @NN_tuple, @NN_func, @NNL_app, @NNL_rep, @NNL_N, @NNL_I, @NNL_B, @NNL_FI, @NNL_i, @NNL_s, @NN.int, @NN.bool, @NN.string, @NN.nil, @NN.undef, @NN.fz, @and_true, @true_and, @and_self⟩
end Go.Bm
