/- Rules for arrays and structs. -/
import Derived.Test.YteklchkdgpoedaaAmS
set_option linter.unusedVariables false
set_option linter.unusedSimpArgs false
namespace Go.Am
open Go
def idxA (n e : Nat) : Value → Value → Option Value
  | .pointer (some ⟨b, o, none⟩), .int _ i => if 0 ≤ i ∧ i < n then some (P b (o + i.toNat * e)) else none
  | _, _ => none
theorem idxA_p {n e b o : Nat} {k : IntKind} {i : Int} : idxA n e (P b o) (.int k i) = if 0 ≤ i ∧ i < n then some (P b (o + i.toNat * e)) else none := rfl
def fadV (off : Nat) : Value → Option Value
  | .pointer (some ⟨b, o, none⟩) => some (P b (o + off))
  | _ => none
theorem fadV_p {off b o : Nat} : fadV off (P b o) = some (P b (o + off)) := rfl
def fldV (n : Option Nat) (off : Nat) : Value → Option Value
  | .agg cs => getN n cs.toList off
  | _ => none
theorem fldV_a {n : Option Nat} {off : Nat} {cs : List Value} : fldV n off (aggL cs) = getN n cs off := rfl
def ixV (len e : Nat) (n : Option Nat) : Value → Value → Option Value
  | .agg cs, .int _ i => if 0 ≤ i ∧ i < len then getN n cs.toList (i.toNat * e) else none
  | _, _ => none
theorem ixV_a {len e : Nat} {n : Option Nat} {cs : List Value} {k : IntKind} {i : Int} : ixV len e n (aggL cs) (.int k i) = if 0 ≤ i ∧ i < len then getN n cs (i.toNat * e) else none := rfl
def nilV : Value → Option Value
  | .pointer (some a) => some (.pointer (some a))
  | _ => none
theorem nilV_p {a : Addr} : nilV (.pointer (some a)) = some (.pointer (some a)) := rfl
section
variable {d : Option Nat} {t : Option Nat} {r : List AOper} {K : Fr → AHeap → Prop} {f : Fr} {H : AHeap}
theorem opsT_alloc {z : List Value} : opsT d (⟨t, .alloc z, none⟩ :: r) K f H = opsT (dn d) r K (updO f t (P H.n 0)) (H.alloc z) := by
  rw [opsT_gen (by simp) (by simp) (by simp) (by simp) (by simp)]; rfl
theorem opsT_box {x : Opd} : opsT d (⟨t, .box x, none⟩ :: r) K f H = opsT (dn d) r K (updO f t (P H.n 0)) (H.alloc (cellsL (ev f x))) := by
  rw [opsT_gen (by simp) (by simp) (by simp) (by simp) (by simp)]; rfl
theorem opsT_build {z : List Value} {p : List (Nat × Nat × Opd)} : opsT d (⟨t, .build z p, none⟩ :: r) K f H = onV ((fillL z (p.map fun p => (p.1, p.2.1, ev f p.2.2))).map aggL) (contV d t r K f H) :=
  viaV (by simp) (by simp) (by simp) (by simp) (by simp) (by simp only [aOp]; rw [Option.map_map]; rfl)
theorem opsT_indexAddrA {n e : Nat} {x i : Opd} : opsT d (⟨t, .indexAddr (some n) e x i, none⟩ :: r) K f H = onV (idxA n e (ev f x) (ev f i)) (contV d t r K f H) :=
  viaV (by simp) (by simp) (by simp) (by simp) (by simp) (by
    simp only [aOp]
    generalize ev f x = vx
    generalize ev f i = vi
    cases vx <;> try rfl
    rename_i a
    cases a <;> try rfl
    rename_i a
    obtain ⟨b, o, sp⟩ := a
    cases sp <;> cases vi <;> try rfl
    simp only [intOf, idxA]
    split <;> rfl)
theorem opsT_fieldAddr {o : Nat} {x : Opd} : opsT d (⟨t, .fieldAddr o x, none⟩ :: r) K f H = onV (fadV o (ev f x)) (contV d t r K f H) :=
  viaV (by simp) (by simp) (by simp) (by simp) (by simp) (by
    simp only [aOp]
    generalize ev f x = vx
    cases vx <;> try rfl
    rename_i a
    cases a <;> try rfl
    rename_i a
    obtain ⟨b, o, sp⟩ := a
    cases sp <;> rfl)
theorem opsT_field {n : Option Nat} {o : Nat} {x : Opd} : opsT d (⟨t, .field n o x, none⟩ :: r) K f H = onV (fldV n o (ev f x)) (contV d t r K f H) :=
  viaV (by simp) (by simp) (by simp) (by simp) (by simp) (by simp only [aOp]; cases ev f x <;> rfl)
theorem opsT_index {l e : Nat} {n : Option Nat} {x i : Opd} : opsT d (⟨t, .index l e n x i, none⟩ :: r) K f H = onV (ixV l e n (ev f x) (ev f i)) (contV d t r K f H) :=
  viaV (by simp) (by simp) (by simp) (by simp) (by simp) (by
    simp only [aOp]
    generalize ev f x = vx
    generalize ev f i = vi
    cases vx <;> cases vi <;> try rfl
    simp only [intOf, ixV]
    split <;> rfl)
theorem opsT_nilCheck {x : Opd} : opsT d (⟨t, .nilCheck x, none⟩ :: r) K f H = onV (nilV (ev f x)) (contV d t r K f H) :=
  viaV (by simp) (by simp) (by simp) (by simp) (by simp) (by
    simp only [aOp]
    generalize ev f x = vx
    cases vx <;> try rfl
    rename_i a
    cases a <;> rfl)
theorem opsT_lenConst {n : Nat} : opsT d (⟨t, .lenConst n, none⟩ :: r) K f H = opsT (dn d) r K (updO f t (.int .i64 n)) H := by
  rw [opsT_gen (by simp) (by simp) (by simp) (by simp) (by simp)]; rfl
theorem opsT_callv {g : Opd} {as : List Opd} {cap : Nat} {caps : Array Value} (hg : ev f g = .func (.func cap) #[] caps) : opsT d (⟨t, .callv g as, none⟩ :: r) K f H = CallT cap (as.map (ev f) ++ caps.toList) H (contC d t r K f H) := by
  rw [opsT]
  simp only [wantedA, if_true, hg, true_and]
  rfl
end
end Go.Am
