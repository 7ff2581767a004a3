/- bytes.Compare in the second machine. -/
import Derived.Test.YtbbgifoamnjhoaaBmS
import Derived.Test.YtbbgifoamnjhoaaDp0
set_option linter.unusedVariables false
set_option linter.unusedSimpArgs false
namespace Go.Bm
open Go Go.Am

def cmpB (p q : List Nat) : Int := Lib.compareBytes (Lib.bytesOf (p.map fun n : Nat => (n : Int))) (Lib.bytesOf (q.map fun n : Nat => (n : Int)))
theorem u8_lt {a b : Nat} (ha : a < 256) (hb : b < 256) : ((a : Int).toNat.toUInt8 < (b : Int).toNat.toUInt8) ↔ a < b := by
  rw [UInt8.lt_iff_toNat_lt]
  simp [Nat.mod_eq_of_lt ha, Nat.mod_eq_of_lt hb]
theorem cmpB_cons {a b : Nat} {p q : List Nat} (ha : a < 256) (hb : b < 256) : cmpB (a :: p) (b :: q) = if a < b then -1 else if b < a then 1 else cmpB p q := by
  show Lib.compareBytes (_ :: _) (_ :: _) = _
  rw [Lib.compareBytes]
  simp only [u8_lt ha hb, u8_lt hb ha]
  rfl
theorem cmpB_lt : ∀ {p q : List Nat}, p.length = q.length → (∀ x ∈ p, x < 256) → (∀ x ∈ q, x < 256) → ((cmpB p q < 0 ↔ p < q) ∧ (cmpB p q = 0 ↔ p = q))
  | [], [], _, _, _ => ⟨by simp [cmpB, Lib.bytesOf, Lib.compareBytes], by simp [cmpB, Lib.bytesOf, Lib.compareBytes]⟩
  | [], _ :: _, h, _, _ => by simp at h
  | _ :: _, [], h, _, _ => by simp at h
  | a :: p, b :: q, h, hp, hq => by
    have ih := cmpB_lt (p := p) (q := q) (by simpa using h) (fun x hx => hp x (by simp [hx])) (fun x hx => hq x (by simp [hx]))
    rw [cmpB_cons (hp a (by simp)) (hq b (by simp)), List.cons_lt_cons_iff]
    rcases Nat.lt_trichotomy a b with h1 | h1 | h1
    · rw [if_pos h1]
      refine ⟨⟨fun _ => .inl h1, fun _ => by omega⟩, ⟨fun h => by omega, fun h => ?_⟩⟩
      injection h with h2
      omega
    · subst h1
      rw [if_neg (by omega), if_neg (by omega), ih.1, ih.2]
      refine ⟨⟨fun h => .inr ⟨rfl, h⟩, fun h => ?_⟩, by simp⟩
      rcases h with h | h
      · omega
      · exact h.2
    · rw [if_neg (by omega), if_pos h1]
      refine ⟨⟨fun h => by omega, fun h => ?_⟩, ⟨fun h => by omega, fun h => ?_⟩⟩
      · rcases h with h | h <;> omega
      · injection h with h2
        omega
theorem Compare_own {x : Bool} {i j : Nat} {p q : List Nat} {H : BH} {K : Value → BH → Prop} (hi : blk H i = some (p.map N8)) (hj : blk H j = some (q.map N8)) (hp : 0 < p.length) (hq : 0 < q.length)
    (hK : K (I (cmpB p q)) H) : CallX x F_bytes_Compare [S i 0 p.length 1, S j 0 q.length 1] H K := by
  intro ρ Z as HA h1 h2
  obtain ⟨u1, us, rfl, v1, h3⟩ := h1.uncons
  obtain ⟨u2, us2, rfl, v2, h4⟩ := h3.uncons
  obtain rfl := h4.unnil
  obtain ⟨b1, r1, rfl⟩ := v1.slice_inv
  obtain ⟨b2, r2, rfl⟩ := v2.slice_inv
  have hat : ∀ (i b : Nat) (p : List Nat), blk H i = some (p.map N8) → 0 < p.length → ρ i = some b → BytesAt HA (.slice (some ⟨b, 0, none⟩) p.length 1) (p.map fun n : Nat => (n : Int)) := by
    intro i b p hb hp hr
    obtain ⟨b', bk, e1, e2, e3, e4, e5⟩ := h2.liv i _ hb
    rw [hr] at e1
    cases e1
    refine ⟨b, 0, bk, by rw [List.length_map], by simpa using hp, e3, fun t x hx => ?_⟩
    simp only [List.getElem?_map, Option.map_eq_some_iff] at hx
    obtain ⟨n, hn, rfl⟩ := hx
    obtain ⟨d, hd, hv⟩ := e5.at_ (i := t) (c := N8 n) (by simp [hn])
    rw [Nat.zero_add, hd, hv.int]
  exact ⟨_, HA, .outer ⟨rfl, rfl, _, _, _, _, rfl, hat i b1 p hi hp r1, hat j b2 q hj hq r2, rfl⟩, fun _ => Ext.refl' _, ρ, Z, _, H, .z (.plain rfl), h2, Nat.le_refl _, fun _ _ => rfl, .refl _ _ _ _, hK⟩
end Go.Bm
