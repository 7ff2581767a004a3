/- Specifications of the small machine carried over: slices of numbers come as values that are only read. -/
import Derived.Test.YteklchkdgpoedaaBmS
import Derived.Test.YteklchkdgpoedaaAmS
set_option linter.unusedVariables false
set_option linter.unusedSimpArgs false
set_option linter.unusedSectionVars false
namespace Go.Bm
open Go Go.Am

theorem ext_refl {HA : AHeap} : Ext HA HA := ⟨Nat.le_refl _, fun _ _ => rfl⟩
theorem vz_I {Z : Nat → Option Blk} {k : Int} {d : Value} (h : VZ Z (I k) d) : d = I k := by
  cases h with
  | plain _ => rfl
theorem vr_I {ρ : Nat → Option Nat} {Z : Nat → Option Blk} {k : Int} {d : Value} (h : VR ρ Z (I k) d) : d = I k := by
  cases h with
  | z h => exact vz_I h
theorem isI_of {ρ : Nat → Option Nat} {Z : Nat → Option Blk} {H : BH} {HA : AHeap} {xs : List Int} {u : Value} (hR : Rel ρ Z H HA) (h : VR ρ Z (FI xs) u) : IsI HA u xs := by
  cases h with
  | z h =>
    unfold FI Fz at h
    generalize hm : xs.length = m at h
    generalize hcs : xs.map I = cs0 at h
    cases h with
    | plain hp => simp [Am.plain] at hp
    | @fz l e b o bk cs ds hz h1 h2 h3 h4 h5 =>
      obtain ⟨hb, hg⟩ := hR.fro _ _ hz
      subst hcs
      refine .inr ⟨b, o, bk, by rw [hm], hb, hg, by omega, fun i hi => ?_⟩
      have hd : ds[i]? = bk.cells[o + i]? := by rw [h4, List.getElem?_take, if_pos (by omega), List.getElem?_drop]
      have hl : i < ds.length := by rw [← h2, List.length_map]; exact hi
      have := h5 i (I (el xs i)) ds[i] (by rw [List.getElem?_map, List.getElem?_eq_getElem hi]; simp [el, List.getD, hi]) (List.getElem?_eq_getElem hl)
      rw [← hd, List.getElem?_eq_getElem hl, vz_I this]
    | fz0 => exact .inl ⟨rfl, List.eq_nil_of_length_eq_zero hm⟩
/-- A block that was made and is only read from now on. -/
theorem own_fz {ρ : Nat → Option Nat} {Z : Nat → Option Blk} {H : BH} {HA HA' : AHeap} {xs : List Int} {u : Value} (hR : Rel ρ Z H HA) (he : Ext HA HA') (h : OwnI HA.n HA'.n HA' u xs) :
    ∃ Z', VR ρ Z' (FI xs) u ∧ Rel ρ Z' H HA' ∧ Frm ρ Z H HA ρ Z' H HA' := by
  rcases h with ⟨rfl, rfl⟩ | ⟨b, rest, rfl, h1, h2, h3, h4⟩
  · exact ⟨Z, .z .fz0, ⟨fun i cs hc => by
      obtain ⟨b, bk, e1, e2, e3, e4, e5⟩ := hR.liv i cs hc
      exact ⟨b, bk, e1, by have := he.n; omega, by rw [he.get b e2, e3], e4, e5⟩, hR.inj, hR.dis, fun b bk hz => by
      obtain ⟨e1, e2⟩ := hR.fro b bk hz
      exact ⟨by have := he.n; omega, by rw [he.get b e1, e2]⟩, hR.top⟩, ⟨he.n, fun b hb _ => he.get b hb, fun i cs b h1 h2 => .inr ⟨i, cs, h1, h2⟩, fun _ _ h => h, fun _ _ h => .inl h⟩⟩
  · have hzn : ∀ c bk, Z c = some bk → c ≠ b := fun c bk hc => by have := (hR.fro c bk hc).1; omega
    have hzx : ∀ c bk, Z c = some bk → (fun c => if c = b then some (⟨xs.map I ++ rest, true⟩ : Blk) else Z c) c = some bk := fun c bk hc => by
      simp only [if_neg (hzn c bk hc)]; exact hc
    refine ⟨fun c => if c = b then some ⟨xs.map I ++ rest, true⟩ else Z c, ?_, ⟨fun i cs hc => ?_, hR.inj, fun i cs c e1 e2 => ?_, fun c bk hz => ?_, hR.top⟩, ⟨he.n, fun b hb _ => he.get b hb, fun i cs b h1 h2 => .inr ⟨i, cs, h1, h2⟩, hzx, fun c bk hz => ?_⟩⟩
    · refine .z (.fz (bk := ⟨xs.map I ++ rest, true⟩) (ds := ((xs.map I ++ rest).drop 0).take (xs.length * 1)) (if_pos rfl) (by simp) (by simp) (by simp) rfl fun i c d k1 k2 => ?_)
      rw [List.drop_zero, Nat.mul_one, List.take_append_of_le_length (by simp), List.take_of_length_le (by simp)] at k2
      rw [k1] at k2
      cases k2
      rw [List.getElem?_map, Option.map_eq_some_iff] at k1
      obtain ⟨y, _, rfl⟩ := k1
      exact .plain rfl
    · obtain ⟨c, bk, e1, e2, e3, e4, e5⟩ := hR.liv i cs hc
      exact ⟨c, bk, e1, by omega, by rw [he.get c e2, e3], e4, e5.1, fun i c d k1 k2 => (e5.2 i c d k1 k2).mono (fun _ _ h => h) hzx⟩
    · obtain ⟨c', bk, f1, f2, _⟩ := hR.liv i cs e1
      rw [e2] at f1
      cases f1
      simp only [if_neg (show ¬ c = b by omega)]
      exact hR.dis i cs c e1 e2
    · split at hz
      · rename_i hcb
        cases hz
        rw [hcb]
        exact ⟨h3, h4⟩
      · obtain ⟨e1, e2⟩ := hR.fro c bk hz
        exact ⟨by omega, by rw [he.get c e1, e2]⟩
    · split at hz
      · rename_i hcb
        exact .inr (.inl (by omega))
      · exact .inl hz
section
variable {x : Bool} {g : Nat} {vals : List Value} {H : BH} {K : Value → BH → Prop} {xs : List Int} {c : Int}
/-- A call of the small machine that gives a new slice and a number. -/
theorem lift_S (h : ∀ ρ Z as HA, VL ρ Z vals as → Rel ρ Z H HA → Am.CallT g as HA fun v' HA' => Ext HA HA' ∧ ∃ u, OwnI HA.n HA'.n HA' u xs ∧ v' = .tuple ⟨[u, I c]⟩) (hK : K (.tuple ⟨[FI xs, I c]⟩) H) : CallX x g vals H K := by
  intro ρ Z as HA h1 h2
  obtain ⟨v', HA', hc, he, u, ho, rfl⟩ := h ρ Z as HA h1 h2
  obtain ⟨Z', hv, hr, hf⟩ := own_fz h2 he ho
  refine ⟨_, HA', hc, fun _ => he, ρ, Z', _, H, ?_, hr, Nat.le_refl _, fun _ _ => rfl, hf, hK⟩
  refine .tuple rfl fun i a d k1 k2 => ?_
  match i, k1, k2 with
  | 0, k1, k2 => cases k1; cases k2; exact hv
  | 1, k1, k2 => cases k1; cases k2; exact .z (.plain rfl)
/-- The same with a result that is a plain value. -/
theorem lift_P {w : Value} (hp : ∀ Z, VZ Z w w) (h : ∀ ρ Z as HA, VL ρ Z vals as → Rel ρ Z H HA → Am.CallT g as HA fun v' HA' => Ext HA HA' ∧ v' = w) (hK : K w H) : CallX x g vals H K := by
  intro ρ Z as HA h1 h2
  obtain ⟨v', HA', hc, he, rfl⟩ := h ρ Z as HA h1 h2
  obtain ⟨Z', _, hr, hf⟩ := own_fz (xs := []) h2 he (.inl ⟨rfl, rfl⟩)
  exact ⟨_, _, hc, fun _ => he, ρ, Z', _, H, .z (hp _), hr, Nat.le_refl _, fun _ _ => rfl, hf, hK⟩
end
theorem vz_p2 {a b : Value} (ha : Am.plain a = true) (hb : Am.plain b = true) : ∀ Z, VZ Z (.tuple ⟨[a, b]⟩) (.tuple ⟨[a, b]⟩) := fun Z => .tuple rfl fun i c d k1 k2 => by
  match i, k1, k2 with
  | 0, k1, k2 => cases k1; cases k2; exact .plain ha
  | 1, k1, k2 => cases k1; cases k2; exact .plain hb
theorem vl1 {ρ : Nat → Option Nat} {Z : Nat → Option Blk} {a : Value} {as : List Value} (h : VL ρ Z [a] as) : ∃ u, as = [u] ∧ VR ρ Z a u := by
  obtain ⟨h1, h2⟩ := h
  match as, h1 with
  | [u], _ => exact ⟨u, rfl, h2 0 a u rfl rfl⟩
theorem vl2 {ρ : Nat → Option Nat} {Z : Nat → Option Blk} {a b : Value} {as : List Value} (h : VL ρ Z [a, b] as) : ∃ u v, as = [u, v] ∧ VR ρ Z a u ∧ VR ρ Z b v := by
  obtain ⟨h1, h2⟩ := h
  match as, h1 with
  | [u, v], _ => exact ⟨u, v, rfl, h2 0 a u rfl rfl, h2 1 b v rfl rfl⟩
theorem vl3 {ρ : Nat → Option Nat} {Z : Nat → Option Blk} {a b c : Value} {as : List Value} (h : VL ρ Z [a, b, c] as) : ∃ u v w, as = [u, v, w] ∧ VR ρ Z a u ∧ VR ρ Z b v ∧ VR ρ Z c w := by
  obtain ⟨h1, h2⟩ := h
  match as, h1 with
  | [u, v, w], _ => exact ⟨u, v, w, rfl, h2 0 a u rfl rfl, h2 1 b v rfl rfl, h2 2 c w rfl rfl⟩
/-- A block that was made and is one's own. -/
theorem own_new {ρ : Nat → Option Nat} {Z : Nat → Option Blk} {H : BH} {HA HA' : AHeap} {xs : List Int} {b : Nat} {rest : List Value} (hR : Rel ρ Z H HA) (he : Ext HA HA') (h1 : HA.n ≤ b) (h3 : b < HA'.n) (h4 : HA'.get b = some ⟨xs.map I ++ rest, true⟩) :
    let ρ' := fun i => if i = H.length then some b else ρ i
    let H' := H ++ [some (xs.map I ++ List.replicate rest.length .nilIface)]
    Rel ρ' Z H' HA' ∧ Frm ρ Z H HA ρ' Z H' HA' ∧ ∀ i, i < H.length → ρ' i = ρ i := by
  intro ρ' H'
  have hn : ρ' H.length = some b := if_pos rfl
  have ho : ∀ i, i ≠ H.length → ρ' i = ρ i := fun i hi => if_neg hi
  have hr : ∀ i c, ρ i = some c → ρ' i = some c := fun i c hc => by
    rw [ho i (fun q => by rw [q, hR.top _ (Nat.le_refl _)] at hc; cases hc), hc]
  have hb : ∀ i cs, blk H' i = some cs → (i = H.length ∧ cs = xs.map I ++ List.replicate rest.length .nilIface) ∨ (i ≠ H.length ∧ blk H i = some cs) := fun i cs hc => by
    rw [blk_append] at hc
    split at hc
    · rename_i q
      cases hc
      exact .inl ⟨q, rfl⟩
    · rename_i q
      exact .inr ⟨q, hc⟩
  have hold : ∀ i cs c, blk H i = some cs → ρ i = some c → c ≠ b := fun i cs c e1 e2 => by
    obtain ⟨c', bk, f1, f2, _⟩ := hR.liv i cs e1
    rw [e2] at f1
    cases f1
    omega
  refine ⟨⟨fun i cs hc => ?_, fun i j cs cs' c e1 e2 e3 e4 => ?_, fun i cs c e1 e2 => ?_, fun c bk hz => ?_, fun i hi => ?_⟩, ⟨he.n, fun c hc _ => he.get c hc, fun i cs c e1 e2 => ?_, fun _ _ h => h, fun _ _ h => .inl h⟩, fun i hi => ho i (by omega)⟩
  · rcases hb i cs hc with ⟨rfl, rfl⟩ | ⟨hi, hc⟩
    · refine ⟨b, _, hn, h3, h4, rfl, by simp, fun k c d k1 k2 => ?_⟩
      by_cases hk : k < xs.length
      · rw [List.getElem?_append_left (by simpa using hk)] at k1 k2
        rw [k1] at k2
        cases k2
        rw [List.getElem?_map, Option.map_eq_some_iff] at k1
        obtain ⟨y, _, rfl⟩ := k1
        exact .z (.plain rfl)
      · rw [List.getElem?_append_right (by simp; omega), List.getElem?_replicate] at k1
        split at k1
        · cases k1
          exact .z .junk
        · cases k1
    · obtain ⟨c, bk, e1, e2, e3, e4, e5⟩ := hR.liv i cs hc
      exact ⟨c, bk, by rw [ho i hi, e1], by have := he.n; omega, by rw [he.get c e2, e3], e4, e5.1, fun i c d k1 k2 => (e5.2 i c d k1 k2).mono hr fun _ _ h => h⟩
  · rcases hb i cs e1 with ⟨rfl, _⟩ | ⟨hi, e1⟩
    · rcases hb j cs' e2 with ⟨rfl, _⟩ | ⟨hj, e2⟩
      · rfl
      · rw [hn] at e3
        rw [ho j hj] at e4
        cases e3
        exact absurd rfl (hold j cs' b e2 e4)
    · rw [ho i hi] at e3
      rcases hb j cs' e2 with ⟨rfl, _⟩ | ⟨hj, e2⟩
      · rw [hn] at e4
        cases e4
        exact absurd rfl (hold i cs b e1 e3)
      · rw [ho j hj] at e4
        exact hR.inj i j cs cs' c e1 e2 e3 e4
  · rcases hb i cs e1 with ⟨rfl, _⟩ | ⟨hi, e1⟩
    · rw [hn] at e2
      cases e2
      cases hz : Z b with
      | none => rfl
      | some bk => have := (hR.fro b bk hz).1; omega
    · rw [ho i hi] at e2
      exact hR.dis i cs c e1 e2
  · obtain ⟨e1, e2⟩ := hR.fro c bk hz
    exact ⟨by have := he.n; omega, by rw [he.get c e1, e2]⟩
  · have : H'.length = H.length + 1 := by simp [H']
    rw [ho i (by omega)]
    exact hR.top i (by omega)
  · rcases hb i cs e1 with ⟨rfl, _⟩ | ⟨hi, e1⟩
    · rw [hn] at e2
      cases e2
      exact .inl h1
    · rw [ho i hi] at e2
      exact .inr ⟨i, cs, e1, e2⟩
/-- A call of the small machine that gives a new slice, which is one's own. -/
theorem lift_O {x : Bool} {g : Nat} {vals : List Value} {H : BH} {K : Value → BH → Prop} {xs : List Int} (h : ∀ ρ Z as HA, VL ρ Z vals as → Rel ρ Z H HA → Am.CallT g as HA fun v' HA' => Ext HA HA' ∧ OwnI HA.n HA'.n HA' v' xs)
    (hK0 : xs = [] → K (.slice none 0 0) H) (hK : ∀ m, K (S H.length 0 xs.length 1) (H ++ [some (xs.map I ++ List.replicate m .nilIface)])) : CallX x g vals H K := by
  intro ρ Z as HA h1 h2
  obtain ⟨v', HA', hc, he, ho⟩ := h ρ Z as HA h1 h2
  rcases ho with ⟨rfl, rfl⟩ | ⟨b, rest, rfl, k1, _, k3, k4⟩
  · obtain ⟨Z', _, hr, hf⟩ := own_fz (xs := []) h2 he (.inl ⟨rfl, rfl⟩)
    exact ⟨_, _, hc, fun _ => he, ρ, Z', _, H, .z (.plain rfl), hr, Nat.le_refl _, fun _ _ => rfl, hf, hK0 rfl⟩
  · obtain ⟨q1, q2, q3⟩ := own_new h2 he k1 k3 k4
    exact ⟨_, _, hc, fun _ => he, _, Z, _, _, .slice (if_pos rfl), q1, by simp, q3, q2, hK _⟩
end Go.Bm
