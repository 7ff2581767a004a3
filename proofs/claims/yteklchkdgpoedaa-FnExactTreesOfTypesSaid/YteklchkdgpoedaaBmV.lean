/- Blocks renamed where other blocks name them; results frozen inside others. -/
import Derived.Test.YteklchkdgpoedaaBmQ
set_option linter.unusedVariables false
set_option linter.unusedSimpArgs false
namespace Go.Bm
open Go Go.Am

def renC (ns : List Nat) (H : BH) : BH := ns.map fun i => (blk H i).map (List.map (ren ns))
theorem blk_renC {ns : List Nat} {H : BH} {j : Nat} {cs : List Value} (h : blk (renC ns H) j = some cs) : ∃ i cs0, ns[j]? = some i ∧ blk H i = some cs0 ∧ cs = cs0.map (ren ns) := by
  unfold blk renC at h
  rw [List.getElem?_map] at h
  cases h1 : ns[j]? with
  | none => rw [h1] at h; cases h
  | some i =>
    rw [h1] at h
    simp only [Option.map_some, Option.getD_some] at h
    change (blk H i).map _ = some cs at h
    cases h2 : blk H i with
    | none => rw [h2] at h; cases h
    | some cs0 => rw [h2] at h; exact ⟨i, cs0, rfl, h2, by simpa using h.symm⟩
theorem Gh.normC {k : Nat} {f : Fr} {H : BH} (ns : List Nat) (hd : ns.Nodup) (hk : ∀ j, j < k → ns[j]? = some j) : Gh k f H (fun t => ren ns (f t)) (renC ns H) := by
  refine ⟨fun _ => ?_, fun ρ Z fA HA h1 h2 => ?_⟩
  · rcases Nat.lt_or_ge ns.length k with h | h
    · have := hk ns.length h
      simp at this
    · simpa [renC] using h
  · have hr : ∀ (i j : Nat), ns[j]? = some i → (match ns[j]? with | some i => ρ i | none => none) = ρ i := fun i j h => by rw [h]
    refine ⟨fun j => match ns[j]? with | some i => ρ i | none => none, Z, fun t => ren_vr hr (h1 t), ⟨fun j cs hc => ?_, fun j j' cs cs' b hc hc' hb hb' => ?_, fun j cs b hc hb => ?_, h2.fro, fun j hj => ?_⟩, fun j hj => ?_, ⟨Nat.le_refl _, fun _ _ _ => rfl, fun j cs b hc hb => ?_, fun _ _ h => h, fun _ _ h => .inl h⟩⟩
    · obtain ⟨i, cs0, hi, hc', rfl⟩ := blk_renC hc
      obtain ⟨b, bk, e1, e2, e3, e4, e5⟩ := h2.liv i cs0 hc'
      refine ⟨b, bk, by rw [hi]; exact e1, e2, e3, e4, by simpa using e5.1, fun q c d q1 q2 => ?_⟩
      rw [List.getElem?_map] at q1
      obtain ⟨p, hp, rfl⟩ := map_inj q1
      exact ren_vr hr (e5.2 q p d hp q2)
    · obtain ⟨i, c0, hi, hci, _⟩ := blk_renC hc
      obtain ⟨i', c0', hi', hci', _⟩ := blk_renC hc'
      rw [hi] at hb; rw [hi'] at hb'
      have := h2.inj i i' c0 c0' b hci hci' hb hb'
      subst this
      obtain ⟨e1, e2⟩ := List.getElem?_eq_some_iff.1 hi
      obtain ⟨e3, e4⟩ := List.getElem?_eq_some_iff.1 hi'
      have hp := List.pairwise_iff_getElem.1 hd
      rcases Nat.lt_trichotomy j j' with hl | hl | hl
      · exact absurd (e2.trans e4.symm) (hp j j' e1 e3 hl)
      · exact hl
      · exact absurd (e4.trans e2.symm) (hp j' j e3 e1 hl)
    · obtain ⟨i, c0, hi, hci, _⟩ := blk_renC hc
      rw [hi] at hb
      exact h2.dis i c0 b hci hb
    · have : ns[j]? = none := List.getElem?_eq_none (by simpa [renC] using hj)
      rw [this]
    · exact hr j j (hk j hj)
    · obtain ⟨i, c0, hi, hci, _⟩ := blk_renC hc
      rw [hi] at hb
      exact .inr ⟨i, c0, hci, hb⟩
theorem GhV.normC {k : Nat} {v : Value} {H : BH} (ns : List Nat) (hd : ns.Nodup) (hk : ∀ j, j < k → ns[j]? = some j) (hv : NN v) : GhV k v H v (renC ns H) :=
  ⟨(Gh.normC (f := fun _ => v) ns hd hk).1, fun ρ Z u HA h1 h2 => by
    obtain ⟨ρ', Z', h3, h4, h5, h6⟩ := (Gh.normC (f := fun _ => v) ns hd hk).2 ρ Z (fun _ => u) HA (fun _ => h1) h2
    refine ⟨ρ', Z', ?_, h4, h5, h6⟩
    exact (hv ρ Z u h1).mono h6.zx |> .z⟩
theorem fzA_rel {ρ : Nat → Option Nat} {Z : Nat → Option Blk} {HA : AHeap} {H : BH} {i : Nat} {cs : List Value} (h2 : Rel ρ Z H HA) (hc : blk H i = some cs) (hn : NNL cs) :
    ∃ Z', Rel ρ Z' ((mapB (frz i cs) H).set i none) HA ∧ Frm ρ Z H HA ρ Z' ((mapB (frz i cs) H).set i none) HA ∧ ∀ v u, VR ρ Z v u → VR ρ Z' (frz i cs v) u := by
  obtain ⟨Z', h3, h4, h5⟩ := frz_vr h2 hc hn
  have hi := blk_ltN hc
  have hset : ∀ j cs', blk ((mapB (frz i cs) H).set i none) j = some cs' → j ≠ i ∧ ∃ cs0, blk H j = some cs0 ∧ cs' = cs0.map (frz i cs) := fun j cs' h => by
    rw [blk_setN (by simpa [mapB] using hi)] at h
    split at h
    · cases h
    · rename_i hne
      exact ⟨hne, blk_mapB h⟩
  have hold : ∀ j cs0, j ≠ i → blk H j = some cs0 → blk (H.set i none) j = some cs0 := fun j cs0 hne h => by rw [blk_setN hi, if_neg hne]; exact h
  refine ⟨Z', ⟨fun j cs' h => ?_, fun j j' c1 c2 b e1 e2 e3 e4 => ?_, fun j cs' b e1 e2 => ?_, h3.fro, fun j hj => h2.top j (by simpa [mapB] using hj)⟩, ⟨h4.n, h4.keep, fun j cs' b e1 e2 => ?_, h4.zx, h4.zn⟩, h5⟩
  · obtain ⟨hne, cs0, g1, rfl⟩ := hset j cs' h
    obtain ⟨b, bk, k1, k2, k3, k4, k5⟩ := h2.liv j cs0 g1
    refine ⟨b, bk, k1, k2, k3, k4, by simpa using k5.1, fun q c d q1 q2 => ?_⟩
    rw [List.getElem?_map] at q1
    obtain ⟨p, hp, rfl⟩ := map_inj q1
    exact h5 _ _ (k5.2 q p d hp q2)
  · obtain ⟨n1, x1, g1, _⟩ := hset j c1 e1
    obtain ⟨n2, x2, g2, _⟩ := hset j' c2 e2
    exact h2.inj j j' x1 x2 b g1 g2 e3 e4
  · obtain ⟨n1, x1, g1, _⟩ := hset j cs' e1
    exact h3.dis j x1 b (hold j x1 n1 g1) e2
  · obtain ⟨n1, x1, g1, _⟩ := hset j cs' e1
    exact h4.own j x1 b (hold j x1 n1 g1) e2
/-- A result whose block is only read from now on, also where other blocks name it. -/
theorem GhV.fzA {k : Nat} {v : Value} {H : BH} {i : Nat} {cs : List Value} (hc : blk H i = some cs) (hn : NNL cs) : GhV k v H (frzT i cs v) ((mapB (frz i cs) H).set i none) :=
  ⟨fun h => by simpa [mapB] using h, fun ρ Z u HA h1 h2 => by
    obtain ⟨Z', h3, h4, h5⟩ := fzA_rel h2 hc hn
    refine ⟨ρ, Z', ?_, h3, fun _ _ => rfl, h4⟩
    unfold frzT
    split
    · rename_i vs
      obtain ⟨ds, rfl, hl⟩ := h1.tuple_inv
      obtain ⟨ds⟩ := ds
      refine .tuple (by simpa using hl.1) fun i c d k1 k2 => ?_
      rw [List.getElem?_map] at k1
      obtain ⟨q, hq, rfl⟩ := map_inj k1
      exact h5 _ _ (hl.2 i q d hq k2)
    · exact h5 _ _ h1⟩
end Go.Bm
