/- A region whose order is open: the first operations only add to memory, the others stand behind all: every order comes to the text's. -/
import Derived.Test.YtdadgoboeonoaaaAmReg
set_option linter.unusedVariables false
set_option linter.unusedSimpArgs false
namespace Go.Am
open Go

section
variable {Pr : Program} {μ φ : Fun} {nt m : Nat} {all : Array Oper} {as : List AOper} {f f' : Fr} {H H' : AHeap}

theorem chain_seq (as : List AOper) : ∀ (m : Nat) (f : Fr) (H : AHeap), SChain Pr μ φ (some m) as f H f' H' →
    ∃ (F : Nat → Fr) (G : Nat → AHeap), F 0 = f ∧ G 0 = H ∧ F as.length = f' ∧ G as.length = H' ∧ ∀ (i : Nat) (ao : AOper), as[i]? = some ao → SimOne Pr μ φ ao (F i) (G i) (F (i + 1)) (G (i + 1)) ∧ (i < m → Ext (G i) (G (i + 1))) := by
  induction as with
  | nil =>
    intro m f H h
    cases h
    exact ⟨fun _ => f', fun _ => H', rfl, rfl, rfl, rfl, fun i ao h => by simp at h⟩
  | cons o as ih =>
    intro m f H h
    cases h with
    | cons ho hx hch =>
      rename_i f1 H1
      obtain ⟨F, G, h1, h2, h3, h4, h5⟩ := ih (m - 1) f1 H1 hch
      refine ⟨fun i => match i with | 0 => f | i + 1 => F i, fun i => match i with | 0 => H | i + 1 => G i, rfl, rfl, h3, h4, fun i ao hi => ?_⟩
      cases i with
      | zero =>
        simp at hi
        subst hi
        show SimOne Pr μ φ o f H (F 0) (G 0) ∧ (0 < m → Ext H (G 0))
        rw [h1, h2]
        exact ⟨ho, fun hm => hx (m - 1) (by congr 1; omega)⟩
      | succ i =>
        simp at hi
        obtain ⟨h6, h7⟩ := h5 i ao hi
        exact ⟨h6, fun hm => h7 (by omega)⟩

structure DOk (all : Array Oper) (m i : Nat) (o : Oper) : Prop where
  edges : ∀ e ∈ o.after, Region.binds .any e = true → e.on < i
  bar : m ≤ i → ∀ j, j < i → j ∈ (closL all.toList).getD i []
  pairs : ∀ (j : Nat) (oj : Oper), all[j]? = some oj → i ≠ j → (∀ d e, o.dst = some d → oj.dst = some e → d ≠ e) ∧
    ∀ d, oj.dst = some d → d ∈ o.looksAt all → (j < i ∧ j ∈ (closL all.toList).getD i []) ∨ (i < j ∧ i ∈ (closL all.toList).getD j [])

theorem drawOk_some (h : drawOk all m = true) {i : Nat} {o : Oper} (ho : all[i]? = some o) : DOk all m i o := by
  have hi : i < all.size := (Array.getElem?_eq_some_iff.1 ho).1
  unfold drawOk at h
  have h1 := List.all_eq_true.1 h i (List.mem_range.2 hi)
  simp only [ho, Bool.and_eq_true] at h1
  obtain ⟨⟨⟨h2, h3⟩, h4⟩, h5⟩ := h1
  refine ⟨fun e he hb => ?_, fun hm j hj => ?_, fun j oj hoj hne => ?_⟩
  · have := List.all_eq_true.1 h2 e (by simpa using he)
    simpa [hb] using this
  · rw [Bool.or_eq_true] at h3
    rcases h3 with h3 | h3
    · have := of_decide_eq_true h3
      omega
    · have := List.all_eq_true.1 h3 j (List.mem_range.2 hj)
      simpa using this
  · have hj : j < all.size := (Array.getElem?_eq_some_iff.1 hoj).1
    have h6 := List.all_eq_true.1 h5 j (List.mem_range.2 hj)
    simp only [hoj, Bool.or_eq_true] at h6
    rcases h6 with h6 | h6
    · exact absurd (by simpa using h6) hne
    · simp only [Bool.and_eq_true] at h6
      refine ⟨fun d e hd he => ?_, fun d hd hl => ?_⟩
      · have := h6.1
        rw [hd, he] at this
        simpa using this
      · have h7 := h6.2
        rw [hd] at h7
        simp only [Bool.or_eq_true, Bool.and_eq_true, decide_eq_true_eq] at h7
        rcases h7 with (h7 | h7) | h7
        · simp at h7
          exact absurd hl h7
        · exact .inl ⟨h7.1, by simpa using h7.2⟩
        · exact .inr ⟨h7.1, by simpa using h7.2⟩

/-- What has run stands with all that must have run ahead of it. -/
def Closed (all : Array Oper) (listed : Array Bool) : Prop := ∀ (i : Nat) (o : Oper), all[i]? = some o → listed.getD i false = true → ∀ e ∈ o.after, Region.binds .any e = true → listed.getD e.on false = true
theorem closed_clos (hd : ∀ (i : Nat) (o : Oper), all[i]? = some o → DOk all m i o) {listed : Array Bool} (hs : listed.size = all.size) (hc : Closed all listed) : ∀ (i : Nat), listed.getD i false = true → ∀ j, j ∈ (closL all.toList).getD i [] → listed.getD j false = true := by
  intro i
  induction i using Nat.strongRecOn with
  | _ i ih =>
    intro hi j hj
    have hlt : i < all.size := by
      rcases Nat.lt_or_ge i listed.size with h | h
      · omega
      · simp [Array.getElem?_eq_none h] at hi
    obtain ⟨o, ho⟩ : ∃ o, all[i]? = some o := ⟨_, Array.getElem?_eq_getElem hlt⟩
    obtain ⟨e, he, hb, hor⟩ := closL_get all.toList (by simpa using ho) hj
    have he' : e ∈ o.after := by simpa using he
    have hon := hc i o ho hi e he' hb
    rcases hor with rfl | h
    · exact hon
    · exact ih e.on ((hd i o ho).edges e he' hb) hon j h
theorem ready_clos (hd : ∀ (i : Nat) (o : Oper), all[i]? = some o → DOk all m i o) {listed : Array Bool} (hs : listed.size = all.size) (hc : Closed all listed) {i : Nat} {o : Oper} (ho : all[i]? = some o) (hr : ∀ e ∈ o.after, Region.binds .any e = true → listed.getD e.on false = true) :
    ∀ j, j ∈ (closL all.toList).getD i [] → listed.getD j false = true := by
  intro j hj
  obtain ⟨e, he, hb, hor⟩ := closL_get all.toList (by simpa using ho) hj
  have he' : e ∈ o.after := by simpa using he
  have hon := hr e he' hb
  rcases hor with rfl | h
  · exact hon
  · exact closed_clos hd hs hc e.on hon j h

theorem Ext.refl (H : AHeap) : Ext H H := ⟨Nat.le_refl _, fun _ _ => rfl⟩
theorem Ext.trans {H1 H2 : AHeap} (h : Ext H H1) (k : Ext H1 H2) : Ext H H2 := ⟨Nat.le_trans h.n k.n, fun b hb => (k.get b (Nat.lt_of_lt_of_le hb h.n)).trans (h.get b hb)⟩

theorem rep_false (n i : Nat) : ¬ (Array.replicate n false).getD i false = true := by
  unfold Array.getD
  split
  · simp
  · simp
theorem draw_ops (hch : SChain Pr μ φ (some m) as f H f' H') (htr : optL (trOper Pr μ φ nt all) all.toList = some as) (hok : drawOk all m = true) (hm : m ≤ all.size) {β0 : Ren} {a0 : Act} {w0 : World} (hR0 : Rel φ β0 H w0) (hf0 : FRel φ β0 nt f a0)
    (hfr0 : ∀ b, H.n ≤ b → b < H'.n → β0 b = none) (hd0 : a0.defers = []) (Q : Exit → Act → World → Prop) (hQ : ∀ β' a' w', Good φ β0 H w0 β' H' w' → FRel φ β' nt f' a' → a'.defers = [] → Q .normal a' w') :
    wpAny Pr .any all Q all.size (Array.replicate all.size false) a0 w0 := by
  have hD : ∀ (i : Nat) (o : Oper), all[i]? = some o → DOk all m i o := fun i o ho => drawOk_some hok ho
  obtain ⟨F, G, hF0, hG0, hFn, hGn, hsteps⟩ := chain_seq as m f H hch
  have hlen : as.length = all.size := by simpa using optL_len htr
  rw [hlen] at hFn hGn
  -- an operation, its image, its value
  have hV : ∀ i, ∃ v, ∀ (o : Oper), all[i]? = some o → ∃ ao, trOper Pr μ φ nt all o = some ao ∧ ao.dst = o.dst ∧ (∀ d, o.dst = some d → d < nt) ∧ (G i).n ≤ (G (i + 1)).n ∧ (Fin (G i) → Fin (G (i + 1))) ∧ F (i + 1) = updO (F i) o.dst v ∧ (i < m → Ext (G i) (G (i + 1))) ∧
      ∀ (β : Ren) (a : Act) (w : World), Rel φ β (G i) w → LRel φ β all o (F i) a → nt ≤ a.tmps.size → (∀ b, (G i).n ≤ b → b < (G (i + 1)).n → β b = none) → a.defers = [] →
      ∀ (Q : Exit → Act → World → Prop) (K : Act → World → Prop), (∀ β' v' w', Good φ β (G i) w β' (G (i + 1)) w' → VR φ β' v v' → K (a.put o.dst v') w') →
        if Region.wanted o (yielded all a.tmps) then o.wp Pr a w K Q else K (a.put o.dst undef) w := by
    intro i
    cases ho : all[i]? with
    | none => exact ⟨undef, fun o h => by cases h⟩
    | some o =>
      obtain ⟨ao, hao, htro⟩ := optL_at htr (i := i) (a := o) (by simpa using ho)
      obtain ⟨⟨h1, h2, v, h3, h4⟩, h5⟩ := hsteps i ao hao
      obtain ⟨_, _, hdst, hlt⟩ := trOper_some htro
      refine ⟨v, fun o' h => ?_⟩
      cases h
      exact ⟨ao, htro, hdst, hlt, h1, h2, by rw [h3, hdst], h5, h4 nt all o htro⟩
  obtain ⟨V, hV⟩ := Classical.axiomOfChoice hV
  -- what has been written by step i
  have hdst1 : ∀ (i j : Nat) (oi oj : Oper) (t : Nat), all[i]? = some oi → all[j]? = some oj → oi.dst = some t → oj.dst = some t → i = j := by
    intro i j oi oj t hi hj h1 h2
    rcases Nat.decEq i j with h | h
    · exact absurd rfl (((hD i oi hi).pairs j oj hj h).1 t t h1 h2)
    · exact h
  have hFF : ∀ i, i ≤ all.size → ∀ t, (∃ (j : Nat) (oj : Oper), j < i ∧ all[j]? = some oj ∧ oj.dst = some t ∧ F i t = V j) ∨ ((∀ (j : Nat) (oj : Oper), j < i → all[j]? = some oj → oj.dst ≠ some t) ∧ F i t = f t) := by
    intro i
    induction i with
    | zero => intro _ t; exact .inr ⟨fun j oj h => by omega, by rw [hF0]⟩
    | succ i ih =>
      intro hi t
      have hoi : all[i]? = some all[i] := Array.getElem?_eq_getElem (by omega)
      obtain ⟨ao, _, _, _, _, _, h6, _⟩ := hV i _ hoi
      by_cases hdt : all[i].dst = some t
      · refine .inl ⟨i, all[i], by omega, hoi, hdt, ?_⟩
        rw [h6, hdt]
        exact upd_same _ _ _
      · have hFi : F (i + 1) t = F i t := by
          rw [h6]
          cases hdd : all[i].dst with
          | none => rfl
          | some d =>
            refine upd_ne _ _ _ _ fun e => hdt ?_
            rw [hdd, e]
        rcases ih (by omega) t with ⟨j, oj, h1, h2, h3, h4⟩ | ⟨h1, h2⟩
        · exact .inl ⟨j, oj, by omega, h2, h3, by rw [hFi, h4]⟩
        · refine .inr ⟨fun j oj hj hoj => ?_, by rw [hFi, h2]⟩
          rcases Nat.lt_or_ge j i with h | h
          · exact h1 j oj h hoj
          · obtain rfl : j = i := by omega
            rw [hoi] at hoj
            cases hoj
            exact hdt
  -- the memories
  have hGmono : ∀ i, i ≤ all.size → ∀ j, j ≤ i → (G j).n ≤ (G i).n := by
    intro i
    induction i with
    | zero =>
      intro _ j hj
      obtain rfl : j = 0 := by omega
      exact Nat.le_refl _
    | succ i ih =>
      intro hi j hj
      have hoi : all[i]? = some all[i] := Array.getElem?_eq_getElem (by omega)
      obtain ⟨ao, _, _, _, h4, _⟩ := hV i _ hoi
      rcases Nat.lt_or_ge j (i + 1) with h | h
      · exact Nat.le_trans (ih (by omega) j (by omega)) h4
      · obtain rfl : j = i + 1 := by omega
        exact Nat.le_refl _
  have hGfin : ∀ i, i ≤ all.size → Fin (G i) := by
    intro i
    induction i with
    | zero => intro _; rw [hG0]; exact hR0.fin
    | succ i ih =>
      intro hi
      have hoi : all[i]? = some all[i] := Array.getElem?_eq_getElem (by omega)
      obtain ⟨ao, _, _, _, _, h5, _⟩ := hV i _ hoi
      exact h5 (ih (by omega))
  have hGext : ∀ i, i ≤ m → ∀ j, j ≤ i → Ext (G j) (G i) := by
    intro i
    induction i with
    | zero =>
      intro _ j hj
      obtain rfl : j = 0 := by omega
      exact .refl _
    | succ i ih =>
      intro hi j hj
      have hoi : all[i]? = some all[i] := Array.getElem?_eq_getElem (by omega)
      obtain ⟨ao, _, _, _, _, _, _, h7, _⟩ := hV i _ hoi
      rcases Nat.lt_or_ge j (i + 1) with h | h
      · exact (ih (by omega) j (by omega)).trans (h7 (by omega))
      · obtain rfl : j = i + 1 := by omega
        exact .refl _
  have hfin_lt : ∀ i, i ≤ all.size → ∀ b blk, (G i).get b = some blk → b < (G i).n := fun i hi b blk h => by
    rcases Nat.lt_or_ge b (G i).n with h1 | h1
    · exact h1
    · rw [hGfin i hi b h1] at h; cases h
  -- the two phases
  let PA : Array Bool → Act → World → Prop := fun listed a w => ∃ β, nt ≤ a.tmps.size ∧ a.defers = [] ∧
    (∀ t, (∃ (j : Nat) (oj : Oper), listed.getD j false = true ∧ all[j]? = some oj ∧ oj.dst = some t ∧ VR φ β (V j) (a.tmps.getD t undef)) ∨ ((∀ (j : Nat) (oj : Oper), listed.getD j false = true → all[j]? = some oj → oj.dst ≠ some t) ∧ VR φ β (f t) (a.tmps.getD t undef))) ∧
    Rel φ β (G m) w ∧ (∀ b L, β b = some L → β0 b = some L ∨ ∃ j, listed.getD j false = true ∧ (G j).n ≤ b ∧ b < (G (j + 1)).n) ∧ Frm β0 H w0 β (G m) w
  let PB : Nat → Act → World → Prop := fun p a w => ∃ β, Good φ β0 H w0 β (G p) w ∧ FRel φ β nt (F p) a ∧ a.defers = []
  let Inv : Array Bool → Act → World → Prop := fun listed a w => listed.size = all.size ∧ Closed all listed ∧
    (((∀ i, listed.getD i false = true → i < m) ∧ PA listed a w) ∨ ∃ p, m ≤ p ∧ p ≤ all.size ∧ (∀ i, i < all.size → (listed.getD i false = true ↔ i < p)) ∧ PB p a w)
  have hsz : ∀ (listed : Array Bool), listed.size = all.size → ∀ i, listed.getD i false = true → i < all.size := fun listed hs i hi => by
    rcases Nat.lt_or_ge i listed.size with h | h
    · omega
    · simp [Array.getElem?_eq_none h] at hi
  -- phase A with just the first m listed is phase B
  have hAB : ∀ listed a w, listed.size = all.size → (∀ i, i < all.size → (listed.getD i false = true ↔ i < m)) → PA listed a w → PB m a w := by
    rintro listed a w hs hl ⟨β, h1, h2, h3, h4, h5, h6⟩
    refine ⟨β, ⟨h4, h6⟩, ⟨h1, fun t => ?_⟩, h2⟩
    rcases h3 t with ⟨j, oj, k1, k2, k3, k4⟩ | ⟨k1, k2⟩
    · have hj := (hl j (hsz listed hs j k1)).1 k1
      rcases hFF m hm t with ⟨j', oj', q1, q2, q3, q4⟩ | ⟨q1, q2⟩
      · obtain rfl := hdst1 j j' oj oj' t k2 q2 k3 q3
        rw [q4]
        exact k4
      · exact absurd k3 (q1 j oj hj k2)
    · rcases hFF m hm t with ⟨j', oj', q1, q2, q3, q4⟩ | ⟨q1, q2⟩
      · exact absurd q3 (k1 j' oj' ((hl j' (by omega)).2 q1) q2)
      · rw [q2]
        exact k2
  -- the end
  have hend : ∀ listed a w, Inv listed a w → (∀ i, i < all.size → listed.getD i true = true) → Q .normal a w := by
    rintro listed a w ⟨hs, hc, hph⟩ hall
    have hall' : ∀ i, i < all.size → listed.getD i false = true := fun i hi => by
      have := hall i hi
      simpa [show i < listed.size by omega] using this
    have hB : PB all.size a w := by
      rcases hph with ⟨h1, h2⟩ | ⟨p, h1, h2, h3, h4⟩
      · have hmn : m = all.size := by
          rcases Nat.lt_or_ge m all.size with h | h
          · have := h1 m (hall' m h)
            omega
          · omega
        have := hAB listed a w hs (fun i hi => ⟨fun _ => by omega, fun _ => hall' i hi⟩) h2
        rwa [hmn] at this
      · have hpn : p = all.size := by
          rcases Nat.lt_or_ge p all.size with h | h
          · have := (h3 p h).1 (hall' p h)
            omega
          · omega
        rwa [hpn] at h4
    obtain ⟨β, h1, h2, h3⟩ := hB
    rw [hGn] at h1
    rw [hFn] at h2
    exact hQ β a w h1 h2 h3
  -- one step
  have hstep : ∀ listed a w (i : Nat) (o : Oper), Inv listed a w → all[i]? = some o → listed.getD i true = false → (∀ e ∈ o.after, Region.binds .any e = true → listed.getD e.on false = true) → ∀ K : Act → World → Prop, (∀ a' w', Inv (listed.setIfInBounds i true) a' w' → K a' w') →
      wpOp Pr all Q i K a w := by
    rintro listed a w i o ⟨hs, hc, hph⟩ ho hun hr K hK
    have hi : i < all.size := (Array.getElem?_eq_some_iff.1 ho).1
    have hun' : ¬ listed.getD i false = true := by
      have : listed.getD i false = listed.getD i true := by simp [show i < listed.size by omega]
      rw [this, hun]
      simp
    obtain ⟨ao, h1, h2, h3, h4, h5, h6, h7, hsim⟩ := hV i o ho
    have hclos := ready_clos hD hs hc ho hr
    have hset : ∀ j, (listed.setIfInBounds i true).getD j false = true ↔ (j = i ∨ listed.getD j false = true) := by
      intro j
      by_cases e : j = i
      · subst e
        simp [show j < listed.size by omega]
      · simp [Array.getElem?_setIfInBounds_ne (Ne.symm e), e]
    have hc' : Closed all (listed.setIfInBounds i true) := by
      intro k ok hk hlk e he hb
      rw [hset]
      rcases (hset k).1 hlk with rfl | h
      · rw [ho] at hk
        cases hk
        exact .inr (hr e he hb)
      · exact .inr (hc k ok hk h e he hb)
    have hwpOp : ∀ (K' : Act → World → Prop), (if Region.wanted o (yielded all a.tmps) then o.wp Pr a w K' Q else K' (a.put o.dst undef) w) → wpOp Pr all Q i K' a w := by
      intro K' hk
      unfold wpOp
      simp only [ho]
      split
      · rename_i hw
        rw [if_pos hw] at hk
        exact .inl hk
      · rename_i hw
        rw [if_neg hw] at hk
        exact hk
    have goB : m ≤ i → (∀ k, k < all.size → (listed.getD k false = true ↔ k < i)) → PB i a w → wpOp Pr all Q i K a w := by
      rintro hmi hl ⟨β, hg, hf, hd⟩
      refine hwpOp K (hsim β a w hg.1 (hf.looks all o) hf.size (fun b hb1 hb2 => ?_) hd Q K fun β' v' w' hg' hv => hK _ _ ⟨by simp [hs], hc', .inr ⟨i + 1, by omega, by omega, fun k hk => ?_, β', hg.trans hg', ?_, by rw [put_def]; exact hd⟩⟩)
      · cases hb : β b with
        | none => rfl
        | some L =>
          rcases hg.2.new b L hb with q | q
          · rw [hfr0 b (by have := hGmono i (by omega) 0 (by omega); rw [hG0] at this; omega) (by have := hGmono all.size (Nat.le_refl _) (i + 1) (by omega); rw [hGn] at this; omega)] at q
            cases q
          · omega
      · rw [hset, hl k hk]
        omega
      · rw [h6]
        exact (hf.mono hg'.2.ext).put h3 hv
    rcases hph with ⟨hA, hPA⟩ | ⟨p, hp1, hp2, hp3, hp4⟩
    · by_cases hmi : m ≤ i
      · -- the first of those behind
        have hbar := (hD i o ho).bar hmi
        have him : i = m := by
          rcases Nat.lt_or_ge m i with h | h
          · have := hA m (hclos m (hbar m h))
            omega
          · omega
        subst him
        have hl : ∀ k, k < all.size → (listed.getD k false = true ↔ k < i) := fun k hk => ⟨hA k, fun h => hclos k (hbar k h)⟩
        exact goB (Nat.le_refl _) hl (hAB listed a w hs hl hPA)
      · obtain ⟨β, k1, k2, k3, k4, k5, k6⟩ := hPA
        have hGim := hGext m (Nat.le_refl _) i (by omega)
        have hGi1m := hGext m (Nat.le_refl _) (i + 1) (by omega)
        have hfresh : ∀ b, (G i).n ≤ b → b < (G (i + 1)).n → β b = none := by
          intro b hb1 hb2
          cases hb : β b with
          | none => rfl
          | some L =>
            rcases k5 b L hb with q | ⟨j, q1, q2, q3⟩
            · rw [hfr0 b (by have := hGmono i (by omega) 0 (by omega); rw [hG0] at this; omega) (by have := hGmono all.size (Nat.le_refl _) (i + 1) (by omega); rw [hGn] at this; omega)] at q
              cases q
            · have hjm := hA j q1
              have hji : j ≠ i := fun e => hun' (e ▸ q1)
              rcases Nat.lt_or_ge j i with h | h
              · have := hGmono i (by omega) (j + 1) (by omega)
                omega
              · have := hGmono j (by omega) (i + 1) (by omega)
                omega
        have hRi : Rel φ β (G i) w := by
          refine ⟨fun b blk L hb hL => k4.cells b blk L ?_ hL, fun b b' blk blk' L L' hb hrw hb' hL hL' he => k4.inj b b' blk blk' L L' ?_ hrw ?_ hL hL' he, hGfin i (by omega)⟩
          · rw [hGim.get b (hfin_lt i (by omega) b blk hb)]; exact hb
          · rw [hGim.get b (hfin_lt i (by omega) b blk hb)]; exact hb
          · rw [hGim.get b' (hfin_lt i (by omega) b' blk' hb')]; exact hb'
        have hlook : LRel φ β all o (F i) a := by
          intro t ht
          rcases hFF i (by omega) t with ⟨j, oj, q1, q2, q3, q4⟩ | ⟨q1, q2⟩
          · -- written ahead in the text: it has run
            have hlj : listed.getD j false = true := by
              rcases ((hD i o ho).pairs j oj q2 (by omega)).2 t q3 ht with ⟨r1, r2⟩ | ⟨r1, r2⟩
              · exact hclos j r2
              · omega
            rcases k3 t with ⟨j', oj', r1, r2, r3, r4⟩ | ⟨r1, r2⟩
            · obtain rfl := hdst1 j j' oj oj' t q2 r2 q3 r3
              rw [q4]
              exact r4
            · exact absurd q3 (r1 j oj hlj q2)
          · rw [q2]
            rcases k3 t with ⟨j', oj', r1, r2, r3, r4⟩ | ⟨r1, r2⟩
            · exfalso
              have hji : i ≠ j' := fun e => hun' (e ▸ r1)
              have hnl : ¬ j' < i := fun h => q1 j' oj' h r2 r3
              rcases ((hD i o ho).pairs j' oj' r2 hji).2 t r3 ht with ⟨s1, s2⟩ | ⟨s1, s2⟩
              · omega
              · exact hun' (closed_clos hD hs hc j' r1 i s2)
            · exact r2
        refine hwpOp K (hsim β a w hRi hlook k1 hfresh k2 Q K fun β' v' w' hg hv => hK _ _ ⟨by simp [hs], hc', .inl ⟨fun j hj => ?_, β', ?_, by rw [put_def]; exact k2, ?_, ?_, ?_, ?_⟩⟩)
        · rcases (hset j).1 hj with rfl | h
          · omega
          · exact hA j h
        · cases hod : o.dst <;> simp [Act.put] <;> exact k1
        · -- the frame
          intro t
          have hput : (a.put o.dst v').tmps.getD t undef = if o.dst = some t then v' else a.tmps.getD t undef := by
            cases hod : o.dst with
            | none => simp [Act.put]
            | some d =>
              rw [put_getD a d v' (Nat.lt_of_lt_of_le (h3 d hod) k1)]
              by_cases e : t = d
              · subst e; simp
              · rw [if_neg e, if_neg (fun h => e (by cases h; rfl))]
          rw [hput]
          by_cases hdt : o.dst = some t
          · rw [if_pos hdt]
            exact .inl ⟨i, o, (hset i).2 (.inl rfl), ho, hdt, hv⟩
          · rw [if_neg hdt]
            rcases k3 t with ⟨j', oj', r1, r2, r3, r4⟩ | ⟨r1, r2⟩
            · exact .inl ⟨j', oj', (hset j').2 (.inr r1), r2, r3, r4.mono hg.2.ext⟩
            · refine .inr ⟨fun j oj hj hoj => ?_, r2.mono hg.2.ext⟩
              rcases (hset j).1 hj with rfl | h
              · rw [ho] at hoj
                cases hoj
                exact hdt
              · exact r1 j oj h hoj
        · -- the memory
          have hm_lt : ∀ b blk, (G m).get b = some blk → b < (G m).n := hfin_lt m hm
          have hold : ∀ b L, β' b = some L → (G (i + 1)).n ≤ b → β b = some L := fun b L hb hge => by
            rcases hg.2.new b L hb with q | q
            · exact q
            · omega
          have hget : ∀ b, b < (G (i + 1)).n → (G m).get b = (G (i + 1)).get b := fun b hb => hGi1m.get b hb
          have hi_m : ∀ b blk, (G i).get b = some blk → (G m).get b = some blk := fun b blk hb => by rw [hGim.get b (hfin_lt i (by omega) b blk hb)]; exact hb
          -- a new name's place is no old name's
          have hnew : ∀ b L b' blk' L', β' b = some L → β b = none → (G m).get b' = some blk' → β b' = some L' → (G (i + 1)).n ≤ b' → L.g ≠ L'.g := by
            intro b L b' blk' L' hb hb0 hb' hL' hge he
            rcases hg.2.newg b L hb hb0 with q | ⟨b0, blk0, L0, q1, q2, q3, q4⟩
            · have := k4.lt hb' hL'
              omega
            · have := k4.inj b0 b' blk0 blk' L0 L' (hi_m b0 blk0 q1) q2 hb' q3 hL' (q4.trans he)
              have hb0lt := hfin_lt i (by omega) b0 blk0 q1
              omega
          refine ⟨fun b blk L hb hL => ?_, fun b b' blk blk' L L' hb hrw hb' hL hL' he => ?_, hGfin m hm⟩
          · rcases Nat.lt_or_ge b (G (i + 1)).n with h | h
            · exact hg.1.cells b blk L (by rw [← hget b h]; exact hb) hL
            · have hLo := hold b L hL h
              obtain ⟨c, t, fr, q1, q2, q3, q4, q5⟩ := k4.cells b blk L hb hLo
              refine ⟨c, t, fr, ?_, q2, q3, q4, fun k x hk => ?_⟩
              · rw [hg.2.frame L.g (k4.lt hb hLo) (fun b0 blk0 L0 r1 r2 r3 r4 => ?_)]
                · exact q1
                · have := k4.inj b0 b blk0 blk L0 L (hi_m b0 blk0 r1) r2 hb r3 hLo r4
                  have hb0lt := hfin_lt i (by omega) b0 blk0 r1
                  omega
              · obtain ⟨u, hu, hru⟩ := q5 k x hk
                exact ⟨u, hu, hru.mono hg.2.ext⟩
          · rcases Nat.lt_or_ge b (G (i + 1)).n with h | h <;> rcases Nat.lt_or_ge b' (G (i + 1)).n with h' | h'
            · exact hg.1.inj b b' blk blk' L L' (by rw [← hget b h]; exact hb) hrw (by rw [← hget b' h']; exact hb') hL hL' he
            · have hLo' := hold b' L' hL' h'
              cases hbb : β b with
              | some L1 =>
                have := hg.2.ext b L1 hbb
                rw [hL] at this
                cases this
                exact k4.inj b b' blk blk' L L' hb hrw hb' hbb hLo' he
              | none => exact absurd he (hnew b L b' blk' L' hL hbb hb' hLo' h')
            · have hLo := hold b L hL h
              cases hbb : β b' with
              | some L1 =>
                have := hg.2.ext b' L1 hbb
                rw [hL'] at this
                cases this
                exact k4.inj b b' blk blk' L L' hb hrw hb' hLo hbb he
              | none => exact absurd he.symm (hnew b' L' b blk L hL' hbb hb hLo h)
            · exact k4.inj b b' blk blk' L L' hb hrw hb' (hold b L hL h) (hold b' L' hL' h') he
        · intro b L hb
          rcases hg.2.new b L hb with q | q
          · rcases k5 b L q with r | ⟨j, r1, r2, r3⟩
            · exact .inl r
            · exact .inr ⟨j, (hset j).2 (.inr r1), r2, r3⟩
          · exact .inr ⟨i, (hset i).2 (.inl rfl), q.1, q.2⟩
        · have hi_m : ∀ b blk, (G i).get b = some blk → (G m).get b = some blk := fun b blk hb => by rw [hGim.get b (hfin_lt i (by omega) b blk hb)]; exact hb
          have hHn : H.n ≤ (G i).n := by have := hGmono i (by omega) 0 (by omega); rwa [hG0] at this
          have hGi1n : (G (i + 1)).n ≤ (G m).n := hGi1m.n
          have howned : ∀ b0 blk0 L0, (G i).get b0 = some blk0 → blk0.rw = true → β b0 = some L0 → w0.heap.size ≤ L0.g ∨ ∃ b1 blk1 L1, H.get b1 = some blk1 ∧ blk1.rw = true ∧ β0 b1 = some L1 ∧ L1.g = L0.g := fun b0 blk0 L0 r1 r2 r3 => k6.own b0 blk0 L0 (hi_m b0 blk0 r1) r2 r3
          have hnewown : ∀ b L, β' b = some L → β b = none → w0.heap.size ≤ L.g ∨ ∃ b1 blk1 L1, H.get b1 = some blk1 ∧ blk1.rw = true ∧ β0 b1 = some L1 ∧ L1.g = L.g := by
            intro b L hb hb0
            rcases hg.2.newg b L hb hb0 with q | ⟨b0, blk0, L0, q1, q2, q3, q4⟩
            · exact .inl (Nat.le_trans k6.size q)
            · rcases howned b0 blk0 L0 q1 q2 q3 with r | ⟨b1, blk1, L1, r1, r2, r3, r4⟩
              · exact .inl (by omega)
              · exact .inr ⟨b1, blk1, L1, r1, r2, r3, r4.trans q4⟩
          refine ⟨hg.2.os.trans k6.os, hg.2.tape.trans k6.tape, hg.2.output.trans k6.output, Nat.le_trans k6.size hg.2.size, fun r hr hn => ?_, fun b blk L hb hrw hL => ?_, fun b L hb => hg.2.ext b L (k6.ext b L hb), fun b L hb => ?_, k6.n, fun b L hb h0 => ?_⟩
          · rw [hg.2.frame r (Nat.lt_of_lt_of_le hr k6.size) (fun b0 blk0 L0 r1 r2 r3 r4 => ?_), k6.frame r hr hn]
            rcases howned b0 blk0 L0 r1 r2 r3 with q | ⟨b1, blk1, L1, q1, q2, q3, q4⟩
            · omega
            · exact hn b1 blk1 L1 q1 q2 q3 (q4.trans r4)
          · cases hbb : β b with
            | some L1 =>
              have := hg.2.ext b L1 hbb
              rw [hL] at this
              cases this
              exact k6.own b blk L hb hrw hbb
            | none => exact hnewown b L hL hbb
          · rcases hg.2.new b L hb with q | q
            · exact k6.new b L q
            · exact .inr ⟨by omega, by omega⟩
          · cases hbb : β b with
            | some L1 =>
              have := hg.2.ext b L1 hbb
              rw [hb] at this
              cases this
              exact k6.newg b L hbb h0
            | none => exact hnewown b L hb hbb
    · -- behind
      have hpi : p = i := by
        rcases Nat.lt_or_ge i p with h | h
        · exact absurd ((hp3 i hi).2 h) hun'
        · rcases Nat.lt_or_ge p i with h' | h'
          · have := (hp3 p (by omega)).1 (hclos p ((hD i o ho).bar (by omega) p h'))
            omega
          · omega
      subst hpi
      exact goB hp1 hp3 hp4
  -- all orders
  have hrun : ∀ fuel listed a w, Inv listed a w → left_ all.size listed = fuel → wpAny Pr .any all Q fuel listed a w := by
    intro fuel
    induction fuel with
    | zero =>
      intro listed a w hI hl
      have hall : ∀ i, i < all.size → listed.getD i true = true := fun i hi => left_zero hl hi
      refine ⟨?_, hend listed a w hI hall⟩
      rw [List.eq_nil_iff_forall_not_mem]
      intro i hi
      obtain ⟨h1, o, ho, _⟩ := mem_ready.1 hi
      have := hall i (Array.getElem?_eq_some_iff.1 ho).1
      rw [h1] at this
      cases this
    | succ fuel ih =>
      intro listed a w hI hl
      refine ⟨fun hnil => hend listed a w hI fun i hi => ?_, fun i hi => ?_⟩
      · -- the least that is not listed would be ready
        have key : ∀ i, i < all.size → listed.getD i true = true := by
          intro i
          induction i using Nat.strongRecOn with
          | _ i ih2 =>
            intro hi
            cases hq : listed.getD i true with
            | true => rfl
            | false =>
              exfalso
              have hoi : all[i]? = some all[i] := Array.getElem?_eq_getElem hi
              have hr : i ∈ Region.ready .any all listed := mem_ready.2 ⟨hq, _, hoi, fun e he hb => by
                have hon := (hD i _ hoi).edges e he hb
                have := ih2 e.on hon (by omega)
                simpa [show e.on < listed.size by rw [hI.1]; omega] using this⟩
              rw [hnil] at hr
              cases hr
        exact key i hi
      · obtain ⟨hun, o, ho, hr⟩ := mem_ready.1 hi
        have hilt : i < all.size := (Array.getElem?_eq_some_iff.1 ho).1
        refine hstep listed a w i o hI ho hun hr _ fun a' w' hI' => ih _ a' w' hI' ?_
        have := left_set all.size listed (by rw [hI.1]; exact Nat.le_refl _) hilt hun
        omega
  refine hrun all.size _ a0 w0 ⟨by simp, fun i o ho hl => ?_, .inl ⟨fun i hl => ?_, β0, hf0.size, hd0, fun t => .inr ⟨fun j oj hl => ?_, hf0.val t⟩, ?_, fun b L hb => .inl hb, ?_⟩⟩ ?_
  · exact absurd hl (rep_false _ _)
  · exact absurd hl (rep_false _ _)
  · exact absurd hl (rep_false _ _)
  · have hlt : ∀ b blk L, (G m).get b = some blk → β0 b = some L → H.get b = some blk := by
      intro b blk L hb hL
      have hbm := hfin_lt m hm b blk hb
      rcases Nat.lt_or_ge b H.n with h | h
      · have := (hGext m (Nat.le_refl _) 0 (by omega)).get b (by rw [hG0]; exact h)
        rw [hG0] at this
        rw [← this]
        exact hb
      · have := hGmono all.size (Nat.le_refl _) m hm
        rw [hGn] at this
        rw [hfr0 b h (by omega)] at hL
        cases hL
    exact ⟨fun b blk L hb hL => hR0.cells b blk L (hlt b blk L hb hL) hL, fun b b' blk blk' L L' hb hrw hb' hL hL' he => hR0.inj b b' blk blk' L L' (hlt b blk L hb hL) hrw (hlt b' blk' L' hb' hL') hL hL' he, hGfin m hm⟩
  · have hlt : ∀ b blk L, (G m).get b = some blk → β0 b = some L → H.get b = some blk := by
      intro b blk L hb hL
      have hbm := hfin_lt m hm b blk hb
      rcases Nat.lt_or_ge b H.n with h | h
      · have := (hGext m (Nat.le_refl _) 0 (by omega)).get b (by rw [hG0]; exact h)
        rw [hG0] at this
        rw [← this]
        exact hb
      · have := hGmono all.size (Nat.le_refl _) m hm
        rw [hGn] at this
        rw [hfr0 b h (by omega)] at hL
        cases hL
    have hn : H.n ≤ (G m).n := by have := hGmono m hm 0 (by omega); rwa [hG0] at this
    exact ⟨rfl, rfl, rfl, Nat.le_refl _, fun _ _ _ => rfl, fun b blk L hb hrw hL => .inr ⟨b, blk, L, hlt b blk L hb hL, hrw, hL, rfl⟩, fun _ _ h => h, fun _ _ h => .inl h, hn, fun b L hb h0 => by rw [h0] at hb; cases hb⟩
  · unfold left_
    rw [List.filter_eq_self.2, List.length_range]
    intro i hi
    simp [List.mem_range.1 hi, Array.getElem?_replicate]
end
end Go.Am
