/- Flags that are handed in. -/
import Derived.Test.YtbbgifoamnjhoaaDp6
import Derived.Test.YtbbgifoamnjhoaaBmB
set_option linter.unusedVariables false
set_option linter.unusedSimpArgs false
namespace Go.Bm
open Go Go.Am
section
variable {P : Program} {W : World} {r : Reach} {b0 : Nat} {t : TypeId} {v : Value}
theorem open_F {t64 t8 : TypeId} (hu : ∃ d, P.underlying t = some d ∧ isAggD d = true) (hc : P.cellTypes P.depth t = some (t64 :: List.replicate 96 t8)) (hm : P.cellsOf t = 97) (h64 : P.underlying t64 = some (.int .i64)) (h8 : P.underlying t8 = some (.int .u8)) (h : Value.okWide P W r b0 t v) :
    ∃ (n : Int) (c t s : List Nat), v = FV n c t s ∧ By 32 c ∧ By 32 t ∧ By 32 s ∧ -9223372036854775808 ≤ n ∧ n < 9223372036854775808 := by
  obtain ⟨cs, rfl, hl, hall⟩ := okAgg hu hc hm (by simp) h
  obtain ⟨u, w, h1, h2, h3⟩ := hall 0 (by omega)
  simp only [List.getElem?_cons_zero, Option.some.injEq] at h1
  subst h1
  obtain ⟨n, rfl, hn⟩ := ok_int h64 h3
  have hb : ∀ i, i < 96 → ∃ m, cs[1 + i]? = some (.int .u8 m) ∧ IntKind.u8.has m := fun i hi => by
    obtain ⟨u, w, h1, h2, h3⟩ := hall (1 + i) (by omega)
    rw [Nat.add_comm, List.getElem?_cons_succ, List.getElem?_replicate, if_pos hi] at h1
    cases h1
    obtain ⟨m, rfl, hm⟩ := ok_int h8 h3
    exact ⟨m, h2, hm⟩
  obtain ⟨b, hb1, hb2⟩ := bytes_of (cs := cs) (o := 1) (m := 32) (by omega) fun i hi => hb i (by omega)
  obtain ⟨w, hw1, hw2⟩ := bytes_of (cs := cs) (o := 33) (m := 32) (by omega) fun i hi => by have := hb (32 + i) (by omega); rwa [show 1 + (32 + i) = 33 + i by omega] at this
  obtain ⟨q, hq1, hq2⟩ := bytes_of (cs := cs) (o := 65) (m := 32) (by omega) fun i hi => by have := hb (64 + i) (by omega); rwa [show 1 + (64 + i) = 65 + i by omega] at this
  have hn' := has64 hn
  refine ⟨n, b, w, q, ?_, hb1, hw1, hq1, by omega, by omega⟩
  congr 2
  cases cs with
  | nil => simp at hl
  | cons c cs =>
    simp only [List.getElem?_cons_zero, Option.some.injEq] at h2
    subst h2
    simp only [FC]
    congr 1
    rw [← hb2, ← hw2, ← hq2]
    simp only [List.drop_succ_cons, List.drop_zero]
    simp only [List.length_cons] at hl
    rw [List.take_of_length_le (l := cs.drop 64) (by simp; omega)]
    have e1 : (cs.drop 32).take 32 ++ cs.drop 64 = cs.drop 32 := by
      rw [show cs.drop 64 = (cs.drop 32).drop 32 by rw [List.drop_drop]]
      exact List.take_append_drop 32 _
    rw [e1]
    exact (List.take_append_drop 32 cs).symm
end
end Go.Bm
