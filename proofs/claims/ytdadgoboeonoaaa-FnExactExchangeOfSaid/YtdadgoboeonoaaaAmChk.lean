/- The program's functions are those of the table: by the translation, checked by reckoning. -/
import Derived.Test.YtdadgoboeonoaaaProg
import Derived.KernelRfl
import Derived.Test.YtdadgoboeonoaaaAmTab
import Derived.Test.YtdadgoboeonoaaaAmSound
set_option linter.unusedVariables false
set_option maxRecDepth 100000
namespace Go.Am
open Go
def μs : List (Nat × Nat) := [(3, 131), (4, 135), (5, 138), (6, 143), (7, 146), (8, 149), (9, 152), (10, 156), (11, 159), (12, 162), (13, 165), (14, 168), (15, 171), (16, 174), (17, 177), (18, 133), (19, 132), (20, 134), (21, 136), (22, 137), (23, 140), (24, 139), (25, 141), (26, 142), (27, 144), (28, 145), (29, 147), (30, 148), (31, 150), (32, 151), (33, 153), (34, 154), (35, 155), (36, 157), (37, 158), (38, 160), (39, 161), (40, 163), (41, 164), (42, 166), (43, 167), (44, 169), (45, 170), (46, 3), (47, 6), (48, 7), (49, 172), (50, 173), (51, 175), (52, 176), (53, 178), (54, 179), (55, 180), (56, 181), (57, 182), (58, 183), (59, 184), (60, 185), (61, 186), (62, 187), (63, 188), (64, 189), (65, 190), (66, 191), (67, 58), (68, 192), (69, 193), (70, 194), (71, 195), (72, 196), (73, 197), (74, 198), (75, 199), (76, 200), (77, 201), (78, 202), (79, 203), (80, 204), (81, 205), (82, 206), (83, 207), (84, 208), (85, 209), (86, 210), (87, 211), (88, 212), (89, 213), (90, 214), (91, 216), (92, 215), (93, 217), (94, 218), (95, 219), (96, 220), (97, 221), (98, 222), (99, 223), (100, 224), (101, 225), (102, 226), (103, 228), (104, 227), (105, 238), (106, 229), (107, 230), (108, 231), (109, 232), (110, 233), (111, 234), (112, 235), (113, 236), (114, 237), (115, 244), (116, 245), (117, 239), (118, 240), (119, 241), (120, 242), (121, 243), (122, 247), (123, 246)]
def μ : Fun := fun q => (μs.find? fun p => p.1 == q).map (·.2)
def φ : Fun := fun g => (μs.find? fun p => p.2 == g).map (·.1)
theorem tr_laws_FnExactAreFlags : trFunc Go.Proofs.Try.prog μ φ 3 = some A_laws_FnExactAreFlags := by kernel_rfl
theorem tr_laws_FnExactEulerOfFlags : trFunc Go.Proofs.Try.prog μ φ 4 = some A_laws_FnExactEulerOfFlags := by kernel_rfl
theorem tr_laws_FnExactMirrorOf : trFunc Go.Proofs.Try.prog μ φ 5 = some A_laws_FnExactMirrorOf := by kernel_rfl
theorem tr_laws_FnExactSubdividedOf : trFunc Go.Proofs.Try.prog μ φ 6 = some A_laws_FnExactSubdividedOf := by kernel_rfl
theorem tr_laws_FnExactIsOrientable : trFunc Go.Proofs.Try.prog μ φ 7 = some A_laws_FnExactIsOrientable := by kernel_rfl
theorem tr_laws_FnExactExchangeOf : trFunc Go.Proofs.Try.prog μ φ 8 = some A_laws_FnExactExchangeOf := by kernel_rfl
theorem tr_laws_FnExactTurnFlags : trFunc Go.Proofs.Try.prog μ φ 9 = some A_laws_FnExactTurnFlags := by kernel_rfl
theorem tr_laws_FnExactAreAlike : trFunc Go.Proofs.Try.prog μ φ 10 = some A_laws_FnExactAreAlike := by kernel_rfl
theorem tr_laws_FnExactIsChiral : trFunc Go.Proofs.Try.prog μ φ 11 = some A_laws_FnExactIsChiral := by kernel_rfl
theorem tr_laws_FnExactMapOfFlags : trFunc Go.Proofs.Try.prog μ φ 12 = some A_laws_FnExactMapOfFlags := by kernel_rfl
theorem tr_laws_FnExactIsClean : trFunc Go.Proofs.Try.prog μ φ 13 = some A_laws_FnExactIsClean := by kernel_rfl
theorem tr_laws_FnExactFaceDegrees : trFunc Go.Proofs.Try.prog μ φ 14 = some A_laws_FnExactFaceDegrees := by kernel_rfl
theorem tr_laws_FnExactVertexDegrees : trFunc Go.Proofs.Try.prog μ φ 15 = some A_laws_FnExactVertexDegrees := by kernel_rfl
theorem tr_laws_FnExactZigzagDegrees : trFunc Go.Proofs.Try.prog μ φ 16 = some A_laws_FnExactZigzagDegrees := by kernel_rfl
theorem tr_laws_FnExactFlagsOf : trFunc Go.Proofs.Try.prog μ φ 17 = some A_laws_FnExactFlagsOf := by kernel_rfl
theorem tr_spec_AreFlags : trFunc Go.Proofs.Try.prog μ φ 18 = some A_spec_AreFlags := by kernel_rfl
theorem tr_laws_toFlags : trFunc Go.Proofs.Try.prog μ φ 19 = some A_laws_toFlags := by kernel_rfl
theorem tr_impl_AreFlags : trFunc Go.Proofs.Try.prog μ φ 20 = some A_impl_AreFlags := by kernel_rfl
theorem tr_spec_EulerOfFlags : trFunc Go.Proofs.Try.prog μ φ 21 = some A_spec_EulerOfFlags := by kernel_rfl
theorem tr_impl_EulerOfFlags : trFunc Go.Proofs.Try.prog μ φ 22 = some A_impl_EulerOfFlags := by kernel_rfl
theorem tr_spec_MirrorOf : trFunc Go.Proofs.Try.prog μ φ 23 = some A_spec_MirrorOf := by kernel_rfl
theorem tr_laws_toDessin : trFunc Go.Proofs.Try.prog μ φ 24 = some A_laws_toDessin := by kernel_rfl
theorem tr_impl_MirrorOf : trFunc Go.Proofs.Try.prog μ φ 25 = some A_impl_MirrorOf := by kernel_rfl
theorem tr_laws_eqDessin : trFunc Go.Proofs.Try.prog μ φ 26 = some A_laws_eqDessin := by kernel_rfl
theorem tr_spec_SubdividedOf : trFunc Go.Proofs.Try.prog μ φ 27 = some A_spec_SubdividedOf := by kernel_rfl
theorem tr_impl_SubdividedOf : trFunc Go.Proofs.Try.prog μ φ 28 = some A_impl_SubdividedOf := by kernel_rfl
theorem tr_spec_IsOrientable : trFunc Go.Proofs.Try.prog μ φ 29 = some A_spec_IsOrientable := by kernel_rfl
theorem tr_impl_IsOrientable : trFunc Go.Proofs.Try.prog μ φ 30 = some A_impl_IsOrientable := by kernel_rfl
theorem tr_spec_ExchangeOf : trFunc Go.Proofs.Try.prog μ φ 31 = some A_spec_ExchangeOf := by kernel_rfl
theorem tr_impl_ExchangeOf : trFunc Go.Proofs.Try.prog μ φ 32 = some A_impl_ExchangeOf := by kernel_rfl
theorem tr_spec_TurnFlags : trFunc Go.Proofs.Try.prog μ φ 33 = some A_spec_TurnFlags := by kernel_rfl
theorem tr_impl_TurnFlags : trFunc Go.Proofs.Try.prog μ φ 34 = some A_impl_TurnFlags := by kernel_rfl
theorem tr_laws_eqFlags : trFunc Go.Proofs.Try.prog μ φ 35 = some A_laws_eqFlags := by kernel_rfl
theorem tr_spec_AreAlike : trFunc Go.Proofs.Try.prog μ φ 36 = some A_spec_AreAlike := by kernel_rfl
theorem tr_impl_AreAlike : trFunc Go.Proofs.Try.prog μ φ 37 = some A_impl_AreAlike := by kernel_rfl
theorem tr_spec_IsChiral : trFunc Go.Proofs.Try.prog μ φ 38 = some A_spec_IsChiral := by kernel_rfl
theorem tr_impl_IsChiral : trFunc Go.Proofs.Try.prog μ φ 39 = some A_impl_IsChiral := by kernel_rfl
theorem tr_spec_MapOfFlags : trFunc Go.Proofs.Try.prog μ φ 40 = some A_spec_MapOfFlags := by kernel_rfl
theorem tr_impl_MapOfFlags : trFunc Go.Proofs.Try.prog μ φ 41 = some A_impl_MapOfFlags := by kernel_rfl
theorem tr_spec_IsClean : trFunc Go.Proofs.Try.prog μ φ 42 = some A_spec_IsClean := by kernel_rfl
theorem tr_impl_IsClean : trFunc Go.Proofs.Try.prog μ φ 43 = some A_impl_IsClean := by kernel_rfl
theorem tr_spec_FaceDegrees : trFunc Go.Proofs.Try.prog μ φ 44 = some A_spec_FaceDegrees := by kernel_rfl
theorem tr_impl_FaceDegrees : trFunc Go.Proofs.Try.prog μ φ 45 = some A_impl_FaceDegrees := by kernel_rfl
theorem tr_laws_eqInt64S : trFunc Go.Proofs.Try.prog μ φ 46 = some A_laws_eqInt64S := by kernel_rfl
theorem tr_laws_markInt64S : trFunc Go.Proofs.Try.prog μ φ 47 = some A_laws_markInt64S := by kernel_rfl
theorem tr_laws_heldInt64S : trFunc Go.Proofs.Try.prog μ φ 48 = some A_laws_heldInt64S := by kernel_rfl
theorem tr_spec_VertexDegrees : trFunc Go.Proofs.Try.prog μ φ 49 = some A_spec_VertexDegrees := by kernel_rfl
theorem tr_impl_VertexDegrees : trFunc Go.Proofs.Try.prog μ φ 50 = some A_impl_VertexDegrees := by kernel_rfl
theorem tr_spec_ZigzagDegrees : trFunc Go.Proofs.Try.prog μ φ 51 = some A_spec_ZigzagDegrees := by kernel_rfl
theorem tr_impl_ZigzagDegrees : trFunc Go.Proofs.Try.prog μ φ 52 = some A_impl_ZigzagDegrees := by kernel_rfl
theorem tr_spec_FlagsOf : trFunc Go.Proofs.Try.prog μ φ 53 = some A_spec_FlagsOf := by kernel_rfl
theorem tr_impl_FlagsOf : trFunc Go.Proofs.Try.prog μ φ 54 = some A_impl_FlagsOf := by kernel_rfl
theorem tr_spec_l07Are : trFunc Go.Proofs.Try.prog μ φ 55 = some A_spec_l07Are := by kernel_rfl
theorem tr_laws_toByteA32 : trFunc Go.Proofs.Try.prog μ φ 56 = some A_laws_toByteA32 := by kernel_rfl
theorem tr_impl_orbits : trFunc Go.Proofs.Try.prog μ φ 57 = some A_impl_orbits := by kernel_rfl
theorem tr_spec_l07Degrees : trFunc Go.Proofs.Try.prog μ φ 58 = some A_spec_l07Degrees := by kernel_rfl
theorem tr_spec_l01Is : trFunc Go.Proofs.Try.prog μ φ 59 = some A_spec_l01Is := by kernel_rfl
theorem tr_spec_l07Mirror : trFunc Go.Proofs.Try.prog μ φ 60 = some A_spec_l07Mirror := by kernel_rfl
theorem tr_laws_toPlaces : trFunc Go.Proofs.Try.prog μ φ 61 = some A_laws_toPlaces := by kernel_rfl
theorem tr_impl_IsDessin : trFunc Go.Proofs.Try.prog μ φ 62 = some A_impl_IsDessin := by kernel_rfl
theorem tr_impl_mirror : trFunc Go.Proofs.Try.prog μ φ 63 = some A_impl_mirror := by kernel_rfl
theorem tr_laws_eqPlaces : trFunc Go.Proofs.Try.prog μ φ 64 = some A_laws_eqPlaces := by kernel_rfl
theorem tr_spec_l07Class : trFunc Go.Proofs.Try.prog μ φ 65 = some A_spec_l07Class := by kernel_rfl
theorem tr_impl_classesOf : trFunc Go.Proofs.Try.prog μ φ 66 = some A_impl_classesOf := by kernel_rfl
theorem tr_spec_l01In : trFunc Go.Proofs.Try.prog μ φ 67 = some A_spec_l01In := by kernel_rfl
theorem tr_spec_l01Face : trFunc Go.Proofs.Try.prog μ φ 68 = some A_spec_l01Face := by kernel_rfl
theorem tr_impl_face : trFunc Go.Proofs.Try.prog μ φ 69 = some A_impl_face := by kernel_rfl
theorem tr_spec_l07Turn : trFunc Go.Proofs.Try.prog μ φ 70 = some A_spec_l07Turn := by kernel_rfl
theorem tr_impl_both : trFunc Go.Proofs.Try.prog μ φ 71 = some A_impl_both := by kernel_rfl
theorem tr_laws_eqByteA32 : trFunc Go.Proofs.Try.prog μ φ 72 = some A_laws_eqByteA32 := by kernel_rfl
theorem tr_spec_l07Alike : trFunc Go.Proofs.Try.prog μ φ 73 = some A_spec_l07Alike := by kernel_rfl
theorem tr_impl_canonical : trFunc Go.Proofs.Try.prog μ φ 74 = some A_impl_canonical := by kernel_rfl
theorem tr_spec_l07Clean : trFunc Go.Proofs.Try.prog μ φ 75 = some A_spec_l07Clean := by kernel_rfl
theorem tr_impl_isClean : trFunc Go.Proofs.Try.prog μ φ 76 = some A_impl_isClean := by kernel_rfl
theorem tr_impl_degrees : trFunc Go.Proofs.Try.prog μ φ 77 = some A_impl_degrees := by kernel_rfl
theorem tr_spec_l07Both : trFunc Go.Proofs.Try.prog μ φ 78 = some A_spec_l07Both := by kernel_rfl
theorem tr_spec_l07Flags : trFunc Go.Proofs.Try.prog μ φ 79 = some A_spec_l07Flags := by kernel_rfl
theorem tr_spec_l07Pairs : trFunc Go.Proofs.Try.prog μ φ 80 = some A_spec_l07Pairs := by kernel_rfl
theorem tr_spec_l07Sets : trFunc Go.Proofs.Try.prog μ φ 81 = some A_spec_l07Sets := by kernel_rfl
theorem tr_spec_l01Perm : trFunc Go.Proofs.Try.prog μ φ 82 = some A_spec_l01Perm := by kernel_rfl
theorem tr_spec_l01Connected : trFunc Go.Proofs.Try.prog μ φ 83 = some A_spec_l01Connected := by kernel_rfl
theorem tr_spec_l01Back : trFunc Go.Proofs.Try.prog μ φ 84 = some A_spec_l01Back := by kernel_rfl
theorem tr_impl_IsPermutation : trFunc Go.Proofs.Try.prog μ φ 85 = some A_impl_IsPermutation := by kernel_rfl
theorem tr_impl_reached : trFunc Go.Proofs.Try.prog μ φ 86 = some A_impl_reached := by kernel_rfl
theorem tr_impl_back : trFunc Go.Proofs.Try.prog μ φ 87 = some A_impl_back := by kernel_rfl
theorem tr_spec_l01Then : trFunc Go.Proofs.Try.prog μ φ 88 = some A_spec_l01Then := by kernel_rfl
theorem tr_impl_then : trFunc Go.Proofs.Try.prog μ φ 89 = some A_impl_then := by kernel_rfl
theorem tr_spec_l07From : trFunc Go.Proofs.Try.prog μ φ 90 = some A_spec_l07From := by kernel_rfl
theorem tr_impl_rename : trFunc Go.Proofs.Try.prog μ φ 91 = some A_impl_rename := by kernel_rfl
theorem tr_impl_naming : trFunc Go.Proofs.Try.prog μ φ 92 = some A_impl_naming := by kernel_rfl
theorem tr_impl_compareDessins : trFunc Go.Proofs.Try.prog μ φ 93 = some A_impl_compareDessins := by kernel_rfl
theorem tr_impl_typeOf : trFunc Go.Proofs.Try.prog μ φ 94 = some A_impl_typeOf := by kernel_rfl
theorem tr_impl_descending : trFunc Go.Proofs.Try.prog μ φ 95 = some A_impl_descending := by kernel_rfl
theorem tr_impl_isSize : trFunc Go.Proofs.Try.prog μ φ 96 = some A_impl_isSize := by kernel_rfl
theorem tr_impl_named : trFunc Go.Proofs.Try.prog μ φ 97 = some A_impl_named := by kernel_rfl
theorem tr_impl_comparePlaces : trFunc Go.Proofs.Try.prog μ φ 98 = some A_impl_comparePlaces := by kernel_rfl
theorem tr_impl_cycles : trFunc Go.Proofs.Try.prog μ φ 99 = some A_impl_cycles := by kernel_rfl
theorem tr_slices_Sort_int64_int64 : trFunc Go.Proofs.Try.prog μ φ 100 = some A_slices_Sort_int64_int64 := by kernel_rfl
theorem tr_slices_Reverse_int64_int64 : trFunc Go.Proofs.Try.prog μ φ 101 = some A_slices_Reverse_int64_int64 := by kernel_rfl
theorem tr_slices_pdqsortOrdered_int64 : trFunc Go.Proofs.Try.prog μ φ 103 = some A_slices_pdqsortOrdered_int64 := by kernel_rfl
theorem tr_slices_insertionSortOrdered_int64 : trFunc Go.Proofs.Try.prog μ φ 106 = some A_slices_insertionSortOrdered_int64 := by kernel_rfl
theorem tr_slices_heapSortOrdered_int64 : trFunc Go.Proofs.Try.prog μ φ 107 = some A_slices_heapSortOrdered_int64 := by kernel_rfl
theorem tr_slices_breakPatternsOrdered_int64 : trFunc Go.Proofs.Try.prog μ φ 108 = some A_slices_breakPatternsOrdered_int64 := by kernel_rfl
theorem tr_slices_choosePivotOrdered_int64 : trFunc Go.Proofs.Try.prog μ φ 109 = some A_slices_choosePivotOrdered_int64 := by kernel_rfl
theorem tr_slices_reverseRangeOrdered_int64 : trFunc Go.Proofs.Try.prog μ φ 110 = some A_slices_reverseRangeOrdered_int64 := by kernel_rfl
theorem tr_slices_partialInsertionSortOrdered_int64 : trFunc Go.Proofs.Try.prog μ φ 111 = some A_slices_partialInsertionSortOrdered_int64 := by kernel_rfl
theorem tr_slices_partitionEqualOrdered_int64 : trFunc Go.Proofs.Try.prog μ φ 113 = some A_slices_partitionEqualOrdered_int64 := by kernel_rfl
theorem tr_slices_partitionOrdered_int64 : trFunc Go.Proofs.Try.prog μ φ 114 = some A_slices_partitionOrdered_int64 := by kernel_rfl
theorem tr_slices_siftDownOrdered_int64 : trFunc Go.Proofs.Try.prog μ φ 117 = some A_slices_siftDownOrdered_int64 := by kernel_rfl
theorem tr_slices_nextPowerOfTwo : trFunc Go.Proofs.Try.prog μ φ 118 = some A_slices_nextPowerOfTwo := by kernel_rfl
theorem tr_slices_medianAdjacentOrdered_int64 : trFunc Go.Proofs.Try.prog μ φ 120 = some A_slices_medianAdjacentOrdered_int64 := by kernel_rfl
theorem tr_slices_medianOrdered_int64 : trFunc Go.Proofs.Try.prog μ φ 121 = some A_slices_medianOrdered_int64 := by kernel_rfl
theorem tr_slices_order2Ordered_int64 : trFunc Go.Proofs.Try.prog μ φ 123 = some A_slices_order2Ordered_int64 := by kernel_rfl
theorem hΓ : ∀ g fn q, Γ g = some fn → φ g = some q → trFunc Go.Proofs.Try.prog μ φ q = some fn := by
  intro g fn q h1 h2
  match g, h1, h2 with
  | 131, h1, h2 =>
    cases h1
    have h : φ 131 = some 3 := by kernel_rfl
    rw [h] at h2
    cases h2
    exact tr_laws_FnExactAreFlags
  | 135, h1, h2 =>
    cases h1
    have h : φ 135 = some 4 := by kernel_rfl
    rw [h] at h2
    cases h2
    exact tr_laws_FnExactEulerOfFlags
  | 138, h1, h2 =>
    cases h1
    have h : φ 138 = some 5 := by kernel_rfl
    rw [h] at h2
    cases h2
    exact tr_laws_FnExactMirrorOf
  | 143, h1, h2 =>
    cases h1
    have h : φ 143 = some 6 := by kernel_rfl
    rw [h] at h2
    cases h2
    exact tr_laws_FnExactSubdividedOf
  | 146, h1, h2 =>
    cases h1
    have h : φ 146 = some 7 := by kernel_rfl
    rw [h] at h2
    cases h2
    exact tr_laws_FnExactIsOrientable
  | 149, h1, h2 =>
    cases h1
    have h : φ 149 = some 8 := by kernel_rfl
    rw [h] at h2
    cases h2
    exact tr_laws_FnExactExchangeOf
  | 152, h1, h2 =>
    cases h1
    have h : φ 152 = some 9 := by kernel_rfl
    rw [h] at h2
    cases h2
    exact tr_laws_FnExactTurnFlags
  | 156, h1, h2 =>
    cases h1
    have h : φ 156 = some 10 := by kernel_rfl
    rw [h] at h2
    cases h2
    exact tr_laws_FnExactAreAlike
  | 159, h1, h2 =>
    cases h1
    have h : φ 159 = some 11 := by kernel_rfl
    rw [h] at h2
    cases h2
    exact tr_laws_FnExactIsChiral
  | 162, h1, h2 =>
    cases h1
    have h : φ 162 = some 12 := by kernel_rfl
    rw [h] at h2
    cases h2
    exact tr_laws_FnExactMapOfFlags
  | 165, h1, h2 =>
    cases h1
    have h : φ 165 = some 13 := by kernel_rfl
    rw [h] at h2
    cases h2
    exact tr_laws_FnExactIsClean
  | 168, h1, h2 =>
    cases h1
    have h : φ 168 = some 14 := by kernel_rfl
    rw [h] at h2
    cases h2
    exact tr_laws_FnExactFaceDegrees
  | 171, h1, h2 =>
    cases h1
    have h : φ 171 = some 15 := by kernel_rfl
    rw [h] at h2
    cases h2
    exact tr_laws_FnExactVertexDegrees
  | 174, h1, h2 =>
    cases h1
    have h : φ 174 = some 16 := by kernel_rfl
    rw [h] at h2
    cases h2
    exact tr_laws_FnExactZigzagDegrees
  | 177, h1, h2 =>
    cases h1
    have h : φ 177 = some 17 := by kernel_rfl
    rw [h] at h2
    cases h2
    exact tr_laws_FnExactFlagsOf
  | 133, h1, h2 =>
    cases h1
    have h : φ 133 = some 18 := by kernel_rfl
    rw [h] at h2
    cases h2
    exact tr_spec_AreFlags
  | 132, h1, h2 =>
    cases h1
    have h : φ 132 = some 19 := by kernel_rfl
    rw [h] at h2
    cases h2
    exact tr_laws_toFlags
  | 134, h1, h2 =>
    cases h1
    have h : φ 134 = some 20 := by kernel_rfl
    rw [h] at h2
    cases h2
    exact tr_impl_AreFlags
  | 136, h1, h2 =>
    cases h1
    have h : φ 136 = some 21 := by kernel_rfl
    rw [h] at h2
    cases h2
    exact tr_spec_EulerOfFlags
  | 137, h1, h2 =>
    cases h1
    have h : φ 137 = some 22 := by kernel_rfl
    rw [h] at h2
    cases h2
    exact tr_impl_EulerOfFlags
  | 140, h1, h2 =>
    cases h1
    have h : φ 140 = some 23 := by kernel_rfl
    rw [h] at h2
    cases h2
    exact tr_spec_MirrorOf
  | 139, h1, h2 =>
    cases h1
    have h : φ 139 = some 24 := by kernel_rfl
    rw [h] at h2
    cases h2
    exact tr_laws_toDessin
  | 141, h1, h2 =>
    cases h1
    have h : φ 141 = some 25 := by kernel_rfl
    rw [h] at h2
    cases h2
    exact tr_impl_MirrorOf
  | 142, h1, h2 =>
    cases h1
    have h : φ 142 = some 26 := by kernel_rfl
    rw [h] at h2
    cases h2
    exact tr_laws_eqDessin
  | 144, h1, h2 =>
    cases h1
    have h : φ 144 = some 27 := by kernel_rfl
    rw [h] at h2
    cases h2
    exact tr_spec_SubdividedOf
  | 145, h1, h2 =>
    cases h1
    have h : φ 145 = some 28 := by kernel_rfl
    rw [h] at h2
    cases h2
    exact tr_impl_SubdividedOf
  | 147, h1, h2 =>
    cases h1
    have h : φ 147 = some 29 := by kernel_rfl
    rw [h] at h2
    cases h2
    exact tr_spec_IsOrientable
  | 148, h1, h2 =>
    cases h1
    have h : φ 148 = some 30 := by kernel_rfl
    rw [h] at h2
    cases h2
    exact tr_impl_IsOrientable
  | 150, h1, h2 =>
    cases h1
    have h : φ 150 = some 31 := by kernel_rfl
    rw [h] at h2
    cases h2
    exact tr_spec_ExchangeOf
  | 151, h1, h2 =>
    cases h1
    have h : φ 151 = some 32 := by kernel_rfl
    rw [h] at h2
    cases h2
    exact tr_impl_ExchangeOf
  | 153, h1, h2 =>
    cases h1
    have h : φ 153 = some 33 := by kernel_rfl
    rw [h] at h2
    cases h2
    exact tr_spec_TurnFlags
  | 154, h1, h2 =>
    cases h1
    have h : φ 154 = some 34 := by kernel_rfl
    rw [h] at h2
    cases h2
    exact tr_impl_TurnFlags
  | 155, h1, h2 =>
    cases h1
    have h : φ 155 = some 35 := by kernel_rfl
    rw [h] at h2
    cases h2
    exact tr_laws_eqFlags
  | 157, h1, h2 =>
    cases h1
    have h : φ 157 = some 36 := by kernel_rfl
    rw [h] at h2
    cases h2
    exact tr_spec_AreAlike
  | 158, h1, h2 =>
    cases h1
    have h : φ 158 = some 37 := by kernel_rfl
    rw [h] at h2
    cases h2
    exact tr_impl_AreAlike
  | 160, h1, h2 =>
    cases h1
    have h : φ 160 = some 38 := by kernel_rfl
    rw [h] at h2
    cases h2
    exact tr_spec_IsChiral
  | 161, h1, h2 =>
    cases h1
    have h : φ 161 = some 39 := by kernel_rfl
    rw [h] at h2
    cases h2
    exact tr_impl_IsChiral
  | 163, h1, h2 =>
    cases h1
    have h : φ 163 = some 40 := by kernel_rfl
    rw [h] at h2
    cases h2
    exact tr_spec_MapOfFlags
  | 164, h1, h2 =>
    cases h1
    have h : φ 164 = some 41 := by kernel_rfl
    rw [h] at h2
    cases h2
    exact tr_impl_MapOfFlags
  | 166, h1, h2 =>
    cases h1
    have h : φ 166 = some 42 := by kernel_rfl
    rw [h] at h2
    cases h2
    exact tr_spec_IsClean
  | 167, h1, h2 =>
    cases h1
    have h : φ 167 = some 43 := by kernel_rfl
    rw [h] at h2
    cases h2
    exact tr_impl_IsClean
  | 169, h1, h2 =>
    cases h1
    have h : φ 169 = some 44 := by kernel_rfl
    rw [h] at h2
    cases h2
    exact tr_spec_FaceDegrees
  | 170, h1, h2 =>
    cases h1
    have h : φ 170 = some 45 := by kernel_rfl
    rw [h] at h2
    cases h2
    exact tr_impl_FaceDegrees
  | 3, h1, h2 =>
    cases h1
    have h : φ 3 = some 46 := by kernel_rfl
    rw [h] at h2
    cases h2
    exact tr_laws_eqInt64S
  | 6, h1, h2 =>
    cases h1
    have h : φ 6 = some 47 := by kernel_rfl
    rw [h] at h2
    cases h2
    exact tr_laws_markInt64S
  | 7, h1, h2 =>
    cases h1
    have h : φ 7 = some 48 := by kernel_rfl
    rw [h] at h2
    cases h2
    exact tr_laws_heldInt64S
  | 172, h1, h2 =>
    cases h1
    have h : φ 172 = some 49 := by kernel_rfl
    rw [h] at h2
    cases h2
    exact tr_spec_VertexDegrees
  | 173, h1, h2 =>
    cases h1
    have h : φ 173 = some 50 := by kernel_rfl
    rw [h] at h2
    cases h2
    exact tr_impl_VertexDegrees
  | 175, h1, h2 =>
    cases h1
    have h : φ 175 = some 51 := by kernel_rfl
    rw [h] at h2
    cases h2
    exact tr_spec_ZigzagDegrees
  | 176, h1, h2 =>
    cases h1
    have h : φ 176 = some 52 := by kernel_rfl
    rw [h] at h2
    cases h2
    exact tr_impl_ZigzagDegrees
  | 178, h1, h2 =>
    cases h1
    have h : φ 178 = some 53 := by kernel_rfl
    rw [h] at h2
    cases h2
    exact tr_spec_FlagsOf
  | 179, h1, h2 =>
    cases h1
    have h : φ 179 = some 54 := by kernel_rfl
    rw [h] at h2
    cases h2
    exact tr_impl_FlagsOf
  | 180, h1, h2 =>
    cases h1
    have h : φ 180 = some 55 := by kernel_rfl
    rw [h] at h2
    cases h2
    exact tr_spec_l07Are
  | 181, h1, h2 =>
    cases h1
    have h : φ 181 = some 56 := by kernel_rfl
    rw [h] at h2
    cases h2
    exact tr_laws_toByteA32
  | 182, h1, h2 =>
    cases h1
    have h : φ 182 = some 57 := by kernel_rfl
    rw [h] at h2
    cases h2
    exact tr_impl_orbits
  | 183, h1, h2 =>
    cases h1
    have h : φ 183 = some 58 := by kernel_rfl
    rw [h] at h2
    cases h2
    exact tr_spec_l07Degrees
  | 184, h1, h2 =>
    cases h1
    have h : φ 184 = some 59 := by kernel_rfl
    rw [h] at h2
    cases h2
    exact tr_spec_l01Is
  | 185, h1, h2 =>
    cases h1
    have h : φ 185 = some 60 := by kernel_rfl
    rw [h] at h2
    cases h2
    exact tr_spec_l07Mirror
  | 186, h1, h2 =>
    cases h1
    have h : φ 186 = some 61 := by kernel_rfl
    rw [h] at h2
    cases h2
    exact tr_laws_toPlaces
  | 187, h1, h2 =>
    cases h1
    have h : φ 187 = some 62 := by kernel_rfl
    rw [h] at h2
    cases h2
    exact tr_impl_IsDessin
  | 188, h1, h2 =>
    cases h1
    have h : φ 188 = some 63 := by kernel_rfl
    rw [h] at h2
    cases h2
    exact tr_impl_mirror
  | 189, h1, h2 =>
    cases h1
    have h : φ 189 = some 64 := by kernel_rfl
    rw [h] at h2
    cases h2
    exact tr_laws_eqPlaces
  | 190, h1, h2 =>
    cases h1
    have h : φ 190 = some 65 := by kernel_rfl
    rw [h] at h2
    cases h2
    exact tr_spec_l07Class
  | 191, h1, h2 =>
    cases h1
    have h : φ 191 = some 66 := by kernel_rfl
    rw [h] at h2
    cases h2
    exact tr_impl_classesOf
  | 58, h1, h2 =>
    cases h1
    have h : φ 58 = some 67 := by kernel_rfl
    rw [h] at h2
    cases h2
    exact tr_spec_l01In
  | 192, h1, h2 =>
    cases h1
    have h : φ 192 = some 68 := by kernel_rfl
    rw [h] at h2
    cases h2
    exact tr_spec_l01Face
  | 193, h1, h2 =>
    cases h1
    have h : φ 193 = some 69 := by kernel_rfl
    rw [h] at h2
    cases h2
    exact tr_impl_face
  | 194, h1, h2 =>
    cases h1
    have h : φ 194 = some 70 := by kernel_rfl
    rw [h] at h2
    cases h2
    exact tr_spec_l07Turn
  | 195, h1, h2 =>
    cases h1
    have h : φ 195 = some 71 := by kernel_rfl
    rw [h] at h2
    cases h2
    exact tr_impl_both
  | 196, h1, h2 =>
    cases h1
    have h : φ 196 = some 72 := by kernel_rfl
    rw [h] at h2
    cases h2
    exact tr_laws_eqByteA32
  | 197, h1, h2 =>
    cases h1
    have h : φ 197 = some 73 := by kernel_rfl
    rw [h] at h2
    cases h2
    exact tr_spec_l07Alike
  | 198, h1, h2 =>
    cases h1
    have h : φ 198 = some 74 := by kernel_rfl
    rw [h] at h2
    cases h2
    exact tr_impl_canonical
  | 199, h1, h2 =>
    cases h1
    have h : φ 199 = some 75 := by kernel_rfl
    rw [h] at h2
    cases h2
    exact tr_spec_l07Clean
  | 200, h1, h2 =>
    cases h1
    have h : φ 200 = some 76 := by kernel_rfl
    rw [h] at h2
    cases h2
    exact tr_impl_isClean
  | 201, h1, h2 =>
    cases h1
    have h : φ 201 = some 77 := by kernel_rfl
    rw [h] at h2
    cases h2
    exact tr_impl_degrees
  | 202, h1, h2 =>
    cases h1
    have h : φ 202 = some 78 := by kernel_rfl
    rw [h] at h2
    cases h2
    exact tr_spec_l07Both
  | 203, h1, h2 =>
    cases h1
    have h : φ 203 = some 79 := by kernel_rfl
    rw [h] at h2
    cases h2
    exact tr_spec_l07Flags
  | 204, h1, h2 =>
    cases h1
    have h : φ 204 = some 80 := by kernel_rfl
    rw [h] at h2
    cases h2
    exact tr_spec_l07Pairs
  | 205, h1, h2 =>
    cases h1
    have h : φ 205 = some 81 := by kernel_rfl
    rw [h] at h2
    cases h2
    exact tr_spec_l07Sets
  | 206, h1, h2 =>
    cases h1
    have h : φ 206 = some 82 := by kernel_rfl
    rw [h] at h2
    cases h2
    exact tr_spec_l01Perm
  | 207, h1, h2 =>
    cases h1
    have h : φ 207 = some 83 := by kernel_rfl
    rw [h] at h2
    cases h2
    exact tr_spec_l01Connected
  | 208, h1, h2 =>
    cases h1
    have h : φ 208 = some 84 := by kernel_rfl
    rw [h] at h2
    cases h2
    exact tr_spec_l01Back
  | 209, h1, h2 =>
    cases h1
    have h : φ 209 = some 85 := by kernel_rfl
    rw [h] at h2
    cases h2
    exact tr_impl_IsPermutation
  | 210, h1, h2 =>
    cases h1
    have h : φ 210 = some 86 := by kernel_rfl
    rw [h] at h2
    cases h2
    exact tr_impl_reached
  | 211, h1, h2 =>
    cases h1
    have h : φ 211 = some 87 := by kernel_rfl
    rw [h] at h2
    cases h2
    exact tr_impl_back
  | 212, h1, h2 =>
    cases h1
    have h : φ 212 = some 88 := by kernel_rfl
    rw [h] at h2
    cases h2
    exact tr_spec_l01Then
  | 213, h1, h2 =>
    cases h1
    have h : φ 213 = some 89 := by kernel_rfl
    rw [h] at h2
    cases h2
    exact tr_impl_then
  | 214, h1, h2 =>
    cases h1
    have h : φ 214 = some 90 := by kernel_rfl
    rw [h] at h2
    cases h2
    exact tr_spec_l07From
  | 216, h1, h2 =>
    cases h1
    have h : φ 216 = some 91 := by kernel_rfl
    rw [h] at h2
    cases h2
    exact tr_impl_rename
  | 215, h1, h2 =>
    cases h1
    have h : φ 215 = some 92 := by kernel_rfl
    rw [h] at h2
    cases h2
    exact tr_impl_naming
  | 217, h1, h2 =>
    cases h1
    have h : φ 217 = some 93 := by kernel_rfl
    rw [h] at h2
    cases h2
    exact tr_impl_compareDessins
  | 218, h1, h2 =>
    cases h1
    have h : φ 218 = some 94 := by kernel_rfl
    rw [h] at h2
    cases h2
    exact tr_impl_typeOf
  | 219, h1, h2 =>
    cases h1
    have h : φ 219 = some 95 := by kernel_rfl
    rw [h] at h2
    cases h2
    exact tr_impl_descending
  | 220, h1, h2 =>
    cases h1
    have h : φ 220 = some 96 := by kernel_rfl
    rw [h] at h2
    cases h2
    exact tr_impl_isSize
  | 221, h1, h2 =>
    cases h1
    have h : φ 221 = some 97 := by kernel_rfl
    rw [h] at h2
    cases h2
    exact tr_impl_named
  | 222, h1, h2 =>
    cases h1
    have h : φ 222 = some 98 := by kernel_rfl
    rw [h] at h2
    cases h2
    exact tr_impl_comparePlaces
  | 223, h1, h2 =>
    cases h1
    have h : φ 223 = some 99 := by kernel_rfl
    rw [h] at h2
    cases h2
    exact tr_impl_cycles
  | 224, h1, h2 =>
    cases h1
    have h : φ 224 = some 100 := by kernel_rfl
    rw [h] at h2
    cases h2
    exact tr_slices_Sort_int64_int64
  | 225, h1, h2 =>
    cases h1
    have h : φ 225 = some 101 := by kernel_rfl
    rw [h] at h2
    cases h2
    exact tr_slices_Reverse_int64_int64
  | 228, h1, h2 =>
    cases h1
    have h : φ 228 = some 103 := by kernel_rfl
    rw [h] at h2
    cases h2
    exact tr_slices_pdqsortOrdered_int64
  | 229, h1, h2 =>
    cases h1
    have h : φ 229 = some 106 := by kernel_rfl
    rw [h] at h2
    cases h2
    exact tr_slices_insertionSortOrdered_int64
  | 230, h1, h2 =>
    cases h1
    have h : φ 230 = some 107 := by kernel_rfl
    rw [h] at h2
    cases h2
    exact tr_slices_heapSortOrdered_int64
  | 231, h1, h2 =>
    cases h1
    have h : φ 231 = some 108 := by kernel_rfl
    rw [h] at h2
    cases h2
    exact tr_slices_breakPatternsOrdered_int64
  | 232, h1, h2 =>
    cases h1
    have h : φ 232 = some 109 := by kernel_rfl
    rw [h] at h2
    cases h2
    exact tr_slices_choosePivotOrdered_int64
  | 233, h1, h2 =>
    cases h1
    have h : φ 233 = some 110 := by kernel_rfl
    rw [h] at h2
    cases h2
    exact tr_slices_reverseRangeOrdered_int64
  | 234, h1, h2 =>
    cases h1
    have h : φ 234 = some 111 := by kernel_rfl
    rw [h] at h2
    cases h2
    exact tr_slices_partialInsertionSortOrdered_int64
  | 236, h1, h2 =>
    cases h1
    have h : φ 236 = some 113 := by kernel_rfl
    rw [h] at h2
    cases h2
    exact tr_slices_partitionEqualOrdered_int64
  | 237, h1, h2 =>
    cases h1
    have h : φ 237 = some 114 := by kernel_rfl
    rw [h] at h2
    cases h2
    exact tr_slices_partitionOrdered_int64
  | 239, h1, h2 =>
    cases h1
    have h : φ 239 = some 117 := by kernel_rfl
    rw [h] at h2
    cases h2
    exact tr_slices_siftDownOrdered_int64
  | 240, h1, h2 =>
    cases h1
    have h : φ 240 = some 118 := by kernel_rfl
    rw [h] at h2
    cases h2
    exact tr_slices_nextPowerOfTwo
  | 242, h1, h2 =>
    cases h1
    have h : φ 242 = some 120 := by kernel_rfl
    rw [h] at h2
    cases h2
    exact tr_slices_medianAdjacentOrdered_int64
  | 243, h1, h2 =>
    cases h1
    have h : φ 243 = some 121 := by kernel_rfl
    rw [h] at h2
    cases h2
    exact tr_slices_medianOrdered_int64
  | 246, h1, h2 =>
    cases h1
    have h : φ 246 = some 123 := by kernel_rfl
    rw [h] at h2
    cases h2
    exact tr_slices_order2Ordered_int64
end Go.Am
