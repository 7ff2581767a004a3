/- The program's functions are those of the table: by the translation, checked by reckoning. -/
import Derived.Test.YtbbgifoamnjhoaaProg
import Derived.KernelRfl
import Derived.Test.YtbbgifoamnjhoaaAmTab
import Derived.Test.YtbbgifoamnjhoaaAmSound
set_option linter.unusedVariables false
set_option maxRecDepth 100000
namespace Go.Am
open Go
def μs : List (Nat × Nat) := [(3, 248), (4, 121), (5, 156), (6, 159), (7, 165), (8, 168), (9, 171), (10, 174), (11, 177), (12, 251), (13, 254), (14, 257), (15, 260), (16, 263), (17, 249), (18, 250), (19, 142), (20, 20), (21, 22), (22, 21), (23, 23), (24, 24), (25, 157), (26, 139), (27, 158), (28, 160), (29, 161), (30, 166), (31, 167), (32, 169), (33, 132), (34, 170), (35, 3), (36, 6), (37, 7), (38, 172), (39, 173), (40, 175), (41, 176), (42, 178), (43, 179), (44, 155), (45, 252), (46, 253), (47, 255), (48, 256), (49, 258), (50, 259), (51, 261), (52, 262), (53, 264), (54, 265), (55, 266), (56, 267), (57, 268), (58, 269), (59, 189), (60, 77), (61, 78), (62, 79), (63, 0), (64, 80), (65, 81), (66, 184), (67, 197), (68, 186), (69, 187), (70, 198), (71, 185), (72, 188), (73, 199), (74, 200), (75, 180), (76, 183), (77, 181), (78, 201), (79, 202), (80, 134), (81, 195), (82, 203), (83, 196), (84, 270), (85, 271), (86, 58), (87, 272), (88, 273), (89, 274), (90, 275), (91, 276), (92, 277), (93, 278), (94, 106), (95, 68), (96, 206), (97, 207), (98, 214), (99, 209), (100, 210), (101, 216), (102, 215), (103, 217), (104, 208), (105, 211), (106, 218), (107, 204), (108, 205), (109, 182), (110, 219), (111, 279), (112, 280), (113, 281), (114, 282), (115, 283), (116, 220), (117, 221), (118, 222), (119, 223), (120, 224), (121, 225), (122, 284), (123, 192), (124, 193), (125, 226), (126, 228), (127, 227), (128, 285), (129, 212), (130, 213), (131, 238), (132, 229), (133, 230), (134, 231), (135, 232), (136, 233), (137, 234), (138, 235), (139, 236), (140, 237), (141, 244), (142, 245), (143, 239), (144, 240), (145, 241), (146, 242), (147, 243), (148, 247), (149, 246)]
def μ : Fun := fun q => (μs.find? fun p => p.1 == q).map (·.2)
def φ : Fun := fun g => (μs.find? fun p => p.2 == g).map (·.1)
theorem tr_laws_FnExactEulerOfPassport : trFunc Go.Proofs.Try.prog μ φ 4 = some A_laws_FnExactEulerOfPassport := by kernel_rfl
theorem tr_laws_szInt64SS : trFunc Go.Proofs.Try.prog μ φ 20 = some A_laws_szInt64SS := by kernel_rfl
theorem tr_spec_EulerOfPassport : trFunc Go.Proofs.Try.prog μ φ 21 = some A_spec_EulerOfPassport := by kernel_rfl
theorem tr_laws_toInt64SS : trFunc Go.Proofs.Try.prog μ φ 22 = some A_laws_toInt64SS := by kernel_rfl
theorem tr_impl_EulerOfPassport : trFunc Go.Proofs.Try.prog μ φ 23 = some A_impl_EulerOfPassport := by kernel_rfl
theorem tr_laws_eqInt64SS : trFunc Go.Proofs.Try.prog μ φ 24 = some A_laws_eqInt64SS := by kernel_rfl
theorem tr_laws_eqInt64S : trFunc Go.Proofs.Try.prog μ φ 35 = some A_laws_eqInt64S := by kernel_rfl
theorem tr_laws_markInt64S : trFunc Go.Proofs.Try.prog μ φ 36 = some A_laws_markInt64S := by kernel_rfl
theorem tr_laws_heldInt64S : trFunc Go.Proofs.Try.prog μ φ 37 = some A_laws_heldInt64S := by kernel_rfl
theorem tr_laws_szInt64S : trFunc Go.Proofs.Try.prog μ φ 60 = some A_laws_szInt64S := by kernel_rfl
theorem tr_spec_l04Is : trFunc Go.Proofs.Try.prog μ φ 61 = some A_spec_l04Is := by kernel_rfl
theorem tr_spec_l04Sum : trFunc Go.Proofs.Try.prog μ φ 62 = some A_spec_l04Sum := by kernel_rfl
theorem tr_laws_toInt64S : trFunc Go.Proofs.Try.prog μ φ 63 = some A_laws_toInt64S := by kernel_rfl
theorem tr_impl_sumOfPassport : trFunc Go.Proofs.Try.prog μ φ 64 = some A_impl_sumOfPassport := by kernel_rfl
theorem tr_impl_eulerOf : trFunc Go.Proofs.Try.prog μ φ 65 = some A_impl_eulerOf := by kernel_rfl
theorem tr_spec_l01Is : trFunc Go.Proofs.Try.prog μ φ 66 = some A_spec_l01Is := by kernel_rfl
theorem tr_impl_IsDessin : trFunc Go.Proofs.Try.prog μ φ 69 = some A_impl_IsDessin := by kernel_rfl
theorem tr_spec_l07Mirror : trFunc Go.Proofs.Try.prog μ φ 71 = some A_spec_l07Mirror := by kernel_rfl
theorem tr_impl_mirror : trFunc Go.Proofs.Try.prog μ φ 72 = some A_impl_mirror := by kernel_rfl
theorem tr_spec_l01In : trFunc Go.Proofs.Try.prog μ φ 86 = some A_spec_l01In := by kernel_rfl
theorem tr_spec_l04Type : trFunc Go.Proofs.Try.prog μ φ 94 = some A_spec_l04Type := by kernel_rfl
theorem tr_impl_sumOfType : trFunc Go.Proofs.Try.prog μ φ 95 = some A_impl_sumOfType := by kernel_rfl
theorem tr_spec_l01Perm : trFunc Go.Proofs.Try.prog μ φ 96 = some A_spec_l01Perm := by kernel_rfl
theorem tr_spec_l01Connected : trFunc Go.Proofs.Try.prog μ φ 97 = some A_spec_l01Connected := by kernel_rfl
theorem tr_impl_IsPermutation : trFunc Go.Proofs.Try.prog μ φ 99 = some A_impl_IsPermutation := by kernel_rfl
theorem tr_impl_reached : trFunc Go.Proofs.Try.prog μ φ 100 = some A_impl_reached := by kernel_rfl
theorem tr_spec_l01Back : trFunc Go.Proofs.Try.prog μ φ 104 = some A_spec_l01Back := by kernel_rfl
theorem tr_impl_back : trFunc Go.Proofs.Try.prog μ φ 105 = some A_impl_back := by kernel_rfl
theorem tr_impl_descending : trFunc Go.Proofs.Try.prog μ φ 110 = some A_impl_descending := by kernel_rfl
theorem tr_impl_isSize : trFunc Go.Proofs.Try.prog μ φ 116 = some A_impl_isSize := by kernel_rfl
theorem tr_slices_Sort_int64_int64 : trFunc Go.Proofs.Try.prog μ φ 120 = some A_slices_Sort_int64_int64 := by kernel_rfl
theorem tr_slices_Reverse_int64_int64 : trFunc Go.Proofs.Try.prog μ φ 121 = some A_slices_Reverse_int64_int64 := by kernel_rfl
theorem tr_spec_l01Face : trFunc Go.Proofs.Try.prog μ φ 123 = some A_spec_l01Face := by kernel_rfl
theorem tr_impl_face : trFunc Go.Proofs.Try.prog μ φ 124 = some A_impl_face := by kernel_rfl
theorem tr_slices_pdqsortOrdered_int64 : trFunc Go.Proofs.Try.prog μ φ 126 = some A_slices_pdqsortOrdered_int64 := by kernel_rfl
theorem tr_math_bits_Len : trFunc Go.Proofs.Try.prog μ φ 127 = some A_math_bits_Len := by kernel_rfl
theorem tr_spec_l01Then : trFunc Go.Proofs.Try.prog μ φ 129 = some A_spec_l01Then := by kernel_rfl
theorem tr_impl_then : trFunc Go.Proofs.Try.prog μ φ 130 = some A_impl_then := by kernel_rfl
theorem tr_slices_insertionSortOrdered_int64 : trFunc Go.Proofs.Try.prog μ φ 132 = some A_slices_insertionSortOrdered_int64 := by kernel_rfl
theorem tr_slices_breakPatternsOrdered_int64 : trFunc Go.Proofs.Try.prog μ φ 134 = some A_slices_breakPatternsOrdered_int64 := by kernel_rfl
theorem tr_slices_choosePivotOrdered_int64 : trFunc Go.Proofs.Try.prog μ φ 135 = some A_slices_choosePivotOrdered_int64 := by kernel_rfl
theorem tr_slices_reverseRangeOrdered_int64 : trFunc Go.Proofs.Try.prog μ φ 136 = some A_slices_reverseRangeOrdered_int64 := by kernel_rfl
theorem tr_slices_partialInsertionSortOrdered_int64 : trFunc Go.Proofs.Try.prog μ φ 137 = some A_slices_partialInsertionSortOrdered_int64 := by kernel_rfl
theorem tr_cmp_Less_int64 : trFunc Go.Proofs.Try.prog μ φ 138 = some A_cmp_Less_int64 := by kernel_rfl
theorem tr_slices_partitionEqualOrdered_int64 : trFunc Go.Proofs.Try.prog μ φ 139 = some A_slices_partitionEqualOrdered_int64 := by kernel_rfl
theorem tr_slices_partitionOrdered_int64 : trFunc Go.Proofs.Try.prog μ φ 140 = some A_slices_partitionOrdered_int64 := by kernel_rfl
theorem tr_math_bits_Len64 : trFunc Go.Proofs.Try.prog μ φ 142 = some A_math_bits_Len64 := by kernel_rfl
theorem tr_slices_nextPowerOfTwo : trFunc Go.Proofs.Try.prog μ φ 144 = some A_slices_nextPowerOfTwo := by kernel_rfl
theorem tr_slices_xorshift_Next : trFunc Go.Proofs.Try.prog μ φ 145 = some A_slices_xorshift_Next := by kernel_rfl
theorem tr_slices_medianOrdered_int64 : trFunc Go.Proofs.Try.prog μ φ 147 = some A_slices_medianOrdered_int64 := by kernel_rfl
theorem tr_cmp_isNaN_int64 : trFunc Go.Proofs.Try.prog μ φ 148 = some A_cmp_isNaN_int64 := by kernel_rfl
theorem tr_slices_order2Ordered_int64 : trFunc Go.Proofs.Try.prog μ φ 149 = some A_slices_order2Ordered_int64 := by kernel_rfl
theorem hΓ : ∀ g fn q, Γ g = some fn → φ g = some q → trFunc Go.Proofs.Try.prog μ φ q = some fn := by
  intro g fn q h1 h2
  match g, h1, h2 with
  | 121, h1, h2 =>
    cases h1
    have h : φ 121 = some 4 := by kernel_rfl
    rw [h] at h2
    cases h2
    exact tr_laws_FnExactEulerOfPassport
  | 20, h1, h2 =>
    cases h1
    have h : φ 20 = some 20 := by kernel_rfl
    rw [h] at h2
    cases h2
    exact tr_laws_szInt64SS
  | 22, h1, h2 =>
    cases h1
    have h : φ 22 = some 21 := by kernel_rfl
    rw [h] at h2
    cases h2
    exact tr_spec_EulerOfPassport
  | 21, h1, h2 =>
    cases h1
    have h : φ 21 = some 22 := by kernel_rfl
    rw [h] at h2
    cases h2
    exact tr_laws_toInt64SS
  | 23, h1, h2 =>
    cases h1
    have h : φ 23 = some 23 := by kernel_rfl
    rw [h] at h2
    cases h2
    exact tr_impl_EulerOfPassport
  | 24, h1, h2 =>
    cases h1
    have h : φ 24 = some 24 := by kernel_rfl
    rw [h] at h2
    cases h2
    exact tr_laws_eqInt64SS
  | 3, h1, h2 =>
    cases h1
    have h : φ 3 = some 35 := by kernel_rfl
    rw [h] at h2
    cases h2
    exact tr_laws_eqInt64S
  | 6, h1, h2 =>
    cases h1
    have h : φ 6 = some 36 := by kernel_rfl
    rw [h] at h2
    cases h2
    exact tr_laws_markInt64S
  | 7, h1, h2 =>
    cases h1
    have h : φ 7 = some 37 := by kernel_rfl
    rw [h] at h2
    cases h2
    exact tr_laws_heldInt64S
  | 77, h1, h2 =>
    cases h1
    have h : φ 77 = some 60 := by kernel_rfl
    rw [h] at h2
    cases h2
    exact tr_laws_szInt64S
  | 78, h1, h2 =>
    cases h1
    have h : φ 78 = some 61 := by kernel_rfl
    rw [h] at h2
    cases h2
    exact tr_spec_l04Is
  | 79, h1, h2 =>
    cases h1
    have h : φ 79 = some 62 := by kernel_rfl
    rw [h] at h2
    cases h2
    exact tr_spec_l04Sum
  | 0, h1, h2 =>
    cases h1
    have h : φ 0 = some 63 := by kernel_rfl
    rw [h] at h2
    cases h2
    exact tr_laws_toInt64S
  | 80, h1, h2 =>
    cases h1
    have h : φ 80 = some 64 := by kernel_rfl
    rw [h] at h2
    cases h2
    exact tr_impl_sumOfPassport
  | 81, h1, h2 =>
    cases h1
    have h : φ 81 = some 65 := by kernel_rfl
    rw [h] at h2
    cases h2
    exact tr_impl_eulerOf
  | 184, h1, h2 =>
    cases h1
    have h : φ 184 = some 66 := by kernel_rfl
    rw [h] at h2
    cases h2
    exact tr_spec_l01Is
  | 187, h1, h2 =>
    cases h1
    have h : φ 187 = some 69 := by kernel_rfl
    rw [h] at h2
    cases h2
    exact tr_impl_IsDessin
  | 185, h1, h2 =>
    cases h1
    have h : φ 185 = some 71 := by kernel_rfl
    rw [h] at h2
    cases h2
    exact tr_spec_l07Mirror
  | 188, h1, h2 =>
    cases h1
    have h : φ 188 = some 72 := by kernel_rfl
    rw [h] at h2
    cases h2
    exact tr_impl_mirror
  | 58, h1, h2 =>
    cases h1
    have h : φ 58 = some 86 := by kernel_rfl
    rw [h] at h2
    cases h2
    exact tr_spec_l01In
  | 106, h1, h2 =>
    cases h1
    have h : φ 106 = some 94 := by kernel_rfl
    rw [h] at h2
    cases h2
    exact tr_spec_l04Type
  | 68, h1, h2 =>
    cases h1
    have h : φ 68 = some 95 := by kernel_rfl
    rw [h] at h2
    cases h2
    exact tr_impl_sumOfType
  | 206, h1, h2 =>
    cases h1
    have h : φ 206 = some 96 := by kernel_rfl
    rw [h] at h2
    cases h2
    exact tr_spec_l01Perm
  | 207, h1, h2 =>
    cases h1
    have h : φ 207 = some 97 := by kernel_rfl
    rw [h] at h2
    cases h2
    exact tr_spec_l01Connected
  | 209, h1, h2 =>
    cases h1
    have h : φ 209 = some 99 := by kernel_rfl
    rw [h] at h2
    cases h2
    exact tr_impl_IsPermutation
  | 210, h1, h2 =>
    cases h1
    have h : φ 210 = some 100 := by kernel_rfl
    rw [h] at h2
    cases h2
    exact tr_impl_reached
  | 208, h1, h2 =>
    cases h1
    have h : φ 208 = some 104 := by kernel_rfl
    rw [h] at h2
    cases h2
    exact tr_spec_l01Back
  | 211, h1, h2 =>
    cases h1
    have h : φ 211 = some 105 := by kernel_rfl
    rw [h] at h2
    cases h2
    exact tr_impl_back
  | 219, h1, h2 =>
    cases h1
    have h : φ 219 = some 110 := by kernel_rfl
    rw [h] at h2
    cases h2
    exact tr_impl_descending
  | 220, h1, h2 =>
    cases h1
    have h : φ 220 = some 116 := by kernel_rfl
    rw [h] at h2
    cases h2
    exact tr_impl_isSize
  | 224, h1, h2 =>
    cases h1
    have h : φ 224 = some 120 := by kernel_rfl
    rw [h] at h2
    cases h2
    exact tr_slices_Sort_int64_int64
  | 225, h1, h2 =>
    cases h1
    have h : φ 225 = some 121 := by kernel_rfl
    rw [h] at h2
    cases h2
    exact tr_slices_Reverse_int64_int64
  | 192, h1, h2 =>
    cases h1
    have h : φ 192 = some 123 := by kernel_rfl
    rw [h] at h2
    cases h2
    exact tr_spec_l01Face
  | 193, h1, h2 =>
    cases h1
    have h : φ 193 = some 124 := by kernel_rfl
    rw [h] at h2
    cases h2
    exact tr_impl_face
  | 228, h1, h2 =>
    cases h1
    have h : φ 228 = some 126 := by kernel_rfl
    rw [h] at h2
    cases h2
    exact tr_slices_pdqsortOrdered_int64
  | 227, h1, h2 =>
    cases h1
    have h : φ 227 = some 127 := by kernel_rfl
    rw [h] at h2
    cases h2
    exact tr_math_bits_Len
  | 212, h1, h2 =>
    cases h1
    have h : φ 212 = some 129 := by kernel_rfl
    rw [h] at h2
    cases h2
    exact tr_spec_l01Then
  | 213, h1, h2 =>
    cases h1
    have h : φ 213 = some 130 := by kernel_rfl
    rw [h] at h2
    cases h2
    exact tr_impl_then
  | 229, h1, h2 =>
    cases h1
    have h : φ 229 = some 132 := by kernel_rfl
    rw [h] at h2
    cases h2
    exact tr_slices_insertionSortOrdered_int64
  | 231, h1, h2 =>
    cases h1
    have h : φ 231 = some 134 := by kernel_rfl
    rw [h] at h2
    cases h2
    exact tr_slices_breakPatternsOrdered_int64
  | 232, h1, h2 =>
    cases h1
    have h : φ 232 = some 135 := by kernel_rfl
    rw [h] at h2
    cases h2
    exact tr_slices_choosePivotOrdered_int64
  | 233, h1, h2 =>
    cases h1
    have h : φ 233 = some 136 := by kernel_rfl
    rw [h] at h2
    cases h2
    exact tr_slices_reverseRangeOrdered_int64
  | 234, h1, h2 =>
    cases h1
    have h : φ 234 = some 137 := by kernel_rfl
    rw [h] at h2
    cases h2
    exact tr_slices_partialInsertionSortOrdered_int64
  | 235, h1, h2 =>
    cases h1
    have h : φ 235 = some 138 := by kernel_rfl
    rw [h] at h2
    cases h2
    exact tr_cmp_Less_int64
  | 236, h1, h2 =>
    cases h1
    have h : φ 236 = some 139 := by kernel_rfl
    rw [h] at h2
    cases h2
    exact tr_slices_partitionEqualOrdered_int64
  | 237, h1, h2 =>
    cases h1
    have h : φ 237 = some 140 := by kernel_rfl
    rw [h] at h2
    cases h2
    exact tr_slices_partitionOrdered_int64
  | 245, h1, h2 =>
    cases h1
    have h : φ 245 = some 142 := by kernel_rfl
    rw [h] at h2
    cases h2
    exact tr_math_bits_Len64
  | 240, h1, h2 =>
    cases h1
    have h : φ 240 = some 144 := by kernel_rfl
    rw [h] at h2
    cases h2
    exact tr_slices_nextPowerOfTwo
  | 241, h1, h2 =>
    cases h1
    have h : φ 241 = some 145 := by kernel_rfl
    rw [h] at h2
    cases h2
    exact tr_slices_xorshift_Next
  | 243, h1, h2 =>
    cases h1
    have h : φ 243 = some 147 := by kernel_rfl
    rw [h] at h2
    cases h2
    exact tr_slices_medianOrdered_int64
  | 247, h1, h2 =>
    cases h1
    have h : φ 247 = some 148 := by kernel_rfl
    rw [h] at h2
    cases h2
    exact tr_cmp_isNaN_int64
  | 246, h1, h2 =>
    cases h1
    have h : φ 246 = some 149 := by kernel_rfl
    rw [h] at h2
    cases h2
    exact tr_slices_order2Ordered_int64
end Go.Am
