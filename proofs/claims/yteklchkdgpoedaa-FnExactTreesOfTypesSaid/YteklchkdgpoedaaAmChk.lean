/- The program's functions are those of the table: by the translation, checked by reckoning. -/
import Derived.Test.YteklchkdgpoedaaProg
import Derived.KernelRfl
import Derived.Test.YteklchkdgpoedaaAmTab
import Derived.Test.YteklchkdgpoedaaAmSound
set_option linter.unusedVariables false
set_option maxRecDepth 100000
namespace Go.Am
open Go
def μs : List (Nat × Nat) := [(3, 398), (4, 129), (5, 130), (6, 301), (7, 41), (8, 399), (9, 330), (10, 400), (11, 401), (12, 47), (13, 48), (14, 158), (15, 328), (16, 402), (17, 151), (18, 43), (19, 403), (20, 145), (21, 179), (22, 137), (23, 42), (24, 17), (25, 16), (26, 2), (27, 1), (28, 15), (29, 14), (30, 44), (31, 28), (32, 27), (33, 45), (34, 11), (35, 10), (36, 30), (37, 29), (38, 46), (39, 9), (40, 8), (41, 49), (42, 34), (43, 33), (44, 32), (45, 31), (46, 50), (47, 36), (48, 35), (49, 38), (50, 37), (51, 51), (52, 52), (53, 5), (54, 4), (55, 53), (56, 19), (57, 18), (58, 54), (59, 26), (60, 25), (61, 55), (62, 23), (63, 13), (64, 302), (65, 0), (66, 303), (67, 304), (68, 3), (69, 6), (70, 305), (71, 306), (72, 374), (73, 97), (74, 187), (75, 280), (76, 184), (77, 279), (78, 198), (79, 410), (80, 411), (81, 193), (82, 412), (83, 200), (84, 134), (85, 182), (86, 96), (87, 75), (88, 71), (89, 74), (90, 57), (91, 56), (92, 73), (93, 72), (94, 99), (95, 98), (96, 85), (97, 100), (98, 63), (99, 62), (100, 87), (101, 86), (102, 101), (103, 58), (104, 61), (105, 90), (106, 91), (107, 88), (108, 89), (109, 102), (110, 94), (111, 95), (112, 92), (113, 93), (114, 60), (115, 59), (116, 76), (117, 83), (118, 84), (119, 82), (120, 80), (121, 81), (122, 67), (123, 68), (124, 69), (125, 70), (126, 64), (127, 343), (128, 267), (129, 344), (130, 284), (131, 276), (132, 345), (133, 269), (134, 277), (135, 346), (136, 347), (137, 348), (138, 349), (139, 372), (140, 364), (141, 209), (142, 210), (143, 218), (144, 206), (145, 207), (146, 192), (147, 216), (148, 215), (149, 217), (150, 415), (151, 211), (152, 213), (153, 105), (154, 103), (155, 104), (156, 110), (157, 108), (158, 109), (159, 107), (160, 370), (161, 285), (162, 272), (163, 278), (164, 274), (165, 371), (166, 227), (167, 387), (168, 388), (169, 356), (170, 220), (171, 223), (172, 219), (173, 208), (174, 212), (175, 221), (176, 222), (177, 417), (178, 418), (179, 419), (180, 111), (181, 112), (182, 281), (183, 283), (184, 378), (185, 379), (186, 380), (187, 381), (188, 382), (189, 383), (190, 384), (191, 385), (192, 386), (193, 244), (194, 245), (195, 396), (196, 224), (197, 225), (198, 226), (199, 392), (200, 240), (201, 241), (202, 393), (203, 394), (204, 395), (205, 228), (206, 238), (207, 397), (208, 229), (209, 230), (210, 231), (211, 232), (212, 233), (213, 234), (214, 235), (215, 236), (216, 237), (217, 239), (218, 242), (219, 243), (220, 247), (221, 246)]
def μ : Fun := fun q => (μs.find? fun p => p.1 == q).map (·.2)
def φ : Fun := fun g => (μs.find? fun p => p.2 == g).map (·.1)
theorem tr_laws_FnExactTreesOfTypes : trFunc Go.Proofs.Try.prog μ φ 6 = some A_laws_FnExactTreesOfTypes := by kernel_rfl
theorem tr_spec_TreesOfTypes : trFunc Go.Proofs.Try.prog μ φ 64 = some A_spec_TreesOfTypes := by kernel_rfl
theorem tr_laws_toInt64S : trFunc Go.Proofs.Try.prog μ φ 65 = some A_laws_toInt64S := by kernel_rfl
theorem tr_impl_TreesOfTypes : trFunc Go.Proofs.Try.prog μ φ 66 = some A_impl_TreesOfTypes := by kernel_rfl
theorem tr_laws_eqStringS : trFunc Go.Proofs.Try.prog μ φ 67 = some A_laws_eqStringS := by kernel_rfl
theorem tr_laws_eqInt64S : trFunc Go.Proofs.Try.prog μ φ 68 = some A_laws_eqInt64S := by kernel_rfl
theorem tr_laws_markInt64S : trFunc Go.Proofs.Try.prog μ φ 69 = some A_laws_markInt64S := by kernel_rfl
theorem tr_laws_markStringS : trFunc Go.Proofs.Try.prog μ φ 70 = some A_laws_markStringS := by kernel_rfl
theorem tr_laws_heldStringS : trFunc Go.Proofs.Try.prog μ φ 71 = some A_laws_heldStringS := by kernel_rfl
theorem tr_impl_passport : trFunc Go.Proofs.Try.prog μ φ 75 = some A_impl_passport := by kernel_rfl
theorem tr_impl_face : trFunc Go.Proofs.Try.prog μ φ 81 = some A_impl_face := by kernel_rfl
theorem tr_spec_l01In : trFunc Go.Proofs.Try.prog μ φ 103 = some A_spec_l01In := by kernel_rfl
theorem tr_impl_areTypes : trFunc Go.Proofs.Try.prog μ φ 122 = some A_impl_areTypes := by kernel_rfl
theorem tr_impl_sumOfType : trFunc Go.Proofs.Try.prog μ φ 123 = some A_impl_sumOfType := by kernel_rfl
theorem tr_spec_l05Types : trFunc Go.Proofs.Try.prog μ φ 126 = some A_spec_l05Types := by kernel_rfl
theorem tr_spec_l05All : trFunc Go.Proofs.Try.prog μ φ 127 = some A_spec_l05All := by kernel_rfl
theorem tr_spec_l05Made : trFunc Go.Proofs.Try.prog μ φ 128 = some A_spec_l05Made := by kernel_rfl
theorem tr_spec_l05Same : trFunc Go.Proofs.Try.prog μ φ 129 = some A_spec_l05Same := by kernel_rfl
theorem tr_spec_l01Type : trFunc Go.Proofs.Try.prog μ φ 130 = some A_spec_l01Type := by kernel_rfl
theorem tr_spec_l05Canonical : trFunc Go.Proofs.Try.prog μ φ 131 = some A_spec_l05Canonical := by kernel_rfl
theorem tr_impl_words : trFunc Go.Proofs.Try.prog μ φ 132 = some A_impl_words := by kernel_rfl
theorem tr_impl_treeOfWord : trFunc Go.Proofs.Try.prog μ φ 133 = some A_impl_treeOfWord := by kernel_rfl
theorem tr_impl_leastWord : trFunc Go.Proofs.Try.prog μ φ 134 = some A_impl_leastWord := by kernel_rfl
theorem tr_slices_Equal_int64_int64 : trFunc Go.Proofs.Try.prog μ φ 135 = some A_slices_Equal_int64_int64 := by kernel_rfl
theorem tr_slices_Sort_string_string : trFunc Go.Proofs.Try.prog μ φ 136 = some A_slices_Sort_string_string := by kernel_rfl
theorem tr_slices_Compact_string_string : trFunc Go.Proofs.Try.prog μ φ 137 = some A_slices_Compact_string_string := by kernel_rfl
theorem tr_laws_markText : trFunc Go.Proofs.Try.prog μ φ 138 = some A_laws_markText := by kernel_rfl
theorem tr_impl_typeOf : trFunc Go.Proofs.Try.prog μ φ 143 = some A_impl_typeOf := by kernel_rfl
theorem tr_impl_back : trFunc Go.Proofs.Try.prog μ φ 151 = some A_impl_back := by kernel_rfl
theorem tr_impl_then : trFunc Go.Proofs.Try.prog μ φ 152 = some A_impl_then := by kernel_rfl
theorem tr_spec_l03Less : trFunc Go.Proofs.Try.prog μ φ 160 = some A_spec_l03Less := by kernel_rfl
theorem tr_spec_l01Cycles : trFunc Go.Proofs.Try.prog μ φ 161 = some A_spec_l01Cycles := by kernel_rfl
theorem tr_spec_l05At : trFunc Go.Proofs.Try.prog μ φ 162 = some A_spec_l05At := by kernel_rfl
theorem tr_impl_treeOfWord_1 : trFunc Go.Proofs.Try.prog μ φ 163 = some A_impl_treeOfWord_1 := by kernel_rfl
theorem tr_impl_wordOfTree : trFunc Go.Proofs.Try.prog μ φ 164 = some A_impl_wordOfTree := by kernel_rfl
theorem tr_slices_pdqsortOrdered_string : trFunc Go.Proofs.Try.prog μ φ 165 = some A_slices_pdqsortOrdered_string := by kernel_rfl
theorem tr_math_bits_Len : trFunc Go.Proofs.Try.prog μ φ 166 = some A_math_bits_Len := by kernel_rfl
theorem tr_impl_cycles : trFunc Go.Proofs.Try.prog μ φ 171 = some A_impl_cycles := by kernel_rfl
theorem tr_impl_descending : trFunc Go.Proofs.Try.prog μ φ 172 = some A_impl_descending := by kernel_rfl
theorem tr_spec_l05Below : trFunc Go.Proofs.Try.prog μ φ 182 = some A_spec_l05Below := by kernel_rfl
theorem tr_impl_wordAt : trFunc Go.Proofs.Try.prog μ φ 183 = some A_impl_wordAt := by kernel_rfl
theorem tr_slices_insertionSortOrdered_string : trFunc Go.Proofs.Try.prog μ φ 184 = some A_slices_insertionSortOrdered_string := by kernel_rfl
theorem tr_cmp_Less_string : trFunc Go.Proofs.Try.prog μ φ 190 = some A_cmp_Less_string := by kernel_rfl
theorem tr_math_bits_Len64 : trFunc Go.Proofs.Try.prog μ φ 194 = some A_math_bits_Len64 := by kernel_rfl
theorem tr_slices_Sort_int64_int64 : trFunc Go.Proofs.Try.prog μ φ 196 = some A_slices_Sort_int64_int64 := by kernel_rfl
theorem tr_slices_Reverse_int64_int64 : trFunc Go.Proofs.Try.prog μ φ 197 = some A_slices_Reverse_int64_int64 := by kernel_rfl
theorem tr_slices_nextPowerOfTwo : trFunc Go.Proofs.Try.prog μ φ 200 = some A_slices_nextPowerOfTwo := by kernel_rfl
theorem tr_slices_xorshift_Next : trFunc Go.Proofs.Try.prog μ φ 201 = some A_slices_xorshift_Next := by kernel_rfl
theorem tr_cmp_isNaN_string : trFunc Go.Proofs.Try.prog μ φ 204 = some A_cmp_isNaN_string := by kernel_rfl
theorem tr_slices_pdqsortOrdered_int64 : trFunc Go.Proofs.Try.prog μ φ 205 = some A_slices_pdqsortOrdered_int64 := by kernel_rfl
theorem tr_slices_insertionSortOrdered_int64 : trFunc Go.Proofs.Try.prog μ φ 208 = some A_slices_insertionSortOrdered_int64 := by kernel_rfl
theorem tr_slices_breakPatternsOrdered_int64 : trFunc Go.Proofs.Try.prog μ φ 210 = some A_slices_breakPatternsOrdered_int64 := by kernel_rfl
theorem tr_slices_choosePivotOrdered_int64 : trFunc Go.Proofs.Try.prog μ φ 211 = some A_slices_choosePivotOrdered_int64 := by kernel_rfl
theorem tr_slices_reverseRangeOrdered_int64 : trFunc Go.Proofs.Try.prog μ φ 212 = some A_slices_reverseRangeOrdered_int64 := by kernel_rfl
theorem tr_slices_partialInsertionSortOrdered_int64 : trFunc Go.Proofs.Try.prog μ φ 213 = some A_slices_partialInsertionSortOrdered_int64 := by kernel_rfl
theorem tr_cmp_Less_int64 : trFunc Go.Proofs.Try.prog μ φ 214 = some A_cmp_Less_int64 := by kernel_rfl
theorem tr_slices_partitionEqualOrdered_int64 : trFunc Go.Proofs.Try.prog μ φ 215 = some A_slices_partitionEqualOrdered_int64 := by kernel_rfl
theorem tr_slices_partitionOrdered_int64 : trFunc Go.Proofs.Try.prog μ φ 216 = some A_slices_partitionOrdered_int64 := by kernel_rfl
theorem tr_slices_medianOrdered_int64 : trFunc Go.Proofs.Try.prog μ φ 219 = some A_slices_medianOrdered_int64 := by kernel_rfl
theorem tr_cmp_isNaN_int64 : trFunc Go.Proofs.Try.prog μ φ 220 = some A_cmp_isNaN_int64 := by kernel_rfl
theorem tr_slices_order2Ordered_int64 : trFunc Go.Proofs.Try.prog μ φ 221 = some A_slices_order2Ordered_int64 := by kernel_rfl
theorem hΓ : ∀ g fn q, Γ g = some fn → φ g = some q → trFunc Go.Proofs.Try.prog μ φ q = some fn := by
  intro g fn q h1 h2
  match g, h1, h2 with
  | 301, h1, h2 =>
    cases h1
    have h : φ 301 = some 6 := by kernel_rfl
    rw [h] at h2
    cases h2
    exact tr_laws_FnExactTreesOfTypes
  | 302, h1, h2 =>
    cases h1
    have h : φ 302 = some 64 := by kernel_rfl
    rw [h] at h2
    cases h2
    exact tr_spec_TreesOfTypes
  | 0, h1, h2 =>
    cases h1
    have h : φ 0 = some 65 := by kernel_rfl
    rw [h] at h2
    cases h2
    exact tr_laws_toInt64S
  | 303, h1, h2 =>
    cases h1
    have h : φ 303 = some 66 := by kernel_rfl
    rw [h] at h2
    cases h2
    exact tr_impl_TreesOfTypes
  | 304, h1, h2 =>
    cases h1
    have h : φ 304 = some 67 := by kernel_rfl
    rw [h] at h2
    cases h2
    exact tr_laws_eqStringS
  | 3, h1, h2 =>
    cases h1
    have h : φ 3 = some 68 := by kernel_rfl
    rw [h] at h2
    cases h2
    exact tr_laws_eqInt64S
  | 6, h1, h2 =>
    cases h1
    have h : φ 6 = some 69 := by kernel_rfl
    rw [h] at h2
    cases h2
    exact tr_laws_markInt64S
  | 305, h1, h2 =>
    cases h1
    have h : φ 305 = some 70 := by kernel_rfl
    rw [h] at h2
    cases h2
    exact tr_laws_markStringS
  | 306, h1, h2 =>
    cases h1
    have h : φ 306 = some 71 := by kernel_rfl
    rw [h] at h2
    cases h2
    exact tr_laws_heldStringS
  | 280, h1, h2 =>
    cases h1
    have h : φ 280 = some 75 := by kernel_rfl
    rw [h] at h2
    cases h2
    exact tr_impl_passport
  | 193, h1, h2 =>
    cases h1
    have h : φ 193 = some 81 := by kernel_rfl
    rw [h] at h2
    cases h2
    exact tr_impl_face
  | 58, h1, h2 =>
    cases h1
    have h : φ 58 = some 103 := by kernel_rfl
    rw [h] at h2
    cases h2
    exact tr_spec_l01In
  | 67, h1, h2 =>
    cases h1
    have h : φ 67 = some 122 := by kernel_rfl
    rw [h] at h2
    cases h2
    exact tr_impl_areTypes
  | 68, h1, h2 =>
    cases h1
    have h : φ 68 = some 123 := by kernel_rfl
    rw [h] at h2
    cases h2
    exact tr_impl_sumOfType
  | 64, h1, h2 =>
    cases h1
    have h : φ 64 = some 126 := by kernel_rfl
    rw [h] at h2
    cases h2
    exact tr_spec_l05Types
  | 343, h1, h2 =>
    cases h1
    have h : φ 343 = some 127 := by kernel_rfl
    rw [h] at h2
    cases h2
    exact tr_spec_l05All
  | 267, h1, h2 =>
    cases h1
    have h : φ 267 = some 128 := by kernel_rfl
    rw [h] at h2
    cases h2
    exact tr_spec_l05Made
  | 344, h1, h2 =>
    cases h1
    have h : φ 344 = some 129 := by kernel_rfl
    rw [h] at h2
    cases h2
    exact tr_spec_l05Same
  | 284, h1, h2 =>
    cases h1
    have h : φ 284 = some 130 := by kernel_rfl
    rw [h] at h2
    cases h2
    exact tr_spec_l01Type
  | 276, h1, h2 =>
    cases h1
    have h : φ 276 = some 131 := by kernel_rfl
    rw [h] at h2
    cases h2
    exact tr_spec_l05Canonical
  | 345, h1, h2 =>
    cases h1
    have h : φ 345 = some 132 := by kernel_rfl
    rw [h] at h2
    cases h2
    exact tr_impl_words
  | 269, h1, h2 =>
    cases h1
    have h : φ 269 = some 133 := by kernel_rfl
    rw [h] at h2
    cases h2
    exact tr_impl_treeOfWord
  | 277, h1, h2 =>
    cases h1
    have h : φ 277 = some 134 := by kernel_rfl
    rw [h] at h2
    cases h2
    exact tr_impl_leastWord
  | 346, h1, h2 =>
    cases h1
    have h : φ 346 = some 135 := by kernel_rfl
    rw [h] at h2
    cases h2
    exact tr_slices_Equal_int64_int64
  | 347, h1, h2 =>
    cases h1
    have h : φ 347 = some 136 := by kernel_rfl
    rw [h] at h2
    cases h2
    exact tr_slices_Sort_string_string
  | 348, h1, h2 =>
    cases h1
    have h : φ 348 = some 137 := by kernel_rfl
    rw [h] at h2
    cases h2
    exact tr_slices_Compact_string_string
  | 349, h1, h2 =>
    cases h1
    have h : φ 349 = some 138 := by kernel_rfl
    rw [h] at h2
    cases h2
    exact tr_laws_markText
  | 218, h1, h2 =>
    cases h1
    have h : φ 218 = some 143 := by kernel_rfl
    rw [h] at h2
    cases h2
    exact tr_impl_typeOf
  | 211, h1, h2 =>
    cases h1
    have h : φ 211 = some 151 := by kernel_rfl
    rw [h] at h2
    cases h2
    exact tr_impl_back
  | 213, h1, h2 =>
    cases h1
    have h : φ 213 = some 152 := by kernel_rfl
    rw [h] at h2
    cases h2
    exact tr_impl_then
  | 370, h1, h2 =>
    cases h1
    have h : φ 370 = some 160 := by kernel_rfl
    rw [h] at h2
    cases h2
    exact tr_spec_l03Less
  | 285, h1, h2 =>
    cases h1
    have h : φ 285 = some 161 := by kernel_rfl
    rw [h] at h2
    cases h2
    exact tr_spec_l01Cycles
  | 272, h1, h2 =>
    cases h1
    have h : φ 272 = some 162 := by kernel_rfl
    rw [h] at h2
    cases h2
    exact tr_spec_l05At
  | 278, h1, h2 =>
    cases h1
    have h : φ 278 = some 163 := by kernel_rfl
    rw [h] at h2
    cases h2
    exact tr_impl_treeOfWord_1
  | 274, h1, h2 =>
    cases h1
    have h : φ 274 = some 164 := by kernel_rfl
    rw [h] at h2
    cases h2
    exact tr_impl_wordOfTree
  | 371, h1, h2 =>
    cases h1
    have h : φ 371 = some 165 := by kernel_rfl
    rw [h] at h2
    cases h2
    exact tr_slices_pdqsortOrdered_string
  | 227, h1, h2 =>
    cases h1
    have h : φ 227 = some 166 := by kernel_rfl
    rw [h] at h2
    cases h2
    exact tr_math_bits_Len
  | 223, h1, h2 =>
    cases h1
    have h : φ 223 = some 171 := by kernel_rfl
    rw [h] at h2
    cases h2
    exact tr_impl_cycles
  | 219, h1, h2 =>
    cases h1
    have h : φ 219 = some 172 := by kernel_rfl
    rw [h] at h2
    cases h2
    exact tr_impl_descending
  | 281, h1, h2 =>
    cases h1
    have h : φ 281 = some 182 := by kernel_rfl
    rw [h] at h2
    cases h2
    exact tr_spec_l05Below
  | 283, h1, h2 =>
    cases h1
    have h : φ 283 = some 183 := by kernel_rfl
    rw [h] at h2
    cases h2
    exact tr_impl_wordAt
  | 378, h1, h2 =>
    cases h1
    have h : φ 378 = some 184 := by kernel_rfl
    rw [h] at h2
    cases h2
    exact tr_slices_insertionSortOrdered_string
  | 384, h1, h2 =>
    cases h1
    have h : φ 384 = some 190 := by kernel_rfl
    rw [h] at h2
    cases h2
    exact tr_cmp_Less_string
  | 245, h1, h2 =>
    cases h1
    have h : φ 245 = some 194 := by kernel_rfl
    rw [h] at h2
    cases h2
    exact tr_math_bits_Len64
  | 224, h1, h2 =>
    cases h1
    have h : φ 224 = some 196 := by kernel_rfl
    rw [h] at h2
    cases h2
    exact tr_slices_Sort_int64_int64
  | 225, h1, h2 =>
    cases h1
    have h : φ 225 = some 197 := by kernel_rfl
    rw [h] at h2
    cases h2
    exact tr_slices_Reverse_int64_int64
  | 240, h1, h2 =>
    cases h1
    have h : φ 240 = some 200 := by kernel_rfl
    rw [h] at h2
    cases h2
    exact tr_slices_nextPowerOfTwo
  | 241, h1, h2 =>
    cases h1
    have h : φ 241 = some 201 := by kernel_rfl
    rw [h] at h2
    cases h2
    exact tr_slices_xorshift_Next
  | 395, h1, h2 =>
    cases h1
    have h : φ 395 = some 204 := by kernel_rfl
    rw [h] at h2
    cases h2
    exact tr_cmp_isNaN_string
  | 228, h1, h2 =>
    cases h1
    have h : φ 228 = some 205 := by kernel_rfl
    rw [h] at h2
    cases h2
    exact tr_slices_pdqsortOrdered_int64
  | 229, h1, h2 =>
    cases h1
    have h : φ 229 = some 208 := by kernel_rfl
    rw [h] at h2
    cases h2
    exact tr_slices_insertionSortOrdered_int64
  | 231, h1, h2 =>
    cases h1
    have h : φ 231 = some 210 := by kernel_rfl
    rw [h] at h2
    cases h2
    exact tr_slices_breakPatternsOrdered_int64
  | 232, h1, h2 =>
    cases h1
    have h : φ 232 = some 211 := by kernel_rfl
    rw [h] at h2
    cases h2
    exact tr_slices_choosePivotOrdered_int64
  | 233, h1, h2 =>
    cases h1
    have h : φ 233 = some 212 := by kernel_rfl
    rw [h] at h2
    cases h2
    exact tr_slices_reverseRangeOrdered_int64
  | 234, h1, h2 =>
    cases h1
    have h : φ 234 = some 213 := by kernel_rfl
    rw [h] at h2
    cases h2
    exact tr_slices_partialInsertionSortOrdered_int64
  | 235, h1, h2 =>
    cases h1
    have h : φ 235 = some 214 := by kernel_rfl
    rw [h] at h2
    cases h2
    exact tr_cmp_Less_int64
  | 236, h1, h2 =>
    cases h1
    have h : φ 236 = some 215 := by kernel_rfl
    rw [h] at h2
    cases h2
    exact tr_slices_partitionEqualOrdered_int64
  | 237, h1, h2 =>
    cases h1
    have h : φ 237 = some 216 := by kernel_rfl
    rw [h] at h2
    cases h2
    exact tr_slices_partitionOrdered_int64
  | 243, h1, h2 =>
    cases h1
    have h : φ 243 = some 219 := by kernel_rfl
    rw [h] at h2
    cases h2
    exact tr_slices_medianOrdered_int64
  | 247, h1, h2 =>
    cases h1
    have h : φ 247 = some 220 := by kernel_rfl
    rw [h] at h2
    cases h2
    exact tr_cmp_isNaN_int64
  | 246, h1, h2 =>
    cases h1
    have h : φ 246 = some 221 := by kernel_rfl
    rw [h] at h2
    cases h2
    exact tr_slices_order2Ordered_int64
end Go.Am
