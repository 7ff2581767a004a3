/- The program's functions are those of the table: by the translation, checked by reckoning. -/
import Derived.Test.YthjjfdiofpdknaaProg
import Derived.KernelRfl
import Derived.Test.YthjjfdiofpdknaaAmTab
import Derived.Test.YthjjfdiofpdknaaAmSound
set_option linter.unusedVariables false
set_option maxRecDepth 100000
namespace Go.Am
open Go
def μs : List (Nat × Nat) := [(3, 286), (4, 289), (5, 292), (6, 295), (7, 298), (8, 301), (9, 307), (10, 320), (11, 287), (12, 139), (13, 288), (14, 290), (15, 291), (16, 3), (17, 6), (18, 7), (19, 293), (20, 0), (21, 294), (22, 20), (23, 296), (24, 21), (25, 297), (26, 24), (27, 299), (28, 300), (29, 302), (30, 303), (31, 304), (32, 305), (33, 306), (34, 41), (35, 308), (36, 309), (37, 310), (38, 311), (39, 312), (40, 313), (41, 51), (42, 314), (43, 315), (44, 316), (45, 23), (46, 22), (47, 317), (48, 318), (49, 319), (50, 321), (51, 322), (52, 323), (53, 324), (54, 325), (55, 326), (56, 327), (57, 328), (58, 329), (59, 158), (60, 330), (61, 275), (62, 331), (63, 186), (64, 273), (65, 332), (66, 333), (67, 223), (68, 184), (69, 285), (70, 334), (71, 270), (72, 111), (73, 187), (74, 112), (75, 271), (76, 77), (77, 335), (78, 79), (79, 336), (80, 337), (81, 338), (82, 339), (83, 341), (84, 340), (85, 342), (86, 369), (87, 64), (88, 343), (89, 267), (90, 344), (91, 284), (92, 276), (93, 67), (94, 345), (95, 68), (96, 269), (97, 280), (98, 277), (99, 346), (100, 347), (101, 348), (102, 349), (103, 97), (104, 350), (105, 102), (106, 98), (107, 106), (108, 220), (109, 351), (110, 58), (111, 352), (112, 43), (113, 353), (114, 80), (115, 78), (116, 81), (117, 354), (118, 355), (119, 356), (120, 209), (121, 216), (122, 206), (123, 357), (124, 282), (125, 215), (126, 358), (127, 198), (128, 359), (129, 360), (130, 361), (131, 362), (132, 207), (133, 279), (134, 210), (135, 365), (136, 363), (137, 364), (138, 366), (139, 368), (140, 367), (141, 218), (142, 193), (143, 69), (144, 370), (145, 272), (146, 278), (147, 274), (148, 371), (149, 227), (150, 372), (151, 192), (152, 70), (153, 373), (154, 374), (155, 221), (156, 217), (157, 375), (158, 376), (159, 377), (160, 219), (161, 211), (162, 213), (163, 281), (164, 283), (165, 378), (166, 379), (167, 380), (168, 381), (169, 382), (170, 383), (171, 384), (172, 385), (173, 386), (174, 244), (175, 245), (176, 387), (177, 388), (178, 208), (179, 212), (180, 222), (181, 389), (182, 390), (183, 391), (184, 224), (185, 225), (186, 392), (187, 240), (188, 241), (189, 393), (190, 394), (191, 395), (192, 396), (193, 226), (194, 228), (195, 397), (196, 238), (197, 229), (198, 230), (199, 231), (200, 232), (201, 233), (202, 234), (203, 235), (204, 236), (205, 237), (206, 239), (207, 242), (208, 243), (209, 247), (210, 246)]
def μ : Fun := fun q => (μs.find? fun p => p.1 == q).map (·.2)
def φ : Fun := fun g => (μs.find? fun p => p.2 == g).map (·.1)
theorem tr_laws_FnExactWeightsOf : trFunc Go.Proofs.Try.prog μ φ 5 = some A_laws_FnExactWeightsOf := by kernel_rfl
theorem tr_laws_toDessin : trFunc Go.Proofs.Try.prog μ φ 12 = some A_laws_toDessin := by kernel_rfl
theorem tr_laws_eqInt64S : trFunc Go.Proofs.Try.prog μ φ 16 = some A_laws_eqInt64S := by kernel_rfl
theorem tr_laws_markInt64S : trFunc Go.Proofs.Try.prog μ φ 17 = some A_laws_markInt64S := by kernel_rfl
theorem tr_laws_heldInt64S : trFunc Go.Proofs.Try.prog μ φ 18 = some A_laws_heldInt64S := by kernel_rfl
theorem tr_spec_WeightsOf : trFunc Go.Proofs.Try.prog μ φ 19 = some A_spec_WeightsOf := by kernel_rfl
theorem tr_laws_toInt64S : trFunc Go.Proofs.Try.prog μ φ 20 = some A_laws_toInt64S := by kernel_rfl
theorem tr_impl_WeightsOf : trFunc Go.Proofs.Try.prog μ φ 21 = some A_impl_WeightsOf := by kernel_rfl
theorem tr_laws_toPlaces : trFunc Go.Proofs.Try.prog μ φ 63 = some A_laws_toPlaces := by kernel_rfl
theorem tr_impl_vertices : trFunc Go.Proofs.Try.prog μ φ 66 = some A_impl_vertices := by kernel_rfl
theorem tr_impl_cycles : trFunc Go.Proofs.Try.prog μ φ 67 = some A_impl_cycles := by kernel_rfl
theorem tr_spec_l01Is : trFunc Go.Proofs.Try.prog μ φ 68 = some A_spec_l01Is := by kernel_rfl
theorem tr_spec_l01Cycles : trFunc Go.Proofs.Try.prog μ φ 69 = some A_spec_l01Cycles := by kernel_rfl
theorem tr_spec_l05Numbers : trFunc Go.Proofs.Try.prog μ φ 70 = some A_spec_l05Numbers := by kernel_rfl
theorem tr_spec_l05Tree : trFunc Go.Proofs.Try.prog μ φ 71 = some A_spec_l05Tree := by kernel_rfl
theorem tr_spec_l01Own : trFunc Go.Proofs.Try.prog μ φ 72 = some A_spec_l01Own := by kernel_rfl
theorem tr_impl_IsDessin : trFunc Go.Proofs.Try.prog μ φ 73 = some A_impl_IsDessin := by kernel_rfl
theorem tr_slices_Clone_int64_int64 : trFunc Go.Proofs.Try.prog μ φ 74 = some A_slices_Clone_int64_int64 := by kernel_rfl
theorem tr_impl_isTree : trFunc Go.Proofs.Try.prog μ φ 75 = some A_impl_isTree := by kernel_rfl
theorem tr_spec_l01Type : trFunc Go.Proofs.Try.prog μ φ 91 = some A_spec_l01Type := by kernel_rfl
theorem tr_impl_passport : trFunc Go.Proofs.Try.prog μ φ 97 = some A_impl_passport := by kernel_rfl
theorem tr_impl_isSize : trFunc Go.Proofs.Try.prog μ φ 108 = some A_impl_isSize := by kernel_rfl
theorem tr_spec_l01In : trFunc Go.Proofs.Try.prog μ φ 110 = some A_spec_l01In := by kernel_rfl
theorem tr_impl_IsPermutation : trFunc Go.Proofs.Try.prog μ φ 120 = some A_impl_IsPermutation := by kernel_rfl
theorem tr_spec_l01Perm : trFunc Go.Proofs.Try.prog μ φ 122 = some A_spec_l01Perm := by kernel_rfl
theorem tr_slices_Clone_SS_int64_int64 : trFunc Go.Proofs.Try.prog μ φ 131 = some A_slices_Clone_SS_int64_int64 := by kernel_rfl
theorem tr_spec_l01Connected : trFunc Go.Proofs.Try.prog μ φ 132 = some A_spec_l01Connected := by kernel_rfl
theorem tr_spec_l01Passport : trFunc Go.Proofs.Try.prog μ φ 133 = some A_spec_l01Passport := by kernel_rfl
theorem tr_impl_reached : trFunc Go.Proofs.Try.prog μ φ 134 = some A_impl_reached := by kernel_rfl
theorem tr_impl_typeOf : trFunc Go.Proofs.Try.prog μ φ 141 = some A_impl_typeOf := by kernel_rfl
theorem tr_impl_face : trFunc Go.Proofs.Try.prog μ φ 142 = some A_impl_face := by kernel_rfl
theorem tr_math_bits_Len : trFunc Go.Proofs.Try.prog μ φ 149 = some A_math_bits_Len := by kernel_rfl
theorem tr_spec_l01Face : trFunc Go.Proofs.Try.prog μ φ 151 = some A_spec_l01Face := by kernel_rfl
theorem tr_impl_descending : trFunc Go.Proofs.Try.prog μ φ 160 = some A_impl_descending := by kernel_rfl
theorem tr_impl_back : trFunc Go.Proofs.Try.prog μ φ 161 = some A_impl_back := by kernel_rfl
theorem tr_impl_then : trFunc Go.Proofs.Try.prog μ φ 162 = some A_impl_then := by kernel_rfl
theorem tr_math_bits_Len64 : trFunc Go.Proofs.Try.prog μ φ 175 = some A_math_bits_Len64 := by kernel_rfl
theorem tr_spec_l01Back : trFunc Go.Proofs.Try.prog μ φ 178 = some A_spec_l01Back := by kernel_rfl
theorem tr_spec_l01Then : trFunc Go.Proofs.Try.prog μ φ 179 = some A_spec_l01Then := by kernel_rfl
theorem tr_slices_Sort_int64_int64 : trFunc Go.Proofs.Try.prog μ φ 184 = some A_slices_Sort_int64_int64 := by kernel_rfl
theorem tr_slices_Reverse_int64_int64 : trFunc Go.Proofs.Try.prog μ φ 185 = some A_slices_Reverse_int64_int64 := by kernel_rfl
theorem tr_slices_nextPowerOfTwo : trFunc Go.Proofs.Try.prog μ φ 187 = some A_slices_nextPowerOfTwo := by kernel_rfl
theorem tr_slices_xorshift_Next : trFunc Go.Proofs.Try.prog μ φ 188 = some A_slices_xorshift_Next := by kernel_rfl
theorem tr_slices_pdqsortOrdered_int64 : trFunc Go.Proofs.Try.prog μ φ 194 = some A_slices_pdqsortOrdered_int64 := by kernel_rfl
theorem tr_slices_insertionSortOrdered_int64 : trFunc Go.Proofs.Try.prog μ φ 197 = some A_slices_insertionSortOrdered_int64 := by kernel_rfl
theorem tr_slices_breakPatternsOrdered_int64 : trFunc Go.Proofs.Try.prog μ φ 199 = some A_slices_breakPatternsOrdered_int64 := by kernel_rfl
theorem tr_slices_choosePivotOrdered_int64 : trFunc Go.Proofs.Try.prog μ φ 200 = some A_slices_choosePivotOrdered_int64 := by kernel_rfl
theorem tr_slices_reverseRangeOrdered_int64 : trFunc Go.Proofs.Try.prog μ φ 201 = some A_slices_reverseRangeOrdered_int64 := by kernel_rfl
theorem tr_slices_partialInsertionSortOrdered_int64 : trFunc Go.Proofs.Try.prog μ φ 202 = some A_slices_partialInsertionSortOrdered_int64 := by kernel_rfl
theorem tr_cmp_Less_int64 : trFunc Go.Proofs.Try.prog μ φ 203 = some A_cmp_Less_int64 := by kernel_rfl
theorem tr_slices_partitionEqualOrdered_int64 : trFunc Go.Proofs.Try.prog μ φ 204 = some A_slices_partitionEqualOrdered_int64 := by kernel_rfl
theorem tr_slices_partitionOrdered_int64 : trFunc Go.Proofs.Try.prog μ φ 205 = some A_slices_partitionOrdered_int64 := by kernel_rfl
theorem tr_slices_medianOrdered_int64 : trFunc Go.Proofs.Try.prog μ φ 208 = some A_slices_medianOrdered_int64 := by kernel_rfl
theorem tr_cmp_isNaN_int64 : trFunc Go.Proofs.Try.prog μ φ 209 = some A_cmp_isNaN_int64 := by kernel_rfl
theorem tr_slices_order2Ordered_int64 : trFunc Go.Proofs.Try.prog μ φ 210 = some A_slices_order2Ordered_int64 := by kernel_rfl
theorem hΓ : ∀ g fn q, Γ g = some fn → φ g = some q → trFunc Go.Proofs.Try.prog μ φ q = some fn := by
  intro g fn q h1 h2
  match g, h1, h2 with
  | 292, h1, h2 =>
    cases h1
    have h : φ 292 = some 5 := by kernel_rfl
    rw [h] at h2
    cases h2
    exact tr_laws_FnExactWeightsOf
  | 139, h1, h2 =>
    cases h1
    have h : φ 139 = some 12 := by kernel_rfl
    rw [h] at h2
    cases h2
    exact tr_laws_toDessin
  | 3, h1, h2 =>
    cases h1
    have h : φ 3 = some 16 := by kernel_rfl
    rw [h] at h2
    cases h2
    exact tr_laws_eqInt64S
  | 6, h1, h2 =>
    cases h1
    have h : φ 6 = some 17 := by kernel_rfl
    rw [h] at h2
    cases h2
    exact tr_laws_markInt64S
  | 7, h1, h2 =>
    cases h1
    have h : φ 7 = some 18 := by kernel_rfl
    rw [h] at h2
    cases h2
    exact tr_laws_heldInt64S
  | 293, h1, h2 =>
    cases h1
    have h : φ 293 = some 19 := by kernel_rfl
    rw [h] at h2
    cases h2
    exact tr_spec_WeightsOf
  | 0, h1, h2 =>
    cases h1
    have h : φ 0 = some 20 := by kernel_rfl
    rw [h] at h2
    cases h2
    exact tr_laws_toInt64S
  | 294, h1, h2 =>
    cases h1
    have h : φ 294 = some 21 := by kernel_rfl
    rw [h] at h2
    cases h2
    exact tr_impl_WeightsOf
  | 186, h1, h2 =>
    cases h1
    have h : φ 186 = some 63 := by kernel_rfl
    rw [h] at h2
    cases h2
    exact tr_laws_toPlaces
  | 333, h1, h2 =>
    cases h1
    have h : φ 333 = some 66 := by kernel_rfl
    rw [h] at h2
    cases h2
    exact tr_impl_vertices
  | 223, h1, h2 =>
    cases h1
    have h : φ 223 = some 67 := by kernel_rfl
    rw [h] at h2
    cases h2
    exact tr_impl_cycles
  | 184, h1, h2 =>
    cases h1
    have h : φ 184 = some 68 := by kernel_rfl
    rw [h] at h2
    cases h2
    exact tr_spec_l01Is
  | 285, h1, h2 =>
    cases h1
    have h : φ 285 = some 69 := by kernel_rfl
    rw [h] at h2
    cases h2
    exact tr_spec_l01Cycles
  | 334, h1, h2 =>
    cases h1
    have h : φ 334 = some 70 := by kernel_rfl
    rw [h] at h2
    cases h2
    exact tr_spec_l05Numbers
  | 270, h1, h2 =>
    cases h1
    have h : φ 270 = some 71 := by kernel_rfl
    rw [h] at h2
    cases h2
    exact tr_spec_l05Tree
  | 111, h1, h2 =>
    cases h1
    have h : φ 111 = some 72 := by kernel_rfl
    rw [h] at h2
    cases h2
    exact tr_spec_l01Own
  | 187, h1, h2 =>
    cases h1
    have h : φ 187 = some 73 := by kernel_rfl
    rw [h] at h2
    cases h2
    exact tr_impl_IsDessin
  | 112, h1, h2 =>
    cases h1
    have h : φ 112 = some 74 := by kernel_rfl
    rw [h] at h2
    cases h2
    exact tr_slices_Clone_int64_int64
  | 271, h1, h2 =>
    cases h1
    have h : φ 271 = some 75 := by kernel_rfl
    rw [h] at h2
    cases h2
    exact tr_impl_isTree
  | 284, h1, h2 =>
    cases h1
    have h : φ 284 = some 91 := by kernel_rfl
    rw [h] at h2
    cases h2
    exact tr_spec_l01Type
  | 280, h1, h2 =>
    cases h1
    have h : φ 280 = some 97 := by kernel_rfl
    rw [h] at h2
    cases h2
    exact tr_impl_passport
  | 220, h1, h2 =>
    cases h1
    have h : φ 220 = some 108 := by kernel_rfl
    rw [h] at h2
    cases h2
    exact tr_impl_isSize
  | 58, h1, h2 =>
    cases h1
    have h : φ 58 = some 110 := by kernel_rfl
    rw [h] at h2
    cases h2
    exact tr_spec_l01In
  | 209, h1, h2 =>
    cases h1
    have h : φ 209 = some 120 := by kernel_rfl
    rw [h] at h2
    cases h2
    exact tr_impl_IsPermutation
  | 206, h1, h2 =>
    cases h1
    have h : φ 206 = some 122 := by kernel_rfl
    rw [h] at h2
    cases h2
    exact tr_spec_l01Perm
  | 362, h1, h2 =>
    cases h1
    have h : φ 362 = some 131 := by kernel_rfl
    rw [h] at h2
    cases h2
    exact tr_slices_Clone_SS_int64_int64
  | 207, h1, h2 =>
    cases h1
    have h : φ 207 = some 132 := by kernel_rfl
    rw [h] at h2
    cases h2
    exact tr_spec_l01Connected
  | 279, h1, h2 =>
    cases h1
    have h : φ 279 = some 133 := by kernel_rfl
    rw [h] at h2
    cases h2
    exact tr_spec_l01Passport
  | 210, h1, h2 =>
    cases h1
    have h : φ 210 = some 134 := by kernel_rfl
    rw [h] at h2
    cases h2
    exact tr_impl_reached
  | 218, h1, h2 =>
    cases h1
    have h : φ 218 = some 141 := by kernel_rfl
    rw [h] at h2
    cases h2
    exact tr_impl_typeOf
  | 193, h1, h2 =>
    cases h1
    have h : φ 193 = some 142 := by kernel_rfl
    rw [h] at h2
    cases h2
    exact tr_impl_face
  | 227, h1, h2 =>
    cases h1
    have h : φ 227 = some 149 := by kernel_rfl
    rw [h] at h2
    cases h2
    exact tr_math_bits_Len
  | 192, h1, h2 =>
    cases h1
    have h : φ 192 = some 151 := by kernel_rfl
    rw [h] at h2
    cases h2
    exact tr_spec_l01Face
  | 219, h1, h2 =>
    cases h1
    have h : φ 219 = some 160 := by kernel_rfl
    rw [h] at h2
    cases h2
    exact tr_impl_descending
  | 211, h1, h2 =>
    cases h1
    have h : φ 211 = some 161 := by kernel_rfl
    rw [h] at h2
    cases h2
    exact tr_impl_back
  | 213, h1, h2 =>
    cases h1
    have h : φ 213 = some 162 := by kernel_rfl
    rw [h] at h2
    cases h2
    exact tr_impl_then
  | 245, h1, h2 =>
    cases h1
    have h : φ 245 = some 175 := by kernel_rfl
    rw [h] at h2
    cases h2
    exact tr_math_bits_Len64
  | 208, h1, h2 =>
    cases h1
    have h : φ 208 = some 178 := by kernel_rfl
    rw [h] at h2
    cases h2
    exact tr_spec_l01Back
  | 212, h1, h2 =>
    cases h1
    have h : φ 212 = some 179 := by kernel_rfl
    rw [h] at h2
    cases h2
    exact tr_spec_l01Then
  | 224, h1, h2 =>
    cases h1
    have h : φ 224 = some 184 := by kernel_rfl
    rw [h] at h2
    cases h2
    exact tr_slices_Sort_int64_int64
  | 225, h1, h2 =>
    cases h1
    have h : φ 225 = some 185 := by kernel_rfl
    rw [h] at h2
    cases h2
    exact tr_slices_Reverse_int64_int64
  | 240, h1, h2 =>
    cases h1
    have h : φ 240 = some 187 := by kernel_rfl
    rw [h] at h2
    cases h2
    exact tr_slices_nextPowerOfTwo
  | 241, h1, h2 =>
    cases h1
    have h : φ 241 = some 188 := by kernel_rfl
    rw [h] at h2
    cases h2
    exact tr_slices_xorshift_Next
  | 228, h1, h2 =>
    cases h1
    have h : φ 228 = some 194 := by kernel_rfl
    rw [h] at h2
    cases h2
    exact tr_slices_pdqsortOrdered_int64
  | 229, h1, h2 =>
    cases h1
    have h : φ 229 = some 197 := by kernel_rfl
    rw [h] at h2
    cases h2
    exact tr_slices_insertionSortOrdered_int64
  | 231, h1, h2 =>
    cases h1
    have h : φ 231 = some 199 := by kernel_rfl
    rw [h] at h2
    cases h2
    exact tr_slices_breakPatternsOrdered_int64
  | 232, h1, h2 =>
    cases h1
    have h : φ 232 = some 200 := by kernel_rfl
    rw [h] at h2
    cases h2
    exact tr_slices_choosePivotOrdered_int64
  | 233, h1, h2 =>
    cases h1
    have h : φ 233 = some 201 := by kernel_rfl
    rw [h] at h2
    cases h2
    exact tr_slices_reverseRangeOrdered_int64
  | 234, h1, h2 =>
    cases h1
    have h : φ 234 = some 202 := by kernel_rfl
    rw [h] at h2
    cases h2
    exact tr_slices_partialInsertionSortOrdered_int64
  | 235, h1, h2 =>
    cases h1
    have h : φ 235 = some 203 := by kernel_rfl
    rw [h] at h2
    cases h2
    exact tr_cmp_Less_int64
  | 236, h1, h2 =>
    cases h1
    have h : φ 236 = some 204 := by kernel_rfl
    rw [h] at h2
    cases h2
    exact tr_slices_partitionEqualOrdered_int64
  | 237, h1, h2 =>
    cases h1
    have h : φ 237 = some 205 := by kernel_rfl
    rw [h] at h2
    cases h2
    exact tr_slices_partitionOrdered_int64
  | 243, h1, h2 =>
    cases h1
    have h : φ 243 = some 208 := by kernel_rfl
    rw [h] at h2
    cases h2
    exact tr_slices_medianOrdered_int64
  | 247, h1, h2 =>
    cases h1
    have h : φ 247 = some 209 := by kernel_rfl
    rw [h] at h2
    cases h2
    exact tr_cmp_isNaN_int64
  | 246, h1, h2 =>
    cases h1
    have h : φ 246 = some 210 := by kernel_rfl
    rw [h] at h2
    cases h2
    exact tr_slices_order2Ordered_int64
end Go.Am
