/- The program's functions are those of the table: by the translation, checked by reckoning. -/
import Derived.Test.YtbfhlajbjfahiaaProg
import Derived.KernelRfl
import Derived.Test.YtbfhlajbjfahiaaAmTab
import Derived.Test.YtbfhlajbjfahiaaAmSound
set_option linter.unusedVariables false
set_option maxRecDepth 100000
namespace Go.Am
open Go
def μs : List (Nat × Nat) := [(3, 398), (4, 248), (5, 307), (6, 129), (7, 130), (8, 404), (9, 301), (10, 320), (11, 295), (12, 298), (13, 41), (14, 399), (15, 330), (16, 400), (17, 401), (18, 47), (19, 48), (20, 158), (21, 328), (22, 402), (23, 151), (24, 43), (25, 403), (26, 145), (27, 179), (28, 137), (29, 249), (30, 250), (31, 142), (32, 308), (33, 309), (34, 310), (35, 311), (36, 312), (37, 313), (38, 51), (39, 314), (40, 315), (41, 316), (42, 23), (43, 22), (44, 317), (45, 318), (46, 319), (47, 42), (48, 17), (49, 16), (50, 2), (51, 1), (52, 15), (53, 14), (54, 44), (55, 28), (56, 27), (57, 45), (58, 11), (59, 10), (60, 30), (61, 29), (62, 46), (63, 9), (64, 8), (65, 49), (66, 34), (67, 33), (68, 32), (69, 31), (70, 50), (71, 36), (72, 35), (73, 38), (74, 37), (75, 52), (76, 5), (77, 4), (78, 53), (79, 19), (80, 18), (81, 54), (82, 26), (83, 25), (84, 55), (85, 13), (86, 405), (87, 406), (88, 407), (89, 408), (90, 409), (91, 302), (92, 0), (93, 303), (94, 304), (95, 3), (96, 6), (97, 305), (98, 306), (99, 321), (100, 322), (101, 323), (102, 324), (103, 325), (104, 326), (105, 327), (106, 329), (107, 20), (108, 296), (109, 21), (110, 297), (111, 24), (112, 299), (113, 300), (114, 374), (115, 97), (116, 187), (117, 280), (118, 184), (119, 279), (120, 198), (121, 410), (122, 411), (123, 193), (124, 412), (125, 200), (126, 134), (127, 182), (128, 266), (129, 267), (130, 268), (131, 269), (132, 189), (133, 350), (134, 102), (135, 98), (136, 68), (137, 106), (138, 220), (139, 351), (140, 58), (141, 352), (142, 353), (143, 80), (144, 78), (145, 81), (146, 79), (147, 354), (148, 338), (149, 96), (150, 75), (151, 71), (152, 74), (153, 57), (154, 56), (155, 73), (156, 72), (157, 99), (158, 85), (159, 100), (160, 63), (161, 62), (162, 87), (163, 86), (164, 101), (165, 61), (166, 90), (167, 91), (168, 88), (169, 89), (170, 94), (171, 95), (172, 92), (173, 93), (174, 60), (175, 59), (176, 76), (177, 83), (178, 84), (179, 82), (180, 67), (181, 69), (182, 70), (183, 413), (184, 414), (185, 64), (186, 343), (187, 344), (188, 284), (189, 276), (190, 345), (191, 277), (192, 346), (193, 347), (194, 348), (195, 349), (196, 355), (197, 356), (198, 209), (199, 216), (200, 206), (201, 357), (202, 282), (203, 215), (204, 358), (205, 359), (206, 77), (207, 335), (208, 336), (209, 337), (210, 339), (211, 341), (212, 340), (213, 342), (214, 369), (215, 372), (216, 364), (217, 210), (218, 218), (219, 207), (220, 192), (221, 217), (222, 415), (223, 211), (224, 213), (225, 278), (226, 111), (227, 105), (228, 103), (229, 104), (230, 110), (231, 108), (232, 109), (233, 107), (234, 416), (235, 363), (236, 366), (237, 368), (238, 420), (239, 421), (240, 370), (241, 285), (242, 272), (243, 274), (244, 371), (245, 227), (246, 373), (247, 221), (248, 375), (249, 365), (250, 367), (251, 387), (252, 388), (253, 223), (254, 219), (255, 208), (256, 212), (257, 222), (258, 417), (259, 418), (260, 419), (261, 112), (262, 391), (263, 377), (264, 422), (265, 281), (266, 283), (267, 378), (268, 379), (269, 380), (270, 381), (271, 382), (272, 383), (273, 384), (274, 385), (275, 386), (276, 244), (277, 245), (278, 389), (279, 376), (280, 396), (281, 224), (282, 225), (283, 226), (284, 423), (285, 392), (286, 240), (287, 241), (288, 393), (289, 394), (290, 395), (291, 390), (292, 228), (293, 238), (294, 424), (295, 425), (296, 426), (297, 427), (298, 428), (299, 429), (300, 430), (301, 431), (302, 397), (303, 229), (304, 230), (305, 231), (306, 232), (307, 233), (308, 234), (309, 235), (310, 236), (311, 237), (312, 432), (313, 433), (314, 434), (315, 239), (316, 242), (317, 243), (318, 247), (319, 435), (320, 246)]
def μ : Fun := fun q => (μs.find? fun p => p.1 == q).map (·.2)
def φ : Fun := fun g => (μs.find? fun p => p.2 == g).map (·.1)
theorem tr_laws_FnNamings : trFunc Go.Proofs.Try.prog μ φ 10 = some A_laws_FnNamings := by kernel_rfl
theorem tr_laws_big : trFunc Go.Proofs.Try.prog μ φ 13 = some A_laws_big := by kernel_rfl
theorem tr_impl_PassportOf : trFunc Go.Proofs.Try.prog μ φ 15 = some A_impl_PassportOf := by kernel_rfl
theorem tr_impl_AreAlike : trFunc Go.Proofs.Try.prog μ φ 20 = some A_impl_AreAlike := by kernel_rfl
theorem tr_impl_CanonicalDessin : trFunc Go.Proofs.Try.prog μ φ 21 = some A_impl_CanonicalDessin := by kernel_rfl
theorem tr_laws_likeInts : trFunc Go.Proofs.Try.prog μ φ 24 = some A_laws_likeInts := by kernel_rfl
theorem tr_laws_lists9 : trFunc Go.Proofs.Try.prog μ φ 38 = some A_laws_lists9 := by kernel_rfl
theorem tr_spec_DrawRenameDessin : trFunc Go.Proofs.Try.prog μ φ 99 = some A_spec_DrawRenameDessin := by kernel_rfl
theorem tr_impl_RenameDessin : trFunc Go.Proofs.Try.prog μ φ 100 = some A_impl_RenameDessin := by kernel_rfl
theorem tr_spec_RenameDessin : trFunc Go.Proofs.Try.prog μ φ 101 = some A_spec_RenameDessin := by kernel_rfl
theorem tr_spec_DrawNamingFrom : trFunc Go.Proofs.Try.prog μ φ 102 = some A_spec_DrawNamingFrom := by kernel_rfl
theorem tr_impl_NamingFrom : trFunc Go.Proofs.Try.prog μ φ 103 = some A_impl_NamingFrom := by kernel_rfl
theorem tr_spec_NamingFrom : trFunc Go.Proofs.Try.prog μ φ 104 = some A_spec_NamingFrom := by kernel_rfl
theorem tr_spec_DrawCanonicalDessin : trFunc Go.Proofs.Try.prog μ φ 105 = some A_spec_DrawCanonicalDessin := by kernel_rfl
theorem tr_spec_CanonicalDessin : trFunc Go.Proofs.Try.prog μ φ 106 = some A_spec_CanonicalDessin := by kernel_rfl
theorem tr_spec_l01Spoil : trFunc Go.Proofs.Try.prog μ φ 114 = some A_spec_l01Spoil := by kernel_rfl
theorem tr_spec_l01From : trFunc Go.Proofs.Try.prog μ φ 115 = some A_spec_l01From := by kernel_rfl
theorem tr_impl_IsDessin : trFunc Go.Proofs.Try.prog μ φ 116 = some A_impl_IsDessin := by kernel_rfl
theorem tr_impl_passport : trFunc Go.Proofs.Try.prog μ φ 117 = some A_impl_passport := by kernel_rfl
theorem tr_spec_l01Is : trFunc Go.Proofs.Try.prog μ φ 118 = some A_spec_l01Is := by kernel_rfl
theorem tr_impl_canonical : trFunc Go.Proofs.Try.prog μ φ 120 = some A_impl_canonical := by kernel_rfl
theorem tr_impl_face : trFunc Go.Proofs.Try.prog μ φ 123 = some A_impl_face := by kernel_rfl
theorem tr_spec_l01Next : trFunc Go.Proofs.Try.prog μ φ 134 = some A_spec_l01Next := by kernel_rfl
theorem tr_spec_l01Pick : trFunc Go.Proofs.Try.prog μ φ 135 = some A_spec_l01Pick := by kernel_rfl
theorem tr_impl_isSize : trFunc Go.Proofs.Try.prog μ φ 138 = some A_impl_isSize := by kernel_rfl
theorem tr_spec_l01In : trFunc Go.Proofs.Try.prog μ φ 140 = some A_spec_l01In := by kernel_rfl
theorem tr_spec_l02Some : trFunc Go.Proofs.Try.prog μ φ 196 = some A_spec_l02Some := by kernel_rfl
theorem tr_spec_l01DrawPlaces : trFunc Go.Proofs.Try.prog μ φ 197 = some A_spec_l01DrawPlaces := by kernel_rfl
theorem tr_impl_IsPermutation : trFunc Go.Proofs.Try.prog μ φ 198 = some A_impl_IsPermutation := by kernel_rfl
theorem tr_impl_rename : trFunc Go.Proofs.Try.prog μ φ 199 = some A_impl_rename := by kernel_rfl
theorem tr_spec_l01Perm : trFunc Go.Proofs.Try.prog μ φ 200 = some A_spec_l01Perm := by kernel_rfl
theorem tr_spec_l02Rename : trFunc Go.Proofs.Try.prog μ φ 201 = some A_spec_l02Rename := by kernel_rfl
theorem tr_impl_isDart : trFunc Go.Proofs.Try.prog μ φ 202 = some A_impl_isDart := by kernel_rfl
theorem tr_impl_naming : trFunc Go.Proofs.Try.prog μ φ 203 = some A_impl_naming := by kernel_rfl
theorem tr_spec_l02Naming : trFunc Go.Proofs.Try.prog μ φ 204 = some A_spec_l02Naming := by kernel_rfl
theorem tr_spec_l02Canonical : trFunc Go.Proofs.Try.prog μ φ 205 = some A_spec_l02Canonical := by kernel_rfl
theorem tr_spec_l01Draw : trFunc Go.Proofs.Try.prog μ φ 215 = some A_spec_l01Draw := by kernel_rfl
theorem tr_spec_l01Same : trFunc Go.Proofs.Try.prog μ φ 216 = some A_spec_l01Same := by kernel_rfl
theorem tr_impl_reached : trFunc Go.Proofs.Try.prog μ φ 217 = some A_impl_reached := by kernel_rfl
theorem tr_impl_typeOf : trFunc Go.Proofs.Try.prog μ φ 218 = some A_impl_typeOf := by kernel_rfl
theorem tr_spec_l01Connected : trFunc Go.Proofs.Try.prog μ φ 219 = some A_spec_l01Connected := by kernel_rfl
theorem tr_impl_compareDessins : trFunc Go.Proofs.Try.prog μ φ 221 = some A_impl_compareDessins := by kernel_rfl
theorem tr_impl_back : trFunc Go.Proofs.Try.prog μ φ 223 = some A_impl_back := by kernel_rfl
theorem tr_impl_then : trFunc Go.Proofs.Try.prog μ φ 224 = some A_impl_then := by kernel_rfl
theorem tr_math_bits_Len : trFunc Go.Proofs.Try.prog μ φ 245 = some A_math_bits_Len := by kernel_rfl
theorem tr_spec_l02Symmetric : trFunc Go.Proofs.Try.prog μ φ 246 = some A_spec_l02Symmetric := by kernel_rfl
theorem tr_impl_named : trFunc Go.Proofs.Try.prog μ φ 247 = some A_impl_named := by kernel_rfl
theorem tr_spec_l02Before : trFunc Go.Proofs.Try.prog μ φ 248 = some A_spec_l02Before := by kernel_rfl
theorem tr_spec_l01Pairs : trFunc Go.Proofs.Try.prog μ φ 251 = some A_spec_l01Pairs := by kernel_rfl
theorem tr_spec_l01Star : trFunc Go.Proofs.Try.prog μ φ 252 = some A_spec_l01Star := by kernel_rfl
theorem tr_impl_cycles : trFunc Go.Proofs.Try.prog μ φ 253 = some A_impl_cycles := by kernel_rfl
theorem tr_impl_descending : trFunc Go.Proofs.Try.prog μ φ 254 = some A_impl_descending := by kernel_rfl
theorem tr_impl_comparePlaces : trFunc Go.Proofs.Try.prog μ φ 257 = some A_impl_comparePlaces := by kernel_rfl
theorem tr_math_bits_Len64 : trFunc Go.Proofs.Try.prog μ φ 277 = some A_math_bits_Len64 := by kernel_rfl
theorem tr_spec_l02Less : trFunc Go.Proofs.Try.prog μ φ 278 = some A_spec_l02Less := by kernel_rfl
theorem tr_spec_l01Turn : trFunc Go.Proofs.Try.prog μ φ 280 = some A_spec_l01Turn := by kernel_rfl
theorem tr_slices_Sort_int64_int64 : trFunc Go.Proofs.Try.prog μ φ 281 = some A_slices_Sort_int64_int64 := by kernel_rfl
theorem tr_slices_Reverse_int64_int64 : trFunc Go.Proofs.Try.prog μ φ 282 = some A_slices_Reverse_int64_int64 := by kernel_rfl
theorem tr_slices_nextPowerOfTwo : trFunc Go.Proofs.Try.prog μ φ 286 = some A_slices_nextPowerOfTwo := by kernel_rfl
theorem tr_slices_xorshift_Next : trFunc Go.Proofs.Try.prog μ φ 287 = some A_slices_xorshift_Next := by kernel_rfl
theorem tr_slices_pdqsortOrdered_int64 : trFunc Go.Proofs.Try.prog μ φ 292 = some A_slices_pdqsortOrdered_int64 := by kernel_rfl
theorem tr_slices_insertionSortOrdered_int64 : trFunc Go.Proofs.Try.prog μ φ 303 = some A_slices_insertionSortOrdered_int64 := by kernel_rfl
theorem tr_slices_breakPatternsOrdered_int64 : trFunc Go.Proofs.Try.prog μ φ 305 = some A_slices_breakPatternsOrdered_int64 := by kernel_rfl
theorem tr_slices_choosePivotOrdered_int64 : trFunc Go.Proofs.Try.prog μ φ 306 = some A_slices_choosePivotOrdered_int64 := by kernel_rfl
theorem tr_slices_reverseRangeOrdered_int64 : trFunc Go.Proofs.Try.prog μ φ 307 = some A_slices_reverseRangeOrdered_int64 := by kernel_rfl
theorem tr_slices_partialInsertionSortOrdered_int64 : trFunc Go.Proofs.Try.prog μ φ 308 = some A_slices_partialInsertionSortOrdered_int64 := by kernel_rfl
theorem tr_cmp_Less_int64 : trFunc Go.Proofs.Try.prog μ φ 309 = some A_cmp_Less_int64 := by kernel_rfl
theorem tr_slices_partitionEqualOrdered_int64 : trFunc Go.Proofs.Try.prog μ φ 310 = some A_slices_partitionEqualOrdered_int64 := by kernel_rfl
theorem tr_slices_partitionOrdered_int64 : trFunc Go.Proofs.Try.prog μ φ 311 = some A_slices_partitionOrdered_int64 := by kernel_rfl
theorem tr_slices_medianOrdered_int64 : trFunc Go.Proofs.Try.prog μ φ 317 = some A_slices_medianOrdered_int64 := by kernel_rfl
theorem tr_cmp_isNaN_int64 : trFunc Go.Proofs.Try.prog μ φ 318 = some A_cmp_isNaN_int64 := by kernel_rfl
theorem tr_slices_order2Ordered_int64 : trFunc Go.Proofs.Try.prog μ φ 320 = some A_slices_order2Ordered_int64 := by kernel_rfl
theorem hΓ : ∀ g fn q, Γ g = some fn → φ g = some q → trFunc Go.Proofs.Try.prog μ φ q = some fn := by
  intro g fn q h1 h2
  match g, h1, h2 with
  | 320, h1, h2 =>
    cases h1
    have h : φ 320 = some 10 := by kernel_rfl
    rw [h] at h2
    cases h2
    exact tr_laws_FnNamings
  | 41, h1, h2 =>
    cases h1
    have h : φ 41 = some 13 := by kernel_rfl
    rw [h] at h2
    cases h2
    exact tr_laws_big
  | 330, h1, h2 =>
    cases h1
    have h : φ 330 = some 15 := by kernel_rfl
    rw [h] at h2
    cases h2
    exact tr_impl_PassportOf
  | 158, h1, h2 =>
    cases h1
    have h : φ 158 = some 20 := by kernel_rfl
    rw [h] at h2
    cases h2
    exact tr_impl_AreAlike
  | 328, h1, h2 =>
    cases h1
    have h : φ 328 = some 21 := by kernel_rfl
    rw [h] at h2
    cases h2
    exact tr_impl_CanonicalDessin
  | 43, h1, h2 =>
    cases h1
    have h : φ 43 = some 24 := by kernel_rfl
    rw [h] at h2
    cases h2
    exact tr_laws_likeInts
  | 51, h1, h2 =>
    cases h1
    have h : φ 51 = some 38 := by kernel_rfl
    rw [h] at h2
    cases h2
    exact tr_laws_lists9
  | 321, h1, h2 =>
    cases h1
    have h : φ 321 = some 99 := by kernel_rfl
    rw [h] at h2
    cases h2
    exact tr_spec_DrawRenameDessin
  | 322, h1, h2 =>
    cases h1
    have h : φ 322 = some 100 := by kernel_rfl
    rw [h] at h2
    cases h2
    exact tr_impl_RenameDessin
  | 323, h1, h2 =>
    cases h1
    have h : φ 323 = some 101 := by kernel_rfl
    rw [h] at h2
    cases h2
    exact tr_spec_RenameDessin
  | 324, h1, h2 =>
    cases h1
    have h : φ 324 = some 102 := by kernel_rfl
    rw [h] at h2
    cases h2
    exact tr_spec_DrawNamingFrom
  | 325, h1, h2 =>
    cases h1
    have h : φ 325 = some 103 := by kernel_rfl
    rw [h] at h2
    cases h2
    exact tr_impl_NamingFrom
  | 326, h1, h2 =>
    cases h1
    have h : φ 326 = some 104 := by kernel_rfl
    rw [h] at h2
    cases h2
    exact tr_spec_NamingFrom
  | 327, h1, h2 =>
    cases h1
    have h : φ 327 = some 105 := by kernel_rfl
    rw [h] at h2
    cases h2
    exact tr_spec_DrawCanonicalDessin
  | 329, h1, h2 =>
    cases h1
    have h : φ 329 = some 106 := by kernel_rfl
    rw [h] at h2
    cases h2
    exact tr_spec_CanonicalDessin
  | 374, h1, h2 =>
    cases h1
    have h : φ 374 = some 114 := by kernel_rfl
    rw [h] at h2
    cases h2
    exact tr_spec_l01Spoil
  | 97, h1, h2 =>
    cases h1
    have h : φ 97 = some 115 := by kernel_rfl
    rw [h] at h2
    cases h2
    exact tr_spec_l01From
  | 187, h1, h2 =>
    cases h1
    have h : φ 187 = some 116 := by kernel_rfl
    rw [h] at h2
    cases h2
    exact tr_impl_IsDessin
  | 280, h1, h2 =>
    cases h1
    have h : φ 280 = some 117 := by kernel_rfl
    rw [h] at h2
    cases h2
    exact tr_impl_passport
  | 184, h1, h2 =>
    cases h1
    have h : φ 184 = some 118 := by kernel_rfl
    rw [h] at h2
    cases h2
    exact tr_spec_l01Is
  | 198, h1, h2 =>
    cases h1
    have h : φ 198 = some 120 := by kernel_rfl
    rw [h] at h2
    cases h2
    exact tr_impl_canonical
  | 193, h1, h2 =>
    cases h1
    have h : φ 193 = some 123 := by kernel_rfl
    rw [h] at h2
    cases h2
    exact tr_impl_face
  | 102, h1, h2 =>
    cases h1
    have h : φ 102 = some 134 := by kernel_rfl
    rw [h] at h2
    cases h2
    exact tr_spec_l01Next
  | 98, h1, h2 =>
    cases h1
    have h : φ 98 = some 135 := by kernel_rfl
    rw [h] at h2
    cases h2
    exact tr_spec_l01Pick
  | 220, h1, h2 =>
    cases h1
    have h : φ 220 = some 138 := by kernel_rfl
    rw [h] at h2
    cases h2
    exact tr_impl_isSize
  | 58, h1, h2 =>
    cases h1
    have h : φ 58 = some 140 := by kernel_rfl
    rw [h] at h2
    cases h2
    exact tr_spec_l01In
  | 355, h1, h2 =>
    cases h1
    have h : φ 355 = some 196 := by kernel_rfl
    rw [h] at h2
    cases h2
    exact tr_spec_l02Some
  | 356, h1, h2 =>
    cases h1
    have h : φ 356 = some 197 := by kernel_rfl
    rw [h] at h2
    cases h2
    exact tr_spec_l01DrawPlaces
  | 209, h1, h2 =>
    cases h1
    have h : φ 209 = some 198 := by kernel_rfl
    rw [h] at h2
    cases h2
    exact tr_impl_IsPermutation
  | 216, h1, h2 =>
    cases h1
    have h : φ 216 = some 199 := by kernel_rfl
    rw [h] at h2
    cases h2
    exact tr_impl_rename
  | 206, h1, h2 =>
    cases h1
    have h : φ 206 = some 200 := by kernel_rfl
    rw [h] at h2
    cases h2
    exact tr_spec_l01Perm
  | 357, h1, h2 =>
    cases h1
    have h : φ 357 = some 201 := by kernel_rfl
    rw [h] at h2
    cases h2
    exact tr_spec_l02Rename
  | 282, h1, h2 =>
    cases h1
    have h : φ 282 = some 202 := by kernel_rfl
    rw [h] at h2
    cases h2
    exact tr_impl_isDart
  | 215, h1, h2 =>
    cases h1
    have h : φ 215 = some 203 := by kernel_rfl
    rw [h] at h2
    cases h2
    exact tr_impl_naming
  | 358, h1, h2 =>
    cases h1
    have h : φ 358 = some 204 := by kernel_rfl
    rw [h] at h2
    cases h2
    exact tr_spec_l02Naming
  | 359, h1, h2 =>
    cases h1
    have h : φ 359 = some 205 := by kernel_rfl
    rw [h] at h2
    cases h2
    exact tr_spec_l02Canonical
  | 372, h1, h2 =>
    cases h1
    have h : φ 372 = some 215 := by kernel_rfl
    rw [h] at h2
    cases h2
    exact tr_spec_l01Draw
  | 364, h1, h2 =>
    cases h1
    have h : φ 364 = some 216 := by kernel_rfl
    rw [h] at h2
    cases h2
    exact tr_spec_l01Same
  | 210, h1, h2 =>
    cases h1
    have h : φ 210 = some 217 := by kernel_rfl
    rw [h] at h2
    cases h2
    exact tr_impl_reached
  | 218, h1, h2 =>
    cases h1
    have h : φ 218 = some 218 := by kernel_rfl
    rw [h] at h2
    cases h2
    exact tr_impl_typeOf
  | 207, h1, h2 =>
    cases h1
    have h : φ 207 = some 219 := by kernel_rfl
    rw [h] at h2
    cases h2
    exact tr_spec_l01Connected
  | 217, h1, h2 =>
    cases h1
    have h : φ 217 = some 221 := by kernel_rfl
    rw [h] at h2
    cases h2
    exact tr_impl_compareDessins
  | 211, h1, h2 =>
    cases h1
    have h : φ 211 = some 223 := by kernel_rfl
    rw [h] at h2
    cases h2
    exact tr_impl_back
  | 213, h1, h2 =>
    cases h1
    have h : φ 213 = some 224 := by kernel_rfl
    rw [h] at h2
    cases h2
    exact tr_impl_then
  | 227, h1, h2 =>
    cases h1
    have h : φ 227 = some 245 := by kernel_rfl
    rw [h] at h2
    cases h2
    exact tr_math_bits_Len
  | 373, h1, h2 =>
    cases h1
    have h : φ 373 = some 246 := by kernel_rfl
    rw [h] at h2
    cases h2
    exact tr_spec_l02Symmetric
  | 221, h1, h2 =>
    cases h1
    have h : φ 221 = some 247 := by kernel_rfl
    rw [h] at h2
    cases h2
    exact tr_impl_named
  | 375, h1, h2 =>
    cases h1
    have h : φ 375 = some 248 := by kernel_rfl
    rw [h] at h2
    cases h2
    exact tr_spec_l02Before
  | 387, h1, h2 =>
    cases h1
    have h : φ 387 = some 251 := by kernel_rfl
    rw [h] at h2
    cases h2
    exact tr_spec_l01Pairs
  | 388, h1, h2 =>
    cases h1
    have h : φ 388 = some 252 := by kernel_rfl
    rw [h] at h2
    cases h2
    exact tr_spec_l01Star
  | 223, h1, h2 =>
    cases h1
    have h : φ 223 = some 253 := by kernel_rfl
    rw [h] at h2
    cases h2
    exact tr_impl_cycles
  | 219, h1, h2 =>
    cases h1
    have h : φ 219 = some 254 := by kernel_rfl
    rw [h] at h2
    cases h2
    exact tr_impl_descending
  | 222, h1, h2 =>
    cases h1
    have h : φ 222 = some 257 := by kernel_rfl
    rw [h] at h2
    cases h2
    exact tr_impl_comparePlaces
  | 245, h1, h2 =>
    cases h1
    have h : φ 245 = some 277 := by kernel_rfl
    rw [h] at h2
    cases h2
    exact tr_math_bits_Len64
  | 389, h1, h2 =>
    cases h1
    have h : φ 389 = some 278 := by kernel_rfl
    rw [h] at h2
    cases h2
    exact tr_spec_l02Less
  | 396, h1, h2 =>
    cases h1
    have h : φ 396 = some 280 := by kernel_rfl
    rw [h] at h2
    cases h2
    exact tr_spec_l01Turn
  | 224, h1, h2 =>
    cases h1
    have h : φ 224 = some 281 := by kernel_rfl
    rw [h] at h2
    cases h2
    exact tr_slices_Sort_int64_int64
  | 225, h1, h2 =>
    cases h1
    have h : φ 225 = some 282 := by kernel_rfl
    rw [h] at h2
    cases h2
    exact tr_slices_Reverse_int64_int64
  | 240, h1, h2 =>
    cases h1
    have h : φ 240 = some 286 := by kernel_rfl
    rw [h] at h2
    cases h2
    exact tr_slices_nextPowerOfTwo
  | 241, h1, h2 =>
    cases h1
    have h : φ 241 = some 287 := by kernel_rfl
    rw [h] at h2
    cases h2
    exact tr_slices_xorshift_Next
  | 228, h1, h2 =>
    cases h1
    have h : φ 228 = some 292 := by kernel_rfl
    rw [h] at h2
    cases h2
    exact tr_slices_pdqsortOrdered_int64
  | 229, h1, h2 =>
    cases h1
    have h : φ 229 = some 303 := by kernel_rfl
    rw [h] at h2
    cases h2
    exact tr_slices_insertionSortOrdered_int64
  | 231, h1, h2 =>
    cases h1
    have h : φ 231 = some 305 := by kernel_rfl
    rw [h] at h2
    cases h2
    exact tr_slices_breakPatternsOrdered_int64
  | 232, h1, h2 =>
    cases h1
    have h : φ 232 = some 306 := by kernel_rfl
    rw [h] at h2
    cases h2
    exact tr_slices_choosePivotOrdered_int64
  | 233, h1, h2 =>
    cases h1
    have h : φ 233 = some 307 := by kernel_rfl
    rw [h] at h2
    cases h2
    exact tr_slices_reverseRangeOrdered_int64
  | 234, h1, h2 =>
    cases h1
    have h : φ 234 = some 308 := by kernel_rfl
    rw [h] at h2
    cases h2
    exact tr_slices_partialInsertionSortOrdered_int64
  | 235, h1, h2 =>
    cases h1
    have h : φ 235 = some 309 := by kernel_rfl
    rw [h] at h2
    cases h2
    exact tr_cmp_Less_int64
  | 236, h1, h2 =>
    cases h1
    have h : φ 236 = some 310 := by kernel_rfl
    rw [h] at h2
    cases h2
    exact tr_slices_partitionEqualOrdered_int64
  | 237, h1, h2 =>
    cases h1
    have h : φ 237 = some 311 := by kernel_rfl
    rw [h] at h2
    cases h2
    exact tr_slices_partitionOrdered_int64
  | 243, h1, h2 =>
    cases h1
    have h : φ 243 = some 317 := by kernel_rfl
    rw [h] at h2
    cases h2
    exact tr_slices_medianOrdered_int64
  | 247, h1, h2 =>
    cases h1
    have h : φ 247 = some 318 := by kernel_rfl
    rw [h] at h2
    cases h2
    exact tr_cmp_isNaN_int64
  | 246, h1, h2 =>
    cases h1
    have h : φ 246 = some 320 := by kernel_rfl
    rw [h] at h2
    cases h2
    exact tr_slices_order2Ordered_int64
end Go.Am
