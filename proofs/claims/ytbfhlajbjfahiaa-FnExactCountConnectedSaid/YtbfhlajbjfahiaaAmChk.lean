/- The program's functions are those of the table: by the translation, checked by reckoning. -/
import Derived.Test.YtbfhlajbjfahiaaProg
import Derived.KernelRfl
import Derived.Test.YtbfhlajbjfahiaaAmTab
import Derived.Test.YtbfhlajbjfahiaaAmSound
set_option linter.unusedVariables false
set_option maxRecDepth 100000
namespace Go.Am
open Go
def μs : List (Nat × Nat) := [(3, 398), (4, 248), (5, 307), (6, 129), (7, 130), (8, 404), (9, 301), (10, 320), (11, 295), (12, 298), (13, 41), (14, 399), (15, 330), (16, 400), (17, 401), (18, 47), (19, 48), (20, 158), (21, 328), (22, 402), (23, 151), (24, 43), (25, 403), (26, 145), (27, 179), (28, 137), (29, 249), (30, 250), (31, 142), (32, 308), (33, 309), (34, 310), (35, 311), (36, 312), (37, 313), (38, 51), (39, 314), (40, 315), (41, 316), (42, 23), (43, 22), (44, 317), (45, 318), (46, 319), (47, 42), (48, 17), (49, 16), (50, 2), (51, 1), (52, 15), (53, 14), (54, 44), (55, 28), (56, 27), (57, 45), (58, 11), (59, 10), (60, 30), (61, 29), (62, 46), (63, 9), (64, 8), (65, 49), (66, 34), (67, 33), (68, 32), (69, 31), (70, 50), (71, 36), (72, 35), (73, 38), (74, 37), (75, 52), (76, 5), (77, 4), (78, 53), (79, 19), (80, 18), (81, 54), (82, 26), (83, 25), (84, 55), (85, 13), (86, 405), (87, 406), (88, 407), (89, 408), (90, 409), (91, 302), (92, 0), (93, 303), (94, 304), (95, 3), (96, 6), (97, 305), (98, 306), (99, 321), (100, 322), (101, 323), (102, 324), (103, 325), (104, 326), (105, 327), (106, 329), (107, 20), (108, 296), (109, 21), (110, 297), (111, 24), (112, 299), (113, 300), (114, 374), (115, 97), (116, 187), (117, 280), (118, 184), (119, 279), (120, 198), (121, 410), (122, 411), (123, 193), (124, 412), (125, 200), (126, 134), (127, 182), (128, 266), (129, 267), (130, 268), (131, 269), (132, 189), (133, 350), (134, 102), (135, 98), (136, 68), (137, 106), (138, 220), (139, 351), (140, 58), (141, 352), (142, 353), (143, 80), (144, 78), (145, 81), (146, 79), (147, 354), (148, 338), (149, 96), (150, 75), (151, 71), (152, 74), (153, 57), (154, 56), (155, 73), (156, 72), (157, 99), (158, 85), (159, 100), (160, 63), (161, 62), (162, 87), (163, 86), (164, 101), (165, 61), (166, 90), (167, 91), (168, 88), (169, 89), (170, 94), (171, 95), (172, 92), (173, 93), (174, 60), (175, 59), (176, 76), (177, 83), (178, 84), (179, 82), (180, 67), (181, 69), (182, 70), (183, 413), (184, 414), (185, 64), (186, 343), (187, 344), (188, 284), (189, 276), (190, 345), (191, 277), (192, 346), (193, 347), (194, 348), (195, 349), (196, 355), (197, 356), (198, 209), (199, 216), (200, 206), (201, 357), (202, 282), (203, 215), (204, 358), (205, 359), (206, 77), (207, 335), (208, 336), (209, 337), (210, 339), (211, 341), (212, 340), (213, 342), (214, 369), (215, 372), (216, 364), (217, 210), (218, 218), (219, 207), (220, 192), (221, 217), (222, 415), (223, 211), (224, 213), (225, 278), (226, 111), (227, 105), (228, 103), (229, 104), (230, 110), (231, 108), (232, 109), (233, 107), (234, 416), (235, 363), (236, 366), (237, 368), (238, 420), (239, 421), (240, 370), (241, 285), (242, 272), (243, 274), (244, 371), (245, 227), (246, 373), (247, 221), (248, 375), (249, 365), (250, 367), (251, 387), (252, 388), (253, 223), (254, 219), (255, 208), (256, 212), (257, 222), (258, 417), (259, 418), (260, 419), (261, 112), (262, 391), (263, 377), (264, 422), (265, 281), (266, 283), (267, 378), (268, 379), (269, 380), (270, 381), (271, 382), (272, 383), (273, 384), (274, 385), (275, 386), (276, 244), (277, 245), (278, 389), (279, 376), (280, 396), (281, 224), (282, 225), (283, 226), (284, 423), (285, 392), (286, 240), (287, 241), (288, 393), (289, 394), (290, 395), (291, 390), (292, 228), (293, 238), (294, 424), (295, 425), (296, 426), (297, 427), (298, 428), (299, 429), (300, 430), (301, 431), (302, 397), (303, 229), (304, 230), (305, 231), (306, 232), (307, 233), (308, 234), (309, 235), (310, 236), (311, 237), (312, 432), (313, 433), (314, 434), (315, 239), (316, 242), (317, 243), (318, 247), (319, 435), (320, 246)]
def μ : Fun := fun q => (μs.find? fun p => p.1 == q).map (·.2)
def φ : Fun := fun g => (μs.find? fun p => p.2 == g).map (·.1)
theorem tr_laws_FnExactCountConnected : trFunc Go.Proofs.Try.prog μ φ 12 = some A_laws_FnExactCountConnected := by kernel_rfl
theorem tr_laws_toInt64S : trFunc Go.Proofs.Try.prog μ φ 92 = some A_laws_toInt64S := by kernel_rfl
theorem tr_laws_eqInt64S : trFunc Go.Proofs.Try.prog μ φ 95 = some A_laws_eqInt64S := by kernel_rfl
theorem tr_laws_szInt64SS : trFunc Go.Proofs.Try.prog μ φ 107 = some A_laws_szInt64SS := by kernel_rfl
theorem tr_laws_toInt64SS : trFunc Go.Proofs.Try.prog μ φ 109 = some A_laws_toInt64SS := by kernel_rfl
theorem tr_laws_eqInt64SS : trFunc Go.Proofs.Try.prog μ φ 111 = some A_laws_eqInt64SS := by kernel_rfl
theorem tr_spec_CountConnected : trFunc Go.Proofs.Try.prog μ φ 112 = some A_spec_CountConnected := by kernel_rfl
theorem tr_impl_CountConnected : trFunc Go.Proofs.Try.prog μ φ 113 = some A_impl_CountConnected := by kernel_rfl
theorem tr_spec_l01Is : trFunc Go.Proofs.Try.prog μ φ 118 = some A_spec_l01Is := by kernel_rfl
theorem tr_impl_face : trFunc Go.Proofs.Try.prog μ φ 123 = some A_impl_face := by kernel_rfl
theorem tr_impl_sumOfType : trFunc Go.Proofs.Try.prog μ φ 136 = some A_impl_sumOfType := by kernel_rfl
theorem tr_spec_l04Type : trFunc Go.Proofs.Try.prog μ φ 137 = some A_spec_l04Type := by kernel_rfl
theorem tr_spec_l01In : trFunc Go.Proofs.Try.prog μ φ 140 = some A_spec_l01In := by kernel_rfl
theorem tr_impl_sumOfPassport : trFunc Go.Proofs.Try.prog μ φ 143 = some A_impl_sumOfPassport := by kernel_rfl
theorem tr_spec_l04Is : trFunc Go.Proofs.Try.prog μ φ 144 = some A_spec_l04Is := by kernel_rfl
theorem tr_spec_l04Sum : trFunc Go.Proofs.Try.prog μ φ 146 = some A_spec_l04Sum := by kernel_rfl
theorem tr_impl_centraliser : trFunc Go.Proofs.Try.prog μ φ 147 = some A_impl_centraliser := by kernel_rfl
theorem tr_spec_l04Centraliser : trFunc Go.Proofs.Try.prog μ φ 148 = some A_spec_l04Centraliser := by kernel_rfl
theorem tr_impl_factorial : trFunc Go.Proofs.Try.prog μ φ 181 = some A_impl_factorial := by kernel_rfl
theorem tr_impl_repeated : trFunc Go.Proofs.Try.prog μ φ 182 = some A_impl_repeated := by kernel_rfl
theorem tr_spec_l01Type : trFunc Go.Proofs.Try.prog μ φ 188 = some A_spec_l01Type := by kernel_rfl
theorem tr_slices_Equal_int64_int64 : trFunc Go.Proofs.Try.prog μ φ 192 = some A_slices_Equal_int64_int64 := by kernel_rfl
theorem tr_spec_l01Perm : trFunc Go.Proofs.Try.prog μ φ 200 = some A_spec_l01Perm := by kernel_rfl
theorem tr_laws_szInt64S : trFunc Go.Proofs.Try.prog μ φ 206 = some A_laws_szInt64S := by kernel_rfl
theorem tr_spec_l04Code : trFunc Go.Proofs.Try.prog μ φ 207 = some A_spec_l04Code := by kernel_rfl
theorem tr_spec_l04Run : trFunc Go.Proofs.Try.prog μ φ 208 = some A_spec_l04Run := by kernel_rfl
theorem tr_spec_l04Factorial : trFunc Go.Proofs.Try.prog μ φ 209 = some A_spec_l04Factorial := by kernel_rfl
theorem tr_impl_searchCode : trFunc Go.Proofs.Try.prog μ φ 210 = some A_impl_searchCode := by kernel_rfl
theorem tr_impl_eachPair : trFunc Go.Proofs.Try.prog μ φ 211 = some A_impl_eachPair := by kernel_rfl
theorem tr_impl_CountConnected_1 : trFunc Go.Proofs.Try.prog μ φ 213 = some A_impl_CountConnected_1 := by kernel_rfl
theorem tr_spec_l01Same : trFunc Go.Proofs.Try.prog μ φ 216 = some A_spec_l01Same := by kernel_rfl
theorem tr_impl_reached : trFunc Go.Proofs.Try.prog μ φ 217 = some A_impl_reached := by kernel_rfl
theorem tr_impl_typeOf : trFunc Go.Proofs.Try.prog μ φ 218 = some A_impl_typeOf := by kernel_rfl
theorem tr_spec_l01Connected : trFunc Go.Proofs.Try.prog μ φ 219 = some A_spec_l01Connected := by kernel_rfl
theorem tr_spec_l01Face : trFunc Go.Proofs.Try.prog μ φ 220 = some A_spec_l01Face := by kernel_rfl
theorem tr_impl_back : trFunc Go.Proofs.Try.prog μ φ 223 = some A_impl_back := by kernel_rfl
theorem tr_impl_then : trFunc Go.Proofs.Try.prog μ φ 224 = some A_impl_then := by kernel_rfl
theorem tr_spec_l04Standard : trFunc Go.Proofs.Try.prog μ φ 235 = some A_spec_l04Standard := by kernel_rfl
theorem tr_impl_ofType : trFunc Go.Proofs.Try.prog μ φ 236 = some A_impl_ofType := by kernel_rfl
theorem tr_impl_each : trFunc Go.Proofs.Try.prog μ φ 237 = some A_impl_each := by kernel_rfl
theorem tr_spec_l01Cycles : trFunc Go.Proofs.Try.prog μ φ 241 = some A_spec_l01Cycles := by kernel_rfl
theorem tr_math_bits_Len : trFunc Go.Proofs.Try.prog μ φ 245 = some A_math_bits_Len := by kernel_rfl
theorem tr_spec_l04Search : trFunc Go.Proofs.Try.prog μ φ 249 = some A_spec_l04Search := by kernel_rfl
theorem tr_impl_eachPair_1 : trFunc Go.Proofs.Try.prog μ φ 250 = some A_impl_eachPair_1 := by kernel_rfl
theorem tr_impl_isConnected : trFunc Go.Proofs.Try.prog μ φ 214 = some A_impl_isConnected := by kernel_rfl
theorem tr_impl_cycles : trFunc Go.Proofs.Try.prog μ φ 253 = some A_impl_cycles := by kernel_rfl
theorem tr_impl_descending : trFunc Go.Proofs.Try.prog μ φ 254 = some A_impl_descending := by kernel_rfl
theorem tr_spec_l01Back : trFunc Go.Proofs.Try.prog μ φ 255 = some A_spec_l01Back := by kernel_rfl
theorem tr_spec_l01Then : trFunc Go.Proofs.Try.prog μ φ 256 = some A_spec_l01Then := by kernel_rfl
theorem tr_impl_each_1 : trFunc Go.Proofs.Try.prog μ φ 263 = some A_impl_each_1 := by kernel_rfl
theorem tr_math_bits_Len64 : trFunc Go.Proofs.Try.prog μ φ 277 = some A_math_bits_Len64 := by kernel_rfl
theorem tr_spec_l04Meet : trFunc Go.Proofs.Try.prog μ φ 279 = some A_spec_l04Meet := by kernel_rfl
theorem tr_slices_Sort_int64_int64 : trFunc Go.Proofs.Try.prog μ φ 281 = some A_slices_Sort_int64_int64 := by kernel_rfl
theorem tr_slices_Reverse_int64_int64 : trFunc Go.Proofs.Try.prog μ φ 282 = some A_slices_Reverse_int64_int64 := by kernel_rfl
theorem tr_slices_nextPowerOfTwo : trFunc Go.Proofs.Try.prog μ φ 286 = some A_slices_nextPowerOfTwo := by kernel_rfl
theorem tr_slices_xorshift_Next : trFunc Go.Proofs.Try.prog μ φ 287 = some A_slices_xorshift_Next := by kernel_rfl
theorem tr_spec_l04Same2 : trFunc Go.Proofs.Try.prog μ φ 291 = some A_spec_l04Same2 := by kernel_rfl
theorem tr_slices_pdqsortOrdered_int64 : trFunc Go.Proofs.Try.prog μ φ 292 = some A_slices_pdqsortOrdered_int64 := by kernel_rfl
theorem tr_slices_insertionSortOrdered_int64 : trFunc Go.Proofs.Try.prog μ φ 303 = some A_slices_insertionSortOrdered_int64 := by kernel_rfl
theorem tr_slices_breakPatternsOrdered_int64 : trFunc Go.Proofs.Try.prog μ φ 305 = some A_slices_breakPatternsOrdered_int64 := by kernel_rfl
theorem tr_slices_choosePivotOrdered_int64 : trFunc Go.Proofs.Try.prog μ φ 306 = some A_slices_choosePivotOrdered_int64 := by kernel_rfl
theorem tr_slices_reverseRangeOrdered_int64 : trFunc Go.Proofs.Try.prog μ φ 307 = some A_slices_reverseRangeOrdered_int64 := by kernel_rfl
theorem tr_slices_partialInsertionSortOrdered_int64 : trFunc Go.Proofs.Try.prog μ φ 308 = some A_slices_partialInsertionSortOrdered_int64 := by kernel_rfl
theorem tr_cmp_Less_int64 : trFunc Go.Proofs.Try.prog μ φ 309 = some A_cmp_Less_int64 := by kernel_rfl
theorem tr_slices_partitionEqualOrdered_int64 : trFunc Go.Proofs.Try.prog μ φ 310 = some A_slices_partitionEqualOrdered_int64 := by kernel_rfl
theorem tr_slices_partitionOrdered_int64 : trFunc Go.Proofs.Try.prog μ φ 311 = some A_slices_partitionOrdered_int64 := by kernel_rfl
theorem tr_slices_medianOrdered_int64 : trFunc Go.Proofs.Try.prog μ φ 317 = some A_slices_medianOrdered_int64 := by kernel_rfl
theorem tr_cmp_isNaN_int64 : trFunc Go.Proofs.Try.prog μ φ 318 = some A_cmp_isNaN_int64 := by kernel_rfl
theorem tr_slices_order2Ordered_int64 : trFunc Go.Proofs.Try.prog μ φ 320 = some A_slices_order2Ordered_int64 := by kernel_rfl
theorem hΓ : ∀ g fn q, Γ g = some fn → φ g = some q → trFunc Go.Proofs.Try.prog μ φ q = some fn := by
  intro g fn q h1 h2
  match g, h1, h2 with
  | 298, h1, h2 =>
    cases h1
    have h : φ 298 = some 12 := by kernel_rfl
    rw [h] at h2
    cases h2
    exact tr_laws_FnExactCountConnected
  | 0, h1, h2 =>
    cases h1
    have h : φ 0 = some 92 := by kernel_rfl
    rw [h] at h2
    cases h2
    exact tr_laws_toInt64S
  | 3, h1, h2 =>
    cases h1
    have h : φ 3 = some 95 := by kernel_rfl
    rw [h] at h2
    cases h2
    exact tr_laws_eqInt64S
  | 20, h1, h2 =>
    cases h1
    have h : φ 20 = some 107 := by kernel_rfl
    rw [h] at h2
    cases h2
    exact tr_laws_szInt64SS
  | 21, h1, h2 =>
    cases h1
    have h : φ 21 = some 109 := by kernel_rfl
    rw [h] at h2
    cases h2
    exact tr_laws_toInt64SS
  | 24, h1, h2 =>
    cases h1
    have h : φ 24 = some 111 := by kernel_rfl
    rw [h] at h2
    cases h2
    exact tr_laws_eqInt64SS
  | 299, h1, h2 =>
    cases h1
    have h : φ 299 = some 112 := by kernel_rfl
    rw [h] at h2
    cases h2
    exact tr_spec_CountConnected
  | 300, h1, h2 =>
    cases h1
    have h : φ 300 = some 113 := by kernel_rfl
    rw [h] at h2
    cases h2
    exact tr_impl_CountConnected
  | 184, h1, h2 =>
    cases h1
    have h : φ 184 = some 118 := by kernel_rfl
    rw [h] at h2
    cases h2
    exact tr_spec_l01Is
  | 193, h1, h2 =>
    cases h1
    have h : φ 193 = some 123 := by kernel_rfl
    rw [h] at h2
    cases h2
    exact tr_impl_face
  | 68, h1, h2 =>
    cases h1
    have h : φ 68 = some 136 := by kernel_rfl
    rw [h] at h2
    cases h2
    exact tr_impl_sumOfType
  | 106, h1, h2 =>
    cases h1
    have h : φ 106 = some 137 := by kernel_rfl
    rw [h] at h2
    cases h2
    exact tr_spec_l04Type
  | 58, h1, h2 =>
    cases h1
    have h : φ 58 = some 140 := by kernel_rfl
    rw [h] at h2
    cases h2
    exact tr_spec_l01In
  | 80, h1, h2 =>
    cases h1
    have h : φ 80 = some 143 := by kernel_rfl
    rw [h] at h2
    cases h2
    exact tr_impl_sumOfPassport
  | 78, h1, h2 =>
    cases h1
    have h : φ 78 = some 144 := by kernel_rfl
    rw [h] at h2
    cases h2
    exact tr_spec_l04Is
  | 79, h1, h2 =>
    cases h1
    have h : φ 79 = some 146 := by kernel_rfl
    rw [h] at h2
    cases h2
    exact tr_spec_l04Sum
  | 354, h1, h2 =>
    cases h1
    have h : φ 354 = some 147 := by kernel_rfl
    rw [h] at h2
    cases h2
    exact tr_impl_centraliser
  | 338, h1, h2 =>
    cases h1
    have h : φ 338 = some 148 := by kernel_rfl
    rw [h] at h2
    cases h2
    exact tr_spec_l04Centraliser
  | 69, h1, h2 =>
    cases h1
    have h : φ 69 = some 181 := by kernel_rfl
    rw [h] at h2
    cases h2
    exact tr_impl_factorial
  | 70, h1, h2 =>
    cases h1
    have h : φ 70 = some 182 := by kernel_rfl
    rw [h] at h2
    cases h2
    exact tr_impl_repeated
  | 284, h1, h2 =>
    cases h1
    have h : φ 284 = some 188 := by kernel_rfl
    rw [h] at h2
    cases h2
    exact tr_spec_l01Type
  | 346, h1, h2 =>
    cases h1
    have h : φ 346 = some 192 := by kernel_rfl
    rw [h] at h2
    cases h2
    exact tr_slices_Equal_int64_int64
  | 206, h1, h2 =>
    cases h1
    have h : φ 206 = some 200 := by kernel_rfl
    rw [h] at h2
    cases h2
    exact tr_spec_l01Perm
  | 77, h1, h2 =>
    cases h1
    have h : φ 77 = some 206 := by kernel_rfl
    rw [h] at h2
    cases h2
    exact tr_laws_szInt64S
  | 335, h1, h2 =>
    cases h1
    have h : φ 335 = some 207 := by kernel_rfl
    rw [h] at h2
    cases h2
    exact tr_spec_l04Code
  | 336, h1, h2 =>
    cases h1
    have h : φ 336 = some 208 := by kernel_rfl
    rw [h] at h2
    cases h2
    exact tr_spec_l04Run
  | 337, h1, h2 =>
    cases h1
    have h : φ 337 = some 209 := by kernel_rfl
    rw [h] at h2
    cases h2
    exact tr_spec_l04Factorial
  | 339, h1, h2 =>
    cases h1
    have h : φ 339 = some 210 := by kernel_rfl
    rw [h] at h2
    cases h2
    exact tr_impl_searchCode
  | 341, h1, h2 =>
    cases h1
    have h : φ 341 = some 211 := by kernel_rfl
    rw [h] at h2
    cases h2
    exact tr_impl_eachPair
  | 342, h1, h2 =>
    cases h1
    have h : φ 342 = some 213 := by kernel_rfl
    rw [h] at h2
    cases h2
    exact tr_impl_CountConnected_1
  | 364, h1, h2 =>
    cases h1
    have h : φ 364 = some 216 := by kernel_rfl
    rw [h] at h2
    cases h2
    exact tr_spec_l01Same
  | 210, h1, h2 =>
    cases h1
    have h : φ 210 = some 217 := by kernel_rfl
    rw [h] at h2
    cases h2
    exact tr_impl_reached
  | 218, h1, h2 =>
    cases h1
    have h : φ 218 = some 218 := by kernel_rfl
    rw [h] at h2
    cases h2
    exact tr_impl_typeOf
  | 207, h1, h2 =>
    cases h1
    have h : φ 207 = some 219 := by kernel_rfl
    rw [h] at h2
    cases h2
    exact tr_spec_l01Connected
  | 192, h1, h2 =>
    cases h1
    have h : φ 192 = some 220 := by kernel_rfl
    rw [h] at h2
    cases h2
    exact tr_spec_l01Face
  | 211, h1, h2 =>
    cases h1
    have h : φ 211 = some 223 := by kernel_rfl
    rw [h] at h2
    cases h2
    exact tr_impl_back
  | 213, h1, h2 =>
    cases h1
    have h : φ 213 = some 224 := by kernel_rfl
    rw [h] at h2
    cases h2
    exact tr_impl_then
  | 363, h1, h2 =>
    cases h1
    have h : φ 363 = some 235 := by kernel_rfl
    rw [h] at h2
    cases h2
    exact tr_spec_l04Standard
  | 366, h1, h2 =>
    cases h1
    have h : φ 366 = some 236 := by kernel_rfl
    rw [h] at h2
    cases h2
    exact tr_impl_ofType
  | 368, h1, h2 =>
    cases h1
    have h : φ 368 = some 237 := by kernel_rfl
    rw [h] at h2
    cases h2
    exact tr_impl_each
  | 285, h1, h2 =>
    cases h1
    have h : φ 285 = some 241 := by kernel_rfl
    rw [h] at h2
    cases h2
    exact tr_spec_l01Cycles
  | 227, h1, h2 =>
    cases h1
    have h : φ 227 = some 245 := by kernel_rfl
    rw [h] at h2
    cases h2
    exact tr_math_bits_Len
  | 365, h1, h2 =>
    cases h1
    have h : φ 365 = some 249 := by kernel_rfl
    rw [h] at h2
    cases h2
    exact tr_spec_l04Search
  | 367, h1, h2 =>
    cases h1
    have h : φ 367 = some 250 := by kernel_rfl
    rw [h] at h2
    cases h2
    exact tr_impl_eachPair_1
  | 369, h1, h2 =>
    cases h1
    have h : φ 369 = some 214 := by kernel_rfl
    rw [h] at h2
    cases h2
    exact tr_impl_isConnected
  | 223, h1, h2 =>
    cases h1
    have h : φ 223 = some 253 := by kernel_rfl
    rw [h] at h2
    cases h2
    exact tr_impl_cycles
  | 219, h1, h2 =>
    cases h1
    have h : φ 219 = some 254 := by kernel_rfl
    rw [h] at h2
    cases h2
    exact tr_impl_descending
  | 208, h1, h2 =>
    cases h1
    have h : φ 208 = some 255 := by kernel_rfl
    rw [h] at h2
    cases h2
    exact tr_spec_l01Back
  | 212, h1, h2 =>
    cases h1
    have h : φ 212 = some 256 := by kernel_rfl
    rw [h] at h2
    cases h2
    exact tr_spec_l01Then
  | 377, h1, h2 =>
    cases h1
    have h : φ 377 = some 263 := by kernel_rfl
    rw [h] at h2
    cases h2
    exact tr_impl_each_1
  | 245, h1, h2 =>
    cases h1
    have h : φ 245 = some 277 := by kernel_rfl
    rw [h] at h2
    cases h2
    exact tr_math_bits_Len64
  | 376, h1, h2 =>
    cases h1
    have h : φ 376 = some 279 := by kernel_rfl
    rw [h] at h2
    cases h2
    exact tr_spec_l04Meet
  | 224, h1, h2 =>
    cases h1
    have h : φ 224 = some 281 := by kernel_rfl
    rw [h] at h2
    cases h2
    exact tr_slices_Sort_int64_int64
  | 225, h1, h2 =>
    cases h1
    have h : φ 225 = some 282 := by kernel_rfl
    rw [h] at h2
    cases h2
    exact tr_slices_Reverse_int64_int64
  | 240, h1, h2 =>
    cases h1
    have h : φ 240 = some 286 := by kernel_rfl
    rw [h] at h2
    cases h2
    exact tr_slices_nextPowerOfTwo
  | 241, h1, h2 =>
    cases h1
    have h : φ 241 = some 287 := by kernel_rfl
    rw [h] at h2
    cases h2
    exact tr_slices_xorshift_Next
  | 390, h1, h2 =>
    cases h1
    have h : φ 390 = some 291 := by kernel_rfl
    rw [h] at h2
    cases h2
    exact tr_spec_l04Same2
  | 228, h1, h2 =>
    cases h1
    have h : φ 228 = some 292 := by kernel_rfl
    rw [h] at h2
    cases h2
    exact tr_slices_pdqsortOrdered_int64
  | 229, h1, h2 =>
    cases h1
    have h : φ 229 = some 303 := by kernel_rfl
    rw [h] at h2
    cases h2
    exact tr_slices_insertionSortOrdered_int64
  | 231, h1, h2 =>
    cases h1
    have h : φ 231 = some 305 := by kernel_rfl
    rw [h] at h2
    cases h2
    exact tr_slices_breakPatternsOrdered_int64
  | 232, h1, h2 =>
    cases h1
    have h : φ 232 = some 306 := by kernel_rfl
    rw [h] at h2
    cases h2
    exact tr_slices_choosePivotOrdered_int64
  | 233, h1, h2 =>
    cases h1
    have h : φ 233 = some 307 := by kernel_rfl
    rw [h] at h2
    cases h2
    exact tr_slices_reverseRangeOrdered_int64
  | 234, h1, h2 =>
    cases h1
    have h : φ 234 = some 308 := by kernel_rfl
    rw [h] at h2
    cases h2
    exact tr_slices_partialInsertionSortOrdered_int64
  | 235, h1, h2 =>
    cases h1
    have h : φ 235 = some 309 := by kernel_rfl
    rw [h] at h2
    cases h2
    exact tr_cmp_Less_int64
  | 236, h1, h2 =>
    cases h1
    have h : φ 236 = some 310 := by kernel_rfl
    rw [h] at h2
    cases h2
    exact tr_slices_partitionEqualOrdered_int64
  | 237, h1, h2 =>
    cases h1
    have h : φ 237 = some 311 := by kernel_rfl
    rw [h] at h2
    cases h2
    exact tr_slices_partitionOrdered_int64
  | 243, h1, h2 =>
    cases h1
    have h : φ 243 = some 317 := by kernel_rfl
    rw [h] at h2
    cases h2
    exact tr_slices_medianOrdered_int64
  | 247, h1, h2 =>
    cases h1
    have h : φ 247 = some 318 := by kernel_rfl
    rw [h] at h2
    cases h2
    exact tr_cmp_isNaN_int64
  | 246, h1, h2 =>
    cases h1
    have h : φ 246 = some 320 := by kernel_rfl
    rw [h] at h2
    cases h2
    exact tr_slices_order2Ordered_int64
end Go.Am
