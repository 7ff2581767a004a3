/- The program's functions are those of the table: by the translation, checked by reckoning. -/
import Derived.Test.YteklchkdgpoedaaProg
import Derived.KernelRfl
import Derived.Test.YteklchkdgpoedaaAmTab
import Derived.Test.YteklchkdgpoedaaAmSound
set_option linter.unusedVariables false
set_option maxRecDepth 100000
namespace Go.Am
open Go
def μs : List (Nat × Nat) := [(3, 398), (4, 129), (5, 130), (6, 301), (7, 41), (8, 399), (9, 330), (10, 400), (11, 401), (12, 47), (13, 48), (14, 158), (15, 328), (16, 402), (17, 151), (18, 43), (19, 403), (20, 145), (21, 179), (22, 137), (23, 42), (24, 17), (25, 16), (26, 2), (27, 1), (28, 15), (29, 14), (30, 44), (31, 28), (32, 27), (33, 45), (34, 11), (35, 10), (36, 30), (37, 29), (38, 46), (39, 9), (40, 8), (41, 49), (42, 34), (43, 33), (44, 32), (45, 31), (46, 50), (47, 36), (48, 35), (49, 38), (50, 37), (51, 51), (52, 52), (53, 5), (54, 4), (55, 53), (56, 19), (57, 18), (58, 54), (59, 26), (60, 25), (61, 55), (62, 23), (63, 13), (64, 302), (65, 0), (66, 303), (67, 304), (68, 3), (69, 6), (70, 305), (71, 306), (72, 374), (73, 97), (74, 187), (75, 280), (76, 184), (77, 279), (78, 198), (79, 410), (80, 411), (81, 193), (82, 412), (83, 200), (84, 134), (85, 182), (86, 96), (87, 75), (88, 71), (89, 74), (90, 57), (91, 56), (92, 73), (93, 72), (94, 99), (95, 98), (96, 85), (97, 100), (98, 63), (99, 62), (100, 87), (101, 86), (102, 101), (103, 58), (104, 61), (105, 90), (106, 91), (107, 88), (108, 89), (109, 102), (110, 94), (111, 95), (112, 92), (113, 93), (114, 60), (115, 59), (116, 76), (117, 83), (118, 84), (119, 82), (120, 80), (121, 81), (122, 67), (123, 68), (124, 69), (125, 70), (126, 64), (127, 343), (128, 267), (129, 344), (130, 284), (131, 276), (132, 345), (133, 269), (134, 277), (135, 346), (136, 347), (137, 348), (138, 349), (139, 372), (140, 364), (141, 209), (142, 210), (143, 218), (144, 206), (145, 207), (146, 192), (147, 216), (148, 215), (149, 217), (150, 415), (151, 211), (152, 213), (153, 105), (154, 103), (155, 104), (156, 110), (157, 108), (158, 109), (159, 107), (160, 370), (161, 285), (162, 272), (163, 278), (164, 274), (165, 371), (166, 227), (167, 387), (168, 388), (169, 356), (170, 220), (171, 223), (172, 219), (173, 208), (174, 212), (175, 221), (176, 222), (177, 417), (178, 418), (179, 419), (180, 111), (181, 112), (182, 281), (183, 283), (184, 378), (185, 379), (186, 380), (187, 381), (188, 382), (189, 383), (190, 384), (191, 385), (192, 386), (193, 244), (194, 245), (195, 396), (196, 224), (197, 225), (198, 226), (199, 392), (200, 240), (201, 241), (202, 393), (203, 394), (204, 395), (205, 228), (206, 238), (207, 397), (208, 229), (209, 230), (210, 231), (211, 232), (212, 233), (213, 234), (214, 235), (215, 236), (216, 237), (217, 239), (218, 242), (219, 243), (220, 247), (221, 246)]
def μ : Fun := fun q => (μs.find? fun p => p.1 == q).map (·.2)
def φ : Fun := fun g => (μs.find? fun p => p.2 == g).map (·.1)
theorem tr_laws_FnShabats : trFunc Go.Proofs.Try.prog μ φ 5 = some A_laws_FnShabats := by kernel_rfl
theorem tr_laws_big : trFunc Go.Proofs.Try.prog μ φ 7 = some A_laws_big := by kernel_rfl
theorem tr_laws_roll : trFunc Go.Proofs.Try.prog μ φ 12 = some A_laws_roll := by kernel_rfl
theorem tr_laws_dice_below : trFunc Go.Proofs.Try.prog μ φ 13 = some A_laws_dice_below := by kernel_rfl
theorem tr_laws_likeInts : trFunc Go.Proofs.Try.prog μ φ 18 = some A_laws_likeInts := by kernel_rfl
theorem tr_impl_IsPolynomial : trFunc Go.Proofs.Try.prog μ φ 26 = some A_impl_IsPolynomial := by kernel_rfl
theorem tr_impl_ComposePolynomials : trFunc Go.Proofs.Try.prog μ φ 31 = some A_impl_ComposePolynomials := by kernel_rfl
theorem tr_spec_DrawValueOf : trFunc Go.Proofs.Try.prog μ φ 38 = some A_spec_DrawValueOf := by kernel_rfl
theorem tr_spec_DrawMultiplicitiesOf : trFunc Go.Proofs.Try.prog μ φ 41 = some A_spec_DrawMultiplicitiesOf := by kernel_rfl
theorem tr_impl_MultiplicitiesOf : trFunc Go.Proofs.Try.prog μ φ 42 = some A_impl_MultiplicitiesOf := by kernel_rfl
theorem tr_spec_MultiplicitiesOf : trFunc Go.Proofs.Try.prog μ φ 43 = some A_spec_MultiplicitiesOf := by kernel_rfl
theorem tr_impl_IsCritical : trFunc Go.Proofs.Try.prog μ φ 44 = some A_impl_IsCritical := by kernel_rfl
theorem tr_spec_IsCritical : trFunc Go.Proofs.Try.prog μ φ 45 = some A_spec_IsCritical := by kernel_rfl
theorem tr_spec_DrawIsShabat : trFunc Go.Proofs.Try.prog μ φ 46 = some A_spec_DrawIsShabat := by kernel_rfl
theorem tr_impl_IsShabat : trFunc Go.Proofs.Try.prog μ φ 47 = some A_impl_IsShabat := by kernel_rfl
theorem tr_spec_IsShabat : trFunc Go.Proofs.Try.prog μ φ 48 = some A_spec_IsShabat := by kernel_rfl
theorem tr_impl_PassportOfShabat : trFunc Go.Proofs.Try.prog μ φ 49 = some A_impl_PassportOfShabat := by kernel_rfl
theorem tr_spec_PassportOfShabat : trFunc Go.Proofs.Try.prog μ φ 50 = some A_spec_PassportOfShabat := by kernel_rfl
theorem tr_laws_lists9 : trFunc Go.Proofs.Try.prog μ φ 51 = some A_laws_lists9 := by kernel_rfl
theorem tr_spec_DrawStarPolynomial : trFunc Go.Proofs.Try.prog μ φ 52 = some A_spec_DrawStarPolynomial := by kernel_rfl
theorem tr_impl_StarPolynomial : trFunc Go.Proofs.Try.prog μ φ 53 = some A_impl_StarPolynomial := by kernel_rfl
theorem tr_spec_StarPolynomial : trFunc Go.Proofs.Try.prog μ φ 54 = some A_spec_StarPolynomial := by kernel_rfl
theorem tr_spec_DrawChainPolynomial : trFunc Go.Proofs.Try.prog μ φ 55 = some A_spec_DrawChainPolynomial := by kernel_rfl
theorem tr_impl_ChainPolynomial : trFunc Go.Proofs.Try.prog μ φ 56 = some A_impl_ChainPolynomial := by kernel_rfl
theorem tr_spec_ChainPolynomial : trFunc Go.Proofs.Try.prog μ φ 57 = some A_spec_ChainPolynomial := by kernel_rfl
theorem tr_spec_DrawForkPolynomial : trFunc Go.Proofs.Try.prog μ φ 58 = some A_spec_DrawForkPolynomial := by kernel_rfl
theorem tr_impl_ForkPolynomial : trFunc Go.Proofs.Try.prog μ φ 59 = some A_impl_ForkPolynomial := by kernel_rfl
theorem tr_spec_ForkPolynomial : trFunc Go.Proofs.Try.prog μ φ 60 = some A_spec_ForkPolynomial := by kernel_rfl
theorem tr_laws_sum : trFunc Go.Proofs.Try.prog μ φ 61 = some A_laws_sum := by kernel_rfl
theorem tr_impl_EulerOfPassport : trFunc Go.Proofs.Try.prog μ φ 62 = some A_impl_EulerOfPassport := by kernel_rfl
theorem tr_impl_CountRooted : trFunc Go.Proofs.Try.prog μ φ 63 = some A_impl_CountRooted := by kernel_rfl
theorem tr_spec_l01From : trFunc Go.Proofs.Try.prog μ φ 73 = some A_spec_l01From := by kernel_rfl
theorem tr_impl_times : trFunc Go.Proofs.Try.prog μ φ 87 = some A_impl_times := by kernel_rfl
theorem tr_spec_l06Times : trFunc Go.Proofs.Try.prog μ φ 89 = some A_spec_l06Times := by kernel_rfl
theorem tr_impl_isNumber : trFunc Go.Proofs.Try.prog μ φ 90 = some A_impl_isNumber := by kernel_rfl
theorem tr_spec_l06Is : trFunc Go.Proofs.Try.prog μ φ 91 = some A_spec_l06Is := by kernel_rfl
theorem tr_impl_addAll : trFunc Go.Proofs.Try.prog μ φ 92 = some A_impl_addAll := by kernel_rfl
theorem tr_spec_l06Add : trFunc Go.Proofs.Try.prog μ φ 93 = some A_spec_l06Add := by kernel_rfl
theorem tr_spec_l06Draw : trFunc Go.Proofs.Try.prog μ φ 94 = some A_spec_l06Draw := by kernel_rfl
theorem tr_spec_l01Pick : trFunc Go.Proofs.Try.prog μ φ 95 = some A_spec_l01Pick := by kernel_rfl
theorem tr_spec_l06Compose : trFunc Go.Proofs.Try.prog μ φ 96 = some A_spec_l06Compose := by kernel_rfl
theorem tr_spec_l06Some : trFunc Go.Proofs.Try.prog μ φ 97 = some A_spec_l06Some := by kernel_rfl
theorem tr_impl_derivative : trFunc Go.Proofs.Try.prog μ φ 98 = some A_impl_derivative := by kernel_rfl
theorem tr_spec_l06Slope : trFunc Go.Proofs.Try.prog μ φ 99 = some A_spec_l06Slope := by kernel_rfl
theorem tr_impl_common : trFunc Go.Proofs.Try.prog μ φ 100 = some A_impl_common := by kernel_rfl
theorem tr_spec_l06Common : trFunc Go.Proofs.Try.prog μ φ 101 = some A_spec_l06Common := by kernel_rfl
theorem tr_spec_l06DrawValue : trFunc Go.Proofs.Try.prog μ φ 102 = some A_spec_l06DrawValue := by kernel_rfl
theorem tr_spec_l01In : trFunc Go.Proofs.Try.prog μ φ 103 = some A_spec_l01In := by kernel_rfl
theorem tr_spec_l06Value : trFunc Go.Proofs.Try.prog μ φ 104 = some A_spec_l06Value := by kernel_rfl
theorem tr_impl_polynomialCode : trFunc Go.Proofs.Try.prog μ φ 105 = some A_impl_polynomialCode := by kernel_rfl
theorem tr_impl_multiplicities : trFunc Go.Proofs.Try.prog μ φ 106 = some A_impl_multiplicities := by kernel_rfl
theorem tr_spec_l06Code : trFunc Go.Proofs.Try.prog μ φ 107 = some A_spec_l06Code := by kernel_rfl
theorem tr_spec_l06Multiplicities : trFunc Go.Proofs.Try.prog μ φ 108 = some A_spec_l06Multiplicities := by kernel_rfl
theorem tr_spec_l01Next : trFunc Go.Proofs.Try.prog μ φ 109 = some A_spec_l01Next := by kernel_rfl
theorem tr_impl_shabatCode : trFunc Go.Proofs.Try.prog μ φ 110 = some A_impl_shabatCode := by kernel_rfl
theorem tr_impl_shabat : trFunc Go.Proofs.Try.prog μ φ 111 = some A_impl_shabat := by kernel_rfl
theorem tr_spec_l06Two : trFunc Go.Proofs.Try.prog μ φ 112 = some A_spec_l06Two := by kernel_rfl
theorem tr_spec_l06Shabat : trFunc Go.Proofs.Try.prog μ φ 113 = some A_spec_l06Shabat := by kernel_rfl
theorem tr_impl_isPower : trFunc Go.Proofs.Try.prog μ φ 114 = some A_impl_isPower := by kernel_rfl
theorem tr_spec_l06Monomial : trFunc Go.Proofs.Try.prog μ φ 115 = some A_spec_l06Monomial := by kernel_rfl
theorem tr_spec_l06Chain : trFunc Go.Proofs.Try.prog μ φ 116 = some A_spec_l06Chain := by kernel_rfl
theorem tr_impl_power : trFunc Go.Proofs.Try.prog μ φ 117 = some A_impl_power := by kernel_rfl
theorem tr_impl_inverse : trFunc Go.Proofs.Try.prog μ φ 118 = some A_impl_inverse := by kernel_rfl
theorem tr_spec_l06Fork : trFunc Go.Proofs.Try.prog μ φ 119 = some A_spec_l06Fork := by kernel_rfl
theorem tr_impl_sumOfPassport : trFunc Go.Proofs.Try.prog μ φ 120 = some A_impl_sumOfPassport := by kernel_rfl
theorem tr_impl_eulerOf : trFunc Go.Proofs.Try.prog μ φ 121 = some A_impl_eulerOf := by kernel_rfl
theorem tr_impl_areTypes : trFunc Go.Proofs.Try.prog μ φ 122 = some A_impl_areTypes := by kernel_rfl
theorem tr_impl_sumOfType : trFunc Go.Proofs.Try.prog μ φ 123 = some A_impl_sumOfType := by kernel_rfl
theorem tr_impl_factorial : trFunc Go.Proofs.Try.prog μ φ 124 = some A_impl_factorial := by kernel_rfl
theorem tr_impl_repeated : trFunc Go.Proofs.Try.prog μ φ 125 = some A_impl_repeated := by kernel_rfl
theorem tr_impl_cut : trFunc Go.Proofs.Try.prog μ φ 153 = some A_impl_cut := by kernel_rfl
theorem tr_spec_l06Mod : trFunc Go.Proofs.Try.prog μ φ 154 = some A_spec_l06Mod := by kernel_rfl
theorem tr_spec_l06Trim : trFunc Go.Proofs.Try.prog μ φ 155 = some A_spec_l06Trim := by kernel_rfl
theorem tr_impl_divide : trFunc Go.Proofs.Try.prog μ φ 156 = some A_impl_divide := by kernel_rfl
theorem tr_spec_l06Divide : trFunc Go.Proofs.Try.prog μ φ 157 = some A_spec_l06Divide := by kernel_rfl
theorem tr_spec_l06Monic : trFunc Go.Proofs.Try.prog μ φ 158 = some A_spec_l06Monic := by kernel_rfl
theorem tr_spec_l06Inverse : trFunc Go.Proofs.Try.prog μ φ 159 = some A_spec_l06Inverse := by kernel_rfl
theorem tr_spec_l01Own : trFunc Go.Proofs.Try.prog μ φ 180 = some A_spec_l01Own := by kernel_rfl
theorem tr_slices_Clone_int64_int64 : trFunc Go.Proofs.Try.prog μ φ 181 = some A_slices_Clone_int64_int64 := by kernel_rfl
theorem hΓ : ∀ g fn q, Γ g = some fn → φ g = some q → trFunc Go.Proofs.Try.prog μ φ q = some fn := by
  intro g fn q h1 h2
  match g, h1, h2 with
  | 130, h1, h2 =>
    cases h1
    have h : φ 130 = some 5 := by kernel_rfl
    rw [h] at h2
    cases h2
    exact tr_laws_FnShabats
  | 41, h1, h2 =>
    cases h1
    have h : φ 41 = some 7 := by kernel_rfl
    rw [h] at h2
    cases h2
    exact tr_laws_big
  | 47, h1, h2 =>
    cases h1
    have h : φ 47 = some 12 := by kernel_rfl
    rw [h] at h2
    cases h2
    exact tr_laws_roll
  | 48, h1, h2 =>
    cases h1
    have h : φ 48 = some 13 := by kernel_rfl
    rw [h] at h2
    cases h2
    exact tr_laws_dice_below
  | 43, h1, h2 =>
    cases h1
    have h : φ 43 = some 18 := by kernel_rfl
    rw [h] at h2
    cases h2
    exact tr_laws_likeInts
  | 2, h1, h2 =>
    cases h1
    have h : φ 2 = some 26 := by kernel_rfl
    rw [h] at h2
    cases h2
    exact tr_impl_IsPolynomial
  | 28, h1, h2 =>
    cases h1
    have h : φ 28 = some 31 := by kernel_rfl
    rw [h] at h2
    cases h2
    exact tr_impl_ComposePolynomials
  | 46, h1, h2 =>
    cases h1
    have h : φ 46 = some 38 := by kernel_rfl
    rw [h] at h2
    cases h2
    exact tr_spec_DrawValueOf
  | 49, h1, h2 =>
    cases h1
    have h : φ 49 = some 41 := by kernel_rfl
    rw [h] at h2
    cases h2
    exact tr_spec_DrawMultiplicitiesOf
  | 34, h1, h2 =>
    cases h1
    have h : φ 34 = some 42 := by kernel_rfl
    rw [h] at h2
    cases h2
    exact tr_impl_MultiplicitiesOf
  | 33, h1, h2 =>
    cases h1
    have h : φ 33 = some 43 := by kernel_rfl
    rw [h] at h2
    cases h2
    exact tr_spec_MultiplicitiesOf
  | 32, h1, h2 =>
    cases h1
    have h : φ 32 = some 44 := by kernel_rfl
    rw [h] at h2
    cases h2
    exact tr_impl_IsCritical
  | 31, h1, h2 =>
    cases h1
    have h : φ 31 = some 45 := by kernel_rfl
    rw [h] at h2
    cases h2
    exact tr_spec_IsCritical
  | 50, h1, h2 =>
    cases h1
    have h : φ 50 = some 46 := by kernel_rfl
    rw [h] at h2
    cases h2
    exact tr_spec_DrawIsShabat
  | 36, h1, h2 =>
    cases h1
    have h : φ 36 = some 47 := by kernel_rfl
    rw [h] at h2
    cases h2
    exact tr_impl_IsShabat
  | 35, h1, h2 =>
    cases h1
    have h : φ 35 = some 48 := by kernel_rfl
    rw [h] at h2
    cases h2
    exact tr_spec_IsShabat
  | 38, h1, h2 =>
    cases h1
    have h : φ 38 = some 49 := by kernel_rfl
    rw [h] at h2
    cases h2
    exact tr_impl_PassportOfShabat
  | 37, h1, h2 =>
    cases h1
    have h : φ 37 = some 50 := by kernel_rfl
    rw [h] at h2
    cases h2
    exact tr_spec_PassportOfShabat
  | 51, h1, h2 =>
    cases h1
    have h : φ 51 = some 51 := by kernel_rfl
    rw [h] at h2
    cases h2
    exact tr_laws_lists9
  | 52, h1, h2 =>
    cases h1
    have h : φ 52 = some 52 := by kernel_rfl
    rw [h] at h2
    cases h2
    exact tr_spec_DrawStarPolynomial
  | 5, h1, h2 =>
    cases h1
    have h : φ 5 = some 53 := by kernel_rfl
    rw [h] at h2
    cases h2
    exact tr_impl_StarPolynomial
  | 4, h1, h2 =>
    cases h1
    have h : φ 4 = some 54 := by kernel_rfl
    rw [h] at h2
    cases h2
    exact tr_spec_StarPolynomial
  | 53, h1, h2 =>
    cases h1
    have h : φ 53 = some 55 := by kernel_rfl
    rw [h] at h2
    cases h2
    exact tr_spec_DrawChainPolynomial
  | 19, h1, h2 =>
    cases h1
    have h : φ 19 = some 56 := by kernel_rfl
    rw [h] at h2
    cases h2
    exact tr_impl_ChainPolynomial
  | 18, h1, h2 =>
    cases h1
    have h : φ 18 = some 57 := by kernel_rfl
    rw [h] at h2
    cases h2
    exact tr_spec_ChainPolynomial
  | 54, h1, h2 =>
    cases h1
    have h : φ 54 = some 58 := by kernel_rfl
    rw [h] at h2
    cases h2
    exact tr_spec_DrawForkPolynomial
  | 26, h1, h2 =>
    cases h1
    have h : φ 26 = some 59 := by kernel_rfl
    rw [h] at h2
    cases h2
    exact tr_impl_ForkPolynomial
  | 25, h1, h2 =>
    cases h1
    have h : φ 25 = some 60 := by kernel_rfl
    rw [h] at h2
    cases h2
    exact tr_spec_ForkPolynomial
  | 55, h1, h2 =>
    cases h1
    have h : φ 55 = some 61 := by kernel_rfl
    rw [h] at h2
    cases h2
    exact tr_laws_sum
  | 23, h1, h2 =>
    cases h1
    have h : φ 23 = some 62 := by kernel_rfl
    rw [h] at h2
    cases h2
    exact tr_impl_EulerOfPassport
  | 13, h1, h2 =>
    cases h1
    have h : φ 13 = some 63 := by kernel_rfl
    rw [h] at h2
    cases h2
    exact tr_impl_CountRooted
  | 97, h1, h2 =>
    cases h1
    have h : φ 97 = some 73 := by kernel_rfl
    rw [h] at h2
    cases h2
    exact tr_spec_l01From
  | 75, h1, h2 =>
    cases h1
    have h : φ 75 = some 87 := by kernel_rfl
    rw [h] at h2
    cases h2
    exact tr_impl_times
  | 74, h1, h2 =>
    cases h1
    have h : φ 74 = some 89 := by kernel_rfl
    rw [h] at h2
    cases h2
    exact tr_spec_l06Times
  | 57, h1, h2 =>
    cases h1
    have h : φ 57 = some 90 := by kernel_rfl
    rw [h] at h2
    cases h2
    exact tr_impl_isNumber
  | 56, h1, h2 =>
    cases h1
    have h : φ 56 = some 91 := by kernel_rfl
    rw [h] at h2
    cases h2
    exact tr_spec_l06Is
  | 73, h1, h2 =>
    cases h1
    have h : φ 73 = some 92 := by kernel_rfl
    rw [h] at h2
    cases h2
    exact tr_impl_addAll
  | 72, h1, h2 =>
    cases h1
    have h : φ 72 = some 93 := by kernel_rfl
    rw [h] at h2
    cases h2
    exact tr_spec_l06Add
  | 99, h1, h2 =>
    cases h1
    have h : φ 99 = some 94 := by kernel_rfl
    rw [h] at h2
    cases h2
    exact tr_spec_l06Draw
  | 98, h1, h2 =>
    cases h1
    have h : φ 98 = some 95 := by kernel_rfl
    rw [h] at h2
    cases h2
    exact tr_spec_l01Pick
  | 85, h1, h2 =>
    cases h1
    have h : φ 85 = some 96 := by kernel_rfl
    rw [h] at h2
    cases h2
    exact tr_spec_l06Compose
  | 100, h1, h2 =>
    cases h1
    have h : φ 100 = some 97 := by kernel_rfl
    rw [h] at h2
    cases h2
    exact tr_spec_l06Some
  | 63, h1, h2 =>
    cases h1
    have h : φ 63 = some 98 := by kernel_rfl
    rw [h] at h2
    cases h2
    exact tr_impl_derivative
  | 62, h1, h2 =>
    cases h1
    have h : φ 62 = some 99 := by kernel_rfl
    rw [h] at h2
    cases h2
    exact tr_spec_l06Slope
  | 87, h1, h2 =>
    cases h1
    have h : φ 87 = some 100 := by kernel_rfl
    rw [h] at h2
    cases h2
    exact tr_impl_common
  | 86, h1, h2 =>
    cases h1
    have h : φ 86 = some 101 := by kernel_rfl
    rw [h] at h2
    cases h2
    exact tr_spec_l06Common
  | 101, h1, h2 =>
    cases h1
    have h : φ 101 = some 102 := by kernel_rfl
    rw [h] at h2
    cases h2
    exact tr_spec_l06DrawValue
  | 58, h1, h2 =>
    cases h1
    have h : φ 58 = some 103 := by kernel_rfl
    rw [h] at h2
    cases h2
    exact tr_spec_l01In
  | 61, h1, h2 =>
    cases h1
    have h : φ 61 = some 104 := by kernel_rfl
    rw [h] at h2
    cases h2
    exact tr_spec_l06Value
  | 90, h1, h2 =>
    cases h1
    have h : φ 90 = some 105 := by kernel_rfl
    rw [h] at h2
    cases h2
    exact tr_impl_polynomialCode
  | 91, h1, h2 =>
    cases h1
    have h : φ 91 = some 106 := by kernel_rfl
    rw [h] at h2
    cases h2
    exact tr_impl_multiplicities
  | 88, h1, h2 =>
    cases h1
    have h : φ 88 = some 107 := by kernel_rfl
    rw [h] at h2
    cases h2
    exact tr_spec_l06Code
  | 89, h1, h2 =>
    cases h1
    have h : φ 89 = some 108 := by kernel_rfl
    rw [h] at h2
    cases h2
    exact tr_spec_l06Multiplicities
  | 102, h1, h2 =>
    cases h1
    have h : φ 102 = some 109 := by kernel_rfl
    rw [h] at h2
    cases h2
    exact tr_spec_l01Next
  | 94, h1, h2 =>
    cases h1
    have h : φ 94 = some 110 := by kernel_rfl
    rw [h] at h2
    cases h2
    exact tr_impl_shabatCode
  | 95, h1, h2 =>
    cases h1
    have h : φ 95 = some 111 := by kernel_rfl
    rw [h] at h2
    cases h2
    exact tr_impl_shabat
  | 92, h1, h2 =>
    cases h1
    have h : φ 92 = some 112 := by kernel_rfl
    rw [h] at h2
    cases h2
    exact tr_spec_l06Two
  | 93, h1, h2 =>
    cases h1
    have h : φ 93 = some 113 := by kernel_rfl
    rw [h] at h2
    cases h2
    exact tr_spec_l06Shabat
  | 60, h1, h2 =>
    cases h1
    have h : φ 60 = some 114 := by kernel_rfl
    rw [h] at h2
    cases h2
    exact tr_impl_isPower
  | 59, h1, h2 =>
    cases h1
    have h : φ 59 = some 115 := by kernel_rfl
    rw [h] at h2
    cases h2
    exact tr_spec_l06Monomial
  | 76, h1, h2 =>
    cases h1
    have h : φ 76 = some 116 := by kernel_rfl
    rw [h] at h2
    cases h2
    exact tr_spec_l06Chain
  | 83, h1, h2 =>
    cases h1
    have h : φ 83 = some 117 := by kernel_rfl
    rw [h] at h2
    cases h2
    exact tr_impl_power
  | 84, h1, h2 =>
    cases h1
    have h : φ 84 = some 118 := by kernel_rfl
    rw [h] at h2
    cases h2
    exact tr_impl_inverse
  | 82, h1, h2 =>
    cases h1
    have h : φ 82 = some 119 := by kernel_rfl
    rw [h] at h2
    cases h2
    exact tr_spec_l06Fork
  | 80, h1, h2 =>
    cases h1
    have h : φ 80 = some 120 := by kernel_rfl
    rw [h] at h2
    cases h2
    exact tr_impl_sumOfPassport
  | 81, h1, h2 =>
    cases h1
    have h : φ 81 = some 121 := by kernel_rfl
    rw [h] at h2
    cases h2
    exact tr_impl_eulerOf
  | 67, h1, h2 =>
    cases h1
    have h : φ 67 = some 122 := by kernel_rfl
    rw [h] at h2
    cases h2
    exact tr_impl_areTypes
  | 68, h1, h2 =>
    cases h1
    have h : φ 68 = some 123 := by kernel_rfl
    rw [h] at h2
    cases h2
    exact tr_impl_sumOfType
  | 69, h1, h2 =>
    cases h1
    have h : φ 69 = some 124 := by kernel_rfl
    rw [h] at h2
    cases h2
    exact tr_impl_factorial
  | 70, h1, h2 =>
    cases h1
    have h : φ 70 = some 125 := by kernel_rfl
    rw [h] at h2
    cases h2
    exact tr_impl_repeated
  | 105, h1, h2 =>
    cases h1
    have h : φ 105 = some 153 := by kernel_rfl
    rw [h] at h2
    cases h2
    exact tr_impl_cut
  | 103, h1, h2 =>
    cases h1
    have h : φ 103 = some 154 := by kernel_rfl
    rw [h] at h2
    cases h2
    exact tr_spec_l06Mod
  | 104, h1, h2 =>
    cases h1
    have h : φ 104 = some 155 := by kernel_rfl
    rw [h] at h2
    cases h2
    exact tr_spec_l06Trim
  | 110, h1, h2 =>
    cases h1
    have h : φ 110 = some 156 := by kernel_rfl
    rw [h] at h2
    cases h2
    exact tr_impl_divide
  | 108, h1, h2 =>
    cases h1
    have h : φ 108 = some 157 := by kernel_rfl
    rw [h] at h2
    cases h2
    exact tr_spec_l06Divide
  | 109, h1, h2 =>
    cases h1
    have h : φ 109 = some 158 := by kernel_rfl
    rw [h] at h2
    cases h2
    exact tr_spec_l06Monic
  | 107, h1, h2 =>
    cases h1
    have h : φ 107 = some 159 := by kernel_rfl
    rw [h] at h2
    cases h2
    exact tr_spec_l06Inverse
  | 111, h1, h2 =>
    cases h1
    have h : φ 111 = some 180 := by kernel_rfl
    rw [h] at h2
    cases h2
    exact tr_spec_l01Own
  | 112, h1, h2 =>
    cases h1
    have h : φ 112 = some 181 := by kernel_rfl
    rw [h] at h2
    cases h2
    exact tr_slices_Clone_int64_int64
end Go.Am
