/- The program's functions are those of the table: by the translation, checked by reckoning. -/
import Derived.Test.YtgmpjlbdommhaaaProg
import Derived.KernelRfl
import Derived.Test.YtgmpjlbdommhaaaAmTab
import Derived.Test.YtgmpjlbdommhaaaAmSound
set_option linter.unusedVariables false
set_option maxRecDepth 100000
namespace Go.Am
open Go
def μs : List (Nat × Nat) := [(3, 113), (4, 114), (5, 115), (6, 116), (7, 117), (8, 118), (9, 119), (10, 120), (11, 121), (12, 122), (13, 123), (14, 124), (15, 125), (16, 126), (17, 127), (18, 128), (19, 129), (20, 130), (21, 1), (22, 0), (23, 2), (24, 3), (25, 4), (26, 5), (27, 6), (28, 7), (29, 8), (30, 9), (31, 10), (32, 11), (33, 12), (34, 13), (35, 14), (36, 15), (37, 16), (38, 17), (39, 18), (40, 19), (41, 20), (42, 22), (43, 21), (44, 23), (45, 24), (46, 25), (47, 26), (48, 27), (49, 28), (50, 29), (51, 30), (52, 31), (53, 32), (54, 33), (55, 34), (56, 35), (57, 36), (58, 37), (59, 38), (60, 39), (61, 40), (62, 41), (63, 42), (64, 43), (65, 44), (66, 45), (67, 46), (68, 47), (69, 48), (70, 49), (71, 50), (72, 51), (73, 52), (74, 53), (75, 54), (76, 55), (77, 56), (78, 57), (79, 58), (80, 59), (81, 60), (82, 61), (83, 62), (84, 63), (85, 64), (86, 65), (87, 66), (88, 67), (89, 68), (90, 69), (91, 70), (92, 71), (93, 72), (94, 73), (95, 74), (96, 75), (97, 76), (98, 77), (99, 78), (100, 79), (101, 80), (102, 81), (103, 82), (104, 83), (105, 84), (106, 85), (107, 86), (108, 87), (109, 88), (110, 89), (111, 90), (112, 91), (113, 92), (114, 93), (115, 94), (116, 95), (117, 96), (118, 97), (119, 99), (120, 98), (121, 100), (122, 101), (123, 102), (124, 103), (125, 104), (126, 105), (127, 106), (128, 107), (129, 108), (130, 109), (131, 110), (132, 111), (133, 112)]
def μ : Fun := fun q => (μs.find? fun p => p.1 == q).map (·.2)
def φ : Fun := fun g => (μs.find? fun p => p.2 == g).map (·.1)
theorem tr_laws_FnExactIsPolynomial : trFunc Go.Proofs.Try.prog μ φ 3 = some A_laws_FnExactIsPolynomial := by kernel_rfl
theorem tr_laws_FnExactStarPolynomial : trFunc Go.Proofs.Try.prog μ φ 4 = some A_laws_FnExactStarPolynomial := by kernel_rfl
theorem tr_laws_FnExactValueOf : trFunc Go.Proofs.Try.prog μ φ 5 = some A_laws_FnExactValueOf := by kernel_rfl
theorem tr_laws_FnExactDerivativeOf : trFunc Go.Proofs.Try.prog μ φ 6 = some A_laws_FnExactDerivativeOf := by kernel_rfl
theorem tr_laws_FnExactCountRooted : trFunc Go.Proofs.Try.prog μ φ 7 = some A_laws_FnExactCountRooted := by kernel_rfl
theorem tr_laws_FnExactAddPolynomials : trFunc Go.Proofs.Try.prog μ φ 8 = some A_laws_FnExactAddPolynomials := by kernel_rfl
theorem tr_laws_FnExactMultiplyPolynomials : trFunc Go.Proofs.Try.prog μ φ 9 = some A_laws_FnExactMultiplyPolynomials := by kernel_rfl
theorem tr_laws_FnExactChainPolynomial : trFunc Go.Proofs.Try.prog μ φ 10 = some A_laws_FnExactChainPolynomial := by kernel_rfl
theorem tr_laws_FnExactEulerOfPassport : trFunc Go.Proofs.Try.prog μ φ 11 = some A_laws_FnExactEulerOfPassport := by kernel_rfl
theorem tr_laws_FnExactForkPolynomial : trFunc Go.Proofs.Try.prog μ φ 12 = some A_laws_FnExactForkPolynomial := by kernel_rfl
theorem tr_laws_FnExactComposePolynomials : trFunc Go.Proofs.Try.prog μ φ 13 = some A_laws_FnExactComposePolynomials := by kernel_rfl
theorem tr_laws_FnExactCommonDivisor : trFunc Go.Proofs.Try.prog μ φ 14 = some A_laws_FnExactCommonDivisor := by kernel_rfl
theorem tr_laws_FnExactIsCritical : trFunc Go.Proofs.Try.prog μ φ 15 = some A_laws_FnExactIsCritical := by kernel_rfl
theorem tr_laws_FnExactMultiplicitiesOf : trFunc Go.Proofs.Try.prog μ φ 16 = some A_laws_FnExactMultiplicitiesOf := by kernel_rfl
theorem tr_laws_FnExactIsShabat : trFunc Go.Proofs.Try.prog μ φ 17 = some A_laws_FnExactIsShabat := by kernel_rfl
theorem tr_laws_FnExactPassportOfShabat : trFunc Go.Proofs.Try.prog μ φ 18 = some A_laws_FnExactPassportOfShabat := by kernel_rfl
theorem tr_laws_FnFieldPolynomials : trFunc Go.Proofs.Try.prog μ φ 19 = some A_laws_FnFieldPolynomials := by kernel_rfl
theorem tr_laws_FnShabats : trFunc Go.Proofs.Try.prog μ φ 20 = some A_laws_FnShabats := by kernel_rfl
theorem tr_spec_IsPolynomial : trFunc Go.Proofs.Try.prog μ φ 21 = some A_spec_IsPolynomial := by kernel_rfl
theorem tr_laws_toInt64S : trFunc Go.Proofs.Try.prog μ φ 22 = some A_laws_toInt64S := by kernel_rfl
theorem tr_impl_IsPolynomial : trFunc Go.Proofs.Try.prog μ φ 23 = some A_impl_IsPolynomial := by kernel_rfl
theorem tr_laws_eqInt64S : trFunc Go.Proofs.Try.prog μ φ 24 = some A_laws_eqInt64S := by kernel_rfl
theorem tr_spec_StarPolynomial : trFunc Go.Proofs.Try.prog μ φ 25 = some A_spec_StarPolynomial := by kernel_rfl
theorem tr_impl_StarPolynomial : trFunc Go.Proofs.Try.prog μ φ 26 = some A_impl_StarPolynomial := by kernel_rfl
theorem tr_laws_markInt64S : trFunc Go.Proofs.Try.prog μ φ 27 = some A_laws_markInt64S := by kernel_rfl
theorem tr_laws_heldInt64S : trFunc Go.Proofs.Try.prog μ φ 28 = some A_laws_heldInt64S := by kernel_rfl
theorem tr_spec_ValueOf : trFunc Go.Proofs.Try.prog μ φ 29 = some A_spec_ValueOf := by kernel_rfl
theorem tr_impl_ValueOf : trFunc Go.Proofs.Try.prog μ φ 30 = some A_impl_ValueOf := by kernel_rfl
theorem tr_spec_DerivativeOf : trFunc Go.Proofs.Try.prog μ φ 31 = some A_spec_DerivativeOf := by kernel_rfl
theorem tr_impl_DerivativeOf : trFunc Go.Proofs.Try.prog μ φ 32 = some A_impl_DerivativeOf := by kernel_rfl
theorem tr_spec_CountRooted : trFunc Go.Proofs.Try.prog μ φ 33 = some A_spec_CountRooted := by kernel_rfl
theorem tr_impl_CountRooted : trFunc Go.Proofs.Try.prog μ φ 34 = some A_impl_CountRooted := by kernel_rfl
theorem tr_spec_AddPolynomials : trFunc Go.Proofs.Try.prog μ φ 35 = some A_spec_AddPolynomials := by kernel_rfl
theorem tr_impl_AddPolynomials : trFunc Go.Proofs.Try.prog μ φ 36 = some A_impl_AddPolynomials := by kernel_rfl
theorem tr_spec_MultiplyPolynomials : trFunc Go.Proofs.Try.prog μ φ 37 = some A_spec_MultiplyPolynomials := by kernel_rfl
theorem tr_impl_MultiplyPolynomials : trFunc Go.Proofs.Try.prog μ φ 38 = some A_impl_MultiplyPolynomials := by kernel_rfl
theorem tr_spec_ChainPolynomial : trFunc Go.Proofs.Try.prog μ φ 39 = some A_spec_ChainPolynomial := by kernel_rfl
theorem tr_impl_ChainPolynomial : trFunc Go.Proofs.Try.prog μ φ 40 = some A_impl_ChainPolynomial := by kernel_rfl
theorem tr_laws_szInt64SS : trFunc Go.Proofs.Try.prog μ φ 41 = some A_laws_szInt64SS := by kernel_rfl
theorem tr_spec_EulerOfPassport : trFunc Go.Proofs.Try.prog μ φ 42 = some A_spec_EulerOfPassport := by kernel_rfl
theorem tr_laws_toInt64SS : trFunc Go.Proofs.Try.prog μ φ 43 = some A_laws_toInt64SS := by kernel_rfl
theorem tr_impl_EulerOfPassport : trFunc Go.Proofs.Try.prog μ φ 44 = some A_impl_EulerOfPassport := by kernel_rfl
theorem tr_laws_eqInt64SS : trFunc Go.Proofs.Try.prog μ φ 45 = some A_laws_eqInt64SS := by kernel_rfl
theorem tr_spec_ForkPolynomial : trFunc Go.Proofs.Try.prog μ φ 46 = some A_spec_ForkPolynomial := by kernel_rfl
theorem tr_impl_ForkPolynomial : trFunc Go.Proofs.Try.prog μ φ 47 = some A_impl_ForkPolynomial := by kernel_rfl
theorem tr_spec_ComposePolynomials : trFunc Go.Proofs.Try.prog μ φ 48 = some A_spec_ComposePolynomials := by kernel_rfl
theorem tr_impl_ComposePolynomials : trFunc Go.Proofs.Try.prog μ φ 49 = some A_impl_ComposePolynomials := by kernel_rfl
theorem tr_spec_CommonDivisor : trFunc Go.Proofs.Try.prog μ φ 50 = some A_spec_CommonDivisor := by kernel_rfl
theorem tr_impl_CommonDivisor : trFunc Go.Proofs.Try.prog μ φ 51 = some A_impl_CommonDivisor := by kernel_rfl
theorem tr_spec_IsCritical : trFunc Go.Proofs.Try.prog μ φ 52 = some A_spec_IsCritical := by kernel_rfl
theorem tr_impl_IsCritical : trFunc Go.Proofs.Try.prog μ φ 53 = some A_impl_IsCritical := by kernel_rfl
theorem tr_spec_MultiplicitiesOf : trFunc Go.Proofs.Try.prog μ φ 54 = some A_spec_MultiplicitiesOf := by kernel_rfl
theorem tr_impl_MultiplicitiesOf : trFunc Go.Proofs.Try.prog μ φ 55 = some A_impl_MultiplicitiesOf := by kernel_rfl
theorem tr_spec_IsShabat : trFunc Go.Proofs.Try.prog μ φ 56 = some A_spec_IsShabat := by kernel_rfl
theorem tr_impl_IsShabat : trFunc Go.Proofs.Try.prog μ φ 57 = some A_impl_IsShabat := by kernel_rfl
theorem tr_spec_PassportOfShabat : trFunc Go.Proofs.Try.prog μ φ 58 = some A_spec_PassportOfShabat := by kernel_rfl
theorem tr_impl_PassportOfShabat : trFunc Go.Proofs.Try.prog μ φ 59 = some A_impl_PassportOfShabat := by kernel_rfl
theorem tr_laws_markInt64SS : trFunc Go.Proofs.Try.prog μ φ 60 = some A_laws_markInt64SS := by kernel_rfl
theorem tr_laws_heldInt64SS : trFunc Go.Proofs.Try.prog μ φ 61 = some A_laws_heldInt64SS := by kernel_rfl
theorem tr_laws_big : trFunc Go.Proofs.Try.prog μ φ 62 = some A_laws_big := by kernel_rfl
theorem tr_spec_DrawMultiplyPolynomials : trFunc Go.Proofs.Try.prog μ φ 63 = some A_spec_DrawMultiplyPolynomials := by kernel_rfl
theorem tr_laws_likeInts : trFunc Go.Proofs.Try.prog μ φ 64 = some A_laws_likeInts := by kernel_rfl
theorem tr_spec_DrawComposePolynomials : trFunc Go.Proofs.Try.prog μ φ 65 = some A_spec_DrawComposePolynomials := by kernel_rfl
theorem tr_spec_DrawDerivativeOf : trFunc Go.Proofs.Try.prog μ φ 66 = some A_spec_DrawDerivativeOf := by kernel_rfl
theorem tr_spec_DrawValueOf : trFunc Go.Proofs.Try.prog μ φ 67 = some A_spec_DrawValueOf := by kernel_rfl
theorem tr_laws_roll : trFunc Go.Proofs.Try.prog μ φ 68 = some A_laws_roll := by kernel_rfl
theorem tr_laws_dice_below : trFunc Go.Proofs.Try.prog μ φ 69 = some A_laws_dice_below := by kernel_rfl
theorem tr_spec_DrawMultiplicitiesOf : trFunc Go.Proofs.Try.prog μ φ 70 = some A_spec_DrawMultiplicitiesOf := by kernel_rfl
theorem tr_spec_DrawIsShabat : trFunc Go.Proofs.Try.prog μ φ 71 = some A_spec_DrawIsShabat := by kernel_rfl
theorem tr_laws_lists9 : trFunc Go.Proofs.Try.prog μ φ 72 = some A_laws_lists9 := by kernel_rfl
theorem tr_spec_DrawStarPolynomial : trFunc Go.Proofs.Try.prog μ φ 73 = some A_spec_DrawStarPolynomial := by kernel_rfl
theorem tr_spec_DrawChainPolynomial : trFunc Go.Proofs.Try.prog μ φ 74 = some A_spec_DrawChainPolynomial := by kernel_rfl
theorem tr_spec_DrawForkPolynomial : trFunc Go.Proofs.Try.prog μ φ 75 = some A_spec_DrawForkPolynomial := by kernel_rfl
theorem tr_laws_sum : trFunc Go.Proofs.Try.prog μ φ 76 = some A_laws_sum := by kernel_rfl
theorem tr_spec_l06Is : trFunc Go.Proofs.Try.prog μ φ 77 = some A_spec_l06Is := by kernel_rfl
theorem tr_impl_isNumber : trFunc Go.Proofs.Try.prog μ φ 78 = some A_impl_isNumber := by kernel_rfl
theorem tr_spec_l01In : trFunc Go.Proofs.Try.prog μ φ 79 = some A_spec_l01In := by kernel_rfl
theorem tr_spec_l06Monomial : trFunc Go.Proofs.Try.prog μ φ 80 = some A_spec_l06Monomial := by kernel_rfl
theorem tr_impl_isPower : trFunc Go.Proofs.Try.prog μ φ 81 = some A_impl_isPower := by kernel_rfl
theorem tr_spec_l06Value : trFunc Go.Proofs.Try.prog μ φ 82 = some A_spec_l06Value := by kernel_rfl
theorem tr_spec_l06Slope : trFunc Go.Proofs.Try.prog μ φ 83 = some A_spec_l06Slope := by kernel_rfl
theorem tr_impl_derivative : trFunc Go.Proofs.Try.prog μ φ 84 = some A_impl_derivative := by kernel_rfl
theorem tr_spec_l05Types : trFunc Go.Proofs.Try.prog μ φ 85 = some A_spec_l05Types := by kernel_rfl
theorem tr_spec_l05Factorial : trFunc Go.Proofs.Try.prog μ φ 86 = some A_spec_l05Factorial := by kernel_rfl
theorem tr_spec_l05Equal : trFunc Go.Proofs.Try.prog μ φ 87 = some A_spec_l05Equal := by kernel_rfl
theorem tr_impl_areTypes : trFunc Go.Proofs.Try.prog μ φ 88 = some A_impl_areTypes := by kernel_rfl
theorem tr_impl_sumOfType : trFunc Go.Proofs.Try.prog μ φ 89 = some A_impl_sumOfType := by kernel_rfl
theorem tr_impl_factorial : trFunc Go.Proofs.Try.prog μ φ 90 = some A_impl_factorial := by kernel_rfl
theorem tr_impl_repeated : trFunc Go.Proofs.Try.prog μ φ 91 = some A_impl_repeated := by kernel_rfl
theorem tr_spec_l06Both : trFunc Go.Proofs.Try.prog μ φ 92 = some A_spec_l06Both := by kernel_rfl
theorem tr_spec_l06Add : trFunc Go.Proofs.Try.prog μ φ 93 = some A_spec_l06Add := by kernel_rfl
theorem tr_impl_addAll : trFunc Go.Proofs.Try.prog μ φ 94 = some A_impl_addAll := by kernel_rfl
theorem tr_spec_l06Times : trFunc Go.Proofs.Try.prog μ φ 95 = some A_spec_l06Times := by kernel_rfl
theorem tr_impl_times : trFunc Go.Proofs.Try.prog μ φ 96 = some A_impl_times := by kernel_rfl
theorem tr_spec_l06Chain : trFunc Go.Proofs.Try.prog μ φ 97 = some A_spec_l06Chain := by kernel_rfl
theorem tr_laws_szInt64S : trFunc Go.Proofs.Try.prog μ φ 98 = some A_laws_szInt64S := by kernel_rfl
theorem tr_spec_l04Is : trFunc Go.Proofs.Try.prog μ φ 99 = some A_spec_l04Is := by kernel_rfl
theorem tr_spec_l04Sum : trFunc Go.Proofs.Try.prog μ φ 100 = some A_spec_l04Sum := by kernel_rfl
theorem tr_impl_sumOfPassport : trFunc Go.Proofs.Try.prog μ φ 101 = some A_impl_sumOfPassport := by kernel_rfl
theorem tr_impl_eulerOf : trFunc Go.Proofs.Try.prog μ φ 102 = some A_impl_eulerOf := by kernel_rfl
theorem tr_spec_l06Fork : trFunc Go.Proofs.Try.prog μ φ 103 = some A_spec_l06Fork := by kernel_rfl
theorem tr_impl_power : trFunc Go.Proofs.Try.prog μ φ 104 = some A_impl_power := by kernel_rfl
theorem tr_impl_inverse : trFunc Go.Proofs.Try.prog μ φ 105 = some A_impl_inverse := by kernel_rfl
theorem tr_spec_l06Compose : trFunc Go.Proofs.Try.prog μ φ 106 = some A_spec_l06Compose := by kernel_rfl
theorem tr_spec_l06Common : trFunc Go.Proofs.Try.prog μ φ 107 = some A_spec_l06Common := by kernel_rfl
theorem tr_impl_common : trFunc Go.Proofs.Try.prog μ φ 108 = some A_impl_common := by kernel_rfl
theorem tr_spec_l06Code : trFunc Go.Proofs.Try.prog μ φ 109 = some A_spec_l06Code := by kernel_rfl
theorem tr_spec_l06Multiplicities : trFunc Go.Proofs.Try.prog μ φ 110 = some A_spec_l06Multiplicities := by kernel_rfl
theorem tr_impl_polynomialCode : trFunc Go.Proofs.Try.prog μ φ 111 = some A_impl_polynomialCode := by kernel_rfl
theorem tr_impl_multiplicities : trFunc Go.Proofs.Try.prog μ φ 112 = some A_impl_multiplicities := by kernel_rfl
theorem tr_spec_l06Two : trFunc Go.Proofs.Try.prog μ φ 113 = some A_spec_l06Two := by kernel_rfl
theorem tr_spec_l06Shabat : trFunc Go.Proofs.Try.prog μ φ 114 = some A_spec_l06Shabat := by kernel_rfl
theorem tr_impl_shabatCode : trFunc Go.Proofs.Try.prog μ φ 115 = some A_impl_shabatCode := by kernel_rfl
theorem tr_impl_shabat : trFunc Go.Proofs.Try.prog μ φ 116 = some A_impl_shabat := by kernel_rfl
theorem tr_spec_l06Pair : trFunc Go.Proofs.Try.prog μ φ 117 = some A_spec_l06Pair := by kernel_rfl
theorem tr_spec_l01From : trFunc Go.Proofs.Try.prog μ φ 118 = some A_spec_l01From := by kernel_rfl
theorem tr_spec_l06Draw : trFunc Go.Proofs.Try.prog μ φ 119 = some A_spec_l06Draw := by kernel_rfl
theorem tr_spec_l01Pick : trFunc Go.Proofs.Try.prog μ φ 120 = some A_spec_l01Pick := by kernel_rfl
theorem tr_spec_l06Some : trFunc Go.Proofs.Try.prog μ φ 121 = some A_spec_l06Some := by kernel_rfl
theorem tr_spec_l06DrawValue : trFunc Go.Proofs.Try.prog μ φ 122 = some A_spec_l06DrawValue := by kernel_rfl
theorem tr_spec_l01Next : trFunc Go.Proofs.Try.prog μ φ 123 = some A_spec_l01Next := by kernel_rfl
theorem tr_spec_l06Mod : trFunc Go.Proofs.Try.prog μ φ 124 = some A_spec_l06Mod := by kernel_rfl
theorem tr_spec_l06Trim : trFunc Go.Proofs.Try.prog μ φ 125 = some A_spec_l06Trim := by kernel_rfl
theorem tr_impl_cut : trFunc Go.Proofs.Try.prog μ φ 126 = some A_impl_cut := by kernel_rfl
theorem tr_spec_l04Type : trFunc Go.Proofs.Try.prog μ φ 127 = some A_spec_l04Type := by kernel_rfl
theorem tr_spec_l06Inverse : trFunc Go.Proofs.Try.prog μ φ 128 = some A_spec_l06Inverse := by kernel_rfl
theorem tr_spec_l06Divide : trFunc Go.Proofs.Try.prog μ φ 129 = some A_spec_l06Divide := by kernel_rfl
theorem tr_spec_l06Monic : trFunc Go.Proofs.Try.prog μ φ 130 = some A_spec_l06Monic := by kernel_rfl
theorem tr_impl_divide : trFunc Go.Proofs.Try.prog μ φ 131 = some A_impl_divide := by kernel_rfl
theorem tr_spec_l01Own : trFunc Go.Proofs.Try.prog μ φ 132 = some A_spec_l01Own := by kernel_rfl
theorem tr_slices_Clone_int64_int64 : trFunc Go.Proofs.Try.prog μ φ 133 = some A_slices_Clone_int64_int64 := by kernel_rfl
theorem hΓ : ∀ g fn q, Γ g = some fn → φ g = some q → trFunc Go.Proofs.Try.prog μ φ q = some fn := by
  intro g fn q h1 h2
  match g, h1, h2 with
  | 113, h1, h2 =>
    cases h1
    have h : φ 113 = some 3 := by kernel_rfl
    rw [h] at h2
    cases h2
    exact tr_laws_FnExactIsPolynomial
  | 114, h1, h2 =>
    cases h1
    have h : φ 114 = some 4 := by kernel_rfl
    rw [h] at h2
    cases h2
    exact tr_laws_FnExactStarPolynomial
  | 115, h1, h2 =>
    cases h1
    have h : φ 115 = some 5 := by kernel_rfl
    rw [h] at h2
    cases h2
    exact tr_laws_FnExactValueOf
  | 116, h1, h2 =>
    cases h1
    have h : φ 116 = some 6 := by kernel_rfl
    rw [h] at h2
    cases h2
    exact tr_laws_FnExactDerivativeOf
  | 117, h1, h2 =>
    cases h1
    have h : φ 117 = some 7 := by kernel_rfl
    rw [h] at h2
    cases h2
    exact tr_laws_FnExactCountRooted
  | 118, h1, h2 =>
    cases h1
    have h : φ 118 = some 8 := by kernel_rfl
    rw [h] at h2
    cases h2
    exact tr_laws_FnExactAddPolynomials
  | 119, h1, h2 =>
    cases h1
    have h : φ 119 = some 9 := by kernel_rfl
    rw [h] at h2
    cases h2
    exact tr_laws_FnExactMultiplyPolynomials
  | 120, h1, h2 =>
    cases h1
    have h : φ 120 = some 10 := by kernel_rfl
    rw [h] at h2
    cases h2
    exact tr_laws_FnExactChainPolynomial
  | 121, h1, h2 =>
    cases h1
    have h : φ 121 = some 11 := by kernel_rfl
    rw [h] at h2
    cases h2
    exact tr_laws_FnExactEulerOfPassport
  | 122, h1, h2 =>
    cases h1
    have h : φ 122 = some 12 := by kernel_rfl
    rw [h] at h2
    cases h2
    exact tr_laws_FnExactForkPolynomial
  | 123, h1, h2 =>
    cases h1
    have h : φ 123 = some 13 := by kernel_rfl
    rw [h] at h2
    cases h2
    exact tr_laws_FnExactComposePolynomials
  | 124, h1, h2 =>
    cases h1
    have h : φ 124 = some 14 := by kernel_rfl
    rw [h] at h2
    cases h2
    exact tr_laws_FnExactCommonDivisor
  | 125, h1, h2 =>
    cases h1
    have h : φ 125 = some 15 := by kernel_rfl
    rw [h] at h2
    cases h2
    exact tr_laws_FnExactIsCritical
  | 126, h1, h2 =>
    cases h1
    have h : φ 126 = some 16 := by kernel_rfl
    rw [h] at h2
    cases h2
    exact tr_laws_FnExactMultiplicitiesOf
  | 127, h1, h2 =>
    cases h1
    have h : φ 127 = some 17 := by kernel_rfl
    rw [h] at h2
    cases h2
    exact tr_laws_FnExactIsShabat
  | 128, h1, h2 =>
    cases h1
    have h : φ 128 = some 18 := by kernel_rfl
    rw [h] at h2
    cases h2
    exact tr_laws_FnExactPassportOfShabat
  | 129, h1, h2 =>
    cases h1
    have h : φ 129 = some 19 := by kernel_rfl
    rw [h] at h2
    cases h2
    exact tr_laws_FnFieldPolynomials
  | 130, h1, h2 =>
    cases h1
    have h : φ 130 = some 20 := by kernel_rfl
    rw [h] at h2
    cases h2
    exact tr_laws_FnShabats
  | 1, h1, h2 =>
    cases h1
    have h : φ 1 = some 21 := by kernel_rfl
    rw [h] at h2
    cases h2
    exact tr_spec_IsPolynomial
  | 0, h1, h2 =>
    cases h1
    have h : φ 0 = some 22 := by kernel_rfl
    rw [h] at h2
    cases h2
    exact tr_laws_toInt64S
  | 2, h1, h2 =>
    cases h1
    have h : φ 2 = some 23 := by kernel_rfl
    rw [h] at h2
    cases h2
    exact tr_impl_IsPolynomial
  | 3, h1, h2 =>
    cases h1
    have h : φ 3 = some 24 := by kernel_rfl
    rw [h] at h2
    cases h2
    exact tr_laws_eqInt64S
  | 4, h1, h2 =>
    cases h1
    have h : φ 4 = some 25 := by kernel_rfl
    rw [h] at h2
    cases h2
    exact tr_spec_StarPolynomial
  | 5, h1, h2 =>
    cases h1
    have h : φ 5 = some 26 := by kernel_rfl
    rw [h] at h2
    cases h2
    exact tr_impl_StarPolynomial
  | 6, h1, h2 =>
    cases h1
    have h : φ 6 = some 27 := by kernel_rfl
    rw [h] at h2
    cases h2
    exact tr_laws_markInt64S
  | 7, h1, h2 =>
    cases h1
    have h : φ 7 = some 28 := by kernel_rfl
    rw [h] at h2
    cases h2
    exact tr_laws_heldInt64S
  | 8, h1, h2 =>
    cases h1
    have h : φ 8 = some 29 := by kernel_rfl
    rw [h] at h2
    cases h2
    exact tr_spec_ValueOf
  | 9, h1, h2 =>
    cases h1
    have h : φ 9 = some 30 := by kernel_rfl
    rw [h] at h2
    cases h2
    exact tr_impl_ValueOf
  | 10, h1, h2 =>
    cases h1
    have h : φ 10 = some 31 := by kernel_rfl
    rw [h] at h2
    cases h2
    exact tr_spec_DerivativeOf
  | 11, h1, h2 =>
    cases h1
    have h : φ 11 = some 32 := by kernel_rfl
    rw [h] at h2
    cases h2
    exact tr_impl_DerivativeOf
  | 12, h1, h2 =>
    cases h1
    have h : φ 12 = some 33 := by kernel_rfl
    rw [h] at h2
    cases h2
    exact tr_spec_CountRooted
  | 13, h1, h2 =>
    cases h1
    have h : φ 13 = some 34 := by kernel_rfl
    rw [h] at h2
    cases h2
    exact tr_impl_CountRooted
  | 14, h1, h2 =>
    cases h1
    have h : φ 14 = some 35 := by kernel_rfl
    rw [h] at h2
    cases h2
    exact tr_spec_AddPolynomials
  | 15, h1, h2 =>
    cases h1
    have h : φ 15 = some 36 := by kernel_rfl
    rw [h] at h2
    cases h2
    exact tr_impl_AddPolynomials
  | 16, h1, h2 =>
    cases h1
    have h : φ 16 = some 37 := by kernel_rfl
    rw [h] at h2
    cases h2
    exact tr_spec_MultiplyPolynomials
  | 17, h1, h2 =>
    cases h1
    have h : φ 17 = some 38 := by kernel_rfl
    rw [h] at h2
    cases h2
    exact tr_impl_MultiplyPolynomials
  | 18, h1, h2 =>
    cases h1
    have h : φ 18 = some 39 := by kernel_rfl
    rw [h] at h2
    cases h2
    exact tr_spec_ChainPolynomial
  | 19, h1, h2 =>
    cases h1
    have h : φ 19 = some 40 := by kernel_rfl
    rw [h] at h2
    cases h2
    exact tr_impl_ChainPolynomial
  | 20, h1, h2 =>
    cases h1
    have h : φ 20 = some 41 := by kernel_rfl
    rw [h] at h2
    cases h2
    exact tr_laws_szInt64SS
  | 22, h1, h2 =>
    cases h1
    have h : φ 22 = some 42 := by kernel_rfl
    rw [h] at h2
    cases h2
    exact tr_spec_EulerOfPassport
  | 21, h1, h2 =>
    cases h1
    have h : φ 21 = some 43 := by kernel_rfl
    rw [h] at h2
    cases h2
    exact tr_laws_toInt64SS
  | 23, h1, h2 =>
    cases h1
    have h : φ 23 = some 44 := by kernel_rfl
    rw [h] at h2
    cases h2
    exact tr_impl_EulerOfPassport
  | 24, h1, h2 =>
    cases h1
    have h : φ 24 = some 45 := by kernel_rfl
    rw [h] at h2
    cases h2
    exact tr_laws_eqInt64SS
  | 25, h1, h2 =>
    cases h1
    have h : φ 25 = some 46 := by kernel_rfl
    rw [h] at h2
    cases h2
    exact tr_spec_ForkPolynomial
  | 26, h1, h2 =>
    cases h1
    have h : φ 26 = some 47 := by kernel_rfl
    rw [h] at h2
    cases h2
    exact tr_impl_ForkPolynomial
  | 27, h1, h2 =>
    cases h1
    have h : φ 27 = some 48 := by kernel_rfl
    rw [h] at h2
    cases h2
    exact tr_spec_ComposePolynomials
  | 28, h1, h2 =>
    cases h1
    have h : φ 28 = some 49 := by kernel_rfl
    rw [h] at h2
    cases h2
    exact tr_impl_ComposePolynomials
  | 29, h1, h2 =>
    cases h1
    have h : φ 29 = some 50 := by kernel_rfl
    rw [h] at h2
    cases h2
    exact tr_spec_CommonDivisor
  | 30, h1, h2 =>
    cases h1
    have h : φ 30 = some 51 := by kernel_rfl
    rw [h] at h2
    cases h2
    exact tr_impl_CommonDivisor
  | 31, h1, h2 =>
    cases h1
    have h : φ 31 = some 52 := by kernel_rfl
    rw [h] at h2
    cases h2
    exact tr_spec_IsCritical
  | 32, h1, h2 =>
    cases h1
    have h : φ 32 = some 53 := by kernel_rfl
    rw [h] at h2
    cases h2
    exact tr_impl_IsCritical
  | 33, h1, h2 =>
    cases h1
    have h : φ 33 = some 54 := by kernel_rfl
    rw [h] at h2
    cases h2
    exact tr_spec_MultiplicitiesOf
  | 34, h1, h2 =>
    cases h1
    have h : φ 34 = some 55 := by kernel_rfl
    rw [h] at h2
    cases h2
    exact tr_impl_MultiplicitiesOf
  | 35, h1, h2 =>
    cases h1
    have h : φ 35 = some 56 := by kernel_rfl
    rw [h] at h2
    cases h2
    exact tr_spec_IsShabat
  | 36, h1, h2 =>
    cases h1
    have h : φ 36 = some 57 := by kernel_rfl
    rw [h] at h2
    cases h2
    exact tr_impl_IsShabat
  | 37, h1, h2 =>
    cases h1
    have h : φ 37 = some 58 := by kernel_rfl
    rw [h] at h2
    cases h2
    exact tr_spec_PassportOfShabat
  | 38, h1, h2 =>
    cases h1
    have h : φ 38 = some 59 := by kernel_rfl
    rw [h] at h2
    cases h2
    exact tr_impl_PassportOfShabat
  | 39, h1, h2 =>
    cases h1
    have h : φ 39 = some 60 := by kernel_rfl
    rw [h] at h2
    cases h2
    exact tr_laws_markInt64SS
  | 40, h1, h2 =>
    cases h1
    have h : φ 40 = some 61 := by kernel_rfl
    rw [h] at h2
    cases h2
    exact tr_laws_heldInt64SS
  | 41, h1, h2 =>
    cases h1
    have h : φ 41 = some 62 := by kernel_rfl
    rw [h] at h2
    cases h2
    exact tr_laws_big
  | 42, h1, h2 =>
    cases h1
    have h : φ 42 = some 63 := by kernel_rfl
    rw [h] at h2
    cases h2
    exact tr_spec_DrawMultiplyPolynomials
  | 43, h1, h2 =>
    cases h1
    have h : φ 43 = some 64 := by kernel_rfl
    rw [h] at h2
    cases h2
    exact tr_laws_likeInts
  | 44, h1, h2 =>
    cases h1
    have h : φ 44 = some 65 := by kernel_rfl
    rw [h] at h2
    cases h2
    exact tr_spec_DrawComposePolynomials
  | 45, h1, h2 =>
    cases h1
    have h : φ 45 = some 66 := by kernel_rfl
    rw [h] at h2
    cases h2
    exact tr_spec_DrawDerivativeOf
  | 46, h1, h2 =>
    cases h1
    have h : φ 46 = some 67 := by kernel_rfl
    rw [h] at h2
    cases h2
    exact tr_spec_DrawValueOf
  | 47, h1, h2 =>
    cases h1
    have h : φ 47 = some 68 := by kernel_rfl
    rw [h] at h2
    cases h2
    exact tr_laws_roll
  | 48, h1, h2 =>
    cases h1
    have h : φ 48 = some 69 := by kernel_rfl
    rw [h] at h2
    cases h2
    exact tr_laws_dice_below
  | 49, h1, h2 =>
    cases h1
    have h : φ 49 = some 70 := by kernel_rfl
    rw [h] at h2
    cases h2
    exact tr_spec_DrawMultiplicitiesOf
  | 50, h1, h2 =>
    cases h1
    have h : φ 50 = some 71 := by kernel_rfl
    rw [h] at h2
    cases h2
    exact tr_spec_DrawIsShabat
  | 51, h1, h2 =>
    cases h1
    have h : φ 51 = some 72 := by kernel_rfl
    rw [h] at h2
    cases h2
    exact tr_laws_lists9
  | 52, h1, h2 =>
    cases h1
    have h : φ 52 = some 73 := by kernel_rfl
    rw [h] at h2
    cases h2
    exact tr_spec_DrawStarPolynomial
  | 53, h1, h2 =>
    cases h1
    have h : φ 53 = some 74 := by kernel_rfl
    rw [h] at h2
    cases h2
    exact tr_spec_DrawChainPolynomial
  | 54, h1, h2 =>
    cases h1
    have h : φ 54 = some 75 := by kernel_rfl
    rw [h] at h2
    cases h2
    exact tr_spec_DrawForkPolynomial
  | 55, h1, h2 =>
    cases h1
    have h : φ 55 = some 76 := by kernel_rfl
    rw [h] at h2
    cases h2
    exact tr_laws_sum
  | 56, h1, h2 =>
    cases h1
    have h : φ 56 = some 77 := by kernel_rfl
    rw [h] at h2
    cases h2
    exact tr_spec_l06Is
  | 57, h1, h2 =>
    cases h1
    have h : φ 57 = some 78 := by kernel_rfl
    rw [h] at h2
    cases h2
    exact tr_impl_isNumber
  | 58, h1, h2 =>
    cases h1
    have h : φ 58 = some 79 := by kernel_rfl
    rw [h] at h2
    cases h2
    exact tr_spec_l01In
  | 59, h1, h2 =>
    cases h1
    have h : φ 59 = some 80 := by kernel_rfl
    rw [h] at h2
    cases h2
    exact tr_spec_l06Monomial
  | 60, h1, h2 =>
    cases h1
    have h : φ 60 = some 81 := by kernel_rfl
    rw [h] at h2
    cases h2
    exact tr_impl_isPower
  | 61, h1, h2 =>
    cases h1
    have h : φ 61 = some 82 := by kernel_rfl
    rw [h] at h2
    cases h2
    exact tr_spec_l06Value
  | 62, h1, h2 =>
    cases h1
    have h : φ 62 = some 83 := by kernel_rfl
    rw [h] at h2
    cases h2
    exact tr_spec_l06Slope
  | 63, h1, h2 =>
    cases h1
    have h : φ 63 = some 84 := by kernel_rfl
    rw [h] at h2
    cases h2
    exact tr_impl_derivative
  | 64, h1, h2 =>
    cases h1
    have h : φ 64 = some 85 := by kernel_rfl
    rw [h] at h2
    cases h2
    exact tr_spec_l05Types
  | 65, h1, h2 =>
    cases h1
    have h : φ 65 = some 86 := by kernel_rfl
    rw [h] at h2
    cases h2
    exact tr_spec_l05Factorial
  | 66, h1, h2 =>
    cases h1
    have h : φ 66 = some 87 := by kernel_rfl
    rw [h] at h2
    cases h2
    exact tr_spec_l05Equal
  | 67, h1, h2 =>
    cases h1
    have h : φ 67 = some 88 := by kernel_rfl
    rw [h] at h2
    cases h2
    exact tr_impl_areTypes
  | 68, h1, h2 =>
    cases h1
    have h : φ 68 = some 89 := by kernel_rfl
    rw [h] at h2
    cases h2
    exact tr_impl_sumOfType
  | 69, h1, h2 =>
    cases h1
    have h : φ 69 = some 90 := by kernel_rfl
    rw [h] at h2
    cases h2
    exact tr_impl_factorial
  | 70, h1, h2 =>
    cases h1
    have h : φ 70 = some 91 := by kernel_rfl
    rw [h] at h2
    cases h2
    exact tr_impl_repeated
  | 71, h1, h2 =>
    cases h1
    have h : φ 71 = some 92 := by kernel_rfl
    rw [h] at h2
    cases h2
    exact tr_spec_l06Both
  | 72, h1, h2 =>
    cases h1
    have h : φ 72 = some 93 := by kernel_rfl
    rw [h] at h2
    cases h2
    exact tr_spec_l06Add
  | 73, h1, h2 =>
    cases h1
    have h : φ 73 = some 94 := by kernel_rfl
    rw [h] at h2
    cases h2
    exact tr_impl_addAll
  | 74, h1, h2 =>
    cases h1
    have h : φ 74 = some 95 := by kernel_rfl
    rw [h] at h2
    cases h2
    exact tr_spec_l06Times
  | 75, h1, h2 =>
    cases h1
    have h : φ 75 = some 96 := by kernel_rfl
    rw [h] at h2
    cases h2
    exact tr_impl_times
  | 76, h1, h2 =>
    cases h1
    have h : φ 76 = some 97 := by kernel_rfl
    rw [h] at h2
    cases h2
    exact tr_spec_l06Chain
  | 77, h1, h2 =>
    cases h1
    have h : φ 77 = some 98 := by kernel_rfl
    rw [h] at h2
    cases h2
    exact tr_laws_szInt64S
  | 78, h1, h2 =>
    cases h1
    have h : φ 78 = some 99 := by kernel_rfl
    rw [h] at h2
    cases h2
    exact tr_spec_l04Is
  | 79, h1, h2 =>
    cases h1
    have h : φ 79 = some 100 := by kernel_rfl
    rw [h] at h2
    cases h2
    exact tr_spec_l04Sum
  | 80, h1, h2 =>
    cases h1
    have h : φ 80 = some 101 := by kernel_rfl
    rw [h] at h2
    cases h2
    exact tr_impl_sumOfPassport
  | 81, h1, h2 =>
    cases h1
    have h : φ 81 = some 102 := by kernel_rfl
    rw [h] at h2
    cases h2
    exact tr_impl_eulerOf
  | 82, h1, h2 =>
    cases h1
    have h : φ 82 = some 103 := by kernel_rfl
    rw [h] at h2
    cases h2
    exact tr_spec_l06Fork
  | 83, h1, h2 =>
    cases h1
    have h : φ 83 = some 104 := by kernel_rfl
    rw [h] at h2
    cases h2
    exact tr_impl_power
  | 84, h1, h2 =>
    cases h1
    have h : φ 84 = some 105 := by kernel_rfl
    rw [h] at h2
    cases h2
    exact tr_impl_inverse
  | 85, h1, h2 =>
    cases h1
    have h : φ 85 = some 106 := by kernel_rfl
    rw [h] at h2
    cases h2
    exact tr_spec_l06Compose
  | 86, h1, h2 =>
    cases h1
    have h : φ 86 = some 107 := by kernel_rfl
    rw [h] at h2
    cases h2
    exact tr_spec_l06Common
  | 87, h1, h2 =>
    cases h1
    have h : φ 87 = some 108 := by kernel_rfl
    rw [h] at h2
    cases h2
    exact tr_impl_common
  | 88, h1, h2 =>
    cases h1
    have h : φ 88 = some 109 := by kernel_rfl
    rw [h] at h2
    cases h2
    exact tr_spec_l06Code
  | 89, h1, h2 =>
    cases h1
    have h : φ 89 = some 110 := by kernel_rfl
    rw [h] at h2
    cases h2
    exact tr_spec_l06Multiplicities
  | 90, h1, h2 =>
    cases h1
    have h : φ 90 = some 111 := by kernel_rfl
    rw [h] at h2
    cases h2
    exact tr_impl_polynomialCode
  | 91, h1, h2 =>
    cases h1
    have h : φ 91 = some 112 := by kernel_rfl
    rw [h] at h2
    cases h2
    exact tr_impl_multiplicities
  | 92, h1, h2 =>
    cases h1
    have h : φ 92 = some 113 := by kernel_rfl
    rw [h] at h2
    cases h2
    exact tr_spec_l06Two
  | 93, h1, h2 =>
    cases h1
    have h : φ 93 = some 114 := by kernel_rfl
    rw [h] at h2
    cases h2
    exact tr_spec_l06Shabat
  | 94, h1, h2 =>
    cases h1
    have h : φ 94 = some 115 := by kernel_rfl
    rw [h] at h2
    cases h2
    exact tr_impl_shabatCode
  | 95, h1, h2 =>
    cases h1
    have h : φ 95 = some 116 := by kernel_rfl
    rw [h] at h2
    cases h2
    exact tr_impl_shabat
  | 96, h1, h2 =>
    cases h1
    have h : φ 96 = some 117 := by kernel_rfl
    rw [h] at h2
    cases h2
    exact tr_spec_l06Pair
  | 97, h1, h2 =>
    cases h1
    have h : φ 97 = some 118 := by kernel_rfl
    rw [h] at h2
    cases h2
    exact tr_spec_l01From
  | 99, h1, h2 =>
    cases h1
    have h : φ 99 = some 119 := by kernel_rfl
    rw [h] at h2
    cases h2
    exact tr_spec_l06Draw
  | 98, h1, h2 =>
    cases h1
    have h : φ 98 = some 120 := by kernel_rfl
    rw [h] at h2
    cases h2
    exact tr_spec_l01Pick
  | 100, h1, h2 =>
    cases h1
    have h : φ 100 = some 121 := by kernel_rfl
    rw [h] at h2
    cases h2
    exact tr_spec_l06Some
  | 101, h1, h2 =>
    cases h1
    have h : φ 101 = some 122 := by kernel_rfl
    rw [h] at h2
    cases h2
    exact tr_spec_l06DrawValue
  | 102, h1, h2 =>
    cases h1
    have h : φ 102 = some 123 := by kernel_rfl
    rw [h] at h2
    cases h2
    exact tr_spec_l01Next
  | 103, h1, h2 =>
    cases h1
    have h : φ 103 = some 124 := by kernel_rfl
    rw [h] at h2
    cases h2
    exact tr_spec_l06Mod
  | 104, h1, h2 =>
    cases h1
    have h : φ 104 = some 125 := by kernel_rfl
    rw [h] at h2
    cases h2
    exact tr_spec_l06Trim
  | 105, h1, h2 =>
    cases h1
    have h : φ 105 = some 126 := by kernel_rfl
    rw [h] at h2
    cases h2
    exact tr_impl_cut
  | 106, h1, h2 =>
    cases h1
    have h : φ 106 = some 127 := by kernel_rfl
    rw [h] at h2
    cases h2
    exact tr_spec_l04Type
  | 107, h1, h2 =>
    cases h1
    have h : φ 107 = some 128 := by kernel_rfl
    rw [h] at h2
    cases h2
    exact tr_spec_l06Inverse
  | 108, h1, h2 =>
    cases h1
    have h : φ 108 = some 129 := by kernel_rfl
    rw [h] at h2
    cases h2
    exact tr_spec_l06Divide
  | 109, h1, h2 =>
    cases h1
    have h : φ 109 = some 130 := by kernel_rfl
    rw [h] at h2
    cases h2
    exact tr_spec_l06Monic
  | 110, h1, h2 =>
    cases h1
    have h : φ 110 = some 131 := by kernel_rfl
    rw [h] at h2
    cases h2
    exact tr_impl_divide
  | 111, h1, h2 =>
    cases h1
    have h : φ 111 = some 132 := by kernel_rfl
    rw [h] at h2
    cases h2
    exact tr_spec_l01Own
  | 112, h1, h2 =>
    cases h1
    have h : φ 112 = some 133 := by kernel_rfl
    rw [h] at h2
    cases h2
    exact tr_slices_Clone_int64_int64
end Go.Am
