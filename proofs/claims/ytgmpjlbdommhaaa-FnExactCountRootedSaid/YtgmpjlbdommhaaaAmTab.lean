/- The table of functions. -/
import Derived.Test.YtgmpjlbdommhaaaAmCode1
set_option linter.unusedVariables false
namespace Go.Am
open Go
def F_laws_FnExactIsPolynomial : Nat := 113
def F_laws_FnExactStarPolynomial : Nat := 114
def F_laws_FnExactValueOf : Nat := 115
def F_laws_FnExactDerivativeOf : Nat := 116
def F_laws_FnExactCountRooted : Nat := 117
def F_laws_FnExactAddPolynomials : Nat := 118
def F_laws_FnExactMultiplyPolynomials : Nat := 119
def F_laws_FnExactChainPolynomial : Nat := 120
def F_laws_FnExactEulerOfPassport : Nat := 121
def F_laws_FnExactForkPolynomial : Nat := 122
def F_laws_FnExactComposePolynomials : Nat := 123
def F_laws_FnExactCommonDivisor : Nat := 124
def F_laws_FnExactIsCritical : Nat := 125
def F_laws_FnExactMultiplicitiesOf : Nat := 126
def F_laws_FnExactIsShabat : Nat := 127
def F_laws_FnExactPassportOfShabat : Nat := 128
def F_laws_FnFieldPolynomials : Nat := 129
def F_laws_FnShabats : Nat := 130
def F_spec_IsPolynomial : Nat := 1
def F_laws_toInt64S : Nat := 0
def F_impl_IsPolynomial : Nat := 2
def F_laws_eqInt64S : Nat := 3
def F_spec_StarPolynomial : Nat := 4
def F_impl_StarPolynomial : Nat := 5
def F_laws_markInt64S : Nat := 6
def F_laws_heldInt64S : Nat := 7
def F_spec_ValueOf : Nat := 8
def F_impl_ValueOf : Nat := 9
def F_spec_DerivativeOf : Nat := 10
def F_impl_DerivativeOf : Nat := 11
def F_spec_CountRooted : Nat := 12
def F_impl_CountRooted : Nat := 13
def F_spec_AddPolynomials : Nat := 14
def F_impl_AddPolynomials : Nat := 15
def F_spec_MultiplyPolynomials : Nat := 16
def F_impl_MultiplyPolynomials : Nat := 17
def F_spec_ChainPolynomial : Nat := 18
def F_impl_ChainPolynomial : Nat := 19
def F_laws_szInt64SS : Nat := 20
def F_spec_EulerOfPassport : Nat := 22
def F_laws_toInt64SS : Nat := 21
def F_impl_EulerOfPassport : Nat := 23
def F_laws_eqInt64SS : Nat := 24
def F_spec_ForkPolynomial : Nat := 25
def F_impl_ForkPolynomial : Nat := 26
def F_spec_ComposePolynomials : Nat := 27
def F_impl_ComposePolynomials : Nat := 28
def F_spec_CommonDivisor : Nat := 29
def F_impl_CommonDivisor : Nat := 30
def F_spec_IsCritical : Nat := 31
def F_impl_IsCritical : Nat := 32
def F_spec_MultiplicitiesOf : Nat := 33
def F_impl_MultiplicitiesOf : Nat := 34
def F_spec_IsShabat : Nat := 35
def F_impl_IsShabat : Nat := 36
def F_spec_PassportOfShabat : Nat := 37
def F_impl_PassportOfShabat : Nat := 38
def F_laws_markInt64SS : Nat := 39
def F_laws_heldInt64SS : Nat := 40
def F_laws_big : Nat := 41
def F_spec_DrawMultiplyPolynomials : Nat := 42
def F_laws_likeInts : Nat := 43
def F_spec_DrawComposePolynomials : Nat := 44
def F_spec_DrawDerivativeOf : Nat := 45
def F_spec_DrawValueOf : Nat := 46
def F_laws_roll : Nat := 47
def F_laws_dice_below : Nat := 48
def F_spec_DrawMultiplicitiesOf : Nat := 49
def F_spec_DrawIsShabat : Nat := 50
def F_laws_lists9 : Nat := 51
def F_spec_DrawStarPolynomial : Nat := 52
def F_spec_DrawChainPolynomial : Nat := 53
def F_spec_DrawForkPolynomial : Nat := 54
def F_laws_sum : Nat := 55
def F_spec_l06Is : Nat := 56
def F_impl_isNumber : Nat := 57
def F_spec_l01In : Nat := 58
def F_spec_l06Monomial : Nat := 59
def F_impl_isPower : Nat := 60
def F_spec_l06Value : Nat := 61
def F_spec_l06Slope : Nat := 62
def F_impl_derivative : Nat := 63
def F_spec_l05Types : Nat := 64
def F_spec_l05Factorial : Nat := 65
def F_spec_l05Equal : Nat := 66
def F_impl_areTypes : Nat := 67
def F_impl_sumOfType : Nat := 68
def F_impl_factorial : Nat := 69
def F_impl_repeated : Nat := 70
def F_spec_l06Both : Nat := 71
def F_spec_l06Add : Nat := 72
def F_impl_addAll : Nat := 73
def F_spec_l06Times : Nat := 74
def F_impl_times : Nat := 75
def F_spec_l06Chain : Nat := 76
def F_laws_szInt64S : Nat := 77
def F_spec_l04Is : Nat := 78
def F_spec_l04Sum : Nat := 79
def F_impl_sumOfPassport : Nat := 80
def F_impl_eulerOf : Nat := 81
def F_spec_l06Fork : Nat := 82
def F_impl_power : Nat := 83
def F_impl_inverse : Nat := 84
def F_spec_l06Compose : Nat := 85
def F_spec_l06Common : Nat := 86
def F_impl_common : Nat := 87
def F_spec_l06Code : Nat := 88
def F_spec_l06Multiplicities : Nat := 89
def F_impl_polynomialCode : Nat := 90
def F_impl_multiplicities : Nat := 91
def F_spec_l06Two : Nat := 92
def F_spec_l06Shabat : Nat := 93
def F_impl_shabatCode : Nat := 94
def F_impl_shabat : Nat := 95
def F_spec_l06Pair : Nat := 96
def F_spec_l01From : Nat := 97
def F_spec_l06Draw : Nat := 99
def F_spec_l01Pick : Nat := 98
def F_spec_l06Some : Nat := 100
def F_spec_l06DrawValue : Nat := 101
def F_spec_l01Next : Nat := 102
def F_spec_l06Mod : Nat := 103
def F_spec_l06Trim : Nat := 104
def F_impl_cut : Nat := 105
def F_spec_l04Type : Nat := 106
def F_spec_l06Inverse : Nat := 107
def F_spec_l06Divide : Nat := 108
def F_spec_l06Monic : Nat := 109
def F_impl_divide : Nat := 110
def F_spec_l01Own : Nat := 111
def F_slices_Clone_int64_int64 : Nat := 112
def Γ : Env := fun g =>
  match g with
  | 113 => some A_laws_FnExactIsPolynomial
  | 114 => some A_laws_FnExactStarPolynomial
  | 115 => some A_laws_FnExactValueOf
  | 116 => some A_laws_FnExactDerivativeOf
  | 117 => some A_laws_FnExactCountRooted
  | 118 => some A_laws_FnExactAddPolynomials
  | 119 => some A_laws_FnExactMultiplyPolynomials
  | 120 => some A_laws_FnExactChainPolynomial
  | 121 => some A_laws_FnExactEulerOfPassport
  | 122 => some A_laws_FnExactForkPolynomial
  | 123 => some A_laws_FnExactComposePolynomials
  | 124 => some A_laws_FnExactCommonDivisor
  | 125 => some A_laws_FnExactIsCritical
  | 126 => some A_laws_FnExactMultiplicitiesOf
  | 127 => some A_laws_FnExactIsShabat
  | 128 => some A_laws_FnExactPassportOfShabat
  | 129 => some A_laws_FnFieldPolynomials
  | 130 => some A_laws_FnShabats
  | 1 => some A_spec_IsPolynomial
  | 0 => some A_laws_toInt64S
  | 2 => some A_impl_IsPolynomial
  | 3 => some A_laws_eqInt64S
  | 4 => some A_spec_StarPolynomial
  | 5 => some A_impl_StarPolynomial
  | 6 => some A_laws_markInt64S
  | 7 => some A_laws_heldInt64S
  | 8 => some A_spec_ValueOf
  | 9 => some A_impl_ValueOf
  | 10 => some A_spec_DerivativeOf
  | 11 => some A_impl_DerivativeOf
  | 12 => some A_spec_CountRooted
  | 13 => some A_impl_CountRooted
  | 14 => some A_spec_AddPolynomials
  | 15 => some A_impl_AddPolynomials
  | 16 => some A_spec_MultiplyPolynomials
  | 17 => some A_impl_MultiplyPolynomials
  | 18 => some A_spec_ChainPolynomial
  | 19 => some A_impl_ChainPolynomial
  | 20 => some A_laws_szInt64SS
  | 22 => some A_spec_EulerOfPassport
  | 21 => some A_laws_toInt64SS
  | 23 => some A_impl_EulerOfPassport
  | 24 => some A_laws_eqInt64SS
  | 25 => some A_spec_ForkPolynomial
  | 26 => some A_impl_ForkPolynomial
  | 27 => some A_spec_ComposePolynomials
  | 28 => some A_impl_ComposePolynomials
  | 29 => some A_spec_CommonDivisor
  | 30 => some A_impl_CommonDivisor
  | 31 => some A_spec_IsCritical
  | 32 => some A_impl_IsCritical
  | 33 => some A_spec_MultiplicitiesOf
  | 34 => some A_impl_MultiplicitiesOf
  | 35 => some A_spec_IsShabat
  | 36 => some A_impl_IsShabat
  | 37 => some A_spec_PassportOfShabat
  | 38 => some A_impl_PassportOfShabat
  | 39 => some A_laws_markInt64SS
  | 40 => some A_laws_heldInt64SS
  | 41 => some A_laws_big
  | 42 => some A_spec_DrawMultiplyPolynomials
  | 43 => some A_laws_likeInts
  | 44 => some A_spec_DrawComposePolynomials
  | 45 => some A_spec_DrawDerivativeOf
  | 46 => some A_spec_DrawValueOf
  | 47 => some A_laws_roll
  | 48 => some A_laws_dice_below
  | 49 => some A_spec_DrawMultiplicitiesOf
  | 50 => some A_spec_DrawIsShabat
  | 51 => some A_laws_lists9
  | 52 => some A_spec_DrawStarPolynomial
  | 53 => some A_spec_DrawChainPolynomial
  | 54 => some A_spec_DrawForkPolynomial
  | 55 => some A_laws_sum
  | 56 => some A_spec_l06Is
  | 57 => some A_impl_isNumber
  | 58 => some A_spec_l01In
  | 59 => some A_spec_l06Monomial
  | 60 => some A_impl_isPower
  | 61 => some A_spec_l06Value
  | 62 => some A_spec_l06Slope
  | 63 => some A_impl_derivative
  | 64 => some A_spec_l05Types
  | 65 => some A_spec_l05Factorial
  | 66 => some A_spec_l05Equal
  | 67 => some A_impl_areTypes
  | 68 => some A_impl_sumOfType
  | 69 => some A_impl_factorial
  | 70 => some A_impl_repeated
  | 71 => some A_spec_l06Both
  | 72 => some A_spec_l06Add
  | 73 => some A_impl_addAll
  | 74 => some A_spec_l06Times
  | 75 => some A_impl_times
  | 76 => some A_spec_l06Chain
  | 77 => some A_laws_szInt64S
  | 78 => some A_spec_l04Is
  | 79 => some A_spec_l04Sum
  | 80 => some A_impl_sumOfPassport
  | 81 => some A_impl_eulerOf
  | 82 => some A_spec_l06Fork
  | 83 => some A_impl_power
  | 84 => some A_impl_inverse
  | 85 => some A_spec_l06Compose
  | 86 => some A_spec_l06Common
  | 87 => some A_impl_common
  | 88 => some A_spec_l06Code
  | 89 => some A_spec_l06Multiplicities
  | 90 => some A_impl_polynomialCode
  | 91 => some A_impl_multiplicities
  | 92 => some A_spec_l06Two
  | 93 => some A_spec_l06Shabat
  | 94 => some A_impl_shabatCode
  | 95 => some A_impl_shabat
  | 96 => some A_spec_l06Pair
  | 97 => some A_spec_l01From
  | 99 => some A_spec_l06Draw
  | 98 => some A_spec_l01Pick
  | 100 => some A_spec_l06Some
  | 101 => some A_spec_l06DrawValue
  | 102 => some A_spec_l01Next
  | 103 => some A_spec_l06Mod
  | 104 => some A_spec_l06Trim
  | 105 => some A_impl_cut
  | 106 => some A_spec_l04Type
  | 107 => some A_spec_l06Inverse
  | 108 => some A_spec_l06Divide
  | 109 => some A_spec_l06Monic
  | 110 => some A_impl_divide
  | 111 => some A_spec_l01Own
  | 112 => some A_slices_Clone_int64_int64
  | _ => none
theorem Γ_laws_FnExactIsPolynomial : Γ 113 = some A_laws_FnExactIsPolynomial := rfl
theorem Γ_laws_FnExactStarPolynomial : Γ 114 = some A_laws_FnExactStarPolynomial := rfl
theorem Γ_laws_FnExactValueOf : Γ 115 = some A_laws_FnExactValueOf := rfl
theorem Γ_laws_FnExactDerivativeOf : Γ 116 = some A_laws_FnExactDerivativeOf := rfl
theorem Γ_laws_FnExactCountRooted : Γ 117 = some A_laws_FnExactCountRooted := rfl
theorem Γ_laws_FnExactAddPolynomials : Γ 118 = some A_laws_FnExactAddPolynomials := rfl
theorem Γ_laws_FnExactMultiplyPolynomials : Γ 119 = some A_laws_FnExactMultiplyPolynomials := rfl
theorem Γ_laws_FnExactChainPolynomial : Γ 120 = some A_laws_FnExactChainPolynomial := rfl
theorem Γ_laws_FnExactEulerOfPassport : Γ 121 = some A_laws_FnExactEulerOfPassport := rfl
theorem Γ_laws_FnExactForkPolynomial : Γ 122 = some A_laws_FnExactForkPolynomial := rfl
theorem Γ_laws_FnExactComposePolynomials : Γ 123 = some A_laws_FnExactComposePolynomials := rfl
theorem Γ_laws_FnExactCommonDivisor : Γ 124 = some A_laws_FnExactCommonDivisor := rfl
theorem Γ_laws_FnExactIsCritical : Γ 125 = some A_laws_FnExactIsCritical := rfl
theorem Γ_laws_FnExactMultiplicitiesOf : Γ 126 = some A_laws_FnExactMultiplicitiesOf := rfl
theorem Γ_laws_FnExactIsShabat : Γ 127 = some A_laws_FnExactIsShabat := rfl
theorem Γ_laws_FnExactPassportOfShabat : Γ 128 = some A_laws_FnExactPassportOfShabat := rfl
theorem Γ_laws_FnFieldPolynomials : Γ 129 = some A_laws_FnFieldPolynomials := rfl
theorem Γ_laws_FnShabats : Γ 130 = some A_laws_FnShabats := rfl
theorem Γ_spec_IsPolynomial : Γ 1 = some A_spec_IsPolynomial := rfl
theorem Γ_laws_toInt64S : Γ 0 = some A_laws_toInt64S := rfl
theorem Γ_impl_IsPolynomial : Γ 2 = some A_impl_IsPolynomial := rfl
theorem Γ_laws_eqInt64S : Γ 3 = some A_laws_eqInt64S := rfl
theorem Γ_spec_StarPolynomial : Γ 4 = some A_spec_StarPolynomial := rfl
theorem Γ_impl_StarPolynomial : Γ 5 = some A_impl_StarPolynomial := rfl
theorem Γ_laws_markInt64S : Γ 6 = some A_laws_markInt64S := rfl
theorem Γ_laws_heldInt64S : Γ 7 = some A_laws_heldInt64S := rfl
theorem Γ_spec_ValueOf : Γ 8 = some A_spec_ValueOf := rfl
theorem Γ_impl_ValueOf : Γ 9 = some A_impl_ValueOf := rfl
theorem Γ_spec_DerivativeOf : Γ 10 = some A_spec_DerivativeOf := rfl
theorem Γ_impl_DerivativeOf : Γ 11 = some A_impl_DerivativeOf := rfl
theorem Γ_spec_CountRooted : Γ 12 = some A_spec_CountRooted := rfl
theorem Γ_impl_CountRooted : Γ 13 = some A_impl_CountRooted := rfl
theorem Γ_spec_AddPolynomials : Γ 14 = some A_spec_AddPolynomials := rfl
theorem Γ_impl_AddPolynomials : Γ 15 = some A_impl_AddPolynomials := rfl
theorem Γ_spec_MultiplyPolynomials : Γ 16 = some A_spec_MultiplyPolynomials := rfl
theorem Γ_impl_MultiplyPolynomials : Γ 17 = some A_impl_MultiplyPolynomials := rfl
theorem Γ_spec_ChainPolynomial : Γ 18 = some A_spec_ChainPolynomial := rfl
theorem Γ_impl_ChainPolynomial : Γ 19 = some A_impl_ChainPolynomial := rfl
theorem Γ_laws_szInt64SS : Γ 20 = some A_laws_szInt64SS := rfl
theorem Γ_spec_EulerOfPassport : Γ 22 = some A_spec_EulerOfPassport := rfl
theorem Γ_laws_toInt64SS : Γ 21 = some A_laws_toInt64SS := rfl
theorem Γ_impl_EulerOfPassport : Γ 23 = some A_impl_EulerOfPassport := rfl
theorem Γ_laws_eqInt64SS : Γ 24 = some A_laws_eqInt64SS := rfl
theorem Γ_spec_ForkPolynomial : Γ 25 = some A_spec_ForkPolynomial := rfl
theorem Γ_impl_ForkPolynomial : Γ 26 = some A_impl_ForkPolynomial := rfl
theorem Γ_spec_ComposePolynomials : Γ 27 = some A_spec_ComposePolynomials := rfl
theorem Γ_impl_ComposePolynomials : Γ 28 = some A_impl_ComposePolynomials := rfl
theorem Γ_spec_CommonDivisor : Γ 29 = some A_spec_CommonDivisor := rfl
theorem Γ_impl_CommonDivisor : Γ 30 = some A_impl_CommonDivisor := rfl
theorem Γ_spec_IsCritical : Γ 31 = some A_spec_IsCritical := rfl
theorem Γ_impl_IsCritical : Γ 32 = some A_impl_IsCritical := rfl
theorem Γ_spec_MultiplicitiesOf : Γ 33 = some A_spec_MultiplicitiesOf := rfl
theorem Γ_impl_MultiplicitiesOf : Γ 34 = some A_impl_MultiplicitiesOf := rfl
theorem Γ_spec_IsShabat : Γ 35 = some A_spec_IsShabat := rfl
theorem Γ_impl_IsShabat : Γ 36 = some A_impl_IsShabat := rfl
theorem Γ_spec_PassportOfShabat : Γ 37 = some A_spec_PassportOfShabat := rfl
theorem Γ_impl_PassportOfShabat : Γ 38 = some A_impl_PassportOfShabat := rfl
theorem Γ_laws_markInt64SS : Γ 39 = some A_laws_markInt64SS := rfl
theorem Γ_laws_heldInt64SS : Γ 40 = some A_laws_heldInt64SS := rfl
theorem Γ_laws_big : Γ 41 = some A_laws_big := rfl
theorem Γ_spec_DrawMultiplyPolynomials : Γ 42 = some A_spec_DrawMultiplyPolynomials := rfl
theorem Γ_laws_likeInts : Γ 43 = some A_laws_likeInts := rfl
theorem Γ_spec_DrawComposePolynomials : Γ 44 = some A_spec_DrawComposePolynomials := rfl
theorem Γ_spec_DrawDerivativeOf : Γ 45 = some A_spec_DrawDerivativeOf := rfl
theorem Γ_spec_DrawValueOf : Γ 46 = some A_spec_DrawValueOf := rfl
theorem Γ_laws_roll : Γ 47 = some A_laws_roll := rfl
theorem Γ_laws_dice_below : Γ 48 = some A_laws_dice_below := rfl
theorem Γ_spec_DrawMultiplicitiesOf : Γ 49 = some A_spec_DrawMultiplicitiesOf := rfl
theorem Γ_spec_DrawIsShabat : Γ 50 = some A_spec_DrawIsShabat := rfl
theorem Γ_laws_lists9 : Γ 51 = some A_laws_lists9 := rfl
theorem Γ_spec_DrawStarPolynomial : Γ 52 = some A_spec_DrawStarPolynomial := rfl
theorem Γ_spec_DrawChainPolynomial : Γ 53 = some A_spec_DrawChainPolynomial := rfl
theorem Γ_spec_DrawForkPolynomial : Γ 54 = some A_spec_DrawForkPolynomial := rfl
theorem Γ_laws_sum : Γ 55 = some A_laws_sum := rfl
theorem Γ_spec_l06Is : Γ 56 = some A_spec_l06Is := rfl
theorem Γ_impl_isNumber : Γ 57 = some A_impl_isNumber := rfl
theorem Γ_spec_l01In : Γ 58 = some A_spec_l01In := rfl
theorem Γ_spec_l06Monomial : Γ 59 = some A_spec_l06Monomial := rfl
theorem Γ_impl_isPower : Γ 60 = some A_impl_isPower := rfl
theorem Γ_spec_l06Value : Γ 61 = some A_spec_l06Value := rfl
theorem Γ_spec_l06Slope : Γ 62 = some A_spec_l06Slope := rfl
theorem Γ_impl_derivative : Γ 63 = some A_impl_derivative := rfl
theorem Γ_spec_l05Types : Γ 64 = some A_spec_l05Types := rfl
theorem Γ_spec_l05Factorial : Γ 65 = some A_spec_l05Factorial := rfl
theorem Γ_spec_l05Equal : Γ 66 = some A_spec_l05Equal := rfl
theorem Γ_impl_areTypes : Γ 67 = some A_impl_areTypes := rfl
theorem Γ_impl_sumOfType : Γ 68 = some A_impl_sumOfType := rfl
theorem Γ_impl_factorial : Γ 69 = some A_impl_factorial := rfl
theorem Γ_impl_repeated : Γ 70 = some A_impl_repeated := rfl
theorem Γ_spec_l06Both : Γ 71 = some A_spec_l06Both := rfl
theorem Γ_spec_l06Add : Γ 72 = some A_spec_l06Add := rfl
theorem Γ_impl_addAll : Γ 73 = some A_impl_addAll := rfl
theorem Γ_spec_l06Times : Γ 74 = some A_spec_l06Times := rfl
theorem Γ_impl_times : Γ 75 = some A_impl_times := rfl
theorem Γ_spec_l06Chain : Γ 76 = some A_spec_l06Chain := rfl
theorem Γ_laws_szInt64S : Γ 77 = some A_laws_szInt64S := rfl
theorem Γ_spec_l04Is : Γ 78 = some A_spec_l04Is := rfl
theorem Γ_spec_l04Sum : Γ 79 = some A_spec_l04Sum := rfl
theorem Γ_impl_sumOfPassport : Γ 80 = some A_impl_sumOfPassport := rfl
theorem Γ_impl_eulerOf : Γ 81 = some A_impl_eulerOf := rfl
theorem Γ_spec_l06Fork : Γ 82 = some A_spec_l06Fork := rfl
theorem Γ_impl_power : Γ 83 = some A_impl_power := rfl
theorem Γ_impl_inverse : Γ 84 = some A_impl_inverse := rfl
theorem Γ_spec_l06Compose : Γ 85 = some A_spec_l06Compose := rfl
theorem Γ_spec_l06Common : Γ 86 = some A_spec_l06Common := rfl
theorem Γ_impl_common : Γ 87 = some A_impl_common := rfl
theorem Γ_spec_l06Code : Γ 88 = some A_spec_l06Code := rfl
theorem Γ_spec_l06Multiplicities : Γ 89 = some A_spec_l06Multiplicities := rfl
theorem Γ_impl_polynomialCode : Γ 90 = some A_impl_polynomialCode := rfl
theorem Γ_impl_multiplicities : Γ 91 = some A_impl_multiplicities := rfl
theorem Γ_spec_l06Two : Γ 92 = some A_spec_l06Two := rfl
theorem Γ_spec_l06Shabat : Γ 93 = some A_spec_l06Shabat := rfl
theorem Γ_impl_shabatCode : Γ 94 = some A_impl_shabatCode := rfl
theorem Γ_impl_shabat : Γ 95 = some A_impl_shabat := rfl
theorem Γ_spec_l06Pair : Γ 96 = some A_spec_l06Pair := rfl
theorem Γ_spec_l01From : Γ 97 = some A_spec_l01From := rfl
theorem Γ_spec_l06Draw : Γ 99 = some A_spec_l06Draw := rfl
theorem Γ_spec_l01Pick : Γ 98 = some A_spec_l01Pick := rfl
theorem Γ_spec_l06Some : Γ 100 = some A_spec_l06Some := rfl
theorem Γ_spec_l06DrawValue : Γ 101 = some A_spec_l06DrawValue := rfl
theorem Γ_spec_l01Next : Γ 102 = some A_spec_l01Next := rfl
theorem Γ_spec_l06Mod : Γ 103 = some A_spec_l06Mod := rfl
theorem Γ_spec_l06Trim : Γ 104 = some A_spec_l06Trim := rfl
theorem Γ_impl_cut : Γ 105 = some A_impl_cut := rfl
theorem Γ_spec_l04Type : Γ 106 = some A_spec_l04Type := rfl
theorem Γ_spec_l06Inverse : Γ 107 = some A_spec_l06Inverse := rfl
theorem Γ_spec_l06Divide : Γ 108 = some A_spec_l06Divide := rfl
theorem Γ_spec_l06Monic : Γ 109 = some A_spec_l06Monic := rfl
theorem Γ_impl_divide : Γ 110 = some A_impl_divide := rfl
theorem Γ_spec_l01Own : Γ 111 = some A_spec_l01Own := rfl
theorem Γ_slices_Clone_int64_int64 : Γ 112 = some A_slices_Clone_int64_int64 := rfl
end Go.Am
