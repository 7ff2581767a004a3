/- The table of functions. -/
import Derived.Test.YteklchkdgpoedaaAmCode0
set_option linter.unusedVariables false
namespace Go.Am
open Go
def F_laws_FnShabats : Nat := 130
def F_laws_big : Nat := 41
def F_laws_roll : Nat := 47
def F_laws_dice_below : Nat := 48
def F_laws_likeInts : Nat := 43
def F_impl_IsPolynomial : Nat := 2
def F_impl_ComposePolynomials : Nat := 28
def F_spec_DrawValueOf : Nat := 46
def F_spec_DrawMultiplicitiesOf : Nat := 49
def F_impl_MultiplicitiesOf : Nat := 34
def F_spec_MultiplicitiesOf : Nat := 33
def F_impl_IsCritical : Nat := 32
def F_spec_IsCritical : Nat := 31
def F_spec_DrawIsShabat : Nat := 50
def F_impl_IsShabat : Nat := 36
def F_spec_IsShabat : Nat := 35
def F_impl_PassportOfShabat : Nat := 38
def F_spec_PassportOfShabat : Nat := 37
def F_laws_lists9 : Nat := 51
def F_spec_DrawStarPolynomial : Nat := 52
def F_impl_StarPolynomial : Nat := 5
def F_spec_StarPolynomial : Nat := 4
def F_spec_DrawChainPolynomial : Nat := 53
def F_impl_ChainPolynomial : Nat := 19
def F_spec_ChainPolynomial : Nat := 18
def F_spec_DrawForkPolynomial : Nat := 54
def F_impl_ForkPolynomial : Nat := 26
def F_spec_ForkPolynomial : Nat := 25
def F_laws_sum : Nat := 55
def F_impl_EulerOfPassport : Nat := 23
def F_impl_CountRooted : Nat := 13
def F_spec_l01From : Nat := 97
def F_impl_times : Nat := 75
def F_spec_l06Times : Nat := 74
def F_impl_isNumber : Nat := 57
def F_spec_l06Is : Nat := 56
def F_impl_addAll : Nat := 73
def F_spec_l06Add : Nat := 72
def F_spec_l06Draw : Nat := 99
def F_spec_l01Pick : Nat := 98
def F_spec_l06Compose : Nat := 85
def F_spec_l06Some : Nat := 100
def F_impl_derivative : Nat := 63
def F_spec_l06Slope : Nat := 62
def F_impl_common : Nat := 87
def F_spec_l06Common : Nat := 86
def F_spec_l06DrawValue : Nat := 101
def F_spec_l01In : Nat := 58
def F_spec_l06Value : Nat := 61
def F_impl_polynomialCode : Nat := 90
def F_impl_multiplicities : Nat := 91
def F_spec_l06Code : Nat := 88
def F_spec_l06Multiplicities : Nat := 89
def F_spec_l01Next : Nat := 102
def F_impl_shabatCode : Nat := 94
def F_impl_shabat : Nat := 95
def F_spec_l06Two : Nat := 92
def F_spec_l06Shabat : Nat := 93
def F_impl_isPower : Nat := 60
def F_spec_l06Monomial : Nat := 59
def F_spec_l06Chain : Nat := 76
def F_impl_power : Nat := 83
def F_impl_inverse : Nat := 84
def F_spec_l06Fork : Nat := 82
def F_impl_sumOfPassport : Nat := 80
def F_impl_eulerOf : Nat := 81
def F_impl_areTypes : Nat := 67
def F_impl_sumOfType : Nat := 68
def F_impl_factorial : Nat := 69
def F_impl_repeated : Nat := 70
def F_impl_cut : Nat := 105
def F_spec_l06Mod : Nat := 103
def F_spec_l06Trim : Nat := 104
def F_impl_divide : Nat := 110
def F_spec_l06Divide : Nat := 108
def F_spec_l06Monic : Nat := 109
def F_spec_l06Inverse : Nat := 107
def F_spec_l01Own : Nat := 111
def F_slices_Clone_int64_int64 : Nat := 112
def Γ : Env := fun g =>
  match g with
  | 130 => some A_laws_FnShabats
  | 41 => some A_laws_big
  | 47 => some A_laws_roll
  | 48 => some A_laws_dice_below
  | 43 => some A_laws_likeInts
  | 2 => some A_impl_IsPolynomial
  | 28 => some A_impl_ComposePolynomials
  | 46 => some A_spec_DrawValueOf
  | 49 => some A_spec_DrawMultiplicitiesOf
  | 34 => some A_impl_MultiplicitiesOf
  | 33 => some A_spec_MultiplicitiesOf
  | 32 => some A_impl_IsCritical
  | 31 => some A_spec_IsCritical
  | 50 => some A_spec_DrawIsShabat
  | 36 => some A_impl_IsShabat
  | 35 => some A_spec_IsShabat
  | 38 => some A_impl_PassportOfShabat
  | 37 => some A_spec_PassportOfShabat
  | 51 => some A_laws_lists9
  | 52 => some A_spec_DrawStarPolynomial
  | 5 => some A_impl_StarPolynomial
  | 4 => some A_spec_StarPolynomial
  | 53 => some A_spec_DrawChainPolynomial
  | 19 => some A_impl_ChainPolynomial
  | 18 => some A_spec_ChainPolynomial
  | 54 => some A_spec_DrawForkPolynomial
  | 26 => some A_impl_ForkPolynomial
  | 25 => some A_spec_ForkPolynomial
  | 55 => some A_laws_sum
  | 23 => some A_impl_EulerOfPassport
  | 13 => some A_impl_CountRooted
  | 97 => some A_spec_l01From
  | 75 => some A_impl_times
  | 74 => some A_spec_l06Times
  | 57 => some A_impl_isNumber
  | 56 => some A_spec_l06Is
  | 73 => some A_impl_addAll
  | 72 => some A_spec_l06Add
  | 99 => some A_spec_l06Draw
  | 98 => some A_spec_l01Pick
  | 85 => some A_spec_l06Compose
  | 100 => some A_spec_l06Some
  | 63 => some A_impl_derivative
  | 62 => some A_spec_l06Slope
  | 87 => some A_impl_common
  | 86 => some A_spec_l06Common
  | 101 => some A_spec_l06DrawValue
  | 58 => some A_spec_l01In
  | 61 => some A_spec_l06Value
  | 90 => some A_impl_polynomialCode
  | 91 => some A_impl_multiplicities
  | 88 => some A_spec_l06Code
  | 89 => some A_spec_l06Multiplicities
  | 102 => some A_spec_l01Next
  | 94 => some A_impl_shabatCode
  | 95 => some A_impl_shabat
  | 92 => some A_spec_l06Two
  | 93 => some A_spec_l06Shabat
  | 60 => some A_impl_isPower
  | 59 => some A_spec_l06Monomial
  | 76 => some A_spec_l06Chain
  | 83 => some A_impl_power
  | 84 => some A_impl_inverse
  | 82 => some A_spec_l06Fork
  | 80 => some A_impl_sumOfPassport
  | 81 => some A_impl_eulerOf
  | 67 => some A_impl_areTypes
  | 68 => some A_impl_sumOfType
  | 69 => some A_impl_factorial
  | 70 => some A_impl_repeated
  | 105 => some A_impl_cut
  | 103 => some A_spec_l06Mod
  | 104 => some A_spec_l06Trim
  | 110 => some A_impl_divide
  | 108 => some A_spec_l06Divide
  | 109 => some A_spec_l06Monic
  | 107 => some A_spec_l06Inverse
  | 111 => some A_spec_l01Own
  | 112 => some A_slices_Clone_int64_int64
  | _ => none
theorem Γ_laws_FnShabats : Γ 130 = some A_laws_FnShabats := rfl
theorem Γ_laws_big : Γ 41 = some A_laws_big := rfl
theorem Γ_laws_roll : Γ 47 = some A_laws_roll := rfl
theorem Γ_laws_dice_below : Γ 48 = some A_laws_dice_below := rfl
theorem Γ_laws_likeInts : Γ 43 = some A_laws_likeInts := rfl
theorem Γ_impl_IsPolynomial : Γ 2 = some A_impl_IsPolynomial := rfl
theorem Γ_impl_ComposePolynomials : Γ 28 = some A_impl_ComposePolynomials := rfl
theorem Γ_spec_DrawValueOf : Γ 46 = some A_spec_DrawValueOf := rfl
theorem Γ_spec_DrawMultiplicitiesOf : Γ 49 = some A_spec_DrawMultiplicitiesOf := rfl
theorem Γ_impl_MultiplicitiesOf : Γ 34 = some A_impl_MultiplicitiesOf := rfl
theorem Γ_spec_MultiplicitiesOf : Γ 33 = some A_spec_MultiplicitiesOf := rfl
theorem Γ_impl_IsCritical : Γ 32 = some A_impl_IsCritical := rfl
theorem Γ_spec_IsCritical : Γ 31 = some A_spec_IsCritical := rfl
theorem Γ_spec_DrawIsShabat : Γ 50 = some A_spec_DrawIsShabat := rfl
theorem Γ_impl_IsShabat : Γ 36 = some A_impl_IsShabat := rfl
theorem Γ_spec_IsShabat : Γ 35 = some A_spec_IsShabat := rfl
theorem Γ_impl_PassportOfShabat : Γ 38 = some A_impl_PassportOfShabat := rfl
theorem Γ_spec_PassportOfShabat : Γ 37 = some A_spec_PassportOfShabat := rfl
theorem Γ_laws_lists9 : Γ 51 = some A_laws_lists9 := rfl
theorem Γ_spec_DrawStarPolynomial : Γ 52 = some A_spec_DrawStarPolynomial := rfl
theorem Γ_impl_StarPolynomial : Γ 5 = some A_impl_StarPolynomial := rfl
theorem Γ_spec_StarPolynomial : Γ 4 = some A_spec_StarPolynomial := rfl
theorem Γ_spec_DrawChainPolynomial : Γ 53 = some A_spec_DrawChainPolynomial := rfl
theorem Γ_impl_ChainPolynomial : Γ 19 = some A_impl_ChainPolynomial := rfl
theorem Γ_spec_ChainPolynomial : Γ 18 = some A_spec_ChainPolynomial := rfl
theorem Γ_spec_DrawForkPolynomial : Γ 54 = some A_spec_DrawForkPolynomial := rfl
theorem Γ_impl_ForkPolynomial : Γ 26 = some A_impl_ForkPolynomial := rfl
theorem Γ_spec_ForkPolynomial : Γ 25 = some A_spec_ForkPolynomial := rfl
theorem Γ_laws_sum : Γ 55 = some A_laws_sum := rfl
theorem Γ_impl_EulerOfPassport : Γ 23 = some A_impl_EulerOfPassport := rfl
theorem Γ_impl_CountRooted : Γ 13 = some A_impl_CountRooted := rfl
theorem Γ_spec_l01From : Γ 97 = some A_spec_l01From := rfl
theorem Γ_impl_times : Γ 75 = some A_impl_times := rfl
theorem Γ_spec_l06Times : Γ 74 = some A_spec_l06Times := rfl
theorem Γ_impl_isNumber : Γ 57 = some A_impl_isNumber := rfl
theorem Γ_spec_l06Is : Γ 56 = some A_spec_l06Is := rfl
theorem Γ_impl_addAll : Γ 73 = some A_impl_addAll := rfl
theorem Γ_spec_l06Add : Γ 72 = some A_spec_l06Add := rfl
theorem Γ_spec_l06Draw : Γ 99 = some A_spec_l06Draw := rfl
theorem Γ_spec_l01Pick : Γ 98 = some A_spec_l01Pick := rfl
theorem Γ_spec_l06Compose : Γ 85 = some A_spec_l06Compose := rfl
theorem Γ_spec_l06Some : Γ 100 = some A_spec_l06Some := rfl
theorem Γ_impl_derivative : Γ 63 = some A_impl_derivative := rfl
theorem Γ_spec_l06Slope : Γ 62 = some A_spec_l06Slope := rfl
theorem Γ_impl_common : Γ 87 = some A_impl_common := rfl
theorem Γ_spec_l06Common : Γ 86 = some A_spec_l06Common := rfl
theorem Γ_spec_l06DrawValue : Γ 101 = some A_spec_l06DrawValue := rfl
theorem Γ_spec_l01In : Γ 58 = some A_spec_l01In := rfl
theorem Γ_spec_l06Value : Γ 61 = some A_spec_l06Value := rfl
theorem Γ_impl_polynomialCode : Γ 90 = some A_impl_polynomialCode := rfl
theorem Γ_impl_multiplicities : Γ 91 = some A_impl_multiplicities := rfl
theorem Γ_spec_l06Code : Γ 88 = some A_spec_l06Code := rfl
theorem Γ_spec_l06Multiplicities : Γ 89 = some A_spec_l06Multiplicities := rfl
theorem Γ_spec_l01Next : Γ 102 = some A_spec_l01Next := rfl
theorem Γ_impl_shabatCode : Γ 94 = some A_impl_shabatCode := rfl
theorem Γ_impl_shabat : Γ 95 = some A_impl_shabat := rfl
theorem Γ_spec_l06Two : Γ 92 = some A_spec_l06Two := rfl
theorem Γ_spec_l06Shabat : Γ 93 = some A_spec_l06Shabat := rfl
theorem Γ_impl_isPower : Γ 60 = some A_impl_isPower := rfl
theorem Γ_spec_l06Monomial : Γ 59 = some A_spec_l06Monomial := rfl
theorem Γ_spec_l06Chain : Γ 76 = some A_spec_l06Chain := rfl
theorem Γ_impl_power : Γ 83 = some A_impl_power := rfl
theorem Γ_impl_inverse : Γ 84 = some A_impl_inverse := rfl
theorem Γ_spec_l06Fork : Γ 82 = some A_spec_l06Fork := rfl
theorem Γ_impl_sumOfPassport : Γ 80 = some A_impl_sumOfPassport := rfl
theorem Γ_impl_eulerOf : Γ 81 = some A_impl_eulerOf := rfl
theorem Γ_impl_areTypes : Γ 67 = some A_impl_areTypes := rfl
theorem Γ_impl_sumOfType : Γ 68 = some A_impl_sumOfType := rfl
theorem Γ_impl_factorial : Γ 69 = some A_impl_factorial := rfl
theorem Γ_impl_repeated : Γ 70 = some A_impl_repeated := rfl
theorem Γ_impl_cut : Γ 105 = some A_impl_cut := rfl
theorem Γ_spec_l06Mod : Γ 103 = some A_spec_l06Mod := rfl
theorem Γ_spec_l06Trim : Γ 104 = some A_spec_l06Trim := rfl
theorem Γ_impl_divide : Γ 110 = some A_impl_divide := rfl
theorem Γ_spec_l06Divide : Γ 108 = some A_spec_l06Divide := rfl
theorem Γ_spec_l06Monic : Γ 109 = some A_spec_l06Monic := rfl
theorem Γ_spec_l06Inverse : Γ 107 = some A_spec_l06Inverse := rfl
theorem Γ_spec_l01Own : Γ 111 = some A_spec_l01Own := rfl
theorem Γ_slices_Clone_int64_int64 : Γ 112 = some A_slices_Clone_int64_int64 := rfl
end Go.Am
