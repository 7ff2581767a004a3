/- The table of functions. -/
import Derived.Test.YteklchkdgpoedaaAmCode0
set_option linter.unusedVariables false
namespace Go.Am
open Go
def F_laws_FnFieldPolynomials : Nat := 129
def F_laws_big : Nat := 41
def F_laws_roll : Nat := 47
def F_laws_dice_below : Nat := 48
def F_laws_likeInts : Nat := 43
def F_spec_DrawMultiplyPolynomials : Nat := 42
def F_impl_MultiplyPolynomials : Nat := 17
def F_spec_MultiplyPolynomials : Nat := 16
def F_impl_IsPolynomial : Nat := 2
def F_spec_IsPolynomial : Nat := 1
def F_impl_AddPolynomials : Nat := 15
def F_spec_AddPolynomials : Nat := 14
def F_spec_DrawComposePolynomials : Nat := 44
def F_impl_ComposePolynomials : Nat := 28
def F_spec_ComposePolynomials : Nat := 27
def F_spec_DrawDerivativeOf : Nat := 45
def F_impl_DerivativeOf : Nat := 11
def F_spec_DerivativeOf : Nat := 10
def F_impl_CommonDivisor : Nat := 30
def F_spec_CommonDivisor : Nat := 29
def F_spec_DrawValueOf : Nat := 46
def F_impl_ValueOf : Nat := 9
def F_spec_ValueOf : Nat := 8
def F_spec_l01From : Nat := 97
def F_spec_l06Pair : Nat := 96
def F_impl_times : Nat := 75
def F_spec_l06Both : Nat := 71
def F_spec_l06Times : Nat := 74
def F_impl_isNumber : Nat := 57
def F_spec_l06Is : Nat := 56
def F_impl_addAll : Nat := 73
def F_spec_l06Add : Nat := 72
def F_spec_l06Draw : Nat := 99
def F_spec_l01Pick : Nat := 98
def F_spec_l06Compose : Nat := 85
def F_spec_l06Some : Nat := 100
def F_impl_derivative : Nat := 63
def F_spec_l06Slope : Nat := 62
def F_impl_common : Nat := 87
def F_spec_l06Common : Nat := 86
def F_spec_l06DrawValue : Nat := 101
def F_spec_l01In : Nat := 58
def F_spec_l06Value : Nat := 61
def F_spec_l01Next : Nat := 102
def F_spec_l06Monomial : Nat := 59
def F_spec_l06Chain : Nat := 76
def F_impl_inverse : Nat := 84
def F_spec_l06Fork : Nat := 82
def F_impl_cut : Nat := 105
def F_spec_l06Mod : Nat := 103
def F_spec_l06Trim : Nat := 104
def F_impl_divide : Nat := 110
def F_spec_l06Divide : Nat := 108
def F_spec_l06Monic : Nat := 109
def F_spec_l06Inverse : Nat := 107
def F_spec_l01Own : Nat := 111
def F_slices_Clone_int64_int64 : Nat := 112
def Γ : Env := fun g =>
  match g with
  | 129 => some A_laws_FnFieldPolynomials
  | 41 => some A_laws_big
  | 47 => some A_laws_roll
  | 48 => some A_laws_dice_below
  | 43 => some A_laws_likeInts
  | 42 => some A_spec_DrawMultiplyPolynomials
  | 17 => some A_impl_MultiplyPolynomials
  | 16 => some A_spec_MultiplyPolynomials
  | 2 => some A_impl_IsPolynomial
  | 1 => some A_spec_IsPolynomial
  | 15 => some A_impl_AddPolynomials
  | 14 => some A_spec_AddPolynomials
  | 44 => some A_spec_DrawComposePolynomials
  | 28 => some A_impl_ComposePolynomials
  | 27 => some A_spec_ComposePolynomials
  | 45 => some A_spec_DrawDerivativeOf
  | 11 => some A_impl_DerivativeOf
  | 10 => some A_spec_DerivativeOf
  | 30 => some A_impl_CommonDivisor
  | 29 => some A_spec_CommonDivisor
  | 46 => some A_spec_DrawValueOf
  | 9 => some A_impl_ValueOf
  | 8 => some A_spec_ValueOf
  | 97 => some A_spec_l01From
  | 96 => some A_spec_l06Pair
  | 75 => some A_impl_times
  | 71 => some A_spec_l06Both
  | 74 => some A_spec_l06Times
  | 57 => some A_impl_isNumber
  | 56 => some A_spec_l06Is
  | 73 => some A_impl_addAll
  | 72 => some A_spec_l06Add
  | 99 => some A_spec_l06Draw
  | 98 => some A_spec_l01Pick
  | 85 => some A_spec_l06Compose
  | 100 => some A_spec_l06Some
  | 63 => some A_impl_derivative
  | 62 => some A_spec_l06Slope
  | 87 => some A_impl_common
  | 86 => some A_spec_l06Common
  | 101 => some A_spec_l06DrawValue
  | 58 => some A_spec_l01In
  | 61 => some A_spec_l06Value
  | 102 => some A_spec_l01Next
  | 59 => some A_spec_l06Monomial
  | 76 => some A_spec_l06Chain
  | 84 => some A_impl_inverse
  | 82 => some A_spec_l06Fork
  | 105 => some A_impl_cut
  | 103 => some A_spec_l06Mod
  | 104 => some A_spec_l06Trim
  | 110 => some A_impl_divide
  | 108 => some A_spec_l06Divide
  | 109 => some A_spec_l06Monic
  | 107 => some A_spec_l06Inverse
  | 111 => some A_spec_l01Own
  | 112 => some A_slices_Clone_int64_int64
  | _ => none
theorem Γ_laws_FnFieldPolynomials : Γ 129 = some A_laws_FnFieldPolynomials := rfl
theorem Γ_laws_big : Γ 41 = some A_laws_big := rfl
theorem Γ_laws_roll : Γ 47 = some A_laws_roll := rfl
theorem Γ_laws_dice_below : Γ 48 = some A_laws_dice_below := rfl
theorem Γ_laws_likeInts : Γ 43 = some A_laws_likeInts := rfl
theorem Γ_spec_DrawMultiplyPolynomials : Γ 42 = some A_spec_DrawMultiplyPolynomials := rfl
theorem Γ_impl_MultiplyPolynomials : Γ 17 = some A_impl_MultiplyPolynomials := rfl
theorem Γ_spec_MultiplyPolynomials : Γ 16 = some A_spec_MultiplyPolynomials := rfl
theorem Γ_impl_IsPolynomial : Γ 2 = some A_impl_IsPolynomial := rfl
theorem Γ_spec_IsPolynomial : Γ 1 = some A_spec_IsPolynomial := rfl
theorem Γ_impl_AddPolynomials : Γ 15 = some A_impl_AddPolynomials := rfl
theorem Γ_spec_AddPolynomials : Γ 14 = some A_spec_AddPolynomials := rfl
theorem Γ_spec_DrawComposePolynomials : Γ 44 = some A_spec_DrawComposePolynomials := rfl
theorem Γ_impl_ComposePolynomials : Γ 28 = some A_impl_ComposePolynomials := rfl
theorem Γ_spec_ComposePolynomials : Γ 27 = some A_spec_ComposePolynomials := rfl
theorem Γ_spec_DrawDerivativeOf : Γ 45 = some A_spec_DrawDerivativeOf := rfl
theorem Γ_impl_DerivativeOf : Γ 11 = some A_impl_DerivativeOf := rfl
theorem Γ_spec_DerivativeOf : Γ 10 = some A_spec_DerivativeOf := rfl
theorem Γ_impl_CommonDivisor : Γ 30 = some A_impl_CommonDivisor := rfl
theorem Γ_spec_CommonDivisor : Γ 29 = some A_spec_CommonDivisor := rfl
theorem Γ_spec_DrawValueOf : Γ 46 = some A_spec_DrawValueOf := rfl
theorem Γ_impl_ValueOf : Γ 9 = some A_impl_ValueOf := rfl
theorem Γ_spec_ValueOf : Γ 8 = some A_spec_ValueOf := rfl
theorem Γ_spec_l01From : Γ 97 = some A_spec_l01From := rfl
theorem Γ_spec_l06Pair : Γ 96 = some A_spec_l06Pair := rfl
theorem Γ_impl_times : Γ 75 = some A_impl_times := rfl
theorem Γ_spec_l06Both : Γ 71 = some A_spec_l06Both := rfl
theorem Γ_spec_l06Times : Γ 74 = some A_spec_l06Times := rfl
theorem Γ_impl_isNumber : Γ 57 = some A_impl_isNumber := rfl
theorem Γ_spec_l06Is : Γ 56 = some A_spec_l06Is := rfl
theorem Γ_impl_addAll : Γ 73 = some A_impl_addAll := rfl
theorem Γ_spec_l06Add : Γ 72 = some A_spec_l06Add := rfl
theorem Γ_spec_l06Draw : Γ 99 = some A_spec_l06Draw := rfl
theorem Γ_spec_l01Pick : Γ 98 = some A_spec_l01Pick := rfl
theorem Γ_spec_l06Compose : Γ 85 = some A_spec_l06Compose := rfl
theorem Γ_spec_l06Some : Γ 100 = some A_spec_l06Some := rfl
theorem Γ_impl_derivative : Γ 63 = some A_impl_derivative := rfl
theorem Γ_spec_l06Slope : Γ 62 = some A_spec_l06Slope := rfl
theorem Γ_impl_common : Γ 87 = some A_impl_common := rfl
theorem Γ_spec_l06Common : Γ 86 = some A_spec_l06Common := rfl
theorem Γ_spec_l06DrawValue : Γ 101 = some A_spec_l06DrawValue := rfl
theorem Γ_spec_l01In : Γ 58 = some A_spec_l01In := rfl
theorem Γ_spec_l06Value : Γ 61 = some A_spec_l06Value := rfl
theorem Γ_spec_l01Next : Γ 102 = some A_spec_l01Next := rfl
theorem Γ_spec_l06Monomial : Γ 59 = some A_spec_l06Monomial := rfl
theorem Γ_spec_l06Chain : Γ 76 = some A_spec_l06Chain := rfl
theorem Γ_impl_inverse : Γ 84 = some A_impl_inverse := rfl
theorem Γ_spec_l06Fork : Γ 82 = some A_spec_l06Fork := rfl
theorem Γ_impl_cut : Γ 105 = some A_impl_cut := rfl
theorem Γ_spec_l06Mod : Γ 103 = some A_spec_l06Mod := rfl
theorem Γ_spec_l06Trim : Γ 104 = some A_spec_l06Trim := rfl
theorem Γ_impl_divide : Γ 110 = some A_impl_divide := rfl
theorem Γ_spec_l06Divide : Γ 108 = some A_spec_l06Divide := rfl
theorem Γ_spec_l06Monic : Γ 109 = some A_spec_l06Monic := rfl
theorem Γ_spec_l06Inverse : Γ 107 = some A_spec_l06Inverse := rfl
theorem Γ_spec_l01Own : Γ 111 = some A_spec_l01Own := rfl
theorem Γ_slices_Clone_int64_int64 : Γ 112 = some A_slices_Clone_int64_int64 := rfl
end Go.Am
