/- The table of functions. -/
import Derived.Test.YtbbgifoamnjhoaaAmCode0
set_option linter.unusedVariables false
namespace Go.Am
open Go
def F_laws_FnExactEulerOfPassport : Nat := 121
def F_laws_szInt64SS : Nat := 20
def F_spec_EulerOfPassport : Nat := 22
def F_laws_toInt64SS : Nat := 21
def F_impl_EulerOfPassport : Nat := 23
def F_laws_eqInt64SS : Nat := 24
def F_laws_eqInt64S : Nat := 3
def F_laws_markInt64S : Nat := 6
def F_laws_heldInt64S : Nat := 7
def F_laws_szInt64S : Nat := 77
def F_spec_l04Is : Nat := 78
def F_spec_l04Sum : Nat := 79
def F_laws_toInt64S : Nat := 0
def F_impl_sumOfPassport : Nat := 80
def F_impl_eulerOf : Nat := 81
def F_spec_l01Is : Nat := 184
def F_impl_IsDessin : Nat := 187
def F_spec_l07Mirror : Nat := 185
def F_impl_mirror : Nat := 188
def F_spec_l01In : Nat := 58
def F_spec_l04Type : Nat := 106
def F_impl_sumOfType : Nat := 68
def F_spec_l01Perm : Nat := 206
def F_spec_l01Connected : Nat := 207
def F_impl_IsPermutation : Nat := 209
def F_impl_reached : Nat := 210
def F_spec_l01Back : Nat := 208
def F_impl_back : Nat := 211
def F_impl_descending : Nat := 219
def F_impl_isSize : Nat := 220
def F_slices_Sort_int64_int64 : Nat := 224
def F_slices_Reverse_int64_int64 : Nat := 225
def F_spec_l01Face : Nat := 192
def F_impl_face : Nat := 193
def F_slices_pdqsortOrdered_int64 : Nat := 228
def F_math_bits_Len : Nat := 227
def F_spec_l01Then : Nat := 212
def F_impl_then : Nat := 213
def F_slices_insertionSortOrdered_int64 : Nat := 229
def F_slices_breakPatternsOrdered_int64 : Nat := 231
def F_slices_choosePivotOrdered_int64 : Nat := 232
def F_slices_reverseRangeOrdered_int64 : Nat := 233
def F_slices_partialInsertionSortOrdered_int64 : Nat := 234
def F_cmp_Less_int64 : Nat := 235
def F_slices_partitionEqualOrdered_int64 : Nat := 236
def F_slices_partitionOrdered_int64 : Nat := 237
def F_math_bits_Len64 : Nat := 245
def F_slices_nextPowerOfTwo : Nat := 240
def F_slices_xorshift_Next : Nat := 241
def F_slices_medianOrdered_int64 : Nat := 243
def F_cmp_isNaN_int64 : Nat := 247
def F_slices_order2Ordered_int64 : Nat := 246
def Γ : Env := fun g =>
  match g with
  | 121 => some A_laws_FnExactEulerOfPassport
  | 20 => some A_laws_szInt64SS
  | 22 => some A_spec_EulerOfPassport
  | 21 => some A_laws_toInt64SS
  | 23 => some A_impl_EulerOfPassport
  | 24 => some A_laws_eqInt64SS
  | 3 => some A_laws_eqInt64S
  | 6 => some A_laws_markInt64S
  | 7 => some A_laws_heldInt64S
  | 77 => some A_laws_szInt64S
  | 78 => some A_spec_l04Is
  | 79 => some A_spec_l04Sum
  | 0 => some A_laws_toInt64S
  | 80 => some A_impl_sumOfPassport
  | 81 => some A_impl_eulerOf
  | 184 => some A_spec_l01Is
  | 187 => some A_impl_IsDessin
  | 185 => some A_spec_l07Mirror
  | 188 => some A_impl_mirror
  | 58 => some A_spec_l01In
  | 106 => some A_spec_l04Type
  | 68 => some A_impl_sumOfType
  | 206 => some A_spec_l01Perm
  | 207 => some A_spec_l01Connected
  | 209 => some A_impl_IsPermutation
  | 210 => some A_impl_reached
  | 208 => some A_spec_l01Back
  | 211 => some A_impl_back
  | 219 => some A_impl_descending
  | 220 => some A_impl_isSize
  | 224 => some A_slices_Sort_int64_int64
  | 225 => some A_slices_Reverse_int64_int64
  | 192 => some A_spec_l01Face
  | 193 => some A_impl_face
  | 228 => some A_slices_pdqsortOrdered_int64
  | 227 => some A_math_bits_Len
  | 212 => some A_spec_l01Then
  | 213 => some A_impl_then
  | 229 => some A_slices_insertionSortOrdered_int64
  | 231 => some A_slices_breakPatternsOrdered_int64
  | 232 => some A_slices_choosePivotOrdered_int64
  | 233 => some A_slices_reverseRangeOrdered_int64
  | 234 => some A_slices_partialInsertionSortOrdered_int64
  | 235 => some A_cmp_Less_int64
  | 236 => some A_slices_partitionEqualOrdered_int64
  | 237 => some A_slices_partitionOrdered_int64
  | 245 => some A_math_bits_Len64
  | 240 => some A_slices_nextPowerOfTwo
  | 241 => some A_slices_xorshift_Next
  | 243 => some A_slices_medianOrdered_int64
  | 247 => some A_cmp_isNaN_int64
  | 246 => some A_slices_order2Ordered_int64
  | _ => none
theorem Γ_laws_FnExactEulerOfPassport : Γ 121 = some A_laws_FnExactEulerOfPassport := rfl
theorem Γ_laws_szInt64SS : Γ 20 = some A_laws_szInt64SS := rfl
theorem Γ_spec_EulerOfPassport : Γ 22 = some A_spec_EulerOfPassport := rfl
theorem Γ_laws_toInt64SS : Γ 21 = some A_laws_toInt64SS := rfl
theorem Γ_impl_EulerOfPassport : Γ 23 = some A_impl_EulerOfPassport := rfl
theorem Γ_laws_eqInt64SS : Γ 24 = some A_laws_eqInt64SS := rfl
theorem Γ_laws_eqInt64S : Γ 3 = some A_laws_eqInt64S := rfl
theorem Γ_laws_markInt64S : Γ 6 = some A_laws_markInt64S := rfl
theorem Γ_laws_heldInt64S : Γ 7 = some A_laws_heldInt64S := rfl
theorem Γ_laws_szInt64S : Γ 77 = some A_laws_szInt64S := rfl
theorem Γ_spec_l04Is : Γ 78 = some A_spec_l04Is := rfl
theorem Γ_spec_l04Sum : Γ 79 = some A_spec_l04Sum := rfl
theorem Γ_laws_toInt64S : Γ 0 = some A_laws_toInt64S := rfl
theorem Γ_impl_sumOfPassport : Γ 80 = some A_impl_sumOfPassport := rfl
theorem Γ_impl_eulerOf : Γ 81 = some A_impl_eulerOf := rfl
theorem Γ_spec_l01Is : Γ 184 = some A_spec_l01Is := rfl
theorem Γ_impl_IsDessin : Γ 187 = some A_impl_IsDessin := rfl
theorem Γ_spec_l07Mirror : Γ 185 = some A_spec_l07Mirror := rfl
theorem Γ_impl_mirror : Γ 188 = some A_impl_mirror := rfl
theorem Γ_spec_l01In : Γ 58 = some A_spec_l01In := rfl
theorem Γ_spec_l04Type : Γ 106 = some A_spec_l04Type := rfl
theorem Γ_impl_sumOfType : Γ 68 = some A_impl_sumOfType := rfl
theorem Γ_spec_l01Perm : Γ 206 = some A_spec_l01Perm := rfl
theorem Γ_spec_l01Connected : Γ 207 = some A_spec_l01Connected := rfl
theorem Γ_impl_IsPermutation : Γ 209 = some A_impl_IsPermutation := rfl
theorem Γ_impl_reached : Γ 210 = some A_impl_reached := rfl
theorem Γ_spec_l01Back : Γ 208 = some A_spec_l01Back := rfl
theorem Γ_impl_back : Γ 211 = some A_impl_back := rfl
theorem Γ_impl_descending : Γ 219 = some A_impl_descending := rfl
theorem Γ_impl_isSize : Γ 220 = some A_impl_isSize := rfl
theorem Γ_slices_Sort_int64_int64 : Γ 224 = some A_slices_Sort_int64_int64 := rfl
theorem Γ_slices_Reverse_int64_int64 : Γ 225 = some A_slices_Reverse_int64_int64 := rfl
theorem Γ_spec_l01Face : Γ 192 = some A_spec_l01Face := rfl
theorem Γ_impl_face : Γ 193 = some A_impl_face := rfl
theorem Γ_slices_pdqsortOrdered_int64 : Γ 228 = some A_slices_pdqsortOrdered_int64 := rfl
theorem Γ_math_bits_Len : Γ 227 = some A_math_bits_Len := rfl
theorem Γ_spec_l01Then : Γ 212 = some A_spec_l01Then := rfl
theorem Γ_impl_then : Γ 213 = some A_impl_then := rfl
theorem Γ_slices_insertionSortOrdered_int64 : Γ 229 = some A_slices_insertionSortOrdered_int64 := rfl
theorem Γ_slices_breakPatternsOrdered_int64 : Γ 231 = some A_slices_breakPatternsOrdered_int64 := rfl
theorem Γ_slices_choosePivotOrdered_int64 : Γ 232 = some A_slices_choosePivotOrdered_int64 := rfl
theorem Γ_slices_reverseRangeOrdered_int64 : Γ 233 = some A_slices_reverseRangeOrdered_int64 := rfl
theorem Γ_slices_partialInsertionSortOrdered_int64 : Γ 234 = some A_slices_partialInsertionSortOrdered_int64 := rfl
theorem Γ_cmp_Less_int64 : Γ 235 = some A_cmp_Less_int64 := rfl
theorem Γ_slices_partitionEqualOrdered_int64 : Γ 236 = some A_slices_partitionEqualOrdered_int64 := rfl
theorem Γ_slices_partitionOrdered_int64 : Γ 237 = some A_slices_partitionOrdered_int64 := rfl
theorem Γ_math_bits_Len64 : Γ 245 = some A_math_bits_Len64 := rfl
theorem Γ_slices_nextPowerOfTwo : Γ 240 = some A_slices_nextPowerOfTwo := rfl
theorem Γ_slices_xorshift_Next : Γ 241 = some A_slices_xorshift_Next := rfl
theorem Γ_slices_medianOrdered_int64 : Γ 243 = some A_slices_medianOrdered_int64 := rfl
theorem Γ_cmp_isNaN_int64 : Γ 247 = some A_cmp_isNaN_int64 := rfl
theorem Γ_slices_order2Ordered_int64 : Γ 246 = some A_slices_order2Ordered_int64 := rfl
end Go.Am
