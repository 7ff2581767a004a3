/- The table of functions. -/
import Derived.Test.YtbfhlajbjfahiaaAmCode0
set_option linter.unusedVariables false
namespace Go.Am
open Go
def F_laws_FnExactCountConnected : Nat := 298
def F_laws_toInt64S : Nat := 0
def F_laws_eqInt64S : Nat := 3
def F_laws_szInt64SS : Nat := 20
def F_laws_toInt64SS : Nat := 21
def F_laws_eqInt64SS : Nat := 24
def F_spec_CountConnected : Nat := 299
def F_impl_CountConnected : Nat := 300
def F_spec_l01Is : Nat := 184
def F_impl_face : Nat := 193
def F_impl_sumOfType : Nat := 68
def F_spec_l04Type : Nat := 106
def F_spec_l01In : Nat := 58
def F_impl_sumOfPassport : Nat := 80
def F_spec_l04Is : Nat := 78
def F_spec_l04Sum : Nat := 79
def F_impl_centraliser : Nat := 354
def F_spec_l04Centraliser : Nat := 338
def F_impl_factorial : Nat := 69
def F_impl_repeated : Nat := 70
def F_spec_l01Type : Nat := 284
def F_slices_Equal_int64_int64 : Nat := 346
def F_spec_l01Perm : Nat := 206
def F_laws_szInt64S : Nat := 77
def F_spec_l04Code : Nat := 335
def F_spec_l04Run : Nat := 336
def F_spec_l04Factorial : Nat := 337
def F_impl_searchCode : Nat := 339
def F_impl_eachPair : Nat := 341
def F_impl_CountConnected_1 : Nat := 342
def F_spec_l01Same : Nat := 364
def F_impl_reached : Nat := 210
def F_impl_typeOf : Nat := 218
def F_spec_l01Connected : Nat := 207
def F_spec_l01Face : Nat := 192
def F_impl_back : Nat := 211
def F_impl_then : Nat := 213
def F_spec_l04Standard : Nat := 363
def F_impl_ofType : Nat := 366
def F_impl_each : Nat := 368
def F_spec_l01Cycles : Nat := 285
def F_math_bits_Len : Nat := 227
def F_spec_l04Search : Nat := 365
def F_impl_eachPair_1 : Nat := 367
def F_impl_isConnected : Nat := 369
def F_impl_cycles : Nat := 223
def F_impl_descending : Nat := 219
def F_spec_l01Back : Nat := 208
def F_spec_l01Then : Nat := 212
def F_impl_each_1 : Nat := 377
def F_math_bits_Len64 : Nat := 245
def F_spec_l04Meet : Nat := 376
def F_slices_Sort_int64_int64 : Nat := 224
def F_slices_Reverse_int64_int64 : Nat := 225
def F_slices_nextPowerOfTwo : Nat := 240
def F_slices_xorshift_Next : Nat := 241
def F_spec_l04Same2 : Nat := 390
def F_slices_pdqsortOrdered_int64 : Nat := 228
def F_slices_insertionSortOrdered_int64 : Nat := 229
def F_slices_breakPatternsOrdered_int64 : Nat := 231
def F_slices_choosePivotOrdered_int64 : Nat := 232
def F_slices_reverseRangeOrdered_int64 : Nat := 233
def F_slices_partialInsertionSortOrdered_int64 : Nat := 234
def F_cmp_Less_int64 : Nat := 235
def F_slices_partitionEqualOrdered_int64 : Nat := 236
def F_slices_partitionOrdered_int64 : Nat := 237
def F_slices_medianOrdered_int64 : Nat := 243
def F_cmp_isNaN_int64 : Nat := 247
def F_slices_order2Ordered_int64 : Nat := 246
def Γ : Env := fun g =>
  match g with
  | 298 => some A_laws_FnExactCountConnected
  | 0 => some A_laws_toInt64S
  | 3 => some A_laws_eqInt64S
  | 20 => some A_laws_szInt64SS
  | 21 => some A_laws_toInt64SS
  | 24 => some A_laws_eqInt64SS
  | 299 => some A_spec_CountConnected
  | 300 => some A_impl_CountConnected
  | 184 => some A_spec_l01Is
  | 193 => some A_impl_face
  | 68 => some A_impl_sumOfType
  | 106 => some A_spec_l04Type
  | 58 => some A_spec_l01In
  | 80 => some A_impl_sumOfPassport
  | 78 => some A_spec_l04Is
  | 79 => some A_spec_l04Sum
  | 354 => some A_impl_centraliser
  | 338 => some A_spec_l04Centraliser
  | 69 => some A_impl_factorial
  | 70 => some A_impl_repeated
  | 284 => some A_spec_l01Type
  | 346 => some A_slices_Equal_int64_int64
  | 206 => some A_spec_l01Perm
  | 77 => some A_laws_szInt64S
  | 335 => some A_spec_l04Code
  | 336 => some A_spec_l04Run
  | 337 => some A_spec_l04Factorial
  | 339 => some A_impl_searchCode
  | 341 => some A_impl_eachPair
  | 342 => some A_impl_CountConnected_1
  | 364 => some A_spec_l01Same
  | 210 => some A_impl_reached
  | 218 => some A_impl_typeOf
  | 207 => some A_spec_l01Connected
  | 192 => some A_spec_l01Face
  | 211 => some A_impl_back
  | 213 => some A_impl_then
  | 363 => some A_spec_l04Standard
  | 366 => some A_impl_ofType
  | 368 => some A_impl_each
  | 285 => some A_spec_l01Cycles
  | 227 => some A_math_bits_Len
  | 365 => some A_spec_l04Search
  | 367 => some A_impl_eachPair_1
  | 369 => some A_impl_isConnected
  | 223 => some A_impl_cycles
  | 219 => some A_impl_descending
  | 208 => some A_spec_l01Back
  | 212 => some A_spec_l01Then
  | 377 => some A_impl_each_1
  | 245 => some A_math_bits_Len64
  | 376 => some A_spec_l04Meet
  | 224 => some A_slices_Sort_int64_int64
  | 225 => some A_slices_Reverse_int64_int64
  | 240 => some A_slices_nextPowerOfTwo
  | 241 => some A_slices_xorshift_Next
  | 390 => some A_spec_l04Same2
  | 228 => some A_slices_pdqsortOrdered_int64
  | 229 => some A_slices_insertionSortOrdered_int64
  | 231 => some A_slices_breakPatternsOrdered_int64
  | 232 => some A_slices_choosePivotOrdered_int64
  | 233 => some A_slices_reverseRangeOrdered_int64
  | 234 => some A_slices_partialInsertionSortOrdered_int64
  | 235 => some A_cmp_Less_int64
  | 236 => some A_slices_partitionEqualOrdered_int64
  | 237 => some A_slices_partitionOrdered_int64
  | 243 => some A_slices_medianOrdered_int64
  | 247 => some A_cmp_isNaN_int64
  | 246 => some A_slices_order2Ordered_int64
  | _ => none
theorem Γ_laws_FnExactCountConnected : Γ 298 = some A_laws_FnExactCountConnected := rfl
theorem Γ_laws_toInt64S : Γ 0 = some A_laws_toInt64S := rfl
theorem Γ_laws_eqInt64S : Γ 3 = some A_laws_eqInt64S := rfl
theorem Γ_laws_szInt64SS : Γ 20 = some A_laws_szInt64SS := rfl
theorem Γ_laws_toInt64SS : Γ 21 = some A_laws_toInt64SS := rfl
theorem Γ_laws_eqInt64SS : Γ 24 = some A_laws_eqInt64SS := rfl
theorem Γ_spec_CountConnected : Γ 299 = some A_spec_CountConnected := rfl
theorem Γ_impl_CountConnected : Γ 300 = some A_impl_CountConnected := rfl
theorem Γ_spec_l01Is : Γ 184 = some A_spec_l01Is := rfl
theorem Γ_impl_face : Γ 193 = some A_impl_face := rfl
theorem Γ_impl_sumOfType : Γ 68 = some A_impl_sumOfType := rfl
theorem Γ_spec_l04Type : Γ 106 = some A_spec_l04Type := rfl
theorem Γ_spec_l01In : Γ 58 = some A_spec_l01In := rfl
theorem Γ_impl_sumOfPassport : Γ 80 = some A_impl_sumOfPassport := rfl
theorem Γ_spec_l04Is : Γ 78 = some A_spec_l04Is := rfl
theorem Γ_spec_l04Sum : Γ 79 = some A_spec_l04Sum := rfl
theorem Γ_impl_centraliser : Γ 354 = some A_impl_centraliser := rfl
theorem Γ_spec_l04Centraliser : Γ 338 = some A_spec_l04Centraliser := rfl
theorem Γ_impl_factorial : Γ 69 = some A_impl_factorial := rfl
theorem Γ_impl_repeated : Γ 70 = some A_impl_repeated := rfl
theorem Γ_spec_l01Type : Γ 284 = some A_spec_l01Type := rfl
theorem Γ_slices_Equal_int64_int64 : Γ 346 = some A_slices_Equal_int64_int64 := rfl
theorem Γ_spec_l01Perm : Γ 206 = some A_spec_l01Perm := rfl
theorem Γ_laws_szInt64S : Γ 77 = some A_laws_szInt64S := rfl
theorem Γ_spec_l04Code : Γ 335 = some A_spec_l04Code := rfl
theorem Γ_spec_l04Run : Γ 336 = some A_spec_l04Run := rfl
theorem Γ_spec_l04Factorial : Γ 337 = some A_spec_l04Factorial := rfl
theorem Γ_impl_searchCode : Γ 339 = some A_impl_searchCode := rfl
theorem Γ_impl_eachPair : Γ 341 = some A_impl_eachPair := rfl
theorem Γ_impl_CountConnected_1 : Γ 342 = some A_impl_CountConnected_1 := rfl
theorem Γ_spec_l01Same : Γ 364 = some A_spec_l01Same := rfl
theorem Γ_impl_reached : Γ 210 = some A_impl_reached := rfl
theorem Γ_impl_typeOf : Γ 218 = some A_impl_typeOf := rfl
theorem Γ_spec_l01Connected : Γ 207 = some A_spec_l01Connected := rfl
theorem Γ_spec_l01Face : Γ 192 = some A_spec_l01Face := rfl
theorem Γ_impl_back : Γ 211 = some A_impl_back := rfl
theorem Γ_impl_then : Γ 213 = some A_impl_then := rfl
theorem Γ_spec_l04Standard : Γ 363 = some A_spec_l04Standard := rfl
theorem Γ_impl_ofType : Γ 366 = some A_impl_ofType := rfl
theorem Γ_impl_each : Γ 368 = some A_impl_each := rfl
theorem Γ_spec_l01Cycles : Γ 285 = some A_spec_l01Cycles := rfl
theorem Γ_math_bits_Len : Γ 227 = some A_math_bits_Len := rfl
theorem Γ_spec_l04Search : Γ 365 = some A_spec_l04Search := rfl
theorem Γ_impl_eachPair_1 : Γ 367 = some A_impl_eachPair_1 := rfl
theorem Γ_impl_isConnected : Γ 369 = some A_impl_isConnected := rfl
theorem Γ_impl_cycles : Γ 223 = some A_impl_cycles := rfl
theorem Γ_impl_descending : Γ 219 = some A_impl_descending := rfl
theorem Γ_spec_l01Back : Γ 208 = some A_spec_l01Back := rfl
theorem Γ_spec_l01Then : Γ 212 = some A_spec_l01Then := rfl
theorem Γ_impl_each_1 : Γ 377 = some A_impl_each_1 := rfl
theorem Γ_math_bits_Len64 : Γ 245 = some A_math_bits_Len64 := rfl
theorem Γ_spec_l04Meet : Γ 376 = some A_spec_l04Meet := rfl
theorem Γ_slices_Sort_int64_int64 : Γ 224 = some A_slices_Sort_int64_int64 := rfl
theorem Γ_slices_Reverse_int64_int64 : Γ 225 = some A_slices_Reverse_int64_int64 := rfl
theorem Γ_slices_nextPowerOfTwo : Γ 240 = some A_slices_nextPowerOfTwo := rfl
theorem Γ_slices_xorshift_Next : Γ 241 = some A_slices_xorshift_Next := rfl
theorem Γ_spec_l04Same2 : Γ 390 = some A_spec_l04Same2 := rfl
theorem Γ_slices_pdqsortOrdered_int64 : Γ 228 = some A_slices_pdqsortOrdered_int64 := rfl
theorem Γ_slices_insertionSortOrdered_int64 : Γ 229 = some A_slices_insertionSortOrdered_int64 := rfl
theorem Γ_slices_breakPatternsOrdered_int64 : Γ 231 = some A_slices_breakPatternsOrdered_int64 := rfl
theorem Γ_slices_choosePivotOrdered_int64 : Γ 232 = some A_slices_choosePivotOrdered_int64 := rfl
theorem Γ_slices_reverseRangeOrdered_int64 : Γ 233 = some A_slices_reverseRangeOrdered_int64 := rfl
theorem Γ_slices_partialInsertionSortOrdered_int64 : Γ 234 = some A_slices_partialInsertionSortOrdered_int64 := rfl
theorem Γ_cmp_Less_int64 : Γ 235 = some A_cmp_Less_int64 := rfl
theorem Γ_slices_partitionEqualOrdered_int64 : Γ 236 = some A_slices_partitionEqualOrdered_int64 := rfl
theorem Γ_slices_partitionOrdered_int64 : Γ 237 = some A_slices_partitionOrdered_int64 := rfl
theorem Γ_slices_medianOrdered_int64 : Γ 243 = some A_slices_medianOrdered_int64 := rfl
theorem Γ_cmp_isNaN_int64 : Γ 247 = some A_cmp_isNaN_int64 := rfl
theorem Γ_slices_order2Ordered_int64 : Γ 246 = some A_slices_order2Ordered_int64 := rfl
end Go.Am
