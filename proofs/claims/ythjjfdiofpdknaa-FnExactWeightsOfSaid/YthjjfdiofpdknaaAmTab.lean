/- The table of functions. -/
import Derived.Test.YthjjfdiofpdknaaAmCode0
set_option linter.unusedVariables false
namespace Go.Am
open Go
def F_laws_FnExactWeightsOf : Nat := 292
def F_laws_toDessin : Nat := 139
def F_laws_eqInt64S : Nat := 3
def F_laws_markInt64S : Nat := 6
def F_laws_heldInt64S : Nat := 7
def F_spec_WeightsOf : Nat := 293
def F_laws_toInt64S : Nat := 0
def F_impl_WeightsOf : Nat := 294
def F_laws_toPlaces : Nat := 186
def F_impl_vertices : Nat := 333
def F_impl_cycles : Nat := 223
def F_spec_l01Is : Nat := 184
def F_spec_l01Cycles : Nat := 285
def F_spec_l05Numbers : Nat := 334
def F_spec_l05Tree : Nat := 270
def F_spec_l01Own : Nat := 111
def F_impl_IsDessin : Nat := 187
def F_slices_Clone_int64_int64 : Nat := 112
def F_impl_isTree : Nat := 271
def F_spec_l01Type : Nat := 284
def F_impl_passport : Nat := 280
def F_impl_isSize : Nat := 220
def F_spec_l01In : Nat := 58
def F_impl_IsPermutation : Nat := 209
def F_spec_l01Perm : Nat := 206
def F_slices_Clone_SS_int64_int64 : Nat := 362
def F_spec_l01Connected : Nat := 207
def F_spec_l01Passport : Nat := 279
def F_impl_reached : Nat := 210
def F_impl_typeOf : Nat := 218
def F_impl_face : Nat := 193
def F_math_bits_Len : Nat := 227
def F_spec_l01Face : Nat := 192
def F_impl_descending : Nat := 219
def F_impl_back : Nat := 211
def F_impl_then : Nat := 213
def F_math_bits_Len64 : Nat := 245
def F_spec_l01Back : Nat := 208
def F_spec_l01Then : Nat := 212
def F_slices_Sort_int64_int64 : Nat := 224
def F_slices_Reverse_int64_int64 : Nat := 225
def F_slices_nextPowerOfTwo : Nat := 240
def F_slices_xorshift_Next : Nat := 241
def F_slices_pdqsortOrdered_int64 : Nat := 228
def F_slices_insertionSortOrdered_int64 : Nat := 229
def F_slices_breakPatternsOrdered_int64 : Nat := 231
def F_slices_choosePivotOrdered_int64 : Nat := 232
def F_slices_reverseRangeOrdered_int64 : Nat := 233
def F_slices_partialInsertionSortOrdered_int64 : Nat := 234
def F_cmp_Less_int64 : Nat := 235
def F_slices_partitionEqualOrdered_int64 : Nat := 236
def F_slices_partitionOrdered_int64 : Nat := 237
def F_slices_medianOrdered_int64 : Nat := 243
def F_cmp_isNaN_int64 : Nat := 247
def F_slices_order2Ordered_int64 : Nat := 246
def Γ : Env := fun g =>
  match g with
  | 292 => some A_laws_FnExactWeightsOf
  | 139 => some A_laws_toDessin
  | 3 => some A_laws_eqInt64S
  | 6 => some A_laws_markInt64S
  | 7 => some A_laws_heldInt64S
  | 293 => some A_spec_WeightsOf
  | 0 => some A_laws_toInt64S
  | 294 => some A_impl_WeightsOf
  | 186 => some A_laws_toPlaces
  | 333 => some A_impl_vertices
  | 223 => some A_impl_cycles
  | 184 => some A_spec_l01Is
  | 285 => some A_spec_l01Cycles
  | 334 => some A_spec_l05Numbers
  | 270 => some A_spec_l05Tree
  | 111 => some A_spec_l01Own
  | 187 => some A_impl_IsDessin
  | 112 => some A_slices_Clone_int64_int64
  | 271 => some A_impl_isTree
  | 284 => some A_spec_l01Type
  | 280 => some A_impl_passport
  | 220 => some A_impl_isSize
  | 58 => some A_spec_l01In
  | 209 => some A_impl_IsPermutation
  | 206 => some A_spec_l01Perm
  | 362 => some A_slices_Clone_SS_int64_int64
  | 207 => some A_spec_l01Connected
  | 279 => some A_spec_l01Passport
  | 210 => some A_impl_reached
  | 218 => some A_impl_typeOf
  | 193 => some A_impl_face
  | 227 => some A_math_bits_Len
  | 192 => some A_spec_l01Face
  | 219 => some A_impl_descending
  | 211 => some A_impl_back
  | 213 => some A_impl_then
  | 245 => some A_math_bits_Len64
  | 208 => some A_spec_l01Back
  | 212 => some A_spec_l01Then
  | 224 => some A_slices_Sort_int64_int64
  | 225 => some A_slices_Reverse_int64_int64
  | 240 => some A_slices_nextPowerOfTwo
  | 241 => some A_slices_xorshift_Next
  | 228 => some A_slices_pdqsortOrdered_int64
  | 229 => some A_slices_insertionSortOrdered_int64
  | 231 => some A_slices_breakPatternsOrdered_int64
  | 232 => some A_slices_choosePivotOrdered_int64
  | 233 => some A_slices_reverseRangeOrdered_int64
  | 234 => some A_slices_partialInsertionSortOrdered_int64
  | 235 => some A_cmp_Less_int64
  | 236 => some A_slices_partitionEqualOrdered_int64
  | 237 => some A_slices_partitionOrdered_int64
  | 243 => some A_slices_medianOrdered_int64
  | 247 => some A_cmp_isNaN_int64
  | 246 => some A_slices_order2Ordered_int64
  | _ => none
theorem Γ_laws_FnExactWeightsOf : Γ 292 = some A_laws_FnExactWeightsOf := rfl
theorem Γ_laws_toDessin : Γ 139 = some A_laws_toDessin := rfl
theorem Γ_laws_eqInt64S : Γ 3 = some A_laws_eqInt64S := rfl
theorem Γ_laws_markInt64S : Γ 6 = some A_laws_markInt64S := rfl
theorem Γ_laws_heldInt64S : Γ 7 = some A_laws_heldInt64S := rfl
theorem Γ_spec_WeightsOf : Γ 293 = some A_spec_WeightsOf := rfl
theorem Γ_laws_toInt64S : Γ 0 = some A_laws_toInt64S := rfl
theorem Γ_impl_WeightsOf : Γ 294 = some A_impl_WeightsOf := rfl
theorem Γ_laws_toPlaces : Γ 186 = some A_laws_toPlaces := rfl
theorem Γ_impl_vertices : Γ 333 = some A_impl_vertices := rfl
theorem Γ_impl_cycles : Γ 223 = some A_impl_cycles := rfl
theorem Γ_spec_l01Is : Γ 184 = some A_spec_l01Is := rfl
theorem Γ_spec_l01Cycles : Γ 285 = some A_spec_l01Cycles := rfl
theorem Γ_spec_l05Numbers : Γ 334 = some A_spec_l05Numbers := rfl
theorem Γ_spec_l05Tree : Γ 270 = some A_spec_l05Tree := rfl
theorem Γ_spec_l01Own : Γ 111 = some A_spec_l01Own := rfl
theorem Γ_impl_IsDessin : Γ 187 = some A_impl_IsDessin := rfl
theorem Γ_slices_Clone_int64_int64 : Γ 112 = some A_slices_Clone_int64_int64 := rfl
theorem Γ_impl_isTree : Γ 271 = some A_impl_isTree := rfl
theorem Γ_spec_l01Type : Γ 284 = some A_spec_l01Type := rfl
theorem Γ_impl_passport : Γ 280 = some A_impl_passport := rfl
theorem Γ_impl_isSize : Γ 220 = some A_impl_isSize := rfl
theorem Γ_spec_l01In : Γ 58 = some A_spec_l01In := rfl
theorem Γ_impl_IsPermutation : Γ 209 = some A_impl_IsPermutation := rfl
theorem Γ_spec_l01Perm : Γ 206 = some A_spec_l01Perm := rfl
theorem Γ_slices_Clone_SS_int64_int64 : Γ 362 = some A_slices_Clone_SS_int64_int64 := rfl
theorem Γ_spec_l01Connected : Γ 207 = some A_spec_l01Connected := rfl
theorem Γ_spec_l01Passport : Γ 279 = some A_spec_l01Passport := rfl
theorem Γ_impl_reached : Γ 210 = some A_impl_reached := rfl
theorem Γ_impl_typeOf : Γ 218 = some A_impl_typeOf := rfl
theorem Γ_impl_face : Γ 193 = some A_impl_face := rfl
theorem Γ_math_bits_Len : Γ 227 = some A_math_bits_Len := rfl
theorem Γ_spec_l01Face : Γ 192 = some A_spec_l01Face := rfl
theorem Γ_impl_descending : Γ 219 = some A_impl_descending := rfl
theorem Γ_impl_back : Γ 211 = some A_impl_back := rfl
theorem Γ_impl_then : Γ 213 = some A_impl_then := rfl
theorem Γ_math_bits_Len64 : Γ 245 = some A_math_bits_Len64 := rfl
theorem Γ_spec_l01Back : Γ 208 = some A_spec_l01Back := rfl
theorem Γ_spec_l01Then : Γ 212 = some A_spec_l01Then := rfl
theorem Γ_slices_Sort_int64_int64 : Γ 224 = some A_slices_Sort_int64_int64 := rfl
theorem Γ_slices_Reverse_int64_int64 : Γ 225 = some A_slices_Reverse_int64_int64 := rfl
theorem Γ_slices_nextPowerOfTwo : Γ 240 = some A_slices_nextPowerOfTwo := rfl
theorem Γ_slices_xorshift_Next : Γ 241 = some A_slices_xorshift_Next := rfl
theorem Γ_slices_pdqsortOrdered_int64 : Γ 228 = some A_slices_pdqsortOrdered_int64 := rfl
theorem Γ_slices_insertionSortOrdered_int64 : Γ 229 = some A_slices_insertionSortOrdered_int64 := rfl
theorem Γ_slices_breakPatternsOrdered_int64 : Γ 231 = some A_slices_breakPatternsOrdered_int64 := rfl
theorem Γ_slices_choosePivotOrdered_int64 : Γ 232 = some A_slices_choosePivotOrdered_int64 := rfl
theorem Γ_slices_reverseRangeOrdered_int64 : Γ 233 = some A_slices_reverseRangeOrdered_int64 := rfl
theorem Γ_slices_partialInsertionSortOrdered_int64 : Γ 234 = some A_slices_partialInsertionSortOrdered_int64 := rfl
theorem Γ_cmp_Less_int64 : Γ 235 = some A_cmp_Less_int64 := rfl
theorem Γ_slices_partitionEqualOrdered_int64 : Γ 236 = some A_slices_partitionEqualOrdered_int64 := rfl
theorem Γ_slices_partitionOrdered_int64 : Γ 237 = some A_slices_partitionOrdered_int64 := rfl
theorem Γ_slices_medianOrdered_int64 : Γ 243 = some A_slices_medianOrdered_int64 := rfl
theorem Γ_cmp_isNaN_int64 : Γ 247 = some A_cmp_isNaN_int64 := rfl
theorem Γ_slices_order2Ordered_int64 : Γ 246 = some A_slices_order2Ordered_int64 := rfl
end Go.Am
