/- The table of functions. -/
import Derived.Test.YtbfhlajbjfahiaaAmCode0
set_option linter.unusedVariables false
namespace Go.Am
open Go
def F_laws_FnNamings : Nat := 320
def F_laws_big : Nat := 41
def F_impl_PassportOf : Nat := 330
def F_impl_AreAlike : Nat := 158
def F_impl_CanonicalDessin : Nat := 328
def F_laws_likeInts : Nat := 43
def F_laws_lists9 : Nat := 51
def F_spec_DrawRenameDessin : Nat := 321
def F_impl_RenameDessin : Nat := 322
def F_spec_RenameDessin : Nat := 323
def F_spec_DrawNamingFrom : Nat := 324
def F_impl_NamingFrom : Nat := 325
def F_spec_NamingFrom : Nat := 326
def F_spec_DrawCanonicalDessin : Nat := 327
def F_spec_CanonicalDessin : Nat := 329
def F_spec_l01Spoil : Nat := 374
def F_spec_l01From : Nat := 97
def F_impl_IsDessin : Nat := 187
def F_impl_passport : Nat := 280
def F_spec_l01Is : Nat := 184
def F_impl_canonical : Nat := 198
def F_impl_face : Nat := 193
def F_spec_l01Next : Nat := 102
def F_spec_l01Pick : Nat := 98
def F_impl_isSize : Nat := 220
def F_spec_l01In : Nat := 58
def F_spec_l02Some : Nat := 355
def F_spec_l01DrawPlaces : Nat := 356
def F_impl_IsPermutation : Nat := 209
def F_impl_rename : Nat := 216
def F_spec_l01Perm : Nat := 206
def F_spec_l02Rename : Nat := 357
def F_impl_isDart : Nat := 282
def F_impl_naming : Nat := 215
def F_spec_l02Naming : Nat := 358
def F_spec_l02Canonical : Nat := 359
def F_spec_l01Draw : Nat := 372
def F_spec_l01Same : Nat := 364
def F_impl_reached : Nat := 210
def F_impl_typeOf : Nat := 218
def F_spec_l01Connected : Nat := 207
def F_impl_compareDessins : Nat := 217
def F_impl_back : Nat := 211
def F_impl_then : Nat := 213
def F_math_bits_Len : Nat := 227
def F_spec_l02Symmetric : Nat := 373
def F_impl_named : Nat := 221
def F_spec_l02Before : Nat := 375
def F_spec_l01Pairs : Nat := 387
def F_spec_l01Star : Nat := 388
def F_impl_cycles : Nat := 223
def F_impl_descending : Nat := 219
def F_impl_comparePlaces : Nat := 222
def F_math_bits_Len64 : Nat := 245
def F_spec_l02Less : Nat := 389
def F_spec_l01Turn : Nat := 396
def F_slices_Sort_int64_int64 : Nat := 224
def F_slices_Reverse_int64_int64 : Nat := 225
def F_slices_nextPowerOfTwo : Nat := 240
def F_slices_xorshift_Next : Nat := 241
def F_slices_pdqsortOrdered_int64 : Nat := 228
def F_slices_insertionSortOrdered_int64 : Nat := 229
def F_slices_breakPatternsOrdered_int64 : Nat := 231
def F_slices_choosePivotOrdered_int64 : Nat := 232
def F_slices_reverseRangeOrdered_int64 : Nat := 233
def F_slices_partialInsertionSortOrdered_int64 : Nat := 234
def F_cmp_Less_int64 : Nat := 235
def F_slices_partitionEqualOrdered_int64 : Nat := 236
def F_slices_partitionOrdered_int64 : Nat := 237
def F_slices_medianOrdered_int64 : Nat := 243
def F_cmp_isNaN_int64 : Nat := 247
def F_slices_order2Ordered_int64 : Nat := 246
def Γ : Env := fun g =>
  match g with
  | 320 => some A_laws_FnNamings
  | 41 => some A_laws_big
  | 330 => some A_impl_PassportOf
  | 158 => some A_impl_AreAlike
  | 328 => some A_impl_CanonicalDessin
  | 43 => some A_laws_likeInts
  | 51 => some A_laws_lists9
  | 321 => some A_spec_DrawRenameDessin
  | 322 => some A_impl_RenameDessin
  | 323 => some A_spec_RenameDessin
  | 324 => some A_spec_DrawNamingFrom
  | 325 => some A_impl_NamingFrom
  | 326 => some A_spec_NamingFrom
  | 327 => some A_spec_DrawCanonicalDessin
  | 329 => some A_spec_CanonicalDessin
  | 374 => some A_spec_l01Spoil
  | 97 => some A_spec_l01From
  | 187 => some A_impl_IsDessin
  | 280 => some A_impl_passport
  | 184 => some A_spec_l01Is
  | 198 => some A_impl_canonical
  | 193 => some A_impl_face
  | 102 => some A_spec_l01Next
  | 98 => some A_spec_l01Pick
  | 220 => some A_impl_isSize
  | 58 => some A_spec_l01In
  | 355 => some A_spec_l02Some
  | 356 => some A_spec_l01DrawPlaces
  | 209 => some A_impl_IsPermutation
  | 216 => some A_impl_rename
  | 206 => some A_spec_l01Perm
  | 357 => some A_spec_l02Rename
  | 282 => some A_impl_isDart
  | 215 => some A_impl_naming
  | 358 => some A_spec_l02Naming
  | 359 => some A_spec_l02Canonical
  | 372 => some A_spec_l01Draw
  | 364 => some A_spec_l01Same
  | 210 => some A_impl_reached
  | 218 => some A_impl_typeOf
  | 207 => some A_spec_l01Connected
  | 217 => some A_impl_compareDessins
  | 211 => some A_impl_back
  | 213 => some A_impl_then
  | 227 => some A_math_bits_Len
  | 373 => some A_spec_l02Symmetric
  | 221 => some A_impl_named
  | 375 => some A_spec_l02Before
  | 387 => some A_spec_l01Pairs
  | 388 => some A_spec_l01Star
  | 223 => some A_impl_cycles
  | 219 => some A_impl_descending
  | 222 => some A_impl_comparePlaces
  | 245 => some A_math_bits_Len64
  | 389 => some A_spec_l02Less
  | 396 => some A_spec_l01Turn
  | 224 => some A_slices_Sort_int64_int64
  | 225 => some A_slices_Reverse_int64_int64
  | 240 => some A_slices_nextPowerOfTwo
  | 241 => some A_slices_xorshift_Next
  | 228 => some A_slices_pdqsortOrdered_int64
  | 229 => some A_slices_insertionSortOrdered_int64
  | 231 => some A_slices_breakPatternsOrdered_int64
  | 232 => some A_slices_choosePivotOrdered_int64
  | 233 => some A_slices_reverseRangeOrdered_int64
  | 234 => some A_slices_partialInsertionSortOrdered_int64
  | 235 => some A_cmp_Less_int64
  | 236 => some A_slices_partitionEqualOrdered_int64
  | 237 => some A_slices_partitionOrdered_int64
  | 243 => some A_slices_medianOrdered_int64
  | 247 => some A_cmp_isNaN_int64
  | 246 => some A_slices_order2Ordered_int64
  | _ => none
theorem Γ_laws_FnNamings : Γ 320 = some A_laws_FnNamings := rfl
theorem Γ_laws_big : Γ 41 = some A_laws_big := rfl
theorem Γ_impl_PassportOf : Γ 330 = some A_impl_PassportOf := rfl
theorem Γ_impl_AreAlike : Γ 158 = some A_impl_AreAlike := rfl
theorem Γ_impl_CanonicalDessin : Γ 328 = some A_impl_CanonicalDessin := rfl
theorem Γ_laws_likeInts : Γ 43 = some A_laws_likeInts := rfl
theorem Γ_laws_lists9 : Γ 51 = some A_laws_lists9 := rfl
theorem Γ_spec_DrawRenameDessin : Γ 321 = some A_spec_DrawRenameDessin := rfl
theorem Γ_impl_RenameDessin : Γ 322 = some A_impl_RenameDessin := rfl
theorem Γ_spec_RenameDessin : Γ 323 = some A_spec_RenameDessin := rfl
theorem Γ_spec_DrawNamingFrom : Γ 324 = some A_spec_DrawNamingFrom := rfl
theorem Γ_impl_NamingFrom : Γ 325 = some A_impl_NamingFrom := rfl
theorem Γ_spec_NamingFrom : Γ 326 = some A_spec_NamingFrom := rfl
theorem Γ_spec_DrawCanonicalDessin : Γ 327 = some A_spec_DrawCanonicalDessin := rfl
theorem Γ_spec_CanonicalDessin : Γ 329 = some A_spec_CanonicalDessin := rfl
theorem Γ_spec_l01Spoil : Γ 374 = some A_spec_l01Spoil := rfl
theorem Γ_spec_l01From : Γ 97 = some A_spec_l01From := rfl
theorem Γ_impl_IsDessin : Γ 187 = some A_impl_IsDessin := rfl
theorem Γ_impl_passport : Γ 280 = some A_impl_passport := rfl
theorem Γ_spec_l01Is : Γ 184 = some A_spec_l01Is := rfl
theorem Γ_impl_canonical : Γ 198 = some A_impl_canonical := rfl
theorem Γ_impl_face : Γ 193 = some A_impl_face := rfl
theorem Γ_spec_l01Next : Γ 102 = some A_spec_l01Next := rfl
theorem Γ_spec_l01Pick : Γ 98 = some A_spec_l01Pick := rfl
theorem Γ_impl_isSize : Γ 220 = some A_impl_isSize := rfl
theorem Γ_spec_l01In : Γ 58 = some A_spec_l01In := rfl
theorem Γ_spec_l02Some : Γ 355 = some A_spec_l02Some := rfl
theorem Γ_spec_l01DrawPlaces : Γ 356 = some A_spec_l01DrawPlaces := rfl
theorem Γ_impl_IsPermutation : Γ 209 = some A_impl_IsPermutation := rfl
theorem Γ_impl_rename : Γ 216 = some A_impl_rename := rfl
theorem Γ_spec_l01Perm : Γ 206 = some A_spec_l01Perm := rfl
theorem Γ_spec_l02Rename : Γ 357 = some A_spec_l02Rename := rfl
theorem Γ_impl_isDart : Γ 282 = some A_impl_isDart := rfl
theorem Γ_impl_naming : Γ 215 = some A_impl_naming := rfl
theorem Γ_spec_l02Naming : Γ 358 = some A_spec_l02Naming := rfl
theorem Γ_spec_l02Canonical : Γ 359 = some A_spec_l02Canonical := rfl
theorem Γ_spec_l01Draw : Γ 372 = some A_spec_l01Draw := rfl
theorem Γ_spec_l01Same : Γ 364 = some A_spec_l01Same := rfl
theorem Γ_impl_reached : Γ 210 = some A_impl_reached := rfl
theorem Γ_impl_typeOf : Γ 218 = some A_impl_typeOf := rfl
theorem Γ_spec_l01Connected : Γ 207 = some A_spec_l01Connected := rfl
theorem Γ_impl_compareDessins : Γ 217 = some A_impl_compareDessins := rfl
theorem Γ_impl_back : Γ 211 = some A_impl_back := rfl
theorem Γ_impl_then : Γ 213 = some A_impl_then := rfl
theorem Γ_math_bits_Len : Γ 227 = some A_math_bits_Len := rfl
theorem Γ_spec_l02Symmetric : Γ 373 = some A_spec_l02Symmetric := rfl
theorem Γ_impl_named : Γ 221 = some A_impl_named := rfl
theorem Γ_spec_l02Before : Γ 375 = some A_spec_l02Before := rfl
theorem Γ_spec_l01Pairs : Γ 387 = some A_spec_l01Pairs := rfl
theorem Γ_spec_l01Star : Γ 388 = some A_spec_l01Star := rfl
theorem Γ_impl_cycles : Γ 223 = some A_impl_cycles := rfl
theorem Γ_impl_descending : Γ 219 = some A_impl_descending := rfl
theorem Γ_impl_comparePlaces : Γ 222 = some A_impl_comparePlaces := rfl
theorem Γ_math_bits_Len64 : Γ 245 = some A_math_bits_Len64 := rfl
theorem Γ_spec_l02Less : Γ 389 = some A_spec_l02Less := rfl
theorem Γ_spec_l01Turn : Γ 396 = some A_spec_l01Turn := rfl
theorem Γ_slices_Sort_int64_int64 : Γ 224 = some A_slices_Sort_int64_int64 := rfl
theorem Γ_slices_Reverse_int64_int64 : Γ 225 = some A_slices_Reverse_int64_int64 := rfl
theorem Γ_slices_nextPowerOfTwo : Γ 240 = some A_slices_nextPowerOfTwo := rfl
theorem Γ_slices_xorshift_Next : Γ 241 = some A_slices_xorshift_Next := rfl
theorem Γ_slices_pdqsortOrdered_int64 : Γ 228 = some A_slices_pdqsortOrdered_int64 := rfl
theorem Γ_slices_insertionSortOrdered_int64 : Γ 229 = some A_slices_insertionSortOrdered_int64 := rfl
theorem Γ_slices_breakPatternsOrdered_int64 : Γ 231 = some A_slices_breakPatternsOrdered_int64 := rfl
theorem Γ_slices_choosePivotOrdered_int64 : Γ 232 = some A_slices_choosePivotOrdered_int64 := rfl
theorem Γ_slices_reverseRangeOrdered_int64 : Γ 233 = some A_slices_reverseRangeOrdered_int64 := rfl
theorem Γ_slices_partialInsertionSortOrdered_int64 : Γ 234 = some A_slices_partialInsertionSortOrdered_int64 := rfl
theorem Γ_cmp_Less_int64 : Γ 235 = some A_cmp_Less_int64 := rfl
theorem Γ_slices_partitionEqualOrdered_int64 : Γ 236 = some A_slices_partitionEqualOrdered_int64 := rfl
theorem Γ_slices_partitionOrdered_int64 : Γ 237 = some A_slices_partitionOrdered_int64 := rfl
theorem Γ_slices_medianOrdered_int64 : Γ 243 = some A_slices_medianOrdered_int64 := rfl
theorem Γ_cmp_isNaN_int64 : Γ 247 = some A_cmp_isNaN_int64 := rfl
theorem Γ_slices_order2Ordered_int64 : Γ 246 = some A_slices_order2Ordered_int64 := rfl
end Go.Am
