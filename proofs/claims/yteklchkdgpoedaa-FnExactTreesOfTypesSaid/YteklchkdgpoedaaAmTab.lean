/- The table of functions. -/
import Derived.Test.YteklchkdgpoedaaAmCode0
set_option linter.unusedVariables false
namespace Go.Am
open Go
def F_laws_FnExactTreesOfTypes : Nat := 301
def F_spec_TreesOfTypes : Nat := 302
def F_laws_toInt64S : Nat := 0
def F_impl_TreesOfTypes : Nat := 303
def F_laws_eqStringS : Nat := 304
def F_laws_eqInt64S : Nat := 3
def F_laws_markInt64S : Nat := 6
def F_laws_markStringS : Nat := 305
def F_laws_heldStringS : Nat := 306
def F_impl_passport : Nat := 280
def F_impl_face : Nat := 193
def F_spec_l01In : Nat := 58
def F_impl_areTypes : Nat := 67
def F_impl_sumOfType : Nat := 68
def F_spec_l05Types : Nat := 64
def F_spec_l05All : Nat := 343
def F_spec_l05Made : Nat := 267
def F_spec_l05Same : Nat := 344
def F_spec_l01Type : Nat := 284
def F_spec_l05Canonical : Nat := 276
def F_impl_words : Nat := 345
def F_impl_treeOfWord : Nat := 269
def F_impl_leastWord : Nat := 277
def F_slices_Equal_int64_int64 : Nat := 346
def F_slices_Sort_string_string : Nat := 347
def F_slices_Compact_string_string : Nat := 348
def F_laws_markText : Nat := 349
def F_impl_typeOf : Nat := 218
def F_impl_back : Nat := 211
def F_impl_then : Nat := 213
def F_spec_l03Less : Nat := 370
def F_spec_l01Cycles : Nat := 285
def F_spec_l05At : Nat := 272
def F_impl_treeOfWord_1 : Nat := 278
def F_impl_wordOfTree : Nat := 274
def F_slices_pdqsortOrdered_string : Nat := 371
def F_math_bits_Len : Nat := 227
def F_impl_cycles : Nat := 223
def F_impl_descending : Nat := 219
def F_spec_l05Below : Nat := 281
def F_impl_wordAt : Nat := 283
def F_slices_insertionSortOrdered_string : Nat := 378
def F_cmp_Less_string : Nat := 384
def F_math_bits_Len64 : Nat := 245
def F_slices_Sort_int64_int64 : Nat := 224
def F_slices_Reverse_int64_int64 : Nat := 225
def F_slices_nextPowerOfTwo : Nat := 240
def F_slices_xorshift_Next : Nat := 241
def F_cmp_isNaN_string : Nat := 395
def F_slices_pdqsortOrdered_int64 : Nat := 228
def F_slices_insertionSortOrdered_int64 : Nat := 229
def F_slices_breakPatternsOrdered_int64 : Nat := 231
def F_slices_choosePivotOrdered_int64 : Nat := 232
def F_slices_reverseRangeOrdered_int64 : Nat := 233
def F_slices_partialInsertionSortOrdered_int64 : Nat := 234
def F_cmp_Less_int64 : Nat := 235
def F_slices_partitionEqualOrdered_int64 : Nat := 236
def F_slices_partitionOrdered_int64 : Nat := 237
def F_slices_medianOrdered_int64 : Nat := 243
def F_cmp_isNaN_int64 : Nat := 247
def F_slices_order2Ordered_int64 : Nat := 246
def Γ : Env := fun g =>
  match g with
  | 301 => some A_laws_FnExactTreesOfTypes
  | 302 => some A_spec_TreesOfTypes
  | 0 => some A_laws_toInt64S
  | 303 => some A_impl_TreesOfTypes
  | 304 => some A_laws_eqStringS
  | 3 => some A_laws_eqInt64S
  | 6 => some A_laws_markInt64S
  | 305 => some A_laws_markStringS
  | 306 => some A_laws_heldStringS
  | 280 => some A_impl_passport
  | 193 => some A_impl_face
  | 58 => some A_spec_l01In
  | 67 => some A_impl_areTypes
  | 68 => some A_impl_sumOfType
  | 64 => some A_spec_l05Types
  | 343 => some A_spec_l05All
  | 267 => some A_spec_l05Made
  | 344 => some A_spec_l05Same
  | 284 => some A_spec_l01Type
  | 276 => some A_spec_l05Canonical
  | 345 => some A_impl_words
  | 269 => some A_impl_treeOfWord
  | 277 => some A_impl_leastWord
  | 346 => some A_slices_Equal_int64_int64
  | 347 => some A_slices_Sort_string_string
  | 348 => some A_slices_Compact_string_string
  | 349 => some A_laws_markText
  | 218 => some A_impl_typeOf
  | 211 => some A_impl_back
  | 213 => some A_impl_then
  | 370 => some A_spec_l03Less
  | 285 => some A_spec_l01Cycles
  | 272 => some A_spec_l05At
  | 278 => some A_impl_treeOfWord_1
  | 274 => some A_impl_wordOfTree
  | 371 => some A_slices_pdqsortOrdered_string
  | 227 => some A_math_bits_Len
  | 223 => some A_impl_cycles
  | 219 => some A_impl_descending
  | 281 => some A_spec_l05Below
  | 283 => some A_impl_wordAt
  | 378 => some A_slices_insertionSortOrdered_string
  | 384 => some A_cmp_Less_string
  | 245 => some A_math_bits_Len64
  | 224 => some A_slices_Sort_int64_int64
  | 225 => some A_slices_Reverse_int64_int64
  | 240 => some A_slices_nextPowerOfTwo
  | 241 => some A_slices_xorshift_Next
  | 395 => some A_cmp_isNaN_string
  | 228 => some A_slices_pdqsortOrdered_int64
  | 229 => some A_slices_insertionSortOrdered_int64
  | 231 => some A_slices_breakPatternsOrdered_int64
  | 232 => some A_slices_choosePivotOrdered_int64
  | 233 => some A_slices_reverseRangeOrdered_int64
  | 234 => some A_slices_partialInsertionSortOrdered_int64
  | 235 => some A_cmp_Less_int64
  | 236 => some A_slices_partitionEqualOrdered_int64
  | 237 => some A_slices_partitionOrdered_int64
  | 243 => some A_slices_medianOrdered_int64
  | 247 => some A_cmp_isNaN_int64
  | 246 => some A_slices_order2Ordered_int64
  | _ => none
theorem Γ_laws_FnExactTreesOfTypes : Γ 301 = some A_laws_FnExactTreesOfTypes := rfl
theorem Γ_spec_TreesOfTypes : Γ 302 = some A_spec_TreesOfTypes := rfl
theorem Γ_laws_toInt64S : Γ 0 = some A_laws_toInt64S := rfl
theorem Γ_impl_TreesOfTypes : Γ 303 = some A_impl_TreesOfTypes := rfl
theorem Γ_laws_eqStringS : Γ 304 = some A_laws_eqStringS := rfl
theorem Γ_laws_eqInt64S : Γ 3 = some A_laws_eqInt64S := rfl
theorem Γ_laws_markInt64S : Γ 6 = some A_laws_markInt64S := rfl
theorem Γ_laws_markStringS : Γ 305 = some A_laws_markStringS := rfl
theorem Γ_laws_heldStringS : Γ 306 = some A_laws_heldStringS := rfl
theorem Γ_impl_passport : Γ 280 = some A_impl_passport := rfl
theorem Γ_impl_face : Γ 193 = some A_impl_face := rfl
theorem Γ_spec_l01In : Γ 58 = some A_spec_l01In := rfl
theorem Γ_impl_areTypes : Γ 67 = some A_impl_areTypes := rfl
theorem Γ_impl_sumOfType : Γ 68 = some A_impl_sumOfType := rfl
theorem Γ_spec_l05Types : Γ 64 = some A_spec_l05Types := rfl
theorem Γ_spec_l05All : Γ 343 = some A_spec_l05All := rfl
theorem Γ_spec_l05Made : Γ 267 = some A_spec_l05Made := rfl
theorem Γ_spec_l05Same : Γ 344 = some A_spec_l05Same := rfl
theorem Γ_spec_l01Type : Γ 284 = some A_spec_l01Type := rfl
theorem Γ_spec_l05Canonical : Γ 276 = some A_spec_l05Canonical := rfl
theorem Γ_impl_words : Γ 345 = some A_impl_words := rfl
theorem Γ_impl_treeOfWord : Γ 269 = some A_impl_treeOfWord := rfl
theorem Γ_impl_leastWord : Γ 277 = some A_impl_leastWord := rfl
theorem Γ_slices_Equal_int64_int64 : Γ 346 = some A_slices_Equal_int64_int64 := rfl
theorem Γ_slices_Sort_string_string : Γ 347 = some A_slices_Sort_string_string := rfl
theorem Γ_slices_Compact_string_string : Γ 348 = some A_slices_Compact_string_string := rfl
theorem Γ_laws_markText : Γ 349 = some A_laws_markText := rfl
theorem Γ_impl_typeOf : Γ 218 = some A_impl_typeOf := rfl
theorem Γ_impl_back : Γ 211 = some A_impl_back := rfl
theorem Γ_impl_then : Γ 213 = some A_impl_then := rfl
theorem Γ_spec_l03Less : Γ 370 = some A_spec_l03Less := rfl
theorem Γ_spec_l01Cycles : Γ 285 = some A_spec_l01Cycles := rfl
theorem Γ_spec_l05At : Γ 272 = some A_spec_l05At := rfl
theorem Γ_impl_treeOfWord_1 : Γ 278 = some A_impl_treeOfWord_1 := rfl
theorem Γ_impl_wordOfTree : Γ 274 = some A_impl_wordOfTree := rfl
theorem Γ_slices_pdqsortOrdered_string : Γ 371 = some A_slices_pdqsortOrdered_string := rfl
theorem Γ_math_bits_Len : Γ 227 = some A_math_bits_Len := rfl
theorem Γ_impl_cycles : Γ 223 = some A_impl_cycles := rfl
theorem Γ_impl_descending : Γ 219 = some A_impl_descending := rfl
theorem Γ_spec_l05Below : Γ 281 = some A_spec_l05Below := rfl
theorem Γ_impl_wordAt : Γ 283 = some A_impl_wordAt := rfl
theorem Γ_slices_insertionSortOrdered_string : Γ 378 = some A_slices_insertionSortOrdered_string := rfl
theorem Γ_cmp_Less_string : Γ 384 = some A_cmp_Less_string := rfl
theorem Γ_math_bits_Len64 : Γ 245 = some A_math_bits_Len64 := rfl
theorem Γ_slices_Sort_int64_int64 : Γ 224 = some A_slices_Sort_int64_int64 := rfl
theorem Γ_slices_Reverse_int64_int64 : Γ 225 = some A_slices_Reverse_int64_int64 := rfl
theorem Γ_slices_nextPowerOfTwo : Γ 240 = some A_slices_nextPowerOfTwo := rfl
theorem Γ_slices_xorshift_Next : Γ 241 = some A_slices_xorshift_Next := rfl
theorem Γ_cmp_isNaN_string : Γ 395 = some A_cmp_isNaN_string := rfl
theorem Γ_slices_pdqsortOrdered_int64 : Γ 228 = some A_slices_pdqsortOrdered_int64 := rfl
theorem Γ_slices_insertionSortOrdered_int64 : Γ 229 = some A_slices_insertionSortOrdered_int64 := rfl
theorem Γ_slices_breakPatternsOrdered_int64 : Γ 231 = some A_slices_breakPatternsOrdered_int64 := rfl
theorem Γ_slices_choosePivotOrdered_int64 : Γ 232 = some A_slices_choosePivotOrdered_int64 := rfl
theorem Γ_slices_reverseRangeOrdered_int64 : Γ 233 = some A_slices_reverseRangeOrdered_int64 := rfl
theorem Γ_slices_partialInsertionSortOrdered_int64 : Γ 234 = some A_slices_partialInsertionSortOrdered_int64 := rfl
theorem Γ_cmp_Less_int64 : Γ 235 = some A_cmp_Less_int64 := rfl
theorem Γ_slices_partitionEqualOrdered_int64 : Γ 236 = some A_slices_partitionEqualOrdered_int64 := rfl
theorem Γ_slices_partitionOrdered_int64 : Γ 237 = some A_slices_partitionOrdered_int64 := rfl
theorem Γ_slices_medianOrdered_int64 : Γ 243 = some A_slices_medianOrdered_int64 := rfl
theorem Γ_cmp_isNaN_int64 : Γ 247 = some A_cmp_isNaN_int64 := rfl
theorem Γ_slices_order2Ordered_int64 : Γ 246 = some A_slices_order2Ordered_int64 := rfl
end Go.Am
