/- The table of functions. -/
import Derived.Test.YtbbgifoamnjhoaaAmCode0
set_option linter.unusedVariables false
namespace Go.Am
open Go
def F_laws_FnExactSymmetryOf : Nat := 263
def F_laws_eqDessin : Nat := 142
def F_laws_toDessin : Nat := 139
def F_laws_eqInt64S : Nat := 3
def F_laws_markInt64S : Nat := 6
def F_laws_heldInt64S : Nat := 7
def F_spec_IsTree : Nat := 252
def F_impl_IsTree : Nat := 253
def F_spec_WordOfTree : Nat := 255
def F_impl_WordOfTree : Nat := 256
def F_spec_CanonicalWord : Nat := 261
def F_impl_CanonicalWord : Nat := 262
def F_spec_SymmetryOf : Nat := 264
def F_impl_SymmetryOf : Nat := 265
def F_laws_eqPlaces : Nat := 189
def F_spec_l01Is : Nat := 184
def F_laws_toPlaces : Nat := 186
def F_impl_IsDessin : Nat := 187
def F_spec_l07Mirror : Nat := 185
def F_impl_mirror : Nat := 188
def F_spec_l07Clean : Nat := 199
def F_impl_isClean : Nat := 200
def F_spec_l05Tree : Nat := 270
def F_impl_isTree : Nat := 271
def F_spec_l01In : Nat := 58
def F_spec_l05At : Nat := 272
def F_impl_treeCode : Nat := 273
def F_impl_wordOfTree : Nat := 274
def F_spec_l05Code : Nat := 275
def F_spec_l05Canonical : Nat := 276
def F_impl_leastWord : Nat := 277
def F_spec_l01Perm : Nat := 206
def F_spec_l01Connected : Nat := 207
def F_impl_IsPermutation : Nat := 209
def F_impl_reached : Nat := 210
def F_spec_l01Back : Nat := 208
def F_impl_back : Nat := 211
def F_impl_typeOf : Nat := 218
def F_impl_descending : Nat := 219
def F_spec_l01Passport : Nat := 279
def F_impl_passport : Nat := 280
def F_spec_l05Below : Nat := 281
def F_impl_isDart : Nat := 282
def F_impl_wordAt : Nat := 283
def F_impl_isSize : Nat := 220
def F_impl_cycles : Nat := 223
def F_slices_Sort_int64_int64 : Nat := 224
def F_slices_Reverse_int64_int64 : Nat := 225
def F_spec_l01Type : Nat := 284
def F_spec_l01Face : Nat := 192
def F_impl_face : Nat := 193
def F_slices_pdqsortOrdered_int64 : Nat := 228
def F_math_bits_Len : Nat := 227
def F_spec_l01Cycles : Nat := 285
def F_spec_l01Then : Nat := 212
def F_impl_then : Nat := 213
def F_slices_insertionSortOrdered_int64 : Nat := 229
def F_slices_breakPatternsOrdered_int64 : Nat := 231
def F_slices_choosePivotOrdered_int64 : Nat := 232
def F_slices_reverseRangeOrdered_int64 : Nat := 233
def F_slices_partialInsertionSortOrdered_int64 : Nat := 234
def F_cmp_Less_int64 : Nat := 235
def F_slices_partitionEqualOrdered_int64 : Nat := 236
def F_slices_partitionOrdered_int64 : Nat := 237
def F_math_bits_Len64 : Nat := 245
def F_slices_nextPowerOfTwo : Nat := 240
def F_slices_xorshift_Next : Nat := 241
def F_slices_medianOrdered_int64 : Nat := 243
def F_cmp_isNaN_int64 : Nat := 247
def F_slices_order2Ordered_int64 : Nat := 246
def Γ : Env := fun g =>
  match g with
  | 263 => some A_laws_FnExactSymmetryOf
  | 142 => some A_laws_eqDessin
  | 139 => some A_laws_toDessin
  | 3 => some A_laws_eqInt64S
  | 6 => some A_laws_markInt64S
  | 7 => some A_laws_heldInt64S
  | 252 => some A_spec_IsTree
  | 253 => some A_impl_IsTree
  | 255 => some A_spec_WordOfTree
  | 256 => some A_impl_WordOfTree
  | 261 => some A_spec_CanonicalWord
  | 262 => some A_impl_CanonicalWord
  | 264 => some A_spec_SymmetryOf
  | 265 => some A_impl_SymmetryOf
  | 189 => some A_laws_eqPlaces
  | 184 => some A_spec_l01Is
  | 186 => some A_laws_toPlaces
  | 187 => some A_impl_IsDessin
  | 185 => some A_spec_l07Mirror
  | 188 => some A_impl_mirror
  | 199 => some A_spec_l07Clean
  | 200 => some A_impl_isClean
  | 270 => some A_spec_l05Tree
  | 271 => some A_impl_isTree
  | 58 => some A_spec_l01In
  | 272 => some A_spec_l05At
  | 273 => some A_impl_treeCode
  | 274 => some A_impl_wordOfTree
  | 275 => some A_spec_l05Code
  | 276 => some A_spec_l05Canonical
  | 277 => some A_impl_leastWord
  | 206 => some A_spec_l01Perm
  | 207 => some A_spec_l01Connected
  | 209 => some A_impl_IsPermutation
  | 210 => some A_impl_reached
  | 208 => some A_spec_l01Back
  | 211 => some A_impl_back
  | 218 => some A_impl_typeOf
  | 219 => some A_impl_descending
  | 279 => some A_spec_l01Passport
  | 280 => some A_impl_passport
  | 281 => some A_spec_l05Below
  | 282 => some A_impl_isDart
  | 283 => some A_impl_wordAt
  | 220 => some A_impl_isSize
  | 223 => some A_impl_cycles
  | 224 => some A_slices_Sort_int64_int64
  | 225 => some A_slices_Reverse_int64_int64
  | 284 => some A_spec_l01Type
  | 192 => some A_spec_l01Face
  | 193 => some A_impl_face
  | 228 => some A_slices_pdqsortOrdered_int64
  | 227 => some A_math_bits_Len
  | 285 => some A_spec_l01Cycles
  | 212 => some A_spec_l01Then
  | 213 => some A_impl_then
  | 229 => some A_slices_insertionSortOrdered_int64
  | 231 => some A_slices_breakPatternsOrdered_int64
  | 232 => some A_slices_choosePivotOrdered_int64
  | 233 => some A_slices_reverseRangeOrdered_int64
  | 234 => some A_slices_partialInsertionSortOrdered_int64
  | 235 => some A_cmp_Less_int64
  | 236 => some A_slices_partitionEqualOrdered_int64
  | 237 => some A_slices_partitionOrdered_int64
  | 245 => some A_math_bits_Len64
  | 240 => some A_slices_nextPowerOfTwo
  | 241 => some A_slices_xorshift_Next
  | 243 => some A_slices_medianOrdered_int64
  | 247 => some A_cmp_isNaN_int64
  | 246 => some A_slices_order2Ordered_int64
  | _ => none
theorem Γ_laws_FnExactSymmetryOf : Γ 263 = some A_laws_FnExactSymmetryOf := rfl
theorem Γ_laws_eqDessin : Γ 142 = some A_laws_eqDessin := rfl
theorem Γ_laws_toDessin : Γ 139 = some A_laws_toDessin := rfl
theorem Γ_laws_eqInt64S : Γ 3 = some A_laws_eqInt64S := rfl
theorem Γ_laws_markInt64S : Γ 6 = some A_laws_markInt64S := rfl
theorem Γ_laws_heldInt64S : Γ 7 = some A_laws_heldInt64S := rfl
theorem Γ_spec_IsTree : Γ 252 = some A_spec_IsTree := rfl
theorem Γ_impl_IsTree : Γ 253 = some A_impl_IsTree := rfl
theorem Γ_spec_WordOfTree : Γ 255 = some A_spec_WordOfTree := rfl
theorem Γ_impl_WordOfTree : Γ 256 = some A_impl_WordOfTree := rfl
theorem Γ_spec_CanonicalWord : Γ 261 = some A_spec_CanonicalWord := rfl
theorem Γ_impl_CanonicalWord : Γ 262 = some A_impl_CanonicalWord := rfl
theorem Γ_spec_SymmetryOf : Γ 264 = some A_spec_SymmetryOf := rfl
theorem Γ_impl_SymmetryOf : Γ 265 = some A_impl_SymmetryOf := rfl
theorem Γ_laws_eqPlaces : Γ 189 = some A_laws_eqPlaces := rfl
theorem Γ_spec_l01Is : Γ 184 = some A_spec_l01Is := rfl
theorem Γ_laws_toPlaces : Γ 186 = some A_laws_toPlaces := rfl
theorem Γ_impl_IsDessin : Γ 187 = some A_impl_IsDessin := rfl
theorem Γ_spec_l07Mirror : Γ 185 = some A_spec_l07Mirror := rfl
theorem Γ_impl_mirror : Γ 188 = some A_impl_mirror := rfl
theorem Γ_spec_l07Clean : Γ 199 = some A_spec_l07Clean := rfl
theorem Γ_impl_isClean : Γ 200 = some A_impl_isClean := rfl
theorem Γ_spec_l05Tree : Γ 270 = some A_spec_l05Tree := rfl
theorem Γ_impl_isTree : Γ 271 = some A_impl_isTree := rfl
theorem Γ_spec_l01In : Γ 58 = some A_spec_l01In := rfl
theorem Γ_spec_l05At : Γ 272 = some A_spec_l05At := rfl
theorem Γ_impl_treeCode : Γ 273 = some A_impl_treeCode := rfl
theorem Γ_impl_wordOfTree : Γ 274 = some A_impl_wordOfTree := rfl
theorem Γ_spec_l05Code : Γ 275 = some A_spec_l05Code := rfl
theorem Γ_spec_l05Canonical : Γ 276 = some A_spec_l05Canonical := rfl
theorem Γ_impl_leastWord : Γ 277 = some A_impl_leastWord := rfl
theorem Γ_spec_l01Perm : Γ 206 = some A_spec_l01Perm := rfl
theorem Γ_spec_l01Connected : Γ 207 = some A_spec_l01Connected := rfl
theorem Γ_impl_IsPermutation : Γ 209 = some A_impl_IsPermutation := rfl
theorem Γ_impl_reached : Γ 210 = some A_impl_reached := rfl
theorem Γ_spec_l01Back : Γ 208 = some A_spec_l01Back := rfl
theorem Γ_impl_back : Γ 211 = some A_impl_back := rfl
theorem Γ_impl_typeOf : Γ 218 = some A_impl_typeOf := rfl
theorem Γ_impl_descending : Γ 219 = some A_impl_descending := rfl
theorem Γ_spec_l01Passport : Γ 279 = some A_spec_l01Passport := rfl
theorem Γ_impl_passport : Γ 280 = some A_impl_passport := rfl
theorem Γ_spec_l05Below : Γ 281 = some A_spec_l05Below := rfl
theorem Γ_impl_isDart : Γ 282 = some A_impl_isDart := rfl
theorem Γ_impl_wordAt : Γ 283 = some A_impl_wordAt := rfl
theorem Γ_impl_isSize : Γ 220 = some A_impl_isSize := rfl
theorem Γ_impl_cycles : Γ 223 = some A_impl_cycles := rfl
theorem Γ_slices_Sort_int64_int64 : Γ 224 = some A_slices_Sort_int64_int64 := rfl
theorem Γ_slices_Reverse_int64_int64 : Γ 225 = some A_slices_Reverse_int64_int64 := rfl
theorem Γ_spec_l01Type : Γ 284 = some A_spec_l01Type := rfl
theorem Γ_spec_l01Face : Γ 192 = some A_spec_l01Face := rfl
theorem Γ_impl_face : Γ 193 = some A_impl_face := rfl
theorem Γ_slices_pdqsortOrdered_int64 : Γ 228 = some A_slices_pdqsortOrdered_int64 := rfl
theorem Γ_math_bits_Len : Γ 227 = some A_math_bits_Len := rfl
theorem Γ_spec_l01Cycles : Γ 285 = some A_spec_l01Cycles := rfl
theorem Γ_spec_l01Then : Γ 212 = some A_spec_l01Then := rfl
theorem Γ_impl_then : Γ 213 = some A_impl_then := rfl
theorem Γ_slices_insertionSortOrdered_int64 : Γ 229 = some A_slices_insertionSortOrdered_int64 := rfl
theorem Γ_slices_breakPatternsOrdered_int64 : Γ 231 = some A_slices_breakPatternsOrdered_int64 := rfl
theorem Γ_slices_choosePivotOrdered_int64 : Γ 232 = some A_slices_choosePivotOrdered_int64 := rfl
theorem Γ_slices_reverseRangeOrdered_int64 : Γ 233 = some A_slices_reverseRangeOrdered_int64 := rfl
theorem Γ_slices_partialInsertionSortOrdered_int64 : Γ 234 = some A_slices_partialInsertionSortOrdered_int64 := rfl
theorem Γ_cmp_Less_int64 : Γ 235 = some A_cmp_Less_int64 := rfl
theorem Γ_slices_partitionEqualOrdered_int64 : Γ 236 = some A_slices_partitionEqualOrdered_int64 := rfl
theorem Γ_slices_partitionOrdered_int64 : Γ 237 = some A_slices_partitionOrdered_int64 := rfl
theorem Γ_math_bits_Len64 : Γ 245 = some A_math_bits_Len64 := rfl
theorem Γ_slices_nextPowerOfTwo : Γ 240 = some A_slices_nextPowerOfTwo := rfl
theorem Γ_slices_xorshift_Next : Γ 241 = some A_slices_xorshift_Next := rfl
theorem Γ_slices_medianOrdered_int64 : Γ 243 = some A_slices_medianOrdered_int64 := rfl
theorem Γ_cmp_isNaN_int64 : Γ 247 = some A_cmp_isNaN_int64 := rfl
theorem Γ_slices_order2Ordered_int64 : Γ 246 = some A_slices_order2Ordered_int64 := rfl
end Go.Am
