/- The table of functions. -/
import Derived.Test.YtbbgifoamnjhoaaAmCode0
set_option linter.unusedVariables false
namespace Go.Am
open Go
def F_laws_FnExactIsChiral : Nat := 159
def F_laws_eqDessin : Nat := 142
def F_spec_AreAlike : Nat := 157
def F_laws_toDessin : Nat := 139
def F_impl_AreAlike : Nat := 158
def F_spec_IsChiral : Nat := 160
def F_impl_IsChiral : Nat := 161
def F_spec_IsClean : Nat := 166
def F_impl_IsClean : Nat := 167
def F_laws_eqInt64S : Nat := 3
def F_laws_markInt64S : Nat := 6
def F_laws_heldInt64S : Nat := 7
def F_spec_FlagsOf : Nat := 178
def F_impl_FlagsOf : Nat := 179
def F_laws_eqFlags : Nat := 155
def F_laws_eqPlaces : Nat := 189
def F_spec_l01Is : Nat := 184
def F_spec_l07Alike : Nat := 197
def F_laws_toPlaces : Nat := 186
def F_impl_IsDessin : Nat := 187
def F_impl_canonical : Nat := 198
def F_spec_l07Mirror : Nat := 185
def F_impl_mirror : Nat := 188
def F_spec_l07Clean : Nat := 199
def F_impl_isClean : Nat := 200
def F_spec_l07Both : Nat := 202
def F_spec_l07Flags : Nat := 203
def F_laws_eqByteA32 : Nat := 196
def F_spec_l01In : Nat := 58
def F_spec_l01Perm : Nat := 206
def F_spec_l01Connected : Nat := 207
def F_spec_l07From : Nat := 214
def F_impl_IsPermutation : Nat := 209
def F_impl_reached : Nat := 210
def F_impl_rename : Nat := 216
def F_impl_naming : Nat := 215
def F_impl_compareDessins : Nat := 217
def F_spec_l01Back : Nat := 208
def F_impl_back : Nat := 211
def F_impl_typeOf : Nat := 218
def F_spec_l07Pairs : Nat := 204
def F_spec_l07Sets : Nat := 205
def F_impl_orbits : Nat := 182
def F_impl_descending : Nat := 219
def F_impl_isSize : Nat := 220
def F_impl_named : Nat := 221
def F_impl_comparePlaces : Nat := 222
def F_impl_cycles : Nat := 223
def F_slices_Sort_int64_int64 : Nat := 224
def F_slices_Reverse_int64_int64 : Nat := 225
def F_spec_l01Type : Nat := 284
def F_spec_l01Face : Nat := 192
def F_impl_face : Nat := 193
def F_slices_pdqsortOrdered_int64 : Nat := 228
def F_math_bits_Len : Nat := 227
def F_spec_l01Cycles : Nat := 285
def F_spec_l01Then : Nat := 212
def F_impl_then : Nat := 213
def F_slices_insertionSortOrdered_int64 : Nat := 229
def F_slices_breakPatternsOrdered_int64 : Nat := 231
def F_slices_choosePivotOrdered_int64 : Nat := 232
def F_slices_reverseRangeOrdered_int64 : Nat := 233
def F_slices_partialInsertionSortOrdered_int64 : Nat := 234
def F_cmp_Less_int64 : Nat := 235
def F_slices_partitionEqualOrdered_int64 : Nat := 236
def F_slices_partitionOrdered_int64 : Nat := 237
def F_math_bits_Len64 : Nat := 245
def F_slices_nextPowerOfTwo : Nat := 240
def F_slices_xorshift_Next : Nat := 241
def F_slices_medianOrdered_int64 : Nat := 243
def F_cmp_isNaN_int64 : Nat := 247
def F_slices_order2Ordered_int64 : Nat := 246
def Γ : Env := fun g =>
  match g with
  | 159 => some A_laws_FnExactIsChiral
  | 142 => some A_laws_eqDessin
  | 157 => some A_spec_AreAlike
  | 139 => some A_laws_toDessin
  | 158 => some A_impl_AreAlike
  | 160 => some A_spec_IsChiral
  | 161 => some A_impl_IsChiral
  | 166 => some A_spec_IsClean
  | 167 => some A_impl_IsClean
  | 3 => some A_laws_eqInt64S
  | 6 => some A_laws_markInt64S
  | 7 => some A_laws_heldInt64S
  | 178 => some A_spec_FlagsOf
  | 179 => some A_impl_FlagsOf
  | 155 => some A_laws_eqFlags
  | 189 => some A_laws_eqPlaces
  | 184 => some A_spec_l01Is
  | 197 => some A_spec_l07Alike
  | 186 => some A_laws_toPlaces
  | 187 => some A_impl_IsDessin
  | 198 => some A_impl_canonical
  | 185 => some A_spec_l07Mirror
  | 188 => some A_impl_mirror
  | 199 => some A_spec_l07Clean
  | 200 => some A_impl_isClean
  | 202 => some A_spec_l07Both
  | 203 => some A_spec_l07Flags
  | 196 => some A_laws_eqByteA32
  | 58 => some A_spec_l01In
  | 206 => some A_spec_l01Perm
  | 207 => some A_spec_l01Connected
  | 214 => some A_spec_l07From
  | 209 => some A_impl_IsPermutation
  | 210 => some A_impl_reached
  | 216 => some A_impl_rename
  | 215 => some A_impl_naming
  | 217 => some A_impl_compareDessins
  | 208 => some A_spec_l01Back
  | 211 => some A_impl_back
  | 218 => some A_impl_typeOf
  | 204 => some A_spec_l07Pairs
  | 205 => some A_spec_l07Sets
  | 182 => some A_impl_orbits
  | 219 => some A_impl_descending
  | 220 => some A_impl_isSize
  | 221 => some A_impl_named
  | 222 => some A_impl_comparePlaces
  | 223 => some A_impl_cycles
  | 224 => some A_slices_Sort_int64_int64
  | 225 => some A_slices_Reverse_int64_int64
  | 284 => some A_spec_l01Type
  | 192 => some A_spec_l01Face
  | 193 => some A_impl_face
  | 228 => some A_slices_pdqsortOrdered_int64
  | 227 => some A_math_bits_Len
  | 285 => some A_spec_l01Cycles
  | 212 => some A_spec_l01Then
  | 213 => some A_impl_then
  | 229 => some A_slices_insertionSortOrdered_int64
  | 231 => some A_slices_breakPatternsOrdered_int64
  | 232 => some A_slices_choosePivotOrdered_int64
  | 233 => some A_slices_reverseRangeOrdered_int64
  | 234 => some A_slices_partialInsertionSortOrdered_int64
  | 235 => some A_cmp_Less_int64
  | 236 => some A_slices_partitionEqualOrdered_int64
  | 237 => some A_slices_partitionOrdered_int64
  | 245 => some A_math_bits_Len64
  | 240 => some A_slices_nextPowerOfTwo
  | 241 => some A_slices_xorshift_Next
  | 243 => some A_slices_medianOrdered_int64
  | 247 => some A_cmp_isNaN_int64
  | 246 => some A_slices_order2Ordered_int64
  | _ => none
theorem Γ_laws_FnExactIsChiral : Γ 159 = some A_laws_FnExactIsChiral := rfl
theorem Γ_laws_eqDessin : Γ 142 = some A_laws_eqDessin := rfl
theorem Γ_spec_AreAlike : Γ 157 = some A_spec_AreAlike := rfl
theorem Γ_laws_toDessin : Γ 139 = some A_laws_toDessin := rfl
theorem Γ_impl_AreAlike : Γ 158 = some A_impl_AreAlike := rfl
theorem Γ_spec_IsChiral : Γ 160 = some A_spec_IsChiral := rfl
theorem Γ_impl_IsChiral : Γ 161 = some A_impl_IsChiral := rfl
theorem Γ_spec_IsClean : Γ 166 = some A_spec_IsClean := rfl
theorem Γ_impl_IsClean : Γ 167 = some A_impl_IsClean := rfl
theorem Γ_laws_eqInt64S : Γ 3 = some A_laws_eqInt64S := rfl
theorem Γ_laws_markInt64S : Γ 6 = some A_laws_markInt64S := rfl
theorem Γ_laws_heldInt64S : Γ 7 = some A_laws_heldInt64S := rfl
theorem Γ_spec_FlagsOf : Γ 178 = some A_spec_FlagsOf := rfl
theorem Γ_impl_FlagsOf : Γ 179 = some A_impl_FlagsOf := rfl
theorem Γ_laws_eqFlags : Γ 155 = some A_laws_eqFlags := rfl
theorem Γ_laws_eqPlaces : Γ 189 = some A_laws_eqPlaces := rfl
theorem Γ_spec_l01Is : Γ 184 = some A_spec_l01Is := rfl
theorem Γ_spec_l07Alike : Γ 197 = some A_spec_l07Alike := rfl
theorem Γ_laws_toPlaces : Γ 186 = some A_laws_toPlaces := rfl
theorem Γ_impl_IsDessin : Γ 187 = some A_impl_IsDessin := rfl
theorem Γ_impl_canonical : Γ 198 = some A_impl_canonical := rfl
theorem Γ_spec_l07Mirror : Γ 185 = some A_spec_l07Mirror := rfl
theorem Γ_impl_mirror : Γ 188 = some A_impl_mirror := rfl
theorem Γ_spec_l07Clean : Γ 199 = some A_spec_l07Clean := rfl
theorem Γ_impl_isClean : Γ 200 = some A_impl_isClean := rfl
theorem Γ_spec_l07Both : Γ 202 = some A_spec_l07Both := rfl
theorem Γ_spec_l07Flags : Γ 203 = some A_spec_l07Flags := rfl
theorem Γ_laws_eqByteA32 : Γ 196 = some A_laws_eqByteA32 := rfl
theorem Γ_spec_l01In : Γ 58 = some A_spec_l01In := rfl
theorem Γ_spec_l01Perm : Γ 206 = some A_spec_l01Perm := rfl
theorem Γ_spec_l01Connected : Γ 207 = some A_spec_l01Connected := rfl
theorem Γ_spec_l07From : Γ 214 = some A_spec_l07From := rfl
theorem Γ_impl_IsPermutation : Γ 209 = some A_impl_IsPermutation := rfl
theorem Γ_impl_reached : Γ 210 = some A_impl_reached := rfl
theorem Γ_impl_rename : Γ 216 = some A_impl_rename := rfl
theorem Γ_impl_naming : Γ 215 = some A_impl_naming := rfl
theorem Γ_impl_compareDessins : Γ 217 = some A_impl_compareDessins := rfl
theorem Γ_spec_l01Back : Γ 208 = some A_spec_l01Back := rfl
theorem Γ_impl_back : Γ 211 = some A_impl_back := rfl
theorem Γ_impl_typeOf : Γ 218 = some A_impl_typeOf := rfl
theorem Γ_spec_l07Pairs : Γ 204 = some A_spec_l07Pairs := rfl
theorem Γ_spec_l07Sets : Γ 205 = some A_spec_l07Sets := rfl
theorem Γ_impl_orbits : Γ 182 = some A_impl_orbits := rfl
theorem Γ_impl_descending : Γ 219 = some A_impl_descending := rfl
theorem Γ_impl_isSize : Γ 220 = some A_impl_isSize := rfl
theorem Γ_impl_named : Γ 221 = some A_impl_named := rfl
theorem Γ_impl_comparePlaces : Γ 222 = some A_impl_comparePlaces := rfl
theorem Γ_impl_cycles : Γ 223 = some A_impl_cycles := rfl
theorem Γ_slices_Sort_int64_int64 : Γ 224 = some A_slices_Sort_int64_int64 := rfl
theorem Γ_slices_Reverse_int64_int64 : Γ 225 = some A_slices_Reverse_int64_int64 := rfl
theorem Γ_spec_l01Type : Γ 284 = some A_spec_l01Type := rfl
theorem Γ_spec_l01Face : Γ 192 = some A_spec_l01Face := rfl
theorem Γ_impl_face : Γ 193 = some A_impl_face := rfl
theorem Γ_slices_pdqsortOrdered_int64 : Γ 228 = some A_slices_pdqsortOrdered_int64 := rfl
theorem Γ_math_bits_Len : Γ 227 = some A_math_bits_Len := rfl
theorem Γ_spec_l01Cycles : Γ 285 = some A_spec_l01Cycles := rfl
theorem Γ_spec_l01Then : Γ 212 = some A_spec_l01Then := rfl
theorem Γ_impl_then : Γ 213 = some A_impl_then := rfl
theorem Γ_slices_insertionSortOrdered_int64 : Γ 229 = some A_slices_insertionSortOrdered_int64 := rfl
theorem Γ_slices_breakPatternsOrdered_int64 : Γ 231 = some A_slices_breakPatternsOrdered_int64 := rfl
theorem Γ_slices_choosePivotOrdered_int64 : Γ 232 = some A_slices_choosePivotOrdered_int64 := rfl
theorem Γ_slices_reverseRangeOrdered_int64 : Γ 233 = some A_slices_reverseRangeOrdered_int64 := rfl
theorem Γ_slices_partialInsertionSortOrdered_int64 : Γ 234 = some A_slices_partialInsertionSortOrdered_int64 := rfl
theorem Γ_cmp_Less_int64 : Γ 235 = some A_cmp_Less_int64 := rfl
theorem Γ_slices_partitionEqualOrdered_int64 : Γ 236 = some A_slices_partitionEqualOrdered_int64 := rfl
theorem Γ_slices_partitionOrdered_int64 : Γ 237 = some A_slices_partitionOrdered_int64 := rfl
theorem Γ_math_bits_Len64 : Γ 245 = some A_math_bits_Len64 := rfl
theorem Γ_slices_nextPowerOfTwo : Γ 240 = some A_slices_nextPowerOfTwo := rfl
theorem Γ_slices_xorshift_Next : Γ 241 = some A_slices_xorshift_Next := rfl
theorem Γ_slices_medianOrdered_int64 : Γ 243 = some A_slices_medianOrdered_int64 := rfl
theorem Γ_cmp_isNaN_int64 : Γ 247 = some A_cmp_isNaN_int64 := rfl
theorem Γ_slices_order2Ordered_int64 : Γ 246 = some A_slices_order2Ordered_int64 := rfl
end Go.Am
