/- The table of functions. -/
import Derived.Test.YtdadgoboeonoaaaAmCode1
set_option linter.unusedVariables false
namespace Go.Am
open Go
def F_laws_FnExactAreFlags : Nat := 131
def F_laws_FnExactEulerOfFlags : Nat := 135
def F_laws_FnExactMirrorOf : Nat := 138
def F_laws_FnExactSubdividedOf : Nat := 143
def F_laws_FnExactIsOrientable : Nat := 146
def F_laws_FnExactExchangeOf : Nat := 149
def F_laws_FnExactTurnFlags : Nat := 152
def F_laws_FnExactAreAlike : Nat := 156
def F_laws_FnExactIsChiral : Nat := 159
def F_laws_FnExactMapOfFlags : Nat := 162
def F_laws_FnExactIsClean : Nat := 165
def F_laws_FnExactFaceDegrees : Nat := 168
def F_laws_FnExactVertexDegrees : Nat := 171
def F_laws_FnExactZigzagDegrees : Nat := 174
def F_laws_FnExactFlagsOf : Nat := 177
def F_spec_AreFlags : Nat := 133
def F_laws_toFlags : Nat := 132
def F_impl_AreFlags : Nat := 134
def F_spec_EulerOfFlags : Nat := 136
def F_impl_EulerOfFlags : Nat := 137
def F_spec_MirrorOf : Nat := 140
def F_laws_toDessin : Nat := 139
def F_impl_MirrorOf : Nat := 141
def F_laws_eqDessin : Nat := 142
def F_spec_SubdividedOf : Nat := 144
def F_impl_SubdividedOf : Nat := 145
def F_spec_IsOrientable : Nat := 147
def F_impl_IsOrientable : Nat := 148
def F_spec_ExchangeOf : Nat := 150
def F_impl_ExchangeOf : Nat := 151
def F_spec_TurnFlags : Nat := 153
def F_impl_TurnFlags : Nat := 154
def F_laws_eqFlags : Nat := 155
def F_spec_AreAlike : Nat := 157
def F_impl_AreAlike : Nat := 158
def F_spec_IsChiral : Nat := 160
def F_impl_IsChiral : Nat := 161
def F_spec_MapOfFlags : Nat := 163
def F_impl_MapOfFlags : Nat := 164
def F_spec_IsClean : Nat := 166
def F_impl_IsClean : Nat := 167
def F_spec_FaceDegrees : Nat := 169
def F_impl_FaceDegrees : Nat := 170
def F_laws_eqInt64S : Nat := 3
def F_laws_markInt64S : Nat := 6
def F_laws_heldInt64S : Nat := 7
def F_spec_VertexDegrees : Nat := 172
def F_impl_VertexDegrees : Nat := 173
def F_spec_ZigzagDegrees : Nat := 175
def F_impl_ZigzagDegrees : Nat := 176
def F_spec_FlagsOf : Nat := 178
def F_impl_FlagsOf : Nat := 179
def F_spec_l07Are : Nat := 180
def F_laws_toByteA32 : Nat := 181
def F_impl_orbits : Nat := 182
def F_spec_l07Degrees : Nat := 183
def F_spec_l01Is : Nat := 184
def F_spec_l07Mirror : Nat := 185
def F_laws_toPlaces : Nat := 186
def F_impl_IsDessin : Nat := 187
def F_impl_mirror : Nat := 188
def F_laws_eqPlaces : Nat := 189
def F_spec_l07Class : Nat := 190
def F_impl_classesOf : Nat := 191
def F_spec_l01In : Nat := 58
def F_spec_l01Face : Nat := 192
def F_impl_face : Nat := 193
def F_spec_l07Turn : Nat := 194
def F_impl_both : Nat := 195
def F_laws_eqByteA32 : Nat := 196
def F_spec_l07Alike : Nat := 197
def F_impl_canonical : Nat := 198
def F_spec_l07Clean : Nat := 199
def F_impl_isClean : Nat := 200
def F_impl_degrees : Nat := 201
def F_spec_l07Both : Nat := 202
def F_spec_l07Flags : Nat := 203
def F_spec_l07Pairs : Nat := 204
def F_spec_l07Sets : Nat := 205
def F_spec_l01Perm : Nat := 206
def F_spec_l01Connected : Nat := 207
def F_spec_l01Back : Nat := 208
def F_impl_IsPermutation : Nat := 209
def F_impl_reached : Nat := 210
def F_impl_back : Nat := 211
def F_spec_l01Then : Nat := 212
def F_impl_then : Nat := 213
def F_spec_l07From : Nat := 214
def F_impl_rename : Nat := 216
def F_impl_naming : Nat := 215
def F_impl_compareDessins : Nat := 217
def F_impl_typeOf : Nat := 218
def F_impl_descending : Nat := 219
def F_impl_isSize : Nat := 220
def F_impl_named : Nat := 221
def F_impl_comparePlaces : Nat := 222
def F_impl_cycles : Nat := 223
def F_slices_Sort_int64_int64 : Nat := 224
def F_slices_Reverse_int64_int64 : Nat := 225
def F_slices_pdqsortOrdered_int64 : Nat := 228
def F_slices_insertionSortOrdered_int64 : Nat := 229
def F_slices_heapSortOrdered_int64 : Nat := 230
def F_slices_breakPatternsOrdered_int64 : Nat := 231
def F_slices_choosePivotOrdered_int64 : Nat := 232
def F_slices_reverseRangeOrdered_int64 : Nat := 233
def F_slices_partialInsertionSortOrdered_int64 : Nat := 234
def F_slices_partitionEqualOrdered_int64 : Nat := 236
def F_slices_partitionOrdered_int64 : Nat := 237
def F_slices_siftDownOrdered_int64 : Nat := 239
def F_slices_nextPowerOfTwo : Nat := 240
def F_slices_medianAdjacentOrdered_int64 : Nat := 242
def F_slices_medianOrdered_int64 : Nat := 243
def F_slices_order2Ordered_int64 : Nat := 246
def Γ : Env := fun g =>
  match g with
  | 131 => some A_laws_FnExactAreFlags
  | 135 => some A_laws_FnExactEulerOfFlags
  | 138 => some A_laws_FnExactMirrorOf
  | 143 => some A_laws_FnExactSubdividedOf
  | 146 => some A_laws_FnExactIsOrientable
  | 149 => some A_laws_FnExactExchangeOf
  | 152 => some A_laws_FnExactTurnFlags
  | 156 => some A_laws_FnExactAreAlike
  | 159 => some A_laws_FnExactIsChiral
  | 162 => some A_laws_FnExactMapOfFlags
  | 165 => some A_laws_FnExactIsClean
  | 168 => some A_laws_FnExactFaceDegrees
  | 171 => some A_laws_FnExactVertexDegrees
  | 174 => some A_laws_FnExactZigzagDegrees
  | 177 => some A_laws_FnExactFlagsOf
  | 133 => some A_spec_AreFlags
  | 132 => some A_laws_toFlags
  | 134 => some A_impl_AreFlags
  | 136 => some A_spec_EulerOfFlags
  | 137 => some A_impl_EulerOfFlags
  | 140 => some A_spec_MirrorOf
  | 139 => some A_laws_toDessin
  | 141 => some A_impl_MirrorOf
  | 142 => some A_laws_eqDessin
  | 144 => some A_spec_SubdividedOf
  | 145 => some A_impl_SubdividedOf
  | 147 => some A_spec_IsOrientable
  | 148 => some A_impl_IsOrientable
  | 150 => some A_spec_ExchangeOf
  | 151 => some A_impl_ExchangeOf
  | 153 => some A_spec_TurnFlags
  | 154 => some A_impl_TurnFlags
  | 155 => some A_laws_eqFlags
  | 157 => some A_spec_AreAlike
  | 158 => some A_impl_AreAlike
  | 160 => some A_spec_IsChiral
  | 161 => some A_impl_IsChiral
  | 163 => some A_spec_MapOfFlags
  | 164 => some A_impl_MapOfFlags
  | 166 => some A_spec_IsClean
  | 167 => some A_impl_IsClean
  | 169 => some A_spec_FaceDegrees
  | 170 => some A_impl_FaceDegrees
  | 3 => some A_laws_eqInt64S
  | 6 => some A_laws_markInt64S
  | 7 => some A_laws_heldInt64S
  | 172 => some A_spec_VertexDegrees
  | 173 => some A_impl_VertexDegrees
  | 175 => some A_spec_ZigzagDegrees
  | 176 => some A_impl_ZigzagDegrees
  | 178 => some A_spec_FlagsOf
  | 179 => some A_impl_FlagsOf
  | 180 => some A_spec_l07Are
  | 181 => some A_laws_toByteA32
  | 182 => some A_impl_orbits
  | 183 => some A_spec_l07Degrees
  | 184 => some A_spec_l01Is
  | 185 => some A_spec_l07Mirror
  | 186 => some A_laws_toPlaces
  | 187 => some A_impl_IsDessin
  | 188 => some A_impl_mirror
  | 189 => some A_laws_eqPlaces
  | 190 => some A_spec_l07Class
  | 191 => some A_impl_classesOf
  | 58 => some A_spec_l01In
  | 192 => some A_spec_l01Face
  | 193 => some A_impl_face
  | 194 => some A_spec_l07Turn
  | 195 => some A_impl_both
  | 196 => some A_laws_eqByteA32
  | 197 => some A_spec_l07Alike
  | 198 => some A_impl_canonical
  | 199 => some A_spec_l07Clean
  | 200 => some A_impl_isClean
  | 201 => some A_impl_degrees
  | 202 => some A_spec_l07Both
  | 203 => some A_spec_l07Flags
  | 204 => some A_spec_l07Pairs
  | 205 => some A_spec_l07Sets
  | 206 => some A_spec_l01Perm
  | 207 => some A_spec_l01Connected
  | 208 => some A_spec_l01Back
  | 209 => some A_impl_IsPermutation
  | 210 => some A_impl_reached
  | 211 => some A_impl_back
  | 212 => some A_spec_l01Then
  | 213 => some A_impl_then
  | 214 => some A_spec_l07From
  | 216 => some A_impl_rename
  | 215 => some A_impl_naming
  | 217 => some A_impl_compareDessins
  | 218 => some A_impl_typeOf
  | 219 => some A_impl_descending
  | 220 => some A_impl_isSize
  | 221 => some A_impl_named
  | 222 => some A_impl_comparePlaces
  | 223 => some A_impl_cycles
  | 224 => some A_slices_Sort_int64_int64
  | 225 => some A_slices_Reverse_int64_int64
  | 228 => some A_slices_pdqsortOrdered_int64
  | 229 => some A_slices_insertionSortOrdered_int64
  | 230 => some A_slices_heapSortOrdered_int64
  | 231 => some A_slices_breakPatternsOrdered_int64
  | 232 => some A_slices_choosePivotOrdered_int64
  | 233 => some A_slices_reverseRangeOrdered_int64
  | 234 => some A_slices_partialInsertionSortOrdered_int64
  | 236 => some A_slices_partitionEqualOrdered_int64
  | 237 => some A_slices_partitionOrdered_int64
  | 239 => some A_slices_siftDownOrdered_int64
  | 240 => some A_slices_nextPowerOfTwo
  | 242 => some A_slices_medianAdjacentOrdered_int64
  | 243 => some A_slices_medianOrdered_int64
  | 246 => some A_slices_order2Ordered_int64
  | _ => none
theorem Γ_laws_FnExactAreFlags : Γ 131 = some A_laws_FnExactAreFlags := rfl
theorem Γ_laws_FnExactEulerOfFlags : Γ 135 = some A_laws_FnExactEulerOfFlags := rfl
theorem Γ_laws_FnExactMirrorOf : Γ 138 = some A_laws_FnExactMirrorOf := rfl
theorem Γ_laws_FnExactSubdividedOf : Γ 143 = some A_laws_FnExactSubdividedOf := rfl
theorem Γ_laws_FnExactIsOrientable : Γ 146 = some A_laws_FnExactIsOrientable := rfl
theorem Γ_laws_FnExactExchangeOf : Γ 149 = some A_laws_FnExactExchangeOf := rfl
theorem Γ_laws_FnExactTurnFlags : Γ 152 = some A_laws_FnExactTurnFlags := rfl
theorem Γ_laws_FnExactAreAlike : Γ 156 = some A_laws_FnExactAreAlike := rfl
theorem Γ_laws_FnExactIsChiral : Γ 159 = some A_laws_FnExactIsChiral := rfl
theorem Γ_laws_FnExactMapOfFlags : Γ 162 = some A_laws_FnExactMapOfFlags := rfl
theorem Γ_laws_FnExactIsClean : Γ 165 = some A_laws_FnExactIsClean := rfl
theorem Γ_laws_FnExactFaceDegrees : Γ 168 = some A_laws_FnExactFaceDegrees := rfl
theorem Γ_laws_FnExactVertexDegrees : Γ 171 = some A_laws_FnExactVertexDegrees := rfl
theorem Γ_laws_FnExactZigzagDegrees : Γ 174 = some A_laws_FnExactZigzagDegrees := rfl
theorem Γ_laws_FnExactFlagsOf : Γ 177 = some A_laws_FnExactFlagsOf := rfl
theorem Γ_spec_AreFlags : Γ 133 = some A_spec_AreFlags := rfl
theorem Γ_laws_toFlags : Γ 132 = some A_laws_toFlags := rfl
theorem Γ_impl_AreFlags : Γ 134 = some A_impl_AreFlags := rfl
theorem Γ_spec_EulerOfFlags : Γ 136 = some A_spec_EulerOfFlags := rfl
theorem Γ_impl_EulerOfFlags : Γ 137 = some A_impl_EulerOfFlags := rfl
theorem Γ_spec_MirrorOf : Γ 140 = some A_spec_MirrorOf := rfl
theorem Γ_laws_toDessin : Γ 139 = some A_laws_toDessin := rfl
theorem Γ_impl_MirrorOf : Γ 141 = some A_impl_MirrorOf := rfl
theorem Γ_laws_eqDessin : Γ 142 = some A_laws_eqDessin := rfl
theorem Γ_spec_SubdividedOf : Γ 144 = some A_spec_SubdividedOf := rfl
theorem Γ_impl_SubdividedOf : Γ 145 = some A_impl_SubdividedOf := rfl
theorem Γ_spec_IsOrientable : Γ 147 = some A_spec_IsOrientable := rfl
theorem Γ_impl_IsOrientable : Γ 148 = some A_impl_IsOrientable := rfl
theorem Γ_spec_ExchangeOf : Γ 150 = some A_spec_ExchangeOf := rfl
theorem Γ_impl_ExchangeOf : Γ 151 = some A_impl_ExchangeOf := rfl
theorem Γ_spec_TurnFlags : Γ 153 = some A_spec_TurnFlags := rfl
theorem Γ_impl_TurnFlags : Γ 154 = some A_impl_TurnFlags := rfl
theorem Γ_laws_eqFlags : Γ 155 = some A_laws_eqFlags := rfl
theorem Γ_spec_AreAlike : Γ 157 = some A_spec_AreAlike := rfl
theorem Γ_impl_AreAlike : Γ 158 = some A_impl_AreAlike := rfl
theorem Γ_spec_IsChiral : Γ 160 = some A_spec_IsChiral := rfl
theorem Γ_impl_IsChiral : Γ 161 = some A_impl_IsChiral := rfl
theorem Γ_spec_MapOfFlags : Γ 163 = some A_spec_MapOfFlags := rfl
theorem Γ_impl_MapOfFlags : Γ 164 = some A_impl_MapOfFlags := rfl
theorem Γ_spec_IsClean : Γ 166 = some A_spec_IsClean := rfl
theorem Γ_impl_IsClean : Γ 167 = some A_impl_IsClean := rfl
theorem Γ_spec_FaceDegrees : Γ 169 = some A_spec_FaceDegrees := rfl
theorem Γ_impl_FaceDegrees : Γ 170 = some A_impl_FaceDegrees := rfl
theorem Γ_laws_eqInt64S : Γ 3 = some A_laws_eqInt64S := rfl
theorem Γ_laws_markInt64S : Γ 6 = some A_laws_markInt64S := rfl
theorem Γ_laws_heldInt64S : Γ 7 = some A_laws_heldInt64S := rfl
theorem Γ_spec_VertexDegrees : Γ 172 = some A_spec_VertexDegrees := rfl
theorem Γ_impl_VertexDegrees : Γ 173 = some A_impl_VertexDegrees := rfl
theorem Γ_spec_ZigzagDegrees : Γ 175 = some A_spec_ZigzagDegrees := rfl
theorem Γ_impl_ZigzagDegrees : Γ 176 = some A_impl_ZigzagDegrees := rfl
theorem Γ_spec_FlagsOf : Γ 178 = some A_spec_FlagsOf := rfl
theorem Γ_impl_FlagsOf : Γ 179 = some A_impl_FlagsOf := rfl
theorem Γ_spec_l07Are : Γ 180 = some A_spec_l07Are := rfl
theorem Γ_laws_toByteA32 : Γ 181 = some A_laws_toByteA32 := rfl
theorem Γ_impl_orbits : Γ 182 = some A_impl_orbits := rfl
theorem Γ_spec_l07Degrees : Γ 183 = some A_spec_l07Degrees := rfl
theorem Γ_spec_l01Is : Γ 184 = some A_spec_l01Is := rfl
theorem Γ_spec_l07Mirror : Γ 185 = some A_spec_l07Mirror := rfl
theorem Γ_laws_toPlaces : Γ 186 = some A_laws_toPlaces := rfl
theorem Γ_impl_IsDessin : Γ 187 = some A_impl_IsDessin := rfl
theorem Γ_impl_mirror : Γ 188 = some A_impl_mirror := rfl
theorem Γ_laws_eqPlaces : Γ 189 = some A_laws_eqPlaces := rfl
theorem Γ_spec_l07Class : Γ 190 = some A_spec_l07Class := rfl
theorem Γ_impl_classesOf : Γ 191 = some A_impl_classesOf := rfl
theorem Γ_spec_l01In : Γ 58 = some A_spec_l01In := rfl
theorem Γ_spec_l01Face : Γ 192 = some A_spec_l01Face := rfl
theorem Γ_impl_face : Γ 193 = some A_impl_face := rfl
theorem Γ_spec_l07Turn : Γ 194 = some A_spec_l07Turn := rfl
theorem Γ_impl_both : Γ 195 = some A_impl_both := rfl
theorem Γ_laws_eqByteA32 : Γ 196 = some A_laws_eqByteA32 := rfl
theorem Γ_spec_l07Alike : Γ 197 = some A_spec_l07Alike := rfl
theorem Γ_impl_canonical : Γ 198 = some A_impl_canonical := rfl
theorem Γ_spec_l07Clean : Γ 199 = some A_spec_l07Clean := rfl
theorem Γ_impl_isClean : Γ 200 = some A_impl_isClean := rfl
theorem Γ_impl_degrees : Γ 201 = some A_impl_degrees := rfl
theorem Γ_spec_l07Both : Γ 202 = some A_spec_l07Both := rfl
theorem Γ_spec_l07Flags : Γ 203 = some A_spec_l07Flags := rfl
theorem Γ_spec_l07Pairs : Γ 204 = some A_spec_l07Pairs := rfl
theorem Γ_spec_l07Sets : Γ 205 = some A_spec_l07Sets := rfl
theorem Γ_spec_l01Perm : Γ 206 = some A_spec_l01Perm := rfl
theorem Γ_spec_l01Connected : Γ 207 = some A_spec_l01Connected := rfl
theorem Γ_spec_l01Back : Γ 208 = some A_spec_l01Back := rfl
theorem Γ_impl_IsPermutation : Γ 209 = some A_impl_IsPermutation := rfl
theorem Γ_impl_reached : Γ 210 = some A_impl_reached := rfl
theorem Γ_impl_back : Γ 211 = some A_impl_back := rfl
theorem Γ_spec_l01Then : Γ 212 = some A_spec_l01Then := rfl
theorem Γ_impl_then : Γ 213 = some A_impl_then := rfl
theorem Γ_spec_l07From : Γ 214 = some A_spec_l07From := rfl
theorem Γ_impl_rename : Γ 216 = some A_impl_rename := rfl
theorem Γ_impl_naming : Γ 215 = some A_impl_naming := rfl
theorem Γ_impl_compareDessins : Γ 217 = some A_impl_compareDessins := rfl
theorem Γ_impl_typeOf : Γ 218 = some A_impl_typeOf := rfl
theorem Γ_impl_descending : Γ 219 = some A_impl_descending := rfl
theorem Γ_impl_isSize : Γ 220 = some A_impl_isSize := rfl
theorem Γ_impl_named : Γ 221 = some A_impl_named := rfl
theorem Γ_impl_comparePlaces : Γ 222 = some A_impl_comparePlaces := rfl
theorem Γ_impl_cycles : Γ 223 = some A_impl_cycles := rfl
theorem Γ_slices_Sort_int64_int64 : Γ 224 = some A_slices_Sort_int64_int64 := rfl
theorem Γ_slices_Reverse_int64_int64 : Γ 225 = some A_slices_Reverse_int64_int64 := rfl
theorem Γ_slices_pdqsortOrdered_int64 : Γ 228 = some A_slices_pdqsortOrdered_int64 := rfl
theorem Γ_slices_insertionSortOrdered_int64 : Γ 229 = some A_slices_insertionSortOrdered_int64 := rfl
theorem Γ_slices_heapSortOrdered_int64 : Γ 230 = some A_slices_heapSortOrdered_int64 := rfl
theorem Γ_slices_breakPatternsOrdered_int64 : Γ 231 = some A_slices_breakPatternsOrdered_int64 := rfl
theorem Γ_slices_choosePivotOrdered_int64 : Γ 232 = some A_slices_choosePivotOrdered_int64 := rfl
theorem Γ_slices_reverseRangeOrdered_int64 : Γ 233 = some A_slices_reverseRangeOrdered_int64 := rfl
theorem Γ_slices_partialInsertionSortOrdered_int64 : Γ 234 = some A_slices_partialInsertionSortOrdered_int64 := rfl
theorem Γ_slices_partitionEqualOrdered_int64 : Γ 236 = some A_slices_partitionEqualOrdered_int64 := rfl
theorem Γ_slices_partitionOrdered_int64 : Γ 237 = some A_slices_partitionOrdered_int64 := rfl
theorem Γ_slices_siftDownOrdered_int64 : Γ 239 = some A_slices_siftDownOrdered_int64 := rfl
theorem Γ_slices_nextPowerOfTwo : Γ 240 = some A_slices_nextPowerOfTwo := rfl
theorem Γ_slices_medianAdjacentOrdered_int64 : Γ 242 = some A_slices_medianAdjacentOrdered_int64 := rfl
theorem Γ_slices_medianOrdered_int64 : Γ 243 = some A_slices_medianOrdered_int64 := rfl
theorem Γ_slices_order2Ordered_int64 : Γ 246 = some A_slices_order2Ordered_int64 := rfl
end Go.Am
