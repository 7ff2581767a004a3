/- The table of functions. -/
import Derived.Test.YtdadgoboeonoaaaAmCode0
set_option linter.unusedVariables false
namespace Go.Am
open Go
def F_laws_FnExactEulerOfFlags : Nat := 135
def F_spec_AreFlags : Nat := 133
def F_laws_toFlags : Nat := 132
def F_impl_AreFlags : Nat := 134
def F_spec_EulerOfFlags : Nat := 136
def F_impl_EulerOfFlags : Nat := 137
def F_spec_MirrorOf : Nat := 140
def F_laws_toDessin : Nat := 139
def F_impl_MirrorOf : Nat := 141
def F_laws_eqDessin : Nat := 142
def F_spec_l07Are : Nat := 180
def F_laws_toByteA32 : Nat := 181
def F_impl_orbits : Nat := 182
def F_spec_l07Degrees : Nat := 183
def F_spec_l01Is : Nat := 184
def F_spec_l07Mirror : Nat := 185
def F_laws_toPlaces : Nat := 186
def F_impl_IsDessin : Nat := 187
def F_impl_mirror : Nat := 188
def F_laws_eqPlaces : Nat := 189
def F_spec_l01In : Nat := 58
def F_spec_l01Face : Nat := 192
def F_impl_face : Nat := 193
def F_spec_l07Both : Nat := 202
def F_spec_l07Pairs : Nat := 204
def F_spec_l07Sets : Nat := 205
def F_spec_l01Perm : Nat := 206
def F_spec_l01Connected : Nat := 207
def F_spec_l01Back : Nat := 208
def F_impl_IsPermutation : Nat := 209
def F_impl_reached : Nat := 210
def F_impl_back : Nat := 211
def F_spec_l01Then : Nat := 212
def F_impl_then : Nat := 213
def F_impl_isSize : Nat := 220
def Γ : Env := fun g =>
  match g with
  | 135 => some A_laws_FnExactEulerOfFlags
  | 133 => some A_spec_AreFlags
  | 132 => some A_laws_toFlags
  | 134 => some A_impl_AreFlags
  | 136 => some A_spec_EulerOfFlags
  | 137 => some A_impl_EulerOfFlags
  | 140 => some A_spec_MirrorOf
  | 139 => some A_laws_toDessin
  | 141 => some A_impl_MirrorOf
  | 142 => some A_laws_eqDessin
  | 180 => some A_spec_l07Are
  | 181 => some A_laws_toByteA32
  | 182 => some A_impl_orbits
  | 183 => some A_spec_l07Degrees
  | 184 => some A_spec_l01Is
  | 185 => some A_spec_l07Mirror
  | 186 => some A_laws_toPlaces
  | 187 => some A_impl_IsDessin
  | 188 => some A_impl_mirror
  | 189 => some A_laws_eqPlaces
  | 58 => some A_spec_l01In
  | 192 => some A_spec_l01Face
  | 193 => some A_impl_face
  | 202 => some A_spec_l07Both
  | 204 => some A_spec_l07Pairs
  | 205 => some A_spec_l07Sets
  | 206 => some A_spec_l01Perm
  | 207 => some A_spec_l01Connected
  | 208 => some A_spec_l01Back
  | 209 => some A_impl_IsPermutation
  | 210 => some A_impl_reached
  | 211 => some A_impl_back
  | 212 => some A_spec_l01Then
  | 213 => some A_impl_then
  | 220 => some A_impl_isSize
  | _ => none
theorem Γ_laws_FnExactEulerOfFlags : Γ 135 = some A_laws_FnExactEulerOfFlags := rfl
theorem Γ_spec_AreFlags : Γ 133 = some A_spec_AreFlags := rfl
theorem Γ_laws_toFlags : Γ 132 = some A_laws_toFlags := rfl
theorem Γ_impl_AreFlags : Γ 134 = some A_impl_AreFlags := rfl
theorem Γ_spec_EulerOfFlags : Γ 136 = some A_spec_EulerOfFlags := rfl
theorem Γ_impl_EulerOfFlags : Γ 137 = some A_impl_EulerOfFlags := rfl
theorem Γ_spec_MirrorOf : Γ 140 = some A_spec_MirrorOf := rfl
theorem Γ_laws_toDessin : Γ 139 = some A_laws_toDessin := rfl
theorem Γ_impl_MirrorOf : Γ 141 = some A_impl_MirrorOf := rfl
theorem Γ_laws_eqDessin : Γ 142 = some A_laws_eqDessin := rfl
theorem Γ_spec_l07Are : Γ 180 = some A_spec_l07Are := rfl
theorem Γ_laws_toByteA32 : Γ 181 = some A_laws_toByteA32 := rfl
theorem Γ_impl_orbits : Γ 182 = some A_impl_orbits := rfl
theorem Γ_spec_l07Degrees : Γ 183 = some A_spec_l07Degrees := rfl
theorem Γ_spec_l01Is : Γ 184 = some A_spec_l01Is := rfl
theorem Γ_spec_l07Mirror : Γ 185 = some A_spec_l07Mirror := rfl
theorem Γ_laws_toPlaces : Γ 186 = some A_laws_toPlaces := rfl
theorem Γ_impl_IsDessin : Γ 187 = some A_impl_IsDessin := rfl
theorem Γ_impl_mirror : Γ 188 = some A_impl_mirror := rfl
theorem Γ_laws_eqPlaces : Γ 189 = some A_laws_eqPlaces := rfl
theorem Γ_spec_l01In : Γ 58 = some A_spec_l01In := rfl
theorem Γ_spec_l01Face : Γ 192 = some A_spec_l01Face := rfl
theorem Γ_impl_face : Γ 193 = some A_impl_face := rfl
theorem Γ_spec_l07Both : Γ 202 = some A_spec_l07Both := rfl
theorem Γ_spec_l07Pairs : Γ 204 = some A_spec_l07Pairs := rfl
theorem Γ_spec_l07Sets : Γ 205 = some A_spec_l07Sets := rfl
theorem Γ_spec_l01Perm : Γ 206 = some A_spec_l01Perm := rfl
theorem Γ_spec_l01Connected : Γ 207 = some A_spec_l01Connected := rfl
theorem Γ_spec_l01Back : Γ 208 = some A_spec_l01Back := rfl
theorem Γ_impl_IsPermutation : Γ 209 = some A_impl_IsPermutation := rfl
theorem Γ_impl_reached : Γ 210 = some A_impl_reached := rfl
theorem Γ_impl_back : Γ 211 = some A_impl_back := rfl
theorem Γ_spec_l01Then : Γ 212 = some A_spec_l01Then := rfl
theorem Γ_impl_then : Γ 213 = some A_impl_then := rfl
theorem Γ_impl_isSize : Γ 220 = some A_impl_isSize := rfl
end Go.Am
