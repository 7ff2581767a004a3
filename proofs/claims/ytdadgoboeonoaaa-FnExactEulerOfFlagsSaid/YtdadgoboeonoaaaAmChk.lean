/- The program's functions are those of the table: by the translation, checked by reckoning. -/
import Derived.Test.YtdadgoboeonoaaaProg
import Derived.KernelRfl
import Derived.Test.YtdadgoboeonoaaaAmTab
import Derived.Test.YtdadgoboeonoaaaAmSound
set_option linter.unusedVariables false
set_option maxRecDepth 100000
namespace Go.Am
open Go
def μs : List (Nat × Nat) := [(3, 131), (4, 135), (5, 138), (6, 143), (7, 146), (8, 149), (9, 152), (10, 156), (11, 159), (12, 162), (13, 165), (14, 168), (15, 171), (16, 174), (17, 177), (18, 133), (19, 132), (20, 134), (21, 136), (22, 137), (23, 140), (24, 139), (25, 141), (26, 142), (27, 144), (28, 145), (29, 147), (30, 148), (31, 150), (32, 151), (33, 153), (34, 154), (35, 155), (36, 157), (37, 158), (38, 160), (39, 161), (40, 163), (41, 164), (42, 166), (43, 167), (44, 169), (45, 170), (46, 3), (47, 6), (48, 7), (49, 172), (50, 173), (51, 175), (52, 176), (53, 178), (54, 179), (55, 180), (56, 181), (57, 182), (58, 183), (59, 184), (60, 185), (61, 186), (62, 187), (63, 188), (64, 189), (65, 190), (66, 191), (67, 58), (68, 192), (69, 193), (70, 194), (71, 195), (72, 196), (73, 197), (74, 198), (75, 199), (76, 200), (77, 201), (78, 202), (79, 203), (80, 204), (81, 205), (82, 206), (83, 207), (84, 208), (85, 209), (86, 210), (87, 211), (88, 212), (89, 213), (90, 214), (91, 216), (92, 215), (93, 217), (94, 218), (95, 219), (96, 220), (97, 221), (98, 222), (99, 223), (100, 224), (101, 225), (102, 226), (103, 228), (104, 227), (105, 238), (106, 229), (107, 230), (108, 231), (109, 232), (110, 233), (111, 234), (112, 235), (113, 236), (114, 237), (115, 244), (116, 245), (117, 239), (118, 240), (119, 241), (120, 242), (121, 243), (122, 247), (123, 246)]
def μ : Fun := fun q => (μs.find? fun p => p.1 == q).map (·.2)
def φ : Fun := fun g => (μs.find? fun p => p.2 == g).map (·.1)
theorem tr_laws_FnExactEulerOfFlags : trFunc Go.Proofs.Try.prog μ φ 4 = some A_laws_FnExactEulerOfFlags := by kernel_rfl
theorem tr_spec_AreFlags : trFunc Go.Proofs.Try.prog μ φ 18 = some A_spec_AreFlags := by kernel_rfl
theorem tr_laws_toFlags : trFunc Go.Proofs.Try.prog μ φ 19 = some A_laws_toFlags := by kernel_rfl
theorem tr_impl_AreFlags : trFunc Go.Proofs.Try.prog μ φ 20 = some A_impl_AreFlags := by kernel_rfl
theorem tr_spec_EulerOfFlags : trFunc Go.Proofs.Try.prog μ φ 21 = some A_spec_EulerOfFlags := by kernel_rfl
theorem tr_impl_EulerOfFlags : trFunc Go.Proofs.Try.prog μ φ 22 = some A_impl_EulerOfFlags := by kernel_rfl
theorem tr_spec_MirrorOf : trFunc Go.Proofs.Try.prog μ φ 23 = some A_spec_MirrorOf := by kernel_rfl
theorem tr_laws_toDessin : trFunc Go.Proofs.Try.prog μ φ 24 = some A_laws_toDessin := by kernel_rfl
theorem tr_impl_MirrorOf : trFunc Go.Proofs.Try.prog μ φ 25 = some A_impl_MirrorOf := by kernel_rfl
theorem tr_laws_eqDessin : trFunc Go.Proofs.Try.prog μ φ 26 = some A_laws_eqDessin := by kernel_rfl
theorem tr_spec_l07Are : trFunc Go.Proofs.Try.prog μ φ 55 = some A_spec_l07Are := by kernel_rfl
theorem tr_laws_toByteA32 : trFunc Go.Proofs.Try.prog μ φ 56 = some A_laws_toByteA32 := by kernel_rfl
theorem tr_impl_orbits : trFunc Go.Proofs.Try.prog μ φ 57 = some A_impl_orbits := by kernel_rfl
theorem tr_spec_l07Degrees : trFunc Go.Proofs.Try.prog μ φ 58 = some A_spec_l07Degrees := by kernel_rfl
theorem tr_spec_l01Is : trFunc Go.Proofs.Try.prog μ φ 59 = some A_spec_l01Is := by kernel_rfl
theorem tr_spec_l07Mirror : trFunc Go.Proofs.Try.prog μ φ 60 = some A_spec_l07Mirror := by kernel_rfl
theorem tr_laws_toPlaces : trFunc Go.Proofs.Try.prog μ φ 61 = some A_laws_toPlaces := by kernel_rfl
theorem tr_impl_IsDessin : trFunc Go.Proofs.Try.prog μ φ 62 = some A_impl_IsDessin := by kernel_rfl
theorem tr_impl_mirror : trFunc Go.Proofs.Try.prog μ φ 63 = some A_impl_mirror := by kernel_rfl
theorem tr_laws_eqPlaces : trFunc Go.Proofs.Try.prog μ φ 64 = some A_laws_eqPlaces := by kernel_rfl
theorem tr_spec_l01In : trFunc Go.Proofs.Try.prog μ φ 67 = some A_spec_l01In := by kernel_rfl
theorem tr_spec_l01Face : trFunc Go.Proofs.Try.prog μ φ 68 = some A_spec_l01Face := by kernel_rfl
theorem tr_impl_face : trFunc Go.Proofs.Try.prog μ φ 69 = some A_impl_face := by kernel_rfl
theorem tr_spec_l07Both : trFunc Go.Proofs.Try.prog μ φ 78 = some A_spec_l07Both := by kernel_rfl
theorem tr_spec_l07Pairs : trFunc Go.Proofs.Try.prog μ φ 80 = some A_spec_l07Pairs := by kernel_rfl
theorem tr_spec_l07Sets : trFunc Go.Proofs.Try.prog μ φ 81 = some A_spec_l07Sets := by kernel_rfl
theorem tr_spec_l01Perm : trFunc Go.Proofs.Try.prog μ φ 82 = some A_spec_l01Perm := by kernel_rfl
theorem tr_spec_l01Connected : trFunc Go.Proofs.Try.prog μ φ 83 = some A_spec_l01Connected := by kernel_rfl
theorem tr_spec_l01Back : trFunc Go.Proofs.Try.prog μ φ 84 = some A_spec_l01Back := by kernel_rfl
theorem tr_impl_IsPermutation : trFunc Go.Proofs.Try.prog μ φ 85 = some A_impl_IsPermutation := by kernel_rfl
theorem tr_impl_reached : trFunc Go.Proofs.Try.prog μ φ 86 = some A_impl_reached := by kernel_rfl
theorem tr_impl_back : trFunc Go.Proofs.Try.prog μ φ 87 = some A_impl_back := by kernel_rfl
theorem tr_spec_l01Then : trFunc Go.Proofs.Try.prog μ φ 88 = some A_spec_l01Then := by kernel_rfl
theorem tr_impl_then : trFunc Go.Proofs.Try.prog μ φ 89 = some A_impl_then := by kernel_rfl
theorem tr_impl_isSize : trFunc Go.Proofs.Try.prog μ φ 96 = some A_impl_isSize := by kernel_rfl
theorem hΓ : ∀ g fn q, Γ g = some fn → φ g = some q → trFunc Go.Proofs.Try.prog μ φ q = some fn := by
  intro g fn q h1 h2
  match g, h1, h2 with
  | 135, h1, h2 =>
    cases h1
    have h : φ 135 = some 4 := by kernel_rfl
    rw [h] at h2
    cases h2
    exact tr_laws_FnExactEulerOfFlags
  | 133, h1, h2 =>
    cases h1
    have h : φ 133 = some 18 := by kernel_rfl
    rw [h] at h2
    cases h2
    exact tr_spec_AreFlags
  | 132, h1, h2 =>
    cases h1
    have h : φ 132 = some 19 := by kernel_rfl
    rw [h] at h2
    cases h2
    exact tr_laws_toFlags
  | 134, h1, h2 =>
    cases h1
    have h : φ 134 = some 20 := by kernel_rfl
    rw [h] at h2
    cases h2
    exact tr_impl_AreFlags
  | 136, h1, h2 =>
    cases h1
    have h : φ 136 = some 21 := by kernel_rfl
    rw [h] at h2
    cases h2
    exact tr_spec_EulerOfFlags
  | 137, h1, h2 =>
    cases h1
    have h : φ 137 = some 22 := by kernel_rfl
    rw [h] at h2
    cases h2
    exact tr_impl_EulerOfFlags
  | 140, h1, h2 =>
    cases h1
    have h : φ 140 = some 23 := by kernel_rfl
    rw [h] at h2
    cases h2
    exact tr_spec_MirrorOf
  | 139, h1, h2 =>
    cases h1
    have h : φ 139 = some 24 := by kernel_rfl
    rw [h] at h2
    cases h2
    exact tr_laws_toDessin
  | 141, h1, h2 =>
    cases h1
    have h : φ 141 = some 25 := by kernel_rfl
    rw [h] at h2
    cases h2
    exact tr_impl_MirrorOf
  | 142, h1, h2 =>
    cases h1
    have h : φ 142 = some 26 := by kernel_rfl
    rw [h] at h2
    cases h2
    exact tr_laws_eqDessin
  | 180, h1, h2 =>
    cases h1
    have h : φ 180 = some 55 := by kernel_rfl
    rw [h] at h2
    cases h2
    exact tr_spec_l07Are
  | 181, h1, h2 =>
    cases h1
    have h : φ 181 = some 56 := by kernel_rfl
    rw [h] at h2
    cases h2
    exact tr_laws_toByteA32
  | 182, h1, h2 =>
    cases h1
    have h : φ 182 = some 57 := by kernel_rfl
    rw [h] at h2
    cases h2
    exact tr_impl_orbits
  | 183, h1, h2 =>
    cases h1
    have h : φ 183 = some 58 := by kernel_rfl
    rw [h] at h2
    cases h2
    exact tr_spec_l07Degrees
  | 184, h1, h2 =>
    cases h1
    have h : φ 184 = some 59 := by kernel_rfl
    rw [h] at h2
    cases h2
    exact tr_spec_l01Is
  | 185, h1, h2 =>
    cases h1
    have h : φ 185 = some 60 := by kernel_rfl
    rw [h] at h2
    cases h2
    exact tr_spec_l07Mirror
  | 186, h1, h2 =>
    cases h1
    have h : φ 186 = some 61 := by kernel_rfl
    rw [h] at h2
    cases h2
    exact tr_laws_toPlaces
  | 187, h1, h2 =>
    cases h1
    have h : φ 187 = some 62 := by kernel_rfl
    rw [h] at h2
    cases h2
    exact tr_impl_IsDessin
  | 188, h1, h2 =>
    cases h1
    have h : φ 188 = some 63 := by kernel_rfl
    rw [h] at h2
    cases h2
    exact tr_impl_mirror
  | 189, h1, h2 =>
    cases h1
    have h : φ 189 = some 64 := by kernel_rfl
    rw [h] at h2
    cases h2
    exact tr_laws_eqPlaces
  | 58, h1, h2 =>
    cases h1
    have h : φ 58 = some 67 := by kernel_rfl
    rw [h] at h2
    cases h2
    exact tr_spec_l01In
  | 192, h1, h2 =>
    cases h1
    have h : φ 192 = some 68 := by kernel_rfl
    rw [h] at h2
    cases h2
    exact tr_spec_l01Face
  | 193, h1, h2 =>
    cases h1
    have h : φ 193 = some 69 := by kernel_rfl
    rw [h] at h2
    cases h2
    exact tr_impl_face
  | 202, h1, h2 =>
    cases h1
    have h : φ 202 = some 78 := by kernel_rfl
    rw [h] at h2
    cases h2
    exact tr_spec_l07Both
  | 204, h1, h2 =>
    cases h1
    have h : φ 204 = some 80 := by kernel_rfl
    rw [h] at h2
    cases h2
    exact tr_spec_l07Pairs
  | 205, h1, h2 =>
    cases h1
    have h : φ 205 = some 81 := by kernel_rfl
    rw [h] at h2
    cases h2
    exact tr_spec_l07Sets
  | 206, h1, h2 =>
    cases h1
    have h : φ 206 = some 82 := by kernel_rfl
    rw [h] at h2
    cases h2
    exact tr_spec_l01Perm
  | 207, h1, h2 =>
    cases h1
    have h : φ 207 = some 83 := by kernel_rfl
    rw [h] at h2
    cases h2
    exact tr_spec_l01Connected
  | 208, h1, h2 =>
    cases h1
    have h : φ 208 = some 84 := by kernel_rfl
    rw [h] at h2
    cases h2
    exact tr_spec_l01Back
  | 209, h1, h2 =>
    cases h1
    have h : φ 209 = some 85 := by kernel_rfl
    rw [h] at h2
    cases h2
    exact tr_impl_IsPermutation
  | 210, h1, h2 =>
    cases h1
    have h : φ 210 = some 86 := by kernel_rfl
    rw [h] at h2
    cases h2
    exact tr_impl_reached
  | 211, h1, h2 =>
    cases h1
    have h : φ 211 = some 87 := by kernel_rfl
    rw [h] at h2
    cases h2
    exact tr_impl_back
  | 212, h1, h2 =>
    cases h1
    have h : φ 212 = some 88 := by kernel_rfl
    rw [h] at h2
    cases h2
    exact tr_spec_l01Then
  | 213, h1, h2 =>
    cases h1
    have h : φ 213 = some 89 := by kernel_rfl
    rw [h] at h2
    cases h2
    exact tr_impl_then
  | 220, h1, h2 =>
    cases h1
    have h : φ 220 = some 96 := by kernel_rfl
    rw [h] at h2
    cases h2
    exact tr_impl_isSize
end Go.Am
