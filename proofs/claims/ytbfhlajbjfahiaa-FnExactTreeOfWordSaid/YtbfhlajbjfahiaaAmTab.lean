/- The table of functions. -/
import Derived.Test.YtbfhlajbjfahiaaAmCode0
set_option linter.unusedVariables false
namespace Go.Am
open Go
def F_laws_FnExactTreeOfWord : Nat := 248
def F_spec_TreeOfWord : Nat := 249
def F_impl_TreeOfWord : Nat := 250
def F_laws_eqDessin : Nat := 142
def F_spec_l05Word : Nat := 266
def F_spec_l05Made : Nat := 267
def F_impl_isBrackets : Nat := 268
def F_impl_treeOfWord : Nat := 269
def F_laws_eqPlaces : Nat := 189
def F_impl_treeOfWord_1 : Nat := 278
def Γ : Env := fun g =>
  match g with
  | 248 => some A_laws_FnExactTreeOfWord
  | 249 => some A_spec_TreeOfWord
  | 250 => some A_impl_TreeOfWord
  | 142 => some A_laws_eqDessin
  | 266 => some A_spec_l05Word
  | 267 => some A_spec_l05Made
  | 268 => some A_impl_isBrackets
  | 269 => some A_impl_treeOfWord
  | 189 => some A_laws_eqPlaces
  | 278 => some A_impl_treeOfWord_1
  | _ => none
theorem Γ_laws_FnExactTreeOfWord : Γ 248 = some A_laws_FnExactTreeOfWord := rfl
theorem Γ_spec_TreeOfWord : Γ 249 = some A_spec_TreeOfWord := rfl
theorem Γ_impl_TreeOfWord : Γ 250 = some A_impl_TreeOfWord := rfl
theorem Γ_laws_eqDessin : Γ 142 = some A_laws_eqDessin := rfl
theorem Γ_spec_l05Word : Γ 266 = some A_spec_l05Word := rfl
theorem Γ_spec_l05Made : Γ 267 = some A_spec_l05Made := rfl
theorem Γ_impl_isBrackets : Γ 268 = some A_impl_isBrackets := rfl
theorem Γ_impl_treeOfWord : Γ 269 = some A_impl_treeOfWord := rfl
theorem Γ_laws_eqPlaces : Γ 189 = some A_laws_eqPlaces := rfl
theorem Γ_impl_treeOfWord_1 : Γ 278 = some A_impl_treeOfWord_1 := rfl
end Go.Am
