/- The table of functions. -/
import Derived.Test.YtbfhlajbjfahiaaAmCode0
set_option linter.unusedVariables false
namespace Go.Am
open Go
def F_laws_FnTypes : Nat := 307
def F_laws_big : Nat := 41
def F_laws_likeInts : Nat := 43
def F_spec_DrawIsType : Nat := 308
def F_impl_IsType : Nat := 309
def F_spec_IsType : Nat := 310
def F_spec_DrawTypesOf : Nat := 311
def F_impl_TypesOf : Nat := 312
def F_spec_TypesOf : Nat := 313
def F_laws_lists9 : Nat := 51
def F_spec_DrawIsPassport : Nat := 314
def F_impl_IsPassport : Nat := 315
def F_spec_IsPassport : Nat := 316
def F_impl_EulerOfPassport : Nat := 23
def F_spec_EulerOfPassport : Nat := 22
def F_impl_CentraliserOf : Nat := 317
def F_spec_CentraliserOf : Nat := 318
def F_laws_factorial9 : Nat := 319
def F_spec_l01From : Nat := 97
def F_spec_l01Is : Nat := 184
def F_spec_l04DrawType : Nat := 350
def F_spec_l01Next : Nat := 102
def F_spec_l01Pick : Nat := 98
def F_impl_sumOfType : Nat := 68
def F_spec_l04Type : Nat := 106
def F_impl_isSize : Nat := 220
def F_impl_types : Nat := 351
def F_spec_l01In : Nat := 58
def F_spec_l04Types : Nat := 352
def F_spec_l04Draw : Nat := 353
def F_impl_sumOfPassport : Nat := 80
def F_spec_l04Is : Nat := 78
def F_impl_eulerOf : Nat := 81
def F_spec_l04Sum : Nat := 79
def F_impl_centraliser : Nat := 354
def F_spec_l04Centraliser : Nat := 338
def F_impl_repeated : Nat := 70
def F_spec_l01Type : Nat := 284
def F_spec_l01DrawPlaces : Nat := 356
def F_spec_l01Perm : Nat := 206
def F_spec_l01Draw : Nat := 372
def F_spec_l01Same : Nat := 364
def F_spec_l01Connected : Nat := 207
def F_spec_l01Face : Nat := 192
def F_spec_l01Own : Nat := 111
def F_spec_l01Cycles : Nat := 285
def F_spec_l01Pairs : Nat := 387
def F_spec_l01Star : Nat := 388
def F_spec_l01Back : Nat := 208
def F_spec_l01Then : Nat := 212
def F_spec_l01Turn : Nat := 396
def Γ : Env := fun g =>
  match g with
  | 307 => some A_laws_FnTypes
  | 41 => some A_laws_big
  | 43 => some A_laws_likeInts
  | 308 => some A_spec_DrawIsType
  | 309 => some A_impl_IsType
  | 310 => some A_spec_IsType
  | 311 => some A_spec_DrawTypesOf
  | 312 => some A_impl_TypesOf
  | 313 => some A_spec_TypesOf
  | 51 => some A_laws_lists9
  | 314 => some A_spec_DrawIsPassport
  | 315 => some A_impl_IsPassport
  | 316 => some A_spec_IsPassport
  | 23 => some A_impl_EulerOfPassport
  | 22 => some A_spec_EulerOfPassport
  | 317 => some A_impl_CentraliserOf
  | 318 => some A_spec_CentraliserOf
  | 319 => some A_laws_factorial9
  | 97 => some A_spec_l01From
  | 184 => some A_spec_l01Is
  | 350 => some A_spec_l04DrawType
  | 102 => some A_spec_l01Next
  | 98 => some A_spec_l01Pick
  | 68 => some A_impl_sumOfType
  | 106 => some A_spec_l04Type
  | 220 => some A_impl_isSize
  | 351 => some A_impl_types
  | 58 => some A_spec_l01In
  | 352 => some A_spec_l04Types
  | 353 => some A_spec_l04Draw
  | 80 => some A_impl_sumOfPassport
  | 78 => some A_spec_l04Is
  | 81 => some A_impl_eulerOf
  | 79 => some A_spec_l04Sum
  | 354 => some A_impl_centraliser
  | 338 => some A_spec_l04Centraliser
  | 70 => some A_impl_repeated
  | 284 => some A_spec_l01Type
  | 356 => some A_spec_l01DrawPlaces
  | 206 => some A_spec_l01Perm
  | 372 => some A_spec_l01Draw
  | 364 => some A_spec_l01Same
  | 207 => some A_spec_l01Connected
  | 192 => some A_spec_l01Face
  | 111 => some A_spec_l01Own
  | 285 => some A_spec_l01Cycles
  | 387 => some A_spec_l01Pairs
  | 388 => some A_spec_l01Star
  | 208 => some A_spec_l01Back
  | 212 => some A_spec_l01Then
  | 396 => some A_spec_l01Turn
  | _ => none
theorem Γ_laws_FnTypes : Γ 307 = some A_laws_FnTypes := rfl
theorem Γ_laws_big : Γ 41 = some A_laws_big := rfl
theorem Γ_laws_likeInts : Γ 43 = some A_laws_likeInts := rfl
theorem Γ_spec_DrawIsType : Γ 308 = some A_spec_DrawIsType := rfl
theorem Γ_impl_IsType : Γ 309 = some A_impl_IsType := rfl
theorem Γ_spec_IsType : Γ 310 = some A_spec_IsType := rfl
theorem Γ_spec_DrawTypesOf : Γ 311 = some A_spec_DrawTypesOf := rfl
theorem Γ_impl_TypesOf : Γ 312 = some A_impl_TypesOf := rfl
theorem Γ_spec_TypesOf : Γ 313 = some A_spec_TypesOf := rfl
theorem Γ_laws_lists9 : Γ 51 = some A_laws_lists9 := rfl
theorem Γ_spec_DrawIsPassport : Γ 314 = some A_spec_DrawIsPassport := rfl
theorem Γ_impl_IsPassport : Γ 315 = some A_impl_IsPassport := rfl
theorem Γ_spec_IsPassport : Γ 316 = some A_spec_IsPassport := rfl
theorem Γ_impl_EulerOfPassport : Γ 23 = some A_impl_EulerOfPassport := rfl
theorem Γ_spec_EulerOfPassport : Γ 22 = some A_spec_EulerOfPassport := rfl
theorem Γ_impl_CentraliserOf : Γ 317 = some A_impl_CentraliserOf := rfl
theorem Γ_spec_CentraliserOf : Γ 318 = some A_spec_CentraliserOf := rfl
theorem Γ_laws_factorial9 : Γ 319 = some A_laws_factorial9 := rfl
theorem Γ_spec_l01From : Γ 97 = some A_spec_l01From := rfl
theorem Γ_spec_l01Is : Γ 184 = some A_spec_l01Is := rfl
theorem Γ_spec_l04DrawType : Γ 350 = some A_spec_l04DrawType := rfl
theorem Γ_spec_l01Next : Γ 102 = some A_spec_l01Next := rfl
theorem Γ_spec_l01Pick : Γ 98 = some A_spec_l01Pick := rfl
theorem Γ_impl_sumOfType : Γ 68 = some A_impl_sumOfType := rfl
theorem Γ_spec_l04Type : Γ 106 = some A_spec_l04Type := rfl
theorem Γ_impl_isSize : Γ 220 = some A_impl_isSize := rfl
theorem Γ_impl_types : Γ 351 = some A_impl_types := rfl
theorem Γ_spec_l01In : Γ 58 = some A_spec_l01In := rfl
theorem Γ_spec_l04Types : Γ 352 = some A_spec_l04Types := rfl
theorem Γ_spec_l04Draw : Γ 353 = some A_spec_l04Draw := rfl
theorem Γ_impl_sumOfPassport : Γ 80 = some A_impl_sumOfPassport := rfl
theorem Γ_spec_l04Is : Γ 78 = some A_spec_l04Is := rfl
theorem Γ_impl_eulerOf : Γ 81 = some A_impl_eulerOf := rfl
theorem Γ_spec_l04Sum : Γ 79 = some A_spec_l04Sum := rfl
theorem Γ_impl_centraliser : Γ 354 = some A_impl_centraliser := rfl
theorem Γ_spec_l04Centraliser : Γ 338 = some A_spec_l04Centraliser := rfl
theorem Γ_impl_repeated : Γ 70 = some A_impl_repeated := rfl
theorem Γ_spec_l01Type : Γ 284 = some A_spec_l01Type := rfl
theorem Γ_spec_l01DrawPlaces : Γ 356 = some A_spec_l01DrawPlaces := rfl
theorem Γ_spec_l01Perm : Γ 206 = some A_spec_l01Perm := rfl
theorem Γ_spec_l01Draw : Γ 372 = some A_spec_l01Draw := rfl
theorem Γ_spec_l01Same : Γ 364 = some A_spec_l01Same := rfl
theorem Γ_spec_l01Connected : Γ 207 = some A_spec_l01Connected := rfl
theorem Γ_spec_l01Face : Γ 192 = some A_spec_l01Face := rfl
theorem Γ_spec_l01Own : Γ 111 = some A_spec_l01Own := rfl
theorem Γ_spec_l01Cycles : Γ 285 = some A_spec_l01Cycles := rfl
theorem Γ_spec_l01Pairs : Γ 387 = some A_spec_l01Pairs := rfl
theorem Γ_spec_l01Star : Γ 388 = some A_spec_l01Star := rfl
theorem Γ_spec_l01Back : Γ 208 = some A_spec_l01Back := rfl
theorem Γ_spec_l01Then : Γ 212 = some A_spec_l01Then := rfl
theorem Γ_spec_l01Turn : Γ 396 = some A_spec_l01Turn := rfl
end Go.Am
