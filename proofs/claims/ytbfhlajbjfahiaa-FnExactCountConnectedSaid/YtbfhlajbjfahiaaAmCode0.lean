/- The code of the functions that the claim reaches, in the small machine's form: written by a program of mine, off the loaded program; the checks compare the two. -/
import Derived.Test.YtbfhlajbjfahiaaAmCore
set_option linter.unusedVariables false
set_option maxRecDepth 100000
namespace Go.Am
open Go
/-! laws_FnExactCountConnected -/
def A_laws_FnExactCountConnected.r0 : ACode := (.region none [⟨some 2, .move (.c (.bool false)), none⟩])
def A_laws_FnExactCountConnected.r1 : ACode := (.region none [⟨some 3, .move (.c (.int .i64 1048576)), none⟩])
def A_laws_FnExactCountConnected.r2 : ACode := (.region none [⟨some 9, .move (.t 0), none⟩,
    ⟨some 10, .move (.t 3), none⟩,
    ⟨some 11, .call 20 [(.t 9), (.t 10)], none⟩,
    ⟨some 3, .move (.t 11), none⟩])
def A_laws_FnExactCountConnected.r3 : ACode := (.region none [⟨some 12, .move (.t 3), none⟩,
    ⟨some 13, .bin .lss (.t 12) (.c (.int .i64 0)), none⟩])
def A_laws_FnExactCountConnected.r4 : ACode := (.region none [⟨some 2, .move (.c (.bool true)), none⟩])
def A_laws_FnExactCountConnected.r5 : ACode := (.region none [⟨some 15, .move (.t 0), none⟩,
    ⟨some 16, .call 21 [(.t 15)], none⟩,
    ⟨some 17, .call 299 [(.t 16)], none⟩,
    ⟨some 14, .move (.t 17), none⟩,
    ⟨some 18, .extract (.t 14) 0, none⟩,
    ⟨some 19, .extract (.t 14) 1, none⟩,
    ⟨some 4, .move (.t 18), none⟩,
    ⟨some 5, .move (.t 19), none⟩])
def A_laws_FnExactCountConnected.r6 : ACode := (.region none [⟨some 20, .move (.t 0), none⟩,
    ⟨some 21, .call 21 [(.t 20)], none⟩,
    ⟨some 6, .move (.t 21), none⟩])
def A_laws_FnExactCountConnected.r7 : ACode := (.region none [⟨some 23, .move (.t 6), none⟩,
    ⟨some 24, .call 300 [(.t 23)], none⟩,
    ⟨some 22, .move (.t 24), none⟩,
    ⟨some 25, .extract (.t 22) 0, none⟩,
    ⟨some 26, .extract (.t 22) 1, none⟩,
    ⟨some 7, .move (.t 25), none⟩,
    ⟨some 8, .move (.t 26), none⟩])
def A_laws_FnExactCountConnected.r8 : ACode := (.region none [⟨some 27, .move (.t 7), none⟩,
    ⟨some 28, .move (.t 4), none⟩,
    ⟨some 29, .bin .neq (.t 27) (.t 28), none⟩,
    ⟨some 30, .move (.t 29), none⟩,
    ⟨some 31, .move (.t 8), some (30, false)⟩,
    ⟨some 32, .move (.t 5), some (30, false)⟩,
    ⟨some 33, .bin .neq (.t 31) (.t 32), some (30, false)⟩,
    ⟨some 34, .pick (.t 30) (.c (.bool true)) (.t 33), none⟩])
def A_laws_FnExactCountConnected.r9 : ACode := (.region none [⟨some 2, .move (.c (.bool false)), none⟩])
def A_laws_FnExactCountConnected.r10 : ACode := (.region none [⟨some 35, .move (.t 6), none⟩,
    ⟨some 36, .move (.t 0), none⟩,
    ⟨some 37, .call 21 [(.t 36)], none⟩,
    ⟨some 38, .call 24 [(.t 35), (.t 37)], none⟩,
    ⟨some 39, .not (.t 38), none⟩])
def A_laws_FnExactCountConnected.r11 : ACode := (.region none [⟨some 2, .move (.c (.bool false)), none⟩])
def A_laws_FnExactCountConnected.r12 : ACode := (.region none [⟨some 2, .move (.c (.bool true)), none⟩])
def A_laws_FnExactCountConnected : AFunc := ⟨[.tmp 2], (.seq A_laws_FnExactCountConnected.r0 (.seq A_laws_FnExactCountConnected.r1 (.seq A_laws_FnExactCountConnected.r2 (.seq (.seq A_laws_FnExactCountConnected.r3 (.cond (.t 13) (.seq A_laws_FnExactCountConnected.r4 .ret) .skip)) (.seq A_laws_FnExactCountConnected.r5 (.seq A_laws_FnExactCountConnected.r6 (.seq A_laws_FnExactCountConnected.r7 (.seq (.seq A_laws_FnExactCountConnected.r8 (.cond (.t 34) (.seq A_laws_FnExactCountConnected.r9 .ret) .skip)) (.seq (.seq A_laws_FnExactCountConnected.r10 (.cond (.t 39) (.seq A_laws_FnExactCountConnected.r11 .ret) .skip)) (.seq A_laws_FnExactCountConnected.r12 .ret))))))))))⟩
/-! laws_toInt64S -/
def A_laws_toInt64S.r0 : ACode := (.region none [⟨some 2, .move (.c (.slice none 0 0)), none⟩])
def A_laws_toInt64S.r1 : ACode := (.region none [⟨some 5, .move (.t 0), none⟩,
    ⟨some 6, .len (.t 5), none⟩,
    ⟨some 7, .makeSlice 1 8 [.int .i64 0] (.t 6) (.t 6), none⟩,
    ⟨some 3, .move (.t 7), none⟩])
def A_laws_toInt64S.r2 : ACode := (.region none [⟨some 4, .move (.c (.int .i64 0)), none⟩])
def A_laws_toInt64S.r3 : ACode := (.region none [⟨some 8, .move (.t 4), none⟩,
    ⟨some 9, .move (.t 0), none⟩,
    ⟨some 10, .len (.t 9), none⟩,
    ⟨some 11, .bin .lss (.t 8) (.t 10), none⟩])
def A_laws_toInt64S.r5 : ACode := (.region none [⟨some 14, .move (.t 3), none⟩,
    ⟨some 15, .move (.t 4), none⟩,
    ⟨some 16, .move (.t 0), none⟩,
    ⟨some 17, .move (.t 4), none⟩,
    ⟨some 18, .indexAddr none 1 (.t 16) (.t 17), none⟩,
    ⟨some 19, .load none (.t 18), none⟩,
    ⟨some 20, .indexAddr none 1 (.t 14) (.t 15), none⟩,
    ⟨none, .store 1 (.t 20) (.t 19), none⟩])
def A_laws_toInt64S.r4 : ACode := (.region none [⟨some 12, .move (.t 4), none⟩,
    ⟨some 13, .bin .add (.t 12) (.c (.int .i64 1)), none⟩,
    ⟨some 4, .move (.t 13), none⟩])
def A_laws_toInt64S.l0 : ACode := (.seq (.seq A_laws_toInt64S.r3 (.cond (.t 11) .skip (.exit 0))) (.seq (.block 1 A_laws_toInt64S.r5) A_laws_toInt64S.r4))
def A_laws_toInt64S.r6 : ACode := (.region none [⟨some 21, .move (.t 3), none⟩,
    ⟨some 2, .move (.t 21), none⟩])
def A_laws_toInt64S : AFunc := ⟨[.tmp 2], (.seq A_laws_toInt64S.r0 (.seq A_laws_toInt64S.r1 (.seq (.seq A_laws_toInt64S.r2 (.block 0 (.loop A_laws_toInt64S.l0))) (.seq A_laws_toInt64S.r6 .ret))))⟩
/-! laws_eqInt64S -/
def A_laws_eqInt64S.r0 : ACode := (.region none [⟨some 4, .move (.c (.bool false)), none⟩])
def A_laws_eqInt64S.r1 : ACode := (.region none [⟨some 6, .move (.t 0), none⟩,
    ⟨some 7, .len (.t 6), none⟩,
    ⟨some 8, .move (.t 1), none⟩,
    ⟨some 9, .len (.t 8), none⟩,
    ⟨some 10, .bin .neq (.t 7) (.t 9), none⟩])
def A_laws_eqInt64S.r2 : ACode := (.region none [⟨some 4, .move (.c (.bool false)), none⟩])
def A_laws_eqInt64S.r3 : ACode := (.region none [⟨some 5, .move (.c (.int .i64 0)), none⟩])
def A_laws_eqInt64S.r4 : ACode := (.region none [⟨some 11, .move (.t 5), none⟩,
    ⟨some 12, .move (.t 0), none⟩,
    ⟨some 13, .len (.t 12), none⟩,
    ⟨some 14, .bin .lss (.t 11) (.t 13), none⟩])
def A_laws_eqInt64S.r6 : ACode := (.region (some 9) [⟨some 17, .move (.t 0), none⟩,
    ⟨some 18, .move (.t 5), none⟩,
    ⟨some 19, .indexAddr none 1 (.t 17) (.t 18), none⟩,
    ⟨some 20, .load none (.t 19), none⟩,
    ⟨some 21, .move (.t 1), none⟩,
    ⟨some 22, .move (.t 5), none⟩,
    ⟨some 23, .indexAddr none 1 (.t 21) (.t 22), none⟩,
    ⟨some 24, .load none (.t 23), none⟩,
    ⟨some 25, .bin .neq (.t 20) (.t 24), none⟩])
def A_laws_eqInt64S.r7 : ACode := (.region none [⟨some 4, .move (.c (.bool false)), none⟩])
def A_laws_eqInt64S.r5 : ACode := (.region none [⟨some 15, .move (.t 5), none⟩,
    ⟨some 16, .bin .add (.t 15) (.c (.int .i64 1)), none⟩,
    ⟨some 5, .move (.t 16), none⟩])
def A_laws_eqInt64S.l0 : ACode := (.seq (.seq A_laws_eqInt64S.r4 (.cond (.t 14) .skip (.exit 0))) (.seq (.block 1 (.seq A_laws_eqInt64S.r6 (.cond (.t 25) (.seq A_laws_eqInt64S.r7 .ret) .skip))) A_laws_eqInt64S.r5))
def A_laws_eqInt64S.r8 : ACode := (.region none [⟨some 4, .move (.c (.bool true)), none⟩])
def A_laws_eqInt64S : AFunc := ⟨[.tmp 4], (.seq A_laws_eqInt64S.r0 (.seq (.seq A_laws_eqInt64S.r1 (.cond (.t 10) (.seq A_laws_eqInt64S.r2 .ret) .skip)) (.seq (.seq A_laws_eqInt64S.r3 (.block 0 (.loop A_laws_eqInt64S.l0))) (.seq A_laws_eqInt64S.r8 .ret))))⟩
/-! laws_szInt64SS -/
def A_laws_szInt64SS.r0 : ACode := (.region none [⟨some 4, .move (.c (.int .i64 0)), none⟩])
def A_laws_szInt64SS.r1 : ACode := (.region none [⟨some 6, .move (.t 1), none⟩,
    ⟨some 7, .move (.t 0), none⟩,
    ⟨some 8, .len (.t 7), none⟩,
    ⟨some 9, .bin .sub (.t 6) (.t 8), none⟩,
    ⟨some 1, .move (.t 9), none⟩])
def A_laws_szInt64SS.r2 : ACode := (.region none [⟨some 10, .move (.t 1), none⟩,
    ⟨some 11, .bin .lss (.t 10) (.c (.int .i64 0)), none⟩])
def A_laws_szInt64SS.r3 : ACode := (.region none [⟨some 4, .move (.c (.int .i64 (-1))), none⟩])
def A_laws_szInt64SS.r4 : ACode := (.region none [⟨some 5, .move (.c (.int .i64 0)), none⟩])
def A_laws_szInt64SS.r5 : ACode := (.region none [⟨some 12, .move (.t 5), none⟩,
    ⟨some 13, .move (.t 0), none⟩,
    ⟨some 14, .len (.t 13), none⟩,
    ⟨some 15, .bin .lss (.t 12) (.t 14), none⟩])
def A_laws_szInt64SS.r7 : ACode := (.region none [⟨some 18, .move (.t 0), none⟩,
    ⟨some 19, .move (.t 5), none⟩,
    ⟨some 20, .indexAddr none 1 (.t 18) (.t 19), none⟩,
    ⟨some 21, .load none (.t 20), none⟩,
    ⟨some 22, .move (.t 1), none⟩,
    ⟨some 23, .call 77 [(.t 21), (.t 22)], none⟩,
    ⟨some 1, .move (.t 23), none⟩])
def A_laws_szInt64SS.r8 : ACode := (.region none [⟨some 24, .move (.t 1), none⟩,
    ⟨some 25, .bin .lss (.t 24) (.c (.int .i64 0)), none⟩])
def A_laws_szInt64SS.r9 : ACode := (.region none [⟨some 4, .move (.c (.int .i64 (-1))), none⟩])
def A_laws_szInt64SS.r6 : ACode := (.region none [⟨some 16, .move (.t 5), none⟩,
    ⟨some 17, .bin .add (.t 16) (.c (.int .i64 1)), none⟩,
    ⟨some 5, .move (.t 17), none⟩])
def A_laws_szInt64SS.l0 : ACode := (.seq (.seq A_laws_szInt64SS.r5 (.cond (.t 15) .skip (.exit 0))) (.seq (.block 1 (.seq A_laws_szInt64SS.r7 (.seq A_laws_szInt64SS.r8 (.cond (.t 25) (.seq A_laws_szInt64SS.r9 .ret) .skip)))) A_laws_szInt64SS.r6))
def A_laws_szInt64SS.r10 : ACode := (.region none [⟨some 26, .move (.t 1), none⟩,
    ⟨some 4, .move (.t 26), none⟩])
def A_laws_szInt64SS : AFunc := ⟨[.tmp 4], (.seq A_laws_szInt64SS.r0 (.seq A_laws_szInt64SS.r1 (.seq (.seq A_laws_szInt64SS.r2 (.cond (.t 11) (.seq A_laws_szInt64SS.r3 .ret) .skip)) (.seq (.seq A_laws_szInt64SS.r4 (.block 0 (.loop A_laws_szInt64SS.l0))) (.seq A_laws_szInt64SS.r10 .ret)))))⟩
/-! laws_toInt64SS -/
def A_laws_toInt64SS.r0 : ACode := (.region none [⟨some 2, .move (.c (.slice none 0 0)), none⟩])
def A_laws_toInt64SS.r1 : ACode := (.region none [⟨some 5, .move (.t 0), none⟩,
    ⟨some 6, .len (.t 5), none⟩,
    ⟨some 7, .makeSlice 1 24 [.slice none 0 0] (.t 6) (.t 6), none⟩,
    ⟨some 3, .move (.t 7), none⟩])
def A_laws_toInt64SS.r2 : ACode := (.region none [⟨some 4, .move (.c (.int .i64 0)), none⟩])
def A_laws_toInt64SS.r3 : ACode := (.region none [⟨some 8, .move (.t 4), none⟩,
    ⟨some 9, .move (.t 0), none⟩,
    ⟨some 10, .len (.t 9), none⟩,
    ⟨some 11, .bin .lss (.t 8) (.t 10), none⟩])
def A_laws_toInt64SS.r5 : ACode := (.region none [⟨some 14, .move (.t 3), none⟩,
    ⟨some 15, .move (.t 4), none⟩,
    ⟨some 16, .move (.t 0), none⟩,
    ⟨some 17, .move (.t 4), none⟩,
    ⟨some 18, .indexAddr none 1 (.t 16) (.t 17), none⟩,
    ⟨some 19, .load none (.t 18), none⟩,
    ⟨some 20, .call 0 [(.t 19)], none⟩,
    ⟨some 21, .indexAddr none 1 (.t 14) (.t 15), none⟩,
    ⟨none, .store 1 (.t 21) (.t 20), none⟩])
def A_laws_toInt64SS.r4 : ACode := (.region none [⟨some 12, .move (.t 4), none⟩,
    ⟨some 13, .bin .add (.t 12) (.c (.int .i64 1)), none⟩,
    ⟨some 4, .move (.t 13), none⟩])
def A_laws_toInt64SS.l0 : ACode := (.seq (.seq A_laws_toInt64SS.r3 (.cond (.t 11) .skip (.exit 0))) (.seq (.block 1 A_laws_toInt64SS.r5) A_laws_toInt64SS.r4))
def A_laws_toInt64SS.r6 : ACode := (.region none [⟨some 22, .move (.t 3), none⟩,
    ⟨some 2, .move (.t 22), none⟩])
def A_laws_toInt64SS : AFunc := ⟨[.tmp 2], (.seq A_laws_toInt64SS.r0 (.seq A_laws_toInt64SS.r1 (.seq (.seq A_laws_toInt64SS.r2 (.block 0 (.loop A_laws_toInt64SS.l0))) (.seq A_laws_toInt64SS.r6 .ret))))⟩
/-! laws_eqInt64SS -/
def A_laws_eqInt64SS.r0 : ACode := (.region none [⟨some 4, .move (.c (.bool false)), none⟩])
def A_laws_eqInt64SS.r1 : ACode := (.region none [⟨some 6, .move (.t 0), none⟩,
    ⟨some 7, .len (.t 6), none⟩,
    ⟨some 8, .move (.t 1), none⟩,
    ⟨some 9, .len (.t 8), none⟩,
    ⟨some 10, .bin .neq (.t 7) (.t 9), none⟩])
def A_laws_eqInt64SS.r2 : ACode := (.region none [⟨some 4, .move (.c (.bool false)), none⟩])
def A_laws_eqInt64SS.r3 : ACode := (.region none [⟨some 5, .move (.c (.int .i64 0)), none⟩])
def A_laws_eqInt64SS.r4 : ACode := (.region none [⟨some 11, .move (.t 5), none⟩,
    ⟨some 12, .move (.t 0), none⟩,
    ⟨some 13, .len (.t 12), none⟩,
    ⟨some 14, .bin .lss (.t 11) (.t 13), none⟩])
def A_laws_eqInt64SS.r6 : ACode := (.region (some 10) [⟨some 17, .move (.t 0), none⟩,
    ⟨some 18, .move (.t 5), none⟩,
    ⟨some 19, .indexAddr none 1 (.t 17) (.t 18), none⟩,
    ⟨some 20, .load none (.t 19), none⟩,
    ⟨some 21, .move (.t 1), none⟩,
    ⟨some 22, .move (.t 5), none⟩,
    ⟨some 23, .indexAddr none 1 (.t 21) (.t 22), none⟩,
    ⟨some 24, .load none (.t 23), none⟩,
    ⟨some 25, .call 3 [(.t 20), (.t 24)], none⟩,
    ⟨some 26, .not (.t 25), none⟩])
def A_laws_eqInt64SS.r7 : ACode := (.region none [⟨some 4, .move (.c (.bool false)), none⟩])
def A_laws_eqInt64SS.r5 : ACode := (.region none [⟨some 15, .move (.t 5), none⟩,
    ⟨some 16, .bin .add (.t 15) (.c (.int .i64 1)), none⟩,
    ⟨some 5, .move (.t 16), none⟩])
def A_laws_eqInt64SS.l0 : ACode := (.seq (.seq A_laws_eqInt64SS.r4 (.cond (.t 14) .skip (.exit 0))) (.seq (.block 1 (.seq A_laws_eqInt64SS.r6 (.cond (.t 26) (.seq A_laws_eqInt64SS.r7 .ret) .skip))) A_laws_eqInt64SS.r5))
def A_laws_eqInt64SS.r8 : ACode := (.region none [⟨some 4, .move (.c (.bool true)), none⟩])
def A_laws_eqInt64SS : AFunc := ⟨[.tmp 4], (.seq A_laws_eqInt64SS.r0 (.seq (.seq A_laws_eqInt64SS.r1 (.cond (.t 10) (.seq A_laws_eqInt64SS.r2 .ret) .skip)) (.seq (.seq A_laws_eqInt64SS.r3 (.block 0 (.loop A_laws_eqInt64SS.l0))) (.seq A_laws_eqInt64SS.r8 .ret))))⟩
/-! spec_CountConnected -/
def A_spec_CountConnected.r0 : ACode := (.region none [⟨some 2, .move (.c (.int .i64 0)), none⟩,
    ⟨some 3, .move (.c (.int .i64 0)), none⟩])
def A_spec_CountConnected.r1 : ACode := (.region none [⟨some 6, .move (.t 0), none⟩,
    ⟨some 7, .call 335 [(.t 6)], none⟩,
    ⟨some 4, .move (.t 7), none⟩])
def A_spec_CountConnected.r2 : ACode := (.region none [⟨some 8, .move (.t 4), none⟩,
    ⟨some 9, .bin .neq (.t 8) (.c (.int .i64 0)), none⟩])
def A_spec_CountConnected.r3 : ACode := (.region none [⟨some 10, .move (.t 4), none⟩,
    ⟨some 2, .move (.c (.int .i64 0)), none⟩,
    ⟨some 3, .move (.t 10), none⟩])
def A_spec_CountConnected.r4 : ACode := (.region none [⟨some 11, .move (.t 0), none⟩,
    ⟨some 12, .indexAddr none 1 (.t 11) (.c (.int .i64 0)), none⟩,
    ⟨some 13, .load none (.t 12), none⟩,
    ⟨some 14, .call 79 [(.t 13)], none⟩,
    ⟨some 5, .move (.t 14), none⟩])
def A_spec_CountConnected.r5 : ACode := (.region (some 13) [⟨some 15, .move (.t 0), none⟩,
    ⟨some 16, .call 336 [(.t 15), (.c (.bool false))], none⟩,
    ⟨some 17, .field none 1 (.t 16), none⟩,
    ⟨some 18, .move (.t 5), none⟩,
    ⟨some 19, .call 337 [(.t 18)], none⟩,
    ⟨some 20, .move (.t 0), none⟩,
    ⟨some 21, .indexAddr none 1 (.t 20) (.c (.int .i64 0)), none⟩,
    ⟨some 22, .load none (.t 21), none⟩,
    ⟨some 23, .call 338 [(.t 22)], none⟩,
    ⟨some 24, .bin .quo (.t 19) (.t 23), none⟩,
    ⟨some 25, .bin .mul (.t 17) (.t 24), none⟩,
    ⟨some 2, .move (.t 25), none⟩,
    ⟨some 3, .move (.c (.int .i64 0)), none⟩])
def A_spec_CountConnected : AFunc := ⟨[.tmp 2, .tmp 3], (.seq A_spec_CountConnected.r0 (.seq (.seq A_spec_CountConnected.r1 (.seq A_spec_CountConnected.r2 (.cond (.t 9) (.seq A_spec_CountConnected.r3 .ret) .skip))) (.seq A_spec_CountConnected.r4 (.seq A_spec_CountConnected.r5 .ret))))⟩
/-! impl_CountConnected -/
def A_impl_CountConnected.r0 : ACode := (.region none [⟨some 2, .move (.c (.int .i64 0)), none⟩,
    ⟨some 3, .move (.c (.int .i64 0)), none⟩])
def A_impl_CountConnected.r1 : ACode := (.region none [⟨some 7, .move (.t 0), none⟩,
    ⟨some 8, .call 339 [(.t 7)], none⟩,
    ⟨some 4, .move (.t 8), none⟩])
def A_impl_CountConnected.r2 : ACode := (.region none [⟨some 9, .move (.t 4), none⟩,
    ⟨some 10, .bin .neq (.t 9) (.c (.int .i64 0)), none⟩])
def A_impl_CountConnected.r3 : ACode := (.region none [⟨some 11, .move (.t 4), none⟩,
    ⟨some 2, .move (.c (.int .i64 0)), none⟩,
    ⟨some 3, .move (.t 11), none⟩])
def A_impl_CountConnected.r4 : ACode := (.region none [⟨some 5, .alloc [.int .i64 0], none⟩,
    ⟨none, .store 1 (.t 5) (.c (.int .i64 0)), none⟩])
def A_impl_CountConnected.r5 : ACode := (.region none [⟨some 12, .move (.t 0), none⟩,
    ⟨some 13, .makeFunc 342 [(.t 5)], none⟩,
    ⟨some 14, .call 341 [(.t 12), (.t 13)], none⟩,
    ⟨some 6, .move (.t 14), none⟩])
def A_impl_CountConnected.r6 : ACode := (.region none [⟨some 15, .load none (.t 5), none⟩,
    ⟨some 16, .move (.t 6), none⟩,
    ⟨some 17, .bin .mul (.t 15) (.t 16), none⟩,
    ⟨some 2, .move (.t 17), none⟩,
    ⟨some 3, .move (.c (.int .i64 0)), none⟩])
def A_impl_CountConnected : AFunc := ⟨[.tmp 2, .tmp 3], (.seq A_impl_CountConnected.r0 (.seq (.seq A_impl_CountConnected.r1 (.seq A_impl_CountConnected.r2 (.cond (.t 10) (.seq A_impl_CountConnected.r3 .ret) .skip))) (.seq A_impl_CountConnected.r4 (.seq A_impl_CountConnected.r5 (.seq A_impl_CountConnected.r6 .ret)))))⟩
/-! spec_l01Is -/
def A_spec_l01Is.r0 : ACode := (.region none [⟨some 1, .box (.t 0), none⟩,
    ⟨some 2, .move (.c (.bool false)), none⟩])
def A_spec_l01Is.r1 : ACode := (.region none [⟨some 3, .fieldAddr 1 (.t 1), none⟩,
    ⟨some 4, .load (some 16) (.t 3), none⟩,
    ⟨some 5, .fieldAddr 0 (.t 1), none⟩,
    ⟨some 6, .load none (.t 5), none⟩,
    ⟨some 7, .call 206 [(.t 4), (.t 6)], none⟩,
    ⟨some 8, .move (.t 7), none⟩,
    ⟨some 9, .fieldAddr 17 (.t 1), some (8, true)⟩,
    ⟨some 10, .load (some 16) (.t 9), some (8, true)⟩,
    ⟨some 11, .fieldAddr 0 (.t 1), some (8, true)⟩,
    ⟨some 12, .load none (.t 11), some (8, true)⟩,
    ⟨some 13, .call 206 [(.t 10), (.t 12)], some (8, true)⟩,
    ⟨some 14, .pick (.t 8) (.t 13) (.c (.bool false)), none⟩,
    ⟨some 15, .move (.t 14), none⟩,
    ⟨some 16, .fieldAddr 0 (.t 1), some (15, true)⟩,
    ⟨some 17, .load none (.t 16), some (15, true)⟩,
    ⟨some 18, .fieldAddr 1 (.t 1), some (15, true)⟩,
    ⟨some 19, .load (some 16) (.t 18), some (15, true)⟩,
    ⟨some 20, .fieldAddr 17 (.t 1), some (15, true)⟩,
    ⟨some 21, .load (some 16) (.t 20), some (15, true)⟩,
    ⟨some 22, .call 207 [(.t 17), (.t 19), (.t 21)], some (15, true)⟩,
    ⟨some 23, .pick (.t 15) (.t 22) (.c (.bool false)), none⟩,
    ⟨some 2, .move (.t 23), none⟩])
def A_spec_l01Is : AFunc := ⟨[.tmp 2], (.seq A_spec_l01Is.r0 (.seq A_spec_l01Is.r1 .ret))⟩
/-! impl_face -/
def A_impl_face.r0 : ACode := (.region none [⟨some 1, .box (.t 0), none⟩,
    ⟨some 2, .alloc (List.replicate 16 (.int .u8 0)), none⟩])
def A_impl_face.r1 : ACode := (.region (some 10) [⟨some 3, .fieldAddr 1 (.t 1), none⟩,
    ⟨some 4, .load (some 16) (.t 3), none⟩,
    ⟨some 5, .fieldAddr 17 (.t 1), none⟩,
    ⟨some 6, .load (some 16) (.t 5), none⟩,
    ⟨some 7, .fieldAddr 0 (.t 1), none⟩,
    ⟨some 8, .load none (.t 7), none⟩,
    ⟨some 9, .call 213 [(.t 4), (.t 6), (.t 8)], none⟩,
    ⟨some 10, .fieldAddr 0 (.t 1), none⟩,
    ⟨some 11, .load none (.t 10), none⟩,
    ⟨some 12, .call 211 [(.t 9), (.t 11)], none⟩,
    ⟨none, .store 16 (.t 2) (.t 12), none⟩])
def A_impl_face : AFunc := ⟨[.cell 2 (some 16)], (.seq A_impl_face.r0 (.seq A_impl_face.r1 .ret))⟩
/-! impl_sumOfType -/
def A_impl_sumOfType.r0 : ACode := (.region none [⟨some 2, .move (.c (.int .i64 0)), none⟩])
def A_impl_sumOfType.r1 : ACode := (.region none [⟨some 3, .move (.c (.int .i64 0)), none⟩])
def A_impl_sumOfType.r2 : ACode := (.region none [⟨some 6, .move (.t 0), none⟩,
    ⟨some 7, .len (.t 6), none⟩,
    ⟨some 8, .move (.c (.int .i64 0)), none⟩])
def A_impl_sumOfType.r3 : ACode := (.region none [⟨some 9, .bin .lss (.t 8) (.t 7), none⟩])
def A_impl_sumOfType.r4 : ACode := (.region none [⟨some 10, .move (.t 8), none⟩,
    ⟨some 11, .indexAddr none 1 (.t 6) (.t 8), none⟩,
    ⟨some 12, .load none (.t 11), none⟩,
    ⟨some 4, .move (.t 10), none⟩,
    ⟨some 5, .move (.t 12), none⟩])
def A_impl_sumOfType.r5 : ACode := (.region none [⟨some 13, .move (.t 5), none⟩,
    ⟨some 14, .bin .lss (.t 13) (.c (.int .i64 1)), none⟩,
    ⟨some 15, .move (.t 14), none⟩,
    ⟨some 16, .move (.t 5), some (15, false)⟩,
    ⟨some 17, .bin .gtr (.t 16) (.c (.int .i64 16)), some (15, false)⟩,
    ⟨some 18, .pick (.t 15) (.c (.bool true)) (.t 17), none⟩,
    ⟨some 19, .move (.t 18), none⟩,
    ⟨some 20, .move (.t 4), some (19, false)⟩,
    ⟨some 21, .bin .gtr (.t 20) (.c (.int .i64 0)), some (19, false)⟩,
    ⟨some 22, .move (.t 21), some (19, false)⟩,
    ⟨some 23, .move (.t 5), some (22, true)⟩,
    ⟨some 24, .move (.t 0), some (22, true)⟩,
    ⟨some 25, .move (.t 4), some (22, true)⟩,
    ⟨some 26, .bin .sub (.t 25) (.c (.int .i64 1)), some (22, true)⟩,
    ⟨some 27, .indexAddr none 1 (.t 24) (.t 26), some (22, true)⟩,
    ⟨some 28, .load none (.t 27), some (22, true)⟩,
    ⟨some 29, .bin .gtr (.t 23) (.t 28), some (22, true)⟩,
    ⟨some 30, .pick (.t 22) (.t 29) (.c (.bool false)), some (19, false)⟩,
    ⟨some 31, .pick (.t 19) (.c (.bool true)) (.t 30), none⟩])
def A_impl_sumOfType.r6 : ACode := (.region none [⟨some 2, .move (.c (.int .i64 0)), none⟩])
def A_impl_sumOfType.r7 : ACode := (.region none [⟨some 32, .move (.t 3), none⟩,
    ⟨some 33, .move (.t 5), none⟩,
    ⟨some 34, .bin .add (.t 32) (.t 33), none⟩,
    ⟨some 3, .move (.t 34), none⟩])
def A_impl_sumOfType.r8 : ACode := (.region none [⟨some 35, .move (.t 3), none⟩,
    ⟨some 36, .bin .gtr (.t 35) (.c (.int .i64 16)), none⟩])
def A_impl_sumOfType.r9 : ACode := (.region none [⟨some 2, .move (.c (.int .i64 0)), none⟩])
def A_impl_sumOfType.r10 : ACode := (.region none [⟨some 37, .bin .add (.t 8) (.c (.int .i64 1)), none⟩,
    ⟨some 8, .move (.t 37), none⟩])
def A_impl_sumOfType.l0 : ACode := (.seq A_impl_sumOfType.r3 (.seq (.cond (.t 9) .skip (.exit 0)) (.seq (.block 1 (.seq A_impl_sumOfType.r4 (.seq (.seq A_impl_sumOfType.r5 (.cond (.t 31) (.seq A_impl_sumOfType.r6 .ret) .skip)) (.seq A_impl_sumOfType.r7 (.seq A_impl_sumOfType.r8 (.cond (.t 36) (.seq A_impl_sumOfType.r9 .ret) .skip)))))) A_impl_sumOfType.r10)))
def A_impl_sumOfType.r11 : ACode := (.region none [⟨some 38, .move (.t 3), none⟩,
    ⟨some 2, .move (.t 38), none⟩])
def A_impl_sumOfType : AFunc := ⟨[.tmp 2], (.seq A_impl_sumOfType.r0 (.seq A_impl_sumOfType.r1 (.seq (.seq A_impl_sumOfType.r2 (.block 0 (.loop A_impl_sumOfType.l0))) (.seq A_impl_sumOfType.r11 .ret))))⟩
/-! spec_l04Type -/
def A_spec_l04Type.r0 : ACode := (.region none [⟨some 2, .move (.c (.bool false)), none⟩])
def A_spec_l04Type.r1 : ACode := (.region none [⟨some 4, .move (.t 0), none⟩,
    ⟨some 5, .len (.t 4), none⟩,
    ⟨some 6, .bin .lss (.t 5) (.c (.int .i64 1)), none⟩,
    ⟨some 7, .move (.t 6), none⟩,
    ⟨some 8, .move (.t 0), some (7, false)⟩,
    ⟨some 9, .len (.t 8), some (7, false)⟩,
    ⟨some 10, .bin .gtr (.t 9) (.c (.int .i64 16)), some (7, false)⟩,
    ⟨some 11, .pick (.t 7) (.c (.bool true)) (.t 10), none⟩])
def A_spec_l04Type.r2 : ACode := (.region none [⟨some 2, .move (.c (.bool false)), none⟩])
def A_spec_l04Type.r3 : ACode := (.region none [⟨some 3, .move (.c (.int .i64 0)), none⟩])
def A_spec_l04Type.r4 : ACode := (.region none [⟨some 12, .move (.t 3), none⟩,
    ⟨some 13, .move (.t 0), none⟩,
    ⟨some 14, .len (.t 13), none⟩,
    ⟨some 15, .bin .lss (.t 12) (.t 14), none⟩])
def A_spec_l04Type.r6 : ACode := (.region (some 22) [⟨some 18, .move (.t 0), none⟩,
    ⟨some 19, .move (.t 3), none⟩,
    ⟨some 20, .indexAddr none 1 (.t 18) (.t 19), none⟩,
    ⟨some 21, .load none (.t 20), none⟩,
    ⟨some 22, .call 58 [(.t 21), (.c (.int .i64 1)), (.c (.int .i64 16))], none⟩,
    ⟨some 23, .not (.t 22), none⟩,
    ⟨some 24, .move (.t 23), none⟩,
    ⟨some 25, .move (.t 3), some (24, false)⟩,
    ⟨some 26, .bin .gtr (.t 25) (.c (.int .i64 0)), some (24, false)⟩,
    ⟨some 27, .move (.t 26), some (24, false)⟩,
    ⟨some 28, .move (.t 0), some (27, true)⟩,
    ⟨some 29, .move (.t 3), some (27, true)⟩,
    ⟨some 30, .indexAddr none 1 (.t 28) (.t 29), some (27, true)⟩,
    ⟨some 31, .load none (.t 30), some (27, true)⟩,
    ⟨some 32, .move (.t 0), some (27, true)⟩,
    ⟨some 33, .move (.t 3), some (27, true)⟩,
    ⟨some 34, .bin .sub (.t 33) (.c (.int .i64 1)), some (27, true)⟩,
    ⟨some 35, .indexAddr none 1 (.t 32) (.t 34), some (27, true)⟩,
    ⟨some 36, .load none (.t 35), some (27, true)⟩,
    ⟨some 37, .bin .gtr (.t 31) (.t 36), some (27, true)⟩,
    ⟨some 38, .pick (.t 27) (.t 37) (.c (.bool false)), some (24, false)⟩,
    ⟨some 39, .pick (.t 24) (.c (.bool true)) (.t 38), none⟩])
def A_spec_l04Type.r7 : ACode := (.region none [⟨some 2, .move (.c (.bool false)), none⟩])
def A_spec_l04Type.r5 : ACode := (.region none [⟨some 16, .move (.t 3), none⟩,
    ⟨some 17, .bin .add (.t 16) (.c (.int .i64 1)), none⟩,
    ⟨some 3, .move (.t 17), none⟩])
def A_spec_l04Type.l0 : ACode := (.seq (.seq A_spec_l04Type.r4 (.cond (.t 15) .skip (.exit 0))) (.seq (.block 1 (.seq A_spec_l04Type.r6 (.cond (.t 39) (.seq A_spec_l04Type.r7 .ret) .skip))) A_spec_l04Type.r5))
def A_spec_l04Type.r8 : ACode := (.region none [⟨some 40, .move (.t 0), none⟩,
    ⟨some 41, .call 79 [(.t 40)], none⟩,
    ⟨some 42, .bin .leq (.t 41) (.c (.int .i64 16)), none⟩,
    ⟨some 2, .move (.t 42), none⟩])
def A_spec_l04Type : AFunc := ⟨[.tmp 2], (.seq A_spec_l04Type.r0 (.seq (.seq A_spec_l04Type.r1 (.cond (.t 11) (.seq A_spec_l04Type.r2 .ret) .skip)) (.seq (.seq A_spec_l04Type.r3 (.block 0 (.loop A_spec_l04Type.l0))) (.seq A_spec_l04Type.r8 .ret))))⟩
/-! spec_l01In -/
def A_spec_l01In.r0 : ACode := (.region none [⟨some 6, .move (.c (.bool false)), none⟩])
def A_spec_l01In.r1 : ACode := (.region none [⟨some 7, .move (.t 0), none⟩,
    ⟨some 8, .move (.t 1), none⟩,
    ⟨some 9, .bin .geq (.t 7) (.t 8), none⟩,
    ⟨some 10, .move (.t 9), none⟩,
    ⟨some 11, .move (.t 0), some (10, true)⟩,
    ⟨some 12, .move (.t 2), some (10, true)⟩,
    ⟨some 13, .bin .leq (.t 11) (.t 12), some (10, true)⟩,
    ⟨some 14, .pick (.t 10) (.t 13) (.c (.bool false)), none⟩,
    ⟨some 6, .move (.t 14), none⟩])
def A_spec_l01In : AFunc := ⟨[.tmp 6], (.seq A_spec_l01In.r0 (.seq A_spec_l01In.r1 .ret))⟩
/-! impl_sumOfPassport -/
def A_impl_sumOfPassport.r0 : ACode := (.region none [⟨some 2, .move (.c (.int .i64 0)), none⟩])
def A_impl_sumOfPassport.r1 : ACode := (.region none [⟨some 4, .move (.t 0), none⟩,
    ⟨some 5, .len (.t 4), none⟩,
    ⟨some 6, .bin .neq (.t 5) (.c (.int .i64 3)), none⟩])
def A_impl_sumOfPassport.r2 : ACode := (.region none [⟨some 2, .move (.c (.int .i64 0)), none⟩])
def A_impl_sumOfPassport.r3 : ACode := (.region none [⟨some 7, .move (.t 0), none⟩,
    ⟨some 8, .indexAddr none 1 (.t 7) (.c (.int .i64 0)), none⟩,
    ⟨some 9, .load none (.t 8), none⟩,
    ⟨some 10, .call 68 [(.t 9)], none⟩,
    ⟨some 3, .move (.t 10), none⟩])
def A_impl_sumOfPassport.r4 : ACode := (.region none [⟨some 11, .move (.t 0), none⟩,
    ⟨some 12, .indexAddr none 1 (.t 11) (.c (.int .i64 1)), none⟩,
    ⟨some 13, .load none (.t 12), none⟩,
    ⟨some 14, .call 68 [(.t 13)], none⟩,
    ⟨some 15, .move (.t 3), none⟩,
    ⟨some 16, .bin .neq (.t 14) (.t 15), none⟩,
    ⟨some 17, .move (.t 16), none⟩,
    ⟨some 18, .move (.t 0), some (17, false)⟩,
    ⟨some 19, .indexAddr none 1 (.t 18) (.c (.int .i64 2)), some (17, false)⟩,
    ⟨some 20, .load none (.t 19), some (17, false)⟩,
    ⟨some 21, .call 68 [(.t 20)], some (17, false)⟩,
    ⟨some 22, .move (.t 3), some (17, false)⟩,
    ⟨some 23, .bin .neq (.t 21) (.t 22), some (17, false)⟩,
    ⟨some 24, .pick (.t 17) (.c (.bool true)) (.t 23), none⟩])
def A_impl_sumOfPassport.r5 : ACode := (.region none [⟨some 2, .move (.c (.int .i64 0)), none⟩])
def A_impl_sumOfPassport.r6 : ACode := (.region none [⟨some 25, .move (.t 3), none⟩,
    ⟨some 2, .move (.t 25), none⟩])
def A_impl_sumOfPassport : AFunc := ⟨[.tmp 2], (.seq A_impl_sumOfPassport.r0 (.seq (.seq A_impl_sumOfPassport.r1 (.cond (.t 6) (.seq A_impl_sumOfPassport.r2 .ret) .skip)) (.seq A_impl_sumOfPassport.r3 (.seq (.seq A_impl_sumOfPassport.r4 (.cond (.t 24) (.seq A_impl_sumOfPassport.r5 .ret) .skip)) (.seq A_impl_sumOfPassport.r6 .ret)))))⟩
/-! spec_l04Is -/
def A_spec_l04Is.r0 : ACode := (.region none [⟨some 2, .move (.c (.bool false)), none⟩])
def A_spec_l04Is.r1 : ACode := (.region none [⟨some 4, .move (.t 0), none⟩,
    ⟨some 5, .len (.t 4), none⟩,
    ⟨some 6, .bin .neq (.t 5) (.c (.int .i64 3)), none⟩])
def A_spec_l04Is.r2 : ACode := (.region none [⟨some 2, .move (.c (.bool false)), none⟩])
def A_spec_l04Is.r3 : ACode := (.region none [⟨some 3, .move (.c (.int .i64 0)), none⟩])
def A_spec_l04Is.r4 : ACode := (.region none [⟨some 7, .move (.t 3), none⟩,
    ⟨some 8, .bin .lss (.t 7) (.c (.int .i64 3)), none⟩])
def A_spec_l04Is.r6 : ACode := (.region (some 18) [⟨some 11, .move (.t 0), none⟩,
    ⟨some 12, .move (.t 3), none⟩,
    ⟨some 13, .indexAddr none 1 (.t 11) (.t 12), none⟩,
    ⟨some 14, .load none (.t 13), none⟩,
    ⟨some 15, .call 106 [(.t 14)], none⟩,
    ⟨some 16, .not (.t 15), none⟩,
    ⟨some 17, .move (.t 16), none⟩,
    ⟨some 18, .move (.t 0), some (17, false)⟩,
    ⟨some 19, .move (.t 3), some (17, false)⟩,
    ⟨some 20, .indexAddr none 1 (.t 18) (.t 19), some (17, false)⟩,
    ⟨some 21, .load none (.t 20), some (17, false)⟩,
    ⟨some 22, .call 79 [(.t 21)], some (17, false)⟩,
    ⟨some 23, .move (.t 0), some (17, false)⟩,
    ⟨some 24, .indexAddr none 1 (.t 23) (.c (.int .i64 0)), some (17, false)⟩,
    ⟨some 25, .load none (.t 24), some (17, false)⟩,
    ⟨some 26, .call 79 [(.t 25)], some (17, false)⟩,
    ⟨some 27, .bin .neq (.t 22) (.t 26), some (17, false)⟩,
    ⟨some 28, .pick (.t 17) (.c (.bool true)) (.t 27), none⟩])
def A_spec_l04Is.r7 : ACode := (.region none [⟨some 2, .move (.c (.bool false)), none⟩])
def A_spec_l04Is.r5 : ACode := (.region none [⟨some 9, .move (.t 3), none⟩,
    ⟨some 10, .bin .add (.t 9) (.c (.int .i64 1)), none⟩,
    ⟨some 3, .move (.t 10), none⟩])
def A_spec_l04Is.l0 : ACode := (.seq (.seq A_spec_l04Is.r4 (.cond (.t 8) .skip (.exit 0))) (.seq (.block 1 (.seq A_spec_l04Is.r6 (.cond (.t 28) (.seq A_spec_l04Is.r7 .ret) .skip))) A_spec_l04Is.r5))
def A_spec_l04Is.r8 : ACode := (.region none [⟨some 2, .move (.c (.bool true)), none⟩])
def A_spec_l04Is : AFunc := ⟨[.tmp 2], (.seq A_spec_l04Is.r0 (.seq (.seq A_spec_l04Is.r1 (.cond (.t 6) (.seq A_spec_l04Is.r2 .ret) .skip)) (.seq (.seq A_spec_l04Is.r3 (.block 0 (.loop A_spec_l04Is.l0))) (.seq A_spec_l04Is.r8 .ret))))⟩
/-! spec_l04Sum -/
def A_spec_l04Sum.r0 : ACode := (.region none [⟨some 2, .move (.c (.int .i64 0)), none⟩])
def A_spec_l04Sum.r1 : ACode := (.region none [⟨some 3, .move (.c (.int .i64 0)), none⟩])
def A_spec_l04Sum.r2 : ACode := (.region none [⟨some 4, .move (.c (.int .i64 0)), none⟩])
def A_spec_l04Sum.r3 : ACode := (.region none [⟨some 5, .move (.t 4), none⟩,
    ⟨some 6, .move (.t 0), none⟩,
    ⟨some 7, .len (.t 6), none⟩,
    ⟨some 8, .bin .lss (.t 5) (.t 7), none⟩])
def A_spec_l04Sum.r5 : ACode := (.region none [⟨some 11, .move (.t 3), none⟩,
    ⟨some 12, .move (.t 0), none⟩,
    ⟨some 13, .move (.t 4), none⟩,
    ⟨some 14, .indexAddr none 1 (.t 12) (.t 13), none⟩,
    ⟨some 15, .load none (.t 14), none⟩,
    ⟨some 16, .bin .add (.t 11) (.t 15), none⟩,
    ⟨some 3, .move (.t 16), none⟩])
def A_spec_l04Sum.r4 : ACode := (.region none [⟨some 9, .move (.t 4), none⟩,
    ⟨some 10, .bin .add (.t 9) (.c (.int .i64 1)), none⟩,
    ⟨some 4, .move (.t 10), none⟩])
def A_spec_l04Sum.l0 : ACode := (.seq (.seq A_spec_l04Sum.r3 (.cond (.t 8) .skip (.exit 0))) (.seq (.block 1 A_spec_l04Sum.r5) A_spec_l04Sum.r4))
def A_spec_l04Sum.r6 : ACode := (.region none [⟨some 17, .move (.t 3), none⟩,
    ⟨some 2, .move (.t 17), none⟩])
def A_spec_l04Sum : AFunc := ⟨[.tmp 2], (.seq A_spec_l04Sum.r0 (.seq A_spec_l04Sum.r1 (.seq (.seq A_spec_l04Sum.r2 (.block 0 (.loop A_spec_l04Sum.l0))) (.seq A_spec_l04Sum.r6 .ret))))⟩
/-! impl_centraliser -/
def A_impl_centraliser.r0 : ACode := (.region none [⟨some 2, .move (.c (.int .i64 0)), none⟩])
def A_impl_centraliser.r1 : ACode := (.region none [⟨some 6, .move (.t 0), none⟩,
    ⟨some 7, .call 70 [(.t 6)], none⟩,
    ⟨some 3, .move (.t 7), none⟩])
def A_impl_centraliser.r2 : ACode := (.region none [⟨some 8, .move (.t 0), none⟩,
    ⟨some 9, .len (.t 8), none⟩,
    ⟨some 10, .move (.c (.int .i64 0)), none⟩])
def A_impl_centraliser.r3 : ACode := (.region none [⟨some 11, .bin .lss (.t 10) (.t 9), none⟩])
def A_impl_centraliser.r4 : ACode := (.region none [⟨some 12, .indexAddr none 1 (.t 8) (.t 10), none⟩,
    ⟨some 13, .load none (.t 12), none⟩,
    ⟨some 5, .move (.t 13), none⟩])
def A_impl_centraliser.r5 : ACode := (.region none [⟨some 14, .move (.t 3), none⟩,
    ⟨some 15, .move (.t 5), none⟩,
    ⟨some 16, .bin .mul (.t 14) (.t 15), none⟩,
    ⟨some 3, .move (.t 16), none⟩])
def A_impl_centraliser.r6 : ACode := (.region none [⟨some 17, .bin .add (.t 10) (.c (.int .i64 1)), none⟩,
    ⟨some 10, .move (.t 17), none⟩])
def A_impl_centraliser.l0 : ACode := (.seq A_impl_centraliser.r3 (.seq (.cond (.t 11) .skip (.exit 0)) (.seq (.block 1 (.seq A_impl_centraliser.r4 A_impl_centraliser.r5)) A_impl_centraliser.r6)))
def A_impl_centraliser.r7 : ACode := (.region none [⟨some 18, .move (.t 3), none⟩,
    ⟨some 2, .move (.t 18), none⟩])
def A_impl_centraliser : AFunc := ⟨[.tmp 2], (.seq A_impl_centraliser.r0 (.seq A_impl_centraliser.r1 (.seq (.seq A_impl_centraliser.r2 (.block 0 (.loop A_impl_centraliser.l0))) (.seq A_impl_centraliser.r7 .ret))))⟩
/-! spec_l04Centraliser -/
def A_spec_l04Centraliser.r0 : ACode := (.region none [⟨some 2, .move (.c (.int .i64 0)), none⟩])
def A_spec_l04Centraliser.r1 : ACode := (.region none [⟨some 3, .move (.c (.int .i64 1)), none⟩,
    ⟨some 4, .move (.c (.int .i64 0)), none⟩])
def A_spec_l04Centraliser.r2 : ACode := (.region none [⟨some 5, .move (.c (.int .i64 0)), none⟩])
def A_spec_l04Centraliser.r3 : ACode := (.region none [⟨some 6, .move (.t 5), none⟩,
    ⟨some 7, .move (.t 0), none⟩,
    ⟨some 8, .len (.t 7), none⟩,
    ⟨some 9, .bin .lss (.t 6) (.t 8), none⟩])
def A_spec_l04Centraliser.r5 : ACode := (.region none [⟨some 12, .move (.t 4), none⟩,
    ⟨some 13, .bin .add (.t 12) (.c (.int .i64 1)), none⟩,
    ⟨some 4, .move (.t 13), none⟩])
def A_spec_l04Centraliser.r6 : ACode := (.region (some 14) [⟨some 14, .move (.t 5), none⟩,
    ⟨some 15, .bin .gtr (.t 14) (.c (.int .i64 0)), none⟩,
    ⟨some 16, .move (.t 15), none⟩,
    ⟨some 17, .move (.t 0), some (16, true)⟩,
    ⟨some 18, .move (.t 5), some (16, true)⟩,
    ⟨some 19, .indexAddr none 1 (.t 17) (.t 18), some (16, true)⟩,
    ⟨some 20, .load none (.t 19), some (16, true)⟩,
    ⟨some 21, .move (.t 0), some (16, true)⟩,
    ⟨some 22, .move (.t 5), some (16, true)⟩,
    ⟨some 23, .bin .sub (.t 22) (.c (.int .i64 1)), some (16, true)⟩,
    ⟨some 24, .indexAddr none 1 (.t 21) (.t 23), some (16, true)⟩,
    ⟨some 25, .load none (.t 24), some (16, true)⟩,
    ⟨some 26, .bin .neq (.t 20) (.t 25), some (16, true)⟩,
    ⟨some 27, .pick (.t 16) (.t 26) (.c (.bool false)), none⟩])
def A_spec_l04Centraliser.r7 : ACode := (.region none [⟨some 4, .move (.c (.int .i64 1)), none⟩])
def A_spec_l04Centraliser.r8 : ACode := (.region none [⟨some 28, .move (.t 3), none⟩,
    ⟨some 29, .move (.t 0), none⟩,
    ⟨some 30, .move (.t 5), none⟩,
    ⟨some 31, .indexAddr none 1 (.t 29) (.t 30), none⟩,
    ⟨some 32, .load none (.t 31), none⟩,
    ⟨some 33, .bin .mul (.t 28) (.t 32), none⟩,
    ⟨some 34, .move (.t 4), none⟩,
    ⟨some 35, .bin .mul (.t 33) (.t 34), none⟩,
    ⟨some 3, .move (.t 35), none⟩])
def A_spec_l04Centraliser.r4 : ACode := (.region none [⟨some 10, .move (.t 5), none⟩,
    ⟨some 11, .bin .add (.t 10) (.c (.int .i64 1)), none⟩,
    ⟨some 5, .move (.t 11), none⟩])
def A_spec_l04Centraliser.l0 : ACode := (.seq (.seq A_spec_l04Centraliser.r3 (.cond (.t 9) .skip (.exit 0))) (.seq (.block 1 (.seq A_spec_l04Centraliser.r5 (.seq (.seq A_spec_l04Centraliser.r6 (.cond (.t 27) A_spec_l04Centraliser.r7 .skip)) A_spec_l04Centraliser.r8))) A_spec_l04Centraliser.r4))
def A_spec_l04Centraliser.r9 : ACode := (.region none [⟨some 36, .move (.t 3), none⟩,
    ⟨some 2, .move (.t 36), none⟩])
def A_spec_l04Centraliser : AFunc := ⟨[.tmp 2], (.seq A_spec_l04Centraliser.r0 (.seq A_spec_l04Centraliser.r1 (.seq (.seq A_spec_l04Centraliser.r2 (.block 0 (.loop A_spec_l04Centraliser.l0))) (.seq A_spec_l04Centraliser.r9 .ret))))⟩
/-! impl_factorial -/
def A_impl_factorial.r0 : ACode := (.region none [⟨some 2, .move (.c (.int .i64 0)), none⟩])
def A_impl_factorial.r1 : ACode := (.region none [⟨some 3, .move (.c (.int .i64 1)), none⟩])
def A_impl_factorial.r2 : ACode := (.region none [⟨some 4, .move (.c (.int .i64 2)), none⟩])
def A_impl_factorial.r3 : ACode := (.region none [⟨some 5, .move (.t 4), none⟩,
    ⟨some 6, .move (.t 0), none⟩,
    ⟨some 7, .bin .leq (.t 5) (.t 6), none⟩])
def A_impl_factorial.r5 : ACode := (.region none [⟨some 10, .move (.t 3), none⟩,
    ⟨some 11, .move (.t 4), none⟩,
    ⟨some 12, .bin .mul (.t 10) (.t 11), none⟩,
    ⟨some 3, .move (.t 12), none⟩])
def A_impl_factorial.r4 : ACode := (.region none [⟨some 8, .move (.t 4), none⟩,
    ⟨some 9, .bin .add (.t 8) (.c (.int .i64 1)), none⟩,
    ⟨some 4, .move (.t 9), none⟩])
def A_impl_factorial.l0 : ACode := (.seq (.seq A_impl_factorial.r3 (.cond (.t 7) .skip (.exit 0))) (.seq (.block 1 A_impl_factorial.r5) A_impl_factorial.r4))
def A_impl_factorial.r6 : ACode := (.region none [⟨some 13, .move (.t 3), none⟩,
    ⟨some 2, .move (.t 13), none⟩])
def A_impl_factorial : AFunc := ⟨[.tmp 2], (.seq A_impl_factorial.r0 (.seq A_impl_factorial.r1 (.seq (.seq A_impl_factorial.r2 (.block 0 (.loop A_impl_factorial.l0))) (.seq A_impl_factorial.r6 .ret))))⟩
/-! impl_repeated -/
def A_impl_repeated.r0 : ACode := (.region none [⟨some 2, .move (.c (.int .i64 0)), none⟩])
def A_impl_repeated.r1 : ACode := (.region none [⟨some 3, .move (.c (.int .i64 1)), none⟩,
    ⟨some 4, .move (.c (.int .i64 0)), none⟩])
def A_impl_repeated.r2 : ACode := (.region none [⟨some 7, .move (.t 0), none⟩,
    ⟨some 8, .len (.t 7), none⟩,
    ⟨some 9, .move (.c (.int .i64 0)), none⟩])
def A_impl_repeated.r3 : ACode := (.region none [⟨some 10, .bin .lss (.t 9) (.t 8), none⟩])
def A_impl_repeated.r4 : ACode := (.region none [⟨some 11, .move (.t 9), none⟩,
    ⟨some 12, .indexAddr none 1 (.t 7) (.t 9), none⟩,
    ⟨some 13, .load none (.t 12), none⟩,
    ⟨some 5, .move (.t 11), none⟩,
    ⟨some 6, .move (.t 13), none⟩])
def A_impl_repeated.r5 : ACode := (.region none [⟨some 14, .move (.t 5), none⟩,
    ⟨some 15, .bin .gtr (.t 14) (.c (.int .i64 0)), none⟩,
    ⟨some 16, .move (.t 15), none⟩,
    ⟨some 17, .move (.t 6), some (16, true)⟩,
    ⟨some 18, .move (.t 0), some (16, true)⟩,
    ⟨some 19, .move (.t 5), some (16, true)⟩,
    ⟨some 20, .bin .sub (.t 19) (.c (.int .i64 1)), some (16, true)⟩,
    ⟨some 21, .indexAddr none 1 (.t 18) (.t 20), some (16, true)⟩,
    ⟨some 22, .load none (.t 21), some (16, true)⟩,
    ⟨some 23, .bin .eql (.t 17) (.t 22), some (16, true)⟩,
    ⟨some 24, .pick (.t 16) (.t 23) (.c (.bool false)), none⟩])
def A_impl_repeated.r6 : ACode := (.region none [⟨some 25, .move (.t 4), none⟩,
    ⟨some 26, .bin .add (.t 25) (.c (.int .i64 1)), none⟩,
    ⟨some 4, .move (.t 26), none⟩])
def A_impl_repeated.r7 : ACode := (.region none [⟨some 4, .move (.c (.int .i64 1)), none⟩])
def A_impl_repeated.r8 : ACode := (.region none [⟨some 27, .move (.t 3), none⟩,
    ⟨some 28, .move (.t 4), none⟩,
    ⟨some 29, .bin .mul (.t 27) (.t 28), none⟩,
    ⟨some 3, .move (.t 29), none⟩])
def A_impl_repeated.r9 : ACode := (.region none [⟨some 30, .bin .add (.t 9) (.c (.int .i64 1)), none⟩,
    ⟨some 9, .move (.t 30), none⟩])
def A_impl_repeated.l0 : ACode := (.seq A_impl_repeated.r3 (.seq (.cond (.t 10) .skip (.exit 0)) (.seq (.block 1 (.seq A_impl_repeated.r4 (.seq (.seq A_impl_repeated.r5 (.cond (.t 24) A_impl_repeated.r6 A_impl_repeated.r7)) A_impl_repeated.r8))) A_impl_repeated.r9)))
def A_impl_repeated.r10 : ACode := (.region none [⟨some 31, .move (.t 3), none⟩,
    ⟨some 2, .move (.t 31), none⟩])
def A_impl_repeated : AFunc := ⟨[.tmp 2], (.seq A_impl_repeated.r0 (.seq A_impl_repeated.r1 (.seq (.seq A_impl_repeated.r2 (.block 0 (.loop A_impl_repeated.l0))) (.seq A_impl_repeated.r10 .ret))))⟩
/-! spec_l01Type -/
def A_spec_l01Type.r0 : ACode := (.region none [⟨some 2, .box (.t 0), none⟩,
    ⟨some 4, .move (.c (.slice none 0 0)), none⟩])
def A_spec_l01Type.r1 : ACode := (.region none [⟨some 11, .build (List.replicate 17 (.int .i64 0)) [], none⟩,
    ⟨some 12, .load (some 16) (.t 2), none⟩,
    ⟨some 13, .move (.t 1), none⟩,
    ⟨some 14, .call 285 [(.t 12), (.t 13)], none⟩,
    ⟨some 15, .buildSlice 1 0 [.int .i64 0] [], none⟩,
    ⟨some 5, .alloc (List.replicate 17 (.int .i64 0)), none⟩,
    ⟨none, .store 17 (.t 5) (.t 11), none⟩,
    ⟨some 6, .move (.t 14), none⟩,
    ⟨some 7, .move (.t 15), none⟩])
def A_spec_l01Type.r2 : ACode := (.region none [⟨some 8, .move (.c (.int .i64 0)), none⟩])
def A_spec_l01Type.r3 : ACode := (.region none [⟨some 16, .move (.t 8), none⟩,
    ⟨some 17, .move (.t 6), none⟩,
    ⟨some 18, .len (.t 17), none⟩,
    ⟨some 19, .bin .lss (.t 16) (.t 18), none⟩])
def A_spec_l01Type.r5 : ACode := (.region none [⟨some 22, .move (.t 6), none⟩,
    ⟨some 23, .move (.t 8), none⟩,
    ⟨some 24, .indexAddr none 1 (.t 22) (.t 23), none⟩,
    ⟨some 25, .load none (.t 24), none⟩,
    ⟨some 26, .len (.t 25), none⟩,
    ⟨some 27, .indexAddr (some 17) 1 (.t 5) (.t 26), none⟩,
    ⟨some 28, .load none (.t 27), none⟩,
    ⟨some 29, .bin .add (.t 28) (.c (.int .i64 1)), none⟩,
    ⟨some 30, .indexAddr (some 17) 1 (.t 5) (.t 26), none⟩,
    ⟨none, .store 1 (.t 30) (.t 29), none⟩])
def A_spec_l01Type.r4 : ACode := (.region none [⟨some 20, .move (.t 8), none⟩,
    ⟨some 21, .bin .add (.t 20) (.c (.int .i64 1)), none⟩,
    ⟨some 8, .move (.t 21), none⟩])
def A_spec_l01Type.l0 : ACode := (.seq (.seq A_spec_l01Type.r3 (.cond (.t 19) .skip (.exit 0))) (.seq (.block 1 A_spec_l01Type.r5) A_spec_l01Type.r4))
def A_spec_l01Type.r6 : ACode := (.region none [⟨some 31, .move (.t 1), none⟩,
    ⟨some 9, .move (.t 31), none⟩])
def A_spec_l01Type.r7 : ACode := (.region none [⟨some 32, .move (.t 9), none⟩,
    ⟨some 33, .bin .gtr (.t 32) (.c (.int .i64 0)), none⟩])
def A_spec_l01Type.r9 : ACode := (.region none [⟨some 36, .move (.t 9), none⟩,
    ⟨some 37, .indexAddr (some 17) 1 (.t 5) (.t 36), none⟩,
    ⟨some 38, .load none (.t 37), none⟩,
    ⟨some 10, .move (.t 38), none⟩])
def A_spec_l01Type.r10 : ACode := (.region none [⟨some 39, .move (.t 10), none⟩,
    ⟨some 40, .bin .gtr (.t 39) (.c (.int .i64 0)), none⟩])
def A_spec_l01Type.r12 : ACode := (.region none [⟨some 43, .move (.t 7), none⟩,
    ⟨some 44, .move (.t 9), none⟩,
    ⟨some 45, .buildSlice 1 1 [.int .i64 0] [(0, 1, (.t 44))], none⟩,
    ⟨some 46, .append 1 8 (.t 43) (.t 45), none⟩,
    ⟨some 7, .move (.t 46), none⟩])
def A_spec_l01Type.r11 : ACode := (.region none [⟨some 41, .move (.t 10), none⟩,
    ⟨some 42, .bin .sub (.t 41) (.c (.int .i64 1)), none⟩,
    ⟨some 10, .move (.t 42), none⟩])
def A_spec_l01Type.l1 : ACode := (.seq (.seq A_spec_l01Type.r10 (.cond (.t 40) .skip (.exit 4))) (.seq (.block 5 A_spec_l01Type.r12) A_spec_l01Type.r11))
def A_spec_l01Type.r8 : ACode := (.region none [⟨some 34, .move (.t 9), none⟩,
    ⟨some 35, .bin .sub (.t 34) (.c (.int .i64 1)), none⟩,
    ⟨some 9, .move (.t 35), none⟩])
def A_spec_l01Type.l2 : ACode := (.seq (.seq A_spec_l01Type.r7 (.cond (.t 33) .skip (.exit 2))) (.seq (.block 3 (.seq A_spec_l01Type.r9 (.block 4 (.loop A_spec_l01Type.l1)))) A_spec_l01Type.r8))
def A_spec_l01Type.r13 : ACode := (.region none [⟨some 47, .move (.t 7), none⟩,
    ⟨some 4, .move (.t 47), none⟩])
def A_spec_l01Type : AFunc := ⟨[.tmp 4], (.seq A_spec_l01Type.r0 (.seq A_spec_l01Type.r1 (.seq (.seq A_spec_l01Type.r2 (.block 0 (.loop A_spec_l01Type.l0))) (.seq (.seq A_spec_l01Type.r6 (.block 2 (.loop A_spec_l01Type.l2))) (.seq A_spec_l01Type.r13 .ret)))))⟩
/-! slices_Equal_int64_int64 -/
def A_slices_Equal_int64_int64.r0 : ACode := (.region none [⟨some 4, .move (.c (.bool false)), none⟩])
def A_slices_Equal_int64_int64.r1 : ACode := (.region none [⟨some 6, .move (.t 0), none⟩,
    ⟨some 7, .len (.t 6), none⟩,
    ⟨some 8, .move (.t 1), none⟩,
    ⟨some 9, .len (.t 8), none⟩,
    ⟨some 10, .bin .neq (.t 7) (.t 9), none⟩])
def A_slices_Equal_int64_int64.r2 : ACode := (.region none [⟨some 4, .move (.c (.bool false)), none⟩])
def A_slices_Equal_int64_int64.r3 : ACode := (.region none [⟨some 11, .move (.t 0), none⟩,
    ⟨some 12, .len (.t 11), none⟩,
    ⟨some 13, .move (.c (.int .i64 0)), none⟩])
def A_slices_Equal_int64_int64.r4 : ACode := (.region none [⟨some 14, .bin .lss (.t 13) (.t 12), none⟩])
def A_slices_Equal_int64_int64.r5 : ACode := (.region none [⟨some 15, .move (.t 13), none⟩,
    ⟨some 5, .move (.t 15), none⟩])
def A_slices_Equal_int64_int64.r6 : ACode := (.region (some 9) [⟨some 16, .move (.t 0), none⟩,
    ⟨some 17, .move (.t 5), none⟩,
    ⟨some 18, .indexAddr none 1 (.t 16) (.t 17), none⟩,
    ⟨some 19, .load none (.t 18), none⟩,
    ⟨some 20, .move (.t 1), none⟩,
    ⟨some 21, .move (.t 5), none⟩,
    ⟨some 22, .indexAddr none 1 (.t 20) (.t 21), none⟩,
    ⟨some 23, .load none (.t 22), none⟩,
    ⟨some 24, .bin .neq (.t 19) (.t 23), none⟩])
def A_slices_Equal_int64_int64.r7 : ACode := (.region none [⟨some 4, .move (.c (.bool false)), none⟩])
def A_slices_Equal_int64_int64.r8 : ACode := (.region none [⟨some 25, .bin .add (.t 13) (.c (.int .i64 1)), none⟩,
    ⟨some 13, .move (.t 25), none⟩])
def A_slices_Equal_int64_int64.l0 : ACode := (.seq A_slices_Equal_int64_int64.r4 (.seq (.cond (.t 14) .skip (.exit 0)) (.seq (.block 1 (.seq A_slices_Equal_int64_int64.r5 (.seq A_slices_Equal_int64_int64.r6 (.cond (.t 24) (.seq A_slices_Equal_int64_int64.r7 .ret) .skip)))) A_slices_Equal_int64_int64.r8)))
def A_slices_Equal_int64_int64.r9 : ACode := (.region none [⟨some 4, .move (.c (.bool true)), none⟩])
def A_slices_Equal_int64_int64 : AFunc := ⟨[.tmp 4], (.seq A_slices_Equal_int64_int64.r0 (.seq (.seq A_slices_Equal_int64_int64.r1 (.cond (.t 10) (.seq A_slices_Equal_int64_int64.r2 .ret) .skip)) (.seq (.seq A_slices_Equal_int64_int64.r3 (.block 0 (.loop A_slices_Equal_int64_int64.l0))) (.seq A_slices_Equal_int64_int64.r9 .ret))))⟩
/-! spec_l01Perm -/
def A_spec_l01Perm.r0 : ACode := (.region none [⟨some 2, .box (.t 0), none⟩,
    ⟨some 4, .move (.c (.bool false)), none⟩])
def A_spec_l01Perm.r1 : ACode := (.region none [⟨some 7, .move (.t 1), none⟩,
    ⟨some 8, .call 58 [(.t 7), (.c (.int .i64 1)), (.c (.int .i64 16))], none⟩,
    ⟨some 9, .not (.t 8), none⟩])
def A_spec_l01Perm.r2 : ACode := (.region none [⟨some 4, .move (.c (.bool false)), none⟩])
def A_spec_l01Perm.r3 : ACode := (.region none [⟨some 10, .build (List.replicate 16 (.bool false)) [], none⟩,
    ⟨some 5, .alloc (List.replicate 16 (.bool false)), none⟩,
    ⟨none, .store 16 (.t 5) (.t 10), none⟩])
def A_spec_l01Perm.r4 : ACode := (.region none [⟨some 6, .move (.c (.int .i64 0)), none⟩])
def A_spec_l01Perm.r5 : ACode := (.region none [⟨some 11, .move (.t 6), none⟩,
    ⟨some 12, .bin .lss (.t 11) (.c (.int .i64 16)), none⟩])
def A_spec_l01Perm.r8 : ACode := (.region none [⟨some 20, .move (.t 6), none⟩,
    ⟨some 21, .move (.t 1), none⟩,
    ⟨some 22, .bin .geq (.t 20) (.t 21), none⟩,
    ⟨some 19, .move (.t 22), none⟩])
def A_spec_l01Perm.r9 : ACode := (.region none [⟨some 23, .move (.t 6), none⟩,
    ⟨some 24, .indexAddr (some 16) 1 (.t 2) (.t 23), none⟩,
    ⟨some 25, .load none (.t 24), none⟩,
    ⟨some 26, .bin .neq (.t 25) (.c (.int .u8 0)), none⟩])
def A_spec_l01Perm.r10 : ACode := (.region none [⟨some 4, .move (.c (.bool false)), none⟩])
def A_spec_l01Perm.r11 : ACode := (.region none [⟨some 28, .move (.t 6), none⟩,
    ⟨some 29, .indexAddr (some 16) 1 (.t 2) (.t 28), none⟩,
    ⟨some 30, .load none (.t 29), none⟩,
    ⟨some 31, .conv .i64 (.t 30), none⟩,
    ⟨some 32, .move (.t 1), none⟩,
    ⟨some 33, .bin .geq (.t 31) (.t 32), none⟩,
    ⟨some 34, .move (.t 33), none⟩,
    ⟨some 35, .move (.t 6), some (34, false)⟩,
    ⟨some 36, .indexAddr (some 16) 1 (.t 2) (.t 35), some (34, false)⟩,
    ⟨some 37, .load none (.t 36), some (34, false)⟩,
    ⟨some 38, .indexAddr (some 16) 1 (.t 5) (.t 37), some (34, false)⟩,
    ⟨some 39, .load none (.t 38), some (34, false)⟩,
    ⟨some 40, .pick (.t 34) (.c (.bool true)) (.t 39), none⟩,
    ⟨some 27, .move (.t 40), none⟩])
def A_spec_l01Perm.r12 : ACode := (.region none [⟨some 4, .move (.c (.bool false)), none⟩])
def A_spec_l01Perm.r7 : ACode := (.region none [⟨some 15, .move (.t 6), none⟩,
    ⟨some 16, .indexAddr (some 16) 1 (.t 2) (.t 15), none⟩,
    ⟨some 17, .load none (.t 16), none⟩,
    ⟨some 18, .indexAddr (some 16) 1 (.t 5) (.t 17), none⟩,
    ⟨none, .store 1 (.t 18) (.c (.bool true)), none⟩])
def A_spec_l01Perm.r6 : ACode := (.region none [⟨some 13, .move (.t 6), none⟩,
    ⟨some 14, .bin .add (.t 13) (.c (.int .i64 1)), none⟩,
    ⟨some 6, .move (.t 14), none⟩])
def A_spec_l01Perm.l0 : ACode := (.seq (.seq A_spec_l01Perm.r5 (.cond (.t 12) .skip (.exit 0))) (.seq (.block 1 (.block 2 (.seq A_spec_l01Perm.r8 (.cond (.t 19) (.seq A_spec_l01Perm.r9 (.cond (.t 26) (.seq A_spec_l01Perm.r10 .ret) .skip)) (.seq A_spec_l01Perm.r11 (.cond (.t 27) (.seq A_spec_l01Perm.r12 .ret) A_spec_l01Perm.r7)))))) A_spec_l01Perm.r6))
def A_spec_l01Perm.r13 : ACode := (.region none [⟨some 4, .move (.c (.bool true)), none⟩])
def A_spec_l01Perm : AFunc := ⟨[.tmp 4], (.seq A_spec_l01Perm.r0 (.seq (.seq A_spec_l01Perm.r1 (.cond (.t 9) (.seq A_spec_l01Perm.r2 .ret) .skip)) (.seq A_spec_l01Perm.r3 (.seq (.seq A_spec_l01Perm.r4 (.block 0 (.loop A_spec_l01Perm.l0))) (.seq A_spec_l01Perm.r13 .ret)))))⟩
/-! laws_szInt64S -/
def A_laws_szInt64S.r0 : ACode := (.region none [⟨some 4, .move (.c (.int .i64 0)), none⟩])
def A_laws_szInt64S.r1 : ACode := (.region none [⟨some 5, .move (.t 1), none⟩,
    ⟨some 6, .move (.t 0), none⟩,
    ⟨some 7, .len (.t 6), none⟩,
    ⟨some 8, .bin .sub (.t 5) (.t 7), none⟩,
    ⟨some 1, .move (.t 8), none⟩])
def A_laws_szInt64S.r2 : ACode := (.region none [⟨some 9, .move (.t 1), none⟩,
    ⟨some 10, .bin .lss (.t 9) (.c (.int .i64 0)), none⟩])
def A_laws_szInt64S.r3 : ACode := (.region none [⟨some 4, .move (.c (.int .i64 (-1))), none⟩])
def A_laws_szInt64S.r4 : ACode := (.region none [⟨some 11, .move (.t 1), none⟩,
    ⟨some 4, .move (.t 11), none⟩])
def A_laws_szInt64S : AFunc := ⟨[.tmp 4], (.seq A_laws_szInt64S.r0 (.seq A_laws_szInt64S.r1 (.seq (.seq A_laws_szInt64S.r2 (.cond (.t 10) (.seq A_laws_szInt64S.r3 .ret) .skip)) (.seq A_laws_szInt64S.r4 .ret))))⟩
/-! spec_l04Code -/
def A_spec_l04Code.r0 : ACode := (.region none [⟨some 2, .move (.c (.int .i64 0)), none⟩])
def A_spec_l04Code.r1 : ACode := (.region none [⟨some 4, .move (.t 0), none⟩,
    ⟨some 5, .call 78 [(.t 4)], none⟩,
    ⟨some 6, .not (.t 5), none⟩,
    ⟨some 3, .move (.t 6), none⟩])
def A_spec_l04Code.r2 : ACode := (.region none [⟨some 2, .move (.c (.int .i64 1)), none⟩])
def A_spec_l04Code.r3 : ACode := (.region none [⟨some 8, .move (.t 0), none⟩,
    ⟨some 9, .indexAddr none 1 (.t 8) (.c (.int .i64 0)), none⟩,
    ⟨some 10, .load none (.t 9), none⟩,
    ⟨some 11, .call 79 [(.t 10)], none⟩,
    ⟨some 12, .bin .gtr (.t 11) (.c (.int .i64 8)), none⟩,
    ⟨some 7, .move (.t 12), none⟩])
def A_spec_l04Code.r4 : ACode := (.region none [⟨some 2, .move (.c (.int .i64 2)), none⟩])
def A_spec_l04Code.r5 : ACode := (.region none [⟨some 2, .move (.c (.int .i64 0)), none⟩])
def A_spec_l04Code : AFunc := ⟨[.tmp 2], (.seq A_spec_l04Code.r0 (.seq (.block 0 (.seq A_spec_l04Code.r1 (.cond (.t 3) (.seq A_spec_l04Code.r2 .ret) (.seq A_spec_l04Code.r3 (.cond (.t 7) (.seq A_spec_l04Code.r4 .ret) .skip))))) (.seq A_spec_l04Code.r5 .ret)))⟩
/-! spec_l04Run -/
def A_spec_l04Run.r0 : ACode := (.region none [⟨some 4, .alloc ([.int .i64 0, .int .i64 0] ++ [.slice none 0 0] ++ [.bool false]), none⟩])
def A_spec_l04Run.r1 : ACode := (.region none [⟨some 6, .move (.t 0), none⟩,
    ⟨some 7, .indexAddr none 1 (.t 6) (.c (.int .i64 0)), none⟩,
    ⟨some 8, .load none (.t 7), none⟩,
    ⟨some 9, .call 79 [(.t 8)], none⟩,
    ⟨some 5, .move (.t 9), none⟩])
def A_spec_l04Run.r2 : ACode := (.region none [⟨some 10, .move (.t 1), none⟩,
    ⟨some 11, .build ([.int .i64 0, .int .i64 0] ++ [.slice none 0 0] ++ [.bool false]) [(3, 1, (.t 10))], none⟩,
    ⟨some 12, .move (.t 0), none⟩,
    ⟨some 13, .indexAddr none 1 (.t 12) (.c (.int .i64 0)), none⟩,
    ⟨some 14, .load none (.t 13), none⟩,
    ⟨some 15, .call 363 [(.t 14)], none⟩,
    ⟨some 16, .move (.t 5), none⟩,
    ⟨some 17, .call 364 [(.t 16)], none⟩,
    ⟨some 18, .move (.t 5), none⟩,
    ⟨some 19, .move (.t 0), none⟩,
    ⟨some 20, .call 365 [(.t 11), (.t 15), (.t 17), (.c (.int .i64 0)), (.t 18), (.t 19)], none⟩,
    ⟨none, .store 4 (.t 4) (.t 20), none⟩])
def A_spec_l04Run : AFunc := ⟨[.cell 4 (some 4)], (.seq A_spec_l04Run.r0 (.seq A_spec_l04Run.r1 (.seq A_spec_l04Run.r2 .ret)))⟩
/-! spec_l04Factorial -/
def A_spec_l04Factorial.r0 : ACode := (.region none [⟨some 2, .move (.c (.int .i64 0)), none⟩])
def A_spec_l04Factorial.r1 : ACode := (.region none [⟨some 3, .move (.c (.int .i64 1)), none⟩])
def A_spec_l04Factorial.r2 : ACode := (.region none [⟨some 4, .move (.t 0), none⟩,
    ⟨some 5, .bin .gtr (.t 4) (.c (.int .i64 1)), none⟩])
def A_spec_l04Factorial.r4 : ACode := (.region none [⟨some 8, .move (.t 3), none⟩,
    ⟨some 9, .move (.t 0), none⟩,
    ⟨some 10, .bin .mul (.t 8) (.t 9), none⟩,
    ⟨some 3, .move (.t 10), none⟩])
def A_spec_l04Factorial.r3 : ACode := (.region none [⟨some 6, .move (.t 0), none⟩,
    ⟨some 7, .bin .sub (.t 6) (.c (.int .i64 1)), none⟩,
    ⟨some 0, .move (.t 7), none⟩])
def A_spec_l04Factorial.l0 : ACode := (.seq (.seq A_spec_l04Factorial.r2 (.cond (.t 5) .skip (.exit 0))) (.seq (.block 1 A_spec_l04Factorial.r4) A_spec_l04Factorial.r3))
def A_spec_l04Factorial.r5 : ACode := (.region none [⟨some 11, .move (.t 3), none⟩,
    ⟨some 2, .move (.t 11), none⟩])
def A_spec_l04Factorial : AFunc := ⟨[.tmp 2], (.seq A_spec_l04Factorial.r0 (.seq A_spec_l04Factorial.r1 (.seq (.block 0 (.loop A_spec_l04Factorial.l0)) (.seq A_spec_l04Factorial.r5 .ret))))⟩
/-! impl_searchCode -/
def A_impl_searchCode.r0 : ACode := (.region none [⟨some 2, .move (.c (.int .i64 0)), none⟩])
def A_impl_searchCode.r1 : ACode := (.region none [⟨some 4, .move (.t 0), none⟩,
    ⟨some 5, .call 80 [(.t 4)], none⟩,
    ⟨some 3, .move (.t 5), none⟩])
def A_impl_searchCode.r2 : ACode := (.region none [⟨some 7, .move (.t 3), none⟩,
    ⟨some 8, .bin .eql (.t 7) (.c (.int .i64 0)), none⟩,
    ⟨some 6, .move (.t 8), none⟩])
def A_impl_searchCode.r3 : ACode := (.region none [⟨some 2, .move (.c (.int .i64 1)), none⟩])
def A_impl_searchCode.r4 : ACode := (.region none [⟨some 10, .move (.t 3), none⟩,
    ⟨some 11, .bin .gtr (.t 10) (.c (.int .i64 8)), none⟩,
    ⟨some 9, .move (.t 11), none⟩])
def A_impl_searchCode.r5 : ACode := (.region none [⟨some 2, .move (.c (.int .i64 2)), none⟩])
def A_impl_searchCode.r6 : ACode := (.region none [⟨some 2, .move (.c (.int .i64 0)), none⟩])
def A_impl_searchCode : AFunc := ⟨[.tmp 2], (.seq A_impl_searchCode.r0 (.seq (.seq A_impl_searchCode.r1 (.block 0 (.seq A_impl_searchCode.r2 (.cond (.t 6) (.seq A_impl_searchCode.r3 .ret) (.seq A_impl_searchCode.r4 (.cond (.t 9) (.seq A_impl_searchCode.r5 .ret) .skip)))))) (.seq A_impl_searchCode.r6 .ret)))⟩
/-! impl_eachPair -/
def A_impl_eachPair.r0 : ACode := (.region none [⟨some 2, .box (.t 0), none⟩,
    ⟨some 3, .box (.t 1), none⟩,
    ⟨some 4, .move (.c (.int .i64 0)), none⟩])
def A_impl_eachPair.r1 : ACode := (.region none [⟨some 7, .load none (.t 2), none⟩,
    ⟨some 8, .call 80 [(.t 7)], none⟩,
    ⟨some 5, .alloc [.int .i64 0], none⟩,
    ⟨none, .store 1 (.t 5) (.t 8), none⟩])
def A_impl_eachPair.r2 : ACode := (.region none [⟨some 9, .load none (.t 2), none⟩,
    ⟨some 10, .indexAddr none 1 (.t 9) (.c (.int .i64 0)), none⟩,
    ⟨some 11, .load none (.t 10), none⟩,
    ⟨some 12, .call 366 [(.t 11)], none⟩,
    ⟨some 6, .alloc (List.replicate 16 (.int .u8 0)), none⟩,
    ⟨none, .store 16 (.t 6) (.t 12), none⟩])
def A_impl_eachPair.r3 : ACode := (.region none [⟨some 13, .load none (.t 5), none⟩,
    ⟨some 14, .makeFunc 367 [(.t 5), (.t 6), (.t 2), (.t 3)], none⟩,
    ⟨some 15, .call 368 [(.t 13), (.t 14)], none⟩])
def A_impl_eachPair.r4 : ACode := (.region (some 8) [⟨some 16, .load none (.t 5), none⟩,
    ⟨some 17, .call 69 [(.t 16)], none⟩,
    ⟨some 18, .load none (.t 2), none⟩,
    ⟨some 19, .indexAddr none 1 (.t 18) (.c (.int .i64 0)), none⟩,
    ⟨some 20, .load none (.t 19), none⟩,
    ⟨some 21, .call 354 [(.t 20)], none⟩,
    ⟨some 22, .bin .quo (.t 17) (.t 21), none⟩,
    ⟨some 4, .move (.t 22), none⟩])
def A_impl_eachPair : AFunc := ⟨[.tmp 4], (.seq A_impl_eachPair.r0 (.seq A_impl_eachPair.r1 (.seq A_impl_eachPair.r2 (.seq A_impl_eachPair.r3 (.seq A_impl_eachPair.r4 .ret)))))⟩
/-! impl_CountConnected_1 -/
def A_impl_CountConnected_1.r0 : ACode := (.region none [⟨some 2, .box (.t 0), none⟩])
def A_impl_CountConnected_1.r1 : ACode := (.region none [⟨some 3, .load (some 33) (.t 2), none⟩,
    ⟨some 4, .call 369 [(.t 3)], none⟩])
def A_impl_CountConnected_1.r2 : ACode := (.region none [⟨some 5, .load none (.t 1), none⟩,
    ⟨some 6, .bin .add (.t 5) (.c (.int .i64 1)), none⟩,
    ⟨none, .store 1 (.t 1) (.t 6), none⟩])
def A_impl_CountConnected_1 : AFunc := ⟨[], (.seq A_impl_CountConnected_1.r0 (.seq A_impl_CountConnected_1.r1 (.cond (.t 4) A_impl_CountConnected_1.r2 .skip)))⟩
/-! spec_l01Same -/
def A_spec_l01Same.r0 : ACode := (.region none [⟨some 2, .alloc (List.replicate 16 (.int .u8 0)), none⟩])
def A_spec_l01Same.r1 : ACode := (.region none [⟨some 5, .build (List.replicate 16 (.int .u8 0)) [], none⟩,
    ⟨some 3, .alloc (List.replicate 16 (.int .u8 0)), none⟩,
    ⟨none, .store 16 (.t 3) (.t 5), none⟩])
def A_spec_l01Same.r2 : ACode := (.region none [⟨some 4, .move (.c (.int .i64 0)), none⟩])
def A_spec_l01Same.r3 : ACode := (.region none [⟨some 6, .move (.t 4), none⟩,
    ⟨some 7, .move (.t 0), none⟩,
    ⟨some 8, .bin .lss (.t 6) (.t 7), none⟩])
def A_spec_l01Same.r5 : ACode := (.region none [⟨some 11, .move (.t 4), none⟩,
    ⟨some 12, .move (.t 4), none⟩,
    ⟨some 13, .conv .u8 (.t 12), none⟩,
    ⟨some 14, .indexAddr (some 16) 1 (.t 3) (.t 11), none⟩,
    ⟨none, .store 1 (.t 14) (.t 13), none⟩])
def A_spec_l01Same.r4 : ACode := (.region none [⟨some 9, .move (.t 4), none⟩,
    ⟨some 10, .bin .add (.t 9) (.c (.int .i64 1)), none⟩,
    ⟨some 4, .move (.t 10), none⟩])
def A_spec_l01Same.l0 : ACode := (.seq (.seq A_spec_l01Same.r3 (.cond (.t 8) .skip (.exit 0))) (.seq (.block 1 A_spec_l01Same.r5) A_spec_l01Same.r4))
def A_spec_l01Same.r6 : ACode := (.region none [⟨some 15, .load (some 16) (.t 3), none⟩,
    ⟨none, .store 16 (.t 2) (.t 15), none⟩])
def A_spec_l01Same : AFunc := ⟨[.cell 2 (some 16)], (.seq A_spec_l01Same.r0 (.seq A_spec_l01Same.r1 (.seq (.seq A_spec_l01Same.r2 (.block 0 (.loop A_spec_l01Same.l0))) (.seq A_spec_l01Same.r6 .ret))))⟩
/-! impl_reached -/
def A_impl_reached.r0 : ACode := (.region none [⟨some 4, .move (.c (.int .i64 0)), none⟩])
def A_impl_reached.r1 : ACode := (.region none [⟨some 11, .build (List.replicate 16 (.bool false)) [(0, 1, (.c (.bool true)))], none⟩,
    ⟨some 5, .alloc (List.replicate 16 (.bool false)), none⟩,
    ⟨none, .store 16 (.t 5) (.t 11), none⟩])
def A_impl_reached.r2 : ACode := (.region none [⟨some 12, .buildSlice 1 1 [.int .u8 0] [(0, 1, (.c (.int .u8 0)))], none⟩,
    ⟨some 6, .move (.t 12), none⟩])
def A_impl_reached.r3 : ACode := (.region none [⟨some 7, .move (.c (.int .i64 0)), none⟩])
def A_impl_reached.r4 : ACode := (.region none [⟨some 13, .move (.t 7), none⟩,
    ⟨some 14, .move (.t 6), none⟩,
    ⟨some 15, .len (.t 14), none⟩,
    ⟨some 16, .bin .lss (.t 13) (.t 15), none⟩])
def A_impl_reached.r6 : ACode := (.region none [⟨some 19, .move (.t 1), none⟩,
    ⟨some 20, .len (.t 19), none⟩,
    ⟨some 21, .move (.c (.int .i64 0)), none⟩])
def A_impl_reached.r7 : ACode := (.region none [⟨some 22, .bin .lss (.t 21) (.t 20), none⟩])
def A_impl_reached.r8 : ACode := (.region none [⟨some 23, .indexAddr none 16 (.t 19) (.t 21), none⟩,
    ⟨some 24, .load (some 16) (.t 23), none⟩,
    ⟨some 9, .alloc (List.replicate 16 (.int .u8 0)), none⟩,
    ⟨none, .store 16 (.t 9) (.t 24), none⟩])
def A_impl_reached.r9 : ACode := (.region none [⟨some 25, .move (.t 6), none⟩,
    ⟨some 26, .move (.t 7), none⟩,
    ⟨some 27, .indexAddr none 1 (.t 25) (.t 26), none⟩,
    ⟨some 28, .load none (.t 27), none⟩,
    ⟨some 29, .indexAddr (some 16) 1 (.t 9) (.t 28), none⟩,
    ⟨some 30, .load none (.t 29), none⟩,
    ⟨some 10, .move (.t 30), none⟩])
def A_impl_reached.r10 : ACode := (.region none [⟨some 31, .move (.t 10), none⟩,
    ⟨some 32, .indexAddr (some 16) 1 (.t 5) (.t 31), none⟩,
    ⟨some 33, .load none (.t 32), none⟩,
    ⟨some 34, .not (.t 33), none⟩])
def A_impl_reached.r11 : ACode := (.region none [⟨some 35, .move (.t 10), none⟩,
    ⟨some 36, .indexAddr (some 16) 1 (.t 5) (.t 35), none⟩,
    ⟨none, .store 1 (.t 36) (.c (.bool true)), none⟩])
def A_impl_reached.r12 : ACode := (.region none [⟨some 37, .move (.t 6), none⟩,
    ⟨some 38, .move (.t 10), none⟩,
    ⟨some 39, .buildSlice 1 1 [.int .u8 0] [(0, 1, (.t 38))], none⟩,
    ⟨some 40, .append 1 1 (.t 37) (.t 39), none⟩,
    ⟨some 6, .move (.t 40), none⟩])
def A_impl_reached.r13 : ACode := (.region none [⟨some 41, .bin .add (.t 21) (.c (.int .i64 1)), none⟩,
    ⟨some 21, .move (.t 41), none⟩])
def A_impl_reached.l0 : ACode := (.seq A_impl_reached.r7 (.seq (.cond (.t 22) .skip (.exit 2)) (.seq (.block 3 (.seq A_impl_reached.r8 (.seq A_impl_reached.r9 (.seq A_impl_reached.r10 (.cond (.t 34) (.seq A_impl_reached.r11 A_impl_reached.r12) .skip))))) A_impl_reached.r13)))
def A_impl_reached.r5 : ACode := (.region none [⟨some 17, .move (.t 7), none⟩,
    ⟨some 18, .bin .add (.t 17) (.c (.int .i64 1)), none⟩,
    ⟨some 7, .move (.t 18), none⟩])
def A_impl_reached.l1 : ACode := (.seq (.seq A_impl_reached.r4 (.cond (.t 16) .skip (.exit 0))) (.seq (.block 1 (.seq A_impl_reached.r6 (.block 2 (.loop A_impl_reached.l0)))) A_impl_reached.r5))
def A_impl_reached.r14 : ACode := (.region none [⟨some 42, .move (.t 6), none⟩,
    ⟨some 43, .len (.t 42), none⟩,
    ⟨some 4, .move (.t 43), none⟩])
def A_impl_reached : AFunc := ⟨[.tmp 4], (.seq A_impl_reached.r0 (.seq A_impl_reached.r1 (.seq A_impl_reached.r2 (.seq (.seq A_impl_reached.r3 (.block 0 (.loop A_impl_reached.l1))) (.seq A_impl_reached.r14 .ret)))))⟩
/-! impl_typeOf -/
def A_impl_typeOf.r0 : ACode := (.region none [⟨some 2, .box (.t 0), none⟩,
    ⟨some 4, .move (.c (.slice none 0 0)), none⟩])
def A_impl_typeOf.r1 : ACode := (.region none [⟨some 8, .buildSlice 1 0 [.int .i64 0] [], none⟩,
    ⟨some 5, .move (.t 8), none⟩])
def A_impl_typeOf.r2 : ACode := (.region none [⟨some 9, .load (some 16) (.t 2), none⟩,
    ⟨some 10, .move (.t 1), none⟩,
    ⟨some 11, .call 223 [(.t 9), (.t 10)], none⟩,
    ⟨some 12, .len (.t 11), none⟩,
    ⟨some 13, .move (.c (.int .i64 0)), none⟩])
def A_impl_typeOf.r3 : ACode := (.region none [⟨some 14, .bin .lss (.t 13) (.t 12), none⟩])
def A_impl_typeOf.r4 : ACode := (.region none [⟨some 15, .indexAddr none 1 (.t 11) (.t 13), none⟩,
    ⟨some 16, .load none (.t 15), none⟩,
    ⟨some 7, .move (.t 16), none⟩])
def A_impl_typeOf.r5 : ACode := (.region none [⟨some 17, .move (.t 5), none⟩,
    ⟨some 18, .move (.t 7), none⟩,
    ⟨some 19, .len (.t 18), none⟩,
    ⟨some 20, .buildSlice 1 1 [.int .i64 0] [(0, 1, (.t 19))], none⟩,
    ⟨some 21, .append 1 8 (.t 17) (.t 20), none⟩,
    ⟨some 5, .move (.t 21), none⟩])
def A_impl_typeOf.r6 : ACode := (.region none [⟨some 22, .bin .add (.t 13) (.c (.int .i64 1)), none⟩,
    ⟨some 13, .move (.t 22), none⟩])
def A_impl_typeOf.l0 : ACode := (.seq A_impl_typeOf.r3 (.seq (.cond (.t 14) .skip (.exit 0)) (.seq (.block 1 (.seq A_impl_typeOf.r4 A_impl_typeOf.r5)) A_impl_typeOf.r6)))
def A_impl_typeOf.r7 : ACode := (.region none [⟨some 23, .move (.t 5), none⟩,
    ⟨some 24, .call 219 [(.t 23)], none⟩,
    ⟨some 4, .move (.t 24), none⟩])
def A_impl_typeOf : AFunc := ⟨[.tmp 4], (.seq A_impl_typeOf.r0 (.seq A_impl_typeOf.r1 (.seq (.seq A_impl_typeOf.r2 (.block 0 (.loop A_impl_typeOf.l0))) (.seq A_impl_typeOf.r7 .ret))))⟩
/-! spec_l01Connected -/
def A_spec_l01Connected.r0 : ACode := (.region none [⟨some 4, .box (.t 1), none⟩,
    ⟨some 5, .box (.t 2), none⟩,
    ⟨some 6, .move (.c (.bool false)), none⟩])
def A_spec_l01Connected.r1 : ACode := (.region none [⟨some 12, .build (List.replicate 16 (.bool false)) [], none⟩,
    ⟨some 13, .buildSlice 1 1 [.int .u8 0] [(0, 1, (.c (.int .u8 0)))], none⟩,
    ⟨some 7, .alloc (List.replicate 16 (.bool false)), none⟩,
    ⟨none, .store 16 (.t 7) (.t 12), none⟩,
    ⟨some 8, .move (.t 13), none⟩])
def A_spec_l01Connected.r2 : ACode := (.region none [⟨some 14, .indexAddr (some 16) 1 (.t 7) (.c (.int .i64 0)), none⟩,
    ⟨none, .store 1 (.t 14) (.c (.bool true)), none⟩])
def A_spec_l01Connected.r3 : ACode := (.region none [⟨some 9, .move (.c (.int .i64 0)), none⟩])
def A_spec_l01Connected.r4 : ACode := (.region none [⟨some 15, .move (.t 9), none⟩,
    ⟨some 16, .move (.t 8), none⟩,
    ⟨some 17, .len (.t 16), none⟩,
    ⟨some 18, .bin .lss (.t 15) (.t 17), none⟩])
def A_spec_l01Connected.r6 : ACode := (.region (some 14) [⟨some 21, .move (.t 8), none⟩,
    ⟨some 22, .move (.t 9), none⟩,
    ⟨some 23, .indexAddr none 1 (.t 21) (.t 22), none⟩,
    ⟨some 24, .load none (.t 23), none⟩,
    ⟨some 25, .indexAddr (some 16) 1 (.t 4) (.t 24), none⟩,
    ⟨some 26, .load none (.t 25), none⟩,
    ⟨some 27, .move (.t 8), none⟩,
    ⟨some 28, .move (.t 9), none⟩,
    ⟨some 29, .indexAddr none 1 (.t 27) (.t 28), none⟩,
    ⟨some 30, .load none (.t 29), none⟩,
    ⟨some 31, .indexAddr (some 16) 1 (.t 5) (.t 30), none⟩,
    ⟨some 32, .load none (.t 31), none⟩,
    ⟨some 33, .buildSlice 1 2 [.int .u8 0] [(0, 1, (.t 26)), (1, 1, (.t 32))], none⟩,
    ⟨some 10, .move (.t 33), none⟩])
def A_spec_l01Connected.r7 : ACode := (.region none [⟨some 11, .move (.c (.int .i64 0)), none⟩])
def A_spec_l01Connected.r8 : ACode := (.region none [⟨some 34, .move (.t 11), none⟩,
    ⟨some 35, .bin .lss (.t 34) (.c (.int .i64 2)), none⟩])
def A_spec_l01Connected.r10 : ACode := (.region none [⟨some 38, .move (.t 10), none⟩,
    ⟨some 39, .move (.t 11), none⟩,
    ⟨some 40, .indexAddr none 1 (.t 38) (.t 39), none⟩,
    ⟨some 41, .load none (.t 40), none⟩,
    ⟨some 42, .indexAddr (some 16) 1 (.t 7) (.t 41), none⟩,
    ⟨some 43, .load none (.t 42), none⟩,
    ⟨some 44, .not (.t 43), none⟩])
def A_spec_l01Connected.r11 : ACode := (.region none [⟨some 45, .move (.t 10), none⟩,
    ⟨some 46, .move (.t 11), none⟩,
    ⟨some 47, .indexAddr none 1 (.t 45) (.t 46), none⟩,
    ⟨some 48, .load none (.t 47), none⟩,
    ⟨some 49, .indexAddr (some 16) 1 (.t 7) (.t 48), none⟩,
    ⟨none, .store 1 (.t 49) (.c (.bool true)), none⟩])
def A_spec_l01Connected.r12 : ACode := (.region none [⟨some 50, .move (.t 8), none⟩,
    ⟨some 51, .move (.t 10), none⟩,
    ⟨some 52, .move (.t 11), none⟩,
    ⟨some 53, .indexAddr none 1 (.t 51) (.t 52), none⟩,
    ⟨some 54, .load none (.t 53), none⟩,
    ⟨some 55, .buildSlice 1 1 [.int .u8 0] [(0, 1, (.t 54))], none⟩,
    ⟨some 56, .append 1 1 (.t 50) (.t 55), none⟩,
    ⟨some 8, .move (.t 56), none⟩])
def A_spec_l01Connected.r9 : ACode := (.region none [⟨some 36, .move (.t 11), none⟩,
    ⟨some 37, .bin .add (.t 36) (.c (.int .i64 1)), none⟩,
    ⟨some 11, .move (.t 37), none⟩])
def A_spec_l01Connected.l0 : ACode := (.seq (.seq A_spec_l01Connected.r8 (.cond (.t 35) .skip (.exit 2))) (.seq (.block 3 (.seq A_spec_l01Connected.r10 (.cond (.t 44) (.seq A_spec_l01Connected.r11 A_spec_l01Connected.r12) .skip))) A_spec_l01Connected.r9))
def A_spec_l01Connected.r5 : ACode := (.region none [⟨some 19, .move (.t 9), none⟩,
    ⟨some 20, .bin .add (.t 19) (.c (.int .i64 1)), none⟩,
    ⟨some 9, .move (.t 20), none⟩])
def A_spec_l01Connected.l1 : ACode := (.seq (.seq A_spec_l01Connected.r4 (.cond (.t 18) .skip (.exit 0))) (.seq (.block 1 (.seq A_spec_l01Connected.r6 (.seq A_spec_l01Connected.r7 (.block 2 (.loop A_spec_l01Connected.l0))))) A_spec_l01Connected.r5))
def A_spec_l01Connected.r13 : ACode := (.region none [⟨some 57, .move (.t 8), none⟩,
    ⟨some 58, .len (.t 57), none⟩,
    ⟨some 59, .move (.t 0), none⟩,
    ⟨some 60, .bin .eql (.t 58) (.t 59), none⟩,
    ⟨some 6, .move (.t 60), none⟩])
def A_spec_l01Connected : AFunc := ⟨[.tmp 6], (.seq A_spec_l01Connected.r0 (.seq A_spec_l01Connected.r1 (.seq A_spec_l01Connected.r2 (.seq (.seq A_spec_l01Connected.r3 (.block 0 (.loop A_spec_l01Connected.l1))) (.seq A_spec_l01Connected.r13 .ret)))))⟩
/-! spec_l01Face -/
def A_spec_l01Face.r0 : ACode := (.region none [⟨some 1, .box (.t 0), none⟩,
    ⟨some 2, .alloc (List.replicate 16 (.int .u8 0)), none⟩])
def A_spec_l01Face.r1 : ACode := (.region (some 10) [⟨some 3, .fieldAddr 1 (.t 1), none⟩,
    ⟨some 4, .load (some 16) (.t 3), none⟩,
    ⟨some 5, .fieldAddr 17 (.t 1), none⟩,
    ⟨some 6, .load (some 16) (.t 5), none⟩,
    ⟨some 7, .fieldAddr 0 (.t 1), none⟩,
    ⟨some 8, .load none (.t 7), none⟩,
    ⟨some 9, .call 212 [(.t 4), (.t 6), (.t 8)], none⟩,
    ⟨some 10, .fieldAddr 0 (.t 1), none⟩,
    ⟨some 11, .load none (.t 10), none⟩,
    ⟨some 12, .call 208 [(.t 9), (.t 11)], none⟩,
    ⟨none, .store 16 (.t 2) (.t 12), none⟩])
def A_spec_l01Face : AFunc := ⟨[.cell 2 (some 16)], (.seq A_spec_l01Face.r0 (.seq A_spec_l01Face.r1 .ret))⟩
/-! impl_back -/
def A_impl_back.r0 : ACode := (.region none [⟨some 2, .box (.t 0), none⟩,
    ⟨some 4, .alloc (List.replicate 16 (.int .u8 0)), none⟩])
def A_impl_back.r1 : ACode := (.region none [⟨some 7, .build (List.replicate 16 (.int .u8 0)) [], none⟩,
    ⟨some 5, .alloc (List.replicate 16 (.int .u8 0)), none⟩,
    ⟨none, .store 16 (.t 5) (.t 7), none⟩])
def A_impl_back.r2 : ACode := (.region none [⟨some 8, .move (.t 1), none⟩,
    ⟨some 9, .move (.c (.int .i64 0)), none⟩])
def A_impl_back.r3 : ACode := (.region none [⟨some 10, .bin .lss (.t 9) (.t 8), none⟩])
def A_impl_back.r4 : ACode := (.region none [⟨some 11, .move (.t 9), none⟩,
    ⟨some 6, .move (.t 11), none⟩])
def A_impl_back.r5 : ACode := (.region none [⟨some 12, .move (.t 6), none⟩,
    ⟨some 13, .indexAddr (some 16) 1 (.t 2) (.t 12), none⟩,
    ⟨some 14, .load none (.t 13), none⟩,
    ⟨some 15, .move (.t 6), none⟩,
    ⟨some 16, .conv .u8 (.t 15), none⟩,
    ⟨some 17, .indexAddr (some 16) 1 (.t 5) (.t 14), none⟩,
    ⟨none, .store 1 (.t 17) (.t 16), none⟩])
def A_impl_back.r6 : ACode := (.region none [⟨some 18, .bin .add (.t 9) (.c (.int .i64 1)), none⟩,
    ⟨some 9, .move (.t 18), none⟩])
def A_impl_back.l0 : ACode := (.seq A_impl_back.r3 (.seq (.cond (.t 10) .skip (.exit 0)) (.seq (.block 1 (.seq A_impl_back.r4 A_impl_back.r5)) A_impl_back.r6)))
def A_impl_back.r7 : ACode := (.region none [⟨some 19, .load (some 16) (.t 5), none⟩,
    ⟨none, .store 16 (.t 4) (.t 19), none⟩])
def A_impl_back : AFunc := ⟨[.cell 4 (some 16)], (.seq A_impl_back.r0 (.seq A_impl_back.r1 (.seq (.seq A_impl_back.r2 (.block 0 (.loop A_impl_back.l0))) (.seq A_impl_back.r7 .ret))))⟩
/-! impl_then -/
def A_impl_then.r0 : ACode := (.region none [⟨some 3, .box (.t 0), none⟩,
    ⟨some 4, .box (.t 1), none⟩,
    ⟨some 6, .alloc (List.replicate 16 (.int .u8 0)), none⟩])
def A_impl_then.r1 : ACode := (.region none [⟨some 9, .build (List.replicate 16 (.int .u8 0)) [], none⟩,
    ⟨some 7, .alloc (List.replicate 16 (.int .u8 0)), none⟩,
    ⟨none, .store 16 (.t 7) (.t 9), none⟩])
def A_impl_then.r2 : ACode := (.region none [⟨some 10, .move (.t 2), none⟩,
    ⟨some 11, .move (.c (.int .i64 0)), none⟩])
def A_impl_then.r3 : ACode := (.region none [⟨some 12, .bin .lss (.t 11) (.t 10), none⟩])
def A_impl_then.r4 : ACode := (.region none [⟨some 13, .move (.t 11), none⟩,
    ⟨some 8, .move (.t 13), none⟩])
def A_impl_then.r5 : ACode := (.region none [⟨some 14, .move (.t 8), none⟩,
    ⟨some 15, .move (.t 8), none⟩,
    ⟨some 16, .indexAddr (some 16) 1 (.t 3) (.t 15), none⟩,
    ⟨some 17, .load none (.t 16), none⟩,
    ⟨some 18, .indexAddr (some 16) 1 (.t 4) (.t 17), none⟩,
    ⟨some 19, .load none (.t 18), none⟩,
    ⟨some 20, .indexAddr (some 16) 1 (.t 7) (.t 14), none⟩,
    ⟨none, .store 1 (.t 20) (.t 19), none⟩])
def A_impl_then.r6 : ACode := (.region none [⟨some 21, .bin .add (.t 11) (.c (.int .i64 1)), none⟩,
    ⟨some 11, .move (.t 21), none⟩])
def A_impl_then.l0 : ACode := (.seq A_impl_then.r3 (.seq (.cond (.t 12) .skip (.exit 0)) (.seq (.block 1 (.seq A_impl_then.r4 A_impl_then.r5)) A_impl_then.r6)))
def A_impl_then.r7 : ACode := (.region none [⟨some 22, .load (some 16) (.t 7), none⟩,
    ⟨none, .store 16 (.t 6) (.t 22), none⟩])
def A_impl_then : AFunc := ⟨[.cell 6 (some 16)], (.seq A_impl_then.r0 (.seq A_impl_then.r1 (.seq (.seq A_impl_then.r2 (.block 0 (.loop A_impl_then.l0))) (.seq A_impl_then.r7 .ret))))⟩
/-! spec_l04Standard -/
def A_spec_l04Standard.r0 : ACode := (.region none [⟨some 2, .alloc (List.replicate 16 (.int .u8 0)), none⟩])
def A_spec_l04Standard.r1 : ACode := (.region none [⟨some 7, .build (List.replicate 16 (.int .u8 0)) [], none⟩,
    ⟨some 3, .alloc (List.replicate 16 (.int .u8 0)), none⟩,
    ⟨none, .store 16 (.t 3) (.t 7), none⟩,
    ⟨some 4, .move (.c (.int .i64 0)), none⟩])
def A_spec_l04Standard.r2 : ACode := (.region none [⟨some 5, .move (.c (.int .i64 0)), none⟩])
def A_spec_l04Standard.r3 : ACode := (.region none [⟨some 8, .move (.t 5), none⟩,
    ⟨some 9, .move (.t 0), none⟩,
    ⟨some 10, .len (.t 9), none⟩,
    ⟨some 11, .bin .lss (.t 8) (.t 10), none⟩])
def A_spec_l04Standard.r5 : ACode := (.region none [⟨some 6, .move (.c (.int .i64 0)), none⟩])
def A_spec_l04Standard.r6 : ACode := (.region none [⟨some 14, .move (.t 6), none⟩,
    ⟨some 15, .move (.t 0), none⟩,
    ⟨some 16, .move (.t 5), none⟩,
    ⟨some 17, .indexAddr none 1 (.t 15) (.t 16), none⟩,
    ⟨some 18, .load none (.t 17), none⟩,
    ⟨some 19, .bin .lss (.t 14) (.t 18), none⟩])
def A_spec_l04Standard.r8 : ACode := (.region none [⟨some 22, .move (.t 4), none⟩,
    ⟨some 23, .move (.t 6), none⟩,
    ⟨some 24, .bin .add (.t 22) (.t 23), none⟩,
    ⟨some 25, .move (.t 4), none⟩,
    ⟨some 26, .move (.t 6), none⟩,
    ⟨some 27, .bin .add (.t 26) (.c (.int .i64 1)), none⟩,
    ⟨some 28, .move (.t 0), none⟩,
    ⟨some 29, .move (.t 5), none⟩,
    ⟨some 30, .indexAddr none 1 (.t 28) (.t 29), none⟩,
    ⟨some 31, .load none (.t 30), none⟩,
    ⟨some 32, .bin .rem (.t 27) (.t 31), none⟩,
    ⟨some 33, .bin .add (.t 25) (.t 32), none⟩,
    ⟨some 34, .conv .u8 (.t 33), none⟩,
    ⟨some 35, .indexAddr (some 16) 1 (.t 3) (.t 24), none⟩,
    ⟨none, .store 1 (.t 35) (.t 34), none⟩])
def A_spec_l04Standard.r7 : ACode := (.region none [⟨some 20, .move (.t 6), none⟩,
    ⟨some 21, .bin .add (.t 20) (.c (.int .i64 1)), none⟩,
    ⟨some 6, .move (.t 21), none⟩])
def A_spec_l04Standard.l0 : ACode := (.seq (.seq A_spec_l04Standard.r6 (.cond (.t 19) .skip (.exit 2))) (.seq (.block 3 A_spec_l04Standard.r8) A_spec_l04Standard.r7))
def A_spec_l04Standard.r9 : ACode := (.region none [⟨some 36, .move (.t 4), none⟩,
    ⟨some 37, .move (.t 0), none⟩,
    ⟨some 38, .move (.t 5), none⟩,
    ⟨some 39, .indexAddr none 1 (.t 37) (.t 38), none⟩,
    ⟨some 40, .load none (.t 39), none⟩,
    ⟨some 41, .bin .add (.t 36) (.t 40), none⟩,
    ⟨some 4, .move (.t 41), none⟩])
def A_spec_l04Standard.r4 : ACode := (.region none [⟨some 12, .move (.t 5), none⟩,
    ⟨some 13, .bin .add (.t 12) (.c (.int .i64 1)), none⟩,
    ⟨some 5, .move (.t 13), none⟩])
def A_spec_l04Standard.l1 : ACode := (.seq (.seq A_spec_l04Standard.r3 (.cond (.t 11) .skip (.exit 0))) (.seq (.block 1 (.seq (.seq A_spec_l04Standard.r5 (.block 2 (.loop A_spec_l04Standard.l0))) A_spec_l04Standard.r9)) A_spec_l04Standard.r4))
def A_spec_l04Standard.r10 : ACode := (.region none [⟨some 42, .load (some 16) (.t 3), none⟩,
    ⟨none, .store 16 (.t 2) (.t 42), none⟩])
def A_spec_l04Standard : AFunc := ⟨[.cell 2 (some 16)], (.seq A_spec_l04Standard.r0 (.seq A_spec_l04Standard.r1 (.seq (.seq A_spec_l04Standard.r2 (.block 0 (.loop A_spec_l04Standard.l1))) (.seq A_spec_l04Standard.r10 .ret))))⟩
/-! impl_ofType -/
def A_impl_ofType.r0 : ACode := (.region none [⟨some 2, .alloc (List.replicate 16 (.int .u8 0)), none⟩])
def A_impl_ofType.r1 : ACode := (.region none [⟨some 8, .build (List.replicate 16 (.int .u8 0)) [], none⟩,
    ⟨some 3, .alloc (List.replicate 16 (.int .u8 0)), none⟩,
    ⟨none, .store 16 (.t 3) (.t 8), none⟩,
    ⟨some 4, .move (.c (.int .i64 0)), none⟩])
def A_impl_ofType.r2 : ACode := (.region none [⟨some 9, .move (.t 0), none⟩,
    ⟨some 10, .len (.t 9), none⟩,
    ⟨some 11, .move (.c (.int .i64 0)), none⟩])
def A_impl_ofType.r3 : ACode := (.region none [⟨some 12, .bin .lss (.t 11) (.t 10), none⟩])
def A_impl_ofType.r4 : ACode := (.region none [⟨some 13, .indexAddr none 1 (.t 9) (.t 11), none⟩,
    ⟨some 14, .load none (.t 13), none⟩,
    ⟨some 6, .move (.t 14), none⟩])
def A_impl_ofType.r5 : ACode := (.region none [⟨some 15, .move (.t 6), none⟩,
    ⟨some 16, .move (.c (.int .i64 0)), none⟩])
def A_impl_ofType.r6 : ACode := (.region none [⟨some 17, .bin .lss (.t 16) (.t 15), none⟩])
def A_impl_ofType.r7 : ACode := (.region none [⟨some 18, .move (.t 16), none⟩,
    ⟨some 7, .move (.t 18), none⟩])
def A_impl_ofType.r8 : ACode := (.region none [⟨some 19, .move (.t 4), none⟩,
    ⟨some 20, .move (.t 7), none⟩,
    ⟨some 21, .bin .add (.t 19) (.t 20), none⟩,
    ⟨some 22, .move (.t 4), none⟩,
    ⟨some 23, .move (.t 7), none⟩,
    ⟨some 24, .bin .add (.t 23) (.c (.int .i64 1)), none⟩,
    ⟨some 25, .move (.t 6), none⟩,
    ⟨some 26, .bin .rem (.t 24) (.t 25), none⟩,
    ⟨some 27, .bin .add (.t 22) (.t 26), none⟩,
    ⟨some 28, .conv .u8 (.t 27), none⟩,
    ⟨some 29, .indexAddr (some 16) 1 (.t 3) (.t 21), none⟩,
    ⟨none, .store 1 (.t 29) (.t 28), none⟩])
def A_impl_ofType.r9 : ACode := (.region none [⟨some 30, .bin .add (.t 16) (.c (.int .i64 1)), none⟩,
    ⟨some 16, .move (.t 30), none⟩])
def A_impl_ofType.l0 : ACode := (.seq A_impl_ofType.r6 (.seq (.cond (.t 17) .skip (.exit 2)) (.seq (.block 3 (.seq A_impl_ofType.r7 A_impl_ofType.r8)) A_impl_ofType.r9)))
def A_impl_ofType.r10 : ACode := (.region none [⟨some 31, .move (.t 4), none⟩,
    ⟨some 32, .move (.t 6), none⟩,
    ⟨some 33, .bin .add (.t 31) (.t 32), none⟩,
    ⟨some 4, .move (.t 33), none⟩])
def A_impl_ofType.r11 : ACode := (.region none [⟨some 34, .bin .add (.t 11) (.c (.int .i64 1)), none⟩,
    ⟨some 11, .move (.t 34), none⟩])
def A_impl_ofType.l1 : ACode := (.seq A_impl_ofType.r3 (.seq (.cond (.t 12) .skip (.exit 0)) (.seq (.block 1 (.seq A_impl_ofType.r4 (.seq (.seq A_impl_ofType.r5 (.block 2 (.loop A_impl_ofType.l0))) A_impl_ofType.r10))) A_impl_ofType.r11)))
def A_impl_ofType.r12 : ACode := (.region none [⟨some 35, .load (some 16) (.t 3), none⟩,
    ⟨none, .store 16 (.t 2) (.t 35), none⟩])
def A_impl_ofType : AFunc := ⟨[.cell 2 (some 16)], (.seq A_impl_ofType.r0 (.seq A_impl_ofType.r1 (.seq (.seq A_impl_ofType.r2 (.block 0 (.loop A_impl_ofType.l1))) (.seq A_impl_ofType.r12 .ret))))⟩
/-! impl_each -/
def A_impl_each.r0 : ACode := (.region none [⟨some 2, .box (.t 0), none⟩,
    ⟨some 3, .box (.t 1), none⟩])
def A_impl_each.r1 : ACode := (.region none [⟨some 7, .build (List.replicate 16 (.int .u8 0)) [], none⟩,
    ⟨some 4, .alloc (List.replicate 16 (.int .u8 0)), none⟩,
    ⟨none, .store 16 (.t 4) (.t 7), none⟩])
def A_impl_each.r2 : ACode := (.region none [⟨some 8, .build (List.replicate 16 (.bool false)) [], none⟩,
    ⟨some 5, .alloc (List.replicate 16 (.bool false)), none⟩,
    ⟨none, .store 16 (.t 5) (.t 8), none⟩])
def A_impl_each.r3 : ACode := (.region none [⟨some 6, .alloc [.nilFunc], none⟩])
def A_impl_each.r4 : ACode := (.region none [⟨some 9, .makeFunc 377 [(.t 2), (.t 3), (.t 4), (.t 5), (.t 6)], none⟩,
    ⟨none, .store 1 (.t 6) (.t 9), none⟩])
def A_impl_each.r5 : ACode := (.region none [⟨some 10, .load none (.t 6), none⟩,
    ⟨some 11, .callv (.t 10) [(.c (.int .i64 0))], none⟩])
def A_impl_each : AFunc := ⟨[], (.seq A_impl_each.r0 (.seq A_impl_each.r1 (.seq A_impl_each.r2 (.seq A_impl_each.r3 (.seq A_impl_each.r4 A_impl_each.r5)))))⟩
/-! spec_l01Cycles -/
def A_spec_l01Cycles.r0 : ACode := (.region none [⟨some 2, .box (.t 0), none⟩,
    ⟨some 4, .move (.c (.slice none 0 0)), none⟩])
def A_spec_l01Cycles.r1 : ACode := (.region none [⟨some 10, .buildSlice 1 0 [.slice none 0 0] [], none⟩,
    ⟨some 11, .build (List.replicate 16 (.bool false)) [], none⟩,
    ⟨some 6, .alloc (List.replicate 16 (.bool false)), none⟩,
    ⟨some 5, .move (.t 10), none⟩,
    ⟨none, .store 16 (.t 6) (.t 11), none⟩])
def A_spec_l01Cycles.r2 : ACode := (.region none [⟨some 7, .move (.c (.int .i64 0)), none⟩])
def A_spec_l01Cycles.r3 : ACode := (.region none [⟨some 12, .move (.t 7), none⟩,
    ⟨some 13, .move (.t 1), none⟩,
    ⟨some 14, .bin .lss (.t 12) (.t 13), none⟩])
def A_spec_l01Cycles.r5 : ACode := (.region none [⟨some 17, .buildSlice 1 0 [.int .i64 0] [], none⟩,
    ⟨some 8, .move (.t 17), none⟩])
def A_spec_l01Cycles.r6 : ACode := (.region none [⟨some 18, .move (.t 7), none⟩,
    ⟨some 9, .move (.t 18), none⟩])
def A_spec_l01Cycles.r7 : ACode := (.region none [⟨some 19, .move (.t 9), none⟩,
    ⟨some 20, .indexAddr (some 16) 1 (.t 6) (.t 19), none⟩,
    ⟨some 21, .load none (.t 20), none⟩,
    ⟨some 22, .not (.t 21), none⟩])
def A_spec_l01Cycles.r9 : ACode := (.region none [⟨some 27, .move (.t 9), none⟩,
    ⟨some 28, .indexAddr (some 16) 1 (.t 6) (.t 27), none⟩,
    ⟨none, .store 1 (.t 28) (.c (.bool true)), none⟩])
def A_spec_l01Cycles.r10 : ACode := (.region none [⟨some 29, .move (.t 8), none⟩,
    ⟨some 30, .move (.t 9), none⟩,
    ⟨some 31, .buildSlice 1 1 [.int .i64 0] [(0, 1, (.t 30))], none⟩,
    ⟨some 32, .append 1 8 (.t 29) (.t 31), none⟩,
    ⟨some 8, .move (.t 32), none⟩])
def A_spec_l01Cycles.r8 : ACode := (.region none [⟨some 23, .move (.t 9), none⟩,
    ⟨some 24, .indexAddr (some 16) 1 (.t 2) (.t 23), none⟩,
    ⟨some 25, .load none (.t 24), none⟩,
    ⟨some 26, .conv .i64 (.t 25), none⟩,
    ⟨some 9, .move (.t 26), none⟩])
def A_spec_l01Cycles.l0 : ACode := (.seq (.seq A_spec_l01Cycles.r7 (.cond (.t 22) .skip (.exit 2))) (.seq (.block 3 (.seq A_spec_l01Cycles.r9 A_spec_l01Cycles.r10)) A_spec_l01Cycles.r8))
def A_spec_l01Cycles.r11 : ACode := (.region none [⟨some 33, .move (.t 8), none⟩,
    ⟨some 34, .len (.t 33), none⟩,
    ⟨some 35, .bin .gtr (.t 34) (.c (.int .i64 0)), none⟩])
def A_spec_l01Cycles.r12 : ACode := (.region none [⟨some 36, .move (.t 5), none⟩,
    ⟨some 37, .move (.t 8), none⟩,
    ⟨some 38, .buildSlice 1 1 [.slice none 0 0] [(0, 1, (.t 37))], none⟩,
    ⟨some 39, .append 1 24 (.t 36) (.t 38), none⟩,
    ⟨some 5, .move (.t 39), none⟩])
def A_spec_l01Cycles.r4 : ACode := (.region none [⟨some 15, .move (.t 7), none⟩,
    ⟨some 16, .bin .add (.t 15) (.c (.int .i64 1)), none⟩,
    ⟨some 7, .move (.t 16), none⟩])
def A_spec_l01Cycles.l1 : ACode := (.seq (.seq A_spec_l01Cycles.r3 (.cond (.t 14) .skip (.exit 0))) (.seq (.block 1 (.seq A_spec_l01Cycles.r5 (.seq (.seq A_spec_l01Cycles.r6 (.block 2 (.loop A_spec_l01Cycles.l0))) (.seq A_spec_l01Cycles.r11 (.cond (.t 35) A_spec_l01Cycles.r12 .skip))))) A_spec_l01Cycles.r4))
def A_spec_l01Cycles.r13 : ACode := (.region none [⟨some 40, .move (.t 5), none⟩,
    ⟨some 4, .move (.t 40), none⟩])
def A_spec_l01Cycles : AFunc := ⟨[.tmp 4], (.seq A_spec_l01Cycles.r0 (.seq A_spec_l01Cycles.r1 (.seq (.seq A_spec_l01Cycles.r2 (.block 0 (.loop A_spec_l01Cycles.l1))) (.seq A_spec_l01Cycles.r13 .ret))))⟩
/-! math_bits_Len -/
def A_math_bits_Len.r0 : ACode := (.region none [⟨some 2, .move (.c (.int .i64 0)), none⟩])
def A_math_bits_Len.r1 : ACode := (.region none [⟨some 3, .move (.t 0), none⟩,
    ⟨some 4, .conv .u32 (.t 3), none⟩,
    ⟨some 5, .call 244 [(.t 4)], none⟩,
    ⟨some 2, .move (.t 5), none⟩])
def A_math_bits_Len.r2 : ACode := (.region none [⟨some 6, .move (.t 0), none⟩,
    ⟨some 7, .call 245 [(.t 6)], none⟩,
    ⟨some 2, .move (.t 7), none⟩])
def A_math_bits_Len : AFunc := ⟨[.tmp 2], (.seq A_math_bits_Len.r0 (.seq (.cond (.c (.bool false)) (.seq A_math_bits_Len.r1 .ret) .skip) (.seq A_math_bits_Len.r2 .ret)))⟩
/-! spec_l04Search -/
def A_spec_l04Search.r0 : ACode := (.region none [⟨some 6, .box (.t 0), none⟩,
    ⟨some 7, .box (.t 1), none⟩,
    ⟨some 8, .box (.t 2), none⟩,
    ⟨some 12, .alloc ([.int .i64 0, .int .i64 0] ++ [.slice none 0 0] ++ [.bool false]), none⟩])
def A_spec_l04Search.r1 : ACode := (.region none [⟨some 15, .move (.t 3), none⟩,
    ⟨some 16, .move (.t 4), none⟩,
    ⟨some 17, .bin .eql (.t 15) (.t 16), none⟩])
def A_spec_l04Search.r2 : ACode := (.region none [⟨some 18, .load (some 4) (.t 6), none⟩,
    ⟨some 19, .load (some 16) (.t 7), none⟩,
    ⟨some 20, .load (some 16) (.t 8), none⟩,
    ⟨some 21, .move (.t 4), none⟩,
    ⟨some 22, .move (.t 5), none⟩,
    ⟨some 23, .call 376 [(.t 18), (.t 19), (.t 20), (.t 21), (.t 22)], none⟩,
    ⟨none, .store 4 (.t 12) (.t 23), none⟩])
def A_spec_l04Search.r3 : ACode := (.region none [⟨some 24, .move (.t 3), none⟩,
    ⟨some 13, .move (.t 24), none⟩])
def A_spec_l04Search.r4 : ACode := (.region none [⟨some 25, .move (.t 13), none⟩,
    ⟨some 26, .move (.t 4), none⟩,
    ⟨some 27, .bin .lss (.t 25) (.t 26), none⟩])
def A_spec_l04Search.r6 : ACode := (.region none [⟨some 30, .load (some 16) (.t 8), none⟩,
    ⟨some 14, .alloc (List.replicate 16 (.int .u8 0)), none⟩,
    ⟨none, .store 16 (.t 14) (.t 30), none⟩])
def A_spec_l04Search.r7 : ACode := (.region none [⟨some 31, .move (.t 3), none⟩,
    ⟨some 32, .move (.t 13), none⟩,
    ⟨some 33, .indexAddr (some 16) 1 (.t 8) (.t 32), none⟩,
    ⟨some 34, .load none (.t 33), none⟩,
    ⟨some 35, .indexAddr (some 16) 1 (.t 14) (.t 31), none⟩,
    ⟨none, .store 1 (.t 35) (.t 34), none⟩])
def A_spec_l04Search.r8 : ACode := (.region none [⟨some 36, .move (.t 13), none⟩,
    ⟨some 37, .move (.t 3), none⟩,
    ⟨some 38, .indexAddr (some 16) 1 (.t 8) (.t 37), none⟩,
    ⟨some 39, .load none (.t 38), none⟩,
    ⟨some 40, .indexAddr (some 16) 1 (.t 14) (.t 36), none⟩,
    ⟨none, .store 1 (.t 40) (.t 39), none⟩])
def A_spec_l04Search.r9 : ACode := (.region none [⟨some 41, .load (some 4) (.t 6), none⟩,
    ⟨some 42, .load (some 16) (.t 7), none⟩,
    ⟨some 43, .load (some 16) (.t 14), none⟩,
    ⟨some 44, .move (.t 3), none⟩,
    ⟨some 45, .bin .add (.t 44) (.c (.int .i64 1)), none⟩,
    ⟨some 46, .move (.t 4), none⟩,
    ⟨some 47, .move (.t 5), none⟩,
    ⟨some 48, .call 365 [(.t 41), (.t 42), (.t 43), (.t 45), (.t 46), (.t 47)], none⟩,
    ⟨none, .store 4 (.t 6) (.t 48), none⟩])
def A_spec_l04Search.r5 : ACode := (.region none [⟨some 28, .move (.t 13), none⟩,
    ⟨some 29, .bin .add (.t 28) (.c (.int .i64 1)), none⟩,
    ⟨some 13, .move (.t 29), none⟩])
def A_spec_l04Search.l0 : ACode := (.seq (.seq A_spec_l04Search.r4 (.cond (.t 27) .skip (.exit 0))) (.seq (.block 1 (.seq A_spec_l04Search.r6 (.seq A_spec_l04Search.r7 (.seq A_spec_l04Search.r8 A_spec_l04Search.r9)))) A_spec_l04Search.r5))
def A_spec_l04Search.r10 : ACode := (.region none [⟨some 49, .load (some 4) (.t 6), none⟩,
    ⟨none, .store 4 (.t 12) (.t 49), none⟩])
def A_spec_l04Search : AFunc := ⟨[.cell 12 (some 4)], (.seq A_spec_l04Search.r0 (.seq (.seq A_spec_l04Search.r1 (.cond (.t 17) (.seq A_spec_l04Search.r2 .ret) .skip)) (.seq (.seq A_spec_l04Search.r3 (.block 0 (.loop A_spec_l04Search.l0))) (.seq A_spec_l04Search.r10 .ret))))⟩
/-! impl_eachPair_1 -/
def A_impl_eachPair_1.r0 : ACode := (.region none [⟨some 5, .box (.t 0), none⟩])
def A_impl_eachPair_1.r1 : ACode := (.region none [⟨some 7, .load none (.t 1), none⟩,
    ⟨some 8, .load (some 16) (.t 2), none⟩,
    ⟨some 9, .load (some 16) (.t 5), none⟩,
    ⟨some 10, .build ([.int .i64 0] ++ List.replicate 32 (.int .u8 0)) [(0, 1, (.t 7)), (1, 16, (.t 8)), (17, 16, (.t 9))], none⟩,
    ⟨some 6, .alloc ([.int .i64 0] ++ List.replicate 32 (.int .u8 0)), none⟩,
    ⟨none, .store 33 (.t 6) (.t 10), none⟩])
def A_impl_eachPair_1.r2 : ACode := (.region (some 17) [⟨some 11, .load (some 16) (.t 5), none⟩,
    ⟨some 12, .load none (.t 1), none⟩,
    ⟨some 13, .call 218 [(.t 11), (.t 12)], none⟩,
    ⟨some 14, .load none (.t 3), none⟩,
    ⟨some 15, .indexAddr none 1 (.t 14) (.c (.int .i64 1)), none⟩,
    ⟨some 16, .load none (.t 15), none⟩,
    ⟨some 17, .call 346 [(.t 13), (.t 16)], none⟩,
    ⟨some 18, .move (.t 17), none⟩,
    ⟨some 19, .load (some 33) (.t 6), some (18, true)⟩,
    ⟨some 20, .call 193 [(.t 19)], some (18, true)⟩,
    ⟨some 21, .load none (.t 1), some (18, true)⟩,
    ⟨some 22, .call 218 [(.t 20), (.t 21)], some (18, true)⟩,
    ⟨some 23, .load none (.t 3), some (18, true)⟩,
    ⟨some 24, .indexAddr none 1 (.t 23) (.c (.int .i64 2)), some (18, true)⟩,
    ⟨some 25, .load none (.t 24), some (18, true)⟩,
    ⟨some 26, .call 346 [(.t 22), (.t 25)], some (18, true)⟩,
    ⟨some 27, .pick (.t 18) (.t 26) (.c (.bool false)), none⟩])
def A_impl_eachPair_1.r3 : ACode := (.region none [⟨some 28, .load none (.t 4), none⟩,
    ⟨some 29, .load (some 33) (.t 6), none⟩,
    ⟨some 30, .callv (.t 28) [(.t 29)], none⟩])
def A_impl_eachPair_1 : AFunc := ⟨[], (.seq A_impl_eachPair_1.r0 (.seq A_impl_eachPair_1.r1 (.seq A_impl_eachPair_1.r2 (.cond (.t 27) A_impl_eachPair_1.r3 .skip))))⟩
/-! impl_isConnected -/
def A_impl_isConnected.r0 : ACode := (.region none [⟨some 1, .box (.t 0), none⟩,
    ⟨some 2, .move (.c (.bool false)), none⟩])
def A_impl_isConnected.r1 : ACode := (.region (some 12) [⟨some 3, .fieldAddr 0 (.t 1), none⟩,
    ⟨some 4, .load none (.t 3), none⟩,
    ⟨some 5, .fieldAddr 1 (.t 1), none⟩,
    ⟨some 6, .load (some 16) (.t 5), none⟩,
    ⟨some 7, .fieldAddr 17 (.t 1), none⟩,
    ⟨some 8, .load (some 16) (.t 7), none⟩,
    ⟨some 9, .buildSlice 16 2 (List.replicate 16 (.int .u8 0)) [(0, 16, (.t 6)), (16, 16, (.t 8))], none⟩,
    ⟨some 10, .call 210 [(.t 4), (.t 9)], none⟩,
    ⟨some 11, .fieldAddr 0 (.t 1), none⟩,
    ⟨some 12, .load none (.t 11), none⟩,
    ⟨some 13, .bin .eql (.t 10) (.t 12), none⟩,
    ⟨some 2, .move (.t 13), none⟩])
def A_impl_isConnected : AFunc := ⟨[.tmp 2], (.seq A_impl_isConnected.r0 (.seq A_impl_isConnected.r1 .ret))⟩
/-! impl_cycles -/
def A_impl_cycles.r0 : ACode := (.region none [⟨some 2, .box (.t 0), none⟩,
    ⟨some 4, .move (.c (.slice none 0 0)), none⟩])
def A_impl_cycles.r1 : ACode := (.region none [⟨some 10, .buildSlice 1 0 [.slice none 0 0] [], none⟩,
    ⟨some 5, .move (.t 10), none⟩])
def A_impl_cycles.r2 : ACode := (.region none [⟨some 11, .build (List.replicate 16 (.bool false)) [], none⟩,
    ⟨some 6, .alloc (List.replicate 16 (.bool false)), none⟩,
    ⟨none, .store 16 (.t 6) (.t 11), none⟩])
def A_impl_cycles.r3 : ACode := (.region none [⟨some 12, .move (.t 1), none⟩,
    ⟨some 13, .move (.c (.int .i64 0)), none⟩])
def A_impl_cycles.r4 : ACode := (.region none [⟨some 14, .bin .lss (.t 13) (.t 12), none⟩])
def A_impl_cycles.r5 : ACode := (.region none [⟨some 15, .move (.t 13), none⟩,
    ⟨some 7, .move (.t 15), none⟩])
def A_impl_cycles.r6 : ACode := (.region none [⟨some 16, .move (.t 7), none⟩,
    ⟨some 17, .indexAddr (some 16) 1 (.t 6) (.t 16), none⟩,
    ⟨some 18, .load none (.t 17), none⟩])
def A_impl_cycles.r7 : ACode := (.region none [⟨some 19, .buildSlice 1 0 [.int .i64 0] [], none⟩,
    ⟨some 8, .move (.t 19), none⟩])
def A_impl_cycles.r8 : ACode := (.region none [⟨some 20, .move (.t 7), none⟩,
    ⟨some 9, .move (.t 20), none⟩])
def A_impl_cycles.r9 : ACode := (.region none [⟨some 21, .move (.t 9), none⟩,
    ⟨some 22, .indexAddr (some 16) 1 (.t 6) (.t 21), none⟩,
    ⟨some 23, .load none (.t 22), none⟩,
    ⟨some 24, .not (.t 23), none⟩])
def A_impl_cycles.r11 : ACode := (.region none [⟨some 29, .move (.t 9), none⟩,
    ⟨some 30, .indexAddr (some 16) 1 (.t 6) (.t 29), none⟩,
    ⟨none, .store 1 (.t 30) (.c (.bool true)), none⟩])
def A_impl_cycles.r12 : ACode := (.region none [⟨some 31, .move (.t 8), none⟩,
    ⟨some 32, .move (.t 9), none⟩,
    ⟨some 33, .buildSlice 1 1 [.int .i64 0] [(0, 1, (.t 32))], none⟩,
    ⟨some 34, .append 1 8 (.t 31) (.t 33), none⟩,
    ⟨some 8, .move (.t 34), none⟩])
def A_impl_cycles.r10 : ACode := (.region none [⟨some 25, .move (.t 9), none⟩,
    ⟨some 26, .indexAddr (some 16) 1 (.t 2) (.t 25), none⟩,
    ⟨some 27, .load none (.t 26), none⟩,
    ⟨some 28, .conv .i64 (.t 27), none⟩,
    ⟨some 9, .move (.t 28), none⟩])
def A_impl_cycles.l0 : ACode := (.seq (.seq A_impl_cycles.r9 (.cond (.t 24) .skip (.exit 2))) (.seq (.block 3 (.seq A_impl_cycles.r11 A_impl_cycles.r12)) A_impl_cycles.r10))
def A_impl_cycles.r13 : ACode := (.region none [⟨some 35, .move (.t 5), none⟩,
    ⟨some 36, .move (.t 8), none⟩,
    ⟨some 37, .buildSlice 1 1 [.slice none 0 0] [(0, 1, (.t 36))], none⟩,
    ⟨some 38, .append 1 24 (.t 35) (.t 37), none⟩,
    ⟨some 5, .move (.t 38), none⟩])
def A_impl_cycles.r14 : ACode := (.region none [⟨some 39, .bin .add (.t 13) (.c (.int .i64 1)), none⟩,
    ⟨some 13, .move (.t 39), none⟩])
def A_impl_cycles.l1 : ACode := (.seq A_impl_cycles.r4 (.seq (.cond (.t 14) .skip (.exit 0)) (.seq (.block 1 (.seq A_impl_cycles.r5 (.seq (.seq A_impl_cycles.r6 (.cond (.t 18) (.exit 1) .skip)) (.seq A_impl_cycles.r7 (.seq (.seq A_impl_cycles.r8 (.block 2 (.loop A_impl_cycles.l0))) A_impl_cycles.r13))))) A_impl_cycles.r14)))
def A_impl_cycles.r15 : ACode := (.region none [⟨some 40, .move (.t 5), none⟩,
    ⟨some 4, .move (.t 40), none⟩])
def A_impl_cycles : AFunc := ⟨[.tmp 4], (.seq A_impl_cycles.r0 (.seq A_impl_cycles.r1 (.seq A_impl_cycles.r2 (.seq (.seq A_impl_cycles.r3 (.block 0 (.loop A_impl_cycles.l1))) (.seq A_impl_cycles.r15 .ret)))))⟩
/-! impl_descending -/
def A_impl_descending.r0 : ACode := (.region none [⟨some 2, .move (.c (.slice none 0 0)), none⟩])
def A_impl_descending.r1 : ACode := (.region none [⟨some 3, .move (.t 0), none⟩,
    ⟨some 4, .call 224 [(.t 3)], none⟩])
def A_impl_descending.r2 : ACode := (.region none [⟨some 5, .move (.t 0), none⟩,
    ⟨some 6, .call 225 [(.t 5)], none⟩])
def A_impl_descending.r3 : ACode := (.region none [⟨some 7, .move (.t 0), none⟩,
    ⟨some 2, .move (.t 7), none⟩])
def A_impl_descending : AFunc := ⟨[.tmp 2], (.seq A_impl_descending.r0 (.seq A_impl_descending.r1 (.seq A_impl_descending.r2 (.seq A_impl_descending.r3 .ret))))⟩
/-! spec_l01Back -/
def A_spec_l01Back.r0 : ACode := (.region none [⟨some 2, .box (.t 0), none⟩,
    ⟨some 4, .alloc (List.replicate 16 (.int .u8 0)), none⟩])
def A_spec_l01Back.r1 : ACode := (.region none [⟨some 7, .build (List.replicate 16 (.int .u8 0)) [], none⟩,
    ⟨some 5, .alloc (List.replicate 16 (.int .u8 0)), none⟩,
    ⟨none, .store 16 (.t 5) (.t 7), none⟩])
def A_spec_l01Back.r2 : ACode := (.region none [⟨some 6, .move (.c (.int .i64 0)), none⟩])
def A_spec_l01Back.r3 : ACode := (.region none [⟨some 8, .move (.t 6), none⟩,
    ⟨some 9, .move (.t 1), none⟩,
    ⟨some 10, .bin .lss (.t 8) (.t 9), none⟩])
def A_spec_l01Back.r5 : ACode := (.region none [⟨some 13, .move (.t 6), none⟩,
    ⟨some 14, .indexAddr (some 16) 1 (.t 2) (.t 13), none⟩,
    ⟨some 15, .load none (.t 14), none⟩,
    ⟨some 16, .move (.t 6), none⟩,
    ⟨some 17, .conv .u8 (.t 16), none⟩,
    ⟨some 18, .indexAddr (some 16) 1 (.t 5) (.t 15), none⟩,
    ⟨none, .store 1 (.t 18) (.t 17), none⟩])
def A_spec_l01Back.r4 : ACode := (.region none [⟨some 11, .move (.t 6), none⟩,
    ⟨some 12, .bin .add (.t 11) (.c (.int .i64 1)), none⟩,
    ⟨some 6, .move (.t 12), none⟩])
def A_spec_l01Back.l0 : ACode := (.seq (.seq A_spec_l01Back.r3 (.cond (.t 10) .skip (.exit 0))) (.seq (.block 1 A_spec_l01Back.r5) A_spec_l01Back.r4))
def A_spec_l01Back.r6 : ACode := (.region none [⟨some 19, .load (some 16) (.t 5), none⟩,
    ⟨none, .store 16 (.t 4) (.t 19), none⟩])
def A_spec_l01Back : AFunc := ⟨[.cell 4 (some 16)], (.seq A_spec_l01Back.r0 (.seq A_spec_l01Back.r1 (.seq (.seq A_spec_l01Back.r2 (.block 0 (.loop A_spec_l01Back.l0))) (.seq A_spec_l01Back.r6 .ret))))⟩
/-! spec_l01Then -/
def A_spec_l01Then.r0 : ACode := (.region none [⟨some 3, .box (.t 0), none⟩,
    ⟨some 4, .box (.t 1), none⟩,
    ⟨some 6, .alloc (List.replicate 16 (.int .u8 0)), none⟩])
def A_spec_l01Then.r1 : ACode := (.region none [⟨some 9, .build (List.replicate 16 (.int .u8 0)) [], none⟩,
    ⟨some 7, .alloc (List.replicate 16 (.int .u8 0)), none⟩,
    ⟨none, .store 16 (.t 7) (.t 9), none⟩])
def A_spec_l01Then.r2 : ACode := (.region none [⟨some 8, .move (.c (.int .i64 0)), none⟩])
def A_spec_l01Then.r3 : ACode := (.region none [⟨some 10, .move (.t 8), none⟩,
    ⟨some 11, .move (.t 2), none⟩,
    ⟨some 12, .bin .lss (.t 10) (.t 11), none⟩])
def A_spec_l01Then.r5 : ACode := (.region none [⟨some 15, .move (.t 8), none⟩,
    ⟨some 16, .move (.t 8), none⟩,
    ⟨some 17, .indexAddr (some 16) 1 (.t 3) (.t 16), none⟩,
    ⟨some 18, .load none (.t 17), none⟩,
    ⟨some 19, .indexAddr (some 16) 1 (.t 4) (.t 18), none⟩,
    ⟨some 20, .load none (.t 19), none⟩,
    ⟨some 21, .indexAddr (some 16) 1 (.t 7) (.t 15), none⟩,
    ⟨none, .store 1 (.t 21) (.t 20), none⟩])
def A_spec_l01Then.r4 : ACode := (.region none [⟨some 13, .move (.t 8), none⟩,
    ⟨some 14, .bin .add (.t 13) (.c (.int .i64 1)), none⟩,
    ⟨some 8, .move (.t 14), none⟩])
def A_spec_l01Then.l0 : ACode := (.seq (.seq A_spec_l01Then.r3 (.cond (.t 12) .skip (.exit 0))) (.seq (.block 1 A_spec_l01Then.r5) A_spec_l01Then.r4))
def A_spec_l01Then.r6 : ACode := (.region none [⟨some 22, .load (some 16) (.t 7), none⟩,
    ⟨none, .store 16 (.t 6) (.t 22), none⟩])
def A_spec_l01Then : AFunc := ⟨[.cell 6 (some 16)], (.seq A_spec_l01Then.r0 (.seq A_spec_l01Then.r1 (.seq (.seq A_spec_l01Then.r2 (.block 0 (.loop A_spec_l01Then.l0))) (.seq A_spec_l01Then.r6 .ret))))⟩
/-! impl_each_1 -/
def A_impl_each_1.r0 : ACode := (.region none [⟨some 8, .move (.t 0), none⟩,
    ⟨some 9, .load none (.t 1), none⟩,
    ⟨some 10, .bin .eql (.t 8) (.t 9), none⟩])
def A_impl_each_1.r1 : ACode := (.region none [⟨some 11, .load none (.t 2), none⟩,
    ⟨some 12, .load (some 16) (.t 3), none⟩,
    ⟨some 13, .callv (.t 11) [(.t 12)], none⟩])
def A_impl_each_1.r2 : ACode := (.region none [⟨some 14, .load none (.t 1), none⟩,
    ⟨some 15, .move (.c (.int .i64 0)), none⟩])
def A_impl_each_1.r3 : ACode := (.region none [⟨some 16, .bin .lss (.t 15) (.t 14), none⟩])
def A_impl_each_1.r4 : ACode := (.region none [⟨some 17, .move (.t 15), none⟩,
    ⟨some 7, .move (.t 17), none⟩])
def A_impl_each_1.r5 : ACode := (.region none [⟨some 18, .move (.t 7), none⟩,
    ⟨some 19, .indexAddr (some 16) 1 (.t 4) (.t 18), none⟩,
    ⟨some 20, .load none (.t 19), none⟩,
    ⟨some 21, .not (.t 20), none⟩])
def A_impl_each_1.r6 : ACode := (.region none [⟨some 22, .move (.t 7), none⟩,
    ⟨some 23, .indexAddr (some 16) 1 (.t 4) (.t 22), none⟩,
    ⟨none, .store 1 (.t 23) (.c (.bool true)), none⟩])
def A_impl_each_1.r7 : ACode := (.region none [⟨some 24, .move (.t 0), none⟩,
    ⟨some 25, .move (.t 7), none⟩,
    ⟨some 26, .conv .u8 (.t 25), none⟩,
    ⟨some 27, .indexAddr (some 16) 1 (.t 3) (.t 24), none⟩,
    ⟨none, .store 1 (.t 27) (.t 26), none⟩])
def A_impl_each_1.r8 : ACode := (.region none [⟨some 28, .load none (.t 5), none⟩,
    ⟨some 29, .move (.t 0), none⟩,
    ⟨some 30, .bin .add (.t 29) (.c (.int .i64 1)), none⟩,
    ⟨some 31, .callv (.t 28) [(.t 30)], none⟩])
def A_impl_each_1.r9 : ACode := (.region none [⟨some 32, .move (.t 7), none⟩,
    ⟨some 33, .indexAddr (some 16) 1 (.t 4) (.t 32), none⟩,
    ⟨none, .store 1 (.t 33) (.c (.bool false)), none⟩])
def A_impl_each_1.r10 : ACode := (.region none [⟨some 34, .bin .add (.t 15) (.c (.int .i64 1)), none⟩,
    ⟨some 15, .move (.t 34), none⟩])
def A_impl_each_1.l0 : ACode := (.seq A_impl_each_1.r3 (.seq (.cond (.t 16) .skip (.exit 0)) (.seq (.block 1 (.seq A_impl_each_1.r4 (.seq A_impl_each_1.r5 (.cond (.t 21) (.seq A_impl_each_1.r6 (.seq A_impl_each_1.r7 (.seq A_impl_each_1.r8 A_impl_each_1.r9))) .skip)))) A_impl_each_1.r10)))
def A_impl_each_1 : AFunc := ⟨[], (.seq (.seq A_impl_each_1.r0 (.cond (.t 10) (.seq A_impl_each_1.r1 .ret) .skip)) (.seq A_impl_each_1.r2 (.block 0 (.loop A_impl_each_1.l0))))⟩
/-! math_bits_Len64 -/
def A_math_bits_Len64.r0 : ACode := (.region none [⟨some 2, .move (.c (.int .i64 0)), none⟩])
def A_math_bits_Len64.r1 : ACode := (.region none [⟨some 3, .move (.t 0), none⟩,
    ⟨some 4, .bin .geq (.t 3) (.c (.int .u64 4294967296)), none⟩])
def A_math_bits_Len64.r2 : ACode := (.region none [⟨some 5, .move (.t 0), none⟩,
    ⟨some 6, .bin .shr (.t 5) (.c (.int .u64 32)), none⟩,
    ⟨some 0, .move (.t 6), none⟩])
def A_math_bits_Len64.r3 : ACode := (.region none [⟨some 2, .move (.c (.int .i64 32)), none⟩])
def A_math_bits_Len64.r4 : ACode := (.region none [⟨some 7, .move (.t 0), none⟩,
    ⟨some 8, .bin .geq (.t 7) (.c (.int .u64 65536)), none⟩])
def A_math_bits_Len64.r5 : ACode := (.region none [⟨some 9, .move (.t 0), none⟩,
    ⟨some 10, .bin .shr (.t 9) (.c (.int .u64 16)), none⟩,
    ⟨some 0, .move (.t 10), none⟩])
def A_math_bits_Len64.r6 : ACode := (.region none [⟨some 11, .move (.t 2), none⟩,
    ⟨some 12, .bin .add (.t 11) (.c (.int .i64 16)), none⟩,
    ⟨some 2, .move (.t 12), none⟩])
def A_math_bits_Len64.r7 : ACode := (.region none [⟨some 13, .move (.t 0), none⟩,
    ⟨some 14, .bin .geq (.t 13) (.c (.int .u64 256)), none⟩])
def A_math_bits_Len64.r8 : ACode := (.region none [⟨some 15, .move (.t 0), none⟩,
    ⟨some 16, .bin .shr (.t 15) (.c (.int .u64 8)), none⟩,
    ⟨some 0, .move (.t 16), none⟩])
def A_math_bits_Len64.r9 : ACode := (.region none [⟨some 17, .move (.t 2), none⟩,
    ⟨some 18, .bin .add (.t 17) (.c (.int .i64 8)), none⟩,
    ⟨some 2, .move (.t 18), none⟩])
def A_math_bits_Len64.r10 : ACode := (.region none [⟨some 19, .move (.t 2), none⟩,
    ⟨some 20, .move (.t 0), none⟩,
    ⟨some 21, .conv .u8 (.t 20), none⟩,
    ⟨some 22, .indexStr (.c (.string ⟨#[0, 1, 2, 2, 3, 3, 3, 3, 4, 4, 4, 4, 4, 4, 4, 4, 5, 5, 5, 5, 5, 5, 5, 5, 5, 5, 5, 5, 5, 5, 5, 5, 6, 6, 6, 6, 6, 6, 6, 6, 6, 6, 6, 6, 6, 6, 6, 6, 6, 6, 6, 6, 6, 6, 6, 6, 6, 6, 6, 6, 6, 6, 6, 6, 7, 7, 7, 7, 7, 7, 7, 7, 7, 7, 7, 7, 7, 7, 7, 7, 7, 7, 7, 7, 7, 7, 7, 7, 7, 7, 7, 7, 7, 7, 7, 7, 7, 7, 7, 7, 7, 7, 7, 7, 7, 7, 7, 7, 7, 7, 7, 7, 7, 7, 7, 7, 7, 7, 7, 7, 7, 7, 7, 7, 7, 7, 7, 7, 8, 8, 8, 8, 8, 8, 8, 8, 8, 8, 8, 8, 8, 8, 8, 8, 8, 8, 8, 8, 8, 8, 8, 8, 8, 8, 8, 8, 8, 8, 8, 8, 8, 8, 8, 8, 8, 8, 8, 8, 8, 8, 8, 8, 8, 8, 8, 8, 8, 8, 8, 8, 8, 8, 8, 8, 8, 8, 8, 8, 8, 8, 8, 8, 8, 8, 8, 8, 8, 8, 8, 8, 8, 8, 8, 8, 8, 8, 8, 8, 8, 8, 8, 8, 8, 8, 8, 8, 8, 8, 8, 8, 8, 8, 8, 8, 8, 8, 8, 8, 8, 8, 8, 8, 8, 8, 8, 8, 8, 8, 8, 8, 8, 8, 8, 8, 8, 8, 8, 8, 8, 8, 8, 8, 8, 8, 8, 8]⟩)) (.t 21), none⟩,
    ⟨some 23, .conv .i64 (.t 22), none⟩,
    ⟨some 24, .bin .add (.t 19) (.t 23), none⟩,
    ⟨some 2, .move (.t 24), none⟩])
def A_math_bits_Len64 : AFunc := ⟨[.tmp 2], (.seq A_math_bits_Len64.r0 (.seq (.seq A_math_bits_Len64.r1 (.cond (.t 4) (.seq A_math_bits_Len64.r2 A_math_bits_Len64.r3) .skip)) (.seq (.seq A_math_bits_Len64.r4 (.cond (.t 8) (.seq A_math_bits_Len64.r5 A_math_bits_Len64.r6) .skip)) (.seq (.seq A_math_bits_Len64.r7 (.cond (.t 14) (.seq A_math_bits_Len64.r8 A_math_bits_Len64.r9) .skip)) (.seq A_math_bits_Len64.r10 .ret)))))⟩
/-! spec_l04Meet -/
def A_spec_l04Meet.r0 : ACode := (.region none [⟨some 5, .box (.t 0), none⟩,
    ⟨some 6, .box (.t 1), none⟩,
    ⟨some 7, .box (.t 2), none⟩,
    ⟨some 10, .alloc ([.int .i64 0, .int .i64 0] ++ [.slice none 0 0] ++ [.bool false]), none⟩])
def A_spec_l04Meet.r1 : ACode := (.region (some 8) [⟨some 12, .load (some 16) (.t 7), none⟩,
    ⟨some 13, .move (.t 3), none⟩,
    ⟨some 14, .call 284 [(.t 12), (.t 13)], none⟩,
    ⟨some 15, .move (.t 4), none⟩,
    ⟨some 16, .indexAddr none 1 (.t 15) (.c (.int .i64 1)), none⟩,
    ⟨some 17, .load none (.t 16), none⟩,
    ⟨some 18, .call 390 [(.t 14), (.t 17)], none⟩,
    ⟨some 19, .not (.t 18), none⟩])
def A_spec_l04Meet.r2 : ACode := (.region none [⟨some 20, .load (some 4) (.t 5), none⟩,
    ⟨none, .store 4 (.t 10) (.t 20), none⟩])
def A_spec_l04Meet.r3 : ACode := (.region none [⟨some 21, .move (.t 3), none⟩,
    ⟨some 22, .load (some 16) (.t 6), none⟩,
    ⟨some 23, .load (some 16) (.t 7), none⟩,
    ⟨some 24, .build ([.int .i64 0] ++ List.replicate 32 (.int .u8 0)) [(0, 1, (.t 21)), (1, 16, (.t 22)), (17, 16, (.t 23))], none⟩,
    ⟨some 11, .alloc ([.int .i64 0] ++ List.replicate 32 (.int .u8 0)), none⟩,
    ⟨none, .store 33 (.t 11) (.t 24), none⟩])
def A_spec_l04Meet.r4 : ACode := (.region (some 9) [⟨some 25, .load (some 33) (.t 11), none⟩,
    ⟨some 26, .call 192 [(.t 25)], none⟩,
    ⟨some 27, .move (.t 3), none⟩,
    ⟨some 28, .call 284 [(.t 26), (.t 27)], none⟩,
    ⟨some 29, .move (.t 4), none⟩,
    ⟨some 30, .indexAddr none 1 (.t 29) (.c (.int .i64 2)), none⟩,
    ⟨some 31, .load none (.t 30), none⟩,
    ⟨some 32, .call 390 [(.t 28), (.t 31)], none⟩,
    ⟨some 33, .not (.t 32), none⟩])
def A_spec_l04Meet.r5 : ACode := (.region none [⟨some 34, .load (some 4) (.t 5), none⟩,
    ⟨none, .store 4 (.t 10) (.t 34), none⟩])
def A_spec_l04Meet.r6 : ACode := (.region none [⟨some 35, .fieldAddr 0 (.t 5), none⟩,
    ⟨some 36, .load none (.t 35), none⟩,
    ⟨some 37, .bin .add (.t 36) (.c (.int .i64 1)), none⟩,
    ⟨some 38, .fieldAddr 0 (.t 5), none⟩,
    ⟨none, .store 1 (.t 38) (.t 37), none⟩])
def A_spec_l04Meet.r7 : ACode := (.region none [⟨some 39, .load (some 33) (.t 11), none⟩,
    ⟨some 40, .call 184 [(.t 39)], none⟩,
    ⟨some 41, .not (.t 40), none⟩])
def A_spec_l04Meet.r8 : ACode := (.region none [⟨some 42, .load (some 4) (.t 5), none⟩,
    ⟨none, .store 4 (.t 10) (.t 42), none⟩])
def A_spec_l04Meet.r9 : ACode := (.region none [⟨some 43, .fieldAddr 1 (.t 5), none⟩,
    ⟨some 44, .load none (.t 43), none⟩,
    ⟨some 45, .bin .add (.t 44) (.c (.int .i64 1)), none⟩,
    ⟨some 46, .fieldAddr 1 (.t 5), none⟩,
    ⟨none, .store 1 (.t 46) (.t 45), none⟩])
def A_spec_l04Meet.r10 : ACode := (.region none [⟨some 47, .fieldAddr 3 (.t 5), none⟩,
    ⟨some 48, .load none (.t 47), none⟩])
def A_spec_l04Meet.r11 : ACode := (.region (some 6) [⟨some 49, .fieldAddr 2 (.t 5), none⟩,
    ⟨some 50, .load none (.t 49), none⟩,
    ⟨some 51, .load (some 33) (.t 11), none⟩,
    ⟨some 52, .call 359 [(.t 51)], none⟩,
    ⟨some 53, .call 391 [(.t 50), (.t 52)], none⟩,
    ⟨some 54, .fieldAddr 2 (.t 5), none⟩,
    ⟨none, .store 1 (.t 54) (.t 53), none⟩])
def A_spec_l04Meet.r12 : ACode := (.region none [⟨some 55, .load (some 4) (.t 5), none⟩,
    ⟨none, .store 4 (.t 10) (.t 55), none⟩])
def A_spec_l04Meet : AFunc := ⟨[.cell 10 (some 4)], (.seq A_spec_l04Meet.r0 (.seq (.seq A_spec_l04Meet.r1 (.cond (.t 19) (.seq A_spec_l04Meet.r2 .ret) .skip)) (.seq A_spec_l04Meet.r3 (.seq (.seq A_spec_l04Meet.r4 (.cond (.t 33) (.seq A_spec_l04Meet.r5 .ret) .skip)) (.seq A_spec_l04Meet.r6 (.seq (.seq A_spec_l04Meet.r7 (.cond (.t 41) (.seq A_spec_l04Meet.r8 .ret) .skip)) (.seq A_spec_l04Meet.r9 (.seq (.seq A_spec_l04Meet.r10 (.cond (.t 48) A_spec_l04Meet.r11 .skip)) (.seq A_spec_l04Meet.r12 .ret)))))))))⟩
/-! slices_Sort_int64_int64 -/
def A_slices_Sort_int64_int64.r0 : ACode := (.region none [⟨some 3, .move (.t 0), none⟩,
    ⟨some 4, .len (.t 3), none⟩,
    ⟨some 2, .move (.t 4), none⟩])
def A_slices_Sort_int64_int64.r1 : ACode := (.region none [⟨some 5, .move (.t 0), none⟩,
    ⟨some 6, .move (.t 2), none⟩,
    ⟨some 7, .move (.t 2), none⟩,
    ⟨some 8, .conv .u64 (.t 7), none⟩,
    ⟨some 9, .call 227 [(.t 8)], none⟩,
    ⟨some 10, .call 228 [(.t 5), (.c (.int .i64 0)), (.t 6), (.t 9)], none⟩])
def A_slices_Sort_int64_int64 : AFunc := ⟨[], (.seq A_slices_Sort_int64_int64.r0 A_slices_Sort_int64_int64.r1)⟩
/-! slices_Reverse_int64_int64 -/
def A_slices_Reverse_int64_int64.r0 : ACode := (.region none [⟨some 4, .move (.t 0), none⟩,
    ⟨some 5, .len (.t 4), none⟩,
    ⟨some 6, .bin .sub (.t 5) (.c (.int .i64 1)), none⟩,
    ⟨some 2, .move (.c (.int .i64 0)), none⟩,
    ⟨some 3, .move (.t 6), none⟩])
def A_slices_Reverse_int64_int64.r1 : ACode := (.region none [⟨some 7, .move (.t 2), none⟩,
    ⟨some 8, .move (.t 3), none⟩,
    ⟨some 9, .bin .lss (.t 7) (.t 8), none⟩])
def A_slices_Reverse_int64_int64.r3 : ACode := (.region (some 13) [⟨some 14, .move (.t 0), none⟩,
    ⟨some 15, .move (.t 2), none⟩,
    ⟨some 16, .move (.t 0), none⟩,
    ⟨some 17, .move (.t 3), none⟩,
    ⟨some 18, .move (.t 0), none⟩,
    ⟨some 19, .move (.t 3), none⟩,
    ⟨some 20, .indexAddr none 1 (.t 18) (.t 19), none⟩,
    ⟨some 21, .load none (.t 20), none⟩,
    ⟨some 22, .move (.t 0), none⟩,
    ⟨some 23, .move (.t 2), none⟩,
    ⟨some 24, .indexAddr none 1 (.t 22) (.t 23), none⟩,
    ⟨some 25, .load none (.t 24), none⟩,
    ⟨some 26, .indexAddr none 1 (.t 14) (.t 15), none⟩,
    ⟨none, .storeF 1 (.t 26) (.t 21) [], none⟩,
    ⟨some 27, .indexAddr none 1 (.t 16) (.t 17), none⟩,
    ⟨none, .store 1 (.t 27) (.t 25), none⟩])
def A_slices_Reverse_int64_int64.r2 : ACode := (.region none [⟨some 10, .move (.t 2), none⟩,
    ⟨some 11, .bin .add (.t 10) (.c (.int .i64 1)), none⟩,
    ⟨some 12, .move (.t 3), none⟩,
    ⟨some 13, .bin .sub (.t 12) (.c (.int .i64 1)), none⟩,
    ⟨some 2, .move (.t 11), none⟩,
    ⟨some 3, .move (.t 13), none⟩])
def A_slices_Reverse_int64_int64.l0 : ACode := (.seq (.seq A_slices_Reverse_int64_int64.r1 (.cond (.t 9) .skip (.exit 0))) (.seq (.block 1 A_slices_Reverse_int64_int64.r3) A_slices_Reverse_int64_int64.r2))
def A_slices_Reverse_int64_int64 : AFunc := ⟨[], (.seq A_slices_Reverse_int64_int64.r0 (.block 0 (.loop A_slices_Reverse_int64_int64.l0)))⟩
/-! slices_nextPowerOfTwo -/
def A_slices_nextPowerOfTwo.r0 : ACode := (.region none [⟨some 2, .move (.c (.int .u64 0)), none⟩])
def A_slices_nextPowerOfTwo.r1 : ACode := (.region none [⟨some 3, .move (.t 0), none⟩,
    ⟨some 4, .conv .u64 (.t 3), none⟩,
    ⟨some 5, .call 227 [(.t 4)], none⟩,
    ⟨some 6, .bin .shl (.c (.int .u64 1)) (.t 5), none⟩,
    ⟨some 2, .move (.t 6), none⟩])
def A_slices_nextPowerOfTwo : AFunc := ⟨[.tmp 2], (.seq A_slices_nextPowerOfTwo.r0 (.seq A_slices_nextPowerOfTwo.r1 .ret))⟩
/-! slices_xorshift_Next -/
def A_slices_xorshift_Next.r0 : ACode := (.region none [⟨some 2, .move (.c (.int .u64 0)), none⟩])
def A_slices_xorshift_Next.r1 : ACode := (.region (some 9) [⟨some 3, .move (.t 0), none⟩,
    ⟨some 4, .nilCheck (.t 3), none⟩,
    ⟨some 5, .load none (.t 4), none⟩,
    ⟨some 6, .move (.t 0), none⟩,
    ⟨some 7, .nilCheck (.t 6), none⟩,
    ⟨some 8, .load none (.t 7), none⟩,
    ⟨some 9, .bin .shl (.t 8) (.c (.int .u64 13)), none⟩,
    ⟨some 10, .bin .xor (.t 5) (.t 9), none⟩,
    ⟨some 11, .nilCheck (.t 3), none⟩,
    ⟨none, .store 1 (.t 11) (.t 10), none⟩])
def A_slices_xorshift_Next.r2 : ACode := (.region (some 9) [⟨some 12, .move (.t 0), none⟩,
    ⟨some 13, .nilCheck (.t 12), none⟩,
    ⟨some 14, .load none (.t 13), none⟩,
    ⟨some 15, .move (.t 0), none⟩,
    ⟨some 16, .nilCheck (.t 15), none⟩,
    ⟨some 17, .load none (.t 16), none⟩,
    ⟨some 18, .bin .shr (.t 17) (.c (.int .u64 7)), none⟩,
    ⟨some 19, .bin .xor (.t 14) (.t 18), none⟩,
    ⟨some 20, .nilCheck (.t 12), none⟩,
    ⟨none, .store 1 (.t 20) (.t 19), none⟩])
def A_slices_xorshift_Next.r3 : ACode := (.region (some 9) [⟨some 21, .move (.t 0), none⟩,
    ⟨some 22, .nilCheck (.t 21), none⟩,
    ⟨some 23, .load none (.t 22), none⟩,
    ⟨some 24, .move (.t 0), none⟩,
    ⟨some 25, .nilCheck (.t 24), none⟩,
    ⟨some 26, .load none (.t 25), none⟩,
    ⟨some 27, .bin .shl (.t 26) (.c (.int .u64 17)), none⟩,
    ⟨some 28, .bin .xor (.t 23) (.t 27), none⟩,
    ⟨some 29, .nilCheck (.t 21), none⟩,
    ⟨none, .store 1 (.t 29) (.t 28), none⟩])
def A_slices_xorshift_Next.r4 : ACode := (.region none [⟨some 30, .move (.t 0), none⟩,
    ⟨some 31, .nilCheck (.t 30), none⟩,
    ⟨some 32, .load none (.t 31), none⟩,
    ⟨some 2, .move (.t 32), none⟩])
def A_slices_xorshift_Next : AFunc := ⟨[.tmp 2], (.seq A_slices_xorshift_Next.r0 (.seq A_slices_xorshift_Next.r1 (.seq A_slices_xorshift_Next.r2 (.seq A_slices_xorshift_Next.r3 (.seq A_slices_xorshift_Next.r4 .ret)))))⟩
/-! spec_l04Same2 -/
def A_spec_l04Same2.r0 : ACode := (.region none [⟨some 4, .move (.c (.bool false)), none⟩])
def A_spec_l04Same2.r1 : ACode := (.region none [⟨some 6, .move (.t 0), none⟩,
    ⟨some 7, .len (.t 6), none⟩,
    ⟨some 8, .move (.t 1), none⟩,
    ⟨some 9, .len (.t 8), none⟩,
    ⟨some 10, .bin .neq (.t 7) (.t 9), none⟩])
def A_spec_l04Same2.r2 : ACode := (.region none [⟨some 4, .move (.c (.bool false)), none⟩])
def A_spec_l04Same2.r3 : ACode := (.region none [⟨some 5, .move (.c (.int .i64 0)), none⟩])
def A_spec_l04Same2.r4 : ACode := (.region none [⟨some 11, .move (.t 5), none⟩,
    ⟨some 12, .move (.t 0), none⟩,
    ⟨some 13, .len (.t 12), none⟩,
    ⟨some 14, .bin .lss (.t 11) (.t 13), none⟩])
def A_spec_l04Same2.r6 : ACode := (.region (some 9) [⟨some 17, .move (.t 0), none⟩,
    ⟨some 18, .move (.t 5), none⟩,
    ⟨some 19, .indexAddr none 1 (.t 17) (.t 18), none⟩,
    ⟨some 20, .load none (.t 19), none⟩,
    ⟨some 21, .move (.t 1), none⟩,
    ⟨some 22, .move (.t 5), none⟩,
    ⟨some 23, .indexAddr none 1 (.t 21) (.t 22), none⟩,
    ⟨some 24, .load none (.t 23), none⟩,
    ⟨some 25, .bin .neq (.t 20) (.t 24), none⟩])
def A_spec_l04Same2.r7 : ACode := (.region none [⟨some 4, .move (.c (.bool false)), none⟩])
def A_spec_l04Same2.r5 : ACode := (.region none [⟨some 15, .move (.t 5), none⟩,
    ⟨some 16, .bin .add (.t 15) (.c (.int .i64 1)), none⟩,
    ⟨some 5, .move (.t 16), none⟩])
def A_spec_l04Same2.l0 : ACode := (.seq (.seq A_spec_l04Same2.r4 (.cond (.t 14) .skip (.exit 0))) (.seq (.block 1 (.seq A_spec_l04Same2.r6 (.cond (.t 25) (.seq A_spec_l04Same2.r7 .ret) .skip))) A_spec_l04Same2.r5))
def A_spec_l04Same2.r8 : ACode := (.region none [⟨some 4, .move (.c (.bool true)), none⟩])
def A_spec_l04Same2 : AFunc := ⟨[.tmp 4], (.seq A_spec_l04Same2.r0 (.seq (.seq A_spec_l04Same2.r1 (.cond (.t 10) (.seq A_spec_l04Same2.r2 .ret) .skip)) (.seq (.seq A_spec_l04Same2.r3 (.block 0 (.loop A_spec_l04Same2.l0))) (.seq A_spec_l04Same2.r8 .ret))))⟩
/-! slices_pdqsortOrdered_int64 -/
def A_slices_pdqsortOrdered_int64.r0 : ACode := (.region none [⟨some 8, .move (.c (.bool true)), none⟩])
def A_slices_pdqsortOrdered_int64.r1 : ACode := (.region none [⟨some 9, .move (.c (.bool true)), none⟩])
def A_slices_pdqsortOrdered_int64.r2 : ACode := (.region none [⟨some 19, .move (.t 2), none⟩,
    ⟨some 20, .move (.t 1), none⟩,
    ⟨some 21, .bin .sub (.t 19) (.t 20), none⟩,
    ⟨some 10, .move (.t 21), none⟩])
def A_slices_pdqsortOrdered_int64.r3 : ACode := (.region none [⟨some 22, .move (.t 10), none⟩,
    ⟨some 23, .bin .leq (.t 22) (.c (.int .i64 12)), none⟩])
def A_slices_pdqsortOrdered_int64.r4 : ACode := (.region none [⟨some 24, .move (.t 0), none⟩,
    ⟨some 25, .move (.t 1), none⟩,
    ⟨some 26, .move (.t 2), none⟩,
    ⟨some 27, .call 229 [(.t 24), (.t 25), (.t 26)], none⟩])
def A_slices_pdqsortOrdered_int64.r5 : ACode := (.region none [⟨some 28, .move (.t 3), none⟩,
    ⟨some 29, .bin .eql (.t 28) (.c (.int .i64 0)), none⟩])
def A_slices_pdqsortOrdered_int64.r6 : ACode := (.region none [⟨some 30, .move (.t 0), none⟩,
    ⟨some 31, .move (.t 1), none⟩,
    ⟨some 32, .move (.t 2), none⟩,
    ⟨some 33, .call 230 [(.t 30), (.t 31), (.t 32)], none⟩])
def A_slices_pdqsortOrdered_int64.r7 : ACode := (.region none [⟨some 34, .move (.t 8), none⟩,
    ⟨some 35, .not (.t 34), none⟩])
def A_slices_pdqsortOrdered_int64.r8 : ACode := (.region none [⟨some 36, .move (.t 0), none⟩,
    ⟨some 37, .move (.t 1), none⟩,
    ⟨some 38, .move (.t 2), none⟩,
    ⟨some 39, .call 231 [(.t 36), (.t 37), (.t 38)], none⟩])
def A_slices_pdqsortOrdered_int64.r9 : ACode := (.region none [⟨some 40, .move (.t 3), none⟩,
    ⟨some 41, .bin .sub (.t 40) (.c (.int .i64 1)), none⟩,
    ⟨some 3, .move (.t 41), none⟩])
def A_slices_pdqsortOrdered_int64.r10 : ACode := (.region none [⟨some 43, .move (.t 0), none⟩,
    ⟨some 44, .move (.t 1), none⟩,
    ⟨some 45, .move (.t 2), none⟩,
    ⟨some 46, .call 232 [(.t 43), (.t 44), (.t 45)], none⟩,
    ⟨some 42, .move (.t 46), none⟩,
    ⟨some 47, .extract (.t 42) 0, none⟩,
    ⟨some 48, .extract (.t 42) 1, none⟩,
    ⟨some 11, .move (.t 47), none⟩,
    ⟨some 12, .move (.t 48), none⟩])
def A_slices_pdqsortOrdered_int64.r11 : ACode := (.region none [⟨some 49, .move (.t 12), none⟩,
    ⟨some 50, .bin .eql (.t 49) (.c (.int .i64 2)), none⟩])
def A_slices_pdqsortOrdered_int64.r12 : ACode := (.region none [⟨some 51, .move (.t 0), none⟩,
    ⟨some 52, .move (.t 1), none⟩,
    ⟨some 53, .move (.t 2), none⟩,
    ⟨some 54, .call 233 [(.t 51), (.t 52), (.t 53)], none⟩])
def A_slices_pdqsortOrdered_int64.r13 : ACode := (.region none [⟨some 55, .move (.t 2), none⟩,
    ⟨some 56, .bin .sub (.t 55) (.c (.int .i64 1)), none⟩,
    ⟨some 57, .move (.t 11), none⟩,
    ⟨some 58, .move (.t 1), none⟩,
    ⟨some 59, .bin .sub (.t 57) (.t 58), none⟩,
    ⟨some 60, .bin .sub (.t 56) (.t 59), none⟩,
    ⟨some 11, .move (.t 60), none⟩])
def A_slices_pdqsortOrdered_int64.r14 : ACode := (.region none [⟨some 12, .move (.c (.int .i64 1)), none⟩])
def A_slices_pdqsortOrdered_int64.r15 : ACode := (.region none [⟨some 61, .move (.t 8), none⟩,
    ⟨some 62, .move (.t 61), none⟩,
    ⟨some 63, .move (.t 9), some (62, true)⟩,
    ⟨some 64, .pick (.t 62) (.t 63) (.c (.bool false)), none⟩,
    ⟨some 65, .move (.t 64), none⟩,
    ⟨some 66, .move (.t 12), some (65, true)⟩,
    ⟨some 67, .bin .eql (.t 66) (.c (.int .i64 1)), some (65, true)⟩,
    ⟨some 68, .pick (.t 65) (.t 67) (.c (.bool false)), none⟩])
def A_slices_pdqsortOrdered_int64.r16 : ACode := (.region none [⟨some 69, .move (.t 0), none⟩,
    ⟨some 70, .move (.t 1), none⟩,
    ⟨some 71, .move (.t 2), none⟩,
    ⟨some 72, .call 234 [(.t 69), (.t 70), (.t 71)], none⟩])
def A_slices_pdqsortOrdered_int64.r17 : ACode := (.region (some 15) [⟨some 73, .move (.t 1), none⟩,
    ⟨some 74, .bin .gtr (.t 73) (.c (.int .i64 0)), none⟩,
    ⟨some 75, .move (.t 74), none⟩,
    ⟨some 76, .move (.t 0), some (75, true)⟩,
    ⟨some 77, .move (.t 1), some (75, true)⟩,
    ⟨some 78, .bin .sub (.t 77) (.c (.int .i64 1)), some (75, true)⟩,
    ⟨some 79, .indexAddr none 1 (.t 76) (.t 78), some (75, true)⟩,
    ⟨some 80, .load none (.t 79), some (75, true)⟩,
    ⟨some 81, .move (.t 0), some (75, true)⟩,
    ⟨some 82, .move (.t 11), some (75, true)⟩,
    ⟨some 83, .indexAddr none 1 (.t 81) (.t 82), some (75, true)⟩,
    ⟨some 84, .load none (.t 83), some (75, true)⟩,
    ⟨some 85, .call 235 [(.t 80), (.t 84)], some (75, true)⟩,
    ⟨some 86, .not (.t 85), some (75, true)⟩,
    ⟨some 87, .pick (.t 75) (.t 86) (.c (.bool false)), none⟩])
def A_slices_pdqsortOrdered_int64.r18 : ACode := (.region none [⟨some 88, .move (.t 0), none⟩,
    ⟨some 89, .move (.t 1), none⟩,
    ⟨some 90, .move (.t 2), none⟩,
    ⟨some 91, .move (.t 11), none⟩,
    ⟨some 92, .call 236 [(.t 88), (.t 89), (.t 90), (.t 91)], none⟩,
    ⟨some 13, .move (.t 92), none⟩])
def A_slices_pdqsortOrdered_int64.r19 : ACode := (.region none [⟨some 93, .move (.t 13), none⟩,
    ⟨some 1, .move (.t 93), none⟩])
def A_slices_pdqsortOrdered_int64.r20 : ACode := (.region none [⟨some 95, .move (.t 0), none⟩,
    ⟨some 96, .move (.t 1), none⟩,
    ⟨some 97, .move (.t 2), none⟩,
    ⟨some 98, .move (.t 11), none⟩,
    ⟨some 99, .call 237 [(.t 95), (.t 96), (.t 97), (.t 98)], none⟩,
    ⟨some 94, .move (.t 99), none⟩,
    ⟨some 100, .extract (.t 94) 0, none⟩,
    ⟨some 101, .extract (.t 94) 1, none⟩,
    ⟨some 14, .move (.t 100), none⟩,
    ⟨some 15, .move (.t 101), none⟩])
def A_slices_pdqsortOrdered_int64.r21 : ACode := (.region none [⟨some 102, .move (.t 15), none⟩,
    ⟨some 9, .move (.t 102), none⟩])
def A_slices_pdqsortOrdered_int64.r22 : ACode := (.region none [⟨some 103, .move (.t 14), none⟩,
    ⟨some 104, .move (.t 1), none⟩,
    ⟨some 105, .bin .sub (.t 103) (.t 104), none⟩,
    ⟨some 106, .move (.t 2), none⟩,
    ⟨some 107, .move (.t 14), none⟩,
    ⟨some 108, .bin .sub (.t 106) (.t 107), none⟩,
    ⟨some 16, .move (.t 105), none⟩,
    ⟨some 17, .move (.t 108), none⟩])
def A_slices_pdqsortOrdered_int64.r23 : ACode := (.region none [⟨some 109, .move (.t 10), none⟩,
    ⟨some 110, .bin .quo (.t 109) (.c (.int .i64 8)), none⟩,
    ⟨some 18, .move (.t 110), none⟩])
def A_slices_pdqsortOrdered_int64.r24 : ACode := (.region none [⟨some 111, .move (.t 16), none⟩,
    ⟨some 112, .move (.t 17), none⟩,
    ⟨some 113, .bin .lss (.t 111) (.t 112), none⟩])
def A_slices_pdqsortOrdered_int64.r25 : ACode := (.region none [⟨some 114, .move (.t 16), none⟩,
    ⟨some 115, .move (.t 18), none⟩,
    ⟨some 116, .bin .geq (.t 114) (.t 115), none⟩,
    ⟨some 8, .move (.t 116), none⟩])
def A_slices_pdqsortOrdered_int64.r26 : ACode := (.region none [⟨some 117, .move (.t 0), none⟩,
    ⟨some 118, .move (.t 1), none⟩,
    ⟨some 119, .move (.t 14), none⟩,
    ⟨some 120, .move (.t 3), none⟩,
    ⟨some 121, .call 228 [(.t 117), (.t 118), (.t 119), (.t 120)], none⟩])
def A_slices_pdqsortOrdered_int64.r27 : ACode := (.region none [⟨some 122, .move (.t 14), none⟩,
    ⟨some 123, .bin .add (.t 122) (.c (.int .i64 1)), none⟩,
    ⟨some 1, .move (.t 123), none⟩])
def A_slices_pdqsortOrdered_int64.r28 : ACode := (.region none [⟨some 124, .move (.t 17), none⟩,
    ⟨some 125, .move (.t 18), none⟩,
    ⟨some 126, .bin .geq (.t 124) (.t 125), none⟩,
    ⟨some 8, .move (.t 126), none⟩])
def A_slices_pdqsortOrdered_int64.r29 : ACode := (.region none [⟨some 127, .move (.t 0), none⟩,
    ⟨some 128, .move (.t 14), none⟩,
    ⟨some 129, .bin .add (.t 128) (.c (.int .i64 1)), none⟩,
    ⟨some 130, .move (.t 2), none⟩,
    ⟨some 131, .move (.t 3), none⟩,
    ⟨some 132, .call 228 [(.t 127), (.t 129), (.t 130), (.t 131)], none⟩])
def A_slices_pdqsortOrdered_int64.r30 : ACode := (.region none [⟨some 133, .move (.t 14), none⟩,
    ⟨some 2, .move (.t 133), none⟩])
def A_slices_pdqsortOrdered_int64.l0 : ACode := (.block 1 (.seq A_slices_pdqsortOrdered_int64.r2 (.seq (.seq A_slices_pdqsortOrdered_int64.r3 (.cond (.t 23) (.seq A_slices_pdqsortOrdered_int64.r4 .ret) .skip)) (.seq (.seq A_slices_pdqsortOrdered_int64.r5 (.cond (.t 29) (.seq A_slices_pdqsortOrdered_int64.r6 .ret) .skip)) (.seq (.seq A_slices_pdqsortOrdered_int64.r7 (.cond (.t 35) (.seq A_slices_pdqsortOrdered_int64.r8 A_slices_pdqsortOrdered_int64.r9) .skip)) (.seq A_slices_pdqsortOrdered_int64.r10 (.seq (.seq A_slices_pdqsortOrdered_int64.r11 (.cond (.t 50) (.seq A_slices_pdqsortOrdered_int64.r12 (.seq A_slices_pdqsortOrdered_int64.r13 A_slices_pdqsortOrdered_int64.r14)) .skip)) (.seq (.seq A_slices_pdqsortOrdered_int64.r15 (.cond (.t 68) (.seq A_slices_pdqsortOrdered_int64.r16 (.cond (.t 72) .ret .skip)) .skip)) (.seq (.seq A_slices_pdqsortOrdered_int64.r17 (.cond (.t 87) (.seq A_slices_pdqsortOrdered_int64.r18 (.seq A_slices_pdqsortOrdered_int64.r19 (.exit 1))) .skip)) (.seq A_slices_pdqsortOrdered_int64.r20 (.seq A_slices_pdqsortOrdered_int64.r21 (.seq A_slices_pdqsortOrdered_int64.r22 (.seq A_slices_pdqsortOrdered_int64.r23 (.seq A_slices_pdqsortOrdered_int64.r24 (.cond (.t 113) (.seq A_slices_pdqsortOrdered_int64.r25 (.seq A_slices_pdqsortOrdered_int64.r26 A_slices_pdqsortOrdered_int64.r27)) (.seq A_slices_pdqsortOrdered_int64.r28 (.seq A_slices_pdqsortOrdered_int64.r29 A_slices_pdqsortOrdered_int64.r30)))))))))))))))))
def A_slices_pdqsortOrdered_int64 : AFunc := ⟨[], (.seq A_slices_pdqsortOrdered_int64.r0 (.seq A_slices_pdqsortOrdered_int64.r1 (.block 0 (.loop A_slices_pdqsortOrdered_int64.l0))))⟩
/-! slices_insertionSortOrdered_int64 -/
def A_slices_insertionSortOrdered_int64.r0 : ACode := (.region none [⟨some 8, .move (.t 1), none⟩,
    ⟨some 9, .bin .add (.t 8) (.c (.int .i64 1)), none⟩,
    ⟨some 6, .move (.t 9), none⟩])
def A_slices_insertionSortOrdered_int64.r1 : ACode := (.region none [⟨some 10, .move (.t 6), none⟩,
    ⟨some 11, .move (.t 2), none⟩,
    ⟨some 12, .bin .lss (.t 10) (.t 11), none⟩])
def A_slices_insertionSortOrdered_int64.r3 : ACode := (.region none [⟨some 15, .move (.t 6), none⟩,
    ⟨some 7, .move (.t 15), none⟩])
def A_slices_insertionSortOrdered_int64.r4 : ACode := (.region (some 15) [⟨some 16, .move (.t 7), none⟩,
    ⟨some 17, .move (.t 1), none⟩,
    ⟨some 18, .bin .gtr (.t 16) (.t 17), none⟩,
    ⟨some 19, .move (.t 18), none⟩,
    ⟨some 20, .move (.t 0), some (19, true)⟩,
    ⟨some 21, .move (.t 7), some (19, true)⟩,
    ⟨some 22, .indexAddr none 1 (.t 20) (.t 21), some (19, true)⟩,
    ⟨some 23, .load none (.t 22), some (19, true)⟩,
    ⟨some 24, .move (.t 0), some (19, true)⟩,
    ⟨some 25, .move (.t 7), some (19, true)⟩,
    ⟨some 26, .bin .sub (.t 25) (.c (.int .i64 1)), some (19, true)⟩,
    ⟨some 27, .indexAddr none 1 (.t 24) (.t 26), some (19, true)⟩,
    ⟨some 28, .load none (.t 27), some (19, true)⟩,
    ⟨some 29, .call 235 [(.t 23), (.t 28)], some (19, true)⟩,
    ⟨some 30, .pick (.t 19) (.t 29) (.c (.bool false)), none⟩])
def A_slices_insertionSortOrdered_int64.r6 : ACode := (.region (some 15) [⟨some 33, .move (.t 0), none⟩,
    ⟨some 34, .move (.t 7), none⟩,
    ⟨some 35, .move (.t 0), none⟩,
    ⟨some 36, .move (.t 7), none⟩,
    ⟨some 37, .bin .sub (.t 36) (.c (.int .i64 1)), none⟩,
    ⟨some 38, .move (.t 0), none⟩,
    ⟨some 39, .move (.t 7), none⟩,
    ⟨some 40, .bin .sub (.t 39) (.c (.int .i64 1)), none⟩,
    ⟨some 41, .indexAddr none 1 (.t 38) (.t 40), none⟩,
    ⟨some 42, .load none (.t 41), none⟩,
    ⟨some 43, .move (.t 0), none⟩,
    ⟨some 44, .move (.t 7), none⟩,
    ⟨some 45, .indexAddr none 1 (.t 43) (.t 44), none⟩,
    ⟨some 46, .load none (.t 45), none⟩,
    ⟨some 47, .indexAddr none 1 (.t 33) (.t 34), none⟩,
    ⟨none, .storeF 1 (.t 47) (.t 42) [], none⟩,
    ⟨some 48, .indexAddr none 1 (.t 35) (.t 37), none⟩,
    ⟨none, .store 1 (.t 48) (.t 46), none⟩])
def A_slices_insertionSortOrdered_int64.r5 : ACode := (.region none [⟨some 31, .move (.t 7), none⟩,
    ⟨some 32, .bin .sub (.t 31) (.c (.int .i64 1)), none⟩,
    ⟨some 7, .move (.t 32), none⟩])
def A_slices_insertionSortOrdered_int64.l0 : ACode := (.seq (.seq A_slices_insertionSortOrdered_int64.r4 (.cond (.t 30) .skip (.exit 2))) (.seq (.block 3 A_slices_insertionSortOrdered_int64.r6) A_slices_insertionSortOrdered_int64.r5))
def A_slices_insertionSortOrdered_int64.r2 : ACode := (.region none [⟨some 13, .move (.t 6), none⟩,
    ⟨some 14, .bin .add (.t 13) (.c (.int .i64 1)), none⟩,
    ⟨some 6, .move (.t 14), none⟩])
def A_slices_insertionSortOrdered_int64.l1 : ACode := (.seq (.seq A_slices_insertionSortOrdered_int64.r1 (.cond (.t 12) .skip (.exit 0))) (.seq (.block 1 (.seq A_slices_insertionSortOrdered_int64.r3 (.block 2 (.loop A_slices_insertionSortOrdered_int64.l0)))) A_slices_insertionSortOrdered_int64.r2))
def A_slices_insertionSortOrdered_int64 : AFunc := ⟨[], (.seq A_slices_insertionSortOrdered_int64.r0 (.block 0 (.loop A_slices_insertionSortOrdered_int64.l1)))⟩
/-! slices_breakPatternsOrdered_int64 -/
def A_slices_breakPatternsOrdered_int64.r0 : ACode := (.region none [⟨some 11, .move (.t 2), none⟩,
    ⟨some 12, .move (.t 1), none⟩,
    ⟨some 13, .bin .sub (.t 11) (.t 12), none⟩,
    ⟨some 6, .move (.t 13), none⟩])
def A_slices_breakPatternsOrdered_int64.r1 : ACode := (.region none [⟨some 14, .move (.t 6), none⟩,
    ⟨some 15, .bin .geq (.t 14) (.c (.int .i64 8)), none⟩])
def A_slices_breakPatternsOrdered_int64.r2 : ACode := (.region none [⟨some 16, .move (.t 6), none⟩,
    ⟨some 17, .conv .u64 (.t 16), none⟩,
    ⟨some 7, .alloc [.int .u64 0], none⟩,
    ⟨none, .store 1 (.t 7) (.t 17), none⟩])
def A_slices_breakPatternsOrdered_int64.r3 : ACode := (.region none [⟨some 18, .move (.t 6), none⟩,
    ⟨some 19, .call 240 [(.t 18)], none⟩,
    ⟨some 8, .move (.t 19), none⟩])
def A_slices_breakPatternsOrdered_int64.r4 : ACode := (.region none [⟨some 20, .move (.t 1), none⟩,
    ⟨some 21, .move (.t 6), none⟩,
    ⟨some 22, .bin .quo (.t 21) (.c (.int .i64 4)), none⟩,
    ⟨some 23, .bin .mul (.t 22) (.c (.int .i64 2)), none⟩,
    ⟨some 24, .bin .add (.t 20) (.t 23), none⟩,
    ⟨some 25, .bin .sub (.t 24) (.c (.int .i64 1)), none⟩,
    ⟨some 9, .move (.t 25), none⟩])
def A_slices_breakPatternsOrdered_int64.r5 : ACode := (.region none [⟨some 26, .move (.t 9), none⟩,
    ⟨some 27, .move (.t 1), none⟩,
    ⟨some 28, .move (.t 6), none⟩,
    ⟨some 29, .bin .quo (.t 28) (.c (.int .i64 4)), none⟩,
    ⟨some 30, .bin .mul (.t 29) (.c (.int .i64 2)), none⟩,
    ⟨some 31, .bin .add (.t 27) (.t 30), none⟩,
    ⟨some 32, .bin .add (.t 31) (.c (.int .i64 1)), none⟩,
    ⟨some 33, .bin .leq (.t 26) (.t 32), none⟩])
def A_slices_breakPatternsOrdered_int64.r7 : ACode := (.region none [⟨some 36, .call 241 [(.t 7)], none⟩,
    ⟨some 37, .move (.t 8), none⟩,
    ⟨some 38, .bin .sub (.t 37) (.c (.int .u64 1)), none⟩,
    ⟨some 39, .bin .and (.t 36) (.t 38), none⟩,
    ⟨some 40, .conv .i64 (.t 39), none⟩,
    ⟨some 10, .move (.t 40), none⟩])
def A_slices_breakPatternsOrdered_int64.r8 : ACode := (.region none [⟨some 41, .move (.t 10), none⟩,
    ⟨some 42, .move (.t 6), none⟩,
    ⟨some 43, .bin .geq (.t 41) (.t 42), none⟩])
def A_slices_breakPatternsOrdered_int64.r9 : ACode := (.region none [⟨some 44, .move (.t 10), none⟩,
    ⟨some 45, .move (.t 6), none⟩,
    ⟨some 46, .bin .sub (.t 44) (.t 45), none⟩,
    ⟨some 10, .move (.t 46), none⟩])
def A_slices_breakPatternsOrdered_int64.r10 : ACode := (.region (some 17) [⟨some 47, .move (.t 0), none⟩,
    ⟨some 48, .move (.t 9), none⟩,
    ⟨some 49, .move (.t 0), none⟩,
    ⟨some 50, .move (.t 1), none⟩,
    ⟨some 51, .move (.t 10), none⟩,
    ⟨some 52, .bin .add (.t 50) (.t 51), none⟩,
    ⟨some 53, .move (.t 0), none⟩,
    ⟨some 54, .move (.t 1), none⟩,
    ⟨some 55, .move (.t 10), none⟩,
    ⟨some 56, .bin .add (.t 54) (.t 55), none⟩,
    ⟨some 57, .indexAddr none 1 (.t 53) (.t 56), none⟩,
    ⟨some 58, .load none (.t 57), none⟩,
    ⟨some 59, .move (.t 0), none⟩,
    ⟨some 60, .move (.t 9), none⟩,
    ⟨some 61, .indexAddr none 1 (.t 59) (.t 60), none⟩,
    ⟨some 62, .load none (.t 61), none⟩,
    ⟨some 63, .indexAddr none 1 (.t 47) (.t 48), none⟩,
    ⟨none, .storeF 1 (.t 63) (.t 58) [], none⟩,
    ⟨some 64, .indexAddr none 1 (.t 49) (.t 52), none⟩,
    ⟨none, .store 1 (.t 64) (.t 62), none⟩])
def A_slices_breakPatternsOrdered_int64.r6 : ACode := (.region none [⟨some 34, .move (.t 9), none⟩,
    ⟨some 35, .bin .add (.t 34) (.c (.int .i64 1)), none⟩,
    ⟨some 9, .move (.t 35), none⟩])
def A_slices_breakPatternsOrdered_int64.l0 : ACode := (.seq (.seq A_slices_breakPatternsOrdered_int64.r5 (.cond (.t 33) .skip (.exit 0))) (.seq (.block 1 (.seq A_slices_breakPatternsOrdered_int64.r7 (.seq (.seq A_slices_breakPatternsOrdered_int64.r8 (.cond (.t 43) A_slices_breakPatternsOrdered_int64.r9 .skip)) A_slices_breakPatternsOrdered_int64.r10))) A_slices_breakPatternsOrdered_int64.r6))
def A_slices_breakPatternsOrdered_int64 : AFunc := ⟨[], (.seq A_slices_breakPatternsOrdered_int64.r0 (.seq A_slices_breakPatternsOrdered_int64.r1 (.cond (.t 15) (.seq A_slices_breakPatternsOrdered_int64.r2 (.seq A_slices_breakPatternsOrdered_int64.r3 (.seq A_slices_breakPatternsOrdered_int64.r4 (.block 0 (.loop A_slices_breakPatternsOrdered_int64.l0))))) .skip)))⟩
/-! slices_choosePivotOrdered_int64 -/
def A_slices_choosePivotOrdered_int64.r0 : ACode := (.region none [⟨some 6, .move (.c (.int .i64 0)), none⟩,
    ⟨some 7, .move (.c (.int .i64 0)), none⟩])
def A_slices_choosePivotOrdered_int64.r1 : ACode := (.region none [⟨some 13, .move (.t 2), none⟩,
    ⟨some 14, .move (.t 1), none⟩,
    ⟨some 15, .bin .sub (.t 13) (.t 14), none⟩,
    ⟨some 8, .move (.t 15), none⟩])
def A_slices_choosePivotOrdered_int64.r2 : ACode := (.region none [⟨some 9, .alloc [.int .i64 0], none⟩])
def A_slices_choosePivotOrdered_int64.r3 : ACode := (.region none [⟨some 16, .move (.t 1), none⟩,
    ⟨some 17, .move (.t 8), none⟩,
    ⟨some 18, .bin .quo (.t 17) (.c (.int .i64 4)), none⟩,
    ⟨some 19, .bin .mul (.t 18) (.c (.int .i64 1)), none⟩,
    ⟨some 20, .bin .add (.t 16) (.t 19), none⟩,
    ⟨some 10, .move (.t 20), none⟩])
def A_slices_choosePivotOrdered_int64.r4 : ACode := (.region none [⟨some 21, .move (.t 1), none⟩,
    ⟨some 22, .move (.t 8), none⟩,
    ⟨some 23, .bin .quo (.t 22) (.c (.int .i64 4)), none⟩,
    ⟨some 24, .bin .mul (.t 23) (.c (.int .i64 2)), none⟩,
    ⟨some 25, .bin .add (.t 21) (.t 24), none⟩,
    ⟨some 11, .move (.t 25), none⟩])
def A_slices_choosePivotOrdered_int64.r5 : ACode := (.region none [⟨some 26, .move (.t 1), none⟩,
    ⟨some 27, .move (.t 8), none⟩,
    ⟨some 28, .bin .quo (.t 27) (.c (.int .i64 4)), none⟩,
    ⟨some 29, .bin .mul (.t 28) (.c (.int .i64 3)), none⟩,
    ⟨some 30, .bin .add (.t 26) (.t 29), none⟩,
    ⟨some 12, .move (.t 30), none⟩])
def A_slices_choosePivotOrdered_int64.r6 : ACode := (.region none [⟨some 31, .move (.t 8), none⟩,
    ⟨some 32, .bin .geq (.t 31) (.c (.int .i64 8)), none⟩])
def A_slices_choosePivotOrdered_int64.r7 : ACode := (.region none [⟨some 33, .move (.t 8), none⟩,
    ⟨some 34, .bin .geq (.t 33) (.c (.int .i64 50)), none⟩])
def A_slices_choosePivotOrdered_int64.r8 : ACode := (.region none [⟨some 35, .move (.t 0), none⟩,
    ⟨some 36, .move (.t 10), none⟩,
    ⟨some 37, .call 242 [(.t 35), (.t 36), (.t 9)], none⟩,
    ⟨some 10, .move (.t 37), none⟩])
def A_slices_choosePivotOrdered_int64.r9 : ACode := (.region none [⟨some 38, .move (.t 0), none⟩,
    ⟨some 39, .move (.t 11), none⟩,
    ⟨some 40, .call 242 [(.t 38), (.t 39), (.t 9)], none⟩,
    ⟨some 11, .move (.t 40), none⟩])
def A_slices_choosePivotOrdered_int64.r10 : ACode := (.region none [⟨some 41, .move (.t 0), none⟩,
    ⟨some 42, .move (.t 12), none⟩,
    ⟨some 43, .call 242 [(.t 41), (.t 42), (.t 9)], none⟩,
    ⟨some 12, .move (.t 43), none⟩])
def A_slices_choosePivotOrdered_int64.r11 : ACode := (.region none [⟨some 44, .move (.t 0), none⟩,
    ⟨some 45, .move (.t 10), none⟩,
    ⟨some 46, .move (.t 11), none⟩,
    ⟨some 47, .move (.t 12), none⟩,
    ⟨some 48, .call 243 [(.t 44), (.t 45), (.t 46), (.t 47), (.t 9)], none⟩,
    ⟨some 11, .move (.t 48), none⟩])
def A_slices_choosePivotOrdered_int64.r12 : ACode := (.region none [⟨some 49, .load none (.t 9), none⟩])
def A_slices_choosePivotOrdered_int64.r14 : ACode := (.region none [⟨some 52, .bin .eql (.t 49) (.c (.int .i64 0)), none⟩,
    ⟨some 51, .move (.t 52), none⟩])
def A_slices_choosePivotOrdered_int64.r15 : ACode := (.region none [⟨some 53, .move (.t 11), none⟩,
    ⟨some 6, .move (.t 53), none⟩,
    ⟨some 7, .move (.c (.int .i64 1)), none⟩])
def A_slices_choosePivotOrdered_int64.r16 : ACode := (.region none [⟨some 55, .bin .eql (.t 49) (.c (.int .i64 12)), none⟩,
    ⟨some 54, .move (.t 55), none⟩])
def A_slices_choosePivotOrdered_int64.r17 : ACode := (.region none [⟨some 56, .move (.t 11), none⟩,
    ⟨some 6, .move (.t 56), none⟩,
    ⟨some 7, .move (.c (.int .i64 2)), none⟩])
def A_slices_choosePivotOrdered_int64.r13 : ACode := (.region none [⟨some 50, .move (.t 11), none⟩,
    ⟨some 6, .move (.t 50), none⟩,
    ⟨some 7, .move (.c (.int .i64 0)), none⟩])
def A_slices_choosePivotOrdered_int64 : AFunc := ⟨[.tmp 6, .tmp 7], (.seq A_slices_choosePivotOrdered_int64.r0 (.seq A_slices_choosePivotOrdered_int64.r1 (.seq A_slices_choosePivotOrdered_int64.r2 (.seq A_slices_choosePivotOrdered_int64.r3 (.seq A_slices_choosePivotOrdered_int64.r4 (.seq A_slices_choosePivotOrdered_int64.r5 (.seq (.seq A_slices_choosePivotOrdered_int64.r6 (.cond (.t 32) (.seq (.seq A_slices_choosePivotOrdered_int64.r7 (.cond (.t 34) (.seq A_slices_choosePivotOrdered_int64.r8 (.seq A_slices_choosePivotOrdered_int64.r9 A_slices_choosePivotOrdered_int64.r10)) .skip)) A_slices_choosePivotOrdered_int64.r11) .skip)) (.seq A_slices_choosePivotOrdered_int64.r12 (.block 0 (.seq A_slices_choosePivotOrdered_int64.r14 (.cond (.t 51) (.seq A_slices_choosePivotOrdered_int64.r15 .ret) (.seq A_slices_choosePivotOrdered_int64.r16 (.cond (.t 54) (.seq A_slices_choosePivotOrdered_int64.r17 .ret) (.seq A_slices_choosePivotOrdered_int64.r13 .ret))))))))))))))⟩
/-! slices_reverseRangeOrdered_int64 -/
def A_slices_reverseRangeOrdered_int64.r0 : ACode := (.region none [⟨some 8, .move (.t 1), none⟩,
    ⟨some 6, .move (.t 8), none⟩])
def A_slices_reverseRangeOrdered_int64.r1 : ACode := (.region none [⟨some 9, .move (.t 2), none⟩,
    ⟨some 10, .bin .sub (.t 9) (.c (.int .i64 1)), none⟩,
    ⟨some 7, .move (.t 10), none⟩])
def A_slices_reverseRangeOrdered_int64.r2 : ACode := (.region none [⟨some 11, .move (.t 6), none⟩,
    ⟨some 12, .move (.t 7), none⟩,
    ⟨some 13, .bin .lss (.t 11) (.t 12), none⟩])
def A_slices_reverseRangeOrdered_int64.r3 : ACode := (.region (some 13) [⟨some 14, .move (.t 0), none⟩,
    ⟨some 15, .move (.t 6), none⟩,
    ⟨some 16, .move (.t 0), none⟩,
    ⟨some 17, .move (.t 7), none⟩,
    ⟨some 18, .move (.t 0), none⟩,
    ⟨some 19, .move (.t 7), none⟩,
    ⟨some 20, .indexAddr none 1 (.t 18) (.t 19), none⟩,
    ⟨some 21, .load none (.t 20), none⟩,
    ⟨some 22, .move (.t 0), none⟩,
    ⟨some 23, .move (.t 6), none⟩,
    ⟨some 24, .indexAddr none 1 (.t 22) (.t 23), none⟩,
    ⟨some 25, .load none (.t 24), none⟩,
    ⟨some 26, .indexAddr none 1 (.t 14) (.t 15), none⟩,
    ⟨none, .storeF 1 (.t 26) (.t 21) [], none⟩,
    ⟨some 27, .indexAddr none 1 (.t 16) (.t 17), none⟩,
    ⟨none, .store 1 (.t 27) (.t 25), none⟩])
def A_slices_reverseRangeOrdered_int64.r4 : ACode := (.region none [⟨some 28, .move (.t 6), none⟩,
    ⟨some 29, .bin .add (.t 28) (.c (.int .i64 1)), none⟩,
    ⟨some 6, .move (.t 29), none⟩])
def A_slices_reverseRangeOrdered_int64.r5 : ACode := (.region none [⟨some 30, .move (.t 7), none⟩,
    ⟨some 31, .bin .sub (.t 30) (.c (.int .i64 1)), none⟩,
    ⟨some 7, .move (.t 31), none⟩])
def A_slices_reverseRangeOrdered_int64.l0 : ACode := (.seq (.seq A_slices_reverseRangeOrdered_int64.r2 (.cond (.t 13) .skip (.exit 0))) (.block 1 (.seq A_slices_reverseRangeOrdered_int64.r3 (.seq A_slices_reverseRangeOrdered_int64.r4 A_slices_reverseRangeOrdered_int64.r5))))
def A_slices_reverseRangeOrdered_int64 : AFunc := ⟨[], (.seq A_slices_reverseRangeOrdered_int64.r0 (.seq A_slices_reverseRangeOrdered_int64.r1 (.block 0 (.loop A_slices_reverseRangeOrdered_int64.l0))))⟩
/-! slices_partialInsertionSortOrdered_int64 -/
def A_slices_partialInsertionSortOrdered_int64.r0 : ACode := (.region none [⟨some 6, .move (.c (.bool false)), none⟩])
def A_slices_partialInsertionSortOrdered_int64.r1 : ACode := (.region none [⟨some 11, .move (.t 1), none⟩,
    ⟨some 12, .bin .add (.t 11) (.c (.int .i64 1)), none⟩,
    ⟨some 7, .move (.t 12), none⟩])
def A_slices_partialInsertionSortOrdered_int64.r2 : ACode := (.region none [⟨some 8, .move (.c (.int .i64 0)), none⟩])
def A_slices_partialInsertionSortOrdered_int64.r3 : ACode := (.region none [⟨some 13, .move (.t 8), none⟩,
    ⟨some 14, .bin .lss (.t 13) (.c (.int .i64 5)), none⟩])
def A_slices_partialInsertionSortOrdered_int64.r5 : ACode := (.region (some 16) [⟨some 17, .move (.t 7), none⟩,
    ⟨some 18, .move (.t 2), none⟩,
    ⟨some 19, .bin .lss (.t 17) (.t 18), none⟩,
    ⟨some 20, .move (.t 19), none⟩,
    ⟨some 21, .move (.t 0), some (20, true)⟩,
    ⟨some 22, .move (.t 7), some (20, true)⟩,
    ⟨some 23, .indexAddr none 1 (.t 21) (.t 22), some (20, true)⟩,
    ⟨some 24, .load none (.t 23), some (20, true)⟩,
    ⟨some 25, .move (.t 0), some (20, true)⟩,
    ⟨some 26, .move (.t 7), some (20, true)⟩,
    ⟨some 27, .bin .sub (.t 26) (.c (.int .i64 1)), some (20, true)⟩,
    ⟨some 28, .indexAddr none 1 (.t 25) (.t 27), some (20, true)⟩,
    ⟨some 29, .load none (.t 28), some (20, true)⟩,
    ⟨some 30, .call 235 [(.t 24), (.t 29)], some (20, true)⟩,
    ⟨some 31, .not (.t 30), some (20, true)⟩,
    ⟨some 32, .pick (.t 20) (.t 31) (.c (.bool false)), none⟩])
def A_slices_partialInsertionSortOrdered_int64.r6 : ACode := (.region none [⟨some 33, .move (.t 7), none⟩,
    ⟨some 34, .bin .add (.t 33) (.c (.int .i64 1)), none⟩,
    ⟨some 7, .move (.t 34), none⟩])
def A_slices_partialInsertionSortOrdered_int64.l0 : ACode := (.seq (.seq A_slices_partialInsertionSortOrdered_int64.r5 (.cond (.t 32) .skip (.exit 2))) (.block 3 A_slices_partialInsertionSortOrdered_int64.r6))
def A_slices_partialInsertionSortOrdered_int64.r7 : ACode := (.region none [⟨some 35, .move (.t 7), none⟩,
    ⟨some 36, .move (.t 2), none⟩,
    ⟨some 37, .bin .eql (.t 35) (.t 36), none⟩])
def A_slices_partialInsertionSortOrdered_int64.r8 : ACode := (.region none [⟨some 6, .move (.c (.bool true)), none⟩])
def A_slices_partialInsertionSortOrdered_int64.r9 : ACode := (.region none [⟨some 38, .move (.t 2), none⟩,
    ⟨some 39, .move (.t 1), none⟩,
    ⟨some 40, .bin .sub (.t 38) (.t 39), none⟩,
    ⟨some 41, .bin .lss (.t 40) (.c (.int .i64 50)), none⟩])
def A_slices_partialInsertionSortOrdered_int64.r10 : ACode := (.region none [⟨some 6, .move (.c (.bool false)), none⟩])
def A_slices_partialInsertionSortOrdered_int64.r11 : ACode := (.region (some 15) [⟨some 42, .move (.t 0), none⟩,
    ⟨some 43, .move (.t 7), none⟩,
    ⟨some 44, .move (.t 0), none⟩,
    ⟨some 45, .move (.t 7), none⟩,
    ⟨some 46, .bin .sub (.t 45) (.c (.int .i64 1)), none⟩,
    ⟨some 47, .move (.t 0), none⟩,
    ⟨some 48, .move (.t 7), none⟩,
    ⟨some 49, .bin .sub (.t 48) (.c (.int .i64 1)), none⟩,
    ⟨some 50, .indexAddr none 1 (.t 47) (.t 49), none⟩,
    ⟨some 51, .load none (.t 50), none⟩,
    ⟨some 52, .move (.t 0), none⟩,
    ⟨some 53, .move (.t 7), none⟩,
    ⟨some 54, .indexAddr none 1 (.t 52) (.t 53), none⟩,
    ⟨some 55, .load none (.t 54), none⟩,
    ⟨some 56, .indexAddr none 1 (.t 42) (.t 43), none⟩,
    ⟨none, .storeF 1 (.t 56) (.t 51) [], none⟩,
    ⟨some 57, .indexAddr none 1 (.t 44) (.t 46), none⟩,
    ⟨none, .store 1 (.t 57) (.t 55), none⟩])
def A_slices_partialInsertionSortOrdered_int64.r12 : ACode := (.region none [⟨some 58, .move (.t 7), none⟩,
    ⟨some 59, .move (.t 1), none⟩,
    ⟨some 60, .bin .sub (.t 58) (.t 59), none⟩,
    ⟨some 61, .bin .geq (.t 60) (.c (.int .i64 2)), none⟩])
def A_slices_partialInsertionSortOrdered_int64.r13 : ACode := (.region none [⟨some 62, .move (.t 7), none⟩,
    ⟨some 63, .bin .sub (.t 62) (.c (.int .i64 1)), none⟩,
    ⟨some 9, .move (.t 63), none⟩])
def A_slices_partialInsertionSortOrdered_int64.r14 : ACode := (.region none [⟨some 64, .move (.t 9), none⟩,
    ⟨some 65, .bin .geq (.t 64) (.c (.int .i64 1)), none⟩])
def A_slices_partialInsertionSortOrdered_int64.r16 : ACode := (.region (some 11) [⟨some 68, .move (.t 0), none⟩,
    ⟨some 69, .move (.t 9), none⟩,
    ⟨some 70, .indexAddr none 1 (.t 68) (.t 69), none⟩,
    ⟨some 71, .load none (.t 70), none⟩,
    ⟨some 72, .move (.t 0), none⟩,
    ⟨some 73, .move (.t 9), none⟩,
    ⟨some 74, .bin .sub (.t 73) (.c (.int .i64 1)), none⟩,
    ⟨some 75, .indexAddr none 1 (.t 72) (.t 74), none⟩,
    ⟨some 76, .load none (.t 75), none⟩,
    ⟨some 77, .call 235 [(.t 71), (.t 76)], none⟩,
    ⟨some 78, .not (.t 77), none⟩])
def A_slices_partialInsertionSortOrdered_int64.r17 : ACode := (.region (some 15) [⟨some 79, .move (.t 0), none⟩,
    ⟨some 80, .move (.t 9), none⟩,
    ⟨some 81, .move (.t 0), none⟩,
    ⟨some 82, .move (.t 9), none⟩,
    ⟨some 83, .bin .sub (.t 82) (.c (.int .i64 1)), none⟩,
    ⟨some 84, .move (.t 0), none⟩,
    ⟨some 85, .move (.t 9), none⟩,
    ⟨some 86, .bin .sub (.t 85) (.c (.int .i64 1)), none⟩,
    ⟨some 87, .indexAddr none 1 (.t 84) (.t 86), none⟩,
    ⟨some 88, .load none (.t 87), none⟩,
    ⟨some 89, .move (.t 0), none⟩,
    ⟨some 90, .move (.t 9), none⟩,
    ⟨some 91, .indexAddr none 1 (.t 89) (.t 90), none⟩,
    ⟨some 92, .load none (.t 91), none⟩,
    ⟨some 93, .indexAddr none 1 (.t 79) (.t 80), none⟩,
    ⟨none, .storeF 1 (.t 93) (.t 88) [], none⟩,
    ⟨some 94, .indexAddr none 1 (.t 81) (.t 83), none⟩,
    ⟨none, .store 1 (.t 94) (.t 92), none⟩])
def A_slices_partialInsertionSortOrdered_int64.r15 : ACode := (.region none [⟨some 66, .move (.t 9), none⟩,
    ⟨some 67, .bin .sub (.t 66) (.c (.int .i64 1)), none⟩,
    ⟨some 9, .move (.t 67), none⟩])
def A_slices_partialInsertionSortOrdered_int64.l1 : ACode := (.seq (.seq A_slices_partialInsertionSortOrdered_int64.r14 (.cond (.t 65) .skip (.exit 4))) (.seq (.block 5 (.seq (.seq A_slices_partialInsertionSortOrdered_int64.r16 (.cond (.t 78) (.exit 4) .skip)) A_slices_partialInsertionSortOrdered_int64.r17)) A_slices_partialInsertionSortOrdered_int64.r15))
def A_slices_partialInsertionSortOrdered_int64.r18 : ACode := (.region none [⟨some 95, .move (.t 2), none⟩,
    ⟨some 96, .move (.t 7), none⟩,
    ⟨some 97, .bin .sub (.t 95) (.t 96), none⟩,
    ⟨some 98, .bin .geq (.t 97) (.c (.int .i64 2)), none⟩])
def A_slices_partialInsertionSortOrdered_int64.r19 : ACode := (.region none [⟨some 99, .move (.t 7), none⟩,
    ⟨some 100, .bin .add (.t 99) (.c (.int .i64 1)), none⟩,
    ⟨some 10, .move (.t 100), none⟩])
def A_slices_partialInsertionSortOrdered_int64.r20 : ACode := (.region none [⟨some 101, .move (.t 10), none⟩,
    ⟨some 102, .move (.t 2), none⟩,
    ⟨some 103, .bin .lss (.t 101) (.t 102), none⟩])
def A_slices_partialInsertionSortOrdered_int64.r22 : ACode := (.region (some 11) [⟨some 106, .move (.t 0), none⟩,
    ⟨some 107, .move (.t 10), none⟩,
    ⟨some 108, .indexAddr none 1 (.t 106) (.t 107), none⟩,
    ⟨some 109, .load none (.t 108), none⟩,
    ⟨some 110, .move (.t 0), none⟩,
    ⟨some 111, .move (.t 10), none⟩,
    ⟨some 112, .bin .sub (.t 111) (.c (.int .i64 1)), none⟩,
    ⟨some 113, .indexAddr none 1 (.t 110) (.t 112), none⟩,
    ⟨some 114, .load none (.t 113), none⟩,
    ⟨some 115, .call 235 [(.t 109), (.t 114)], none⟩,
    ⟨some 116, .not (.t 115), none⟩])
def A_slices_partialInsertionSortOrdered_int64.r23 : ACode := (.region (some 15) [⟨some 117, .move (.t 0), none⟩,
    ⟨some 118, .move (.t 10), none⟩,
    ⟨some 119, .move (.t 0), none⟩,
    ⟨some 120, .move (.t 10), none⟩,
    ⟨some 121, .bin .sub (.t 120) (.c (.int .i64 1)), none⟩,
    ⟨some 122, .move (.t 0), none⟩,
    ⟨some 123, .move (.t 10), none⟩,
    ⟨some 124, .bin .sub (.t 123) (.c (.int .i64 1)), none⟩,
    ⟨some 125, .indexAddr none 1 (.t 122) (.t 124), none⟩,
    ⟨some 126, .load none (.t 125), none⟩,
    ⟨some 127, .move (.t 0), none⟩,
    ⟨some 128, .move (.t 10), none⟩,
    ⟨some 129, .indexAddr none 1 (.t 127) (.t 128), none⟩,
    ⟨some 130, .load none (.t 129), none⟩,
    ⟨some 131, .indexAddr none 1 (.t 117) (.t 118), none⟩,
    ⟨none, .storeF 1 (.t 131) (.t 126) [], none⟩,
    ⟨some 132, .indexAddr none 1 (.t 119) (.t 121), none⟩,
    ⟨none, .store 1 (.t 132) (.t 130), none⟩])
def A_slices_partialInsertionSortOrdered_int64.r21 : ACode := (.region none [⟨some 104, .move (.t 10), none⟩,
    ⟨some 105, .bin .add (.t 104) (.c (.int .i64 1)), none⟩,
    ⟨some 10, .move (.t 105), none⟩])
def A_slices_partialInsertionSortOrdered_int64.l2 : ACode := (.seq (.seq A_slices_partialInsertionSortOrdered_int64.r20 (.cond (.t 103) .skip (.exit 6))) (.seq (.block 7 (.seq (.seq A_slices_partialInsertionSortOrdered_int64.r22 (.cond (.t 116) (.exit 6) .skip)) A_slices_partialInsertionSortOrdered_int64.r23)) A_slices_partialInsertionSortOrdered_int64.r21))
def A_slices_partialInsertionSortOrdered_int64.r4 : ACode := (.region none [⟨some 15, .move (.t 8), none⟩,
    ⟨some 16, .bin .add (.t 15) (.c (.int .i64 1)), none⟩,
    ⟨some 8, .move (.t 16), none⟩])
def A_slices_partialInsertionSortOrdered_int64.l3 : ACode := (.seq (.seq A_slices_partialInsertionSortOrdered_int64.r3 (.cond (.t 14) .skip (.exit 0))) (.seq (.block 1 (.seq (.block 2 (.loop A_slices_partialInsertionSortOrdered_int64.l0)) (.seq (.seq A_slices_partialInsertionSortOrdered_int64.r7 (.cond (.t 37) (.seq A_slices_partialInsertionSortOrdered_int64.r8 .ret) .skip)) (.seq (.seq A_slices_partialInsertionSortOrdered_int64.r9 (.cond (.t 41) (.seq A_slices_partialInsertionSortOrdered_int64.r10 .ret) .skip)) (.seq A_slices_partialInsertionSortOrdered_int64.r11 (.seq (.seq A_slices_partialInsertionSortOrdered_int64.r12 (.cond (.t 61) (.seq A_slices_partialInsertionSortOrdered_int64.r13 (.block 4 (.loop A_slices_partialInsertionSortOrdered_int64.l1))) .skip)) (.seq A_slices_partialInsertionSortOrdered_int64.r18 (.cond (.t 98) (.seq A_slices_partialInsertionSortOrdered_int64.r19 (.block 6 (.loop A_slices_partialInsertionSortOrdered_int64.l2))) .skip)))))))) A_slices_partialInsertionSortOrdered_int64.r4))
def A_slices_partialInsertionSortOrdered_int64.r24 : ACode := (.region none [⟨some 6, .move (.c (.bool false)), none⟩])
def A_slices_partialInsertionSortOrdered_int64 : AFunc := ⟨[.tmp 6], (.seq A_slices_partialInsertionSortOrdered_int64.r0 (.seq A_slices_partialInsertionSortOrdered_int64.r1 (.seq (.seq A_slices_partialInsertionSortOrdered_int64.r2 (.block 0 (.loop A_slices_partialInsertionSortOrdered_int64.l3))) (.seq A_slices_partialInsertionSortOrdered_int64.r24 .ret))))⟩
/-! cmp_Less_int64 -/
def A_cmp_Less_int64.r0 : ACode := (.region none [⟨some 4, .move (.c (.bool false)), none⟩])
def A_cmp_Less_int64.r1 : ACode := (.region none [⟨some 5, .move (.t 0), none⟩,
    ⟨some 6, .call 247 [(.t 5)], none⟩,
    ⟨some 7, .move (.t 6), none⟩,
    ⟨some 8, .move (.t 1), some (7, true)⟩,
    ⟨some 9, .call 247 [(.t 8)], some (7, true)⟩,
    ⟨some 10, .not (.t 9), some (7, true)⟩,
    ⟨some 11, .pick (.t 7) (.t 10) (.c (.bool false)), none⟩,
    ⟨some 12, .move (.t 11), none⟩,
    ⟨some 13, .move (.t 0), some (12, false)⟩,
    ⟨some 14, .move (.t 1), some (12, false)⟩,
    ⟨some 15, .bin .lss (.t 13) (.t 14), some (12, false)⟩,
    ⟨some 16, .pick (.t 12) (.c (.bool true)) (.t 15), none⟩,
    ⟨some 4, .move (.t 16), none⟩])
def A_cmp_Less_int64 : AFunc := ⟨[.tmp 4], (.seq A_cmp_Less_int64.r0 (.seq A_cmp_Less_int64.r1 .ret))⟩
/-! slices_partitionEqualOrdered_int64 -/
def A_slices_partitionEqualOrdered_int64.r0 : ACode := (.region none [⟨some 8, .move (.c (.int .i64 0)), none⟩])
def A_slices_partitionEqualOrdered_int64.r1 : ACode := (.region (some 13) [⟨some 11, .move (.t 0), none⟩,
    ⟨some 12, .move (.t 1), none⟩,
    ⟨some 13, .move (.t 0), none⟩,
    ⟨some 14, .move (.t 3), none⟩,
    ⟨some 15, .move (.t 0), none⟩,
    ⟨some 16, .move (.t 3), none⟩,
    ⟨some 17, .indexAddr none 1 (.t 15) (.t 16), none⟩,
    ⟨some 18, .load none (.t 17), none⟩,
    ⟨some 19, .move (.t 0), none⟩,
    ⟨some 20, .move (.t 1), none⟩,
    ⟨some 21, .indexAddr none 1 (.t 19) (.t 20), none⟩,
    ⟨some 22, .load none (.t 21), none⟩,
    ⟨some 23, .indexAddr none 1 (.t 11) (.t 12), none⟩,
    ⟨none, .storeF 1 (.t 23) (.t 18) [], none⟩,
    ⟨some 24, .indexAddr none 1 (.t 13) (.t 14), none⟩,
    ⟨none, .store 1 (.t 24) (.t 22), none⟩])
def A_slices_partitionEqualOrdered_int64.r2 : ACode := (.region none [⟨some 25, .move (.t 1), none⟩,
    ⟨some 26, .bin .add (.t 25) (.c (.int .i64 1)), none⟩,
    ⟨some 27, .move (.t 2), none⟩,
    ⟨some 28, .bin .sub (.t 27) (.c (.int .i64 1)), none⟩,
    ⟨some 9, .move (.t 26), none⟩,
    ⟨some 10, .move (.t 28), none⟩])
def A_slices_partitionEqualOrdered_int64.r3 : ACode := (.region (some 15) [⟨some 29, .move (.t 9), none⟩,
    ⟨some 30, .move (.t 10), none⟩,
    ⟨some 31, .bin .leq (.t 29) (.t 30), none⟩,
    ⟨some 32, .move (.t 31), none⟩,
    ⟨some 33, .move (.t 0), some (32, true)⟩,
    ⟨some 34, .move (.t 1), some (32, true)⟩,
    ⟨some 35, .indexAddr none 1 (.t 33) (.t 34), some (32, true)⟩,
    ⟨some 36, .load none (.t 35), some (32, true)⟩,
    ⟨some 37, .move (.t 0), some (32, true)⟩,
    ⟨some 38, .move (.t 9), some (32, true)⟩,
    ⟨some 39, .indexAddr none 1 (.t 37) (.t 38), some (32, true)⟩,
    ⟨some 40, .load none (.t 39), some (32, true)⟩,
    ⟨some 41, .call 235 [(.t 36), (.t 40)], some (32, true)⟩,
    ⟨some 42, .not (.t 41), some (32, true)⟩,
    ⟨some 43, .pick (.t 32) (.t 42) (.c (.bool false)), none⟩])
def A_slices_partitionEqualOrdered_int64.r4 : ACode := (.region none [⟨some 44, .move (.t 9), none⟩,
    ⟨some 45, .bin .add (.t 44) (.c (.int .i64 1)), none⟩,
    ⟨some 9, .move (.t 45), none⟩])
def A_slices_partitionEqualOrdered_int64.l0 : ACode := (.seq (.seq A_slices_partitionEqualOrdered_int64.r3 (.cond (.t 43) .skip (.exit 2))) (.block 3 A_slices_partitionEqualOrdered_int64.r4))
def A_slices_partitionEqualOrdered_int64.r5 : ACode := (.region (some 14) [⟨some 46, .move (.t 9), none⟩,
    ⟨some 47, .move (.t 10), none⟩,
    ⟨some 48, .bin .leq (.t 46) (.t 47), none⟩,
    ⟨some 49, .move (.t 48), none⟩,
    ⟨some 50, .move (.t 0), some (49, true)⟩,
    ⟨some 51, .move (.t 1), some (49, true)⟩,
    ⟨some 52, .indexAddr none 1 (.t 50) (.t 51), some (49, true)⟩,
    ⟨some 53, .load none (.t 52), some (49, true)⟩,
    ⟨some 54, .move (.t 0), some (49, true)⟩,
    ⟨some 55, .move (.t 10), some (49, true)⟩,
    ⟨some 56, .indexAddr none 1 (.t 54) (.t 55), some (49, true)⟩,
    ⟨some 57, .load none (.t 56), some (49, true)⟩,
    ⟨some 58, .call 235 [(.t 53), (.t 57)], some (49, true)⟩,
    ⟨some 59, .pick (.t 49) (.t 58) (.c (.bool false)), none⟩])
def A_slices_partitionEqualOrdered_int64.r6 : ACode := (.region none [⟨some 60, .move (.t 10), none⟩,
    ⟨some 61, .bin .sub (.t 60) (.c (.int .i64 1)), none⟩,
    ⟨some 10, .move (.t 61), none⟩])
def A_slices_partitionEqualOrdered_int64.l1 : ACode := (.seq (.seq A_slices_partitionEqualOrdered_int64.r5 (.cond (.t 59) .skip (.exit 4))) (.block 5 A_slices_partitionEqualOrdered_int64.r6))
def A_slices_partitionEqualOrdered_int64.r7 : ACode := (.region none [⟨some 62, .move (.t 9), none⟩,
    ⟨some 63, .move (.t 10), none⟩,
    ⟨some 64, .bin .gtr (.t 62) (.t 63), none⟩])
def A_slices_partitionEqualOrdered_int64.r8 : ACode := (.region (some 13) [⟨some 65, .move (.t 0), none⟩,
    ⟨some 66, .move (.t 9), none⟩,
    ⟨some 67, .move (.t 0), none⟩,
    ⟨some 68, .move (.t 10), none⟩,
    ⟨some 69, .move (.t 0), none⟩,
    ⟨some 70, .move (.t 10), none⟩,
    ⟨some 71, .indexAddr none 1 (.t 69) (.t 70), none⟩,
    ⟨some 72, .load none (.t 71), none⟩,
    ⟨some 73, .move (.t 0), none⟩,
    ⟨some 74, .move (.t 9), none⟩,
    ⟨some 75, .indexAddr none 1 (.t 73) (.t 74), none⟩,
    ⟨some 76, .load none (.t 75), none⟩,
    ⟨some 77, .indexAddr none 1 (.t 65) (.t 66), none⟩,
    ⟨none, .storeF 1 (.t 77) (.t 72) [], none⟩,
    ⟨some 78, .indexAddr none 1 (.t 67) (.t 68), none⟩,
    ⟨none, .store 1 (.t 78) (.t 76), none⟩])
def A_slices_partitionEqualOrdered_int64.r9 : ACode := (.region none [⟨some 79, .move (.t 9), none⟩,
    ⟨some 80, .bin .add (.t 79) (.c (.int .i64 1)), none⟩,
    ⟨some 9, .move (.t 80), none⟩])
def A_slices_partitionEqualOrdered_int64.r10 : ACode := (.region none [⟨some 81, .move (.t 10), none⟩,
    ⟨some 82, .bin .sub (.t 81) (.c (.int .i64 1)), none⟩,
    ⟨some 10, .move (.t 82), none⟩])
def A_slices_partitionEqualOrdered_int64.l2 : ACode := (.block 1 (.seq (.block 2 (.loop A_slices_partitionEqualOrdered_int64.l0)) (.seq (.block 4 (.loop A_slices_partitionEqualOrdered_int64.l1)) (.seq (.seq A_slices_partitionEqualOrdered_int64.r7 (.cond (.t 64) (.exit 0) .skip)) (.seq A_slices_partitionEqualOrdered_int64.r8 (.seq A_slices_partitionEqualOrdered_int64.r9 A_slices_partitionEqualOrdered_int64.r10))))))
def A_slices_partitionEqualOrdered_int64.r11 : ACode := (.region none [⟨some 83, .move (.t 9), none⟩,
    ⟨some 8, .move (.t 83), none⟩])
def A_slices_partitionEqualOrdered_int64 : AFunc := ⟨[.tmp 8], (.seq A_slices_partitionEqualOrdered_int64.r0 (.seq A_slices_partitionEqualOrdered_int64.r1 (.seq A_slices_partitionEqualOrdered_int64.r2 (.seq (.block 0 (.loop A_slices_partitionEqualOrdered_int64.l2)) (.seq A_slices_partitionEqualOrdered_int64.r11 .ret)))))⟩
/-! slices_partitionOrdered_int64 -/
def A_slices_partitionOrdered_int64.r0 : ACode := (.region none [⟨some 8, .move (.c (.int .i64 0)), none⟩,
    ⟨some 9, .move (.c (.bool false)), none⟩])
def A_slices_partitionOrdered_int64.r1 : ACode := (.region (some 13) [⟨some 12, .move (.t 0), none⟩,
    ⟨some 13, .move (.t 1), none⟩,
    ⟨some 14, .move (.t 0), none⟩,
    ⟨some 15, .move (.t 3), none⟩,
    ⟨some 16, .move (.t 0), none⟩,
    ⟨some 17, .move (.t 3), none⟩,
    ⟨some 18, .indexAddr none 1 (.t 16) (.t 17), none⟩,
    ⟨some 19, .load none (.t 18), none⟩,
    ⟨some 20, .move (.t 0), none⟩,
    ⟨some 21, .move (.t 1), none⟩,
    ⟨some 22, .indexAddr none 1 (.t 20) (.t 21), none⟩,
    ⟨some 23, .load none (.t 22), none⟩,
    ⟨some 24, .indexAddr none 1 (.t 12) (.t 13), none⟩,
    ⟨none, .storeF 1 (.t 24) (.t 19) [], none⟩,
    ⟨some 25, .indexAddr none 1 (.t 14) (.t 15), none⟩,
    ⟨none, .store 1 (.t 25) (.t 23), none⟩])
def A_slices_partitionOrdered_int64.r2 : ACode := (.region none [⟨some 26, .move (.t 1), none⟩,
    ⟨some 27, .bin .add (.t 26) (.c (.int .i64 1)), none⟩,
    ⟨some 28, .move (.t 2), none⟩,
    ⟨some 29, .bin .sub (.t 28) (.c (.int .i64 1)), none⟩,
    ⟨some 10, .move (.t 27), none⟩,
    ⟨some 11, .move (.t 29), none⟩])
def A_slices_partitionOrdered_int64.r3 : ACode := (.region (some 14) [⟨some 30, .move (.t 10), none⟩,
    ⟨some 31, .move (.t 11), none⟩,
    ⟨some 32, .bin .leq (.t 30) (.t 31), none⟩,
    ⟨some 33, .move (.t 32), none⟩,
    ⟨some 34, .move (.t 0), some (33, true)⟩,
    ⟨some 35, .move (.t 10), some (33, true)⟩,
    ⟨some 36, .indexAddr none 1 (.t 34) (.t 35), some (33, true)⟩,
    ⟨some 37, .load none (.t 36), some (33, true)⟩,
    ⟨some 38, .move (.t 0), some (33, true)⟩,
    ⟨some 39, .move (.t 1), some (33, true)⟩,
    ⟨some 40, .indexAddr none 1 (.t 38) (.t 39), some (33, true)⟩,
    ⟨some 41, .load none (.t 40), some (33, true)⟩,
    ⟨some 42, .call 235 [(.t 37), (.t 41)], some (33, true)⟩,
    ⟨some 43, .pick (.t 33) (.t 42) (.c (.bool false)), none⟩])
def A_slices_partitionOrdered_int64.r4 : ACode := (.region none [⟨some 44, .move (.t 10), none⟩,
    ⟨some 45, .bin .add (.t 44) (.c (.int .i64 1)), none⟩,
    ⟨some 10, .move (.t 45), none⟩])
def A_slices_partitionOrdered_int64.l0 : ACode := (.seq (.seq A_slices_partitionOrdered_int64.r3 (.cond (.t 43) .skip (.exit 0))) (.block 1 A_slices_partitionOrdered_int64.r4))
def A_slices_partitionOrdered_int64.r5 : ACode := (.region (some 15) [⟨some 46, .move (.t 10), none⟩,
    ⟨some 47, .move (.t 11), none⟩,
    ⟨some 48, .bin .leq (.t 46) (.t 47), none⟩,
    ⟨some 49, .move (.t 48), none⟩,
    ⟨some 50, .move (.t 0), some (49, true)⟩,
    ⟨some 51, .move (.t 11), some (49, true)⟩,
    ⟨some 52, .indexAddr none 1 (.t 50) (.t 51), some (49, true)⟩,
    ⟨some 53, .load none (.t 52), some (49, true)⟩,
    ⟨some 54, .move (.t 0), some (49, true)⟩,
    ⟨some 55, .move (.t 1), some (49, true)⟩,
    ⟨some 56, .indexAddr none 1 (.t 54) (.t 55), some (49, true)⟩,
    ⟨some 57, .load none (.t 56), some (49, true)⟩,
    ⟨some 58, .call 235 [(.t 53), (.t 57)], some (49, true)⟩,
    ⟨some 59, .not (.t 58), some (49, true)⟩,
    ⟨some 60, .pick (.t 49) (.t 59) (.c (.bool false)), none⟩])
def A_slices_partitionOrdered_int64.r6 : ACode := (.region none [⟨some 61, .move (.t 11), none⟩,
    ⟨some 62, .bin .sub (.t 61) (.c (.int .i64 1)), none⟩,
    ⟨some 11, .move (.t 62), none⟩])
def A_slices_partitionOrdered_int64.l1 : ACode := (.seq (.seq A_slices_partitionOrdered_int64.r5 (.cond (.t 60) .skip (.exit 2))) (.block 3 A_slices_partitionOrdered_int64.r6))
def A_slices_partitionOrdered_int64.r7 : ACode := (.region none [⟨some 63, .move (.t 10), none⟩,
    ⟨some 64, .move (.t 11), none⟩,
    ⟨some 65, .bin .gtr (.t 63) (.t 64), none⟩])
def A_slices_partitionOrdered_int64.r8 : ACode := (.region (some 13) [⟨some 66, .move (.t 0), none⟩,
    ⟨some 67, .move (.t 11), none⟩,
    ⟨some 68, .move (.t 0), none⟩,
    ⟨some 69, .move (.t 1), none⟩,
    ⟨some 70, .move (.t 0), none⟩,
    ⟨some 71, .move (.t 1), none⟩,
    ⟨some 72, .indexAddr none 1 (.t 70) (.t 71), none⟩,
    ⟨some 73, .load none (.t 72), none⟩,
    ⟨some 74, .move (.t 0), none⟩,
    ⟨some 75, .move (.t 11), none⟩,
    ⟨some 76, .indexAddr none 1 (.t 74) (.t 75), none⟩,
    ⟨some 77, .load none (.t 76), none⟩,
    ⟨some 78, .indexAddr none 1 (.t 66) (.t 67), none⟩,
    ⟨none, .storeF 1 (.t 78) (.t 73) [], none⟩,
    ⟨some 79, .indexAddr none 1 (.t 68) (.t 69), none⟩,
    ⟨none, .store 1 (.t 79) (.t 77), none⟩])
def A_slices_partitionOrdered_int64.r9 : ACode := (.region none [⟨some 80, .move (.t 11), none⟩,
    ⟨some 8, .move (.t 80), none⟩,
    ⟨some 9, .move (.c (.bool true)), none⟩])
def A_slices_partitionOrdered_int64.r10 : ACode := (.region (some 13) [⟨some 81, .move (.t 0), none⟩,
    ⟨some 82, .move (.t 10), none⟩,
    ⟨some 83, .move (.t 0), none⟩,
    ⟨some 84, .move (.t 11), none⟩,
    ⟨some 85, .move (.t 0), none⟩,
    ⟨some 86, .move (.t 11), none⟩,
    ⟨some 87, .indexAddr none 1 (.t 85) (.t 86), none⟩,
    ⟨some 88, .load none (.t 87), none⟩,
    ⟨some 89, .move (.t 0), none⟩,
    ⟨some 90, .move (.t 10), none⟩,
    ⟨some 91, .indexAddr none 1 (.t 89) (.t 90), none⟩,
    ⟨some 92, .load none (.t 91), none⟩,
    ⟨some 93, .indexAddr none 1 (.t 81) (.t 82), none⟩,
    ⟨none, .storeF 1 (.t 93) (.t 88) [], none⟩,
    ⟨some 94, .indexAddr none 1 (.t 83) (.t 84), none⟩,
    ⟨none, .store 1 (.t 94) (.t 92), none⟩])
def A_slices_partitionOrdered_int64.r11 : ACode := (.region none [⟨some 95, .move (.t 10), none⟩,
    ⟨some 96, .bin .add (.t 95) (.c (.int .i64 1)), none⟩,
    ⟨some 10, .move (.t 96), none⟩])
def A_slices_partitionOrdered_int64.r12 : ACode := (.region none [⟨some 97, .move (.t 11), none⟩,
    ⟨some 98, .bin .sub (.t 97) (.c (.int .i64 1)), none⟩,
    ⟨some 11, .move (.t 98), none⟩])
def A_slices_partitionOrdered_int64.r13 : ACode := (.region (some 14) [⟨some 99, .move (.t 10), none⟩,
    ⟨some 100, .move (.t 11), none⟩,
    ⟨some 101, .bin .leq (.t 99) (.t 100), none⟩,
    ⟨some 102, .move (.t 101), none⟩,
    ⟨some 103, .move (.t 0), some (102, true)⟩,
    ⟨some 104, .move (.t 10), some (102, true)⟩,
    ⟨some 105, .indexAddr none 1 (.t 103) (.t 104), some (102, true)⟩,
    ⟨some 106, .load none (.t 105), some (102, true)⟩,
    ⟨some 107, .move (.t 0), some (102, true)⟩,
    ⟨some 108, .move (.t 1), some (102, true)⟩,
    ⟨some 109, .indexAddr none 1 (.t 107) (.t 108), some (102, true)⟩,
    ⟨some 110, .load none (.t 109), some (102, true)⟩,
    ⟨some 111, .call 235 [(.t 106), (.t 110)], some (102, true)⟩,
    ⟨some 112, .pick (.t 102) (.t 111) (.c (.bool false)), none⟩])
def A_slices_partitionOrdered_int64.r14 : ACode := (.region none [⟨some 113, .move (.t 10), none⟩,
    ⟨some 114, .bin .add (.t 113) (.c (.int .i64 1)), none⟩,
    ⟨some 10, .move (.t 114), none⟩])
def A_slices_partitionOrdered_int64.l2 : ACode := (.seq (.seq A_slices_partitionOrdered_int64.r13 (.cond (.t 112) .skip (.exit 6))) (.block 7 A_slices_partitionOrdered_int64.r14))
def A_slices_partitionOrdered_int64.r15 : ACode := (.region (some 15) [⟨some 115, .move (.t 10), none⟩,
    ⟨some 116, .move (.t 11), none⟩,
    ⟨some 117, .bin .leq (.t 115) (.t 116), none⟩,
    ⟨some 118, .move (.t 117), none⟩,
    ⟨some 119, .move (.t 0), some (118, true)⟩,
    ⟨some 120, .move (.t 11), some (118, true)⟩,
    ⟨some 121, .indexAddr none 1 (.t 119) (.t 120), some (118, true)⟩,
    ⟨some 122, .load none (.t 121), some (118, true)⟩,
    ⟨some 123, .move (.t 0), some (118, true)⟩,
    ⟨some 124, .move (.t 1), some (118, true)⟩,
    ⟨some 125, .indexAddr none 1 (.t 123) (.t 124), some (118, true)⟩,
    ⟨some 126, .load none (.t 125), some (118, true)⟩,
    ⟨some 127, .call 235 [(.t 122), (.t 126)], some (118, true)⟩,
    ⟨some 128, .not (.t 127), some (118, true)⟩,
    ⟨some 129, .pick (.t 118) (.t 128) (.c (.bool false)), none⟩])
def A_slices_partitionOrdered_int64.r16 : ACode := (.region none [⟨some 130, .move (.t 11), none⟩,
    ⟨some 131, .bin .sub (.t 130) (.c (.int .i64 1)), none⟩,
    ⟨some 11, .move (.t 131), none⟩])
def A_slices_partitionOrdered_int64.l3 : ACode := (.seq (.seq A_slices_partitionOrdered_int64.r15 (.cond (.t 129) .skip (.exit 8))) (.block 9 A_slices_partitionOrdered_int64.r16))
def A_slices_partitionOrdered_int64.r17 : ACode := (.region none [⟨some 132, .move (.t 10), none⟩,
    ⟨some 133, .move (.t 11), none⟩,
    ⟨some 134, .bin .gtr (.t 132) (.t 133), none⟩])
def A_slices_partitionOrdered_int64.r18 : ACode := (.region (some 13) [⟨some 135, .move (.t 0), none⟩,
    ⟨some 136, .move (.t 10), none⟩,
    ⟨some 137, .move (.t 0), none⟩,
    ⟨some 138, .move (.t 11), none⟩,
    ⟨some 139, .move (.t 0), none⟩,
    ⟨some 140, .move (.t 11), none⟩,
    ⟨some 141, .indexAddr none 1 (.t 139) (.t 140), none⟩,
    ⟨some 142, .load none (.t 141), none⟩,
    ⟨some 143, .move (.t 0), none⟩,
    ⟨some 144, .move (.t 10), none⟩,
    ⟨some 145, .indexAddr none 1 (.t 143) (.t 144), none⟩,
    ⟨some 146, .load none (.t 145), none⟩,
    ⟨some 147, .indexAddr none 1 (.t 135) (.t 136), none⟩,
    ⟨none, .storeF 1 (.t 147) (.t 142) [], none⟩,
    ⟨some 148, .indexAddr none 1 (.t 137) (.t 138), none⟩,
    ⟨none, .store 1 (.t 148) (.t 146), none⟩])
def A_slices_partitionOrdered_int64.r19 : ACode := (.region none [⟨some 149, .move (.t 10), none⟩,
    ⟨some 150, .bin .add (.t 149) (.c (.int .i64 1)), none⟩,
    ⟨some 10, .move (.t 150), none⟩])
def A_slices_partitionOrdered_int64.r20 : ACode := (.region none [⟨some 151, .move (.t 11), none⟩,
    ⟨some 152, .bin .sub (.t 151) (.c (.int .i64 1)), none⟩,
    ⟨some 11, .move (.t 152), none⟩])
def A_slices_partitionOrdered_int64.l4 : ACode := (.block 5 (.seq (.block 6 (.loop A_slices_partitionOrdered_int64.l2)) (.seq (.block 8 (.loop A_slices_partitionOrdered_int64.l3)) (.seq (.seq A_slices_partitionOrdered_int64.r17 (.cond (.t 134) (.exit 4) .skip)) (.seq A_slices_partitionOrdered_int64.r18 (.seq A_slices_partitionOrdered_int64.r19 A_slices_partitionOrdered_int64.r20))))))
def A_slices_partitionOrdered_int64.r21 : ACode := (.region (some 13) [⟨some 153, .move (.t 0), none⟩,
    ⟨some 154, .move (.t 11), none⟩,
    ⟨some 155, .move (.t 0), none⟩,
    ⟨some 156, .move (.t 1), none⟩,
    ⟨some 157, .move (.t 0), none⟩,
    ⟨some 158, .move (.t 1), none⟩,
    ⟨some 159, .indexAddr none 1 (.t 157) (.t 158), none⟩,
    ⟨some 160, .load none (.t 159), none⟩,
    ⟨some 161, .move (.t 0), none⟩,
    ⟨some 162, .move (.t 11), none⟩,
    ⟨some 163, .indexAddr none 1 (.t 161) (.t 162), none⟩,
    ⟨some 164, .load none (.t 163), none⟩,
    ⟨some 165, .indexAddr none 1 (.t 153) (.t 154), none⟩,
    ⟨none, .storeF 1 (.t 165) (.t 160) [], none⟩,
    ⟨some 166, .indexAddr none 1 (.t 155) (.t 156), none⟩,
    ⟨none, .store 1 (.t 166) (.t 164), none⟩])
def A_slices_partitionOrdered_int64.r22 : ACode := (.region none [⟨some 167, .move (.t 11), none⟩,
    ⟨some 8, .move (.t 167), none⟩,
    ⟨some 9, .move (.c (.bool false)), none⟩])
def A_slices_partitionOrdered_int64 : AFunc := ⟨[.tmp 8, .tmp 9], (.seq A_slices_partitionOrdered_int64.r0 (.seq A_slices_partitionOrdered_int64.r1 (.seq A_slices_partitionOrdered_int64.r2 (.seq (.block 0 (.loop A_slices_partitionOrdered_int64.l0)) (.seq (.block 2 (.loop A_slices_partitionOrdered_int64.l1)) (.seq (.seq A_slices_partitionOrdered_int64.r7 (.cond (.t 65) (.seq A_slices_partitionOrdered_int64.r8 (.seq A_slices_partitionOrdered_int64.r9 .ret)) .skip)) (.seq A_slices_partitionOrdered_int64.r10 (.seq A_slices_partitionOrdered_int64.r11 (.seq A_slices_partitionOrdered_int64.r12 (.seq (.block 4 (.loop A_slices_partitionOrdered_int64.l4)) (.seq A_slices_partitionOrdered_int64.r21 (.seq A_slices_partitionOrdered_int64.r22 .ret))))))))))))⟩
/-! slices_medianOrdered_int64 -/
def A_slices_medianOrdered_int64.r0 : ACode := (.region none [⟨some 10, .move (.c (.int .i64 0)), none⟩])
def A_slices_medianOrdered_int64.r1 : ACode := (.region none [⟨some 12, .move (.t 0), none⟩,
    ⟨some 13, .move (.t 1), none⟩,
    ⟨some 14, .move (.t 2), none⟩,
    ⟨some 15, .move (.t 4), none⟩,
    ⟨some 16, .call 246 [(.t 12), (.t 13), (.t 14), (.t 15)], none⟩,
    ⟨some 11, .move (.t 16), none⟩,
    ⟨some 17, .extract (.t 11) 0, none⟩,
    ⟨some 18, .extract (.t 11) 1, none⟩,
    ⟨some 1, .move (.t 17), none⟩,
    ⟨some 2, .move (.t 18), none⟩])
def A_slices_medianOrdered_int64.r2 : ACode := (.region none [⟨some 20, .move (.t 0), none⟩,
    ⟨some 21, .move (.t 2), none⟩,
    ⟨some 22, .move (.t 3), none⟩,
    ⟨some 23, .move (.t 4), none⟩,
    ⟨some 24, .call 246 [(.t 20), (.t 21), (.t 22), (.t 23)], none⟩,
    ⟨some 19, .move (.t 24), none⟩,
    ⟨some 25, .extract (.t 19) 0, none⟩,
    ⟨some 26, .extract (.t 19) 1, none⟩,
    ⟨some 2, .move (.t 25), none⟩,
    ⟨some 3, .move (.t 26), none⟩])
def A_slices_medianOrdered_int64.r3 : ACode := (.region none [⟨some 28, .move (.t 0), none⟩,
    ⟨some 29, .move (.t 1), none⟩,
    ⟨some 30, .move (.t 2), none⟩,
    ⟨some 31, .move (.t 4), none⟩,
    ⟨some 32, .call 246 [(.t 28), (.t 29), (.t 30), (.t 31)], none⟩,
    ⟨some 27, .move (.t 32), none⟩,
    ⟨some 33, .extract (.t 27) 0, none⟩,
    ⟨some 34, .extract (.t 27) 1, none⟩,
    ⟨some 1, .move (.t 33), none⟩,
    ⟨some 2, .move (.t 34), none⟩])
def A_slices_medianOrdered_int64.r4 : ACode := (.region none [⟨some 35, .move (.t 2), none⟩,
    ⟨some 10, .move (.t 35), none⟩])
def A_slices_medianOrdered_int64 : AFunc := ⟨[.tmp 10], (.seq A_slices_medianOrdered_int64.r0 (.seq A_slices_medianOrdered_int64.r1 (.seq A_slices_medianOrdered_int64.r2 (.seq A_slices_medianOrdered_int64.r3 (.seq A_slices_medianOrdered_int64.r4 .ret)))))⟩
/-! cmp_isNaN_int64 -/
def A_cmp_isNaN_int64.r0 : ACode := (.region none [⟨some 2, .move (.c (.bool false)), none⟩])
def A_cmp_isNaN_int64.r1 : ACode := (.region none [⟨some 3, .move (.t 0), none⟩,
    ⟨some 4, .move (.t 0), none⟩,
    ⟨some 5, .bin .neq (.t 3) (.t 4), none⟩,
    ⟨some 2, .move (.t 5), none⟩])
def A_cmp_isNaN_int64 : AFunc := ⟨[.tmp 2], (.seq A_cmp_isNaN_int64.r0 (.seq A_cmp_isNaN_int64.r1 .ret))⟩
/-! slices_order2Ordered_int64 -/
def A_slices_order2Ordered_int64.r0 : ACode := (.region none [⟨some 8, .move (.c (.int .i64 0)), none⟩,
    ⟨some 9, .move (.c (.int .i64 0)), none⟩])
def A_slices_order2Ordered_int64.r1 : ACode := (.region (some 9) [⟨some 10, .move (.t 0), none⟩,
    ⟨some 11, .move (.t 2), none⟩,
    ⟨some 12, .indexAddr none 1 (.t 10) (.t 11), none⟩,
    ⟨some 13, .load none (.t 12), none⟩,
    ⟨some 14, .move (.t 0), none⟩,
    ⟨some 15, .move (.t 1), none⟩,
    ⟨some 16, .indexAddr none 1 (.t 14) (.t 15), none⟩,
    ⟨some 17, .load none (.t 16), none⟩,
    ⟨some 18, .call 235 [(.t 13), (.t 17)], none⟩])
def A_slices_order2Ordered_int64.r2 : ACode := (.region none [⟨some 19, .move (.t 3), none⟩,
    ⟨some 20, .nilCheck (.t 19), none⟩,
    ⟨some 21, .load none (.t 20), none⟩,
    ⟨some 22, .bin .add (.t 21) (.c (.int .i64 1)), none⟩,
    ⟨some 23, .nilCheck (.t 19), none⟩,
    ⟨none, .store 1 (.t 23) (.t 22), none⟩])
def A_slices_order2Ordered_int64.r3 : ACode := (.region none [⟨some 24, .move (.t 2), none⟩,
    ⟨some 25, .move (.t 1), none⟩,
    ⟨some 8, .move (.t 24), none⟩,
    ⟨some 9, .move (.t 25), none⟩])
def A_slices_order2Ordered_int64.r4 : ACode := (.region none [⟨some 26, .move (.t 1), none⟩,
    ⟨some 27, .move (.t 2), none⟩,
    ⟨some 8, .move (.t 26), none⟩,
    ⟨some 9, .move (.t 27), none⟩])
def A_slices_order2Ordered_int64 : AFunc := ⟨[.tmp 8, .tmp 9], (.seq A_slices_order2Ordered_int64.r0 (.seq (.seq A_slices_order2Ordered_int64.r1 (.cond (.t 18) (.seq A_slices_order2Ordered_int64.r2 (.seq A_slices_order2Ordered_int64.r3 .ret)) .skip)) (.seq A_slices_order2Ordered_int64.r4 .ret)))⟩
end Go.Am
