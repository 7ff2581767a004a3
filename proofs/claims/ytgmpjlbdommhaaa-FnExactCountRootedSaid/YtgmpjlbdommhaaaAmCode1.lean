/- The code of the functions that the claim reaches, in the small machine's form: written by a program of mine, off the loaded program; the checks compare the two. -/
import Derived.Test.YtgmpjlbdommhaaaAmCode0
set_option linter.unusedVariables false
set_option maxRecDepth 100000
namespace Go.Am
open Go
/-! spec_l06Is -/
def A_spec_l06Is.r0 : ACode := (.region none [⟨some 2, .move (.c (.bool false)), none⟩])
def A_spec_l06Is.r1 : ACode := (.region none [⟨some 3, .move (.c (.int .i64 0)), none⟩])
def A_spec_l06Is.r2 : ACode := (.region none [⟨some 4, .move (.t 3), none⟩,
    ⟨some 5, .move (.t 0), none⟩,
    ⟨some 6, .len (.t 5), none⟩,
    ⟨some 7, .bin .lss (.t 4) (.t 6), none⟩])
def A_spec_l06Is.r4 : ACode := (.region none [⟨some 10, .move (.t 0), none⟩,
    ⟨some 11, .move (.t 3), none⟩,
    ⟨some 12, .indexAddr none 1 (.t 10) (.t 11), none⟩,
    ⟨some 13, .load none (.t 12), none⟩,
    ⟨some 14, .call 58 [(.t 13), (.c (.int .i64 0)), (.c (.int .i64 10006))], none⟩,
    ⟨some 15, .not (.t 14), none⟩])
def A_spec_l06Is.r5 : ACode := (.region none [⟨some 2, .move (.c (.bool false)), none⟩])
def A_spec_l06Is.r3 : ACode := (.region none [⟨some 8, .move (.t 3), none⟩,
    ⟨some 9, .bin .add (.t 8) (.c (.int .i64 1)), none⟩,
    ⟨some 3, .move (.t 9), none⟩])
def A_spec_l06Is.l0 : ACode := (.seq (.seq A_spec_l06Is.r2 (.cond (.t 7) .skip (.exit 0))) (.seq (.block 1 (.seq A_spec_l06Is.r4 (.cond (.t 15) (.seq A_spec_l06Is.r5 .ret) .skip))) A_spec_l06Is.r3))
def A_spec_l06Is.r6 : ACode := (.region none [⟨some 16, .move (.t 0), none⟩,
    ⟨some 17, .len (.t 16), none⟩,
    ⟨some 18, .bin .leq (.t 17) (.c (.int .i64 17)), none⟩,
    ⟨some 19, .move (.t 18), none⟩,
    ⟨some 20, .move (.t 0), some (19, true)⟩,
    ⟨some 21, .len (.t 20), some (19, true)⟩,
    ⟨some 22, .bin .eql (.t 21) (.c (.int .i64 0)), some (19, true)⟩,
    ⟨some 23, .move (.t 22), some (19, true)⟩,
    ⟨some 24, .move (.t 0), some (23, false)⟩,
    ⟨some 25, .move (.t 0), some (23, false)⟩,
    ⟨some 26, .len (.t 25), some (23, false)⟩,
    ⟨some 27, .bin .sub (.t 26) (.c (.int .i64 1)), some (23, false)⟩,
    ⟨some 28, .indexAddr none 1 (.t 24) (.t 27), some (23, false)⟩,
    ⟨some 29, .load none (.t 28), some (23, false)⟩,
    ⟨some 30, .bin .neq (.t 29) (.c (.int .i64 0)), some (23, false)⟩,
    ⟨some 31, .pick (.t 23) (.c (.bool true)) (.t 30), some (19, true)⟩,
    ⟨some 32, .pick (.t 19) (.t 31) (.c (.bool false)), none⟩,
    ⟨some 2, .move (.t 32), none⟩])
def A_spec_l06Is : AFunc := ⟨[.tmp 2], (.seq A_spec_l06Is.r0 (.seq (.seq A_spec_l06Is.r1 (.block 0 (.loop A_spec_l06Is.l0))) (.seq A_spec_l06Is.r6 .ret)))⟩
/-! impl_isNumber -/
def A_impl_isNumber.r0 : ACode := (.region none [⟨some 2, .move (.c (.bool false)), none⟩])
def A_impl_isNumber.r1 : ACode := (.region none [⟨some 3, .move (.t 0), none⟩,
    ⟨some 4, .bin .geq (.t 3) (.c (.int .i64 0)), none⟩,
    ⟨some 5, .move (.t 4), none⟩,
    ⟨some 6, .move (.t 0), some (5, true)⟩,
    ⟨some 7, .bin .lss (.t 6) (.c (.int .i64 10007)), some (5, true)⟩,
    ⟨some 8, .pick (.t 5) (.t 7) (.c (.bool false)), none⟩,
    ⟨some 2, .move (.t 8), none⟩])
def A_impl_isNumber : AFunc := ⟨[.tmp 2], (.seq A_impl_isNumber.r0 (.seq A_impl_isNumber.r1 .ret))⟩
/-! spec_l01In -/
def A_spec_l01In.r0 : ACode := (.region none [⟨some 6, .move (.c (.bool false)), none⟩])
def A_spec_l01In.r1 : ACode := (.region none [⟨some 7, .move (.t 0), none⟩,
    ⟨some 8, .move (.t 1), none⟩,
    ⟨some 9, .bin .geq (.t 7) (.t 8), none⟩,
    ⟨some 10, .move (.t 9), none⟩,
    ⟨some 11, .move (.t 0), some (10, true)⟩,
    ⟨some 12, .move (.t 2), some (10, true)⟩,
    ⟨some 13, .bin .leq (.t 11) (.t 12), some (10, true)⟩,
    ⟨some 14, .pick (.t 10) (.t 13) (.c (.bool false)), none⟩,
    ⟨some 6, .move (.t 14), none⟩])
def A_spec_l01In : AFunc := ⟨[.tmp 6], (.seq A_spec_l01In.r0 (.seq A_spec_l01In.r1 .ret))⟩
/-! spec_l06Monomial -/
def A_spec_l06Monomial.r0 : ACode := (.region none [⟨some 4, .move (.c (.slice none 0 0)), none⟩])
def A_spec_l06Monomial.r1 : ACode := (.region none [⟨some 5, .move (.t 1), none⟩,
    ⟨some 6, .makeSlice 1 8 [.int .i64 0] (.t 5) (.t 5), none⟩,
    ⟨some 7, .move (.t 0), none⟩,
    ⟨some 8, .buildSlice 1 1 [.int .i64 0] [(0, 1, (.t 7))], none⟩,
    ⟨some 9, .append 1 8 (.t 6) (.t 8), none⟩,
    ⟨some 4, .move (.t 9), none⟩])
def A_spec_l06Monomial : AFunc := ⟨[.tmp 4], (.seq A_spec_l06Monomial.r0 (.seq A_spec_l06Monomial.r1 .ret))⟩
/-! impl_isPower -/
def A_impl_isPower.r0 : ACode := (.region none [⟨some 2, .move (.c (.bool false)), none⟩])
def A_impl_isPower.r1 : ACode := (.region none [⟨some 3, .move (.t 0), none⟩,
    ⟨some 4, .bin .geq (.t 3) (.c (.int .i64 1)), none⟩,
    ⟨some 5, .move (.t 4), none⟩,
    ⟨some 6, .move (.t 0), some (5, true)⟩,
    ⟨some 7, .bin .leq (.t 6) (.c (.int .i64 16)), some (5, true)⟩,
    ⟨some 8, .pick (.t 5) (.t 7) (.c (.bool false)), none⟩,
    ⟨some 2, .move (.t 8), none⟩])
def A_impl_isPower : AFunc := ⟨[.tmp 2], (.seq A_impl_isPower.r0 (.seq A_impl_isPower.r1 .ret))⟩
/-! spec_l06Value -/
def A_spec_l06Value.r0 : ACode := (.region none [⟨some 4, .move (.c (.int .i64 0)), none⟩])
def A_spec_l06Value.r1 : ACode := (.region none [⟨some 5, .move (.c (.int .i64 0)), none⟩])
def A_spec_l06Value.r2 : ACode := (.region none [⟨some 7, .move (.t 0), none⟩,
    ⟨some 8, .len (.t 7), none⟩,
    ⟨some 9, .bin .sub (.t 8) (.c (.int .i64 1)), none⟩,
    ⟨some 6, .move (.t 9), none⟩])
def A_spec_l06Value.r3 : ACode := (.region none [⟨some 10, .move (.t 6), none⟩,
    ⟨some 11, .bin .geq (.t 10) (.c (.int .i64 0)), none⟩])
def A_spec_l06Value.r5 : ACode := (.region none [⟨some 14, .move (.t 5), none⟩,
    ⟨some 15, .move (.t 1), none⟩,
    ⟨some 16, .bin .mul (.t 14) (.t 15), none⟩,
    ⟨some 17, .move (.t 0), none⟩,
    ⟨some 18, .move (.t 6), none⟩,
    ⟨some 19, .indexAddr none 1 (.t 17) (.t 18), none⟩,
    ⟨some 20, .load none (.t 19), none⟩,
    ⟨some 21, .bin .add (.t 16) (.t 20), none⟩,
    ⟨some 22, .call 103 [(.t 21)], none⟩,
    ⟨some 5, .move (.t 22), none⟩])
def A_spec_l06Value.r4 : ACode := (.region none [⟨some 12, .move (.t 6), none⟩,
    ⟨some 13, .bin .sub (.t 12) (.c (.int .i64 1)), none⟩,
    ⟨some 6, .move (.t 13), none⟩])
def A_spec_l06Value.l0 : ACode := (.seq (.seq A_spec_l06Value.r3 (.cond (.t 11) .skip (.exit 0))) (.seq (.block 1 A_spec_l06Value.r5) A_spec_l06Value.r4))
def A_spec_l06Value.r6 : ACode := (.region none [⟨some 23, .move (.t 5), none⟩,
    ⟨some 4, .move (.t 23), none⟩])
def A_spec_l06Value : AFunc := ⟨[.tmp 4], (.seq A_spec_l06Value.r0 (.seq A_spec_l06Value.r1 (.seq (.seq A_spec_l06Value.r2 (.block 0 (.loop A_spec_l06Value.l0))) (.seq A_spec_l06Value.r6 .ret))))⟩
/-! spec_l06Slope -/
def A_spec_l06Slope.r0 : ACode := (.region none [⟨some 2, .move (.c (.slice none 0 0)), none⟩])
def A_spec_l06Slope.r1 : ACode := (.region none [⟨some 5, .buildSlice 1 0 [.int .i64 0] [], none⟩,
    ⟨some 3, .move (.t 5), none⟩])
def A_spec_l06Slope.r2 : ACode := (.region none [⟨some 4, .move (.c (.int .i64 1)), none⟩])
def A_spec_l06Slope.r3 : ACode := (.region none [⟨some 6, .move (.t 4), none⟩,
    ⟨some 7, .move (.t 0), none⟩,
    ⟨some 8, .len (.t 7), none⟩,
    ⟨some 9, .bin .lss (.t 6) (.t 8), none⟩])
def A_spec_l06Slope.r5 : ACode := (.region none [⟨some 12, .move (.t 3), none⟩,
    ⟨some 13, .move (.t 0), none⟩,
    ⟨some 14, .move (.t 4), none⟩,
    ⟨some 15, .indexAddr none 1 (.t 13) (.t 14), none⟩,
    ⟨some 16, .load none (.t 15), none⟩,
    ⟨some 17, .move (.t 4), none⟩,
    ⟨some 18, .bin .mul (.t 16) (.t 17), none⟩,
    ⟨some 19, .call 103 [(.t 18)], none⟩,
    ⟨some 20, .buildSlice 1 1 [.int .i64 0] [(0, 1, (.t 19))], none⟩,
    ⟨some 21, .append 1 8 (.t 12) (.t 20), none⟩,
    ⟨some 3, .move (.t 21), none⟩])
def A_spec_l06Slope.r4 : ACode := (.region none [⟨some 10, .move (.t 4), none⟩,
    ⟨some 11, .bin .add (.t 10) (.c (.int .i64 1)), none⟩,
    ⟨some 4, .move (.t 11), none⟩])
def A_spec_l06Slope.l0 : ACode := (.seq (.seq A_spec_l06Slope.r3 (.cond (.t 9) .skip (.exit 0))) (.seq (.block 1 A_spec_l06Slope.r5) A_spec_l06Slope.r4))
def A_spec_l06Slope.r6 : ACode := (.region none [⟨some 22, .move (.t 3), none⟩,
    ⟨some 23, .call 104 [(.t 22)], none⟩,
    ⟨some 2, .move (.t 23), none⟩])
def A_spec_l06Slope : AFunc := ⟨[.tmp 2], (.seq A_spec_l06Slope.r0 (.seq A_spec_l06Slope.r1 (.seq (.seq A_spec_l06Slope.r2 (.block 0 (.loop A_spec_l06Slope.l0))) (.seq A_spec_l06Slope.r6 .ret))))⟩
/-! impl_derivative -/
def A_impl_derivative.r0 : ACode := (.region none [⟨some 2, .move (.c (.slice none 0 0)), none⟩])
def A_impl_derivative.r1 : ACode := (.region none [⟨some 5, .buildSlice 1 0 [.int .i64 0] [], none⟩,
    ⟨some 3, .move (.t 5), none⟩])
def A_impl_derivative.r2 : ACode := (.region none [⟨some 4, .move (.c (.int .i64 1)), none⟩])
def A_impl_derivative.r3 : ACode := (.region none [⟨some 6, .move (.t 4), none⟩,
    ⟨some 7, .move (.t 0), none⟩,
    ⟨some 8, .len (.t 7), none⟩,
    ⟨some 9, .bin .lss (.t 6) (.t 8), none⟩])
def A_impl_derivative.r5 : ACode := (.region none [⟨some 12, .move (.t 3), none⟩,
    ⟨some 13, .move (.t 0), none⟩,
    ⟨some 14, .move (.t 4), none⟩,
    ⟨some 15, .indexAddr none 1 (.t 13) (.t 14), none⟩,
    ⟨some 16, .load none (.t 15), none⟩,
    ⟨some 17, .move (.t 4), none⟩,
    ⟨some 18, .bin .mul (.t 16) (.t 17), none⟩,
    ⟨some 19, .bin .rem (.t 18) (.c (.int .i64 10007)), none⟩,
    ⟨some 20, .buildSlice 1 1 [.int .i64 0] [(0, 1, (.t 19))], none⟩,
    ⟨some 21, .append 1 8 (.t 12) (.t 20), none⟩,
    ⟨some 3, .move (.t 21), none⟩])
def A_impl_derivative.r4 : ACode := (.region none [⟨some 10, .move (.t 4), none⟩,
    ⟨some 11, .bin .add (.t 10) (.c (.int .i64 1)), none⟩,
    ⟨some 4, .move (.t 11), none⟩])
def A_impl_derivative.l0 : ACode := (.seq (.seq A_impl_derivative.r3 (.cond (.t 9) .skip (.exit 0))) (.seq (.block 1 A_impl_derivative.r5) A_impl_derivative.r4))
def A_impl_derivative.r6 : ACode := (.region none [⟨some 22, .move (.t 3), none⟩,
    ⟨some 23, .call 105 [(.t 22)], none⟩,
    ⟨some 2, .move (.t 23), none⟩])
def A_impl_derivative : AFunc := ⟨[.tmp 2], (.seq A_impl_derivative.r0 (.seq A_impl_derivative.r1 (.seq (.seq A_impl_derivative.r2 (.block 0 (.loop A_impl_derivative.l0))) (.seq A_impl_derivative.r6 .ret))))⟩
/-! spec_l05Types -/
def A_spec_l05Types.r0 : ACode := (.region none [⟨some 4, .move (.c (.int .i64 0)), none⟩,
    ⟨some 5, .move (.c (.bool false)), none⟩])
def A_spec_l05Types.r1 : ACode := (.region none [⟨some 10, .move (.t 0), none⟩,
    ⟨some 11, .move (.t 1), none⟩,
    ⟨some 12, .buildSlice 1 2 [.slice none 0 0] [(0, 1, (.t 10)), (1, 1, (.t 11))], none⟩,
    ⟨some 13, .build [.int .i64 0, .int .i64 0] [], none⟩,
    ⟨some 7, .alloc [.int .i64 0, .int .i64 0], none⟩,
    ⟨some 6, .move (.t 12), none⟩,
    ⟨none, .store 2 (.t 7) (.t 13), none⟩])
def A_spec_l05Types.r2 : ACode := (.region none [⟨some 8, .move (.c (.int .i64 0)), none⟩])
def A_spec_l05Types.r3 : ACode := (.region none [⟨some 14, .move (.t 8), none⟩,
    ⟨some 15, .bin .lss (.t 14) (.c (.int .i64 2)), none⟩])
def A_spec_l05Types.r5 : ACode := (.region none [⟨some 9, .move (.c (.int .i64 0)), none⟩])
def A_spec_l05Types.r6 : ACode := (.region none [⟨some 18, .move (.t 9), none⟩,
    ⟨some 19, .move (.t 6), none⟩,
    ⟨some 20, .move (.t 8), none⟩,
    ⟨some 21, .indexAddr none 1 (.t 19) (.t 20), none⟩,
    ⟨some 22, .load none (.t 21), none⟩,
    ⟨some 23, .len (.t 22), none⟩,
    ⟨some 24, .bin .lss (.t 18) (.t 23), none⟩])
def A_spec_l05Types.r8 : ACode := (.region (some 35) [⟨some 27, .move (.t 6), none⟩,
    ⟨some 28, .move (.t 8), none⟩,
    ⟨some 29, .indexAddr none 1 (.t 27) (.t 28), none⟩,
    ⟨some 30, .load none (.t 29), none⟩,
    ⟨some 31, .move (.t 9), none⟩,
    ⟨some 32, .indexAddr none 1 (.t 30) (.t 31), none⟩,
    ⟨some 33, .load none (.t 32), none⟩,
    ⟨some 34, .call 58 [(.t 33), (.c (.int .i64 1)), (.c (.int .i64 16))], none⟩,
    ⟨some 35, .not (.t 34), none⟩,
    ⟨some 36, .move (.t 35), none⟩,
    ⟨some 37, .move (.t 9), some (36, false)⟩,
    ⟨some 38, .bin .gtr (.t 37) (.c (.int .i64 0)), some (36, false)⟩,
    ⟨some 39, .move (.t 38), some (36, false)⟩,
    ⟨some 40, .move (.t 6), some (39, true)⟩,
    ⟨some 41, .move (.t 8), some (39, true)⟩,
    ⟨some 42, .indexAddr none 1 (.t 40) (.t 41), some (39, true)⟩,
    ⟨some 43, .load none (.t 42), some (39, true)⟩,
    ⟨some 44, .move (.t 9), some (39, true)⟩,
    ⟨some 45, .indexAddr none 1 (.t 43) (.t 44), some (39, true)⟩,
    ⟨some 46, .load none (.t 45), some (39, true)⟩,
    ⟨some 47, .move (.t 6), some (39, true)⟩,
    ⟨some 48, .move (.t 8), some (39, true)⟩,
    ⟨some 49, .indexAddr none 1 (.t 47) (.t 48), some (39, true)⟩,
    ⟨some 50, .load none (.t 49), some (39, true)⟩,
    ⟨some 51, .move (.t 9), some (39, true)⟩,
    ⟨some 52, .bin .sub (.t 51) (.c (.int .i64 1)), some (39, true)⟩,
    ⟨some 53, .indexAddr none 1 (.t 50) (.t 52), some (39, true)⟩,
    ⟨some 54, .load none (.t 53), some (39, true)⟩,
    ⟨some 55, .bin .gtr (.t 46) (.t 54), some (39, true)⟩,
    ⟨some 56, .pick (.t 39) (.t 55) (.c (.bool false)), some (36, false)⟩,
    ⟨some 57, .pick (.t 36) (.c (.bool true)) (.t 56), none⟩,
    ⟨some 58, .move (.t 57), none⟩,
    ⟨some 59, .move (.t 9), some (58, false)⟩,
    ⟨some 60, .bin .geq (.t 59) (.c (.int .i64 16)), some (58, false)⟩,
    ⟨some 61, .pick (.t 58) (.c (.bool true)) (.t 60), none⟩])
def A_spec_l05Types.r9 : ACode := (.region none [⟨some 4, .move (.c (.int .i64 0)), none⟩,
    ⟨some 5, .move (.c (.bool false)), none⟩])
def A_spec_l05Types.r10 : ACode := (.region (some 13) [⟨some 62, .move (.t 8), none⟩,
    ⟨some 63, .move (.t 8), none⟩,
    ⟨some 64, .indexAddr (some 2) 1 (.t 7) (.t 63), none⟩,
    ⟨some 65, .load none (.t 64), none⟩,
    ⟨some 66, .move (.t 6), none⟩,
    ⟨some 67, .move (.t 8), none⟩,
    ⟨some 68, .indexAddr none 1 (.t 66) (.t 67), none⟩,
    ⟨some 69, .load none (.t 68), none⟩,
    ⟨some 70, .move (.t 9), none⟩,
    ⟨some 71, .indexAddr none 1 (.t 69) (.t 70), none⟩,
    ⟨some 72, .load none (.t 71), none⟩,
    ⟨some 73, .bin .add (.t 65) (.t 72), none⟩,
    ⟨some 74, .indexAddr (some 2) 1 (.t 7) (.t 62), none⟩,
    ⟨none, .store 1 (.t 74) (.t 73), none⟩])
def A_spec_l05Types.r7 : ACode := (.region none [⟨some 25, .move (.t 9), none⟩,
    ⟨some 26, .bin .add (.t 25) (.c (.int .i64 1)), none⟩,
    ⟨some 9, .move (.t 26), none⟩])
def A_spec_l05Types.l0 : ACode := (.seq (.seq A_spec_l05Types.r6 (.cond (.t 24) .skip (.exit 2))) (.seq (.block 3 (.seq (.seq A_spec_l05Types.r8 (.cond (.t 61) (.seq A_spec_l05Types.r9 .ret) .skip)) A_spec_l05Types.r10)) A_spec_l05Types.r7))
def A_spec_l05Types.r4 : ACode := (.region none [⟨some 16, .move (.t 8), none⟩,
    ⟨some 17, .bin .add (.t 16) (.c (.int .i64 1)), none⟩,
    ⟨some 8, .move (.t 17), none⟩])
def A_spec_l05Types.l1 : ACode := (.seq (.seq A_spec_l05Types.r3 (.cond (.t 15) .skip (.exit 0))) (.seq (.block 1 (.seq A_spec_l05Types.r5 (.block 2 (.loop A_spec_l05Types.l0)))) A_spec_l05Types.r4))
def A_spec_l05Types.r11 : ACode := (.region (some 14) [⟨some 75, .indexAddr (some 2) 1 (.t 7) (.c (.int .i64 0)), none⟩,
    ⟨some 76, .load none (.t 75), none⟩,
    ⟨some 77, .indexAddr (some 2) 1 (.t 7) (.c (.int .i64 0)), none⟩,
    ⟨some 78, .load none (.t 77), none⟩,
    ⟨some 79, .indexAddr (some 2) 1 (.t 7) (.c (.int .i64 1)), none⟩,
    ⟨some 80, .load none (.t 79), none⟩,
    ⟨some 81, .bin .eql (.t 78) (.t 80), none⟩,
    ⟨some 82, .move (.t 81), none⟩,
    ⟨some 83, .indexAddr (some 2) 1 (.t 7) (.c (.int .i64 0)), some (82, true)⟩,
    ⟨some 84, .load none (.t 83), some (82, true)⟩,
    ⟨some 85, .call 58 [(.t 84), (.c (.int .i64 1)), (.c (.int .i64 16))], some (82, true)⟩,
    ⟨some 86, .pick (.t 82) (.t 85) (.c (.bool false)), none⟩,
    ⟨some 4, .move (.t 76), none⟩,
    ⟨some 5, .move (.t 86), none⟩])
def A_spec_l05Types : AFunc := ⟨[.tmp 4, .tmp 5], (.seq A_spec_l05Types.r0 (.seq A_spec_l05Types.r1 (.seq (.seq A_spec_l05Types.r2 (.block 0 (.loop A_spec_l05Types.l1))) (.seq A_spec_l05Types.r11 .ret))))⟩
/-! spec_l05Factorial -/
def A_spec_l05Factorial.r0 : ACode := (.region none [⟨some 2, .move (.c (.int .i64 0)), none⟩])
def A_spec_l05Factorial.r1 : ACode := (.region none [⟨some 3, .move (.c (.int .i64 1)), none⟩])
def A_spec_l05Factorial.r2 : ACode := (.region none [⟨some 4, .move (.t 0), none⟩,
    ⟨some 5, .bin .gtr (.t 4) (.c (.int .i64 1)), none⟩])
def A_spec_l05Factorial.r4 : ACode := (.region none [⟨some 8, .move (.t 3), none⟩,
    ⟨some 9, .move (.t 0), none⟩,
    ⟨some 10, .bin .mul (.t 8) (.t 9), none⟩,
    ⟨some 3, .move (.t 10), none⟩])
def A_spec_l05Factorial.r3 : ACode := (.region none [⟨some 6, .move (.t 0), none⟩,
    ⟨some 7, .bin .sub (.t 6) (.c (.int .i64 1)), none⟩,
    ⟨some 0, .move (.t 7), none⟩])
def A_spec_l05Factorial.l0 : ACode := (.seq (.seq A_spec_l05Factorial.r2 (.cond (.t 5) .skip (.exit 0))) (.seq (.block 1 A_spec_l05Factorial.r4) A_spec_l05Factorial.r3))
def A_spec_l05Factorial.r5 : ACode := (.region none [⟨some 11, .move (.t 3), none⟩,
    ⟨some 2, .move (.t 11), none⟩])
def A_spec_l05Factorial : AFunc := ⟨[.tmp 2], (.seq A_spec_l05Factorial.r0 (.seq A_spec_l05Factorial.r1 (.seq (.block 0 (.loop A_spec_l05Factorial.l0)) (.seq A_spec_l05Factorial.r5 .ret))))⟩
/-! spec_l05Equal -/
def A_spec_l05Equal.r0 : ACode := (.region none [⟨some 2, .move (.c (.int .i64 0)), none⟩])
def A_spec_l05Equal.r1 : ACode := (.region none [⟨some 3, .move (.c (.int .i64 1)), none⟩,
    ⟨some 4, .move (.c (.int .i64 0)), none⟩])
def A_spec_l05Equal.r2 : ACode := (.region none [⟨some 5, .move (.c (.int .i64 0)), none⟩])
def A_spec_l05Equal.r3 : ACode := (.region none [⟨some 6, .move (.t 5), none⟩,
    ⟨some 7, .move (.t 0), none⟩,
    ⟨some 8, .len (.t 7), none⟩,
    ⟨some 9, .bin .lss (.t 6) (.t 8), none⟩])
def A_spec_l05Equal.r5 : ACode := (.region (some 14) [⟨some 12, .move (.t 5), none⟩,
    ⟨some 13, .bin .gtr (.t 12) (.c (.int .i64 0)), none⟩,
    ⟨some 14, .move (.t 13), none⟩,
    ⟨some 15, .move (.t 0), some (14, true)⟩,
    ⟨some 16, .move (.t 5), some (14, true)⟩,
    ⟨some 17, .indexAddr none 1 (.t 15) (.t 16), some (14, true)⟩,
    ⟨some 18, .load none (.t 17), some (14, true)⟩,
    ⟨some 19, .move (.t 0), some (14, true)⟩,
    ⟨some 20, .move (.t 5), some (14, true)⟩,
    ⟨some 21, .bin .sub (.t 20) (.c (.int .i64 1)), some (14, true)⟩,
    ⟨some 22, .indexAddr none 1 (.t 19) (.t 21), some (14, true)⟩,
    ⟨some 23, .load none (.t 22), some (14, true)⟩,
    ⟨some 24, .bin .neq (.t 18) (.t 23), some (14, true)⟩,
    ⟨some 25, .pick (.t 14) (.t 24) (.c (.bool false)), none⟩])
def A_spec_l05Equal.r6 : ACode := (.region none [⟨some 4, .move (.c (.int .i64 0)), none⟩])
def A_spec_l05Equal.r7 : ACode := (.region none [⟨some 26, .move (.t 4), none⟩,
    ⟨some 27, .bin .add (.t 26) (.c (.int .i64 1)), none⟩,
    ⟨some 4, .move (.t 27), none⟩])
def A_spec_l05Equal.r8 : ACode := (.region none [⟨some 28, .move (.t 3), none⟩,
    ⟨some 29, .move (.t 4), none⟩,
    ⟨some 30, .bin .mul (.t 28) (.t 29), none⟩,
    ⟨some 3, .move (.t 30), none⟩])
def A_spec_l05Equal.r4 : ACode := (.region none [⟨some 10, .move (.t 5), none⟩,
    ⟨some 11, .bin .add (.t 10) (.c (.int .i64 1)), none⟩,
    ⟨some 5, .move (.t 11), none⟩])
def A_spec_l05Equal.l0 : ACode := (.seq (.seq A_spec_l05Equal.r3 (.cond (.t 9) .skip (.exit 0))) (.seq (.block 1 (.seq (.seq A_spec_l05Equal.r5 (.cond (.t 25) A_spec_l05Equal.r6 .skip)) (.seq A_spec_l05Equal.r7 A_spec_l05Equal.r8))) A_spec_l05Equal.r4))
def A_spec_l05Equal.r9 : ACode := (.region none [⟨some 31, .move (.t 3), none⟩,
    ⟨some 2, .move (.t 31), none⟩])
def A_spec_l05Equal : AFunc := ⟨[.tmp 2], (.seq A_spec_l05Equal.r0 (.seq A_spec_l05Equal.r1 (.seq (.seq A_spec_l05Equal.r2 (.block 0 (.loop A_spec_l05Equal.l0))) (.seq A_spec_l05Equal.r9 .ret))))⟩
/-! impl_areTypes -/
def A_impl_areTypes.r0 : ACode := (.region none [⟨some 6, .move (.c (.bool false)), none⟩])
def A_impl_areTypes.r1 : ACode := (.region none [⟨some 8, .move (.t 0), none⟩,
    ⟨some 9, .call 68 [(.t 8)], none⟩,
    ⟨some 7, .move (.t 9), none⟩])
def A_impl_areTypes.r2 : ACode := (.region none [⟨some 10, .move (.t 7), none⟩,
    ⟨some 11, .bin .gtr (.t 10) (.c (.int .i64 0)), none⟩,
    ⟨some 12, .move (.t 11), none⟩,
    ⟨some 13, .move (.t 7), some (12, true)⟩,
    ⟨some 14, .move (.t 2), some (12, true)⟩,
    ⟨some 15, .bin .leq (.t 13) (.t 14), some (12, true)⟩,
    ⟨some 16, .pick (.t 12) (.t 15) (.c (.bool false)), none⟩,
    ⟨some 17, .move (.t 16), none⟩,
    ⟨some 18, .move (.t 1), some (17, true)⟩,
    ⟨some 19, .call 68 [(.t 18)], some (17, true)⟩,
    ⟨some 20, .move (.t 7), some (17, true)⟩,
    ⟨some 21, .bin .eql (.t 19) (.t 20), some (17, true)⟩,
    ⟨some 22, .pick (.t 17) (.t 21) (.c (.bool false)), none⟩,
    ⟨some 6, .move (.t 22), none⟩])
def A_impl_areTypes : AFunc := ⟨[.tmp 6], (.seq A_impl_areTypes.r0 (.seq A_impl_areTypes.r1 (.seq A_impl_areTypes.r2 .ret)))⟩
/-! impl_sumOfType -/
def A_impl_sumOfType.r0 : ACode := (.region none [⟨some 2, .move (.c (.int .i64 0)), none⟩])
def A_impl_sumOfType.r1 : ACode := (.region none [⟨some 3, .move (.c (.int .i64 0)), none⟩])
def A_impl_sumOfType.r2 : ACode := (.region none [⟨some 6, .move (.t 0), none⟩,
    ⟨some 7, .len (.t 6), none⟩,
    ⟨some 8, .move (.c (.int .i64 0)), none⟩])
def A_impl_sumOfType.r3 : ACode := (.region none [⟨some 9, .bin .lss (.t 8) (.t 7), none⟩])
def A_impl_sumOfType.r4 : ACode := (.region none [⟨some 10, .move (.t 8), none⟩,
    ⟨some 11, .indexAddr none 1 (.t 6) (.t 8), none⟩,
    ⟨some 12, .load none (.t 11), none⟩,
    ⟨some 4, .move (.t 10), none⟩,
    ⟨some 5, .move (.t 12), none⟩])
def A_impl_sumOfType.r5 : ACode := (.region none [⟨some 13, .move (.t 5), none⟩,
    ⟨some 14, .bin .lss (.t 13) (.c (.int .i64 1)), none⟩,
    ⟨some 15, .move (.t 14), none⟩,
    ⟨some 16, .move (.t 5), some (15, false)⟩,
    ⟨some 17, .bin .gtr (.t 16) (.c (.int .i64 16)), some (15, false)⟩,
    ⟨some 18, .pick (.t 15) (.c (.bool true)) (.t 17), none⟩,
    ⟨some 19, .move (.t 18), none⟩,
    ⟨some 20, .move (.t 4), some (19, false)⟩,
    ⟨some 21, .bin .gtr (.t 20) (.c (.int .i64 0)), some (19, false)⟩,
    ⟨some 22, .move (.t 21), some (19, false)⟩,
    ⟨some 23, .move (.t 5), some (22, true)⟩,
    ⟨some 24, .move (.t 0), some (22, true)⟩,
    ⟨some 25, .move (.t 4), some (22, true)⟩,
    ⟨some 26, .bin .sub (.t 25) (.c (.int .i64 1)), some (22, true)⟩,
    ⟨some 27, .indexAddr none 1 (.t 24) (.t 26), some (22, true)⟩,
    ⟨some 28, .load none (.t 27), some (22, true)⟩,
    ⟨some 29, .bin .gtr (.t 23) (.t 28), some (22, true)⟩,
    ⟨some 30, .pick (.t 22) (.t 29) (.c (.bool false)), some (19, false)⟩,
    ⟨some 31, .pick (.t 19) (.c (.bool true)) (.t 30), none⟩])
def A_impl_sumOfType.r6 : ACode := (.region none [⟨some 2, .move (.c (.int .i64 0)), none⟩])
def A_impl_sumOfType.r7 : ACode := (.region none [⟨some 32, .move (.t 3), none⟩,
    ⟨some 33, .move (.t 5), none⟩,
    ⟨some 34, .bin .add (.t 32) (.t 33), none⟩,
    ⟨some 3, .move (.t 34), none⟩])
def A_impl_sumOfType.r8 : ACode := (.region none [⟨some 35, .move (.t 3), none⟩,
    ⟨some 36, .bin .gtr (.t 35) (.c (.int .i64 16)), none⟩])
def A_impl_sumOfType.r9 : ACode := (.region none [⟨some 2, .move (.c (.int .i64 0)), none⟩])
def A_impl_sumOfType.r10 : ACode := (.region none [⟨some 37, .bin .add (.t 8) (.c (.int .i64 1)), none⟩,
    ⟨some 8, .move (.t 37), none⟩])
def A_impl_sumOfType.l0 : ACode := (.seq A_impl_sumOfType.r3 (.seq (.cond (.t 9) .skip (.exit 0)) (.seq (.block 1 (.seq A_impl_sumOfType.r4 (.seq (.seq A_impl_sumOfType.r5 (.cond (.t 31) (.seq A_impl_sumOfType.r6 .ret) .skip)) (.seq A_impl_sumOfType.r7 (.seq A_impl_sumOfType.r8 (.cond (.t 36) (.seq A_impl_sumOfType.r9 .ret) .skip)))))) A_impl_sumOfType.r10)))
def A_impl_sumOfType.r11 : ACode := (.region none [⟨some 38, .move (.t 3), none⟩,
    ⟨some 2, .move (.t 38), none⟩])
def A_impl_sumOfType : AFunc := ⟨[.tmp 2], (.seq A_impl_sumOfType.r0 (.seq A_impl_sumOfType.r1 (.seq (.seq A_impl_sumOfType.r2 (.block 0 (.loop A_impl_sumOfType.l0))) (.seq A_impl_sumOfType.r11 .ret))))⟩
/-! impl_factorial -/
def A_impl_factorial.r0 : ACode := (.region none [⟨some 2, .move (.c (.int .i64 0)), none⟩])
def A_impl_factorial.r1 : ACode := (.region none [⟨some 3, .move (.c (.int .i64 1)), none⟩])
def A_impl_factorial.r2 : ACode := (.region none [⟨some 4, .move (.c (.int .i64 2)), none⟩])
def A_impl_factorial.r3 : ACode := (.region none [⟨some 5, .move (.t 4), none⟩,
    ⟨some 6, .move (.t 0), none⟩,
    ⟨some 7, .bin .leq (.t 5) (.t 6), none⟩])
def A_impl_factorial.r5 : ACode := (.region none [⟨some 10, .move (.t 3), none⟩,
    ⟨some 11, .move (.t 4), none⟩,
    ⟨some 12, .bin .mul (.t 10) (.t 11), none⟩,
    ⟨some 3, .move (.t 12), none⟩])
def A_impl_factorial.r4 : ACode := (.region none [⟨some 8, .move (.t 4), none⟩,
    ⟨some 9, .bin .add (.t 8) (.c (.int .i64 1)), none⟩,
    ⟨some 4, .move (.t 9), none⟩])
def A_impl_factorial.l0 : ACode := (.seq (.seq A_impl_factorial.r3 (.cond (.t 7) .skip (.exit 0))) (.seq (.block 1 A_impl_factorial.r5) A_impl_factorial.r4))
def A_impl_factorial.r6 : ACode := (.region none [⟨some 13, .move (.t 3), none⟩,
    ⟨some 2, .move (.t 13), none⟩])
def A_impl_factorial : AFunc := ⟨[.tmp 2], (.seq A_impl_factorial.r0 (.seq A_impl_factorial.r1 (.seq (.seq A_impl_factorial.r2 (.block 0 (.loop A_impl_factorial.l0))) (.seq A_impl_factorial.r6 .ret))))⟩
/-! impl_repeated -/
def A_impl_repeated.r0 : ACode := (.region none [⟨some 2, .move (.c (.int .i64 0)), none⟩])
def A_impl_repeated.r1 : ACode := (.region none [⟨some 3, .move (.c (.int .i64 1)), none⟩,
    ⟨some 4, .move (.c (.int .i64 0)), none⟩])
def A_impl_repeated.r2 : ACode := (.region none [⟨some 7, .move (.t 0), none⟩,
    ⟨some 8, .len (.t 7), none⟩,
    ⟨some 9, .move (.c (.int .i64 0)), none⟩])
def A_impl_repeated.r3 : ACode := (.region none [⟨some 10, .bin .lss (.t 9) (.t 8), none⟩])
def A_impl_repeated.r4 : ACode := (.region none [⟨some 11, .move (.t 9), none⟩,
    ⟨some 12, .indexAddr none 1 (.t 7) (.t 9), none⟩,
    ⟨some 13, .load none (.t 12), none⟩,
    ⟨some 5, .move (.t 11), none⟩,
    ⟨some 6, .move (.t 13), none⟩])
def A_impl_repeated.r5 : ACode := (.region none [⟨some 14, .move (.t 5), none⟩,
    ⟨some 15, .bin .gtr (.t 14) (.c (.int .i64 0)), none⟩,
    ⟨some 16, .move (.t 15), none⟩,
    ⟨some 17, .move (.t 6), some (16, true)⟩,
    ⟨some 18, .move (.t 0), some (16, true)⟩,
    ⟨some 19, .move (.t 5), some (16, true)⟩,
    ⟨some 20, .bin .sub (.t 19) (.c (.int .i64 1)), some (16, true)⟩,
    ⟨some 21, .indexAddr none 1 (.t 18) (.t 20), some (16, true)⟩,
    ⟨some 22, .load none (.t 21), some (16, true)⟩,
    ⟨some 23, .bin .eql (.t 17) (.t 22), some (16, true)⟩,
    ⟨some 24, .pick (.t 16) (.t 23) (.c (.bool false)), none⟩])
def A_impl_repeated.r6 : ACode := (.region none [⟨some 25, .move (.t 4), none⟩,
    ⟨some 26, .bin .add (.t 25) (.c (.int .i64 1)), none⟩,
    ⟨some 4, .move (.t 26), none⟩])
def A_impl_repeated.r7 : ACode := (.region none [⟨some 4, .move (.c (.int .i64 1)), none⟩])
def A_impl_repeated.r8 : ACode := (.region none [⟨some 27, .move (.t 3), none⟩,
    ⟨some 28, .move (.t 4), none⟩,
    ⟨some 29, .bin .mul (.t 27) (.t 28), none⟩,
    ⟨some 3, .move (.t 29), none⟩])
def A_impl_repeated.r9 : ACode := (.region none [⟨some 30, .bin .add (.t 9) (.c (.int .i64 1)), none⟩,
    ⟨some 9, .move (.t 30), none⟩])
def A_impl_repeated.l0 : ACode := (.seq A_impl_repeated.r3 (.seq (.cond (.t 10) .skip (.exit 0)) (.seq (.block 1 (.seq A_impl_repeated.r4 (.seq (.seq A_impl_repeated.r5 (.cond (.t 24) A_impl_repeated.r6 A_impl_repeated.r7)) A_impl_repeated.r8))) A_impl_repeated.r9)))
def A_impl_repeated.r10 : ACode := (.region none [⟨some 31, .move (.t 3), none⟩,
    ⟨some 2, .move (.t 31), none⟩])
def A_impl_repeated : AFunc := ⟨[.tmp 2], (.seq A_impl_repeated.r0 (.seq A_impl_repeated.r1 (.seq (.seq A_impl_repeated.r2 (.block 0 (.loop A_impl_repeated.l0))) (.seq A_impl_repeated.r10 .ret))))⟩
/-! spec_l06Both -/
def A_spec_l06Both.r0 : ACode := (.region none [⟨some 4, .move (.c (.int .i64 0)), none⟩])
def A_spec_l06Both.r1 : ACode := (.region none [⟨some 5, .move (.t 0), none⟩,
    ⟨some 6, .call 56 [(.t 5)], none⟩,
    ⟨some 7, .not (.t 6), none⟩,
    ⟨some 8, .move (.t 7), none⟩,
    ⟨some 9, .move (.t 1), some (8, false)⟩,
    ⟨some 10, .call 56 [(.t 9)], some (8, false)⟩,
    ⟨some 11, .not (.t 10), some (8, false)⟩,
    ⟨some 12, .pick (.t 8) (.c (.bool true)) (.t 11), none⟩])
def A_spec_l06Both.r2 : ACode := (.region none [⟨some 4, .move (.c (.int .i64 1)), none⟩])
def A_spec_l06Both.r3 : ACode := (.region none [⟨some 4, .move (.c (.int .i64 0)), none⟩])
def A_spec_l06Both : AFunc := ⟨[.tmp 4], (.seq A_spec_l06Both.r0 (.seq (.seq A_spec_l06Both.r1 (.cond (.t 12) (.seq A_spec_l06Both.r2 .ret) .skip)) (.seq A_spec_l06Both.r3 .ret)))⟩
/-! spec_l06Add -/
def A_spec_l06Add.r0 : ACode := (.region none [⟨some 6, .move (.c (.slice none 0 0)), none⟩])
def A_spec_l06Add.r1 : ACode := (.region none [⟨some 10, .buildSlice 1 0 [.int .i64 0] [], none⟩,
    ⟨some 7, .move (.t 10), none⟩])
def A_spec_l06Add.r2 : ACode := (.region none [⟨some 8, .move (.c (.int .i64 0)), none⟩])
def A_spec_l06Add.r3 : ACode := (.region none [⟨some 11, .move (.t 8), none⟩,
    ⟨some 12, .move (.t 0), none⟩,
    ⟨some 13, .len (.t 12), none⟩,
    ⟨some 14, .bin .lss (.t 11) (.t 13), none⟩,
    ⟨some 15, .move (.t 14), none⟩,
    ⟨some 16, .move (.t 8), some (15, false)⟩,
    ⟨some 17, .move (.t 1), some (15, false)⟩,
    ⟨some 18, .len (.t 17), some (15, false)⟩,
    ⟨some 19, .bin .lss (.t 16) (.t 18), some (15, false)⟩,
    ⟨some 20, .pick (.t 15) (.c (.bool true)) (.t 19), none⟩])
def A_spec_l06Add.r5 : ACode := (.region none [⟨some 9, .move (.c (.int .i64 0)), none⟩])
def A_spec_l06Add.r6 : ACode := (.region none [⟨some 23, .move (.t 8), none⟩,
    ⟨some 24, .move (.t 0), none⟩,
    ⟨some 25, .len (.t 24), none⟩,
    ⟨some 26, .bin .lss (.t 23) (.t 25), none⟩])
def A_spec_l06Add.r7 : ACode := (.region none [⟨some 27, .move (.t 0), none⟩,
    ⟨some 28, .move (.t 8), none⟩,
    ⟨some 29, .indexAddr none 1 (.t 27) (.t 28), none⟩,
    ⟨some 30, .load none (.t 29), none⟩,
    ⟨some 9, .move (.t 30), none⟩])
def A_spec_l06Add.r8 : ACode := (.region none [⟨some 31, .move (.t 8), none⟩,
    ⟨some 32, .move (.t 1), none⟩,
    ⟨some 33, .len (.t 32), none⟩,
    ⟨some 34, .bin .lss (.t 31) (.t 33), none⟩])
def A_spec_l06Add.r9 : ACode := (.region none [⟨some 35, .move (.t 9), none⟩,
    ⟨some 36, .move (.t 2), none⟩,
    ⟨some 37, .move (.t 1), none⟩,
    ⟨some 38, .move (.t 8), none⟩,
    ⟨some 39, .indexAddr none 1 (.t 37) (.t 38), none⟩,
    ⟨some 40, .load none (.t 39), none⟩,
    ⟨some 41, .bin .mul (.t 36) (.t 40), none⟩,
    ⟨some 42, .bin .add (.t 35) (.t 41), none⟩,
    ⟨some 9, .move (.t 42), none⟩])
def A_spec_l06Add.r10 : ACode := (.region none [⟨some 43, .move (.t 7), none⟩,
    ⟨some 44, .move (.t 9), none⟩,
    ⟨some 45, .call 103 [(.t 44)], none⟩,
    ⟨some 46, .buildSlice 1 1 [.int .i64 0] [(0, 1, (.t 45))], none⟩,
    ⟨some 47, .append 1 8 (.t 43) (.t 46), none⟩,
    ⟨some 7, .move (.t 47), none⟩])
def A_spec_l06Add.r4 : ACode := (.region none [⟨some 21, .move (.t 8), none⟩,
    ⟨some 22, .bin .add (.t 21) (.c (.int .i64 1)), none⟩,
    ⟨some 8, .move (.t 22), none⟩])
def A_spec_l06Add.l0 : ACode := (.seq (.seq A_spec_l06Add.r3 (.cond (.t 20) .skip (.exit 0))) (.seq (.block 1 (.seq A_spec_l06Add.r5 (.seq (.seq A_spec_l06Add.r6 (.cond (.t 26) A_spec_l06Add.r7 .skip)) (.seq (.seq A_spec_l06Add.r8 (.cond (.t 34) A_spec_l06Add.r9 .skip)) A_spec_l06Add.r10)))) A_spec_l06Add.r4))
def A_spec_l06Add.r11 : ACode := (.region none [⟨some 48, .move (.t 7), none⟩,
    ⟨some 49, .call 104 [(.t 48)], none⟩,
    ⟨some 6, .move (.t 49), none⟩])
def A_spec_l06Add : AFunc := ⟨[.tmp 6], (.seq A_spec_l06Add.r0 (.seq A_spec_l06Add.r1 (.seq (.seq A_spec_l06Add.r2 (.block 0 (.loop A_spec_l06Add.l0))) (.seq A_spec_l06Add.r11 .ret))))⟩
/-! impl_addAll -/
def A_impl_addAll.r0 : ACode := (.region none [⟨some 4, .move (.c (.slice none 0 0)), none⟩])
def A_impl_addAll.r1 : ACode := (.region none [⟨some 7, .move (.t 0), none⟩,
    ⟨some 8, .len (.t 7), none⟩,
    ⟨some 9, .move (.t 1), none⟩,
    ⟨some 10, .len (.t 9), none⟩,
    ⟨some 11, .max [(.t 8), (.t 10)], none⟩,
    ⟨some 12, .makeSlice 1 8 [.int .i64 0] (.t 11) (.t 11), none⟩,
    ⟨some 5, .move (.t 12), none⟩])
def A_impl_addAll.r2 : ACode := (.region none [⟨some 13, .move (.t 5), none⟩,
    ⟨some 14, .len (.t 13), none⟩,
    ⟨some 15, .move (.c (.int .i64 0)), none⟩])
def A_impl_addAll.r3 : ACode := (.region none [⟨some 16, .bin .lss (.t 15) (.t 14), none⟩])
def A_impl_addAll.r4 : ACode := (.region none [⟨some 17, .move (.t 15), none⟩,
    ⟨some 6, .move (.t 17), none⟩])
def A_impl_addAll.r5 : ACode := (.region none [⟨some 18, .move (.t 6), none⟩,
    ⟨some 19, .move (.t 0), none⟩,
    ⟨some 20, .len (.t 19), none⟩,
    ⟨some 21, .bin .lss (.t 18) (.t 20), none⟩])
def A_impl_addAll.r6 : ACode := (.region (some 10) [⟨some 22, .move (.t 5), none⟩,
    ⟨some 23, .move (.t 6), none⟩,
    ⟨some 24, .indexAddr none 1 (.t 22) (.t 23), none⟩,
    ⟨some 25, .load none (.t 24), none⟩,
    ⟨some 26, .move (.t 0), none⟩,
    ⟨some 27, .move (.t 6), none⟩,
    ⟨some 28, .indexAddr none 1 (.t 26) (.t 27), none⟩,
    ⟨some 29, .load none (.t 28), none⟩,
    ⟨some 30, .bin .add (.t 25) (.t 29), none⟩,
    ⟨some 31, .indexAddr none 1 (.t 22) (.t 23), none⟩,
    ⟨none, .store 1 (.t 31) (.t 30), none⟩])
def A_impl_addAll.r7 : ACode := (.region none [⟨some 32, .move (.t 6), none⟩,
    ⟨some 33, .move (.t 1), none⟩,
    ⟨some 34, .len (.t 33), none⟩,
    ⟨some 35, .bin .lss (.t 32) (.t 34), none⟩])
def A_impl_addAll.r8 : ACode := (.region (some 10) [⟨some 36, .move (.t 5), none⟩,
    ⟨some 37, .move (.t 6), none⟩,
    ⟨some 38, .indexAddr none 1 (.t 36) (.t 37), none⟩,
    ⟨some 39, .load none (.t 38), none⟩,
    ⟨some 40, .move (.t 1), none⟩,
    ⟨some 41, .move (.t 6), none⟩,
    ⟨some 42, .indexAddr none 1 (.t 40) (.t 41), none⟩,
    ⟨some 43, .load none (.t 42), none⟩,
    ⟨some 44, .bin .add (.t 39) (.t 43), none⟩,
    ⟨some 45, .indexAddr none 1 (.t 36) (.t 37), none⟩,
    ⟨none, .store 1 (.t 45) (.t 44), none⟩])
def A_impl_addAll.r9 : ACode := (.region none [⟨some 46, .move (.t 5), none⟩,
    ⟨some 47, .move (.t 6), none⟩,
    ⟨some 48, .indexAddr none 1 (.t 46) (.t 47), none⟩,
    ⟨some 49, .load none (.t 48), none⟩,
    ⟨some 50, .bin .rem (.t 49) (.c (.int .i64 10007)), none⟩,
    ⟨some 51, .indexAddr none 1 (.t 46) (.t 47), none⟩,
    ⟨none, .store 1 (.t 51) (.t 50), none⟩])
def A_impl_addAll.r10 : ACode := (.region none [⟨some 52, .bin .add (.t 15) (.c (.int .i64 1)), none⟩,
    ⟨some 15, .move (.t 52), none⟩])
def A_impl_addAll.l0 : ACode := (.seq A_impl_addAll.r3 (.seq (.cond (.t 16) .skip (.exit 0)) (.seq (.block 1 (.seq A_impl_addAll.r4 (.seq (.seq A_impl_addAll.r5 (.cond (.t 21) A_impl_addAll.r6 .skip)) (.seq (.seq A_impl_addAll.r7 (.cond (.t 35) A_impl_addAll.r8 .skip)) A_impl_addAll.r9)))) A_impl_addAll.r10)))
def A_impl_addAll.r11 : ACode := (.region none [⟨some 53, .move (.t 5), none⟩,
    ⟨some 54, .call 105 [(.t 53)], none⟩,
    ⟨some 4, .move (.t 54), none⟩])
def A_impl_addAll : AFunc := ⟨[.tmp 4], (.seq A_impl_addAll.r0 (.seq A_impl_addAll.r1 (.seq (.seq A_impl_addAll.r2 (.block 0 (.loop A_impl_addAll.l0))) (.seq A_impl_addAll.r11 .ret))))⟩
/-! spec_l06Times -/
def A_spec_l06Times.r0 : ACode := (.region none [⟨some 4, .move (.c (.slice none 0 0)), none⟩])
def A_spec_l06Times.r1 : ACode := (.region none [⟨some 8, .move (.t 0), none⟩,
    ⟨some 9, .len (.t 8), none⟩,
    ⟨some 10, .bin .eql (.t 9) (.c (.int .i64 0)), none⟩,
    ⟨some 11, .move (.t 10), none⟩,
    ⟨some 12, .move (.t 1), some (11, false)⟩,
    ⟨some 13, .len (.t 12), some (11, false)⟩,
    ⟨some 14, .bin .eql (.t 13) (.c (.int .i64 0)), some (11, false)⟩,
    ⟨some 15, .pick (.t 11) (.c (.bool true)) (.t 14), none⟩])
def A_spec_l06Times.r2 : ACode := (.region none [⟨some 16, .buildSlice 1 0 [.int .i64 0] [], none⟩,
    ⟨some 4, .move (.t 16), none⟩])
def A_spec_l06Times.r3 : ACode := (.region none [⟨some 17, .move (.t 0), none⟩,
    ⟨some 18, .len (.t 17), none⟩,
    ⟨some 19, .move (.t 1), none⟩,
    ⟨some 20, .len (.t 19), none⟩,
    ⟨some 21, .bin .add (.t 18) (.t 20), none⟩,
    ⟨some 22, .bin .sub (.t 21) (.c (.int .i64 1)), none⟩,
    ⟨some 23, .makeSlice 1 8 [.int .i64 0] (.t 22) (.t 22), none⟩,
    ⟨some 5, .move (.t 23), none⟩])
def A_spec_l06Times.r4 : ACode := (.region none [⟨some 6, .move (.c (.int .i64 0)), none⟩])
def A_spec_l06Times.r5 : ACode := (.region none [⟨some 24, .move (.t 6), none⟩,
    ⟨some 25, .move (.t 0), none⟩,
    ⟨some 26, .len (.t 25), none⟩,
    ⟨some 27, .bin .lss (.t 24) (.t 26), none⟩])
def A_spec_l06Times.r7 : ACode := (.region none [⟨some 7, .move (.c (.int .i64 0)), none⟩])
def A_spec_l06Times.r8 : ACode := (.region none [⟨some 30, .move (.t 7), none⟩,
    ⟨some 31, .move (.t 1), none⟩,
    ⟨some 32, .len (.t 31), none⟩,
    ⟨some 33, .bin .lss (.t 30) (.t 32), none⟩])
def A_spec_l06Times.r10 : ACode := (.region (some 22) [⟨some 36, .move (.t 5), none⟩,
    ⟨some 37, .move (.t 6), none⟩,
    ⟨some 38, .move (.t 7), none⟩,
    ⟨some 39, .bin .add (.t 37) (.t 38), none⟩,
    ⟨some 40, .move (.t 5), none⟩,
    ⟨some 41, .move (.t 6), none⟩,
    ⟨some 42, .move (.t 7), none⟩,
    ⟨some 43, .bin .add (.t 41) (.t 42), none⟩,
    ⟨some 44, .indexAddr none 1 (.t 40) (.t 43), none⟩,
    ⟨some 45, .load none (.t 44), none⟩,
    ⟨some 46, .move (.t 0), none⟩,
    ⟨some 47, .move (.t 6), none⟩,
    ⟨some 48, .indexAddr none 1 (.t 46) (.t 47), none⟩,
    ⟨some 49, .load none (.t 48), none⟩,
    ⟨some 50, .move (.t 1), none⟩,
    ⟨some 51, .move (.t 7), none⟩,
    ⟨some 52, .indexAddr none 1 (.t 50) (.t 51), none⟩,
    ⟨some 53, .load none (.t 52), none⟩,
    ⟨some 54, .bin .mul (.t 49) (.t 53), none⟩,
    ⟨some 55, .bin .add (.t 45) (.t 54), none⟩,
    ⟨some 56, .call 103 [(.t 55)], none⟩,
    ⟨some 57, .indexAddr none 1 (.t 36) (.t 39), none⟩,
    ⟨none, .store 1 (.t 57) (.t 56), none⟩])
def A_spec_l06Times.r9 : ACode := (.region none [⟨some 34, .move (.t 7), none⟩,
    ⟨some 35, .bin .add (.t 34) (.c (.int .i64 1)), none⟩,
    ⟨some 7, .move (.t 35), none⟩])
def A_spec_l06Times.l0 : ACode := (.seq (.seq A_spec_l06Times.r8 (.cond (.t 33) .skip (.exit 2))) (.seq (.block 3 A_spec_l06Times.r10) A_spec_l06Times.r9))
def A_spec_l06Times.r6 : ACode := (.region none [⟨some 28, .move (.t 6), none⟩,
    ⟨some 29, .bin .add (.t 28) (.c (.int .i64 1)), none⟩,
    ⟨some 6, .move (.t 29), none⟩])
def A_spec_l06Times.l1 : ACode := (.seq (.seq A_spec_l06Times.r5 (.cond (.t 27) .skip (.exit 0))) (.seq (.block 1 (.seq A_spec_l06Times.r7 (.block 2 (.loop A_spec_l06Times.l0)))) A_spec_l06Times.r6))
def A_spec_l06Times.r11 : ACode := (.region none [⟨some 58, .move (.t 5), none⟩,
    ⟨some 59, .call 104 [(.t 58)], none⟩,
    ⟨some 4, .move (.t 59), none⟩])
def A_spec_l06Times : AFunc := ⟨[.tmp 4], (.seq A_spec_l06Times.r0 (.seq (.seq A_spec_l06Times.r1 (.cond (.t 15) (.seq A_spec_l06Times.r2 .ret) .skip)) (.seq A_spec_l06Times.r3 (.seq (.seq A_spec_l06Times.r4 (.block 0 (.loop A_spec_l06Times.l1))) (.seq A_spec_l06Times.r11 .ret)))))⟩
/-! impl_times -/
def A_impl_times.r0 : ACode := (.region none [⟨some 4, .move (.c (.slice none 0 0)), none⟩])
def A_impl_times.r1 : ACode := (.region none [⟨some 10, .move (.t 0), none⟩,
    ⟨some 11, .len (.t 10), none⟩,
    ⟨some 12, .bin .eql (.t 11) (.c (.int .i64 0)), none⟩,
    ⟨some 13, .move (.t 12), none⟩,
    ⟨some 14, .move (.t 1), some (13, false)⟩,
    ⟨some 15, .len (.t 14), some (13, false)⟩,
    ⟨some 16, .bin .eql (.t 15) (.c (.int .i64 0)), some (13, false)⟩,
    ⟨some 17, .pick (.t 13) (.c (.bool true)) (.t 16), none⟩])
def A_impl_times.r2 : ACode := (.region none [⟨some 4, .move (.c (.slice none 0 0)), none⟩])
def A_impl_times.r3 : ACode := (.region none [⟨some 18, .move (.t 0), none⟩,
    ⟨some 19, .len (.t 18), none⟩,
    ⟨some 20, .move (.t 1), none⟩,
    ⟨some 21, .len (.t 20), none⟩,
    ⟨some 22, .bin .add (.t 19) (.t 21), none⟩,
    ⟨some 23, .bin .sub (.t 22) (.c (.int .i64 1)), none⟩,
    ⟨some 24, .makeSlice 1 8 [.int .i64 0] (.t 23) (.t 23), none⟩,
    ⟨some 5, .move (.t 24), none⟩])
def A_impl_times.r4 : ACode := (.region none [⟨some 25, .move (.t 0), none⟩,
    ⟨some 26, .len (.t 25), none⟩,
    ⟨some 27, .move (.c (.int .i64 0)), none⟩])
def A_impl_times.r5 : ACode := (.region none [⟨some 28, .bin .lss (.t 27) (.t 26), none⟩])
def A_impl_times.r6 : ACode := (.region none [⟨some 29, .move (.t 27), none⟩,
    ⟨some 30, .indexAddr none 1 (.t 25) (.t 27), none⟩,
    ⟨some 31, .load none (.t 30), none⟩,
    ⟨some 6, .move (.t 29), none⟩,
    ⟨some 7, .move (.t 31), none⟩])
def A_impl_times.r7 : ACode := (.region none [⟨some 32, .move (.t 1), none⟩,
    ⟨some 33, .len (.t 32), none⟩,
    ⟨some 34, .move (.c (.int .i64 0)), none⟩])
def A_impl_times.r8 : ACode := (.region none [⟨some 35, .bin .lss (.t 34) (.t 33), none⟩])
def A_impl_times.r9 : ACode := (.region none [⟨some 36, .move (.t 34), none⟩,
    ⟨some 37, .indexAddr none 1 (.t 32) (.t 34), none⟩,
    ⟨some 38, .load none (.t 37), none⟩,
    ⟨some 8, .move (.t 36), none⟩,
    ⟨some 9, .move (.t 38), none⟩])
def A_impl_times.r10 : ACode := (.region none [⟨some 39, .move (.t 5), none⟩,
    ⟨some 40, .move (.t 6), none⟩,
    ⟨some 41, .move (.t 8), none⟩,
    ⟨some 42, .bin .add (.t 40) (.t 41), none⟩,
    ⟨some 43, .move (.t 5), none⟩,
    ⟨some 44, .move (.t 6), none⟩,
    ⟨some 45, .move (.t 8), none⟩,
    ⟨some 46, .bin .add (.t 44) (.t 45), none⟩,
    ⟨some 47, .indexAddr none 1 (.t 43) (.t 46), none⟩,
    ⟨some 48, .load none (.t 47), none⟩,
    ⟨some 49, .move (.t 7), none⟩,
    ⟨some 50, .move (.t 9), none⟩,
    ⟨some 51, .bin .mul (.t 49) (.t 50), none⟩,
    ⟨some 52, .bin .add (.t 48) (.t 51), none⟩,
    ⟨some 53, .bin .rem (.t 52) (.c (.int .i64 10007)), none⟩,
    ⟨some 54, .indexAddr none 1 (.t 39) (.t 42), none⟩,
    ⟨none, .store 1 (.t 54) (.t 53), none⟩])
def A_impl_times.r11 : ACode := (.region none [⟨some 55, .bin .add (.t 34) (.c (.int .i64 1)), none⟩,
    ⟨some 34, .move (.t 55), none⟩])
def A_impl_times.l0 : ACode := (.seq A_impl_times.r8 (.seq (.cond (.t 35) .skip (.exit 2)) (.seq (.block 3 (.seq A_impl_times.r9 A_impl_times.r10)) A_impl_times.r11)))
def A_impl_times.r12 : ACode := (.region none [⟨some 56, .bin .add (.t 27) (.c (.int .i64 1)), none⟩,
    ⟨some 27, .move (.t 56), none⟩])
def A_impl_times.l1 : ACode := (.seq A_impl_times.r5 (.seq (.cond (.t 28) .skip (.exit 0)) (.seq (.block 1 (.seq A_impl_times.r6 (.seq A_impl_times.r7 (.block 2 (.loop A_impl_times.l0))))) A_impl_times.r12)))
def A_impl_times.r13 : ACode := (.region none [⟨some 57, .move (.t 5), none⟩,
    ⟨some 58, .call 105 [(.t 57)], none⟩,
    ⟨some 4, .move (.t 58), none⟩])
def A_impl_times : AFunc := ⟨[.tmp 4], (.seq A_impl_times.r0 (.seq (.seq A_impl_times.r1 (.cond (.t 17) (.seq A_impl_times.r2 .ret) .skip)) (.seq A_impl_times.r3 (.seq (.seq A_impl_times.r4 (.block 0 (.loop A_impl_times.l1))) (.seq A_impl_times.r13 .ret)))))⟩
/-! spec_l06Chain -/
def A_spec_l06Chain.r0 : ACode := (.region none [⟨some 2, .move (.c (.slice none 0 0)), none⟩])
def A_spec_l06Chain.r1 : ACode := (.region none [⟨some 7, .buildSlice 1 1 [.int .i64 0] [(0, 1, (.c (.int .i64 1)))], none⟩,
    ⟨some 8, .buildSlice 1 2 [.int .i64 0] [(0, 1, (.c (.int .i64 0))), (1, 1, (.c (.int .i64 1)))], none⟩,
    ⟨some 3, .move (.t 7), none⟩,
    ⟨some 4, .move (.t 8), none⟩])
def A_spec_l06Chain.r2 : ACode := (.region none [⟨some 5, .move (.c (.int .i64 1)), none⟩])
def A_spec_l06Chain.r3 : ACode := (.region none [⟨some 9, .move (.t 5), none⟩,
    ⟨some 10, .move (.t 0), none⟩,
    ⟨some 11, .bin .lss (.t 9) (.t 10), none⟩])
def A_spec_l06Chain.r5 : ACode := (.region none [⟨some 14, .buildSlice 1 2 [.int .i64 0] [(0, 1, (.c (.int .i64 0))), (1, 1, (.c (.int .i64 2)))], none⟩,
    ⟨some 15, .move (.t 4), none⟩,
    ⟨some 16, .call 74 [(.t 14), (.t 15)], none⟩,
    ⟨some 17, .move (.t 3), none⟩,
    ⟨some 18, .call 72 [(.t 16), (.t 17), (.c (.int .i64 (-1)))], none⟩,
    ⟨some 6, .move (.t 18), none⟩])
def A_spec_l06Chain.r6 : ACode := (.region none [⟨some 19, .move (.t 4), none⟩,
    ⟨some 3, .move (.t 19), none⟩])
def A_spec_l06Chain.r7 : ACode := (.region none [⟨some 20, .move (.t 6), none⟩,
    ⟨some 4, .move (.t 20), none⟩])
def A_spec_l06Chain.r4 : ACode := (.region none [⟨some 12, .move (.t 5), none⟩,
    ⟨some 13, .bin .add (.t 12) (.c (.int .i64 1)), none⟩,
    ⟨some 5, .move (.t 13), none⟩])
def A_spec_l06Chain.l0 : ACode := (.seq (.seq A_spec_l06Chain.r3 (.cond (.t 11) .skip (.exit 0))) (.seq (.block 1 (.seq A_spec_l06Chain.r5 (.seq A_spec_l06Chain.r6 A_spec_l06Chain.r7))) A_spec_l06Chain.r4))
def A_spec_l06Chain.r8 : ACode := (.region none [⟨some 21, .move (.t 4), none⟩,
    ⟨some 2, .move (.t 21), none⟩])
def A_spec_l06Chain : AFunc := ⟨[.tmp 2], (.seq A_spec_l06Chain.r0 (.seq A_spec_l06Chain.r1 (.seq (.seq A_spec_l06Chain.r2 (.block 0 (.loop A_spec_l06Chain.l0))) (.seq A_spec_l06Chain.r8 .ret))))⟩
/-! laws_szInt64S -/
def A_laws_szInt64S.r0 : ACode := (.region none [⟨some 4, .move (.c (.int .i64 0)), none⟩])
def A_laws_szInt64S.r1 : ACode := (.region none [⟨some 5, .move (.t 1), none⟩,
    ⟨some 6, .move (.t 0), none⟩,
    ⟨some 7, .len (.t 6), none⟩,
    ⟨some 8, .bin .sub (.t 5) (.t 7), none⟩,
    ⟨some 1, .move (.t 8), none⟩])
def A_laws_szInt64S.r2 : ACode := (.region none [⟨some 9, .move (.t 1), none⟩,
    ⟨some 10, .bin .lss (.t 9) (.c (.int .i64 0)), none⟩])
def A_laws_szInt64S.r3 : ACode := (.region none [⟨some 4, .move (.c (.int .i64 (-1))), none⟩])
def A_laws_szInt64S.r4 : ACode := (.region none [⟨some 11, .move (.t 1), none⟩,
    ⟨some 4, .move (.t 11), none⟩])
def A_laws_szInt64S : AFunc := ⟨[.tmp 4], (.seq A_laws_szInt64S.r0 (.seq A_laws_szInt64S.r1 (.seq (.seq A_laws_szInt64S.r2 (.cond (.t 10) (.seq A_laws_szInt64S.r3 .ret) .skip)) (.seq A_laws_szInt64S.r4 .ret))))⟩
/-! spec_l04Is -/
def A_spec_l04Is.r0 : ACode := (.region none [⟨some 2, .move (.c (.bool false)), none⟩])
def A_spec_l04Is.r1 : ACode := (.region none [⟨some 4, .move (.t 0), none⟩,
    ⟨some 5, .len (.t 4), none⟩,
    ⟨some 6, .bin .neq (.t 5) (.c (.int .i64 3)), none⟩])
def A_spec_l04Is.r2 : ACode := (.region none [⟨some 2, .move (.c (.bool false)), none⟩])
def A_spec_l04Is.r3 : ACode := (.region none [⟨some 3, .move (.c (.int .i64 0)), none⟩])
def A_spec_l04Is.r4 : ACode := (.region none [⟨some 7, .move (.t 3), none⟩,
    ⟨some 8, .bin .lss (.t 7) (.c (.int .i64 3)), none⟩])
def A_spec_l04Is.r6 : ACode := (.region (some 18) [⟨some 11, .move (.t 0), none⟩,
    ⟨some 12, .move (.t 3), none⟩,
    ⟨some 13, .indexAddr none 1 (.t 11) (.t 12), none⟩,
    ⟨some 14, .load none (.t 13), none⟩,
    ⟨some 15, .call 106 [(.t 14)], none⟩,
    ⟨some 16, .not (.t 15), none⟩,
    ⟨some 17, .move (.t 16), none⟩,
    ⟨some 18, .move (.t 0), some (17, false)⟩,
    ⟨some 19, .move (.t 3), some (17, false)⟩,
    ⟨some 20, .indexAddr none 1 (.t 18) (.t 19), some (17, false)⟩,
    ⟨some 21, .load none (.t 20), some (17, false)⟩,
    ⟨some 22, .call 79 [(.t 21)], some (17, false)⟩,
    ⟨some 23, .move (.t 0), some (17, false)⟩,
    ⟨some 24, .indexAddr none 1 (.t 23) (.c (.int .i64 0)), some (17, false)⟩,
    ⟨some 25, .load none (.t 24), some (17, false)⟩,
    ⟨some 26, .call 79 [(.t 25)], some (17, false)⟩,
    ⟨some 27, .bin .neq (.t 22) (.t 26), some (17, false)⟩,
    ⟨some 28, .pick (.t 17) (.c (.bool true)) (.t 27), none⟩])
def A_spec_l04Is.r7 : ACode := (.region none [⟨some 2, .move (.c (.bool false)), none⟩])
def A_spec_l04Is.r5 : ACode := (.region none [⟨some 9, .move (.t 3), none⟩,
    ⟨some 10, .bin .add (.t 9) (.c (.int .i64 1)), none⟩,
    ⟨some 3, .move (.t 10), none⟩])
def A_spec_l04Is.l0 : ACode := (.seq (.seq A_spec_l04Is.r4 (.cond (.t 8) .skip (.exit 0))) (.seq (.block 1 (.seq A_spec_l04Is.r6 (.cond (.t 28) (.seq A_spec_l04Is.r7 .ret) .skip))) A_spec_l04Is.r5))
def A_spec_l04Is.r8 : ACode := (.region none [⟨some 2, .move (.c (.bool true)), none⟩])
def A_spec_l04Is : AFunc := ⟨[.tmp 2], (.seq A_spec_l04Is.r0 (.seq (.seq A_spec_l04Is.r1 (.cond (.t 6) (.seq A_spec_l04Is.r2 .ret) .skip)) (.seq (.seq A_spec_l04Is.r3 (.block 0 (.loop A_spec_l04Is.l0))) (.seq A_spec_l04Is.r8 .ret))))⟩
/-! spec_l04Sum -/
def A_spec_l04Sum.r0 : ACode := (.region none [⟨some 2, .move (.c (.int .i64 0)), none⟩])
def A_spec_l04Sum.r1 : ACode := (.region none [⟨some 3, .move (.c (.int .i64 0)), none⟩])
def A_spec_l04Sum.r2 : ACode := (.region none [⟨some 4, .move (.c (.int .i64 0)), none⟩])
def A_spec_l04Sum.r3 : ACode := (.region none [⟨some 5, .move (.t 4), none⟩,
    ⟨some 6, .move (.t 0), none⟩,
    ⟨some 7, .len (.t 6), none⟩,
    ⟨some 8, .bin .lss (.t 5) (.t 7), none⟩])
def A_spec_l04Sum.r5 : ACode := (.region none [⟨some 11, .move (.t 3), none⟩,
    ⟨some 12, .move (.t 0), none⟩,
    ⟨some 13, .move (.t 4), none⟩,
    ⟨some 14, .indexAddr none 1 (.t 12) (.t 13), none⟩,
    ⟨some 15, .load none (.t 14), none⟩,
    ⟨some 16, .bin .add (.t 11) (.t 15), none⟩,
    ⟨some 3, .move (.t 16), none⟩])
def A_spec_l04Sum.r4 : ACode := (.region none [⟨some 9, .move (.t 4), none⟩,
    ⟨some 10, .bin .add (.t 9) (.c (.int .i64 1)), none⟩,
    ⟨some 4, .move (.t 10), none⟩])
def A_spec_l04Sum.l0 : ACode := (.seq (.seq A_spec_l04Sum.r3 (.cond (.t 8) .skip (.exit 0))) (.seq (.block 1 A_spec_l04Sum.r5) A_spec_l04Sum.r4))
def A_spec_l04Sum.r6 : ACode := (.region none [⟨some 17, .move (.t 3), none⟩,
    ⟨some 2, .move (.t 17), none⟩])
def A_spec_l04Sum : AFunc := ⟨[.tmp 2], (.seq A_spec_l04Sum.r0 (.seq A_spec_l04Sum.r1 (.seq (.seq A_spec_l04Sum.r2 (.block 0 (.loop A_spec_l04Sum.l0))) (.seq A_spec_l04Sum.r6 .ret))))⟩
/-! impl_sumOfPassport -/
def A_impl_sumOfPassport.r0 : ACode := (.region none [⟨some 2, .move (.c (.int .i64 0)), none⟩])
def A_impl_sumOfPassport.r1 : ACode := (.region none [⟨some 4, .move (.t 0), none⟩,
    ⟨some 5, .len (.t 4), none⟩,
    ⟨some 6, .bin .neq (.t 5) (.c (.int .i64 3)), none⟩])
def A_impl_sumOfPassport.r2 : ACode := (.region none [⟨some 2, .move (.c (.int .i64 0)), none⟩])
def A_impl_sumOfPassport.r3 : ACode := (.region none [⟨some 7, .move (.t 0), none⟩,
    ⟨some 8, .indexAddr none 1 (.t 7) (.c (.int .i64 0)), none⟩,
    ⟨some 9, .load none (.t 8), none⟩,
    ⟨some 10, .call 68 [(.t 9)], none⟩,
    ⟨some 3, .move (.t 10), none⟩])
def A_impl_sumOfPassport.r4 : ACode := (.region none [⟨some 11, .move (.t 0), none⟩,
    ⟨some 12, .indexAddr none 1 (.t 11) (.c (.int .i64 1)), none⟩,
    ⟨some 13, .load none (.t 12), none⟩,
    ⟨some 14, .call 68 [(.t 13)], none⟩,
    ⟨some 15, .move (.t 3), none⟩,
    ⟨some 16, .bin .neq (.t 14) (.t 15), none⟩,
    ⟨some 17, .move (.t 16), none⟩,
    ⟨some 18, .move (.t 0), some (17, false)⟩,
    ⟨some 19, .indexAddr none 1 (.t 18) (.c (.int .i64 2)), some (17, false)⟩,
    ⟨some 20, .load none (.t 19), some (17, false)⟩,
    ⟨some 21, .call 68 [(.t 20)], some (17, false)⟩,
    ⟨some 22, .move (.t 3), some (17, false)⟩,
    ⟨some 23, .bin .neq (.t 21) (.t 22), some (17, false)⟩,
    ⟨some 24, .pick (.t 17) (.c (.bool true)) (.t 23), none⟩])
def A_impl_sumOfPassport.r5 : ACode := (.region none [⟨some 2, .move (.c (.int .i64 0)), none⟩])
def A_impl_sumOfPassport.r6 : ACode := (.region none [⟨some 25, .move (.t 3), none⟩,
    ⟨some 2, .move (.t 25), none⟩])
def A_impl_sumOfPassport : AFunc := ⟨[.tmp 2], (.seq A_impl_sumOfPassport.r0 (.seq (.seq A_impl_sumOfPassport.r1 (.cond (.t 6) (.seq A_impl_sumOfPassport.r2 .ret) .skip)) (.seq A_impl_sumOfPassport.r3 (.seq (.seq A_impl_sumOfPassport.r4 (.cond (.t 24) (.seq A_impl_sumOfPassport.r5 .ret) .skip)) (.seq A_impl_sumOfPassport.r6 .ret)))))⟩
/-! impl_eulerOf -/
def A_impl_eulerOf.r0 : ACode := (.region none [⟨some 4, .move (.c (.int .i64 0)), none⟩])
def A_impl_eulerOf.r1 : ACode := (.region (some 17) [⟨some 5, .move (.t 0), none⟩,
    ⟨some 6, .indexAddr none 1 (.t 5) (.c (.int .i64 0)), none⟩,
    ⟨some 7, .load none (.t 6), none⟩,
    ⟨some 8, .len (.t 7), none⟩,
    ⟨some 9, .move (.t 0), none⟩,
    ⟨some 10, .indexAddr none 1 (.t 9) (.c (.int .i64 1)), none⟩,
    ⟨some 11, .load none (.t 10), none⟩,
    ⟨some 12, .len (.t 11), none⟩,
    ⟨some 13, .bin .add (.t 8) (.t 12), none⟩,
    ⟨some 14, .move (.t 0), none⟩,
    ⟨some 15, .indexAddr none 1 (.t 14) (.c (.int .i64 2)), none⟩,
    ⟨some 16, .load none (.t 15), none⟩,
    ⟨some 17, .len (.t 16), none⟩,
    ⟨some 18, .bin .add (.t 13) (.t 17), none⟩,
    ⟨some 19, .move (.t 1), none⟩,
    ⟨some 20, .bin .sub (.t 18) (.t 19), none⟩,
    ⟨some 4, .move (.t 20), none⟩])
def A_impl_eulerOf : AFunc := ⟨[.tmp 4], (.seq A_impl_eulerOf.r0 (.seq A_impl_eulerOf.r1 .ret))⟩
/-! spec_l06Fork -/
def A_spec_l06Fork.r0 : ACode := (.region none [⟨some 4, .move (.c (.slice none 0 0)), none⟩])
def A_spec_l06Fork.r1 : ACode := (.region none [⟨some 8, .move (.t 0), none⟩,
    ⟨some 9, .call 59 [(.c (.int .i64 1)), (.t 8)], none⟩,
    ⟨some 5, .move (.t 9), none⟩])
def A_spec_l06Fork.r2 : ACode := (.region none [⟨some 6, .move (.c (.int .i64 0)), none⟩])
def A_spec_l06Fork.r3 : ACode := (.region none [⟨some 10, .move (.t 6), none⟩,
    ⟨some 11, .move (.t 1), none⟩,
    ⟨some 12, .bin .lss (.t 10) (.t 11), none⟩])
def A_spec_l06Fork.r5 : ACode := (.region none [⟨some 15, .move (.t 5), none⟩,
    ⟨some 16, .buildSlice 1 2 [.int .i64 0] [(0, 1, (.c (.int .i64 1))), (1, 1, (.c (.int .i64 10006)))], none⟩,
    ⟨some 17, .call 74 [(.t 15), (.t 16)], none⟩,
    ⟨some 5, .move (.t 17), none⟩])
def A_spec_l06Fork.r4 : ACode := (.region none [⟨some 13, .move (.t 6), none⟩,
    ⟨some 14, .bin .add (.t 13) (.c (.int .i64 1)), none⟩,
    ⟨some 6, .move (.t 14), none⟩])
def A_spec_l06Fork.l0 : ACode := (.seq (.seq A_spec_l06Fork.r3 (.cond (.t 12) .skip (.exit 0))) (.seq (.block 1 A_spec_l06Fork.r5) A_spec_l06Fork.r4))
def A_spec_l06Fork.r6 : ACode := (.region none [⟨some 18, .move (.t 0), none⟩,
    ⟨some 19, .move (.t 0), none⟩,
    ⟨some 20, .move (.t 1), none⟩,
    ⟨some 21, .bin .add (.t 19) (.t 20), none⟩,
    ⟨some 22, .call 107 [(.t 21)], none⟩,
    ⟨some 23, .bin .mul (.t 18) (.t 22), none⟩,
    ⟨some 24, .call 103 [(.t 23)], none⟩,
    ⟨some 7, .move (.t 24), none⟩])
def A_spec_l06Fork.r7 : ACode := (.region none [⟨some 25, .move (.t 5), none⟩,
    ⟨some 26, .move (.t 5), none⟩,
    ⟨some 27, .move (.t 7), none⟩,
    ⟨some 28, .call 61 [(.t 26), (.t 27)], none⟩,
    ⟨some 29, .call 107 [(.t 28)], none⟩,
    ⟨some 30, .call 72 [(.c (.slice none 0 0)), (.t 25), (.t 29)], none⟩,
    ⟨some 4, .move (.t 30), none⟩])
def A_spec_l06Fork : AFunc := ⟨[.tmp 4], (.seq A_spec_l06Fork.r0 (.seq A_spec_l06Fork.r1 (.seq (.seq A_spec_l06Fork.r2 (.block 0 (.loop A_spec_l06Fork.l0))) (.seq A_spec_l06Fork.r6 (.seq A_spec_l06Fork.r7 .ret)))))⟩
/-! impl_power -/
def A_impl_power.r0 : ACode := (.region none [⟨some 4, .move (.c (.int .i64 0)), none⟩])
def A_impl_power.r1 : ACode := (.region none [⟨some 5, .move (.c (.int .i64 1)), none⟩])
def A_impl_power.r2 : ACode := (.region none [⟨some 6, .move (.t 1), none⟩,
    ⟨some 7, .bin .gtr (.t 6) (.c (.int .i64 0)), none⟩])
def A_impl_power.r4 : ACode := (.region none [⟨some 10, .move (.t 5), none⟩,
    ⟨some 11, .move (.t 0), none⟩,
    ⟨some 12, .bin .mul (.t 10) (.t 11), none⟩,
    ⟨some 13, .bin .rem (.t 12) (.c (.int .i64 10007)), none⟩,
    ⟨some 5, .move (.t 13), none⟩])
def A_impl_power.r3 : ACode := (.region none [⟨some 8, .move (.t 1), none⟩,
    ⟨some 9, .bin .sub (.t 8) (.c (.int .i64 1)), none⟩,
    ⟨some 1, .move (.t 9), none⟩])
def A_impl_power.l0 : ACode := (.seq (.seq A_impl_power.r2 (.cond (.t 7) .skip (.exit 0))) (.seq (.block 1 A_impl_power.r4) A_impl_power.r3))
def A_impl_power.r5 : ACode := (.region none [⟨some 14, .move (.t 5), none⟩,
    ⟨some 4, .move (.t 14), none⟩])
def A_impl_power : AFunc := ⟨[.tmp 4], (.seq A_impl_power.r0 (.seq A_impl_power.r1 (.seq (.block 0 (.loop A_impl_power.l0)) (.seq A_impl_power.r5 .ret))))⟩
/-! impl_inverse -/
def A_impl_inverse.r0 : ACode := (.region none [⟨some 2, .move (.c (.int .i64 0)), none⟩])
def A_impl_inverse.r1 : ACode := (.region none [⟨some 6, .move (.t 0), none⟩,
    ⟨some 3, .move (.c (.int .i64 1)), none⟩,
    ⟨some 4, .move (.t 6), none⟩])
def A_impl_inverse.r2 : ACode := (.region none [⟨some 5, .move (.c (.int .i64 10005)), none⟩])
def A_impl_inverse.r3 : ACode := (.region none [⟨some 7, .move (.t 5), none⟩,
    ⟨some 8, .bin .gtr (.t 7) (.c (.int .i64 0)), none⟩])
def A_impl_inverse.r5 : ACode := (.region none [⟨some 11, .move (.t 5), none⟩,
    ⟨some 12, .bin .rem (.t 11) (.c (.int .i64 2)), none⟩,
    ⟨some 13, .bin .eql (.t 12) (.c (.int .i64 1)), none⟩])
def A_impl_inverse.r6 : ACode := (.region none [⟨some 14, .move (.t 3), none⟩,
    ⟨some 15, .move (.t 4), none⟩,
    ⟨some 16, .bin .mul (.t 14) (.t 15), none⟩,
    ⟨some 17, .bin .rem (.t 16) (.c (.int .i64 10007)), none⟩,
    ⟨some 3, .move (.t 17), none⟩])
def A_impl_inverse.r7 : ACode := (.region none [⟨some 18, .move (.t 4), none⟩,
    ⟨some 19, .move (.t 4), none⟩,
    ⟨some 20, .bin .mul (.t 18) (.t 19), none⟩,
    ⟨some 21, .bin .rem (.t 20) (.c (.int .i64 10007)), none⟩,
    ⟨some 4, .move (.t 21), none⟩])
def A_impl_inverse.r4 : ACode := (.region none [⟨some 9, .move (.t 5), none⟩,
    ⟨some 10, .bin .quo (.t 9) (.c (.int .i64 2)), none⟩,
    ⟨some 5, .move (.t 10), none⟩])
def A_impl_inverse.l0 : ACode := (.seq (.seq A_impl_inverse.r3 (.cond (.t 8) .skip (.exit 0))) (.seq (.block 1 (.seq (.seq A_impl_inverse.r5 (.cond (.t 13) A_impl_inverse.r6 .skip)) A_impl_inverse.r7)) A_impl_inverse.r4))
def A_impl_inverse.r8 : ACode := (.region none [⟨some 22, .move (.t 3), none⟩,
    ⟨some 2, .move (.t 22), none⟩])
def A_impl_inverse : AFunc := ⟨[.tmp 2], (.seq A_impl_inverse.r0 (.seq A_impl_inverse.r1 (.seq (.seq A_impl_inverse.r2 (.block 0 (.loop A_impl_inverse.l0))) (.seq A_impl_inverse.r8 .ret))))⟩
/-! spec_l06Compose -/
def A_spec_l06Compose.r0 : ACode := (.region none [⟨some 4, .move (.c (.slice none 0 0)), none⟩])
def A_spec_l06Compose.r1 : ACode := (.region none [⟨some 7, .buildSlice 1 0 [.int .i64 0] [], none⟩,
    ⟨some 5, .move (.t 7), none⟩])
def A_spec_l06Compose.r2 : ACode := (.region none [⟨some 8, .move (.t 0), none⟩,
    ⟨some 9, .len (.t 8), none⟩,
    ⟨some 10, .bin .sub (.t 9) (.c (.int .i64 1)), none⟩,
    ⟨some 6, .move (.t 10), none⟩])
def A_spec_l06Compose.r3 : ACode := (.region none [⟨some 11, .move (.t 6), none⟩,
    ⟨some 12, .bin .geq (.t 11) (.c (.int .i64 0)), none⟩])
def A_spec_l06Compose.r5 : ACode := (.region (some 11) [⟨some 15, .move (.t 5), none⟩,
    ⟨some 16, .move (.t 1), none⟩,
    ⟨some 17, .call 74 [(.t 15), (.t 16)], none⟩,
    ⟨some 18, .move (.t 0), none⟩,
    ⟨some 19, .move (.t 6), none⟩,
    ⟨some 20, .indexAddr none 1 (.t 18) (.t 19), none⟩,
    ⟨some 21, .load none (.t 20), none⟩,
    ⟨some 22, .buildSlice 1 1 [.int .i64 0] [(0, 1, (.t 21))], none⟩,
    ⟨some 23, .call 104 [(.t 22)], none⟩,
    ⟨some 24, .call 72 [(.t 17), (.t 23), (.c (.int .i64 1))], none⟩,
    ⟨some 5, .move (.t 24), none⟩])
def A_spec_l06Compose.r4 : ACode := (.region none [⟨some 13, .move (.t 6), none⟩,
    ⟨some 14, .bin .sub (.t 13) (.c (.int .i64 1)), none⟩,
    ⟨some 6, .move (.t 14), none⟩])
def A_spec_l06Compose.l0 : ACode := (.seq (.seq A_spec_l06Compose.r3 (.cond (.t 12) .skip (.exit 0))) (.seq (.block 1 A_spec_l06Compose.r5) A_spec_l06Compose.r4))
def A_spec_l06Compose.r6 : ACode := (.region none [⟨some 25, .move (.t 5), none⟩,
    ⟨some 4, .move (.t 25), none⟩])
def A_spec_l06Compose : AFunc := ⟨[.tmp 4], (.seq A_spec_l06Compose.r0 (.seq A_spec_l06Compose.r1 (.seq (.seq A_spec_l06Compose.r2 (.block 0 (.loop A_spec_l06Compose.l0))) (.seq A_spec_l06Compose.r6 .ret))))⟩
/-! spec_l06Common -/
def A_spec_l06Common.r0 : ACode := (.region none [⟨some 4, .move (.c (.slice none 0 0)), none⟩])
def A_spec_l06Common.r1 : ACode := (.region none [⟨some 7, .move (.t 1), none⟩,
    ⟨some 8, .len (.t 7), none⟩,
    ⟨some 9, .bin .gtr (.t 8) (.c (.int .i64 0)), none⟩])
def A_spec_l06Common.r2 : ACode := (.region none [⟨some 11, .move (.t 0), none⟩,
    ⟨some 12, .move (.t 1), none⟩,
    ⟨some 13, .call 108 [(.t 11), (.t 12)], none⟩,
    ⟨some 10, .move (.t 13), none⟩,
    ⟨some 14, .extract (.t 10) 0, none⟩,
    ⟨some 15, .extract (.t 10) 1, none⟩,
    ⟨some 5, .move (.t 14), none⟩,
    ⟨some 6, .move (.t 15), none⟩])
def A_spec_l06Common.r3 : ACode := (.region none [⟨some 16, .move (.t 1), none⟩,
    ⟨some 0, .move (.t 16), none⟩])
def A_spec_l06Common.r4 : ACode := (.region none [⟨some 17, .move (.t 6), none⟩,
    ⟨some 1, .move (.t 17), none⟩])
def A_spec_l06Common.l0 : ACode := (.seq (.seq A_spec_l06Common.r1 (.cond (.t 9) .skip (.exit 0))) (.block 1 (.seq A_spec_l06Common.r2 (.seq A_spec_l06Common.r3 A_spec_l06Common.r4))))
def A_spec_l06Common.r5 : ACode := (.region none [⟨some 18, .move (.t 0), none⟩,
    ⟨some 19, .call 109 [(.t 18)], none⟩,
    ⟨some 4, .move (.t 19), none⟩])
def A_spec_l06Common : AFunc := ⟨[.tmp 4], (.seq A_spec_l06Common.r0 (.seq (.block 0 (.loop A_spec_l06Common.l0)) (.seq A_spec_l06Common.r5 .ret)))⟩
/-! impl_common -/
def A_impl_common.r0 : ACode := (.region none [⟨some 4, .move (.c (.slice none 0 0)), none⟩])
def A_impl_common.r1 : ACode := (.region none [⟨some 7, .move (.t 1), none⟩,
    ⟨some 8, .len (.t 7), none⟩,
    ⟨some 9, .bin .gtr (.t 8) (.c (.int .i64 0)), none⟩])
def A_impl_common.r2 : ACode := (.region none [⟨some 11, .move (.t 0), none⟩,
    ⟨some 12, .move (.t 1), none⟩,
    ⟨some 13, .call 110 [(.t 11), (.t 12)], none⟩,
    ⟨some 10, .move (.t 13), none⟩,
    ⟨some 14, .extract (.t 10) 0, none⟩,
    ⟨some 15, .extract (.t 10) 1, none⟩,
    ⟨some 5, .move (.t 14), none⟩,
    ⟨some 6, .move (.t 15), none⟩])
def A_impl_common.r3 : ACode := (.region none [⟨some 16, .move (.t 1), none⟩,
    ⟨some 17, .move (.t 6), none⟩,
    ⟨some 0, .move (.t 16), none⟩,
    ⟨some 1, .move (.t 17), none⟩])
def A_impl_common.l0 : ACode := (.seq (.seq A_impl_common.r1 (.cond (.t 9) .skip (.exit 0))) (.block 1 (.seq A_impl_common.r2 A_impl_common.r3)))
def A_impl_common.r4 : ACode := (.region none [⟨some 18, .move (.t 0), none⟩,
    ⟨some 19, .move (.t 0), none⟩,
    ⟨some 20, .move (.t 0), none⟩,
    ⟨some 21, .len (.t 20), none⟩,
    ⟨some 22, .bin .sub (.t 21) (.c (.int .i64 1)), none⟩,
    ⟨some 23, .indexAddr none 1 (.t 19) (.t 22), none⟩,
    ⟨some 24, .load none (.t 23), none⟩,
    ⟨some 25, .call 84 [(.t 24)], none⟩,
    ⟨some 26, .buildSlice 1 1 [.int .i64 0] [(0, 1, (.t 25))], none⟩,
    ⟨some 27, .call 75 [(.t 18), (.t 26)], none⟩,
    ⟨some 4, .move (.t 27), none⟩])
def A_impl_common : AFunc := ⟨[.tmp 4], (.seq A_impl_common.r0 (.seq (.block 0 (.loop A_impl_common.l0)) (.seq A_impl_common.r4 .ret)))⟩
/-! spec_l06Code -/
def A_spec_l06Code.r0 : ACode := (.region none [⟨some 4, .move (.c (.int .i64 0)), none⟩])
def A_spec_l06Code.r1 : ACode := (.region none [⟨some 6, .move (.t 0), none⟩,
    ⟨some 7, .call 56 [(.t 6)], none⟩,
    ⟨some 8, .not (.t 7), none⟩])
def A_spec_l06Code.r2 : ACode := (.region none [⟨some 4, .move (.c (.int .i64 1)), none⟩])
def A_spec_l06Code.r3 : ACode := (.region none [⟨some 5, .move (.c (.int .i64 0)), none⟩])
def A_spec_l06Code.r4 : ACode := (.region none [⟨some 9, .move (.t 5), none⟩,
    ⟨some 10, .move (.t 1), none⟩,
    ⟨some 11, .len (.t 10), none⟩,
    ⟨some 12, .bin .lss (.t 9) (.t 11), none⟩])
def A_spec_l06Code.r6 : ACode := (.region none [⟨some 15, .move (.t 1), none⟩,
    ⟨some 16, .move (.t 5), none⟩,
    ⟨some 17, .indexAddr none 1 (.t 15) (.t 16), none⟩,
    ⟨some 18, .load none (.t 17), none⟩,
    ⟨some 19, .call 58 [(.t 18), (.c (.int .i64 0)), (.c (.int .i64 10006))], none⟩,
    ⟨some 20, .not (.t 19), none⟩])
def A_spec_l06Code.r7 : ACode := (.region none [⟨some 4, .move (.c (.int .i64 2)), none⟩])
def A_spec_l06Code.r5 : ACode := (.region none [⟨some 13, .move (.t 5), none⟩,
    ⟨some 14, .bin .add (.t 13) (.c (.int .i64 1)), none⟩,
    ⟨some 5, .move (.t 14), none⟩])
def A_spec_l06Code.l0 : ACode := (.seq (.seq A_spec_l06Code.r4 (.cond (.t 12) .skip (.exit 0))) (.seq (.block 1 (.seq A_spec_l06Code.r6 (.cond (.t 20) (.seq A_spec_l06Code.r7 .ret) .skip))) A_spec_l06Code.r5))
def A_spec_l06Code.r8 : ACode := (.region none [⟨some 21, .move (.t 0), none⟩,
    ⟨some 22, .len (.t 21), none⟩,
    ⟨some 23, .bin .lss (.t 22) (.c (.int .i64 2)), none⟩])
def A_spec_l06Code.r9 : ACode := (.region none [⟨some 4, .move (.c (.int .i64 2)), none⟩])
def A_spec_l06Code.r10 : ACode := (.region none [⟨some 4, .move (.c (.int .i64 0)), none⟩])
def A_spec_l06Code : AFunc := ⟨[.tmp 4], (.seq A_spec_l06Code.r0 (.seq (.seq A_spec_l06Code.r1 (.cond (.t 8) (.seq A_spec_l06Code.r2 .ret) .skip)) (.seq (.seq A_spec_l06Code.r3 (.block 0 (.loop A_spec_l06Code.l0))) (.seq (.seq A_spec_l06Code.r8 (.cond (.t 23) (.seq A_spec_l06Code.r9 .ret) .skip)) (.seq A_spec_l06Code.r10 .ret)))))⟩
/-! spec_l06Multiplicities -/
def A_spec_l06Multiplicities.r0 : ACode := (.region none [⟨some 4, .move (.c (.slice none 0 0)), none⟩])
def A_spec_l06Multiplicities.r1 : ACode := (.region none [⟨some 12, .move (.t 0), none⟩,
    ⟨some 13, .move (.t 1), none⟩,
    ⟨some 14, .buildSlice 1 1 [.int .i64 0] [(0, 1, (.t 13))], none⟩,
    ⟨some 15, .call 104 [(.t 14)], none⟩,
    ⟨some 16, .call 72 [(.t 12), (.t 15), (.c (.int .i64 (-1)))], none⟩,
    ⟨some 17, .buildSlice 1 0 [.int .i64 0] [], none⟩,
    ⟨some 5, .move (.t 16), none⟩,
    ⟨some 6, .move (.t 17), none⟩])
def A_spec_l06Multiplicities.r2 : ACode := (.region none [⟨some 18, .move (.t 5), none⟩,
    ⟨some 19, .len (.t 18), none⟩,
    ⟨some 20, .bin .gtr (.t 19) (.c (.int .i64 1)), none⟩])
def A_spec_l06Multiplicities.r3 : ACode := (.region none [⟨some 21, .move (.t 5), none⟩,
    ⟨some 22, .move (.t 5), none⟩,
    ⟨some 23, .call 62 [(.t 22)], none⟩,
    ⟨some 24, .call 86 [(.t 21), (.t 23)], none⟩,
    ⟨some 7, .move (.t 24), none⟩])
def A_spec_l06Multiplicities.r4 : ACode := (.region none [⟨some 25, .move (.t 6), none⟩,
    ⟨some 26, .move (.t 5), none⟩,
    ⟨some 27, .len (.t 26), none⟩,
    ⟨some 28, .move (.t 7), none⟩,
    ⟨some 29, .len (.t 28), none⟩,
    ⟨some 30, .bin .sub (.t 27) (.t 29), none⟩,
    ⟨some 31, .buildSlice 1 1 [.int .i64 0] [(0, 1, (.t 30))], none⟩,
    ⟨some 32, .append 1 8 (.t 25) (.t 31), none⟩,
    ⟨some 6, .move (.t 32), none⟩])
def A_spec_l06Multiplicities.r5 : ACode := (.region none [⟨some 33, .move (.t 7), none⟩,
    ⟨some 5, .move (.t 33), none⟩])
def A_spec_l06Multiplicities.l0 : ACode := (.seq (.seq A_spec_l06Multiplicities.r2 (.cond (.t 20) .skip (.exit 0))) (.block 1 (.seq A_spec_l06Multiplicities.r3 (.seq A_spec_l06Multiplicities.r4 A_spec_l06Multiplicities.r5))))
def A_spec_l06Multiplicities.r6 : ACode := (.region none [⟨some 34, .buildSlice 1 0 [.int .i64 0] [], none⟩,
    ⟨some 8, .move (.t 34), none⟩])
def A_spec_l06Multiplicities.r7 : ACode := (.region none [⟨some 35, .move (.t 6), none⟩,
    ⟨some 36, .len (.t 35), none⟩,
    ⟨some 9, .move (.t 36), none⟩])
def A_spec_l06Multiplicities.r8 : ACode := (.region none [⟨some 37, .move (.t 9), none⟩,
    ⟨some 38, .bin .gtr (.t 37) (.c (.int .i64 0)), none⟩])
def A_spec_l06Multiplicities.r10 : ACode := (.region none [⟨some 10, .move (.c (.int .i64 0)), none⟩])
def A_spec_l06Multiplicities.r11 : ACode := (.region none [⟨some 41, .move (.t 9), none⟩,
    ⟨some 42, .move (.t 6), none⟩,
    ⟨some 43, .len (.t 42), none⟩,
    ⟨some 44, .bin .lss (.t 41) (.t 43), none⟩])
def A_spec_l06Multiplicities.r12 : ACode := (.region none [⟨some 45, .move (.t 6), none⟩,
    ⟨some 46, .move (.t 9), none⟩,
    ⟨some 47, .indexAddr none 1 (.t 45) (.t 46), none⟩,
    ⟨some 48, .load none (.t 47), none⟩,
    ⟨some 10, .move (.t 48), none⟩])
def A_spec_l06Multiplicities.r13 : ACode := (.region none [⟨some 49, .move (.t 6), none⟩,
    ⟨some 50, .move (.t 9), none⟩,
    ⟨some 51, .bin .sub (.t 50) (.c (.int .i64 1)), none⟩,
    ⟨some 52, .indexAddr none 1 (.t 49) (.t 51), none⟩,
    ⟨some 53, .load none (.t 52), none⟩,
    ⟨some 54, .move (.t 10), none⟩,
    ⟨some 55, .bin .sub (.t 53) (.t 54), none⟩,
    ⟨some 11, .move (.t 55), none⟩])
def A_spec_l06Multiplicities.r14 : ACode := (.region none [⟨some 56, .move (.t 11), none⟩,
    ⟨some 57, .bin .gtr (.t 56) (.c (.int .i64 0)), none⟩])
def A_spec_l06Multiplicities.r16 : ACode := (.region none [⟨some 60, .move (.t 8), none⟩,
    ⟨some 61, .move (.t 9), none⟩,
    ⟨some 62, .buildSlice 1 1 [.int .i64 0] [(0, 1, (.t 61))], none⟩,
    ⟨some 63, .append 1 8 (.t 60) (.t 62), none⟩,
    ⟨some 8, .move (.t 63), none⟩])
def A_spec_l06Multiplicities.r15 : ACode := (.region none [⟨some 58, .move (.t 11), none⟩,
    ⟨some 59, .bin .sub (.t 58) (.c (.int .i64 1)), none⟩,
    ⟨some 11, .move (.t 59), none⟩])
def A_spec_l06Multiplicities.l1 : ACode := (.seq (.seq A_spec_l06Multiplicities.r14 (.cond (.t 57) .skip (.exit 4))) (.seq (.block 5 A_spec_l06Multiplicities.r16) A_spec_l06Multiplicities.r15))
def A_spec_l06Multiplicities.r9 : ACode := (.region none [⟨some 39, .move (.t 9), none⟩,
    ⟨some 40, .bin .sub (.t 39) (.c (.int .i64 1)), none⟩,
    ⟨some 9, .move (.t 40), none⟩])
def A_spec_l06Multiplicities.l2 : ACode := (.seq (.seq A_spec_l06Multiplicities.r8 (.cond (.t 38) .skip (.exit 2))) (.seq (.block 3 (.seq A_spec_l06Multiplicities.r10 (.seq (.seq A_spec_l06Multiplicities.r11 (.cond (.t 44) A_spec_l06Multiplicities.r12 .skip)) (.seq A_spec_l06Multiplicities.r13 (.block 4 (.loop A_spec_l06Multiplicities.l1)))))) A_spec_l06Multiplicities.r9))
def A_spec_l06Multiplicities.r17 : ACode := (.region none [⟨some 64, .move (.t 8), none⟩,
    ⟨some 4, .move (.t 64), none⟩])
def A_spec_l06Multiplicities : AFunc := ⟨[.tmp 4], (.seq A_spec_l06Multiplicities.r0 (.seq A_spec_l06Multiplicities.r1 (.seq (.block 0 (.loop A_spec_l06Multiplicities.l0)) (.seq A_spec_l06Multiplicities.r6 (.seq (.seq A_spec_l06Multiplicities.r7 (.block 2 (.loop A_spec_l06Multiplicities.l2))) (.seq A_spec_l06Multiplicities.r17 .ret))))))⟩
/-! impl_polynomialCode -/
def A_impl_polynomialCode.r0 : ACode := (.region none [⟨some 4, .move (.c (.int .i64 0)), none⟩])
def A_impl_polynomialCode.r1 : ACode := (.region none [⟨some 7, .move (.t 0), none⟩,
    ⟨some 8, .call 2 [(.t 7)], none⟩,
    ⟨some 9, .not (.t 8), none⟩])
def A_impl_polynomialCode.r2 : ACode := (.region none [⟨some 4, .move (.c (.int .i64 1)), none⟩])
def A_impl_polynomialCode.r3 : ACode := (.region none [⟨some 10, .move (.t 1), none⟩,
    ⟨some 11, .len (.t 10), none⟩,
    ⟨some 12, .move (.c (.int .i64 0)), none⟩])
def A_impl_polynomialCode.r4 : ACode := (.region none [⟨some 13, .bin .lss (.t 12) (.t 11), none⟩])
def A_impl_polynomialCode.r5 : ACode := (.region none [⟨some 14, .indexAddr none 1 (.t 10) (.t 12), none⟩,
    ⟨some 15, .load none (.t 14), none⟩,
    ⟨some 6, .move (.t 15), none⟩])
def A_impl_polynomialCode.r6 : ACode := (.region none [⟨some 16, .move (.t 6), none⟩,
    ⟨some 17, .call 57 [(.t 16)], none⟩,
    ⟨some 18, .not (.t 17), none⟩])
def A_impl_polynomialCode.r7 : ACode := (.region none [⟨some 4, .move (.c (.int .i64 2)), none⟩])
def A_impl_polynomialCode.r8 : ACode := (.region none [⟨some 19, .bin .add (.t 12) (.c (.int .i64 1)), none⟩,
    ⟨some 12, .move (.t 19), none⟩])
def A_impl_polynomialCode.l0 : ACode := (.seq A_impl_polynomialCode.r4 (.seq (.cond (.t 13) .skip (.exit 0)) (.seq (.block 1 (.seq A_impl_polynomialCode.r5 (.seq A_impl_polynomialCode.r6 (.cond (.t 18) (.seq A_impl_polynomialCode.r7 .ret) .skip)))) A_impl_polynomialCode.r8)))
def A_impl_polynomialCode.r9 : ACode := (.region none [⟨some 20, .move (.t 0), none⟩,
    ⟨some 21, .len (.t 20), none⟩,
    ⟨some 22, .bin .lss (.t 21) (.c (.int .i64 2)), none⟩])
def A_impl_polynomialCode.r10 : ACode := (.region none [⟨some 4, .move (.c (.int .i64 2)), none⟩])
def A_impl_polynomialCode.r11 : ACode := (.region none [⟨some 4, .move (.c (.int .i64 0)), none⟩])
def A_impl_polynomialCode : AFunc := ⟨[.tmp 4], (.seq A_impl_polynomialCode.r0 (.seq (.seq A_impl_polynomialCode.r1 (.cond (.t 9) (.seq A_impl_polynomialCode.r2 .ret) .skip)) (.seq (.seq A_impl_polynomialCode.r3 (.block 0 (.loop A_impl_polynomialCode.l0))) (.seq (.seq A_impl_polynomialCode.r9 (.cond (.t 22) (.seq A_impl_polynomialCode.r10 .ret) .skip)) (.seq A_impl_polynomialCode.r11 .ret)))))⟩
/-! impl_multiplicities -/
def A_impl_multiplicities.r0 : ACode := (.region none [⟨some 4, .move (.c (.slice none 0 0)), none⟩])
def A_impl_multiplicities.r1 : ACode := (.region none [⟨some 10, .move (.t 0), none⟩,
    ⟨some 11, .move (.t 1), none⟩,
    ⟨some 12, .bin .sub (.c (.int .i64 10007)) (.t 11), none⟩,
    ⟨some 13, .buildSlice 1 1 [.int .i64 0] [(0, 1, (.t 12))], none⟩,
    ⟨some 14, .call 73 [(.t 10), (.t 13)], none⟩,
    ⟨some 0, .move (.t 14), none⟩])
def A_impl_multiplicities.r2 : ACode := (.region none [⟨some 15, .buildSlice 1 0 [.int .i64 0] [], none⟩,
    ⟨some 5, .move (.t 15), none⟩])
def A_impl_multiplicities.r3 : ACode := (.region none [⟨some 16, .move (.t 0), none⟩,
    ⟨some 17, .len (.t 16), none⟩,
    ⟨some 18, .bin .gtr (.t 17) (.c (.int .i64 1)), none⟩])
def A_impl_multiplicities.r4 : ACode := (.region none [⟨some 19, .move (.t 0), none⟩,
    ⟨some 20, .move (.t 0), none⟩,
    ⟨some 21, .call 63 [(.t 20)], none⟩,
    ⟨some 22, .call 87 [(.t 19), (.t 21)], none⟩,
    ⟨some 6, .move (.t 22), none⟩])
def A_impl_multiplicities.r5 : ACode := (.region none [⟨some 23, .move (.t 5), none⟩,
    ⟨some 24, .move (.t 0), none⟩,
    ⟨some 25, .len (.t 24), none⟩,
    ⟨some 26, .move (.t 6), none⟩,
    ⟨some 27, .len (.t 26), none⟩,
    ⟨some 28, .bin .sub (.t 25) (.t 27), none⟩,
    ⟨some 29, .buildSlice 1 1 [.int .i64 0] [(0, 1, (.t 28))], none⟩,
    ⟨some 30, .append 1 8 (.t 23) (.t 29), none⟩,
    ⟨some 5, .move (.t 30), none⟩])
def A_impl_multiplicities.r6 : ACode := (.region none [⟨some 31, .move (.t 6), none⟩,
    ⟨some 0, .move (.t 31), none⟩])
def A_impl_multiplicities.l0 : ACode := (.seq (.seq A_impl_multiplicities.r3 (.cond (.t 18) .skip (.exit 0))) (.block 1 (.seq A_impl_multiplicities.r4 (.seq A_impl_multiplicities.r5 A_impl_multiplicities.r6))))
def A_impl_multiplicities.r7 : ACode := (.region none [⟨some 32, .buildSlice 1 0 [.int .i64 0] [], none⟩,
    ⟨some 7, .move (.t 32), none⟩])
def A_impl_multiplicities.r8 : ACode := (.region none [⟨some 33, .move (.t 5), none⟩,
    ⟨some 34, .len (.t 33), none⟩,
    ⟨some 35, .bin .sub (.t 34) (.c (.int .i64 1)), none⟩,
    ⟨some 8, .move (.t 35), none⟩])
def A_impl_multiplicities.r9 : ACode := (.region none [⟨some 36, .move (.t 8), none⟩,
    ⟨some 37, .bin .geq (.t 36) (.c (.int .i64 0)), none⟩])
def A_impl_multiplicities.r11 : ACode := (.region none [⟨some 9, .move (.c (.int .i64 0)), none⟩])
def A_impl_multiplicities.r12 : ACode := (.region none [⟨some 40, .move (.t 8), none⟩,
    ⟨some 41, .bin .add (.t 40) (.c (.int .i64 1)), none⟩,
    ⟨some 42, .move (.t 5), none⟩,
    ⟨some 43, .len (.t 42), none⟩,
    ⟨some 44, .bin .lss (.t 41) (.t 43), none⟩])
def A_impl_multiplicities.r13 : ACode := (.region none [⟨some 45, .move (.t 5), none⟩,
    ⟨some 46, .move (.t 8), none⟩,
    ⟨some 47, .bin .add (.t 46) (.c (.int .i64 1)), none⟩,
    ⟨some 48, .indexAddr none 1 (.t 45) (.t 47), none⟩,
    ⟨some 49, .load none (.t 48), none⟩,
    ⟨some 9, .move (.t 49), none⟩])
def A_impl_multiplicities.r14 : ACode := (.region none [⟨some 50, .move (.t 5), none⟩,
    ⟨some 51, .move (.t 8), none⟩,
    ⟨some 52, .indexAddr none 1 (.t 50) (.t 51), none⟩,
    ⟨some 53, .load none (.t 52), none⟩,
    ⟨some 54, .move (.t 9), none⟩,
    ⟨some 55, .bin .sub (.t 53) (.t 54), none⟩,
    ⟨some 56, .move (.c (.int .i64 0)), none⟩])
def A_impl_multiplicities.r15 : ACode := (.region none [⟨some 57, .bin .lss (.t 56) (.t 55), none⟩])
def A_impl_multiplicities.r16 : ACode := (.region none [⟨some 58, .move (.t 7), none⟩,
    ⟨some 59, .move (.t 8), none⟩,
    ⟨some 60, .bin .add (.t 59) (.c (.int .i64 1)), none⟩,
    ⟨some 61, .buildSlice 1 1 [.int .i64 0] [(0, 1, (.t 60))], none⟩,
    ⟨some 62, .append 1 8 (.t 58) (.t 61), none⟩,
    ⟨some 7, .move (.t 62), none⟩])
def A_impl_multiplicities.r17 : ACode := (.region none [⟨some 63, .bin .add (.t 56) (.c (.int .i64 1)), none⟩,
    ⟨some 56, .move (.t 63), none⟩])
def A_impl_multiplicities.l1 : ACode := (.seq A_impl_multiplicities.r15 (.seq (.cond (.t 57) .skip (.exit 4)) (.seq (.block 5 A_impl_multiplicities.r16) A_impl_multiplicities.r17)))
def A_impl_multiplicities.r10 : ACode := (.region none [⟨some 38, .move (.t 8), none⟩,
    ⟨some 39, .bin .sub (.t 38) (.c (.int .i64 1)), none⟩,
    ⟨some 8, .move (.t 39), none⟩])
def A_impl_multiplicities.l2 : ACode := (.seq (.seq A_impl_multiplicities.r9 (.cond (.t 37) .skip (.exit 2))) (.seq (.block 3 (.seq A_impl_multiplicities.r11 (.seq (.seq A_impl_multiplicities.r12 (.cond (.t 44) A_impl_multiplicities.r13 .skip)) (.seq A_impl_multiplicities.r14 (.block 4 (.loop A_impl_multiplicities.l1)))))) A_impl_multiplicities.r10))
def A_impl_multiplicities.r18 : ACode := (.region none [⟨some 64, .move (.t 7), none⟩,
    ⟨some 4, .move (.t 64), none⟩])
def A_impl_multiplicities : AFunc := ⟨[.tmp 4], (.seq A_impl_multiplicities.r0 (.seq A_impl_multiplicities.r1 (.seq A_impl_multiplicities.r2 (.seq (.block 0 (.loop A_impl_multiplicities.l0)) (.seq A_impl_multiplicities.r7 (.seq (.seq A_impl_multiplicities.r8 (.block 2 (.loop A_impl_multiplicities.l2))) (.seq A_impl_multiplicities.r18 .ret)))))))⟩
/-! spec_l06Two -/
def A_spec_l06Two.r0 : ACode := (.region none [⟨some 6, .move (.c (.int .i64 0)), none⟩])
def A_spec_l06Two.r1 : ACode := (.region none [⟨some 8, .move (.t 0), none⟩,
    ⟨some 9, .move (.t 1), none⟩,
    ⟨some 10, .move (.t 2), none⟩,
    ⟨some 11, .buildSlice 1 2 [.int .i64 0] [(0, 1, (.t 9)), (1, 1, (.t 10))], none⟩,
    ⟨some 12, .call 88 [(.t 8), (.t 11)], none⟩,
    ⟨some 7, .move (.t 12), none⟩])
def A_spec_l06Two.r2 : ACode := (.region none [⟨some 13, .move (.t 7), none⟩,
    ⟨some 14, .bin .eql (.t 13) (.c (.int .i64 0)), none⟩,
    ⟨some 15, .move (.t 14), none⟩,
    ⟨some 16, .move (.t 1), some (15, true)⟩,
    ⟨some 17, .move (.t 2), some (15, true)⟩,
    ⟨some 18, .bin .eql (.t 16) (.t 17), some (15, true)⟩,
    ⟨some 19, .pick (.t 15) (.t 18) (.c (.bool false)), none⟩])
def A_spec_l06Two.r3 : ACode := (.region none [⟨some 7, .move (.c (.int .i64 2)), none⟩])
def A_spec_l06Two.r4 : ACode := (.region none [⟨some 20, .move (.t 7), none⟩,
    ⟨some 6, .move (.t 20), none⟩])
def A_spec_l06Two : AFunc := ⟨[.tmp 6], (.seq A_spec_l06Two.r0 (.seq A_spec_l06Two.r1 (.seq (.seq A_spec_l06Two.r2 (.cond (.t 19) A_spec_l06Two.r3 .skip)) (.seq A_spec_l06Two.r4 .ret))))⟩
/-! spec_l06Shabat -/
def A_spec_l06Shabat.r0 : ACode := (.region none [⟨some 6, .move (.c (.bool false)), none⟩])
def A_spec_l06Shabat.r1 : ACode := (.region none [⟨some 7, .move (.t 0), none⟩,
    ⟨some 8, .move (.t 1), none⟩,
    ⟨some 9, .call 89 [(.t 7), (.t 8)], none⟩,
    ⟨some 10, .len (.t 9), none⟩,
    ⟨some 11, .move (.t 0), none⟩,
    ⟨some 12, .move (.t 2), none⟩,
    ⟨some 13, .call 89 [(.t 11), (.t 12)], none⟩,
    ⟨some 14, .len (.t 13), none⟩,
    ⟨some 15, .bin .add (.t 10) (.t 14), none⟩,
    ⟨some 16, .move (.t 0), none⟩,
    ⟨some 17, .len (.t 16), none⟩,
    ⟨some 18, .bin .eql (.t 15) (.t 17), none⟩,
    ⟨some 6, .move (.t 18), none⟩])
def A_spec_l06Shabat : AFunc := ⟨[.tmp 6], (.seq A_spec_l06Shabat.r0 (.seq A_spec_l06Shabat.r1 .ret))⟩
/-! impl_shabatCode -/
def A_impl_shabatCode.r0 : ACode := (.region none [⟨some 6, .move (.c (.int .i64 0)), none⟩])
def A_impl_shabatCode.r1 : ACode := (.region none [⟨some 8, .move (.t 0), none⟩,
    ⟨some 9, .move (.t 1), none⟩,
    ⟨some 10, .move (.t 2), none⟩,
    ⟨some 11, .buildSlice 1 2 [.int .i64 0] [(0, 1, (.t 9)), (1, 1, (.t 10))], none⟩,
    ⟨some 12, .call 90 [(.t 8), (.t 11)], none⟩,
    ⟨some 7, .move (.t 12), none⟩])
def A_impl_shabatCode.r2 : ACode := (.region none [⟨some 13, .move (.t 7), none⟩,
    ⟨some 14, .bin .neq (.t 13) (.c (.int .i64 0)), none⟩])
def A_impl_shabatCode.r3 : ACode := (.region none [⟨some 15, .move (.t 7), none⟩,
    ⟨some 6, .move (.t 15), none⟩])
def A_impl_shabatCode.r4 : ACode := (.region none [⟨some 16, .move (.t 1), none⟩,
    ⟨some 17, .move (.t 2), none⟩,
    ⟨some 18, .bin .eql (.t 16) (.t 17), none⟩])
def A_impl_shabatCode.r5 : ACode := (.region none [⟨some 6, .move (.c (.int .i64 2)), none⟩])
def A_impl_shabatCode.r6 : ACode := (.region none [⟨some 6, .move (.c (.int .i64 0)), none⟩])
def A_impl_shabatCode : AFunc := ⟨[.tmp 6], (.seq A_impl_shabatCode.r0 (.seq (.seq A_impl_shabatCode.r1 (.seq A_impl_shabatCode.r2 (.cond (.t 14) (.seq A_impl_shabatCode.r3 .ret) .skip))) (.seq (.seq A_impl_shabatCode.r4 (.cond (.t 18) (.seq A_impl_shabatCode.r5 .ret) .skip)) (.seq A_impl_shabatCode.r6 .ret))))⟩
/-! impl_shabat -/
def A_impl_shabat.r0 : ACode := (.region none [⟨some 6, .move (.c (.slice none 0 0)), none⟩,
    ⟨some 7, .move (.c (.bool false)), none⟩])
def A_impl_shabat.r1 : ACode := (.region none [⟨some 10, .move (.t 0), none⟩,
    ⟨some 11, .move (.t 1), none⟩,
    ⟨some 12, .call 91 [(.t 10), (.t 11)], none⟩,
    ⟨some 13, .move (.t 0), none⟩,
    ⟨some 14, .move (.t 2), none⟩,
    ⟨some 15, .call 91 [(.t 13), (.t 14)], none⟩,
    ⟨some 8, .move (.t 12), none⟩,
    ⟨some 9, .move (.t 15), none⟩])
def A_impl_shabat.r2 : ACode := (.region none [⟨some 16, .move (.t 8), none⟩,
    ⟨some 17, .move (.t 9), none⟩,
    ⟨some 18, .move (.t 0), none⟩,
    ⟨some 19, .len (.t 18), none⟩,
    ⟨some 20, .bin .sub (.t 19) (.c (.int .i64 1)), none⟩,
    ⟨some 21, .buildSlice 1 1 [.int .i64 0] [(0, 1, (.t 20))], none⟩,
    ⟨some 22, .buildSlice 1 3 [.slice none 0 0] [(0, 1, (.t 16)), (1, 1, (.t 17)), (2, 1, (.t 21))], none⟩,
    ⟨some 23, .move (.t 8), none⟩,
    ⟨some 24, .len (.t 23), none⟩,
    ⟨some 25, .move (.t 9), none⟩,
    ⟨some 26, .len (.t 25), none⟩,
    ⟨some 27, .bin .add (.t 24) (.t 26), none⟩,
    ⟨some 28, .move (.t 0), none⟩,
    ⟨some 29, .len (.t 28), none⟩,
    ⟨some 30, .bin .eql (.t 27) (.t 29), none⟩,
    ⟨some 6, .move (.t 22), none⟩,
    ⟨some 7, .move (.t 30), none⟩])
def A_impl_shabat : AFunc := ⟨[.tmp 6, .tmp 7], (.seq A_impl_shabat.r0 (.seq A_impl_shabat.r1 (.seq A_impl_shabat.r2 .ret)))⟩
/-! spec_l06Pair -/
def A_spec_l06Pair.r0 : ACode := (.region none [⟨some 2, .move (.c (.slice none 0 0)), none⟩,
    ⟨some 3, .move (.c (.slice none 0 0)), none⟩])
def A_spec_l06Pair.r1 : ACode := (.region none [⟨some 8, .move (.t 0), none⟩,
    ⟨some 9, .call 97 [(.t 8)], none⟩,
    ⟨some 4, .move (.t 9), none⟩])
def A_spec_l06Pair.r2 : ACode := (.region none [⟨some 10, .move (.t 4), none⟩,
    ⟨some 11, .call 99 [(.t 10), (.c (.int .i64 8))], none⟩,
    ⟨some 12, .move (.t 4), none⟩,
    ⟨some 13, .call 99 [(.t 12), (.c (.int .i64 8))], none⟩,
    ⟨some 5, .move (.t 11), none⟩,
    ⟨some 6, .move (.t 13), none⟩])
def A_spec_l06Pair.r3 : ACode := (.region none [⟨some 14, .move (.t 4), none⟩,
    ⟨some 15, .call 102 [(.t 14), (.c (.int .i64 3))], none⟩,
    ⟨some 16, .bin .eql (.t 15) (.c (.int .i64 0)), none⟩,
    ⟨some 17, .move (.t 16), none⟩,
    ⟨some 18, .move (.t 5), some (17, true)⟩,
    ⟨some 19, .call 56 [(.t 18)], some (17, true)⟩,
    ⟨some 20, .pick (.t 17) (.t 19) (.c (.bool false)), none⟩,
    ⟨some 21, .move (.t 20), none⟩,
    ⟨some 22, .move (.t 6), some (21, true)⟩,
    ⟨some 23, .call 56 [(.t 22)], some (21, true)⟩,
    ⟨some 24, .pick (.t 21) (.t 23) (.c (.bool false)), none⟩,
    ⟨some 25, .move (.t 24), none⟩,
    ⟨some 26, .move (.t 5), some (25, true)⟩,
    ⟨some 27, .len (.t 26), some (25, true)⟩,
    ⟨some 28, .bin .gtr (.t 27) (.c (.int .i64 0)), some (25, true)⟩,
    ⟨some 29, .pick (.t 25) (.t 28) (.c (.bool false)), none⟩,
    ⟨some 30, .move (.t 29), none⟩,
    ⟨some 31, .move (.t 6), some (30, true)⟩,
    ⟨some 32, .len (.t 31), some (30, true)⟩,
    ⟨some 33, .bin .gtr (.t 32) (.c (.int .i64 0)), some (30, true)⟩,
    ⟨some 34, .pick (.t 30) (.t 33) (.c (.bool false)), none⟩])
def A_spec_l06Pair.r4 : ACode := (.region none [⟨some 35, .move (.t 4), none⟩,
    ⟨some 36, .call 99 [(.t 35), (.c (.int .i64 3))], none⟩,
    ⟨some 7, .move (.t 36), none⟩])
def A_spec_l06Pair.r5 : ACode := (.region none [⟨some 37, .move (.t 7), none⟩,
    ⟨some 38, .call 56 [(.t 37)], none⟩,
    ⟨some 39, .move (.t 38), none⟩,
    ⟨some 40, .move (.t 7), some (39, true)⟩,
    ⟨some 41, .len (.t 40), some (39, true)⟩,
    ⟨some 42, .bin .gtr (.t 41) (.c (.int .i64 0)), some (39, true)⟩,
    ⟨some 43, .pick (.t 39) (.t 42) (.c (.bool false)), none⟩])
def A_spec_l06Pair.r6 : ACode := (.region none [⟨some 44, .move (.t 5), none⟩,
    ⟨some 45, .move (.t 7), none⟩,
    ⟨some 46, .call 74 [(.t 44), (.t 45)], none⟩,
    ⟨some 47, .move (.t 6), none⟩,
    ⟨some 48, .move (.t 7), none⟩,
    ⟨some 49, .call 74 [(.t 47), (.t 48)], none⟩,
    ⟨some 2, .move (.t 46), none⟩,
    ⟨some 3, .move (.t 49), none⟩])
def A_spec_l06Pair.r7 : ACode := (.region none [⟨some 50, .move (.t 5), none⟩,
    ⟨some 51, .move (.t 6), none⟩,
    ⟨some 2, .move (.t 50), none⟩,
    ⟨some 3, .move (.t 51), none⟩])
def A_spec_l06Pair : AFunc := ⟨[.tmp 2, .tmp 3], (.seq A_spec_l06Pair.r0 (.seq A_spec_l06Pair.r1 (.seq A_spec_l06Pair.r2 (.seq (.seq A_spec_l06Pair.r3 (.cond (.t 34) (.seq A_spec_l06Pair.r4 (.seq A_spec_l06Pair.r5 (.cond (.t 43) (.seq A_spec_l06Pair.r6 .ret) .skip))) .skip)) (.seq A_spec_l06Pair.r7 .ret)))))⟩
/-! spec_l01From -/
def A_spec_l01From.r0 : ACode := (.region none [⟨some 2, .move (.c (.pointer none)), none⟩])
def A_spec_l01From.r1 : ACode := (.region none [⟨some 5, .move (.t 0), none⟩,
    ⟨some 6, .move (.t 0), none⟩,
    ⟨some 7, .len (.t 6), none⟩,
    ⟨some 8, .conv .u64 (.t 7), none⟩,
    ⟨some 9, .bin .add (.c (.int .u64 8117)) (.t 8), none⟩,
    ⟨some 10, .build ([.slice none 0 0] ++ [.int .i64 0] ++ [.int .u64 0]) [(0, 1, (.t 5)), (2, 1, (.t 9))], none⟩,
    ⟨some 11, .box (.t 10), none⟩,
    ⟨some 3, .move (.t 11), none⟩])
def A_spec_l01From.r2 : ACode := (.region none [⟨some 4, .move (.c (.int .i64 0)), none⟩])
def A_spec_l01From.r3 : ACode := (.region none [⟨some 12, .move (.t 4), none⟩,
    ⟨some 13, .move (.t 0), none⟩,
    ⟨some 14, .len (.t 13), none⟩,
    ⟨some 15, .bin .lss (.t 12) (.t 14), none⟩,
    ⟨some 16, .move (.t 15), none⟩,
    ⟨some 17, .move (.t 4), some (16, true)⟩,
    ⟨some 18, .bin .lss (.t 17) (.c (.int .i64 4096)), some (16, true)⟩,
    ⟨some 19, .pick (.t 16) (.t 18) (.c (.bool false)), none⟩])
def A_spec_l01From.r5 : ACode := (.region (some 15) [⟨some 22, .move (.t 3), none⟩,
    ⟨some 23, .move (.t 3), none⟩,
    ⟨some 24, .nilCheck (.t 23), none⟩,
    ⟨some 25, .fieldAddr 2 (.t 24), none⟩,
    ⟨some 26, .load none (.t 25), none⟩,
    ⟨some 27, .bin .mul (.t 26) (.c (.int .u64 1099511628211)), none⟩,
    ⟨some 28, .move (.t 0), none⟩,
    ⟨some 29, .move (.t 4), none⟩,
    ⟨some 30, .indexAddr none 1 (.t 28) (.t 29), none⟩,
    ⟨some 31, .load none (.t 30), none⟩,
    ⟨some 32, .conv .u64 (.t 31), none⟩,
    ⟨some 33, .bin .add (.t 27) (.t 32), none⟩,
    ⟨some 34, .bin .add (.t 33) (.c (.int .u64 23)), none⟩,
    ⟨some 35, .nilCheck (.t 22), none⟩,
    ⟨some 36, .fieldAddr 2 (.t 35), none⟩,
    ⟨none, .store 1 (.t 36) (.t 34), none⟩])
def A_spec_l01From.r4 : ACode := (.region none [⟨some 20, .move (.t 4), none⟩,
    ⟨some 21, .bin .add (.t 20) (.c (.int .i64 1)), none⟩,
    ⟨some 4, .move (.t 21), none⟩])
def A_spec_l01From.l0 : ACode := (.seq (.seq A_spec_l01From.r3 (.cond (.t 19) .skip (.exit 0))) (.seq (.block 1 A_spec_l01From.r5) A_spec_l01From.r4))
def A_spec_l01From.r6 : ACode := (.region none [⟨some 37, .move (.t 3), none⟩,
    ⟨some 2, .move (.t 37), none⟩])
def A_spec_l01From : AFunc := ⟨[.tmp 2], (.seq A_spec_l01From.r0 (.seq A_spec_l01From.r1 (.seq (.seq A_spec_l01From.r2 (.block 0 (.loop A_spec_l01From.l0))) (.seq A_spec_l01From.r6 .ret))))⟩
/-! spec_l06Draw -/
def A_spec_l06Draw.r0 : ACode := (.region none [⟨some 4, .move (.c (.slice none 0 0)), none⟩])
def A_spec_l06Draw.r1 : ACode := (.region none [⟨some 7, .buildSlice 1 0 [.int .i64 0] [], none⟩,
    ⟨some 5, .move (.t 7), none⟩])
def A_spec_l06Draw.r2 : ACode := (.region none [⟨some 8, .move (.t 0), none⟩,
    ⟨some 9, .move (.t 1), none⟩,
    ⟨some 10, .bin .add (.t 9) (.c (.int .i64 2)), none⟩,
    ⟨some 11, .call 102 [(.t 8), (.t 10)], none⟩,
    ⟨some 6, .move (.t 11), none⟩])
def A_spec_l06Draw.r3 : ACode := (.region none [⟨some 12, .move (.t 6), none⟩,
    ⟨some 13, .bin .gtr (.t 12) (.c (.int .i64 0)), none⟩])
def A_spec_l06Draw.r5 : ACode := (.region none [⟨some 16, .move (.t 5), none⟩,
    ⟨some 17, .move (.t 0), none⟩,
    ⟨some 18, .move (.t 0), none⟩,
    ⟨some 19, .call 102 [(.t 18), (.c (.int .i64 10))], none⟩,
    ⟨some 20, .move (.t 0), none⟩,
    ⟨some 21, .call 102 [(.t 20), (.c (.int .i64 10007))], none⟩,
    ⟨some 22, .buildSlice 1 5 [.int .i64 0] [(0, 1, (.c (.int .i64 0))), (1, 1, (.c (.int .i64 0))), (2, 1, (.c (.int .i64 1))), (3, 1, (.t 19)), (4, 1, (.t 21))], none⟩,
    ⟨some 23, .call 98 [(.t 17), (.t 22)], none⟩,
    ⟨some 24, .buildSlice 1 1 [.int .i64 0] [(0, 1, (.t 23))], none⟩,
    ⟨some 25, .append 1 8 (.t 16) (.t 24), none⟩,
    ⟨some 5, .move (.t 25), none⟩])
def A_spec_l06Draw.r4 : ACode := (.region none [⟨some 14, .move (.t 6), none⟩,
    ⟨some 15, .bin .sub (.t 14) (.c (.int .i64 1)), none⟩,
    ⟨some 6, .move (.t 15), none⟩])
def A_spec_l06Draw.l0 : ACode := (.seq (.seq A_spec_l06Draw.r3 (.cond (.t 13) .skip (.exit 0))) (.seq (.block 1 A_spec_l06Draw.r5) A_spec_l06Draw.r4))
def A_spec_l06Draw.r6 : ACode := (.region none [⟨some 26, .move (.t 5), none⟩,
    ⟨some 27, .call 104 [(.t 26)], none⟩,
    ⟨some 5, .move (.t 27), none⟩])
def A_spec_l06Draw.r7 : ACode := (.region none [⟨some 28, .move (.t 0), none⟩,
    ⟨some 29, .call 102 [(.t 28), (.c (.int .i64 40))], none⟩])
def A_spec_l06Draw.r8 : ACode := (.region none [⟨some 31, .bin .eql (.t 29) (.c (.int .i64 0)), none⟩,
    ⟨some 30, .move (.t 31), none⟩])
def A_spec_l06Draw.r9 : ACode := (.region none [⟨some 32, .move (.t 5), none⟩,
    ⟨some 33, .buildSlice 1 1 [.int .i64 0] [(0, 1, (.c (.int .i64 0)))], none⟩,
    ⟨some 34, .append 1 8 (.t 32) (.t 33), none⟩,
    ⟨some 5, .move (.t 34), none⟩])
def A_spec_l06Draw.r10 : ACode := (.region none [⟨some 36, .bin .eql (.t 29) (.c (.int .i64 1)), none⟩,
    ⟨some 35, .move (.t 36), none⟩])
def A_spec_l06Draw.r11 : ACode := (.region none [⟨some 37, .move (.t 5), none⟩,
    ⟨some 38, .move (.t 0), none⟩,
    ⟨some 39, .buildSlice 1 2 [.int .i64 0] [(0, 1, (.c (.int .i64 10007))), (1, 1, (.c (.int .i64 (-1))))], none⟩,
    ⟨some 40, .call 98 [(.t 38), (.t 39)], none⟩,
    ⟨some 41, .buildSlice 1 1 [.int .i64 0] [(0, 1, (.t 40))], none⟩,
    ⟨some 42, .append 1 8 (.t 37) (.t 41), none⟩,
    ⟨some 5, .move (.t 42), none⟩])
def A_spec_l06Draw.r12 : ACode := (.region none [⟨some 43, .move (.t 5), none⟩,
    ⟨some 4, .move (.t 43), none⟩])
def A_spec_l06Draw : AFunc := ⟨[.tmp 4], (.seq A_spec_l06Draw.r0 (.seq A_spec_l06Draw.r1 (.seq (.seq A_spec_l06Draw.r2 (.block 0 (.loop A_spec_l06Draw.l0))) (.seq A_spec_l06Draw.r6 (.seq (.seq A_spec_l06Draw.r7 (.block 2 (.seq A_spec_l06Draw.r8 (.cond (.t 30) A_spec_l06Draw.r9 (.seq A_spec_l06Draw.r10 (.cond (.t 35) A_spec_l06Draw.r11 .skip)))))) (.seq A_spec_l06Draw.r12 .ret))))))⟩
/-! spec_l01Pick -/
def A_spec_l01Pick.r0 : ACode := (.region none [⟨some 4, .move (.c (.int .i64 0)), none⟩])
def A_spec_l01Pick.r1 : ACode := (.region none [⟨some 5, .move (.t 1), none⟩,
    ⟨some 6, .move (.t 0), none⟩,
    ⟨some 7, .move (.t 1), none⟩,
    ⟨some 8, .len (.t 7), none⟩,
    ⟨some 9, .call 102 [(.t 6), (.t 8)], none⟩,
    ⟨some 10, .indexAddr none 1 (.t 5) (.t 9), none⟩,
    ⟨some 11, .load none (.t 10), none⟩,
    ⟨some 4, .move (.t 11), none⟩])
def A_spec_l01Pick : AFunc := ⟨[.tmp 4], (.seq A_spec_l01Pick.r0 (.seq A_spec_l01Pick.r1 .ret))⟩
/-! spec_l06Some -/
def A_spec_l06Some.r0 : ACode := (.region none [⟨some 2, .move (.c (.slice none 0 0)), none⟩])
def A_spec_l06Some.r1 : ACode := (.region none [⟨some 6, .move (.t 0), none⟩,
    ⟨some 7, .call 102 [(.t 6), (.c (.int .i64 6))], none⟩])
def A_spec_l06Some.r2 : ACode := (.region none [⟨some 9, .bin .eql (.t 7) (.c (.int .i64 0)), none⟩,
    ⟨some 8, .move (.t 9), none⟩])
def A_spec_l06Some.r3 : ACode := (.region none [⟨some 10, .move (.t 0), none⟩,
    ⟨some 11, .call 102 [(.t 10), (.c (.int .i64 6))], none⟩,
    ⟨some 12, .bin .add (.c (.int .i64 1)) (.t 11), none⟩,
    ⟨some 13, .move (.t 0), none⟩,
    ⟨some 14, .call 102 [(.t 13), (.c (.int .i64 9))], none⟩,
    ⟨some 15, .bin .add (.c (.int .i64 1)) (.t 14), none⟩,
    ⟨some 16, .call 59 [(.t 12), (.t 15)], none⟩,
    ⟨some 2, .move (.t 16), none⟩])
def A_spec_l06Some.r4 : ACode := (.region none [⟨some 18, .bin .eql (.t 7) (.c (.int .i64 1)), none⟩,
    ⟨some 17, .move (.t 18), none⟩])
def A_spec_l06Some.r5 : ACode := (.region none [⟨some 19, .move (.t 0), none⟩,
    ⟨some 20, .call 102 [(.t 19), (.c (.int .i64 9))], none⟩,
    ⟨some 21, .bin .add (.c (.int .i64 1)) (.t 20), none⟩,
    ⟨some 22, .call 76 [(.t 21)], none⟩,
    ⟨some 2, .move (.t 22), none⟩])
def A_spec_l06Some.r6 : ACode := (.region none [⟨some 24, .bin .eql (.t 7) (.c (.int .i64 2)), none⟩,
    ⟨some 23, .move (.t 24), none⟩])
def A_spec_l06Some.r7 : ACode := (.region none [⟨some 25, .move (.t 0), none⟩,
    ⟨some 26, .call 102 [(.t 25), (.c (.int .i64 5))], none⟩,
    ⟨some 27, .bin .add (.c (.int .i64 1)) (.t 26), none⟩,
    ⟨some 28, .move (.t 0), none⟩,
    ⟨some 29, .call 102 [(.t 28), (.c (.int .i64 5))], none⟩,
    ⟨some 30, .bin .add (.c (.int .i64 1)) (.t 29), none⟩,
    ⟨some 31, .call 82 [(.t 27), (.t 30)], none⟩,
    ⟨some 2, .move (.t 31), none⟩])
def A_spec_l06Some.r8 : ACode := (.region none [⟨some 33, .bin .eql (.t 7) (.c (.int .i64 3)), none⟩,
    ⟨some 32, .move (.t 33), none⟩])
def A_spec_l06Some.r9 : ACode := (.region none [⟨some 34, .move (.t 0), none⟩,
    ⟨some 35, .call 102 [(.t 34), (.c (.int .i64 2))], none⟩,
    ⟨some 36, .bin .add (.c (.int .i64 1)) (.t 35), none⟩,
    ⟨some 37, .move (.t 0), none⟩,
    ⟨some 38, .call 102 [(.t 37), (.c (.int .i64 2))], none⟩,
    ⟨some 39, .bin .add (.c (.int .i64 1)) (.t 38), none⟩,
    ⟨some 40, .call 82 [(.t 36), (.t 39)], none⟩,
    ⟨some 41, .move (.t 0), none⟩,
    ⟨some 42, .call 102 [(.t 41), (.c (.int .i64 2))], none⟩,
    ⟨some 43, .bin .add (.c (.int .i64 1)) (.t 42), none⟩,
    ⟨some 44, .move (.t 0), none⟩,
    ⟨some 45, .call 102 [(.t 44), (.c (.int .i64 2))], none⟩,
    ⟨some 46, .bin .add (.c (.int .i64 1)) (.t 45), none⟩,
    ⟨some 47, .call 82 [(.t 43), (.t 46)], none⟩,
    ⟨some 48, .call 85 [(.t 40), (.t 47)], none⟩,
    ⟨some 2, .move (.t 48), none⟩])
def A_spec_l06Some.r10 : ACode := (.region none [⟨some 50, .bin .eql (.t 7) (.c (.int .i64 4)), none⟩,
    ⟨some 49, .move (.t 50), none⟩])
def A_spec_l06Some.r11 : ACode := (.region none [⟨some 51, .move (.t 0), none⟩,
    ⟨some 52, .call 99 [(.t 51), (.c (.int .i64 3))], none⟩,
    ⟨some 53, .buildSlice 1 1 [.int .i64 0] [(0, 1, (.c (.int .i64 1)))], none⟩,
    ⟨some 3, .move (.t 52), none⟩,
    ⟨some 4, .move (.t 53), none⟩])
def A_spec_l06Some.r12 : ACode := (.region none [⟨some 54, .move (.t 3), none⟩,
    ⟨some 55, .call 56 [(.t 54)], none⟩,
    ⟨some 56, .not (.t 55), none⟩])
def A_spec_l06Some.r13 : ACode := (.region none [⟨some 57, .move (.t 3), none⟩,
    ⟨some 2, .move (.t 57), none⟩])
def A_spec_l06Some.r14 : ACode := (.region none [⟨some 58, .move (.t 0), none⟩,
    ⟨some 59, .call 102 [(.t 58), (.c (.int .i64 3))], none⟩,
    ⟨some 60, .bin .add (.c (.int .i64 1)) (.t 59), none⟩,
    ⟨some 5, .move (.t 60), none⟩])
def A_spec_l06Some.r15 : ACode := (.region none [⟨some 61, .move (.t 5), none⟩,
    ⟨some 62, .bin .gtr (.t 61) (.c (.int .i64 0)), none⟩])
def A_spec_l06Some.r17 : ACode := (.region none [⟨some 65, .move (.t 4), none⟩,
    ⟨some 66, .move (.t 3), none⟩,
    ⟨some 67, .call 74 [(.t 65), (.t 66)], none⟩,
    ⟨some 4, .move (.t 67), none⟩])
def A_spec_l06Some.r16 : ACode := (.region none [⟨some 63, .move (.t 5), none⟩,
    ⟨some 64, .bin .sub (.t 63) (.c (.int .i64 1)), none⟩,
    ⟨some 5, .move (.t 64), none⟩])
def A_spec_l06Some.l0 : ACode := (.seq (.seq A_spec_l06Some.r15 (.cond (.t 62) .skip (.exit 1))) (.seq (.block 2 A_spec_l06Some.r17) A_spec_l06Some.r16))
def A_spec_l06Some.r18 : ACode := (.region none [⟨some 68, .move (.t 4), none⟩,
    ⟨some 2, .move (.t 68), none⟩])
def A_spec_l06Some.r19 : ACode := (.region none [⟨some 69, .move (.t 0), none⟩,
    ⟨some 70, .call 99 [(.t 69), (.c (.int .i64 8))], none⟩,
    ⟨some 2, .move (.t 70), none⟩])
def A_spec_l06Some : AFunc := ⟨[.tmp 2], (.seq A_spec_l06Some.r0 (.seq (.seq A_spec_l06Some.r1 (.block 0 (.seq A_spec_l06Some.r2 (.cond (.t 8) (.seq A_spec_l06Some.r3 .ret) (.seq A_spec_l06Some.r4 (.cond (.t 17) (.seq A_spec_l06Some.r5 .ret) (.seq A_spec_l06Some.r6 (.cond (.t 23) (.seq A_spec_l06Some.r7 .ret) (.seq A_spec_l06Some.r8 (.cond (.t 32) (.seq A_spec_l06Some.r9 .ret) (.seq A_spec_l06Some.r10 (.cond (.t 49) (.seq A_spec_l06Some.r11 (.seq (.seq A_spec_l06Some.r12 (.cond (.t 56) (.seq A_spec_l06Some.r13 .ret) .skip)) (.seq (.seq A_spec_l06Some.r14 (.block 1 (.loop A_spec_l06Some.l0))) (.seq A_spec_l06Some.r18 .ret)))) .skip)))))))))))) (.seq A_spec_l06Some.r19 .ret)))⟩
/-! spec_l06DrawValue -/
def A_spec_l06DrawValue.r0 : ACode := (.region none [⟨some 2, .move (.c (.int .i64 0)), none⟩])
def A_spec_l06DrawValue.r1 : ACode := (.region none [⟨some 3, .move (.t 0), none⟩,
    ⟨some 4, .move (.t 0), none⟩,
    ⟨some 5, .call 102 [(.t 4), (.c (.int .i64 10007))], none⟩,
    ⟨some 6, .move (.t 0), none⟩,
    ⟨some 7, .call 102 [(.t 6), (.c (.int .i64 10008))], none⟩,
    ⟨some 8, .buildSlice 1 7 [.int .i64 0] [(0, 1, (.c (.int .i64 0))), (1, 1, (.c (.int .i64 0))), (2, 1, (.c (.int .i64 1))), (3, 1, (.c (.int .i64 1))), (4, 1, (.c (.int .i64 10006))), (5, 1, (.t 5)), (6, 1, (.t 7))], none⟩,
    ⟨some 9, .call 98 [(.t 3), (.t 8)], none⟩,
    ⟨some 2, .move (.t 9), none⟩])
def A_spec_l06DrawValue : AFunc := ⟨[.tmp 2], (.seq A_spec_l06DrawValue.r0 (.seq A_spec_l06DrawValue.r1 .ret))⟩
/-! spec_l01Next -/
def A_spec_l01Next.r0 : ACode := (.region none [⟨some 4, .move (.c (.int .i64 0)), none⟩])
def A_spec_l01Next.r1 : ACode := (.region none [⟨some 6, .move (.t 1), none⟩,
    ⟨some 7, .bin .lss (.t 6) (.c (.int .i64 1)), none⟩])
def A_spec_l01Next.r2 : ACode := (.region none [⟨some 4, .move (.c (.int .i64 0)), none⟩])
def A_spec_l01Next.r3 : ACode := (.region none [⟨some 8, .move (.t 0), none⟩,
    ⟨some 9, .move (.t 0), none⟩,
    ⟨some 10, .nilCheck (.t 9), none⟩,
    ⟨some 11, .fieldAddr 2 (.t 10), none⟩,
    ⟨some 12, .load none (.t 11), none⟩,
    ⟨some 13, .bin .mul (.t 12) (.c (.int .u64 6364136223846793005)), none⟩,
    ⟨some 14, .bin .add (.t 13) (.c (.int .u64 1442695040888963407)), none⟩,
    ⟨some 15, .nilCheck (.t 8), none⟩,
    ⟨some 16, .fieldAddr 2 (.t 15), none⟩,
    ⟨none, .store 1 (.t 16) (.t 14), none⟩])
def A_spec_l01Next.r4 : ACode := (.region none [⟨some 17, .move (.t 0), none⟩,
    ⟨some 18, .nilCheck (.t 17), none⟩,
    ⟨some 19, .fieldAddr 2 (.t 18), none⟩,
    ⟨some 20, .load none (.t 19), none⟩,
    ⟨some 21, .bin .shr (.t 20) (.c (.int .u64 33)), none⟩,
    ⟨some 22, .bin .and (.t 21) (.c (.int .u64 16777215)), none⟩,
    ⟨some 23, .conv .i64 (.t 22), none⟩,
    ⟨some 5, .move (.t 23), none⟩])
def A_spec_l01Next.r5 : ACode := (.region (some 10) [⟨some 24, .move (.t 0), none⟩,
    ⟨some 25, .nilCheck (.t 24), none⟩,
    ⟨some 26, .fieldAddr 1 (.t 25), none⟩,
    ⟨some 27, .load none (.t 26), none⟩,
    ⟨some 28, .move (.t 0), none⟩,
    ⟨some 29, .nilCheck (.t 28), none⟩,
    ⟨some 30, .fieldAddr 0 (.t 29), none⟩,
    ⟨some 31, .load none (.t 30), none⟩,
    ⟨some 32, .len (.t 31), none⟩,
    ⟨some 33, .bin .lss (.t 27) (.t 32), none⟩])
def A_spec_l01Next.r6 : ACode := (.region (some 14) [⟨some 34, .move (.t 5), none⟩,
    ⟨some 35, .move (.t 0), none⟩,
    ⟨some 36, .nilCheck (.t 35), none⟩,
    ⟨some 37, .fieldAddr 0 (.t 36), none⟩,
    ⟨some 38, .load none (.t 37), none⟩,
    ⟨some 39, .move (.t 0), none⟩,
    ⟨some 40, .nilCheck (.t 39), none⟩,
    ⟨some 41, .fieldAddr 1 (.t 40), none⟩,
    ⟨some 42, .load none (.t 41), none⟩,
    ⟨some 43, .indexAddr none 1 (.t 38) (.t 42), none⟩,
    ⟨some 44, .load none (.t 43), none⟩,
    ⟨some 45, .conv .i64 (.t 44), none⟩,
    ⟨some 46, .bin .add (.t 34) (.t 45), none⟩,
    ⟨some 5, .move (.t 46), none⟩])
def A_spec_l01Next.r7 : ACode := (.region none [⟨some 47, .move (.t 0), none⟩,
    ⟨some 48, .move (.t 0), none⟩,
    ⟨some 49, .nilCheck (.t 48), none⟩,
    ⟨some 50, .fieldAddr 1 (.t 49), none⟩,
    ⟨some 51, .load none (.t 50), none⟩,
    ⟨some 52, .bin .add (.t 51) (.c (.int .i64 1)), none⟩,
    ⟨some 53, .nilCheck (.t 47), none⟩,
    ⟨some 54, .fieldAddr 1 (.t 53), none⟩,
    ⟨none, .store 1 (.t 54) (.t 52), none⟩])
def A_spec_l01Next.r8 : ACode := (.region none [⟨some 55, .move (.t 5), none⟩,
    ⟨some 56, .move (.t 1), none⟩,
    ⟨some 57, .bin .rem (.t 55) (.t 56), none⟩,
    ⟨some 4, .move (.t 57), none⟩])
def A_spec_l01Next : AFunc := ⟨[.tmp 4], (.seq A_spec_l01Next.r0 (.seq (.seq A_spec_l01Next.r1 (.cond (.t 7) (.seq A_spec_l01Next.r2 .ret) .skip)) (.seq A_spec_l01Next.r3 (.seq A_spec_l01Next.r4 (.seq (.seq A_spec_l01Next.r5 (.cond (.t 33) (.seq A_spec_l01Next.r6 A_spec_l01Next.r7) .skip)) (.seq A_spec_l01Next.r8 .ret))))))⟩
/-! spec_l06Mod -/
def A_spec_l06Mod.r0 : ACode := (.region none [⟨some 2, .move (.c (.int .i64 0)), none⟩])
def A_spec_l06Mod.r1 : ACode := (.region none [⟨some 3, .move (.t 0), none⟩,
    ⟨some 4, .bin .rem (.t 3) (.c (.int .i64 10007)), none⟩,
    ⟨some 5, .bin .add (.t 4) (.c (.int .i64 10007)), none⟩,
    ⟨some 6, .bin .rem (.t 5) (.c (.int .i64 10007)), none⟩,
    ⟨some 2, .move (.t 6), none⟩])
def A_spec_l06Mod : AFunc := ⟨[.tmp 2], (.seq A_spec_l06Mod.r0 (.seq A_spec_l06Mod.r1 .ret))⟩
/-! spec_l06Trim -/
def A_spec_l06Trim.r0 : ACode := (.region none [⟨some 2, .move (.c (.slice none 0 0)), none⟩])
def A_spec_l06Trim.r1 : ACode := (.region none [⟨some 4, .move (.t 0), none⟩,
    ⟨some 5, .len (.t 4), none⟩,
    ⟨some 3, .move (.t 5), none⟩])
def A_spec_l06Trim.r2 : ACode := (.region none [⟨some 6, .move (.t 3), none⟩,
    ⟨some 7, .bin .gtr (.t 6) (.c (.int .i64 0)), none⟩,
    ⟨some 8, .move (.t 7), none⟩,
    ⟨some 9, .move (.t 0), some (8, true)⟩,
    ⟨some 10, .move (.t 3), some (8, true)⟩,
    ⟨some 11, .bin .sub (.t 10) (.c (.int .i64 1)), some (8, true)⟩,
    ⟨some 12, .indexAddr none 1 (.t 9) (.t 11), some (8, true)⟩,
    ⟨some 13, .load none (.t 12), some (8, true)⟩,
    ⟨some 14, .bin .eql (.t 13) (.c (.int .i64 0)), some (8, true)⟩,
    ⟨some 15, .pick (.t 8) (.t 14) (.c (.bool false)), none⟩])
def A_spec_l06Trim.r3 : ACode := (.region none [⟨some 16, .move (.t 3), none⟩,
    ⟨some 17, .bin .sub (.t 16) (.c (.int .i64 1)), none⟩,
    ⟨some 3, .move (.t 17), none⟩])
def A_spec_l06Trim.l0 : ACode := (.seq (.seq A_spec_l06Trim.r2 (.cond (.t 15) .skip (.exit 0))) (.block 1 A_spec_l06Trim.r3))
def A_spec_l06Trim.r4 : ACode := (.region none [⟨some 18, .move (.t 0), none⟩,
    ⟨some 19, .move (.t 3), none⟩,
    ⟨some 20, .slice 1 (.t 18) none (some (.t 19)), none⟩,
    ⟨some 21, .call 111 [(.t 20)], none⟩,
    ⟨some 2, .move (.t 21), none⟩])
def A_spec_l06Trim : AFunc := ⟨[.tmp 2], (.seq A_spec_l06Trim.r0 (.seq A_spec_l06Trim.r1 (.seq (.block 0 (.loop A_spec_l06Trim.l0)) (.seq A_spec_l06Trim.r4 .ret))))⟩
/-! impl_cut -/
def A_impl_cut.r0 : ACode := (.region none [⟨some 2, .move (.c (.slice none 0 0)), none⟩])
def A_impl_cut.r1 : ACode := (.region none [⟨some 3, .move (.t 0), none⟩,
    ⟨some 4, .len (.t 3), none⟩,
    ⟨some 5, .bin .gtr (.t 4) (.c (.int .i64 0)), none⟩,
    ⟨some 6, .move (.t 5), none⟩,
    ⟨some 7, .move (.t 0), some (6, true)⟩,
    ⟨some 8, .move (.t 0), some (6, true)⟩,
    ⟨some 9, .len (.t 8), some (6, true)⟩,
    ⟨some 10, .bin .sub (.t 9) (.c (.int .i64 1)), some (6, true)⟩,
    ⟨some 11, .indexAddr none 1 (.t 7) (.t 10), some (6, true)⟩,
    ⟨some 12, .load none (.t 11), some (6, true)⟩,
    ⟨some 13, .bin .eql (.t 12) (.c (.int .i64 0)), some (6, true)⟩,
    ⟨some 14, .pick (.t 6) (.t 13) (.c (.bool false)), none⟩])
def A_impl_cut.r2 : ACode := (.region none [⟨some 15, .move (.t 0), none⟩,
    ⟨some 16, .move (.t 0), none⟩,
    ⟨some 17, .len (.t 16), none⟩,
    ⟨some 18, .bin .sub (.t 17) (.c (.int .i64 1)), none⟩,
    ⟨some 19, .slice 1 (.t 15) none (some (.t 18)), none⟩,
    ⟨some 0, .move (.t 19), none⟩])
def A_impl_cut.l0 : ACode := (.seq (.seq A_impl_cut.r1 (.cond (.t 14) .skip (.exit 0))) (.block 1 A_impl_cut.r2))
def A_impl_cut.r3 : ACode := (.region none [⟨some 20, .move (.t 0), none⟩,
    ⟨some 2, .move (.t 20), none⟩])
def A_impl_cut : AFunc := ⟨[.tmp 2], (.seq A_impl_cut.r0 (.seq (.block 0 (.loop A_impl_cut.l0)) (.seq A_impl_cut.r3 .ret)))⟩
/-! spec_l04Type -/
def A_spec_l04Type.r0 : ACode := (.region none [⟨some 2, .move (.c (.bool false)), none⟩])
def A_spec_l04Type.r1 : ACode := (.region none [⟨some 4, .move (.t 0), none⟩,
    ⟨some 5, .len (.t 4), none⟩,
    ⟨some 6, .bin .lss (.t 5) (.c (.int .i64 1)), none⟩,
    ⟨some 7, .move (.t 6), none⟩,
    ⟨some 8, .move (.t 0), some (7, false)⟩,
    ⟨some 9, .len (.t 8), some (7, false)⟩,
    ⟨some 10, .bin .gtr (.t 9) (.c (.int .i64 16)), some (7, false)⟩,
    ⟨some 11, .pick (.t 7) (.c (.bool true)) (.t 10), none⟩])
def A_spec_l04Type.r2 : ACode := (.region none [⟨some 2, .move (.c (.bool false)), none⟩])
def A_spec_l04Type.r3 : ACode := (.region none [⟨some 3, .move (.c (.int .i64 0)), none⟩])
def A_spec_l04Type.r4 : ACode := (.region none [⟨some 12, .move (.t 3), none⟩,
    ⟨some 13, .move (.t 0), none⟩,
    ⟨some 14, .len (.t 13), none⟩,
    ⟨some 15, .bin .lss (.t 12) (.t 14), none⟩])
def A_spec_l04Type.r6 : ACode := (.region (some 22) [⟨some 18, .move (.t 0), none⟩,
    ⟨some 19, .move (.t 3), none⟩,
    ⟨some 20, .indexAddr none 1 (.t 18) (.t 19), none⟩,
    ⟨some 21, .load none (.t 20), none⟩,
    ⟨some 22, .call 58 [(.t 21), (.c (.int .i64 1)), (.c (.int .i64 16))], none⟩,
    ⟨some 23, .not (.t 22), none⟩,
    ⟨some 24, .move (.t 23), none⟩,
    ⟨some 25, .move (.t 3), some (24, false)⟩,
    ⟨some 26, .bin .gtr (.t 25) (.c (.int .i64 0)), some (24, false)⟩,
    ⟨some 27, .move (.t 26), some (24, false)⟩,
    ⟨some 28, .move (.t 0), some (27, true)⟩,
    ⟨some 29, .move (.t 3), some (27, true)⟩,
    ⟨some 30, .indexAddr none 1 (.t 28) (.t 29), some (27, true)⟩,
    ⟨some 31, .load none (.t 30), some (27, true)⟩,
    ⟨some 32, .move (.t 0), some (27, true)⟩,
    ⟨some 33, .move (.t 3), some (27, true)⟩,
    ⟨some 34, .bin .sub (.t 33) (.c (.int .i64 1)), some (27, true)⟩,
    ⟨some 35, .indexAddr none 1 (.t 32) (.t 34), some (27, true)⟩,
    ⟨some 36, .load none (.t 35), some (27, true)⟩,
    ⟨some 37, .bin .gtr (.t 31) (.t 36), some (27, true)⟩,
    ⟨some 38, .pick (.t 27) (.t 37) (.c (.bool false)), some (24, false)⟩,
    ⟨some 39, .pick (.t 24) (.c (.bool true)) (.t 38), none⟩])
def A_spec_l04Type.r7 : ACode := (.region none [⟨some 2, .move (.c (.bool false)), none⟩])
def A_spec_l04Type.r5 : ACode := (.region none [⟨some 16, .move (.t 3), none⟩,
    ⟨some 17, .bin .add (.t 16) (.c (.int .i64 1)), none⟩,
    ⟨some 3, .move (.t 17), none⟩])
def A_spec_l04Type.l0 : ACode := (.seq (.seq A_spec_l04Type.r4 (.cond (.t 15) .skip (.exit 0))) (.seq (.block 1 (.seq A_spec_l04Type.r6 (.cond (.t 39) (.seq A_spec_l04Type.r7 .ret) .skip))) A_spec_l04Type.r5))
def A_spec_l04Type.r8 : ACode := (.region none [⟨some 40, .move (.t 0), none⟩,
    ⟨some 41, .call 79 [(.t 40)], none⟩,
    ⟨some 42, .bin .leq (.t 41) (.c (.int .i64 16)), none⟩,
    ⟨some 2, .move (.t 42), none⟩])
def A_spec_l04Type : AFunc := ⟨[.tmp 2], (.seq A_spec_l04Type.r0 (.seq (.seq A_spec_l04Type.r1 (.cond (.t 11) (.seq A_spec_l04Type.r2 .ret) .skip)) (.seq (.seq A_spec_l04Type.r3 (.block 0 (.loop A_spec_l04Type.l0))) (.seq A_spec_l04Type.r8 .ret))))⟩
/-! spec_l06Inverse -/
def A_spec_l06Inverse.r0 : ACode := (.region none [⟨some 2, .move (.c (.int .i64 0)), none⟩])
def A_spec_l06Inverse.r1 : ACode := (.region none [⟨some 6, .move (.t 0), none⟩,
    ⟨some 3, .move (.c (.int .i64 1)), none⟩,
    ⟨some 4, .move (.t 6), none⟩])
def A_spec_l06Inverse.r2 : ACode := (.region none [⟨some 5, .move (.c (.int .i64 10005)), none⟩])
def A_spec_l06Inverse.r3 : ACode := (.region none [⟨some 7, .move (.t 5), none⟩,
    ⟨some 8, .bin .gtr (.t 7) (.c (.int .i64 0)), none⟩])
def A_spec_l06Inverse.r5 : ACode := (.region none [⟨some 11, .move (.t 5), none⟩,
    ⟨some 12, .bin .rem (.t 11) (.c (.int .i64 2)), none⟩,
    ⟨some 13, .bin .eql (.t 12) (.c (.int .i64 1)), none⟩])
def A_spec_l06Inverse.r6 : ACode := (.region none [⟨some 14, .move (.t 3), none⟩,
    ⟨some 15, .move (.t 4), none⟩,
    ⟨some 16, .bin .mul (.t 14) (.t 15), none⟩,
    ⟨some 17, .call 103 [(.t 16)], none⟩,
    ⟨some 3, .move (.t 17), none⟩])
def A_spec_l06Inverse.r7 : ACode := (.region none [⟨some 18, .move (.t 4), none⟩,
    ⟨some 19, .move (.t 4), none⟩,
    ⟨some 20, .bin .mul (.t 18) (.t 19), none⟩,
    ⟨some 21, .call 103 [(.t 20)], none⟩,
    ⟨some 4, .move (.t 21), none⟩])
def A_spec_l06Inverse.r4 : ACode := (.region none [⟨some 9, .move (.t 5), none⟩,
    ⟨some 10, .bin .quo (.t 9) (.c (.int .i64 2)), none⟩,
    ⟨some 5, .move (.t 10), none⟩])
def A_spec_l06Inverse.l0 : ACode := (.seq (.seq A_spec_l06Inverse.r3 (.cond (.t 8) .skip (.exit 0))) (.seq (.block 1 (.seq (.seq A_spec_l06Inverse.r5 (.cond (.t 13) A_spec_l06Inverse.r6 .skip)) A_spec_l06Inverse.r7)) A_spec_l06Inverse.r4))
def A_spec_l06Inverse.r8 : ACode := (.region none [⟨some 22, .move (.t 3), none⟩,
    ⟨some 2, .move (.t 22), none⟩])
def A_spec_l06Inverse : AFunc := ⟨[.tmp 2], (.seq A_spec_l06Inverse.r0 (.seq A_spec_l06Inverse.r1 (.seq (.seq A_spec_l06Inverse.r2 (.block 0 (.loop A_spec_l06Inverse.l0))) (.seq A_spec_l06Inverse.r8 .ret))))⟩
/-! spec_l06Divide -/
def A_spec_l06Divide.r0 : ACode := (.region none [⟨some 4, .move (.c (.slice none 0 0)), none⟩,
    ⟨some 5, .move (.c (.slice none 0 0)), none⟩])
def A_spec_l06Divide.r1 : ACode := (.region (some 13) [⟨some 11, .move (.t 0), none⟩,
    ⟨some 12, .call 111 [(.t 11)], none⟩,
    ⟨some 13, .move (.t 1), none⟩,
    ⟨some 14, .move (.t 1), none⟩,
    ⟨some 15, .len (.t 14), none⟩,
    ⟨some 16, .bin .sub (.t 15) (.c (.int .i64 1)), none⟩,
    ⟨some 17, .indexAddr none 1 (.t 13) (.t 16), none⟩,
    ⟨some 18, .load none (.t 17), none⟩,
    ⟨some 19, .call 107 [(.t 18)], none⟩,
    ⟨some 20, .buildSlice 1 0 [.int .i64 0] [], none⟩,
    ⟨some 6, .move (.t 12), none⟩,
    ⟨some 7, .move (.t 19), none⟩,
    ⟨some 8, .move (.t 20), none⟩])
def A_spec_l06Divide.r2 : ACode := (.region none [⟨some 21, .move (.t 0), none⟩,
    ⟨some 22, .len (.t 21), none⟩,
    ⟨some 23, .move (.t 1), none⟩,
    ⟨some 24, .len (.t 23), none⟩,
    ⟨some 25, .bin .geq (.t 22) (.t 24), none⟩])
def A_spec_l06Divide.r3 : ACode := (.region none [⟨some 26, .move (.t 0), none⟩,
    ⟨some 27, .len (.t 26), none⟩,
    ⟨some 28, .move (.t 1), none⟩,
    ⟨some 29, .len (.t 28), none⟩,
    ⟨some 30, .bin .sub (.t 27) (.t 29), none⟩,
    ⟨some 31, .bin .add (.t 30) (.c (.int .i64 1)), none⟩,
    ⟨some 32, .makeSlice 1 8 [.int .i64 0] (.t 31) (.t 31), none⟩,
    ⟨some 8, .move (.t 32), none⟩])
def A_spec_l06Divide.r4 : ACode := (.region none [⟨some 33, .move (.t 6), none⟩,
    ⟨some 34, .len (.t 33), none⟩,
    ⟨some 35, .move (.t 1), none⟩,
    ⟨some 36, .len (.t 35), none⟩,
    ⟨some 37, .bin .geq (.t 34) (.t 36), none⟩])
def A_spec_l06Divide.r5 : ACode := (.region none [⟨some 38, .move (.t 6), none⟩,
    ⟨some 39, .len (.t 38), none⟩,
    ⟨some 40, .move (.t 1), none⟩,
    ⟨some 41, .len (.t 40), none⟩,
    ⟨some 42, .bin .sub (.t 39) (.t 41), none⟩,
    ⟨some 43, .move (.t 6), none⟩,
    ⟨some 44, .move (.t 6), none⟩,
    ⟨some 45, .len (.t 44), none⟩,
    ⟨some 46, .bin .sub (.t 45) (.c (.int .i64 1)), none⟩,
    ⟨some 47, .indexAddr none 1 (.t 43) (.t 46), none⟩,
    ⟨some 48, .load none (.t 47), none⟩,
    ⟨some 49, .move (.t 7), none⟩,
    ⟨some 50, .bin .mul (.t 48) (.t 49), none⟩,
    ⟨some 51, .call 103 [(.t 50)], none⟩,
    ⟨some 9, .move (.t 42), none⟩,
    ⟨some 10, .move (.t 51), none⟩])
def A_spec_l06Divide.r6 : ACode := (.region none [⟨some 52, .move (.t 8), none⟩,
    ⟨some 53, .move (.t 9), none⟩,
    ⟨some 54, .move (.t 10), none⟩,
    ⟨some 55, .indexAddr none 1 (.t 52) (.t 53), none⟩,
    ⟨none, .store 1 (.t 55) (.t 54), none⟩])
def A_spec_l06Divide.r7 : ACode := (.region none [⟨some 56, .move (.t 6), none⟩,
    ⟨some 57, .move (.t 9), none⟩,
    ⟨some 58, .makeSlice 1 8 [.int .i64 0] (.t 57) (.t 57), none⟩,
    ⟨some 59, .move (.t 1), none⟩,
    ⟨some 60, .append 1 8 (.t 58) (.t 59), none⟩,
    ⟨some 61, .move (.t 10), none⟩,
    ⟨some 62, .neg (.t 61), none⟩,
    ⟨some 63, .call 72 [(.t 56), (.t 60), (.t 62)], none⟩,
    ⟨some 6, .move (.t 63), none⟩])
def A_spec_l06Divide.l0 : ACode := (.seq (.seq A_spec_l06Divide.r4 (.cond (.t 37) .skip (.exit 0))) (.block 1 (.seq A_spec_l06Divide.r5 (.seq A_spec_l06Divide.r6 A_spec_l06Divide.r7))))
def A_spec_l06Divide.r8 : ACode := (.region none [⟨some 64, .move (.t 8), none⟩,
    ⟨some 65, .move (.t 6), none⟩,
    ⟨some 4, .move (.t 64), none⟩,
    ⟨some 5, .move (.t 65), none⟩])
def A_spec_l06Divide : AFunc := ⟨[.tmp 4, .tmp 5], (.seq A_spec_l06Divide.r0 (.seq A_spec_l06Divide.r1 (.seq (.seq A_spec_l06Divide.r2 (.cond (.t 25) A_spec_l06Divide.r3 .skip)) (.seq (.block 0 (.loop A_spec_l06Divide.l0)) (.seq A_spec_l06Divide.r8 .ret)))))⟩
/-! spec_l06Monic -/
def A_spec_l06Monic.r0 : ACode := (.region none [⟨some 2, .move (.c (.slice none 0 0)), none⟩])
def A_spec_l06Monic.r1 : ACode := (.region none [⟨some 3, .move (.t 0), none⟩,
    ⟨some 4, .move (.t 0), none⟩,
    ⟨some 5, .move (.t 0), none⟩,
    ⟨some 6, .len (.t 5), none⟩,
    ⟨some 7, .bin .sub (.t 6) (.c (.int .i64 1)), none⟩,
    ⟨some 8, .indexAddr none 1 (.t 4) (.t 7), none⟩,
    ⟨some 9, .load none (.t 8), none⟩,
    ⟨some 10, .call 107 [(.t 9)], none⟩,
    ⟨some 11, .call 72 [(.c (.slice none 0 0)), (.t 3), (.t 10)], none⟩,
    ⟨some 2, .move (.t 11), none⟩])
def A_spec_l06Monic : AFunc := ⟨[.tmp 2], (.seq A_spec_l06Monic.r0 (.seq A_spec_l06Monic.r1 .ret))⟩
/-! impl_divide -/
def A_impl_divide.r0 : ACode := (.region none [⟨some 4, .move (.c (.slice none 0 0)), none⟩,
    ⟨some 5, .move (.c (.slice none 0 0)), none⟩])
def A_impl_divide.r1 : ACode := (.region none [⟨some 13, .move (.t 0), none⟩,
    ⟨some 14, .call 112 [(.t 13)], none⟩,
    ⟨some 6, .move (.t 14), none⟩])
def A_impl_divide.r2 : ACode := (.region none [⟨some 15, .move (.t 0), none⟩,
    ⟨some 16, .len (.t 15), none⟩,
    ⟨some 17, .move (.t 1), none⟩,
    ⟨some 18, .len (.t 17), none⟩,
    ⟨some 19, .bin .sub (.t 16) (.t 18), none⟩,
    ⟨some 20, .bin .add (.t 19) (.c (.int .i64 1)), none⟩,
    ⟨some 21, .max [(.t 20), (.c (.int .i64 0))], none⟩,
    ⟨some 22, .makeSlice 1 8 [.int .i64 0] (.t 21) (.t 21), none⟩,
    ⟨some 7, .move (.t 22), none⟩])
def A_impl_divide.r3 : ACode := (.region none [⟨some 23, .move (.t 1), none⟩,
    ⟨some 24, .move (.t 1), none⟩,
    ⟨some 25, .len (.t 24), none⟩,
    ⟨some 26, .bin .sub (.t 25) (.c (.int .i64 1)), none⟩,
    ⟨some 27, .indexAddr none 1 (.t 23) (.t 26), none⟩,
    ⟨some 28, .load none (.t 27), none⟩,
    ⟨some 29, .call 84 [(.t 28)], none⟩,
    ⟨some 8, .move (.t 29), none⟩])
def A_impl_divide.r4 : ACode := (.region none [⟨some 30, .move (.t 6), none⟩,
    ⟨some 31, .len (.t 30), none⟩,
    ⟨some 32, .move (.t 1), none⟩,
    ⟨some 33, .len (.t 32), none⟩,
    ⟨some 34, .bin .geq (.t 31) (.t 33), none⟩])
def A_impl_divide.r5 : ACode := (.region none [⟨some 35, .move (.t 6), none⟩,
    ⟨some 36, .len (.t 35), none⟩,
    ⟨some 37, .move (.t 1), none⟩,
    ⟨some 38, .len (.t 37), none⟩,
    ⟨some 39, .bin .sub (.t 36) (.t 38), none⟩,
    ⟨some 9, .move (.t 39), none⟩])
def A_impl_divide.r6 : ACode := (.region none [⟨some 40, .move (.t 6), none⟩,
    ⟨some 41, .move (.t 6), none⟩,
    ⟨some 42, .len (.t 41), none⟩,
    ⟨some 43, .bin .sub (.t 42) (.c (.int .i64 1)), none⟩,
    ⟨some 44, .indexAddr none 1 (.t 40) (.t 43), none⟩,
    ⟨some 45, .load none (.t 44), none⟩,
    ⟨some 46, .move (.t 8), none⟩,
    ⟨some 47, .bin .mul (.t 45) (.t 46), none⟩,
    ⟨some 48, .bin .rem (.t 47) (.c (.int .i64 10007)), none⟩,
    ⟨some 10, .move (.t 48), none⟩])
def A_impl_divide.r7 : ACode := (.region none [⟨some 49, .move (.t 7), none⟩,
    ⟨some 50, .move (.t 9), none⟩,
    ⟨some 51, .move (.t 10), none⟩,
    ⟨some 52, .indexAddr none 1 (.t 49) (.t 50), none⟩,
    ⟨none, .store 1 (.t 52) (.t 51), none⟩])
def A_impl_divide.r8 : ACode := (.region none [⟨some 53, .move (.t 1), none⟩,
    ⟨some 54, .len (.t 53), none⟩,
    ⟨some 55, .move (.c (.int .i64 0)), none⟩])
def A_impl_divide.r9 : ACode := (.region none [⟨some 56, .bin .lss (.t 55) (.t 54), none⟩])
def A_impl_divide.r10 : ACode := (.region none [⟨some 57, .move (.t 55), none⟩,
    ⟨some 58, .indexAddr none 1 (.t 53) (.t 55), none⟩,
    ⟨some 59, .load none (.t 58), none⟩,
    ⟨some 11, .move (.t 57), none⟩,
    ⟨some 12, .move (.t 59), none⟩])
def A_impl_divide.r11 : ACode := (.region none [⟨some 60, .move (.t 6), none⟩,
    ⟨some 61, .move (.t 9), none⟩,
    ⟨some 62, .move (.t 11), none⟩,
    ⟨some 63, .bin .add (.t 61) (.t 62), none⟩,
    ⟨some 64, .move (.t 6), none⟩,
    ⟨some 65, .move (.t 9), none⟩,
    ⟨some 66, .move (.t 11), none⟩,
    ⟨some 67, .bin .add (.t 65) (.t 66), none⟩,
    ⟨some 68, .indexAddr none 1 (.t 64) (.t 67), none⟩,
    ⟨some 69, .load none (.t 68), none⟩,
    ⟨some 70, .move (.t 12), none⟩,
    ⟨some 71, .bin .sub (.c (.int .i64 10007)) (.t 70), none⟩,
    ⟨some 72, .move (.t 10), none⟩,
    ⟨some 73, .bin .mul (.t 71) (.t 72), none⟩,
    ⟨some 74, .bin .add (.t 69) (.t 73), none⟩,
    ⟨some 75, .bin .rem (.t 74) (.c (.int .i64 10007)), none⟩,
    ⟨some 76, .indexAddr none 1 (.t 60) (.t 63), none⟩,
    ⟨none, .store 1 (.t 76) (.t 75), none⟩])
def A_impl_divide.r12 : ACode := (.region none [⟨some 77, .bin .add (.t 55) (.c (.int .i64 1)), none⟩,
    ⟨some 55, .move (.t 77), none⟩])
def A_impl_divide.l0 : ACode := (.seq A_impl_divide.r9 (.seq (.cond (.t 56) .skip (.exit 2)) (.seq (.block 3 (.seq A_impl_divide.r10 A_impl_divide.r11)) A_impl_divide.r12)))
def A_impl_divide.r13 : ACode := (.region none [⟨some 78, .move (.t 6), none⟩,
    ⟨some 79, .call 105 [(.t 78)], none⟩,
    ⟨some 6, .move (.t 79), none⟩])
def A_impl_divide.l1 : ACode := (.seq (.seq A_impl_divide.r4 (.cond (.t 34) .skip (.exit 0))) (.block 1 (.seq A_impl_divide.r5 (.seq A_impl_divide.r6 (.seq A_impl_divide.r7 (.seq (.seq A_impl_divide.r8 (.block 2 (.loop A_impl_divide.l0))) A_impl_divide.r13))))))
def A_impl_divide.r14 : ACode := (.region none [⟨some 80, .move (.t 7), none⟩,
    ⟨some 81, .call 105 [(.t 80)], none⟩,
    ⟨some 82, .move (.t 6), none⟩,
    ⟨some 4, .move (.t 81), none⟩,
    ⟨some 5, .move (.t 82), none⟩])
def A_impl_divide : AFunc := ⟨[.tmp 4, .tmp 5], (.seq A_impl_divide.r0 (.seq A_impl_divide.r1 (.seq A_impl_divide.r2 (.seq A_impl_divide.r3 (.seq (.block 0 (.loop A_impl_divide.l1)) (.seq A_impl_divide.r14 .ret))))))⟩
/-! spec_l01Own -/
def A_spec_l01Own.r0 : ACode := (.region none [⟨some 2, .move (.c (.slice none 0 0)), none⟩])
def A_spec_l01Own.r1 : ACode := (.region none [⟨some 3, .buildSlice 1 0 [.int .i64 0] [], none⟩,
    ⟨some 4, .move (.t 0), none⟩,
    ⟨some 5, .append 1 8 (.t 3) (.t 4), none⟩,
    ⟨some 2, .move (.t 5), none⟩])
def A_spec_l01Own : AFunc := ⟨[.tmp 2], (.seq A_spec_l01Own.r0 (.seq A_spec_l01Own.r1 .ret))⟩
/-! slices_Clone_int64_int64 -/
def A_slices_Clone_int64_int64.r0 : ACode := (.region none [⟨some 2, .move (.c (.slice none 0 0)), none⟩])
def A_slices_Clone_int64_int64.r1 : ACode := (.region none [⟨some 3, .move (.t 0), none⟩,
    ⟨some 4, .eqn false (.t 3), none⟩])
def A_slices_Clone_int64_int64.r2 : ACode := (.region none [⟨some 2, .move (.c (.slice none 0 0)), none⟩])
def A_slices_Clone_int64_int64.r3 : ACode := (.region none [⟨some 5, .buildSlice 1 0 [.int .i64 0] [], none⟩,
    ⟨some 6, .move (.t 0), none⟩,
    ⟨some 7, .append 1 8 (.t 5) (.t 6), none⟩,
    ⟨some 2, .move (.t 7), none⟩])
def A_slices_Clone_int64_int64 : AFunc := ⟨[.tmp 2], (.seq A_slices_Clone_int64_int64.r0 (.seq (.seq A_slices_Clone_int64_int64.r1 (.cond (.t 4) (.seq A_slices_Clone_int64_int64.r2 .ret) .skip)) (.seq A_slices_Clone_int64_int64.r3 .ret)))⟩
end Go.Am
