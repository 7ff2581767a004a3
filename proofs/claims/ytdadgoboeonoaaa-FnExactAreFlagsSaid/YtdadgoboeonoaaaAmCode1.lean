/- The code of the functions that the claim reaches, in the small machine's form: written by a program of mine, off the loaded program; the checks compare the two. -/
import Derived.Test.YtdadgoboeonoaaaAmCode0
set_option linter.unusedVariables false
set_option maxRecDepth 100000
namespace Go.Am
open Go
/-! slices_choosePivotOrdered_int64 -/
def A_slices_choosePivotOrdered_int64.r0 : ACode := (.region none [⟨some 6, .move (.c (.int .i64 0)), none⟩,
    ⟨some 7, .move (.c (.int .i64 0)), none⟩])
def A_slices_choosePivotOrdered_int64.r1 : ACode := (.region none [⟨some 13, .move (.t 2), none⟩,
    ⟨some 14, .move (.t 1), none⟩,
    ⟨some 15, .bin .sub (.t 13) (.t 14), none⟩,
    ⟨some 8, .move (.t 15), none⟩])
def A_slices_choosePivotOrdered_int64.r2 : ACode := (.region none [⟨some 9, .alloc [.int .i64 0], none⟩])
def A_slices_choosePivotOrdered_int64.r3 : ACode := (.region none [⟨some 16, .move (.t 1), none⟩,
    ⟨some 17, .move (.t 8), none⟩,
    ⟨some 18, .bin .quo (.t 17) (.c (.int .i64 4)), none⟩,
    ⟨some 19, .bin .mul (.t 18) (.c (.int .i64 1)), none⟩,
    ⟨some 20, .bin .add (.t 16) (.t 19), none⟩,
    ⟨some 10, .move (.t 20), none⟩])
def A_slices_choosePivotOrdered_int64.r4 : ACode := (.region none [⟨some 21, .move (.t 1), none⟩,
    ⟨some 22, .move (.t 8), none⟩,
    ⟨some 23, .bin .quo (.t 22) (.c (.int .i64 4)), none⟩,
    ⟨some 24, .bin .mul (.t 23) (.c (.int .i64 2)), none⟩,
    ⟨some 25, .bin .add (.t 21) (.t 24), none⟩,
    ⟨some 11, .move (.t 25), none⟩])
def A_slices_choosePivotOrdered_int64.r5 : ACode := (.region none [⟨some 26, .move (.t 1), none⟩,
    ⟨some 27, .move (.t 8), none⟩,
    ⟨some 28, .bin .quo (.t 27) (.c (.int .i64 4)), none⟩,
    ⟨some 29, .bin .mul (.t 28) (.c (.int .i64 3)), none⟩,
    ⟨some 30, .bin .add (.t 26) (.t 29), none⟩,
    ⟨some 12, .move (.t 30), none⟩])
def A_slices_choosePivotOrdered_int64.r6 : ACode := (.region none [⟨some 31, .move (.t 8), none⟩,
    ⟨some 32, .bin .geq (.t 31) (.c (.int .i64 8)), none⟩])
def A_slices_choosePivotOrdered_int64.r7 : ACode := (.region none [⟨some 33, .move (.t 8), none⟩,
    ⟨some 34, .bin .geq (.t 33) (.c (.int .i64 50)), none⟩])
def A_slices_choosePivotOrdered_int64.r8 : ACode := (.region none [⟨some 35, .move (.t 0), none⟩,
    ⟨some 36, .move (.t 10), none⟩,
    ⟨some 37, .call 242 [(.t 35), (.t 36), (.t 9)], none⟩,
    ⟨some 10, .move (.t 37), none⟩])
def A_slices_choosePivotOrdered_int64.r9 : ACode := (.region none [⟨some 38, .move (.t 0), none⟩,
    ⟨some 39, .move (.t 11), none⟩,
    ⟨some 40, .call 242 [(.t 38), (.t 39), (.t 9)], none⟩,
    ⟨some 11, .move (.t 40), none⟩])
def A_slices_choosePivotOrdered_int64.r10 : ACode := (.region none [⟨some 41, .move (.t 0), none⟩,
    ⟨some 42, .move (.t 12), none⟩,
    ⟨some 43, .call 242 [(.t 41), (.t 42), (.t 9)], none⟩,
    ⟨some 12, .move (.t 43), none⟩])
def A_slices_choosePivotOrdered_int64.r11 : ACode := (.region none [⟨some 44, .move (.t 0), none⟩,
    ⟨some 45, .move (.t 10), none⟩,
    ⟨some 46, .move (.t 11), none⟩,
    ⟨some 47, .move (.t 12), none⟩,
    ⟨some 48, .call 243 [(.t 44), (.t 45), (.t 46), (.t 47), (.t 9)], none⟩,
    ⟨some 11, .move (.t 48), none⟩])
def A_slices_choosePivotOrdered_int64.r12 : ACode := (.region none [⟨some 49, .load none (.t 9), none⟩])
def A_slices_choosePivotOrdered_int64.r14 : ACode := (.region none [⟨some 52, .bin .eql (.t 49) (.c (.int .i64 0)), none⟩,
    ⟨some 51, .move (.t 52), none⟩])
def A_slices_choosePivotOrdered_int64.r15 : ACode := (.region none [⟨some 53, .move (.t 11), none⟩,
    ⟨some 6, .move (.t 53), none⟩,
    ⟨some 7, .move (.c (.int .i64 1)), none⟩])
def A_slices_choosePivotOrdered_int64.r16 : ACode := (.region none [⟨some 55, .bin .eql (.t 49) (.c (.int .i64 12)), none⟩,
    ⟨some 54, .move (.t 55), none⟩])
def A_slices_choosePivotOrdered_int64.r17 : ACode := (.region none [⟨some 56, .move (.t 11), none⟩,
    ⟨some 6, .move (.t 56), none⟩,
    ⟨some 7, .move (.c (.int .i64 2)), none⟩])
def A_slices_choosePivotOrdered_int64.r13 : ACode := (.region none [⟨some 50, .move (.t 11), none⟩,
    ⟨some 6, .move (.t 50), none⟩,
    ⟨some 7, .move (.c (.int .i64 0)), none⟩])
def A_slices_choosePivotOrdered_int64 : AFunc := ⟨[.tmp 6, .tmp 7], (.seq A_slices_choosePivotOrdered_int64.r0 (.seq A_slices_choosePivotOrdered_int64.r1 (.seq A_slices_choosePivotOrdered_int64.r2 (.seq A_slices_choosePivotOrdered_int64.r3 (.seq A_slices_choosePivotOrdered_int64.r4 (.seq A_slices_choosePivotOrdered_int64.r5 (.seq (.seq A_slices_choosePivotOrdered_int64.r6 (.cond (.t 32) (.seq (.seq A_slices_choosePivotOrdered_int64.r7 (.cond (.t 34) (.seq A_slices_choosePivotOrdered_int64.r8 (.seq A_slices_choosePivotOrdered_int64.r9 A_slices_choosePivotOrdered_int64.r10)) .skip)) A_slices_choosePivotOrdered_int64.r11) .skip)) (.seq A_slices_choosePivotOrdered_int64.r12 (.block 0 (.seq A_slices_choosePivotOrdered_int64.r14 (.cond (.t 51) (.seq A_slices_choosePivotOrdered_int64.r15 .ret) (.seq A_slices_choosePivotOrdered_int64.r16 (.cond (.t 54) (.seq A_slices_choosePivotOrdered_int64.r17 .ret) (.seq A_slices_choosePivotOrdered_int64.r13 .ret))))))))))))))⟩
/-! slices_nextPowerOfTwo -/
def A_slices_nextPowerOfTwo.r0 : ACode := (.region none [⟨some 2, .move (.c (.int .u64 0)), none⟩])
def A_slices_nextPowerOfTwo.r1 : ACode := (.region none [⟨some 3, .move (.t 0), none⟩,
    ⟨some 4, .conv .u64 (.t 3), none⟩,
    ⟨some 5, .call 227 [(.t 4)], none⟩,
    ⟨some 6, .bin .shl (.c (.int .u64 1)) (.t 5), none⟩,
    ⟨some 2, .move (.t 6), none⟩])
def A_slices_nextPowerOfTwo : AFunc := ⟨[.tmp 2], (.seq A_slices_nextPowerOfTwo.r0 (.seq A_slices_nextPowerOfTwo.r1 .ret))⟩
/-! slices_medianAdjacentOrdered_int64 -/
def A_slices_medianAdjacentOrdered_int64.r0 : ACode := (.region none [⟨some 6, .move (.c (.int .i64 0)), none⟩])
def A_slices_medianAdjacentOrdered_int64.r1 : ACode := (.region none [⟨some 7, .move (.t 0), none⟩,
    ⟨some 8, .move (.t 1), none⟩,
    ⟨some 9, .bin .sub (.t 8) (.c (.int .i64 1)), none⟩,
    ⟨some 10, .move (.t 1), none⟩,
    ⟨some 11, .move (.t 1), none⟩,
    ⟨some 12, .bin .add (.t 11) (.c (.int .i64 1)), none⟩,
    ⟨some 13, .move (.t 2), none⟩,
    ⟨some 14, .call 243 [(.t 7), (.t 9), (.t 10), (.t 12), (.t 13)], none⟩,
    ⟨some 6, .move (.t 14), none⟩])
def A_slices_medianAdjacentOrdered_int64 : AFunc := ⟨[.tmp 6], (.seq A_slices_medianAdjacentOrdered_int64.r0 (.seq A_slices_medianAdjacentOrdered_int64.r1 .ret))⟩
/-! slices_medianOrdered_int64 -/
def A_slices_medianOrdered_int64.r0 : ACode := (.region none [⟨some 10, .move (.c (.int .i64 0)), none⟩])
def A_slices_medianOrdered_int64.r1 : ACode := (.region none [⟨some 12, .move (.t 0), none⟩,
    ⟨some 13, .move (.t 1), none⟩,
    ⟨some 14, .move (.t 2), none⟩,
    ⟨some 15, .move (.t 4), none⟩,
    ⟨some 16, .call 246 [(.t 12), (.t 13), (.t 14), (.t 15)], none⟩,
    ⟨some 11, .move (.t 16), none⟩,
    ⟨some 17, .extract (.t 11) 0, none⟩,
    ⟨some 18, .extract (.t 11) 1, none⟩,
    ⟨some 1, .move (.t 17), none⟩,
    ⟨some 2, .move (.t 18), none⟩])
def A_slices_medianOrdered_int64.r2 : ACode := (.region none [⟨some 20, .move (.t 0), none⟩,
    ⟨some 21, .move (.t 2), none⟩,
    ⟨some 22, .move (.t 3), none⟩,
    ⟨some 23, .move (.t 4), none⟩,
    ⟨some 24, .call 246 [(.t 20), (.t 21), (.t 22), (.t 23)], none⟩,
    ⟨some 19, .move (.t 24), none⟩,
    ⟨some 25, .extract (.t 19) 0, none⟩,
    ⟨some 26, .extract (.t 19) 1, none⟩,
    ⟨some 2, .move (.t 25), none⟩,
    ⟨some 3, .move (.t 26), none⟩])
def A_slices_medianOrdered_int64.r3 : ACode := (.region none [⟨some 28, .move (.t 0), none⟩,
    ⟨some 29, .move (.t 1), none⟩,
    ⟨some 30, .move (.t 2), none⟩,
    ⟨some 31, .move (.t 4), none⟩,
    ⟨some 32, .call 246 [(.t 28), (.t 29), (.t 30), (.t 31)], none⟩,
    ⟨some 27, .move (.t 32), none⟩,
    ⟨some 33, .extract (.t 27) 0, none⟩,
    ⟨some 34, .extract (.t 27) 1, none⟩,
    ⟨some 1, .move (.t 33), none⟩,
    ⟨some 2, .move (.t 34), none⟩])
def A_slices_medianOrdered_int64.r4 : ACode := (.region none [⟨some 35, .move (.t 2), none⟩,
    ⟨some 10, .move (.t 35), none⟩])
def A_slices_medianOrdered_int64 : AFunc := ⟨[.tmp 10], (.seq A_slices_medianOrdered_int64.r0 (.seq A_slices_medianOrdered_int64.r1 (.seq A_slices_medianOrdered_int64.r2 (.seq A_slices_medianOrdered_int64.r3 (.seq A_slices_medianOrdered_int64.r4 .ret)))))⟩
/-! slices_order2Ordered_int64 -/
def A_slices_order2Ordered_int64.r0 : ACode := (.region none [⟨some 8, .move (.c (.int .i64 0)), none⟩,
    ⟨some 9, .move (.c (.int .i64 0)), none⟩])
def A_slices_order2Ordered_int64.r1 : ACode := (.region (some 9) [⟨some 10, .move (.t 0), none⟩,
    ⟨some 11, .move (.t 2), none⟩,
    ⟨some 12, .indexAddr none 1 (.t 10) (.t 11), none⟩,
    ⟨some 13, .load none (.t 12), none⟩,
    ⟨some 14, .move (.t 0), none⟩,
    ⟨some 15, .move (.t 1), none⟩,
    ⟨some 16, .indexAddr none 1 (.t 14) (.t 15), none⟩,
    ⟨some 17, .load none (.t 16), none⟩,
    ⟨some 18, .call 235 [(.t 13), (.t 17)], none⟩])
def A_slices_order2Ordered_int64.r2 : ACode := (.region none [⟨some 19, .move (.t 3), none⟩,
    ⟨some 20, .nilCheck (.t 19), none⟩,
    ⟨some 21, .load none (.t 20), none⟩,
    ⟨some 22, .bin .add (.t 21) (.c (.int .i64 1)), none⟩,
    ⟨some 23, .nilCheck (.t 19), none⟩,
    ⟨none, .store 1 (.t 23) (.t 22), none⟩])
def A_slices_order2Ordered_int64.r3 : ACode := (.region none [⟨some 24, .move (.t 2), none⟩,
    ⟨some 25, .move (.t 1), none⟩,
    ⟨some 8, .move (.t 24), none⟩,
    ⟨some 9, .move (.t 25), none⟩])
def A_slices_order2Ordered_int64.r4 : ACode := (.region none [⟨some 26, .move (.t 1), none⟩,
    ⟨some 27, .move (.t 2), none⟩,
    ⟨some 8, .move (.t 26), none⟩,
    ⟨some 9, .move (.t 27), none⟩])
def A_slices_order2Ordered_int64 : AFunc := ⟨[.tmp 8, .tmp 9], (.seq A_slices_order2Ordered_int64.r0 (.seq (.seq A_slices_order2Ordered_int64.r1 (.cond (.t 18) (.seq A_slices_order2Ordered_int64.r2 (.seq A_slices_order2Ordered_int64.r3 .ret)) .skip)) (.seq A_slices_order2Ordered_int64.r4 .ret)))⟩
end Go.Am
