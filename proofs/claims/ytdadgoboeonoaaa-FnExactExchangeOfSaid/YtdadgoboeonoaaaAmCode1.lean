/- The code of the functions that the claim reaches, in the small machine's form: written by a program of mine, off the loaded program; the checks compare the two. -/
import Derived.Test.YtdadgoboeonoaaaAmCode0
set_option linter.unusedVariables false
set_option maxRecDepth 100000
namespace Go.Am
open Go
/-! impl_comparePlaces -/
def A_impl_comparePlaces.r0 : ACode := (.region none [⟨some 2, .box (.t 0), none⟩,
    ⟨some 3, .box (.t 1), none⟩,
    ⟨some 4, .move (.c (.int .i64 0)), none⟩])
def A_impl_comparePlaces.r1 : ACode := (.region (some 4) [⟨some 5, .sliceArr 16 1 (.t 2) none none, none⟩,
    ⟨some 6, .sliceArr 16 1 (.t 3) none none, none⟩,
    ⟨some 7, .call 226 [(.t 5), (.t 6)], none⟩,
    ⟨some 4, .move (.t 7), none⟩])
def A_impl_comparePlaces : AFunc := ⟨[.tmp 4], (.seq A_impl_comparePlaces.r0 (.seq A_impl_comparePlaces.r1 .ret))⟩
/-! impl_cycles -/
def A_impl_cycles.r0 : ACode := (.region none [⟨some 2, .box (.t 0), none⟩,
    ⟨some 4, .move (.c (.slice none 0 0)), none⟩])
def A_impl_cycles.r1 : ACode := (.region none [⟨some 10, .buildSlice 1 0 [.slice none 0 0] [], none⟩,
    ⟨some 5, .move (.t 10), none⟩])
def A_impl_cycles.r2 : ACode := (.region none [⟨some 11, .build (List.replicate 16 (.bool false)) [], none⟩,
    ⟨some 6, .alloc (List.replicate 16 (.bool false)), none⟩,
    ⟨none, .store 16 (.t 6) (.t 11), none⟩])
def A_impl_cycles.r3 : ACode := (.region none [⟨some 12, .move (.t 1), none⟩,
    ⟨some 13, .move (.c (.int .i64 0)), none⟩])
def A_impl_cycles.r4 : ACode := (.region none [⟨some 14, .bin .lss (.t 13) (.t 12), none⟩])
def A_impl_cycles.r5 : ACode := (.region none [⟨some 15, .move (.t 13), none⟩,
    ⟨some 7, .move (.t 15), none⟩])
def A_impl_cycles.r6 : ACode := (.region none [⟨some 16, .move (.t 7), none⟩,
    ⟨some 17, .indexAddr (some 16) 1 (.t 6) (.t 16), none⟩,
    ⟨some 18, .load none (.t 17), none⟩])
def A_impl_cycles.r7 : ACode := (.region none [⟨some 19, .buildSlice 1 0 [.int .i64 0] [], none⟩,
    ⟨some 8, .move (.t 19), none⟩])
def A_impl_cycles.r8 : ACode := (.region none [⟨some 20, .move (.t 7), none⟩,
    ⟨some 9, .move (.t 20), none⟩])
def A_impl_cycles.r9 : ACode := (.region none [⟨some 21, .move (.t 9), none⟩,
    ⟨some 22, .indexAddr (some 16) 1 (.t 6) (.t 21), none⟩,
    ⟨some 23, .load none (.t 22), none⟩,
    ⟨some 24, .not (.t 23), none⟩])
def A_impl_cycles.r11 : ACode := (.region none [⟨some 29, .move (.t 9), none⟩,
    ⟨some 30, .indexAddr (some 16) 1 (.t 6) (.t 29), none⟩,
    ⟨none, .store 1 (.t 30) (.c (.bool true)), none⟩])
def A_impl_cycles.r12 : ACode := (.region none [⟨some 31, .move (.t 8), none⟩,
    ⟨some 32, .move (.t 9), none⟩,
    ⟨some 33, .buildSlice 1 1 [.int .i64 0] [(0, 1, (.t 32))], none⟩,
    ⟨some 34, .append 1 8 (.t 31) (.t 33), none⟩,
    ⟨some 8, .move (.t 34), none⟩])
def A_impl_cycles.r10 : ACode := (.region none [⟨some 25, .move (.t 9), none⟩,
    ⟨some 26, .indexAddr (some 16) 1 (.t 2) (.t 25), none⟩,
    ⟨some 27, .load none (.t 26), none⟩,
    ⟨some 28, .conv .i64 (.t 27), none⟩,
    ⟨some 9, .move (.t 28), none⟩])
def A_impl_cycles.l0 : ACode := (.seq (.seq A_impl_cycles.r9 (.cond (.t 24) .skip (.exit 2))) (.seq (.block 3 (.seq A_impl_cycles.r11 A_impl_cycles.r12)) A_impl_cycles.r10))
def A_impl_cycles.r13 : ACode := (.region none [⟨some 35, .move (.t 5), none⟩,
    ⟨some 36, .move (.t 8), none⟩,
    ⟨some 37, .buildSlice 1 1 [.slice none 0 0] [(0, 1, (.t 36))], none⟩,
    ⟨some 38, .append 1 24 (.t 35) (.t 37), none⟩,
    ⟨some 5, .move (.t 38), none⟩])
def A_impl_cycles.r14 : ACode := (.region none [⟨some 39, .bin .add (.t 13) (.c (.int .i64 1)), none⟩,
    ⟨some 13, .move (.t 39), none⟩])
def A_impl_cycles.l1 : ACode := (.seq A_impl_cycles.r4 (.seq (.cond (.t 14) .skip (.exit 0)) (.seq (.block 1 (.seq A_impl_cycles.r5 (.seq (.seq A_impl_cycles.r6 (.cond (.t 18) (.exit 1) .skip)) (.seq A_impl_cycles.r7 (.seq (.seq A_impl_cycles.r8 (.block 2 (.loop A_impl_cycles.l0))) A_impl_cycles.r13))))) A_impl_cycles.r14)))
def A_impl_cycles.r15 : ACode := (.region none [⟨some 40, .move (.t 5), none⟩,
    ⟨some 4, .move (.t 40), none⟩])
def A_impl_cycles : AFunc := ⟨[.tmp 4], (.seq A_impl_cycles.r0 (.seq A_impl_cycles.r1 (.seq A_impl_cycles.r2 (.seq (.seq A_impl_cycles.r3 (.block 0 (.loop A_impl_cycles.l1))) (.seq A_impl_cycles.r15 .ret)))))⟩
/-! slices_Sort_int64_int64 -/
def A_slices_Sort_int64_int64.r0 : ACode := (.region none [⟨some 3, .move (.t 0), none⟩,
    ⟨some 4, .len (.t 3), none⟩,
    ⟨some 2, .move (.t 4), none⟩])
def A_slices_Sort_int64_int64.r1 : ACode := (.region none [⟨some 5, .move (.t 0), none⟩,
    ⟨some 6, .move (.t 2), none⟩,
    ⟨some 7, .move (.t 2), none⟩,
    ⟨some 8, .conv .u64 (.t 7), none⟩,
    ⟨some 9, .call 227 [(.t 8)], none⟩,
    ⟨some 10, .call 228 [(.t 5), (.c (.int .i64 0)), (.t 6), (.t 9)], none⟩])
def A_slices_Sort_int64_int64 : AFunc := ⟨[], (.seq A_slices_Sort_int64_int64.r0 A_slices_Sort_int64_int64.r1)⟩
/-! slices_Reverse_int64_int64 -/
def A_slices_Reverse_int64_int64.r0 : ACode := (.region none [⟨some 4, .move (.t 0), none⟩,
    ⟨some 5, .len (.t 4), none⟩,
    ⟨some 6, .bin .sub (.t 5) (.c (.int .i64 1)), none⟩,
    ⟨some 2, .move (.c (.int .i64 0)), none⟩,
    ⟨some 3, .move (.t 6), none⟩])
def A_slices_Reverse_int64_int64.r1 : ACode := (.region none [⟨some 7, .move (.t 2), none⟩,
    ⟨some 8, .move (.t 3), none⟩,
    ⟨some 9, .bin .lss (.t 7) (.t 8), none⟩])
def A_slices_Reverse_int64_int64.r3 : ACode := (.region (some 13) [⟨some 14, .move (.t 0), none⟩,
    ⟨some 15, .move (.t 2), none⟩,
    ⟨some 16, .move (.t 0), none⟩,
    ⟨some 17, .move (.t 3), none⟩,
    ⟨some 18, .move (.t 0), none⟩,
    ⟨some 19, .move (.t 3), none⟩,
    ⟨some 20, .indexAddr none 1 (.t 18) (.t 19), none⟩,
    ⟨some 21, .load none (.t 20), none⟩,
    ⟨some 22, .move (.t 0), none⟩,
    ⟨some 23, .move (.t 2), none⟩,
    ⟨some 24, .indexAddr none 1 (.t 22) (.t 23), none⟩,
    ⟨some 25, .load none (.t 24), none⟩,
    ⟨some 26, .indexAddr none 1 (.t 14) (.t 15), none⟩,
    ⟨none, .storeF 1 (.t 26) (.t 21) [], none⟩,
    ⟨some 27, .indexAddr none 1 (.t 16) (.t 17), none⟩,
    ⟨none, .store 1 (.t 27) (.t 25), none⟩])
def A_slices_Reverse_int64_int64.r2 : ACode := (.region none [⟨some 10, .move (.t 2), none⟩,
    ⟨some 11, .bin .add (.t 10) (.c (.int .i64 1)), none⟩,
    ⟨some 12, .move (.t 3), none⟩,
    ⟨some 13, .bin .sub (.t 12) (.c (.int .i64 1)), none⟩,
    ⟨some 2, .move (.t 11), none⟩,
    ⟨some 3, .move (.t 13), none⟩])
def A_slices_Reverse_int64_int64.l0 : ACode := (.seq (.seq A_slices_Reverse_int64_int64.r1 (.cond (.t 9) .skip (.exit 0))) (.seq (.block 1 A_slices_Reverse_int64_int64.r3) A_slices_Reverse_int64_int64.r2))
def A_slices_Reverse_int64_int64 : AFunc := ⟨[], (.seq A_slices_Reverse_int64_int64.r0 (.block 0 (.loop A_slices_Reverse_int64_int64.l0)))⟩
/-! slices_pdqsortOrdered_int64 -/
def A_slices_pdqsortOrdered_int64.r0 : ACode := (.region none [⟨some 8, .move (.c (.bool true)), none⟩])
def A_slices_pdqsortOrdered_int64.r1 : ACode := (.region none [⟨some 9, .move (.c (.bool true)), none⟩])
def A_slices_pdqsortOrdered_int64.r2 : ACode := (.region none [⟨some 19, .move (.t 2), none⟩,
    ⟨some 20, .move (.t 1), none⟩,
    ⟨some 21, .bin .sub (.t 19) (.t 20), none⟩,
    ⟨some 10, .move (.t 21), none⟩])
def A_slices_pdqsortOrdered_int64.r3 : ACode := (.region none [⟨some 22, .move (.t 10), none⟩,
    ⟨some 23, .bin .leq (.t 22) (.c (.int .i64 12)), none⟩])
def A_slices_pdqsortOrdered_int64.r4 : ACode := (.region none [⟨some 24, .move (.t 0), none⟩,
    ⟨some 25, .move (.t 1), none⟩,
    ⟨some 26, .move (.t 2), none⟩,
    ⟨some 27, .call 229 [(.t 24), (.t 25), (.t 26)], none⟩])
def A_slices_pdqsortOrdered_int64.r5 : ACode := (.region none [⟨some 28, .move (.t 3), none⟩,
    ⟨some 29, .bin .eql (.t 28) (.c (.int .i64 0)), none⟩])
def A_slices_pdqsortOrdered_int64.r6 : ACode := (.region none [⟨some 30, .move (.t 0), none⟩,
    ⟨some 31, .move (.t 1), none⟩,
    ⟨some 32, .move (.t 2), none⟩,
    ⟨some 33, .call 230 [(.t 30), (.t 31), (.t 32)], none⟩])
def A_slices_pdqsortOrdered_int64.r7 : ACode := (.region none [⟨some 34, .move (.t 8), none⟩,
    ⟨some 35, .not (.t 34), none⟩])
def A_slices_pdqsortOrdered_int64.r8 : ACode := (.region none [⟨some 36, .move (.t 0), none⟩,
    ⟨some 37, .move (.t 1), none⟩,
    ⟨some 38, .move (.t 2), none⟩,
    ⟨some 39, .call 231 [(.t 36), (.t 37), (.t 38)], none⟩])
def A_slices_pdqsortOrdered_int64.r9 : ACode := (.region none [⟨some 40, .move (.t 3), none⟩,
    ⟨some 41, .bin .sub (.t 40) (.c (.int .i64 1)), none⟩,
    ⟨some 3, .move (.t 41), none⟩])
def A_slices_pdqsortOrdered_int64.r10 : ACode := (.region none [⟨some 43, .move (.t 0), none⟩,
    ⟨some 44, .move (.t 1), none⟩,
    ⟨some 45, .move (.t 2), none⟩,
    ⟨some 46, .call 232 [(.t 43), (.t 44), (.t 45)], none⟩,
    ⟨some 42, .move (.t 46), none⟩,
    ⟨some 47, .extract (.t 42) 0, none⟩,
    ⟨some 48, .extract (.t 42) 1, none⟩,
    ⟨some 11, .move (.t 47), none⟩,
    ⟨some 12, .move (.t 48), none⟩])
def A_slices_pdqsortOrdered_int64.r11 : ACode := (.region none [⟨some 49, .move (.t 12), none⟩,
    ⟨some 50, .bin .eql (.t 49) (.c (.int .i64 2)), none⟩])
def A_slices_pdqsortOrdered_int64.r12 : ACode := (.region none [⟨some 51, .move (.t 0), none⟩,
    ⟨some 52, .move (.t 1), none⟩,
    ⟨some 53, .move (.t 2), none⟩,
    ⟨some 54, .call 233 [(.t 51), (.t 52), (.t 53)], none⟩])
def A_slices_pdqsortOrdered_int64.r13 : ACode := (.region none [⟨some 55, .move (.t 2), none⟩,
    ⟨some 56, .bin .sub (.t 55) (.c (.int .i64 1)), none⟩,
    ⟨some 57, .move (.t 11), none⟩,
    ⟨some 58, .move (.t 1), none⟩,
    ⟨some 59, .bin .sub (.t 57) (.t 58), none⟩,
    ⟨some 60, .bin .sub (.t 56) (.t 59), none⟩,
    ⟨some 11, .move (.t 60), none⟩])
def A_slices_pdqsortOrdered_int64.r14 : ACode := (.region none [⟨some 12, .move (.c (.int .i64 1)), none⟩])
def A_slices_pdqsortOrdered_int64.r15 : ACode := (.region none [⟨some 61, .move (.t 8), none⟩,
    ⟨some 62, .move (.t 61), none⟩,
    ⟨some 63, .move (.t 9), some (62, true)⟩,
    ⟨some 64, .pick (.t 62) (.t 63) (.c (.bool false)), none⟩,
    ⟨some 65, .move (.t 64), none⟩,
    ⟨some 66, .move (.t 12), some (65, true)⟩,
    ⟨some 67, .bin .eql (.t 66) (.c (.int .i64 1)), some (65, true)⟩,
    ⟨some 68, .pick (.t 65) (.t 67) (.c (.bool false)), none⟩])
def A_slices_pdqsortOrdered_int64.r16 : ACode := (.region none [⟨some 69, .move (.t 0), none⟩,
    ⟨some 70, .move (.t 1), none⟩,
    ⟨some 71, .move (.t 2), none⟩,
    ⟨some 72, .call 234 [(.t 69), (.t 70), (.t 71)], none⟩])
def A_slices_pdqsortOrdered_int64.r17 : ACode := (.region (some 15) [⟨some 73, .move (.t 1), none⟩,
    ⟨some 74, .bin .gtr (.t 73) (.c (.int .i64 0)), none⟩,
    ⟨some 75, .move (.t 74), none⟩,
    ⟨some 76, .move (.t 0), some (75, true)⟩,
    ⟨some 77, .move (.t 1), some (75, true)⟩,
    ⟨some 78, .bin .sub (.t 77) (.c (.int .i64 1)), some (75, true)⟩,
    ⟨some 79, .indexAddr none 1 (.t 76) (.t 78), some (75, true)⟩,
    ⟨some 80, .load none (.t 79), some (75, true)⟩,
    ⟨some 81, .move (.t 0), some (75, true)⟩,
    ⟨some 82, .move (.t 11), some (75, true)⟩,
    ⟨some 83, .indexAddr none 1 (.t 81) (.t 82), some (75, true)⟩,
    ⟨some 84, .load none (.t 83), some (75, true)⟩,
    ⟨some 85, .call 235 [(.t 80), (.t 84)], some (75, true)⟩,
    ⟨some 86, .not (.t 85), some (75, true)⟩,
    ⟨some 87, .pick (.t 75) (.t 86) (.c (.bool false)), none⟩])
def A_slices_pdqsortOrdered_int64.r18 : ACode := (.region none [⟨some 88, .move (.t 0), none⟩,
    ⟨some 89, .move (.t 1), none⟩,
    ⟨some 90, .move (.t 2), none⟩,
    ⟨some 91, .move (.t 11), none⟩,
    ⟨some 92, .call 236 [(.t 88), (.t 89), (.t 90), (.t 91)], none⟩,
    ⟨some 13, .move (.t 92), none⟩])
def A_slices_pdqsortOrdered_int64.r19 : ACode := (.region none [⟨some 93, .move (.t 13), none⟩,
    ⟨some 1, .move (.t 93), none⟩])
def A_slices_pdqsortOrdered_int64.r20 : ACode := (.region none [⟨some 95, .move (.t 0), none⟩,
    ⟨some 96, .move (.t 1), none⟩,
    ⟨some 97, .move (.t 2), none⟩,
    ⟨some 98, .move (.t 11), none⟩,
    ⟨some 99, .call 237 [(.t 95), (.t 96), (.t 97), (.t 98)], none⟩,
    ⟨some 94, .move (.t 99), none⟩,
    ⟨some 100, .extract (.t 94) 0, none⟩,
    ⟨some 101, .extract (.t 94) 1, none⟩,
    ⟨some 14, .move (.t 100), none⟩,
    ⟨some 15, .move (.t 101), none⟩])
def A_slices_pdqsortOrdered_int64.r21 : ACode := (.region none [⟨some 102, .move (.t 15), none⟩,
    ⟨some 9, .move (.t 102), none⟩])
def A_slices_pdqsortOrdered_int64.r22 : ACode := (.region none [⟨some 103, .move (.t 14), none⟩,
    ⟨some 104, .move (.t 1), none⟩,
    ⟨some 105, .bin .sub (.t 103) (.t 104), none⟩,
    ⟨some 106, .move (.t 2), none⟩,
    ⟨some 107, .move (.t 14), none⟩,
    ⟨some 108, .bin .sub (.t 106) (.t 107), none⟩,
    ⟨some 16, .move (.t 105), none⟩,
    ⟨some 17, .move (.t 108), none⟩])
def A_slices_pdqsortOrdered_int64.r23 : ACode := (.region none [⟨some 109, .move (.t 10), none⟩,
    ⟨some 110, .bin .quo (.t 109) (.c (.int .i64 8)), none⟩,
    ⟨some 18, .move (.t 110), none⟩])
def A_slices_pdqsortOrdered_int64.r24 : ACode := (.region none [⟨some 111, .move (.t 16), none⟩,
    ⟨some 112, .move (.t 17), none⟩,
    ⟨some 113, .bin .lss (.t 111) (.t 112), none⟩])
def A_slices_pdqsortOrdered_int64.r25 : ACode := (.region none [⟨some 114, .move (.t 16), none⟩,
    ⟨some 115, .move (.t 18), none⟩,
    ⟨some 116, .bin .geq (.t 114) (.t 115), none⟩,
    ⟨some 8, .move (.t 116), none⟩])
def A_slices_pdqsortOrdered_int64.r26 : ACode := (.region none [⟨some 117, .move (.t 0), none⟩,
    ⟨some 118, .move (.t 1), none⟩,
    ⟨some 119, .move (.t 14), none⟩,
    ⟨some 120, .move (.t 3), none⟩,
    ⟨some 121, .call 228 [(.t 117), (.t 118), (.t 119), (.t 120)], none⟩])
def A_slices_pdqsortOrdered_int64.r27 : ACode := (.region none [⟨some 122, .move (.t 14), none⟩,
    ⟨some 123, .bin .add (.t 122) (.c (.int .i64 1)), none⟩,
    ⟨some 1, .move (.t 123), none⟩])
def A_slices_pdqsortOrdered_int64.r28 : ACode := (.region none [⟨some 124, .move (.t 17), none⟩,
    ⟨some 125, .move (.t 18), none⟩,
    ⟨some 126, .bin .geq (.t 124) (.t 125), none⟩,
    ⟨some 8, .move (.t 126), none⟩])
def A_slices_pdqsortOrdered_int64.r29 : ACode := (.region none [⟨some 127, .move (.t 0), none⟩,
    ⟨some 128, .move (.t 14), none⟩,
    ⟨some 129, .bin .add (.t 128) (.c (.int .i64 1)), none⟩,
    ⟨some 130, .move (.t 2), none⟩,
    ⟨some 131, .move (.t 3), none⟩,
    ⟨some 132, .call 228 [(.t 127), (.t 129), (.t 130), (.t 131)], none⟩])
def A_slices_pdqsortOrdered_int64.r30 : ACode := (.region none [⟨some 133, .move (.t 14), none⟩,
    ⟨some 2, .move (.t 133), none⟩])
def A_slices_pdqsortOrdered_int64.l0 : ACode := (.block 1 (.seq A_slices_pdqsortOrdered_int64.r2 (.seq (.seq A_slices_pdqsortOrdered_int64.r3 (.cond (.t 23) (.seq A_slices_pdqsortOrdered_int64.r4 .ret) .skip)) (.seq (.seq A_slices_pdqsortOrdered_int64.r5 (.cond (.t 29) (.seq A_slices_pdqsortOrdered_int64.r6 .ret) .skip)) (.seq (.seq A_slices_pdqsortOrdered_int64.r7 (.cond (.t 35) (.seq A_slices_pdqsortOrdered_int64.r8 A_slices_pdqsortOrdered_int64.r9) .skip)) (.seq A_slices_pdqsortOrdered_int64.r10 (.seq (.seq A_slices_pdqsortOrdered_int64.r11 (.cond (.t 50) (.seq A_slices_pdqsortOrdered_int64.r12 (.seq A_slices_pdqsortOrdered_int64.r13 A_slices_pdqsortOrdered_int64.r14)) .skip)) (.seq (.seq A_slices_pdqsortOrdered_int64.r15 (.cond (.t 68) (.seq A_slices_pdqsortOrdered_int64.r16 (.cond (.t 72) .ret .skip)) .skip)) (.seq (.seq A_slices_pdqsortOrdered_int64.r17 (.cond (.t 87) (.seq A_slices_pdqsortOrdered_int64.r18 (.seq A_slices_pdqsortOrdered_int64.r19 (.exit 1))) .skip)) (.seq A_slices_pdqsortOrdered_int64.r20 (.seq A_slices_pdqsortOrdered_int64.r21 (.seq A_slices_pdqsortOrdered_int64.r22 (.seq A_slices_pdqsortOrdered_int64.r23 (.seq A_slices_pdqsortOrdered_int64.r24 (.cond (.t 113) (.seq A_slices_pdqsortOrdered_int64.r25 (.seq A_slices_pdqsortOrdered_int64.r26 A_slices_pdqsortOrdered_int64.r27)) (.seq A_slices_pdqsortOrdered_int64.r28 (.seq A_slices_pdqsortOrdered_int64.r29 A_slices_pdqsortOrdered_int64.r30)))))))))))))))))
def A_slices_pdqsortOrdered_int64 : AFunc := ⟨[], (.seq A_slices_pdqsortOrdered_int64.r0 (.seq A_slices_pdqsortOrdered_int64.r1 (.block 0 (.loop A_slices_pdqsortOrdered_int64.l0))))⟩
/-! slices_insertionSortOrdered_int64 -/
def A_slices_insertionSortOrdered_int64.r0 : ACode := (.region none [⟨some 8, .move (.t 1), none⟩,
    ⟨some 9, .bin .add (.t 8) (.c (.int .i64 1)), none⟩,
    ⟨some 6, .move (.t 9), none⟩])
def A_slices_insertionSortOrdered_int64.r1 : ACode := (.region none [⟨some 10, .move (.t 6), none⟩,
    ⟨some 11, .move (.t 2), none⟩,
    ⟨some 12, .bin .lss (.t 10) (.t 11), none⟩])
def A_slices_insertionSortOrdered_int64.r3 : ACode := (.region none [⟨some 15, .move (.t 6), none⟩,
    ⟨some 7, .move (.t 15), none⟩])
def A_slices_insertionSortOrdered_int64.r4 : ACode := (.region (some 15) [⟨some 16, .move (.t 7), none⟩,
    ⟨some 17, .move (.t 1), none⟩,
    ⟨some 18, .bin .gtr (.t 16) (.t 17), none⟩,
    ⟨some 19, .move (.t 18), none⟩,
    ⟨some 20, .move (.t 0), some (19, true)⟩,
    ⟨some 21, .move (.t 7), some (19, true)⟩,
    ⟨some 22, .indexAddr none 1 (.t 20) (.t 21), some (19, true)⟩,
    ⟨some 23, .load none (.t 22), some (19, true)⟩,
    ⟨some 24, .move (.t 0), some (19, true)⟩,
    ⟨some 25, .move (.t 7), some (19, true)⟩,
    ⟨some 26, .bin .sub (.t 25) (.c (.int .i64 1)), some (19, true)⟩,
    ⟨some 27, .indexAddr none 1 (.t 24) (.t 26), some (19, true)⟩,
    ⟨some 28, .load none (.t 27), some (19, true)⟩,
    ⟨some 29, .call 235 [(.t 23), (.t 28)], some (19, true)⟩,
    ⟨some 30, .pick (.t 19) (.t 29) (.c (.bool false)), none⟩])
def A_slices_insertionSortOrdered_int64.r6 : ACode := (.region (some 15) [⟨some 33, .move (.t 0), none⟩,
    ⟨some 34, .move (.t 7), none⟩,
    ⟨some 35, .move (.t 0), none⟩,
    ⟨some 36, .move (.t 7), none⟩,
    ⟨some 37, .bin .sub (.t 36) (.c (.int .i64 1)), none⟩,
    ⟨some 38, .move (.t 0), none⟩,
    ⟨some 39, .move (.t 7), none⟩,
    ⟨some 40, .bin .sub (.t 39) (.c (.int .i64 1)), none⟩,
    ⟨some 41, .indexAddr none 1 (.t 38) (.t 40), none⟩,
    ⟨some 42, .load none (.t 41), none⟩,
    ⟨some 43, .move (.t 0), none⟩,
    ⟨some 44, .move (.t 7), none⟩,
    ⟨some 45, .indexAddr none 1 (.t 43) (.t 44), none⟩,
    ⟨some 46, .load none (.t 45), none⟩,
    ⟨some 47, .indexAddr none 1 (.t 33) (.t 34), none⟩,
    ⟨none, .storeF 1 (.t 47) (.t 42) [], none⟩,
    ⟨some 48, .indexAddr none 1 (.t 35) (.t 37), none⟩,
    ⟨none, .store 1 (.t 48) (.t 46), none⟩])
def A_slices_insertionSortOrdered_int64.r5 : ACode := (.region none [⟨some 31, .move (.t 7), none⟩,
    ⟨some 32, .bin .sub (.t 31) (.c (.int .i64 1)), none⟩,
    ⟨some 7, .move (.t 32), none⟩])
def A_slices_insertionSortOrdered_int64.l0 : ACode := (.seq (.seq A_slices_insertionSortOrdered_int64.r4 (.cond (.t 30) .skip (.exit 2))) (.seq (.block 3 A_slices_insertionSortOrdered_int64.r6) A_slices_insertionSortOrdered_int64.r5))
def A_slices_insertionSortOrdered_int64.r2 : ACode := (.region none [⟨some 13, .move (.t 6), none⟩,
    ⟨some 14, .bin .add (.t 13) (.c (.int .i64 1)), none⟩,
    ⟨some 6, .move (.t 14), none⟩])
def A_slices_insertionSortOrdered_int64.l1 : ACode := (.seq (.seq A_slices_insertionSortOrdered_int64.r1 (.cond (.t 12) .skip (.exit 0))) (.seq (.block 1 (.seq A_slices_insertionSortOrdered_int64.r3 (.block 2 (.loop A_slices_insertionSortOrdered_int64.l0)))) A_slices_insertionSortOrdered_int64.r2))
def A_slices_insertionSortOrdered_int64 : AFunc := ⟨[], (.seq A_slices_insertionSortOrdered_int64.r0 (.block 0 (.loop A_slices_insertionSortOrdered_int64.l1)))⟩
/-! slices_heapSortOrdered_int64 -/
def A_slices_heapSortOrdered_int64.r0 : ACode := (.region none [⟨some 11, .move (.t 1), none⟩,
    ⟨some 6, .move (.t 11), none⟩])
def A_slices_heapSortOrdered_int64.r1 : ACode := (.region none [⟨some 7, .move (.c (.int .i64 0)), none⟩])
def A_slices_heapSortOrdered_int64.r2 : ACode := (.region none [⟨some 12, .move (.t 2), none⟩,
    ⟨some 13, .move (.t 1), none⟩,
    ⟨some 14, .bin .sub (.t 12) (.t 13), none⟩,
    ⟨some 8, .move (.t 14), none⟩])
def A_slices_heapSortOrdered_int64.r3 : ACode := (.region none [⟨some 15, .move (.t 8), none⟩,
    ⟨some 16, .bin .sub (.t 15) (.c (.int .i64 1)), none⟩,
    ⟨some 17, .bin .quo (.t 16) (.c (.int .i64 2)), none⟩,
    ⟨some 9, .move (.t 17), none⟩])
def A_slices_heapSortOrdered_int64.r4 : ACode := (.region none [⟨some 18, .move (.t 9), none⟩,
    ⟨some 19, .bin .geq (.t 18) (.c (.int .i64 0)), none⟩])
def A_slices_heapSortOrdered_int64.r6 : ACode := (.region none [⟨some 22, .move (.t 0), none⟩,
    ⟨some 23, .move (.t 9), none⟩,
    ⟨some 24, .move (.t 8), none⟩,
    ⟨some 25, .move (.t 6), none⟩,
    ⟨some 26, .call 239 [(.t 22), (.t 23), (.t 24), (.t 25)], none⟩])
def A_slices_heapSortOrdered_int64.r5 : ACode := (.region none [⟨some 20, .move (.t 9), none⟩,
    ⟨some 21, .bin .sub (.t 20) (.c (.int .i64 1)), none⟩,
    ⟨some 9, .move (.t 21), none⟩])
def A_slices_heapSortOrdered_int64.l0 : ACode := (.seq (.seq A_slices_heapSortOrdered_int64.r4 (.cond (.t 19) .skip (.exit 0))) (.seq (.block 1 A_slices_heapSortOrdered_int64.r6) A_slices_heapSortOrdered_int64.r5))
def A_slices_heapSortOrdered_int64.r7 : ACode := (.region none [⟨some 27, .move (.t 8), none⟩,
    ⟨some 28, .bin .sub (.t 27) (.c (.int .i64 1)), none⟩,
    ⟨some 10, .move (.t 28), none⟩])
def A_slices_heapSortOrdered_int64.r8 : ACode := (.region none [⟨some 29, .move (.t 10), none⟩,
    ⟨some 30, .bin .geq (.t 29) (.c (.int .i64 0)), none⟩])
def A_slices_heapSortOrdered_int64.r10 : ACode := (.region (some 17) [⟨some 33, .move (.t 0), none⟩,
    ⟨some 34, .move (.t 6), none⟩,
    ⟨some 35, .move (.t 0), none⟩,
    ⟨some 36, .move (.t 6), none⟩,
    ⟨some 37, .move (.t 10), none⟩,
    ⟨some 38, .bin .add (.t 36) (.t 37), none⟩,
    ⟨some 39, .move (.t 0), none⟩,
    ⟨some 40, .move (.t 6), none⟩,
    ⟨some 41, .move (.t 10), none⟩,
    ⟨some 42, .bin .add (.t 40) (.t 41), none⟩,
    ⟨some 43, .indexAddr none 1 (.t 39) (.t 42), none⟩,
    ⟨some 44, .load none (.t 43), none⟩,
    ⟨some 45, .move (.t 0), none⟩,
    ⟨some 46, .move (.t 6), none⟩,
    ⟨some 47, .indexAddr none 1 (.t 45) (.t 46), none⟩,
    ⟨some 48, .load none (.t 47), none⟩,
    ⟨some 49, .indexAddr none 1 (.t 33) (.t 34), none⟩,
    ⟨none, .storeF 1 (.t 49) (.t 44) [], none⟩,
    ⟨some 50, .indexAddr none 1 (.t 35) (.t 38), none⟩,
    ⟨none, .store 1 (.t 50) (.t 48), none⟩])
def A_slices_heapSortOrdered_int64.r11 : ACode := (.region none [⟨some 51, .move (.t 0), none⟩,
    ⟨some 52, .move (.t 7), none⟩,
    ⟨some 53, .move (.t 10), none⟩,
    ⟨some 54, .move (.t 6), none⟩,
    ⟨some 55, .call 239 [(.t 51), (.t 52), (.t 53), (.t 54)], none⟩])
def A_slices_heapSortOrdered_int64.r9 : ACode := (.region none [⟨some 31, .move (.t 10), none⟩,
    ⟨some 32, .bin .sub (.t 31) (.c (.int .i64 1)), none⟩,
    ⟨some 10, .move (.t 32), none⟩])
def A_slices_heapSortOrdered_int64.l1 : ACode := (.seq (.seq A_slices_heapSortOrdered_int64.r8 (.cond (.t 30) .skip (.exit 2))) (.seq (.block 3 (.seq A_slices_heapSortOrdered_int64.r10 A_slices_heapSortOrdered_int64.r11)) A_slices_heapSortOrdered_int64.r9))
def A_slices_heapSortOrdered_int64 : AFunc := ⟨[], (.seq A_slices_heapSortOrdered_int64.r0 (.seq A_slices_heapSortOrdered_int64.r1 (.seq A_slices_heapSortOrdered_int64.r2 (.seq (.seq A_slices_heapSortOrdered_int64.r3 (.block 0 (.loop A_slices_heapSortOrdered_int64.l0))) (.seq A_slices_heapSortOrdered_int64.r7 (.block 2 (.loop A_slices_heapSortOrdered_int64.l1)))))))⟩
/-! slices_breakPatternsOrdered_int64 -/
def A_slices_breakPatternsOrdered_int64.r0 : ACode := (.region none [⟨some 11, .move (.t 2), none⟩,
    ⟨some 12, .move (.t 1), none⟩,
    ⟨some 13, .bin .sub (.t 11) (.t 12), none⟩,
    ⟨some 6, .move (.t 13), none⟩])
def A_slices_breakPatternsOrdered_int64.r1 : ACode := (.region none [⟨some 14, .move (.t 6), none⟩,
    ⟨some 15, .bin .geq (.t 14) (.c (.int .i64 8)), none⟩])
def A_slices_breakPatternsOrdered_int64.r2 : ACode := (.region none [⟨some 16, .move (.t 6), none⟩,
    ⟨some 17, .conv .u64 (.t 16), none⟩,
    ⟨some 7, .alloc [.int .u64 0], none⟩,
    ⟨none, .store 1 (.t 7) (.t 17), none⟩])
def A_slices_breakPatternsOrdered_int64.r3 : ACode := (.region none [⟨some 18, .move (.t 6), none⟩,
    ⟨some 19, .call 240 [(.t 18)], none⟩,
    ⟨some 8, .move (.t 19), none⟩])
def A_slices_breakPatternsOrdered_int64.r4 : ACode := (.region none [⟨some 20, .move (.t 1), none⟩,
    ⟨some 21, .move (.t 6), none⟩,
    ⟨some 22, .bin .quo (.t 21) (.c (.int .i64 4)), none⟩,
    ⟨some 23, .bin .mul (.t 22) (.c (.int .i64 2)), none⟩,
    ⟨some 24, .bin .add (.t 20) (.t 23), none⟩,
    ⟨some 25, .bin .sub (.t 24) (.c (.int .i64 1)), none⟩,
    ⟨some 9, .move (.t 25), none⟩])
def A_slices_breakPatternsOrdered_int64.r5 : ACode := (.region none [⟨some 26, .move (.t 9), none⟩,
    ⟨some 27, .move (.t 1), none⟩,
    ⟨some 28, .move (.t 6), none⟩,
    ⟨some 29, .bin .quo (.t 28) (.c (.int .i64 4)), none⟩,
    ⟨some 30, .bin .mul (.t 29) (.c (.int .i64 2)), none⟩,
    ⟨some 31, .bin .add (.t 27) (.t 30), none⟩,
    ⟨some 32, .bin .add (.t 31) (.c (.int .i64 1)), none⟩,
    ⟨some 33, .bin .leq (.t 26) (.t 32), none⟩])
def A_slices_breakPatternsOrdered_int64.r7 : ACode := (.region none [⟨some 36, .call 241 [(.t 7)], none⟩,
    ⟨some 37, .move (.t 8), none⟩,
    ⟨some 38, .bin .sub (.t 37) (.c (.int .u64 1)), none⟩,
    ⟨some 39, .bin .and (.t 36) (.t 38), none⟩,
    ⟨some 40, .conv .i64 (.t 39), none⟩,
    ⟨some 10, .move (.t 40), none⟩])
def A_slices_breakPatternsOrdered_int64.r8 : ACode := (.region none [⟨some 41, .move (.t 10), none⟩,
    ⟨some 42, .move (.t 6), none⟩,
    ⟨some 43, .bin .geq (.t 41) (.t 42), none⟩])
def A_slices_breakPatternsOrdered_int64.r9 : ACode := (.region none [⟨some 44, .move (.t 10), none⟩,
    ⟨some 45, .move (.t 6), none⟩,
    ⟨some 46, .bin .sub (.t 44) (.t 45), none⟩,
    ⟨some 10, .move (.t 46), none⟩])
def A_slices_breakPatternsOrdered_int64.r10 : ACode := (.region (some 17) [⟨some 47, .move (.t 0), none⟩,
    ⟨some 48, .move (.t 9), none⟩,
    ⟨some 49, .move (.t 0), none⟩,
    ⟨some 50, .move (.t 1), none⟩,
    ⟨some 51, .move (.t 10), none⟩,
    ⟨some 52, .bin .add (.t 50) (.t 51), none⟩,
    ⟨some 53, .move (.t 0), none⟩,
    ⟨some 54, .move (.t 1), none⟩,
    ⟨some 55, .move (.t 10), none⟩,
    ⟨some 56, .bin .add (.t 54) (.t 55), none⟩,
    ⟨some 57, .indexAddr none 1 (.t 53) (.t 56), none⟩,
    ⟨some 58, .load none (.t 57), none⟩,
    ⟨some 59, .move (.t 0), none⟩,
    ⟨some 60, .move (.t 9), none⟩,
    ⟨some 61, .indexAddr none 1 (.t 59) (.t 60), none⟩,
    ⟨some 62, .load none (.t 61), none⟩,
    ⟨some 63, .indexAddr none 1 (.t 47) (.t 48), none⟩,
    ⟨none, .storeF 1 (.t 63) (.t 58) [], none⟩,
    ⟨some 64, .indexAddr none 1 (.t 49) (.t 52), none⟩,
    ⟨none, .store 1 (.t 64) (.t 62), none⟩])
def A_slices_breakPatternsOrdered_int64.r6 : ACode := (.region none [⟨some 34, .move (.t 9), none⟩,
    ⟨some 35, .bin .add (.t 34) (.c (.int .i64 1)), none⟩,
    ⟨some 9, .move (.t 35), none⟩])
def A_slices_breakPatternsOrdered_int64.l0 : ACode := (.seq (.seq A_slices_breakPatternsOrdered_int64.r5 (.cond (.t 33) .skip (.exit 0))) (.seq (.block 1 (.seq A_slices_breakPatternsOrdered_int64.r7 (.seq (.seq A_slices_breakPatternsOrdered_int64.r8 (.cond (.t 43) A_slices_breakPatternsOrdered_int64.r9 .skip)) A_slices_breakPatternsOrdered_int64.r10))) A_slices_breakPatternsOrdered_int64.r6))
def A_slices_breakPatternsOrdered_int64 : AFunc := ⟨[], (.seq A_slices_breakPatternsOrdered_int64.r0 (.seq A_slices_breakPatternsOrdered_int64.r1 (.cond (.t 15) (.seq A_slices_breakPatternsOrdered_int64.r2 (.seq A_slices_breakPatternsOrdered_int64.r3 (.seq A_slices_breakPatternsOrdered_int64.r4 (.block 0 (.loop A_slices_breakPatternsOrdered_int64.l0))))) .skip)))⟩
/-! slices_choosePivotOrdered_int64 -/
def A_slices_choosePivotOrdered_int64.r0 : ACode := (.region none [⟨some 6, .move (.c (.int .i64 0)), none⟩,
    ⟨some 7, .move (.c (.int .i64 0)), none⟩])
def A_slices_choosePivotOrdered_int64.r1 : ACode := (.region none [⟨some 13, .move (.t 2), none⟩,
    ⟨some 14, .move (.t 1), none⟩,
    ⟨some 15, .bin .sub (.t 13) (.t 14), none⟩,
    ⟨some 8, .move (.t 15), none⟩])
def A_slices_choosePivotOrdered_int64.r2 : ACode := (.region none [⟨some 9, .alloc [.int .i64 0], none⟩])
def A_slices_choosePivotOrdered_int64.r3 : ACode := (.region none [⟨some 16, .move (.t 1), none⟩,
    ⟨some 17, .move (.t 8), none⟩,
    ⟨some 18, .bin .quo (.t 17) (.c (.int .i64 4)), none⟩,
    ⟨some 19, .bin .mul (.t 18) (.c (.int .i64 1)), none⟩,
    ⟨some 20, .bin .add (.t 16) (.t 19), none⟩,
    ⟨some 10, .move (.t 20), none⟩])
def A_slices_choosePivotOrdered_int64.r4 : ACode := (.region none [⟨some 21, .move (.t 1), none⟩,
    ⟨some 22, .move (.t 8), none⟩,
    ⟨some 23, .bin .quo (.t 22) (.c (.int .i64 4)), none⟩,
    ⟨some 24, .bin .mul (.t 23) (.c (.int .i64 2)), none⟩,
    ⟨some 25, .bin .add (.t 21) (.t 24), none⟩,
    ⟨some 11, .move (.t 25), none⟩])
def A_slices_choosePivotOrdered_int64.r5 : ACode := (.region none [⟨some 26, .move (.t 1), none⟩,
    ⟨some 27, .move (.t 8), none⟩,
    ⟨some 28, .bin .quo (.t 27) (.c (.int .i64 4)), none⟩,
    ⟨some 29, .bin .mul (.t 28) (.c (.int .i64 3)), none⟩,
    ⟨some 30, .bin .add (.t 26) (.t 29), none⟩,
    ⟨some 12, .move (.t 30), none⟩])
def A_slices_choosePivotOrdered_int64.r6 : ACode := (.region none [⟨some 31, .move (.t 8), none⟩,
    ⟨some 32, .bin .geq (.t 31) (.c (.int .i64 8)), none⟩])
def A_slices_choosePivotOrdered_int64.r7 : ACode := (.region none [⟨some 33, .move (.t 8), none⟩,
    ⟨some 34, .bin .geq (.t 33) (.c (.int .i64 50)), none⟩])
def A_slices_choosePivotOrdered_int64.r8 : ACode := (.region none [⟨some 35, .move (.t 0), none⟩,
    ⟨some 36, .move (.t 10), none⟩,
    ⟨some 37, .call 242 [(.t 35), (.t 36), (.t 9)], none⟩,
    ⟨some 10, .move (.t 37), none⟩])
def A_slices_choosePivotOrdered_int64.r9 : ACode := (.region none [⟨some 38, .move (.t 0), none⟩,
    ⟨some 39, .move (.t 11), none⟩,
    ⟨some 40, .call 242 [(.t 38), (.t 39), (.t 9)], none⟩,
    ⟨some 11, .move (.t 40), none⟩])
def A_slices_choosePivotOrdered_int64.r10 : ACode := (.region none [⟨some 41, .move (.t 0), none⟩,
    ⟨some 42, .move (.t 12), none⟩,
    ⟨some 43, .call 242 [(.t 41), (.t 42), (.t 9)], none⟩,
    ⟨some 12, .move (.t 43), none⟩])
def A_slices_choosePivotOrdered_int64.r11 : ACode := (.region none [⟨some 44, .move (.t 0), none⟩,
    ⟨some 45, .move (.t 10), none⟩,
    ⟨some 46, .move (.t 11), none⟩,
    ⟨some 47, .move (.t 12), none⟩,
    ⟨some 48, .call 243 [(.t 44), (.t 45), (.t 46), (.t 47), (.t 9)], none⟩,
    ⟨some 11, .move (.t 48), none⟩])
def A_slices_choosePivotOrdered_int64.r12 : ACode := (.region none [⟨some 49, .load none (.t 9), none⟩])
def A_slices_choosePivotOrdered_int64.r14 : ACode := (.region none [⟨some 52, .bin .eql (.t 49) (.c (.int .i64 0)), none⟩,
    ⟨some 51, .move (.t 52), none⟩])
def A_slices_choosePivotOrdered_int64.r15 : ACode := (.region none [⟨some 53, .move (.t 11), none⟩,
    ⟨some 6, .move (.t 53), none⟩,
    ⟨some 7, .move (.c (.int .i64 1)), none⟩])
def A_slices_choosePivotOrdered_int64.r16 : ACode := (.region none [⟨some 55, .bin .eql (.t 49) (.c (.int .i64 12)), none⟩,
    ⟨some 54, .move (.t 55), none⟩])
def A_slices_choosePivotOrdered_int64.r17 : ACode := (.region none [⟨some 56, .move (.t 11), none⟩,
    ⟨some 6, .move (.t 56), none⟩,
    ⟨some 7, .move (.c (.int .i64 2)), none⟩])
def A_slices_choosePivotOrdered_int64.r13 : ACode := (.region none [⟨some 50, .move (.t 11), none⟩,
    ⟨some 6, .move (.t 50), none⟩,
    ⟨some 7, .move (.c (.int .i64 0)), none⟩])
def A_slices_choosePivotOrdered_int64 : AFunc := ⟨[.tmp 6, .tmp 7], (.seq A_slices_choosePivotOrdered_int64.r0 (.seq A_slices_choosePivotOrdered_int64.r1 (.seq A_slices_choosePivotOrdered_int64.r2 (.seq A_slices_choosePivotOrdered_int64.r3 (.seq A_slices_choosePivotOrdered_int64.r4 (.seq A_slices_choosePivotOrdered_int64.r5 (.seq (.seq A_slices_choosePivotOrdered_int64.r6 (.cond (.t 32) (.seq (.seq A_slices_choosePivotOrdered_int64.r7 (.cond (.t 34) (.seq A_slices_choosePivotOrdered_int64.r8 (.seq A_slices_choosePivotOrdered_int64.r9 A_slices_choosePivotOrdered_int64.r10)) .skip)) A_slices_choosePivotOrdered_int64.r11) .skip)) (.seq A_slices_choosePivotOrdered_int64.r12 (.block 0 (.seq A_slices_choosePivotOrdered_int64.r14 (.cond (.t 51) (.seq A_slices_choosePivotOrdered_int64.r15 .ret) (.seq A_slices_choosePivotOrdered_int64.r16 (.cond (.t 54) (.seq A_slices_choosePivotOrdered_int64.r17 .ret) (.seq A_slices_choosePivotOrdered_int64.r13 .ret))))))))))))))⟩
/-! slices_reverseRangeOrdered_int64 -/
def A_slices_reverseRangeOrdered_int64.r0 : ACode := (.region none [⟨some 8, .move (.t 1), none⟩,
    ⟨some 6, .move (.t 8), none⟩])
def A_slices_reverseRangeOrdered_int64.r1 : ACode := (.region none [⟨some 9, .move (.t 2), none⟩,
    ⟨some 10, .bin .sub (.t 9) (.c (.int .i64 1)), none⟩,
    ⟨some 7, .move (.t 10), none⟩])
def A_slices_reverseRangeOrdered_int64.r2 : ACode := (.region none [⟨some 11, .move (.t 6), none⟩,
    ⟨some 12, .move (.t 7), none⟩,
    ⟨some 13, .bin .lss (.t 11) (.t 12), none⟩])
def A_slices_reverseRangeOrdered_int64.r3 : ACode := (.region (some 13) [⟨some 14, .move (.t 0), none⟩,
    ⟨some 15, .move (.t 6), none⟩,
    ⟨some 16, .move (.t 0), none⟩,
    ⟨some 17, .move (.t 7), none⟩,
    ⟨some 18, .move (.t 0), none⟩,
    ⟨some 19, .move (.t 7), none⟩,
    ⟨some 20, .indexAddr none 1 (.t 18) (.t 19), none⟩,
    ⟨some 21, .load none (.t 20), none⟩,
    ⟨some 22, .move (.t 0), none⟩,
    ⟨some 23, .move (.t 6), none⟩,
    ⟨some 24, .indexAddr none 1 (.t 22) (.t 23), none⟩,
    ⟨some 25, .load none (.t 24), none⟩,
    ⟨some 26, .indexAddr none 1 (.t 14) (.t 15), none⟩,
    ⟨none, .storeF 1 (.t 26) (.t 21) [], none⟩,
    ⟨some 27, .indexAddr none 1 (.t 16) (.t 17), none⟩,
    ⟨none, .store 1 (.t 27) (.t 25), none⟩])
def A_slices_reverseRangeOrdered_int64.r4 : ACode := (.region none [⟨some 28, .move (.t 6), none⟩,
    ⟨some 29, .bin .add (.t 28) (.c (.int .i64 1)), none⟩,
    ⟨some 6, .move (.t 29), none⟩])
def A_slices_reverseRangeOrdered_int64.r5 : ACode := (.region none [⟨some 30, .move (.t 7), none⟩,
    ⟨some 31, .bin .sub (.t 30) (.c (.int .i64 1)), none⟩,
    ⟨some 7, .move (.t 31), none⟩])
def A_slices_reverseRangeOrdered_int64.l0 : ACode := (.seq (.seq A_slices_reverseRangeOrdered_int64.r2 (.cond (.t 13) .skip (.exit 0))) (.block 1 (.seq A_slices_reverseRangeOrdered_int64.r3 (.seq A_slices_reverseRangeOrdered_int64.r4 A_slices_reverseRangeOrdered_int64.r5))))
def A_slices_reverseRangeOrdered_int64 : AFunc := ⟨[], (.seq A_slices_reverseRangeOrdered_int64.r0 (.seq A_slices_reverseRangeOrdered_int64.r1 (.block 0 (.loop A_slices_reverseRangeOrdered_int64.l0))))⟩
/-! slices_partialInsertionSortOrdered_int64 -/
def A_slices_partialInsertionSortOrdered_int64.r0 : ACode := (.region none [⟨some 6, .move (.c (.bool false)), none⟩])
def A_slices_partialInsertionSortOrdered_int64.r1 : ACode := (.region none [⟨some 11, .move (.t 1), none⟩,
    ⟨some 12, .bin .add (.t 11) (.c (.int .i64 1)), none⟩,
    ⟨some 7, .move (.t 12), none⟩])
def A_slices_partialInsertionSortOrdered_int64.r2 : ACode := (.region none [⟨some 8, .move (.c (.int .i64 0)), none⟩])
def A_slices_partialInsertionSortOrdered_int64.r3 : ACode := (.region none [⟨some 13, .move (.t 8), none⟩,
    ⟨some 14, .bin .lss (.t 13) (.c (.int .i64 5)), none⟩])
def A_slices_partialInsertionSortOrdered_int64.r5 : ACode := (.region (some 16) [⟨some 17, .move (.t 7), none⟩,
    ⟨some 18, .move (.t 2), none⟩,
    ⟨some 19, .bin .lss (.t 17) (.t 18), none⟩,
    ⟨some 20, .move (.t 19), none⟩,
    ⟨some 21, .move (.t 0), some (20, true)⟩,
    ⟨some 22, .move (.t 7), some (20, true)⟩,
    ⟨some 23, .indexAddr none 1 (.t 21) (.t 22), some (20, true)⟩,
    ⟨some 24, .load none (.t 23), some (20, true)⟩,
    ⟨some 25, .move (.t 0), some (20, true)⟩,
    ⟨some 26, .move (.t 7), some (20, true)⟩,
    ⟨some 27, .bin .sub (.t 26) (.c (.int .i64 1)), some (20, true)⟩,
    ⟨some 28, .indexAddr none 1 (.t 25) (.t 27), some (20, true)⟩,
    ⟨some 29, .load none (.t 28), some (20, true)⟩,
    ⟨some 30, .call 235 [(.t 24), (.t 29)], some (20, true)⟩,
    ⟨some 31, .not (.t 30), some (20, true)⟩,
    ⟨some 32, .pick (.t 20) (.t 31) (.c (.bool false)), none⟩])
def A_slices_partialInsertionSortOrdered_int64.r6 : ACode := (.region none [⟨some 33, .move (.t 7), none⟩,
    ⟨some 34, .bin .add (.t 33) (.c (.int .i64 1)), none⟩,
    ⟨some 7, .move (.t 34), none⟩])
def A_slices_partialInsertionSortOrdered_int64.l0 : ACode := (.seq (.seq A_slices_partialInsertionSortOrdered_int64.r5 (.cond (.t 32) .skip (.exit 2))) (.block 3 A_slices_partialInsertionSortOrdered_int64.r6))
def A_slices_partialInsertionSortOrdered_int64.r7 : ACode := (.region none [⟨some 35, .move (.t 7), none⟩,
    ⟨some 36, .move (.t 2), none⟩,
    ⟨some 37, .bin .eql (.t 35) (.t 36), none⟩])
def A_slices_partialInsertionSortOrdered_int64.r8 : ACode := (.region none [⟨some 6, .move (.c (.bool true)), none⟩])
def A_slices_partialInsertionSortOrdered_int64.r9 : ACode := (.region none [⟨some 38, .move (.t 2), none⟩,
    ⟨some 39, .move (.t 1), none⟩,
    ⟨some 40, .bin .sub (.t 38) (.t 39), none⟩,
    ⟨some 41, .bin .lss (.t 40) (.c (.int .i64 50)), none⟩])
def A_slices_partialInsertionSortOrdered_int64.r10 : ACode := (.region none [⟨some 6, .move (.c (.bool false)), none⟩])
def A_slices_partialInsertionSortOrdered_int64.r11 : ACode := (.region (some 15) [⟨some 42, .move (.t 0), none⟩,
    ⟨some 43, .move (.t 7), none⟩,
    ⟨some 44, .move (.t 0), none⟩,
    ⟨some 45, .move (.t 7), none⟩,
    ⟨some 46, .bin .sub (.t 45) (.c (.int .i64 1)), none⟩,
    ⟨some 47, .move (.t 0), none⟩,
    ⟨some 48, .move (.t 7), none⟩,
    ⟨some 49, .bin .sub (.t 48) (.c (.int .i64 1)), none⟩,
    ⟨some 50, .indexAddr none 1 (.t 47) (.t 49), none⟩,
    ⟨some 51, .load none (.t 50), none⟩,
    ⟨some 52, .move (.t 0), none⟩,
    ⟨some 53, .move (.t 7), none⟩,
    ⟨some 54, .indexAddr none 1 (.t 52) (.t 53), none⟩,
    ⟨some 55, .load none (.t 54), none⟩,
    ⟨some 56, .indexAddr none 1 (.t 42) (.t 43), none⟩,
    ⟨none, .storeF 1 (.t 56) (.t 51) [], none⟩,
    ⟨some 57, .indexAddr none 1 (.t 44) (.t 46), none⟩,
    ⟨none, .store 1 (.t 57) (.t 55), none⟩])
def A_slices_partialInsertionSortOrdered_int64.r12 : ACode := (.region none [⟨some 58, .move (.t 7), none⟩,
    ⟨some 59, .move (.t 1), none⟩,
    ⟨some 60, .bin .sub (.t 58) (.t 59), none⟩,
    ⟨some 61, .bin .geq (.t 60) (.c (.int .i64 2)), none⟩])
def A_slices_partialInsertionSortOrdered_int64.r13 : ACode := (.region none [⟨some 62, .move (.t 7), none⟩,
    ⟨some 63, .bin .sub (.t 62) (.c (.int .i64 1)), none⟩,
    ⟨some 9, .move (.t 63), none⟩])
def A_slices_partialInsertionSortOrdered_int64.r14 : ACode := (.region none [⟨some 64, .move (.t 9), none⟩,
    ⟨some 65, .bin .geq (.t 64) (.c (.int .i64 1)), none⟩])
def A_slices_partialInsertionSortOrdered_int64.r16 : ACode := (.region (some 11) [⟨some 68, .move (.t 0), none⟩,
    ⟨some 69, .move (.t 9), none⟩,
    ⟨some 70, .indexAddr none 1 (.t 68) (.t 69), none⟩,
    ⟨some 71, .load none (.t 70), none⟩,
    ⟨some 72, .move (.t 0), none⟩,
    ⟨some 73, .move (.t 9), none⟩,
    ⟨some 74, .bin .sub (.t 73) (.c (.int .i64 1)), none⟩,
    ⟨some 75, .indexAddr none 1 (.t 72) (.t 74), none⟩,
    ⟨some 76, .load none (.t 75), none⟩,
    ⟨some 77, .call 235 [(.t 71), (.t 76)], none⟩,
    ⟨some 78, .not (.t 77), none⟩])
def A_slices_partialInsertionSortOrdered_int64.r17 : ACode := (.region (some 15) [⟨some 79, .move (.t 0), none⟩,
    ⟨some 80, .move (.t 9), none⟩,
    ⟨some 81, .move (.t 0), none⟩,
    ⟨some 82, .move (.t 9), none⟩,
    ⟨some 83, .bin .sub (.t 82) (.c (.int .i64 1)), none⟩,
    ⟨some 84, .move (.t 0), none⟩,
    ⟨some 85, .move (.t 9), none⟩,
    ⟨some 86, .bin .sub (.t 85) (.c (.int .i64 1)), none⟩,
    ⟨some 87, .indexAddr none 1 (.t 84) (.t 86), none⟩,
    ⟨some 88, .load none (.t 87), none⟩,
    ⟨some 89, .move (.t 0), none⟩,
    ⟨some 90, .move (.t 9), none⟩,
    ⟨some 91, .indexAddr none 1 (.t 89) (.t 90), none⟩,
    ⟨some 92, .load none (.t 91), none⟩,
    ⟨some 93, .indexAddr none 1 (.t 79) (.t 80), none⟩,
    ⟨none, .storeF 1 (.t 93) (.t 88) [], none⟩,
    ⟨some 94, .indexAddr none 1 (.t 81) (.t 83), none⟩,
    ⟨none, .store 1 (.t 94) (.t 92), none⟩])
def A_slices_partialInsertionSortOrdered_int64.r15 : ACode := (.region none [⟨some 66, .move (.t 9), none⟩,
    ⟨some 67, .bin .sub (.t 66) (.c (.int .i64 1)), none⟩,
    ⟨some 9, .move (.t 67), none⟩])
def A_slices_partialInsertionSortOrdered_int64.l1 : ACode := (.seq (.seq A_slices_partialInsertionSortOrdered_int64.r14 (.cond (.t 65) .skip (.exit 4))) (.seq (.block 5 (.seq (.seq A_slices_partialInsertionSortOrdered_int64.r16 (.cond (.t 78) (.exit 4) .skip)) A_slices_partialInsertionSortOrdered_int64.r17)) A_slices_partialInsertionSortOrdered_int64.r15))
def A_slices_partialInsertionSortOrdered_int64.r18 : ACode := (.region none [⟨some 95, .move (.t 2), none⟩,
    ⟨some 96, .move (.t 7), none⟩,
    ⟨some 97, .bin .sub (.t 95) (.t 96), none⟩,
    ⟨some 98, .bin .geq (.t 97) (.c (.int .i64 2)), none⟩])
def A_slices_partialInsertionSortOrdered_int64.r19 : ACode := (.region none [⟨some 99, .move (.t 7), none⟩,
    ⟨some 100, .bin .add (.t 99) (.c (.int .i64 1)), none⟩,
    ⟨some 10, .move (.t 100), none⟩])
def A_slices_partialInsertionSortOrdered_int64.r20 : ACode := (.region none [⟨some 101, .move (.t 10), none⟩,
    ⟨some 102, .move (.t 2), none⟩,
    ⟨some 103, .bin .lss (.t 101) (.t 102), none⟩])
def A_slices_partialInsertionSortOrdered_int64.r22 : ACode := (.region (some 11) [⟨some 106, .move (.t 0), none⟩,
    ⟨some 107, .move (.t 10), none⟩,
    ⟨some 108, .indexAddr none 1 (.t 106) (.t 107), none⟩,
    ⟨some 109, .load none (.t 108), none⟩,
    ⟨some 110, .move (.t 0), none⟩,
    ⟨some 111, .move (.t 10), none⟩,
    ⟨some 112, .bin .sub (.t 111) (.c (.int .i64 1)), none⟩,
    ⟨some 113, .indexAddr none 1 (.t 110) (.t 112), none⟩,
    ⟨some 114, .load none (.t 113), none⟩,
    ⟨some 115, .call 235 [(.t 109), (.t 114)], none⟩,
    ⟨some 116, .not (.t 115), none⟩])
def A_slices_partialInsertionSortOrdered_int64.r23 : ACode := (.region (some 15) [⟨some 117, .move (.t 0), none⟩,
    ⟨some 118, .move (.t 10), none⟩,
    ⟨some 119, .move (.t 0), none⟩,
    ⟨some 120, .move (.t 10), none⟩,
    ⟨some 121, .bin .sub (.t 120) (.c (.int .i64 1)), none⟩,
    ⟨some 122, .move (.t 0), none⟩,
    ⟨some 123, .move (.t 10), none⟩,
    ⟨some 124, .bin .sub (.t 123) (.c (.int .i64 1)), none⟩,
    ⟨some 125, .indexAddr none 1 (.t 122) (.t 124), none⟩,
    ⟨some 126, .load none (.t 125), none⟩,
    ⟨some 127, .move (.t 0), none⟩,
    ⟨some 128, .move (.t 10), none⟩,
    ⟨some 129, .indexAddr none 1 (.t 127) (.t 128), none⟩,
    ⟨some 130, .load none (.t 129), none⟩,
    ⟨some 131, .indexAddr none 1 (.t 117) (.t 118), none⟩,
    ⟨none, .storeF 1 (.t 131) (.t 126) [], none⟩,
    ⟨some 132, .indexAddr none 1 (.t 119) (.t 121), none⟩,
    ⟨none, .store 1 (.t 132) (.t 130), none⟩])
def A_slices_partialInsertionSortOrdered_int64.r21 : ACode := (.region none [⟨some 104, .move (.t 10), none⟩,
    ⟨some 105, .bin .add (.t 104) (.c (.int .i64 1)), none⟩,
    ⟨some 10, .move (.t 105), none⟩])
def A_slices_partialInsertionSortOrdered_int64.l2 : ACode := (.seq (.seq A_slices_partialInsertionSortOrdered_int64.r20 (.cond (.t 103) .skip (.exit 6))) (.seq (.block 7 (.seq (.seq A_slices_partialInsertionSortOrdered_int64.r22 (.cond (.t 116) (.exit 6) .skip)) A_slices_partialInsertionSortOrdered_int64.r23)) A_slices_partialInsertionSortOrdered_int64.r21))
def A_slices_partialInsertionSortOrdered_int64.r4 : ACode := (.region none [⟨some 15, .move (.t 8), none⟩,
    ⟨some 16, .bin .add (.t 15) (.c (.int .i64 1)), none⟩,
    ⟨some 8, .move (.t 16), none⟩])
def A_slices_partialInsertionSortOrdered_int64.l3 : ACode := (.seq (.seq A_slices_partialInsertionSortOrdered_int64.r3 (.cond (.t 14) .skip (.exit 0))) (.seq (.block 1 (.seq (.block 2 (.loop A_slices_partialInsertionSortOrdered_int64.l0)) (.seq (.seq A_slices_partialInsertionSortOrdered_int64.r7 (.cond (.t 37) (.seq A_slices_partialInsertionSortOrdered_int64.r8 .ret) .skip)) (.seq (.seq A_slices_partialInsertionSortOrdered_int64.r9 (.cond (.t 41) (.seq A_slices_partialInsertionSortOrdered_int64.r10 .ret) .skip)) (.seq A_slices_partialInsertionSortOrdered_int64.r11 (.seq (.seq A_slices_partialInsertionSortOrdered_int64.r12 (.cond (.t 61) (.seq A_slices_partialInsertionSortOrdered_int64.r13 (.block 4 (.loop A_slices_partialInsertionSortOrdered_int64.l1))) .skip)) (.seq A_slices_partialInsertionSortOrdered_int64.r18 (.cond (.t 98) (.seq A_slices_partialInsertionSortOrdered_int64.r19 (.block 6 (.loop A_slices_partialInsertionSortOrdered_int64.l2))) .skip)))))))) A_slices_partialInsertionSortOrdered_int64.r4))
def A_slices_partialInsertionSortOrdered_int64.r24 : ACode := (.region none [⟨some 6, .move (.c (.bool false)), none⟩])
def A_slices_partialInsertionSortOrdered_int64 : AFunc := ⟨[.tmp 6], (.seq A_slices_partialInsertionSortOrdered_int64.r0 (.seq A_slices_partialInsertionSortOrdered_int64.r1 (.seq (.seq A_slices_partialInsertionSortOrdered_int64.r2 (.block 0 (.loop A_slices_partialInsertionSortOrdered_int64.l3))) (.seq A_slices_partialInsertionSortOrdered_int64.r24 .ret))))⟩
/-! slices_partitionEqualOrdered_int64 -/
def A_slices_partitionEqualOrdered_int64.r0 : ACode := (.region none [⟨some 8, .move (.c (.int .i64 0)), none⟩])
def A_slices_partitionEqualOrdered_int64.r1 : ACode := (.region (some 13) [⟨some 11, .move (.t 0), none⟩,
    ⟨some 12, .move (.t 1), none⟩,
    ⟨some 13, .move (.t 0), none⟩,
    ⟨some 14, .move (.t 3), none⟩,
    ⟨some 15, .move (.t 0), none⟩,
    ⟨some 16, .move (.t 3), none⟩,
    ⟨some 17, .indexAddr none 1 (.t 15) (.t 16), none⟩,
    ⟨some 18, .load none (.t 17), none⟩,
    ⟨some 19, .move (.t 0), none⟩,
    ⟨some 20, .move (.t 1), none⟩,
    ⟨some 21, .indexAddr none 1 (.t 19) (.t 20), none⟩,
    ⟨some 22, .load none (.t 21), none⟩,
    ⟨some 23, .indexAddr none 1 (.t 11) (.t 12), none⟩,
    ⟨none, .storeF 1 (.t 23) (.t 18) [], none⟩,
    ⟨some 24, .indexAddr none 1 (.t 13) (.t 14), none⟩,
    ⟨none, .store 1 (.t 24) (.t 22), none⟩])
def A_slices_partitionEqualOrdered_int64.r2 : ACode := (.region none [⟨some 25, .move (.t 1), none⟩,
    ⟨some 26, .bin .add (.t 25) (.c (.int .i64 1)), none⟩,
    ⟨some 27, .move (.t 2), none⟩,
    ⟨some 28, .bin .sub (.t 27) (.c (.int .i64 1)), none⟩,
    ⟨some 9, .move (.t 26), none⟩,
    ⟨some 10, .move (.t 28), none⟩])
def A_slices_partitionEqualOrdered_int64.r3 : ACode := (.region (some 15) [⟨some 29, .move (.t 9), none⟩,
    ⟨some 30, .move (.t 10), none⟩,
    ⟨some 31, .bin .leq (.t 29) (.t 30), none⟩,
    ⟨some 32, .move (.t 31), none⟩,
    ⟨some 33, .move (.t 0), some (32, true)⟩,
    ⟨some 34, .move (.t 1), some (32, true)⟩,
    ⟨some 35, .indexAddr none 1 (.t 33) (.t 34), some (32, true)⟩,
    ⟨some 36, .load none (.t 35), some (32, true)⟩,
    ⟨some 37, .move (.t 0), some (32, true)⟩,
    ⟨some 38, .move (.t 9), some (32, true)⟩,
    ⟨some 39, .indexAddr none 1 (.t 37) (.t 38), some (32, true)⟩,
    ⟨some 40, .load none (.t 39), some (32, true)⟩,
    ⟨some 41, .call 235 [(.t 36), (.t 40)], some (32, true)⟩,
    ⟨some 42, .not (.t 41), some (32, true)⟩,
    ⟨some 43, .pick (.t 32) (.t 42) (.c (.bool false)), none⟩])
def A_slices_partitionEqualOrdered_int64.r4 : ACode := (.region none [⟨some 44, .move (.t 9), none⟩,
    ⟨some 45, .bin .add (.t 44) (.c (.int .i64 1)), none⟩,
    ⟨some 9, .move (.t 45), none⟩])
def A_slices_partitionEqualOrdered_int64.l0 : ACode := (.seq (.seq A_slices_partitionEqualOrdered_int64.r3 (.cond (.t 43) .skip (.exit 2))) (.block 3 A_slices_partitionEqualOrdered_int64.r4))
def A_slices_partitionEqualOrdered_int64.r5 : ACode := (.region (some 14) [⟨some 46, .move (.t 9), none⟩,
    ⟨some 47, .move (.t 10), none⟩,
    ⟨some 48, .bin .leq (.t 46) (.t 47), none⟩,
    ⟨some 49, .move (.t 48), none⟩,
    ⟨some 50, .move (.t 0), some (49, true)⟩,
    ⟨some 51, .move (.t 1), some (49, true)⟩,
    ⟨some 52, .indexAddr none 1 (.t 50) (.t 51), some (49, true)⟩,
    ⟨some 53, .load none (.t 52), some (49, true)⟩,
    ⟨some 54, .move (.t 0), some (49, true)⟩,
    ⟨some 55, .move (.t 10), some (49, true)⟩,
    ⟨some 56, .indexAddr none 1 (.t 54) (.t 55), some (49, true)⟩,
    ⟨some 57, .load none (.t 56), some (49, true)⟩,
    ⟨some 58, .call 235 [(.t 53), (.t 57)], some (49, true)⟩,
    ⟨some 59, .pick (.t 49) (.t 58) (.c (.bool false)), none⟩])
def A_slices_partitionEqualOrdered_int64.r6 : ACode := (.region none [⟨some 60, .move (.t 10), none⟩,
    ⟨some 61, .bin .sub (.t 60) (.c (.int .i64 1)), none⟩,
    ⟨some 10, .move (.t 61), none⟩])
def A_slices_partitionEqualOrdered_int64.l1 : ACode := (.seq (.seq A_slices_partitionEqualOrdered_int64.r5 (.cond (.t 59) .skip (.exit 4))) (.block 5 A_slices_partitionEqualOrdered_int64.r6))
def A_slices_partitionEqualOrdered_int64.r7 : ACode := (.region none [⟨some 62, .move (.t 9), none⟩,
    ⟨some 63, .move (.t 10), none⟩,
    ⟨some 64, .bin .gtr (.t 62) (.t 63), none⟩])
def A_slices_partitionEqualOrdered_int64.r8 : ACode := (.region (some 13) [⟨some 65, .move (.t 0), none⟩,
    ⟨some 66, .move (.t 9), none⟩,
    ⟨some 67, .move (.t 0), none⟩,
    ⟨some 68, .move (.t 10), none⟩,
    ⟨some 69, .move (.t 0), none⟩,
    ⟨some 70, .move (.t 10), none⟩,
    ⟨some 71, .indexAddr none 1 (.t 69) (.t 70), none⟩,
    ⟨some 72, .load none (.t 71), none⟩,
    ⟨some 73, .move (.t 0), none⟩,
    ⟨some 74, .move (.t 9), none⟩,
    ⟨some 75, .indexAddr none 1 (.t 73) (.t 74), none⟩,
    ⟨some 76, .load none (.t 75), none⟩,
    ⟨some 77, .indexAddr none 1 (.t 65) (.t 66), none⟩,
    ⟨none, .storeF 1 (.t 77) (.t 72) [], none⟩,
    ⟨some 78, .indexAddr none 1 (.t 67) (.t 68), none⟩,
    ⟨none, .store 1 (.t 78) (.t 76), none⟩])
def A_slices_partitionEqualOrdered_int64.r9 : ACode := (.region none [⟨some 79, .move (.t 9), none⟩,
    ⟨some 80, .bin .add (.t 79) (.c (.int .i64 1)), none⟩,
    ⟨some 9, .move (.t 80), none⟩])
def A_slices_partitionEqualOrdered_int64.r10 : ACode := (.region none [⟨some 81, .move (.t 10), none⟩,
    ⟨some 82, .bin .sub (.t 81) (.c (.int .i64 1)), none⟩,
    ⟨some 10, .move (.t 82), none⟩])
def A_slices_partitionEqualOrdered_int64.l2 : ACode := (.block 1 (.seq (.block 2 (.loop A_slices_partitionEqualOrdered_int64.l0)) (.seq (.block 4 (.loop A_slices_partitionEqualOrdered_int64.l1)) (.seq (.seq A_slices_partitionEqualOrdered_int64.r7 (.cond (.t 64) (.exit 0) .skip)) (.seq A_slices_partitionEqualOrdered_int64.r8 (.seq A_slices_partitionEqualOrdered_int64.r9 A_slices_partitionEqualOrdered_int64.r10))))))
def A_slices_partitionEqualOrdered_int64.r11 : ACode := (.region none [⟨some 83, .move (.t 9), none⟩,
    ⟨some 8, .move (.t 83), none⟩])
def A_slices_partitionEqualOrdered_int64 : AFunc := ⟨[.tmp 8], (.seq A_slices_partitionEqualOrdered_int64.r0 (.seq A_slices_partitionEqualOrdered_int64.r1 (.seq A_slices_partitionEqualOrdered_int64.r2 (.seq (.block 0 (.loop A_slices_partitionEqualOrdered_int64.l2)) (.seq A_slices_partitionEqualOrdered_int64.r11 .ret)))))⟩
/-! slices_partitionOrdered_int64 -/
def A_slices_partitionOrdered_int64.r0 : ACode := (.region none [⟨some 8, .move (.c (.int .i64 0)), none⟩,
    ⟨some 9, .move (.c (.bool false)), none⟩])
def A_slices_partitionOrdered_int64.r1 : ACode := (.region (some 13) [⟨some 12, .move (.t 0), none⟩,
    ⟨some 13, .move (.t 1), none⟩,
    ⟨some 14, .move (.t 0), none⟩,
    ⟨some 15, .move (.t 3), none⟩,
    ⟨some 16, .move (.t 0), none⟩,
    ⟨some 17, .move (.t 3), none⟩,
    ⟨some 18, .indexAddr none 1 (.t 16) (.t 17), none⟩,
    ⟨some 19, .load none (.t 18), none⟩,
    ⟨some 20, .move (.t 0), none⟩,
    ⟨some 21, .move (.t 1), none⟩,
    ⟨some 22, .indexAddr none 1 (.t 20) (.t 21), none⟩,
    ⟨some 23, .load none (.t 22), none⟩,
    ⟨some 24, .indexAddr none 1 (.t 12) (.t 13), none⟩,
    ⟨none, .storeF 1 (.t 24) (.t 19) [], none⟩,
    ⟨some 25, .indexAddr none 1 (.t 14) (.t 15), none⟩,
    ⟨none, .store 1 (.t 25) (.t 23), none⟩])
def A_slices_partitionOrdered_int64.r2 : ACode := (.region none [⟨some 26, .move (.t 1), none⟩,
    ⟨some 27, .bin .add (.t 26) (.c (.int .i64 1)), none⟩,
    ⟨some 28, .move (.t 2), none⟩,
    ⟨some 29, .bin .sub (.t 28) (.c (.int .i64 1)), none⟩,
    ⟨some 10, .move (.t 27), none⟩,
    ⟨some 11, .move (.t 29), none⟩])
def A_slices_partitionOrdered_int64.r3 : ACode := (.region (some 14) [⟨some 30, .move (.t 10), none⟩,
    ⟨some 31, .move (.t 11), none⟩,
    ⟨some 32, .bin .leq (.t 30) (.t 31), none⟩,
    ⟨some 33, .move (.t 32), none⟩,
    ⟨some 34, .move (.t 0), some (33, true)⟩,
    ⟨some 35, .move (.t 10), some (33, true)⟩,
    ⟨some 36, .indexAddr none 1 (.t 34) (.t 35), some (33, true)⟩,
    ⟨some 37, .load none (.t 36), some (33, true)⟩,
    ⟨some 38, .move (.t 0), some (33, true)⟩,
    ⟨some 39, .move (.t 1), some (33, true)⟩,
    ⟨some 40, .indexAddr none 1 (.t 38) (.t 39), some (33, true)⟩,
    ⟨some 41, .load none (.t 40), some (33, true)⟩,
    ⟨some 42, .call 235 [(.t 37), (.t 41)], some (33, true)⟩,
    ⟨some 43, .pick (.t 33) (.t 42) (.c (.bool false)), none⟩])
def A_slices_partitionOrdered_int64.r4 : ACode := (.region none [⟨some 44, .move (.t 10), none⟩,
    ⟨some 45, .bin .add (.t 44) (.c (.int .i64 1)), none⟩,
    ⟨some 10, .move (.t 45), none⟩])
def A_slices_partitionOrdered_int64.l0 : ACode := (.seq (.seq A_slices_partitionOrdered_int64.r3 (.cond (.t 43) .skip (.exit 0))) (.block 1 A_slices_partitionOrdered_int64.r4))
def A_slices_partitionOrdered_int64.r5 : ACode := (.region (some 15) [⟨some 46, .move (.t 10), none⟩,
    ⟨some 47, .move (.t 11), none⟩,
    ⟨some 48, .bin .leq (.t 46) (.t 47), none⟩,
    ⟨some 49, .move (.t 48), none⟩,
    ⟨some 50, .move (.t 0), some (49, true)⟩,
    ⟨some 51, .move (.t 11), some (49, true)⟩,
    ⟨some 52, .indexAddr none 1 (.t 50) (.t 51), some (49, true)⟩,
    ⟨some 53, .load none (.t 52), some (49, true)⟩,
    ⟨some 54, .move (.t 0), some (49, true)⟩,
    ⟨some 55, .move (.t 1), some (49, true)⟩,
    ⟨some 56, .indexAddr none 1 (.t 54) (.t 55), some (49, true)⟩,
    ⟨some 57, .load none (.t 56), some (49, true)⟩,
    ⟨some 58, .call 235 [(.t 53), (.t 57)], some (49, true)⟩,
    ⟨some 59, .not (.t 58), some (49, true)⟩,
    ⟨some 60, .pick (.t 49) (.t 59) (.c (.bool false)), none⟩])
def A_slices_partitionOrdered_int64.r6 : ACode := (.region none [⟨some 61, .move (.t 11), none⟩,
    ⟨some 62, .bin .sub (.t 61) (.c (.int .i64 1)), none⟩,
    ⟨some 11, .move (.t 62), none⟩])
def A_slices_partitionOrdered_int64.l1 : ACode := (.seq (.seq A_slices_partitionOrdered_int64.r5 (.cond (.t 60) .skip (.exit 2))) (.block 3 A_slices_partitionOrdered_int64.r6))
def A_slices_partitionOrdered_int64.r7 : ACode := (.region none [⟨some 63, .move (.t 10), none⟩,
    ⟨some 64, .move (.t 11), none⟩,
    ⟨some 65, .bin .gtr (.t 63) (.t 64), none⟩])
def A_slices_partitionOrdered_int64.r8 : ACode := (.region (some 13) [⟨some 66, .move (.t 0), none⟩,
    ⟨some 67, .move (.t 11), none⟩,
    ⟨some 68, .move (.t 0), none⟩,
    ⟨some 69, .move (.t 1), none⟩,
    ⟨some 70, .move (.t 0), none⟩,
    ⟨some 71, .move (.t 1), none⟩,
    ⟨some 72, .indexAddr none 1 (.t 70) (.t 71), none⟩,
    ⟨some 73, .load none (.t 72), none⟩,
    ⟨some 74, .move (.t 0), none⟩,
    ⟨some 75, .move (.t 11), none⟩,
    ⟨some 76, .indexAddr none 1 (.t 74) (.t 75), none⟩,
    ⟨some 77, .load none (.t 76), none⟩,
    ⟨some 78, .indexAddr none 1 (.t 66) (.t 67), none⟩,
    ⟨none, .storeF 1 (.t 78) (.t 73) [], none⟩,
    ⟨some 79, .indexAddr none 1 (.t 68) (.t 69), none⟩,
    ⟨none, .store 1 (.t 79) (.t 77), none⟩])
def A_slices_partitionOrdered_int64.r9 : ACode := (.region none [⟨some 80, .move (.t 11), none⟩,
    ⟨some 8, .move (.t 80), none⟩,
    ⟨some 9, .move (.c (.bool true)), none⟩])
def A_slices_partitionOrdered_int64.r10 : ACode := (.region (some 13) [⟨some 81, .move (.t 0), none⟩,
    ⟨some 82, .move (.t 10), none⟩,
    ⟨some 83, .move (.t 0), none⟩,
    ⟨some 84, .move (.t 11), none⟩,
    ⟨some 85, .move (.t 0), none⟩,
    ⟨some 86, .move (.t 11), none⟩,
    ⟨some 87, .indexAddr none 1 (.t 85) (.t 86), none⟩,
    ⟨some 88, .load none (.t 87), none⟩,
    ⟨some 89, .move (.t 0), none⟩,
    ⟨some 90, .move (.t 10), none⟩,
    ⟨some 91, .indexAddr none 1 (.t 89) (.t 90), none⟩,
    ⟨some 92, .load none (.t 91), none⟩,
    ⟨some 93, .indexAddr none 1 (.t 81) (.t 82), none⟩,
    ⟨none, .storeF 1 (.t 93) (.t 88) [], none⟩,
    ⟨some 94, .indexAddr none 1 (.t 83) (.t 84), none⟩,
    ⟨none, .store 1 (.t 94) (.t 92), none⟩])
def A_slices_partitionOrdered_int64.r11 : ACode := (.region none [⟨some 95, .move (.t 10), none⟩,
    ⟨some 96, .bin .add (.t 95) (.c (.int .i64 1)), none⟩,
    ⟨some 10, .move (.t 96), none⟩])
def A_slices_partitionOrdered_int64.r12 : ACode := (.region none [⟨some 97, .move (.t 11), none⟩,
    ⟨some 98, .bin .sub (.t 97) (.c (.int .i64 1)), none⟩,
    ⟨some 11, .move (.t 98), none⟩])
def A_slices_partitionOrdered_int64.r13 : ACode := (.region (some 14) [⟨some 99, .move (.t 10), none⟩,
    ⟨some 100, .move (.t 11), none⟩,
    ⟨some 101, .bin .leq (.t 99) (.t 100), none⟩,
    ⟨some 102, .move (.t 101), none⟩,
    ⟨some 103, .move (.t 0), some (102, true)⟩,
    ⟨some 104, .move (.t 10), some (102, true)⟩,
    ⟨some 105, .indexAddr none 1 (.t 103) (.t 104), some (102, true)⟩,
    ⟨some 106, .load none (.t 105), some (102, true)⟩,
    ⟨some 107, .move (.t 0), some (102, true)⟩,
    ⟨some 108, .move (.t 1), some (102, true)⟩,
    ⟨some 109, .indexAddr none 1 (.t 107) (.t 108), some (102, true)⟩,
    ⟨some 110, .load none (.t 109), some (102, true)⟩,
    ⟨some 111, .call 235 [(.t 106), (.t 110)], some (102, true)⟩,
    ⟨some 112, .pick (.t 102) (.t 111) (.c (.bool false)), none⟩])
def A_slices_partitionOrdered_int64.r14 : ACode := (.region none [⟨some 113, .move (.t 10), none⟩,
    ⟨some 114, .bin .add (.t 113) (.c (.int .i64 1)), none⟩,
    ⟨some 10, .move (.t 114), none⟩])
def A_slices_partitionOrdered_int64.l2 : ACode := (.seq (.seq A_slices_partitionOrdered_int64.r13 (.cond (.t 112) .skip (.exit 6))) (.block 7 A_slices_partitionOrdered_int64.r14))
def A_slices_partitionOrdered_int64.r15 : ACode := (.region (some 15) [⟨some 115, .move (.t 10), none⟩,
    ⟨some 116, .move (.t 11), none⟩,
    ⟨some 117, .bin .leq (.t 115) (.t 116), none⟩,
    ⟨some 118, .move (.t 117), none⟩,
    ⟨some 119, .move (.t 0), some (118, true)⟩,
    ⟨some 120, .move (.t 11), some (118, true)⟩,
    ⟨some 121, .indexAddr none 1 (.t 119) (.t 120), some (118, true)⟩,
    ⟨some 122, .load none (.t 121), some (118, true)⟩,
    ⟨some 123, .move (.t 0), some (118, true)⟩,
    ⟨some 124, .move (.t 1), some (118, true)⟩,
    ⟨some 125, .indexAddr none 1 (.t 123) (.t 124), some (118, true)⟩,
    ⟨some 126, .load none (.t 125), some (118, true)⟩,
    ⟨some 127, .call 235 [(.t 122), (.t 126)], some (118, true)⟩,
    ⟨some 128, .not (.t 127), some (118, true)⟩,
    ⟨some 129, .pick (.t 118) (.t 128) (.c (.bool false)), none⟩])
def A_slices_partitionOrdered_int64.r16 : ACode := (.region none [⟨some 130, .move (.t 11), none⟩,
    ⟨some 131, .bin .sub (.t 130) (.c (.int .i64 1)), none⟩,
    ⟨some 11, .move (.t 131), none⟩])
def A_slices_partitionOrdered_int64.l3 : ACode := (.seq (.seq A_slices_partitionOrdered_int64.r15 (.cond (.t 129) .skip (.exit 8))) (.block 9 A_slices_partitionOrdered_int64.r16))
def A_slices_partitionOrdered_int64.r17 : ACode := (.region none [⟨some 132, .move (.t 10), none⟩,
    ⟨some 133, .move (.t 11), none⟩,
    ⟨some 134, .bin .gtr (.t 132) (.t 133), none⟩])
def A_slices_partitionOrdered_int64.r18 : ACode := (.region (some 13) [⟨some 135, .move (.t 0), none⟩,
    ⟨some 136, .move (.t 10), none⟩,
    ⟨some 137, .move (.t 0), none⟩,
    ⟨some 138, .move (.t 11), none⟩,
    ⟨some 139, .move (.t 0), none⟩,
    ⟨some 140, .move (.t 11), none⟩,
    ⟨some 141, .indexAddr none 1 (.t 139) (.t 140), none⟩,
    ⟨some 142, .load none (.t 141), none⟩,
    ⟨some 143, .move (.t 0), none⟩,
    ⟨some 144, .move (.t 10), none⟩,
    ⟨some 145, .indexAddr none 1 (.t 143) (.t 144), none⟩,
    ⟨some 146, .load none (.t 145), none⟩,
    ⟨some 147, .indexAddr none 1 (.t 135) (.t 136), none⟩,
    ⟨none, .storeF 1 (.t 147) (.t 142) [], none⟩,
    ⟨some 148, .indexAddr none 1 (.t 137) (.t 138), none⟩,
    ⟨none, .store 1 (.t 148) (.t 146), none⟩])
def A_slices_partitionOrdered_int64.r19 : ACode := (.region none [⟨some 149, .move (.t 10), none⟩,
    ⟨some 150, .bin .add (.t 149) (.c (.int .i64 1)), none⟩,
    ⟨some 10, .move (.t 150), none⟩])
def A_slices_partitionOrdered_int64.r20 : ACode := (.region none [⟨some 151, .move (.t 11), none⟩,
    ⟨some 152, .bin .sub (.t 151) (.c (.int .i64 1)), none⟩,
    ⟨some 11, .move (.t 152), none⟩])
def A_slices_partitionOrdered_int64.l4 : ACode := (.block 5 (.seq (.block 6 (.loop A_slices_partitionOrdered_int64.l2)) (.seq (.block 8 (.loop A_slices_partitionOrdered_int64.l3)) (.seq (.seq A_slices_partitionOrdered_int64.r17 (.cond (.t 134) (.exit 4) .skip)) (.seq A_slices_partitionOrdered_int64.r18 (.seq A_slices_partitionOrdered_int64.r19 A_slices_partitionOrdered_int64.r20))))))
def A_slices_partitionOrdered_int64.r21 : ACode := (.region (some 13) [⟨some 153, .move (.t 0), none⟩,
    ⟨some 154, .move (.t 11), none⟩,
    ⟨some 155, .move (.t 0), none⟩,
    ⟨some 156, .move (.t 1), none⟩,
    ⟨some 157, .move (.t 0), none⟩,
    ⟨some 158, .move (.t 1), none⟩,
    ⟨some 159, .indexAddr none 1 (.t 157) (.t 158), none⟩,
    ⟨some 160, .load none (.t 159), none⟩,
    ⟨some 161, .move (.t 0), none⟩,
    ⟨some 162, .move (.t 11), none⟩,
    ⟨some 163, .indexAddr none 1 (.t 161) (.t 162), none⟩,
    ⟨some 164, .load none (.t 163), none⟩,
    ⟨some 165, .indexAddr none 1 (.t 153) (.t 154), none⟩,
    ⟨none, .storeF 1 (.t 165) (.t 160) [], none⟩,
    ⟨some 166, .indexAddr none 1 (.t 155) (.t 156), none⟩,
    ⟨none, .store 1 (.t 166) (.t 164), none⟩])
def A_slices_partitionOrdered_int64.r22 : ACode := (.region none [⟨some 167, .move (.t 11), none⟩,
    ⟨some 8, .move (.t 167), none⟩,
    ⟨some 9, .move (.c (.bool false)), none⟩])
def A_slices_partitionOrdered_int64 : AFunc := ⟨[.tmp 8, .tmp 9], (.seq A_slices_partitionOrdered_int64.r0 (.seq A_slices_partitionOrdered_int64.r1 (.seq A_slices_partitionOrdered_int64.r2 (.seq (.block 0 (.loop A_slices_partitionOrdered_int64.l0)) (.seq (.block 2 (.loop A_slices_partitionOrdered_int64.l1)) (.seq (.seq A_slices_partitionOrdered_int64.r7 (.cond (.t 65) (.seq A_slices_partitionOrdered_int64.r8 (.seq A_slices_partitionOrdered_int64.r9 .ret)) .skip)) (.seq A_slices_partitionOrdered_int64.r10 (.seq A_slices_partitionOrdered_int64.r11 (.seq A_slices_partitionOrdered_int64.r12 (.seq (.block 4 (.loop A_slices_partitionOrdered_int64.l4)) (.seq A_slices_partitionOrdered_int64.r21 (.seq A_slices_partitionOrdered_int64.r22 .ret))))))))))))⟩
/-! slices_siftDownOrdered_int64 -/
def A_slices_siftDownOrdered_int64.r0 : ACode := (.region none [⟨some 10, .move (.t 1), none⟩,
    ⟨some 8, .move (.t 10), none⟩])
def A_slices_siftDownOrdered_int64.r1 : ACode := (.region none [⟨some 11, .move (.t 8), none⟩,
    ⟨some 12, .bin .mul (.c (.int .i64 2)) (.t 11), none⟩,
    ⟨some 13, .bin .add (.t 12) (.c (.int .i64 1)), none⟩,
    ⟨some 9, .move (.t 13), none⟩])
def A_slices_siftDownOrdered_int64.r2 : ACode := (.region none [⟨some 14, .move (.t 9), none⟩,
    ⟨some 15, .move (.t 2), none⟩,
    ⟨some 16, .bin .geq (.t 14) (.t 15), none⟩])
def A_slices_siftDownOrdered_int64.r3 : ACode := (.region (some 20) [⟨some 17, .move (.t 9), none⟩,
    ⟨some 18, .bin .add (.t 17) (.c (.int .i64 1)), none⟩,
    ⟨some 19, .move (.t 2), none⟩,
    ⟨some 20, .bin .lss (.t 18) (.t 19), none⟩,
    ⟨some 21, .move (.t 20), none⟩,
    ⟨some 22, .move (.t 0), some (21, true)⟩,
    ⟨some 23, .move (.t 3), some (21, true)⟩,
    ⟨some 24, .move (.t 9), some (21, true)⟩,
    ⟨some 25, .bin .add (.t 23) (.t 24), some (21, true)⟩,
    ⟨some 26, .indexAddr none 1 (.t 22) (.t 25), some (21, true)⟩,
    ⟨some 27, .load none (.t 26), some (21, true)⟩,
    ⟨some 28, .move (.t 0), some (21, true)⟩,
    ⟨some 29, .move (.t 3), some (21, true)⟩,
    ⟨some 30, .move (.t 9), some (21, true)⟩,
    ⟨some 31, .bin .add (.t 29) (.t 30), some (21, true)⟩,
    ⟨some 32, .bin .add (.t 31) (.c (.int .i64 1)), some (21, true)⟩,
    ⟨some 33, .indexAddr none 1 (.t 28) (.t 32), some (21, true)⟩,
    ⟨some 34, .load none (.t 33), some (21, true)⟩,
    ⟨some 35, .call 235 [(.t 27), (.t 34)], some (21, true)⟩,
    ⟨some 36, .pick (.t 21) (.t 35) (.c (.bool false)), none⟩])
def A_slices_siftDownOrdered_int64.r4 : ACode := (.region none [⟨some 37, .move (.t 9), none⟩,
    ⟨some 38, .bin .add (.t 37) (.c (.int .i64 1)), none⟩,
    ⟨some 9, .move (.t 38), none⟩])
def A_slices_siftDownOrdered_int64.r5 : ACode := (.region (some 14) [⟨some 39, .move (.t 0), none⟩,
    ⟨some 40, .move (.t 3), none⟩,
    ⟨some 41, .move (.t 8), none⟩,
    ⟨some 42, .bin .add (.t 40) (.t 41), none⟩,
    ⟨some 43, .indexAddr none 1 (.t 39) (.t 42), none⟩,
    ⟨some 44, .load none (.t 43), none⟩,
    ⟨some 45, .move (.t 0), none⟩,
    ⟨some 46, .move (.t 3), none⟩,
    ⟨some 47, .move (.t 9), none⟩,
    ⟨some 48, .bin .add (.t 46) (.t 47), none⟩,
    ⟨some 49, .indexAddr none 1 (.t 45) (.t 48), none⟩,
    ⟨some 50, .load none (.t 49), none⟩,
    ⟨some 51, .call 235 [(.t 44), (.t 50)], none⟩,
    ⟨some 52, .not (.t 51), none⟩])
def A_slices_siftDownOrdered_int64.r6 : ACode := (.region (some 21) [⟨some 53, .move (.t 0), none⟩,
    ⟨some 54, .move (.t 3), none⟩,
    ⟨some 55, .move (.t 8), none⟩,
    ⟨some 56, .bin .add (.t 54) (.t 55), none⟩,
    ⟨some 57, .move (.t 0), none⟩,
    ⟨some 58, .move (.t 3), none⟩,
    ⟨some 59, .move (.t 9), none⟩,
    ⟨some 60, .bin .add (.t 58) (.t 59), none⟩,
    ⟨some 61, .move (.t 0), none⟩,
    ⟨some 62, .move (.t 3), none⟩,
    ⟨some 63, .move (.t 9), none⟩,
    ⟨some 64, .bin .add (.t 62) (.t 63), none⟩,
    ⟨some 65, .indexAddr none 1 (.t 61) (.t 64), none⟩,
    ⟨some 66, .load none (.t 65), none⟩,
    ⟨some 67, .move (.t 0), none⟩,
    ⟨some 68, .move (.t 3), none⟩,
    ⟨some 69, .move (.t 8), none⟩,
    ⟨some 70, .bin .add (.t 68) (.t 69), none⟩,
    ⟨some 71, .indexAddr none 1 (.t 67) (.t 70), none⟩,
    ⟨some 72, .load none (.t 71), none⟩,
    ⟨some 73, .indexAddr none 1 (.t 53) (.t 56), none⟩,
    ⟨none, .storeF 1 (.t 73) (.t 66) [], none⟩,
    ⟨some 74, .indexAddr none 1 (.t 57) (.t 60), none⟩,
    ⟨none, .store 1 (.t 74) (.t 72), none⟩])
def A_slices_siftDownOrdered_int64.r7 : ACode := (.region none [⟨some 75, .move (.t 9), none⟩,
    ⟨some 8, .move (.t 75), none⟩])
def A_slices_siftDownOrdered_int64.l0 : ACode := (.block 1 (.seq A_slices_siftDownOrdered_int64.r1 (.seq (.seq A_slices_siftDownOrdered_int64.r2 (.cond (.t 16) (.exit 0) .skip)) (.seq (.seq A_slices_siftDownOrdered_int64.r3 (.cond (.t 36) A_slices_siftDownOrdered_int64.r4 .skip)) (.seq (.seq A_slices_siftDownOrdered_int64.r5 (.cond (.t 52) .ret .skip)) (.seq A_slices_siftDownOrdered_int64.r6 A_slices_siftDownOrdered_int64.r7))))))
def A_slices_siftDownOrdered_int64 : AFunc := ⟨[], (.seq A_slices_siftDownOrdered_int64.r0 (.block 0 (.loop A_slices_siftDownOrdered_int64.l0)))⟩
/-! slices_nextPowerOfTwo -/
def A_slices_nextPowerOfTwo.r0 : ACode := (.region none [⟨some 2, .move (.c (.int .u64 0)), none⟩])
def A_slices_nextPowerOfTwo.r1 : ACode := (.region none [⟨some 3, .move (.t 0), none⟩,
    ⟨some 4, .conv .u64 (.t 3), none⟩,
    ⟨some 5, .call 227 [(.t 4)], none⟩,
    ⟨some 6, .bin .shl (.c (.int .u64 1)) (.t 5), none⟩,
    ⟨some 2, .move (.t 6), none⟩])
def A_slices_nextPowerOfTwo : AFunc := ⟨[.tmp 2], (.seq A_slices_nextPowerOfTwo.r0 (.seq A_slices_nextPowerOfTwo.r1 .ret))⟩
/-! slices_medianAdjacentOrdered_int64 -/
def A_slices_medianAdjacentOrdered_int64.r0 : ACode := (.region none [⟨some 6, .move (.c (.int .i64 0)), none⟩])
def A_slices_medianAdjacentOrdered_int64.r1 : ACode := (.region none [⟨some 7, .move (.t 0), none⟩,
    ⟨some 8, .move (.t 1), none⟩,
    ⟨some 9, .bin .sub (.t 8) (.c (.int .i64 1)), none⟩,
    ⟨some 10, .move (.t 1), none⟩,
    ⟨some 11, .move (.t 1), none⟩,
    ⟨some 12, .bin .add (.t 11) (.c (.int .i64 1)), none⟩,
    ⟨some 13, .move (.t 2), none⟩,
    ⟨some 14, .call 243 [(.t 7), (.t 9), (.t 10), (.t 12), (.t 13)], none⟩,
    ⟨some 6, .move (.t 14), none⟩])
def A_slices_medianAdjacentOrdered_int64 : AFunc := ⟨[.tmp 6], (.seq A_slices_medianAdjacentOrdered_int64.r0 (.seq A_slices_medianAdjacentOrdered_int64.r1 .ret))⟩
/-! slices_medianOrdered_int64 -/
def A_slices_medianOrdered_int64.r0 : ACode := (.region none [⟨some 10, .move (.c (.int .i64 0)), none⟩])
def A_slices_medianOrdered_int64.r1 : ACode := (.region none [⟨some 12, .move (.t 0), none⟩,
    ⟨some 13, .move (.t 1), none⟩,
    ⟨some 14, .move (.t 2), none⟩,
    ⟨some 15, .move (.t 4), none⟩,
    ⟨some 16, .call 246 [(.t 12), (.t 13), (.t 14), (.t 15)], none⟩,
    ⟨some 11, .move (.t 16), none⟩,
    ⟨some 17, .extract (.t 11) 0, none⟩,
    ⟨some 18, .extract (.t 11) 1, none⟩,
    ⟨some 1, .move (.t 17), none⟩,
    ⟨some 2, .move (.t 18), none⟩])
def A_slices_medianOrdered_int64.r2 : ACode := (.region none [⟨some 20, .move (.t 0), none⟩,
    ⟨some 21, .move (.t 2), none⟩,
    ⟨some 22, .move (.t 3), none⟩,
    ⟨some 23, .move (.t 4), none⟩,
    ⟨some 24, .call 246 [(.t 20), (.t 21), (.t 22), (.t 23)], none⟩,
    ⟨some 19, .move (.t 24), none⟩,
    ⟨some 25, .extract (.t 19) 0, none⟩,
    ⟨some 26, .extract (.t 19) 1, none⟩,
    ⟨some 2, .move (.t 25), none⟩,
    ⟨some 3, .move (.t 26), none⟩])
def A_slices_medianOrdered_int64.r3 : ACode := (.region none [⟨some 28, .move (.t 0), none⟩,
    ⟨some 29, .move (.t 1), none⟩,
    ⟨some 30, .move (.t 2), none⟩,
    ⟨some 31, .move (.t 4), none⟩,
    ⟨some 32, .call 246 [(.t 28), (.t 29), (.t 30), (.t 31)], none⟩,
    ⟨some 27, .move (.t 32), none⟩,
    ⟨some 33, .extract (.t 27) 0, none⟩,
    ⟨some 34, .extract (.t 27) 1, none⟩,
    ⟨some 1, .move (.t 33), none⟩,
    ⟨some 2, .move (.t 34), none⟩])
def A_slices_medianOrdered_int64.r4 : ACode := (.region none [⟨some 35, .move (.t 2), none⟩,
    ⟨some 10, .move (.t 35), none⟩])
def A_slices_medianOrdered_int64 : AFunc := ⟨[.tmp 10], (.seq A_slices_medianOrdered_int64.r0 (.seq A_slices_medianOrdered_int64.r1 (.seq A_slices_medianOrdered_int64.r2 (.seq A_slices_medianOrdered_int64.r3 (.seq A_slices_medianOrdered_int64.r4 .ret)))))⟩
/-! slices_order2Ordered_int64 -/
def A_slices_order2Ordered_int64.r0 : ACode := (.region none [⟨some 8, .move (.c (.int .i64 0)), none⟩,
    ⟨some 9, .move (.c (.int .i64 0)), none⟩])
def A_slices_order2Ordered_int64.r1 : ACode := (.region (some 9) [⟨some 10, .move (.t 0), none⟩,
    ⟨some 11, .move (.t 2), none⟩,
    ⟨some 12, .indexAddr none 1 (.t 10) (.t 11), none⟩,
    ⟨some 13, .load none (.t 12), none⟩,
    ⟨some 14, .move (.t 0), none⟩,
    ⟨some 15, .move (.t 1), none⟩,
    ⟨some 16, .indexAddr none 1 (.t 14) (.t 15), none⟩,
    ⟨some 17, .load none (.t 16), none⟩,
    ⟨some 18, .call 235 [(.t 13), (.t 17)], none⟩])
def A_slices_order2Ordered_int64.r2 : ACode := (.region none [⟨some 19, .move (.t 3), none⟩,
    ⟨some 20, .nilCheck (.t 19), none⟩,
    ⟨some 21, .load none (.t 20), none⟩,
    ⟨some 22, .bin .add (.t 21) (.c (.int .i64 1)), none⟩,
    ⟨some 23, .nilCheck (.t 19), none⟩,
    ⟨none, .store 1 (.t 23) (.t 22), none⟩])
def A_slices_order2Ordered_int64.r3 : ACode := (.region none [⟨some 24, .move (.t 2), none⟩,
    ⟨some 25, .move (.t 1), none⟩,
    ⟨some 8, .move (.t 24), none⟩,
    ⟨some 9, .move (.t 25), none⟩])
def A_slices_order2Ordered_int64.r4 : ACode := (.region none [⟨some 26, .move (.t 1), none⟩,
    ⟨some 27, .move (.t 2), none⟩,
    ⟨some 8, .move (.t 26), none⟩,
    ⟨some 9, .move (.t 27), none⟩])
def A_slices_order2Ordered_int64 : AFunc := ⟨[.tmp 8, .tmp 9], (.seq A_slices_order2Ordered_int64.r0 (.seq (.seq A_slices_order2Ordered_int64.r1 (.cond (.t 18) (.seq A_slices_order2Ordered_int64.r2 (.seq A_slices_order2Ordered_int64.r3 .ret)) .skip)) (.seq A_slices_order2Ordered_int64.r4 .ret)))⟩
end Go.Am
