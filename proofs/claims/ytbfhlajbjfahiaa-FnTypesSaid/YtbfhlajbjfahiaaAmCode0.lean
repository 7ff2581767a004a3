/- The code of the functions that the claim reaches, in the small machine's form: written by a program of mine, off the loaded program; the checks compare the two. -/
import Derived.Test.YtbfhlajbjfahiaaAmCore
set_option linter.unusedVariables false
set_option maxRecDepth 100000
namespace Go.Am
open Go
/-! laws_FnTypes -/
def A_laws_FnTypes.r0 : ACode := (.region none [⟨some 2, .move (.c (.bool false)), none⟩])
def A_laws_FnTypes.r1 : ACode := (.region none [⟨some 22, .move (.t 0), none⟩,
    ⟨some 23, .call 41 [(.t 22)], none⟩])
def A_laws_FnTypes.r2 : ACode := (.region none [⟨some 2, .move (.c (.bool true)), none⟩])
def A_laws_FnTypes.r3 : ACode := (.region none [⟨some 24, .move (.t 0), none⟩,
    ⟨some 25, .call 308 [(.t 24)], none⟩,
    ⟨some 3, .move (.t 25), none⟩])
def A_laws_FnTypes.r4 : ACode := (.region none [⟨some 26, .move (.t 3), none⟩,
    ⟨some 27, .call 309 [(.t 26)], none⟩,
    ⟨some 28, .move (.t 3), none⟩,
    ⟨some 29, .call 310 [(.t 28)], none⟩,
    ⟨some 30, .eqb true (.t 27) (.t 29), none⟩])
def A_laws_FnTypes.r5 : ACode := (.region none [⟨some 2, .move (.c (.bool false)), none⟩])
def A_laws_FnTypes.r6 : ACode := (.region none [⟨some 31, .move (.t 0), none⟩,
    ⟨some 32, .call 311 [(.t 31)], none⟩,
    ⟨some 4, .move (.t 32), none⟩])
def A_laws_FnTypes.r7 : ACode := (.region none [⟨some 34, .move (.t 4), none⟩,
    ⟨some 35, .call 312 [(.t 34)], none⟩,
    ⟨some 33, .move (.t 35), none⟩,
    ⟨some 36, .extract (.t 33) 0, none⟩,
    ⟨some 37, .extract (.t 33) 1, none⟩,
    ⟨some 5, .move (.t 36), none⟩,
    ⟨some 6, .move (.t 37), none⟩])
def A_laws_FnTypes.r8 : ACode := (.region none [⟨some 39, .move (.t 4), none⟩,
    ⟨some 40, .call 313 [(.t 39)], none⟩,
    ⟨some 38, .move (.t 40), none⟩,
    ⟨some 41, .extract (.t 38) 0, none⟩,
    ⟨some 42, .extract (.t 38) 1, none⟩,
    ⟨some 7, .move (.t 41), none⟩,
    ⟨some 8, .move (.t 42), none⟩])
def A_laws_FnTypes.r9 : ACode := (.region none [⟨some 43, .move (.t 6), none⟩,
    ⟨some 44, .move (.t 8), none⟩,
    ⟨some 45, .bin .neq (.t 43) (.t 44), none⟩,
    ⟨some 46, .move (.t 45), none⟩,
    ⟨some 47, .move (.t 5), some (46, false)⟩,
    ⟨some 48, .move (.t 7), some (46, false)⟩,
    ⟨some 49, .call 51 [(.t 47), (.t 48)], some (46, false)⟩,
    ⟨some 50, .not (.t 49), some (46, false)⟩,
    ⟨some 51, .pick (.t 46) (.c (.bool true)) (.t 50), none⟩])
def A_laws_FnTypes.r10 : ACode := (.region none [⟨some 2, .move (.c (.bool false)), none⟩])
def A_laws_FnTypes.r11 : ACode := (.region none [⟨some 52, .move (.t 0), none⟩,
    ⟨some 53, .call 314 [(.t 52)], none⟩,
    ⟨some 9, .move (.t 53), none⟩])
def A_laws_FnTypes.r12 : ACode := (.region none [⟨some 54, .move (.t 9), none⟩,
    ⟨some 55, .call 315 [(.t 54)], none⟩,
    ⟨some 56, .move (.t 9), none⟩,
    ⟨some 57, .call 316 [(.t 56)], none⟩,
    ⟨some 58, .eqb true (.t 55) (.t 57), none⟩])
def A_laws_FnTypes.r13 : ACode := (.region none [⟨some 2, .move (.c (.bool false)), none⟩])
def A_laws_FnTypes.r14 : ACode := (.region none [⟨some 60, .move (.t 9), none⟩,
    ⟨some 61, .call 23 [(.t 60)], none⟩,
    ⟨some 59, .move (.t 61), none⟩,
    ⟨some 62, .extract (.t 59) 0, none⟩,
    ⟨some 63, .extract (.t 59) 1, none⟩,
    ⟨some 10, .move (.t 62), none⟩,
    ⟨some 11, .move (.t 63), none⟩])
def A_laws_FnTypes.r15 : ACode := (.region none [⟨some 65, .move (.t 9), none⟩,
    ⟨some 66, .call 22 [(.t 65)], none⟩,
    ⟨some 64, .move (.t 66), none⟩,
    ⟨some 67, .extract (.t 64) 0, none⟩,
    ⟨some 68, .extract (.t 64) 1, none⟩,
    ⟨some 12, .move (.t 67), none⟩,
    ⟨some 13, .move (.t 68), none⟩])
def A_laws_FnTypes.r16 : ACode := (.region none [⟨some 69, .move (.t 11), none⟩,
    ⟨some 70, .move (.t 13), none⟩,
    ⟨some 71, .bin .neq (.t 69) (.t 70), none⟩,
    ⟨some 72, .move (.t 71), none⟩,
    ⟨some 73, .move (.t 10), some (72, false)⟩,
    ⟨some 74, .move (.t 12), some (72, false)⟩,
    ⟨some 75, .bin .neq (.t 73) (.t 74), some (72, false)⟩,
    ⟨some 76, .pick (.t 72) (.c (.bool true)) (.t 75), none⟩])
def A_laws_FnTypes.r17 : ACode := (.region none [⟨some 2, .move (.c (.bool false)), none⟩])
def A_laws_FnTypes.r18 : ACode := (.region none [⟨some 78, .move (.t 3), none⟩,
    ⟨some 79, .call 317 [(.t 78)], none⟩,
    ⟨some 77, .move (.t 79), none⟩,
    ⟨some 80, .extract (.t 77) 0, none⟩,
    ⟨some 81, .extract (.t 77) 1, none⟩,
    ⟨some 14, .move (.t 80), none⟩,
    ⟨some 15, .move (.t 81), none⟩])
def A_laws_FnTypes.r19 : ACode := (.region none [⟨some 83, .move (.t 3), none⟩,
    ⟨some 84, .call 318 [(.t 83)], none⟩,
    ⟨some 82, .move (.t 84), none⟩,
    ⟨some 85, .extract (.t 82) 0, none⟩,
    ⟨some 86, .extract (.t 82) 1, none⟩,
    ⟨some 16, .move (.t 85), none⟩,
    ⟨some 17, .move (.t 86), none⟩])
def A_laws_FnTypes.r20 : ACode := (.region none [⟨some 87, .move (.t 15), none⟩,
    ⟨some 88, .move (.t 17), none⟩,
    ⟨some 89, .bin .neq (.t 87) (.t 88), none⟩,
    ⟨some 90, .move (.t 89), none⟩,
    ⟨some 91, .move (.t 14), some (90, false)⟩,
    ⟨some 92, .move (.t 16), some (90, false)⟩,
    ⟨some 93, .bin .neq (.t 91) (.t 92), some (90, false)⟩,
    ⟨some 94, .pick (.t 90) (.c (.bool true)) (.t 93), none⟩])
def A_laws_FnTypes.r21 : ACode := (.region none [⟨some 2, .move (.c (.bool false)), none⟩])
def A_laws_FnTypes.r22 : ACode := (.region none [⟨some 95, .move (.t 6), none⟩,
    ⟨some 96, .bin .neq (.t 95) (.c (.int .i64 0)), none⟩,
    ⟨some 97, .move (.t 96), none⟩,
    ⟨some 98, .move (.t 4), some (97, false)⟩,
    ⟨some 99, .bin .gtr (.t 98) (.c (.int .i64 14)), some (97, false)⟩,
    ⟨some 100, .pick (.t 97) (.c (.bool true)) (.t 99), none⟩])
def A_laws_FnTypes.r23 : ACode := (.region none [⟨some 101, .move (.t 6), none⟩,
    ⟨some 102, .bin .eql (.t 101) (.c (.int .i64 0)), none⟩,
    ⟨some 103, .move (.t 102), none⟩,
    ⟨some 104, .move (.t 5), some (103, false)⟩,
    ⟨some 105, .len (.t 104), some (103, false)⟩,
    ⟨some 106, .bin .eql (.t 105) (.c (.int .i64 0)), some (103, false)⟩,
    ⟨some 107, .pick (.t 103) (.c (.bool true)) (.t 106), none⟩,
    ⟨some 2, .move (.t 107), none⟩])
def A_laws_FnTypes.r24 : ACode := (.region none [⟨some 18, .move (.c (.int .i64 0)), none⟩])
def A_laws_FnTypes.r25 : ACode := (.region none [⟨some 19, .move (.c (.int .i64 0)), none⟩])
def A_laws_FnTypes.r26 : ACode := (.region none [⟨some 108, .move (.t 19), none⟩,
    ⟨some 109, .move (.t 5), none⟩,
    ⟨some 110, .len (.t 109), none⟩,
    ⟨some 111, .bin .lss (.t 108) (.t 110), none⟩])
def A_laws_FnTypes.r28 : ACode := (.region none [⟨some 115, .move (.t 5), none⟩,
    ⟨some 116, .move (.t 19), none⟩,
    ⟨some 117, .indexAddr none 1 (.t 115) (.t 116), none⟩,
    ⟨some 118, .load none (.t 117), none⟩,
    ⟨some 119, .call 317 [(.t 118)], none⟩,
    ⟨some 114, .move (.t 119), none⟩,
    ⟨some 120, .extract (.t 114) 0, none⟩,
    ⟨some 121, .extract (.t 114) 1, none⟩,
    ⟨some 20, .move (.t 120), none⟩,
    ⟨some 21, .move (.t 121), none⟩])
def A_laws_FnTypes.r29 : ACode := (.region none [⟨some 122, .move (.t 21), none⟩,
    ⟨some 123, .bin .neq (.t 122) (.c (.int .i64 0)), none⟩,
    ⟨some 124, .move (.t 123), none⟩,
    ⟨some 125, .move (.t 20), some (124, false)⟩,
    ⟨some 126, .bin .lss (.t 125) (.c (.int .i64 1)), some (124, false)⟩,
    ⟨some 127, .pick (.t 124) (.c (.bool true)) (.t 126), none⟩,
    ⟨some 128, .move (.t 127), none⟩,
    ⟨some 129, .move (.t 4), some (128, false)⟩,
    ⟨some 130, .call 319 [(.t 129)], some (128, false)⟩,
    ⟨some 131, .move (.t 20), some (128, false)⟩,
    ⟨some 132, .bin .rem (.t 130) (.t 131), some (128, false)⟩,
    ⟨some 133, .bin .neq (.t 132) (.c (.int .i64 0)), some (128, false)⟩,
    ⟨some 134, .pick (.t 128) (.c (.bool true)) (.t 133), none⟩,
    ⟨some 135, .move (.t 134), none⟩,
    ⟨some 136, .move (.t 5), some (135, false)⟩,
    ⟨some 137, .move (.t 19), some (135, false)⟩,
    ⟨some 138, .indexAddr none 1 (.t 136) (.t 137), some (135, false)⟩,
    ⟨some 139, .load none (.t 138), some (135, false)⟩,
    ⟨some 140, .call 309 [(.t 139)], some (135, false)⟩,
    ⟨some 141, .not (.t 140), some (135, false)⟩,
    ⟨some 142, .pick (.t 135) (.c (.bool true)) (.t 141), none⟩])
def A_laws_FnTypes.r30 : ACode := (.region none [⟨some 2, .move (.c (.bool false)), none⟩])
def A_laws_FnTypes.r31 : ACode := (.region none [⟨some 143, .move (.t 18), none⟩,
    ⟨some 144, .move (.t 4), none⟩,
    ⟨some 145, .call 319 [(.t 144)], none⟩,
    ⟨some 146, .move (.t 20), none⟩,
    ⟨some 147, .bin .quo (.t 145) (.t 146), none⟩,
    ⟨some 148, .bin .add (.t 143) (.t 147), none⟩,
    ⟨some 18, .move (.t 148), none⟩])
def A_laws_FnTypes.r27 : ACode := (.region none [⟨some 112, .move (.t 19), none⟩,
    ⟨some 113, .bin .add (.t 112) (.c (.int .i64 1)), none⟩,
    ⟨some 19, .move (.t 113), none⟩])
def A_laws_FnTypes.l0 : ACode := (.seq (.seq A_laws_FnTypes.r26 (.cond (.t 111) .skip (.exit 0))) (.seq (.block 1 (.seq A_laws_FnTypes.r28 (.seq (.seq A_laws_FnTypes.r29 (.cond (.t 142) (.seq A_laws_FnTypes.r30 .ret) .skip)) A_laws_FnTypes.r31))) A_laws_FnTypes.r27))
def A_laws_FnTypes.r32 : ACode := (.region none [⟨some 149, .move (.t 18), none⟩,
    ⟨some 150, .move (.t 4), none⟩,
    ⟨some 151, .call 319 [(.t 150)], none⟩,
    ⟨some 152, .bin .eql (.t 149) (.t 151), none⟩,
    ⟨some 2, .move (.t 152), none⟩])
def A_laws_FnTypes : AFunc := ⟨[.tmp 2], (.seq A_laws_FnTypes.r0 (.seq (.seq A_laws_FnTypes.r1 (.cond (.t 23) (.seq A_laws_FnTypes.r2 .ret) .skip)) (.seq A_laws_FnTypes.r3 (.seq (.seq A_laws_FnTypes.r4 (.cond (.t 30) (.seq A_laws_FnTypes.r5 .ret) .skip)) (.seq A_laws_FnTypes.r6 (.seq A_laws_FnTypes.r7 (.seq (.seq A_laws_FnTypes.r8 (.seq A_laws_FnTypes.r9 (.cond (.t 51) (.seq A_laws_FnTypes.r10 .ret) .skip))) (.seq A_laws_FnTypes.r11 (.seq (.seq A_laws_FnTypes.r12 (.cond (.t 58) (.seq A_laws_FnTypes.r13 .ret) .skip)) (.seq A_laws_FnTypes.r14 (.seq (.seq A_laws_FnTypes.r15 (.seq A_laws_FnTypes.r16 (.cond (.t 76) (.seq A_laws_FnTypes.r17 .ret) .skip))) (.seq A_laws_FnTypes.r18 (.seq (.seq A_laws_FnTypes.r19 (.seq A_laws_FnTypes.r20 (.cond (.t 94) (.seq A_laws_FnTypes.r21 .ret) .skip))) (.seq (.seq A_laws_FnTypes.r22 (.cond (.t 100) (.seq A_laws_FnTypes.r23 .ret) .skip)) (.seq A_laws_FnTypes.r24 (.seq (.seq A_laws_FnTypes.r25 (.block 0 (.loop A_laws_FnTypes.l0))) (.seq A_laws_FnTypes.r32 .ret)))))))))))))))))⟩
/-! laws_big -/
def A_laws_big.r0 : ACode := (.region none [⟨some 2, .move (.c (.bool false)), none⟩])
def A_laws_big.r1 : ACode := (.region none [⟨some 3, .move (.t 0), none⟩,
    ⟨some 4, .len (.t 3), none⟩,
    ⟨some 5, .bin .gtr (.t 4) (.c (.int .i64 4096)), none⟩,
    ⟨some 2, .move (.t 5), none⟩])
def A_laws_big : AFunc := ⟨[.tmp 2], (.seq A_laws_big.r0 (.seq A_laws_big.r1 .ret))⟩
/-! laws_likeInts -/
def A_laws_likeInts.r0 : ACode := (.region none [⟨some 4, .move (.c (.bool false)), none⟩])
def A_laws_likeInts.r1 : ACode := (.region none [⟨some 6, .move (.t 0), none⟩,
    ⟨some 7, .len (.t 6), none⟩,
    ⟨some 8, .move (.t 1), none⟩,
    ⟨some 9, .len (.t 8), none⟩,
    ⟨some 10, .bin .neq (.t 7) (.t 9), none⟩])
def A_laws_likeInts.r2 : ACode := (.region none [⟨some 4, .move (.c (.bool false)), none⟩])
def A_laws_likeInts.r3 : ACode := (.region none [⟨some 5, .move (.c (.int .i64 0)), none⟩])
def A_laws_likeInts.r4 : ACode := (.region none [⟨some 11, .move (.t 5), none⟩,
    ⟨some 12, .move (.t 0), none⟩,
    ⟨some 13, .len (.t 12), none⟩,
    ⟨some 14, .bin .lss (.t 11) (.t 13), none⟩])
def A_laws_likeInts.r6 : ACode := (.region (some 9) [⟨some 17, .move (.t 0), none⟩,
    ⟨some 18, .move (.t 5), none⟩,
    ⟨some 19, .indexAddr none 1 (.t 17) (.t 18), none⟩,
    ⟨some 20, .load none (.t 19), none⟩,
    ⟨some 21, .move (.t 1), none⟩,
    ⟨some 22, .move (.t 5), none⟩,
    ⟨some 23, .indexAddr none 1 (.t 21) (.t 22), none⟩,
    ⟨some 24, .load none (.t 23), none⟩,
    ⟨some 25, .bin .neq (.t 20) (.t 24), none⟩])
def A_laws_likeInts.r7 : ACode := (.region none [⟨some 4, .move (.c (.bool false)), none⟩])
def A_laws_likeInts.r5 : ACode := (.region none [⟨some 15, .move (.t 5), none⟩,
    ⟨some 16, .bin .add (.t 15) (.c (.int .i64 1)), none⟩,
    ⟨some 5, .move (.t 16), none⟩])
def A_laws_likeInts.l0 : ACode := (.seq (.seq A_laws_likeInts.r4 (.cond (.t 14) .skip (.exit 0))) (.seq (.block 1 (.seq A_laws_likeInts.r6 (.cond (.t 25) (.seq A_laws_likeInts.r7 .ret) .skip))) A_laws_likeInts.r5))
def A_laws_likeInts.r8 : ACode := (.region none [⟨some 4, .move (.c (.bool true)), none⟩])
def A_laws_likeInts : AFunc := ⟨[.tmp 4], (.seq A_laws_likeInts.r0 (.seq (.seq A_laws_likeInts.r1 (.cond (.t 10) (.seq A_laws_likeInts.r2 .ret) .skip)) (.seq (.seq A_laws_likeInts.r3 (.block 0 (.loop A_laws_likeInts.l0))) (.seq A_laws_likeInts.r8 .ret))))⟩
/-! spec_DrawIsType -/
def A_spec_DrawIsType.r0 : ACode := (.region none [⟨some 2, .move (.c (.slice none 0 0)), none⟩])
def A_spec_DrawIsType.r1 : ACode := (.region none [⟨some 5, .move (.t 0), none⟩,
    ⟨some 6, .call 97 [(.t 5)], none⟩,
    ⟨some 3, .move (.t 6), none⟩])
def A_spec_DrawIsType.r2 : ACode := (.region none [⟨some 7, .move (.t 3), none⟩,
    ⟨some 8, .move (.t 3), none⟩,
    ⟨some 9, .call 102 [(.t 8), (.c (.int .i64 16))], none⟩,
    ⟨some 10, .bin .add (.c (.int .i64 1)) (.t 9), none⟩,
    ⟨some 11, .call 350 [(.t 7), (.t 10)], none⟩,
    ⟨some 4, .move (.t 11), none⟩])
def A_spec_DrawIsType.r3 : ACode := (.region none [⟨some 12, .move (.t 3), none⟩,
    ⟨some 13, .call 102 [(.t 12), (.c (.int .i64 12))], none⟩])
def A_spec_DrawIsType.r4 : ACode := (.region none [⟨some 15, .bin .eql (.t 13) (.c (.int .i64 0)), none⟩,
    ⟨some 14, .move (.t 15), none⟩])
def A_spec_DrawIsType.r5 : ACode := (.region none [⟨some 16, .move (.t 4), none⟩,
    ⟨some 17, .move (.t 3), none⟩,
    ⟨some 18, .buildSlice 1 4 [.int .i64 0] [(0, 1, (.c (.int .i64 0))), (1, 1, (.c (.int .i64 1))), (2, 1, (.c (.int .i64 2))), (3, 1, (.c (.int .i64 17)))], none⟩,
    ⟨some 19, .call 98 [(.t 17), (.t 18)], none⟩,
    ⟨some 20, .buildSlice 1 1 [.int .i64 0] [(0, 1, (.t 19))], none⟩,
    ⟨some 21, .append 1 8 (.t 16) (.t 20), none⟩,
    ⟨some 4, .move (.t 21), none⟩])
def A_spec_DrawIsType.r6 : ACode := (.region none [⟨some 23, .bin .eql (.t 13) (.c (.int .i64 1)), none⟩,
    ⟨some 22, .move (.t 23), none⟩])
def A_spec_DrawIsType.r7 : ACode := (.region none [⟨some 24, .move (.t 3), none⟩,
    ⟨some 25, .buildSlice 1 2 [.int .i64 0] [(0, 1, (.c (.int .i64 1))), (1, 1, (.c (.int .i64 16)))], none⟩,
    ⟨some 26, .call 98 [(.t 24), (.t 25)], none⟩,
    ⟨some 27, .buildSlice 1 1 [.int .i64 0] [(0, 1, (.t 26))], none⟩,
    ⟨some 28, .move (.t 4), none⟩,
    ⟨some 29, .append 1 8 (.t 27) (.t 28), none⟩,
    ⟨some 4, .move (.t 29), none⟩])
def A_spec_DrawIsType.r8 : ACode := (.region none [⟨some 31, .bin .eql (.t 13) (.c (.int .i64 2)), none⟩,
    ⟨some 30, .move (.t 31), none⟩])
def A_spec_DrawIsType.r9 : ACode := (.region none [⟨some 4, .move (.c (.slice none 0 0)), none⟩])
def A_spec_DrawIsType.r10 : ACode := (.region none [⟨some 32, .move (.t 4), none⟩,
    ⟨some 2, .move (.t 32), none⟩])
def A_spec_DrawIsType : AFunc := ⟨[.tmp 2], (.seq A_spec_DrawIsType.r0 (.seq A_spec_DrawIsType.r1 (.seq A_spec_DrawIsType.r2 (.seq (.seq A_spec_DrawIsType.r3 (.block 0 (.seq A_spec_DrawIsType.r4 (.cond (.t 14) A_spec_DrawIsType.r5 (.seq A_spec_DrawIsType.r6 (.cond (.t 22) A_spec_DrawIsType.r7 (.seq A_spec_DrawIsType.r8 (.cond (.t 30) A_spec_DrawIsType.r9 .skip)))))))) (.seq A_spec_DrawIsType.r10 .ret)))))⟩
/-! impl_IsType -/
def A_impl_IsType.r0 : ACode := (.region none [⟨some 2, .move (.c (.bool false)), none⟩])
def A_impl_IsType.r1 : ACode := (.region none [⟨some 3, .move (.t 0), none⟩,
    ⟨some 4, .call 68 [(.t 3)], none⟩,
    ⟨some 5, .bin .gtr (.t 4) (.c (.int .i64 0)), none⟩,
    ⟨some 2, .move (.t 5), none⟩])
def A_impl_IsType : AFunc := ⟨[.tmp 2], (.seq A_impl_IsType.r0 (.seq A_impl_IsType.r1 .ret))⟩
/-! spec_IsType -/
def A_spec_IsType.r0 : ACode := (.region none [⟨some 2, .move (.c (.bool false)), none⟩])
def A_spec_IsType.r1 : ACode := (.region none [⟨some 3, .move (.t 0), none⟩,
    ⟨some 4, .call 106 [(.t 3)], none⟩,
    ⟨some 2, .move (.t 4), none⟩])
def A_spec_IsType : AFunc := ⟨[.tmp 2], (.seq A_spec_IsType.r0 (.seq A_spec_IsType.r1 .ret))⟩
/-! spec_DrawTypesOf -/
def A_spec_DrawTypesOf.r0 : ACode := (.region none [⟨some 2, .move (.c (.int .i64 0)), none⟩])
def A_spec_DrawTypesOf.r1 : ACode := (.region none [⟨some 3, .move (.t 0), none⟩,
    ⟨some 4, .call 97 [(.t 3)], none⟩,
    ⟨some 5, .call 102 [(.t 4), (.c (.int .i64 18))], none⟩,
    ⟨some 2, .move (.t 5), none⟩])
def A_spec_DrawTypesOf : AFunc := ⟨[.tmp 2], (.seq A_spec_DrawTypesOf.r0 (.seq A_spec_DrawTypesOf.r1 .ret))⟩
/-! impl_TypesOf -/
def A_impl_TypesOf.r0 : ACode := (.region none [⟨some 2, .move (.c (.slice none 0 0)), none⟩,
    ⟨some 3, .move (.c (.int .i64 0)), none⟩])
def A_impl_TypesOf.r1 : ACode := (.region none [⟨some 4, .move (.t 0), none⟩,
    ⟨some 5, .call 220 [(.t 4)], none⟩,
    ⟨some 6, .not (.t 5), none⟩])
def A_impl_TypesOf.r2 : ACode := (.region none [⟨some 2, .move (.c (.slice none 0 0)), none⟩,
    ⟨some 3, .move (.c (.int .i64 2)), none⟩])
def A_impl_TypesOf.r3 : ACode := (.region none [⟨some 7, .move (.t 0), none⟩,
    ⟨some 8, .move (.t 0), none⟩,
    ⟨some 9, .call 351 [(.t 7), (.t 8)], none⟩,
    ⟨some 2, .move (.t 9), none⟩,
    ⟨some 3, .move (.c (.int .i64 0)), none⟩])
def A_impl_TypesOf : AFunc := ⟨[.tmp 2, .tmp 3], (.seq A_impl_TypesOf.r0 (.seq (.seq A_impl_TypesOf.r1 (.cond (.t 6) (.seq A_impl_TypesOf.r2 .ret) .skip)) (.seq A_impl_TypesOf.r3 .ret)))⟩
/-! spec_TypesOf -/
def A_spec_TypesOf.r0 : ACode := (.region none [⟨some 2, .move (.c (.slice none 0 0)), none⟩,
    ⟨some 3, .move (.c (.int .i64 0)), none⟩])
def A_spec_TypesOf.r1 : ACode := (.region none [⟨some 4, .move (.t 0), none⟩,
    ⟨some 5, .call 58 [(.t 4), (.c (.int .i64 1)), (.c (.int .i64 16))], none⟩,
    ⟨some 6, .not (.t 5), none⟩])
def A_spec_TypesOf.r2 : ACode := (.region none [⟨some 2, .move (.c (.slice none 0 0)), none⟩,
    ⟨some 3, .move (.c (.int .i64 2)), none⟩])
def A_spec_TypesOf.r3 : ACode := (.region none [⟨some 7, .move (.t 0), none⟩,
    ⟨some 8, .move (.t 0), none⟩,
    ⟨some 9, .buildSlice 1 0 [.int .i64 0] [], none⟩,
    ⟨some 10, .call 352 [(.t 7), (.t 8), (.t 9), (.c (.slice none 0 0))], none⟩,
    ⟨some 2, .move (.t 10), none⟩,
    ⟨some 3, .move (.c (.int .i64 0)), none⟩])
def A_spec_TypesOf : AFunc := ⟨[.tmp 2, .tmp 3], (.seq A_spec_TypesOf.r0 (.seq (.seq A_spec_TypesOf.r1 (.cond (.t 6) (.seq A_spec_TypesOf.r2 .ret) .skip)) (.seq A_spec_TypesOf.r3 .ret)))⟩
/-! laws_lists9 -/
def A_laws_lists9.r0 : ACode := (.region none [⟨some 4, .move (.c (.bool false)), none⟩])
def A_laws_lists9.r1 : ACode := (.region none [⟨some 6, .move (.t 0), none⟩,
    ⟨some 7, .len (.t 6), none⟩,
    ⟨some 8, .move (.t 1), none⟩,
    ⟨some 9, .len (.t 8), none⟩,
    ⟨some 10, .bin .neq (.t 7) (.t 9), none⟩])
def A_laws_lists9.r2 : ACode := (.region none [⟨some 4, .move (.c (.bool false)), none⟩])
def A_laws_lists9.r3 : ACode := (.region none [⟨some 5, .move (.c (.int .i64 0)), none⟩])
def A_laws_lists9.r4 : ACode := (.region none [⟨some 11, .move (.t 5), none⟩,
    ⟨some 12, .move (.t 0), none⟩,
    ⟨some 13, .len (.t 12), none⟩,
    ⟨some 14, .bin .lss (.t 11) (.t 13), none⟩])
def A_laws_lists9.r6 : ACode := (.region (some 10) [⟨some 17, .move (.t 0), none⟩,
    ⟨some 18, .move (.t 5), none⟩,
    ⟨some 19, .indexAddr none 1 (.t 17) (.t 18), none⟩,
    ⟨some 20, .load none (.t 19), none⟩,
    ⟨some 21, .move (.t 1), none⟩,
    ⟨some 22, .move (.t 5), none⟩,
    ⟨some 23, .indexAddr none 1 (.t 21) (.t 22), none⟩,
    ⟨some 24, .load none (.t 23), none⟩,
    ⟨some 25, .call 43 [(.t 20), (.t 24)], none⟩,
    ⟨some 26, .not (.t 25), none⟩])
def A_laws_lists9.r7 : ACode := (.region none [⟨some 4, .move (.c (.bool false)), none⟩])
def A_laws_lists9.r5 : ACode := (.region none [⟨some 15, .move (.t 5), none⟩,
    ⟨some 16, .bin .add (.t 15) (.c (.int .i64 1)), none⟩,
    ⟨some 5, .move (.t 16), none⟩])
def A_laws_lists9.l0 : ACode := (.seq (.seq A_laws_lists9.r4 (.cond (.t 14) .skip (.exit 0))) (.seq (.block 1 (.seq A_laws_lists9.r6 (.cond (.t 26) (.seq A_laws_lists9.r7 .ret) .skip))) A_laws_lists9.r5))
def A_laws_lists9.r8 : ACode := (.region none [⟨some 4, .move (.c (.bool true)), none⟩])
def A_laws_lists9 : AFunc := ⟨[.tmp 4], (.seq A_laws_lists9.r0 (.seq (.seq A_laws_lists9.r1 (.cond (.t 10) (.seq A_laws_lists9.r2 .ret) .skip)) (.seq (.seq A_laws_lists9.r3 (.block 0 (.loop A_laws_lists9.l0))) (.seq A_laws_lists9.r8 .ret))))⟩
/-! spec_DrawIsPassport -/
def A_spec_DrawIsPassport.r0 : ACode := (.region none [⟨some 2, .move (.c (.slice none 0 0)), none⟩])
def A_spec_DrawIsPassport.r1 : ACode := (.region none [⟨some 3, .move (.t 0), none⟩,
    ⟨some 4, .call 97 [(.t 3)], none⟩,
    ⟨some 5, .call 353 [(.t 4)], none⟩,
    ⟨some 2, .move (.t 5), none⟩])
def A_spec_DrawIsPassport : AFunc := ⟨[.tmp 2], (.seq A_spec_DrawIsPassport.r0 (.seq A_spec_DrawIsPassport.r1 .ret))⟩
/-! impl_IsPassport -/
def A_impl_IsPassport.r0 : ACode := (.region none [⟨some 2, .move (.c (.bool false)), none⟩])
def A_impl_IsPassport.r1 : ACode := (.region none [⟨some 3, .move (.t 0), none⟩,
    ⟨some 4, .call 80 [(.t 3)], none⟩,
    ⟨some 5, .bin .gtr (.t 4) (.c (.int .i64 0)), none⟩,
    ⟨some 2, .move (.t 5), none⟩])
def A_impl_IsPassport : AFunc := ⟨[.tmp 2], (.seq A_impl_IsPassport.r0 (.seq A_impl_IsPassport.r1 .ret))⟩
/-! spec_IsPassport -/
def A_spec_IsPassport.r0 : ACode := (.region none [⟨some 2, .move (.c (.bool false)), none⟩])
def A_spec_IsPassport.r1 : ACode := (.region none [⟨some 3, .move (.t 0), none⟩,
    ⟨some 4, .call 78 [(.t 3)], none⟩,
    ⟨some 2, .move (.t 4), none⟩])
def A_spec_IsPassport : AFunc := ⟨[.tmp 2], (.seq A_spec_IsPassport.r0 (.seq A_spec_IsPassport.r1 .ret))⟩
/-! impl_EulerOfPassport -/
def A_impl_EulerOfPassport.r0 : ACode := (.region none [⟨some 2, .move (.c (.int .i64 0)), none⟩,
    ⟨some 3, .move (.c (.int .i64 0)), none⟩])
def A_impl_EulerOfPassport.r1 : ACode := (.region none [⟨some 5, .move (.t 0), none⟩,
    ⟨some 6, .call 80 [(.t 5)], none⟩,
    ⟨some 4, .move (.t 6), none⟩])
def A_impl_EulerOfPassport.r2 : ACode := (.region none [⟨some 7, .move (.t 4), none⟩,
    ⟨some 8, .bin .eql (.t 7) (.c (.int .i64 0)), none⟩])
def A_impl_EulerOfPassport.r3 : ACode := (.region none [⟨some 2, .move (.c (.int .i64 0)), none⟩,
    ⟨some 3, .move (.c (.int .i64 1)), none⟩])
def A_impl_EulerOfPassport.r4 : ACode := (.region none [⟨some 9, .move (.t 0), none⟩,
    ⟨some 10, .move (.t 4), none⟩,
    ⟨some 11, .call 81 [(.t 9), (.t 10)], none⟩,
    ⟨some 2, .move (.t 11), none⟩,
    ⟨some 3, .move (.c (.int .i64 0)), none⟩])
def A_impl_EulerOfPassport : AFunc := ⟨[.tmp 2, .tmp 3], (.seq A_impl_EulerOfPassport.r0 (.seq A_impl_EulerOfPassport.r1 (.seq (.seq A_impl_EulerOfPassport.r2 (.cond (.t 8) (.seq A_impl_EulerOfPassport.r3 .ret) .skip)) (.seq A_impl_EulerOfPassport.r4 .ret))))⟩
/-! spec_EulerOfPassport -/
def A_spec_EulerOfPassport.r0 : ACode := (.region none [⟨some 2, .move (.c (.int .i64 0)), none⟩,
    ⟨some 3, .move (.c (.int .i64 0)), none⟩])
def A_spec_EulerOfPassport.r1 : ACode := (.region none [⟨some 4, .move (.t 0), none⟩,
    ⟨some 5, .call 78 [(.t 4)], none⟩,
    ⟨some 6, .not (.t 5), none⟩])
def A_spec_EulerOfPassport.r2 : ACode := (.region none [⟨some 2, .move (.c (.int .i64 0)), none⟩,
    ⟨some 3, .move (.c (.int .i64 1)), none⟩])
def A_spec_EulerOfPassport.r3 : ACode := (.region (some 21) [⟨some 7, .move (.t 0), none⟩,
    ⟨some 8, .indexAddr none 1 (.t 7) (.c (.int .i64 0)), none⟩,
    ⟨some 9, .load none (.t 8), none⟩,
    ⟨some 10, .len (.t 9), none⟩,
    ⟨some 11, .move (.t 0), none⟩,
    ⟨some 12, .indexAddr none 1 (.t 11) (.c (.int .i64 1)), none⟩,
    ⟨some 13, .load none (.t 12), none⟩,
    ⟨some 14, .len (.t 13), none⟩,
    ⟨some 15, .bin .add (.t 10) (.t 14), none⟩,
    ⟨some 16, .move (.t 0), none⟩,
    ⟨some 17, .indexAddr none 1 (.t 16) (.c (.int .i64 2)), none⟩,
    ⟨some 18, .load none (.t 17), none⟩,
    ⟨some 19, .len (.t 18), none⟩,
    ⟨some 20, .bin .add (.t 15) (.t 19), none⟩,
    ⟨some 21, .move (.t 0), none⟩,
    ⟨some 22, .indexAddr none 1 (.t 21) (.c (.int .i64 0)), none⟩,
    ⟨some 23, .load none (.t 22), none⟩,
    ⟨some 24, .call 79 [(.t 23)], none⟩,
    ⟨some 25, .bin .sub (.t 20) (.t 24), none⟩,
    ⟨some 2, .move (.t 25), none⟩,
    ⟨some 3, .move (.c (.int .i64 0)), none⟩])
def A_spec_EulerOfPassport : AFunc := ⟨[.tmp 2, .tmp 3], (.seq A_spec_EulerOfPassport.r0 (.seq (.seq A_spec_EulerOfPassport.r1 (.cond (.t 6) (.seq A_spec_EulerOfPassport.r2 .ret) .skip)) (.seq A_spec_EulerOfPassport.r3 .ret)))⟩
/-! impl_CentraliserOf -/
def A_impl_CentraliserOf.r0 : ACode := (.region none [⟨some 2, .move (.c (.int .i64 0)), none⟩,
    ⟨some 3, .move (.c (.int .i64 0)), none⟩])
def A_impl_CentraliserOf.r1 : ACode := (.region none [⟨some 4, .move (.t 0), none⟩,
    ⟨some 5, .call 309 [(.t 4)], none⟩,
    ⟨some 6, .not (.t 5), none⟩])
def A_impl_CentraliserOf.r2 : ACode := (.region none [⟨some 2, .move (.c (.int .i64 0)), none⟩,
    ⟨some 3, .move (.c (.int .i64 1)), none⟩])
def A_impl_CentraliserOf.r3 : ACode := (.region none [⟨some 7, .move (.t 0), none⟩,
    ⟨some 8, .call 354 [(.t 7)], none⟩,
    ⟨some 2, .move (.t 8), none⟩,
    ⟨some 3, .move (.c (.int .i64 0)), none⟩])
def A_impl_CentraliserOf : AFunc := ⟨[.tmp 2, .tmp 3], (.seq A_impl_CentraliserOf.r0 (.seq (.seq A_impl_CentraliserOf.r1 (.cond (.t 6) (.seq A_impl_CentraliserOf.r2 .ret) .skip)) (.seq A_impl_CentraliserOf.r3 .ret)))⟩
/-! spec_CentraliserOf -/
def A_spec_CentraliserOf.r0 : ACode := (.region none [⟨some 2, .move (.c (.int .i64 0)), none⟩,
    ⟨some 3, .move (.c (.int .i64 0)), none⟩])
def A_spec_CentraliserOf.r1 : ACode := (.region none [⟨some 4, .move (.t 0), none⟩,
    ⟨some 5, .call 106 [(.t 4)], none⟩,
    ⟨some 6, .not (.t 5), none⟩])
def A_spec_CentraliserOf.r2 : ACode := (.region none [⟨some 2, .move (.c (.int .i64 0)), none⟩,
    ⟨some 3, .move (.c (.int .i64 1)), none⟩])
def A_spec_CentraliserOf.r3 : ACode := (.region none [⟨some 7, .move (.t 0), none⟩,
    ⟨some 8, .call 338 [(.t 7)], none⟩,
    ⟨some 2, .move (.t 8), none⟩,
    ⟨some 3, .move (.c (.int .i64 0)), none⟩])
def A_spec_CentraliserOf : AFunc := ⟨[.tmp 2, .tmp 3], (.seq A_spec_CentraliserOf.r0 (.seq (.seq A_spec_CentraliserOf.r1 (.cond (.t 6) (.seq A_spec_CentraliserOf.r2 .ret) .skip)) (.seq A_spec_CentraliserOf.r3 .ret)))⟩
/-! laws_factorial9 -/
def A_laws_factorial9.r0 : ACode := (.region none [⟨some 2, .move (.c (.int .i64 0)), none⟩])
def A_laws_factorial9.r1 : ACode := (.region none [⟨some 3, .move (.c (.int .i64 1)), none⟩])
def A_laws_factorial9.r2 : ACode := (.region none [⟨some 4, .move (.t 0), none⟩,
    ⟨some 5, .bin .gtr (.t 4) (.c (.int .i64 1)), none⟩])
def A_laws_factorial9.r4 : ACode := (.region none [⟨some 8, .move (.t 3), none⟩,
    ⟨some 9, .move (.t 0), none⟩,
    ⟨some 10, .bin .mul (.t 8) (.t 9), none⟩,
    ⟨some 3, .move (.t 10), none⟩])
def A_laws_factorial9.r3 : ACode := (.region none [⟨some 6, .move (.t 0), none⟩,
    ⟨some 7, .bin .sub (.t 6) (.c (.int .i64 1)), none⟩,
    ⟨some 0, .move (.t 7), none⟩])
def A_laws_factorial9.l0 : ACode := (.seq (.seq A_laws_factorial9.r2 (.cond (.t 5) .skip (.exit 0))) (.seq (.block 1 A_laws_factorial9.r4) A_laws_factorial9.r3))
def A_laws_factorial9.r5 : ACode := (.region none [⟨some 11, .move (.t 3), none⟩,
    ⟨some 2, .move (.t 11), none⟩])
def A_laws_factorial9 : AFunc := ⟨[.tmp 2], (.seq A_laws_factorial9.r0 (.seq A_laws_factorial9.r1 (.seq (.block 0 (.loop A_laws_factorial9.l0)) (.seq A_laws_factorial9.r5 .ret))))⟩
/-! spec_l01From -/
def A_spec_l01From.r0 : ACode := (.region none [⟨some 2, .move (.c (.pointer none)), none⟩])
def A_spec_l01From.r1 : ACode := (.region none [⟨some 5, .move (.t 0), none⟩,
    ⟨some 6, .move (.t 0), none⟩,
    ⟨some 7, .len (.t 6), none⟩,
    ⟨some 8, .conv .u64 (.t 7), none⟩,
    ⟨some 9, .bin .add (.c (.int .u64 8117)) (.t 8), none⟩,
    ⟨some 10, .build ([.slice none 0 0] ++ [.int .i64 0] ++ [.int .u64 0]) [(0, 1, (.t 5)), (2, 1, (.t 9))], none⟩,
    ⟨some 11, .box (.t 10), none⟩,
    ⟨some 3, .move (.t 11), none⟩])
def A_spec_l01From.r2 : ACode := (.region none [⟨some 4, .move (.c (.int .i64 0)), none⟩])
def A_spec_l01From.r3 : ACode := (.region none [⟨some 12, .move (.t 4), none⟩,
    ⟨some 13, .move (.t 0), none⟩,
    ⟨some 14, .len (.t 13), none⟩,
    ⟨some 15, .bin .lss (.t 12) (.t 14), none⟩,
    ⟨some 16, .move (.t 15), none⟩,
    ⟨some 17, .move (.t 4), some (16, true)⟩,
    ⟨some 18, .bin .lss (.t 17) (.c (.int .i64 4096)), some (16, true)⟩,
    ⟨some 19, .pick (.t 16) (.t 18) (.c (.bool false)), none⟩])
def A_spec_l01From.r5 : ACode := (.region (some 15) [⟨some 22, .move (.t 3), none⟩,
    ⟨some 23, .move (.t 3), none⟩,
    ⟨some 24, .nilCheck (.t 23), none⟩,
    ⟨some 25, .fieldAddr 2 (.t 24), none⟩,
    ⟨some 26, .load none (.t 25), none⟩,
    ⟨some 27, .bin .mul (.t 26) (.c (.int .u64 1099511628211)), none⟩,
    ⟨some 28, .move (.t 0), none⟩,
    ⟨some 29, .move (.t 4), none⟩,
    ⟨some 30, .indexAddr none 1 (.t 28) (.t 29), none⟩,
    ⟨some 31, .load none (.t 30), none⟩,
    ⟨some 32, .conv .u64 (.t 31), none⟩,
    ⟨some 33, .bin .add (.t 27) (.t 32), none⟩,
    ⟨some 34, .bin .add (.t 33) (.c (.int .u64 23)), none⟩,
    ⟨some 35, .nilCheck (.t 22), none⟩,
    ⟨some 36, .fieldAddr 2 (.t 35), none⟩,
    ⟨none, .store 1 (.t 36) (.t 34), none⟩])
def A_spec_l01From.r4 : ACode := (.region none [⟨some 20, .move (.t 4), none⟩,
    ⟨some 21, .bin .add (.t 20) (.c (.int .i64 1)), none⟩,
    ⟨some 4, .move (.t 21), none⟩])
def A_spec_l01From.l0 : ACode := (.seq (.seq A_spec_l01From.r3 (.cond (.t 19) .skip (.exit 0))) (.seq (.block 1 A_spec_l01From.r5) A_spec_l01From.r4))
def A_spec_l01From.r6 : ACode := (.region none [⟨some 37, .move (.t 3), none⟩,
    ⟨some 2, .move (.t 37), none⟩])
def A_spec_l01From : AFunc := ⟨[.tmp 2], (.seq A_spec_l01From.r0 (.seq A_spec_l01From.r1 (.seq (.seq A_spec_l01From.r2 (.block 0 (.loop A_spec_l01From.l0))) (.seq A_spec_l01From.r6 .ret))))⟩
/-! spec_l01Is -/
def A_spec_l01Is.r0 : ACode := (.region none [⟨some 1, .box (.t 0), none⟩,
    ⟨some 2, .move (.c (.bool false)), none⟩])
def A_spec_l01Is.r1 : ACode := (.region none [⟨some 3, .fieldAddr 1 (.t 1), none⟩,
    ⟨some 4, .load (some 16) (.t 3), none⟩,
    ⟨some 5, .fieldAddr 0 (.t 1), none⟩,
    ⟨some 6, .load none (.t 5), none⟩,
    ⟨some 7, .call 206 [(.t 4), (.t 6)], none⟩,
    ⟨some 8, .move (.t 7), none⟩,
    ⟨some 9, .fieldAddr 17 (.t 1), some (8, true)⟩,
    ⟨some 10, .load (some 16) (.t 9), some (8, true)⟩,
    ⟨some 11, .fieldAddr 0 (.t 1), some (8, true)⟩,
    ⟨some 12, .load none (.t 11), some (8, true)⟩,
    ⟨some 13, .call 206 [(.t 10), (.t 12)], some (8, true)⟩,
    ⟨some 14, .pick (.t 8) (.t 13) (.c (.bool false)), none⟩,
    ⟨some 15, .move (.t 14), none⟩,
    ⟨some 16, .fieldAddr 0 (.t 1), some (15, true)⟩,
    ⟨some 17, .load none (.t 16), some (15, true)⟩,
    ⟨some 18, .fieldAddr 1 (.t 1), some (15, true)⟩,
    ⟨some 19, .load (some 16) (.t 18), some (15, true)⟩,
    ⟨some 20, .fieldAddr 17 (.t 1), some (15, true)⟩,
    ⟨some 21, .load (some 16) (.t 20), some (15, true)⟩,
    ⟨some 22, .call 207 [(.t 17), (.t 19), (.t 21)], some (15, true)⟩,
    ⟨some 23, .pick (.t 15) (.t 22) (.c (.bool false)), none⟩,
    ⟨some 2, .move (.t 23), none⟩])
def A_spec_l01Is : AFunc := ⟨[.tmp 2], (.seq A_spec_l01Is.r0 (.seq A_spec_l01Is.r1 .ret))⟩
/-! spec_l04DrawType -/
def A_spec_l04DrawType.r0 : ACode := (.region none [⟨some 4, .move (.c (.slice none 0 0)), none⟩])
def A_spec_l04DrawType.r1 : ACode := (.region none [⟨some 6, .move (.t 1), none⟩,
    ⟨some 7, .move (.t 1), none⟩,
    ⟨some 8, .buildSlice 1 0 [.int .i64 0] [], none⟩,
    ⟨some 9, .call 352 [(.t 6), (.t 7), (.t 8), (.c (.slice none 0 0))], none⟩,
    ⟨some 5, .move (.t 9), none⟩])
def A_spec_l04DrawType.r2 : ACode := (.region none [⟨some 10, .move (.t 5), none⟩,
    ⟨some 11, .move (.t 0), none⟩,
    ⟨some 12, .move (.t 5), none⟩,
    ⟨some 13, .len (.t 12), none⟩,
    ⟨some 14, .call 102 [(.t 11), (.t 13)], none⟩,
    ⟨some 15, .indexAddr none 1 (.t 10) (.t 14), none⟩,
    ⟨some 16, .load none (.t 15), none⟩,
    ⟨some 17, .call 111 [(.t 16)], none⟩,
    ⟨some 4, .move (.t 17), none⟩])
def A_spec_l04DrawType : AFunc := ⟨[.tmp 4], (.seq A_spec_l04DrawType.r0 (.seq A_spec_l04DrawType.r1 (.seq A_spec_l04DrawType.r2 .ret)))⟩
/-! spec_l01Next -/
def A_spec_l01Next.r0 : ACode := (.region none [⟨some 4, .move (.c (.int .i64 0)), none⟩])
def A_spec_l01Next.r1 : ACode := (.region none [⟨some 6, .move (.t 1), none⟩,
    ⟨some 7, .bin .lss (.t 6) (.c (.int .i64 1)), none⟩])
def A_spec_l01Next.r2 : ACode := (.region none [⟨some 4, .move (.c (.int .i64 0)), none⟩])
def A_spec_l01Next.r3 : ACode := (.region none [⟨some 8, .move (.t 0), none⟩,
    ⟨some 9, .move (.t 0), none⟩,
    ⟨some 10, .nilCheck (.t 9), none⟩,
    ⟨some 11, .fieldAddr 2 (.t 10), none⟩,
    ⟨some 12, .load none (.t 11), none⟩,
    ⟨some 13, .bin .mul (.t 12) (.c (.int .u64 6364136223846793005)), none⟩,
    ⟨some 14, .bin .add (.t 13) (.c (.int .u64 1442695040888963407)), none⟩,
    ⟨some 15, .nilCheck (.t 8), none⟩,
    ⟨some 16, .fieldAddr 2 (.t 15), none⟩,
    ⟨none, .store 1 (.t 16) (.t 14), none⟩])
def A_spec_l01Next.r4 : ACode := (.region none [⟨some 17, .move (.t 0), none⟩,
    ⟨some 18, .nilCheck (.t 17), none⟩,
    ⟨some 19, .fieldAddr 2 (.t 18), none⟩,
    ⟨some 20, .load none (.t 19), none⟩,
    ⟨some 21, .bin .shr (.t 20) (.c (.int .u64 33)), none⟩,
    ⟨some 22, .bin .and (.t 21) (.c (.int .u64 16777215)), none⟩,
    ⟨some 23, .conv .i64 (.t 22), none⟩,
    ⟨some 5, .move (.t 23), none⟩])
def A_spec_l01Next.r5 : ACode := (.region (some 10) [⟨some 24, .move (.t 0), none⟩,
    ⟨some 25, .nilCheck (.t 24), none⟩,
    ⟨some 26, .fieldAddr 1 (.t 25), none⟩,
    ⟨some 27, .load none (.t 26), none⟩,
    ⟨some 28, .move (.t 0), none⟩,
    ⟨some 29, .nilCheck (.t 28), none⟩,
    ⟨some 30, .fieldAddr 0 (.t 29), none⟩,
    ⟨some 31, .load none (.t 30), none⟩,
    ⟨some 32, .len (.t 31), none⟩,
    ⟨some 33, .bin .lss (.t 27) (.t 32), none⟩])
def A_spec_l01Next.r6 : ACode := (.region (some 14) [⟨some 34, .move (.t 5), none⟩,
    ⟨some 35, .move (.t 0), none⟩,
    ⟨some 36, .nilCheck (.t 35), none⟩,
    ⟨some 37, .fieldAddr 0 (.t 36), none⟩,
    ⟨some 38, .load none (.t 37), none⟩,
    ⟨some 39, .move (.t 0), none⟩,
    ⟨some 40, .nilCheck (.t 39), none⟩,
    ⟨some 41, .fieldAddr 1 (.t 40), none⟩,
    ⟨some 42, .load none (.t 41), none⟩,
    ⟨some 43, .indexAddr none 1 (.t 38) (.t 42), none⟩,
    ⟨some 44, .load none (.t 43), none⟩,
    ⟨some 45, .conv .i64 (.t 44), none⟩,
    ⟨some 46, .bin .add (.t 34) (.t 45), none⟩,
    ⟨some 5, .move (.t 46), none⟩])
def A_spec_l01Next.r7 : ACode := (.region none [⟨some 47, .move (.t 0), none⟩,
    ⟨some 48, .move (.t 0), none⟩,
    ⟨some 49, .nilCheck (.t 48), none⟩,
    ⟨some 50, .fieldAddr 1 (.t 49), none⟩,
    ⟨some 51, .load none (.t 50), none⟩,
    ⟨some 52, .bin .add (.t 51) (.c (.int .i64 1)), none⟩,
    ⟨some 53, .nilCheck (.t 47), none⟩,
    ⟨some 54, .fieldAddr 1 (.t 53), none⟩,
    ⟨none, .store 1 (.t 54) (.t 52), none⟩])
def A_spec_l01Next.r8 : ACode := (.region none [⟨some 55, .move (.t 5), none⟩,
    ⟨some 56, .move (.t 1), none⟩,
    ⟨some 57, .bin .rem (.t 55) (.t 56), none⟩,
    ⟨some 4, .move (.t 57), none⟩])
def A_spec_l01Next : AFunc := ⟨[.tmp 4], (.seq A_spec_l01Next.r0 (.seq (.seq A_spec_l01Next.r1 (.cond (.t 7) (.seq A_spec_l01Next.r2 .ret) .skip)) (.seq A_spec_l01Next.r3 (.seq A_spec_l01Next.r4 (.seq (.seq A_spec_l01Next.r5 (.cond (.t 33) (.seq A_spec_l01Next.r6 A_spec_l01Next.r7) .skip)) (.seq A_spec_l01Next.r8 .ret))))))⟩
/-! spec_l01Pick -/
def A_spec_l01Pick.r0 : ACode := (.region none [⟨some 4, .move (.c (.int .i64 0)), none⟩])
def A_spec_l01Pick.r1 : ACode := (.region none [⟨some 5, .move (.t 1), none⟩,
    ⟨some 6, .move (.t 0), none⟩,
    ⟨some 7, .move (.t 1), none⟩,
    ⟨some 8, .len (.t 7), none⟩,
    ⟨some 9, .call 102 [(.t 6), (.t 8)], none⟩,
    ⟨some 10, .indexAddr none 1 (.t 5) (.t 9), none⟩,
    ⟨some 11, .load none (.t 10), none⟩,
    ⟨some 4, .move (.t 11), none⟩])
def A_spec_l01Pick : AFunc := ⟨[.tmp 4], (.seq A_spec_l01Pick.r0 (.seq A_spec_l01Pick.r1 .ret))⟩
/-! impl_sumOfType -/
def A_impl_sumOfType.r0 : ACode := (.region none [⟨some 2, .move (.c (.int .i64 0)), none⟩])
def A_impl_sumOfType.r1 : ACode := (.region none [⟨some 3, .move (.c (.int .i64 0)), none⟩])
def A_impl_sumOfType.r2 : ACode := (.region none [⟨some 6, .move (.t 0), none⟩,
    ⟨some 7, .len (.t 6), none⟩,
    ⟨some 8, .move (.c (.int .i64 0)), none⟩])
def A_impl_sumOfType.r3 : ACode := (.region none [⟨some 9, .bin .lss (.t 8) (.t 7), none⟩])
def A_impl_sumOfType.r4 : ACode := (.region none [⟨some 10, .move (.t 8), none⟩,
    ⟨some 11, .indexAddr none 1 (.t 6) (.t 8), none⟩,
    ⟨some 12, .load none (.t 11), none⟩,
    ⟨some 4, .move (.t 10), none⟩,
    ⟨some 5, .move (.t 12), none⟩])
def A_impl_sumOfType.r5 : ACode := (.region none [⟨some 13, .move (.t 5), none⟩,
    ⟨some 14, .bin .lss (.t 13) (.c (.int .i64 1)), none⟩,
    ⟨some 15, .move (.t 14), none⟩,
    ⟨some 16, .move (.t 5), some (15, false)⟩,
    ⟨some 17, .bin .gtr (.t 16) (.c (.int .i64 16)), some (15, false)⟩,
    ⟨some 18, .pick (.t 15) (.c (.bool true)) (.t 17), none⟩,
    ⟨some 19, .move (.t 18), none⟩,
    ⟨some 20, .move (.t 4), some (19, false)⟩,
    ⟨some 21, .bin .gtr (.t 20) (.c (.int .i64 0)), some (19, false)⟩,
    ⟨some 22, .move (.t 21), some (19, false)⟩,
    ⟨some 23, .move (.t 5), some (22, true)⟩,
    ⟨some 24, .move (.t 0), some (22, true)⟩,
    ⟨some 25, .move (.t 4), some (22, true)⟩,
    ⟨some 26, .bin .sub (.t 25) (.c (.int .i64 1)), some (22, true)⟩,
    ⟨some 27, .indexAddr none 1 (.t 24) (.t 26), some (22, true)⟩,
    ⟨some 28, .load none (.t 27), some (22, true)⟩,
    ⟨some 29, .bin .gtr (.t 23) (.t 28), some (22, true)⟩,
    ⟨some 30, .pick (.t 22) (.t 29) (.c (.bool false)), some (19, false)⟩,
    ⟨some 31, .pick (.t 19) (.c (.bool true)) (.t 30), none⟩])
def A_impl_sumOfType.r6 : ACode := (.region none [⟨some 2, .move (.c (.int .i64 0)), none⟩])
def A_impl_sumOfType.r7 : ACode := (.region none [⟨some 32, .move (.t 3), none⟩,
    ⟨some 33, .move (.t 5), none⟩,
    ⟨some 34, .bin .add (.t 32) (.t 33), none⟩,
    ⟨some 3, .move (.t 34), none⟩])
def A_impl_sumOfType.r8 : ACode := (.region none [⟨some 35, .move (.t 3), none⟩,
    ⟨some 36, .bin .gtr (.t 35) (.c (.int .i64 16)), none⟩])
def A_impl_sumOfType.r9 : ACode := (.region none [⟨some 2, .move (.c (.int .i64 0)), none⟩])
def A_impl_sumOfType.r10 : ACode := (.region none [⟨some 37, .bin .add (.t 8) (.c (.int .i64 1)), none⟩,
    ⟨some 8, .move (.t 37), none⟩])
def A_impl_sumOfType.l0 : ACode := (.seq A_impl_sumOfType.r3 (.seq (.cond (.t 9) .skip (.exit 0)) (.seq (.block 1 (.seq A_impl_sumOfType.r4 (.seq (.seq A_impl_sumOfType.r5 (.cond (.t 31) (.seq A_impl_sumOfType.r6 .ret) .skip)) (.seq A_impl_sumOfType.r7 (.seq A_impl_sumOfType.r8 (.cond (.t 36) (.seq A_impl_sumOfType.r9 .ret) .skip)))))) A_impl_sumOfType.r10)))
def A_impl_sumOfType.r11 : ACode := (.region none [⟨some 38, .move (.t 3), none⟩,
    ⟨some 2, .move (.t 38), none⟩])
def A_impl_sumOfType : AFunc := ⟨[.tmp 2], (.seq A_impl_sumOfType.r0 (.seq A_impl_sumOfType.r1 (.seq (.seq A_impl_sumOfType.r2 (.block 0 (.loop A_impl_sumOfType.l0))) (.seq A_impl_sumOfType.r11 .ret))))⟩
/-! spec_l04Type -/
def A_spec_l04Type.r0 : ACode := (.region none [⟨some 2, .move (.c (.bool false)), none⟩])
def A_spec_l04Type.r1 : ACode := (.region none [⟨some 4, .move (.t 0), none⟩,
    ⟨some 5, .len (.t 4), none⟩,
    ⟨some 6, .bin .lss (.t 5) (.c (.int .i64 1)), none⟩,
    ⟨some 7, .move (.t 6), none⟩,
    ⟨some 8, .move (.t 0), some (7, false)⟩,
    ⟨some 9, .len (.t 8), some (7, false)⟩,
    ⟨some 10, .bin .gtr (.t 9) (.c (.int .i64 16)), some (7, false)⟩,
    ⟨some 11, .pick (.t 7) (.c (.bool true)) (.t 10), none⟩])
def A_spec_l04Type.r2 : ACode := (.region none [⟨some 2, .move (.c (.bool false)), none⟩])
def A_spec_l04Type.r3 : ACode := (.region none [⟨some 3, .move (.c (.int .i64 0)), none⟩])
def A_spec_l04Type.r4 : ACode := (.region none [⟨some 12, .move (.t 3), none⟩,
    ⟨some 13, .move (.t 0), none⟩,
    ⟨some 14, .len (.t 13), none⟩,
    ⟨some 15, .bin .lss (.t 12) (.t 14), none⟩])
def A_spec_l04Type.r6 : ACode := (.region (some 22) [⟨some 18, .move (.t 0), none⟩,
    ⟨some 19, .move (.t 3), none⟩,
    ⟨some 20, .indexAddr none 1 (.t 18) (.t 19), none⟩,
    ⟨some 21, .load none (.t 20), none⟩,
    ⟨some 22, .call 58 [(.t 21), (.c (.int .i64 1)), (.c (.int .i64 16))], none⟩,
    ⟨some 23, .not (.t 22), none⟩,
    ⟨some 24, .move (.t 23), none⟩,
    ⟨some 25, .move (.t 3), some (24, false)⟩,
    ⟨some 26, .bin .gtr (.t 25) (.c (.int .i64 0)), some (24, false)⟩,
    ⟨some 27, .move (.t 26), some (24, false)⟩,
    ⟨some 28, .move (.t 0), some (27, true)⟩,
    ⟨some 29, .move (.t 3), some (27, true)⟩,
    ⟨some 30, .indexAddr none 1 (.t 28) (.t 29), some (27, true)⟩,
    ⟨some 31, .load none (.t 30), some (27, true)⟩,
    ⟨some 32, .move (.t 0), some (27, true)⟩,
    ⟨some 33, .move (.t 3), some (27, true)⟩,
    ⟨some 34, .bin .sub (.t 33) (.c (.int .i64 1)), some (27, true)⟩,
    ⟨some 35, .indexAddr none 1 (.t 32) (.t 34), some (27, true)⟩,
    ⟨some 36, .load none (.t 35), some (27, true)⟩,
    ⟨some 37, .bin .gtr (.t 31) (.t 36), some (27, true)⟩,
    ⟨some 38, .pick (.t 27) (.t 37) (.c (.bool false)), some (24, false)⟩,
    ⟨some 39, .pick (.t 24) (.c (.bool true)) (.t 38), none⟩])
def A_spec_l04Type.r7 : ACode := (.region none [⟨some 2, .move (.c (.bool false)), none⟩])
def A_spec_l04Type.r5 : ACode := (.region none [⟨some 16, .move (.t 3), none⟩,
    ⟨some 17, .bin .add (.t 16) (.c (.int .i64 1)), none⟩,
    ⟨some 3, .move (.t 17), none⟩])
def A_spec_l04Type.l0 : ACode := (.seq (.seq A_spec_l04Type.r4 (.cond (.t 15) .skip (.exit 0))) (.seq (.block 1 (.seq A_spec_l04Type.r6 (.cond (.t 39) (.seq A_spec_l04Type.r7 .ret) .skip))) A_spec_l04Type.r5))
def A_spec_l04Type.r8 : ACode := (.region none [⟨some 40, .move (.t 0), none⟩,
    ⟨some 41, .call 79 [(.t 40)], none⟩,
    ⟨some 42, .bin .leq (.t 41) (.c (.int .i64 16)), none⟩,
    ⟨some 2, .move (.t 42), none⟩])
def A_spec_l04Type : AFunc := ⟨[.tmp 2], (.seq A_spec_l04Type.r0 (.seq (.seq A_spec_l04Type.r1 (.cond (.t 11) (.seq A_spec_l04Type.r2 .ret) .skip)) (.seq (.seq A_spec_l04Type.r3 (.block 0 (.loop A_spec_l04Type.l0))) (.seq A_spec_l04Type.r8 .ret))))⟩
/-! impl_isSize -/
def A_impl_isSize.r0 : ACode := (.region none [⟨some 2, .move (.c (.bool false)), none⟩])
def A_impl_isSize.r1 : ACode := (.region none [⟨some 3, .move (.t 0), none⟩,
    ⟨some 4, .bin .geq (.t 3) (.c (.int .i64 1)), none⟩,
    ⟨some 5, .move (.t 4), none⟩,
    ⟨some 6, .move (.t 0), some (5, true)⟩,
    ⟨some 7, .bin .leq (.t 6) (.c (.int .i64 16)), some (5, true)⟩,
    ⟨some 8, .pick (.t 5) (.t 7) (.c (.bool false)), none⟩,
    ⟨some 2, .move (.t 8), none⟩])
def A_impl_isSize : AFunc := ⟨[.tmp 2], (.seq A_impl_isSize.r0 (.seq A_impl_isSize.r1 .ret))⟩
/-! impl_types -/
def A_impl_types.r0 : ACode := (.region none [⟨some 4, .move (.c (.slice none 0 0)), none⟩])
def A_impl_types.r1 : ACode := (.region none [⟨some 9, .move (.t 0), none⟩,
    ⟨some 10, .bin .eql (.t 9) (.c (.int .i64 0)), none⟩])
def A_impl_types.r2 : ACode := (.region none [⟨some 11, .buildSlice 1 0 [.int .i64 0] [], none⟩,
    ⟨some 12, .buildSlice 1 1 [.slice none 0 0] [(0, 1, (.t 11))], none⟩,
    ⟨some 4, .move (.t 12), none⟩])
def A_impl_types.r3 : ACode := (.region none [⟨some 13, .buildSlice 1 0 [.slice none 0 0] [], none⟩,
    ⟨some 5, .move (.t 13), none⟩])
def A_impl_types.r4 : ACode := (.region none [⟨some 6, .move (.c (.int .i64 1)), none⟩])
def A_impl_types.r5 : ACode := (.region none [⟨some 14, .move (.t 6), none⟩,
    ⟨some 15, .move (.t 0), none⟩,
    ⟨some 16, .move (.t 1), none⟩,
    ⟨some 17, .min [(.t 15), (.t 16)], none⟩,
    ⟨some 18, .bin .leq (.t 14) (.t 17), none⟩])
def A_impl_types.r7 : ACode := (.region none [⟨some 21, .move (.t 0), none⟩,
    ⟨some 22, .move (.t 6), none⟩,
    ⟨some 23, .bin .sub (.t 21) (.t 22), none⟩,
    ⟨some 24, .move (.t 6), none⟩,
    ⟨some 25, .call 351 [(.t 23), (.t 24)], none⟩,
    ⟨some 26, .len (.t 25), none⟩,
    ⟨some 27, .move (.c (.int .i64 0)), none⟩])
def A_impl_types.r8 : ACode := (.region none [⟨some 28, .bin .lss (.t 27) (.t 26), none⟩])
def A_impl_types.r9 : ACode := (.region none [⟨some 29, .indexAddr none 1 (.t 25) (.t 27), none⟩,
    ⟨some 30, .load none (.t 29), none⟩,
    ⟨some 8, .move (.t 30), none⟩])
def A_impl_types.r10 : ACode := (.region none [⟨some 31, .move (.t 5), none⟩,
    ⟨some 32, .move (.t 6), none⟩,
    ⟨some 33, .buildSlice 1 1 [.int .i64 0] [(0, 1, (.t 32))], none⟩,
    ⟨some 34, .move (.t 8), none⟩,
    ⟨some 35, .append 1 8 (.t 33) (.t 34), none⟩,
    ⟨some 36, .buildSlice 1 1 [.slice none 0 0] [(0, 1, (.t 35))], none⟩,
    ⟨some 37, .append 1 24 (.t 31) (.t 36), none⟩,
    ⟨some 5, .move (.t 37), none⟩])
def A_impl_types.r11 : ACode := (.region none [⟨some 38, .bin .add (.t 27) (.c (.int .i64 1)), none⟩,
    ⟨some 27, .move (.t 38), none⟩])
def A_impl_types.l0 : ACode := (.seq A_impl_types.r8 (.seq (.cond (.t 28) .skip (.exit 2)) (.seq (.block 3 (.seq A_impl_types.r9 A_impl_types.r10)) A_impl_types.r11)))
def A_impl_types.r6 : ACode := (.region none [⟨some 19, .move (.t 6), none⟩,
    ⟨some 20, .bin .add (.t 19) (.c (.int .i64 1)), none⟩,
    ⟨some 6, .move (.t 20), none⟩])
def A_impl_types.l1 : ACode := (.seq (.seq A_impl_types.r5 (.cond (.t 18) .skip (.exit 0))) (.seq (.block 1 (.seq A_impl_types.r7 (.block 2 (.loop A_impl_types.l0)))) A_impl_types.r6))
def A_impl_types.r12 : ACode := (.region none [⟨some 39, .move (.t 5), none⟩,
    ⟨some 4, .move (.t 39), none⟩])
def A_impl_types : AFunc := ⟨[.tmp 4], (.seq A_impl_types.r0 (.seq (.seq A_impl_types.r1 (.cond (.t 10) (.seq A_impl_types.r2 .ret) .skip)) (.seq A_impl_types.r3 (.seq (.seq A_impl_types.r4 (.block 0 (.loop A_impl_types.l1))) (.seq A_impl_types.r12 .ret)))))⟩
/-! spec_l01In -/
def A_spec_l01In.r0 : ACode := (.region none [⟨some 6, .move (.c (.bool false)), none⟩])
def A_spec_l01In.r1 : ACode := (.region none [⟨some 7, .move (.t 0), none⟩,
    ⟨some 8, .move (.t 1), none⟩,
    ⟨some 9, .bin .geq (.t 7) (.t 8), none⟩,
    ⟨some 10, .move (.t 9), none⟩,
    ⟨some 11, .move (.t 0), some (10, true)⟩,
    ⟨some 12, .move (.t 2), some (10, true)⟩,
    ⟨some 13, .bin .leq (.t 11) (.t 12), some (10, true)⟩,
    ⟨some 14, .pick (.t 10) (.t 13) (.c (.bool false)), none⟩,
    ⟨some 6, .move (.t 14), none⟩])
def A_spec_l01In : AFunc := ⟨[.tmp 6], (.seq A_spec_l01In.r0 (.seq A_spec_l01In.r1 .ret))⟩
/-! spec_l04Types -/
def A_spec_l04Types.r0 : ACode := (.region none [⟨some 8, .move (.c (.slice none 0 0)), none⟩])
def A_spec_l04Types.r1 : ACode := (.region none [⟨some 10, .move (.t 0), none⟩,
    ⟨some 11, .bin .eql (.t 10) (.c (.int .i64 0)), none⟩])
def A_spec_l04Types.r2 : ACode := (.region none [⟨some 12, .move (.t 3), none⟩,
    ⟨some 13, .move (.t 2), none⟩,
    ⟨some 14, .buildSlice 1 1 [.slice none 0 0] [(0, 1, (.t 13))], none⟩,
    ⟨some 15, .append 1 24 (.t 12) (.t 14), none⟩,
    ⟨some 8, .move (.t 15), none⟩])
def A_spec_l04Types.r3 : ACode := (.region none [⟨some 9, .move (.c (.int .i64 1)), none⟩])
def A_spec_l04Types.r4 : ACode := (.region none [⟨some 16, .move (.t 9), none⟩,
    ⟨some 17, .move (.t 1), none⟩,
    ⟨some 18, .bin .leq (.t 16) (.t 17), none⟩,
    ⟨some 19, .move (.t 18), none⟩,
    ⟨some 20, .move (.t 9), some (19, true)⟩,
    ⟨some 21, .move (.t 0), some (19, true)⟩,
    ⟨some 22, .bin .leq (.t 20) (.t 21), some (19, true)⟩,
    ⟨some 23, .pick (.t 19) (.t 22) (.c (.bool false)), none⟩])
def A_spec_l04Types.r6 : ACode := (.region none [⟨some 26, .move (.t 0), none⟩,
    ⟨some 27, .move (.t 9), none⟩,
    ⟨some 28, .bin .sub (.t 26) (.t 27), none⟩,
    ⟨some 29, .move (.t 9), none⟩,
    ⟨some 30, .move (.t 2), none⟩,
    ⟨some 31, .call 111 [(.t 30)], none⟩,
    ⟨some 32, .move (.t 9), none⟩,
    ⟨some 33, .buildSlice 1 1 [.int .i64 0] [(0, 1, (.t 32))], none⟩,
    ⟨some 34, .append 1 8 (.t 31) (.t 33), none⟩,
    ⟨some 35, .move (.t 3), none⟩,
    ⟨some 36, .call 352 [(.t 28), (.t 29), (.t 34), (.t 35)], none⟩,
    ⟨some 3, .move (.t 36), none⟩])
def A_spec_l04Types.r5 : ACode := (.region none [⟨some 24, .move (.t 9), none⟩,
    ⟨some 25, .bin .add (.t 24) (.c (.int .i64 1)), none⟩,
    ⟨some 9, .move (.t 25), none⟩])
def A_spec_l04Types.l0 : ACode := (.seq (.seq A_spec_l04Types.r4 (.cond (.t 23) .skip (.exit 0))) (.seq (.block 1 A_spec_l04Types.r6) A_spec_l04Types.r5))
def A_spec_l04Types.r7 : ACode := (.region none [⟨some 37, .move (.t 3), none⟩,
    ⟨some 8, .move (.t 37), none⟩])
def A_spec_l04Types : AFunc := ⟨[.tmp 8], (.seq A_spec_l04Types.r0 (.seq (.seq A_spec_l04Types.r1 (.cond (.t 11) (.seq A_spec_l04Types.r2 .ret) .skip)) (.seq (.seq A_spec_l04Types.r3 (.block 0 (.loop A_spec_l04Types.l0))) (.seq A_spec_l04Types.r7 .ret))))⟩
/-! spec_l04Draw -/
def A_spec_l04Draw.r0 : ACode := (.region none [⟨some 2, .move (.c (.slice none 0 0)), none⟩])
def A_spec_l04Draw.r1 : ACode := (.region none [⟨some 6, .move (.t 0), none⟩,
    ⟨some 7, .buildSlice 1 10 [.int .i64 0] [(0, 1, (.c (.int .i64 1))), (1, 1, (.c (.int .i64 2))), (2, 1, (.c (.int .i64 3))), (3, 1, (.c (.int .i64 4))), (4, 1, (.c (.int .i64 4))), (5, 1, (.c (.int .i64 5))), (6, 1, (.c (.int .i64 5))), (7, 1, (.c (.int .i64 6))), (8, 1, (.c (.int .i64 6))), (9, 1, (.c (.int .i64 7)))], none⟩,
    ⟨some 8, .call 98 [(.t 6), (.t 7)], none⟩,
    ⟨some 3, .move (.t 8), none⟩])
def A_spec_l04Draw.r2 : ACode := (.region none [⟨some 9, .move (.t 0), none⟩,
    ⟨some 10, .move (.t 3), none⟩,
    ⟨some 11, .call 372 [(.t 9), (.t 10)], none⟩,
    ⟨some 4, .alloc ([.int .i64 0] ++ List.replicate 32 (.int .u8 0)), none⟩,
    ⟨none, .store 33 (.t 4) (.t 11), none⟩])
def A_spec_l04Draw.r3 : ACode := (.region (some 17) [⟨some 12, .fieldAddr 1 (.t 4), none⟩,
    ⟨some 13, .load (some 16) (.t 12), none⟩,
    ⟨some 14, .fieldAddr 0 (.t 4), none⟩,
    ⟨some 15, .load none (.t 14), none⟩,
    ⟨some 16, .call 284 [(.t 13), (.t 15)], none⟩,
    ⟨some 17, .fieldAddr 17 (.t 4), none⟩,
    ⟨some 18, .load (some 16) (.t 17), none⟩,
    ⟨some 19, .fieldAddr 0 (.t 4), none⟩,
    ⟨some 20, .load none (.t 19), none⟩,
    ⟨some 21, .call 284 [(.t 18), (.t 20)], none⟩,
    ⟨some 22, .load (some 33) (.t 4), none⟩,
    ⟨some 23, .call 192 [(.t 22)], none⟩,
    ⟨some 24, .fieldAddr 0 (.t 4), none⟩,
    ⟨some 25, .load none (.t 24), none⟩,
    ⟨some 26, .call 284 [(.t 23), (.t 25)], none⟩,
    ⟨some 27, .buildSlice 1 3 [.slice none 0 0] [(0, 1, (.t 16)), (1, 1, (.t 21)), (2, 1, (.t 26))], none⟩,
    ⟨some 5, .move (.t 27), none⟩])
def A_spec_l04Draw.r4 : ACode := (.region none [⟨some 28, .move (.t 0), none⟩,
    ⟨some 29, .call 102 [(.t 28), (.c (.int .i64 12))], none⟩])
def A_spec_l04Draw.r5 : ACode := (.region none [⟨some 31, .bin .eql (.t 29) (.c (.int .i64 0)), none⟩,
    ⟨some 30, .move (.t 31), none⟩])
def A_spec_l04Draw.r6 : ACode := (.region none [⟨some 32, .move (.t 5), none⟩,
    ⟨some 33, .move (.t 0), none⟩,
    ⟨some 34, .fieldAddr 0 (.t 4), none⟩,
    ⟨some 35, .load none (.t 34), none⟩,
    ⟨some 36, .call 350 [(.t 33), (.t 35)], none⟩,
    ⟨some 37, .indexAddr none 1 (.t 32) (.c (.int .i64 2)), none⟩,
    ⟨none, .store 1 (.t 37) (.t 36), none⟩])
def A_spec_l04Draw.r7 : ACode := (.region none [⟨some 39, .bin .eql (.t 29) (.c (.int .i64 1)), none⟩,
    ⟨some 38, .move (.t 39), none⟩])
def A_spec_l04Draw.r8 : ACode := (.region none [⟨some 40, .move (.t 0), none⟩,
    ⟨some 41, .move (.t 3), none⟩,
    ⟨some 42, .call 350 [(.t 40), (.t 41)], none⟩,
    ⟨some 43, .move (.t 0), none⟩,
    ⟨some 44, .move (.t 3), none⟩,
    ⟨some 45, .call 350 [(.t 43), (.t 44)], none⟩,
    ⟨some 46, .move (.t 0), none⟩,
    ⟨some 47, .move (.t 3), none⟩,
    ⟨some 48, .call 350 [(.t 46), (.t 47)], none⟩,
    ⟨some 49, .buildSlice 1 3 [.slice none 0 0] [(0, 1, (.t 42)), (1, 1, (.t 45)), (2, 1, (.t 48))], none⟩,
    ⟨some 5, .move (.t 49), none⟩])
def A_spec_l04Draw.r9 : ACode := (.region none [⟨some 50, .move (.t 0), none⟩,
    ⟨some 51, .call 102 [(.t 50), (.c (.int .i64 40))], none⟩])
def A_spec_l04Draw.r10 : ACode := (.region none [⟨some 53, .bin .eql (.t 51) (.c (.int .i64 0)), none⟩,
    ⟨some 52, .move (.t 53), none⟩])
def A_spec_l04Draw.r11 : ACode := (.region none [⟨some 54, .move (.t 5), none⟩,
    ⟨some 55, .slice 1 (.t 54) (some (.c (.int .i64 1))) none, none⟩,
    ⟨some 5, .move (.t 55), none⟩])
def A_spec_l04Draw.r12 : ACode := (.region none [⟨some 57, .bin .eql (.t 51) (.c (.int .i64 1)), none⟩,
    ⟨some 56, .move (.t 57), none⟩])
def A_spec_l04Draw.r13 : ACode := (.region none [⟨some 58, .move (.t 5), none⟩,
    ⟨some 59, .move (.t 5), none⟩,
    ⟨some 60, .indexAddr none 1 (.t 59) (.c (.int .i64 1)), none⟩,
    ⟨some 61, .load none (.t 60), none⟩,
    ⟨some 62, .buildSlice 1 1 [.int .i64 0] [(0, 1, (.c (.int .i64 1)))], none⟩,
    ⟨some 63, .append 1 8 (.t 61) (.t 62), none⟩,
    ⟨some 64, .indexAddr none 1 (.t 58) (.c (.int .i64 1)), none⟩,
    ⟨none, .store 1 (.t 64) (.t 63), none⟩])
def A_spec_l04Draw.r14 : ACode := (.region none [⟨some 66, .bin .eql (.t 51) (.c (.int .i64 2)), none⟩,
    ⟨some 65, .move (.t 66), none⟩])
def A_spec_l04Draw.r15 : ACode := (.region none [⟨some 67, .move (.t 5), none⟩,
    ⟨some 68, .buildSlice 1 1 [.int .i64 0] [(0, 1, (.c (.int .i64 1)))], none⟩,
    ⟨some 69, .move (.t 5), none⟩,
    ⟨some 70, .indexAddr none 1 (.t 69) (.c (.int .i64 0)), none⟩,
    ⟨some 71, .load none (.t 70), none⟩,
    ⟨some 72, .append 1 8 (.t 68) (.t 71), none⟩,
    ⟨some 73, .indexAddr none 1 (.t 67) (.c (.int .i64 0)), none⟩,
    ⟨none, .store 1 (.t 73) (.t 72), none⟩])
def A_spec_l04Draw.r16 : ACode := (.region none [⟨some 75, .bin .eql (.t 51) (.c (.int .i64 3)), none⟩,
    ⟨some 74, .move (.t 75), none⟩])
def A_spec_l04Draw.r17 : ACode := (.region none [⟨some 76, .buildSlice 1 1 [.int .i64 0] [(0, 1, (.c (.int .i64 9)))], none⟩,
    ⟨some 77, .buildSlice 1 1 [.int .i64 0] [(0, 1, (.c (.int .i64 9)))], none⟩,
    ⟨some 78, .buildSlice 1 1 [.int .i64 0] [(0, 1, (.c (.int .i64 9)))], none⟩,
    ⟨some 79, .buildSlice 1 3 [.slice none 0 0] [(0, 1, (.t 76)), (1, 1, (.t 77)), (2, 1, (.t 78))], none⟩,
    ⟨some 5, .move (.t 79), none⟩])
def A_spec_l04Draw.r18 : ACode := (.region none [⟨some 80, .move (.t 5), none⟩,
    ⟨some 2, .move (.t 80), none⟩])
def A_spec_l04Draw : AFunc := ⟨[.tmp 2], (.seq A_spec_l04Draw.r0 (.seq A_spec_l04Draw.r1 (.seq A_spec_l04Draw.r2 (.seq A_spec_l04Draw.r3 (.seq (.seq A_spec_l04Draw.r4 (.block 0 (.seq A_spec_l04Draw.r5 (.cond (.t 30) A_spec_l04Draw.r6 (.seq A_spec_l04Draw.r7 (.cond (.t 38) A_spec_l04Draw.r8 .skip)))))) (.seq (.seq A_spec_l04Draw.r9 (.block 1 (.seq A_spec_l04Draw.r10 (.cond (.t 52) A_spec_l04Draw.r11 (.seq A_spec_l04Draw.r12 (.cond (.t 56) A_spec_l04Draw.r13 (.seq A_spec_l04Draw.r14 (.cond (.t 65) A_spec_l04Draw.r15 (.seq A_spec_l04Draw.r16 (.cond (.t 74) A_spec_l04Draw.r17 .skip)))))))))) (.seq A_spec_l04Draw.r18 .ret)))))))⟩
/-! impl_sumOfPassport -/
def A_impl_sumOfPassport.r0 : ACode := (.region none [⟨some 2, .move (.c (.int .i64 0)), none⟩])
def A_impl_sumOfPassport.r1 : ACode := (.region none [⟨some 4, .move (.t 0), none⟩,
    ⟨some 5, .len (.t 4), none⟩,
    ⟨some 6, .bin .neq (.t 5) (.c (.int .i64 3)), none⟩])
def A_impl_sumOfPassport.r2 : ACode := (.region none [⟨some 2, .move (.c (.int .i64 0)), none⟩])
def A_impl_sumOfPassport.r3 : ACode := (.region none [⟨some 7, .move (.t 0), none⟩,
    ⟨some 8, .indexAddr none 1 (.t 7) (.c (.int .i64 0)), none⟩,
    ⟨some 9, .load none (.t 8), none⟩,
    ⟨some 10, .call 68 [(.t 9)], none⟩,
    ⟨some 3, .move (.t 10), none⟩])
def A_impl_sumOfPassport.r4 : ACode := (.region none [⟨some 11, .move (.t 0), none⟩,
    ⟨some 12, .indexAddr none 1 (.t 11) (.c (.int .i64 1)), none⟩,
    ⟨some 13, .load none (.t 12), none⟩,
    ⟨some 14, .call 68 [(.t 13)], none⟩,
    ⟨some 15, .move (.t 3), none⟩,
    ⟨some 16, .bin .neq (.t 14) (.t 15), none⟩,
    ⟨some 17, .move (.t 16), none⟩,
    ⟨some 18, .move (.t 0), some (17, false)⟩,
    ⟨some 19, .indexAddr none 1 (.t 18) (.c (.int .i64 2)), some (17, false)⟩,
    ⟨some 20, .load none (.t 19), some (17, false)⟩,
    ⟨some 21, .call 68 [(.t 20)], some (17, false)⟩,
    ⟨some 22, .move (.t 3), some (17, false)⟩,
    ⟨some 23, .bin .neq (.t 21) (.t 22), some (17, false)⟩,
    ⟨some 24, .pick (.t 17) (.c (.bool true)) (.t 23), none⟩])
def A_impl_sumOfPassport.r5 : ACode := (.region none [⟨some 2, .move (.c (.int .i64 0)), none⟩])
def A_impl_sumOfPassport.r6 : ACode := (.region none [⟨some 25, .move (.t 3), none⟩,
    ⟨some 2, .move (.t 25), none⟩])
def A_impl_sumOfPassport : AFunc := ⟨[.tmp 2], (.seq A_impl_sumOfPassport.r0 (.seq (.seq A_impl_sumOfPassport.r1 (.cond (.t 6) (.seq A_impl_sumOfPassport.r2 .ret) .skip)) (.seq A_impl_sumOfPassport.r3 (.seq (.seq A_impl_sumOfPassport.r4 (.cond (.t 24) (.seq A_impl_sumOfPassport.r5 .ret) .skip)) (.seq A_impl_sumOfPassport.r6 .ret)))))⟩
/-! spec_l04Is -/
def A_spec_l04Is.r0 : ACode := (.region none [⟨some 2, .move (.c (.bool false)), none⟩])
def A_spec_l04Is.r1 : ACode := (.region none [⟨some 4, .move (.t 0), none⟩,
    ⟨some 5, .len (.t 4), none⟩,
    ⟨some 6, .bin .neq (.t 5) (.c (.int .i64 3)), none⟩])
def A_spec_l04Is.r2 : ACode := (.region none [⟨some 2, .move (.c (.bool false)), none⟩])
def A_spec_l04Is.r3 : ACode := (.region none [⟨some 3, .move (.c (.int .i64 0)), none⟩])
def A_spec_l04Is.r4 : ACode := (.region none [⟨some 7, .move (.t 3), none⟩,
    ⟨some 8, .bin .lss (.t 7) (.c (.int .i64 3)), none⟩])
def A_spec_l04Is.r6 : ACode := (.region (some 18) [⟨some 11, .move (.t 0), none⟩,
    ⟨some 12, .move (.t 3), none⟩,
    ⟨some 13, .indexAddr none 1 (.t 11) (.t 12), none⟩,
    ⟨some 14, .load none (.t 13), none⟩,
    ⟨some 15, .call 106 [(.t 14)], none⟩,
    ⟨some 16, .not (.t 15), none⟩,
    ⟨some 17, .move (.t 16), none⟩,
    ⟨some 18, .move (.t 0), some (17, false)⟩,
    ⟨some 19, .move (.t 3), some (17, false)⟩,
    ⟨some 20, .indexAddr none 1 (.t 18) (.t 19), some (17, false)⟩,
    ⟨some 21, .load none (.t 20), some (17, false)⟩,
    ⟨some 22, .call 79 [(.t 21)], some (17, false)⟩,
    ⟨some 23, .move (.t 0), some (17, false)⟩,
    ⟨some 24, .indexAddr none 1 (.t 23) (.c (.int .i64 0)), some (17, false)⟩,
    ⟨some 25, .load none (.t 24), some (17, false)⟩,
    ⟨some 26, .call 79 [(.t 25)], some (17, false)⟩,
    ⟨some 27, .bin .neq (.t 22) (.t 26), some (17, false)⟩,
    ⟨some 28, .pick (.t 17) (.c (.bool true)) (.t 27), none⟩])
def A_spec_l04Is.r7 : ACode := (.region none [⟨some 2, .move (.c (.bool false)), none⟩])
def A_spec_l04Is.r5 : ACode := (.region none [⟨some 9, .move (.t 3), none⟩,
    ⟨some 10, .bin .add (.t 9) (.c (.int .i64 1)), none⟩,
    ⟨some 3, .move (.t 10), none⟩])
def A_spec_l04Is.l0 : ACode := (.seq (.seq A_spec_l04Is.r4 (.cond (.t 8) .skip (.exit 0))) (.seq (.block 1 (.seq A_spec_l04Is.r6 (.cond (.t 28) (.seq A_spec_l04Is.r7 .ret) .skip))) A_spec_l04Is.r5))
def A_spec_l04Is.r8 : ACode := (.region none [⟨some 2, .move (.c (.bool true)), none⟩])
def A_spec_l04Is : AFunc := ⟨[.tmp 2], (.seq A_spec_l04Is.r0 (.seq (.seq A_spec_l04Is.r1 (.cond (.t 6) (.seq A_spec_l04Is.r2 .ret) .skip)) (.seq (.seq A_spec_l04Is.r3 (.block 0 (.loop A_spec_l04Is.l0))) (.seq A_spec_l04Is.r8 .ret))))⟩
/-! impl_eulerOf -/
def A_impl_eulerOf.r0 : ACode := (.region none [⟨some 4, .move (.c (.int .i64 0)), none⟩])
def A_impl_eulerOf.r1 : ACode := (.region (some 17) [⟨some 5, .move (.t 0), none⟩,
    ⟨some 6, .indexAddr none 1 (.t 5) (.c (.int .i64 0)), none⟩,
    ⟨some 7, .load none (.t 6), none⟩,
    ⟨some 8, .len (.t 7), none⟩,
    ⟨some 9, .move (.t 0), none⟩,
    ⟨some 10, .indexAddr none 1 (.t 9) (.c (.int .i64 1)), none⟩,
    ⟨some 11, .load none (.t 10), none⟩,
    ⟨some 12, .len (.t 11), none⟩,
    ⟨some 13, .bin .add (.t 8) (.t 12), none⟩,
    ⟨some 14, .move (.t 0), none⟩,
    ⟨some 15, .indexAddr none 1 (.t 14) (.c (.int .i64 2)), none⟩,
    ⟨some 16, .load none (.t 15), none⟩,
    ⟨some 17, .len (.t 16), none⟩,
    ⟨some 18, .bin .add (.t 13) (.t 17), none⟩,
    ⟨some 19, .move (.t 1), none⟩,
    ⟨some 20, .bin .sub (.t 18) (.t 19), none⟩,
    ⟨some 4, .move (.t 20), none⟩])
def A_impl_eulerOf : AFunc := ⟨[.tmp 4], (.seq A_impl_eulerOf.r0 (.seq A_impl_eulerOf.r1 .ret))⟩
/-! spec_l04Sum -/
def A_spec_l04Sum.r0 : ACode := (.region none [⟨some 2, .move (.c (.int .i64 0)), none⟩])
def A_spec_l04Sum.r1 : ACode := (.region none [⟨some 3, .move (.c (.int .i64 0)), none⟩])
def A_spec_l04Sum.r2 : ACode := (.region none [⟨some 4, .move (.c (.int .i64 0)), none⟩])
def A_spec_l04Sum.r3 : ACode := (.region none [⟨some 5, .move (.t 4), none⟩,
    ⟨some 6, .move (.t 0), none⟩,
    ⟨some 7, .len (.t 6), none⟩,
    ⟨some 8, .bin .lss (.t 5) (.t 7), none⟩])
def A_spec_l04Sum.r5 : ACode := (.region none [⟨some 11, .move (.t 3), none⟩,
    ⟨some 12, .move (.t 0), none⟩,
    ⟨some 13, .move (.t 4), none⟩,
    ⟨some 14, .indexAddr none 1 (.t 12) (.t 13), none⟩,
    ⟨some 15, .load none (.t 14), none⟩,
    ⟨some 16, .bin .add (.t 11) (.t 15), none⟩,
    ⟨some 3, .move (.t 16), none⟩])
def A_spec_l04Sum.r4 : ACode := (.region none [⟨some 9, .move (.t 4), none⟩,
    ⟨some 10, .bin .add (.t 9) (.c (.int .i64 1)), none⟩,
    ⟨some 4, .move (.t 10), none⟩])
def A_spec_l04Sum.l0 : ACode := (.seq (.seq A_spec_l04Sum.r3 (.cond (.t 8) .skip (.exit 0))) (.seq (.block 1 A_spec_l04Sum.r5) A_spec_l04Sum.r4))
def A_spec_l04Sum.r6 : ACode := (.region none [⟨some 17, .move (.t 3), none⟩,
    ⟨some 2, .move (.t 17), none⟩])
def A_spec_l04Sum : AFunc := ⟨[.tmp 2], (.seq A_spec_l04Sum.r0 (.seq A_spec_l04Sum.r1 (.seq (.seq A_spec_l04Sum.r2 (.block 0 (.loop A_spec_l04Sum.l0))) (.seq A_spec_l04Sum.r6 .ret))))⟩
/-! impl_centraliser -/
def A_impl_centraliser.r0 : ACode := (.region none [⟨some 2, .move (.c (.int .i64 0)), none⟩])
def A_impl_centraliser.r1 : ACode := (.region none [⟨some 6, .move (.t 0), none⟩,
    ⟨some 7, .call 70 [(.t 6)], none⟩,
    ⟨some 3, .move (.t 7), none⟩])
def A_impl_centraliser.r2 : ACode := (.region none [⟨some 8, .move (.t 0), none⟩,
    ⟨some 9, .len (.t 8), none⟩,
    ⟨some 10, .move (.c (.int .i64 0)), none⟩])
def A_impl_centraliser.r3 : ACode := (.region none [⟨some 11, .bin .lss (.t 10) (.t 9), none⟩])
def A_impl_centraliser.r4 : ACode := (.region none [⟨some 12, .indexAddr none 1 (.t 8) (.t 10), none⟩,
    ⟨some 13, .load none (.t 12), none⟩,
    ⟨some 5, .move (.t 13), none⟩])
def A_impl_centraliser.r5 : ACode := (.region none [⟨some 14, .move (.t 3), none⟩,
    ⟨some 15, .move (.t 5), none⟩,
    ⟨some 16, .bin .mul (.t 14) (.t 15), none⟩,
    ⟨some 3, .move (.t 16), none⟩])
def A_impl_centraliser.r6 : ACode := (.region none [⟨some 17, .bin .add (.t 10) (.c (.int .i64 1)), none⟩,
    ⟨some 10, .move (.t 17), none⟩])
def A_impl_centraliser.l0 : ACode := (.seq A_impl_centraliser.r3 (.seq (.cond (.t 11) .skip (.exit 0)) (.seq (.block 1 (.seq A_impl_centraliser.r4 A_impl_centraliser.r5)) A_impl_centraliser.r6)))
def A_impl_centraliser.r7 : ACode := (.region none [⟨some 18, .move (.t 3), none⟩,
    ⟨some 2, .move (.t 18), none⟩])
def A_impl_centraliser : AFunc := ⟨[.tmp 2], (.seq A_impl_centraliser.r0 (.seq A_impl_centraliser.r1 (.seq (.seq A_impl_centraliser.r2 (.block 0 (.loop A_impl_centraliser.l0))) (.seq A_impl_centraliser.r7 .ret))))⟩
/-! spec_l04Centraliser -/
def A_spec_l04Centraliser.r0 : ACode := (.region none [⟨some 2, .move (.c (.int .i64 0)), none⟩])
def A_spec_l04Centraliser.r1 : ACode := (.region none [⟨some 3, .move (.c (.int .i64 1)), none⟩,
    ⟨some 4, .move (.c (.int .i64 0)), none⟩])
def A_spec_l04Centraliser.r2 : ACode := (.region none [⟨some 5, .move (.c (.int .i64 0)), none⟩])
def A_spec_l04Centraliser.r3 : ACode := (.region none [⟨some 6, .move (.t 5), none⟩,
    ⟨some 7, .move (.t 0), none⟩,
    ⟨some 8, .len (.t 7), none⟩,
    ⟨some 9, .bin .lss (.t 6) (.t 8), none⟩])
def A_spec_l04Centraliser.r5 : ACode := (.region none [⟨some 12, .move (.t 4), none⟩,
    ⟨some 13, .bin .add (.t 12) (.c (.int .i64 1)), none⟩,
    ⟨some 4, .move (.t 13), none⟩])
def A_spec_l04Centraliser.r6 : ACode := (.region (some 14) [⟨some 14, .move (.t 5), none⟩,
    ⟨some 15, .bin .gtr (.t 14) (.c (.int .i64 0)), none⟩,
    ⟨some 16, .move (.t 15), none⟩,
    ⟨some 17, .move (.t 0), some (16, true)⟩,
    ⟨some 18, .move (.t 5), some (16, true)⟩,
    ⟨some 19, .indexAddr none 1 (.t 17) (.t 18), some (16, true)⟩,
    ⟨some 20, .load none (.t 19), some (16, true)⟩,
    ⟨some 21, .move (.t 0), some (16, true)⟩,
    ⟨some 22, .move (.t 5), some (16, true)⟩,
    ⟨some 23, .bin .sub (.t 22) (.c (.int .i64 1)), some (16, true)⟩,
    ⟨some 24, .indexAddr none 1 (.t 21) (.t 23), some (16, true)⟩,
    ⟨some 25, .load none (.t 24), some (16, true)⟩,
    ⟨some 26, .bin .neq (.t 20) (.t 25), some (16, true)⟩,
    ⟨some 27, .pick (.t 16) (.t 26) (.c (.bool false)), none⟩])
def A_spec_l04Centraliser.r7 : ACode := (.region none [⟨some 4, .move (.c (.int .i64 1)), none⟩])
def A_spec_l04Centraliser.r8 : ACode := (.region none [⟨some 28, .move (.t 3), none⟩,
    ⟨some 29, .move (.t 0), none⟩,
    ⟨some 30, .move (.t 5), none⟩,
    ⟨some 31, .indexAddr none 1 (.t 29) (.t 30), none⟩,
    ⟨some 32, .load none (.t 31), none⟩,
    ⟨some 33, .bin .mul (.t 28) (.t 32), none⟩,
    ⟨some 34, .move (.t 4), none⟩,
    ⟨some 35, .bin .mul (.t 33) (.t 34), none⟩,
    ⟨some 3, .move (.t 35), none⟩])
def A_spec_l04Centraliser.r4 : ACode := (.region none [⟨some 10, .move (.t 5), none⟩,
    ⟨some 11, .bin .add (.t 10) (.c (.int .i64 1)), none⟩,
    ⟨some 5, .move (.t 11), none⟩])
def A_spec_l04Centraliser.l0 : ACode := (.seq (.seq A_spec_l04Centraliser.r3 (.cond (.t 9) .skip (.exit 0))) (.seq (.block 1 (.seq A_spec_l04Centraliser.r5 (.seq (.seq A_spec_l04Centraliser.r6 (.cond (.t 27) A_spec_l04Centraliser.r7 .skip)) A_spec_l04Centraliser.r8))) A_spec_l04Centraliser.r4))
def A_spec_l04Centraliser.r9 : ACode := (.region none [⟨some 36, .move (.t 3), none⟩,
    ⟨some 2, .move (.t 36), none⟩])
def A_spec_l04Centraliser : AFunc := ⟨[.tmp 2], (.seq A_spec_l04Centraliser.r0 (.seq A_spec_l04Centraliser.r1 (.seq (.seq A_spec_l04Centraliser.r2 (.block 0 (.loop A_spec_l04Centraliser.l0))) (.seq A_spec_l04Centraliser.r9 .ret))))⟩
/-! impl_repeated -/
def A_impl_repeated.r0 : ACode := (.region none [⟨some 2, .move (.c (.int .i64 0)), none⟩])
def A_impl_repeated.r1 : ACode := (.region none [⟨some 3, .move (.c (.int .i64 1)), none⟩,
    ⟨some 4, .move (.c (.int .i64 0)), none⟩])
def A_impl_repeated.r2 : ACode := (.region none [⟨some 7, .move (.t 0), none⟩,
    ⟨some 8, .len (.t 7), none⟩,
    ⟨some 9, .move (.c (.int .i64 0)), none⟩])
def A_impl_repeated.r3 : ACode := (.region none [⟨some 10, .bin .lss (.t 9) (.t 8), none⟩])
def A_impl_repeated.r4 : ACode := (.region none [⟨some 11, .move (.t 9), none⟩,
    ⟨some 12, .indexAddr none 1 (.t 7) (.t 9), none⟩,
    ⟨some 13, .load none (.t 12), none⟩,
    ⟨some 5, .move (.t 11), none⟩,
    ⟨some 6, .move (.t 13), none⟩])
def A_impl_repeated.r5 : ACode := (.region none [⟨some 14, .move (.t 5), none⟩,
    ⟨some 15, .bin .gtr (.t 14) (.c (.int .i64 0)), none⟩,
    ⟨some 16, .move (.t 15), none⟩,
    ⟨some 17, .move (.t 6), some (16, true)⟩,
    ⟨some 18, .move (.t 0), some (16, true)⟩,
    ⟨some 19, .move (.t 5), some (16, true)⟩,
    ⟨some 20, .bin .sub (.t 19) (.c (.int .i64 1)), some (16, true)⟩,
    ⟨some 21, .indexAddr none 1 (.t 18) (.t 20), some (16, true)⟩,
    ⟨some 22, .load none (.t 21), some (16, true)⟩,
    ⟨some 23, .bin .eql (.t 17) (.t 22), some (16, true)⟩,
    ⟨some 24, .pick (.t 16) (.t 23) (.c (.bool false)), none⟩])
def A_impl_repeated.r6 : ACode := (.region none [⟨some 25, .move (.t 4), none⟩,
    ⟨some 26, .bin .add (.t 25) (.c (.int .i64 1)), none⟩,
    ⟨some 4, .move (.t 26), none⟩])
def A_impl_repeated.r7 : ACode := (.region none [⟨some 4, .move (.c (.int .i64 1)), none⟩])
def A_impl_repeated.r8 : ACode := (.region none [⟨some 27, .move (.t 3), none⟩,
    ⟨some 28, .move (.t 4), none⟩,
    ⟨some 29, .bin .mul (.t 27) (.t 28), none⟩,
    ⟨some 3, .move (.t 29), none⟩])
def A_impl_repeated.r9 : ACode := (.region none [⟨some 30, .bin .add (.t 9) (.c (.int .i64 1)), none⟩,
    ⟨some 9, .move (.t 30), none⟩])
def A_impl_repeated.l0 : ACode := (.seq A_impl_repeated.r3 (.seq (.cond (.t 10) .skip (.exit 0)) (.seq (.block 1 (.seq A_impl_repeated.r4 (.seq (.seq A_impl_repeated.r5 (.cond (.t 24) A_impl_repeated.r6 A_impl_repeated.r7)) A_impl_repeated.r8))) A_impl_repeated.r9)))
def A_impl_repeated.r10 : ACode := (.region none [⟨some 31, .move (.t 3), none⟩,
    ⟨some 2, .move (.t 31), none⟩])
def A_impl_repeated : AFunc := ⟨[.tmp 2], (.seq A_impl_repeated.r0 (.seq A_impl_repeated.r1 (.seq (.seq A_impl_repeated.r2 (.block 0 (.loop A_impl_repeated.l0))) (.seq A_impl_repeated.r10 .ret))))⟩
/-! spec_l01Type -/
def A_spec_l01Type.r0 : ACode := (.region none [⟨some 2, .box (.t 0), none⟩,
    ⟨some 4, .move (.c (.slice none 0 0)), none⟩])
def A_spec_l01Type.r1 : ACode := (.region none [⟨some 11, .build (List.replicate 17 (.int .i64 0)) [], none⟩,
    ⟨some 12, .load (some 16) (.t 2), none⟩,
    ⟨some 13, .move (.t 1), none⟩,
    ⟨some 14, .call 285 [(.t 12), (.t 13)], none⟩,
    ⟨some 15, .buildSlice 1 0 [.int .i64 0] [], none⟩,
    ⟨some 5, .alloc (List.replicate 17 (.int .i64 0)), none⟩,
    ⟨none, .store 17 (.t 5) (.t 11), none⟩,
    ⟨some 6, .move (.t 14), none⟩,
    ⟨some 7, .move (.t 15), none⟩])
def A_spec_l01Type.r2 : ACode := (.region none [⟨some 8, .move (.c (.int .i64 0)), none⟩])
def A_spec_l01Type.r3 : ACode := (.region none [⟨some 16, .move (.t 8), none⟩,
    ⟨some 17, .move (.t 6), none⟩,
    ⟨some 18, .len (.t 17), none⟩,
    ⟨some 19, .bin .lss (.t 16) (.t 18), none⟩])
def A_spec_l01Type.r5 : ACode := (.region none [⟨some 22, .move (.t 6), none⟩,
    ⟨some 23, .move (.t 8), none⟩,
    ⟨some 24, .indexAddr none 1 (.t 22) (.t 23), none⟩,
    ⟨some 25, .load none (.t 24), none⟩,
    ⟨some 26, .len (.t 25), none⟩,
    ⟨some 27, .indexAddr (some 17) 1 (.t 5) (.t 26), none⟩,
    ⟨some 28, .load none (.t 27), none⟩,
    ⟨some 29, .bin .add (.t 28) (.c (.int .i64 1)), none⟩,
    ⟨some 30, .indexAddr (some 17) 1 (.t 5) (.t 26), none⟩,
    ⟨none, .store 1 (.t 30) (.t 29), none⟩])
def A_spec_l01Type.r4 : ACode := (.region none [⟨some 20, .move (.t 8), none⟩,
    ⟨some 21, .bin .add (.t 20) (.c (.int .i64 1)), none⟩,
    ⟨some 8, .move (.t 21), none⟩])
def A_spec_l01Type.l0 : ACode := (.seq (.seq A_spec_l01Type.r3 (.cond (.t 19) .skip (.exit 0))) (.seq (.block 1 A_spec_l01Type.r5) A_spec_l01Type.r4))
def A_spec_l01Type.r6 : ACode := (.region none [⟨some 31, .move (.t 1), none⟩,
    ⟨some 9, .move (.t 31), none⟩])
def A_spec_l01Type.r7 : ACode := (.region none [⟨some 32, .move (.t 9), none⟩,
    ⟨some 33, .bin .gtr (.t 32) (.c (.int .i64 0)), none⟩])
def A_spec_l01Type.r9 : ACode := (.region none [⟨some 36, .move (.t 9), none⟩,
    ⟨some 37, .indexAddr (some 17) 1 (.t 5) (.t 36), none⟩,
    ⟨some 38, .load none (.t 37), none⟩,
    ⟨some 10, .move (.t 38), none⟩])
def A_spec_l01Type.r10 : ACode := (.region none [⟨some 39, .move (.t 10), none⟩,
    ⟨some 40, .bin .gtr (.t 39) (.c (.int .i64 0)), none⟩])
def A_spec_l01Type.r12 : ACode := (.region none [⟨some 43, .move (.t 7), none⟩,
    ⟨some 44, .move (.t 9), none⟩,
    ⟨some 45, .buildSlice 1 1 [.int .i64 0] [(0, 1, (.t 44))], none⟩,
    ⟨some 46, .append 1 8 (.t 43) (.t 45), none⟩,
    ⟨some 7, .move (.t 46), none⟩])
def A_spec_l01Type.r11 : ACode := (.region none [⟨some 41, .move (.t 10), none⟩,
    ⟨some 42, .bin .sub (.t 41) (.c (.int .i64 1)), none⟩,
    ⟨some 10, .move (.t 42), none⟩])
def A_spec_l01Type.l1 : ACode := (.seq (.seq A_spec_l01Type.r10 (.cond (.t 40) .skip (.exit 4))) (.seq (.block 5 A_spec_l01Type.r12) A_spec_l01Type.r11))
def A_spec_l01Type.r8 : ACode := (.region none [⟨some 34, .move (.t 9), none⟩,
    ⟨some 35, .bin .sub (.t 34) (.c (.int .i64 1)), none⟩,
    ⟨some 9, .move (.t 35), none⟩])
def A_spec_l01Type.l2 : ACode := (.seq (.seq A_spec_l01Type.r7 (.cond (.t 33) .skip (.exit 2))) (.seq (.block 3 (.seq A_spec_l01Type.r9 (.block 4 (.loop A_spec_l01Type.l1)))) A_spec_l01Type.r8))
def A_spec_l01Type.r13 : ACode := (.region none [⟨some 47, .move (.t 7), none⟩,
    ⟨some 4, .move (.t 47), none⟩])
def A_spec_l01Type : AFunc := ⟨[.tmp 4], (.seq A_spec_l01Type.r0 (.seq A_spec_l01Type.r1 (.seq (.seq A_spec_l01Type.r2 (.block 0 (.loop A_spec_l01Type.l0))) (.seq (.seq A_spec_l01Type.r6 (.block 2 (.loop A_spec_l01Type.l2))) (.seq A_spec_l01Type.r13 .ret)))))⟩
/-! spec_l01DrawPlaces -/
def A_spec_l01DrawPlaces.r0 : ACode := (.region none [⟨some 4, .alloc (List.replicate 16 (.int .u8 0)), none⟩])
def A_spec_l01DrawPlaces.r1 : ACode := (.region none [⟨some 9, .move (.t 1), none⟩,
    ⟨some 10, .call 364 [(.t 9)], none⟩,
    ⟨some 5, .alloc (List.replicate 16 (.int .u8 0)), none⟩,
    ⟨none, .store 16 (.t 5) (.t 10), none⟩])
def A_spec_l01DrawPlaces.r2 : ACode := (.region none [⟨some 11, .move (.t 0), none⟩,
    ⟨some 12, .call 102 [(.t 11), (.c (.int .i64 8))], none⟩,
    ⟨some 13, .bin .eql (.t 12) (.c (.int .i64 0)), none⟩])
def A_spec_l01DrawPlaces.r3 : ACode := (.region none [⟨some 14, .load (some 16) (.t 5), none⟩,
    ⟨none, .store 16 (.t 4) (.t 14), none⟩])
def A_spec_l01DrawPlaces.r4 : ACode := (.region none [⟨some 15, .move (.t 1), none⟩,
    ⟨some 16, .bin .sub (.t 15) (.c (.int .i64 1)), none⟩,
    ⟨some 6, .move (.t 16), none⟩])
def A_spec_l01DrawPlaces.r5 : ACode := (.region none [⟨some 17, .move (.t 6), none⟩,
    ⟨some 18, .bin .gtr (.t 17) (.c (.int .i64 0)), none⟩])
def A_spec_l01DrawPlaces.r7 : ACode := (.region none [⟨some 21, .move (.t 0), none⟩,
    ⟨some 22, .move (.t 6), none⟩,
    ⟨some 23, .bin .add (.t 22) (.c (.int .i64 1)), none⟩,
    ⟨some 24, .call 102 [(.t 21), (.t 23)], none⟩,
    ⟨some 7, .move (.t 24), none⟩])
def A_spec_l01DrawPlaces.r8 : ACode := (.region none [⟨some 25, .move (.t 6), none⟩,
    ⟨some 26, .indexAddr (some 16) 1 (.t 5) (.t 25), none⟩,
    ⟨some 27, .load none (.t 26), none⟩,
    ⟨some 8, .move (.t 27), none⟩])
def A_spec_l01DrawPlaces.r9 : ACode := (.region none [⟨some 28, .move (.t 6), none⟩,
    ⟨some 29, .move (.t 7), none⟩,
    ⟨some 30, .indexAddr (some 16) 1 (.t 5) (.t 29), none⟩,
    ⟨some 31, .load none (.t 30), none⟩,
    ⟨some 32, .indexAddr (some 16) 1 (.t 5) (.t 28), none⟩,
    ⟨none, .store 1 (.t 32) (.t 31), none⟩])
def A_spec_l01DrawPlaces.r10 : ACode := (.region none [⟨some 33, .move (.t 7), none⟩,
    ⟨some 34, .move (.t 8), none⟩,
    ⟨some 35, .indexAddr (some 16) 1 (.t 5) (.t 33), none⟩,
    ⟨none, .store 1 (.t 35) (.t 34), none⟩])
def A_spec_l01DrawPlaces.r6 : ACode := (.region none [⟨some 19, .move (.t 6), none⟩,
    ⟨some 20, .bin .sub (.t 19) (.c (.int .i64 1)), none⟩,
    ⟨some 6, .move (.t 20), none⟩])
def A_spec_l01DrawPlaces.l0 : ACode := (.seq (.seq A_spec_l01DrawPlaces.r5 (.cond (.t 18) .skip (.exit 0))) (.seq (.block 1 (.seq A_spec_l01DrawPlaces.r7 (.seq A_spec_l01DrawPlaces.r8 (.seq A_spec_l01DrawPlaces.r9 A_spec_l01DrawPlaces.r10)))) A_spec_l01DrawPlaces.r6))
def A_spec_l01DrawPlaces.r11 : ACode := (.region none [⟨some 36, .load (some 16) (.t 5), none⟩,
    ⟨none, .store 16 (.t 4) (.t 36), none⟩])
def A_spec_l01DrawPlaces : AFunc := ⟨[.cell 4 (some 16)], (.seq A_spec_l01DrawPlaces.r0 (.seq A_spec_l01DrawPlaces.r1 (.seq (.seq A_spec_l01DrawPlaces.r2 (.cond (.t 13) (.seq A_spec_l01DrawPlaces.r3 .ret) .skip)) (.seq (.seq A_spec_l01DrawPlaces.r4 (.block 0 (.loop A_spec_l01DrawPlaces.l0))) (.seq A_spec_l01DrawPlaces.r11 .ret)))))⟩
/-! spec_l01Perm -/
def A_spec_l01Perm.r0 : ACode := (.region none [⟨some 2, .box (.t 0), none⟩,
    ⟨some 4, .move (.c (.bool false)), none⟩])
def A_spec_l01Perm.r1 : ACode := (.region none [⟨some 7, .move (.t 1), none⟩,
    ⟨some 8, .call 58 [(.t 7), (.c (.int .i64 1)), (.c (.int .i64 16))], none⟩,
    ⟨some 9, .not (.t 8), none⟩])
def A_spec_l01Perm.r2 : ACode := (.region none [⟨some 4, .move (.c (.bool false)), none⟩])
def A_spec_l01Perm.r3 : ACode := (.region none [⟨some 10, .build (List.replicate 16 (.bool false)) [], none⟩,
    ⟨some 5, .alloc (List.replicate 16 (.bool false)), none⟩,
    ⟨none, .store 16 (.t 5) (.t 10), none⟩])
def A_spec_l01Perm.r4 : ACode := (.region none [⟨some 6, .move (.c (.int .i64 0)), none⟩])
def A_spec_l01Perm.r5 : ACode := (.region none [⟨some 11, .move (.t 6), none⟩,
    ⟨some 12, .bin .lss (.t 11) (.c (.int .i64 16)), none⟩])
def A_spec_l01Perm.r8 : ACode := (.region none [⟨some 20, .move (.t 6), none⟩,
    ⟨some 21, .move (.t 1), none⟩,
    ⟨some 22, .bin .geq (.t 20) (.t 21), none⟩,
    ⟨some 19, .move (.t 22), none⟩])
def A_spec_l01Perm.r9 : ACode := (.region none [⟨some 23, .move (.t 6), none⟩,
    ⟨some 24, .indexAddr (some 16) 1 (.t 2) (.t 23), none⟩,
    ⟨some 25, .load none (.t 24), none⟩,
    ⟨some 26, .bin .neq (.t 25) (.c (.int .u8 0)), none⟩])
def A_spec_l01Perm.r10 : ACode := (.region none [⟨some 4, .move (.c (.bool false)), none⟩])
def A_spec_l01Perm.r11 : ACode := (.region none [⟨some 28, .move (.t 6), none⟩,
    ⟨some 29, .indexAddr (some 16) 1 (.t 2) (.t 28), none⟩,
    ⟨some 30, .load none (.t 29), none⟩,
    ⟨some 31, .conv .i64 (.t 30), none⟩,
    ⟨some 32, .move (.t 1), none⟩,
    ⟨some 33, .bin .geq (.t 31) (.t 32), none⟩,
    ⟨some 34, .move (.t 33), none⟩,
    ⟨some 35, .move (.t 6), some (34, false)⟩,
    ⟨some 36, .indexAddr (some 16) 1 (.t 2) (.t 35), some (34, false)⟩,
    ⟨some 37, .load none (.t 36), some (34, false)⟩,
    ⟨some 38, .indexAddr (some 16) 1 (.t 5) (.t 37), some (34, false)⟩,
    ⟨some 39, .load none (.t 38), some (34, false)⟩,
    ⟨some 40, .pick (.t 34) (.c (.bool true)) (.t 39), none⟩,
    ⟨some 27, .move (.t 40), none⟩])
def A_spec_l01Perm.r12 : ACode := (.region none [⟨some 4, .move (.c (.bool false)), none⟩])
def A_spec_l01Perm.r7 : ACode := (.region none [⟨some 15, .move (.t 6), none⟩,
    ⟨some 16, .indexAddr (some 16) 1 (.t 2) (.t 15), none⟩,
    ⟨some 17, .load none (.t 16), none⟩,
    ⟨some 18, .indexAddr (some 16) 1 (.t 5) (.t 17), none⟩,
    ⟨none, .store 1 (.t 18) (.c (.bool true)), none⟩])
def A_spec_l01Perm.r6 : ACode := (.region none [⟨some 13, .move (.t 6), none⟩,
    ⟨some 14, .bin .add (.t 13) (.c (.int .i64 1)), none⟩,
    ⟨some 6, .move (.t 14), none⟩])
def A_spec_l01Perm.l0 : ACode := (.seq (.seq A_spec_l01Perm.r5 (.cond (.t 12) .skip (.exit 0))) (.seq (.block 1 (.block 2 (.seq A_spec_l01Perm.r8 (.cond (.t 19) (.seq A_spec_l01Perm.r9 (.cond (.t 26) (.seq A_spec_l01Perm.r10 .ret) .skip)) (.seq A_spec_l01Perm.r11 (.cond (.t 27) (.seq A_spec_l01Perm.r12 .ret) A_spec_l01Perm.r7)))))) A_spec_l01Perm.r6))
def A_spec_l01Perm.r13 : ACode := (.region none [⟨some 4, .move (.c (.bool true)), none⟩])
def A_spec_l01Perm : AFunc := ⟨[.tmp 4], (.seq A_spec_l01Perm.r0 (.seq (.seq A_spec_l01Perm.r1 (.cond (.t 9) (.seq A_spec_l01Perm.r2 .ret) .skip)) (.seq A_spec_l01Perm.r3 (.seq (.seq A_spec_l01Perm.r4 (.block 0 (.loop A_spec_l01Perm.l0))) (.seq A_spec_l01Perm.r13 .ret)))))⟩
/-! spec_l01Draw -/
def A_spec_l01Draw.r0 : ACode := (.region none [⟨some 4, .alloc ([.int .i64 0] ++ List.replicate 32 (.int .u8 0)), none⟩])
def A_spec_l01Draw.r1 : ACode := (.region none [⟨some 9, .move (.t 0), none⟩,
    ⟨some 10, .move (.t 1), none⟩,
    ⟨some 11, .call 102 [(.t 9), (.t 10)], none⟩,
    ⟨some 12, .bin .add (.c (.int .i64 1)) (.t 11), none⟩,
    ⟨some 5, .move (.t 12), none⟩])
def A_spec_l01Draw.r2 : ACode := (.region none [⟨some 6, .move (.c (.int .i64 0)), none⟩])
def A_spec_l01Draw.r3 : ACode := (.region none [⟨some 13, .move (.t 6), none⟩,
    ⟨some 14, .bin .lss (.t 13) (.c (.int .i64 8)), none⟩])
def A_spec_l01Draw.r5 : ACode := (.region none [⟨some 17, .move (.t 5), none⟩,
    ⟨some 18, .move (.t 0), none⟩,
    ⟨some 19, .move (.t 5), none⟩,
    ⟨some 20, .move (.t 0), none⟩,
    ⟨some 21, .move (.t 5), none⟩,
    ⟨some 22, .buildSlice 1 4 [.int .i64 0] [(0, 1, (.c (.int .i64 2))), (1, 1, (.c (.int .i64 3))), (2, 1, (.c (.int .i64 4))), (3, 1, (.t 21))], none⟩,
    ⟨some 23, .call 98 [(.t 20), (.t 22)], none⟩,
    ⟨some 24, .call 387 [(.t 18), (.t 19), (.t 23)], none⟩,
    ⟨some 25, .move (.t 0), none⟩,
    ⟨some 26, .move (.t 5), none⟩,
    ⟨some 27, .move (.t 0), none⟩,
    ⟨some 28, .move (.t 5), none⟩,
    ⟨some 29, .buildSlice 1 4 [.int .i64 0] [(0, 1, (.c (.int .i64 2))), (1, 1, (.c (.int .i64 2))), (2, 1, (.c (.int .i64 3))), (3, 1, (.t 28))], none⟩,
    ⟨some 30, .call 98 [(.t 27), (.t 29)], none⟩,
    ⟨some 31, .call 387 [(.t 25), (.t 26), (.t 30)], none⟩,
    ⟨some 32, .build ([.int .i64 0] ++ List.replicate 32 (.int .u8 0)) [(0, 1, (.t 17)), (1, 16, (.t 24)), (17, 16, (.t 31))], none⟩,
    ⟨some 7, .alloc ([.int .i64 0] ++ List.replicate 32 (.int .u8 0)), none⟩,
    ⟨none, .store 33 (.t 7) (.t 32), none⟩])
def A_spec_l01Draw.r6 : ACode := (.region none [⟨some 33, .load (some 33) (.t 7), none⟩,
    ⟨some 34, .call 184 [(.t 33)], none⟩])
def A_spec_l01Draw.r7 : ACode := (.region none [⟨some 35, .load (some 33) (.t 7), none⟩,
    ⟨none, .store 33 (.t 4) (.t 35), none⟩])
def A_spec_l01Draw.r4 : ACode := (.region none [⟨some 15, .move (.t 6), none⟩,
    ⟨some 16, .bin .add (.t 15) (.c (.int .i64 1)), none⟩,
    ⟨some 6, .move (.t 16), none⟩])
def A_spec_l01Draw.l0 : ACode := (.seq (.seq A_spec_l01Draw.r3 (.cond (.t 14) .skip (.exit 0))) (.seq (.block 1 (.seq A_spec_l01Draw.r5 (.seq A_spec_l01Draw.r6 (.cond (.t 34) (.seq A_spec_l01Draw.r7 .ret) .skip)))) A_spec_l01Draw.r4))
def A_spec_l01Draw.r8 : ACode := (.region none [⟨some 36, .move (.t 5), none⟩,
    ⟨some 37, .call 388 [(.t 36)], none⟩,
    ⟨some 8, .alloc ([.int .i64 0] ++ List.replicate 32 (.int .u8 0)), none⟩,
    ⟨none, .store 33 (.t 8) (.t 37), none⟩])
def A_spec_l01Draw.r9 : ACode := (.region none [⟨some 38, .move (.t 0), none⟩,
    ⟨some 39, .move (.t 5), none⟩,
    ⟨some 40, .call 356 [(.t 38), (.t 39)], none⟩,
    ⟨some 41, .fieldAddr 17 (.t 8), none⟩,
    ⟨none, .store 16 (.t 41) (.t 40), none⟩])
def A_spec_l01Draw.r10 : ACode := (.region none [⟨some 42, .load (some 33) (.t 8), none⟩,
    ⟨none, .store 33 (.t 4) (.t 42), none⟩])
def A_spec_l01Draw : AFunc := ⟨[.cell 4 (some 33)], (.seq A_spec_l01Draw.r0 (.seq A_spec_l01Draw.r1 (.seq (.seq A_spec_l01Draw.r2 (.block 0 (.loop A_spec_l01Draw.l0))) (.seq A_spec_l01Draw.r8 (.seq A_spec_l01Draw.r9 (.seq A_spec_l01Draw.r10 .ret))))))⟩
/-! spec_l01Same -/
def A_spec_l01Same.r0 : ACode := (.region none [⟨some 2, .alloc (List.replicate 16 (.int .u8 0)), none⟩])
def A_spec_l01Same.r1 : ACode := (.region none [⟨some 5, .build (List.replicate 16 (.int .u8 0)) [], none⟩,
    ⟨some 3, .alloc (List.replicate 16 (.int .u8 0)), none⟩,
    ⟨none, .store 16 (.t 3) (.t 5), none⟩])
def A_spec_l01Same.r2 : ACode := (.region none [⟨some 4, .move (.c (.int .i64 0)), none⟩])
def A_spec_l01Same.r3 : ACode := (.region none [⟨some 6, .move (.t 4), none⟩,
    ⟨some 7, .move (.t 0), none⟩,
    ⟨some 8, .bin .lss (.t 6) (.t 7), none⟩])
def A_spec_l01Same.r5 : ACode := (.region none [⟨some 11, .move (.t 4), none⟩,
    ⟨some 12, .move (.t 4), none⟩,
    ⟨some 13, .conv .u8 (.t 12), none⟩,
    ⟨some 14, .indexAddr (some 16) 1 (.t 3) (.t 11), none⟩,
    ⟨none, .store 1 (.t 14) (.t 13), none⟩])
def A_spec_l01Same.r4 : ACode := (.region none [⟨some 9, .move (.t 4), none⟩,
    ⟨some 10, .bin .add (.t 9) (.c (.int .i64 1)), none⟩,
    ⟨some 4, .move (.t 10), none⟩])
def A_spec_l01Same.l0 : ACode := (.seq (.seq A_spec_l01Same.r3 (.cond (.t 8) .skip (.exit 0))) (.seq (.block 1 A_spec_l01Same.r5) A_spec_l01Same.r4))
def A_spec_l01Same.r6 : ACode := (.region none [⟨some 15, .load (some 16) (.t 3), none⟩,
    ⟨none, .store 16 (.t 2) (.t 15), none⟩])
def A_spec_l01Same : AFunc := ⟨[.cell 2 (some 16)], (.seq A_spec_l01Same.r0 (.seq A_spec_l01Same.r1 (.seq (.seq A_spec_l01Same.r2 (.block 0 (.loop A_spec_l01Same.l0))) (.seq A_spec_l01Same.r6 .ret))))⟩
/-! spec_l01Connected -/
def A_spec_l01Connected.r0 : ACode := (.region none [⟨some 4, .box (.t 1), none⟩,
    ⟨some 5, .box (.t 2), none⟩,
    ⟨some 6, .move (.c (.bool false)), none⟩])
def A_spec_l01Connected.r1 : ACode := (.region none [⟨some 12, .build (List.replicate 16 (.bool false)) [], none⟩,
    ⟨some 13, .buildSlice 1 1 [.int .u8 0] [(0, 1, (.c (.int .u8 0)))], none⟩,
    ⟨some 7, .alloc (List.replicate 16 (.bool false)), none⟩,
    ⟨none, .store 16 (.t 7) (.t 12), none⟩,
    ⟨some 8, .move (.t 13), none⟩])
def A_spec_l01Connected.r2 : ACode := (.region none [⟨some 14, .indexAddr (some 16) 1 (.t 7) (.c (.int .i64 0)), none⟩,
    ⟨none, .store 1 (.t 14) (.c (.bool true)), none⟩])
def A_spec_l01Connected.r3 : ACode := (.region none [⟨some 9, .move (.c (.int .i64 0)), none⟩])
def A_spec_l01Connected.r4 : ACode := (.region none [⟨some 15, .move (.t 9), none⟩,
    ⟨some 16, .move (.t 8), none⟩,
    ⟨some 17, .len (.t 16), none⟩,
    ⟨some 18, .bin .lss (.t 15) (.t 17), none⟩])
def A_spec_l01Connected.r6 : ACode := (.region (some 14) [⟨some 21, .move (.t 8), none⟩,
    ⟨some 22, .move (.t 9), none⟩,
    ⟨some 23, .indexAddr none 1 (.t 21) (.t 22), none⟩,
    ⟨some 24, .load none (.t 23), none⟩,
    ⟨some 25, .indexAddr (some 16) 1 (.t 4) (.t 24), none⟩,
    ⟨some 26, .load none (.t 25), none⟩,
    ⟨some 27, .move (.t 8), none⟩,
    ⟨some 28, .move (.t 9), none⟩,
    ⟨some 29, .indexAddr none 1 (.t 27) (.t 28), none⟩,
    ⟨some 30, .load none (.t 29), none⟩,
    ⟨some 31, .indexAddr (some 16) 1 (.t 5) (.t 30), none⟩,
    ⟨some 32, .load none (.t 31), none⟩,
    ⟨some 33, .buildSlice 1 2 [.int .u8 0] [(0, 1, (.t 26)), (1, 1, (.t 32))], none⟩,
    ⟨some 10, .move (.t 33), none⟩])
def A_spec_l01Connected.r7 : ACode := (.region none [⟨some 11, .move (.c (.int .i64 0)), none⟩])
def A_spec_l01Connected.r8 : ACode := (.region none [⟨some 34, .move (.t 11), none⟩,
    ⟨some 35, .bin .lss (.t 34) (.c (.int .i64 2)), none⟩])
def A_spec_l01Connected.r10 : ACode := (.region none [⟨some 38, .move (.t 10), none⟩,
    ⟨some 39, .move (.t 11), none⟩,
    ⟨some 40, .indexAddr none 1 (.t 38) (.t 39), none⟩,
    ⟨some 41, .load none (.t 40), none⟩,
    ⟨some 42, .indexAddr (some 16) 1 (.t 7) (.t 41), none⟩,
    ⟨some 43, .load none (.t 42), none⟩,
    ⟨some 44, .not (.t 43), none⟩])
def A_spec_l01Connected.r11 : ACode := (.region none [⟨some 45, .move (.t 10), none⟩,
    ⟨some 46, .move (.t 11), none⟩,
    ⟨some 47, .indexAddr none 1 (.t 45) (.t 46), none⟩,
    ⟨some 48, .load none (.t 47), none⟩,
    ⟨some 49, .indexAddr (some 16) 1 (.t 7) (.t 48), none⟩,
    ⟨none, .store 1 (.t 49) (.c (.bool true)), none⟩])
def A_spec_l01Connected.r12 : ACode := (.region none [⟨some 50, .move (.t 8), none⟩,
    ⟨some 51, .move (.t 10), none⟩,
    ⟨some 52, .move (.t 11), none⟩,
    ⟨some 53, .indexAddr none 1 (.t 51) (.t 52), none⟩,
    ⟨some 54, .load none (.t 53), none⟩,
    ⟨some 55, .buildSlice 1 1 [.int .u8 0] [(0, 1, (.t 54))], none⟩,
    ⟨some 56, .append 1 1 (.t 50) (.t 55), none⟩,
    ⟨some 8, .move (.t 56), none⟩])
def A_spec_l01Connected.r9 : ACode := (.region none [⟨some 36, .move (.t 11), none⟩,
    ⟨some 37, .bin .add (.t 36) (.c (.int .i64 1)), none⟩,
    ⟨some 11, .move (.t 37), none⟩])
def A_spec_l01Connected.l0 : ACode := (.seq (.seq A_spec_l01Connected.r8 (.cond (.t 35) .skip (.exit 2))) (.seq (.block 3 (.seq A_spec_l01Connected.r10 (.cond (.t 44) (.seq A_spec_l01Connected.r11 A_spec_l01Connected.r12) .skip))) A_spec_l01Connected.r9))
def A_spec_l01Connected.r5 : ACode := (.region none [⟨some 19, .move (.t 9), none⟩,
    ⟨some 20, .bin .add (.t 19) (.c (.int .i64 1)), none⟩,
    ⟨some 9, .move (.t 20), none⟩])
def A_spec_l01Connected.l1 : ACode := (.seq (.seq A_spec_l01Connected.r4 (.cond (.t 18) .skip (.exit 0))) (.seq (.block 1 (.seq A_spec_l01Connected.r6 (.seq A_spec_l01Connected.r7 (.block 2 (.loop A_spec_l01Connected.l0))))) A_spec_l01Connected.r5))
def A_spec_l01Connected.r13 : ACode := (.region none [⟨some 57, .move (.t 8), none⟩,
    ⟨some 58, .len (.t 57), none⟩,
    ⟨some 59, .move (.t 0), none⟩,
    ⟨some 60, .bin .eql (.t 58) (.t 59), none⟩,
    ⟨some 6, .move (.t 60), none⟩])
def A_spec_l01Connected : AFunc := ⟨[.tmp 6], (.seq A_spec_l01Connected.r0 (.seq A_spec_l01Connected.r1 (.seq A_spec_l01Connected.r2 (.seq (.seq A_spec_l01Connected.r3 (.block 0 (.loop A_spec_l01Connected.l1))) (.seq A_spec_l01Connected.r13 .ret)))))⟩
/-! spec_l01Face -/
def A_spec_l01Face.r0 : ACode := (.region none [⟨some 1, .box (.t 0), none⟩,
    ⟨some 2, .alloc (List.replicate 16 (.int .u8 0)), none⟩])
def A_spec_l01Face.r1 : ACode := (.region (some 10) [⟨some 3, .fieldAddr 1 (.t 1), none⟩,
    ⟨some 4, .load (some 16) (.t 3), none⟩,
    ⟨some 5, .fieldAddr 17 (.t 1), none⟩,
    ⟨some 6, .load (some 16) (.t 5), none⟩,
    ⟨some 7, .fieldAddr 0 (.t 1), none⟩,
    ⟨some 8, .load none (.t 7), none⟩,
    ⟨some 9, .call 212 [(.t 4), (.t 6), (.t 8)], none⟩,
    ⟨some 10, .fieldAddr 0 (.t 1), none⟩,
    ⟨some 11, .load none (.t 10), none⟩,
    ⟨some 12, .call 208 [(.t 9), (.t 11)], none⟩,
    ⟨none, .store 16 (.t 2) (.t 12), none⟩])
def A_spec_l01Face : AFunc := ⟨[.cell 2 (some 16)], (.seq A_spec_l01Face.r0 (.seq A_spec_l01Face.r1 .ret))⟩
/-! spec_l01Own -/
def A_spec_l01Own.r0 : ACode := (.region none [⟨some 2, .move (.c (.slice none 0 0)), none⟩])
def A_spec_l01Own.r1 : ACode := (.region none [⟨some 3, .buildSlice 1 0 [.int .i64 0] [], none⟩,
    ⟨some 4, .move (.t 0), none⟩,
    ⟨some 5, .append 1 8 (.t 3) (.t 4), none⟩,
    ⟨some 2, .move (.t 5), none⟩])
def A_spec_l01Own : AFunc := ⟨[.tmp 2], (.seq A_spec_l01Own.r0 (.seq A_spec_l01Own.r1 .ret))⟩
/-! spec_l01Cycles -/
def A_spec_l01Cycles.r0 : ACode := (.region none [⟨some 2, .box (.t 0), none⟩,
    ⟨some 4, .move (.c (.slice none 0 0)), none⟩])
def A_spec_l01Cycles.r1 : ACode := (.region none [⟨some 10, .buildSlice 1 0 [.slice none 0 0] [], none⟩,
    ⟨some 11, .build (List.replicate 16 (.bool false)) [], none⟩,
    ⟨some 6, .alloc (List.replicate 16 (.bool false)), none⟩,
    ⟨some 5, .move (.t 10), none⟩,
    ⟨none, .store 16 (.t 6) (.t 11), none⟩])
def A_spec_l01Cycles.r2 : ACode := (.region none [⟨some 7, .move (.c (.int .i64 0)), none⟩])
def A_spec_l01Cycles.r3 : ACode := (.region none [⟨some 12, .move (.t 7), none⟩,
    ⟨some 13, .move (.t 1), none⟩,
    ⟨some 14, .bin .lss (.t 12) (.t 13), none⟩])
def A_spec_l01Cycles.r5 : ACode := (.region none [⟨some 17, .buildSlice 1 0 [.int .i64 0] [], none⟩,
    ⟨some 8, .move (.t 17), none⟩])
def A_spec_l01Cycles.r6 : ACode := (.region none [⟨some 18, .move (.t 7), none⟩,
    ⟨some 9, .move (.t 18), none⟩])
def A_spec_l01Cycles.r7 : ACode := (.region none [⟨some 19, .move (.t 9), none⟩,
    ⟨some 20, .indexAddr (some 16) 1 (.t 6) (.t 19), none⟩,
    ⟨some 21, .load none (.t 20), none⟩,
    ⟨some 22, .not (.t 21), none⟩])
def A_spec_l01Cycles.r9 : ACode := (.region none [⟨some 27, .move (.t 9), none⟩,
    ⟨some 28, .indexAddr (some 16) 1 (.t 6) (.t 27), none⟩,
    ⟨none, .store 1 (.t 28) (.c (.bool true)), none⟩])
def A_spec_l01Cycles.r10 : ACode := (.region none [⟨some 29, .move (.t 8), none⟩,
    ⟨some 30, .move (.t 9), none⟩,
    ⟨some 31, .buildSlice 1 1 [.int .i64 0] [(0, 1, (.t 30))], none⟩,
    ⟨some 32, .append 1 8 (.t 29) (.t 31), none⟩,
    ⟨some 8, .move (.t 32), none⟩])
def A_spec_l01Cycles.r8 : ACode := (.region none [⟨some 23, .move (.t 9), none⟩,
    ⟨some 24, .indexAddr (some 16) 1 (.t 2) (.t 23), none⟩,
    ⟨some 25, .load none (.t 24), none⟩,
    ⟨some 26, .conv .i64 (.t 25), none⟩,
    ⟨some 9, .move (.t 26), none⟩])
def A_spec_l01Cycles.l0 : ACode := (.seq (.seq A_spec_l01Cycles.r7 (.cond (.t 22) .skip (.exit 2))) (.seq (.block 3 (.seq A_spec_l01Cycles.r9 A_spec_l01Cycles.r10)) A_spec_l01Cycles.r8))
def A_spec_l01Cycles.r11 : ACode := (.region none [⟨some 33, .move (.t 8), none⟩,
    ⟨some 34, .len (.t 33), none⟩,
    ⟨some 35, .bin .gtr (.t 34) (.c (.int .i64 0)), none⟩])
def A_spec_l01Cycles.r12 : ACode := (.region none [⟨some 36, .move (.t 5), none⟩,
    ⟨some 37, .move (.t 8), none⟩,
    ⟨some 38, .buildSlice 1 1 [.slice none 0 0] [(0, 1, (.t 37))], none⟩,
    ⟨some 39, .append 1 24 (.t 36) (.t 38), none⟩,
    ⟨some 5, .move (.t 39), none⟩])
def A_spec_l01Cycles.r4 : ACode := (.region none [⟨some 15, .move (.t 7), none⟩,
    ⟨some 16, .bin .add (.t 15) (.c (.int .i64 1)), none⟩,
    ⟨some 7, .move (.t 16), none⟩])
def A_spec_l01Cycles.l1 : ACode := (.seq (.seq A_spec_l01Cycles.r3 (.cond (.t 14) .skip (.exit 0))) (.seq (.block 1 (.seq A_spec_l01Cycles.r5 (.seq (.seq A_spec_l01Cycles.r6 (.block 2 (.loop A_spec_l01Cycles.l0))) (.seq A_spec_l01Cycles.r11 (.cond (.t 35) A_spec_l01Cycles.r12 .skip))))) A_spec_l01Cycles.r4))
def A_spec_l01Cycles.r13 : ACode := (.region none [⟨some 40, .move (.t 5), none⟩,
    ⟨some 4, .move (.t 40), none⟩])
def A_spec_l01Cycles : AFunc := ⟨[.tmp 4], (.seq A_spec_l01Cycles.r0 (.seq A_spec_l01Cycles.r1 (.seq (.seq A_spec_l01Cycles.r2 (.block 0 (.loop A_spec_l01Cycles.l1))) (.seq A_spec_l01Cycles.r13 .ret))))⟩
/-! spec_l01Pairs -/
def A_spec_l01Pairs.r0 : ACode := (.region none [⟨some 6, .alloc (List.replicate 16 (.int .u8 0)), none⟩])
def A_spec_l01Pairs.r1 : ACode := (.region none [⟨some 12, .move (.t 0), none⟩,
    ⟨some 13, .move (.t 1), none⟩,
    ⟨some 14, .call 356 [(.t 12), (.t 13)], none⟩,
    ⟨some 15, .move (.t 1), none⟩,
    ⟨some 16, .call 364 [(.t 15)], none⟩,
    ⟨some 7, .alloc (List.replicate 16 (.int .u8 0)), none⟩,
    ⟨some 8, .alloc (List.replicate 16 (.int .u8 0)), none⟩,
    ⟨none, .store 16 (.t 7) (.t 14), none⟩,
    ⟨none, .store 16 (.t 8) (.t 16), none⟩])
def A_spec_l01Pairs.r2 : ACode := (.region none [⟨some 9, .move (.c (.int .i64 0)), none⟩])
def A_spec_l01Pairs.r3 : ACode := (.region none [⟨some 17, .move (.t 9), none⟩,
    ⟨some 18, .move (.t 1), none⟩,
    ⟨some 19, .bin .lss (.t 17) (.t 18), none⟩])
def A_spec_l01Pairs.r4 : ACode := (.region none [⟨some 20, .move (.t 0), none⟩,
    ⟨some 21, .move (.t 2), none⟩,
    ⟨some 22, .call 102 [(.t 20), (.t 21)], none⟩,
    ⟨some 23, .bin .add (.c (.int .i64 1)) (.t 22), none⟩,
    ⟨some 24, .move (.t 1), none⟩,
    ⟨some 25, .move (.t 9), none⟩,
    ⟨some 26, .bin .sub (.t 24) (.t 25), none⟩,
    ⟨some 27, .min [(.t 23), (.t 26)], none⟩,
    ⟨some 10, .move (.t 27), none⟩])
def A_spec_l01Pairs.r5 : ACode := (.region none [⟨some 11, .move (.c (.int .i64 0)), none⟩])
def A_spec_l01Pairs.r6 : ACode := (.region none [⟨some 28, .move (.t 11), none⟩,
    ⟨some 29, .move (.t 10), none⟩,
    ⟨some 30, .bin .lss (.t 28) (.t 29), none⟩])
def A_spec_l01Pairs.r8 : ACode := (.region (some 14) [⟨some 33, .move (.t 9), none⟩,
    ⟨some 34, .move (.t 11), none⟩,
    ⟨some 35, .bin .add (.t 33) (.t 34), none⟩,
    ⟨some 36, .indexAddr (some 16) 1 (.t 7) (.t 35), none⟩,
    ⟨some 37, .load none (.t 36), none⟩,
    ⟨some 38, .move (.t 9), none⟩,
    ⟨some 39, .move (.t 11), none⟩,
    ⟨some 40, .bin .add (.t 39) (.c (.int .i64 1)), none⟩,
    ⟨some 41, .move (.t 10), none⟩,
    ⟨some 42, .bin .rem (.t 40) (.t 41), none⟩,
    ⟨some 43, .bin .add (.t 38) (.t 42), none⟩,
    ⟨some 44, .indexAddr (some 16) 1 (.t 7) (.t 43), none⟩,
    ⟨some 45, .load none (.t 44), none⟩,
    ⟨some 46, .indexAddr (some 16) 1 (.t 8) (.t 37), none⟩,
    ⟨none, .store 1 (.t 46) (.t 45), none⟩])
def A_spec_l01Pairs.r7 : ACode := (.region none [⟨some 31, .move (.t 11), none⟩,
    ⟨some 32, .bin .add (.t 31) (.c (.int .i64 1)), none⟩,
    ⟨some 11, .move (.t 32), none⟩])
def A_spec_l01Pairs.l0 : ACode := (.seq (.seq A_spec_l01Pairs.r6 (.cond (.t 30) .skip (.exit 2))) (.seq (.block 3 A_spec_l01Pairs.r8) A_spec_l01Pairs.r7))
def A_spec_l01Pairs.r9 : ACode := (.region none [⟨some 47, .move (.t 9), none⟩,
    ⟨some 48, .move (.t 10), none⟩,
    ⟨some 49, .bin .add (.t 47) (.t 48), none⟩,
    ⟨some 9, .move (.t 49), none⟩])
def A_spec_l01Pairs.l1 : ACode := (.seq (.seq A_spec_l01Pairs.r3 (.cond (.t 19) .skip (.exit 0))) (.block 1 (.seq A_spec_l01Pairs.r4 (.seq (.seq A_spec_l01Pairs.r5 (.block 2 (.loop A_spec_l01Pairs.l0))) A_spec_l01Pairs.r9))))
def A_spec_l01Pairs.r10 : ACode := (.region none [⟨some 50, .load (some 16) (.t 8), none⟩,
    ⟨none, .store 16 (.t 6) (.t 50), none⟩])
def A_spec_l01Pairs : AFunc := ⟨[.cell 6 (some 16)], (.seq A_spec_l01Pairs.r0 (.seq A_spec_l01Pairs.r1 (.seq (.seq A_spec_l01Pairs.r2 (.block 0 (.loop A_spec_l01Pairs.l1))) (.seq A_spec_l01Pairs.r10 .ret))))⟩
/-! spec_l01Star -/
def A_spec_l01Star.r0 : ACode := (.region none [⟨some 2, .alloc ([.int .i64 0] ++ List.replicate 32 (.int .u8 0)), none⟩])
def A_spec_l01Star.r1 : ACode := (.region none [⟨some 3, .move (.t 0), none⟩,
    ⟨some 4, .move (.t 0), none⟩,
    ⟨some 5, .call 396 [(.t 4)], none⟩,
    ⟨some 6, .move (.t 0), none⟩,
    ⟨some 7, .call 364 [(.t 6)], none⟩,
    ⟨some 8, .build ([.int .i64 0] ++ List.replicate 32 (.int .u8 0)) [(0, 1, (.t 3)), (1, 16, (.t 5)), (17, 16, (.t 7))], none⟩,
    ⟨none, .store 33 (.t 2) (.t 8), none⟩])
def A_spec_l01Star : AFunc := ⟨[.cell 2 (some 33)], (.seq A_spec_l01Star.r0 (.seq A_spec_l01Star.r1 .ret))⟩
/-! spec_l01Back -/
def A_spec_l01Back.r0 : ACode := (.region none [⟨some 2, .box (.t 0), none⟩,
    ⟨some 4, .alloc (List.replicate 16 (.int .u8 0)), none⟩])
def A_spec_l01Back.r1 : ACode := (.region none [⟨some 7, .build (List.replicate 16 (.int .u8 0)) [], none⟩,
    ⟨some 5, .alloc (List.replicate 16 (.int .u8 0)), none⟩,
    ⟨none, .store 16 (.t 5) (.t 7), none⟩])
def A_spec_l01Back.r2 : ACode := (.region none [⟨some 6, .move (.c (.int .i64 0)), none⟩])
def A_spec_l01Back.r3 : ACode := (.region none [⟨some 8, .move (.t 6), none⟩,
    ⟨some 9, .move (.t 1), none⟩,
    ⟨some 10, .bin .lss (.t 8) (.t 9), none⟩])
def A_spec_l01Back.r5 : ACode := (.region none [⟨some 13, .move (.t 6), none⟩,
    ⟨some 14, .indexAddr (some 16) 1 (.t 2) (.t 13), none⟩,
    ⟨some 15, .load none (.t 14), none⟩,
    ⟨some 16, .move (.t 6), none⟩,
    ⟨some 17, .conv .u8 (.t 16), none⟩,
    ⟨some 18, .indexAddr (some 16) 1 (.t 5) (.t 15), none⟩,
    ⟨none, .store 1 (.t 18) (.t 17), none⟩])
def A_spec_l01Back.r4 : ACode := (.region none [⟨some 11, .move (.t 6), none⟩,
    ⟨some 12, .bin .add (.t 11) (.c (.int .i64 1)), none⟩,
    ⟨some 6, .move (.t 12), none⟩])
def A_spec_l01Back.l0 : ACode := (.seq (.seq A_spec_l01Back.r3 (.cond (.t 10) .skip (.exit 0))) (.seq (.block 1 A_spec_l01Back.r5) A_spec_l01Back.r4))
def A_spec_l01Back.r6 : ACode := (.region none [⟨some 19, .load (some 16) (.t 5), none⟩,
    ⟨none, .store 16 (.t 4) (.t 19), none⟩])
def A_spec_l01Back : AFunc := ⟨[.cell 4 (some 16)], (.seq A_spec_l01Back.r0 (.seq A_spec_l01Back.r1 (.seq (.seq A_spec_l01Back.r2 (.block 0 (.loop A_spec_l01Back.l0))) (.seq A_spec_l01Back.r6 .ret))))⟩
/-! spec_l01Then -/
def A_spec_l01Then.r0 : ACode := (.region none [⟨some 3, .box (.t 0), none⟩,
    ⟨some 4, .box (.t 1), none⟩,
    ⟨some 6, .alloc (List.replicate 16 (.int .u8 0)), none⟩])
def A_spec_l01Then.r1 : ACode := (.region none [⟨some 9, .build (List.replicate 16 (.int .u8 0)) [], none⟩,
    ⟨some 7, .alloc (List.replicate 16 (.int .u8 0)), none⟩,
    ⟨none, .store 16 (.t 7) (.t 9), none⟩])
def A_spec_l01Then.r2 : ACode := (.region none [⟨some 8, .move (.c (.int .i64 0)), none⟩])
def A_spec_l01Then.r3 : ACode := (.region none [⟨some 10, .move (.t 8), none⟩,
    ⟨some 11, .move (.t 2), none⟩,
    ⟨some 12, .bin .lss (.t 10) (.t 11), none⟩])
def A_spec_l01Then.r5 : ACode := (.region none [⟨some 15, .move (.t 8), none⟩,
    ⟨some 16, .move (.t 8), none⟩,
    ⟨some 17, .indexAddr (some 16) 1 (.t 3) (.t 16), none⟩,
    ⟨some 18, .load none (.t 17), none⟩,
    ⟨some 19, .indexAddr (some 16) 1 (.t 4) (.t 18), none⟩,
    ⟨some 20, .load none (.t 19), none⟩,
    ⟨some 21, .indexAddr (some 16) 1 (.t 7) (.t 15), none⟩,
    ⟨none, .store 1 (.t 21) (.t 20), none⟩])
def A_spec_l01Then.r4 : ACode := (.region none [⟨some 13, .move (.t 8), none⟩,
    ⟨some 14, .bin .add (.t 13) (.c (.int .i64 1)), none⟩,
    ⟨some 8, .move (.t 14), none⟩])
def A_spec_l01Then.l0 : ACode := (.seq (.seq A_spec_l01Then.r3 (.cond (.t 12) .skip (.exit 0))) (.seq (.block 1 A_spec_l01Then.r5) A_spec_l01Then.r4))
def A_spec_l01Then.r6 : ACode := (.region none [⟨some 22, .load (some 16) (.t 7), none⟩,
    ⟨none, .store 16 (.t 6) (.t 22), none⟩])
def A_spec_l01Then : AFunc := ⟨[.cell 6 (some 16)], (.seq A_spec_l01Then.r0 (.seq A_spec_l01Then.r1 (.seq (.seq A_spec_l01Then.r2 (.block 0 (.loop A_spec_l01Then.l0))) (.seq A_spec_l01Then.r6 .ret))))⟩
/-! spec_l01Turn -/
def A_spec_l01Turn.r0 : ACode := (.region none [⟨some 2, .alloc (List.replicate 16 (.int .u8 0)), none⟩])
def A_spec_l01Turn.r1 : ACode := (.region none [⟨some 5, .build (List.replicate 16 (.int .u8 0)) [], none⟩,
    ⟨some 3, .alloc (List.replicate 16 (.int .u8 0)), none⟩,
    ⟨none, .store 16 (.t 3) (.t 5), none⟩])
def A_spec_l01Turn.r2 : ACode := (.region none [⟨some 4, .move (.c (.int .i64 0)), none⟩])
def A_spec_l01Turn.r3 : ACode := (.region none [⟨some 6, .move (.t 4), none⟩,
    ⟨some 7, .move (.t 0), none⟩,
    ⟨some 8, .bin .lss (.t 6) (.t 7), none⟩])
def A_spec_l01Turn.r5 : ACode := (.region none [⟨some 11, .move (.t 4), none⟩,
    ⟨some 12, .move (.t 4), none⟩,
    ⟨some 13, .bin .add (.t 12) (.c (.int .i64 1)), none⟩,
    ⟨some 14, .move (.t 0), none⟩,
    ⟨some 15, .bin .rem (.t 13) (.t 14), none⟩,
    ⟨some 16, .conv .u8 (.t 15), none⟩,
    ⟨some 17, .indexAddr (some 16) 1 (.t 3) (.t 11), none⟩,
    ⟨none, .store 1 (.t 17) (.t 16), none⟩])
def A_spec_l01Turn.r4 : ACode := (.region none [⟨some 9, .move (.t 4), none⟩,
    ⟨some 10, .bin .add (.t 9) (.c (.int .i64 1)), none⟩,
    ⟨some 4, .move (.t 10), none⟩])
def A_spec_l01Turn.l0 : ACode := (.seq (.seq A_spec_l01Turn.r3 (.cond (.t 8) .skip (.exit 0))) (.seq (.block 1 A_spec_l01Turn.r5) A_spec_l01Turn.r4))
def A_spec_l01Turn.r6 : ACode := (.region none [⟨some 18, .load (some 16) (.t 3), none⟩,
    ⟨none, .store 16 (.t 2) (.t 18), none⟩])
def A_spec_l01Turn : AFunc := ⟨[.cell 2 (some 16)], (.seq A_spec_l01Turn.r0 (.seq A_spec_l01Turn.r1 (.seq (.seq A_spec_l01Turn.r2 (.block 0 (.loop A_spec_l01Turn.l0))) (.seq A_spec_l01Turn.r6 .ret))))⟩
end Go.Am
