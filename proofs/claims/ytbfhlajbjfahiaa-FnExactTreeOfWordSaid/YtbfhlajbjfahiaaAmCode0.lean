/- The code of the functions that the claim reaches, in the small machine's form: written by a program of mine, off the loaded program; the checks compare the two. -/
import Derived.Test.YtbfhlajbjfahiaaAmCore
set_option linter.unusedVariables false
set_option maxRecDepth 100000
namespace Go.Am
open Go
/-! laws_FnExactTreeOfWord -/
def A_laws_FnExactTreeOfWord.r0 : ACode := (.region none [⟨some 2, .move (.c (.bool false)), none⟩])
def A_laws_FnExactTreeOfWord.r1 : ACode := (.region none [⟨some 7, .move (.t 0), none⟩,
    ⟨some 8, .lenStr (.t 7), none⟩,
    ⟨some 9, .bin .gtr (.t 8) (.c (.int .i64 1048576)), none⟩])
def A_laws_FnExactTreeOfWord.r2 : ACode := (.region none [⟨some 2, .move (.c (.bool true)), none⟩])
def A_laws_FnExactTreeOfWord.r3 : ACode := (.region none [⟨some 11, .move (.t 0), none⟩,
    ⟨some 12, .call 249 [(.t 11)], none⟩,
    ⟨some 10, .move (.t 12), none⟩,
    ⟨some 13, .extract (.t 10) 0, none⟩,
    ⟨some 14, .extract (.t 10) 1, none⟩,
    ⟨some 3, .alloc ([.int .i64 0] ++ List.replicate 32 (.int .u8 0)), none⟩,
    ⟨none, .store 33 (.t 3) (.t 13), none⟩,
    ⟨some 4, .move (.t 14), none⟩])
def A_laws_FnExactTreeOfWord.r4 : ACode := (.region none [⟨some 16, .move (.t 0), none⟩,
    ⟨some 17, .call 250 [(.t 16)], none⟩,
    ⟨some 15, .move (.t 17), none⟩,
    ⟨some 18, .extract (.t 15) 0, none⟩,
    ⟨some 19, .extract (.t 15) 1, none⟩,
    ⟨some 5, .alloc ([.int .i64 0] ++ List.replicate 32 (.int .u8 0)), none⟩,
    ⟨none, .store 33 (.t 5) (.t 18), none⟩,
    ⟨some 6, .move (.t 19), none⟩])
def A_laws_FnExactTreeOfWord.r5 : ACode := (.region none [⟨some 20, .load (some 33) (.t 5), none⟩,
    ⟨some 21, .load (some 33) (.t 3), none⟩,
    ⟨some 22, .call 142 [(.t 20), (.t 21)], none⟩,
    ⟨some 23, .not (.t 22), none⟩,
    ⟨some 24, .move (.t 23), none⟩,
    ⟨some 25, .move (.t 6), some (24, false)⟩,
    ⟨some 26, .move (.t 4), some (24, false)⟩,
    ⟨some 27, .bin .neq (.t 25) (.t 26), some (24, false)⟩,
    ⟨some 28, .pick (.t 24) (.c (.bool true)) (.t 27), none⟩])
def A_laws_FnExactTreeOfWord.r6 : ACode := (.region none [⟨some 2, .move (.c (.bool false)), none⟩])
def A_laws_FnExactTreeOfWord.r7 : ACode := (.region none [⟨some 2, .move (.c (.bool true)), none⟩])
def A_laws_FnExactTreeOfWord : AFunc := ⟨[.tmp 2], (.seq A_laws_FnExactTreeOfWord.r0 (.seq (.seq A_laws_FnExactTreeOfWord.r1 (.cond (.t 9) (.seq A_laws_FnExactTreeOfWord.r2 .ret) .skip)) (.seq A_laws_FnExactTreeOfWord.r3 (.seq A_laws_FnExactTreeOfWord.r4 (.seq (.seq A_laws_FnExactTreeOfWord.r5 (.cond (.t 28) (.seq A_laws_FnExactTreeOfWord.r6 .ret) .skip)) (.seq A_laws_FnExactTreeOfWord.r7 .ret))))))⟩
/-! spec_TreeOfWord -/
def A_spec_TreeOfWord.r0 : ACode := (.region none [⟨some 2, .alloc ([.int .i64 0] ++ List.replicate 32 (.int .u8 0)), none⟩,
    ⟨some 3, .move (.c (.int .i64 0)), none⟩])
def A_spec_TreeOfWord.r1 : ACode := (.region none [⟨some 4, .move (.t 0), none⟩,
    ⟨some 5, .call 266 [(.t 4)], none⟩,
    ⟨some 6, .not (.t 5), none⟩])
def A_spec_TreeOfWord.r2 : ACode := (.region none [⟨some 7, .build ([.int .i64 0] ++ List.replicate 32 (.int .u8 0)) [], none⟩,
    ⟨none, .store 33 (.t 2) (.t 7), none⟩,
    ⟨some 3, .move (.c (.int .i64 1)), none⟩])
def A_spec_TreeOfWord.r3 : ACode := (.region none [⟨some 8, .move (.t 0), none⟩,
    ⟨some 9, .call 267 [(.t 8)], none⟩,
    ⟨none, .store 33 (.t 2) (.t 9), none⟩,
    ⟨some 3, .move (.c (.int .i64 0)), none⟩])
def A_spec_TreeOfWord : AFunc := ⟨[.cell 2 (some 33), .tmp 3], (.seq A_spec_TreeOfWord.r0 (.seq (.seq A_spec_TreeOfWord.r1 (.cond (.t 6) (.seq A_spec_TreeOfWord.r2 .ret) .skip)) (.seq A_spec_TreeOfWord.r3 .ret)))⟩
/-! impl_TreeOfWord -/
def A_impl_TreeOfWord.r0 : ACode := (.region none [⟨some 2, .alloc ([.int .i64 0] ++ List.replicate 32 (.int .u8 0)), none⟩,
    ⟨some 3, .move (.c (.int .i64 0)), none⟩])
def A_impl_TreeOfWord.r1 : ACode := (.region none [⟨some 4, .move (.t 0), none⟩,
    ⟨some 5, .call 268 [(.t 4)], none⟩,
    ⟨some 6, .not (.t 5), none⟩])
def A_impl_TreeOfWord.r2 : ACode := (.region none [⟨some 7, .build ([.int .i64 0] ++ List.replicate 32 (.int .u8 0)) [], none⟩,
    ⟨none, .store 33 (.t 2) (.t 7), none⟩,
    ⟨some 3, .move (.c (.int .i64 1)), none⟩])
def A_impl_TreeOfWord.r3 : ACode := (.region none [⟨some 8, .move (.t 0), none⟩,
    ⟨some 9, .call 269 [(.t 8)], none⟩,
    ⟨none, .store 33 (.t 2) (.t 9), none⟩,
    ⟨some 3, .move (.c (.int .i64 0)), none⟩])
def A_impl_TreeOfWord : AFunc := ⟨[.cell 2 (some 33), .tmp 3], (.seq A_impl_TreeOfWord.r0 (.seq (.seq A_impl_TreeOfWord.r1 (.cond (.t 6) (.seq A_impl_TreeOfWord.r2 .ret) .skip)) (.seq A_impl_TreeOfWord.r3 .ret)))⟩
/-! laws_eqDessin -/
def A_laws_eqDessin.r0 : ACode := (.region none [⟨some 2, .box (.t 0), none⟩,
    ⟨some 3, .box (.t 1), none⟩,
    ⟨some 4, .move (.c (.bool false)), none⟩])
def A_laws_eqDessin.r1 : ACode := (.region none [⟨some 5, .fieldAddr 0 (.t 2), none⟩,
    ⟨some 6, .load none (.t 5), none⟩,
    ⟨some 7, .fieldAddr 0 (.t 3), none⟩,
    ⟨some 8, .load none (.t 7), none⟩,
    ⟨some 9, .bin .neq (.t 6) (.t 8), none⟩])
def A_laws_eqDessin.r2 : ACode := (.region none [⟨some 4, .move (.c (.bool false)), none⟩])
def A_laws_eqDessin.r3 : ACode := (.region none [⟨some 10, .fieldAddr 1 (.t 2), none⟩,
    ⟨some 11, .load (some 16) (.t 10), none⟩,
    ⟨some 12, .fieldAddr 1 (.t 3), none⟩,
    ⟨some 13, .load (some 16) (.t 12), none⟩,
    ⟨some 14, .call 189 [(.t 11), (.t 13)], none⟩,
    ⟨some 15, .not (.t 14), none⟩])
def A_laws_eqDessin.r4 : ACode := (.region none [⟨some 4, .move (.c (.bool false)), none⟩])
def A_laws_eqDessin.r5 : ACode := (.region none [⟨some 16, .fieldAddr 17 (.t 2), none⟩,
    ⟨some 17, .load (some 16) (.t 16), none⟩,
    ⟨some 18, .fieldAddr 17 (.t 3), none⟩,
    ⟨some 19, .load (some 16) (.t 18), none⟩,
    ⟨some 20, .call 189 [(.t 17), (.t 19)], none⟩,
    ⟨some 21, .not (.t 20), none⟩])
def A_laws_eqDessin.r6 : ACode := (.region none [⟨some 4, .move (.c (.bool false)), none⟩])
def A_laws_eqDessin.r7 : ACode := (.region none [⟨some 4, .move (.c (.bool true)), none⟩])
def A_laws_eqDessin : AFunc := ⟨[.tmp 4], (.seq A_laws_eqDessin.r0 (.seq (.seq A_laws_eqDessin.r1 (.cond (.t 9) (.seq A_laws_eqDessin.r2 .ret) .skip)) (.seq (.seq A_laws_eqDessin.r3 (.cond (.t 15) (.seq A_laws_eqDessin.r4 .ret) .skip)) (.seq (.seq A_laws_eqDessin.r5 (.cond (.t 21) (.seq A_laws_eqDessin.r6 .ret) .skip)) (.seq A_laws_eqDessin.r7 .ret)))))⟩
/-! spec_l05Word -/
def A_spec_l05Word.r0 : ACode := (.region none [⟨some 2, .move (.c (.bool false)), none⟩])
def A_spec_l05Word.r1 : ACode := (.region none [⟨some 3, .move (.c (.int .i64 0)), none⟩])
def A_spec_l05Word.r2 : ACode := (.region none [⟨some 4, .move (.c (.int .i64 0)), none⟩])
def A_spec_l05Word.r3 : ACode := (.region none [⟨some 5, .move (.t 4), none⟩,
    ⟨some 6, .move (.t 0), none⟩,
    ⟨some 7, .lenStr (.t 6), none⟩,
    ⟨some 8, .bin .lss (.t 5) (.t 7), none⟩])
def A_spec_l05Word.r5 : ACode := (.region none [⟨some 11, .move (.t 0), none⟩,
    ⟨some 12, .move (.t 4), none⟩,
    ⟨some 13, .indexStr (.t 11) (.t 12), none⟩])
def A_spec_l05Word.r7 : ACode := (.region none [⟨some 15, .bin .eql (.t 13) (.c (.int .u8 40)), none⟩,
    ⟨some 14, .move (.t 15), none⟩])
def A_spec_l05Word.r8 : ACode := (.region none [⟨some 16, .move (.t 3), none⟩,
    ⟨some 17, .bin .add (.t 16) (.c (.int .i64 1)), none⟩,
    ⟨some 3, .move (.t 17), none⟩])
def A_spec_l05Word.r9 : ACode := (.region none [⟨some 19, .bin .eql (.t 13) (.c (.int .u8 41)), none⟩,
    ⟨some 18, .move (.t 19), none⟩])
def A_spec_l05Word.r10 : ACode := (.region none [⟨some 20, .move (.t 3), none⟩,
    ⟨some 21, .bin .sub (.t 20) (.c (.int .i64 1)), none⟩,
    ⟨some 3, .move (.t 21), none⟩])
def A_spec_l05Word.r6 : ACode := (.region none [⟨some 2, .move (.c (.bool false)), none⟩])
def A_spec_l05Word.r11 : ACode := (.region none [⟨some 22, .move (.t 3), none⟩,
    ⟨some 23, .bin .lss (.t 22) (.c (.int .i64 0)), none⟩])
def A_spec_l05Word.r12 : ACode := (.region none [⟨some 2, .move (.c (.bool false)), none⟩])
def A_spec_l05Word.r4 : ACode := (.region none [⟨some 9, .move (.t 4), none⟩,
    ⟨some 10, .bin .add (.t 9) (.c (.int .i64 1)), none⟩,
    ⟨some 4, .move (.t 10), none⟩])
def A_spec_l05Word.l0 : ACode := (.seq (.seq A_spec_l05Word.r3 (.cond (.t 8) .skip (.exit 0))) (.seq (.block 1 (.seq (.seq A_spec_l05Word.r5 (.block 2 (.seq A_spec_l05Word.r7 (.cond (.t 14) A_spec_l05Word.r8 (.seq A_spec_l05Word.r9 (.cond (.t 18) A_spec_l05Word.r10 (.seq A_spec_l05Word.r6 .ret))))))) (.seq A_spec_l05Word.r11 (.cond (.t 23) (.seq A_spec_l05Word.r12 .ret) .skip)))) A_spec_l05Word.r4))
def A_spec_l05Word.r13 : ACode := (.region none [⟨some 24, .move (.t 3), none⟩,
    ⟨some 25, .bin .eql (.t 24) (.c (.int .i64 0)), none⟩,
    ⟨some 26, .move (.t 25), none⟩,
    ⟨some 27, .move (.t 0), some (26, true)⟩,
    ⟨some 28, .lenStr (.t 27), some (26, true)⟩,
    ⟨some 29, .bin .geq (.t 28) (.c (.int .i64 2)), some (26, true)⟩,
    ⟨some 30, .pick (.t 26) (.t 29) (.c (.bool false)), none⟩,
    ⟨some 31, .move (.t 30), none⟩,
    ⟨some 32, .move (.t 0), some (31, true)⟩,
    ⟨some 33, .lenStr (.t 32), some (31, true)⟩,
    ⟨some 34, .bin .leq (.t 33) (.c (.int .i64 32)), some (31, true)⟩,
    ⟨some 35, .pick (.t 31) (.t 34) (.c (.bool false)), none⟩,
    ⟨some 2, .move (.t 35), none⟩])
def A_spec_l05Word : AFunc := ⟨[.tmp 2], (.seq A_spec_l05Word.r0 (.seq A_spec_l05Word.r1 (.seq (.seq A_spec_l05Word.r2 (.block 0 (.loop A_spec_l05Word.l0))) (.seq A_spec_l05Word.r13 .ret))))⟩
/-! spec_l05Made -/
def A_spec_l05Made.r0 : ACode := (.region none [⟨some 2, .alloc ([.int .i64 0] ++ List.replicate 32 (.int .u8 0)), none⟩])
def A_spec_l05Made.r1 : ACode := (.region none [⟨some 13, .buildSlice 1 1 [.int .i64 0] [(0, 1, (.c (.int .i64 (-1))))], none⟩,
    ⟨some 14, .buildSlice 1 1 [.int .i64 0] [(0, 1, (.c (.int .i64 (-1))))], none⟩,
    ⟨some 3, .move (.t 13), none⟩,
    ⟨some 4, .move (.t 14), none⟩,
    ⟨some 5, .move (.c (.int .i64 0)), none⟩])
def A_spec_l05Made.r2 : ACode := (.region none [⟨some 6, .move (.c (.int .i64 0)), none⟩])
def A_spec_l05Made.r3 : ACode := (.region none [⟨some 15, .move (.t 0), none⟩,
    ⟨some 16, .lenStr (.t 15), none⟩,
    ⟨some 17, .bin .quo (.t 16) (.c (.int .i64 2)), none⟩,
    ⟨some 18, .build ([.int .i64 0] ++ List.replicate 32 (.int .u8 0)) [(0, 1, (.t 17))], none⟩,
    ⟨some 7, .alloc ([.int .i64 0] ++ List.replicate 32 (.int .u8 0)), none⟩,
    ⟨none, .store 33 (.t 7) (.t 18), none⟩])
def A_spec_l05Made.r4 : ACode := (.region none [⟨some 8, .move (.c (.int .i64 0)), none⟩])
def A_spec_l05Made.r5 : ACode := (.region none [⟨some 19, .move (.t 8), none⟩,
    ⟨some 20, .move (.t 0), none⟩,
    ⟨some 21, .lenStr (.t 20), none⟩,
    ⟨some 22, .bin .lss (.t 19) (.t 21), none⟩])
def A_spec_l05Made.r7 : ACode := (.region none [⟨some 25, .move (.t 3), none⟩,
    ⟨some 26, .len (.t 25), none⟩,
    ⟨some 27, .bin .sub (.t 26) (.c (.int .i64 1)), none⟩,
    ⟨some 9, .move (.t 27), none⟩])
def A_spec_l05Made.r8 : ACode := (.region none [⟨some 28, .move (.t 0), none⟩,
    ⟨some 29, .move (.t 8), none⟩,
    ⟨some 30, .indexStr (.t 28) (.t 29), none⟩,
    ⟨some 31, .bin .eql (.t 30) (.c (.int .u8 40)), none⟩])
def A_spec_l05Made.r9 : ACode := (.region none [⟨some 32, .move (.t 5), none⟩,
    ⟨some 10, .move (.t 32), none⟩])
def A_spec_l05Made.r10 : ACode := (.region none [⟨some 33, .move (.t 5), none⟩,
    ⟨some 34, .bin .add (.t 33) (.c (.int .i64 1)), none⟩,
    ⟨some 5, .move (.t 34), none⟩])
def A_spec_l05Made.r11 : ACode := (.region none [⟨some 35, .move (.t 4), none⟩,
    ⟨some 36, .move (.t 9), none⟩,
    ⟨some 37, .indexAddr none 1 (.t 35) (.t 36), none⟩,
    ⟨some 38, .load none (.t 37), none⟩,
    ⟨some 11, .move (.t 38), none⟩])
def A_spec_l05Made.r12 : ACode := (.region none [⟨some 39, .move (.t 11), none⟩,
    ⟨some 40, .bin .lss (.t 39) (.c (.int .i64 0)), none⟩])
def A_spec_l05Made.r13 : ACode := (.region none [⟨some 41, .move (.t 3), none⟩,
    ⟨some 42, .move (.t 9), none⟩,
    ⟨some 43, .indexAddr none 1 (.t 41) (.t 42), none⟩,
    ⟨some 44, .load none (.t 43), none⟩,
    ⟨some 11, .move (.t 44), none⟩])
def A_spec_l05Made.r14 : ACode := (.region none [⟨some 45, .move (.t 11), none⟩,
    ⟨some 46, .bin .lss (.t 45) (.c (.int .i64 0)), none⟩])
def A_spec_l05Made.r15 : ACode := (.region none [⟨some 47, .move (.t 10), none⟩,
    ⟨some 6, .move (.t 47), none⟩])
def A_spec_l05Made.r16 : ACode := (.region none [⟨some 48, .move (.t 9), none⟩,
    ⟨some 49, .bin .rem (.t 48) (.c (.int .i64 2)), none⟩,
    ⟨some 50, .bin .eql (.t 49) (.c (.int .i64 0)), none⟩])
def A_spec_l05Made.r17 : ACode := (.region none [⟨some 51, .move (.t 11), none⟩,
    ⟨some 52, .move (.t 10), none⟩,
    ⟨some 53, .conv .u8 (.t 52), none⟩,
    ⟨some 54, .fieldAddr 1 (.t 7), none⟩,
    ⟨some 55, .indexAddr (some 16) 1 (.t 54) (.t 51), none⟩,
    ⟨none, .store 1 (.t 55) (.t 53), none⟩])
def A_spec_l05Made.r18 : ACode := (.region none [⟨some 56, .move (.t 11), none⟩,
    ⟨some 57, .move (.t 10), none⟩,
    ⟨some 58, .conv .u8 (.t 57), none⟩,
    ⟨some 59, .fieldAddr 17 (.t 7), none⟩,
    ⟨some 60, .indexAddr (some 16) 1 (.t 59) (.t 56), none⟩,
    ⟨none, .store 1 (.t 60) (.t 58), none⟩])
def A_spec_l05Made.r19 : ACode := (.region none [⟨some 61, .move (.t 4), none⟩,
    ⟨some 62, .move (.t 9), none⟩,
    ⟨some 63, .move (.t 10), none⟩,
    ⟨some 64, .indexAddr none 1 (.t 61) (.t 62), none⟩,
    ⟨none, .store 1 (.t 64) (.t 63), none⟩])
def A_spec_l05Made.r20 : ACode := (.region none [⟨some 65, .move (.t 3), none⟩,
    ⟨some 66, .move (.t 10), none⟩,
    ⟨some 67, .buildSlice 1 1 [.int .i64 0] [(0, 1, (.t 66))], none⟩,
    ⟨some 68, .append 1 8 (.t 65) (.t 67), none⟩,
    ⟨some 3, .move (.t 68), none⟩])
def A_spec_l05Made.r21 : ACode := (.region none [⟨some 69, .move (.t 4), none⟩,
    ⟨some 70, .buildSlice 1 1 [.int .i64 0] [(0, 1, (.c (.int .i64 (-1))))], none⟩,
    ⟨some 71, .append 1 8 (.t 69) (.t 70), none⟩,
    ⟨some 4, .move (.t 71), none⟩])
def A_spec_l05Made.r22 : ACode := (.region none [⟨some 72, .move (.t 4), none⟩,
    ⟨some 73, .move (.t 9), none⟩,
    ⟨some 74, .indexAddr none 1 (.t 72) (.t 73), none⟩,
    ⟨some 75, .load none (.t 74), none⟩,
    ⟨some 12, .move (.t 75), none⟩])
def A_spec_l05Made.r23 : ACode := (.region none [⟨some 76, .move (.t 12), none⟩,
    ⟨some 77, .bin .lss (.t 76) (.c (.int .i64 0)), none⟩])
def A_spec_l05Made.r24 : ACode := (.region none [⟨some 78, .move (.t 3), none⟩,
    ⟨some 79, .move (.t 9), none⟩,
    ⟨some 80, .indexAddr none 1 (.t 78) (.t 79), none⟩,
    ⟨some 81, .load none (.t 80), none⟩,
    ⟨some 12, .move (.t 81), none⟩])
def A_spec_l05Made.r25 : ACode := (.region none [⟨some 82, .move (.t 9), none⟩,
    ⟨some 83, .bin .rem (.t 82) (.c (.int .i64 2)), none⟩,
    ⟨some 84, .bin .eql (.t 83) (.c (.int .i64 0)), none⟩])
def A_spec_l05Made.r26 : ACode := (.region none [⟨some 85, .move (.t 12), none⟩,
    ⟨some 86, .move (.t 3), none⟩,
    ⟨some 87, .move (.t 9), none⟩,
    ⟨some 88, .indexAddr none 1 (.t 86) (.t 87), none⟩,
    ⟨some 89, .load none (.t 88), none⟩,
    ⟨some 90, .conv .u8 (.t 89), none⟩,
    ⟨some 91, .fieldAddr 1 (.t 7), none⟩,
    ⟨some 92, .indexAddr (some 16) 1 (.t 91) (.t 85), none⟩,
    ⟨none, .store 1 (.t 92) (.t 90), none⟩])
def A_spec_l05Made.r27 : ACode := (.region none [⟨some 93, .move (.t 12), none⟩,
    ⟨some 94, .move (.t 3), none⟩,
    ⟨some 95, .move (.t 9), none⟩,
    ⟨some 96, .indexAddr none 1 (.t 94) (.t 95), none⟩,
    ⟨some 97, .load none (.t 96), none⟩,
    ⟨some 98, .conv .u8 (.t 97), none⟩,
    ⟨some 99, .fieldAddr 17 (.t 7), none⟩,
    ⟨some 100, .indexAddr (some 16) 1 (.t 99) (.t 93), none⟩,
    ⟨none, .store 1 (.t 100) (.t 98), none⟩])
def A_spec_l05Made.r28 : ACode := (.region none [⟨some 101, .move (.t 3), none⟩,
    ⟨some 102, .move (.t 9), none⟩,
    ⟨some 103, .slice 1 (.t 101) none (some (.t 102)), none⟩,
    ⟨some 3, .move (.t 103), none⟩])
def A_spec_l05Made.r29 : ACode := (.region none [⟨some 104, .move (.t 4), none⟩,
    ⟨some 105, .move (.t 9), none⟩,
    ⟨some 106, .slice 1 (.t 104) none (some (.t 105)), none⟩,
    ⟨some 4, .move (.t 106), none⟩])
def A_spec_l05Made.r6 : ACode := (.region none [⟨some 23, .move (.t 8), none⟩,
    ⟨some 24, .bin .add (.t 23) (.c (.int .i64 1)), none⟩,
    ⟨some 8, .move (.t 24), none⟩])
def A_spec_l05Made.l0 : ACode := (.seq (.seq A_spec_l05Made.r5 (.cond (.t 22) .skip (.exit 0))) (.seq (.block 1 (.seq A_spec_l05Made.r7 (.seq (.seq A_spec_l05Made.r8 (.cond (.t 31) (.seq A_spec_l05Made.r9 (.seq A_spec_l05Made.r10 (.seq A_spec_l05Made.r11 (.seq (.seq A_spec_l05Made.r12 (.cond (.t 40) A_spec_l05Made.r13 .skip)) (.seq (.seq A_spec_l05Made.r14 (.cond (.t 46) A_spec_l05Made.r15 (.seq A_spec_l05Made.r16 (.cond (.t 50) A_spec_l05Made.r17 A_spec_l05Made.r18)))) (.seq A_spec_l05Made.r19 (.seq A_spec_l05Made.r20 (.seq A_spec_l05Made.r21 (.exit 1))))))))) .skip)) (.seq A_spec_l05Made.r22 (.seq (.seq A_spec_l05Made.r23 (.cond (.t 77) A_spec_l05Made.r24 .skip)) (.seq (.seq A_spec_l05Made.r25 (.cond (.t 84) A_spec_l05Made.r26 A_spec_l05Made.r27)) (.seq A_spec_l05Made.r28 A_spec_l05Made.r29))))))) A_spec_l05Made.r6))
def A_spec_l05Made.r30 : ACode := (.region none [⟨some 107, .move (.t 4), none⟩,
    ⟨some 108, .indexAddr none 1 (.t 107) (.c (.int .i64 0)), none⟩,
    ⟨some 109, .load none (.t 108), none⟩,
    ⟨some 110, .move (.t 6), none⟩,
    ⟨some 111, .conv .u8 (.t 110), none⟩,
    ⟨some 112, .fieldAddr 1 (.t 7), none⟩,
    ⟨some 113, .indexAddr (some 16) 1 (.t 112) (.t 109), none⟩,
    ⟨none, .store 1 (.t 113) (.t 111), none⟩])
def A_spec_l05Made.r31 : ACode := (.region none [⟨some 114, .load (some 33) (.t 7), none⟩,
    ⟨none, .store 33 (.t 2) (.t 114), none⟩])
def A_spec_l05Made : AFunc := ⟨[.cell 2 (some 33)], (.seq A_spec_l05Made.r0 (.seq A_spec_l05Made.r1 (.seq A_spec_l05Made.r2 (.seq A_spec_l05Made.r3 (.seq (.seq A_spec_l05Made.r4 (.block 0 (.loop A_spec_l05Made.l0))) (.seq A_spec_l05Made.r30 (.seq A_spec_l05Made.r31 .ret)))))))⟩
/-! impl_isBrackets -/
def A_impl_isBrackets.r0 : ACode := (.region none [⟨some 2, .move (.c (.bool false)), none⟩])
def A_impl_isBrackets.r1 : ACode := (.region none [⟨some 5, .move (.t 0), none⟩,
    ⟨some 6, .lenStr (.t 5), none⟩,
    ⟨some 7, .bin .lss (.t 6) (.c (.int .i64 2)), none⟩,
    ⟨some 8, .move (.t 7), none⟩,
    ⟨some 9, .move (.t 0), some (8, false)⟩,
    ⟨some 10, .lenStr (.t 9), some (8, false)⟩,
    ⟨some 11, .bin .gtr (.t 10) (.c (.int .i64 32)), some (8, false)⟩,
    ⟨some 12, .pick (.t 8) (.c (.bool true)) (.t 11), none⟩])
def A_impl_isBrackets.r2 : ACode := (.region none [⟨some 2, .move (.c (.bool false)), none⟩])
def A_impl_isBrackets.r3 : ACode := (.region none [⟨some 3, .move (.c (.int .i64 0)), none⟩])
def A_impl_isBrackets.r4 : ACode := (.region none [⟨some 13, .move (.t 0), none⟩,
    ⟨some 14, .lenStr (.t 13), none⟩,
    ⟨some 15, .move (.c (.int .i64 0)), none⟩])
def A_impl_isBrackets.r5 : ACode := (.region none [⟨some 16, .bin .lss (.t 15) (.t 14), none⟩])
def A_impl_isBrackets.r6 : ACode := (.region none [⟨some 17, .move (.t 15), none⟩,
    ⟨some 4, .move (.t 17), none⟩])
def A_impl_isBrackets.r7 : ACode := (.region none [⟨some 18, .move (.t 0), none⟩,
    ⟨some 19, .move (.t 4), none⟩,
    ⟨some 20, .indexStr (.t 18) (.t 19), none⟩])
def A_impl_isBrackets.r9 : ACode := (.region none [⟨some 22, .bin .eql (.t 20) (.c (.int .u8 40)), none⟩,
    ⟨some 21, .move (.t 22), none⟩])
def A_impl_isBrackets.r10 : ACode := (.region none [⟨some 23, .move (.t 3), none⟩,
    ⟨some 24, .bin .add (.t 23) (.c (.int .i64 1)), none⟩,
    ⟨some 3, .move (.t 24), none⟩])
def A_impl_isBrackets.r11 : ACode := (.region none [⟨some 26, .bin .eql (.t 20) (.c (.int .u8 41)), none⟩,
    ⟨some 25, .move (.t 26), none⟩])
def A_impl_isBrackets.r12 : ACode := (.region none [⟨some 27, .move (.t 3), none⟩,
    ⟨some 28, .bin .sub (.t 27) (.c (.int .i64 1)), none⟩,
    ⟨some 3, .move (.t 28), none⟩])
def A_impl_isBrackets.r8 : ACode := (.region none [⟨some 2, .move (.c (.bool false)), none⟩])
def A_impl_isBrackets.r13 : ACode := (.region none [⟨some 29, .move (.t 3), none⟩,
    ⟨some 30, .bin .lss (.t 29) (.c (.int .i64 0)), none⟩])
def A_impl_isBrackets.r14 : ACode := (.region none [⟨some 2, .move (.c (.bool false)), none⟩])
def A_impl_isBrackets.r15 : ACode := (.region none [⟨some 31, .bin .add (.t 15) (.c (.int .i64 1)), none⟩,
    ⟨some 15, .move (.t 31), none⟩])
def A_impl_isBrackets.l0 : ACode := (.seq A_impl_isBrackets.r5 (.seq (.cond (.t 16) .skip (.exit 0)) (.seq (.block 1 (.seq A_impl_isBrackets.r6 (.seq (.seq A_impl_isBrackets.r7 (.block 2 (.seq A_impl_isBrackets.r9 (.cond (.t 21) A_impl_isBrackets.r10 (.seq A_impl_isBrackets.r11 (.cond (.t 25) A_impl_isBrackets.r12 (.seq A_impl_isBrackets.r8 .ret))))))) (.seq A_impl_isBrackets.r13 (.cond (.t 30) (.seq A_impl_isBrackets.r14 .ret) .skip))))) A_impl_isBrackets.r15)))
def A_impl_isBrackets.r16 : ACode := (.region none [⟨some 32, .move (.t 3), none⟩,
    ⟨some 33, .bin .eql (.t 32) (.c (.int .i64 0)), none⟩,
    ⟨some 2, .move (.t 33), none⟩])
def A_impl_isBrackets : AFunc := ⟨[.tmp 2], (.seq A_impl_isBrackets.r0 (.seq (.seq A_impl_isBrackets.r1 (.cond (.t 12) (.seq A_impl_isBrackets.r2 .ret) .skip)) (.seq A_impl_isBrackets.r3 (.seq (.seq A_impl_isBrackets.r4 (.block 0 (.loop A_impl_isBrackets.l0))) (.seq A_impl_isBrackets.r16 .ret)))))⟩
/-! impl_treeOfWord -/
def A_impl_treeOfWord.r0 : ACode := (.region none [⟨some 2, .alloc ([.int .i64 0] ++ List.replicate 32 (.int .u8 0)), none⟩])
def A_impl_treeOfWord.r1 : ACode := (.region none [⟨some 9, .move (.t 0), none⟩,
    ⟨some 10, .lenStr (.t 9), none⟩,
    ⟨some 11, .bin .quo (.t 10) (.c (.int .i64 2)), none⟩,
    ⟨some 12, .build ([.int .i64 0] ++ List.replicate 32 (.int .u8 0)) [(0, 1, (.t 11))], none⟩,
    ⟨some 3, .alloc ([.int .i64 0] ++ List.replicate 32 (.int .u8 0)), none⟩,
    ⟨none, .store 33 (.t 3) (.t 12), none⟩])
def A_impl_treeOfWord.r2 : ACode := (.region none [⟨some 13, .buildSlice 1 0 [.int .u8 0] [], none⟩,
    ⟨some 14, .buildSlice 1 1 [.slice none 0 0] [(0, 1, (.t 13))], none⟩,
    ⟨some 4, .alloc [.slice none 0 0], none⟩,
    ⟨none, .store 1 (.t 4) (.t 14), none⟩])
def A_impl_treeOfWord.r3 : ACode := (.region none [⟨some 5, .move (.c (.int .u8 0)), none⟩])
def A_impl_treeOfWord.r4 : ACode := (.region none [⟨some 15, .makeFunc 278 [(.t 4), (.t 3)], none⟩,
    ⟨some 6, .move (.t 15), none⟩])
def A_impl_treeOfWord.r5 : ACode := (.region none [⟨some 16, .move (.t 0), none⟩,
    ⟨some 17, .lenStr (.t 16), none⟩,
    ⟨some 18, .move (.c (.int .i64 0)), none⟩])
def A_impl_treeOfWord.r6 : ACode := (.region none [⟨some 19, .bin .lss (.t 18) (.t 17), none⟩])
def A_impl_treeOfWord.r7 : ACode := (.region none [⟨some 20, .move (.t 18), none⟩,
    ⟨some 7, .move (.t 20), none⟩])
def A_impl_treeOfWord.r8 : ACode := (.region none [⟨some 21, .move (.t 0), none⟩,
    ⟨some 22, .move (.t 7), none⟩,
    ⟨some 23, .indexStr (.t 21) (.t 22), none⟩,
    ⟨some 24, .bin .eql (.t 23) (.c (.int .u8 41)), none⟩])
def A_impl_treeOfWord.r9 : ACode := (.region none [⟨some 25, .move (.t 6), none⟩,
    ⟨some 26, .callv (.t 25) [], none⟩])
def A_impl_treeOfWord.r10 : ACode := (.region none [⟨some 27, .load none (.t 4), none⟩,
    ⟨some 28, .len (.t 27), none⟩,
    ⟨some 29, .bin .sub (.t 28) (.c (.int .i64 1)), none⟩,
    ⟨some 8, .move (.t 29), none⟩])
def A_impl_treeOfWord.r11 : ACode := (.region (some 8) [⟨some 30, .load none (.t 4), none⟩,
    ⟨some 31, .move (.t 8), none⟩,
    ⟨some 32, .load none (.t 4), none⟩,
    ⟨some 33, .move (.t 8), none⟩,
    ⟨some 34, .indexAddr none 1 (.t 32) (.t 33), none⟩,
    ⟨some 35, .load none (.t 34), none⟩,
    ⟨some 36, .move (.t 5), none⟩,
    ⟨some 37, .buildSlice 1 1 [.int .u8 0] [(0, 1, (.t 36))], none⟩,
    ⟨some 38, .appendF 1 1 (.t 35) (.t 37) [(.t 4)], none⟩,
    ⟨some 39, .indexAddr none 1 (.t 30) (.t 31), none⟩,
    ⟨none, .store 1 (.t 39) (.t 38), none⟩])
def A_impl_treeOfWord.r12 : ACode := (.region none [⟨some 40, .load none (.t 4), none⟩,
    ⟨some 41, .move (.t 5), none⟩,
    ⟨some 42, .buildSlice 1 1 [.int .u8 0] [(0, 1, (.t 41))], none⟩,
    ⟨some 43, .buildSlice 1 1 [.slice none 0 0] [(0, 1, (.t 42))], none⟩,
    ⟨some 44, .append 1 24 (.t 40) (.t 43), none⟩,
    ⟨none, .store 1 (.t 4) (.t 44), none⟩])
def A_impl_treeOfWord.r13 : ACode := (.region none [⟨some 45, .move (.t 5), none⟩,
    ⟨some 46, .bin .add (.t 45) (.c (.int .u8 1)), none⟩,
    ⟨some 5, .move (.t 46), none⟩])
def A_impl_treeOfWord.r14 : ACode := (.region none [⟨some 47, .bin .add (.t 18) (.c (.int .i64 1)), none⟩,
    ⟨some 18, .move (.t 47), none⟩])
def A_impl_treeOfWord.l0 : ACode := (.seq A_impl_treeOfWord.r6 (.seq (.cond (.t 19) .skip (.exit 0)) (.seq (.block 1 (.seq A_impl_treeOfWord.r7 (.seq (.seq A_impl_treeOfWord.r8 (.cond (.t 24) (.seq A_impl_treeOfWord.r9 (.exit 1)) .skip)) (.seq A_impl_treeOfWord.r10 (.seq A_impl_treeOfWord.r11 (.seq A_impl_treeOfWord.r12 A_impl_treeOfWord.r13)))))) A_impl_treeOfWord.r14)))
def A_impl_treeOfWord.r15 : ACode := (.region none [⟨some 48, .move (.t 6), none⟩,
    ⟨some 49, .callv (.t 48) [], none⟩])
def A_impl_treeOfWord.r16 : ACode := (.region none [⟨some 50, .load (some 33) (.t 3), none⟩,
    ⟨none, .store 33 (.t 2) (.t 50), none⟩])
def A_impl_treeOfWord : AFunc := ⟨[.cell 2 (some 33)], (.seq A_impl_treeOfWord.r0 (.seq A_impl_treeOfWord.r1 (.seq A_impl_treeOfWord.r2 (.seq A_impl_treeOfWord.r3 (.seq A_impl_treeOfWord.r4 (.seq (.seq A_impl_treeOfWord.r5 (.block 0 (.loop A_impl_treeOfWord.l0))) (.seq A_impl_treeOfWord.r15 (.seq A_impl_treeOfWord.r16 .ret))))))))⟩
/-! laws_eqPlaces -/
def A_laws_eqPlaces.r0 : ACode := (.region none [⟨some 2, .box (.t 0), none⟩,
    ⟨some 3, .box (.t 1), none⟩,
    ⟨some 4, .move (.c (.bool false)), none⟩])
def A_laws_eqPlaces.r1 : ACode := (.region none [⟨some 5, .move (.c (.int .i64 0)), none⟩])
def A_laws_eqPlaces.r2 : ACode := (.region none [⟨some 6, .move (.t 5), none⟩,
    ⟨some 7, .bin .lss (.t 6) (.c (.int .i64 16)), none⟩])
def A_laws_eqPlaces.r4 : ACode := (.region (some 7) [⟨some 10, .move (.t 5), none⟩,
    ⟨some 11, .indexAddr (some 16) 1 (.t 2) (.t 10), none⟩,
    ⟨some 12, .load none (.t 11), none⟩,
    ⟨some 13, .move (.t 5), none⟩,
    ⟨some 14, .indexAddr (some 16) 1 (.t 3) (.t 13), none⟩,
    ⟨some 15, .load none (.t 14), none⟩,
    ⟨some 16, .bin .neq (.t 12) (.t 15), none⟩])
def A_laws_eqPlaces.r5 : ACode := (.region none [⟨some 4, .move (.c (.bool false)), none⟩])
def A_laws_eqPlaces.r3 : ACode := (.region none [⟨some 8, .move (.t 5), none⟩,
    ⟨some 9, .bin .add (.t 8) (.c (.int .i64 1)), none⟩,
    ⟨some 5, .move (.t 9), none⟩])
def A_laws_eqPlaces.l0 : ACode := (.seq (.seq A_laws_eqPlaces.r2 (.cond (.t 7) .skip (.exit 0))) (.seq (.block 1 (.seq A_laws_eqPlaces.r4 (.cond (.t 16) (.seq A_laws_eqPlaces.r5 .ret) .skip))) A_laws_eqPlaces.r3))
def A_laws_eqPlaces.r6 : ACode := (.region none [⟨some 4, .move (.c (.bool true)), none⟩])
def A_laws_eqPlaces : AFunc := ⟨[.tmp 4], (.seq A_laws_eqPlaces.r0 (.seq (.seq A_laws_eqPlaces.r1 (.block 0 (.loop A_laws_eqPlaces.l0))) (.seq A_laws_eqPlaces.r6 .ret)))⟩
/-! impl_treeOfWord_1 -/
def A_impl_treeOfWord_1.r0 : ACode := (.region none [⟨some 7, .load none (.t 0), none⟩,
    ⟨some 8, .len (.t 7), none⟩,
    ⟨some 9, .bin .sub (.t 8) (.c (.int .i64 1)), none⟩,
    ⟨some 2, .move (.t 9), none⟩])
def A_impl_treeOfWord_1.r1 : ACode := (.region none [⟨some 10, .load none (.t 0), none⟩,
    ⟨some 11, .move (.t 2), none⟩,
    ⟨some 12, .indexAddr none 1 (.t 10) (.t 11), none⟩,
    ⟨some 13, .load none (.t 12), none⟩,
    ⟨some 3, .move (.t 13), none⟩])
def A_impl_treeOfWord_1.r2 : ACode := (.region none [⟨some 14, .fieldAddr 1 (.t 1), none⟩,
    ⟨some 4, .move (.t 14), none⟩])
def A_impl_treeOfWord_1.r3 : ACode := (.region none [⟨some 15, .move (.t 2), none⟩,
    ⟨some 16, .bin .rem (.t 15) (.c (.int .i64 2)), none⟩,
    ⟨some 17, .bin .eql (.t 16) (.c (.int .i64 1)), none⟩])
def A_impl_treeOfWord_1.r4 : ACode := (.region none [⟨some 18, .fieldAddr 17 (.t 1), none⟩,
    ⟨some 4, .move (.t 18), none⟩])
def A_impl_treeOfWord_1.r5 : ACode := (.region none [⟨some 19, .move (.t 3), none⟩,
    ⟨some 20, .len (.t 19), none⟩,
    ⟨some 21, .move (.c (.int .i64 0)), none⟩])
def A_impl_treeOfWord_1.r6 : ACode := (.region none [⟨some 22, .bin .lss (.t 21) (.t 20), none⟩])
def A_impl_treeOfWord_1.r7 : ACode := (.region none [⟨some 23, .move (.t 21), none⟩,
    ⟨some 24, .indexAddr none 1 (.t 19) (.t 21), none⟩,
    ⟨some 25, .load none (.t 24), none⟩,
    ⟨some 5, .move (.t 23), none⟩,
    ⟨some 6, .move (.t 25), none⟩])
def A_impl_treeOfWord_1.r8 : ACode := (.region (some 12) [⟨some 26, .move (.t 4), none⟩,
    ⟨some 27, .move (.t 6), none⟩,
    ⟨some 28, .move (.t 3), none⟩,
    ⟨some 29, .move (.t 5), none⟩,
    ⟨some 30, .bin .add (.t 29) (.c (.int .i64 1)), none⟩,
    ⟨some 31, .move (.t 3), none⟩,
    ⟨some 32, .len (.t 31), none⟩,
    ⟨some 33, .bin .rem (.t 30) (.t 32), none⟩,
    ⟨some 34, .indexAddr none 1 (.t 28) (.t 33), none⟩,
    ⟨some 35, .load none (.t 34), none⟩,
    ⟨some 36, .nilCheck (.t 26), none⟩,
    ⟨some 37, .indexAddr (some 16) 1 (.t 36) (.t 27), none⟩,
    ⟨none, .store 1 (.t 37) (.t 35), none⟩])
def A_impl_treeOfWord_1.r9 : ACode := (.region none [⟨some 38, .bin .add (.t 21) (.c (.int .i64 1)), none⟩,
    ⟨some 21, .move (.t 38), none⟩])
def A_impl_treeOfWord_1.l0 : ACode := (.seq A_impl_treeOfWord_1.r6 (.seq (.cond (.t 22) .skip (.exit 0)) (.seq (.block 1 (.seq A_impl_treeOfWord_1.r7 A_impl_treeOfWord_1.r8)) A_impl_treeOfWord_1.r9)))
def A_impl_treeOfWord_1.r10 : ACode := (.region none [⟨some 39, .load none (.t 0), none⟩,
    ⟨some 40, .move (.t 2), none⟩,
    ⟨some 41, .slice 1 (.t 39) none (some (.t 40)), none⟩,
    ⟨none, .store 1 (.t 0) (.t 41), none⟩])
def A_impl_treeOfWord_1 : AFunc := ⟨[], (.seq A_impl_treeOfWord_1.r0 (.seq A_impl_treeOfWord_1.r1 (.seq A_impl_treeOfWord_1.r2 (.seq (.seq A_impl_treeOfWord_1.r3 (.cond (.t 17) A_impl_treeOfWord_1.r4 .skip)) (.seq (.seq A_impl_treeOfWord_1.r5 (.block 0 (.loop A_impl_treeOfWord_1.l0))) A_impl_treeOfWord_1.r10)))))⟩
end Go.Am
