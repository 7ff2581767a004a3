/- The code of the functions that the claim reaches, in the small machine's form: written by a program of mine, off the loaded program; the checks compare the two. -/
import Derived.Test.YtdadgoboeonoaaaAmCore
set_option linter.unusedVariables false
set_option maxRecDepth 100000
namespace Go.Am
open Go
/-! laws_FnExactEulerOfFlags -/
def A_laws_FnExactEulerOfFlags.r0 : ACode := (.region none [⟨some 1, .box (.t 0), none⟩,
    ⟨some 2, .move (.c (.bool false)), none⟩])
def A_laws_FnExactEulerOfFlags.r1 : ACode := (.region none [⟨some 8, .load (some 97) (.t 1), none⟩,
    ⟨some 9, .call 132 [(.t 8)], none⟩,
    ⟨some 10, .call 136 [(.t 9)], none⟩,
    ⟨some 7, .move (.t 10), none⟩,
    ⟨some 11, .extract (.t 7) 0, none⟩,
    ⟨some 12, .extract (.t 7) 1, none⟩,
    ⟨some 3, .move (.t 11), none⟩,
    ⟨some 4, .move (.t 12), none⟩])
def A_laws_FnExactEulerOfFlags.r2 : ACode := (.region none [⟨some 14, .load (some 97) (.t 1), none⟩,
    ⟨some 15, .call 132 [(.t 14)], none⟩,
    ⟨some 16, .call 137 [(.t 15)], none⟩,
    ⟨some 13, .move (.t 16), none⟩,
    ⟨some 17, .extract (.t 13) 0, none⟩,
    ⟨some 18, .extract (.t 13) 1, none⟩,
    ⟨some 5, .move (.t 17), none⟩,
    ⟨some 6, .move (.t 18), none⟩])
def A_laws_FnExactEulerOfFlags.r3 : ACode := (.region none [⟨some 19, .move (.t 5), none⟩,
    ⟨some 20, .move (.t 3), none⟩,
    ⟨some 21, .bin .neq (.t 19) (.t 20), none⟩,
    ⟨some 22, .move (.t 21), none⟩,
    ⟨some 23, .move (.t 6), some (22, false)⟩,
    ⟨some 24, .move (.t 4), some (22, false)⟩,
    ⟨some 25, .bin .neq (.t 23) (.t 24), some (22, false)⟩,
    ⟨some 26, .pick (.t 22) (.c (.bool true)) (.t 25), none⟩])
def A_laws_FnExactEulerOfFlags.r4 : ACode := (.region none [⟨some 2, .move (.c (.bool false)), none⟩])
def A_laws_FnExactEulerOfFlags.r5 : ACode := (.region none [⟨some 2, .move (.c (.bool true)), none⟩])
def A_laws_FnExactEulerOfFlags : AFunc := ⟨[.tmp 2], (.seq A_laws_FnExactEulerOfFlags.r0 (.seq A_laws_FnExactEulerOfFlags.r1 (.seq A_laws_FnExactEulerOfFlags.r2 (.seq (.seq A_laws_FnExactEulerOfFlags.r3 (.cond (.t 26) (.seq A_laws_FnExactEulerOfFlags.r4 .ret) .skip)) (.seq A_laws_FnExactEulerOfFlags.r5 .ret)))))⟩
/-! spec_AreFlags -/
def A_spec_AreFlags.r0 : ACode := (.region none [⟨some 1, .box (.t 0), none⟩,
    ⟨some 2, .move (.c (.bool false)), none⟩])
def A_spec_AreFlags.r1 : ACode := (.region none [⟨some 3, .load (some 97) (.t 1), none⟩,
    ⟨some 4, .call 180 [(.t 3)], none⟩,
    ⟨some 2, .move (.t 4), none⟩])
def A_spec_AreFlags : AFunc := ⟨[.tmp 2], (.seq A_spec_AreFlags.r0 (.seq A_spec_AreFlags.r1 .ret))⟩
/-! laws_toFlags -/
def A_laws_toFlags.r0 : ACode := (.region none [⟨some 1, .box (.t 0), none⟩,
    ⟨some 2, .alloc ([.int .i64 0] ++ List.replicate 96 (.int .u8 0)), none⟩])
def A_laws_toFlags.r1 : ACode := (.region none [⟨some 3, .alloc ([.int .i64 0] ++ List.replicate 96 (.int .u8 0)), none⟩])
def A_laws_toFlags.r2 : ACode := (.region none [⟨some 4, .fieldAddr 0 (.t 1), none⟩,
    ⟨some 5, .load none (.t 4), none⟩,
    ⟨some 6, .fieldAddr 0 (.t 3), none⟩,
    ⟨none, .store 1 (.t 6) (.t 5), none⟩])
def A_laws_toFlags.r3 : ACode := (.region none [⟨some 7, .fieldAddr 1 (.t 1), none⟩,
    ⟨some 8, .load (some 32) (.t 7), none⟩,
    ⟨some 9, .call 181 [(.t 8)], none⟩,
    ⟨some 10, .fieldAddr 1 (.t 3), none⟩,
    ⟨none, .store 32 (.t 10) (.t 9), none⟩])
def A_laws_toFlags.r4 : ACode := (.region none [⟨some 11, .fieldAddr 33 (.t 1), none⟩,
    ⟨some 12, .load (some 32) (.t 11), none⟩,
    ⟨some 13, .call 181 [(.t 12)], none⟩,
    ⟨some 14, .fieldAddr 33 (.t 3), none⟩,
    ⟨none, .store 32 (.t 14) (.t 13), none⟩])
def A_laws_toFlags.r5 : ACode := (.region none [⟨some 15, .fieldAddr 65 (.t 1), none⟩,
    ⟨some 16, .load (some 32) (.t 15), none⟩,
    ⟨some 17, .call 181 [(.t 16)], none⟩,
    ⟨some 18, .fieldAddr 65 (.t 3), none⟩,
    ⟨none, .store 32 (.t 18) (.t 17), none⟩])
def A_laws_toFlags.r6 : ACode := (.region none [⟨some 19, .load (some 97) (.t 3), none⟩,
    ⟨none, .store 97 (.t 2) (.t 19), none⟩])
def A_laws_toFlags : AFunc := ⟨[.cell 2 (some 97)], (.seq A_laws_toFlags.r0 (.seq A_laws_toFlags.r1 (.seq A_laws_toFlags.r2 (.seq A_laws_toFlags.r3 (.seq A_laws_toFlags.r4 (.seq A_laws_toFlags.r5 (.seq A_laws_toFlags.r6 .ret)))))))⟩
/-! impl_AreFlags -/
def A_impl_AreFlags.r0 : ACode := (.region none [⟨some 1, .box (.t 0), none⟩,
    ⟨some 2, .move (.c (.bool false)), none⟩])
def A_impl_AreFlags.r1 : ACode := (.region none [⟨some 10, .fieldAddr 0 (.t 1), none⟩,
    ⟨some 11, .load none (.t 10), none⟩,
    ⟨some 12, .bin .lss (.t 11) (.c (.int .i64 4)), none⟩,
    ⟨some 13, .move (.t 12), none⟩,
    ⟨some 14, .fieldAddr 0 (.t 1), some (13, false)⟩,
    ⟨some 15, .load none (.t 14), some (13, false)⟩,
    ⟨some 16, .bin .gtr (.t 15) (.c (.int .i64 32)), some (13, false)⟩,
    ⟨some 17, .pick (.t 13) (.c (.bool true)) (.t 16), none⟩,
    ⟨some 18, .move (.t 17), none⟩,
    ⟨some 19, .fieldAddr 0 (.t 1), some (18, false)⟩,
    ⟨some 20, .load none (.t 19), some (18, false)⟩,
    ⟨some 21, .bin .rem (.t 20) (.c (.int .i64 4)), some (18, false)⟩,
    ⟨some 22, .bin .neq (.t 21) (.c (.int .i64 0)), some (18, false)⟩,
    ⟨some 23, .pick (.t 18) (.c (.bool true)) (.t 22), none⟩])
def A_impl_AreFlags.r2 : ACode := (.region none [⟨some 2, .move (.c (.bool false)), none⟩])
def A_impl_AreFlags.r3 : ACode := (.region none [⟨some 24, .fieldAddr 1 (.t 1), none⟩,
    ⟨some 25, .load (some 32) (.t 24), none⟩,
    ⟨some 26, .fieldAddr 33 (.t 1), none⟩,
    ⟨some 27, .load (some 32) (.t 26), none⟩,
    ⟨some 28, .fieldAddr 65 (.t 1), none⟩,
    ⟨some 29, .load (some 32) (.t 28), none⟩,
    ⟨some 30, .buildSlice 32 3 (List.replicate 32 (.int .u8 0)) [(0, 32, (.t 25)), (32, 32, (.t 27)), (64, 32, (.t 29))], none⟩,
    ⟨some 31, .len (.t 30), none⟩,
    ⟨some 32, .move (.c (.int .i64 0)), none⟩])
def A_impl_AreFlags.r4 : ACode := (.region none [⟨some 33, .bin .lss (.t 32) (.t 31), none⟩])
def A_impl_AreFlags.r5 : ACode := (.region none [⟨some 34, .indexAddr none 32 (.t 30) (.t 32), none⟩,
    ⟨some 35, .load (some 32) (.t 34), none⟩,
    ⟨some 4, .alloc (List.replicate 32 (.int .u8 0)), none⟩,
    ⟨none, .store 32 (.t 4) (.t 35), none⟩])
def A_impl_AreFlags.r6 : ACode := (.region none [⟨some 36, .load (some 32) (.t 4), none⟩,
    ⟨some 37, .move (.c (.int .i64 0)), none⟩])
def A_impl_AreFlags.r7 : ACode := (.region none [⟨some 38, .bin .lss (.t 37) (.c (.int .i64 32)), none⟩])
def A_impl_AreFlags.r8 : ACode := (.region none [⟨some 39, .move (.t 37), none⟩,
    ⟨some 40, .index 32 1 none (.t 36) (.t 37), none⟩,
    ⟨some 5, .move (.t 39), none⟩,
    ⟨some 6, .move (.t 40), none⟩])
def A_impl_AreFlags.r9 : ACode := (.region none [⟨some 41, .move (.t 5), none⟩,
    ⟨some 42, .fieldAddr 0 (.t 1), none⟩,
    ⟨some 43, .load none (.t 42), none⟩,
    ⟨some 44, .bin .geq (.t 41) (.t 43), none⟩])
def A_impl_AreFlags.r10 : ACode := (.region none [⟨some 45, .move (.t 6), none⟩,
    ⟨some 46, .bin .neq (.t 45) (.c (.int .u8 0)), none⟩])
def A_impl_AreFlags.r11 : ACode := (.region none [⟨some 2, .move (.c (.bool false)), none⟩])
def A_impl_AreFlags.r12 : ACode := (.region none [⟨some 47, .move (.t 6), none⟩,
    ⟨some 48, .conv .i64 (.t 47), none⟩,
    ⟨some 49, .fieldAddr 0 (.t 1), none⟩,
    ⟨some 50, .load none (.t 49), none⟩,
    ⟨some 51, .bin .geq (.t 48) (.t 50), none⟩,
    ⟨some 52, .move (.t 51), none⟩,
    ⟨some 53, .move (.t 6), some (52, false)⟩,
    ⟨some 54, .conv .i64 (.t 53), some (52, false)⟩,
    ⟨some 55, .move (.t 5), some (52, false)⟩,
    ⟨some 56, .bin .eql (.t 54) (.t 55), some (52, false)⟩,
    ⟨some 57, .pick (.t 52) (.c (.bool true)) (.t 56), none⟩,
    ⟨some 58, .move (.t 57), none⟩,
    ⟨some 59, .move (.t 6), some (58, false)⟩,
    ⟨some 60, .indexAddr (some 32) 1 (.t 4) (.t 59), some (58, false)⟩,
    ⟨some 61, .load none (.t 60), some (58, false)⟩,
    ⟨some 62, .conv .i64 (.t 61), some (58, false)⟩,
    ⟨some 63, .move (.t 5), some (58, false)⟩,
    ⟨some 64, .bin .neq (.t 62) (.t 63), some (58, false)⟩,
    ⟨some 65, .pick (.t 58) (.c (.bool true)) (.t 64), none⟩])
def A_impl_AreFlags.r13 : ACode := (.region none [⟨some 2, .move (.c (.bool false)), none⟩])
def A_impl_AreFlags.r14 : ACode := (.region none [⟨some 66, .bin .add (.t 37) (.c (.int .i64 1)), none⟩,
    ⟨some 37, .move (.t 66), none⟩])
def A_impl_AreFlags.l0 : ACode := (.seq A_impl_AreFlags.r7 (.seq (.cond (.t 38) .skip (.exit 2)) (.seq (.block 3 (.seq A_impl_AreFlags.r8 (.seq (.seq A_impl_AreFlags.r9 (.cond (.t 44) (.seq (.seq A_impl_AreFlags.r10 (.cond (.t 46) (.seq A_impl_AreFlags.r11 .ret) .skip)) (.exit 3)) .skip)) (.seq A_impl_AreFlags.r12 (.cond (.t 65) (.seq A_impl_AreFlags.r13 .ret) .skip))))) A_impl_AreFlags.r14)))
def A_impl_AreFlags.r15 : ACode := (.region none [⟨some 67, .bin .add (.t 32) (.c (.int .i64 1)), none⟩,
    ⟨some 32, .move (.t 67), none⟩])
def A_impl_AreFlags.l1 : ACode := (.seq A_impl_AreFlags.r4 (.seq (.cond (.t 33) .skip (.exit 0)) (.seq (.block 1 (.seq A_impl_AreFlags.r5 (.seq A_impl_AreFlags.r6 (.block 2 (.loop A_impl_AreFlags.l0))))) A_impl_AreFlags.r15)))
def A_impl_AreFlags.r16 : ACode := (.region none [⟨some 68, .fieldAddr 0 (.t 1), none⟩,
    ⟨some 69, .load none (.t 68), none⟩,
    ⟨some 70, .move (.c (.int .i64 0)), none⟩])
def A_impl_AreFlags.r17 : ACode := (.region none [⟨some 71, .bin .lss (.t 70) (.t 69), none⟩])
def A_impl_AreFlags.r18 : ACode := (.region none [⟨some 72, .move (.t 70), none⟩,
    ⟨some 7, .move (.t 72), none⟩])
def A_impl_AreFlags.r19 : ACode := (.region (some 16) [⟨some 73, .move (.t 7), none⟩,
    ⟨some 74, .fieldAddr 1 (.t 1), none⟩,
    ⟨some 75, .indexAddr (some 32) 1 (.t 74) (.t 73), none⟩,
    ⟨some 76, .load none (.t 75), none⟩,
    ⟨some 77, .fieldAddr 65 (.t 1), none⟩,
    ⟨some 78, .indexAddr (some 32) 1 (.t 77) (.t 76), none⟩,
    ⟨some 79, .load none (.t 78), none⟩,
    ⟨some 80, .move (.t 7), none⟩,
    ⟨some 81, .fieldAddr 65 (.t 1), none⟩,
    ⟨some 82, .indexAddr (some 32) 1 (.t 81) (.t 80), none⟩,
    ⟨some 83, .load none (.t 82), none⟩,
    ⟨some 84, .fieldAddr 1 (.t 1), none⟩,
    ⟨some 85, .indexAddr (some 32) 1 (.t 84) (.t 83), none⟩,
    ⟨some 86, .load none (.t 85), none⟩,
    ⟨some 8, .move (.t 79), none⟩,
    ⟨some 9, .move (.t 86), none⟩])
def A_impl_AreFlags.r20 : ACode := (.region none [⟨some 87, .move (.t 8), none⟩,
    ⟨some 88, .move (.t 9), none⟩,
    ⟨some 89, .bin .neq (.t 87) (.t 88), none⟩,
    ⟨some 90, .move (.t 89), none⟩,
    ⟨some 91, .move (.t 8), some (90, false)⟩,
    ⟨some 92, .conv .i64 (.t 91), some (90, false)⟩,
    ⟨some 93, .move (.t 7), some (90, false)⟩,
    ⟨some 94, .bin .eql (.t 92) (.t 93), some (90, false)⟩,
    ⟨some 95, .pick (.t 90) (.c (.bool true)) (.t 94), none⟩])
def A_impl_AreFlags.r21 : ACode := (.region none [⟨some 2, .move (.c (.bool false)), none⟩])
def A_impl_AreFlags.r22 : ACode := (.region none [⟨some 96, .bin .add (.t 70) (.c (.int .i64 1)), none⟩,
    ⟨some 70, .move (.t 96), none⟩])
def A_impl_AreFlags.l2 : ACode := (.seq A_impl_AreFlags.r17 (.seq (.cond (.t 71) .skip (.exit 4)) (.seq (.block 5 (.seq A_impl_AreFlags.r18 (.seq A_impl_AreFlags.r19 (.seq A_impl_AreFlags.r20 (.cond (.t 95) (.seq A_impl_AreFlags.r21 .ret) .skip))))) A_impl_AreFlags.r22)))
def A_impl_AreFlags.r23 : ACode := (.region none [⟨some 97, .fieldAddr 0 (.t 1), none⟩,
    ⟨some 98, .load none (.t 97), none⟩,
    ⟨some 99, .fieldAddr 1 (.t 1), none⟩,
    ⟨some 100, .load (some 32) (.t 99), none⟩,
    ⟨some 101, .fieldAddr 33 (.t 1), none⟩,
    ⟨some 102, .load (some 32) (.t 101), none⟩,
    ⟨some 103, .fieldAddr 65 (.t 1), none⟩,
    ⟨some 104, .load (some 32) (.t 103), none⟩,
    ⟨some 105, .buildSlice 32 3 (List.replicate 32 (.int .u8 0)) [(0, 32, (.t 100)), (32, 32, (.t 102)), (64, 32, (.t 104))], none⟩,
    ⟨some 106, .call 182 [(.t 98), (.t 105)], none⟩,
    ⟨some 107, .len (.t 106), none⟩,
    ⟨some 108, .bin .eql (.t 107) (.c (.int .i64 1)), none⟩,
    ⟨some 2, .move (.t 108), none⟩])
def A_impl_AreFlags : AFunc := ⟨[.tmp 2], (.seq A_impl_AreFlags.r0 (.seq (.seq A_impl_AreFlags.r1 (.cond (.t 23) (.seq A_impl_AreFlags.r2 .ret) .skip)) (.seq (.seq A_impl_AreFlags.r3 (.block 0 (.loop A_impl_AreFlags.l1))) (.seq (.seq A_impl_AreFlags.r16 (.block 4 (.loop A_impl_AreFlags.l2))) (.seq A_impl_AreFlags.r23 .ret)))))⟩
/-! spec_EulerOfFlags -/
def A_spec_EulerOfFlags.r0 : ACode := (.region none [⟨some 1, .box (.t 0), none⟩,
    ⟨some 2, .move (.c (.int .i64 0)), none⟩,
    ⟨some 3, .move (.c (.int .i64 0)), none⟩])
def A_spec_EulerOfFlags.r1 : ACode := (.region none [⟨some 4, .load (some 97) (.t 1), none⟩,
    ⟨some 5, .call 180 [(.t 4)], none⟩,
    ⟨some 6, .not (.t 5), none⟩])
def A_spec_EulerOfFlags.r2 : ACode := (.region none [⟨some 2, .move (.c (.int .i64 0)), none⟩,
    ⟨some 3, .move (.c (.int .i64 1)), none⟩])
def A_spec_EulerOfFlags.r3 : ACode := (.region (some 17) [⟨some 7, .load (some 97) (.t 1), none⟩,
    ⟨some 8, .fieldAddr 65 (.t 1), none⟩,
    ⟨some 9, .load (some 32) (.t 8), none⟩,
    ⟨some 10, .call 183 [(.t 7), (.t 9)], none⟩,
    ⟨some 11, .len (.t 10), none⟩,
    ⟨some 12, .load (some 97) (.t 1), none⟩,
    ⟨some 13, .fieldAddr 1 (.t 1), none⟩,
    ⟨some 14, .load (some 32) (.t 13), none⟩,
    ⟨some 15, .call 183 [(.t 12), (.t 14)], none⟩,
    ⟨some 16, .len (.t 15), none⟩,
    ⟨some 17, .bin .add (.t 11) (.t 16), none⟩,
    ⟨some 18, .fieldAddr 0 (.t 1), none⟩,
    ⟨some 19, .load none (.t 18), none⟩,
    ⟨some 20, .bin .quo (.t 19) (.c (.int .i64 4)), none⟩,
    ⟨some 21, .bin .sub (.t 17) (.t 20), none⟩,
    ⟨some 2, .move (.t 21), none⟩,
    ⟨some 3, .move (.c (.int .i64 0)), none⟩])
def A_spec_EulerOfFlags : AFunc := ⟨[.tmp 2, .tmp 3], (.seq A_spec_EulerOfFlags.r0 (.seq (.seq A_spec_EulerOfFlags.r1 (.cond (.t 6) (.seq A_spec_EulerOfFlags.r2 .ret) .skip)) (.seq A_spec_EulerOfFlags.r3 .ret)))⟩
/-! impl_EulerOfFlags -/
def A_impl_EulerOfFlags.r0 : ACode := (.region none [⟨some 1, .box (.t 0), none⟩,
    ⟨some 2, .move (.c (.int .i64 0)), none⟩,
    ⟨some 3, .move (.c (.int .i64 0)), none⟩])
def A_impl_EulerOfFlags.r1 : ACode := (.region none [⟨some 5, .load (some 97) (.t 1), none⟩,
    ⟨some 6, .call 134 [(.t 5)], none⟩,
    ⟨some 7, .not (.t 6), none⟩])
def A_impl_EulerOfFlags.r2 : ACode := (.region none [⟨some 2, .move (.c (.int .i64 0)), none⟩,
    ⟨some 3, .move (.c (.int .i64 1)), none⟩])
def A_impl_EulerOfFlags.r3 : ACode := (.region (some 30) [⟨some 8, .fieldAddr 0 (.t 1), none⟩,
    ⟨some 9, .load none (.t 8), none⟩,
    ⟨some 10, .fieldAddr 33 (.t 1), none⟩,
    ⟨some 11, .load (some 32) (.t 10), none⟩,
    ⟨some 12, .fieldAddr 65 (.t 1), none⟩,
    ⟨some 13, .load (some 32) (.t 12), none⟩,
    ⟨some 14, .buildSlice 32 2 (List.replicate 32 (.int .u8 0)) [(0, 32, (.t 11)), (32, 32, (.t 13))], none⟩,
    ⟨some 15, .call 182 [(.t 9), (.t 14)], none⟩,
    ⟨some 16, .len (.t 15), none⟩,
    ⟨some 17, .fieldAddr 0 (.t 1), none⟩,
    ⟨some 18, .load none (.t 17), none⟩,
    ⟨some 19, .fieldAddr 1 (.t 1), none⟩,
    ⟨some 20, .load (some 32) (.t 19), none⟩,
    ⟨some 21, .fieldAddr 65 (.t 1), none⟩,
    ⟨some 22, .load (some 32) (.t 21), none⟩,
    ⟨some 23, .buildSlice 32 2 (List.replicate 32 (.int .u8 0)) [(0, 32, (.t 20)), (32, 32, (.t 22))], none⟩,
    ⟨some 24, .call 182 [(.t 18), (.t 23)], none⟩,
    ⟨some 25, .len (.t 24), none⟩,
    ⟨some 26, .bin .sub (.t 16) (.t 25), none⟩,
    ⟨some 27, .fieldAddr 0 (.t 1), none⟩,
    ⟨some 28, .load none (.t 27), none⟩,
    ⟨some 29, .fieldAddr 33 (.t 1), none⟩,
    ⟨some 30, .load (some 32) (.t 29), none⟩,
    ⟨some 31, .fieldAddr 1 (.t 1), none⟩,
    ⟨some 32, .load (some 32) (.t 31), none⟩,
    ⟨some 33, .buildSlice 32 2 (List.replicate 32 (.int .u8 0)) [(0, 32, (.t 30)), (32, 32, (.t 32))], none⟩,
    ⟨some 34, .call 182 [(.t 28), (.t 33)], none⟩,
    ⟨some 35, .len (.t 34), none⟩,
    ⟨some 36, .bin .add (.t 26) (.t 35), none⟩,
    ⟨some 4, .move (.t 36), none⟩])
def A_impl_EulerOfFlags.r4 : ACode := (.region none [⟨some 37, .move (.t 4), none⟩,
    ⟨some 2, .move (.t 37), none⟩,
    ⟨some 3, .move (.c (.int .i64 0)), none⟩])
def A_impl_EulerOfFlags : AFunc := ⟨[.tmp 2, .tmp 3], (.seq A_impl_EulerOfFlags.r0 (.seq (.seq A_impl_EulerOfFlags.r1 (.cond (.t 7) (.seq A_impl_EulerOfFlags.r2 .ret) .skip)) (.seq A_impl_EulerOfFlags.r3 (.seq A_impl_EulerOfFlags.r4 .ret))))⟩
/-! spec_MirrorOf -/
def A_spec_MirrorOf.r0 : ACode := (.region none [⟨some 1, .box (.t 0), none⟩,
    ⟨some 2, .alloc ([.int .i64 0] ++ List.replicate 32 (.int .u8 0)), none⟩,
    ⟨some 3, .move (.c (.int .i64 0)), none⟩])
def A_spec_MirrorOf.r1 : ACode := (.region none [⟨some 4, .load (some 33) (.t 1), none⟩,
    ⟨some 5, .call 184 [(.t 4)], none⟩,
    ⟨some 6, .not (.t 5), none⟩])
def A_spec_MirrorOf.r2 : ACode := (.region none [⟨some 7, .build ([.int .i64 0] ++ List.replicate 32 (.int .u8 0)) [], none⟩,
    ⟨none, .store 33 (.t 2) (.t 7), none⟩,
    ⟨some 3, .move (.c (.int .i64 1)), none⟩])
def A_spec_MirrorOf.r3 : ACode := (.region none [⟨some 8, .load (some 33) (.t 1), none⟩,
    ⟨some 9, .call 185 [(.t 8)], none⟩,
    ⟨none, .store 33 (.t 2) (.t 9), none⟩,
    ⟨some 3, .move (.c (.int .i64 0)), none⟩])
def A_spec_MirrorOf : AFunc := ⟨[.cell 2 (some 33), .tmp 3], (.seq A_spec_MirrorOf.r0 (.seq (.seq A_spec_MirrorOf.r1 (.cond (.t 6) (.seq A_spec_MirrorOf.r2 .ret) .skip)) (.seq A_spec_MirrorOf.r3 .ret)))⟩
/-! laws_toDessin -/
def A_laws_toDessin.r0 : ACode := (.region none [⟨some 1, .box (.t 0), none⟩,
    ⟨some 2, .alloc ([.int .i64 0] ++ List.replicate 32 (.int .u8 0)), none⟩])
def A_laws_toDessin.r1 : ACode := (.region none [⟨some 3, .alloc ([.int .i64 0] ++ List.replicate 32 (.int .u8 0)), none⟩])
def A_laws_toDessin.r2 : ACode := (.region none [⟨some 4, .fieldAddr 0 (.t 1), none⟩,
    ⟨some 5, .load none (.t 4), none⟩,
    ⟨some 6, .fieldAddr 0 (.t 3), none⟩,
    ⟨none, .store 1 (.t 6) (.t 5), none⟩])
def A_laws_toDessin.r3 : ACode := (.region none [⟨some 7, .fieldAddr 1 (.t 1), none⟩,
    ⟨some 8, .load (some 16) (.t 7), none⟩,
    ⟨some 9, .call 186 [(.t 8)], none⟩,
    ⟨some 10, .fieldAddr 1 (.t 3), none⟩,
    ⟨none, .store 16 (.t 10) (.t 9), none⟩])
def A_laws_toDessin.r4 : ACode := (.region none [⟨some 11, .fieldAddr 17 (.t 1), none⟩,
    ⟨some 12, .load (some 16) (.t 11), none⟩,
    ⟨some 13, .call 186 [(.t 12)], none⟩,
    ⟨some 14, .fieldAddr 17 (.t 3), none⟩,
    ⟨none, .store 16 (.t 14) (.t 13), none⟩])
def A_laws_toDessin.r5 : ACode := (.region none [⟨some 15, .load (some 33) (.t 3), none⟩,
    ⟨none, .store 33 (.t 2) (.t 15), none⟩])
def A_laws_toDessin : AFunc := ⟨[.cell 2 (some 33)], (.seq A_laws_toDessin.r0 (.seq A_laws_toDessin.r1 (.seq A_laws_toDessin.r2 (.seq A_laws_toDessin.r3 (.seq A_laws_toDessin.r4 (.seq A_laws_toDessin.r5 .ret))))))⟩
/-! impl_MirrorOf -/
def A_impl_MirrorOf.r0 : ACode := (.region none [⟨some 1, .box (.t 0), none⟩,
    ⟨some 2, .alloc ([.int .i64 0] ++ List.replicate 32 (.int .u8 0)), none⟩,
    ⟨some 3, .move (.c (.int .i64 0)), none⟩])
def A_impl_MirrorOf.r1 : ACode := (.region none [⟨some 4, .load (some 33) (.t 1), none⟩,
    ⟨some 5, .call 187 [(.t 4)], none⟩,
    ⟨some 6, .not (.t 5), none⟩])
def A_impl_MirrorOf.r2 : ACode := (.region none [⟨some 7, .build ([.int .i64 0] ++ List.replicate 32 (.int .u8 0)) [], none⟩,
    ⟨none, .store 33 (.t 2) (.t 7), none⟩,
    ⟨some 3, .move (.c (.int .i64 1)), none⟩])
def A_impl_MirrorOf.r3 : ACode := (.region none [⟨some 8, .load (some 33) (.t 1), none⟩,
    ⟨some 9, .call 188 [(.t 8)], none⟩,
    ⟨none, .store 33 (.t 2) (.t 9), none⟩,
    ⟨some 3, .move (.c (.int .i64 0)), none⟩])
def A_impl_MirrorOf : AFunc := ⟨[.cell 2 (some 33), .tmp 3], (.seq A_impl_MirrorOf.r0 (.seq (.seq A_impl_MirrorOf.r1 (.cond (.t 6) (.seq A_impl_MirrorOf.r2 .ret) .skip)) (.seq A_impl_MirrorOf.r3 .ret)))⟩
/-! laws_eqDessin -/
def A_laws_eqDessin.r0 : ACode := (.region none [⟨some 2, .box (.t 0), none⟩,
    ⟨some 3, .box (.t 1), none⟩,
    ⟨some 4, .move (.c (.bool false)), none⟩])
def A_laws_eqDessin.r1 : ACode := (.region none [⟨some 5, .fieldAddr 0 (.t 2), none⟩,
    ⟨some 6, .load none (.t 5), none⟩,
    ⟨some 7, .fieldAddr 0 (.t 3), none⟩,
    ⟨some 8, .load none (.t 7), none⟩,
    ⟨some 9, .bin .neq (.t 6) (.t 8), none⟩])
def A_laws_eqDessin.r2 : ACode := (.region none [⟨some 4, .move (.c (.bool false)), none⟩])
def A_laws_eqDessin.r3 : ACode := (.region none [⟨some 10, .fieldAddr 1 (.t 2), none⟩,
    ⟨some 11, .load (some 16) (.t 10), none⟩,
    ⟨some 12, .fieldAddr 1 (.t 3), none⟩,
    ⟨some 13, .load (some 16) (.t 12), none⟩,
    ⟨some 14, .call 189 [(.t 11), (.t 13)], none⟩,
    ⟨some 15, .not (.t 14), none⟩])
def A_laws_eqDessin.r4 : ACode := (.region none [⟨some 4, .move (.c (.bool false)), none⟩])
def A_laws_eqDessin.r5 : ACode := (.region none [⟨some 16, .fieldAddr 17 (.t 2), none⟩,
    ⟨some 17, .load (some 16) (.t 16), none⟩,
    ⟨some 18, .fieldAddr 17 (.t 3), none⟩,
    ⟨some 19, .load (some 16) (.t 18), none⟩,
    ⟨some 20, .call 189 [(.t 17), (.t 19)], none⟩,
    ⟨some 21, .not (.t 20), none⟩])
def A_laws_eqDessin.r6 : ACode := (.region none [⟨some 4, .move (.c (.bool false)), none⟩])
def A_laws_eqDessin.r7 : ACode := (.region none [⟨some 4, .move (.c (.bool true)), none⟩])
def A_laws_eqDessin : AFunc := ⟨[.tmp 4], (.seq A_laws_eqDessin.r0 (.seq (.seq A_laws_eqDessin.r1 (.cond (.t 9) (.seq A_laws_eqDessin.r2 .ret) .skip)) (.seq (.seq A_laws_eqDessin.r3 (.cond (.t 15) (.seq A_laws_eqDessin.r4 .ret) .skip)) (.seq (.seq A_laws_eqDessin.r5 (.cond (.t 21) (.seq A_laws_eqDessin.r6 .ret) .skip)) (.seq A_laws_eqDessin.r7 .ret)))))⟩
/-! spec_l07Are -/
def A_spec_l07Are.r0 : ACode := (.region none [⟨some 1, .box (.t 0), none⟩,
    ⟨some 2, .move (.c (.bool false)), none⟩])
def A_spec_l07Are.r1 : ACode := (.region none [⟨some 4, .fieldAddr 0 (.t 1), none⟩,
    ⟨some 5, .load none (.t 4), none⟩,
    ⟨some 6, .call 58 [(.t 5), (.c (.int .i64 4)), (.c (.int .i64 32))], none⟩,
    ⟨some 7, .not (.t 6), none⟩,
    ⟨some 8, .move (.t 7), none⟩,
    ⟨some 9, .fieldAddr 0 (.t 1), some (8, false)⟩,
    ⟨some 10, .load none (.t 9), some (8, false)⟩,
    ⟨some 11, .bin .rem (.t 10) (.c (.int .i64 4)), some (8, false)⟩,
    ⟨some 12, .bin .neq (.t 11) (.c (.int .i64 0)), some (8, false)⟩,
    ⟨some 13, .pick (.t 8) (.c (.bool true)) (.t 12), none⟩,
    ⟨some 14, .move (.t 13), none⟩,
    ⟨some 15, .fieldAddr 1 (.t 1), some (14, false)⟩,
    ⟨some 16, .load (some 32) (.t 15), some (14, false)⟩,
    ⟨some 17, .fieldAddr 0 (.t 1), some (14, false)⟩,
    ⟨some 18, .load none (.t 17), some (14, false)⟩,
    ⟨some 19, .call 204 [(.t 16), (.t 18)], some (14, false)⟩,
    ⟨some 20, .not (.t 19), some (14, false)⟩,
    ⟨some 21, .pick (.t 14) (.c (.bool true)) (.t 20), none⟩,
    ⟨some 22, .move (.t 21), none⟩,
    ⟨some 23, .fieldAddr 33 (.t 1), some (22, false)⟩,
    ⟨some 24, .load (some 32) (.t 23), some (22, false)⟩,
    ⟨some 25, .fieldAddr 0 (.t 1), some (22, false)⟩,
    ⟨some 26, .load none (.t 25), some (22, false)⟩,
    ⟨some 27, .call 204 [(.t 24), (.t 26)], some (22, false)⟩,
    ⟨some 28, .not (.t 27), some (22, false)⟩,
    ⟨some 29, .pick (.t 22) (.c (.bool true)) (.t 28), none⟩,
    ⟨some 30, .move (.t 29), none⟩,
    ⟨some 31, .fieldAddr 65 (.t 1), some (30, false)⟩,
    ⟨some 32, .load (some 32) (.t 31), some (30, false)⟩,
    ⟨some 33, .fieldAddr 0 (.t 1), some (30, false)⟩,
    ⟨some 34, .load none (.t 33), some (30, false)⟩,
    ⟨some 35, .call 204 [(.t 32), (.t 34)], some (30, false)⟩,
    ⟨some 36, .not (.t 35), some (30, false)⟩,
    ⟨some 37, .pick (.t 30) (.c (.bool true)) (.t 36), none⟩])
def A_spec_l07Are.r2 : ACode := (.region none [⟨some 2, .move (.c (.bool false)), none⟩])
def A_spec_l07Are.r3 : ACode := (.region none [⟨some 38, .fieldAddr 1 (.t 1), none⟩,
    ⟨some 39, .load (some 32) (.t 38), none⟩,
    ⟨some 40, .fieldAddr 65 (.t 1), none⟩,
    ⟨some 41, .load (some 32) (.t 40), none⟩,
    ⟨some 42, .fieldAddr 0 (.t 1), none⟩,
    ⟨some 43, .load none (.t 42), none⟩,
    ⟨some 44, .call 202 [(.t 39), (.t 41), (.t 43)], none⟩,
    ⟨some 3, .alloc (List.replicate 32 (.int .u8 0)), none⟩,
    ⟨none, .store 32 (.t 3) (.t 44), none⟩])
def A_spec_l07Are.r4 : ACode := (.region (some 30) [⟨some 45, .load (some 32) (.t 3), none⟩,
    ⟨some 46, .fieldAddr 65 (.t 1), none⟩,
    ⟨some 47, .load (some 32) (.t 46), none⟩,
    ⟨some 48, .fieldAddr 1 (.t 1), none⟩,
    ⟨some 49, .load (some 32) (.t 48), none⟩,
    ⟨some 50, .fieldAddr 0 (.t 1), none⟩,
    ⟨some 51, .load none (.t 50), none⟩,
    ⟨some 52, .call 202 [(.t 47), (.t 49), (.t 51)], none⟩,
    ⟨some 53, .eqa false 32 (.t 45) (.t 52), none⟩,
    ⟨some 54, .move (.t 53), none⟩,
    ⟨some 55, .load (some 32) (.t 3), some (54, true)⟩,
    ⟨some 56, .fieldAddr 0 (.t 1), some (54, true)⟩,
    ⟨some 57, .load none (.t 56), some (54, true)⟩,
    ⟨some 58, .call 204 [(.t 55), (.t 57)], some (54, true)⟩,
    ⟨some 59, .pick (.t 54) (.t 58) (.c (.bool false)), none⟩,
    ⟨some 60, .move (.t 59), none⟩,
    ⟨some 61, .fieldAddr 1 (.t 1), some (60, true)⟩,
    ⟨some 62, .load (some 32) (.t 61), some (60, true)⟩,
    ⟨some 63, .fieldAddr 33 (.t 1), some (60, true)⟩,
    ⟨some 64, .load (some 32) (.t 63), some (60, true)⟩,
    ⟨some 65, .fieldAddr 65 (.t 1), some (60, true)⟩,
    ⟨some 66, .load (some 32) (.t 65), some (60, true)⟩,
    ⟨some 67, .buildSlice 32 3 (List.replicate 32 (.int .u8 0)) [(0, 32, (.t 62)), (32, 32, (.t 64)), (64, 32, (.t 66))], some (60, true)⟩,
    ⟨some 68, .fieldAddr 0 (.t 1), some (60, true)⟩,
    ⟨some 69, .load none (.t 68), some (60, true)⟩,
    ⟨some 70, .call 205 [(.t 67), (.t 69)], some (60, true)⟩,
    ⟨some 71, .len (.t 70), some (60, true)⟩,
    ⟨some 72, .bin .eql (.t 71) (.c (.int .i64 1)), some (60, true)⟩,
    ⟨some 73, .pick (.t 60) (.t 72) (.c (.bool false)), none⟩,
    ⟨some 2, .move (.t 73), none⟩])
def A_spec_l07Are : AFunc := ⟨[.tmp 2], (.seq A_spec_l07Are.r0 (.seq (.seq A_spec_l07Are.r1 (.cond (.t 37) (.seq A_spec_l07Are.r2 .ret) .skip)) (.seq A_spec_l07Are.r3 (.seq A_spec_l07Are.r4 .ret))))⟩
/-! laws_toByteA32 -/
def A_laws_toByteA32.r0 : ACode := (.region none [⟨some 1, .box (.t 0), none⟩,
    ⟨some 2, .alloc (List.replicate 32 (.int .u8 0)), none⟩])
def A_laws_toByteA32.r1 : ACode := (.region none [⟨some 3, .alloc (List.replicate 32 (.int .u8 0)), none⟩])
def A_laws_toByteA32.r2 : ACode := (.region none [⟨some 4, .move (.c (.int .i64 0)), none⟩])
def A_laws_toByteA32.r3 : ACode := (.region none [⟨some 5, .move (.t 4), none⟩,
    ⟨some 6, .bin .lss (.t 5) (.c (.int .i64 32)), none⟩])
def A_laws_toByteA32.r5 : ACode := (.region none [⟨some 9, .move (.t 4), none⟩,
    ⟨some 10, .move (.t 4), none⟩,
    ⟨some 11, .indexAddr (some 32) 1 (.t 1) (.t 10), none⟩,
    ⟨some 12, .load none (.t 11), none⟩,
    ⟨some 13, .indexAddr (some 32) 1 (.t 3) (.t 9), none⟩,
    ⟨none, .store 1 (.t 13) (.t 12), none⟩])
def A_laws_toByteA32.r4 : ACode := (.region none [⟨some 7, .move (.t 4), none⟩,
    ⟨some 8, .bin .add (.t 7) (.c (.int .i64 1)), none⟩,
    ⟨some 4, .move (.t 8), none⟩])
def A_laws_toByteA32.l0 : ACode := (.seq (.seq A_laws_toByteA32.r3 (.cond (.t 6) .skip (.exit 0))) (.seq (.block 1 A_laws_toByteA32.r5) A_laws_toByteA32.r4))
def A_laws_toByteA32.r6 : ACode := (.region none [⟨some 14, .load (some 32) (.t 3), none⟩,
    ⟨none, .store 32 (.t 2) (.t 14), none⟩])
def A_laws_toByteA32 : AFunc := ⟨[.cell 2 (some 32)], (.seq A_laws_toByteA32.r0 (.seq A_laws_toByteA32.r1 (.seq (.seq A_laws_toByteA32.r2 (.block 0 (.loop A_laws_toByteA32.l0))) (.seq A_laws_toByteA32.r6 .ret))))⟩
/-! impl_orbits -/
def A_impl_orbits.r0 : ACode := (.region none [⟨some 4, .move (.c (.slice none 0 0)), none⟩])
def A_impl_orbits.r1 : ACode := (.region none [⟨some 13, .build (List.replicate 32 (.bool false)) [], none⟩,
    ⟨some 5, .alloc (List.replicate 32 (.bool false)), none⟩,
    ⟨none, .store 32 (.t 5) (.t 13), none⟩])
def A_impl_orbits.r2 : ACode := (.region none [⟨some 14, .buildSlice 1 0 [.int .i64 0] [], none⟩,
    ⟨some 6, .move (.t 14), none⟩])
def A_impl_orbits.r3 : ACode := (.region none [⟨some 15, .move (.t 0), none⟩,
    ⟨some 16, .move (.c (.int .i64 0)), none⟩])
def A_impl_orbits.r4 : ACode := (.region none [⟨some 17, .bin .lss (.t 16) (.t 15), none⟩])
def A_impl_orbits.r5 : ACode := (.region none [⟨some 18, .move (.t 16), none⟩,
    ⟨some 7, .move (.t 18), none⟩])
def A_impl_orbits.r6 : ACode := (.region none [⟨some 19, .move (.t 7), none⟩,
    ⟨some 20, .indexAddr (some 32) 1 (.t 5) (.t 19), none⟩,
    ⟨some 21, .load none (.t 20), none⟩])
def A_impl_orbits.r7 : ACode := (.region none [⟨some 22, .move (.t 7), none⟩,
    ⟨some 23, .indexAddr (some 32) 1 (.t 5) (.t 22), none⟩,
    ⟨none, .store 1 (.t 23) (.c (.bool true)), none⟩])
def A_impl_orbits.r8 : ACode := (.region none [⟨some 24, .move (.t 7), none⟩,
    ⟨some 25, .conv .u8 (.t 24), none⟩,
    ⟨some 26, .buildSlice 1 1 [.int .u8 0] [(0, 1, (.t 25))], none⟩,
    ⟨some 8, .move (.t 26), none⟩])
def A_impl_orbits.r9 : ACode := (.region none [⟨some 9, .move (.c (.int .i64 0)), none⟩])
def A_impl_orbits.r10 : ACode := (.region none [⟨some 27, .move (.t 9), none⟩,
    ⟨some 28, .move (.t 8), none⟩,
    ⟨some 29, .len (.t 28), none⟩,
    ⟨some 30, .bin .lss (.t 27) (.t 29), none⟩])
def A_impl_orbits.r12 : ACode := (.region none [⟨some 33, .move (.t 1), none⟩,
    ⟨some 34, .len (.t 33), none⟩,
    ⟨some 35, .move (.c (.int .i64 0)), none⟩])
def A_impl_orbits.r13 : ACode := (.region none [⟨some 36, .bin .lss (.t 35) (.t 34), none⟩])
def A_impl_orbits.r14 : ACode := (.region none [⟨some 37, .indexAddr none 32 (.t 33) (.t 35), none⟩,
    ⟨some 38, .load (some 32) (.t 37), none⟩,
    ⟨some 11, .alloc (List.replicate 32 (.int .u8 0)), none⟩,
    ⟨none, .store 32 (.t 11) (.t 38), none⟩])
def A_impl_orbits.r15 : ACode := (.region none [⟨some 39, .move (.t 8), none⟩,
    ⟨some 40, .move (.t 9), none⟩,
    ⟨some 41, .indexAddr none 1 (.t 39) (.t 40), none⟩,
    ⟨some 42, .load none (.t 41), none⟩,
    ⟨some 43, .indexAddr (some 32) 1 (.t 11) (.t 42), none⟩,
    ⟨some 44, .load none (.t 43), none⟩,
    ⟨some 12, .move (.t 44), none⟩])
def A_impl_orbits.r16 : ACode := (.region none [⟨some 45, .move (.t 12), none⟩,
    ⟨some 46, .indexAddr (some 32) 1 (.t 5) (.t 45), none⟩,
    ⟨some 47, .load none (.t 46), none⟩,
    ⟨some 48, .not (.t 47), none⟩])
def A_impl_orbits.r17 : ACode := (.region none [⟨some 49, .move (.t 12), none⟩,
    ⟨some 50, .indexAddr (some 32) 1 (.t 5) (.t 49), none⟩,
    ⟨none, .store 1 (.t 50) (.c (.bool true)), none⟩])
def A_impl_orbits.r18 : ACode := (.region none [⟨some 51, .move (.t 8), none⟩,
    ⟨some 52, .move (.t 12), none⟩,
    ⟨some 53, .buildSlice 1 1 [.int .u8 0] [(0, 1, (.t 52))], none⟩,
    ⟨some 54, .append 1 1 (.t 51) (.t 53), none⟩,
    ⟨some 8, .move (.t 54), none⟩])
def A_impl_orbits.r19 : ACode := (.region none [⟨some 55, .bin .add (.t 35) (.c (.int .i64 1)), none⟩,
    ⟨some 35, .move (.t 55), none⟩])
def A_impl_orbits.l0 : ACode := (.seq A_impl_orbits.r13 (.seq (.cond (.t 36) .skip (.exit 4)) (.seq (.block 5 (.seq A_impl_orbits.r14 (.seq A_impl_orbits.r15 (.seq A_impl_orbits.r16 (.cond (.t 48) (.seq A_impl_orbits.r17 A_impl_orbits.r18) .skip))))) A_impl_orbits.r19)))
def A_impl_orbits.r11 : ACode := (.region none [⟨some 31, .move (.t 9), none⟩,
    ⟨some 32, .bin .add (.t 31) (.c (.int .i64 1)), none⟩,
    ⟨some 9, .move (.t 32), none⟩])
def A_impl_orbits.l1 : ACode := (.seq (.seq A_impl_orbits.r10 (.cond (.t 30) .skip (.exit 2))) (.seq (.block 3 (.seq A_impl_orbits.r12 (.block 4 (.loop A_impl_orbits.l0)))) A_impl_orbits.r11))
def A_impl_orbits.r20 : ACode := (.region none [⟨some 56, .move (.t 6), none⟩,
    ⟨some 57, .move (.t 8), none⟩,
    ⟨some 58, .len (.t 57), none⟩,
    ⟨some 59, .buildSlice 1 1 [.int .i64 0] [(0, 1, (.t 58))], none⟩,
    ⟨some 60, .append 1 8 (.t 56) (.t 59), none⟩,
    ⟨some 6, .move (.t 60), none⟩])
def A_impl_orbits.r21 : ACode := (.region none [⟨some 61, .bin .add (.t 16) (.c (.int .i64 1)), none⟩,
    ⟨some 16, .move (.t 61), none⟩])
def A_impl_orbits.l2 : ACode := (.seq A_impl_orbits.r4 (.seq (.cond (.t 17) .skip (.exit 0)) (.seq (.block 1 (.seq A_impl_orbits.r5 (.seq (.seq A_impl_orbits.r6 (.cond (.t 21) (.exit 1) .skip)) (.seq A_impl_orbits.r7 (.seq A_impl_orbits.r8 (.seq (.seq A_impl_orbits.r9 (.block 2 (.loop A_impl_orbits.l1))) A_impl_orbits.r20)))))) A_impl_orbits.r21)))
def A_impl_orbits.r22 : ACode := (.region none [⟨some 62, .move (.t 6), none⟩,
    ⟨some 4, .move (.t 62), none⟩])
def A_impl_orbits : AFunc := ⟨[.tmp 4], (.seq A_impl_orbits.r0 (.seq A_impl_orbits.r1 (.seq A_impl_orbits.r2 (.seq (.seq A_impl_orbits.r3 (.block 0 (.loop A_impl_orbits.l2))) (.seq A_impl_orbits.r22 .ret)))))⟩
/-! spec_l07Degrees -/
def A_spec_l07Degrees.r0 : ACode := (.region none [⟨some 2, .box (.t 0), none⟩,
    ⟨some 3, .box (.t 1), none⟩,
    ⟨some 4, .move (.c (.slice none 0 0)), none⟩])
def A_spec_l07Degrees.r1 : ACode := (.region none [⟨some 11, .fieldAddr 33 (.t 2), none⟩,
    ⟨some 12, .load (some 32) (.t 11), none⟩,
    ⟨some 13, .load (some 32) (.t 3), none⟩,
    ⟨some 14, .buildSlice 32 2 (List.replicate 32 (.int .u8 0)) [(0, 32, (.t 12)), (32, 32, (.t 13))], none⟩,
    ⟨some 15, .fieldAddr 0 (.t 2), none⟩,
    ⟨some 16, .load none (.t 15), none⟩,
    ⟨some 17, .call 205 [(.t 14), (.t 16)], none⟩,
    ⟨some 18, .build (List.replicate 33 (.int .i64 0)) [], none⟩,
    ⟨some 19, .buildSlice 1 0 [.int .i64 0] [], none⟩,
    ⟨some 6, .alloc (List.replicate 33 (.int .i64 0)), none⟩,
    ⟨some 5, .move (.t 17), none⟩,
    ⟨none, .store 33 (.t 6) (.t 18), none⟩,
    ⟨some 7, .move (.t 19), none⟩])
def A_spec_l07Degrees.r2 : ACode := (.region none [⟨some 8, .move (.c (.int .i64 0)), none⟩])
def A_spec_l07Degrees.r3 : ACode := (.region none [⟨some 20, .move (.t 8), none⟩,
    ⟨some 21, .move (.t 5), none⟩,
    ⟨some 22, .len (.t 21), none⟩,
    ⟨some 23, .bin .lss (.t 20) (.t 22), none⟩])
def A_spec_l07Degrees.r5 : ACode := (.region none [⟨some 26, .move (.t 5), none⟩,
    ⟨some 27, .move (.t 8), none⟩,
    ⟨some 28, .indexAddr none 1 (.t 26) (.t 27), none⟩,
    ⟨some 29, .load none (.t 28), none⟩,
    ⟨some 30, .indexAddr (some 33) 1 (.t 6) (.t 29), none⟩,
    ⟨some 31, .load none (.t 30), none⟩,
    ⟨some 32, .bin .add (.t 31) (.c (.int .i64 1)), none⟩,
    ⟨some 33, .indexAddr (some 33) 1 (.t 6) (.t 29), none⟩,
    ⟨none, .store 1 (.t 33) (.t 32), none⟩])
def A_spec_l07Degrees.r4 : ACode := (.region none [⟨some 24, .move (.t 8), none⟩,
    ⟨some 25, .bin .add (.t 24) (.c (.int .i64 1)), none⟩,
    ⟨some 8, .move (.t 25), none⟩])
def A_spec_l07Degrees.l0 : ACode := (.seq (.seq A_spec_l07Degrees.r3 (.cond (.t 23) .skip (.exit 0))) (.seq (.block 1 A_spec_l07Degrees.r5) A_spec_l07Degrees.r4))
def A_spec_l07Degrees.r6 : ACode := (.region none [⟨some 9, .move (.c (.int .i64 32)), none⟩])
def A_spec_l07Degrees.r7 : ACode := (.region none [⟨some 34, .move (.t 9), none⟩,
    ⟨some 35, .bin .gtr (.t 34) (.c (.int .i64 0)), none⟩])
def A_spec_l07Degrees.r9 : ACode := (.region none [⟨some 38, .move (.t 9), none⟩,
    ⟨some 39, .indexAddr (some 33) 1 (.t 6) (.t 38), none⟩,
    ⟨some 40, .load none (.t 39), none⟩,
    ⟨some 10, .move (.t 40), none⟩])
def A_spec_l07Degrees.r10 : ACode := (.region none [⟨some 41, .move (.t 10), none⟩,
    ⟨some 42, .bin .gtr (.t 41) (.c (.int .i64 0)), none⟩])
def A_spec_l07Degrees.r12 : ACode := (.region none [⟨some 45, .move (.t 7), none⟩,
    ⟨some 46, .move (.t 9), none⟩,
    ⟨some 47, .bin .quo (.t 46) (.c (.int .i64 2)), none⟩,
    ⟨some 48, .buildSlice 1 1 [.int .i64 0] [(0, 1, (.t 47))], none⟩,
    ⟨some 49, .append 1 8 (.t 45) (.t 48), none⟩,
    ⟨some 7, .move (.t 49), none⟩])
def A_spec_l07Degrees.r11 : ACode := (.region none [⟨some 43, .move (.t 10), none⟩,
    ⟨some 44, .bin .sub (.t 43) (.c (.int .i64 1)), none⟩,
    ⟨some 10, .move (.t 44), none⟩])
def A_spec_l07Degrees.l1 : ACode := (.seq (.seq A_spec_l07Degrees.r10 (.cond (.t 42) .skip (.exit 4))) (.seq (.block 5 A_spec_l07Degrees.r12) A_spec_l07Degrees.r11))
def A_spec_l07Degrees.r8 : ACode := (.region none [⟨some 36, .move (.t 9), none⟩,
    ⟨some 37, .bin .sub (.t 36) (.c (.int .i64 1)), none⟩,
    ⟨some 9, .move (.t 37), none⟩])
def A_spec_l07Degrees.l2 : ACode := (.seq (.seq A_spec_l07Degrees.r7 (.cond (.t 35) .skip (.exit 2))) (.seq (.block 3 (.seq A_spec_l07Degrees.r9 (.block 4 (.loop A_spec_l07Degrees.l1)))) A_spec_l07Degrees.r8))
def A_spec_l07Degrees.r13 : ACode := (.region none [⟨some 50, .move (.t 7), none⟩,
    ⟨some 4, .move (.t 50), none⟩])
def A_spec_l07Degrees : AFunc := ⟨[.tmp 4], (.seq A_spec_l07Degrees.r0 (.seq A_spec_l07Degrees.r1 (.seq (.seq A_spec_l07Degrees.r2 (.block 0 (.loop A_spec_l07Degrees.l0))) (.seq (.seq A_spec_l07Degrees.r6 (.block 2 (.loop A_spec_l07Degrees.l2))) (.seq A_spec_l07Degrees.r13 .ret)))))⟩
/-! spec_l01Is -/
def A_spec_l01Is.r0 : ACode := (.region none [⟨some 1, .box (.t 0), none⟩,
    ⟨some 2, .move (.c (.bool false)), none⟩])
def A_spec_l01Is.r1 : ACode := (.region none [⟨some 3, .fieldAddr 1 (.t 1), none⟩,
    ⟨some 4, .load (some 16) (.t 3), none⟩,
    ⟨some 5, .fieldAddr 0 (.t 1), none⟩,
    ⟨some 6, .load none (.t 5), none⟩,
    ⟨some 7, .call 206 [(.t 4), (.t 6)], none⟩,
    ⟨some 8, .move (.t 7), none⟩,
    ⟨some 9, .fieldAddr 17 (.t 1), some (8, true)⟩,
    ⟨some 10, .load (some 16) (.t 9), some (8, true)⟩,
    ⟨some 11, .fieldAddr 0 (.t 1), some (8, true)⟩,
    ⟨some 12, .load none (.t 11), some (8, true)⟩,
    ⟨some 13, .call 206 [(.t 10), (.t 12)], some (8, true)⟩,
    ⟨some 14, .pick (.t 8) (.t 13) (.c (.bool false)), none⟩,
    ⟨some 15, .move (.t 14), none⟩,
    ⟨some 16, .fieldAddr 0 (.t 1), some (15, true)⟩,
    ⟨some 17, .load none (.t 16), some (15, true)⟩,
    ⟨some 18, .fieldAddr 1 (.t 1), some (15, true)⟩,
    ⟨some 19, .load (some 16) (.t 18), some (15, true)⟩,
    ⟨some 20, .fieldAddr 17 (.t 1), some (15, true)⟩,
    ⟨some 21, .load (some 16) (.t 20), some (15, true)⟩,
    ⟨some 22, .call 207 [(.t 17), (.t 19), (.t 21)], some (15, true)⟩,
    ⟨some 23, .pick (.t 15) (.t 22) (.c (.bool false)), none⟩,
    ⟨some 2, .move (.t 23), none⟩])
def A_spec_l01Is : AFunc := ⟨[.tmp 2], (.seq A_spec_l01Is.r0 (.seq A_spec_l01Is.r1 .ret))⟩
/-! spec_l07Mirror -/
def A_spec_l07Mirror.r0 : ACode := (.region none [⟨some 1, .box (.t 0), none⟩,
    ⟨some 2, .alloc ([.int .i64 0] ++ List.replicate 32 (.int .u8 0)), none⟩])
def A_spec_l07Mirror.r1 : ACode := (.region (some 13) [⟨some 3, .fieldAddr 0 (.t 1), none⟩,
    ⟨some 4, .load none (.t 3), none⟩,
    ⟨some 5, .fieldAddr 1 (.t 1), none⟩,
    ⟨some 6, .load (some 16) (.t 5), none⟩,
    ⟨some 7, .fieldAddr 0 (.t 1), none⟩,
    ⟨some 8, .load none (.t 7), none⟩,
    ⟨some 9, .call 208 [(.t 6), (.t 8)], none⟩,
    ⟨some 10, .fieldAddr 17 (.t 1), none⟩,
    ⟨some 11, .load (some 16) (.t 10), none⟩,
    ⟨some 12, .fieldAddr 0 (.t 1), none⟩,
    ⟨some 13, .load none (.t 12), none⟩,
    ⟨some 14, .call 208 [(.t 11), (.t 13)], none⟩,
    ⟨some 15, .build ([.int .i64 0] ++ List.replicate 32 (.int .u8 0)) [(0, 1, (.t 4)), (1, 16, (.t 9)), (17, 16, (.t 14))], none⟩,
    ⟨none, .store 33 (.t 2) (.t 15), none⟩])
def A_spec_l07Mirror : AFunc := ⟨[.cell 2 (some 33)], (.seq A_spec_l07Mirror.r0 (.seq A_spec_l07Mirror.r1 .ret))⟩
/-! laws_toPlaces -/
def A_laws_toPlaces.r0 : ACode := (.region none [⟨some 1, .box (.t 0), none⟩,
    ⟨some 2, .alloc (List.replicate 16 (.int .u8 0)), none⟩])
def A_laws_toPlaces.r1 : ACode := (.region none [⟨some 3, .alloc (List.replicate 16 (.int .u8 0)), none⟩])
def A_laws_toPlaces.r2 : ACode := (.region none [⟨some 4, .move (.c (.int .i64 0)), none⟩])
def A_laws_toPlaces.r3 : ACode := (.region none [⟨some 5, .move (.t 4), none⟩,
    ⟨some 6, .bin .lss (.t 5) (.c (.int .i64 16)), none⟩])
def A_laws_toPlaces.r5 : ACode := (.region none [⟨some 9, .move (.t 4), none⟩,
    ⟨some 10, .move (.t 4), none⟩,
    ⟨some 11, .indexAddr (some 16) 1 (.t 1) (.t 10), none⟩,
    ⟨some 12, .load none (.t 11), none⟩,
    ⟨some 13, .indexAddr (some 16) 1 (.t 3) (.t 9), none⟩,
    ⟨none, .store 1 (.t 13) (.t 12), none⟩])
def A_laws_toPlaces.r4 : ACode := (.region none [⟨some 7, .move (.t 4), none⟩,
    ⟨some 8, .bin .add (.t 7) (.c (.int .i64 1)), none⟩,
    ⟨some 4, .move (.t 8), none⟩])
def A_laws_toPlaces.l0 : ACode := (.seq (.seq A_laws_toPlaces.r3 (.cond (.t 6) .skip (.exit 0))) (.seq (.block 1 A_laws_toPlaces.r5) A_laws_toPlaces.r4))
def A_laws_toPlaces.r6 : ACode := (.region none [⟨some 14, .load (some 16) (.t 3), none⟩,
    ⟨none, .store 16 (.t 2) (.t 14), none⟩])
def A_laws_toPlaces : AFunc := ⟨[.cell 2 (some 16)], (.seq A_laws_toPlaces.r0 (.seq A_laws_toPlaces.r1 (.seq (.seq A_laws_toPlaces.r2 (.block 0 (.loop A_laws_toPlaces.l0))) (.seq A_laws_toPlaces.r6 .ret))))⟩
/-! impl_IsDessin -/
def A_impl_IsDessin.r0 : ACode := (.region none [⟨some 1, .box (.t 0), none⟩,
    ⟨some 2, .move (.c (.bool false)), none⟩])
def A_impl_IsDessin.r1 : ACode := (.region none [⟨some 4, .fieldAddr 0 (.t 1), none⟩,
    ⟨some 5, .load none (.t 4), none⟩,
    ⟨some 3, .move (.t 5), none⟩])
def A_impl_IsDessin.r2 : ACode := (.region none [⟨some 6, .fieldAddr 1 (.t 1), none⟩,
    ⟨some 7, .load (some 16) (.t 6), none⟩,
    ⟨some 8, .move (.t 3), none⟩,
    ⟨some 9, .call 209 [(.t 7), (.t 8)], none⟩,
    ⟨some 10, .move (.t 9), none⟩,
    ⟨some 11, .fieldAddr 17 (.t 1), some (10, true)⟩,
    ⟨some 12, .load (some 16) (.t 11), some (10, true)⟩,
    ⟨some 13, .move (.t 3), some (10, true)⟩,
    ⟨some 14, .call 209 [(.t 12), (.t 13)], some (10, true)⟩,
    ⟨some 15, .pick (.t 10) (.t 14) (.c (.bool false)), none⟩,
    ⟨some 16, .move (.t 15), none⟩,
    ⟨some 17, .move (.t 3), some (16, true)⟩,
    ⟨some 18, .fieldAddr 1 (.t 1), some (16, true)⟩,
    ⟨some 19, .load (some 16) (.t 18), some (16, true)⟩,
    ⟨some 20, .fieldAddr 17 (.t 1), some (16, true)⟩,
    ⟨some 21, .load (some 16) (.t 20), some (16, true)⟩,
    ⟨some 22, .buildSlice 16 2 (List.replicate 16 (.int .u8 0)) [(0, 16, (.t 19)), (16, 16, (.t 21))], some (16, true)⟩,
    ⟨some 23, .call 210 [(.t 17), (.t 22)], some (16, true)⟩,
    ⟨some 24, .move (.t 3), some (16, true)⟩,
    ⟨some 25, .bin .eql (.t 23) (.t 24), some (16, true)⟩,
    ⟨some 26, .pick (.t 16) (.t 25) (.c (.bool false)), none⟩,
    ⟨some 2, .move (.t 26), none⟩])
def A_impl_IsDessin : AFunc := ⟨[.tmp 2], (.seq A_impl_IsDessin.r0 (.seq A_impl_IsDessin.r1 (.seq A_impl_IsDessin.r2 .ret)))⟩
/-! impl_mirror -/
def A_impl_mirror.r0 : ACode := (.region none [⟨some 1, .box (.t 0), none⟩,
    ⟨some 2, .alloc ([.int .i64 0] ++ List.replicate 32 (.int .u8 0)), none⟩])
def A_impl_mirror.r1 : ACode := (.region (some 13) [⟨some 3, .fieldAddr 0 (.t 1), none⟩,
    ⟨some 4, .load none (.t 3), none⟩,
    ⟨some 5, .fieldAddr 1 (.t 1), none⟩,
    ⟨some 6, .load (some 16) (.t 5), none⟩,
    ⟨some 7, .fieldAddr 0 (.t 1), none⟩,
    ⟨some 8, .load none (.t 7), none⟩,
    ⟨some 9, .call 211 [(.t 6), (.t 8)], none⟩,
    ⟨some 10, .fieldAddr 17 (.t 1), none⟩,
    ⟨some 11, .load (some 16) (.t 10), none⟩,
    ⟨some 12, .fieldAddr 0 (.t 1), none⟩,
    ⟨some 13, .load none (.t 12), none⟩,
    ⟨some 14, .call 211 [(.t 11), (.t 13)], none⟩,
    ⟨some 15, .build ([.int .i64 0] ++ List.replicate 32 (.int .u8 0)) [(0, 1, (.t 4)), (1, 16, (.t 9)), (17, 16, (.t 14))], none⟩,
    ⟨none, .store 33 (.t 2) (.t 15), none⟩])
def A_impl_mirror : AFunc := ⟨[.cell 2 (some 33)], (.seq A_impl_mirror.r0 (.seq A_impl_mirror.r1 .ret))⟩
/-! laws_eqPlaces -/
def A_laws_eqPlaces.r0 : ACode := (.region none [⟨some 2, .box (.t 0), none⟩,
    ⟨some 3, .box (.t 1), none⟩,
    ⟨some 4, .move (.c (.bool false)), none⟩])
def A_laws_eqPlaces.r1 : ACode := (.region none [⟨some 5, .move (.c (.int .i64 0)), none⟩])
def A_laws_eqPlaces.r2 : ACode := (.region none [⟨some 6, .move (.t 5), none⟩,
    ⟨some 7, .bin .lss (.t 6) (.c (.int .i64 16)), none⟩])
def A_laws_eqPlaces.r4 : ACode := (.region (some 7) [⟨some 10, .move (.t 5), none⟩,
    ⟨some 11, .indexAddr (some 16) 1 (.t 2) (.t 10), none⟩,
    ⟨some 12, .load none (.t 11), none⟩,
    ⟨some 13, .move (.t 5), none⟩,
    ⟨some 14, .indexAddr (some 16) 1 (.t 3) (.t 13), none⟩,
    ⟨some 15, .load none (.t 14), none⟩,
    ⟨some 16, .bin .neq (.t 12) (.t 15), none⟩])
def A_laws_eqPlaces.r5 : ACode := (.region none [⟨some 4, .move (.c (.bool false)), none⟩])
def A_laws_eqPlaces.r3 : ACode := (.region none [⟨some 8, .move (.t 5), none⟩,
    ⟨some 9, .bin .add (.t 8) (.c (.int .i64 1)), none⟩,
    ⟨some 5, .move (.t 9), none⟩])
def A_laws_eqPlaces.l0 : ACode := (.seq (.seq A_laws_eqPlaces.r2 (.cond (.t 7) .skip (.exit 0))) (.seq (.block 1 (.seq A_laws_eqPlaces.r4 (.cond (.t 16) (.seq A_laws_eqPlaces.r5 .ret) .skip))) A_laws_eqPlaces.r3))
def A_laws_eqPlaces.r6 : ACode := (.region none [⟨some 4, .move (.c (.bool true)), none⟩])
def A_laws_eqPlaces : AFunc := ⟨[.tmp 4], (.seq A_laws_eqPlaces.r0 (.seq (.seq A_laws_eqPlaces.r1 (.block 0 (.loop A_laws_eqPlaces.l0))) (.seq A_laws_eqPlaces.r6 .ret)))⟩
/-! spec_l01In -/
def A_spec_l01In.r0 : ACode := (.region none [⟨some 6, .move (.c (.bool false)), none⟩])
def A_spec_l01In.r1 : ACode := (.region none [⟨some 7, .move (.t 0), none⟩,
    ⟨some 8, .move (.t 1), none⟩,
    ⟨some 9, .bin .geq (.t 7) (.t 8), none⟩,
    ⟨some 10, .move (.t 9), none⟩,
    ⟨some 11, .move (.t 0), some (10, true)⟩,
    ⟨some 12, .move (.t 2), some (10, true)⟩,
    ⟨some 13, .bin .leq (.t 11) (.t 12), some (10, true)⟩,
    ⟨some 14, .pick (.t 10) (.t 13) (.c (.bool false)), none⟩,
    ⟨some 6, .move (.t 14), none⟩])
def A_spec_l01In : AFunc := ⟨[.tmp 6], (.seq A_spec_l01In.r0 (.seq A_spec_l01In.r1 .ret))⟩
/-! spec_l01Face -/
def A_spec_l01Face.r0 : ACode := (.region none [⟨some 1, .box (.t 0), none⟩,
    ⟨some 2, .alloc (List.replicate 16 (.int .u8 0)), none⟩])
def A_spec_l01Face.r1 : ACode := (.region (some 10) [⟨some 3, .fieldAddr 1 (.t 1), none⟩,
    ⟨some 4, .load (some 16) (.t 3), none⟩,
    ⟨some 5, .fieldAddr 17 (.t 1), none⟩,
    ⟨some 6, .load (some 16) (.t 5), none⟩,
    ⟨some 7, .fieldAddr 0 (.t 1), none⟩,
    ⟨some 8, .load none (.t 7), none⟩,
    ⟨some 9, .call 212 [(.t 4), (.t 6), (.t 8)], none⟩,
    ⟨some 10, .fieldAddr 0 (.t 1), none⟩,
    ⟨some 11, .load none (.t 10), none⟩,
    ⟨some 12, .call 208 [(.t 9), (.t 11)], none⟩,
    ⟨none, .store 16 (.t 2) (.t 12), none⟩])
def A_spec_l01Face : AFunc := ⟨[.cell 2 (some 16)], (.seq A_spec_l01Face.r0 (.seq A_spec_l01Face.r1 .ret))⟩
/-! impl_face -/
def A_impl_face.r0 : ACode := (.region none [⟨some 1, .box (.t 0), none⟩,
    ⟨some 2, .alloc (List.replicate 16 (.int .u8 0)), none⟩])
def A_impl_face.r1 : ACode := (.region (some 10) [⟨some 3, .fieldAddr 1 (.t 1), none⟩,
    ⟨some 4, .load (some 16) (.t 3), none⟩,
    ⟨some 5, .fieldAddr 17 (.t 1), none⟩,
    ⟨some 6, .load (some 16) (.t 5), none⟩,
    ⟨some 7, .fieldAddr 0 (.t 1), none⟩,
    ⟨some 8, .load none (.t 7), none⟩,
    ⟨some 9, .call 213 [(.t 4), (.t 6), (.t 8)], none⟩,
    ⟨some 10, .fieldAddr 0 (.t 1), none⟩,
    ⟨some 11, .load none (.t 10), none⟩,
    ⟨some 12, .call 211 [(.t 9), (.t 11)], none⟩,
    ⟨none, .store 16 (.t 2) (.t 12), none⟩])
def A_impl_face : AFunc := ⟨[.cell 2 (some 16)], (.seq A_impl_face.r0 (.seq A_impl_face.r1 .ret))⟩
/-! spec_l07Both -/
def A_spec_l07Both.r0 : ACode := (.region none [⟨some 3, .box (.t 0), none⟩,
    ⟨some 4, .box (.t 1), none⟩,
    ⟨some 6, .alloc (List.replicate 32 (.int .u8 0)), none⟩])
def A_spec_l07Both.r1 : ACode := (.region none [⟨some 9, .build (List.replicate 32 (.int .u8 0)) [], none⟩,
    ⟨some 7, .alloc (List.replicate 32 (.int .u8 0)), none⟩,
    ⟨none, .store 32 (.t 7) (.t 9), none⟩])
def A_spec_l07Both.r2 : ACode := (.region none [⟨some 8, .move (.c (.int .i64 0)), none⟩])
def A_spec_l07Both.r3 : ACode := (.region none [⟨some 10, .move (.t 8), none⟩,
    ⟨some 11, .move (.t 2), none⟩,
    ⟨some 12, .bin .lss (.t 10) (.t 11), none⟩])
def A_spec_l07Both.r5 : ACode := (.region none [⟨some 15, .move (.t 8), none⟩,
    ⟨some 16, .move (.t 8), none⟩,
    ⟨some 17, .indexAddr (some 32) 1 (.t 3) (.t 16), none⟩,
    ⟨some 18, .load none (.t 17), none⟩,
    ⟨some 19, .indexAddr (some 32) 1 (.t 4) (.t 18), none⟩,
    ⟨some 20, .load none (.t 19), none⟩,
    ⟨some 21, .indexAddr (some 32) 1 (.t 7) (.t 15), none⟩,
    ⟨none, .store 1 (.t 21) (.t 20), none⟩])
def A_spec_l07Both.r4 : ACode := (.region none [⟨some 13, .move (.t 8), none⟩,
    ⟨some 14, .bin .add (.t 13) (.c (.int .i64 1)), none⟩,
    ⟨some 8, .move (.t 14), none⟩])
def A_spec_l07Both.l0 : ACode := (.seq (.seq A_spec_l07Both.r3 (.cond (.t 12) .skip (.exit 0))) (.seq (.block 1 A_spec_l07Both.r5) A_spec_l07Both.r4))
def A_spec_l07Both.r6 : ACode := (.region none [⟨some 22, .load (some 32) (.t 7), none⟩,
    ⟨none, .store 32 (.t 6) (.t 22), none⟩])
def A_spec_l07Both : AFunc := ⟨[.cell 6 (some 32)], (.seq A_spec_l07Both.r0 (.seq A_spec_l07Both.r1 (.seq (.seq A_spec_l07Both.r2 (.block 0 (.loop A_spec_l07Both.l0))) (.seq A_spec_l07Both.r6 .ret))))⟩
/-! spec_l07Pairs -/
def A_spec_l07Pairs.r0 : ACode := (.region none [⟨some 2, .box (.t 0), none⟩,
    ⟨some 4, .move (.c (.bool false)), none⟩])
def A_spec_l07Pairs.r1 : ACode := (.region none [⟨some 5, .move (.c (.int .i64 0)), none⟩])
def A_spec_l07Pairs.r2 : ACode := (.region none [⟨some 7, .move (.t 5), none⟩,
    ⟨some 8, .bin .lss (.t 7) (.c (.int .i64 32)), none⟩])
def A_spec_l07Pairs.r4 : ACode := (.region none [⟨some 11, .move (.t 5), none⟩,
    ⟨some 12, .indexAddr (some 32) 1 (.t 2) (.t 11), none⟩,
    ⟨some 13, .load none (.t 12), none⟩,
    ⟨some 14, .conv .i64 (.t 13), none⟩,
    ⟨some 6, .move (.t 14), none⟩])
def A_spec_l07Pairs.r5 : ACode := (.region none [⟨some 16, .move (.t 5), none⟩,
    ⟨some 17, .move (.t 1), none⟩,
    ⟨some 18, .bin .geq (.t 16) (.t 17), none⟩,
    ⟨some 15, .move (.t 18), none⟩])
def A_spec_l07Pairs.r6 : ACode := (.region none [⟨some 19, .move (.t 6), none⟩,
    ⟨some 20, .bin .neq (.t 19) (.c (.int .i64 0)), none⟩])
def A_spec_l07Pairs.r7 : ACode := (.region none [⟨some 4, .move (.c (.bool false)), none⟩])
def A_spec_l07Pairs.r8 : ACode := (.region none [⟨some 22, .move (.t 6), none⟩,
    ⟨some 23, .move (.t 1), none⟩,
    ⟨some 24, .bin .geq (.t 22) (.t 23), none⟩,
    ⟨some 25, .move (.t 24), none⟩,
    ⟨some 26, .move (.t 6), some (25, false)⟩,
    ⟨some 27, .move (.t 5), some (25, false)⟩,
    ⟨some 28, .bin .eql (.t 26) (.t 27), some (25, false)⟩,
    ⟨some 29, .pick (.t 25) (.c (.bool true)) (.t 28), none⟩,
    ⟨some 30, .move (.t 29), none⟩,
    ⟨some 31, .move (.t 6), some (30, false)⟩,
    ⟨some 32, .indexAddr (some 32) 1 (.t 2) (.t 31), some (30, false)⟩,
    ⟨some 33, .load none (.t 32), some (30, false)⟩,
    ⟨some 34, .conv .i64 (.t 33), some (30, false)⟩,
    ⟨some 35, .move (.t 5), some (30, false)⟩,
    ⟨some 36, .bin .neq (.t 34) (.t 35), some (30, false)⟩,
    ⟨some 37, .pick (.t 30) (.c (.bool true)) (.t 36), none⟩,
    ⟨some 21, .move (.t 37), none⟩])
def A_spec_l07Pairs.r9 : ACode := (.region none [⟨some 4, .move (.c (.bool false)), none⟩])
def A_spec_l07Pairs.r3 : ACode := (.region none [⟨some 9, .move (.t 5), none⟩,
    ⟨some 10, .bin .add (.t 9) (.c (.int .i64 1)), none⟩,
    ⟨some 5, .move (.t 10), none⟩])
def A_spec_l07Pairs.l0 : ACode := (.seq (.seq A_spec_l07Pairs.r2 (.cond (.t 8) .skip (.exit 0))) (.seq (.block 1 (.seq A_spec_l07Pairs.r4 (.block 2 (.seq A_spec_l07Pairs.r5 (.cond (.t 15) (.seq A_spec_l07Pairs.r6 (.cond (.t 20) (.seq A_spec_l07Pairs.r7 .ret) .skip)) (.seq A_spec_l07Pairs.r8 (.cond (.t 21) (.seq A_spec_l07Pairs.r9 .ret) .skip))))))) A_spec_l07Pairs.r3))
def A_spec_l07Pairs.r10 : ACode := (.region none [⟨some 4, .move (.c (.bool true)), none⟩])
def A_spec_l07Pairs : AFunc := ⟨[.tmp 4], (.seq A_spec_l07Pairs.r0 (.seq (.seq A_spec_l07Pairs.r1 (.block 0 (.loop A_spec_l07Pairs.l0))) (.seq A_spec_l07Pairs.r10 .ret)))⟩
/-! spec_l07Sets -/
def A_spec_l07Sets.r0 : ACode := (.region none [⟨some 4, .move (.c (.slice none 0 0)), none⟩])
def A_spec_l07Sets.r1 : ACode := (.region none [⟨some 12, .buildSlice 1 0 [.int .i64 0] [], none⟩,
    ⟨some 13, .build (List.replicate 32 (.bool false)) [], none⟩,
    ⟨some 6, .alloc (List.replicate 32 (.bool false)), none⟩,
    ⟨some 5, .move (.t 12), none⟩,
    ⟨none, .store 32 (.t 6) (.t 13), none⟩])
def A_spec_l07Sets.r2 : ACode := (.region none [⟨some 7, .move (.c (.int .i64 0)), none⟩])
def A_spec_l07Sets.r3 : ACode := (.region none [⟨some 14, .move (.t 7), none⟩,
    ⟨some 15, .move (.t 1), none⟩,
    ⟨some 16, .bin .lss (.t 14) (.t 15), none⟩])
def A_spec_l07Sets.r5 : ACode := (.region none [⟨some 19, .move (.t 7), none⟩,
    ⟨some 20, .indexAddr (some 32) 1 (.t 6) (.t 19), none⟩,
    ⟨some 21, .load none (.t 20), none⟩])
def A_spec_l07Sets.r6 : ACode := (.region none [⟨some 22, .move (.t 7), none⟩,
    ⟨some 23, .indexAddr (some 32) 1 (.t 6) (.t 22), none⟩,
    ⟨none, .store 1 (.t 23) (.c (.bool true)), none⟩])
def A_spec_l07Sets.r7 : ACode := (.region none [⟨some 24, .move (.t 7), none⟩,
    ⟨some 25, .buildSlice 1 1 [.int .i64 0] [(0, 1, (.t 24))], none⟩,
    ⟨some 8, .move (.t 25), none⟩])
def A_spec_l07Sets.r8 : ACode := (.region none [⟨some 9, .move (.c (.int .i64 0)), none⟩])
def A_spec_l07Sets.r9 : ACode := (.region none [⟨some 26, .move (.t 9), none⟩,
    ⟨some 27, .move (.t 8), none⟩,
    ⟨some 28, .len (.t 27), none⟩,
    ⟨some 29, .bin .lss (.t 26) (.t 28), none⟩])
def A_spec_l07Sets.r11 : ACode := (.region none [⟨some 10, .move (.c (.int .i64 0)), none⟩])
def A_spec_l07Sets.r12 : ACode := (.region none [⟨some 32, .move (.t 10), none⟩,
    ⟨some 33, .move (.t 0), none⟩,
    ⟨some 34, .len (.t 33), none⟩,
    ⟨some 35, .bin .lss (.t 32) (.t 34), none⟩])
def A_spec_l07Sets.r14 : ACode := (.region (some 11) [⟨some 38, .move (.t 0), none⟩,
    ⟨some 39, .move (.t 10), none⟩,
    ⟨some 40, .move (.t 8), none⟩,
    ⟨some 41, .move (.t 9), none⟩,
    ⟨some 42, .indexAddr none 1 (.t 40) (.t 41), none⟩,
    ⟨some 43, .load none (.t 42), none⟩,
    ⟨some 44, .indexAddr none 32 (.t 38) (.t 39), none⟩,
    ⟨some 45, .indexAddr (some 32) 1 (.t 44) (.t 43), none⟩,
    ⟨some 46, .load none (.t 45), none⟩,
    ⟨some 47, .conv .i64 (.t 46), none⟩,
    ⟨some 11, .move (.t 47), none⟩])
def A_spec_l07Sets.r15 : ACode := (.region none [⟨some 48, .move (.t 11), none⟩,
    ⟨some 49, .indexAddr (some 32) 1 (.t 6) (.t 48), none⟩,
    ⟨some 50, .load none (.t 49), none⟩,
    ⟨some 51, .not (.t 50), none⟩])
def A_spec_l07Sets.r16 : ACode := (.region none [⟨some 52, .move (.t 11), none⟩,
    ⟨some 53, .indexAddr (some 32) 1 (.t 6) (.t 52), none⟩,
    ⟨none, .store 1 (.t 53) (.c (.bool true)), none⟩])
def A_spec_l07Sets.r17 : ACode := (.region none [⟨some 54, .move (.t 8), none⟩,
    ⟨some 55, .move (.t 11), none⟩,
    ⟨some 56, .buildSlice 1 1 [.int .i64 0] [(0, 1, (.t 55))], none⟩,
    ⟨some 57, .append 1 8 (.t 54) (.t 56), none⟩,
    ⟨some 8, .move (.t 57), none⟩])
def A_spec_l07Sets.r13 : ACode := (.region none [⟨some 36, .move (.t 10), none⟩,
    ⟨some 37, .bin .add (.t 36) (.c (.int .i64 1)), none⟩,
    ⟨some 10, .move (.t 37), none⟩])
def A_spec_l07Sets.l0 : ACode := (.seq (.seq A_spec_l07Sets.r12 (.cond (.t 35) .skip (.exit 4))) (.seq (.block 5 (.seq A_spec_l07Sets.r14 (.seq A_spec_l07Sets.r15 (.cond (.t 51) (.seq A_spec_l07Sets.r16 A_spec_l07Sets.r17) .skip)))) A_spec_l07Sets.r13))
def A_spec_l07Sets.r10 : ACode := (.region none [⟨some 30, .move (.t 9), none⟩,
    ⟨some 31, .bin .add (.t 30) (.c (.int .i64 1)), none⟩,
    ⟨some 9, .move (.t 31), none⟩])
def A_spec_l07Sets.l1 : ACode := (.seq (.seq A_spec_l07Sets.r9 (.cond (.t 29) .skip (.exit 2))) (.seq (.block 3 (.seq A_spec_l07Sets.r11 (.block 4 (.loop A_spec_l07Sets.l0)))) A_spec_l07Sets.r10))
def A_spec_l07Sets.r18 : ACode := (.region none [⟨some 58, .move (.t 5), none⟩,
    ⟨some 59, .move (.t 8), none⟩,
    ⟨some 60, .len (.t 59), none⟩,
    ⟨some 61, .buildSlice 1 1 [.int .i64 0] [(0, 1, (.t 60))], none⟩,
    ⟨some 62, .append 1 8 (.t 58) (.t 61), none⟩,
    ⟨some 5, .move (.t 62), none⟩])
def A_spec_l07Sets.r4 : ACode := (.region none [⟨some 17, .move (.t 7), none⟩,
    ⟨some 18, .bin .add (.t 17) (.c (.int .i64 1)), none⟩,
    ⟨some 7, .move (.t 18), none⟩])
def A_spec_l07Sets.l2 : ACode := (.seq (.seq A_spec_l07Sets.r3 (.cond (.t 16) .skip (.exit 0))) (.seq (.block 1 (.seq (.seq A_spec_l07Sets.r5 (.cond (.t 21) (.exit 1) .skip)) (.seq A_spec_l07Sets.r6 (.seq A_spec_l07Sets.r7 (.seq (.seq A_spec_l07Sets.r8 (.block 2 (.loop A_spec_l07Sets.l1))) A_spec_l07Sets.r18))))) A_spec_l07Sets.r4))
def A_spec_l07Sets.r19 : ACode := (.region none [⟨some 63, .move (.t 5), none⟩,
    ⟨some 4, .move (.t 63), none⟩])
def A_spec_l07Sets : AFunc := ⟨[.tmp 4], (.seq A_spec_l07Sets.r0 (.seq A_spec_l07Sets.r1 (.seq (.seq A_spec_l07Sets.r2 (.block 0 (.loop A_spec_l07Sets.l2))) (.seq A_spec_l07Sets.r19 .ret))))⟩
/-! spec_l01Perm -/
def A_spec_l01Perm.r0 : ACode := (.region none [⟨some 2, .box (.t 0), none⟩,
    ⟨some 4, .move (.c (.bool false)), none⟩])
def A_spec_l01Perm.r1 : ACode := (.region none [⟨some 7, .move (.t 1), none⟩,
    ⟨some 8, .call 58 [(.t 7), (.c (.int .i64 1)), (.c (.int .i64 16))], none⟩,
    ⟨some 9, .not (.t 8), none⟩])
def A_spec_l01Perm.r2 : ACode := (.region none [⟨some 4, .move (.c (.bool false)), none⟩])
def A_spec_l01Perm.r3 : ACode := (.region none [⟨some 10, .build (List.replicate 16 (.bool false)) [], none⟩,
    ⟨some 5, .alloc (List.replicate 16 (.bool false)), none⟩,
    ⟨none, .store 16 (.t 5) (.t 10), none⟩])
def A_spec_l01Perm.r4 : ACode := (.region none [⟨some 6, .move (.c (.int .i64 0)), none⟩])
def A_spec_l01Perm.r5 : ACode := (.region none [⟨some 11, .move (.t 6), none⟩,
    ⟨some 12, .bin .lss (.t 11) (.c (.int .i64 16)), none⟩])
def A_spec_l01Perm.r8 : ACode := (.region none [⟨some 20, .move (.t 6), none⟩,
    ⟨some 21, .move (.t 1), none⟩,
    ⟨some 22, .bin .geq (.t 20) (.t 21), none⟩,
    ⟨some 19, .move (.t 22), none⟩])
def A_spec_l01Perm.r9 : ACode := (.region none [⟨some 23, .move (.t 6), none⟩,
    ⟨some 24, .indexAddr (some 16) 1 (.t 2) (.t 23), none⟩,
    ⟨some 25, .load none (.t 24), none⟩,
    ⟨some 26, .bin .neq (.t 25) (.c (.int .u8 0)), none⟩])
def A_spec_l01Perm.r10 : ACode := (.region none [⟨some 4, .move (.c (.bool false)), none⟩])
def A_spec_l01Perm.r11 : ACode := (.region none [⟨some 28, .move (.t 6), none⟩,
    ⟨some 29, .indexAddr (some 16) 1 (.t 2) (.t 28), none⟩,
    ⟨some 30, .load none (.t 29), none⟩,
    ⟨some 31, .conv .i64 (.t 30), none⟩,
    ⟨some 32, .move (.t 1), none⟩,
    ⟨some 33, .bin .geq (.t 31) (.t 32), none⟩,
    ⟨some 34, .move (.t 33), none⟩,
    ⟨some 35, .move (.t 6), some (34, false)⟩,
    ⟨some 36, .indexAddr (some 16) 1 (.t 2) (.t 35), some (34, false)⟩,
    ⟨some 37, .load none (.t 36), some (34, false)⟩,
    ⟨some 38, .indexAddr (some 16) 1 (.t 5) (.t 37), some (34, false)⟩,
    ⟨some 39, .load none (.t 38), some (34, false)⟩,
    ⟨some 40, .pick (.t 34) (.c (.bool true)) (.t 39), none⟩,
    ⟨some 27, .move (.t 40), none⟩])
def A_spec_l01Perm.r12 : ACode := (.region none [⟨some 4, .move (.c (.bool false)), none⟩])
def A_spec_l01Perm.r7 : ACode := (.region none [⟨some 15, .move (.t 6), none⟩,
    ⟨some 16, .indexAddr (some 16) 1 (.t 2) (.t 15), none⟩,
    ⟨some 17, .load none (.t 16), none⟩,
    ⟨some 18, .indexAddr (some 16) 1 (.t 5) (.t 17), none⟩,
    ⟨none, .store 1 (.t 18) (.c (.bool true)), none⟩])
def A_spec_l01Perm.r6 : ACode := (.region none [⟨some 13, .move (.t 6), none⟩,
    ⟨some 14, .bin .add (.t 13) (.c (.int .i64 1)), none⟩,
    ⟨some 6, .move (.t 14), none⟩])
def A_spec_l01Perm.l0 : ACode := (.seq (.seq A_spec_l01Perm.r5 (.cond (.t 12) .skip (.exit 0))) (.seq (.block 1 (.block 2 (.seq A_spec_l01Perm.r8 (.cond (.t 19) (.seq A_spec_l01Perm.r9 (.cond (.t 26) (.seq A_spec_l01Perm.r10 .ret) .skip)) (.seq A_spec_l01Perm.r11 (.cond (.t 27) (.seq A_spec_l01Perm.r12 .ret) A_spec_l01Perm.r7)))))) A_spec_l01Perm.r6))
def A_spec_l01Perm.r13 : ACode := (.region none [⟨some 4, .move (.c (.bool true)), none⟩])
def A_spec_l01Perm : AFunc := ⟨[.tmp 4], (.seq A_spec_l01Perm.r0 (.seq (.seq A_spec_l01Perm.r1 (.cond (.t 9) (.seq A_spec_l01Perm.r2 .ret) .skip)) (.seq A_spec_l01Perm.r3 (.seq (.seq A_spec_l01Perm.r4 (.block 0 (.loop A_spec_l01Perm.l0))) (.seq A_spec_l01Perm.r13 .ret)))))⟩
/-! spec_l01Connected -/
def A_spec_l01Connected.r0 : ACode := (.region none [⟨some 4, .box (.t 1), none⟩,
    ⟨some 5, .box (.t 2), none⟩,
    ⟨some 6, .move (.c (.bool false)), none⟩])
def A_spec_l01Connected.r1 : ACode := (.region none [⟨some 12, .build (List.replicate 16 (.bool false)) [], none⟩,
    ⟨some 13, .buildSlice 1 1 [.int .u8 0] [(0, 1, (.c (.int .u8 0)))], none⟩,
    ⟨some 7, .alloc (List.replicate 16 (.bool false)), none⟩,
    ⟨none, .store 16 (.t 7) (.t 12), none⟩,
    ⟨some 8, .move (.t 13), none⟩])
def A_spec_l01Connected.r2 : ACode := (.region none [⟨some 14, .indexAddr (some 16) 1 (.t 7) (.c (.int .i64 0)), none⟩,
    ⟨none, .store 1 (.t 14) (.c (.bool true)), none⟩])
def A_spec_l01Connected.r3 : ACode := (.region none [⟨some 9, .move (.c (.int .i64 0)), none⟩])
def A_spec_l01Connected.r4 : ACode := (.region none [⟨some 15, .move (.t 9), none⟩,
    ⟨some 16, .move (.t 8), none⟩,
    ⟨some 17, .len (.t 16), none⟩,
    ⟨some 18, .bin .lss (.t 15) (.t 17), none⟩])
def A_spec_l01Connected.r6 : ACode := (.region (some 14) [⟨some 21, .move (.t 8), none⟩,
    ⟨some 22, .move (.t 9), none⟩,
    ⟨some 23, .indexAddr none 1 (.t 21) (.t 22), none⟩,
    ⟨some 24, .load none (.t 23), none⟩,
    ⟨some 25, .indexAddr (some 16) 1 (.t 4) (.t 24), none⟩,
    ⟨some 26, .load none (.t 25), none⟩,
    ⟨some 27, .move (.t 8), none⟩,
    ⟨some 28, .move (.t 9), none⟩,
    ⟨some 29, .indexAddr none 1 (.t 27) (.t 28), none⟩,
    ⟨some 30, .load none (.t 29), none⟩,
    ⟨some 31, .indexAddr (some 16) 1 (.t 5) (.t 30), none⟩,
    ⟨some 32, .load none (.t 31), none⟩,
    ⟨some 33, .buildSlice 1 2 [.int .u8 0] [(0, 1, (.t 26)), (1, 1, (.t 32))], none⟩,
    ⟨some 10, .move (.t 33), none⟩])
def A_spec_l01Connected.r7 : ACode := (.region none [⟨some 11, .move (.c (.int .i64 0)), none⟩])
def A_spec_l01Connected.r8 : ACode := (.region none [⟨some 34, .move (.t 11), none⟩,
    ⟨some 35, .bin .lss (.t 34) (.c (.int .i64 2)), none⟩])
def A_spec_l01Connected.r10 : ACode := (.region none [⟨some 38, .move (.t 10), none⟩,
    ⟨some 39, .move (.t 11), none⟩,
    ⟨some 40, .indexAddr none 1 (.t 38) (.t 39), none⟩,
    ⟨some 41, .load none (.t 40), none⟩,
    ⟨some 42, .indexAddr (some 16) 1 (.t 7) (.t 41), none⟩,
    ⟨some 43, .load none (.t 42), none⟩,
    ⟨some 44, .not (.t 43), none⟩])
def A_spec_l01Connected.r11 : ACode := (.region none [⟨some 45, .move (.t 10), none⟩,
    ⟨some 46, .move (.t 11), none⟩,
    ⟨some 47, .indexAddr none 1 (.t 45) (.t 46), none⟩,
    ⟨some 48, .load none (.t 47), none⟩,
    ⟨some 49, .indexAddr (some 16) 1 (.t 7) (.t 48), none⟩,
    ⟨none, .store 1 (.t 49) (.c (.bool true)), none⟩])
def A_spec_l01Connected.r12 : ACode := (.region none [⟨some 50, .move (.t 8), none⟩,
    ⟨some 51, .move (.t 10), none⟩,
    ⟨some 52, .move (.t 11), none⟩,
    ⟨some 53, .indexAddr none 1 (.t 51) (.t 52), none⟩,
    ⟨some 54, .load none (.t 53), none⟩,
    ⟨some 55, .buildSlice 1 1 [.int .u8 0] [(0, 1, (.t 54))], none⟩,
    ⟨some 56, .append 1 1 (.t 50) (.t 55), none⟩,
    ⟨some 8, .move (.t 56), none⟩])
def A_spec_l01Connected.r9 : ACode := (.region none [⟨some 36, .move (.t 11), none⟩,
    ⟨some 37, .bin .add (.t 36) (.c (.int .i64 1)), none⟩,
    ⟨some 11, .move (.t 37), none⟩])
def A_spec_l01Connected.l0 : ACode := (.seq (.seq A_spec_l01Connected.r8 (.cond (.t 35) .skip (.exit 2))) (.seq (.block 3 (.seq A_spec_l01Connected.r10 (.cond (.t 44) (.seq A_spec_l01Connected.r11 A_spec_l01Connected.r12) .skip))) A_spec_l01Connected.r9))
def A_spec_l01Connected.r5 : ACode := (.region none [⟨some 19, .move (.t 9), none⟩,
    ⟨some 20, .bin .add (.t 19) (.c (.int .i64 1)), none⟩,
    ⟨some 9, .move (.t 20), none⟩])
def A_spec_l01Connected.l1 : ACode := (.seq (.seq A_spec_l01Connected.r4 (.cond (.t 18) .skip (.exit 0))) (.seq (.block 1 (.seq A_spec_l01Connected.r6 (.seq A_spec_l01Connected.r7 (.block 2 (.loop A_spec_l01Connected.l0))))) A_spec_l01Connected.r5))
def A_spec_l01Connected.r13 : ACode := (.region none [⟨some 57, .move (.t 8), none⟩,
    ⟨some 58, .len (.t 57), none⟩,
    ⟨some 59, .move (.t 0), none⟩,
    ⟨some 60, .bin .eql (.t 58) (.t 59), none⟩,
    ⟨some 6, .move (.t 60), none⟩])
def A_spec_l01Connected : AFunc := ⟨[.tmp 6], (.seq A_spec_l01Connected.r0 (.seq A_spec_l01Connected.r1 (.seq A_spec_l01Connected.r2 (.seq (.seq A_spec_l01Connected.r3 (.block 0 (.loop A_spec_l01Connected.l1))) (.seq A_spec_l01Connected.r13 .ret)))))⟩
/-! spec_l01Back -/
def A_spec_l01Back.r0 : ACode := (.region none [⟨some 2, .box (.t 0), none⟩,
    ⟨some 4, .alloc (List.replicate 16 (.int .u8 0)), none⟩])
def A_spec_l01Back.r1 : ACode := (.region none [⟨some 7, .build (List.replicate 16 (.int .u8 0)) [], none⟩,
    ⟨some 5, .alloc (List.replicate 16 (.int .u8 0)), none⟩,
    ⟨none, .store 16 (.t 5) (.t 7), none⟩])
def A_spec_l01Back.r2 : ACode := (.region none [⟨some 6, .move (.c (.int .i64 0)), none⟩])
def A_spec_l01Back.r3 : ACode := (.region none [⟨some 8, .move (.t 6), none⟩,
    ⟨some 9, .move (.t 1), none⟩,
    ⟨some 10, .bin .lss (.t 8) (.t 9), none⟩])
def A_spec_l01Back.r5 : ACode := (.region none [⟨some 13, .move (.t 6), none⟩,
    ⟨some 14, .indexAddr (some 16) 1 (.t 2) (.t 13), none⟩,
    ⟨some 15, .load none (.t 14), none⟩,
    ⟨some 16, .move (.t 6), none⟩,
    ⟨some 17, .conv .u8 (.t 16), none⟩,
    ⟨some 18, .indexAddr (some 16) 1 (.t 5) (.t 15), none⟩,
    ⟨none, .store 1 (.t 18) (.t 17), none⟩])
def A_spec_l01Back.r4 : ACode := (.region none [⟨some 11, .move (.t 6), none⟩,
    ⟨some 12, .bin .add (.t 11) (.c (.int .i64 1)), none⟩,
    ⟨some 6, .move (.t 12), none⟩])
def A_spec_l01Back.l0 : ACode := (.seq (.seq A_spec_l01Back.r3 (.cond (.t 10) .skip (.exit 0))) (.seq (.block 1 A_spec_l01Back.r5) A_spec_l01Back.r4))
def A_spec_l01Back.r6 : ACode := (.region none [⟨some 19, .load (some 16) (.t 5), none⟩,
    ⟨none, .store 16 (.t 4) (.t 19), none⟩])
def A_spec_l01Back : AFunc := ⟨[.cell 4 (some 16)], (.seq A_spec_l01Back.r0 (.seq A_spec_l01Back.r1 (.seq (.seq A_spec_l01Back.r2 (.block 0 (.loop A_spec_l01Back.l0))) (.seq A_spec_l01Back.r6 .ret))))⟩
/-! impl_IsPermutation -/
def A_impl_IsPermutation.r0 : ACode := (.region none [⟨some 2, .box (.t 0), none⟩,
    ⟨some 4, .move (.c (.bool false)), none⟩])
def A_impl_IsPermutation.r1 : ACode := (.region none [⟨some 8, .move (.t 1), none⟩,
    ⟨some 9, .call 220 [(.t 8)], none⟩,
    ⟨some 10, .not (.t 9), none⟩])
def A_impl_IsPermutation.r2 : ACode := (.region none [⟨some 4, .move (.c (.bool false)), none⟩])
def A_impl_IsPermutation.r3 : ACode := (.region none [⟨some 11, .build (List.replicate 16 (.bool false)) [], none⟩,
    ⟨some 5, .alloc (List.replicate 16 (.bool false)), none⟩,
    ⟨none, .store 16 (.t 5) (.t 11), none⟩])
def A_impl_IsPermutation.r4 : ACode := (.region none [⟨some 12, .load (some 16) (.t 2), none⟩,
    ⟨some 13, .move (.c (.int .i64 0)), none⟩])
def A_impl_IsPermutation.r5 : ACode := (.region none [⟨some 14, .bin .lss (.t 13) (.c (.int .i64 16)), none⟩])
def A_impl_IsPermutation.r6 : ACode := (.region none [⟨some 15, .move (.t 13), none⟩,
    ⟨some 16, .index 16 1 none (.t 12) (.t 13), none⟩,
    ⟨some 6, .move (.t 15), none⟩,
    ⟨some 7, .move (.t 16), none⟩])
def A_impl_IsPermutation.r7 : ACode := (.region none [⟨some 17, .move (.t 6), none⟩,
    ⟨some 18, .move (.t 1), none⟩,
    ⟨some 19, .bin .geq (.t 17) (.t 18), none⟩])
def A_impl_IsPermutation.r8 : ACode := (.region none [⟨some 20, .move (.t 7), none⟩,
    ⟨some 21, .bin .neq (.t 20) (.c (.int .u8 0)), none⟩])
def A_impl_IsPermutation.r9 : ACode := (.region none [⟨some 4, .move (.c (.bool false)), none⟩])
def A_impl_IsPermutation.r10 : ACode := (.region none [⟨some 22, .move (.t 7), none⟩,
    ⟨some 23, .conv .i64 (.t 22), none⟩,
    ⟨some 24, .move (.t 1), none⟩,
    ⟨some 25, .bin .geq (.t 23) (.t 24), none⟩,
    ⟨some 26, .move (.t 25), none⟩,
    ⟨some 27, .move (.t 7), some (26, false)⟩,
    ⟨some 28, .indexAddr (some 16) 1 (.t 5) (.t 27), some (26, false)⟩,
    ⟨some 29, .load none (.t 28), some (26, false)⟩,
    ⟨some 30, .pick (.t 26) (.c (.bool true)) (.t 29), none⟩])
def A_impl_IsPermutation.r11 : ACode := (.region none [⟨some 4, .move (.c (.bool false)), none⟩])
def A_impl_IsPermutation.r12 : ACode := (.region none [⟨some 31, .move (.t 7), none⟩,
    ⟨some 32, .indexAddr (some 16) 1 (.t 5) (.t 31), none⟩,
    ⟨none, .store 1 (.t 32) (.c (.bool true)), none⟩])
def A_impl_IsPermutation.r13 : ACode := (.region none [⟨some 33, .bin .add (.t 13) (.c (.int .i64 1)), none⟩,
    ⟨some 13, .move (.t 33), none⟩])
def A_impl_IsPermutation.l0 : ACode := (.seq A_impl_IsPermutation.r5 (.seq (.cond (.t 14) .skip (.exit 0)) (.seq (.block 1 (.seq A_impl_IsPermutation.r6 (.seq (.seq A_impl_IsPermutation.r7 (.cond (.t 19) (.seq (.seq A_impl_IsPermutation.r8 (.cond (.t 21) (.seq A_impl_IsPermutation.r9 .ret) .skip)) (.exit 1)) .skip)) (.seq (.seq A_impl_IsPermutation.r10 (.cond (.t 30) (.seq A_impl_IsPermutation.r11 .ret) .skip)) A_impl_IsPermutation.r12)))) A_impl_IsPermutation.r13)))
def A_impl_IsPermutation.r14 : ACode := (.region none [⟨some 4, .move (.c (.bool true)), none⟩])
def A_impl_IsPermutation : AFunc := ⟨[.tmp 4], (.seq A_impl_IsPermutation.r0 (.seq (.seq A_impl_IsPermutation.r1 (.cond (.t 10) (.seq A_impl_IsPermutation.r2 .ret) .skip)) (.seq A_impl_IsPermutation.r3 (.seq (.seq A_impl_IsPermutation.r4 (.block 0 (.loop A_impl_IsPermutation.l0))) (.seq A_impl_IsPermutation.r14 .ret)))))⟩
/-! impl_reached -/
def A_impl_reached.r0 : ACode := (.region none [⟨some 4, .move (.c (.int .i64 0)), none⟩])
def A_impl_reached.r1 : ACode := (.region none [⟨some 11, .build (List.replicate 16 (.bool false)) [(0, 1, (.c (.bool true)))], none⟩,
    ⟨some 5, .alloc (List.replicate 16 (.bool false)), none⟩,
    ⟨none, .store 16 (.t 5) (.t 11), none⟩])
def A_impl_reached.r2 : ACode := (.region none [⟨some 12, .buildSlice 1 1 [.int .u8 0] [(0, 1, (.c (.int .u8 0)))], none⟩,
    ⟨some 6, .move (.t 12), none⟩])
def A_impl_reached.r3 : ACode := (.region none [⟨some 7, .move (.c (.int .i64 0)), none⟩])
def A_impl_reached.r4 : ACode := (.region none [⟨some 13, .move (.t 7), none⟩,
    ⟨some 14, .move (.t 6), none⟩,
    ⟨some 15, .len (.t 14), none⟩,
    ⟨some 16, .bin .lss (.t 13) (.t 15), none⟩])
def A_impl_reached.r6 : ACode := (.region none [⟨some 19, .move (.t 1), none⟩,
    ⟨some 20, .len (.t 19), none⟩,
    ⟨some 21, .move (.c (.int .i64 0)), none⟩])
def A_impl_reached.r7 : ACode := (.region none [⟨some 22, .bin .lss (.t 21) (.t 20), none⟩])
def A_impl_reached.r8 : ACode := (.region none [⟨some 23, .indexAddr none 16 (.t 19) (.t 21), none⟩,
    ⟨some 24, .load (some 16) (.t 23), none⟩,
    ⟨some 9, .alloc (List.replicate 16 (.int .u8 0)), none⟩,
    ⟨none, .store 16 (.t 9) (.t 24), none⟩])
def A_impl_reached.r9 : ACode := (.region none [⟨some 25, .move (.t 6), none⟩,
    ⟨some 26, .move (.t 7), none⟩,
    ⟨some 27, .indexAddr none 1 (.t 25) (.t 26), none⟩,
    ⟨some 28, .load none (.t 27), none⟩,
    ⟨some 29, .indexAddr (some 16) 1 (.t 9) (.t 28), none⟩,
    ⟨some 30, .load none (.t 29), none⟩,
    ⟨some 10, .move (.t 30), none⟩])
def A_impl_reached.r10 : ACode := (.region none [⟨some 31, .move (.t 10), none⟩,
    ⟨some 32, .indexAddr (some 16) 1 (.t 5) (.t 31), none⟩,
    ⟨some 33, .load none (.t 32), none⟩,
    ⟨some 34, .not (.t 33), none⟩])
def A_impl_reached.r11 : ACode := (.region none [⟨some 35, .move (.t 10), none⟩,
    ⟨some 36, .indexAddr (some 16) 1 (.t 5) (.t 35), none⟩,
    ⟨none, .store 1 (.t 36) (.c (.bool true)), none⟩])
def A_impl_reached.r12 : ACode := (.region none [⟨some 37, .move (.t 6), none⟩,
    ⟨some 38, .move (.t 10), none⟩,
    ⟨some 39, .buildSlice 1 1 [.int .u8 0] [(0, 1, (.t 38))], none⟩,
    ⟨some 40, .append 1 1 (.t 37) (.t 39), none⟩,
    ⟨some 6, .move (.t 40), none⟩])
def A_impl_reached.r13 : ACode := (.region none [⟨some 41, .bin .add (.t 21) (.c (.int .i64 1)), none⟩,
    ⟨some 21, .move (.t 41), none⟩])
def A_impl_reached.l0 : ACode := (.seq A_impl_reached.r7 (.seq (.cond (.t 22) .skip (.exit 2)) (.seq (.block 3 (.seq A_impl_reached.r8 (.seq A_impl_reached.r9 (.seq A_impl_reached.r10 (.cond (.t 34) (.seq A_impl_reached.r11 A_impl_reached.r12) .skip))))) A_impl_reached.r13)))
def A_impl_reached.r5 : ACode := (.region none [⟨some 17, .move (.t 7), none⟩,
    ⟨some 18, .bin .add (.t 17) (.c (.int .i64 1)), none⟩,
    ⟨some 7, .move (.t 18), none⟩])
def A_impl_reached.l1 : ACode := (.seq (.seq A_impl_reached.r4 (.cond (.t 16) .skip (.exit 0))) (.seq (.block 1 (.seq A_impl_reached.r6 (.block 2 (.loop A_impl_reached.l0)))) A_impl_reached.r5))
def A_impl_reached.r14 : ACode := (.region none [⟨some 42, .move (.t 6), none⟩,
    ⟨some 43, .len (.t 42), none⟩,
    ⟨some 4, .move (.t 43), none⟩])
def A_impl_reached : AFunc := ⟨[.tmp 4], (.seq A_impl_reached.r0 (.seq A_impl_reached.r1 (.seq A_impl_reached.r2 (.seq (.seq A_impl_reached.r3 (.block 0 (.loop A_impl_reached.l1))) (.seq A_impl_reached.r14 .ret)))))⟩
/-! impl_back -/
def A_impl_back.r0 : ACode := (.region none [⟨some 2, .box (.t 0), none⟩,
    ⟨some 4, .alloc (List.replicate 16 (.int .u8 0)), none⟩])
def A_impl_back.r1 : ACode := (.region none [⟨some 7, .build (List.replicate 16 (.int .u8 0)) [], none⟩,
    ⟨some 5, .alloc (List.replicate 16 (.int .u8 0)), none⟩,
    ⟨none, .store 16 (.t 5) (.t 7), none⟩])
def A_impl_back.r2 : ACode := (.region none [⟨some 8, .move (.t 1), none⟩,
    ⟨some 9, .move (.c (.int .i64 0)), none⟩])
def A_impl_back.r3 : ACode := (.region none [⟨some 10, .bin .lss (.t 9) (.t 8), none⟩])
def A_impl_back.r4 : ACode := (.region none [⟨some 11, .move (.t 9), none⟩,
    ⟨some 6, .move (.t 11), none⟩])
def A_impl_back.r5 : ACode := (.region none [⟨some 12, .move (.t 6), none⟩,
    ⟨some 13, .indexAddr (some 16) 1 (.t 2) (.t 12), none⟩,
    ⟨some 14, .load none (.t 13), none⟩,
    ⟨some 15, .move (.t 6), none⟩,
    ⟨some 16, .conv .u8 (.t 15), none⟩,
    ⟨some 17, .indexAddr (some 16) 1 (.t 5) (.t 14), none⟩,
    ⟨none, .store 1 (.t 17) (.t 16), none⟩])
def A_impl_back.r6 : ACode := (.region none [⟨some 18, .bin .add (.t 9) (.c (.int .i64 1)), none⟩,
    ⟨some 9, .move (.t 18), none⟩])
def A_impl_back.l0 : ACode := (.seq A_impl_back.r3 (.seq (.cond (.t 10) .skip (.exit 0)) (.seq (.block 1 (.seq A_impl_back.r4 A_impl_back.r5)) A_impl_back.r6)))
def A_impl_back.r7 : ACode := (.region none [⟨some 19, .load (some 16) (.t 5), none⟩,
    ⟨none, .store 16 (.t 4) (.t 19), none⟩])
def A_impl_back : AFunc := ⟨[.cell 4 (some 16)], (.seq A_impl_back.r0 (.seq A_impl_back.r1 (.seq (.seq A_impl_back.r2 (.block 0 (.loop A_impl_back.l0))) (.seq A_impl_back.r7 .ret))))⟩
/-! spec_l01Then -/
def A_spec_l01Then.r0 : ACode := (.region none [⟨some 3, .box (.t 0), none⟩,
    ⟨some 4, .box (.t 1), none⟩,
    ⟨some 6, .alloc (List.replicate 16 (.int .u8 0)), none⟩])
def A_spec_l01Then.r1 : ACode := (.region none [⟨some 9, .build (List.replicate 16 (.int .u8 0)) [], none⟩,
    ⟨some 7, .alloc (List.replicate 16 (.int .u8 0)), none⟩,
    ⟨none, .store 16 (.t 7) (.t 9), none⟩])
def A_spec_l01Then.r2 : ACode := (.region none [⟨some 8, .move (.c (.int .i64 0)), none⟩])
def A_spec_l01Then.r3 : ACode := (.region none [⟨some 10, .move (.t 8), none⟩,
    ⟨some 11, .move (.t 2), none⟩,
    ⟨some 12, .bin .lss (.t 10) (.t 11), none⟩])
def A_spec_l01Then.r5 : ACode := (.region none [⟨some 15, .move (.t 8), none⟩,
    ⟨some 16, .move (.t 8), none⟩,
    ⟨some 17, .indexAddr (some 16) 1 (.t 3) (.t 16), none⟩,
    ⟨some 18, .load none (.t 17), none⟩,
    ⟨some 19, .indexAddr (some 16) 1 (.t 4) (.t 18), none⟩,
    ⟨some 20, .load none (.t 19), none⟩,
    ⟨some 21, .indexAddr (some 16) 1 (.t 7) (.t 15), none⟩,
    ⟨none, .store 1 (.t 21) (.t 20), none⟩])
def A_spec_l01Then.r4 : ACode := (.region none [⟨some 13, .move (.t 8), none⟩,
    ⟨some 14, .bin .add (.t 13) (.c (.int .i64 1)), none⟩,
    ⟨some 8, .move (.t 14), none⟩])
def A_spec_l01Then.l0 : ACode := (.seq (.seq A_spec_l01Then.r3 (.cond (.t 12) .skip (.exit 0))) (.seq (.block 1 A_spec_l01Then.r5) A_spec_l01Then.r4))
def A_spec_l01Then.r6 : ACode := (.region none [⟨some 22, .load (some 16) (.t 7), none⟩,
    ⟨none, .store 16 (.t 6) (.t 22), none⟩])
def A_spec_l01Then : AFunc := ⟨[.cell 6 (some 16)], (.seq A_spec_l01Then.r0 (.seq A_spec_l01Then.r1 (.seq (.seq A_spec_l01Then.r2 (.block 0 (.loop A_spec_l01Then.l0))) (.seq A_spec_l01Then.r6 .ret))))⟩
/-! impl_then -/
def A_impl_then.r0 : ACode := (.region none [⟨some 3, .box (.t 0), none⟩,
    ⟨some 4, .box (.t 1), none⟩,
    ⟨some 6, .alloc (List.replicate 16 (.int .u8 0)), none⟩])
def A_impl_then.r1 : ACode := (.region none [⟨some 9, .build (List.replicate 16 (.int .u8 0)) [], none⟩,
    ⟨some 7, .alloc (List.replicate 16 (.int .u8 0)), none⟩,
    ⟨none, .store 16 (.t 7) (.t 9), none⟩])
def A_impl_then.r2 : ACode := (.region none [⟨some 10, .move (.t 2), none⟩,
    ⟨some 11, .move (.c (.int .i64 0)), none⟩])
def A_impl_then.r3 : ACode := (.region none [⟨some 12, .bin .lss (.t 11) (.t 10), none⟩])
def A_impl_then.r4 : ACode := (.region none [⟨some 13, .move (.t 11), none⟩,
    ⟨some 8, .move (.t 13), none⟩])
def A_impl_then.r5 : ACode := (.region none [⟨some 14, .move (.t 8), none⟩,
    ⟨some 15, .move (.t 8), none⟩,
    ⟨some 16, .indexAddr (some 16) 1 (.t 3) (.t 15), none⟩,
    ⟨some 17, .load none (.t 16), none⟩,
    ⟨some 18, .indexAddr (some 16) 1 (.t 4) (.t 17), none⟩,
    ⟨some 19, .load none (.t 18), none⟩,
    ⟨some 20, .indexAddr (some 16) 1 (.t 7) (.t 14), none⟩,
    ⟨none, .store 1 (.t 20) (.t 19), none⟩])
def A_impl_then.r6 : ACode := (.region none [⟨some 21, .bin .add (.t 11) (.c (.int .i64 1)), none⟩,
    ⟨some 11, .move (.t 21), none⟩])
def A_impl_then.l0 : ACode := (.seq A_impl_then.r3 (.seq (.cond (.t 12) .skip (.exit 0)) (.seq (.block 1 (.seq A_impl_then.r4 A_impl_then.r5)) A_impl_then.r6)))
def A_impl_then.r7 : ACode := (.region none [⟨some 22, .load (some 16) (.t 7), none⟩,
    ⟨none, .store 16 (.t 6) (.t 22), none⟩])
def A_impl_then : AFunc := ⟨[.cell 6 (some 16)], (.seq A_impl_then.r0 (.seq A_impl_then.r1 (.seq (.seq A_impl_then.r2 (.block 0 (.loop A_impl_then.l0))) (.seq A_impl_then.r7 .ret))))⟩
/-! impl_isSize -/
def A_impl_isSize.r0 : ACode := (.region none [⟨some 2, .move (.c (.bool false)), none⟩])
def A_impl_isSize.r1 : ACode := (.region none [⟨some 3, .move (.t 0), none⟩,
    ⟨some 4, .bin .geq (.t 3) (.c (.int .i64 1)), none⟩,
    ⟨some 5, .move (.t 4), none⟩,
    ⟨some 6, .move (.t 0), some (5, true)⟩,
    ⟨some 7, .bin .leq (.t 6) (.c (.int .i64 16)), some (5, true)⟩,
    ⟨some 8, .pick (.t 5) (.t 7) (.c (.bool false)), none⟩,
    ⟨some 2, .move (.t 8), none⟩])
def A_impl_isSize : AFunc := ⟨[.tmp 2], (.seq A_impl_isSize.r0 (.seq A_impl_isSize.r1 .ret))⟩
end Go.Am
